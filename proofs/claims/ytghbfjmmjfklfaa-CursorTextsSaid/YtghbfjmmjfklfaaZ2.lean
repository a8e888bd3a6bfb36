/- Texts of this claim, merged. -/
import Derived.Test.YtghbfjmmjfklfaaZ1
import Derived.Test.YtghbfjmmjfklfaaProg
set_option linter.unusedVariables false
set_option linter.unusedSimpArgs false
namespace Go.Proofs.Ytghbfjmmjfklfaa.H
open Go.RowKit Go.Proofs.YtghbfjmmjfklfaaW.PrintWords Go.Proofs.YtghbfjmmjfklfaaW.PrintLast Go.Proofs.YtghbfjmmjfklfaaW.PrintMore
section
attribute [local go_sem] zbk zbi zbz zby zbb zba zbj zbh
def errW : Option Int → Value
 | none => .nilIface
 | some c => .iface 0 (.int .i64 c)
theorem zay : errW none = .nilIface := rfl
theorem zax (c : Int) : errW (some c) = .iface 0 (.int .i64 c) := rfl
theorem info27 : (Try.prog.info? 27).map (fun i => (i.zero, i.size, i.bytes)) = some (some (.agg #[(.int .u8 0), (.int .u8 0), (.int .i64 0), (.slice none 0 0)]), 4, 40) := by kernel_rfl
theorem info39 : (Try.prog.info? 39).map (fun i => (i.zero, i.size, i.bytes)) = some (some (.agg #[(.int .u8 0), (.int .i64 0), (.int .i64 0)]), 3, 24) := by kernel_rfl
structure S27 where
 f0 : Int
 f1 : Int
 f2 : Int
 f3 : (List S27)
def z27 : S27 := ⟨(0 : Int), (0 : Int), (0 : Int), ([] : List S27)⟩
def F27 (d : Kd S27) : Kd S27 := Kd.iso (Kd.pair (Kd.int .u8) (Kd.pair (Kd.int .u8) (Kd.pair (Kd.int .i64) (Kd.slice 27 d)))) (fun x : S27 => (x.f0, x.f1, x.f2, x.f3))
theorem mono27 : Kd.Mono F27 := Kd.mono_iso _ (Kd.mono_pair (Kd.mono_const _) (Kd.mono_pair (Kd.mono_const _) (Kd.mono_pair (Kd.mono_const _) (Kd.mono_slice 27 Kd.mono_id))))
theorem sub27 : Kd.Sub F27 [27] := Kd.sub_iso _ (Kd.sub_pair (Kd.sub_const _ (by decide)) (Kd.sub_pair (Kd.sub_const _ (by decide)) (Kd.sub_pair (Kd.sub_const _ (by decide)) (Kd.sub_slice 27 (by decide) Kd.sub_id))))
theorem sz27 : ∀ n, (Kd.upto F27 4 [27] n).sz = 4 := Kd.upto_sz (fun _ => rfl)
def k27 : Kd S27 := Kd.fix F27 4 [27] sz27 (Kd.upto_E sub27)
theorem k27_heap : Kd.Heap k27 := Kd.heap_fix (fun _ h_ => Kd.heap_iso _ (Kd.heap_pair (Kd.heap_int .u8) (Kd.heap_pair (Kd.heap_int .u8) (Kd.heap_pair (Kd.heap_int .i64) (Kd.heap_slice 27 h_)))))
theorem k27_open {w : World} {x : S27} {cs : List Value} (h : k27.K w x cs) : ∃ A3 c3, cs = [.int .u8 x.f0, .int .u8 x.f1, .int .i64 x.f2, .slice A3 x.f3.length c3] ∧ x.f3.length ≤ c3 ∧ k27.C w A3 x.f3.length x.f3 := by
 obtain ⟨n, h⟩ := h; cases n with
 | zero => exact h.elim
 | succ n =>
  obtain ⟨_, _, rfl, rfl, ⟨_, _, rfl, rfl, ⟨_, _, rfl, rfl, ⟨A3, c3, rfl, l3, g3⟩⟩⟩⟩ := h; exact ⟨A3, c3, rfl, l3, Kd.fix_C g3⟩
theorem k27_mk (w : World) (x : S27) {A3 : Option Addr} {c3 : Nat} (l3 : x.f3.length ≤ c3) (g3 : k27.C w A3 x.f3.length x.f3) : k27.K w x [.int .u8 x.f0, .int .u8 x.f1, .int .i64 x.f2, .slice A3 x.f3.length c3] := by
 obtain ⟨n3, q3⟩ := Kd.fix_C_back mono27 g3; have r3 := Kd.upto_C_le mono27 sz27 (show n3 ≤ n3 by omega) q3
 exact ⟨n3 + 1, ⟨[.int .u8 x.f0], [.int .u8 x.f1, .int .i64 x.f2, .slice A3 x.f3.length c3], rfl, rfl, ⟨[.int .u8 x.f1], [.int .i64 x.f2, .slice A3 x.f3.length c3], rfl, rfl, ⟨[.int .i64 x.f2], [.slice A3 x.f3.length c3], rfl, rfl, ⟨A3, c3, rfl, l3, r3⟩⟩⟩⟩⟩
theorem k27_mkM (w : World) (base : Nat) (ok : Nat → Prop) (x : S27) {v3 : Value} (g3 : k27.R 27 w base ok v3 x.f3) : k27.M w base ok x [.int .u8 x.f0, .int .u8 x.f1, .int .i64 x.f2, v3] := by
 obtain ⟨n3, q3⟩ := Kd.fix_R_back mono27 g3; have r3 := Kd.upto_R_le mono27 sz27 (show n3 ≤ n3 by omega) q3
 exact ⟨n3 + 1, ⟨[.int .u8 x.f0], [.int .u8 x.f1, .int .i64 x.f2, v3], rfl, rfl, ⟨[.int .u8 x.f1], [.int .i64 x.f2, v3], rfl, rfl, ⟨[.int .i64 x.f2], [v3], rfl, rfl, ⟨v3, rfl, r3⟩⟩⟩⟩⟩
theorem k27_openF {W : World} {ok : Nat → Prop} {x : S27} {cs : List Value} (h : Kd.FK k27 W ok x cs) : ∃ A3 c3, cs = [.int .u8 x.f0, .int .u8 x.f1, .int .i64 x.f2, .slice A3 x.f3.length c3] ∧ x.f3.length ≤ c3 ∧ Kd.F k27 W ok A3 x.f3.length x.f3 := by
 obtain ⟨A3, c3, rfl, l3, _⟩ := k27_open (Kd.FK_now h); exact ⟨A3, c3, rfl, l3, (fun W' hW => by obtain ⟨A3_, c3_, he, l3_, g3_⟩ := k27_open (h W' hW); injection (Option.some.inj (show some (Value.slice A3 x.f3.length c3) = some (Value.slice A3_ x.f3.length c3_) from congrArg (fun l => l[3]?) he)) with ha_ _ _; rw [ha_]; exact g3_)⟩
theorem k27_mkF (W : World) (ok : Nat → Prop) (x : S27) {A3 : Option Addr} {c3 : Nat} (l3 : x.f3.length ≤ c3) (g3 : Kd.F k27 W ok A3 x.f3.length x.f3) : Kd.FK k27 W ok x [.int .u8 x.f0, .int .u8 x.f1, .int .i64 x.f2, .slice A3 x.f3.length c3] := fun W2 hW => k27_mk W2 x l3 (g3 W2 hW)
def zbm (xs : List S27) (i : Int) : S27 := xs.getD i.toNat z27
theorem at_T27 {w : World} {A : Option Addr} {n : Nat} {xs : List S27} (h : Kd.C k27 w A n xs) (i : Int) (h0 : 0 ≤ i) (h1 : i < n) : ∃ ad A3 c3, A = some ad ∧ w.cell? (ad.add (i.toNat * 4)) = some (.int .u8 (zbm xs i).f0) ∧ w.cell? ⟨(ad.add (i.toNat * 4)).block, (ad.add (i.toNat * 4)).off + 1, none⟩ = some (.int .u8 (zbm xs i).f1) ∧ w.cell? ⟨(ad.add (i.toNat * 4)).block, (ad.add (i.toNat * 4)).off + 2, none⟩ = some (.int .i64 (zbm xs i).f2) ∧ w.cell? ⟨(ad.add (i.toNat * 4)).block, (ad.add (i.toNat * 4)).off + 3, none⟩ = some (.slice A3 (zbm xs i).f3.length c3) ∧ (zbm xs i).f3.length ≤ c3 ∧ k27.C w A3 (zbm xs i).f3.length (zbm xs i).f3 := by
 obtain ⟨ad, c, e, _, hK, hc0⟩ := Kd.C_get h z27 i h0 h1; have hc : ∀ j u, c[j]? = some u → w.cell? (ad.add (i.toNat * 4 + j)) = some u := hc0; obtain ⟨A3, c3, rfl, l3, g3⟩ := k27_open hK; exact ⟨ad, A3, c3, e, hc 0 _ rfl, by rw [← zbp _ _ 1 (by omega)]; exact hc 1 _ rfl, by rw [← zbp _ _ 2 (by omega)]; exact hc 2 _ rfl, by rw [← zbp _ _ 3 (by omega)]; exact hc 3 _ rfl, l3, g3⟩
structure S39 where
 f0 : Int
 f1 : Int
 f2 : Int
def z39 : S39 := ⟨(0 : Int), (0 : Int), (0 : Int)⟩
def k39 : Kd S39 := Kd.iso (Kd.pair (Kd.int .u8) (Kd.pair (Kd.int .i64) (Kd.int .i64))) (fun x : S39 => (x.f0, x.f1, x.f2))
theorem k39_heap : Kd.Heap k39 := Kd.heap_iso _ (Kd.heap_pair (Kd.heap_int .u8) (Kd.heap_pair (Kd.heap_int .i64) (Kd.heap_int .i64)))
theorem k39_open {w : World} {x : S39} {cs : List Value} (h : k39.K w x cs) : cs = [.int .u8 x.f0, .int .i64 x.f1, .int .i64 x.f2] := by
 obtain ⟨_, _, rfl, rfl, ⟨_, _, rfl, rfl, rfl⟩⟩ := h; exact rfl
theorem k39_mkM (w : World) (base : Nat) (ok : Nat → Prop) (x : S39)  : k39.M w base ok x [.int .u8 x.f0, .int .i64 x.f1, .int .i64 x.f2] := ⟨[.int .u8 x.f0], [.int .i64 x.f1, .int .i64 x.f2], rfl, rfl, ⟨[.int .i64 x.f1], [.int .i64 x.f2], rfl, rfl, rfl⟩⟩
def zbc (xs : List S39) (i : Int) : S39 := xs.getD i.toNat z39
theorem at_T39 {w : World} {A : Option Addr} {n : Nat} {xs : List S39} (h : Kd.C k39 w A n xs) (i : Int) (h0 : 0 ≤ i) (h1 : i < n) : ∃ ad , A = some ad ∧ w.cell? (ad.add (i.toNat * 3)) = some (.int .u8 (zbc xs i).f0) ∧ w.cell? ⟨(ad.add (i.toNat * 3)).block, (ad.add (i.toNat * 3)).off + 1, none⟩ = some (.int .i64 (zbc xs i).f1) ∧ w.cell? ⟨(ad.add (i.toNat * 3)).block, (ad.add (i.toNat * 3)).off + 2, none⟩ = some (.int .i64 (zbc xs i).f2) := by
 obtain ⟨ad, c, e, _, hK, hc0⟩ := Kd.C_get h z39 i h0 h1; have hc : ∀ j u, c[j]? = some u → w.cell? (ad.add (i.toNat * 3 + j)) = some u := hc0; obtain rfl := k39_open hK; exact ⟨ad, e, hc 0 _ rfl, by rw [← zbp _ _ 1 (by omega)]; exact hc 1 _ rfl, by rw [← zbp _ _ 2 (by omega)]; exact hc 2 _ rfl⟩
structure S117 where
 f0 : Int
 f1 : Int
def z117 : S117 := ⟨(0 : Int), (0 : Int)⟩
def k117 : Kd S117 := Kd.iso (Kd.pair (Kd.int .i64) (Kd.int .i64)) (fun x : S117 => (x.f0, x.f1))
theorem k117_open {w : World} {x : S117} {cs : List Value} (h : k117.K w x cs) : cs = [.int .i64 x.f0, .int .i64 x.f1] := by
 obtain ⟨_, _, rfl, rfl, rfl⟩ := h; exact rfl
theorem k117_mk (w : World) (x : S117)  : k117.K w x [.int .i64 x.f0, .int .i64 x.f1] := ⟨[.int .i64 x.f0], [.int .i64 x.f1], rfl, rfl, rfl⟩
def rd_T117 (xs : List S117) (i : Int) : S117 := xs.getD i.toNat z117
structure S125 where
 f0 : S27
 f1 : S117
 f2 : Int
def z125 : S125 := ⟨z27, z117, (0 : Int)⟩
def k125 : Kd S125 := Kd.iso (Kd.pair k27 (Kd.pair k117 (Kd.int .i64))) (fun x : S125 => (x.f0, x.f1, x.f2))
theorem k125_open {w : World} {x : S125} {cs : List Value} (h : k125.K w x cs) : ∃ A3 c3, cs = [.int .u8 x.f0.f0, .int .u8 x.f0.f1, .int .i64 x.f0.f2, .slice A3 x.f0.f3.length c3, .int .i64 x.f1.f0, .int .i64 x.f1.f1, .int .i64 x.f2] ∧ x.f0.f3.length ≤ c3 ∧ k27.C w A3 x.f0.f3.length x.f0.f3 := by
 obtain ⟨_, _, rfl, s0, ⟨_, _, rfl, s4, rfl⟩⟩ := h; obtain ⟨A3, c3, rfl, l3, g3⟩ := k27_open s0; obtain rfl := k117_open s4; exact ⟨A3, c3, rfl, l3, g3⟩
theorem k125_mk (w : World) (x : S125) {A3 : Option Addr} {c3 : Nat} (l3 : x.f0.f3.length ≤ c3) (g3 : k27.C w A3 x.f0.f3.length x.f0.f3) : k125.K w x [.int .u8 x.f0.f0, .int .u8 x.f0.f1, .int .i64 x.f0.f2, .slice A3 x.f0.f3.length c3, .int .i64 x.f1.f0, .int .i64 x.f1.f1, .int .i64 x.f2] := ⟨[.int .u8 x.f0.f0, .int .u8 x.f0.f1, .int .i64 x.f0.f2, .slice A3 x.f0.f3.length c3], [.int .i64 x.f1.f0, .int .i64 x.f1.f1, .int .i64 x.f2], rfl, (k27_mk w x.f0 l3 g3), ⟨[.int .i64 x.f1.f0, .int .i64 x.f1.f1], [.int .i64 x.f2], rfl, (k117_mk w x.f1 ), rfl⟩⟩
theorem k125_openF {W : World} {ok : Nat → Prop} {x : S125} {cs : List Value} (h : Kd.FK k125 W ok x cs) : ∃ A3 c3, cs = [.int .u8 x.f0.f0, .int .u8 x.f0.f1, .int .i64 x.f0.f2, .slice A3 x.f0.f3.length c3, .int .i64 x.f1.f0, .int .i64 x.f1.f1, .int .i64 x.f2] ∧ x.f0.f3.length ≤ c3 ∧ Kd.F k27 W ok A3 x.f0.f3.length x.f0.f3 := by
 obtain ⟨A3, c3, rfl, l3, _⟩ := k125_open (Kd.FK_now h); exact ⟨A3, c3, rfl, l3, (fun W' hW => by obtain ⟨A3_, c3_, he, l3_, g3_⟩ := k125_open (h W' hW); injection (Option.some.inj (show some (Value.slice A3 x.f0.f3.length c3) = some (Value.slice A3_ x.f0.f3.length c3_) from congrArg (fun l => l[3]?) he)) with ha_ _ _; rw [ha_]; exact g3_)⟩
theorem k125_mkF (W : World) (ok : Nat → Prop) (x : S125) {A3 : Option Addr} {c3 : Nat} (l3 : x.f0.f3.length ≤ c3) (g3 : Kd.F k27 W ok A3 x.f0.f3.length x.f0.f3) : Kd.FK k125 W ok x [.int .u8 x.f0.f0, .int .u8 x.f0.f1, .int .i64 x.f0.f2, .slice A3 x.f0.f3.length c3, .int .i64 x.f1.f0, .int .i64 x.f1.f1, .int .i64 x.f2] := fun W2 hW => k125_mk W2 x l3 (g3 W2 hW)
def zbq (xs : List S125) (i : Int) : S125 := xs.getD i.toNat z125
theorem at_T125 {w : World} {A : Option Addr} {n : Nat} {xs : List S125} (h : Kd.C k125 w A n xs) (i : Int) (h0 : 0 ≤ i) (h1 : i < n) : ∃ ad A3 c3, A = some ad ∧ w.cell? (ad.add (i.toNat * 7)) = some (.int .u8 (zbq xs i).f0.f0) ∧ w.cell? ⟨(ad.add (i.toNat * 7)).block, (ad.add (i.toNat * 7)).off + 1, none⟩ = some (.int .u8 (zbq xs i).f0.f1) ∧ w.cell? ⟨(ad.add (i.toNat * 7)).block, (ad.add (i.toNat * 7)).off + 2, none⟩ = some (.int .i64 (zbq xs i).f0.f2) ∧ w.cell? ⟨(ad.add (i.toNat * 7)).block, (ad.add (i.toNat * 7)).off + 3, none⟩ = some (.slice A3 (zbq xs i).f0.f3.length c3) ∧ w.cell? ⟨(ad.add (i.toNat * 7)).block, (ad.add (i.toNat * 7)).off + 4, none⟩ = some (.int .i64 (zbq xs i).f1.f0) ∧ w.cell? ⟨(ad.add (i.toNat * 7)).block, (ad.add (i.toNat * 7)).off + 5, none⟩ = some (.int .i64 (zbq xs i).f1.f1) ∧ w.cell? ⟨(ad.add (i.toNat * 7)).block, (ad.add (i.toNat * 7)).off + 6, none⟩ = some (.int .i64 (zbq xs i).f2) ∧ (zbq xs i).f0.f3.length ≤ c3 ∧ k27.C w A3 (zbq xs i).f0.f3.length (zbq xs i).f0.f3 := by
 obtain ⟨ad, c, e, _, hK, hc0⟩ := Kd.C_get h z125 i h0 h1; have hc : ∀ j u, c[j]? = some u → w.cell? (ad.add (i.toNat * 7 + j)) = some u := hc0; obtain ⟨A3, c3, rfl, l3, g3⟩ := k125_open hK; exact ⟨ad, A3, c3, e, hc 0 _ rfl, by rw [← zbp _ _ 1 (by omega)]; exact hc 1 _ rfl, by rw [← zbp _ _ 2 (by omega)]; exact hc 2 _ rfl, by rw [← zbp _ _ 3 (by omega)]; exact hc 3 _ rfl, by rw [← zbp _ _ 4 (by omega)]; exact hc 4 _ rfl, by rw [← zbp _ _ 5 (by omega)]; exact hc 5 _ rfl, by rw [← zbp _ _ 6 (by omega)]; exact hc 6 _ rfl, l3, g3⟩
structure S90 where
 f0 : S27
 f1 : Int
 f2 : Int
def z90 : S90 := ⟨z27, (0 : Int), (0 : Int)⟩
def k90 : Kd S90 := Kd.iso (Kd.pair k27 (Kd.pair (Kd.int .i64) (Kd.int .i64))) (fun x : S90 => (x.f0, x.f1, x.f2))
def rd_T90 (xs : List S90) (i : Int) : S90 := xs.getD i.toNat z90
structure S94 where
 f0 : Int
 f1 : Int
 f2 : Int
 f3 : Int
def z94 : S94 := ⟨(0 : Int), (0 : Int), (0 : Int), (0 : Int)⟩
def k94 : Kd S94 := Kd.iso (Kd.pair (Kd.int .i64) (Kd.pair (Kd.int .u8) (Kd.pair (Kd.int .u8) (Kd.int .i64)))) (fun x : S94 => (x.f0, x.f1, x.f2, x.f3))
theorem k94_open {w : World} {x : S94} {cs : List Value} (h : k94.K w x cs) : cs = [.int .i64 x.f0, .int .u8 x.f1, .int .u8 x.f2, .int .i64 x.f3] := by
 obtain ⟨_, _, rfl, rfl, ⟨_, _, rfl, rfl, ⟨_, _, rfl, rfl, rfl⟩⟩⟩ := h; exact rfl
def rd_T94 (xs : List S94) (i : Int) : S94 := xs.getD i.toNat z94
theorem at_T94 {w : World} {A : Option Addr} {n : Nat} {xs : List S94} (h : Kd.C k94 w A n xs) (i : Int) (h0 : 0 ≤ i) (h1 : i < n) : ∃ ad , A = some ad ∧ w.cell? (ad.add (i.toNat * 4)) = some (.int .i64 (rd_T94 xs i).f0) ∧ w.cell? ⟨(ad.add (i.toNat * 4)).block, (ad.add (i.toNat * 4)).off + 1, none⟩ = some (.int .u8 (rd_T94 xs i).f1) ∧ w.cell? ⟨(ad.add (i.toNat * 4)).block, (ad.add (i.toNat * 4)).off + 2, none⟩ = some (.int .u8 (rd_T94 xs i).f2) ∧ w.cell? ⟨(ad.add (i.toNat * 4)).block, (ad.add (i.toNat * 4)).off + 3, none⟩ = some (.int .i64 (rd_T94 xs i).f3) := by
 obtain ⟨ad, c, e, _, hK, hc0⟩ := Kd.C_get h z94 i h0 h1; have hc : ∀ j u, c[j]? = some u → w.cell? (ad.add (i.toNat * 4 + j)) = some u := hc0; obtain rfl := k94_open hK; exact ⟨ad, e, hc 0 _ rfl, by rw [← zbp _ _ 1 (by omega)]; exact hc 1 _ rfl, by rw [← zbp _ _ 2 (by omega)]; exact hc 2 _ rfl, by rw [← zbp _ _ 3 (by omega)]; exact hc 3 _ rfl⟩
def zbG.f (a0 : Int) : Option (Bool) := if a0 ≥ 1 then (if a0 ≤ 17 then (some true) else (if a0 ≥ 20 then (some (decide (a0 ≤ 40))) else (some false))) else (if a0 ≥ 20 then (some (decide (a0 ≤ 40))) else (some false))
set_option maxHeartbeats 8000000 in
set_option maxRecDepth 100000 in
theorem zbG.calls (a0 : Int) (r : Bool) (w : World) (h : zbG.f a0 = some r) :
  Calls Try.prog 73 #[.int .u8 a0] w fun e w' => e = .returned (.bool r) ∧ zaw w w' := by
 have H : (if a0 ≥ 1 then (if a0 ≤ 17 then (some true) else (if a0 ≥ 20 then (some (decide (a0 ≤ 40))) else (some false))) else (if a0 ≥ 20 then (some (decide (a0 ≤ 40))) else (some false))) = some r := h
 clear h; by_cases c2 : a0 ≥ 1
 ·rw [if_pos c2] at H
  have c2b0 : decide (1 ≤ a0) = true := decide_eq_true c2; clear c2; by_cases c3 : a0 ≤ 17
  ·rw [if_pos c3] at H
   have c3b0 : decide (a0 ≤ 17) = true := decide_eq_true c3; clear c3; obtain rfl := Option.some.inj H; go_enter Try.func73, Try.ntmps73
   go_wp2
   go_ret
   exact ⟨by first | rfl | (simp; done) | (simp [*]; done), by repeat (first | exact zaw.refl _ | apply zaw.step)⟩
  ·rw [if_neg c3] at H
   have c3b0 : decide (a0 ≤ 17) = false := decide_eq_false c3; clear c3; by_cases c4 : a0 ≥ 20
   ·rw [if_pos c4] at H
    have c4b0 : decide (20 ≤ a0) = true := decide_eq_true c4; clear c4; obtain rfl := Option.some.inj H; go_enter Try.func73, Try.ntmps73
    go_wp2
    go_ret
    exact ⟨by first | rfl | (simp; done) | (simp [*]; done), by repeat (first | exact zaw.refl _ | apply zaw.step)⟩
   ·rw [if_neg c4] at H
    have c4b0 : decide (20 ≤ a0) = false := decide_eq_false c4; clear c4; obtain rfl := Option.some.inj H; go_enter Try.func73, Try.ntmps73
    go_wp2
    go_ret
    exact ⟨by first | rfl | (simp; done) | (simp [*]; done), by repeat (first | exact zaw.refl _ | apply zaw.step)⟩
 ·rw [if_neg c2] at H
  have c2b0 : decide (1 ≤ a0) = false := decide_eq_false c2; clear c2; by_cases c5 : a0 ≥ 20
  ·rw [if_pos c5] at H
   have c5b0 : decide (20 ≤ a0) = true := decide_eq_true c5; clear c5; obtain rfl := Option.some.inj H; go_enter Try.func73, Try.ntmps73
   go_wp2
   go_ret
   exact ⟨by first | rfl | (simp; done) | (simp [*]; done), by repeat (first | exact zaw.refl _ | apply zaw.step)⟩
  ·rw [if_neg c5] at H
   have c5b0 : decide (20 ≤ a0) = false := decide_eq_false c5; clear c5; obtain rfl := Option.some.inj H; go_enter Try.func73, Try.ntmps73
   go_wp2
   go_ret
   exact ⟨by first | rfl | (simp; done) | (simp [*]; done), by repeat (first | exact zaw.refl _ | apply zaw.step)⟩
def zaI.l0 : Nat → List Int → Int → Int → Int → Option (Int)
 | 0, _, _, _, _ => none
 | k + 1, x0, x1, x7, x8 => if x8 < x7 then (if 0 ≤ x8 then (if x8 < (x0.length : Int) then (if x1 = (rd x0 x8) then (some x8) else (zaI.l0 k x0 x1 x7 (wrap64 (x8 + 1)))) else (none)) else (none)) else (some (-1))
def zaI.f (k : Nat) (l0 : List Int) (a1 : Int) : Option (Int) := zaI.l0 k l0 a1 (l0.length : Int) 0
theorem zaI.zbn : ∀ k, (∀ y0 y1 y2 y3, LeO (zaI.l0 k y0 y1 y2 y3) (zaI.l0 (k + 1) y0 y1 y2 y3))
 | 0 => fun _ _ _ _ r h => by simp [zaI.l0] at h
 | k + 1 => by
  have ih0 := zaI.zbn k
  ·intro y0 y1 y2 y3
   unfold zaI.l0
   repeat' first
   | (with_reducible exact ih0 _ _ _ _)
   | (with_reducible exact LeO.refl _)
   | (with_reducible exact LeO.none _)
   | (with_reducible refine LeO.ite ?_ ?_)
   | (with_reducible refine LeO.bind ?_ (fun _ => ?_))
theorem zaI.mono : ∀ a0 a1 k, LeO (zaI.f k a0 a1) (zaI.f (k + 1) a0 a1) := by
 intro a0 a1 k
 have ih0 := zaI.zbn k; unfold zaI.f
 repeat' first
   | (with_reducible exact ih0 _ _ _ _)
   | (with_reducible exact LeO.refl _)
   | (with_reducible exact LeO.none _)
   | (with_reducible refine LeO.ite ?_ ?_)
   | (with_reducible refine LeO.bind ?_ (fun _ => ?_))
set_option maxHeartbeats 8000000 in
set_option maxRecDepth 100000 in
theorem zaI.calls (k : Nat) (A0 : Option Addr) (c0 : Nat) (l0 : List Int) (a1 : Int) (r : Int) (w : World) (hr0 : Kd.C (Kd.int .u8) w A0 l0.length l0) (hc0 : l0.length ≤ c0) (h : zaI.f k l0 a1 = some r) :
  Calls Try.prog 68 #[.slice A0 l0.length c0, .int .u8 a1] w fun e w' => e = .returned (.int .i64 r) ∧ zaw w w' := by
 have HR0 := zaa.mk hr0; have HC0 := zaa.mk hc0; clear hr0 hc0; have H : (zaI.l0 k l0 a1 (l0.length : Int) 0) = some r := h; clear h; have H' := zaa.mk H; clear H; go_enter Try.func68, Try.ntmps68
 go_wp2
 go_loopg [8] k (fun kq v8 w' => ∃ (x8_1 : Int), v8 = .int .i64 x8_1 ∧ zaa (zaI.l0 kq l0 a1 (l0.length : Int) x8_1 = some r) ∧ zaa (kq ≤ k) ∧ zaw w w')
 case atStart => exact ⟨(0), (by first | rfl | (simp; done) | (simp [*]; done)), H', ⟨Nat.le_refl _⟩, by repeat (first | exact zaw.refl _ | apply zaw.step)⟩
 case round =>
  clear H'; try clear p2
  obtain ⟨x8_1, rfl, HA, HK1, ⟨m1, rfl⟩⟩ := hrel; cases gk with
  | zero => exact absurd HA.out (by simp [zaI.l0])
  | succ k1 =>
   have H := HA.out; clear HA; simp only [zaI.l0] at H; by_cases c3 : x8_1 < (l0.length : Int)
   ·rw [if_pos c3] at H
    have c3b0 : decide (x8_1 < (l0.length : Int)) = true := decide_eq_true c3; clear c3; by_cases c4 : 0 ≤ x8_1
    ·rw [if_pos c4] at H
     have c4b0 : decide (0 ≤ x8_1) = true := decide_eq_true c4; clear c4; by_cases c5 : x8_1 < (l0.length : Int)
     ·rw [if_pos c5] at H
      have c5b0 : decide (x8_1 < (l0.length : Int)) = true := decide_eq_true c5; clear c5; by_cases c6 : a1 = (rd l0 x8_1)
      ·rw [if_pos c6] at H
       have c6b0 : (a1 == (rd l0 x8_1)) = true := beq_iff_eq.mpr c6; have c6b1 : (a1 != (rd l0 x8_1)) = false := bne_eq_false_iff_eq.mpr c6; clear c6; obtain rfl := Option.some.inj H; have p110 : 0 ≤ (x8_1 : Int) := of_decide_eq_true (by assumption)
       have q110 : x8_1 < (l0.length : Int) := of_decide_eq_true (by assumption)
       obtain ⟨ad110, e110, hx110_0⟩ := Kd.at_int HR0.out x8_1 p110 q110; cases e110; replace p110 := eq_true p110; replace q110 := eq_true q110; go_wp2
       go_ret
       exact ⟨by first | rfl | (simp; done) | (simp [*]; done), by repeat (first | exact zaw.refl _ | apply zaw.step)⟩
      ·rw [if_neg c6] at H
       have c6b0 : (a1 == (rd l0 x8_1)) = false := beq_eq_false_iff_ne.mpr c6; have c6b1 : (a1 != (rd l0 x8_1)) = true := bne_iff_ne.mpr c6; have H' := zaa.mk H; clear H; have p110 : 0 ≤ (x8_1 : Int) := of_decide_eq_true (by assumption)
       have q110 : x8_1 < (l0.length : Int) := of_decide_eq_true (by assumption)
       obtain ⟨ad110, e110, hx110_0⟩ := Kd.at_int HR0.out x8_1 p110 q110; cases e110; replace p110 := eq_true p110; replace q110 := eq_true q110; go_wp2
       go_roundg k1
       case measure => have := HK1.out; omega
       case rel => exact ⟨(wrap64 (x8_1 + 1)), (by first | rfl | (simp; done) | (simp [*]; done)), H', ⟨by have := HK1.out; omega⟩, by repeat (first | exact zaw.refl _ | apply zaw.step)⟩
     ·rw [if_neg c5] at H
      exact absurd H (by simp)
    ·rw [if_neg c4] at H
     exact absurd H (by simp)
   ·rw [if_neg c3] at H
    have c3b0 : decide (x8_1 < (l0.length : Int)) = false := decide_eq_false c3; clear c3; obtain rfl := Option.some.inj H; go_wp2
    go_ret
    exact ⟨by first | rfl | (simp; done) | (simp [*]; done), by repeat (first | exact zaw.refl _ | apply zaw.step)⟩
def za6.f (k : Nat) (l0 : List Int) (a1 : Int) : Option (Bool) := (zaI.f k l0 a1).bind fun t111 => (some (decide (t111 ≥ 0)))
theorem za6.mono : ∀ a0 a1 k, LeO (za6.f k a0 a1) (za6.f (k + 1) a0 a1) := by
 intro a0 a1 k
 unfold za6.f
 repeat' first
   | (with_reducible exact zaI.mono _ _ _)
   | (with_reducible exact LeO.refl _)
   | (with_reducible exact LeO.none _)
   | (with_reducible refine LeO.ite ?_ ?_)
   | (with_reducible refine LeO.bind ?_ (fun _ => ?_))
   | exact zaI.mono _ _ _
   | exact LeO.none _
   | refine LeO.ite ?_ ?_
   | refine LeO.bind ?_ (fun _ => ?_)
set_option maxHeartbeats 8000000 in
set_option maxRecDepth 100000 in
theorem za6.calls (k : Nat) (A0 : Option Addr) (c0 : Nat) (l0 : List Int) (a1 : Int) (r : Bool) (w : World) (hr0 : Kd.C (Kd.int .u8) w A0 l0.length l0) (hc0 : l0.length ≤ c0) (h : za6.f k l0 a1 = some r) :
  Calls Try.prog 54 #[.slice A0 l0.length c0, .int .u8 a1] w fun e w' => e = .returned (.bool r) ∧ zaw w w' := by
 have HR0 := zaa.mk hr0; have HC0 := zaa.mk hc0; clear hr0 hc0; have H : ((zaI.f k l0 a1).bind fun t111 => (some (decide (t111 ≥ 0)))) = some r := h
 clear h; replace H := Option.bind_eq_some_iff.mp H; obtain ⟨t111, A30, H⟩ := H; replace H : (some (decide (t111 ≥ 0))) = some r := H; have A3 := zaa.mk A30; clear A30; obtain rfl := Option.some.inj H; go_enter Try.func54, Try.ntmps54
 go_wp2_with (first | ((with_reducible refine zaO (f := 68) rfl ?_); refine zbg (some 7) rfl rfl Try.func68 (by kernel_rfl) rfl #[.slice A0 l0.length c0, .int .u8 a1] rfl (by (try simp only [List.map_toArray, List.map_cons, List.map_nil]); first | done | rfl | (simp only [List.length_drop, List.length_take]; rfl)) ?_; (with_reducible refine (zaI.calls k _ _ l0 a1 t111 _ ?side1 ?side2 A3.out).mono ?_); (case side1 => repeat (first | exact HR0.out | (with_reducible refine Kd.C_alloc ?_ _) | (with_reducible refine Kd.C_drewN ?_ _) | (with_reducible refine Kd.C_drew ?_))); (case side2 => exact HC0.out); rintro e w' ⟨rfl, ⟨nd, rfl⟩⟩; refine ⟨_, rfl, ?_⟩))
 go_ret
 exact ⟨by first | rfl | (simp; done) | (simp [*]; done), by repeat (first | exact zaw.refl _ | apply zaw.step)⟩
def zaV.f (a0 : Int) : Option (Bool) := if a0 ≥ 1 then (if a0 ≤ 17 then (some true) else (if a0 ≥ 20 then (some (decide (a0 ≤ 40))) else (some false))) else (if a0 ≥ 20 then (some (decide (a0 ≤ 40))) else (some false))
set_option maxHeartbeats 8000000 in
set_option maxRecDepth 100000 in
theorem zaV.calls (a0 : Int) (r : Bool) (w : World) (h : zaV.f a0 = some r) :
  Calls Try.prog 33 #[.int .u8 a0] w fun e w' => e = .returned (.bool r) ∧ zaw w w' := by
 have H : (if a0 ≥ 1 then (if a0 ≤ 17 then (some true) else (if a0 ≥ 20 then (some (decide (a0 ≤ 40))) else (some false))) else (if a0 ≥ 20 then (some (decide (a0 ≤ 40))) else (some false))) = some r := h
 clear h; by_cases c2 : a0 ≥ 1
 ·rw [if_pos c2] at H
  have c2b0 : decide (1 ≤ a0) = true := decide_eq_true c2; clear c2; by_cases c3 : a0 ≤ 17
  ·rw [if_pos c3] at H
   have c3b0 : decide (a0 ≤ 17) = true := decide_eq_true c3; clear c3; obtain rfl := Option.some.inj H; go_enter Try.func33, Try.ntmps33
   go_wp2
   go_ret
   exact ⟨by first | rfl | (simp; done) | (simp [*]; done), by repeat (first | exact zaw.refl _ | apply zaw.step)⟩
  ·rw [if_neg c3] at H
   have c3b0 : decide (a0 ≤ 17) = false := decide_eq_false c3; clear c3; by_cases c4 : a0 ≥ 20
   ·rw [if_pos c4] at H
    have c4b0 : decide (20 ≤ a0) = true := decide_eq_true c4; clear c4; obtain rfl := Option.some.inj H; go_enter Try.func33, Try.ntmps33
    go_wp2
    go_ret
    exact ⟨by first | rfl | (simp; done) | (simp [*]; done), by repeat (first | exact zaw.refl _ | apply zaw.step)⟩
   ·rw [if_neg c4] at H
    have c4b0 : decide (20 ≤ a0) = false := decide_eq_false c4; clear c4; obtain rfl := Option.some.inj H; go_enter Try.func33, Try.ntmps33
    go_wp2
    go_ret
    exact ⟨by first | rfl | (simp; done) | (simp [*]; done), by repeat (first | exact zaw.refl _ | apply zaw.step)⟩
 ·rw [if_neg c2] at H
  have c2b0 : decide (1 ≤ a0) = false := decide_eq_false c2; clear c2; by_cases c5 : a0 ≥ 20
  ·rw [if_pos c5] at H
   have c5b0 : decide (20 ≤ a0) = true := decide_eq_true c5; clear c5; obtain rfl := Option.some.inj H; go_enter Try.func33, Try.ntmps33
   go_wp2
   go_ret
   exact ⟨by first | rfl | (simp; done) | (simp [*]; done), by repeat (first | exact zaw.refl _ | apply zaw.step)⟩
  ·rw [if_neg c5] at H
   have c5b0 : decide (20 ≤ a0) = false := decide_eq_false c5; clear c5; obtain rfl := Option.some.inj H; go_enter Try.func33, Try.ntmps33
   go_wp2
   go_ret
   exact ⟨by first | rfl | (simp; done) | (simp [*]; done), by repeat (first | exact zaw.refl _ | apply zaw.step)⟩
def zaZ.f (a0 : Int) : Option (Bool) := if a0 = 1 then (some false) else (if a0 = 2 then (some false) else (if a0 = 3 then (some false) else (if a0 = 4 then (some false) else (if a0 = 5 then (some false) else (if a0 = 9 then (some false) else ((zaV.f a0).bind fun t121 => (some t121)))))))
set_option maxHeartbeats 8000000 in
set_option maxRecDepth 100000 in
theorem zaZ.calls (a0 : Int) (r : Bool) (w : World) (h : zaZ.f a0 = some r) :
  Calls Try.prog 58 #[.int .u8 a0] w fun e w' => e = .returned (.bool r) ∧ zaw w w' := by
 have H : (if a0 = 1 then (some false) else (if a0 = 2 then (some false) else (if a0 = 3 then (some false) else (if a0 = 4 then (some false) else (if a0 = 5 then (some false) else (if a0 = 9 then (some false) else ((zaV.f a0).bind fun t121 => (some t121)))))))) = some r := h
 clear h; by_cases c2 : a0 = 1
 ·rw [if_pos c2] at H
  have c2b0 : (a0 == 1) = true := beq_iff_eq.mpr c2; have c2b1 : (a0 != 1) = false := bne_eq_false_iff_eq.mpr c2; clear c2; obtain rfl := Option.some.inj H; go_enter Try.func58, Try.ntmps58
  go_wp2
  go_ret
  exact ⟨by first | rfl | (simp; done) | (simp [*]; done), by repeat (first | exact zaw.refl _ | apply zaw.step)⟩
 ·rw [if_neg c2] at H
  have c2b0 : (a0 == 1) = false := beq_eq_false_iff_ne.mpr c2; have c2b1 : (a0 != 1) = true := bne_iff_ne.mpr c2; by_cases c3 : a0 = 2
  ·rw [if_pos c3] at H
   have c3b0 : (a0 == 2) = true := beq_iff_eq.mpr c3; have c3b1 : (a0 != 2) = false := bne_eq_false_iff_eq.mpr c3; clear c3; obtain rfl := Option.some.inj H; go_enter Try.func58, Try.ntmps58
   go_wp2
   go_ret
   exact ⟨by first | rfl | (simp; done) | (simp [*]; done), by repeat (first | exact zaw.refl _ | apply zaw.step)⟩
  ·rw [if_neg c3] at H
   have c3b0 : (a0 == 2) = false := beq_eq_false_iff_ne.mpr c3; have c3b1 : (a0 != 2) = true := bne_iff_ne.mpr c3; by_cases c4 : a0 = 3
   ·rw [if_pos c4] at H
    have c4b0 : (a0 == 3) = true := beq_iff_eq.mpr c4; have c4b1 : (a0 != 3) = false := bne_eq_false_iff_eq.mpr c4; clear c4; obtain rfl := Option.some.inj H; go_enter Try.func58, Try.ntmps58
    go_wp2
    go_ret
    exact ⟨by first | rfl | (simp; done) | (simp [*]; done), by repeat (first | exact zaw.refl _ | apply zaw.step)⟩
   ·rw [if_neg c4] at H
    have c4b0 : (a0 == 3) = false := beq_eq_false_iff_ne.mpr c4; have c4b1 : (a0 != 3) = true := bne_iff_ne.mpr c4; by_cases c5 : a0 = 4
    ·rw [if_pos c5] at H
     have c5b0 : (a0 == 4) = true := beq_iff_eq.mpr c5; have c5b1 : (a0 != 4) = false := bne_eq_false_iff_eq.mpr c5; clear c5; obtain rfl := Option.some.inj H; go_enter Try.func58, Try.ntmps58
     go_wp2
     go_ret
     exact ⟨by first | rfl | (simp; done) | (simp [*]; done), by repeat (first | exact zaw.refl _ | apply zaw.step)⟩
    ·rw [if_neg c5] at H
     have c5b0 : (a0 == 4) = false := beq_eq_false_iff_ne.mpr c5; have c5b1 : (a0 != 4) = true := bne_iff_ne.mpr c5; by_cases c6 : a0 = 5
     ·rw [if_pos c6] at H
      have c6b0 : (a0 == 5) = true := beq_iff_eq.mpr c6; have c6b1 : (a0 != 5) = false := bne_eq_false_iff_eq.mpr c6; clear c6; obtain rfl := Option.some.inj H; go_enter Try.func58, Try.ntmps58
      go_wp2
      go_ret
      exact ⟨by first | rfl | (simp; done) | (simp [*]; done), by repeat (first | exact zaw.refl _ | apply zaw.step)⟩
     ·rw [if_neg c6] at H
      have c6b0 : (a0 == 5) = false := beq_eq_false_iff_ne.mpr c6; have c6b1 : (a0 != 5) = true := bne_iff_ne.mpr c6; by_cases c7 : a0 = 9
      ·rw [if_pos c7] at H
       have c7b0 : (a0 == 9) = true := beq_iff_eq.mpr c7; have c7b1 : (a0 != 9) = false := bne_eq_false_iff_eq.mpr c7; clear c7; obtain rfl := Option.some.inj H; go_enter Try.func58, Try.ntmps58
       go_wp2
       go_ret
       exact ⟨by first | rfl | (simp; done) | (simp [*]; done), by repeat (first | exact zaw.refl _ | apply zaw.step)⟩
      ·rw [if_neg c7] at H
       have c7b0 : (a0 == 9) = false := beq_eq_false_iff_ne.mpr c7; have c7b1 : (a0 != 9) = true := bne_iff_ne.mpr c7; replace H := Option.bind_eq_some_iff.mp H; obtain ⟨t121, A80, H⟩ := H; replace H : (some t121) = some r := H; have A8 := zaa.mk A80; clear A80; obtain rfl := Option.some.inj H; go_enter Try.func58, Try.ntmps58
       go_wp2_with (first | ((with_reducible refine zaO (f := 33) rfl ?_); refine zbg (some 12) rfl rfl Try.func33 (by kernel_rfl) rfl #[.int .u8 a0] rfl (by (try simp only [List.map_toArray, List.map_cons, List.map_nil]); first | done | rfl | (simp only [List.length_drop, List.length_take]; rfl)) ?_; (with_reducible refine (zaV.calls a0 t121 _ A8.out).mono ?_); rintro e w' ⟨rfl, ⟨nd, rfl⟩⟩; refine ⟨_, rfl, ?_⟩))
       go_ret
       exact ⟨by first | rfl | (simp; done) | (simp [*]; done), by repeat (first | exact zaw.refl _ | apply zaw.step)⟩
def zbA.f (a0_0 : Int) (a0_1 : Int) (a0_2 : Int) (l0_3 : List (S27)) : Option (Bool) := if (l0_3.length : Int) > 0 then (some false) else (if a0_0 = 50 then (if a0_2 = 0 then ((zaZ.f a0_1).bind fun t123 => (if t123 = true then (some true) else (if a0_1 = 60 then (some true) else (some (a0_1 == 52))))) else (some false)) else ((zaV.f a0_0).bind fun t124 => (if t124 = true then (if a0_2 ≥ 1 then (if a0_2 ≤ 1099511627776 then (some (a0_1 == 0)) else (some false)) else (some false)) else (some false))))
set_option maxHeartbeats 8000000 in
set_option maxRecDepth 100000 in
theorem zbA.calls (a0_0 : Int) (a0_1 : Int) (a0_2 : Int) (A0_3 : Option Addr) (c0_3 : Nat) (l0_3 : List (S27)) (r : Bool) (w : World) (hr0_3 : Kd.C k27 w A0_3 l0_3.length l0_3) (hc0_3 : l0_3.length ≤ c0_3) (h : zbA.f a0_0 a0_1 a0_2 l0_3 = some r) :
  Calls Try.prog 76 #[.agg #[.int .u8 a0_0, .int .u8 a0_1, .int .i64 a0_2, .slice A0_3 l0_3.length c0_3]] w fun e w' => e = .returned (.bool r) ∧ Below w.heap.size w w' := by
 have hu27 := Try.underlying27; have HR0_3 := zaa.mk hr0_3; have HC0_3 := zaa.mk hc0_3; clear hr0_3 hc0_3; have HB := zaa.mk (Below.refl w.heap.size w); have H : (if (l0_3.length : Int) > 0 then (some false) else (if a0_0 = 50 then (if a0_2 = 0 then ((zaZ.f a0_1).bind fun t123 => (if t123 = true then (some true) else (if a0_1 = 60 then (some true) else (some (a0_1 == 52))))) else (some false)) else ((zaV.f a0_0).bind fun t124 => (if t124 = true then (if a0_2 ≥ 1 then (if a0_2 ≤ 1099511627776 then (some (a0_1 == 0)) else (some false)) else (some false)) else (some false))))) = some r := h
 clear h; by_cases c2 : (l0_3.length : Int) > 0
 ·rw [if_pos c2] at H
  have c2b0 : decide (0 < (l0_3.length : Int)) = true := decide_eq_true c2; have c2b1 : decide (0 < l0_3.length) = true := decide_eq_true (by omega)
  clear c2; obtain rfl := Option.some.inj H; go_enter Try.func76, Try.ntmps76
  go_wp2_with (first | ((with_reducible refine za5 (N := 1) rfl ?_); refine zbu ?hg (N := 1) ?hd (cs := #[.int .u8 a0_0, .int .u8 a0_1, .int .i64 a0_2, .slice A0_3 l0_3.length c0_3]) (t := 27) ?hr ?_; (case hd => rfl); (case hg => rfl); (case hr => first | (go_simp; done) | (go_simp; rfl)); intro gb122 hg w3 hbox hb; have n0_ := zaa.mk (zan (by repeat (first | exact HB.out | apply zad | apply zac | apply zaf)) hb); have n1_ := zaa.mk (hbox); have n2_ := zaa.mk ((by rw [hg]; exact (zaB (by repeat (first | exact HB.out | apply zad | apply zac | apply zaf))) : w.heap.size ≤ gb122)); have n3_ := zaa.mk ((by rw [hg]; exact (zaB (by repeat (first | exact HB.out | apply zad | apply zac | apply zaf))) : w.heap.size ≤ gb122)); clear HB; have HB := n0_; have BK122 := n1_; have GW122 := n2_; have GE122 := n3_; clear n0_ n1_ n2_ n3_; clear hb hbox hg; have hcz4_0 : w3.cell? ⟨gb122, 0, none⟩ = some (.int .u8 a0_0) := (zae BK122.out 0).trans rfl; have hcz4_1 : w3.cell? ⟨gb122, 1, none⟩ = some (.int .u8 a0_1) := (zae BK122.out 1).trans rfl; have hcz4_2 : w3.cell? ⟨gb122, 2, none⟩ = some (.int .i64 a0_2) := (zae BK122.out 2).trans rfl; have hcz4_3 : w3.cell? ⟨gb122, 3, none⟩ = some (.slice A0_3 l0_3.length c0_3) := (zae BK122.out 3).trans rfl; have hfz4_0 := zab BK122.out 0; have hfz4_1 := zab BK122.out 1; have hfz4_2 := zab BK122.out 2; have hfz4_3 := zab BK122.out 3))
  go_ret
  exact ⟨by first | rfl | (simp [*, zay, zax] <;> rfl), by repeat (first | (with_reducible first | exact HB.out | apply zad | apply zac | apply zaf | refine zaJ ?_ GE122.out) | exact HB.out)⟩
 ·rw [if_neg c2] at H
  have c2b0 : decide (0 < (l0_3.length : Int)) = false := decide_eq_false c2; have c2b1 : decide (0 < l0_3.length) = false := decide_eq_false (by omega)
  clear c2; by_cases c5 : a0_0 = 50
  ·rw [if_pos c5] at H
   have c5b0 : (a0_0 == 50) = true := beq_iff_eq.mpr c5; have c5b1 : (a0_0 != 50) = false := bne_eq_false_iff_eq.mpr c5; clear c5; by_cases c6 : a0_2 = 0
   ·rw [if_pos c6] at H
    have c6b0 : (a0_2 == 0) = true := beq_iff_eq.mpr c6; have c6b1 : (a0_2 != 0) = false := bne_eq_false_iff_eq.mpr c6; clear c6; replace H := Option.bind_eq_some_iff.mp H; obtain ⟨t123, A70, H⟩ := H; replace H : (if t123 = true then (some true) else (if a0_1 = 60 then (some true) else (some (a0_1 == 52)))) = some r := H
    have A7 := zaa.mk A70; clear A70; by_cases c8 : t123 = true
    ·subst c8
     have H1 : (some true) = some r := by rw [if_pos rfl] at H; exact H
     clear H; have H := H1; clear H1; obtain rfl := Option.some.inj H; go_enter Try.func76, Try.ntmps76
     go_wp2_with (first | ((with_reducible refine za5 (N := 1) rfl ?_); refine zbu ?hg (N := 1) ?hd (cs := #[.int .u8 a0_0, .int .u8 a0_1, .int .i64 a0_2, .slice A0_3 l0_3.length c0_3]) (t := 27) ?hr ?_; (case hd => rfl); (case hg => rfl); (case hr => first | (go_simp; done) | (go_simp; rfl)); intro gb122 hg w9 hbox hb; have n0_ := zaa.mk (zan (by repeat (first | exact HB.out | apply zad | apply zac | apply zaf)) hb); have n1_ := zaa.mk (hbox); have n2_ := zaa.mk ((by rw [hg]; exact (zaB (by repeat (first | exact HB.out | apply zad | apply zac | apply zaf))) : w.heap.size ≤ gb122)); have n3_ := zaa.mk ((by rw [hg]; exact (zaB (by repeat (first | exact HB.out | apply zad | apply zac | apply zaf))) : w.heap.size ≤ gb122)); clear HB; have HB := n0_; have BK122 := n1_; have GW122 := n2_; have GE122 := n3_; clear n0_ n1_ n2_ n3_; clear hb hbox hg; have hcz10_0 : w9.cell? ⟨gb122, 0, none⟩ = some (.int .u8 a0_0) := (zae BK122.out 0).trans rfl; have hcz10_1 : w9.cell? ⟨gb122, 1, none⟩ = some (.int .u8 a0_1) := (zae BK122.out 1).trans rfl; have hcz10_2 : w9.cell? ⟨gb122, 2, none⟩ = some (.int .i64 a0_2) := (zae BK122.out 2).trans rfl; have hcz10_3 : w9.cell? ⟨gb122, 3, none⟩ = some (.slice A0_3 l0_3.length c0_3) := (zae BK122.out 3).trans rfl; have hfz10_0 := zab BK122.out 0; have hfz10_1 := zab BK122.out 1; have hfz10_2 := zab BK122.out 2; have hfz10_3 := zab BK122.out 3) | (go_at_call 58; (with_reducible refine (zaZ.calls a0_1 true _ A7.out).mono ?_); rintro e w' ⟨rfl, ⟨nd, rfl⟩⟩))
     go_ret
     exact ⟨by first | rfl | (simp [*, zay, zax] <;> rfl), by repeat (first | (with_reducible first | exact HB.out | apply zad | apply zac | apply zaf | refine zaJ ?_ GE122.out) | exact HB.out)⟩
    ·replace c8 := Bool.eq_false_iff.mpr c8
     subst c8; have H1 : (if a0_1 = 60 then (some true) else (some (a0_1 == 52))) = some r := by rw [if_neg (show ¬ (false = true) by decide)] at H; exact H
     clear H; have H := H1; clear H1; by_cases c11 : a0_1 = 60
     ·rw [if_pos c11] at H
      have c11b0 : (a0_1 == 60) = true := beq_iff_eq.mpr c11; have c11b1 : (a0_1 != 60) = false := bne_eq_false_iff_eq.mpr c11; clear c11; obtain rfl := Option.some.inj H; go_enter Try.func76, Try.ntmps76
      go_wp2_with (first | ((with_reducible refine za5 (N := 1) rfl ?_); refine zbu ?hg (N := 1) ?hd (cs := #[.int .u8 a0_0, .int .u8 a0_1, .int .i64 a0_2, .slice A0_3 l0_3.length c0_3]) (t := 27) ?hr ?_; (case hd => rfl); (case hg => rfl); (case hr => first | (go_simp; done) | (go_simp; rfl)); intro gb122 hg w12 hbox hb; have n0_ := zaa.mk (zan (by repeat (first | exact HB.out | apply zad | apply zac | apply zaf)) hb); have n1_ := zaa.mk (hbox); have n2_ := zaa.mk ((by rw [hg]; exact (zaB (by repeat (first | exact HB.out | apply zad | apply zac | apply zaf))) : w.heap.size ≤ gb122)); have n3_ := zaa.mk ((by rw [hg]; exact (zaB (by repeat (first | exact HB.out | apply zad | apply zac | apply zaf))) : w.heap.size ≤ gb122)); clear HB; have HB := n0_; have BK122 := n1_; have GW122 := n2_; have GE122 := n3_; clear n0_ n1_ n2_ n3_; clear hb hbox hg; have hcz13_0 : w12.cell? ⟨gb122, 0, none⟩ = some (.int .u8 a0_0) := (zae BK122.out 0).trans rfl; have hcz13_1 : w12.cell? ⟨gb122, 1, none⟩ = some (.int .u8 a0_1) := (zae BK122.out 1).trans rfl; have hcz13_2 : w12.cell? ⟨gb122, 2, none⟩ = some (.int .i64 a0_2) := (zae BK122.out 2).trans rfl; have hcz13_3 : w12.cell? ⟨gb122, 3, none⟩ = some (.slice A0_3 l0_3.length c0_3) := (zae BK122.out 3).trans rfl; have hfz13_0 := zab BK122.out 0; have hfz13_1 := zab BK122.out 1; have hfz13_2 := zab BK122.out 2; have hfz13_3 := zab BK122.out 3) | (go_at_call 58; (with_reducible refine (zaZ.calls a0_1 false _ A7.out).mono ?_); rintro e w' ⟨rfl, ⟨nd, rfl⟩⟩))
      go_ret
      exact ⟨by first | rfl | (simp [*, zay, zax] <;> rfl), by repeat (first | (with_reducible first | exact HB.out | apply zad | apply zac | apply zaf | refine zaJ ?_ GE122.out) | exact HB.out)⟩
     ·rw [if_neg c11] at H
      have c11b0 : (a0_1 == 60) = false := beq_eq_false_iff_ne.mpr c11; have c11b1 : (a0_1 != 60) = true := bne_iff_ne.mpr c11; obtain rfl := Option.some.inj H; go_enter Try.func76, Try.ntmps76
      go_wp2_with (first | ((with_reducible refine za5 (N := 1) rfl ?_); refine zbu ?hg (N := 1) ?hd (cs := #[.int .u8 a0_0, .int .u8 a0_1, .int .i64 a0_2, .slice A0_3 l0_3.length c0_3]) (t := 27) ?hr ?_; (case hd => rfl); (case hg => rfl); (case hr => first | (go_simp; done) | (go_simp; rfl)); intro gb122 hg w14 hbox hb; have n0_ := zaa.mk (zan (by repeat (first | exact HB.out | apply zad | apply zac | apply zaf)) hb); have n1_ := zaa.mk (hbox); have n2_ := zaa.mk ((by rw [hg]; exact (zaB (by repeat (first | exact HB.out | apply zad | apply zac | apply zaf))) : w.heap.size ≤ gb122)); have n3_ := zaa.mk ((by rw [hg]; exact (zaB (by repeat (first | exact HB.out | apply zad | apply zac | apply zaf))) : w.heap.size ≤ gb122)); clear HB; have HB := n0_; have BK122 := n1_; have GW122 := n2_; have GE122 := n3_; clear n0_ n1_ n2_ n3_; clear hb hbox hg; have hcz15_0 : w14.cell? ⟨gb122, 0, none⟩ = some (.int .u8 a0_0) := (zae BK122.out 0).trans rfl; have hcz15_1 : w14.cell? ⟨gb122, 1, none⟩ = some (.int .u8 a0_1) := (zae BK122.out 1).trans rfl; have hcz15_2 : w14.cell? ⟨gb122, 2, none⟩ = some (.int .i64 a0_2) := (zae BK122.out 2).trans rfl; have hcz15_3 : w14.cell? ⟨gb122, 3, none⟩ = some (.slice A0_3 l0_3.length c0_3) := (zae BK122.out 3).trans rfl; have hfz15_0 := zab BK122.out 0; have hfz15_1 := zab BK122.out 1; have hfz15_2 := zab BK122.out 2; have hfz15_3 := zab BK122.out 3) | (go_at_call 58; (with_reducible refine (zaZ.calls a0_1 false _ A7.out).mono ?_); rintro e w' ⟨rfl, ⟨nd, rfl⟩⟩))
      go_ret
      exact ⟨by first | rfl | (simp [*, zay, zax] <;> rfl), by repeat (first | (with_reducible first | exact HB.out | apply zad | apply zac | apply zaf | refine zaJ ?_ GE122.out) | exact HB.out)⟩
   ·rw [if_neg c6] at H
    have c6b0 : (a0_2 == 0) = false := beq_eq_false_iff_ne.mpr c6; have c6b1 : (a0_2 != 0) = true := bne_iff_ne.mpr c6; obtain rfl := Option.some.inj H; go_enter Try.func76, Try.ntmps76
    go_wp2_with (first | ((with_reducible refine za5 (N := 1) rfl ?_); refine zbu ?hg (N := 1) ?hd (cs := #[.int .u8 a0_0, .int .u8 a0_1, .int .i64 a0_2, .slice A0_3 l0_3.length c0_3]) (t := 27) ?hr ?_; (case hd => rfl); (case hg => rfl); (case hr => first | (go_simp; done) | (go_simp; rfl)); intro gb122 hg w16 hbox hb; have n0_ := zaa.mk (zan (by repeat (first | exact HB.out | apply zad | apply zac | apply zaf)) hb); have n1_ := zaa.mk (hbox); have n2_ := zaa.mk ((by rw [hg]; exact (zaB (by repeat (first | exact HB.out | apply zad | apply zac | apply zaf))) : w.heap.size ≤ gb122)); have n3_ := zaa.mk ((by rw [hg]; exact (zaB (by repeat (first | exact HB.out | apply zad | apply zac | apply zaf))) : w.heap.size ≤ gb122)); clear HB; have HB := n0_; have BK122 := n1_; have GW122 := n2_; have GE122 := n3_; clear n0_ n1_ n2_ n3_; clear hb hbox hg; have hcz17_0 : w16.cell? ⟨gb122, 0, none⟩ = some (.int .u8 a0_0) := (zae BK122.out 0).trans rfl; have hcz17_1 : w16.cell? ⟨gb122, 1, none⟩ = some (.int .u8 a0_1) := (zae BK122.out 1).trans rfl; have hcz17_2 : w16.cell? ⟨gb122, 2, none⟩ = some (.int .i64 a0_2) := (zae BK122.out 2).trans rfl; have hcz17_3 : w16.cell? ⟨gb122, 3, none⟩ = some (.slice A0_3 l0_3.length c0_3) := (zae BK122.out 3).trans rfl; have hfz17_0 := zab BK122.out 0; have hfz17_1 := zab BK122.out 1; have hfz17_2 := zab BK122.out 2; have hfz17_3 := zab BK122.out 3))
    go_ret
    exact ⟨by first | rfl | (simp [*, zay, zax] <;> rfl), by repeat (first | (with_reducible first | exact HB.out | apply zad | apply zac | apply zaf | refine zaJ ?_ GE122.out) | exact HB.out)⟩
  ·rw [if_neg c5] at H
   have c5b0 : (a0_0 == 50) = false := beq_eq_false_iff_ne.mpr c5; have c5b1 : (a0_0 != 50) = true := bne_iff_ne.mpr c5; replace H := Option.bind_eq_some_iff.mp H; obtain ⟨t124, A180, H⟩ := H; replace H : (if t124 = true then (if a0_2 ≥ 1 then (if a0_2 ≤ 1099511627776 then (some (a0_1 == 0)) else (some false)) else (some false)) else (some false)) = some r := H
   have A18 := zaa.mk A180; clear A180; by_cases c19 : t124 = true
   ·subst c19
    have H1 : (if a0_2 ≥ 1 then (if a0_2 ≤ 1099511627776 then (some (a0_1 == 0)) else (some false)) else (some false)) = some r := by rw [if_pos rfl] at H; exact H
    clear H; have H := H1; clear H1; by_cases c20 : a0_2 ≥ 1
    ·rw [if_pos c20] at H
     have c20b0 : decide (1 ≤ a0_2) = true := decide_eq_true c20; clear c20; by_cases c21 : a0_2 ≤ 1099511627776
     ·rw [if_pos c21] at H
      have c21b0 : decide (a0_2 ≤ 1099511627776) = true := decide_eq_true c21; clear c21; obtain rfl := Option.some.inj H; go_enter Try.func76, Try.ntmps76
      go_wp2_with (first | ((with_reducible refine za5 (N := 1) rfl ?_); refine zbu ?hg (N := 1) ?hd (cs := #[.int .u8 a0_0, .int .u8 a0_1, .int .i64 a0_2, .slice A0_3 l0_3.length c0_3]) (t := 27) ?hr ?_; (case hd => rfl); (case hg => rfl); (case hr => first | (go_simp; done) | (go_simp; rfl)); intro gb122 hg w22 hbox hb; have n0_ := zaa.mk (zan (by repeat (first | exact HB.out | apply zad | apply zac | apply zaf)) hb); have n1_ := zaa.mk (hbox); have n2_ := zaa.mk ((by rw [hg]; exact (zaB (by repeat (first | exact HB.out | apply zad | apply zac | apply zaf))) : w.heap.size ≤ gb122)); have n3_ := zaa.mk ((by rw [hg]; exact (zaB (by repeat (first | exact HB.out | apply zad | apply zac | apply zaf))) : w.heap.size ≤ gb122)); clear HB; have HB := n0_; have BK122 := n1_; have GW122 := n2_; have GE122 := n3_; clear n0_ n1_ n2_ n3_; clear hb hbox hg; have hcz23_0 : w22.cell? ⟨gb122, 0, none⟩ = some (.int .u8 a0_0) := (zae BK122.out 0).trans rfl; have hcz23_1 : w22.cell? ⟨gb122, 1, none⟩ = some (.int .u8 a0_1) := (zae BK122.out 1).trans rfl; have hcz23_2 : w22.cell? ⟨gb122, 2, none⟩ = some (.int .i64 a0_2) := (zae BK122.out 2).trans rfl; have hcz23_3 : w22.cell? ⟨gb122, 3, none⟩ = some (.slice A0_3 l0_3.length c0_3) := (zae BK122.out 3).trans rfl; have hfz23_0 := zab BK122.out 0; have hfz23_1 := zab BK122.out 1; have hfz23_2 := zab BK122.out 2; have hfz23_3 := zab BK122.out 3) | ((with_reducible refine zaO (f := 33) rfl ?_); refine zbg (some 30) rfl rfl Try.func33 (by kernel_rfl) rfl #[.int .u8 a0_0] rfl (by (try simp only [List.map_toArray, List.map_cons, List.map_nil]); first | done | rfl | (simp only [List.length_drop, List.length_take]; rfl)) ?_; (with_reducible refine (zaV.calls a0_0 true _ A18.out).mono ?_); rintro e w' ⟨rfl, ⟨nd, rfl⟩⟩; refine ⟨_, rfl, ?_⟩))
      go_ret
      exact ⟨by first | rfl | (simp [*, zay, zax] <;> rfl), by repeat (first | (with_reducible first | exact HB.out | apply zad | apply zac | apply zaf | refine zaJ ?_ GE122.out) | exact HB.out)⟩
     ·rw [if_neg c21] at H
      have c21b0 : decide (a0_2 ≤ 1099511627776) = false := decide_eq_false c21; clear c21; obtain rfl := Option.some.inj H; go_enter Try.func76, Try.ntmps76
      go_wp2_with (first | ((with_reducible refine za5 (N := 1) rfl ?_); refine zbu ?hg (N := 1) ?hd (cs := #[.int .u8 a0_0, .int .u8 a0_1, .int .i64 a0_2, .slice A0_3 l0_3.length c0_3]) (t := 27) ?hr ?_; (case hd => rfl); (case hg => rfl); (case hr => first | (go_simp; done) | (go_simp; rfl)); intro gb122 hg w24 hbox hb; have n0_ := zaa.mk (zan (by repeat (first | exact HB.out | apply zad | apply zac | apply zaf)) hb); have n1_ := zaa.mk (hbox); have n2_ := zaa.mk ((by rw [hg]; exact (zaB (by repeat (first | exact HB.out | apply zad | apply zac | apply zaf))) : w.heap.size ≤ gb122)); have n3_ := zaa.mk ((by rw [hg]; exact (zaB (by repeat (first | exact HB.out | apply zad | apply zac | apply zaf))) : w.heap.size ≤ gb122)); clear HB; have HB := n0_; have BK122 := n1_; have GW122 := n2_; have GE122 := n3_; clear n0_ n1_ n2_ n3_; clear hb hbox hg; have hcz25_0 : w24.cell? ⟨gb122, 0, none⟩ = some (.int .u8 a0_0) := (zae BK122.out 0).trans rfl; have hcz25_1 : w24.cell? ⟨gb122, 1, none⟩ = some (.int .u8 a0_1) := (zae BK122.out 1).trans rfl; have hcz25_2 : w24.cell? ⟨gb122, 2, none⟩ = some (.int .i64 a0_2) := (zae BK122.out 2).trans rfl; have hcz25_3 : w24.cell? ⟨gb122, 3, none⟩ = some (.slice A0_3 l0_3.length c0_3) := (zae BK122.out 3).trans rfl; have hfz25_0 := zab BK122.out 0; have hfz25_1 := zab BK122.out 1; have hfz25_2 := zab BK122.out 2; have hfz25_3 := zab BK122.out 3) | ((with_reducible refine zaO (f := 33) rfl ?_); refine zbg (some 30) rfl rfl Try.func33 (by kernel_rfl) rfl #[.int .u8 a0_0] rfl (by (try simp only [List.map_toArray, List.map_cons, List.map_nil]); first | done | rfl | (simp only [List.length_drop, List.length_take]; rfl)) ?_; (with_reducible refine (zaV.calls a0_0 true _ A18.out).mono ?_); rintro e w' ⟨rfl, ⟨nd, rfl⟩⟩; refine ⟨_, rfl, ?_⟩))
      go_ret
      exact ⟨by first | rfl | (simp [*, zay, zax] <;> rfl), by repeat (first | (with_reducible first | exact HB.out | apply zad | apply zac | apply zaf | refine zaJ ?_ GE122.out) | exact HB.out)⟩
    ·rw [if_neg c20] at H
     have c20b0 : decide (1 ≤ a0_2) = false := decide_eq_false c20; clear c20; obtain rfl := Option.some.inj H; go_enter Try.func76, Try.ntmps76
     go_wp2_with (first | ((with_reducible refine za5 (N := 1) rfl ?_); refine zbu ?hg (N := 1) ?hd (cs := #[.int .u8 a0_0, .int .u8 a0_1, .int .i64 a0_2, .slice A0_3 l0_3.length c0_3]) (t := 27) ?hr ?_; (case hd => rfl); (case hg => rfl); (case hr => first | (go_simp; done) | (go_simp; rfl)); intro gb122 hg w26 hbox hb; have n0_ := zaa.mk (zan (by repeat (first | exact HB.out | apply zad | apply zac | apply zaf)) hb); have n1_ := zaa.mk (hbox); have n2_ := zaa.mk ((by rw [hg]; exact (zaB (by repeat (first | exact HB.out | apply zad | apply zac | apply zaf))) : w.heap.size ≤ gb122)); have n3_ := zaa.mk ((by rw [hg]; exact (zaB (by repeat (first | exact HB.out | apply zad | apply zac | apply zaf))) : w.heap.size ≤ gb122)); clear HB; have HB := n0_; have BK122 := n1_; have GW122 := n2_; have GE122 := n3_; clear n0_ n1_ n2_ n3_; clear hb hbox hg; have hcz27_0 : w26.cell? ⟨gb122, 0, none⟩ = some (.int .u8 a0_0) := (zae BK122.out 0).trans rfl; have hcz27_1 : w26.cell? ⟨gb122, 1, none⟩ = some (.int .u8 a0_1) := (zae BK122.out 1).trans rfl; have hcz27_2 : w26.cell? ⟨gb122, 2, none⟩ = some (.int .i64 a0_2) := (zae BK122.out 2).trans rfl; have hcz27_3 : w26.cell? ⟨gb122, 3, none⟩ = some (.slice A0_3 l0_3.length c0_3) := (zae BK122.out 3).trans rfl; have hfz27_0 := zab BK122.out 0; have hfz27_1 := zab BK122.out 1; have hfz27_2 := zab BK122.out 2; have hfz27_3 := zab BK122.out 3) | ((with_reducible refine zaO (f := 33) rfl ?_); refine zbg (some 30) rfl rfl Try.func33 (by kernel_rfl) rfl #[.int .u8 a0_0] rfl (by (try simp only [List.map_toArray, List.map_cons, List.map_nil]); first | done | rfl | (simp only [List.length_drop, List.length_take]; rfl)) ?_; (with_reducible refine (zaV.calls a0_0 true _ A18.out).mono ?_); rintro e w' ⟨rfl, ⟨nd, rfl⟩⟩; refine ⟨_, rfl, ?_⟩))
     go_ret
     exact ⟨by first | rfl | (simp [*, zay, zax] <;> rfl), by repeat (first | (with_reducible first | exact HB.out | apply zad | apply zac | apply zaf | refine zaJ ?_ GE122.out) | exact HB.out)⟩
   ·replace c19 := Bool.eq_false_iff.mpr c19
    subst c19; have H1 : (some false) = some r := by rw [if_neg (show ¬ (false = true) by decide)] at H; exact H
    clear H; have H := H1; clear H1; obtain rfl := Option.some.inj H; go_enter Try.func76, Try.ntmps76
    go_wp2_with (first | ((with_reducible refine za5 (N := 1) rfl ?_); refine zbu ?hg (N := 1) ?hd (cs := #[.int .u8 a0_0, .int .u8 a0_1, .int .i64 a0_2, .slice A0_3 l0_3.length c0_3]) (t := 27) ?hr ?_; (case hd => rfl); (case hg => rfl); (case hr => first | (go_simp; done) | (go_simp; rfl)); intro gb122 hg w28 hbox hb; have n0_ := zaa.mk (zan (by repeat (first | exact HB.out | apply zad | apply zac | apply zaf)) hb); have n1_ := zaa.mk (hbox); have n2_ := zaa.mk ((by rw [hg]; exact (zaB (by repeat (first | exact HB.out | apply zad | apply zac | apply zaf))) : w.heap.size ≤ gb122)); have n3_ := zaa.mk ((by rw [hg]; exact (zaB (by repeat (first | exact HB.out | apply zad | apply zac | apply zaf))) : w.heap.size ≤ gb122)); clear HB; have HB := n0_; have BK122 := n1_; have GW122 := n2_; have GE122 := n3_; clear n0_ n1_ n2_ n3_; clear hb hbox hg; have hcz29_0 : w28.cell? ⟨gb122, 0, none⟩ = some (.int .u8 a0_0) := (zae BK122.out 0).trans rfl; have hcz29_1 : w28.cell? ⟨gb122, 1, none⟩ = some (.int .u8 a0_1) := (zae BK122.out 1).trans rfl; have hcz29_2 : w28.cell? ⟨gb122, 2, none⟩ = some (.int .i64 a0_2) := (zae BK122.out 2).trans rfl; have hcz29_3 : w28.cell? ⟨gb122, 3, none⟩ = some (.slice A0_3 l0_3.length c0_3) := (zae BK122.out 3).trans rfl; have hfz29_0 := zab BK122.out 0; have hfz29_1 := zab BK122.out 1; have hfz29_2 := zab BK122.out 2; have hfz29_3 := zab BK122.out 3) | ((with_reducible refine zaO (f := 33) rfl ?_); refine zbg (some 30) rfl rfl Try.func33 (by kernel_rfl) rfl #[.int .u8 a0_0] rfl (by (try simp only [List.map_toArray, List.map_cons, List.map_nil]); first | done | rfl | (simp only [List.length_drop, List.length_take]; rfl)) ?_; (with_reducible refine (zaV.calls a0_0 false _ A18.out).mono ?_); rintro e w' ⟨rfl, ⟨nd, rfl⟩⟩; refine ⟨_, rfl, ?_⟩))
    go_ret
    exact ⟨by first | rfl | (simp [*, zay, zax] <;> rfl), by repeat (first | (with_reducible first | exact HB.out | apply zad | apply zac | apply zaf | refine zaJ ?_ GE122.out) | exact HB.out)⟩
mutual
def zai.j0 : Nat → Int → Int → Bool → Int → Int → Int → List (S27) → Option (Int)
 | 0, _, _, _, _, _, _, _ => none
 | k + 1, x1, x2, x16, x126000, x126001, x126002, x126003 => if x16 = true then (some 0) else (if x126000 < 51 then (zai.j1 k x1 x2 true x126000 x126001 x126002 x126003) else (zai.j1 k x1 x2 (decide (x126000 > 68)) x126000 x126001 x126002 x126003))
def zai.j1 : Nat → Int → Int → Bool → Int → Int → Int → List (S27) → Option (Int)
 | 0, _, _, _, _, _, _, _ => none
 | k + 1, x1, x2, x24, x126000, x126001, x126002, x126003 => if x24 = true then ((zbA.f x126000 x126001 x126002 x126003).bind fun t126 => (if t126 = true then (some 1) else (some 0))) else (if x126001 = 0 then (if x126000 = 51 then (zai.j2 k x1 x2 (decide (x1 > 1)) x126000 x126001 x126002 x126003) else (zai.j2 k x1 x2 false x126000 x126001 x126002 x126003)) else (zai.j2 k x1 x2 true x126000 x126001 x126002 x126003))
def zai.j2 : Nat → Int → Int → Bool → Int → Int → Int → List (S27) → Option (Int)
 | 0, _, _, _, _, _, _, _ => none
 | k + 1, x1, x2, x38, x126000, x126001, x126002, x126003 => if x38 = true then (some 0) else (zai.l0 k x1 x2 1 0 0 x126000 x126001 x126002 x126003)
def zai.l0 : Nat → Int → Int → Int → Int → Int → Int → Int → Int → List (S27) → Option (Int)
 | 0, _, _, _, _, _, _, _, _, _ => none
 | k + 1, x1, x2, x7, x8, x9, x126000, x126001, x126002, x126003 => if x9 < (x126003.length : Int) then (if 0 ≤ x9 then ((zai.f k ((zbm x126003 x9).f0) ((zbm x126003 x9).f1) ((zbm x126003 x9).f2) ((zbm x126003 x9).f3) (wrap64 (x1 + 1)) (wrap64 (x2 - x7))).bind fun t128 => (if t128 = 0 then (some 0) else (zai.l0 k x1 x2 (wrap64 (x7 + t128)) (wrap64 (x8 + ((zbm x126003 x9).f2))) (wrap64 (x9 + 1)) x126000 x126001 x126002 x126003))) else (none)) else (if x8 = x126002 then (if x8 > 1099511627776 then (some 0) else (some x7)) else (some 0))
def zai.f : Nat → Int → Int → Int → List (S27) → Int → Int → Option (Int)
 | 0, _, _, _, _, _, _ => none
 | k + 1, a0_0, a0_1, a0_2, l0_3, a1, a2 => if a1 > 65536 then (zai.j0 k a1 a2 true a0_0 a0_1 a0_2 l0_3) else (zai.j0 k a1 a2 (decide (a2 < 1)) a0_0 a0_1 a0_2 l0_3)
end
theorem zai.zbn : ∀ k, (∀ y0 y1 y2 y3 y4 y5, LeO (zai.f k y0 y1 y2 y3 y4 y5) (zai.f (k + 1) y0 y1 y2 y3 y4 y5)) ∧ (∀ y0 y1 y2 y3 y4 y5 y6, LeO (zai.j0 k y0 y1 y2 y3 y4 y5 y6) (zai.j0 (k + 1) y0 y1 y2 y3 y4 y5 y6)) ∧ (∀ y0 y1 y2 y3 y4 y5 y6, LeO (zai.j1 k y0 y1 y2 y3 y4 y5 y6) (zai.j1 (k + 1) y0 y1 y2 y3 y4 y5 y6)) ∧ (∀ y0 y1 y2 y3 y4 y5 y6, LeO (zai.j2 k y0 y1 y2 y3 y4 y5 y6) (zai.j2 (k + 1) y0 y1 y2 y3 y4 y5 y6)) ∧ (∀ y0 y1 y2 y3 y4 y5 y6 y7 y8, LeO (zai.l0 k y0 y1 y2 y3 y4 y5 y6 y7 y8) (zai.l0 (k + 1) y0 y1 y2 y3 y4 y5 y6 y7 y8))
 | 0 => ⟨fun _ _ _ _ _ _ r h => by simp [zai.f] at h, fun _ _ _ _ _ _ _ r h => by simp [zai.j0] at h, fun _ _ _ _ _ _ _ r h => by simp [zai.j1] at h, fun _ _ _ _ _ _ _ r h => by simp [zai.j2] at h, fun _ _ _ _ _ _ _ _ _ r h => by simp [zai.l0] at h⟩
 | k + 1 => by
  obtain ⟨ih0, ih1, ih2, ih3, ih4⟩ := zai.zbn k; refine ⟨?_, ?_, ?_, ?_, ?_⟩
  ·intro y0 y1 y2 y3 y4 y5
   unfold zai.f
   repeat' first
   | (with_reducible exact ih0 _ _ _ _ _ _)
   | (with_reducible exact ih1 _ _ _ _ _ _ _)
   | (with_reducible exact ih2 _ _ _ _ _ _ _)
   | (with_reducible exact ih3 _ _ _ _ _ _ _)
   | (with_reducible exact ih4 _ _ _ _ _ _ _ _ _)
   | (with_reducible exact LeO.refl _)
   | (with_reducible exact LeO.none _)
   | (with_reducible refine LeO.ite ?_ ?_)
   | (with_reducible refine LeO.bind ?_ (fun _ => ?_))
  ·intro y0 y1 y2 y3 y4 y5 y6
   unfold zai.j0
   repeat' first
   | (with_reducible exact ih0 _ _ _ _ _ _)
   | (with_reducible exact ih1 _ _ _ _ _ _ _)
   | (with_reducible exact ih2 _ _ _ _ _ _ _)
   | (with_reducible exact ih3 _ _ _ _ _ _ _)
   | (with_reducible exact ih4 _ _ _ _ _ _ _ _ _)
   | (with_reducible exact LeO.refl _)
   | (with_reducible exact LeO.none _)
   | (with_reducible refine LeO.ite ?_ ?_)
   | (with_reducible refine LeO.bind ?_ (fun _ => ?_))
  ·intro y0 y1 y2 y3 y4 y5 y6
   unfold zai.j1
   repeat' first
   | (with_reducible exact ih0 _ _ _ _ _ _)
   | (with_reducible exact ih1 _ _ _ _ _ _ _)
   | (with_reducible exact ih2 _ _ _ _ _ _ _)
   | (with_reducible exact ih3 _ _ _ _ _ _ _)
   | (with_reducible exact ih4 _ _ _ _ _ _ _ _ _)
   | (with_reducible exact LeO.refl _)
   | (with_reducible exact LeO.none _)
   | (with_reducible refine LeO.ite ?_ ?_)
   | (with_reducible refine LeO.bind ?_ (fun _ => ?_))
  ·intro y0 y1 y2 y3 y4 y5 y6
   unfold zai.j2
   repeat' first
   | (with_reducible exact ih0 _ _ _ _ _ _)
   | (with_reducible exact ih1 _ _ _ _ _ _ _)
   | (with_reducible exact ih2 _ _ _ _ _ _ _)
   | (with_reducible exact ih3 _ _ _ _ _ _ _)
   | (with_reducible exact ih4 _ _ _ _ _ _ _ _ _)
   | (with_reducible exact LeO.refl _)
   | (with_reducible exact LeO.none _)
   | (with_reducible refine LeO.ite ?_ ?_)
   | (with_reducible refine LeO.bind ?_ (fun _ => ?_))
  ·intro y0 y1 y2 y3 y4 y5 y6 y7 y8
   unfold zai.l0
   repeat' first
   | (with_reducible exact ih0 _ _ _ _ _ _)
   | (with_reducible exact ih1 _ _ _ _ _ _ _)
   | (with_reducible exact ih2 _ _ _ _ _ _ _)
   | (with_reducible exact ih3 _ _ _ _ _ _ _)
   | (with_reducible exact ih4 _ _ _ _ _ _ _ _ _)
   | (with_reducible exact LeO.refl _)
   | (with_reducible exact LeO.none _)
   | (with_reducible refine LeO.ite ?_ ?_)
   | (with_reducible refine LeO.bind ?_ (fun _ => ?_))
theorem zai.mono : ∀ a0 a1 a2 a3 a4 a5 k, LeO (zai.f k a0 a1 a2 a3 a4 a5) (zai.f (k + 1) a0 a1 a2 a3 a4 a5) := by
 intro a0 a1 a2 a3 a4 a5 k
 obtain ⟨ih0, ih1, ih2, ih3, ih4⟩ := zai.zbn k; exact ih0 a0 a1 a2 a3 a4 a5
set_option maxHeartbeats 8000000 in
set_option maxRecDepth 100000 in
theorem zai.calls (k : Nat) : ∀ (a0_0 : Int) (a0_1 : Int) (a0_2 : Int) (A0_3 : Option Addr) (c0_3 : Nat) (l0_3 : List (S27)) (a1 : Int) (a2 : Int) (r : Int) (w : World) (hr0_3 : Kd.C k27 w A0_3 l0_3.length l0_3) (hc0_3 : l0_3.length ≤ c0_3) (h : zai.f k a0_0 a0_1 a0_2 l0_3 a1 a2 = some r),
  Calls Try.prog 69 #[.agg #[.int .u8 a0_0, .int .u8 a0_1, .int .i64 a0_2, .slice A0_3 l0_3.length c0_3], .int .i64 a1, .int .i64 a2] w fun e w' => e = .returned (.int .i64 r) ∧ Below w.heap.size w w' := by
 induction k using Nat.strongRecOn with
 | _ k ih =>
 intro a0_0 a0_1 a0_2 A0_3 c0_3 l0_3 a1 a2 r w hr0_3 hc0_3 h
 cases k with
 | zero => exact absurd h (by simp [zai.f])
 | succ k =>
 simp only [zai.f] at h; have hu27 := Try.underlying27; have HR0_3 := zaa.mk hr0_3; have HC0_3 := zaa.mk hc0_3; clear hr0_3 hc0_3; have HB := zaa.mk (Below.refl w.heap.size w); have H : (if a1 > 65536 then (zai.j0 k a1 a2 true a0_0 a0_1 a0_2 l0_3) else (zai.j0 k a1 a2 (decide (a2 < 1)) a0_0 a0_1 a0_2 l0_3)) = some r := h
 clear h; have HC4 := zaa.mk H; clear H; go_enter Try.func69, Try.ntmps69
 go_upto_region 1 with (first | ((with_reducible refine za5 (N := 3) rfl ?_); refine zbu ?hg (N := 3) ?hd (cs := #[.int .u8 a0_0, .int .u8 a0_1, .int .i64 a0_2, .slice A0_3 l0_3.length c0_3]) (t := 27) ?hr ?_; (case hd => rfl); (case hg => rfl); (case hr => first | (go_simp; done) | (go_simp; rfl)); intro gb125 hg w5 hbox hb; have n0_ := zaa.mk (zan (by repeat (first | exact HB.out | apply zad | apply zac | apply zaf)) hb); have n1_ := zaa.mk (hbox); have n2_ := zaa.mk ((by rw [hg]; exact (zaB (by repeat (first | exact HB.out | apply zad | apply zac | apply zaf))) : w.heap.size ≤ gb125)); have n3_ := zaa.mk ((by rw [hg]; exact (zaB (by repeat (first | exact HB.out | apply zad | apply zac | apply zaf))) : w.heap.size ≤ gb125)); clear HB; have HB := n0_; have BK125 := n1_; have GW125 := n2_; have GE125 := n3_; clear n0_ n1_ n2_ n3_; clear hb hbox hg))
 (try simp only [Act.put, zav])
 go_cut [16] (fun v16 wc => ∃ (kq : Nat) (x16_3 : Bool), v16 = .bool x16_3 ∧ zaa (zai.j0 kq a1 a2 x16_3 a0_0 a0_1 a0_2 l0_3 = some r) ∧ zaa (kq ≤ k) ∧ zaa (wc.heap[gb125]? = some (.cells #[.int .u8 a0_0, .int .u8 a0_1, .int .i64 a0_2, (.slice A0_3 l0_3.length c0_3)] 27 (0, 0))) ∧ zaa (Below w.heap.size w wc))
 case first =>
  have H := HC4.out; clear HC4; by_cases c6 : a1 > 65536
  ·rw [if_pos c6] at H
   have c6b0 : decide (65536 < a1) = true := decide_eq_true c6; clear c6
   (first | rw [c6b0] | (simp only [i64_w, i32_w]; rw [c6b0]) | skip)
   have H' := zaa.mk H; clear H; go_wp2
   go_meet
   case rel => exact ⟨_, (true), (by first | rfl | (simp; done) | (simp [*]; done)), H', ⟨by first | omega | exact Nat.le_refl _⟩, ⟨by (with_reducible repeat (first | refine zaG ?_ _ | refine zaP ?_ | refine zaH ?_ _)); exact BK125.out⟩, ⟨by repeat (first | (with_reducible first | exact HB.out | apply zad | apply zac | apply zaf | refine zaJ ?_ GE125.out) | exact HB.out)⟩⟩
  ·rw [if_neg c6] at H
   have c6b0 : decide (65536 < a1) = false := decide_eq_false c6; clear c6
   (first | rw [c6b0] | (simp only [i64_w, i32_w]; rw [c6b0]) | skip)
   have H' := zaa.mk H; clear H; go_wp2
   go_meet
   case rel => exact ⟨_, (decide (a2 < 1)), (by first | rfl | (simp; done) | (simp [*]; done)), H', ⟨by first | omega | exact Nat.le_refl _⟩, ⟨by (with_reducible repeat (first | refine zaG ?_ _ | refine zaP ?_ | refine zaH ?_ _)); exact BK125.out⟩, ⟨by repeat (first | (with_reducible first | exact HB.out | apply zad | apply zac | apply zaf | refine zaJ ?_ GE125.out) | exact HB.out)⟩⟩
 case rest =>
  clear HC4; try clear p2
  try clear c6
  try clear c6b0
  obtain ⟨kq, x16_3, rfl, HA, HJ3, BK125, HB⟩ := hcut; cases kq with
  | zero => exact absurd HA.out (by simp [zai.j0])
  | succ kj3 =>
   have H := HA.out; clear HA; simp only [zai.j0] at H; by_cases c7 : x16_3 = true
   ·subst c7
    have H1 : (some 0) = some r := by rw [if_pos rfl] at H; exact H
    clear H; have H := H1; clear H1; obtain rfl := Option.some.inj H; go_wp2
    go_ret
    exact ⟨by first | rfl | (simp [*, zay, zax] <;> rfl), by repeat (first | (with_reducible first | exact HB.out | apply zad | apply zac | apply zaf | refine zaJ ?_ GE125.out) | exact HB.out)⟩
   ·replace c7 := Bool.eq_false_iff.mpr c7
    subst c7; have H1 : (if a0_0 < 51 then (zai.j1 kj3 a1 a2 true a0_0 a0_1 a0_2 l0_3) else (zai.j1 kj3 a1 a2 (decide (a0_0 > 68)) a0_0 a0_1 a0_2 l0_3)) = some r := by rw [if_neg (show ¬ (false = true) by decide)] at H; exact H
    clear H; have H := H1; clear H1; have HC8 := zaa.mk H; clear H; go_upto_region 3 with (fail)
    go_cut [24] (fun v24 wc => ∃ (kq : Nat) (x24_7 : Bool), v24 = .bool x24_7 ∧ zaa (zai.j1 kq a1 a2 x24_7 a0_0 a0_1 a0_2 l0_3 = some r) ∧ zaa (kq ≤ kj3) ∧ zaa (wc.heap[gb125]? = some (.cells #[.int .u8 a0_0, .int .u8 a0_1, .int .i64 a0_2, (.slice A0_3 l0_3.length c0_3)] 27 (0, 0))) ∧ zaa (Below w.heap.size w wc))
    case first =>
     have H := HC8.out; clear HC8; by_cases c9 : a0_0 < 51
     ·rw [if_pos c9] at H
      have c9b0 : decide (a0_0 < 51) = true := decide_eq_true c9; clear c9
      (first | rw [c9b0] | (simp only [i64_w, i32_w]; rw [c9b0]) | skip)
      have H' := zaa.mk H; clear H; have hcz10_0 : wc.cell? ⟨gb125, 0, none⟩ = some (.int .u8 a0_0) := (zae BK125.out 0).trans rfl; have hcz10_1 : wc.cell? ⟨gb125, 1, none⟩ = some (.int .u8 a0_1) := (zae BK125.out 1).trans rfl; have hcz10_2 : wc.cell? ⟨gb125, 2, none⟩ = some (.int .i64 a0_2) := (zae BK125.out 2).trans rfl; have hcz10_3 : wc.cell? ⟨gb125, 3, none⟩ = some (.slice A0_3 l0_3.length c0_3) := (zae BK125.out 3).trans rfl; have hfz10_0 := zab BK125.out 0; have hfz10_1 := zab BK125.out 1; have hfz10_2 := zab BK125.out 2; have hfz10_3 := zab BK125.out 3; go_wp2
      go_meet
      case rel => exact ⟨_, (true), (by first | rfl | (simp; done) | (simp [*]; done)), H', ⟨by have := HJ3.out; first | omega | exact Nat.le_refl _⟩, ⟨by (with_reducible repeat (first | refine zaG ?_ _ | refine zaP ?_ | refine zaH ?_ _)); exact BK125.out⟩, ⟨by repeat (first | (with_reducible first | exact HB.out | apply zad | apply zac | apply zaf | refine zaJ ?_ GE125.out) | exact HB.out)⟩⟩
     ·rw [if_neg c9] at H
      have c9b0 : decide (a0_0 < 51) = false := decide_eq_false c9; clear c9
      (first | rw [c9b0] | (simp only [i64_w, i32_w]; rw [c9b0]) | skip)
      have H' := zaa.mk H; clear H; have hcz11_0 : wc.cell? ⟨gb125, 0, none⟩ = some (.int .u8 a0_0) := (zae BK125.out 0).trans rfl; have hcz11_1 : wc.cell? ⟨gb125, 1, none⟩ = some (.int .u8 a0_1) := (zae BK125.out 1).trans rfl; have hcz11_2 : wc.cell? ⟨gb125, 2, none⟩ = some (.int .i64 a0_2) := (zae BK125.out 2).trans rfl; have hcz11_3 : wc.cell? ⟨gb125, 3, none⟩ = some (.slice A0_3 l0_3.length c0_3) := (zae BK125.out 3).trans rfl; have hfz11_0 := zab BK125.out 0; have hfz11_1 := zab BK125.out 1; have hfz11_2 := zab BK125.out 2; have hfz11_3 := zab BK125.out 3; go_wp2
      go_meet
      case rel => exact ⟨_, (decide (a0_0 > 68)), (by first | rfl | (simp; done) | (simp [*]; done)), H', ⟨by have := HJ3.out; first | omega | exact Nat.le_refl _⟩, ⟨by (with_reducible repeat (first | refine zaG ?_ _ | refine zaP ?_ | refine zaH ?_ _)); exact BK125.out⟩, ⟨by repeat (first | (with_reducible first | exact HB.out | apply zad | apply zac | apply zaf | refine zaJ ?_ GE125.out) | exact HB.out)⟩⟩
    case rest =>
     clear HC8; try clear p2
     try clear c6
     try clear c6b0
     try clear c7
     try clear c9
     try clear c9b0
     try clear hcz10_0
     try clear hcz10_1
     try clear hcz10_2
     try clear hcz10_3
     try clear hcz11_0
     try clear hcz11_1
     try clear hcz11_2
     try clear hcz11_3
     try clear hfz10_0
     try clear hfz10_1
     try clear hfz10_2
     try clear hfz10_3
     try clear hfz11_0
     try clear hfz11_1
     try clear hfz11_2
     try clear hfz11_3
     try clear p2
     obtain ⟨kq, x24_7, rfl, HA, HJ7, BK125, HB⟩ := hcut; cases kq with
     | zero => exact absurd HA.out (by simp [zai.j1])
     | succ kj7 =>
      have H := HA.out; clear HA; simp only [zai.j1] at H; by_cases c12 : x24_7 = true
      ·subst c12
       have H1 : ((zbA.f a0_0 a0_1 a0_2 l0_3).bind fun t126 => (if t126 = true then (some 1) else (some 0))) = some r := by rw [if_pos rfl] at H; exact H
       clear H; have H := H1; clear H1; replace H := Option.bind_eq_some_iff.mp H; obtain ⟨t126, A130, H⟩ := H; replace H : (if t126 = true then (some 1) else (some 0)) = some r := H
       have A13 := zaa.mk A130; clear A130; by_cases c14 : t126 = true
       ·subst c14
        have H1 : (some 1) = some r := by rw [if_pos rfl] at H; exact H
        clear H; have H := H1; clear H1; obtain rfl := Option.some.inj H; have hcz15_0 : wc.cell? ⟨gb125, 0, none⟩ = some (.int .u8 a0_0) := (zae BK125.out 0).trans rfl; have hcz15_1 : wc.cell? ⟨gb125, 1, none⟩ = some (.int .u8 a0_1) := (zae BK125.out 1).trans rfl; have hcz15_2 : wc.cell? ⟨gb125, 2, none⟩ = some (.int .i64 a0_2) := (zae BK125.out 2).trans rfl; have hcz15_3 : wc.cell? ⟨gb125, 3, none⟩ = some (.slice A0_3 l0_3.length c0_3) := (zae BK125.out 3).trans rfl; have hfz15_0 := zab BK125.out 0; have hfz15_1 := zab BK125.out 1; have hfz15_2 := zab BK125.out 2; have hfz15_3 := zab BK125.out 3; go_wp2_with (first | ((with_reducible refine zaO (f := 76) rfl ?_); refine zbg (some 26) rfl rfl Try.func76 (by kernel_rfl) rfl #[.agg #[.int .u8 a0_0, .int .u8 a0_1, .int .i64 a0_2, .slice A0_3 l0_3.length c0_3]] rfl (by (try simp only [List.map_toArray, List.map_cons, List.map_nil]); first | done | rfl | (simp only [List.length_drop, List.length_take]; rfl)) ?_; (with_reducible refine (zbA.calls a0_0 a0_1 a0_2 _ _ l0_3 true _ ?side1 ?side2 A13.out).mono ?_); (case side1 => repeat (first | exact (Kd.za4 HR0_3.out HB.out) | (with_reducible refine Kd.C_alloc ?_ _) | (with_reducible refine Kd.C_drewN ?_ _) | (with_reducible refine Kd.C_drew ?_))); (case side2 => exact HC0_3.out); rintro e w16 ⟨rfl, hb⟩; refine ⟨_, rfl, ?_⟩; have n0_ := zaa.mk (zaU (g := gb125) (o := .cells #[.int .u8 a0_0, .int .u8 a0_1, .int .i64 a0_2, .slice A0_3 l0_3.length c0_3] 27 (0, 0)) (by (with_reducible repeat (first | refine zaG ?_ _ | refine zaP ?_ | refine zaH ?_ _)); exact BK125.out) hb); have n1_ := zaa.mk (zan (by repeat (first | (with_reducible first | exact HB.out | apply zad | apply zac | apply zaf | refine zaJ ?_ GE125.out) | exact HB.out)) hb); clear BK125; clear HB; have BK125 := n0_; have HB := n1_; clear n0_ n1_; (try clear hb); (try clear hb2); (try clear hk); (try clear hi)))
        go_ret
        exact ⟨by first | rfl | (simp [*, zay, zax] <;> rfl), by repeat (first | (with_reducible first | exact HB.out | apply zad | apply zac | apply zaf | refine zaJ ?_ GE125.out) | exact HB.out)⟩
       ·replace c14 := Bool.eq_false_iff.mpr c14
        subst c14; have H1 : (some 0) = some r := by rw [if_neg (show ¬ (false = true) by decide)] at H; exact H
        clear H; have H := H1; clear H1; obtain rfl := Option.some.inj H; have hcz17_0 : wc.cell? ⟨gb125, 0, none⟩ = some (.int .u8 a0_0) := (zae BK125.out 0).trans rfl; have hcz17_1 : wc.cell? ⟨gb125, 1, none⟩ = some (.int .u8 a0_1) := (zae BK125.out 1).trans rfl; have hcz17_2 : wc.cell? ⟨gb125, 2, none⟩ = some (.int .i64 a0_2) := (zae BK125.out 2).trans rfl; have hcz17_3 : wc.cell? ⟨gb125, 3, none⟩ = some (.slice A0_3 l0_3.length c0_3) := (zae BK125.out 3).trans rfl; have hfz17_0 := zab BK125.out 0; have hfz17_1 := zab BK125.out 1; have hfz17_2 := zab BK125.out 2; have hfz17_3 := zab BK125.out 3; go_wp2_with (first | ((with_reducible refine zaO (f := 76) rfl ?_); refine zbg (some 26) rfl rfl Try.func76 (by kernel_rfl) rfl #[.agg #[.int .u8 a0_0, .int .u8 a0_1, .int .i64 a0_2, .slice A0_3 l0_3.length c0_3]] rfl (by (try simp only [List.map_toArray, List.map_cons, List.map_nil]); first | done | rfl | (simp only [List.length_drop, List.length_take]; rfl)) ?_; (with_reducible refine (zbA.calls a0_0 a0_1 a0_2 _ _ l0_3 false _ ?side1 ?side2 A13.out).mono ?_); (case side1 => repeat (first | exact (Kd.za4 HR0_3.out HB.out) | (with_reducible refine Kd.C_alloc ?_ _) | (with_reducible refine Kd.C_drewN ?_ _) | (with_reducible refine Kd.C_drew ?_))); (case side2 => exact HC0_3.out); rintro e w18 ⟨rfl, hb⟩; refine ⟨_, rfl, ?_⟩; have n0_ := zaa.mk (zaU (g := gb125) (o := .cells #[.int .u8 a0_0, .int .u8 a0_1, .int .i64 a0_2, .slice A0_3 l0_3.length c0_3] 27 (0, 0)) (by (with_reducible repeat (first | refine zaG ?_ _ | refine zaP ?_ | refine zaH ?_ _)); exact BK125.out) hb); have n1_ := zaa.mk (zan (by repeat (first | (with_reducible first | exact HB.out | apply zad | apply zac | apply zaf | refine zaJ ?_ GE125.out) | exact HB.out)) hb); clear BK125; clear HB; have BK125 := n0_; have HB := n1_; clear n0_ n1_; (try clear hb); (try clear hb2); (try clear hk); (try clear hi)))
        go_ret
        exact ⟨by first | rfl | (simp [*, zay, zax] <;> rfl), by repeat (first | (with_reducible first | exact HB.out | apply zad | apply zac | apply zaf | refine zaJ ?_ GE125.out) | exact HB.out)⟩
      ·replace c12 := Bool.eq_false_iff.mpr c12
       subst c12; have H1 : (if a0_1 = 0 then (if a0_0 = 51 then (zai.j2 kj7 a1 a2 (decide (a1 > 1)) a0_0 a0_1 a0_2 l0_3) else (zai.j2 kj7 a1 a2 false a0_0 a0_1 a0_2 l0_3)) else (zai.j2 kj7 a1 a2 true a0_0 a0_1 a0_2 l0_3)) = some r := by rw [if_neg (show ¬ (false = true) by decide)] at H; exact H
       clear H; have H := H1; clear H1; have HC19 := zaa.mk H; clear H; go_upto_region 7 with (fail)
       go_cut [38] (fun v38 wc => ∃ (kq : Nat) (x38_18 : Bool), v38 = .bool x38_18 ∧ zaa (zai.j2 kq a1 a2 x38_18 a0_0 a0_1 a0_2 l0_3 = some r) ∧ zaa (kq ≤ kj7) ∧ zaa (wc.heap[gb125]? = some (.cells #[.int .u8 a0_0, .int .u8 a0_1, .int .i64 a0_2, (.slice A0_3 l0_3.length c0_3)] 27 (0, 0))) ∧ zaa (Below w.heap.size w wc))
       case first =>
        have H := HC19.out; clear HC19; by_cases c20 : a0_1 = 0
        ·rw [if_pos c20] at H
         have c20b0 : (a0_1 == 0) = true := beq_iff_eq.mpr c20; have c20b1 : (a0_1 != 0) = false := bne_eq_false_iff_eq.mpr c20; clear c20
         (first | rw [c20b0] | (simp only [i64_w, i32_w]; rw [c20b0]) | skip)
         by_cases c21 : a0_0 = 51
         ·rw [if_pos c21] at H
          have c21b0 : (a0_0 == 51) = true := beq_iff_eq.mpr c21; have c21b1 : (a0_0 != 51) = false := bne_eq_false_iff_eq.mpr c21; clear c21; have H' := zaa.mk H; clear H; have hcz22_0 : wc.cell? ⟨gb125, 0, none⟩ = some (.int .u8 a0_0) := (zae BK125.out 0).trans rfl; have hcz22_1 : wc.cell? ⟨gb125, 1, none⟩ = some (.int .u8 a0_1) := (zae BK125.out 1).trans rfl; have hcz22_2 : wc.cell? ⟨gb125, 2, none⟩ = some (.int .i64 a0_2) := (zae BK125.out 2).trans rfl; have hcz22_3 : wc.cell? ⟨gb125, 3, none⟩ = some (.slice A0_3 l0_3.length c0_3) := (zae BK125.out 3).trans rfl; have hfz22_0 := zab BK125.out 0; have hfz22_1 := zab BK125.out 1; have hfz22_2 := zab BK125.out 2; have hfz22_3 := zab BK125.out 3; go_wp2
          go_meet
          case rel => exact ⟨_, (decide (a1 > 1)), (by first | rfl | (simp; done) | (simp [*]; done)), H', ⟨by have := HJ3.out; have := HJ7.out; first | omega | exact Nat.le_refl _⟩, ⟨by (with_reducible repeat (first | refine zaG ?_ _ | refine zaP ?_ | refine zaH ?_ _)); exact BK125.out⟩, ⟨by repeat (first | (with_reducible first | exact HB.out | apply zad | apply zac | apply zaf | refine zaJ ?_ GE125.out) | exact HB.out)⟩⟩
         ·rw [if_neg c21] at H
          have c21b0 : (a0_0 == 51) = false := beq_eq_false_iff_ne.mpr c21; have c21b1 : (a0_0 != 51) = true := bne_iff_ne.mpr c21; have H' := zaa.mk H; clear H; have hcz23_0 : wc.cell? ⟨gb125, 0, none⟩ = some (.int .u8 a0_0) := (zae BK125.out 0).trans rfl; have hcz23_1 : wc.cell? ⟨gb125, 1, none⟩ = some (.int .u8 a0_1) := (zae BK125.out 1).trans rfl; have hcz23_2 : wc.cell? ⟨gb125, 2, none⟩ = some (.int .i64 a0_2) := (zae BK125.out 2).trans rfl; have hcz23_3 : wc.cell? ⟨gb125, 3, none⟩ = some (.slice A0_3 l0_3.length c0_3) := (zae BK125.out 3).trans rfl; have hfz23_0 := zab BK125.out 0; have hfz23_1 := zab BK125.out 1; have hfz23_2 := zab BK125.out 2; have hfz23_3 := zab BK125.out 3; go_wp2
          go_meet
          case rel => exact ⟨_, (false), (by first | rfl | (simp; done) | (simp [*]; done)), H', ⟨by have := HJ3.out; have := HJ7.out; first | omega | exact Nat.le_refl _⟩, ⟨by (with_reducible repeat (first | refine zaG ?_ _ | refine zaP ?_ | refine zaH ?_ _)); exact BK125.out⟩, ⟨by repeat (first | (with_reducible first | exact HB.out | apply zad | apply zac | apply zaf | refine zaJ ?_ GE125.out) | exact HB.out)⟩⟩
        ·rw [if_neg c20] at H
         have c20b0 : (a0_1 == 0) = false := beq_eq_false_iff_ne.mpr c20; have c20b1 : (a0_1 != 0) = true := bne_iff_ne.mpr c20
         (first | rw [c20b0] | (simp only [i64_w, i32_w]; rw [c20b0]) | skip)
         have H' := zaa.mk H; clear H; have hcz24_0 : wc.cell? ⟨gb125, 0, none⟩ = some (.int .u8 a0_0) := (zae BK125.out 0).trans rfl; have hcz24_1 : wc.cell? ⟨gb125, 1, none⟩ = some (.int .u8 a0_1) := (zae BK125.out 1).trans rfl; have hcz24_2 : wc.cell? ⟨gb125, 2, none⟩ = some (.int .i64 a0_2) := (zae BK125.out 2).trans rfl; have hcz24_3 : wc.cell? ⟨gb125, 3, none⟩ = some (.slice A0_3 l0_3.length c0_3) := (zae BK125.out 3).trans rfl; have hfz24_0 := zab BK125.out 0; have hfz24_1 := zab BK125.out 1; have hfz24_2 := zab BK125.out 2; have hfz24_3 := zab BK125.out 3; go_wp2
         go_meet
         case rel => exact ⟨_, (true), (by first | rfl | (simp; done) | (simp [*]; done)), H', ⟨by have := HJ3.out; have := HJ7.out; first | omega | exact Nat.le_refl _⟩, ⟨by (with_reducible repeat (first | refine zaG ?_ _ | refine zaP ?_ | refine zaH ?_ _)); exact BK125.out⟩, ⟨by repeat (first | (with_reducible first | exact HB.out | apply zad | apply zac | apply zaf | refine zaJ ?_ GE125.out) | exact HB.out)⟩⟩
       case rest =>
        clear HC19; try clear c1
        try clear c2
        try clear p2
        try clear c6
        try clear c6b0
        try clear c7
        try clear c9
        try clear c9b0
        try clear c12
        try clear c14
        try clear c20
        try clear c20b0
        try clear c20b1
        try clear c21
        try clear c21b0
        try clear c21b1
        try clear hcz10_0
        try clear hcz10_1
        try clear hcz10_2
        try clear hcz10_3
        try clear hcz11_0
        try clear hcz11_1
        try clear hcz11_2
        try clear hcz11_3
        try clear hcz15_0
        try clear hcz15_1
        try clear hcz15_2
        try clear hcz15_3
        try clear hcz17_0
        try clear hcz17_1
        try clear hcz17_2
        try clear hcz17_3
        try clear hcz22_0
        try clear hcz22_1
        try clear hcz22_2
        try clear hcz22_3
        try clear hcz23_0
        try clear hcz23_1
        try clear hcz23_2
        try clear hcz23_3
        try clear hcz24_0
        try clear hcz24_1
        try clear hcz24_2
        try clear hcz24_3
        try clear hfz10_0
        try clear hfz10_1
        try clear hfz10_2
        try clear hfz10_3
        try clear hfz11_0
        try clear hfz11_1
        try clear hfz11_2
        try clear hfz11_3
        try clear hfz15_0
        try clear hfz15_1
        try clear hfz15_2
        try clear hfz15_3
        try clear hfz17_0
        try clear hfz17_1
        try clear hfz17_2
        try clear hfz17_3
        try clear hfz22_0
        try clear hfz22_1
        try clear hfz22_2
        try clear hfz22_3
        try clear hfz23_0
        try clear hfz23_1
        try clear hfz23_2
        try clear hfz23_3
        try clear hfz24_0
        try clear hfz24_1
        try clear hfz24_2
        try clear hfz24_3
        try clear p2
        obtain ⟨kq, x38_18, rfl, HA, HJ18, BK125, HB⟩ := hcut; cases kq with
        | zero => exact absurd HA.out (by simp [zai.j2])
        | succ kj18 =>
         have H := HA.out; clear HA; simp only [zai.j2] at H; by_cases c25 : x38_18 = true
         ·subst c25
          have H1 : (some 0) = some r := by rw [if_pos rfl] at H; exact H
          clear H; have H := H1; clear H1; obtain rfl := Option.some.inj H; go_wp2
          go_ret
          exact ⟨by first | rfl | (simp [*, zay, zax] <;> rfl), by repeat (first | (with_reducible first | exact HB.out | apply zad | apply zac | apply zaf | refine zaJ ?_ GE125.out) | exact HB.out)⟩
         ·replace c25 := Bool.eq_false_iff.mpr c25
          subst c25; have H1 : (zai.l0 kj18 a1 a2 1 0 0 a0_0 a0_1 a0_2 l0_3) = some r := by rw [if_neg (show ¬ (false = true) by decide)] at H; exact H
          clear H; have H := H1; clear H1; have H' := zaa.mk H; clear H; go_wp2
          go_loopg [7, 8, 9] kj18 (fun kq v7 v8 v9 w' => ∃ (x7_4 : Int) (x8_4 : Int) (x9_4 : Int), v7 = .int .i64 x7_4 ∧ v8 = .int .i64 x8_4 ∧ v9 = .int .i64 x9_4 ∧ zaa (zai.l0 kq a1 a2 x7_4 x8_4 x9_4 a0_0 a0_1 a0_2 l0_3 = some r) ∧ zaa (kq ≤ kj18) ∧ zaa (w'.heap[gb125]? = some (.cells #[.int .u8 a0_0, .int .u8 a0_1, .int .i64 a0_2, (.slice A0_3 l0_3.length c0_3)] 27 (0, 0))) ∧ zaa (Below w.heap.size w w'))
          case atStart => exact ⟨(1), (0), (0), (by first | rfl | (simp; done) | (simp [*]; done)), (by first | rfl | (simp; done) | (simp [*]; done)), (by first | rfl | (simp; done) | (simp [*]; done)), H', ⟨Nat.le_refl _⟩, ⟨by (with_reducible repeat (first | refine zaG ?_ _ | refine zaP ?_ | refine zaH ?_ _)); exact BK125.out⟩, ⟨by repeat (first | (with_reducible first | exact HB.out | apply zad | apply zac | apply zaf | refine zaJ ?_ GE125.out) | exact HB.out)⟩⟩
          case round =>
           clear H'; try clear c1
           try clear c2
           try clear p2
           try clear c6
           try clear c6b0
           try clear c7
           try clear c9
           try clear c9b0
           try clear c12
           try clear c14
           try clear c20
           try clear c20b0
           try clear c20b1
           try clear c21
           try clear c21b0
           try clear c21b1
           try clear c25
           try clear hcz10_0
           try clear hcz10_1
           try clear hcz10_2
           try clear hcz10_3
           try clear hcz11_0
           try clear hcz11_1
           try clear hcz11_2
           try clear hcz11_3
           try clear hcz15_0
           try clear hcz15_1
           try clear hcz15_2
           try clear hcz15_3
           try clear hcz17_0
           try clear hcz17_1
           try clear hcz17_2
           try clear hcz17_3
           try clear hcz22_0
           try clear hcz22_1
           try clear hcz22_2
           try clear hcz22_3
           try clear hcz23_0
           try clear hcz23_1
           try clear hcz23_2
           try clear hcz23_3
           try clear hcz24_0
           try clear hcz24_1
           try clear hcz24_2
           try clear hcz24_3
           try clear hfz10_0
           try clear hfz10_1
           try clear hfz10_2
           try clear hfz10_3
           try clear hfz11_0
           try clear hfz11_1
           try clear hfz11_2
           try clear hfz11_3
           try clear hfz15_0
           try clear hfz15_1
           try clear hfz15_2
           try clear hfz15_3
           try clear hfz17_0
           try clear hfz17_1
           try clear hfz17_2
           try clear hfz17_3
           try clear hfz22_0
           try clear hfz22_1
           try clear hfz22_2
           try clear hfz22_3
           try clear hfz23_0
           try clear hfz23_1
           try clear hfz23_2
           try clear hfz23_3
           try clear hfz24_0
           try clear hfz24_1
           try clear hfz24_2
           try clear hfz24_3
           try clear p2
           obtain ⟨x7_4, x8_4, x9_4, rfl, rfl, rfl, HA, HK4, BK125, HB⟩ := hrel; cases gk with
           | zero => exact absurd HA.out (by simp [zai.l0])
           | succ k4 =>
            have H := HA.out; clear HA; simp only [zai.l0] at H; by_cases c26 : x9_4 < (l0_3.length : Int)
            ·rw [if_pos c26] at H
             have c26b0 : decide (x9_4 < (l0_3.length : Int)) = true := decide_eq_true c26; clear c26; by_cases c27 : 0 ≤ x9_4
             ·rw [if_pos c27] at H
              have c27b0 : decide (0 ≤ x9_4) = true := decide_eq_true c27; clear c27; replace H := Option.bind_eq_some_iff.mp H; obtain ⟨t128, A280, H⟩ := H; replace H : (if t128 = 0 then (some 0) else (zai.l0 k4 a1 a2 (wrap64 (x7_4 + t128)) (wrap64 (x8_4 + ((zbm l0_3 x9_4).f2))) (wrap64 (x9_4 + 1)) a0_0 a0_1 a0_2 l0_3)) = some r := H
              have A28 := zaa.mk A280; clear A280; by_cases c29 : t128 = 0
              ·rw [if_pos c29] at H
               have c29b0 : (t128 == 0) = true := beq_iff_eq.mpr c29; have c29b1 : (t128 != 0) = false := bne_eq_false_iff_eq.mpr c29; clear c29; obtain rfl := Option.some.inj H; have hcz30_0 : wr.cell? ⟨gb125, 0, none⟩ = some (.int .u8 a0_0) := (zae BK125.out 0).trans rfl; have hcz30_1 : wr.cell? ⟨gb125, 1, none⟩ = some (.int .u8 a0_1) := (zae BK125.out 1).trans rfl; have hcz30_2 : wr.cell? ⟨gb125, 2, none⟩ = some (.int .i64 a0_2) := (zae BK125.out 2).trans rfl; have hcz30_3 : wr.cell? ⟨gb125, 3, none⟩ = some (.slice A0_3 l0_3.length c0_3) := (zae BK125.out 3).trans rfl; have hfz30_0 := zab BK125.out 0; have hfz30_1 := zab BK125.out 1; have hfz30_2 := zab BK125.out 2; have hfz30_3 := zab BK125.out 3; have p127 : 0 ≤ (x9_4 : Int) := of_decide_eq_true (by assumption)
               have q127 : x9_4 < (l0_3.length : Int) := of_decide_eq_true (by assumption)
               obtain ⟨ad127, A127_3, c127_3, e127, hx127_0, hx127_1, hx127_2, hx127_3, hl127_3, hi127_3⟩ := at_T27 HR0_3.out x9_4 p127 q127; cases e127; replace hx127_0 := (HB.out.cell (World.block_lt_of_cell? w _ hx127_0)).trans hx127_0; replace hx127_1 := (HB.out.cell (World.block_lt_of_cell? w _ hx127_1)).trans hx127_1; replace hx127_2 := (HB.out.cell (World.block_lt_of_cell? w _ hx127_2)).trans hx127_2; replace hx127_3 := (HB.out.cell (World.block_lt_of_cell? w _ hx127_3)).trans hx127_3; have HR127_3 := zaa.mk hi127_3; have HC127_3 := zaa.mk hl127_3; clear hi127_3 hl127_3; replace p127 := eq_true p127; replace q127 := eq_true q127; go_wp2_with (first | ((with_reducible refine zaO (f := 69) rfl ?_); refine zbg (some 56) rfl rfl Try.func69 (by kernel_rfl) rfl #[.agg #[.int .u8 ((zbm l0_3 x9_4).f0), .int .u8 ((zbm l0_3 x9_4).f1), .int .i64 ((zbm l0_3 x9_4).f2), .slice A127_3 ((zbm l0_3 x9_4).f3).length c127_3], .int .i64 (wrap64 (a1 + 1)), .int .i64 (wrap64 (a2 - x7_4))] rfl (by (try simp only [List.map_toArray, List.map_cons, List.map_nil]); first | done | rfl | (simp only [List.length_drop, List.length_take]; rfl)) ?_; (with_reducible refine (ih k4 (by have := HJ3.out; have := HJ7.out; have := HJ18.out; have := HK4.out; omega) ((zbm l0_3 x9_4).f0) ((zbm l0_3 x9_4).f1) ((zbm l0_3 x9_4).f2) _ _ ((zbm l0_3 x9_4).f3) (wrap64 (a1 + 1)) (wrap64 (a2 - x7_4)) t128 _ ?side1 ?side2 A28.out).mono ?_); (case side1 => repeat (first | exact (Kd.za4 HR127_3.out HB.out) | (with_reducible refine Kd.C_alloc ?_ _) | (with_reducible refine Kd.C_drewN ?_ _) | (with_reducible refine Kd.C_drew ?_))); (case side2 => exact HC127_3.out); rintro e w31 ⟨rfl, hb⟩; refine ⟨_, rfl, ?_⟩; have n0_ := zaa.mk (zaU (g := gb125) (o := .cells #[.int .u8 a0_0, .int .u8 a0_1, .int .i64 a0_2, .slice (some ad127) l0_3.length c0_3] 27 (0, 0)) (by (with_reducible repeat (first | refine zaG ?_ _ | refine zaP ?_ | refine zaH ?_ _)); exact BK125.out) hb); have n1_ := zaa.mk (zan (by repeat (first | (with_reducible first | exact HB.out | apply zad | apply zac | apply zaf | refine zaJ ?_ GE125.out) | exact HB.out)) hb); clear BK125; clear HB; have BK125 := n0_; have HB := n1_; clear n0_ n1_; (try clear hb); (try clear hb2); (try clear hk); (try clear hi)))
               go_ret
               exact ⟨by first | rfl | (simp [*, zay, zax] <;> rfl), by repeat (first | (with_reducible first | exact HB.out | apply zad | apply zac | apply zaf | refine zaJ ?_ GE125.out) | exact HB.out)⟩
              ·rw [if_neg c29] at H
               have c29b0 : (t128 == 0) = false := beq_eq_false_iff_ne.mpr c29; have c29b1 : (t128 != 0) = true := bne_iff_ne.mpr c29; have H' := zaa.mk H; clear H; have hcz32_0 : wr.cell? ⟨gb125, 0, none⟩ = some (.int .u8 a0_0) := (zae BK125.out 0).trans rfl; have hcz32_1 : wr.cell? ⟨gb125, 1, none⟩ = some (.int .u8 a0_1) := (zae BK125.out 1).trans rfl; have hcz32_2 : wr.cell? ⟨gb125, 2, none⟩ = some (.int .i64 a0_2) := (zae BK125.out 2).trans rfl; have hcz32_3 : wr.cell? ⟨gb125, 3, none⟩ = some (.slice A0_3 l0_3.length c0_3) := (zae BK125.out 3).trans rfl; have hfz32_0 := zab BK125.out 0; have hfz32_1 := zab BK125.out 1; have hfz32_2 := zab BK125.out 2; have hfz32_3 := zab BK125.out 3; have p127 : 0 ≤ (x9_4 : Int) := of_decide_eq_true (by assumption)
               have q127 : x9_4 < (l0_3.length : Int) := of_decide_eq_true (by assumption)
               obtain ⟨ad127, A127_3, c127_3, e127, hx127_0, hx127_1, hx127_2, hx127_3, hl127_3, hi127_3⟩ := at_T27 HR0_3.out x9_4 p127 q127; cases e127; replace hx127_0 := (HB.out.cell (World.block_lt_of_cell? w _ hx127_0)).trans hx127_0; replace hx127_1 := (HB.out.cell (World.block_lt_of_cell? w _ hx127_1)).trans hx127_1; replace hx127_2 := (HB.out.cell (World.block_lt_of_cell? w _ hx127_2)).trans hx127_2; replace hx127_3 := (HB.out.cell (World.block_lt_of_cell? w _ hx127_3)).trans hx127_3; have HR127_3 := zaa.mk hi127_3; have HC127_3 := zaa.mk hl127_3; clear hi127_3 hl127_3; replace p127 := eq_true p127; replace q127 := eq_true q127; go_wp2_with (first | ((with_reducible refine zaO (f := 69) rfl ?_); refine zbg (some 56) rfl rfl Try.func69 (by kernel_rfl) rfl #[.agg #[.int .u8 ((zbm l0_3 x9_4).f0), .int .u8 ((zbm l0_3 x9_4).f1), .int .i64 ((zbm l0_3 x9_4).f2), .slice A127_3 ((zbm l0_3 x9_4).f3).length c127_3], .int .i64 (wrap64 (a1 + 1)), .int .i64 (wrap64 (a2 - x7_4))] rfl (by (try simp only [List.map_toArray, List.map_cons, List.map_nil]); first | done | rfl | (simp only [List.length_drop, List.length_take]; rfl)) ?_; (with_reducible refine (ih k4 (by have := HJ3.out; have := HJ7.out; have := HJ18.out; have := HK4.out; omega) ((zbm l0_3 x9_4).f0) ((zbm l0_3 x9_4).f1) ((zbm l0_3 x9_4).f2) _ _ ((zbm l0_3 x9_4).f3) (wrap64 (a1 + 1)) (wrap64 (a2 - x7_4)) t128 _ ?side1 ?side2 A28.out).mono ?_); (case side1 => repeat (first | exact (Kd.za4 HR127_3.out HB.out) | (with_reducible refine Kd.C_alloc ?_ _) | (with_reducible refine Kd.C_drewN ?_ _) | (with_reducible refine Kd.C_drew ?_))); (case side2 => exact HC127_3.out); rintro e w33 ⟨rfl, hb⟩; refine ⟨_, rfl, ?_⟩; have n0_ := zaa.mk (zaU (g := gb125) (o := .cells #[.int .u8 a0_0, .int .u8 a0_1, .int .i64 a0_2, .slice (some ad127) l0_3.length c0_3] 27 (0, 0)) (by (with_reducible repeat (first | refine zaG ?_ _ | refine zaP ?_ | refine zaH ?_ _)); exact BK125.out) hb); have n1_ := zaa.mk (zan (by repeat (first | (with_reducible first | exact HB.out | apply zad | apply zac | apply zaf | refine zaJ ?_ GE125.out) | exact HB.out)) hb); clear BK125; clear HB; have BK125 := n0_; have HB := n1_; clear n0_ n1_; (try clear hb); (try clear hb2); (try clear hk); (try clear hi); have hcz34_0 : w33.cell? ⟨gb125, 0, none⟩ = some (.int .u8 a0_0) := (zae BK125.out 0).trans rfl; have hcz34_1 : w33.cell? ⟨gb125, 1, none⟩ = some (.int .u8 a0_1) := (zae BK125.out 1).trans rfl; have hcz34_2 : w33.cell? ⟨gb125, 2, none⟩ = some (.int .i64 a0_2) := (zae BK125.out 2).trans rfl; have hcz34_3 : w33.cell? ⟨gb125, 3, none⟩ = some (.slice (some ad127) l0_3.length c0_3) := (zae BK125.out 3).trans rfl; have hfz34_0 := zab BK125.out 0; have hfz34_1 := zab BK125.out 1; have hfz34_2 := zab BK125.out 2; have hfz34_3 := zab BK125.out 3; have p129 : 0 ≤ (x9_4 : Int) := of_decide_eq_true (by assumption); have q129 : x9_4 < (l0_3.length : Int) := of_decide_eq_true (by assumption); obtain ⟨ad129, A129_3, c129_3, e129, hx129_0, hx129_1, hx129_2, hx129_3, hl129_3, hi129_3⟩ := at_T27 HR0_3.out x9_4 p129 q129; obtain rfl : ad127 = ad129 := (by injection e129); replace hx129_0 := (HB.out.cell (World.block_lt_of_cell? w _ hx129_0)).trans hx129_0; replace hx129_1 := (HB.out.cell (World.block_lt_of_cell? w _ hx129_1)).trans hx129_1; replace hx129_2 := (HB.out.cell (World.block_lt_of_cell? w _ hx129_2)).trans hx129_2; replace hx129_3 := (HB.out.cell (World.block_lt_of_cell? w _ hx129_3)).trans hx129_3; have HR129_3 := zaa.mk hi129_3; have HC129_3 := zaa.mk hl129_3; clear hi129_3 hl129_3; replace p129 := eq_true p129; replace q129 := eq_true q129))
               go_roundg k4
               case measure => have := HJ3.out; have := HJ7.out; have := HJ18.out; have := HK4.out; omega
               case rel => exact ⟨(wrap64 (x7_4 + t128)), (wrap64 (x8_4 + ((zbm l0_3 x9_4).f2))), (wrap64 (x9_4 + 1)), (by first | rfl | (simp; done) | (simp [*]; done)), (by first | rfl | (simp; done) | (simp [*]; done)), (by first | rfl | (simp; done) | (simp [*]; done)), H', ⟨by have := HJ3.out; have := HJ7.out; have := HJ18.out; have := HK4.out; omega⟩, ⟨by (with_reducible repeat (first | refine zaG ?_ _ | refine zaP ?_ | refine zaH ?_ _)); exact BK125.out⟩, ⟨by repeat (first | (with_reducible first | exact HB.out | apply zad | apply zac | apply zaf | refine zaJ ?_ GE125.out) | exact HB.out)⟩⟩
             ·rw [if_neg c27] at H
              exact absurd H (by simp)
            ·rw [if_neg c26] at H
             have c26b0 : decide (x9_4 < (l0_3.length : Int)) = false := decide_eq_false c26; clear c26; by_cases c35 : x8_4 = a0_2
             ·rw [if_pos c35] at H
              have c35b0 : (x8_4 == a0_2) = true := beq_iff_eq.mpr c35; have c35b1 : (x8_4 != a0_2) = false := bne_eq_false_iff_eq.mpr c35; clear c35; by_cases c36 : x8_4 > 1099511627776
              ·rw [if_pos c36] at H
               have c36b0 : decide (1099511627776 < x8_4) = true := decide_eq_true c36; clear c36; obtain rfl := Option.some.inj H; have hcz37_0 : wr.cell? ⟨gb125, 0, none⟩ = some (.int .u8 a0_0) := (zae BK125.out 0).trans rfl; have hcz37_1 : wr.cell? ⟨gb125, 1, none⟩ = some (.int .u8 a0_1) := (zae BK125.out 1).trans rfl; have hcz37_2 : wr.cell? ⟨gb125, 2, none⟩ = some (.int .i64 a0_2) := (zae BK125.out 2).trans rfl; have hcz37_3 : wr.cell? ⟨gb125, 3, none⟩ = some (.slice A0_3 l0_3.length c0_3) := (zae BK125.out 3).trans rfl; have hfz37_0 := zab BK125.out 0; have hfz37_1 := zab BK125.out 1; have hfz37_2 := zab BK125.out 2; have hfz37_3 := zab BK125.out 3; go_wp2
               go_ret
               exact ⟨by first | rfl | (simp [*, zay, zax] <;> rfl), by repeat (first | (with_reducible first | exact HB.out | apply zad | apply zac | apply zaf | refine zaJ ?_ GE125.out) | exact HB.out)⟩
              ·rw [if_neg c36] at H
               have c36b0 : decide (1099511627776 < x8_4) = false := decide_eq_false c36; clear c36; obtain rfl := Option.some.inj H; have hcz38_0 : wr.cell? ⟨gb125, 0, none⟩ = some (.int .u8 a0_0) := (zae BK125.out 0).trans rfl; have hcz38_1 : wr.cell? ⟨gb125, 1, none⟩ = some (.int .u8 a0_1) := (zae BK125.out 1).trans rfl; have hcz38_2 : wr.cell? ⟨gb125, 2, none⟩ = some (.int .i64 a0_2) := (zae BK125.out 2).trans rfl; have hcz38_3 : wr.cell? ⟨gb125, 3, none⟩ = some (.slice A0_3 l0_3.length c0_3) := (zae BK125.out 3).trans rfl; have hfz38_0 := zab BK125.out 0; have hfz38_1 := zab BK125.out 1; have hfz38_2 := zab BK125.out 2; have hfz38_3 := zab BK125.out 3; go_wp2
               go_ret
               exact ⟨by first | rfl | (simp [*, zay, zax] <;> rfl), by repeat (first | (with_reducible first | exact HB.out | apply zad | apply zac | apply zaf | refine zaJ ?_ GE125.out) | exact HB.out)⟩
             ·rw [if_neg c35] at H
              have c35b0 : (x8_4 == a0_2) = false := beq_eq_false_iff_ne.mpr c35; have c35b1 : (x8_4 != a0_2) = true := bne_iff_ne.mpr c35; obtain rfl := Option.some.inj H; have hcz39_0 : wr.cell? ⟨gb125, 0, none⟩ = some (.int .u8 a0_0) := (zae BK125.out 0).trans rfl; have hcz39_1 : wr.cell? ⟨gb125, 1, none⟩ = some (.int .u8 a0_1) := (zae BK125.out 1).trans rfl; have hcz39_2 : wr.cell? ⟨gb125, 2, none⟩ = some (.int .i64 a0_2) := (zae BK125.out 2).trans rfl; have hcz39_3 : wr.cell? ⟨gb125, 3, none⟩ = some (.slice A0_3 l0_3.length c0_3) := (zae BK125.out 3).trans rfl; have hfz39_0 := zab BK125.out 0; have hfz39_1 := zab BK125.out 1; have hfz39_2 := zab BK125.out 2; have hfz39_3 := zab BK125.out 3; go_wp2
              go_ret
              exact ⟨by first | rfl | (simp [*, zay, zax] <;> rfl), by repeat (first | (with_reducible first | exact HB.out | apply zad | apply zac | apply zaf | refine zaJ ?_ GE125.out) | exact HB.out)⟩
def za3.f (k : Nat) (a0_0 : Int) (a0_1 : Int) (a0_2 : Int) (l0_3 : List (S27)) : Option (Bool) := (zai.f k a0_0 a0_1 a0_2 l0_3 1 1048576).bind fun t131 => (some (decide (t131 > 0)))
theorem za3.mono : ∀ a0 a1 a2 a3 k, LeO (za3.f k a0 a1 a2 a3) (za3.f (k + 1) a0 a1 a2 a3) := by
 intro a0 a1 a2 a3 k
 unfold za3.f
 repeat' first
   | (with_reducible exact zai.mono _ _ _ _ _ _ _)
   | (with_reducible exact LeO.refl _)
   | (with_reducible exact LeO.none _)
   | (with_reducible refine LeO.ite ?_ ?_)
   | (with_reducible refine LeO.bind ?_ (fun _ => ?_))
   | exact zai.mono _ _ _ _ _ _ _
   | exact LeO.none _
   | refine LeO.ite ?_ ?_
   | refine LeO.bind ?_ (fun _ => ?_)
set_option maxHeartbeats 8000000 in
set_option maxRecDepth 100000 in
theorem za3.calls (k : Nat) (a0_0 : Int) (a0_1 : Int) (a0_2 : Int) (A0_3 : Option Addr) (c0_3 : Nat) (l0_3 : List (S27)) (r : Bool) (w : World) (hr0_3 : Kd.C k27 w A0_3 l0_3.length l0_3) (hc0_3 : l0_3.length ≤ c0_3) (h : za3.f k a0_0 a0_1 a0_2 l0_3 = some r) :
  Calls Try.prog 56 #[.agg #[.int .u8 a0_0, .int .u8 a0_1, .int .i64 a0_2, .slice A0_3 l0_3.length c0_3]] w fun e w' => e = .returned (.bool r) ∧ Below w.heap.size w w' := by
 have hu27 := Try.underlying27; have HR0_3 := zaa.mk hr0_3; have HC0_3 := zaa.mk hc0_3; clear hr0_3 hc0_3; have HB := zaa.mk (Below.refl w.heap.size w); have H : ((zai.f k a0_0 a0_1 a0_2 l0_3 1 1048576).bind fun t131 => (some (decide (t131 > 0)))) = some r := h
 clear h; replace H := Option.bind_eq_some_iff.mp H; obtain ⟨t131, A20, H⟩ := H; replace H : (some (decide (t131 > 0))) = some r := H; have A2 := zaa.mk A20; clear A20; obtain rfl := Option.some.inj H; go_enter Try.func56, Try.ntmps56
 go_wp2_with (first | ((with_reducible refine za5 (N := 1) rfl ?_); refine zbu ?hg (N := 1) ?hd (cs := #[.int .u8 a0_0, .int .u8 a0_1, .int .i64 a0_2, .slice A0_3 l0_3.length c0_3]) (t := 27) ?hr ?_; (case hd => rfl); (case hg => rfl); (case hr => first | (go_simp; done) | (go_simp; rfl)); intro gb130 hg w3 hbox hb; have n0_ := zaa.mk (zan (by repeat (first | exact HB.out | apply zad | apply zac | apply zaf)) hb); have n1_ := zaa.mk (hbox); have n2_ := zaa.mk ((by rw [hg]; exact (zaB (by repeat (first | exact HB.out | apply zad | apply zac | apply zaf))) : w.heap.size ≤ gb130)); have n3_ := zaa.mk ((by rw [hg]; exact (zaB (by repeat (first | exact HB.out | apply zad | apply zac | apply zaf))) : w.heap.size ≤ gb130)); clear HB; have HB := n0_; have BK130 := n1_; have GW130 := n2_; have GE130 := n3_; clear n0_ n1_ n2_ n3_; clear hb hbox hg; have hcz4_0 : w3.cell? ⟨gb130, 0, none⟩ = some (.int .u8 a0_0) := (zae BK130.out 0).trans rfl; have hcz4_1 : w3.cell? ⟨gb130, 1, none⟩ = some (.int .u8 a0_1) := (zae BK130.out 1).trans rfl; have hcz4_2 : w3.cell? ⟨gb130, 2, none⟩ = some (.int .i64 a0_2) := (zae BK130.out 2).trans rfl; have hcz4_3 : w3.cell? ⟨gb130, 3, none⟩ = some (.slice A0_3 l0_3.length c0_3) := (zae BK130.out 3).trans rfl; have hfz4_0 := zab BK130.out 0; have hfz4_1 := zab BK130.out 1; have hfz4_2 := zab BK130.out 2; have hfz4_3 := zab BK130.out 3) | ((with_reducible refine zaO (f := 69) rfl ?_); refine zbg (some 4) rfl rfl Try.func69 (by kernel_rfl) rfl #[.agg #[.int .u8 a0_0, .int .u8 a0_1, .int .i64 a0_2, .slice A0_3 l0_3.length c0_3], .int .i64 1, .int .i64 1048576] rfl (by (try simp only [List.map_toArray, List.map_cons, List.map_nil]); first | done | rfl | (simp only [List.length_drop, List.length_take]; rfl)) ?_; (with_reducible refine (zai.calls k a0_0 a0_1 a0_2 _ _ l0_3 1 1048576 t131 _ ?side1 ?side2 A2.out).mono ?_); (case side1 => repeat (first | exact (Kd.za4 HR0_3.out HB.out) | (with_reducible refine Kd.C_alloc ?_ _) | (with_reducible refine Kd.C_drewN ?_ _) | (with_reducible refine Kd.C_drew ?_))); (case side2 => exact HC0_3.out); rintro e w5 ⟨rfl, hb⟩; refine ⟨_, rfl, ?_⟩; have n0_ := zaa.mk (zaU (g := gb130) (o := .cells #[.int .u8 a0_0, .int .u8 a0_1, .int .i64 a0_2, .slice A0_3 l0_3.length c0_3] 27 (0, 0)) (by (with_reducible repeat (first | refine zaG ?_ _ | refine zaP ?_ | refine zaH ?_ _)); exact BK130.out) hb); have n1_ := zaa.mk (zan (by repeat (first | (with_reducible first | exact HB.out | apply zad | apply zac | apply zaf | refine zaJ ?_ GE130.out) | exact HB.out)) hb); clear BK130; clear HB; have BK130 := n0_; have HB := n1_; clear n0_ n1_; (try clear hb); (try clear hb2); (try clear hk); (try clear hi)))
 go_ret
 exact ⟨by first | rfl | (simp [*, zay, zax] <;> rfl), by repeat (first | (with_reducible first | exact HB.out | apply zad | apply zac | apply zaf | refine zaJ ?_ GE130.out) | exact HB.out)⟩
end
theorem append_elem {α : Type} (d : Kd α) (e t : Nat) {X Y : World} {base n cv bytes : Nat} {ok : Nat → Prop} {Av : Option Addr} {L : List α} {z : Value} (hR : d.R e X base ok (.slice Av n cv) L) (hbase : base ≤ X.heap.size) (hfresh : ∀ k, X.heap.size ≤ k → ok k)
  (ht : Try.prog.underlying t = some (.slice e)) (hinfo : (Try.prog.info? e).map (fun i => (i.zero, i.size, i.bytes)) = some (some z, d.sz, bytes)) (hzs : z.cells.size = d.sz) (hs0 : 0 < d.sz) (hb0 : 0 < bytes) (hl : (L.length + 1) * bytes ≤ 140737488355328)
  (hbY : Below X.heap.size X Y) (p : α) (cs : List Value) (hnew : Y.heap[X.heap.size]? = some (.cells cs.toArray e (0, 0))) (hp : d.M Y base (fun _ => False) p cs) (hcs : cs.length = d.sz) (h1 : ∀ u ∈ cs, u.oneCell' = true) :
  ∃ g cap w1, (Builtin.append_ #[t, t] t #[.slice Av n cv, .slice (some ⟨X.heap.size, 0, none⟩) 1 1]).run Try.prog Y = .ok (.slice (some ⟨g, 0, none⟩) (n + 1) cap) w1 ∧
   X.grownBy w1 (Value.slice Av n cv).ownBlock ∧ ((Value.slice Av n cv).ownBlock = some g ∨ X.heap.size ≤ g) ∧ base ≤ g ∧ n = L.length ∧
   d.R e w1 base ok (.slice (some ⟨g, 0, none⟩) (n + 1) cap) (L ++ [p]) := by
 obtain ⟨i0, hi, hzz⟩ := Option.map_eq_some_iff.1 hinfo; simp only [Prod.mk.injEq] at hzz; obtain ⟨hz0, hz1, hz2⟩ := hzz; have hn : n = L.length := (Kd.zbB hR).1; have hgY : X.grownBy Y none := ⟨hbY.os, hbY.tape, hbY.output, hbY.size, fun q hq _ => hbY.block q hq⟩
 have hRY := Kd.zbE hR hbY; obtain ⟨h0, inner, hown, hr⟩ := hRY; rw [← hn] at hown; obtain ⟨v1, w1, hrun, hown1, hg1, hnil, hat⟩ := run_append_own_at (P := Try.prog) (w := Y) base t t e i0 z d.sz bytes ht hi hz0 hz1 hz2 hzs hs0 _ n inner hown ⟨X.heap.size, 0, none⟩ 1 1 cs (by rw [hcs, Nat.one_mul])
  (fun j u hu => by rw [show (⟨X.heap.size, 0, none⟩ : Addr).add j = ⟨X.heap.size, j, none⟩ by simp [Addr.add, eq_comm], zae hnew j, List.getElem?_toArray]; exact hu) h1
  (by simp only [maxLen]; rw [hn]; have : L.length + 1 ≤ (L.length + 1) * bytes := Nat.le_mul_of_pos_right _ hb0; omega) (by rw [hn]; exact hl) (Nat.le_trans hbase hbY.size)
 obtain ⟨g, cap, cur, rfl, hbg, hcur, hncap, hcapm, hcs', htake⟩ : ∃ g cap cur, v1 = .slice (some ⟨g, 0, none⟩) (n + 1) cap ∧ base ≤ g ∧ w1.heap[g]? = some (.cells cur e (0, 0)) ∧ n + 1 ≤ cap ∧ cap ≤ maxLen ∧ cur.size = cap * d.sz ∧ cur.toList.take ((n + 1) * d.sz) = inner ++ cs := by
  rcases hown1.2 with ⟨_, h⟩ | h
  ·omega
  ·exact h
 have hat' : (Value.slice (some ⟨g, 0, none⟩) (n + 1) cap).ownBlock = (Value.slice Av n cv).ownBlock ∨ ∃ b, (Value.slice (some ⟨g, 0, none⟩) (n + 1) cap).ownBlock = some b ∧ Y.heap.size ≤ b := hat.imp_right (fun h => ⟨_, h, Nat.le_refl _⟩)
 have hgX : X.grownBy w1 (Value.slice Av n cv).ownBlock := World.grownBy.trans ⟨hbY.os, hbY.tape, hbY.output, hbY.size, fun q hq _ => hbY.block q hq⟩ hg1
 have hgo : (Value.slice Av n cv).ownBlock = some g ∨ X.heap.size ≤ g := by
  rcases hat' with h | ⟨b, h, hb⟩
  ·exact .inl (by rw [← h]; rfl)
  ·simp only [Value.ownBlock, Option.some.injEq] at h
   exact .inr (by have := hbY.size; omega)
 exact ⟨g, cap, w1, hrun, hgX, hgo, hbg, hn, Kd.R_appended h0 hr hp (fun _ h => h.elim) (fun q hq => hfresh q (Nat.le_trans hbY.size hq)) (by rw [← hn]; exact hown1) hg1 hat'⟩
section
attribute [local go_sem] zbk zbi zbz zby zbb zba zbj zbh
def zaY.j0 : Nat → Int → Bool → Option (List Int)
 | 0, _, _ => none
 | k + 1, x3, x4 => if x4 = true then (some (([59] : List Int))) else (if x3 = 52 then (some (([59, 52] : List Int))) else (if x3 = 60 then (some (([60] : List Int))) else (some ([] : List Int))))
def zaY.f (k : Nat) (a0 : Int) : Option (List Int) := if a0 = 53 then (zaY.j0 k a0 (a0 == 53)) else (if a0 = 54 then (zaY.j0 k a0 (a0 == 54)) else (if a0 = 56 then (zaY.j0 k a0 (a0 == 56)) else (if a0 = 57 then (zaY.j0 k a0 (a0 == 57)) else (if a0 = 58 then (zaY.j0 k a0 (a0 == 58)) else (zaY.j0 k a0 (a0 == 59))))))
theorem zaY.zbn : ∀ k, (∀ y0 y1, LeO (zaY.j0 k y0 y1) (zaY.j0 (k + 1) y0 y1))
 | 0 => fun _ _ r h => by simp [zaY.j0] at h
 | k + 1 => by
  have ih0 := zaY.zbn k
  ·intro y0 y1
   unfold zaY.j0
   repeat' first
   | (with_reducible exact ih0 _ _)
   | (with_reducible exact LeO.refl _)
   | (with_reducible exact LeO.none _)
   | (with_reducible refine LeO.ite ?_ ?_)
   | (with_reducible refine LeO.bind ?_ (fun _ => ?_))
theorem zaY.mono : ∀ a0 k, LeO (zaY.f k a0) (zaY.f (k + 1) a0) := by
 intro a0 k
 have ih0 := zaY.zbn k; unfold zaY.f
 repeat' first
   | (with_reducible exact ih0 _ _)
   | (with_reducible exact LeO.refl _)
   | (with_reducible exact LeO.none _)
   | (with_reducible refine LeO.ite ?_ ?_)
   | (with_reducible refine LeO.bind ?_ (fun _ => ?_))
set_option maxHeartbeats 8000000 in
set_option maxRecDepth 100000 in
theorem zaY.calls (k : Nat) (a0 : Int) (r : List Int) (w : World) (h : zaY.f k a0 = some r) :
  Calls Try.prog 55 #[.int .u8 a0] w fun e w' => ∃ v0_ : Value, e = .returned (v0_) ∧ Kd.R (Kd.int .u8) 5 w' w.heap.size (fun _ => True) v0_ r ∧ Below w.heap.size w w' := by
 have HB := zaa.mk (Below.refl w.heap.size w); have H : (if a0 = 53 then (zaY.j0 k a0 (a0 == 53)) else (if a0 = 54 then (zaY.j0 k a0 (a0 == 54)) else (if a0 = 56 then (zaY.j0 k a0 (a0 == 56)) else (if a0 = 57 then (zaY.j0 k a0 (a0 == 57)) else (if a0 = 58 then (zaY.j0 k a0 (a0 == 58)) else (zaY.j0 k a0 (a0 == 59))))))) = some r := h
 clear h; have HC2 := zaa.mk H; clear H; go_enter Try.func55, Try.ntmps55
 go_upto_if 4 with (fail)
 go_cut [4] (fun v4 wc => ∃ (kq : Nat) (x4_1 : Bool), v4 = .bool x4_1 ∧ zaa (zaY.j0 kq a0 x4_1 = some r) ∧ zaa (kq ≤ k) ∧ zaa (Below w.heap.size w wc))
 case first =>
  have H := HC2.out; clear HC2; by_cases c3 : a0 = 53
  ·rw [if_pos c3] at H
   have c3b0 : (a0 == 53) = true := beq_iff_eq.mpr c3; have c3b1 : (a0 != 53) = false := bne_eq_false_iff_eq.mpr c3; clear c3
   (first | rw [c3b0] | (simp only [i64_w, i32_w]; rw [c3b0]) | skip)
   have H' := zaa.mk H; clear H; go_wp2
   go_meet
   case rel => exact ⟨_, ((a0 == 53)), (by first | rfl | (simp; done) | (simp [*]; done)), H', ⟨by first | omega | exact Nat.le_refl _⟩, ⟨by repeat (first | exact HB.out | apply zad | apply zac | apply zaf)⟩⟩
  ·rw [if_neg c3] at H
   have c3b0 : (a0 == 53) = false := beq_eq_false_iff_ne.mpr c3; have c3b1 : (a0 != 53) = true := bne_iff_ne.mpr c3
   (first | rw [c3b0] | (simp only [i64_w, i32_w]; rw [c3b0]) | skip)
   by_cases c4 : a0 = 54
   ·rw [if_pos c4] at H
    have c4b0 : (a0 == 54) = true := beq_iff_eq.mpr c4; have c4b1 : (a0 != 54) = false := bne_eq_false_iff_eq.mpr c4; clear c4; have H' := zaa.mk H; clear H; go_wp2
    go_meet
    case rel => exact ⟨_, ((a0 == 54)), (by first | rfl | (simp; done) | (simp [*]; done)), H', ⟨by first | omega | exact Nat.le_refl _⟩, ⟨by repeat (first | exact HB.out | apply zad | apply zac | apply zaf)⟩⟩
   ·rw [if_neg c4] at H
    have c4b0 : (a0 == 54) = false := beq_eq_false_iff_ne.mpr c4; have c4b1 : (a0 != 54) = true := bne_iff_ne.mpr c4; by_cases c5 : a0 = 56
    ·rw [if_pos c5] at H
     have c5b0 : (a0 == 56) = true := beq_iff_eq.mpr c5; have c5b1 : (a0 != 56) = false := bne_eq_false_iff_eq.mpr c5; clear c5; have H' := zaa.mk H; clear H; go_wp2
     go_meet
     case rel => exact ⟨_, ((a0 == 56)), (by first | rfl | (simp; done) | (simp [*]; done)), H', ⟨by first | omega | exact Nat.le_refl _⟩, ⟨by repeat (first | exact HB.out | apply zad | apply zac | apply zaf)⟩⟩
    ·rw [if_neg c5] at H
     have c5b0 : (a0 == 56) = false := beq_eq_false_iff_ne.mpr c5; have c5b1 : (a0 != 56) = true := bne_iff_ne.mpr c5; by_cases c6 : a0 = 57
     ·rw [if_pos c6] at H
      have c6b0 : (a0 == 57) = true := beq_iff_eq.mpr c6; have c6b1 : (a0 != 57) = false := bne_eq_false_iff_eq.mpr c6; clear c6; have H' := zaa.mk H; clear H; go_wp2
      go_meet
      case rel => exact ⟨_, ((a0 == 57)), (by first | rfl | (simp; done) | (simp [*]; done)), H', ⟨by first | omega | exact Nat.le_refl _⟩, ⟨by repeat (first | exact HB.out | apply zad | apply zac | apply zaf)⟩⟩
     ·rw [if_neg c6] at H
      have c6b0 : (a0 == 57) = false := beq_eq_false_iff_ne.mpr c6; have c6b1 : (a0 != 57) = true := bne_iff_ne.mpr c6; by_cases c7 : a0 = 58
      ·rw [if_pos c7] at H
       have c7b0 : (a0 == 58) = true := beq_iff_eq.mpr c7; have c7b1 : (a0 != 58) = false := bne_eq_false_iff_eq.mpr c7; clear c7; have H' := zaa.mk H; clear H; go_wp2
       go_meet
       case rel => exact ⟨_, ((a0 == 58)), (by first | rfl | (simp; done) | (simp [*]; done)), H', ⟨by first | omega | exact Nat.le_refl _⟩, ⟨by repeat (first | exact HB.out | apply zad | apply zac | apply zaf)⟩⟩
      ·rw [if_neg c7] at H
       have c7b0 : (a0 == 58) = false := beq_eq_false_iff_ne.mpr c7; have c7b1 : (a0 != 58) = true := bne_iff_ne.mpr c7; have H' := zaa.mk H; clear H; go_wp2
       go_meet
       case rel => exact ⟨_, ((a0 == 59)), (by first | rfl | (simp; done) | (simp [*]; done)), H', ⟨by first | omega | exact Nat.le_refl _⟩, ⟨by repeat (first | exact HB.out | apply zad | apply zac | apply zaf)⟩⟩
 case rest =>
  clear HC2; try clear p2
  try clear c3
  try clear c3b0
  try clear c3b1
  try clear c4
  try clear c4b0
  try clear c4b1
  try clear c5
  try clear c5b0
  try clear c5b1
  try clear c6
  try clear c6b0
  try clear c6b1
  try clear c7
  try clear c7b0
  try clear c7b1
  obtain ⟨kq, x4_1, rfl, HA, HJ1, HB⟩ := hcut; cases kq with
  | zero => exact absurd HA.out (by simp [zaY.j0])
  | succ kj1 =>
   have H := HA.out; clear HA; simp only [zaY.j0] at H; by_cases c8 : x4_1 = true
   ·subst c8
    have H1 : (some (([59] : List Int))) = some r := by rw [if_pos rfl] at H; exact H
    clear H; have H := H1; clear H1; obtain ⟨y112, hy112⟩ : ∃ y_ : List Int, y_ = (([59] : List Int)) := ⟨_, rfl⟩; replace H : (some y112) = some r := by first | (rw [hy112]; with_reducible exact H) | (have H2_ := (Option.bind_some _ _).symm.trans H; rw [hy112]; with_reducible exact H2_) | (have H2_ := (Option.bind_some _ _).symm.trans H; with_reducible exact H2_) | with_reducible exact H | (rw [hy112]; exact H) | exact H
    have Ny112 := zaa.mk hy112; clear hy112; obtain rfl := Option.some.inj H; go_wp2_with (first | ((with_reducible refine za5 (N := 11) rfl ?_); refine Kd.R_lit (Kd.int .u8) _ 5 ?hg (N := 11) ?hd (xs := ([59] : List Int)) (inner := [.int .u8 59]) (ok := fun _ => True) (okp := fun _ => True) ?hr ?hp (fun _ hk => hk) trivial (Below.refl _ _) (Nat.le_refl _) (by simp) ?_; (case hd => rfl); (case hg => rfl); (case hr => first | (go_simp; done) | (go_simp; rfl)); (case hp => exact (Reps.one (show Kd.M (Kd.int .u8) _ _ _ 59 [.int .u8 59] from rfl) (Reps.none _ _))); intro v113 w9 ho10 hb hg_ hnew_; clear hg_ hnew_; (first | rw [← Ny112.out] at ho10 | (simp only [Int.reduceToNat] at ho10; rw [← Ny112.out] at ho10)); have n0_ := zaa.mk (Kd.zbK ho10 (zaB (by repeat (first | exact HB.out | apply zad | apply zac | apply zaf)))); have n1_ := zaa.mk (zan (by repeat (first | exact HB.out | apply zad | apply zac | apply zaf)) hb); clear HB; have HO114 := n0_; have HB := n1_; clear n0_ n1_; clear hb ho10))
    go_ret
    exact ⟨_, by first | rfl | (simp [*, zay, zax] <;> rfl), by (with_reducible repeat (first | apply Kd.zbt | apply Kd.zbv | apply Kd.zbM)); exact HO114.out, by repeat (first | exact HB.out | apply zad | apply zac | apply zaf)⟩
   ·replace c8 := Bool.eq_false_iff.mpr c8
    subst c8; have H1 : (if a0 = 52 then (some (([59, 52] : List Int))) else (if a0 = 60 then (some (([60] : List Int))) else (some ([] : List Int)))) = some r := by rw [if_neg (show ¬ (false = true) by decide)] at H; exact H
    clear H; have H := H1; clear H1; by_cases c11 : a0 = 52
    ·rw [if_pos c11] at H
     have c11b0 : (a0 == 52) = true := beq_iff_eq.mpr c11; have c11b1 : (a0 != 52) = false := bne_eq_false_iff_eq.mpr c11; clear c11; obtain ⟨y115, hy115⟩ : ∃ y_ : List Int, y_ = (([59, 52] : List Int)) := ⟨_, rfl⟩; replace H : (some y115) = some r := by first | (rw [hy115]; with_reducible exact H) | (have H2_ := (Option.bind_some _ _).symm.trans H; rw [hy115]; with_reducible exact H2_) | (have H2_ := (Option.bind_some _ _).symm.trans H; with_reducible exact H2_) | with_reducible exact H | (rw [hy115]; exact H) | exact H
     have Ny115 := zaa.mk hy115; clear hy115; obtain rfl := Option.some.inj H; go_wp2_with (first | ((with_reducible refine za5 (N := 14) rfl ?_); refine Kd.R_lit (Kd.int .u8) _ 5 ?hg (N := 14) ?hd (xs := ([59, 52] : List Int)) (inner := [.int .u8 59, .int .u8 52]) (ok := fun _ => True) (okp := fun _ => True) ?hr ?hp (fun _ hk => hk) trivial (Below.refl _ _) (Nat.le_refl _) (by simp) ?_; (case hd => rfl); (case hg => rfl); (case hr => first | (go_simp; done) | (go_simp; rfl)); (case hp => exact (Reps.one (show Kd.M (Kd.int .u8) _ _ _ 59 [.int .u8 59] from rfl) (Reps.one (show Kd.M (Kd.int .u8) _ _ _ 52 [.int .u8 52] from rfl) (Reps.none _ _)))); intro v116 w12 ho13 hb hg_ hnew_; clear hg_ hnew_; (first | rw [← Ny115.out] at ho13 | (simp only [Int.reduceToNat] at ho13; rw [← Ny115.out] at ho13)); have n0_ := zaa.mk (Kd.zbK ho13 (zaB (by repeat (first | exact HB.out | apply zad | apply zac | apply zaf)))); have n1_ := zaa.mk (zan (by repeat (first | exact HB.out | apply zad | apply zac | apply zaf)) hb); clear HB; have HO117 := n0_; have HB := n1_; clear n0_ n1_; clear hb ho13))
     go_ret
     exact ⟨_, by first | rfl | (simp [*, zay, zax] <;> rfl), by (with_reducible repeat (first | apply Kd.zbt | apply Kd.zbv | apply Kd.zbM)); exact HO117.out, by repeat (first | exact HB.out | apply zad | apply zac | apply zaf)⟩
    ·rw [if_neg c11] at H
     have c11b0 : (a0 == 52) = false := beq_eq_false_iff_ne.mpr c11; have c11b1 : (a0 != 52) = true := bne_iff_ne.mpr c11; by_cases c14 : a0 = 60
     ·rw [if_pos c14] at H
      have c14b0 : (a0 == 60) = true := beq_iff_eq.mpr c14; have c14b1 : (a0 != 60) = false := bne_eq_false_iff_eq.mpr c14; clear c14; obtain ⟨y118, hy118⟩ : ∃ y_ : List Int, y_ = (([60] : List Int)) := ⟨_, rfl⟩; replace H : (some y118) = some r := by first | (rw [hy118]; with_reducible exact H) | (have H2_ := (Option.bind_some _ _).symm.trans H; rw [hy118]; with_reducible exact H2_) | (have H2_ := (Option.bind_some _ _).symm.trans H; with_reducible exact H2_) | with_reducible exact H | (rw [hy118]; exact H) | exact H
      have Ny118 := zaa.mk hy118; clear hy118; obtain rfl := Option.some.inj H; go_wp2_with (first | ((with_reducible refine za5 (N := 17) rfl ?_); refine Kd.R_lit (Kd.int .u8) _ 5 ?hg (N := 17) ?hd (xs := ([60] : List Int)) (inner := [.int .u8 60]) (ok := fun _ => True) (okp := fun _ => True) ?hr ?hp (fun _ hk => hk) trivial (Below.refl _ _) (Nat.le_refl _) (by simp) ?_; (case hd => rfl); (case hg => rfl); (case hr => first | (go_simp; done) | (go_simp; rfl)); (case hp => exact (Reps.one (show Kd.M (Kd.int .u8) _ _ _ 60 [.int .u8 60] from rfl) (Reps.none _ _))); intro v119 w15 ho16 hb hg_ hnew_; clear hg_ hnew_; (first | rw [← Ny118.out] at ho16 | (simp only [Int.reduceToNat] at ho16; rw [← Ny118.out] at ho16)); have n0_ := zaa.mk (Kd.zbK ho16 (zaB (by repeat (first | exact HB.out | apply zad | apply zac | apply zaf)))); have n1_ := zaa.mk (zan (by repeat (first | exact HB.out | apply zad | apply zac | apply zaf)) hb); clear HB; have HO120 := n0_; have HB := n1_; clear n0_ n1_; clear hb ho16))
      go_ret
      exact ⟨_, by first | rfl | (simp [*, zay, zax] <;> rfl), by (with_reducible repeat (first | apply Kd.zbt | apply Kd.zbv | apply Kd.zbM)); exact HO120.out, by repeat (first | exact HB.out | apply zad | apply zac | apply zaf)⟩
     ·rw [if_neg c14] at H
      have c14b0 : (a0 == 60) = false := beq_eq_false_iff_ne.mpr c14; have c14b1 : (a0 != 60) = true := bne_iff_ne.mpr c14; obtain rfl := Option.some.inj H; go_wp2
      go_ret
      exact ⟨_, by first | rfl | (simp [*, zay, zax] <;> rfl), by first | exact Kd.R_nil _ _ _ _ _ | exact Kd.N_nil _ _ _ _ _ | exact Kd.V_nil _ _ _ _ _ | exact Kd.Q_nil _ _ _ _ _ | exact Kd.S_nil _ _ _ _ _, by repeat (first | exact HB.out | apply zad | apply zac | apply zaf)⟩
def zaz.l0 : Nat → List (S39) → Int → Int → Option (Int)
 | 0, _, _, _ => none
 | k + 1, x0, x1, x5 => if x5 < (x0.length : Int) then (if x5 ≥ x1 then (if 0 ≤ x5 then ((zaZ.f ((zbc x0 x5).f0)).bind fun t159 => (if t159 = true then (some x5) else (zaz.l0 k x0 x1 (wrap64 (x5 + 1))))) else (none)) else (zaz.l0 k x0 x1 (wrap64 (x5 + 1)))) else (some (x0.length : Int))
def zaz.f (k : Nat) (l0 : List (S39)) (a1 : Int) : Option (Int) := zaz.l0 k l0 a1 0
theorem zaz.zbn : ∀ k, (∀ y0 y1 y2, LeO (zaz.l0 k y0 y1 y2) (zaz.l0 (k + 1) y0 y1 y2))
 | 0 => fun _ _ _ r h => by simp [zaz.l0] at h
 | k + 1 => by
  have ih0 := zaz.zbn k
  ·intro y0 y1 y2
   unfold zaz.l0
   repeat' first
   | (with_reducible exact ih0 _ _ _)
   | (with_reducible exact LeO.refl _)
   | (with_reducible exact LeO.none _)
   | (with_reducible refine LeO.ite ?_ ?_)
   | (with_reducible refine LeO.bind ?_ (fun _ => ?_))
theorem zaz.mono : ∀ a0 a1 k, LeO (zaz.f k a0 a1) (zaz.f (k + 1) a0 a1) := by
 intro a0 a1 k
 have ih0 := zaz.zbn k; unfold zaz.f
 repeat' first
   | (with_reducible exact ih0 _ _ _)
   | (with_reducible exact LeO.refl _)
   | (with_reducible exact LeO.none _)
   | (with_reducible refine LeO.ite ?_ ?_)
   | (with_reducible refine LeO.bind ?_ (fun _ => ?_))
set_option maxHeartbeats 8000000 in
set_option maxRecDepth 100000 in
theorem zaz.calls (k : Nat) (A0 : Option Addr) (c0 : Nat) (l0 : List (S39)) (a1 : Int) (r : Int) (w : World) (hr0 : Kd.C k39 w A0 l0.length l0) (hc0 : l0.length ≤ c0) (h : zaz.f k l0 a1 = some r) :
  Calls Try.prog 43 #[.slice A0 l0.length c0, .int .i64 a1] w fun e w' => e = .returned (.int .i64 r) ∧ zaw w w' := by
 have HR0 := zaa.mk hr0; have HC0 := zaa.mk hc0; clear hr0 hc0; have H : (zaz.l0 k l0 a1 0) = some r := h; clear h; have H' := zaa.mk H; clear H; go_enter Try.func43, Try.ntmps43
 go_wp2
 go_loopg [5] k (fun kq v5 w' => ∃ (x5_1 : Int), v5 = .int .i64 x5_1 ∧ zaa (zaz.l0 kq l0 a1 x5_1 = some r) ∧ zaa (kq ≤ k) ∧ zaw w w')
 case atStart => exact ⟨(0), (by first | rfl | (simp; done) | (simp [*]; done)), H', ⟨Nat.le_refl _⟩, by repeat (first | exact zaw.refl _ | apply zaw.step)⟩
 case round =>
  clear H'; try clear p2
  obtain ⟨x5_1, rfl, HA, HK1, ⟨m1, rfl⟩⟩ := hrel; cases gk with
  | zero => exact absurd HA.out (by simp [zaz.l0])
  | succ k1 =>
   have H := HA.out; clear HA; simp only [zaz.l0] at H; by_cases c3 : x5_1 < (l0.length : Int)
   ·rw [if_pos c3] at H
    have c3b0 : decide (x5_1 < (l0.length : Int)) = true := decide_eq_true c3; clear c3; by_cases c4 : x5_1 ≥ a1
    ·rw [if_pos c4] at H
     have c4b0 : decide (a1 ≤ x5_1) = true := decide_eq_true c4; clear c4; by_cases c5 : 0 ≤ x5_1
     ·rw [if_pos c5] at H
      have c5b0 : decide (0 ≤ x5_1) = true := decide_eq_true c5; clear c5; replace H := Option.bind_eq_some_iff.mp H; obtain ⟨t159, A60, H⟩ := H; replace H : (if t159 = true then (some x5_1) else (zaz.l0 k1 l0 a1 (wrap64 (x5_1 + 1)))) = some r := H
      have A6 := zaa.mk A60; clear A60; by_cases c7 : t159 = true
      ·subst c7
       have H1 : (some x5_1) = some r := by rw [if_pos rfl] at H; exact H
       clear H; have H := H1; clear H1; obtain rfl := Option.some.inj H; have p158 : 0 ≤ (x5_1 : Int) := of_decide_eq_true (by assumption)
       have q158 : x5_1 < (l0.length : Int) := of_decide_eq_true (by assumption)
       obtain ⟨ad158, e158, hx158_0, hx158_1, hx158_2⟩ := at_T39 HR0.out x5_1 p158 q158; cases e158; replace p158 := eq_true p158; replace q158 := eq_true q158; go_wp2_with (first | (go_at_call 58; (with_reducible refine (zaZ.calls ((zbc l0 x5_1).f0) true _ A6.out).mono ?_); rintro e w' ⟨rfl, ⟨nd, rfl⟩⟩))
       go_ret
       exact ⟨by first | rfl | (simp; done) | (simp [*]; done), by repeat (first | exact zaw.refl _ | apply zaw.step)⟩
      ·replace c7 := Bool.eq_false_iff.mpr c7
       subst c7; have H1 : (zaz.l0 k1 l0 a1 (wrap64 (x5_1 + 1))) = some r := by rw [if_neg (show ¬ (false = true) by decide)] at H; exact H
       clear H; have H := H1; clear H1; have H' := zaa.mk H; clear H; have p158 : 0 ≤ (x5_1 : Int) := of_decide_eq_true (by assumption)
       have q158 : x5_1 < (l0.length : Int) := of_decide_eq_true (by assumption)
       obtain ⟨ad158, e158, hx158_0, hx158_1, hx158_2⟩ := at_T39 HR0.out x5_1 p158 q158; cases e158; replace p158 := eq_true p158; replace q158 := eq_true q158; go_wp2_with (first | (go_at_call 58; (with_reducible refine (zaZ.calls ((zbc l0 x5_1).f0) false _ A6.out).mono ?_); rintro e w' ⟨rfl, ⟨nd, rfl⟩⟩))
       go_roundg k1
       case measure => have := HK1.out; omega
       case rel => exact ⟨(wrap64 (x5_1 + 1)), (by first | rfl | (simp; done) | (simp [*]; done)), H', ⟨by have := HK1.out; omega⟩, by repeat (first | exact zaw.refl _ | apply zaw.step)⟩
     ·rw [if_neg c5] at H
      exact absurd H (by simp)
    ·rw [if_neg c4] at H
     have c4b0 : decide (a1 ≤ x5_1) = false := decide_eq_false c4; clear c4; have H' := zaa.mk H; clear H; go_wp2
     go_roundg k1
     case measure => have := HK1.out; omega
     case rel => exact ⟨(wrap64 (x5_1 + 1)), (by first | rfl | (simp; done) | (simp [*]; done)), H', ⟨by have := HK1.out; omega⟩, by repeat (first | exact zaw.refl _ | apply zaw.step)⟩
   ·rw [if_neg c3] at H
    have c3b0 : decide (x5_1 < (l0.length : Int)) = false := decide_eq_false c3; clear c3; obtain rfl := Option.some.inj H; go_wp2
    go_ret
    exact ⟨by first | rfl | (simp; done) | (simp [*]; done), by repeat (first | exact zaw.refl _ | apply zaw.step)⟩
theorem eqA39 (d : Nat) (w : World) (x0 y0 : Int) (x1 y1 : Int) (x2 y2 : Int) :
  (Op.equalIn (d + 2) 39 (.agg #[.int .u8 x0, .int .i64 x1, .int .i64 x2]) (.agg #[.int .u8 y0, .int .i64 y1, .int .i64 y2])).run Try.prog w = .ok (x0 == y0 && (x1 == y1 && (x2 == y2))) w := by
 refine eqA_of Try.underlying39 (by kernel_rfl) ?_
 refine eqf_cons (by rfl) (by go_simp; rfl) (by go_simp; rfl) (by go_simp) ?_
 refine eqf_cons (by rfl) (by go_simp; rfl) (by go_simp; rfl) (by go_simp) ?_
 exact eqf_last (by rfl) (by go_simp; rfl) (by go_simp; rfl) (by go_simp)
end
section
attribute [local go_sem] zbk zbi zbz zby zbb zba zbj zbh
attribute [local go_sem high] eqA39
def zaT.l0 : Nat → List (S39) → List (S39) → Int → Option (Bool)
 | 0, _, _, _ => none
 | k + 1, x0, x1, x5 => if x5 < (x0.length : Int) then (if 0 ≤ x5 then (if x5 < (x1.length : Int) then (if (!(((zbc x0 x5).f0) == ((zbc x1 x5).f0)) || (!(((zbc x0 x5).f1) == ((zbc x1 x5).f1)) || (!(((zbc x0 x5).f2) == ((zbc x1 x5).f2))))) = true then (some false) else (zaT.l0 k x0 x1 (wrap64 (x5 + 1)))) else (none)) else (none)) else (some true)
def zaT.f (k : Nat) (l0 : List (S39)) (l1 : List (S39)) : Option (Bool) := if (l0.length : Int) = (l1.length : Int) then (zaT.l0 k l0 l1 0) else (some false)
theorem zaT.zbn : ∀ k, (∀ y0 y1 y2, LeO (zaT.l0 k y0 y1 y2) (zaT.l0 (k + 1) y0 y1 y2))
 | 0 => fun _ _ _ r h => by simp [zaT.l0] at h
 | k + 1 => by
  have ih0 := zaT.zbn k
  ·intro y0 y1 y2
   unfold zaT.l0
   repeat' first
   | (with_reducible exact ih0 _ _ _)
   | (with_reducible exact LeO.refl _)
   | (with_reducible exact LeO.none _)
   | (with_reducible refine LeO.ite ?_ ?_)
   | (with_reducible refine LeO.bind ?_ (fun _ => ?_))
theorem zaT.mono : ∀ a0 a1 k, LeO (zaT.f k a0 a1) (zaT.f (k + 1) a0 a1) := by
 intro a0 a1 k
 have ih0 := zaT.zbn k; unfold zaT.f
 repeat' first
   | (with_reducible exact ih0 _ _ _)
   | (with_reducible exact LeO.refl _)
   | (with_reducible exact LeO.none _)
   | (with_reducible refine LeO.ite ?_ ?_)
   | (with_reducible refine LeO.bind ?_ (fun _ => ?_))
set_option maxHeartbeats 8000000 in
set_option maxRecDepth 100000 in
theorem zaT.calls (k : Nat) (A0 : Option Addr) (c0 : Nat) (l0 : List (S39)) (A1 : Option Addr) (c1 : Nat) (l1 : List (S39)) (r : Bool) (w : World) (hr0 : Kd.C k39 w A0 l0.length l0) (hc0 : l0.length ≤ c0) (hr1 : Kd.C k39 w A1 l1.length l1) (hc1 : l1.length ≤ c1) (h : zaT.f k l0 l1 = some r) :
  Calls Try.prog 18 #[.slice A0 l0.length c0, .slice A1 l1.length c1] w fun e w' => e = .returned (.bool r) ∧ zaw w w' := by
 have hu39 := Try.underlying39; have HR0 := zaa.mk hr0; have HC0 := zaa.mk hc0; clear hr0 hc0; have HR1 := zaa.mk hr1; have HC1 := zaa.mk hc1; clear hr1 hc1; have H : (if (l0.length : Int) = (l1.length : Int) then (zaT.l0 k l0 l1 0) else (some false)) = some r := h
 clear h; by_cases c3 : (l0.length : Int) = (l1.length : Int)
 ·rw [if_pos c3] at H
  have c3b0 : ((l0.length : Int) == (l1.length : Int)) = true := beq_iff_eq.mpr c3; have c3b1 : ((l0.length : Int) != (l1.length : Int)) = false := bne_eq_false_iff_eq.mpr c3; have c3b2 : (l0.length == l1.length) = true := by first | simpa using c3 | (simp at c3 ⊢; omega)
  clear c3; have H' := zaa.mk H; clear H; go_enter Try.func18, Try.ntmps18
  go_wp2
  repeat (go_quiet (fail); try go_wp2)
  go_loopg [5] k (fun kq v5 w' => ∃ (x5_1 : Int), v5 = .int .i64 x5_1 ∧ zaa (zaT.l0 kq l0 l1 x5_1 = some r) ∧ zaa (kq ≤ k) ∧ zaw w w')
  case atStart => exact ⟨(0), (by first | rfl | (simp; done) | (simp [*]; done)), H', ⟨Nat.le_refl _⟩, by repeat (first | exact zaw.refl _ | apply zaw.step)⟩
  case round =>
   clear H'; try clear c1
   try clear p2
   try clear c3
   try clear c3b0
   try clear c3b1
   try clear c3b2
   obtain ⟨x5_1, rfl, HA, HK1, ⟨m1, rfl⟩⟩ := hrel; cases gk with
   | zero => exact absurd HA.out (by simp [zaT.l0])
   | succ k1 =>
    have H := HA.out; clear HA; simp only [zaT.l0] at H; by_cases c4 : x5_1 < (l0.length : Int)
    ·rw [if_pos c4] at H
     have c4b0 : decide (x5_1 < (l0.length : Int)) = true := decide_eq_true c4; clear c4; by_cases c5 : 0 ≤ x5_1
     ·rw [if_pos c5] at H
      have c5b0 : decide (0 ≤ x5_1) = true := decide_eq_true c5; clear c5; by_cases c6 : x5_1 < (l1.length : Int)
      ·rw [if_pos c6] at H
       have c6b0 : decide (x5_1 < (l1.length : Int)) = true := decide_eq_true c6; clear c6; by_cases c7 : (!(((zbc l0 x5_1).f0) == ((zbc l1 x5_1).f0)) || (!(((zbc l0 x5_1).f1) == ((zbc l1 x5_1).f1)) || (!(((zbc l0 x5_1).f2) == ((zbc l1 x5_1).f2))))) = true
       ·rw [if_pos c7] at H
        have c7b0 : (!(((zbc l0 x5_1).f0) == ((zbc l1 x5_1).f0)) || (!(((zbc l0 x5_1).f1) == ((zbc l1 x5_1).f1)) || (!(((zbc l0 x5_1).f2) == ((zbc l1 x5_1).f2))))) = true := c7; clear c7; obtain rfl := Option.some.inj H; have p170 : 0 ≤ (x5_1 : Int) := of_decide_eq_true (by assumption)
        have q170 : x5_1 < (l0.length : Int) := of_decide_eq_true (by assumption)
        obtain ⟨ad170, e170, hx170_0, hx170_1, hx170_2⟩ := at_T39 HR0.out x5_1 p170 q170; cases e170; replace p170 := eq_true p170; replace q170 := eq_true q170; have p171 : 0 ≤ (x5_1 : Int) := of_decide_eq_true (by assumption)
        have q171 : x5_1 < (l1.length : Int) := of_decide_eq_true (by assumption)
        obtain ⟨ad171, e171, hx171_0, hx171_1, hx171_2⟩ := at_T39 HR1.out x5_1 p171 q171; cases e171; replace p171 := eq_true p171; replace q171 := eq_true q171; go_wp2
        repeat (go_quiet (fail); try go_wp2)
        go_ret
        exact ⟨by first | rfl | (simp; done) | (simp [*]; done), by repeat (first | exact zaw.refl _ | apply zaw.step)⟩
       ·rw [if_neg c7] at H
        have c7b0 : (!(((zbc l0 x5_1).f0) == ((zbc l1 x5_1).f0)) || (!(((zbc l0 x5_1).f1) == ((zbc l1 x5_1).f1)) || (!(((zbc l0 x5_1).f2) == ((zbc l1 x5_1).f2))))) = false := by simpa using c7
        clear c7; have H' := zaa.mk H; clear H; have p170 : 0 ≤ (x5_1 : Int) := of_decide_eq_true (by assumption)
        have q170 : x5_1 < (l0.length : Int) := of_decide_eq_true (by assumption)
        obtain ⟨ad170, e170, hx170_0, hx170_1, hx170_2⟩ := at_T39 HR0.out x5_1 p170 q170; cases e170; replace p170 := eq_true p170; replace q170 := eq_true q170; have p171 : 0 ≤ (x5_1 : Int) := of_decide_eq_true (by assumption)
        have q171 : x5_1 < (l1.length : Int) := of_decide_eq_true (by assumption)
        obtain ⟨ad171, e171, hx171_0, hx171_1, hx171_2⟩ := at_T39 HR1.out x5_1 p171 q171; cases e171; replace p171 := eq_true p171; replace q171 := eq_true q171; go_wp2
        repeat (go_quiet (fail); try go_wp2)
        go_roundg k1
        case measure => have := HK1.out; omega
        case rel => exact ⟨(wrap64 (x5_1 + 1)), (by first | rfl | (simp; done) | (simp [*]; done)), H', ⟨by have := HK1.out; omega⟩, by repeat (first | exact zaw.refl _ | apply zaw.step)⟩
      ·rw [if_neg c6] at H
       exact absurd H (by simp)
     ·rw [if_neg c5] at H
      exact absurd H (by simp)
    ·rw [if_neg c4] at H
     have c4b0 : decide (x5_1 < (l0.length : Int)) = false := decide_eq_false c4; clear c4; obtain rfl := Option.some.inj H; go_wp2
     repeat (go_quiet (fail); try go_wp2)
     go_ret
     exact ⟨by first | rfl | (simp; done) | (simp [*]; done), by repeat (first | exact zaw.refl _ | apply zaw.step)⟩
 ·rw [if_neg c3] at H
  have c3b0 : ((l0.length : Int) == (l1.length : Int)) = false := beq_eq_false_iff_ne.mpr c3; have c3b1 : ((l0.length : Int) != (l1.length : Int)) = true := bne_iff_ne.mpr c3; have c3b2 : (l0.length == l1.length) = false := by first | simpa using c3 | (simp at c3 ⊢; omega)
  obtain rfl := Option.some.inj H; go_enter Try.func18, Try.ntmps18
  go_wp2
  repeat (go_quiet (fail); try go_wp2)
  go_ret
  exact ⟨by first | rfl | (simp; done) | (simp [*]; done), by repeat (first | exact zaw.refl _ | apply zaw.step)⟩
end
theorem append_elemN {α : Type} (d : Kd α) (e t : Nat) {X Y : World} {base n cv bytes : Nat} {ok okp : Nat → Prop} {Av : Option Addr} {L : List α} {z : Value} (hN : d.N e X base ok (.slice Av n cv) L) (hbase : base ≤ X.heap.size) (hfresh : ∀ k, X.heap.size ≤ k → ok k)
  (ht : Try.prog.underlying t = some (.slice e)) (hinfo : (Try.prog.info? e).map (fun i => (i.zero, i.size, i.bytes)) = some (some z, d.sz, bytes)) (hzs : z.cells.size = d.sz) (hs0 : 0 < d.sz) (hb0 : 0 < bytes) (hl : (L.length + 1) * bytes ≤ 140737488355328)
  (hbY : Below X.heap.size X Y) (p : α) (cs : List Value) (hnew : Y.heap[X.heap.size]? = some (.cells cs.toArray e (0, 0))) (hp : d.FK X okp p cs) (hokp : ∀ k, okp k → ok k ∧ some k ≠ (Value.slice Av n cv).ownBlock) :
  ∃ g cap w1, (Builtin.append_ #[t, t] t #[.slice Av n cv, .slice (some ⟨X.heap.size, 0, none⟩) 1 1]).run Try.prog Y = .ok (.slice (some ⟨g, 0, none⟩) (n + 1) cap) w1 ∧
   X.grownBy w1 (Value.slice Av n cv).ownBlock ∧ ((Value.slice Av n cv).ownBlock = some g ∨ X.heap.size ≤ g) ∧ base ≤ g ∧ n = L.length ∧
   d.N e w1 base ok (.slice (some ⟨g, 0, none⟩) (n + 1) cap) (L ++ [p]) := by
 obtain ⟨h0, rows, hrl, hR, hf⟩ := hN; have hc := Kd.FK_raw hp; obtain ⟨g, cap, w1, hrun, hgr, hat, hbg, hn, hR1⟩ := append_elem (Kd.raw d.sz) e t (Kd.raw_any hR) hbase (fun _ _ => trivial) ht hinfo hzs hs0 hb0 (by rw [hrl]; exact hl) hbY cs cs hnew ⟨rfl, hc.2.1, hc.2.2⟩ hc.2.1 hc.2.2
 refine ⟨g, cap, w1, hrun, hgr, hat, hbg, by rw [hn, hrl], ?_⟩
 refine Kd.N_appended (news := [cs]) (ys := [p]) h0 hrl hf rfl (fun j x c hx hc' => ?_) hokp hfresh hR1 hgr (hat.imp (fun h => h.symm) (fun h => ⟨g, by simp [Value.ownBlock], h⟩))
 match j, hx, hc' with
 | 0, hx, hc' =>
  simp only [List.getElem?_cons_zero, Option.some.injEq] at hx hc'; subst hx hc'; exact hp
 | j + 1, hx, _ => simp at hx
section
attribute [local go_sem] zbk zbi zbz zby zbb zba zbj zbh
def za2.f (a0 : Int) : Option (Bool) := if a0 = 32 then (some true) else (if a0 = 9 then (some true) else (if a0 = 10 then (some true) else (some (a0 == 13))))
set_option maxHeartbeats 8000000 in
set_option maxRecDepth 100000 in
theorem za2.calls (a0 : Int) (r : Bool) (w : World) (h : za2.f a0 = some r) :
  Calls Try.prog 20 #[.int .u8 a0] w fun e w' => e = .returned (.bool r) ∧ zaw w w' := by
 have H : (if a0 = 32 then (some true) else (if a0 = 9 then (some true) else (if a0 = 10 then (some true) else (some (a0 == 13))))) = some r := h
 clear h; by_cases c2 : a0 = 32
 ·rw [if_pos c2] at H
  have c2b0 : (a0 == 32) = true := beq_iff_eq.mpr c2; have c2b1 : (a0 != 32) = false := bne_eq_false_iff_eq.mpr c2; clear c2; obtain rfl := Option.some.inj H; go_enter Try.func20, Try.ntmps20
  go_wp2
  go_ret
  exact ⟨by first | rfl | (simp; done) | (simp [*]; done), by repeat (first | exact zaw.refl _ | apply zaw.step)⟩
 ·rw [if_neg c2] at H
  have c2b0 : (a0 == 32) = false := beq_eq_false_iff_ne.mpr c2; have c2b1 : (a0 != 32) = true := bne_iff_ne.mpr c2; by_cases c3 : a0 = 9
  ·rw [if_pos c3] at H
   have c3b0 : (a0 == 9) = true := beq_iff_eq.mpr c3; have c3b1 : (a0 != 9) = false := bne_eq_false_iff_eq.mpr c3; clear c3; obtain rfl := Option.some.inj H; go_enter Try.func20, Try.ntmps20
   go_wp2
   go_ret
   exact ⟨by first | rfl | (simp; done) | (simp [*]; done), by repeat (first | exact zaw.refl _ | apply zaw.step)⟩
  ·rw [if_neg c3] at H
   have c3b0 : (a0 == 9) = false := beq_eq_false_iff_ne.mpr c3; have c3b1 : (a0 != 9) = true := bne_iff_ne.mpr c3; by_cases c4 : a0 = 10
   ·rw [if_pos c4] at H
    have c4b0 : (a0 == 10) = true := beq_iff_eq.mpr c4; have c4b1 : (a0 != 10) = false := bne_eq_false_iff_eq.mpr c4; clear c4; obtain rfl := Option.some.inj H; go_enter Try.func20, Try.ntmps20
    go_wp2
    go_ret
    exact ⟨by first | rfl | (simp; done) | (simp [*]; done), by repeat (first | exact zaw.refl _ | apply zaw.step)⟩
   ·rw [if_neg c4] at H
    have c4b0 : (a0 == 10) = false := beq_eq_false_iff_ne.mpr c4; have c4b1 : (a0 != 10) = true := bne_iff_ne.mpr c4; obtain rfl := Option.some.inj H; go_enter Try.func20, Try.ntmps20
    go_wp2
    go_ret
    exact ⟨by first | rfl | (simp; done) | (simp [*]; done), by repeat (first | exact zaw.refl _ | apply zaw.step)⟩
mutual
def zal.j0 : Nat → ByteArray → Int → Bool → Option (Int × Int)
 | 0, _, _, _ => none
 | k + 1, x0, x1, x19 => if x19 = true then (zal.l0 k x0 x1) else (if (wrap64 (x1 + 1)) < (x0.size : Int) then (if 0 ≤ (wrap64 (x1 + 1)) then (zal.j2 k x0 x1 ((bt x0 (wrap64 (x1 + 1))) == 42)) else (none)) else (zal.j2 k x0 x1 false))
def zal.l0 : Nat → ByteArray → Int → Option (Int × Int)
 | 0, _, _ => none
 | k + 1, x0, x6 => if x6 < (x0.size : Int) then (if 0 ≤ x6 then (if (bt x0 x6) = 10 then (some (2, x6)) else (if (bt x0 x6) = 13 then (some (2, x6)) else (zal.l0 k x0 (wrap64 (x6 + 1))))) else (none)) else (some (2, x6))
def zal.j2 : Nat → ByteArray → Int → Bool → Option (Int × Int)
 | 0, _, _, _ => none
 | k + 1, x0, x1, x51 => if x51 = true then (zal.l1 k x0 (wrap64 (x1 + 2))) else (some (36, wrap64 (x1 + 1)))
def zal.l1 : Nat → ByteArray → Int → Option (Int × Int)
 | 0, _, _ => none
 | k + 1, x0, x7 => if (wrap64 (x7 + 1)) < (x0.size : Int) then (if 0 ≤ x7 then (if x7 < (x0.size : Int) then (if (bt x0 x7) = 42 then (if 0 ≤ (wrap64 (x7 + 1)) then (if (bt x0 (wrap64 (x7 + 1))) = 47 then (some (3, wrap64 (x7 + 2))) else (zal.l1 k x0 (wrap64 (x7 + 1)))) else (none)) else (zal.l1 k x0 (wrap64 (x7 + 1)))) else (none)) else (none)) else (some (4, (x0.size : Int)))
end
def zal.f (k : Nat) (a0 : ByteArray) (a1 : Int) : Option (Int × Int) := if (wrap64 (a1 + 1)) < (a0.size : Int) then (if 0 ≤ (wrap64 (a1 + 1)) then (zal.j0 k a0 a1 ((bt a0 (wrap64 (a1 + 1))) == 47)) else (none)) else (zal.j0 k a0 a1 false)
theorem zal.zbn : ∀ k, (∀ y0 y1 y2, LeO (zal.j0 k y0 y1 y2) (zal.j0 (k + 1) y0 y1 y2)) ∧ (∀ y0 y1, LeO (zal.l0 k y0 y1) (zal.l0 (k + 1) y0 y1)) ∧ (∀ y0 y1 y2, LeO (zal.j2 k y0 y1 y2) (zal.j2 (k + 1) y0 y1 y2)) ∧ (∀ y0 y1, LeO (zal.l1 k y0 y1) (zal.l1 (k + 1) y0 y1))
 | 0 => ⟨fun _ _ _ r h => by simp [zal.j0] at h, fun _ _ r h => by simp [zal.l0] at h, fun _ _ _ r h => by simp [zal.j2] at h, fun _ _ r h => by simp [zal.l1] at h⟩
 | k + 1 => by
  obtain ⟨ih0, ih1, ih2, ih3⟩ := zal.zbn k; refine ⟨?_, ?_, ?_, ?_⟩
  ·intro y0 y1 y2
   unfold zal.j0
   repeat' first
   | (with_reducible exact ih0 _ _ _)
   | (with_reducible exact ih1 _ _)
   | (with_reducible exact ih2 _ _ _)
   | (with_reducible exact ih3 _ _)
   | (with_reducible exact LeO.refl _)
   | (with_reducible exact LeO.none _)
   | (with_reducible refine LeO.ite ?_ ?_)
   | (with_reducible refine LeO.bind ?_ (fun _ => ?_))
  ·intro y0 y1
   unfold zal.l0
   repeat' first
   | (with_reducible exact ih0 _ _ _)
   | (with_reducible exact ih1 _ _)
   | (with_reducible exact ih2 _ _ _)
   | (with_reducible exact ih3 _ _)
   | (with_reducible exact LeO.refl _)
   | (with_reducible exact LeO.none _)
   | (with_reducible refine LeO.ite ?_ ?_)
   | (with_reducible refine LeO.bind ?_ (fun _ => ?_))
  ·intro y0 y1 y2
   unfold zal.j2
   repeat' first
   | (with_reducible exact ih0 _ _ _)
   | (with_reducible exact ih1 _ _)
   | (with_reducible exact ih2 _ _ _)
   | (with_reducible exact ih3 _ _)
   | (with_reducible exact LeO.refl _)
   | (with_reducible exact LeO.none _)
   | (with_reducible refine LeO.ite ?_ ?_)
   | (with_reducible refine LeO.bind ?_ (fun _ => ?_))
  ·intro y0 y1
   unfold zal.l1
   repeat' first
   | (with_reducible exact ih0 _ _ _)
   | (with_reducible exact ih1 _ _)
   | (with_reducible exact ih2 _ _ _)
   | (with_reducible exact ih3 _ _)
   | (with_reducible exact LeO.refl _)
   | (with_reducible exact LeO.none _)
   | (with_reducible refine LeO.ite ?_ ?_)
   | (with_reducible refine LeO.bind ?_ (fun _ => ?_))
theorem zal.mono : ∀ a0 a1 k, LeO (zal.f k a0 a1) (zal.f (k + 1) a0 a1) := by
 intro a0 a1 k
 obtain ⟨ih0, ih1, ih2, ih3⟩ := zal.zbn k; unfold zal.f
 repeat' first
   | (with_reducible exact ih0 _ _ _)
   | (with_reducible exact ih1 _ _)
   | (with_reducible exact ih2 _ _ _)
   | (with_reducible exact ih3 _ _)
   | (with_reducible exact LeO.refl _)
   | (with_reducible exact LeO.none _)
   | (with_reducible refine LeO.ite ?_ ?_)
   | (with_reducible refine LeO.bind ?_ (fun _ => ?_))
set_option maxHeartbeats 8000000 in
set_option maxRecDepth 100000 in
theorem zal.calls (k : Nat) (a0 : ByteArray) (a1 : Int) (r1 : Int) (r2 : Int) (w : World) (h : zal.f k a0 a1 = some (r1, r2)) :
  Calls Try.prog 21 #[.string a0, .int .i64 a1] w fun e w' => e = .returned (.tuple #[.int .u8 r1, .int .i64 r2]) ∧ zaw w w' := by
 have H : (if (wrap64 (a1 + 1)) < (a0.size : Int) then (if 0 ≤ (wrap64 (a1 + 1)) then (zal.j0 k a0 a1 ((bt a0 (wrap64 (a1 + 1))) == 47)) else (none)) else (zal.j0 k a0 a1 false)) = some (r1, r2) := h
 clear h; have HC3 := zaa.mk H; clear H; go_enter Try.func21, Try.ntmps21
 go_upto_region 1 with (fail)
 go_cut [19] (fun v19 wc => ∃ (kq : Nat) (x19_2 : Bool), v19 = .bool x19_2 ∧ zaa (zal.j0 kq a0 a1 x19_2 = some (r1, r2)) ∧ zaa (kq ≤ k) ∧ zaw w wc)
 case first =>
  have H := HC3.out; clear HC3; by_cases c4 : (wrap64 (a1 + 1)) < (a0.size : Int)
  ·rw [if_pos c4] at H
   have c4b0 : decide ((wrap64 (a1 + 1)) < (a0.size : Int)) = true := decide_eq_true c4; clear c4
   (first | rw [c4b0] | (simp only [i64_w, i32_w]; rw [c4b0]) | skip)
   obtain ⟨ji5, hji5⟩ : ∃ j_ : Int, (wrap64 (a1 + 1)) = j_ := ⟨_, rfl⟩; replace H : (if 0 ≤ (ji5) then (zal.j0 k a0 a1 ((bt a0 (ji5)) == 47)) else (none)) = some (r1, r2) := by first | (rw [hji5] at H; exact H) | (simp only [hji5] at H ⊢; exact H)
   (try rw [hji5] at c4b0)
   have hji5w : (IntKind.i64.wrap (a1 + 1)) = ji5 := (i64_w _).trans hji5; by_cases c6 : 0 ≤ (ji5)
   ·rw [if_pos c6] at H
    have c6b0 : decide (0 ≤ (ji5)) = true := decide_eq_true c6; clear c6; have H' := zaa.mk H; clear H; have p7 : 0 ≤ ((ji5) : Int) := of_decide_eq_true (by assumption)
    have q7 : (ji5) < (a0.size : Int) := of_decide_eq_true (by assumption)
    have hx7 := bt_at a0 (ji5); replace p7 := eq_true p7; replace q7 := eq_true q7; go_wp2
    go_meet
    case rel => exact ⟨_, (((bt a0 (ji5)) == 47)), (by first | rfl | (simp; done) | (simp only [← hji5] <;> (first | rfl | simp)) | (simp [*]; done)), H', ⟨by first | omega | exact Nat.le_refl _⟩, by repeat (first | exact zaw.refl _ | apply zaw.step)⟩
   ·rw [if_neg c6] at H
    exact absurd H (by simp)
  ·rw [if_neg c4] at H
   have c4b0 : decide ((wrap64 (a1 + 1)) < (a0.size : Int)) = false := decide_eq_false c4; clear c4
   (first | rw [c4b0] | (simp only [i64_w, i32_w]; rw [c4b0]) | skip)
   have H' := zaa.mk H; clear H; go_wp2
   go_meet
   case rel => exact ⟨_, (false), (by first | rfl | (simp; done) | (simp [*]; done)), H', ⟨by first | omega | exact Nat.le_refl _⟩, by repeat (first | exact zaw.refl _ | apply zaw.step)⟩
 case rest =>
  clear HC3; try clear c2
  try clear p2
  try clear c4
  try clear c4b0
  try clear c6
  try clear c6b0
  try clear p6
  try clear p7
  try clear q7
  try clear hx7
  try clear p7
  try clear q7
  obtain ⟨kq, x19_2, rfl, HA, HJ2, ⟨mc2, rfl⟩⟩ := hcut; cases kq with
  | zero => exact absurd HA.out (by simp [zal.j0])
  | succ kj2 =>
   have H := HA.out; clear HA; simp only [zal.j0] at H; by_cases c8 : x19_2 = true
   ·subst c8
    have H1 : (zal.l0 kj2 a0 a1) = some (r1, r2) := by rw [if_pos rfl] at H; exact H
    clear H; have H := H1; clear H1; have H' := zaa.mk H; clear H; go_wp2
    go_loopg [6] kj2 (fun kq v6 w' => ∃ (x6_2 : Int), v6 = .int .i64 x6_2 ∧ zaa (zal.l0 kq a0 x6_2 = some (r1, r2)) ∧ zaa (kq ≤ kj2) ∧ zaw w w')
    case atStart => exact ⟨(a1), (by first | rfl | (simp; done) | (simp [*]; done)), H', ⟨Nat.le_refl _⟩, by repeat (first | exact zaw.refl _ | apply zaw.step)⟩
    case round =>
     clear H'; try clear c2
     try clear p2
     try clear c4
     try clear c4b0
     try clear c6
     try clear c6b0
     try clear p6
     try clear p7
     try clear q7
     try clear hx7
     try clear c8
     try clear p2
     try clear p6
     try clear p7
     try clear q7
     obtain ⟨x6_2, rfl, HA, HK2, ⟨m2, rfl⟩⟩ := hrel; cases gk with
     | zero => exact absurd HA.out (by simp [zal.l0])
     | succ k2 =>
      have H := HA.out; clear HA; simp only [zal.l0] at H; by_cases c9 : x6_2 < (a0.size : Int)
      ·rw [if_pos c9] at H
       have c9b0 : decide (x6_2 < (a0.size : Int)) = true := decide_eq_true c9; clear c9; by_cases c10 : 0 ≤ x6_2
       ·rw [if_pos c10] at H
        have c10b0 : decide (0 ≤ x6_2) = true := decide_eq_true c10; clear c10; by_cases c12 : (bt a0 x6_2) = 10
        ·rw [if_pos c12] at H
         have c12b0 : ((bt a0 x6_2) == 10) = true := beq_iff_eq.mpr c12; have c12b1 : ((bt a0 x6_2) != 10) = false := bne_eq_false_iff_eq.mpr c12; clear c12; simp only [Option.some.injEq, Prod.mk.injEq] at H; obtain ⟨rfl, rfl⟩ := H; have p11 : 0 ≤ (x6_2 : Int) := of_decide_eq_true (by assumption)
         have q11 : x6_2 < (a0.size : Int) := of_decide_eq_true (by assumption)
         have hx11 := bt_at a0 x6_2; replace p11 := eq_true p11; replace q11 := eq_true q11; go_wp2
         go_ret2
         exact ⟨by first | rfl | (simp; done) | (simp [*]; done), by repeat (first | exact zaw.refl _ | apply zaw.step)⟩
        ·rw [if_neg c12] at H
         have c12b0 : ((bt a0 x6_2) == 10) = false := beq_eq_false_iff_ne.mpr c12; have c12b1 : ((bt a0 x6_2) != 10) = true := bne_iff_ne.mpr c12; by_cases c14 : (bt a0 x6_2) = 13
         ·rw [if_pos c14] at H
          have c14b0 : ((bt a0 x6_2) == 13) = true := beq_iff_eq.mpr c14; have c14b1 : ((bt a0 x6_2) != 13) = false := bne_eq_false_iff_eq.mpr c14; clear c14; simp only [Option.some.injEq, Prod.mk.injEq] at H; obtain ⟨rfl, rfl⟩ := H; have p11 : 0 ≤ (x6_2 : Int) := of_decide_eq_true (by assumption)
          have q11 : x6_2 < (a0.size : Int) := of_decide_eq_true (by assumption)
          have hx11 := bt_at a0 x6_2; replace p11 := eq_true p11; replace q11 := eq_true q11; have p13 : 0 ≤ (x6_2 : Int) := of_decide_eq_true (by assumption)
          have q13 : x6_2 < (a0.size : Int) := of_decide_eq_true (by assumption)
          have hx13 := bt_at a0 x6_2; replace p13 := eq_true p13; replace q13 := eq_true q13; go_wp2
          go_ret2
          exact ⟨by first | rfl | (simp; done) | (simp [*]; done), by repeat (first | exact zaw.refl _ | apply zaw.step)⟩
         ·rw [if_neg c14] at H
          have c14b0 : ((bt a0 x6_2) == 13) = false := beq_eq_false_iff_ne.mpr c14; have c14b1 : ((bt a0 x6_2) != 13) = true := bne_iff_ne.mpr c14; have H' := zaa.mk H; clear H; have p11 : 0 ≤ (x6_2 : Int) := of_decide_eq_true (by assumption)
          have q11 : x6_2 < (a0.size : Int) := of_decide_eq_true (by assumption)
          have hx11 := bt_at a0 x6_2; replace p11 := eq_true p11; replace q11 := eq_true q11; have p13 : 0 ≤ (x6_2 : Int) := of_decide_eq_true (by assumption)
          have q13 : x6_2 < (a0.size : Int) := of_decide_eq_true (by assumption)
          have hx13 := bt_at a0 x6_2; replace p13 := eq_true p13; replace q13 := eq_true q13; go_wp2
          go_roundg k2
          case measure => have := HJ2.out; have := HK2.out; omega
          case rel => exact ⟨(wrap64 (x6_2 + 1)), (by first | rfl | (simp; done) | (simp [*]; done)), H', ⟨by have := HJ2.out; have := HK2.out; omega⟩, by repeat (first | exact zaw.refl _ | apply zaw.step)⟩
       ·rw [if_neg c10] at H
        exact absurd H (by simp)
      ·rw [if_neg c9] at H
       have c9b0 : decide (x6_2 < (a0.size : Int)) = false := decide_eq_false c9; clear c9; simp only [Option.some.injEq, Prod.mk.injEq] at H; obtain ⟨rfl, rfl⟩ := H; go_wp2
       go_ret2
       exact ⟨by first | rfl | (simp; done) | (simp [*]; done), by repeat (first | exact zaw.refl _ | apply zaw.step)⟩
   ·replace c8 := Bool.eq_false_iff.mpr c8
    subst c8; have H1 : (if (wrap64 (a1 + 1)) < (a0.size : Int) then (if 0 ≤ (wrap64 (a1 + 1)) then (zal.j2 kj2 a0 a1 ((bt a0 (wrap64 (a1 + 1))) == 42)) else (none)) else (zal.j2 kj2 a0 a1 false)) = some (r1, r2) := by rw [if_neg (show ¬ (false = true) by decide)] at H; exact H
    clear H; have H := H1; clear H1; have HC15 := zaa.mk H; clear H; go_upto_region 6 with (fail)
    go_cut [51] (fun v51 wc => ∃ (kq : Nat) (x51_14 : Bool), v51 = .bool x51_14 ∧ zaa (zal.j2 kq a0 a1 x51_14 = some (r1, r2)) ∧ zaa (kq ≤ kj2) ∧ zaw w wc)
    case first =>
     have H := HC15.out; clear HC15; by_cases c16 : (wrap64 (a1 + 1)) < (a0.size : Int)
     ·rw [if_pos c16] at H
      have c16b0 : decide ((wrap64 (a1 + 1)) < (a0.size : Int)) = true := decide_eq_true c16; clear c16
      (first | rw [c16b0] | (simp only [i64_w, i32_w]; rw [c16b0]) | skip)
      obtain ⟨ji17, hji17⟩ : ∃ j_ : Int, (wrap64 (a1 + 1)) = j_ := ⟨_, rfl⟩; replace H : (if 0 ≤ (ji17) then (zal.j2 kj2 a0 a1 ((bt a0 (ji17)) == 42)) else (none)) = some (r1, r2) := by first | (rw [hji17] at H; exact H) | (simp only [hji17] at H ⊢; exact H)
      (try rw [hji17] at c16b0)
      have hji17w : (IntKind.i64.wrap (a1 + 1)) = ji17 := (i64_w _).trans hji17; by_cases c18 : 0 ≤ (ji17)
      ·rw [if_pos c18] at H
       have c18b0 : decide (0 ≤ (ji17)) = true := decide_eq_true c18; clear c18; have H' := zaa.mk H; clear H; have p19 : 0 ≤ ((ji17) : Int) := of_decide_eq_true (by assumption)
       have q19 : (ji17) < (a0.size : Int) := of_decide_eq_true (by assumption)
       have hx19 := bt_at a0 (ji17); replace p19 := eq_true p19; replace q19 := eq_true q19; go_wp2
       go_meet
       case rel => exact ⟨_, (((bt a0 (ji17)) == 42)), (by first | rfl | (simp; done) | (simp only [← hji17] <;> (first | rfl | simp)) | (simp [*]; done)), H', ⟨by have := HJ2.out; first | omega | exact Nat.le_refl _⟩, by repeat (first | exact zaw.refl _ | apply zaw.step)⟩
      ·rw [if_neg c18] at H
       exact absurd H (by simp)
     ·rw [if_neg c16] at H
      have c16b0 : decide ((wrap64 (a1 + 1)) < (a0.size : Int)) = false := decide_eq_false c16; clear c16
      (first | rw [c16b0] | (simp only [i64_w, i32_w]; rw [c16b0]) | skip)
      have H' := zaa.mk H; clear H; go_wp2
      go_meet
      case rel => exact ⟨_, (false), (by first | rfl | (simp; done) | (simp [*]; done)), H', ⟨by have := HJ2.out; first | omega | exact Nat.le_refl _⟩, by repeat (first | exact zaw.refl _ | apply zaw.step)⟩
    case rest =>
     clear HC15; try clear c1
     try clear p1
     try clear q1
     try clear hx1
     try clear c2
     try clear p2
     try clear c4
     try clear c4b0
     try clear c6
     try clear c6b0
     try clear p6
     try clear p7
     try clear q7
     try clear hx7
     try clear c8
     try clear c9
     try clear c9b0
     try clear c10
     try clear c10b0
     try clear p11
     try clear q11
     try clear hx11
     try clear c12
     try clear c12b0
     try clear c12b1
     try clear p13
     try clear q13
     try clear hx13
     try clear c14
     try clear c14b0
     try clear c14b1
     try clear c16
     try clear c16b0
     try clear c18
     try clear c18b0
     try clear p19
     try clear q19
     try clear hx19
     try clear p11
     try clear p13
     try clear p19
     try clear p2
     try clear p6
     try clear p7
     try clear q11
     try clear q13
     try clear q19
     try clear q7
     obtain ⟨kq, x51_14, rfl, HA, HJ14, ⟨mc14, rfl⟩⟩ := hcut; cases kq with
     | zero => exact absurd HA.out (by simp [zal.j2])
     | succ kj14 =>
      have H := HA.out; clear HA; simp only [zal.j2] at H; by_cases c20 : x51_14 = true
      ·subst c20
       have H1 : (zal.l1 kj14 a0 (wrap64 (a1 + 2))) = some (r1, r2) := by rw [if_pos rfl] at H; exact H
       clear H; have H := H1; clear H1; have H' := zaa.mk H; clear H; go_wp2
       go_loopg [7] kj14 (fun kq v7 w' => ∃ (x7_3 : Int), v7 = .int .i64 x7_3 ∧ zaa (zal.l1 kq a0 x7_3 = some (r1, r2)) ∧ zaa (kq ≤ kj14) ∧ zaw w w')
       case atStart => exact ⟨(wrap64 (a1 + 2)), (by first | rfl | (simp; done) | (simp [*]; done)), H', ⟨Nat.le_refl _⟩, by repeat (first | exact zaw.refl _ | apply zaw.step)⟩
       case round =>
        clear H'; try clear c1
        try clear p1
        try clear q1
        try clear hx1
        try clear c2
        try clear p2
        try clear c4
        try clear c4b0
        try clear c6
        try clear c6b0
        try clear p6
        try clear p7
        try clear q7
        try clear hx7
        try clear c8
        try clear c9
        try clear c9b0
        try clear c10
        try clear c10b0
        try clear p11
        try clear q11
        try clear hx11
        try clear c12
        try clear c12b0
        try clear c12b1
        try clear p13
        try clear q13
        try clear hx13
        try clear c14
        try clear c14b0
        try clear c14b1
        try clear c16
        try clear c16b0
        try clear c18
        try clear c18b0
        try clear p19
        try clear q19
        try clear hx19
        try clear c20
        try clear p1
        try clear p11
        try clear p13
        try clear p19
        try clear p2
        try clear p6
        try clear p7
        try clear q1
        try clear q11
        try clear q13
        try clear q19
        try clear q7
        obtain ⟨x7_3, rfl, HA, HK3, ⟨m3, rfl⟩⟩ := hrel; cases gk with
        | zero => exact absurd HA.out (by simp [zal.l1])
        | succ k3 =>
         have H := HA.out; clear HA; simp only [zal.l1] at H; by_cases c21 : (wrap64 (x7_3 + 1)) < (a0.size : Int)
         ·rw [if_pos c21] at H
          have c21b0 : decide ((wrap64 (x7_3 + 1)) < (a0.size : Int)) = true := decide_eq_true c21; clear c21; by_cases c22 : 0 ≤ x7_3
          ·rw [if_pos c22] at H
           have c22b0 : decide (0 ≤ x7_3) = true := decide_eq_true c22; clear c22; by_cases c23 : x7_3 < (a0.size : Int)
           ·rw [if_pos c23] at H
            have c23b0 : decide (x7_3 < (a0.size : Int)) = true := decide_eq_true c23; clear c23; by_cases c25 : (bt a0 x7_3) = 42
            ·rw [if_pos c25] at H
             have c25b0 : ((bt a0 x7_3) == 42) = true := beq_iff_eq.mpr c25; have c25b1 : ((bt a0 x7_3) != 42) = false := bne_eq_false_iff_eq.mpr c25; clear c25; obtain ⟨ji26, hji26⟩ : ∃ j_ : Int, (wrap64 (x7_3 + 1)) = j_ := ⟨_, rfl⟩; replace H : (if 0 ≤ (ji26) then (if (bt a0 (ji26)) = 47 then (some (3, wrap64 (x7_3 + 2))) else (zal.l1 k3 a0 ji26)) else (none)) = some (r1, r2) := by first | (rw [hji26] at H; exact H) | (simp only [hji26] at H ⊢; exact H)
             (try rw [hji26] at c21b0)
             have hji26w : (IntKind.i64.wrap (x7_3 + 1)) = ji26 := (i64_w _).trans hji26; by_cases c27 : 0 ≤ (ji26)
             ·rw [if_pos c27] at H
              have c27b0 : decide (0 ≤ (ji26)) = true := decide_eq_true c27; clear c27; by_cases c29 : (bt a0 (ji26)) = 47
              ·rw [if_pos c29] at H
               have c29b0 : ((bt a0 (ji26)) == 47) = true := beq_iff_eq.mpr c29; have c29b1 : ((bt a0 (ji26)) != 47) = false := bne_eq_false_iff_eq.mpr c29; clear c29; simp only [Option.some.injEq, Prod.mk.injEq] at H; obtain ⟨rfl, rfl⟩ := H; have p24 : 0 ≤ (x7_3 : Int) := of_decide_eq_true (by assumption)
               have q24 : x7_3 < (a0.size : Int) := of_decide_eq_true (by assumption)
               have hx24 := bt_at a0 x7_3; replace p24 := eq_true p24; replace q24 := eq_true q24; have p28 : 0 ≤ ((ji26) : Int) := of_decide_eq_true (by assumption)
               have q28 : (ji26) < (a0.size : Int) := of_decide_eq_true (by assumption)
               have hx28 := bt_at a0 (ji26); replace p28 := eq_true p28; replace q28 := eq_true q28; go_wp2
               go_ret2
               exact ⟨by first | rfl | (simp; done) | (simp only [← hji26] <;> (first | rfl | simp)) | (simp [*]; done), by repeat (first | exact zaw.refl _ | apply zaw.step)⟩
              ·rw [if_neg c29] at H
               have c29b0 : ((bt a0 (ji26)) == 47) = false := beq_eq_false_iff_ne.mpr c29; have c29b1 : ((bt a0 (ji26)) != 47) = true := bne_iff_ne.mpr c29; have H' := zaa.mk H; clear H; have p24 : 0 ≤ (x7_3 : Int) := of_decide_eq_true (by assumption)
               have q24 : x7_3 < (a0.size : Int) := of_decide_eq_true (by assumption)
               have hx24 := bt_at a0 x7_3; replace p24 := eq_true p24; replace q24 := eq_true q24; have p28 : 0 ≤ ((ji26) : Int) := of_decide_eq_true (by assumption)
               have q28 : (ji26) < (a0.size : Int) := of_decide_eq_true (by assumption)
               have hx28 := bt_at a0 (ji26); replace p28 := eq_true p28; replace q28 := eq_true q28; go_wp2
               go_roundg k3
               case measure => have := HJ2.out; have := HJ14.out; have := HK3.out; omega
               case rel => exact ⟨(ji26), (by first | rfl | (simp; done) | (simp only [← hji26] <;> (first | rfl | simp)) | (simp [*]; done)), H', ⟨by have := HJ2.out; have := HJ14.out; have := HK3.out; omega⟩, by repeat (first | exact zaw.refl _ | apply zaw.step)⟩
             ·rw [if_neg c27] at H
              exact absurd H (by simp)
            ·rw [if_neg c25] at H
             have c25b0 : ((bt a0 x7_3) == 42) = false := beq_eq_false_iff_ne.mpr c25; have c25b1 : ((bt a0 x7_3) != 42) = true := bne_iff_ne.mpr c25; have H' := zaa.mk H; clear H; have p24 : 0 ≤ (x7_3 : Int) := of_decide_eq_true (by assumption)
             have q24 : x7_3 < (a0.size : Int) := of_decide_eq_true (by assumption)
             have hx24 := bt_at a0 x7_3; replace p24 := eq_true p24; replace q24 := eq_true q24; go_wp2
             go_roundg k3
             case measure => have := HJ2.out; have := HJ14.out; have := HK3.out; omega
             case rel => exact ⟨(wrap64 (x7_3 + 1)), (by first | rfl | (simp; done) | (simp [*]; done)), H', ⟨by have := HJ2.out; have := HJ14.out; have := HK3.out; omega⟩, by repeat (first | exact zaw.refl _ | apply zaw.step)⟩
           ·rw [if_neg c23] at H
            exact absurd H (by simp)
          ·rw [if_neg c22] at H
           exact absurd H (by simp)
         ·rw [if_neg c21] at H
          have c21b0 : decide ((wrap64 (x7_3 + 1)) < (a0.size : Int)) = false := decide_eq_false c21; clear c21; simp only [Option.some.injEq, Prod.mk.injEq] at H; obtain ⟨rfl, rfl⟩ := H; go_wp2
          go_ret2
          exact ⟨by first | rfl | (simp; done) | (simp [*]; done), by repeat (first | exact zaw.refl _ | apply zaw.step)⟩
      ·replace c20 := Bool.eq_false_iff.mpr c20
       subst c20; have H1 : (some (36, wrap64 (a1 + 1))) = some (r1, r2) := by rw [if_neg (show ¬ (false = true) by decide)] at H; exact H
       clear H; have H := H1; clear H1; simp only [Option.some.injEq, Prod.mk.injEq] at H; obtain ⟨rfl, rfl⟩ := H; go_wp2
       go_ret2
       exact ⟨by first | rfl | (simp; done) | (simp [*]; done), by repeat (first | exact zaw.refl _ | apply zaw.step)⟩
def za0.f (a0 : Int) : Option (Bool) := if a0 ≥ 97 then (if a0 ≤ 122 then (some true) else (if a0 ≥ 65 then (if a0 ≤ 90 then (some true) else (some (a0 == 95))) else (some (a0 == 95)))) else (if a0 ≥ 65 then (if a0 ≤ 90 then (some true) else (some (a0 == 95))) else (some (a0 == 95)))
set_option maxHeartbeats 8000000 in
set_option maxRecDepth 100000 in
theorem za0.calls (a0 : Int) (r : Bool) (w : World) (h : za0.f a0 = some r) :
  Calls Try.prog 22 #[.int .u8 a0] w fun e w' => e = .returned (.bool r) ∧ zaw w w' := by
 have H : (if a0 ≥ 97 then (if a0 ≤ 122 then (some true) else (if a0 ≥ 65 then (if a0 ≤ 90 then (some true) else (some (a0 == 95))) else (some (a0 == 95)))) else (if a0 ≥ 65 then (if a0 ≤ 90 then (some true) else (some (a0 == 95))) else (some (a0 == 95)))) = some r := h
 clear h; by_cases c2 : a0 ≥ 97
 ·rw [if_pos c2] at H
  have c2b0 : decide (97 ≤ a0) = true := decide_eq_true c2; clear c2; by_cases c3 : a0 ≤ 122
  ·rw [if_pos c3] at H
   have c3b0 : decide (a0 ≤ 122) = true := decide_eq_true c3; clear c3; obtain rfl := Option.some.inj H; go_enter Try.func22, Try.ntmps22
   go_wp2
   go_ret
   exact ⟨by first | rfl | (simp; done) | (simp [*]; done), by repeat (first | exact zaw.refl _ | apply zaw.step)⟩
  ·rw [if_neg c3] at H
   have c3b0 : decide (a0 ≤ 122) = false := decide_eq_false c3; clear c3; by_cases c4 : a0 ≥ 65
   ·rw [if_pos c4] at H
    have c4b0 : decide (65 ≤ a0) = true := decide_eq_true c4; clear c4; by_cases c5 : a0 ≤ 90
    ·rw [if_pos c5] at H
     have c5b0 : decide (a0 ≤ 90) = true := decide_eq_true c5; clear c5; obtain rfl := Option.some.inj H; go_enter Try.func22, Try.ntmps22
     go_wp2
     go_ret
     exact ⟨by first | rfl | (simp; done) | (simp [*]; done), by repeat (first | exact zaw.refl _ | apply zaw.step)⟩
    ·rw [if_neg c5] at H
     have c5b0 : decide (a0 ≤ 90) = false := decide_eq_false c5; clear c5; obtain rfl := Option.some.inj H; go_enter Try.func22, Try.ntmps22
     go_wp2
     go_ret
     exact ⟨by first | rfl | (simp; done) | (simp [*]; done), by repeat (first | exact zaw.refl _ | apply zaw.step)⟩
   ·rw [if_neg c4] at H
    have c4b0 : decide (65 ≤ a0) = false := decide_eq_false c4; clear c4; obtain rfl := Option.some.inj H; go_enter Try.func22, Try.ntmps22
    go_wp2
    go_ret
    exact ⟨by first | rfl | (simp; done) | (simp [*]; done), by repeat (first | exact zaw.refl _ | apply zaw.step)⟩
 ·rw [if_neg c2] at H
  have c2b0 : decide (97 ≤ a0) = false := decide_eq_false c2; clear c2; by_cases c6 : a0 ≥ 65
  ·rw [if_pos c6] at H
   have c6b0 : decide (65 ≤ a0) = true := decide_eq_true c6; clear c6; by_cases c7 : a0 ≤ 90
   ·rw [if_pos c7] at H
    have c7b0 : decide (a0 ≤ 90) = true := decide_eq_true c7; clear c7; obtain rfl := Option.some.inj H; go_enter Try.func22, Try.ntmps22
    go_wp2
    go_ret
    exact ⟨by first | rfl | (simp; done) | (simp [*]; done), by repeat (first | exact zaw.refl _ | apply zaw.step)⟩
   ·rw [if_neg c7] at H
    have c7b0 : decide (a0 ≤ 90) = false := decide_eq_false c7; clear c7; obtain rfl := Option.some.inj H; go_enter Try.func22, Try.ntmps22
    go_wp2
    go_ret
    exact ⟨by first | rfl | (simp; done) | (simp [*]; done), by repeat (first | exact zaw.refl _ | apply zaw.step)⟩
  ·rw [if_neg c6] at H
   have c6b0 : decide (65 ≤ a0) = false := decide_eq_false c6; clear c6; obtain rfl := Option.some.inj H; go_enter Try.func22, Try.ntmps22
   go_wp2
   go_ret
   exact ⟨by first | rfl | (simp; done) | (simp [*]; done), by repeat (first | exact zaw.refl _ | apply zaw.step)⟩
def zaW.f (a0 : Int) : Option (Bool) := if a0 ≥ 48 then (some (decide (a0 ≤ 57))) else (some false)
set_option maxHeartbeats 8000000 in
set_option maxRecDepth 100000 in
theorem zaW.calls (a0 : Int) (r : Bool) (w : World) (h : zaW.f a0 = some r) :
  Calls Try.prog 23 #[.int .u8 a0] w fun e w' => e = .returned (.bool r) ∧ zaw w w' := by
 have H : (if a0 ≥ 48 then (some (decide (a0 ≤ 57))) else (some false)) = some r := h
 clear h; by_cases c2 : a0 ≥ 48
 ·rw [if_pos c2] at H
  have c2b0 : decide (48 ≤ a0) = true := decide_eq_true c2; clear c2; obtain rfl := Option.some.inj H; go_enter Try.func23, Try.ntmps23
  go_wp2
  go_ret
  exact ⟨by first | rfl | (simp; done) | (simp [*]; done), by repeat (first | exact zaw.refl _ | apply zaw.step)⟩
 ·rw [if_neg c2] at H
  have c2b0 : decide (48 ≤ a0) = false := decide_eq_false c2; clear c2; obtain rfl := Option.some.inj H; go_enter Try.func23, Try.ntmps23
  go_wp2
  go_ret
  exact ⟨by first | rfl | (simp; done) | (simp [*]; done), by repeat (first | exact zaw.refl _ | apply zaw.step)⟩
def zaC.l0 : Nat → ByteArray → List ByteArray → Int → Option (Int)
 | 0, _, _, _ => none
 | k + 1, x0, x3, x4 => if x4 < (x3.length : Int) then (if 0 ≤ x4 then (if (rdOf ByteArray.empty x3 x4).toList = x0.toList then (some ((10 + ((x4) % 256)) % 256)) else (zaC.l0 k x0 x3 (wrap64 (x4 + 1)))) else (none)) else (some 6)
def zaC.f (k : Nat) (a0 : ByteArray) : Option (Int) := zaC.l0 k a0 (([(⟨#[108, 101, 116]⟩ : ByteArray), (⟨#[102, 110]⟩ : ByteArray), (⟨#[105, 102]⟩ : ByteArray), (⟨#[101, 108, 115, 101]⟩ : ByteArray), (⟨#[119, 104, 105, 108, 101]⟩ : ByteArray), (⟨#[114, 101, 116, 117, 114, 110]⟩ : ByteArray), (⟨#[116, 114, 117, 101]⟩ : ByteArray), (⟨#[102, 97, 108, 115, 101]⟩ : ByteArray)] : List ByteArray)) 0
theorem zaC.zbn : ∀ k, (∀ y0 y1 y2, LeO (zaC.l0 k y0 y1 y2) (zaC.l0 (k + 1) y0 y1 y2))
 | 0 => fun _ _ _ r h => by simp [zaC.l0] at h
 | k + 1 => by
  have ih0 := zaC.zbn k
  ·intro y0 y1 y2
   unfold zaC.l0
   repeat' first
   | (with_reducible exact ih0 _ _ _)
   | (with_reducible exact LeO.refl _)
   | (with_reducible exact LeO.none _)
   | (with_reducible refine LeO.ite ?_ ?_)
   | (with_reducible refine LeO.bind ?_ (fun _ => ?_))
theorem zaC.mono : ∀ a0 k, LeO (zaC.f k a0) (zaC.f (k + 1) a0) := by
 intro a0 k
 have ih0 := zaC.zbn k; unfold zaC.f
 repeat' first
   | (with_reducible exact ih0 _ _ _)
   | (with_reducible exact LeO.refl _)
   | (with_reducible exact LeO.none _)
   | (with_reducible refine LeO.ite ?_ ?_)
   | (with_reducible refine LeO.bind ?_ (fun _ => ?_))
set_option maxHeartbeats 8000000 in
set_option maxRecDepth 100000 in
theorem zaC.calls (k : Nat) (a0 : ByteArray) (r : Int) (w : World) (h : zaC.f k a0 = some r) :
  Calls Try.prog 24 #[.string a0] w fun e w' => e = .returned (.int .u8 r) ∧ Below w.heap.size w w' := by
 have HB := zaa.mk (Below.refl w.heap.size w); have H : (zaC.l0 k a0 (([(⟨#[108, 101, 116]⟩ : ByteArray), (⟨#[102, 110]⟩ : ByteArray), (⟨#[105, 102]⟩ : ByteArray), (⟨#[101, 108, 115, 101]⟩ : ByteArray), (⟨#[119, 104, 105, 108, 101]⟩ : ByteArray), (⟨#[114, 101, 116, 117, 114, 110]⟩ : ByteArray), (⟨#[116, 114, 117, 101]⟩ : ByteArray), (⟨#[102, 97, 108, 115, 101]⟩ : ByteArray)] : List ByteArray)) 0) = some r := h; clear h; obtain ⟨y217, hy217⟩ : ∃ y_ : List ByteArray, y_ = (([(⟨#[108, 101, 116]⟩ : ByteArray), (⟨#[102, 110]⟩ : ByteArray), (⟨#[105, 102]⟩ : ByteArray), (⟨#[101, 108, 115, 101]⟩ : ByteArray), (⟨#[119, 104, 105, 108, 101]⟩ : ByteArray), (⟨#[114, 101, 116, 117, 114, 110]⟩ : ByteArray), (⟨#[116, 114, 117, 101]⟩ : ByteArray), (⟨#[102, 97, 108, 115, 101]⟩ : ByteArray)] : List ByteArray)) := ⟨_, rfl⟩; replace H : (zaC.l0 k a0 y217 0) = some r := by first | (rw [hy217]; with_reducible exact H) | (have H2_ := (Option.bind_some _ _).symm.trans H; rw [hy217]; with_reducible exact H2_) | (have H2_ := (Option.bind_some _ _).symm.trans H; with_reducible exact H2_) | with_reducible exact H | (rw [hy217]; exact H) | exact H
 have Ny217 := zaa.mk hy217; clear hy217; have H' := zaa.mk H; clear H; go_enter Try.func24, Try.ntmps24
 go_wp2_with (first | ((with_reducible refine za5 (N := 5) rfl ?_); refine Kd.R_lit Kd.string _ 9 ?hg (N := 5) ?hd (xs := ([(⟨#[108, 101, 116]⟩ : ByteArray), (⟨#[102, 110]⟩ : ByteArray), (⟨#[105, 102]⟩ : ByteArray), (⟨#[101, 108, 115, 101]⟩ : ByteArray), (⟨#[119, 104, 105, 108, 101]⟩ : ByteArray), (⟨#[114, 101, 116, 117, 114, 110]⟩ : ByteArray), (⟨#[116, 114, 117, 101]⟩ : ByteArray), (⟨#[102, 97, 108, 115, 101]⟩ : ByteArray)] : List ByteArray)) (inner := [.string (⟨#[108, 101, 116]⟩ : ByteArray), .string (⟨#[102, 110]⟩ : ByteArray), .string (⟨#[105, 102]⟩ : ByteArray), .string (⟨#[101, 108, 115, 101]⟩ : ByteArray), .string (⟨#[119, 104, 105, 108, 101]⟩ : ByteArray), .string (⟨#[114, 101, 116, 117, 114, 110]⟩ : ByteArray), .string (⟨#[116, 114, 117, 101]⟩ : ByteArray), .string (⟨#[102, 97, 108, 115, 101]⟩ : ByteArray)]) (ok := fun _ => True) (okp := fun _ => True) ?hr ?hp (fun _ hk => hk) trivial (Below.refl _ _) (Nat.le_refl _) (by simp) ?_; (case hd => rfl); (case hg => rfl); (case hr => first | (go_simp; done) | (go_simp; rfl)); (case hp => exact (Reps.one (show Kd.M Kd.string _ _ _ (⟨#[108, 101, 116]⟩ : ByteArray) [.string (⟨#[108, 101, 116]⟩ : ByteArray)] from rfl) (Reps.one (show Kd.M Kd.string _ _ _ (⟨#[102, 110]⟩ : ByteArray) [.string (⟨#[102, 110]⟩ : ByteArray)] from rfl) (Reps.one (show Kd.M Kd.string _ _ _ (⟨#[105, 102]⟩ : ByteArray) [.string (⟨#[105, 102]⟩ : ByteArray)] from rfl) (Reps.one (show Kd.M Kd.string _ _ _ (⟨#[101, 108, 115, 101]⟩ : ByteArray) [.string (⟨#[101, 108, 115, 101]⟩ : ByteArray)] from rfl) (Reps.one (show Kd.M Kd.string _ _ _ (⟨#[119, 104, 105, 108, 101]⟩ : ByteArray) [.string (⟨#[119, 104, 105, 108, 101]⟩ : ByteArray)] from rfl) (Reps.one (show Kd.M Kd.string _ _ _ (⟨#[114, 101, 116, 117, 114, 110]⟩ : ByteArray) [.string (⟨#[114, 101, 116, 117, 114, 110]⟩ : ByteArray)] from rfl) (Reps.one (show Kd.M Kd.string _ _ _ (⟨#[116, 114, 117, 101]⟩ : ByteArray) [.string (⟨#[116, 114, 117, 101]⟩ : ByteArray)] from rfl) (Reps.one (show Kd.M Kd.string _ _ _ (⟨#[102, 97, 108, 115, 101]⟩ : ByteArray) [.string (⟨#[102, 97, 108, 115, 101]⟩ : ByteArray)] from rfl) (Reps.none _ _)))))))))); intro v218 w2 ho3 hb hg_ hnew_; clear hg_ hnew_; (first | rw [← Ny217.out] at ho3 | (simp only [Int.reduceToNat] at ho3; rw [← Ny217.out] at ho3)); have n0_ := zaa.mk (Kd.zbK ho3 (zaB (by repeat (first | exact HB.out | apply zad | apply zac | apply zaf)))); have n1_ := zaa.mk (zan (by repeat (first | exact HB.out | apply zad | apply zac | apply zaf)) hb); clear HB; have HO219 := n0_; have HB := n1_; clear n0_ n1_; clear hb ho3))
 go_loopg [4] k (fun kq v4 w' => ∃ (x4_1 : Int), v4 = .int .i64 x4_1 ∧ zaa (zaC.l0 kq a0 y217 x4_1 = some r) ∧ zaa (kq ≤ k) ∧ zaa (Kd.R Kd.string 9 w' w.heap.size (fun _ => True) v218 y217) ∧ zaa (Below w.heap.size w w'))
 case atStart => exact ⟨(0), (by first | rfl | (simp; done) | (simp [*]; done)), H', ⟨Nat.le_refl _⟩, ⟨by (with_reducible repeat (first | apply Kd.zbt | apply Kd.zbv | apply Kd.zbM)); exact HO219.out⟩, ⟨by repeat (first | exact HB.out | apply zad | apply zac | apply zaf)⟩⟩
 case round =>
  clear H'; try clear c2
  try clear p2
  obtain ⟨x4_1, rfl, HA, HK1, HO_3, HB⟩ := hrel; cases gk with
  | zero => exact absurd HA.out (by simp [zaC.l0])
  | succ k1 =>
   have H := HA.out; clear HA; simp only [zaC.l0] at H; by_cases c4 : x4_1 < (y217.length : Int)
   ·rw [if_pos c4] at H
    have c4b0 : decide (x4_1 < (y217.length : Int)) = true := decide_eq_true c4; clear c4; by_cases c5 : 0 ≤ x4_1
    ·rw [if_pos c5] at H
     have c5b0 : decide (0 ≤ x4_1) = true := decide_eq_true c5; clear c5; by_cases c6 : (rdOf ByteArray.empty y217 x4_1).toList = a0.toList
     ·rw [if_pos c6] at H
      have c6b0 : ((rdOf ByteArray.empty y217 x4_1).toList == a0.toList) = true := beq_iff_eq.mpr c6; have c6b1 : ((rdOf ByteArray.empty y217 x4_1).toList != a0.toList) = false := bne_eq_false_iff_eq.mpr c6; clear c6; obtain rfl := Option.some.inj H; obtain ⟨Ao7, co7, eo7⟩ := Kd.zbO HO_3.out; subst eo7; have p220 : 0 ≤ (x4_1 : Int) := of_decide_eq_true (by assumption)
      have q220 : x4_1 < (y217.length : Int) := of_decide_eq_true (by assumption)
      obtain ⟨ad220, e220, hx220_0⟩ := Kd.at_string (Kd.zbB HO_3.out).2.2 x4_1 p220 q220; cases e220; replace p220 := eq_true p220; replace q220 := eq_true q220; go_wp2
      go_ret
      exact ⟨by first | rfl | (simp [*, zay, zax] <;> rfl), by repeat (first | exact HB.out | apply zad | apply zac | apply zaf)⟩
     ·rw [if_neg c6] at H
      have c6b0 : ((rdOf ByteArray.empty y217 x4_1).toList == a0.toList) = false := beq_eq_false_iff_ne.mpr c6; have c6b1 : ((rdOf ByteArray.empty y217 x4_1).toList != a0.toList) = true := bne_iff_ne.mpr c6; have H' := zaa.mk H; clear H; obtain ⟨Ao8, co8, eo8⟩ := Kd.zbO HO_3.out; subst eo8; have p220 : 0 ≤ (x4_1 : Int) := of_decide_eq_true (by assumption)
      have q220 : x4_1 < (y217.length : Int) := of_decide_eq_true (by assumption)
      obtain ⟨ad220, e220, hx220_0⟩ := Kd.at_string (Kd.zbB HO_3.out).2.2 x4_1 p220 q220; cases e220; replace p220 := eq_true p220; replace q220 := eq_true q220; go_wp2
      go_roundg k1
      case measure => have := HK1.out; omega
      case rel => exact ⟨(wrap64 (x4_1 + 1)), (by first | rfl | (simp; done) | (simp [*]; done)), H', ⟨by have := HK1.out; omega⟩, ⟨by (with_reducible repeat (first | apply Kd.zbt | apply Kd.zbv | apply Kd.zbM)); exact HO_3.out⟩, ⟨by repeat (first | exact HB.out | apply zad | apply zac | apply zaf)⟩⟩
    ·rw [if_neg c5] at H
     exact absurd H (by simp)
   ·rw [if_neg c4] at H
    have c4b0 : decide (x4_1 < (y217.length : Int)) = false := decide_eq_false c4; clear c4; obtain rfl := Option.some.inj H; obtain ⟨Ao9, co9, eo9⟩ := Kd.zbO HO_3.out; subst eo9; go_wp2
    go_ret
    exact ⟨by first | rfl | (simp [*, zay, zax] <;> rfl), by repeat (first | exact HB.out | apply zad | apply zac | apply zaf)⟩
mutual
def zaj.j0 : Nat → ByteArray → Int → Bool → Option (Int × Int × Bool)
 | 0, _, _, _ => none
 | k + 1, x0, x1, x20 => if x20 = true then (some (0, 0, false)) else (if 0 ≤ x1 then (if x1 < (x0.size : Int) then (if (wrap64 (bt x0 x1)) < 128 then (some (wrap32 (wrap64 (bt x0 x1)), 1, true)) else (if (wrap64 (bt x0 x1)) ≥ 192 then (zaj.j1 k x0 x1 (wrap64 (bt x0 x1)) (decide ((wrap64 (bt x0 x1)) < 224))) else (zaj.j1 k x0 x1 (wrap64 (bt x0 x1)) false))) else (none)) else (none))
def zaj.j3 : Nat → ByteArray → Int → Int → Int → Option (Int × Int × Bool)
 | 0, _, _, _, _ => none
 | k + 1, x0, x1, x8, x9 => if (wrap64 (x1 + x8)) > (x0.size : Int) then (some (0, 0, false)) else (zaj.l0 k x0 x1 x8 x9 1)
def zaj.l0 : Nat → ByteArray → Int → Int → Int → Int → Option (Int × Int × Bool)
 | 0, _, _, _, _, _ => none
 | k + 1, x0, x1, x8, x9, x10 => if x10 < x8 then (if 0 ≤ (wrap64 (x1 + x10)) then (if (wrap64 (x1 + x10)) < (x0.size : Int) then (if (wrap64 (bt x0 (wrap64 (x1 + x10)))) < 128 then (some (0, 0, false)) else (if (wrap64 (bt x0 (wrap64 (x1 + x10)))) ≥ 192 then (some (0, 0, false)) else (zaj.l0 k x0 x1 x8 (wrap64 ((wrap64 ((wrap64 (x9 * 64)) + (wrap64 (bt x0 (wrap64 (x1 + x10)))))) - 128)) (wrap64 (x10 + 1))))) else (none)) else (none)) else ((some (([0, 0, 128, 2048, 65536] : List Int) : List Int)).bind fun y221 => (if 0 ≤ x8 then (if x8 < (y221.length : Int) then (if x9 < (rd y221 x8) then (some (0, 0, false)) else (if x9 > 1114111 then (some (0, 0, false)) else (if x9 ≥ 55296 then (if x9 < 57344 then (some (0, 0, false)) else (some (wrap32 (x9), x8, true))) else (some (wrap32 (x9), x8, true))))) else (none)) else (none)))
def zaj.j1 : Nat → ByteArray → Int → Int → Bool → Option (Int × Int × Bool)
 | 0, _, _, _, _ => none
 | k + 1, x0, x1, x7, x31 => if x31 = true then (zaj.j3 k x0 x1 2 (wrap64 (x7 - 192))) else (if x7 ≥ 224 then (zaj.j2 k x0 x1 x7 (decide (x7 < 240))) else (zaj.j2 k x0 x1 x7 false))
def zaj.j2 : Nat → ByteArray → Int → Int → Bool → Option (Int × Int × Bool)
 | 0, _, _, _, _ => none
 | k + 1, x0, x1, x7, x40 => if x40 = true then (zaj.j3 k x0 x1 3 (wrap64 (x7 - 224))) else (if x7 ≥ 240 then (if x7 < 248 then (zaj.j3 k x0 x1 4 (wrap64 (x7 - 240))) else (some (0, 0, false))) else (some (0, 0, false)))
end
def zaj.f (k : Nat) (a0 : ByteArray) (a1 : Int) : Option (Int × Int × Bool) := if a1 < 0 then (zaj.j0 k a0 a1 true) else (zaj.j0 k a0 a1 (decide (a1 ≥ (a0.size : Int))))
theorem zaj.zbn : ∀ k, (∀ y0 y1 y2, LeO (zaj.j0 k y0 y1 y2) (zaj.j0 (k + 1) y0 y1 y2)) ∧ (∀ y0 y1 y2 y3, LeO (zaj.j3 k y0 y1 y2 y3) (zaj.j3 (k + 1) y0 y1 y2 y3)) ∧ (∀ y0 y1 y2 y3 y4, LeO (zaj.l0 k y0 y1 y2 y3 y4) (zaj.l0 (k + 1) y0 y1 y2 y3 y4)) ∧ (∀ y0 y1 y2 y3, LeO (zaj.j1 k y0 y1 y2 y3) (zaj.j1 (k + 1) y0 y1 y2 y3)) ∧ (∀ y0 y1 y2 y3, LeO (zaj.j2 k y0 y1 y2 y3) (zaj.j2 (k + 1) y0 y1 y2 y3))
 | 0 => ⟨fun _ _ _ r h => by simp [zaj.j0] at h, fun _ _ _ _ r h => by simp [zaj.j3] at h, fun _ _ _ _ _ r h => by simp [zaj.l0] at h, fun _ _ _ _ r h => by simp [zaj.j1] at h, fun _ _ _ _ r h => by simp [zaj.j2] at h⟩
 | k + 1 => by
  obtain ⟨ih0, ih1, ih2, ih3, ih4⟩ := zaj.zbn k; refine ⟨?_, ?_, ?_, ?_, ?_⟩
  ·intro y0 y1 y2
   unfold zaj.j0
   repeat' first
   | (with_reducible exact ih0 _ _ _)
   | (with_reducible exact ih1 _ _ _ _)
   | (with_reducible exact ih2 _ _ _ _ _)
   | (with_reducible exact ih3 _ _ _ _)
   | (with_reducible exact ih4 _ _ _ _)
   | (with_reducible exact LeO.refl _)
   | (with_reducible exact LeO.none _)
   | (with_reducible refine LeO.ite ?_ ?_)
   | (with_reducible refine LeO.bind ?_ (fun _ => ?_))
  ·intro y0 y1 y2 y3
   unfold zaj.j3
   repeat' first
   | (with_reducible exact ih0 _ _ _)
   | (with_reducible exact ih1 _ _ _ _)
   | (with_reducible exact ih2 _ _ _ _ _)
   | (with_reducible exact ih3 _ _ _ _)
   | (with_reducible exact ih4 _ _ _ _)
   | (with_reducible exact LeO.refl _)
   | (with_reducible exact LeO.none _)
   | (with_reducible refine LeO.ite ?_ ?_)
   | (with_reducible refine LeO.bind ?_ (fun _ => ?_))
  ·intro y0 y1 y2 y3 y4
   unfold zaj.l0
   repeat' first
   | (with_reducible exact ih0 _ _ _)
   | (with_reducible exact ih1 _ _ _ _)
   | (with_reducible exact ih2 _ _ _ _ _)
   | (with_reducible exact ih3 _ _ _ _)
   | (with_reducible exact ih4 _ _ _ _)
   | (with_reducible exact LeO.refl _)
   | (with_reducible exact LeO.none _)
   | (with_reducible refine LeO.ite ?_ ?_)
   | (with_reducible refine LeO.bind ?_ (fun _ => ?_))
  ·intro y0 y1 y2 y3
   unfold zaj.j1
   repeat' first
   | (with_reducible exact ih0 _ _ _)
   | (with_reducible exact ih1 _ _ _ _)
   | (with_reducible exact ih2 _ _ _ _ _)
   | (with_reducible exact ih3 _ _ _ _)
   | (with_reducible exact ih4 _ _ _ _)
   | (with_reducible exact LeO.refl _)
   | (with_reducible exact LeO.none _)
   | (with_reducible refine LeO.ite ?_ ?_)
   | (with_reducible refine LeO.bind ?_ (fun _ => ?_))
  ·intro y0 y1 y2 y3
   unfold zaj.j2
   repeat' first
   | (with_reducible exact ih0 _ _ _)
   | (with_reducible exact ih1 _ _ _ _)
   | (with_reducible exact ih2 _ _ _ _ _)
   | (with_reducible exact ih3 _ _ _ _)
   | (with_reducible exact ih4 _ _ _ _)
   | (with_reducible exact LeO.refl _)
   | (with_reducible exact LeO.none _)
   | (with_reducible refine LeO.ite ?_ ?_)
   | (with_reducible refine LeO.bind ?_ (fun _ => ?_))
theorem zaj.mono : ∀ a0 a1 k, LeO (zaj.f k a0 a1) (zaj.f (k + 1) a0 a1) := by
 intro a0 a1 k
 obtain ⟨ih0, ih1, ih2, ih3, ih4⟩ := zaj.zbn k; unfold zaj.f
 repeat' first
   | (with_reducible exact ih0 _ _ _)
   | (with_reducible exact ih1 _ _ _ _)
   | (with_reducible exact ih2 _ _ _ _ _)
   | (with_reducible exact ih3 _ _ _ _)
   | (with_reducible exact ih4 _ _ _ _)
   | (with_reducible exact LeO.refl _)
   | (with_reducible exact LeO.none _)
   | (with_reducible refine LeO.ite ?_ ?_)
   | (with_reducible refine LeO.bind ?_ (fun _ => ?_))
set_option maxHeartbeats 8000000 in
set_option maxRecDepth 100000 in
theorem zaj.calls (k : Nat) (a0 : ByteArray) (a1 : Int) (r1 : Int) (r2 : Int) (r3 : Bool) (w : World) (h : zaj.f k a0 a1 = some (r1, r2, r3)) :
  Calls Try.prog 27 #[.string a0, .int .i64 a1] w fun e w' => e = .returned (.tuple #[.int .i32 r1, .int .i64 r2, .bool r3]) ∧ Below w.heap.size w w' := by
 have HB := zaa.mk (Below.refl w.heap.size w); have H : (if a1 < 0 then (zaj.j0 k a0 a1 true) else (zaj.j0 k a0 a1 (decide (a1 ≥ (a0.size : Int))))) = some (r1, r2, r3) := h
 clear h; have HC3 := zaa.mk H; clear H; go_enter Try.func27, Try.ntmps27
 go_upto_region 1 with (fail)
 go_cut [20] (fun v20 wc => ∃ (kq : Nat) (x20_2 : Bool), v20 = .bool x20_2 ∧ zaa (zaj.j0 kq a0 a1 x20_2 = some (r1, r2, r3)) ∧ zaa (kq ≤ k) ∧ zaa (Below w.heap.size w wc))
 case first =>
  have H := HC3.out; clear HC3; by_cases c4 : a1 < 0
  ·rw [if_pos c4] at H
   have c4b0 : decide (a1 < 0) = true := decide_eq_true c4; clear c4
   (first | rw [c4b0] | (simp only [i64_w, i32_w]; rw [c4b0]) | skip)
   have H' := zaa.mk H; clear H; go_wp2
   go_meet
   case rel => exact ⟨_, (true), (by first | rfl | (simp; done) | (simp [*]; done)), H', ⟨by first | omega | exact Nat.le_refl _⟩, ⟨by repeat (first | exact HB.out | apply zad | apply zac | apply zaf)⟩⟩
  ·rw [if_neg c4] at H
   have c4b0 : decide (a1 < 0) = false := decide_eq_false c4; clear c4
   (first | rw [c4b0] | (simp only [i64_w, i32_w]; rw [c4b0]) | skip)
   have H' := zaa.mk H; clear H; go_wp2
   go_meet
   case rel => exact ⟨_, (decide (a1 ≥ (a0.size : Int))), (by first | rfl | (simp; done) | (simp [*]; done)), H', ⟨by first | omega | exact Nat.le_refl _⟩, ⟨by repeat (first | exact HB.out | apply zad | apply zac | apply zaf)⟩⟩
 case rest =>
  clear HC3; try clear c2
  try clear p2
  try clear c4
  try clear c4b0
  obtain ⟨kq, x20_2, rfl, HA, HJ2, HB⟩ := hcut; cases kq with
  | zero => exact absurd HA.out (by simp [zaj.j0])
  | succ kj2 =>
   have H := HA.out; clear HA; simp only [zaj.j0] at H; by_cases c5 : x20_2 = true
   ·subst c5
    have H1 : (some (0, 0, false)) = some (r1, r2, r3) := by rw [if_pos rfl] at H; exact H
    clear H; have H := H1; clear H1; simp only [Option.some.injEq, Prod.mk.injEq] at H; obtain ⟨rfl, rfl, rfl⟩ := H; go_wp2
    go_ret3
    exact ⟨by first | rfl | (simp [*, zay, zax] <;> rfl), by repeat (first | exact HB.out | apply zad | apply zac | apply zaf)⟩
   ·replace c5 := Bool.eq_false_iff.mpr c5
    subst c5; have H1 : (if 0 ≤ a1 then (if a1 < (a0.size : Int) then (if (wrap64 (bt a0 a1)) < 128 then (some (wrap32 (wrap64 (bt a0 a1)), 1, true)) else (if (wrap64 (bt a0 a1)) ≥ 192 then (zaj.j1 kj2 a0 a1 (wrap64 (bt a0 a1)) (decide ((wrap64 (bt a0 a1)) < 224))) else (zaj.j1 kj2 a0 a1 (wrap64 (bt a0 a1)) false))) else (none)) else (none)) = some (r1, r2, r3) := by rw [if_neg (show ¬ (false = true) by decide)] at H; exact H
    clear H; have H := H1; clear H1; by_cases c6 : 0 ≤ a1
    ·rw [if_pos c6] at H
     have c6b0 : decide (0 ≤ a1) = true := decide_eq_true c6; clear c6; by_cases c7 : a1 < (a0.size : Int)
     ·rw [if_pos c7] at H
      have c7b0 : decide (a1 < (a0.size : Int)) = true := decide_eq_true c7; clear c7; have HC9 := zaa.mk H; clear H; have p8 : 0 ≤ (a1 : Int) := of_decide_eq_true (by assumption)
      have q8 : a1 < (a0.size : Int) := of_decide_eq_true (by assumption)
      have hx8 := bt_at a0 a1; replace p8 := eq_true p8; replace q8 := eq_true q8
      go_upto_block 0 with (fail)
      go_cut [8, 9] (fun v8 v9 wc => ∃ (kq : Nat) (x8_8 : Int) (x9_8 : Int), v8 = .int .i64 x8_8 ∧ v9 = .int .i64 x9_8 ∧ zaa (zaj.j3 kq a0 a1 x8_8 x9_8 = some (r1, r2, r3)) ∧ zaa (kq ≤ kj2) ∧ zaa (Below w.heap.size w wc))
      case first =>
       have H := HC9.out; clear HC9; by_cases c10 : (wrap64 (bt a0 a1)) < 128
       ·rw [if_pos c10] at H
        have c10b0 : decide ((wrap64 (bt a0 a1)) < 128) = true := decide_eq_true c10; clear c10
        (first | rw [c10b0] | (simp only [i64_w, i32_w]; rw [c10b0]) | skip)
        simp only [Option.some.injEq, Prod.mk.injEq] at H; obtain ⟨rfl, rfl, rfl⟩ := H; go_wp2
        go_ret3
        exact ⟨by first | rfl | (simp [*, zay, zax] <;> rfl), by repeat (first | exact HB.out | apply zad | apply zac | apply zaf)⟩
       ·rw [if_neg c10] at H
        have c10b0 : decide ((wrap64 (bt a0 a1)) < 128) = false := decide_eq_false c10; clear c10
        (first | rw [c10b0] | (simp only [i64_w, i32_w]; rw [c10b0]) | skip)
        have HC11 := zaa.mk H; clear H; go_upto_region 8 with (fail)
        go_cut [31] (fun v31 wc => ∃ (kq : Nat) (x31_10 : Bool), v31 = .bool x31_10 ∧ zaa (zaj.j1 kq a0 a1 (wrap64 (bt a0 a1)) x31_10 = some (r1, r2, r3)) ∧ zaa (kq ≤ kj2) ∧ zaa (Below w.heap.size w wc))
        case first =>
         have H := HC11.out; clear HC11; by_cases c12 : (wrap64 (bt a0 a1)) ≥ 192
         ·rw [if_pos c12] at H
          have c12b0 : decide (192 ≤ (wrap64 (bt a0 a1))) = true := decide_eq_true c12; clear c12
          (first | rw [c12b0] | (simp only [i64_w, i32_w]; rw [c12b0]) | skip)
          have H' := zaa.mk H; clear H; go_wp2
          go_meet
          case rel => exact ⟨_, (decide ((wrap64 (bt a0 a1)) < 224)), (by first | rfl | (simp; done) | (simp [*]; done)), H', ⟨by have := HJ2.out; first | omega | exact Nat.le_refl _⟩, ⟨by repeat (first | exact HB.out | apply zad | apply zac | apply zaf)⟩⟩
         ·rw [if_neg c12] at H
          have c12b0 : decide (192 ≤ (wrap64 (bt a0 a1))) = false := decide_eq_false c12; clear c12
          (first | rw [c12b0] | (simp only [i64_w, i32_w]; rw [c12b0]) | skip)
          have H' := zaa.mk H; clear H; go_wp2
          go_meet
          case rel => exact ⟨_, (false), (by first | rfl | (simp; done) | (simp [*]; done)), H', ⟨by have := HJ2.out; first | omega | exact Nat.le_refl _⟩, ⟨by repeat (first | exact HB.out | apply zad | apply zac | apply zaf)⟩⟩
        case rest =>
         clear HC11; try clear c1
         try clear c2
         try clear p2
         try clear p3
         try clear c4
         try clear c4b0
         try clear c5
         try clear c6
         try clear c6b0
         try clear p6
         try clear c7
         try clear c7b0
         try clear p8
         try clear q8
         try clear hx8
         try clear c10
         try clear c10b0
         try clear c12
         try clear c12b0
         try clear p2
         try clear p8
         try clear q8
         obtain ⟨kq, x31_10, rfl, HA, HJ10, HB⟩ := hcut; cases kq with
         | zero => exact absurd HA.out (by simp [zaj.j1])
         | succ kj10 =>
          have H := HA.out; clear HA; simp only [zaj.j1] at H; by_cases c13 : x31_10 = true
          ·subst c13
           have H1 : (zaj.j3 kj10 a0 a1 2 (wrap64 ((wrap64 (bt a0 a1)) - 192))) = some (r1, r2, r3) := by rw [if_pos rfl] at H; exact H
           clear H; have H := H1; clear H1; have H' := zaa.mk H; clear H; go_wp2
           go_meet
           case rel => exact ⟨_, (2), (wrap64 ((wrap64 (bt a0 a1)) - 192)), (by first | rfl | (simp; done) | (simp [*]; done)), (by first | rfl | (simp; done) | (simp [*]; done)), H', ⟨by have := HJ2.out; have := HJ10.out; first | omega | exact Nat.le_refl _⟩, ⟨by repeat (first | exact HB.out | apply zad | apply zac | apply zaf)⟩⟩
          ·replace c13 := Bool.eq_false_iff.mpr c13
           subst c13; have H1 : (if (wrap64 (bt a0 a1)) ≥ 224 then (zaj.j2 kj10 a0 a1 (wrap64 (bt a0 a1)) (decide ((wrap64 (bt a0 a1)) < 240))) else (zaj.j2 kj10 a0 a1 (wrap64 (bt a0 a1)) false)) = some (r1, r2, r3) := by rw [if_neg (show ¬ (false = true) by decide)] at H; exact H
           clear H; have H := H1; clear H1; have HC14 := zaa.mk H; clear H; go_upto_region 10 with (fail)
           go_cut [40] (fun v40 wc => ∃ (kq : Nat) (x40_13 : Bool), v40 = .bool x40_13 ∧ zaa (zaj.j2 kq a0 a1 (wrap64 (bt a0 a1)) x40_13 = some (r1, r2, r3)) ∧ zaa (kq ≤ kj10) ∧ zaa (Below w.heap.size w wc))
           case first =>
            have H := HC14.out; clear HC14; by_cases c15 : (wrap64 (bt a0 a1)) ≥ 224
            ·rw [if_pos c15] at H
             have c15b0 : decide (224 ≤ (wrap64 (bt a0 a1))) = true := decide_eq_true c15; clear c15
             (first | rw [c15b0] | (simp only [i64_w, i32_w]; rw [c15b0]) | skip)
             have H' := zaa.mk H; clear H; go_wp2
             go_meet
             case rel => exact ⟨_, (decide ((wrap64 (bt a0 a1)) < 240)), (by first | rfl | (simp; done) | (simp [*]; done)), H', ⟨by have := HJ2.out; have := HJ10.out; first | omega | exact Nat.le_refl _⟩, ⟨by repeat (first | exact HB.out | apply zad | apply zac | apply zaf)⟩⟩
            ·rw [if_neg c15] at H
             have c15b0 : decide (224 ≤ (wrap64 (bt a0 a1))) = false := decide_eq_false c15; clear c15
             (first | rw [c15b0] | (simp only [i64_w, i32_w]; rw [c15b0]) | skip)
             have H' := zaa.mk H; clear H; go_wp2
             go_meet
             case rel => exact ⟨_, (false), (by first | rfl | (simp; done) | (simp [*]; done)), H', ⟨by have := HJ2.out; have := HJ10.out; first | omega | exact Nat.le_refl _⟩, ⟨by repeat (first | exact HB.out | apply zad | apply zac | apply zaf)⟩⟩
           case rest =>
            clear HC14; try clear c1
            try clear c2
            try clear p2
            try clear p3
            try clear c4
            try clear c4b0
            try clear c5
            try clear c6
            try clear c6b0
            try clear p6
            try clear c7
            try clear c7b0
            try clear p8
            try clear q8
            try clear hx8
            try clear c10
            try clear c10b0
            try clear c12
            try clear c12b0
            try clear c13
            try clear c15
            try clear c15b0
            try clear p2
            try clear p3
            try clear p6
            try clear p8
            try clear q8
            obtain ⟨kq, x40_13, rfl, HA, HJ13, HB⟩ := hcut; cases kq with
            | zero => exact absurd HA.out (by simp [zaj.j2])
            | succ kj13 =>
             have H := HA.out; clear HA; simp only [zaj.j2] at H; by_cases c16 : x40_13 = true
             ·subst c16
              have H1 : (zaj.j3 kj13 a0 a1 3 (wrap64 ((wrap64 (bt a0 a1)) - 224))) = some (r1, r2, r3) := by rw [if_pos rfl] at H; exact H
              clear H; have H := H1; clear H1; have H' := zaa.mk H; clear H; go_wp2
              go_meet
              case rel => exact ⟨_, (3), (wrap64 ((wrap64 (bt a0 a1)) - 224)), (by first | rfl | (simp; done) | (simp [*]; done)), (by first | rfl | (simp; done) | (simp [*]; done)), H', ⟨by have := HJ2.out; have := HJ10.out; have := HJ13.out; first | omega | exact Nat.le_refl _⟩, ⟨by repeat (first | exact HB.out | apply zad | apply zac | apply zaf)⟩⟩
             ·replace c16 := Bool.eq_false_iff.mpr c16
              subst c16; have H1 : (if (wrap64 (bt a0 a1)) ≥ 240 then (if (wrap64 (bt a0 a1)) < 248 then (zaj.j3 kj13 a0 a1 4 (wrap64 ((wrap64 (bt a0 a1)) - 240))) else (some (0, 0, false))) else (some (0, 0, false))) = some (r1, r2, r3) := by rw [if_neg (show ¬ (false = true) by decide)] at H; exact H
              clear H; have H := H1; clear H1; by_cases c17 : (wrap64 (bt a0 a1)) ≥ 240
              ·rw [if_pos c17] at H
               have c17b0 : decide (240 ≤ (wrap64 (bt a0 a1))) = true := decide_eq_true c17; clear c17; by_cases c18 : (wrap64 (bt a0 a1)) < 248
               ·rw [if_pos c18] at H
                have c18b0 : decide ((wrap64 (bt a0 a1)) < 248) = true := decide_eq_true c18; clear c18; have H' := zaa.mk H; clear H; go_wp2
                go_meet
                case rel => exact ⟨_, (4), (wrap64 ((wrap64 (bt a0 a1)) - 240)), (by first | rfl | (simp; done) | (simp [*]; done)), (by first | rfl | (simp; done) | (simp [*]; done)), H', ⟨by have := HJ2.out; have := HJ10.out; have := HJ13.out; first | omega | exact Nat.le_refl _⟩, ⟨by repeat (first | exact HB.out | apply zad | apply zac | apply zaf)⟩⟩
               ·rw [if_neg c18] at H
                have c18b0 : decide ((wrap64 (bt a0 a1)) < 248) = false := decide_eq_false c18; clear c18; simp only [Option.some.injEq, Prod.mk.injEq] at H; obtain ⟨rfl, rfl, rfl⟩ := H; go_wp2
                go_ret3
                exact ⟨by first | rfl | (simp [*, zay, zax] <;> rfl), by repeat (first | exact HB.out | apply zad | apply zac | apply zaf)⟩
              ·rw [if_neg c17] at H
               have c17b0 : decide (240 ≤ (wrap64 (bt a0 a1))) = false := decide_eq_false c17; clear c17; simp only [Option.some.injEq, Prod.mk.injEq] at H; obtain ⟨rfl, rfl, rfl⟩ := H; go_wp2
               go_ret3
               exact ⟨by first | rfl | (simp [*, zay, zax] <;> rfl), by repeat (first | exact HB.out | apply zad | apply zac | apply zaf)⟩
      case rest =>
       clear HC9; try clear c1
       try clear c2
       try clear p2
       try clear p3
       try clear c4
       try clear c4b0
       try clear c5
       try clear c6
       try clear c6b0
       try clear p6
       try clear c7
       try clear c7b0
       try clear p8
       try clear q8
       try clear hx8
       try clear c10
       try clear c10b0
       try clear c12
       try clear c12b0
       try clear c13
       try clear c15
       try clear c15b0
       try clear c16
       try clear c17
       try clear c17b0
       try clear c18
       try clear c18b0
       try clear p2
       try clear p3
       try clear p6
       try clear p8
       try clear q8
       obtain ⟨kq, x8_8, x9_8, rfl, rfl, HA, HJ8, HB⟩ := hcut; cases kq with
       | zero => exact absurd HA.out (by simp [zaj.j3])
       | succ kj8 =>
        have H := HA.out; clear HA; simp only [zaj.j3] at H; by_cases c19 : (wrap64 (a1 + x8_8)) > (a0.size : Int)
        ·rw [if_pos c19] at H
         have c19b0 : decide ((a0.size : Int) < (wrap64 (a1 + x8_8))) = true := decide_eq_true c19; clear c19; simp only [Option.some.injEq, Prod.mk.injEq] at H; obtain ⟨rfl, rfl, rfl⟩ := H; go_wp2
         go_ret3
         exact ⟨by first | rfl | (simp [*, zay, zax] <;> rfl), by repeat (first | exact HB.out | apply zad | apply zac | apply zaf)⟩
        ·rw [if_neg c19] at H
         have c19b0 : decide ((a0.size : Int) < (wrap64 (a1 + x8_8))) = false := decide_eq_false c19; clear c19; have H' := zaa.mk H; clear H; go_wp2
         go_loopg [9, 10] kj8 (fun kq v9 v10 w' => ∃ (x9_3 : Int) (x10_3 : Int), v9 = .int .i64 x9_3 ∧ v10 = .int .i64 x10_3 ∧ zaa (zaj.l0 kq a0 a1 x8_8 x9_3 x10_3 = some (r1, r2, r3)) ∧ zaa (kq ≤ kj8) ∧ zaa (Below w.heap.size w w'))
         case atStart => exact ⟨(x9_8), (1), (by first | rfl | (simp; done) | (simp [*]; done)), (by first | rfl | (simp; done) | (simp [*]; done)), H', ⟨Nat.le_refl _⟩, ⟨by repeat (first | exact HB.out | apply zad | apply zac | apply zaf)⟩⟩
         case round =>
          clear H'; try clear c1
          try clear c2
          try clear p2
          try clear p3
          try clear c4
          try clear c4b0
          try clear c5
          try clear c6
          try clear c6b0
          try clear p6
          try clear c7
          try clear c7b0
          try clear p8
          try clear q8
          try clear hx8
          try clear c10
          try clear c10b0
          try clear c12
          try clear c12b0
          try clear c13
          try clear c15
          try clear c15b0
          try clear c16
          try clear c17
          try clear c17b0
          try clear c18
          try clear c18b0
          try clear c19
          try clear c19b0
          try clear p2
          try clear p3
          try clear p6
          try clear p8
          try clear q8
          obtain ⟨x9_3, x10_3, rfl, rfl, HA, HK3, HB⟩ := hrel; cases gk with
          | zero => exact absurd HA.out (by simp [zaj.l0])
          | succ k3 =>
           have H := HA.out; clear HA; simp only [zaj.l0] at H; by_cases c20 : x10_3 < x8_8
           ·rw [if_pos c20] at H
            have c20b0 : decide (x10_3 < x8_8) = true := decide_eq_true c20; clear c20; obtain ⟨ji21, hji21⟩ : ∃ j_ : Int, (wrap64 (a1 + x10_3)) = j_ := ⟨_, rfl⟩; replace H : (if 0 ≤ (ji21) then (if (ji21) < (a0.size : Int) then (if (wrap64 (bt a0 (ji21))) < 128 then (some (0, 0, false)) else (if (wrap64 (bt a0 (ji21))) ≥ 192 then (some (0, 0, false)) else (zaj.l0 k3 a0 a1 x8_8 (wrap64 ((wrap64 ((wrap64 (x9_3 * 64)) + (wrap64 (bt a0 (ji21))))) - 128)) (wrap64 (x10_3 + 1))))) else (none)) else (none)) = some (r1, r2, r3) := by first | (rw [hji21] at H; exact H) | (simp only [hji21] at H ⊢; exact H)
            have hji21w : (IntKind.i64.wrap (a1 + x10_3)) = ji21 := (i64_w _).trans hji21; by_cases c22 : 0 ≤ (ji21)
            ·rw [if_pos c22] at H
             have c22b0 : decide (0 ≤ (ji21)) = true := decide_eq_true c22; clear c22; by_cases c23 : (ji21) < (a0.size : Int)
             ·rw [if_pos c23] at H
              have c23b0 : decide ((ji21) < (a0.size : Int)) = true := decide_eq_true c23; clear c23; by_cases c25 : (wrap64 (bt a0 (ji21))) < 128
              ·rw [if_pos c25] at H
               have c25b0 : decide ((wrap64 (bt a0 (ji21))) < 128) = true := decide_eq_true c25; clear c25; simp only [Option.some.injEq, Prod.mk.injEq] at H; obtain ⟨rfl, rfl, rfl⟩ := H; have p24 : 0 ≤ ((ji21) : Int) := of_decide_eq_true (by assumption)
               have q24 : (ji21) < (a0.size : Int) := of_decide_eq_true (by assumption)
               have hx24 := bt_at a0 (ji21); replace p24 := eq_true p24; replace q24 := eq_true q24; go_wp2
               go_ret3
               exact ⟨by first | rfl | (simp [zay, zax] <;> rfl) | (simp only [← hji21]; first | rfl | (simp [zay, zax] <;> rfl)) | (simp [*, zay, zax] <;> rfl), by repeat (first | exact HB.out | apply zad | apply zac | apply zaf)⟩
              ·rw [if_neg c25] at H
               have c25b0 : decide ((wrap64 (bt a0 (ji21))) < 128) = false := decide_eq_false c25; clear c25; by_cases c26 : (wrap64 (bt a0 (ji21))) ≥ 192
               ·rw [if_pos c26] at H
                have c26b0 : decide (192 ≤ (wrap64 (bt a0 (ji21)))) = true := decide_eq_true c26; clear c26; simp only [Option.some.injEq, Prod.mk.injEq] at H; obtain ⟨rfl, rfl, rfl⟩ := H; have p24 : 0 ≤ ((ji21) : Int) := of_decide_eq_true (by assumption)
                have q24 : (ji21) < (a0.size : Int) := of_decide_eq_true (by assumption)
                have hx24 := bt_at a0 (ji21); replace p24 := eq_true p24; replace q24 := eq_true q24; go_wp2
                go_ret3
                exact ⟨by first | rfl | (simp [zay, zax] <;> rfl) | (simp only [← hji21]; first | rfl | (simp [zay, zax] <;> rfl)) | (simp [*, zay, zax] <;> rfl), by repeat (first | exact HB.out | apply zad | apply zac | apply zaf)⟩
               ·rw [if_neg c26] at H
                have c26b0 : decide (192 ≤ (wrap64 (bt a0 (ji21)))) = false := decide_eq_false c26; clear c26; have H' := zaa.mk H; clear H; have p24 : 0 ≤ ((ji21) : Int) := of_decide_eq_true (by assumption)
                have q24 : (ji21) < (a0.size : Int) := of_decide_eq_true (by assumption)
                have hx24 := bt_at a0 (ji21); replace p24 := eq_true p24; replace q24 := eq_true q24; go_wp2
                go_roundg k3
                case measure => have := HJ2.out; have := HJ8.out; have := HK3.out; omega
                case rel => exact ⟨(wrap64 ((wrap64 ((wrap64 (x9_3 * 64)) + (wrap64 (bt a0 (ji21))))) - 128)), (wrap64 (x10_3 + 1)), (by first | rfl | (simp; done) | (simp only [← hji21] <;> (first | rfl | simp)) | (simp [*]; done)), (by first | rfl | (simp; done) | (simp [*]; done)), H', ⟨by have := HJ2.out; have := HJ8.out; have := HK3.out; omega⟩, ⟨by repeat (first | exact HB.out | apply zad | apply zac | apply zaf)⟩⟩
             ·rw [if_neg c23] at H
              exact absurd H (by simp)
            ·rw [if_neg c22] at H
             exact absurd H (by simp)
           ·rw [if_neg c20] at H
            have c20b0 : decide (x10_3 < x8_8) = false := decide_eq_false c20; clear c20; obtain ⟨y221, hy221⟩ : ∃ y_ : List Int, y_ = (([0, 0, 128, 2048, 65536] : List Int)) := ⟨_, rfl⟩; replace H : (if 0 ≤ x8_8 then (if x8_8 < (y221.length : Int) then (if x9_3 < (rd y221 x8_8) then (some (0, 0, false)) else (if x9_3 > 1114111 then (some (0, 0, false)) else (if x9_3 ≥ 55296 then (if x9_3 < 57344 then (some (0, 0, false)) else (some (wrap32 (x9_3), x8_8, true))) else (some (wrap32 (x9_3), x8_8, true))))) else (none)) else (none)) = some (r1, r2, r3) := by first | (rw [hy221]; with_reducible exact H) | (have H2_ := (Option.bind_some _ _).symm.trans H; rw [hy221]; with_reducible exact H2_) | (have H2_ := (Option.bind_some _ _).symm.trans H; with_reducible exact H2_) | with_reducible exact H | (rw [hy221]; exact H) | exact H
            have Ny221 := zaa.mk hy221; clear hy221; by_cases c27 : 0 ≤ x8_8
            ·rw [if_pos c27] at H
             have c27b0 : decide (0 ≤ x8_8) = true := decide_eq_true c27; clear c27; by_cases c28 : x8_8 < (y221.length : Int)
             ·rw [if_pos c28] at H
              have c28b0 : decide (x8_8 < (y221.length : Int)) = true := decide_eq_true c28; clear c28; by_cases c29 : x9_3 < (rd y221 x8_8)
              ·rw [if_pos c29] at H
               have c29b0 : decide (x9_3 < (rd y221 x8_8)) = true := decide_eq_true c29; clear c29; simp only [Option.some.injEq, Prod.mk.injEq] at H; obtain ⟨rfl, rfl, rfl⟩ := H; go_wp2_with (first | ((with_reducible refine za5 (N := 86) rfl ?_); (try (refine zbZ (by rfl) ?_; dsimp only)); refine Kd.R_lit (Kd.int .i64) _ 3 ?hg (N := 86) ?hd (xs := ([0, 0, 128, 2048, 65536] : List Int)) (inner := [.int .i64 0, .int .i64 0, .int .i64 128, .int .i64 2048, .int .i64 65536]) (ok := fun _ => True) (okp := fun _ => True) ?hr ?hp (fun _ hk => hk) trivial (Below.refl _ _) (Nat.le_refl _) (by simp) ?_; (case hd => rfl); (case hg => rfl); (case hr => first | (go_simp; done) | (go_simp; rfl)); (case hp => exact (Reps.one (show Kd.M (Kd.int .i64) _ _ _ 0 [.int .i64 0] from rfl) (Reps.one (show Kd.M (Kd.int .i64) _ _ _ 0 [.int .i64 0] from rfl) (Reps.one (show Kd.M (Kd.int .i64) _ _ _ 128 [.int .i64 128] from rfl) (Reps.one (show Kd.M (Kd.int .i64) _ _ _ 2048 [.int .i64 2048] from rfl) (Reps.one (show Kd.M (Kd.int .i64) _ _ _ 65536 [.int .i64 65536] from rfl) (Reps.none _ _))))))); intro v222 w30 ho31 hb hg_ hnew_; clear hg_ hnew_; (first | rw [← Ny221.out] at ho31 | (simp only [Int.reduceToNat] at ho31; rw [← Ny221.out] at ho31)); have n0_ := zaa.mk (Kd.zbK ho31 (zaB (by repeat (first | exact HB.out | apply zad | apply zac | apply zaf)))); have n1_ := zaa.mk (zan (by repeat (first | exact HB.out | apply zad | apply zac | apply zaf)) hb); clear HB; have HO223 := n0_; have HB := n1_; clear n0_ n1_; clear hb ho31; obtain ⟨Ao32, co32, eo32⟩ := Kd.zbO HO223.out; subst eo32; have p224 : 0 ≤ (x8_8 : Int) := of_decide_eq_true (by assumption); have q224 : x8_8 < (y221.length : Int) := of_decide_eq_true (by assumption); obtain ⟨ad224, e224, hx224_0⟩ := Kd.at_int (Kd.zbB HO223.out).2.2 x8_8 p224 q224; cases e224; replace p224 := eq_true p224; replace q224 := eq_true q224))
               go_ret3
               exact ⟨by first | rfl | (simp [*, zay, zax] <;> rfl), by repeat (first | exact HB.out | apply zad | apply zac | apply zaf)⟩
              ·rw [if_neg c29] at H
               have c29b0 : decide (x9_3 < (rd y221 x8_8)) = false := decide_eq_false c29; clear c29; by_cases c33 : x9_3 > 1114111
               ·rw [if_pos c33] at H
                have c33b0 : decide (1114111 < x9_3) = true := decide_eq_true c33; clear c33; simp only [Option.some.injEq, Prod.mk.injEq] at H; obtain ⟨rfl, rfl, rfl⟩ := H; go_wp2_with (first | ((with_reducible refine za5 (N := 86) rfl ?_); (try (refine zbZ (by rfl) ?_; dsimp only)); refine Kd.R_lit (Kd.int .i64) _ 3 ?hg (N := 86) ?hd (xs := ([0, 0, 128, 2048, 65536] : List Int)) (inner := [.int .i64 0, .int .i64 0, .int .i64 128, .int .i64 2048, .int .i64 65536]) (ok := fun _ => True) (okp := fun _ => True) ?hr ?hp (fun _ hk => hk) trivial (Below.refl _ _) (Nat.le_refl _) (by simp) ?_; (case hd => rfl); (case hg => rfl); (case hr => first | (go_simp; done) | (go_simp; rfl)); (case hp => exact (Reps.one (show Kd.M (Kd.int .i64) _ _ _ 0 [.int .i64 0] from rfl) (Reps.one (show Kd.M (Kd.int .i64) _ _ _ 0 [.int .i64 0] from rfl) (Reps.one (show Kd.M (Kd.int .i64) _ _ _ 128 [.int .i64 128] from rfl) (Reps.one (show Kd.M (Kd.int .i64) _ _ _ 2048 [.int .i64 2048] from rfl) (Reps.one (show Kd.M (Kd.int .i64) _ _ _ 65536 [.int .i64 65536] from rfl) (Reps.none _ _))))))); intro v222 w34 ho35 hb hg_ hnew_; clear hg_ hnew_; (first | rw [← Ny221.out] at ho35 | (simp only [Int.reduceToNat] at ho35; rw [← Ny221.out] at ho35)); have n0_ := zaa.mk (Kd.zbK ho35 (zaB (by repeat (first | exact HB.out | apply zad | apply zac | apply zaf)))); have n1_ := zaa.mk (zan (by repeat (first | exact HB.out | apply zad | apply zac | apply zaf)) hb); clear HB; have HO223 := n0_; have HB := n1_; clear n0_ n1_; clear hb ho35; obtain ⟨Ao36, co36, eo36⟩ := Kd.zbO HO223.out; subst eo36; have p224 : 0 ≤ (x8_8 : Int) := of_decide_eq_true (by assumption); have q224 : x8_8 < (y221.length : Int) := of_decide_eq_true (by assumption); obtain ⟨ad224, e224, hx224_0⟩ := Kd.at_int (Kd.zbB HO223.out).2.2 x8_8 p224 q224; cases e224; replace p224 := eq_true p224; replace q224 := eq_true q224))
                go_ret3
                exact ⟨by first | rfl | (simp [*, zay, zax] <;> rfl), by repeat (first | exact HB.out | apply zad | apply zac | apply zaf)⟩
               ·rw [if_neg c33] at H
                have c33b0 : decide (1114111 < x9_3) = false := decide_eq_false c33; clear c33; by_cases c37 : x9_3 ≥ 55296
                ·rw [if_pos c37] at H
                 have c37b0 : decide (55296 ≤ x9_3) = true := decide_eq_true c37; clear c37; by_cases c38 : x9_3 < 57344
                 ·rw [if_pos c38] at H
                  have c38b0 : decide (x9_3 < 57344) = true := decide_eq_true c38; clear c38; simp only [Option.some.injEq, Prod.mk.injEq] at H; obtain ⟨rfl, rfl, rfl⟩ := H; go_wp2_with (first | ((with_reducible refine za5 (N := 86) rfl ?_); (try (refine zbZ (by rfl) ?_; dsimp only)); refine Kd.R_lit (Kd.int .i64) _ 3 ?hg (N := 86) ?hd (xs := ([0, 0, 128, 2048, 65536] : List Int)) (inner := [.int .i64 0, .int .i64 0, .int .i64 128, .int .i64 2048, .int .i64 65536]) (ok := fun _ => True) (okp := fun _ => True) ?hr ?hp (fun _ hk => hk) trivial (Below.refl _ _) (Nat.le_refl _) (by simp) ?_; (case hd => rfl); (case hg => rfl); (case hr => first | (go_simp; done) | (go_simp; rfl)); (case hp => exact (Reps.one (show Kd.M (Kd.int .i64) _ _ _ 0 [.int .i64 0] from rfl) (Reps.one (show Kd.M (Kd.int .i64) _ _ _ 0 [.int .i64 0] from rfl) (Reps.one (show Kd.M (Kd.int .i64) _ _ _ 128 [.int .i64 128] from rfl) (Reps.one (show Kd.M (Kd.int .i64) _ _ _ 2048 [.int .i64 2048] from rfl) (Reps.one (show Kd.M (Kd.int .i64) _ _ _ 65536 [.int .i64 65536] from rfl) (Reps.none _ _))))))); intro v222 w39 ho40 hb hg_ hnew_; clear hg_ hnew_; (first | rw [← Ny221.out] at ho40 | (simp only [Int.reduceToNat] at ho40; rw [← Ny221.out] at ho40)); have n0_ := zaa.mk (Kd.zbK ho40 (zaB (by repeat (first | exact HB.out | apply zad | apply zac | apply zaf)))); have n1_ := zaa.mk (zan (by repeat (first | exact HB.out | apply zad | apply zac | apply zaf)) hb); clear HB; have HO223 := n0_; have HB := n1_; clear n0_ n1_; clear hb ho40; obtain ⟨Ao41, co41, eo41⟩ := Kd.zbO HO223.out; subst eo41; have p224 : 0 ≤ (x8_8 : Int) := of_decide_eq_true (by assumption); have q224 : x8_8 < (y221.length : Int) := of_decide_eq_true (by assumption); obtain ⟨ad224, e224, hx224_0⟩ := Kd.at_int (Kd.zbB HO223.out).2.2 x8_8 p224 q224; cases e224; replace p224 := eq_true p224; replace q224 := eq_true q224))
                  go_ret3
                  exact ⟨by first | rfl | (simp [*, zay, zax] <;> rfl), by repeat (first | exact HB.out | apply zad | apply zac | apply zaf)⟩
                 ·rw [if_neg c38] at H
                  have c38b0 : decide (x9_3 < 57344) = false := decide_eq_false c38; clear c38; simp only [Option.some.injEq, Prod.mk.injEq] at H; obtain ⟨rfl, rfl, rfl⟩ := H; go_wp2_with (first | ((with_reducible refine za5 (N := 86) rfl ?_); (try (refine zbZ (by rfl) ?_; dsimp only)); refine Kd.R_lit (Kd.int .i64) _ 3 ?hg (N := 86) ?hd (xs := ([0, 0, 128, 2048, 65536] : List Int)) (inner := [.int .i64 0, .int .i64 0, .int .i64 128, .int .i64 2048, .int .i64 65536]) (ok := fun _ => True) (okp := fun _ => True) ?hr ?hp (fun _ hk => hk) trivial (Below.refl _ _) (Nat.le_refl _) (by simp) ?_; (case hd => rfl); (case hg => rfl); (case hr => first | (go_simp; done) | (go_simp; rfl)); (case hp => exact (Reps.one (show Kd.M (Kd.int .i64) _ _ _ 0 [.int .i64 0] from rfl) (Reps.one (show Kd.M (Kd.int .i64) _ _ _ 0 [.int .i64 0] from rfl) (Reps.one (show Kd.M (Kd.int .i64) _ _ _ 128 [.int .i64 128] from rfl) (Reps.one (show Kd.M (Kd.int .i64) _ _ _ 2048 [.int .i64 2048] from rfl) (Reps.one (show Kd.M (Kd.int .i64) _ _ _ 65536 [.int .i64 65536] from rfl) (Reps.none _ _))))))); intro v222 w42 ho43 hb hg_ hnew_; clear hg_ hnew_; (first | rw [← Ny221.out] at ho43 | (simp only [Int.reduceToNat] at ho43; rw [← Ny221.out] at ho43)); have n0_ := zaa.mk (Kd.zbK ho43 (zaB (by repeat (first | exact HB.out | apply zad | apply zac | apply zaf)))); have n1_ := zaa.mk (zan (by repeat (first | exact HB.out | apply zad | apply zac | apply zaf)) hb); clear HB; have HO223 := n0_; have HB := n1_; clear n0_ n1_; clear hb ho43; obtain ⟨Ao44, co44, eo44⟩ := Kd.zbO HO223.out; subst eo44; have p224 : 0 ≤ (x8_8 : Int) := of_decide_eq_true (by assumption); have q224 : x8_8 < (y221.length : Int) := of_decide_eq_true (by assumption); obtain ⟨ad224, e224, hx224_0⟩ := Kd.at_int (Kd.zbB HO223.out).2.2 x8_8 p224 q224; cases e224; replace p224 := eq_true p224; replace q224 := eq_true q224))
                  go_ret3
                  exact ⟨by first | rfl | (simp [*, zay, zax] <;> rfl), by repeat (first | exact HB.out | apply zad | apply zac | apply zaf)⟩
                ·rw [if_neg c37] at H
                 have c37b0 : decide (55296 ≤ x9_3) = false := decide_eq_false c37; clear c37; simp only [Option.some.injEq, Prod.mk.injEq] at H; obtain ⟨rfl, rfl, rfl⟩ := H; go_wp2_with (first | ((with_reducible refine za5 (N := 86) rfl ?_); (try (refine zbZ (by rfl) ?_; dsimp only)); refine Kd.R_lit (Kd.int .i64) _ 3 ?hg (N := 86) ?hd (xs := ([0, 0, 128, 2048, 65536] : List Int)) (inner := [.int .i64 0, .int .i64 0, .int .i64 128, .int .i64 2048, .int .i64 65536]) (ok := fun _ => True) (okp := fun _ => True) ?hr ?hp (fun _ hk => hk) trivial (Below.refl _ _) (Nat.le_refl _) (by simp) ?_; (case hd => rfl); (case hg => rfl); (case hr => first | (go_simp; done) | (go_simp; rfl)); (case hp => exact (Reps.one (show Kd.M (Kd.int .i64) _ _ _ 0 [.int .i64 0] from rfl) (Reps.one (show Kd.M (Kd.int .i64) _ _ _ 0 [.int .i64 0] from rfl) (Reps.one (show Kd.M (Kd.int .i64) _ _ _ 128 [.int .i64 128] from rfl) (Reps.one (show Kd.M (Kd.int .i64) _ _ _ 2048 [.int .i64 2048] from rfl) (Reps.one (show Kd.M (Kd.int .i64) _ _ _ 65536 [.int .i64 65536] from rfl) (Reps.none _ _))))))); intro v222 w45 ho46 hb hg_ hnew_; clear hg_ hnew_; (first | rw [← Ny221.out] at ho46 | (simp only [Int.reduceToNat] at ho46; rw [← Ny221.out] at ho46)); have n0_ := zaa.mk (Kd.zbK ho46 (zaB (by repeat (first | exact HB.out | apply zad | apply zac | apply zaf)))); have n1_ := zaa.mk (zan (by repeat (first | exact HB.out | apply zad | apply zac | apply zaf)) hb); clear HB; have HO223 := n0_; have HB := n1_; clear n0_ n1_; clear hb ho46; obtain ⟨Ao47, co47, eo47⟩ := Kd.zbO HO223.out; subst eo47; have p224 : 0 ≤ (x8_8 : Int) := of_decide_eq_true (by assumption); have q224 : x8_8 < (y221.length : Int) := of_decide_eq_true (by assumption); obtain ⟨ad224, e224, hx224_0⟩ := Kd.at_int (Kd.zbB HO223.out).2.2 x8_8 p224 q224; cases e224; replace p224 := eq_true p224; replace q224 := eq_true q224))
                 go_ret3
                 exact ⟨by first | rfl | (simp [*, zay, zax] <;> rfl), by repeat (first | exact HB.out | apply zad | apply zac | apply zaf)⟩
             ·rw [if_neg c28] at H
              exact absurd H (by simp)
            ·rw [if_neg c27] at H
             exact absurd H (by simp)
     ·rw [if_neg c7] at H
      exact absurd H (by simp)
    ·rw [if_neg c6] at H
     exact absurd H (by simp)
def zaN.f (k : Nat) (a0 : ByteArray) (a1 : Int) : Option (Int) := (zaj.f k a0 a1).bind fun bt225 => (if bt225.2.2 = true then (some bt225.2.1) else (some 1))
theorem zaN.mono : ∀ a0 a1 k, LeO (zaN.f k a0 a1) (zaN.f (k + 1) a0 a1) := by
 intro a0 a1 k
 unfold zaN.f
 repeat' first
   | (with_reducible exact zaj.mono _ _ _)
   | (with_reducible exact LeO.refl _)
   | (with_reducible exact LeO.none _)
   | (with_reducible refine LeO.ite ?_ ?_)
   | (with_reducible refine LeO.bind ?_ (fun _ => ?_))
   | exact zaj.mono _ _ _
   | exact LeO.none _
   | refine LeO.ite ?_ ?_
   | refine LeO.bind ?_ (fun _ => ?_)
set_option maxHeartbeats 8000000 in
set_option maxRecDepth 100000 in
theorem zaN.calls (k : Nat) (a0 : ByteArray) (a1 : Int) (r : Int) (w : World) (h : zaN.f k a0 a1 = some r) :
  Calls Try.prog 44 #[.string a0, .int .i64 a1] w fun e w' => e = .returned (.int .i64 r) ∧ Below w.heap.size w w' := by
 have HB := zaa.mk (Below.refl w.heap.size w); have H : ((zaj.f k a0 a1).bind fun bt225 => (if bt225.2.2 = true then (some bt225.2.1) else (some 1))) = some r := h
 clear h; replace H := Option.bind_eq_some_iff.mp H; obtain ⟨⟨t225, t226, t227⟩, A30, H⟩ := H; replace H : (if t227 = true then (some t226) else (some 1)) = some r := H
 have A3 := zaa.mk A30; clear A30; by_cases c4 : t227 = true
 ·subst c4
  have H1 : (some t226) = some r := by rw [if_pos rfl] at H; exact H
  clear H; have H := H1; clear H1; obtain rfl := Option.some.inj H; go_enter Try.func44, Try.ntmps44
  go_wp2_with (first | ((with_reducible refine zaO (f := 27) rfl ?_); refine zbg (some 11) rfl rfl Try.func27 (by kernel_rfl) rfl #[.string a0, .int .i64 a1] rfl (by (try simp only [List.map_toArray, List.map_cons, List.map_nil]); first | done | rfl | (simp only [List.length_drop, List.length_take]; rfl)) ?_; (with_reducible refine (zaj.calls k a0 a1 t225 t226 true _ A3.out).mono ?_); rintro e w5 ⟨rfl, hb⟩; refine ⟨_, rfl, ?_⟩; have n0_ := zaa.mk (zan (by repeat (first | exact HB.out | apply zad | apply zac | apply zaf)) hb); clear HB; have HB := n0_; clear n0_; (try clear hb); (try clear hb2); (try clear hk); (try clear hi)))
  go_ret
  exact ⟨by first | rfl | (simp [*, zay, zax] <;> rfl), by repeat (first | exact HB.out | apply zad | apply zac | apply zaf)⟩
 ·replace c4 := Bool.eq_false_iff.mpr c4
  subst c4; have H1 : (some 1) = some r := by rw [if_neg (show ¬ (false = true) by decide)] at H; exact H
  clear H; have H := H1; clear H1; obtain rfl := Option.some.inj H; go_enter Try.func44, Try.ntmps44
  go_wp2_with (first | ((with_reducible refine zaO (f := 27) rfl ?_); refine zbg (some 11) rfl rfl Try.func27 (by kernel_rfl) rfl #[.string a0, .int .i64 a1] rfl (by (try simp only [List.map_toArray, List.map_cons, List.map_nil]); first | done | rfl | (simp only [List.length_drop, List.length_take]; rfl)) ?_; (with_reducible refine (zaj.calls k a0 a1 t225 t226 false _ A3.out).mono ?_); rintro e w6 ⟨rfl, hb⟩; refine ⟨_, rfl, ?_⟩; have n0_ := zaa.mk (zan (by repeat (first | exact HB.out | apply zad | apply zac | apply zaf)) hb); clear HB; have HB := n0_; clear n0_; (try clear hb); (try clear hb2); (try clear hk); (try clear hi)))
  go_ret
  exact ⟨by first | rfl | (simp [*, zay, zax] <;> rfl), by repeat (first | exact HB.out | apply zad | apply zac | apply zaf)⟩
mutual
def zaq.l0 : Nat → ByteArray → Int → Option (Int × Int)
 | 0, _, _ => none
 | k + 1, x0, x6 => if x6 < (x0.size : Int) then (if 0 ≤ x6 then (if (bt x0 x6) = 10 then (zaq.j1 k x0 x6 false) else (zaq.j1 k x0 x6 ((bt x0 x6) != 13))) else (none)) else (zaq.j1 k x0 x6 false)
def zaq.j1 : Nat → ByteArray → Int → Bool → Option (Int × Int)
 | 0, _, _, _ => none
 | k + 1, x0, x6, x24 => if x24 = true then (if 0 ≤ x6 then (if x6 < (x0.size : Int) then (if (bt x0 x6) = 34 then (some (8, wrap64 (x6 + 1))) else (if (bt x0 x6) = 92 then (if (wrap64 (x6 + 1)) = (x0.size : Int) then (some (9, wrap64 (x6 + 1))) else (if 0 ≤ (wrap64 (x6 + 1)) then (if (wrap64 (x6 + 1)) < (x0.size : Int) then (if (bt x0 (wrap64 (x6 + 1))) = 10 then (some (9, wrap64 (x6 + 1))) else (if (bt x0 (wrap64 (x6 + 1))) = 13 then (some (9, wrap64 (x6 + 1))) else ((zaN.f k x0 (wrap64 (x6 + 1))).bind fun t228 => (zaq.l0 k x0 (wrap64 ((wrap64 (x6 + 1)) + t228)))))) else (none)) else (none))) else ((zaN.f k x0 x6).bind fun t229 => (zaq.l0 k x0 (wrap64 (x6 + t229)))))) else (none)) else (none)) else (some (9, x6))
end
def zaq.f (k : Nat) (a0 : ByteArray) (a1 : Int) : Option (Int × Int) := zaq.l0 k a0 (wrap64 (a1 + 1))
theorem zaq.zbn : ∀ k, (∀ y0 y1, LeO (zaq.l0 k y0 y1) (zaq.l0 (k + 1) y0 y1)) ∧ (∀ y0 y1 y2, LeO (zaq.j1 k y0 y1 y2) (zaq.j1 (k + 1) y0 y1 y2))
 | 0 => ⟨fun _ _ r h => by simp [zaq.l0] at h, fun _ _ _ r h => by simp [zaq.j1] at h⟩
 | k + 1 => by
  obtain ⟨ih0, ih1⟩ := zaq.zbn k; refine ⟨?_, ?_⟩
  ·intro y0 y1
   unfold zaq.l0
   repeat' first
   | (with_reducible exact ih0 _ _)
   | (with_reducible exact ih1 _ _ _)
   | (with_reducible exact zaN.mono _ _ _)
   | (with_reducible exact LeO.refl _)
   | (with_reducible exact LeO.none _)
   | (with_reducible refine LeO.ite ?_ ?_)
   | (with_reducible refine LeO.bind ?_ (fun _ => ?_))
   | exact ih0 _ _
   | exact ih1 _ _ _
   | exact zaN.mono _ _ _
   | exact LeO.none _
   | refine LeO.ite ?_ ?_
   | refine LeO.bind ?_ (fun _ => ?_)
  ·intro y0 y1 y2
   unfold zaq.j1
   repeat' first
   | (with_reducible exact ih0 _ _)
   | (with_reducible exact ih1 _ _ _)
   | (with_reducible exact zaN.mono _ _ _)
   | (with_reducible exact LeO.refl _)
   | (with_reducible exact LeO.none _)
   | (with_reducible refine LeO.ite ?_ ?_)
   | (with_reducible refine LeO.bind ?_ (fun _ => ?_))
   | exact ih0 _ _
   | exact ih1 _ _ _
   | exact zaN.mono _ _ _
   | exact LeO.none _
   | refine LeO.ite ?_ ?_
   | refine LeO.bind ?_ (fun _ => ?_)
theorem zaq.mono : ∀ a0 a1 k, LeO (zaq.f k a0 a1) (zaq.f (k + 1) a0 a1) := by
 intro a0 a1 k
 obtain ⟨ih0, ih1⟩ := zaq.zbn k; unfold zaq.f
 repeat' first
   | (with_reducible exact ih0 _ _)
   | (with_reducible exact ih1 _ _ _)
   | (with_reducible exact zaN.mono _ _ _)
   | (with_reducible exact LeO.refl _)
   | (with_reducible exact LeO.none _)
   | (with_reducible refine LeO.ite ?_ ?_)
   | (with_reducible refine LeO.bind ?_ (fun _ => ?_))
   | exact ih0 _ _
   | exact ih1 _ _ _
   | exact zaN.mono _ _ _
   | exact LeO.none _
   | refine LeO.ite ?_ ?_
   | refine LeO.bind ?_ (fun _ => ?_)
set_option maxHeartbeats 8000000 in
set_option maxRecDepth 100000 in
theorem zaq.calls (k : Nat) (a0 : ByteArray) (a1 : Int) (r1 : Int) (r2 : Int) (w : World) (h : zaq.f k a0 a1 = some (r1, r2)) :
  Calls Try.prog 25 #[.string a0, .int .i64 a1] w fun e w' => e = .returned (.tuple #[.int .u8 r1, .int .i64 r2]) ∧ Below w.heap.size w w' := by
 have HB := zaa.mk (Below.refl w.heap.size w); have H : (zaq.l0 k a0 (wrap64 (a1 + 1))) = some (r1, r2) := h; clear h; have H' := zaa.mk H; clear H; go_enter Try.func25, Try.ntmps25
 go_wp2
 go_loopg [6] k (fun kq v6 w' => ∃ (x6_1 : Int), v6 = .int .i64 x6_1 ∧ zaa (zaq.l0 kq a0 x6_1 = some (r1, r2)) ∧ zaa (kq ≤ k) ∧ zaa (Below w.heap.size w w'))
 case atStart => exact ⟨(wrap64 (a1 + 1)), (by first | rfl | (simp; done) | (simp [*]; done)), H', ⟨Nat.le_refl _⟩, ⟨by repeat (first | exact HB.out | apply zad | apply zac | apply zaf)⟩⟩
 case round =>
  clear H'; try clear c2
  try clear p2
  obtain ⟨x6_1, rfl, HA, HK1, HB⟩ := hrel; cases gk with
  | zero => exact absurd HA.out (by simp [zaq.l0])
  | succ k1 =>
   have H := HA.out; clear HA; simp only [zaq.l0] at H; have HC3 := zaa.mk H; clear H; go_upto_region 2 with (fail)
   go_cut [24] (fun v24 wc => ∃ (kq : Nat) (x24_2 : Bool), v24 = .bool x24_2 ∧ zaa (zaq.j1 kq a0 x6_1 x24_2 = some (r1, r2)) ∧ zaa (kq ≤ k1) ∧ zaa (Below w.heap.size w wc))
   case first =>
    have H := HC3.out; clear HC3; by_cases c4 : x6_1 < (a0.size : Int)
    ·rw [if_pos c4] at H
     have c4b0 : decide (x6_1 < (a0.size : Int)) = true := decide_eq_true c4; clear c4
     (first | rw [c4b0] | (simp only [i64_w, i32_w]; rw [c4b0]) | skip)
     by_cases c5 : 0 ≤ x6_1
     ·rw [if_pos c5] at H
      have c5b0 : decide (0 ≤ x6_1) = true := decide_eq_true c5; clear c5; by_cases c7 : (bt a0 x6_1) = 10
      ·rw [if_pos c7] at H
       have c7b0 : ((bt a0 x6_1) == 10) = true := beq_iff_eq.mpr c7; have c7b1 : ((bt a0 x6_1) != 10) = false := bne_eq_false_iff_eq.mpr c7; clear c7; have H' := zaa.mk H; clear H; have p6 : 0 ≤ (x6_1 : Int) := of_decide_eq_true (by assumption)
       have q6 : x6_1 < (a0.size : Int) := of_decide_eq_true (by assumption)
       have hx6 := bt_at a0 x6_1; replace p6 := eq_true p6; replace q6 := eq_true q6; go_wp2
       go_meet
       case rel => exact ⟨_, (false), (by first | rfl | (simp; done) | (simp [*]; done)), H', ⟨by have := HK1.out; first | omega | exact Nat.le_refl _⟩, ⟨by repeat (first | exact HB.out | apply zad | apply zac | apply zaf)⟩⟩
      ·rw [if_neg c7] at H
       have c7b0 : ((bt a0 x6_1) == 10) = false := beq_eq_false_iff_ne.mpr c7; have c7b1 : ((bt a0 x6_1) != 10) = true := bne_iff_ne.mpr c7; have H' := zaa.mk H; clear H; have p6 : 0 ≤ (x6_1 : Int) := of_decide_eq_true (by assumption)
       have q6 : x6_1 < (a0.size : Int) := of_decide_eq_true (by assumption)
       have hx6 := bt_at a0 x6_1; replace p6 := eq_true p6; replace q6 := eq_true q6; have p8 : 0 ≤ (x6_1 : Int) := of_decide_eq_true (by assumption)
       have q8 : x6_1 < (a0.size : Int) := of_decide_eq_true (by assumption)
       have hx8 := bt_at a0 x6_1; replace p8 := eq_true p8; replace q8 := eq_true q8; go_wp2
       go_meet
       case rel => exact ⟨_, (((bt a0 x6_1) != 13)), (by first | rfl | (simp; done) | (simp [*]; done)), H', ⟨by have := HK1.out; first | omega | exact Nat.le_refl _⟩, ⟨by repeat (first | exact HB.out | apply zad | apply zac | apply zaf)⟩⟩
     ·rw [if_neg c5] at H
      exact absurd H (by simp)
    ·rw [if_neg c4] at H
     have c4b0 : decide (x6_1 < (a0.size : Int)) = false := decide_eq_false c4; clear c4
     (first | rw [c4b0] | (simp only [i64_w, i32_w]; rw [c4b0]) | skip)
     have H' := zaa.mk H; clear H; go_wp2
     go_meet
     case rel => exact ⟨_, (false), (by first | rfl | (simp; done) | (simp [*]; done)), H', ⟨by have := HK1.out; first | omega | exact Nat.le_refl _⟩, ⟨by repeat (first | exact HB.out | apply zad | apply zac | apply zaf)⟩⟩
   case rest =>
    clear HC3; try clear c2
    try clear p2
    try clear c4
    try clear c4b0
    try clear c5
    try clear c5b0
    try clear p6
    try clear q6
    try clear hx6
    try clear c7
    try clear c7b0
    try clear c7b1
    try clear p8
    try clear q8
    try clear hx8
    try clear p2
    try clear p6
    try clear p8
    try clear q6
    try clear q8
    obtain ⟨kq, x24_2, rfl, HA, HJ2, HB⟩ := hcut; cases kq with
    | zero => exact absurd HA.out (by simp [zaq.j1])
    | succ kj2 =>
     have H := HA.out; clear HA; simp only [zaq.j1] at H; by_cases c9 : x24_2 = true
     ·subst c9
      have H1 : (if 0 ≤ x6_1 then (if x6_1 < (a0.size : Int) then (if (bt a0 x6_1) = 34 then (some (8, wrap64 (x6_1 + 1))) else (if (bt a0 x6_1) = 92 then (if (wrap64 (x6_1 + 1)) = (a0.size : Int) then (some (9, wrap64 (x6_1 + 1))) else (if 0 ≤ (wrap64 (x6_1 + 1)) then (if (wrap64 (x6_1 + 1)) < (a0.size : Int) then (if (bt a0 (wrap64 (x6_1 + 1))) = 10 then (some (9, wrap64 (x6_1 + 1))) else (if (bt a0 (wrap64 (x6_1 + 1))) = 13 then (some (9, wrap64 (x6_1 + 1))) else ((zaN.f kj2 a0 (wrap64 (x6_1 + 1))).bind fun t228 => (zaq.l0 kj2 a0 (wrap64 ((wrap64 (x6_1 + 1)) + t228)))))) else (none)) else (none))) else ((zaN.f kj2 a0 x6_1).bind fun t229 => (zaq.l0 kj2 a0 (wrap64 (x6_1 + t229)))))) else (none)) else (none)) = some (r1, r2) := by rw [if_pos rfl] at H; exact H
      clear H; have H := H1; clear H1; by_cases c10 : 0 ≤ x6_1
      ·rw [if_pos c10] at H
       have c10b0 : decide (0 ≤ x6_1) = true := decide_eq_true c10; clear c10; by_cases c11 : x6_1 < (a0.size : Int)
       ·rw [if_pos c11] at H
        have c11b0 : decide (x6_1 < (a0.size : Int)) = true := decide_eq_true c11; clear c11; by_cases c13 : (bt a0 x6_1) = 34
        ·rw [if_pos c13] at H
         have c13b0 : ((bt a0 x6_1) == 34) = true := beq_iff_eq.mpr c13; have c13b1 : ((bt a0 x6_1) != 34) = false := bne_eq_false_iff_eq.mpr c13; clear c13; simp only [Option.some.injEq, Prod.mk.injEq] at H; obtain ⟨rfl, rfl⟩ := H; have p12 : 0 ≤ (x6_1 : Int) := of_decide_eq_true (by assumption)
         have q12 : x6_1 < (a0.size : Int) := of_decide_eq_true (by assumption)
         have hx12 := bt_at a0 x6_1; replace p12 := eq_true p12; replace q12 := eq_true q12; go_wp2
         go_ret2
         exact ⟨by first | rfl | (simp [*, zay, zax] <;> rfl), by repeat (first | exact HB.out | apply zad | apply zac | apply zaf)⟩
        ·rw [if_neg c13] at H
         have c13b0 : ((bt a0 x6_1) == 34) = false := beq_eq_false_iff_ne.mpr c13; have c13b1 : ((bt a0 x6_1) != 34) = true := bne_iff_ne.mpr c13; by_cases c15 : (bt a0 x6_1) = 92
         ·rw [if_pos c15] at H
          have c15b0 : ((bt a0 x6_1) == 92) = true := beq_iff_eq.mpr c15; have c15b1 : ((bt a0 x6_1) != 92) = false := bne_eq_false_iff_eq.mpr c15; clear c15; by_cases c16 : (wrap64 (x6_1 + 1)) = (a0.size : Int)
          ·rw [if_pos c16] at H
           have c16b0 : ((wrap64 (x6_1 + 1)) == (a0.size : Int)) = true := beq_iff_eq.mpr c16; have c16b1 : ((wrap64 (x6_1 + 1)) != (a0.size : Int)) = false := bne_eq_false_iff_eq.mpr c16; clear c16; simp only [Option.some.injEq, Prod.mk.injEq] at H; obtain ⟨rfl, rfl⟩ := H; have p12 : 0 ≤ (x6_1 : Int) := of_decide_eq_true (by assumption)
           have q12 : x6_1 < (a0.size : Int) := of_decide_eq_true (by assumption)
           have hx12 := bt_at a0 x6_1; replace p12 := eq_true p12; replace q12 := eq_true q12; have p14 : 0 ≤ (x6_1 : Int) := of_decide_eq_true (by assumption)
           have q14 : x6_1 < (a0.size : Int) := of_decide_eq_true (by assumption)
           have hx14 := bt_at a0 x6_1; replace p14 := eq_true p14; replace q14 := eq_true q14; go_wp2
           go_ret2
           exact ⟨by first | rfl | (simp [*, zay, zax] <;> rfl), by repeat (first | exact HB.out | apply zad | apply zac | apply zaf)⟩
          ·rw [if_neg c16] at H
           have c16b0 : ((wrap64 (x6_1 + 1)) == (a0.size : Int)) = false := beq_eq_false_iff_ne.mpr c16; have c16b1 : ((wrap64 (x6_1 + 1)) != (a0.size : Int)) = true := bne_iff_ne.mpr c16; obtain ⟨ji17, hji17⟩ : ∃ j_ : Int, (wrap64 (x6_1 + 1)) = j_ := ⟨_, rfl⟩; replace H : (if 0 ≤ (ji17) then (if (ji17) < (a0.size : Int) then (if (bt a0 (ji17)) = 10 then (some (9, ji17)) else (if (bt a0 (ji17)) = 13 then (some (9, ji17)) else ((zaN.f kj2 a0 (ji17)).bind fun t228 => (zaq.l0 kj2 a0 (wrap64 ((ji17) + t228)))))) else (none)) else (none)) = some (r1, r2) := by first | (rw [hji17] at H; exact H) | (simp only [hji17] at H ⊢; exact H)
           (try rw [hji17] at c16b0)
           (try rw [hji17] at c16b1)
           have hji17w : (IntKind.i64.wrap (x6_1 + 1)) = ji17 := (i64_w _).trans hji17; by_cases c18 : 0 ≤ (ji17)
           ·rw [if_pos c18] at H
            have c18b0 : decide (0 ≤ (ji17)) = true := decide_eq_true c18; clear c18; by_cases c19 : (ji17) < (a0.size : Int)
            ·rw [if_pos c19] at H
             have c19b0 : decide ((ji17) < (a0.size : Int)) = true := decide_eq_true c19; clear c19; by_cases c21 : (bt a0 (ji17)) = 10
             ·rw [if_pos c21] at H
              have c21b0 : ((bt a0 (ji17)) == 10) = true := beq_iff_eq.mpr c21; have c21b1 : ((bt a0 (ji17)) != 10) = false := bne_eq_false_iff_eq.mpr c21; clear c21; simp only [Option.some.injEq, Prod.mk.injEq] at H; obtain ⟨rfl, rfl⟩ := H; have p12 : 0 ≤ (x6_1 : Int) := of_decide_eq_true (by assumption)
              have q12 : x6_1 < (a0.size : Int) := of_decide_eq_true (by assumption)
              have hx12 := bt_at a0 x6_1; replace p12 := eq_true p12; replace q12 := eq_true q12; have p14 : 0 ≤ (x6_1 : Int) := of_decide_eq_true (by assumption)
              have q14 : x6_1 < (a0.size : Int) := of_decide_eq_true (by assumption)
              have hx14 := bt_at a0 x6_1; replace p14 := eq_true p14; replace q14 := eq_true q14; have p20 : 0 ≤ ((ji17) : Int) := of_decide_eq_true (by assumption)
              have q20 : (ji17) < (a0.size : Int) := of_decide_eq_true (by assumption)
              have hx20 := bt_at a0 (ji17); replace p20 := eq_true p20; replace q20 := eq_true q20; go_wp2
              go_ret2
              exact ⟨by first | rfl | (simp [zay, zax] <;> rfl) | (simp only [← hji17]; first | rfl | (simp [zay, zax] <;> rfl)) | (simp [*, zay, zax] <;> rfl), by repeat (first | exact HB.out | apply zad | apply zac | apply zaf)⟩
             ·rw [if_neg c21] at H
              have c21b0 : ((bt a0 (ji17)) == 10) = false := beq_eq_false_iff_ne.mpr c21; have c21b1 : ((bt a0 (ji17)) != 10) = true := bne_iff_ne.mpr c21; by_cases c23 : (bt a0 (ji17)) = 13
              ·rw [if_pos c23] at H
               have c23b0 : ((bt a0 (ji17)) == 13) = true := beq_iff_eq.mpr c23; have c23b1 : ((bt a0 (ji17)) != 13) = false := bne_eq_false_iff_eq.mpr c23; clear c23; simp only [Option.some.injEq, Prod.mk.injEq] at H; obtain ⟨rfl, rfl⟩ := H; have p12 : 0 ≤ (x6_1 : Int) := of_decide_eq_true (by assumption)
               have q12 : x6_1 < (a0.size : Int) := of_decide_eq_true (by assumption)
               have hx12 := bt_at a0 x6_1; replace p12 := eq_true p12; replace q12 := eq_true q12; have p14 : 0 ≤ (x6_1 : Int) := of_decide_eq_true (by assumption)
               have q14 : x6_1 < (a0.size : Int) := of_decide_eq_true (by assumption)
               have hx14 := bt_at a0 x6_1; replace p14 := eq_true p14; replace q14 := eq_true q14; have p20 : 0 ≤ ((ji17) : Int) := of_decide_eq_true (by assumption)
               have q20 : (ji17) < (a0.size : Int) := of_decide_eq_true (by assumption)
               have hx20 := bt_at a0 (ji17); replace p20 := eq_true p20; replace q20 := eq_true q20; have p22 : 0 ≤ ((ji17) : Int) := of_decide_eq_true (by assumption)
               have q22 : (ji17) < (a0.size : Int) := of_decide_eq_true (by assumption)
               have hx22 := bt_at a0 (ji17); replace p22 := eq_true p22; replace q22 := eq_true q22; go_wp2
               go_ret2
               exact ⟨by first | rfl | (simp [zay, zax] <;> rfl) | (simp only [← hji17]; first | rfl | (simp [zay, zax] <;> rfl)) | (simp [*, zay, zax] <;> rfl), by repeat (first | exact HB.out | apply zad | apply zac | apply zaf)⟩
              ·rw [if_neg c23] at H
               have c23b0 : ((bt a0 (ji17)) == 13) = false := beq_eq_false_iff_ne.mpr c23; have c23b1 : ((bt a0 (ji17)) != 13) = true := bne_iff_ne.mpr c23; replace H := Option.bind_eq_some_iff.mp H; obtain ⟨t228, A240, H⟩ := H; replace H : (zaq.l0 kj2 a0 (wrap64 ((ji17) + t228))) = some (r1, r2) := H; have A24 := zaa.mk A240; clear A240; have H' := zaa.mk H; clear H; have p12 : 0 ≤ (x6_1 : Int) := of_decide_eq_true (by assumption)
               have q12 : x6_1 < (a0.size : Int) := of_decide_eq_true (by assumption)
               have hx12 := bt_at a0 x6_1; replace p12 := eq_true p12; replace q12 := eq_true q12; have p14 : 0 ≤ (x6_1 : Int) := of_decide_eq_true (by assumption)
               have q14 : x6_1 < (a0.size : Int) := of_decide_eq_true (by assumption)
               have hx14 := bt_at a0 x6_1; replace p14 := eq_true p14; replace q14 := eq_true q14; have p20 : 0 ≤ ((ji17) : Int) := of_decide_eq_true (by assumption)
               have q20 : (ji17) < (a0.size : Int) := of_decide_eq_true (by assumption)
               have hx20 := bt_at a0 (ji17); replace p20 := eq_true p20; replace q20 := eq_true q20; have p22 : 0 ≤ ((ji17) : Int) := of_decide_eq_true (by assumption)
               have q22 : (ji17) < (a0.size : Int) := of_decide_eq_true (by assumption)
               have hx22 := bt_at a0 (ji17); replace p22 := eq_true p22; replace q22 := eq_true q22; go_wp2_with (first | ((with_reducible refine zaO (f := 44) rfl ?_); refine zbg (some 56) rfl rfl Try.func44 (by kernel_rfl) rfl #[.string a0, .int .i64 ji17] rfl (by (try simp only [List.map_toArray, List.map_cons, List.map_nil]); first | done | (simp only [hji17]; rfl) | rfl | (simp only [List.length_drop, List.length_take]; rfl)) ?_; (with_reducible refine (zaN.calls kj2 a0 ji17 t228 _ A24.out).mono ?_); rintro e w25 ⟨rfl, hb⟩; refine ⟨_, rfl, ?_⟩; have n0_ := zaa.mk (zan (by repeat (first | exact HB.out | apply zad | apply zac | apply zaf)) hb); clear HB; have HB := n0_; clear n0_; (try clear hb); (try clear hb2); (try clear hk); (try clear hi)))
               go_roundg kj2
               case measure => have := HK1.out; have := HJ2.out; omega
               case rel => exact ⟨(wrap64 ((ji17) + t228)), (by first | rfl | (simp; done) | (simp only [← hji17] <;> (first | rfl | simp)) | (simp [*]; done)), H', ⟨by have := HK1.out; have := HJ2.out; omega⟩, ⟨by repeat (first | exact HB.out | apply zad | apply zac | apply zaf)⟩⟩
            ·rw [if_neg c19] at H
             exact absurd H (by simp)
           ·rw [if_neg c18] at H
            exact absurd H (by simp)
         ·rw [if_neg c15] at H
          have c15b0 : ((bt a0 x6_1) == 92) = false := beq_eq_false_iff_ne.mpr c15; have c15b1 : ((bt a0 x6_1) != 92) = true := bne_iff_ne.mpr c15; replace H := Option.bind_eq_some_iff.mp H; obtain ⟨t229, A260, H⟩ := H; replace H : (zaq.l0 kj2 a0 (wrap64 (x6_1 + t229))) = some (r1, r2) := H; have A26 := zaa.mk A260; clear A260; have H' := zaa.mk H; clear H; have p12 : 0 ≤ (x6_1 : Int) := of_decide_eq_true (by assumption)
          have q12 : x6_1 < (a0.size : Int) := of_decide_eq_true (by assumption)
          have hx12 := bt_at a0 x6_1; replace p12 := eq_true p12; replace q12 := eq_true q12; have p14 : 0 ≤ (x6_1 : Int) := of_decide_eq_true (by assumption)
          have q14 : x6_1 < (a0.size : Int) := of_decide_eq_true (by assumption)
          have hx14 := bt_at a0 x6_1; replace p14 := eq_true p14; replace q14 := eq_true q14; go_wp2_with (first | ((with_reducible refine zaO (f := 44) rfl ?_); refine zbg (some 56) rfl rfl Try.func44 (by kernel_rfl) rfl #[.string a0, .int .i64 x6_1] rfl (by (try simp only [List.map_toArray, List.map_cons, List.map_nil]); first | done | rfl | (simp only [List.length_drop, List.length_take]; rfl)) ?_; (with_reducible refine (zaN.calls kj2 a0 x6_1 t229 _ A26.out).mono ?_); rintro e w27 ⟨rfl, hb⟩; refine ⟨_, rfl, ?_⟩; have n0_ := zaa.mk (zan (by repeat (first | exact HB.out | apply zad | apply zac | apply zaf)) hb); clear HB; have HB := n0_; clear n0_; (try clear hb); (try clear hb2); (try clear hk); (try clear hi)))
          go_roundg kj2
          case measure => have := HK1.out; have := HJ2.out; omega
          case rel => exact ⟨(wrap64 (x6_1 + t229)), (by first | rfl | (simp; done) | (simp [*]; done)), H', ⟨by have := HK1.out; have := HJ2.out; omega⟩, ⟨by repeat (first | exact HB.out | apply zad | apply zac | apply zaf)⟩⟩
       ·rw [if_neg c11] at H
        exact absurd H (by simp)
      ·rw [if_neg c10] at H
       exact absurd H (by simp)
     ·replace c9 := Bool.eq_false_iff.mpr c9
      subst c9; have H1 : (some (9, x6_1)) = some (r1, r2) := by rw [if_neg (show ¬ (false = true) by decide)] at H; exact H
      clear H; have H := H1; clear H1; simp only [Option.some.injEq, Prod.mk.injEq] at H; obtain ⟨rfl, rfl⟩ := H; go_wp2
      go_ret2
      exact ⟨by first | rfl | (simp [*, zay, zax] <;> rfl), by repeat (first | exact HB.out | apply zad | apply zac | apply zaf)⟩
mutual
def zat.l0 : Nat → ByteArray → Int → List ByteArray → List Int → Int → Option (Int × Int)
 | 0, _, _, _, _, _ => none
 | k + 1, x0, x1, x6, x7, x8 => if x8 < (x6.length : Int) then (if (wrap64 (x1 + 2)) ≤ (x0.size : Int) then (if 0 ≤ x1 then (if x1 ≤ (wrap64 (x1 + 2)) then (if 0 ≤ x8 then (if (x0.extract (x1 : Int).toNat ((wrap64 (x1 + 2)) : Int).toNat).toList = (rdOf ByteArray.empty x6 x8).toList then (if x8 < (x7.length : Int) then (some (rd x7 x8, wrap64 (x1 + 2))) else (none)) else (zat.l0 k x0 x1 x6 x7 (wrap64 (x8 + 1)))) else (none)) else (none)) else (none)) else (zat.l0 k x0 x1 x6 x7 (wrap64 (x8 + 1)))) else (zat.l1 k x0 x1 (⟨#[40, 41, 123, 125, 44, 59, 61, 60, 62, 43, 45, 42, 37, 33]⟩ : ByteArray) (([20, 21, 22, 23, 24, 25, 26, 29, 31, 33, 34, 35, 37, 38] : List Int)) 0)
def zat.l1 : Nat → ByteArray → Int → ByteArray → List Int → Int → Option (Int × Int)
 | 0, _, _, _, _, _ => none
 | k + 1, x0, x1, x9, x10, x11 => if x11 < (x9.size : Int) then (if 0 ≤ x1 then (if x1 < (x0.size : Int) then (if 0 ≤ x11 then (if (bt x0 x1) = (bt x9 x11) then (if x11 < (x10.length : Int) then (some (rd x10 x11, wrap64 (x1 + 1))) else (none)) else (zat.l1 k x0 x1 x9 x10 (wrap64 (x11 + 1)))) else (none)) else (none)) else (none)) else ((zaN.f k x0 x1).bind fun t242 => (some (5, wrap64 (x1 + t242))))
end
def zat.f (k : Nat) (a0 : ByteArray) (a1 : Int) : Option (Int × Int) := zat.l0 k a0 a1 (([(⟨#[61, 61]⟩ : ByteArray), (⟨#[33, 61]⟩ : ByteArray), (⟨#[60, 61]⟩ : ByteArray), (⟨#[62, 61]⟩ : ByteArray), (⟨#[38, 38]⟩ : ByteArray), (⟨#[124, 124]⟩ : ByteArray)] : List ByteArray)) (([27, 28, 30, 32, 39, 40] : List Int)) 0
theorem zat.zbn : ∀ k, (∀ y0 y1 y2 y3 y4, LeO (zat.l0 k y0 y1 y2 y3 y4) (zat.l0 (k + 1) y0 y1 y2 y3 y4)) ∧ (∀ y0 y1 y2 y3 y4, LeO (zat.l1 k y0 y1 y2 y3 y4) (zat.l1 (k + 1) y0 y1 y2 y3 y4))
 | 0 => ⟨fun _ _ _ _ _ r h => by simp [zat.l0] at h, fun _ _ _ _ _ r h => by simp [zat.l1] at h⟩
 | k + 1 => by
  obtain ⟨ih0, ih1⟩ := zat.zbn k; refine ⟨?_, ?_⟩
  ·intro y0 y1 y2 y3 y4
   unfold zat.l0
   repeat' first
   | (with_reducible exact ih0 _ _ _ _ _)
   | (with_reducible exact ih1 _ _ _ _ _)
   | (with_reducible exact zaN.mono _ _ _)
   | (with_reducible exact LeO.refl _)
   | (with_reducible exact LeO.none _)
   | (with_reducible refine LeO.ite ?_ ?_)
   | (with_reducible refine LeO.bind ?_ (fun _ => ?_))
   | exact ih0 _ _ _ _ _
   | exact ih1 _ _ _ _ _
   | exact zaN.mono _ _ _
   | exact LeO.none _
   | refine LeO.ite ?_ ?_
   | refine LeO.bind ?_ (fun _ => ?_)
  ·intro y0 y1 y2 y3 y4
   unfold zat.l1
   repeat' first
   | (with_reducible exact ih0 _ _ _ _ _)
   | (with_reducible exact ih1 _ _ _ _ _)
   | (with_reducible exact zaN.mono _ _ _)
   | (with_reducible exact LeO.refl _)
   | (with_reducible exact LeO.none _)
   | (with_reducible refine LeO.ite ?_ ?_)
   | (with_reducible refine LeO.bind ?_ (fun _ => ?_))
   | exact ih0 _ _ _ _ _
   | exact ih1 _ _ _ _ _
   | exact zaN.mono _ _ _
   | exact LeO.none _
   | refine LeO.ite ?_ ?_
   | refine LeO.bind ?_ (fun _ => ?_)
theorem zat.mono : ∀ a0 a1 k, LeO (zat.f k a0 a1) (zat.f (k + 1) a0 a1) := by
 intro a0 a1 k
 obtain ⟨ih0, ih1⟩ := zat.zbn k; unfold zat.f
 repeat' first
   | (with_reducible exact ih0 _ _ _ _ _)
   | (with_reducible exact ih1 _ _ _ _ _)
   | (with_reducible exact zaN.mono _ _ _)
   | (with_reducible exact LeO.refl _)
   | (with_reducible exact LeO.none _)
   | (with_reducible refine LeO.ite ?_ ?_)
   | (with_reducible refine LeO.bind ?_ (fun _ => ?_))
   | exact ih0 _ _ _ _ _
   | exact ih1 _ _ _ _ _
   | exact zaN.mono _ _ _
   | exact LeO.none _
   | refine LeO.ite ?_ ?_
   | refine LeO.bind ?_ (fun _ => ?_)
set_option maxHeartbeats 8000000 in
set_option maxRecDepth 100000 in
theorem zat.calls (k : Nat) (a0 : ByteArray) (a1 : Int) (r1 : Int) (r2 : Int) (w : World) (h : zat.f k a0 a1 = some (r1, r2)) :
  Calls Try.prog 26 #[.string a0, .int .i64 a1] w fun e w' => e = .returned (.tuple #[.int .u8 r1, .int .i64 r2]) ∧ Below w.heap.size w w' := by
 have HB := zaa.mk (Below.refl w.heap.size w); have H : (zat.l0 k a0 a1 (([(⟨#[61, 61]⟩ : ByteArray), (⟨#[33, 61]⟩ : ByteArray), (⟨#[60, 61]⟩ : ByteArray), (⟨#[62, 61]⟩ : ByteArray), (⟨#[38, 38]⟩ : ByteArray), (⟨#[124, 124]⟩ : ByteArray)] : List ByteArray)) (([27, 28, 30, 32, 39, 40] : List Int)) 0) = some (r1, r2) := h; clear h; obtain ⟨y230, hy230⟩ : ∃ y_ : List ByteArray, y_ = (([(⟨#[61, 61]⟩ : ByteArray), (⟨#[33, 61]⟩ : ByteArray), (⟨#[60, 61]⟩ : ByteArray), (⟨#[62, 61]⟩ : ByteArray), (⟨#[38, 38]⟩ : ByteArray), (⟨#[124, 124]⟩ : ByteArray)] : List ByteArray)) := ⟨_, rfl⟩; replace H : (zat.l0 k a0 a1 y230 (([27, 28, 30, 32, 39, 40] : List Int)) 0) = some (r1, r2) := by first | (rw [hy230]; with_reducible exact H) | (have H2_ := (Option.bind_some _ _).symm.trans H; rw [hy230]; with_reducible exact H2_) | (have H2_ := (Option.bind_some _ _).symm.trans H; with_reducible exact H2_) | with_reducible exact H | (rw [hy230]; exact H) | exact H
 have Ny230 := zaa.mk hy230; clear hy230; obtain ⟨y233, hy233⟩ : ∃ y_ : List Int, y_ = (([27, 28, 30, 32, 39, 40] : List Int)) := ⟨_, rfl⟩; replace H : (zat.l0 k a0 a1 y230 y233 0) = some (r1, r2) := by first | (rw [hy233]; with_reducible exact H) | (have H2_ := (Option.bind_some _ _).symm.trans H; rw [hy233]; with_reducible exact H2_) | (have H2_ := (Option.bind_some _ _).symm.trans H; with_reducible exact H2_) | with_reducible exact H | (rw [hy233]; exact H) | exact H
 have Ny233 := zaa.mk hy233; clear hy233; have H' := zaa.mk H; clear H; go_enter Try.func26, Try.ntmps26
 go_wp2_with (first | ((with_reducible refine za5 (N := 12) rfl ?_); refine Kd.R_lit Kd.string _ 9 ?hg (N := 12) ?hd (xs := ([(⟨#[61, 61]⟩ : ByteArray), (⟨#[33, 61]⟩ : ByteArray), (⟨#[60, 61]⟩ : ByteArray), (⟨#[62, 61]⟩ : ByteArray), (⟨#[38, 38]⟩ : ByteArray), (⟨#[124, 124]⟩ : ByteArray)] : List ByteArray)) (inner := [.string (⟨#[61, 61]⟩ : ByteArray), .string (⟨#[33, 61]⟩ : ByteArray), .string (⟨#[60, 61]⟩ : ByteArray), .string (⟨#[62, 61]⟩ : ByteArray), .string (⟨#[38, 38]⟩ : ByteArray), .string (⟨#[124, 124]⟩ : ByteArray)]) (ok := fun _ => True) (okp := fun _ => True) ?hr ?hp (fun _ hk => hk) trivial (Below.refl _ _) (Nat.le_refl _) (by simp) ?_; (case hd => rfl); (case hg => rfl); (case hr => first | (go_simp; done) | (go_simp; rfl)); (case hp => exact (Reps.one (show Kd.M Kd.string _ _ _ (⟨#[61, 61]⟩ : ByteArray) [.string (⟨#[61, 61]⟩ : ByteArray)] from rfl) (Reps.one (show Kd.M Kd.string _ _ _ (⟨#[33, 61]⟩ : ByteArray) [.string (⟨#[33, 61]⟩ : ByteArray)] from rfl) (Reps.one (show Kd.M Kd.string _ _ _ (⟨#[60, 61]⟩ : ByteArray) [.string (⟨#[60, 61]⟩ : ByteArray)] from rfl) (Reps.one (show Kd.M Kd.string _ _ _ (⟨#[62, 61]⟩ : ByteArray) [.string (⟨#[62, 61]⟩ : ByteArray)] from rfl) (Reps.one (show Kd.M Kd.string _ _ _ (⟨#[38, 38]⟩ : ByteArray) [.string (⟨#[38, 38]⟩ : ByteArray)] from rfl) (Reps.one (show Kd.M Kd.string _ _ _ (⟨#[124, 124]⟩ : ByteArray) [.string (⟨#[124, 124]⟩ : ByteArray)] from rfl) (Reps.none _ _)))))))); intro v231 w3 ho4 hb hg_ hnew_; clear hg_ hnew_; (first | rw [← Ny230.out] at ho4 | (simp only [Int.reduceToNat] at ho4; rw [← Ny230.out] at ho4)); have n0_ := zaa.mk (Kd.zbK ho4 (zaB (by repeat (first | exact HB.out | apply zad | apply zac | apply zaf)))); have n1_ := zaa.mk (zan (by repeat (first | exact HB.out | apply zad | apply zac | apply zaf)) hb); clear HB; have HO232 := n0_; have HB := n1_; clear n0_ n1_; clear hb ho4) | ((with_reducible refine za5 (N := 13) rfl ?_); refine Kd.R_lit (Kd.int .u8) _ 5 ?hg (N := 13) ?hd (xs := ([27, 28, 30, 32, 39, 40] : List Int)) (inner := [.int .u8 27, .int .u8 28, .int .u8 30, .int .u8 32, .int .u8 39, .int .u8 40]) (ok := fun _ => True) (okp := fun _ => True) ?hr ?hp (fun _ hk => hk) trivial (Below.refl _ _) (Nat.le_refl _) (by simp) ?_; (case hd => rfl); (case hg => rfl); (case hr => first | (go_simp; done) | (go_simp; rfl)); (case hp => exact (Reps.one (show Kd.M (Kd.int .u8) _ _ _ 27 [.int .u8 27] from rfl) (Reps.one (show Kd.M (Kd.int .u8) _ _ _ 28 [.int .u8 28] from rfl) (Reps.one (show Kd.M (Kd.int .u8) _ _ _ 30 [.int .u8 30] from rfl) (Reps.one (show Kd.M (Kd.int .u8) _ _ _ 32 [.int .u8 32] from rfl) (Reps.one (show Kd.M (Kd.int .u8) _ _ _ 39 [.int .u8 39] from rfl) (Reps.one (show Kd.M (Kd.int .u8) _ _ _ 40 [.int .u8 40] from rfl) (Reps.none _ _)))))))); intro v234 w5 ho6 hb hg_ hnew_; clear hg_ hnew_; (first | rw [← Ny233.out] at ho6 | (simp only [Int.reduceToNat] at ho6; rw [← Ny233.out] at ho6)); have n0_ := zaa.mk (Kd.zbE (by (with_reducible repeat (first | apply Kd.zbt | apply Kd.zbv | apply Kd.zbM)); exact HO232.out) hb); have n1_ := zaa.mk (Kd.zbK ho6 (zaB (by repeat (first | exact HB.out | apply zad | apply zac | apply zaf)))); have n2_ := zaa.mk (zan (by repeat (first | exact HB.out | apply zad | apply zac | apply zaf)) hb); clear HO232; clear HB; have HO232 := n0_; have HO235 := n1_; have HB := n2_; clear n0_ n1_ n2_; clear hb ho6))
 repeat (go_quiet (first | ((with_reducible refine za5 (N := 12) rfl ?_); refine Kd.R_lit Kd.string _ 9 ?hg (N := 12) ?hd (xs := ([(⟨#[61, 61]⟩ : ByteArray), (⟨#[33, 61]⟩ : ByteArray), (⟨#[60, 61]⟩ : ByteArray), (⟨#[62, 61]⟩ : ByteArray), (⟨#[38, 38]⟩ : ByteArray), (⟨#[124, 124]⟩ : ByteArray)] : List ByteArray)) (inner := [.string (⟨#[61, 61]⟩ : ByteArray), .string (⟨#[33, 61]⟩ : ByteArray), .string (⟨#[60, 61]⟩ : ByteArray), .string (⟨#[62, 61]⟩ : ByteArray), .string (⟨#[38, 38]⟩ : ByteArray), .string (⟨#[124, 124]⟩ : ByteArray)]) (ok := fun _ => True) (okp := fun _ => True) ?hr ?hp (fun _ hk => hk) trivial (Below.refl _ _) (Nat.le_refl _) (by simp) ?_; (case hd => rfl); (case hg => rfl); (case hr => first | (go_simp; done) | (go_simp; rfl)); (case hp => exact (Reps.one (show Kd.M Kd.string _ _ _ (⟨#[61, 61]⟩ : ByteArray) [.string (⟨#[61, 61]⟩ : ByteArray)] from rfl) (Reps.one (show Kd.M Kd.string _ _ _ (⟨#[33, 61]⟩ : ByteArray) [.string (⟨#[33, 61]⟩ : ByteArray)] from rfl) (Reps.one (show Kd.M Kd.string _ _ _ (⟨#[60, 61]⟩ : ByteArray) [.string (⟨#[60, 61]⟩ : ByteArray)] from rfl) (Reps.one (show Kd.M Kd.string _ _ _ (⟨#[62, 61]⟩ : ByteArray) [.string (⟨#[62, 61]⟩ : ByteArray)] from rfl) (Reps.one (show Kd.M Kd.string _ _ _ (⟨#[38, 38]⟩ : ByteArray) [.string (⟨#[38, 38]⟩ : ByteArray)] from rfl) (Reps.one (show Kd.M Kd.string _ _ _ (⟨#[124, 124]⟩ : ByteArray) [.string (⟨#[124, 124]⟩ : ByteArray)] from rfl) (Reps.none _ _)))))))); intro v231 w3 ho4 hb hg_ hnew_; clear hg_ hnew_; (first | rw [← Ny230.out] at ho4 | (simp only [Int.reduceToNat] at ho4; rw [← Ny230.out] at ho4)); have n0_ := zaa.mk (Kd.zbK ho4 (zaB (by repeat (first | exact HB.out | apply zad | apply zac | apply zaf)))); have n1_ := zaa.mk (zan (by repeat (first | exact HB.out | apply zad | apply zac | apply zaf)) hb); clear HB; have HO232 := n0_; have HB := n1_; clear n0_ n1_; clear hb ho4) | ((with_reducible refine za5 (N := 13) rfl ?_); refine Kd.R_lit (Kd.int .u8) _ 5 ?hg (N := 13) ?hd (xs := ([27, 28, 30, 32, 39, 40] : List Int)) (inner := [.int .u8 27, .int .u8 28, .int .u8 30, .int .u8 32, .int .u8 39, .int .u8 40]) (ok := fun _ => True) (okp := fun _ => True) ?hr ?hp (fun _ hk => hk) trivial (Below.refl _ _) (Nat.le_refl _) (by simp) ?_; (case hd => rfl); (case hg => rfl); (case hr => first | (go_simp; done) | (go_simp; rfl)); (case hp => exact (Reps.one (show Kd.M (Kd.int .u8) _ _ _ 27 [.int .u8 27] from rfl) (Reps.one (show Kd.M (Kd.int .u8) _ _ _ 28 [.int .u8 28] from rfl) (Reps.one (show Kd.M (Kd.int .u8) _ _ _ 30 [.int .u8 30] from rfl) (Reps.one (show Kd.M (Kd.int .u8) _ _ _ 32 [.int .u8 32] from rfl) (Reps.one (show Kd.M (Kd.int .u8) _ _ _ 39 [.int .u8 39] from rfl) (Reps.one (show Kd.M (Kd.int .u8) _ _ _ 40 [.int .u8 40] from rfl) (Reps.none _ _)))))))); intro v234 w5 ho6 hb hg_ hnew_; clear hg_ hnew_; (first | rw [← Ny233.out] at ho6 | (simp only [Int.reduceToNat] at ho6; rw [← Ny233.out] at ho6)); have n0_ := zaa.mk (Kd.zbE (by (with_reducible repeat (first | apply Kd.zbt | apply Kd.zbv | apply Kd.zbM)); exact HO232.out) hb); have n1_ := zaa.mk (Kd.zbK ho6 (zaB (by repeat (first | exact HB.out | apply zad | apply zac | apply zaf)))); have n2_ := zaa.mk (zan (by repeat (first | exact HB.out | apply zad | apply zac | apply zaf)) hb); clear HO232; clear HB; have HO232 := n0_; have HO235 := n1_; have HB := n2_; clear n0_ n1_ n2_; clear hb ho6)); try go_wp2_with (first | ((with_reducible refine za5 (N := 12) rfl ?_); refine Kd.R_lit Kd.string _ 9 ?hg (N := 12) ?hd (xs := ([(⟨#[61, 61]⟩ : ByteArray), (⟨#[33, 61]⟩ : ByteArray), (⟨#[60, 61]⟩ : ByteArray), (⟨#[62, 61]⟩ : ByteArray), (⟨#[38, 38]⟩ : ByteArray), (⟨#[124, 124]⟩ : ByteArray)] : List ByteArray)) (inner := [.string (⟨#[61, 61]⟩ : ByteArray), .string (⟨#[33, 61]⟩ : ByteArray), .string (⟨#[60, 61]⟩ : ByteArray), .string (⟨#[62, 61]⟩ : ByteArray), .string (⟨#[38, 38]⟩ : ByteArray), .string (⟨#[124, 124]⟩ : ByteArray)]) (ok := fun _ => True) (okp := fun _ => True) ?hr ?hp (fun _ hk => hk) trivial (Below.refl _ _) (Nat.le_refl _) (by simp) ?_; (case hd => rfl); (case hg => rfl); (case hr => first | (go_simp; done) | (go_simp; rfl)); (case hp => exact (Reps.one (show Kd.M Kd.string _ _ _ (⟨#[61, 61]⟩ : ByteArray) [.string (⟨#[61, 61]⟩ : ByteArray)] from rfl) (Reps.one (show Kd.M Kd.string _ _ _ (⟨#[33, 61]⟩ : ByteArray) [.string (⟨#[33, 61]⟩ : ByteArray)] from rfl) (Reps.one (show Kd.M Kd.string _ _ _ (⟨#[60, 61]⟩ : ByteArray) [.string (⟨#[60, 61]⟩ : ByteArray)] from rfl) (Reps.one (show Kd.M Kd.string _ _ _ (⟨#[62, 61]⟩ : ByteArray) [.string (⟨#[62, 61]⟩ : ByteArray)] from rfl) (Reps.one (show Kd.M Kd.string _ _ _ (⟨#[38, 38]⟩ : ByteArray) [.string (⟨#[38, 38]⟩ : ByteArray)] from rfl) (Reps.one (show Kd.M Kd.string _ _ _ (⟨#[124, 124]⟩ : ByteArray) [.string (⟨#[124, 124]⟩ : ByteArray)] from rfl) (Reps.none _ _)))))))); intro v231 w3 ho4 hb hg_ hnew_; clear hg_ hnew_; (first | rw [← Ny230.out] at ho4 | (simp only [Int.reduceToNat] at ho4; rw [← Ny230.out] at ho4)); have n0_ := zaa.mk (Kd.zbK ho4 (zaB (by repeat (first | exact HB.out | apply zad | apply zac | apply zaf)))); have n1_ := zaa.mk (zan (by repeat (first | exact HB.out | apply zad | apply zac | apply zaf)) hb); clear HB; have HO232 := n0_; have HB := n1_; clear n0_ n1_; clear hb ho4) | ((with_reducible refine za5 (N := 13) rfl ?_); refine Kd.R_lit (Kd.int .u8) _ 5 ?hg (N := 13) ?hd (xs := ([27, 28, 30, 32, 39, 40] : List Int)) (inner := [.int .u8 27, .int .u8 28, .int .u8 30, .int .u8 32, .int .u8 39, .int .u8 40]) (ok := fun _ => True) (okp := fun _ => True) ?hr ?hp (fun _ hk => hk) trivial (Below.refl _ _) (Nat.le_refl _) (by simp) ?_; (case hd => rfl); (case hg => rfl); (case hr => first | (go_simp; done) | (go_simp; rfl)); (case hp => exact (Reps.one (show Kd.M (Kd.int .u8) _ _ _ 27 [.int .u8 27] from rfl) (Reps.one (show Kd.M (Kd.int .u8) _ _ _ 28 [.int .u8 28] from rfl) (Reps.one (show Kd.M (Kd.int .u8) _ _ _ 30 [.int .u8 30] from rfl) (Reps.one (show Kd.M (Kd.int .u8) _ _ _ 32 [.int .u8 32] from rfl) (Reps.one (show Kd.M (Kd.int .u8) _ _ _ 39 [.int .u8 39] from rfl) (Reps.one (show Kd.M (Kd.int .u8) _ _ _ 40 [.int .u8 40] from rfl) (Reps.none _ _)))))))); intro v234 w5 ho6 hb hg_ hnew_; clear hg_ hnew_; (first | rw [← Ny233.out] at ho6 | (simp only [Int.reduceToNat] at ho6; rw [← Ny233.out] at ho6)); have n0_ := zaa.mk (Kd.zbE (by (with_reducible repeat (first | apply Kd.zbt | apply Kd.zbv | apply Kd.zbM)); exact HO232.out) hb); have n1_ := zaa.mk (Kd.zbK ho6 (zaB (by repeat (first | exact HB.out | apply zad | apply zac | apply zaf)))); have n2_ := zaa.mk (zan (by repeat (first | exact HB.out | apply zad | apply zac | apply zaf)) hb); clear HO232; clear HB; have HO232 := n0_; have HO235 := n1_; have HB := n2_; clear n0_ n1_ n2_; clear hb ho6)))
 go_loopg [8] k (fun kq v8 w' => ∃ (x8_1 : Int), v8 = .int .i64 x8_1 ∧ zaa (zat.l0 kq a0 a1 y230 y233 x8_1 = some (r1, r2)) ∧ zaa (kq ≤ k) ∧ zaa (Kd.R Kd.string 9 w' w.heap.size (fun _ => True) v231 y230) ∧ zaa (Kd.R (Kd.int .u8) 5 w' w.heap.size (fun _ => True) v234 y233) ∧ zaa (Below w.heap.size w w'))
 case atStart => exact ⟨(0), (by first | rfl | (simp; done) | (simp [*]; done)), H', ⟨Nat.le_refl _⟩, ⟨by (with_reducible repeat (first | apply Kd.zbt | apply Kd.zbv | apply Kd.zbM)); exact HO232.out⟩, ⟨by (with_reducible repeat (first | apply Kd.zbt | apply Kd.zbv | apply Kd.zbM)); exact HO235.out⟩, ⟨by repeat (first | exact HB.out | apply zad | apply zac | apply zaf)⟩⟩
 case round =>
  clear H'; try clear c2
  try clear p2
  obtain ⟨x8_1, rfl, HA, HK1, HO_6, HO_7, HB⟩ := hrel; cases gk with
  | zero => exact absurd HA.out (by simp [zat.l0])
  | succ k1 =>
   have H := HA.out; clear HA; simp only [zat.l0] at H; by_cases c7 : x8_1 < (y230.length : Int)
   ·rw [if_pos c7] at H
    have c7b0 : decide (x8_1 < (y230.length : Int)) = true := decide_eq_true c7; clear c7; by_cases c8 : (wrap64 (a1 + 2)) ≤ (a0.size : Int)
    ·rw [if_pos c8] at H
     have c8b0 : decide ((wrap64 (a1 + 2)) ≤ (a0.size : Int)) = true := decide_eq_true c8; clear c8; by_cases c9 : 0 ≤ a1
     ·rw [if_pos c9] at H
      have c9b0 := eq_true c9; have c9b1 : decide (0 ≤ a1) = true := decide_eq_true c9; clear c9; by_cases c10 : a1 ≤ (wrap64 (a1 + 2))
      ·rw [if_pos c10] at H
       have c10b0 := eq_true c10; have c10b1 : decide (a1 ≤ (wrap64 (a1 + 2))) = true := decide_eq_true c10; have c11b0 := eq_true (of_decide_eq_true (by assumption) : (wrap64 (a1 + 2)) ≤ (a0.size : Int))
       by_cases c12 : 0 ≤ x8_1
       ·rw [if_pos c12] at H
        have c12b0 : decide (0 ≤ x8_1) = true := decide_eq_true c12; clear c12; by_cases c13 : (a0.extract (a1 : Int).toNat ((wrap64 (a1 + 2)) : Int).toNat).toList = (rdOf ByteArray.empty y230 x8_1).toList
        ·rw [if_pos c13] at H
         have c13b0 : ((a0.extract (a1 : Int).toNat ((wrap64 (a1 + 2)) : Int).toNat).toList == (rdOf ByteArray.empty y230 x8_1).toList) = true := beq_iff_eq.mpr c13; have c13b1 : ((a0.extract (a1 : Int).toNat ((wrap64 (a1 + 2)) : Int).toNat).toList != (rdOf ByteArray.empty y230 x8_1).toList) = false := bne_eq_false_iff_eq.mpr c13; clear c13; by_cases c14 : x8_1 < (y233.length : Int)
         ·rw [if_pos c14] at H
          have c14b0 : decide (x8_1 < (y233.length : Int)) = true := decide_eq_true c14; clear c14; simp only [Option.some.injEq, Prod.mk.injEq] at H; obtain ⟨rfl, rfl⟩ := H; obtain ⟨Ao15, co15, eo15⟩ := Kd.zbO HO_6.out; subst eo15; have p236 : 0 ≤ (x8_1 : Int) := of_decide_eq_true (by assumption)
          have q236 : x8_1 < (y230.length : Int) := of_decide_eq_true (by assumption)
          obtain ⟨ad236, e236, hx236_0⟩ := Kd.at_string (Kd.zbB HO_6.out).2.2 x8_1 p236 q236; cases e236; replace p236 := eq_true p236; replace q236 := eq_true q236; obtain ⟨Ao16, co16, eo16⟩ := Kd.zbO HO_7.out; subst eo16; have p237 : 0 ≤ (x8_1 : Int) := of_decide_eq_true (by assumption)
          have q237 : x8_1 < (y233.length : Int) := of_decide_eq_true (by assumption)
          obtain ⟨ad237, e237, hx237_0⟩ := Kd.at_int (Kd.zbB HO_7.out).2.2 x8_1 p237 q237; cases e237; replace p237 := eq_true p237; replace q237 := eq_true q237; go_wp2
          repeat (go_quiet (fail); try go_wp2)
          go_ret2
          exact ⟨by first | rfl | (simp [*, zay, zax] <;> rfl), by repeat (first | exact HB.out | apply zad | apply zac | apply zaf)⟩
         ·rw [if_neg c14] at H
          exact absurd H (by simp)
        ·rw [if_neg c13] at H
         have c13b0 : ((a0.extract (a1 : Int).toNat ((wrap64 (a1 + 2)) : Int).toNat).toList == (rdOf ByteArray.empty y230 x8_1).toList) = false := beq_eq_false_iff_ne.mpr c13; have c13b1 : ((a0.extract (a1 : Int).toNat ((wrap64 (a1 + 2)) : Int).toNat).toList != (rdOf ByteArray.empty y230 x8_1).toList) = true := bne_iff_ne.mpr c13; have H' := zaa.mk H; clear H; obtain ⟨Ao17, co17, eo17⟩ := Kd.zbO HO_6.out; subst eo17; have p236 : 0 ≤ (x8_1 : Int) := of_decide_eq_true (by assumption)
         have q236 : x8_1 < (y230.length : Int) := of_decide_eq_true (by assumption)
         obtain ⟨ad236, e236, hx236_0⟩ := Kd.at_string (Kd.zbB HO_6.out).2.2 x8_1 p236 q236; cases e236; replace p236 := eq_true p236; replace q236 := eq_true q236; go_wp2
         repeat (go_quiet (fail); try go_wp2)
         go_roundg k1
         case measure => have := HK1.out; omega
         case rel => exact ⟨(wrap64 (x8_1 + 1)), (by first | rfl | (simp; done) | (simp [*]; done)), H', ⟨by have := HK1.out; omega⟩, ⟨by (with_reducible repeat (first | apply Kd.zbt | apply Kd.zbv | apply Kd.zbM)); exact HO_6.out⟩, ⟨by (with_reducible repeat (first | apply Kd.zbt | apply Kd.zbv | apply Kd.zbM)); exact HO_7.out⟩, ⟨by repeat (first | exact HB.out | apply zad | apply zac | apply zaf)⟩⟩
       ·rw [if_neg c12] at H
        exact absurd H (by simp)
      ·rw [if_neg c10] at H
       exact absurd H (by simp)
     ·rw [if_neg c9] at H
      exact absurd H (by simp)
    ·rw [if_neg c8] at H
     have c8b0 : decide ((wrap64 (a1 + 2)) ≤ (a0.size : Int)) = false := decide_eq_false c8; clear c8; have H' := zaa.mk H; clear H; obtain ⟨Ao18, co18, eo18⟩ := Kd.zbO HO_6.out; subst eo18; go_wp2
     repeat (go_quiet (fail); try go_wp2)
     go_roundg k1
     case measure => have := HK1.out; omega
     case rel => exact ⟨(wrap64 (x8_1 + 1)), (by first | rfl | (simp; done) | (simp [*]; done)), H', ⟨by have := HK1.out; omega⟩, ⟨by (with_reducible repeat (first | apply Kd.zbt | apply Kd.zbv | apply Kd.zbM)); exact HO_6.out⟩, ⟨by (with_reducible repeat (first | apply Kd.zbt | apply Kd.zbv | apply Kd.zbM)); exact HO_7.out⟩, ⟨by repeat (first | exact HB.out | apply zad | apply zac | apply zaf)⟩⟩
   ·rw [if_neg c7] at H
    have c7b0 : decide (x8_1 < (y230.length : Int)) = false := decide_eq_false c7; clear c7; obtain ⟨y238, hy238⟩ : ∃ y_ : List Int, y_ = (([20, 21, 22, 23, 24, 25, 26, 29, 31, 33, 34, 35, 37, 38] : List Int)) := ⟨_, rfl⟩; replace H : (zat.l1 k1 a0 a1 (⟨#[40, 41, 123, 125, 44, 59, 61, 60, 62, 43, 45, 42, 37, 33]⟩ : ByteArray) y238 0) = some (r1, r2) := by first | (rw [hy238]; with_reducible exact H) | (have H2_ := (Option.bind_some _ _).symm.trans H; rw [hy238]; with_reducible exact H2_) | (have H2_ := (Option.bind_some _ _).symm.trans H; with_reducible exact H2_) | with_reducible exact H | (rw [hy238]; exact H) | exact H
    have Ny238 := zaa.mk hy238; clear hy238; have H' := zaa.mk H; clear H; obtain ⟨Ao19, co19, eo19⟩ := Kd.zbO HO_6.out; subst eo19; go_wp2_with (first | ((with_reducible refine za5 (N := 43) rfl ?_); refine Kd.R_lit (Kd.int .u8) _ 5 ?hg (N := 43) ?hd (xs := ([20, 21, 22, 23, 24, 25, 26, 29, 31, 33, 34, 35, 37, 38] : List Int)) (inner := [.int .u8 20, .int .u8 21, .int .u8 22, .int .u8 23, .int .u8 24, .int .u8 25, .int .u8 26, .int .u8 29, .int .u8 31, .int .u8 33, .int .u8 34, .int .u8 35, .int .u8 37, .int .u8 38]) (ok := fun _ => True) (okp := fun _ => True) ?hr ?hp (fun _ hk => hk) trivial (Below.refl _ _) (Nat.le_refl _) (by simp) ?_; (case hd => rfl); (case hg => rfl); (case hr => first | (go_simp; done) | (go_simp; rfl)); (case hp => exact (Reps.one (show Kd.M (Kd.int .u8) _ _ _ 20 [.int .u8 20] from rfl) (Reps.one (show Kd.M (Kd.int .u8) _ _ _ 21 [.int .u8 21] from rfl) (Reps.one (show Kd.M (Kd.int .u8) _ _ _ 22 [.int .u8 22] from rfl) (Reps.one (show Kd.M (Kd.int .u8) _ _ _ 23 [.int .u8 23] from rfl) (Reps.one (show Kd.M (Kd.int .u8) _ _ _ 24 [.int .u8 24] from rfl) (Reps.one (show Kd.M (Kd.int .u8) _ _ _ 25 [.int .u8 25] from rfl) (Reps.one (show Kd.M (Kd.int .u8) _ _ _ 26 [.int .u8 26] from rfl) (Reps.one (show Kd.M (Kd.int .u8) _ _ _ 29 [.int .u8 29] from rfl) (Reps.one (show Kd.M (Kd.int .u8) _ _ _ 31 [.int .u8 31] from rfl) (Reps.one (show Kd.M (Kd.int .u8) _ _ _ 33 [.int .u8 33] from rfl) (Reps.one (show Kd.M (Kd.int .u8) _ _ _ 34 [.int .u8 34] from rfl) (Reps.one (show Kd.M (Kd.int .u8) _ _ _ 35 [.int .u8 35] from rfl) (Reps.one (show Kd.M (Kd.int .u8) _ _ _ 37 [.int .u8 37] from rfl) (Reps.one (show Kd.M (Kd.int .u8) _ _ _ 38 [.int .u8 38] from rfl) (Reps.none _ _)))))))))))))))); intro v239 w20 ho21 hb hg_ hnew_; clear hg_ hnew_; (first | rw [← Ny238.out] at ho21 | (simp only [Int.reduceToNat] at ho21; rw [← Ny238.out] at ho21)); have n0_ := zaa.mk (Kd.zbE (by (with_reducible repeat (first | apply Kd.zbt | apply Kd.zbv | apply Kd.zbM)); exact HO_6.out) hb); have n1_ := zaa.mk (Kd.R_elder' (by (with_reducible repeat (first | apply Kd.zbt | apply Kd.zbv | apply Kd.zbM)); exact HO_7.out) (Kd.R_base ho21) hb); have n2_ := zaa.mk (Kd.zbK (Kd.R_new' ho21 (Kd.R_lt (by (with_reducible repeat (first | apply Kd.zbt | apply Kd.zbv | apply Kd.zbM)); exact HO_7.out))) (zaB (by repeat (first | exact HB.out | apply zad | apply zac | apply zaf)))); have n3_ := zaa.mk (zan (by repeat (first | exact HB.out | apply zad | apply zac | apply zaf)) hb); clear HO_6; clear HO_7; clear HB; have HO_6 := n0_; have HO_7 := n1_; have HO240 := n2_; have HB := n3_; clear n0_ n1_ n2_ n3_; clear hb ho21))
    repeat (go_quiet (first | ((with_reducible refine za5 (N := 43) rfl ?_); refine Kd.R_lit (Kd.int .u8) _ 5 ?hg (N := 43) ?hd (xs := ([20, 21, 22, 23, 24, 25, 26, 29, 31, 33, 34, 35, 37, 38] : List Int)) (inner := [.int .u8 20, .int .u8 21, .int .u8 22, .int .u8 23, .int .u8 24, .int .u8 25, .int .u8 26, .int .u8 29, .int .u8 31, .int .u8 33, .int .u8 34, .int .u8 35, .int .u8 37, .int .u8 38]) (ok := fun _ => True) (okp := fun _ => True) ?hr ?hp (fun _ hk => hk) trivial (Below.refl _ _) (Nat.le_refl _) (by simp) ?_; (case hd => rfl); (case hg => rfl); (case hr => first | (go_simp; done) | (go_simp; rfl)); (case hp => exact (Reps.one (show Kd.M (Kd.int .u8) _ _ _ 20 [.int .u8 20] from rfl) (Reps.one (show Kd.M (Kd.int .u8) _ _ _ 21 [.int .u8 21] from rfl) (Reps.one (show Kd.M (Kd.int .u8) _ _ _ 22 [.int .u8 22] from rfl) (Reps.one (show Kd.M (Kd.int .u8) _ _ _ 23 [.int .u8 23] from rfl) (Reps.one (show Kd.M (Kd.int .u8) _ _ _ 24 [.int .u8 24] from rfl) (Reps.one (show Kd.M (Kd.int .u8) _ _ _ 25 [.int .u8 25] from rfl) (Reps.one (show Kd.M (Kd.int .u8) _ _ _ 26 [.int .u8 26] from rfl) (Reps.one (show Kd.M (Kd.int .u8) _ _ _ 29 [.int .u8 29] from rfl) (Reps.one (show Kd.M (Kd.int .u8) _ _ _ 31 [.int .u8 31] from rfl) (Reps.one (show Kd.M (Kd.int .u8) _ _ _ 33 [.int .u8 33] from rfl) (Reps.one (show Kd.M (Kd.int .u8) _ _ _ 34 [.int .u8 34] from rfl) (Reps.one (show Kd.M (Kd.int .u8) _ _ _ 35 [.int .u8 35] from rfl) (Reps.one (show Kd.M (Kd.int .u8) _ _ _ 37 [.int .u8 37] from rfl) (Reps.one (show Kd.M (Kd.int .u8) _ _ _ 38 [.int .u8 38] from rfl) (Reps.none _ _)))))))))))))))); intro v239 w20 ho21 hb hg_ hnew_; clear hg_ hnew_; (first | rw [← Ny238.out] at ho21 | (simp only [Int.reduceToNat] at ho21; rw [← Ny238.out] at ho21)); have n0_ := zaa.mk (Kd.zbE (by (with_reducible repeat (first | apply Kd.zbt | apply Kd.zbv | apply Kd.zbM)); exact HO_6.out) hb); have n1_ := zaa.mk (Kd.R_elder' (by (with_reducible repeat (first | apply Kd.zbt | apply Kd.zbv | apply Kd.zbM)); exact HO_7.out) (Kd.R_base ho21) hb); have n2_ := zaa.mk (Kd.zbK (Kd.R_new' ho21 (Kd.R_lt (by (with_reducible repeat (first | apply Kd.zbt | apply Kd.zbv | apply Kd.zbM)); exact HO_7.out))) (zaB (by repeat (first | exact HB.out | apply zad | apply zac | apply zaf)))); have n3_ := zaa.mk (zan (by repeat (first | exact HB.out | apply zad | apply zac | apply zaf)) hb); clear HO_6; clear HO_7; clear HB; have HO_6 := n0_; have HO_7 := n1_; have HO240 := n2_; have HB := n3_; clear n0_ n1_ n2_ n3_; clear hb ho21)); try go_wp2_with (first | ((with_reducible refine za5 (N := 43) rfl ?_); refine Kd.R_lit (Kd.int .u8) _ 5 ?hg (N := 43) ?hd (xs := ([20, 21, 22, 23, 24, 25, 26, 29, 31, 33, 34, 35, 37, 38] : List Int)) (inner := [.int .u8 20, .int .u8 21, .int .u8 22, .int .u8 23, .int .u8 24, .int .u8 25, .int .u8 26, .int .u8 29, .int .u8 31, .int .u8 33, .int .u8 34, .int .u8 35, .int .u8 37, .int .u8 38]) (ok := fun _ => True) (okp := fun _ => True) ?hr ?hp (fun _ hk => hk) trivial (Below.refl _ _) (Nat.le_refl _) (by simp) ?_; (case hd => rfl); (case hg => rfl); (case hr => first | (go_simp; done) | (go_simp; rfl)); (case hp => exact (Reps.one (show Kd.M (Kd.int .u8) _ _ _ 20 [.int .u8 20] from rfl) (Reps.one (show Kd.M (Kd.int .u8) _ _ _ 21 [.int .u8 21] from rfl) (Reps.one (show Kd.M (Kd.int .u8) _ _ _ 22 [.int .u8 22] from rfl) (Reps.one (show Kd.M (Kd.int .u8) _ _ _ 23 [.int .u8 23] from rfl) (Reps.one (show Kd.M (Kd.int .u8) _ _ _ 24 [.int .u8 24] from rfl) (Reps.one (show Kd.M (Kd.int .u8) _ _ _ 25 [.int .u8 25] from rfl) (Reps.one (show Kd.M (Kd.int .u8) _ _ _ 26 [.int .u8 26] from rfl) (Reps.one (show Kd.M (Kd.int .u8) _ _ _ 29 [.int .u8 29] from rfl) (Reps.one (show Kd.M (Kd.int .u8) _ _ _ 31 [.int .u8 31] from rfl) (Reps.one (show Kd.M (Kd.int .u8) _ _ _ 33 [.int .u8 33] from rfl) (Reps.one (show Kd.M (Kd.int .u8) _ _ _ 34 [.int .u8 34] from rfl) (Reps.one (show Kd.M (Kd.int .u8) _ _ _ 35 [.int .u8 35] from rfl) (Reps.one (show Kd.M (Kd.int .u8) _ _ _ 37 [.int .u8 37] from rfl) (Reps.one (show Kd.M (Kd.int .u8) _ _ _ 38 [.int .u8 38] from rfl) (Reps.none _ _)))))))))))))))); intro v239 w20 ho21 hb hg_ hnew_; clear hg_ hnew_; (first | rw [← Ny238.out] at ho21 | (simp only [Int.reduceToNat] at ho21; rw [← Ny238.out] at ho21)); have n0_ := zaa.mk (Kd.zbE (by (with_reducible repeat (first | apply Kd.zbt | apply Kd.zbv | apply Kd.zbM)); exact HO_6.out) hb); have n1_ := zaa.mk (Kd.R_elder' (by (with_reducible repeat (first | apply Kd.zbt | apply Kd.zbv | apply Kd.zbM)); exact HO_7.out) (Kd.R_base ho21) hb); have n2_ := zaa.mk (Kd.zbK (Kd.R_new' ho21 (Kd.R_lt (by (with_reducible repeat (first | apply Kd.zbt | apply Kd.zbv | apply Kd.zbM)); exact HO_7.out))) (zaB (by repeat (first | exact HB.out | apply zad | apply zac | apply zaf)))); have n3_ := zaa.mk (zan (by repeat (first | exact HB.out | apply zad | apply zac | apply zaf)) hb); clear HO_6; clear HO_7; clear HB; have HO_6 := n0_; have HO_7 := n1_; have HO240 := n2_; have HB := n3_; clear n0_ n1_ n2_ n3_; clear hb ho21)))
    go_loopg [11] k1 (fun kq v11 w' => ∃ (x11_2 : Int), v11 = .int .i64 x11_2 ∧ zaa (zat.l1 kq a0 a1 (⟨#[40, 41, 123, 125, 44, 59, 61, 60, 62, 43, 45, 42, 37, 33]⟩ : ByteArray) y238 x11_2 = some (r1, r2)) ∧ zaa (kq ≤ k1) ∧ zaa (Kd.R (Kd.int .u8) 5 w' w.heap.size (fun _ => True) v239 y238) ∧ zaa (Below w.heap.size w w'))
    case atStart => exact ⟨(0), (by first | rfl | (simp; done) | (simp [*]; done)), H', ⟨Nat.le_refl _⟩, ⟨by (with_reducible repeat (first | apply Kd.zbt | apply Kd.zbv | apply Kd.zbM)); exact Kd.R_mono HO240.out (fun _ hk => trivial)⟩, ⟨by repeat (first | exact HB.out | apply zad | apply zac | apply zaf)⟩⟩
    case round =>
     clear H'; try clear c1
     try clear c2
     try clear p2
     try clear q2
     try clear hx2
     try clear p6
     try clear c7
     try clear c7b0
     try clear c8
     try clear c8b0
     try clear c9
     try clear c9b0
     try clear c9b1
     try clear c10
     try clear c10b0
     try clear c10b1
     try clear c11
     try clear c11b0
     try clear c12
     try clear c12b0
     try clear c13
     try clear c13b0
     try clear c13b1
     try clear c14
     try clear c14b0
     try clear hx236_0
     try clear hx237_0
     try clear p2
     try clear p236
     try clear p237
     try clear q236
     try clear q237
     obtain ⟨x11_2, rfl, HA, HK2, HO_10, HB⟩ := hrel; cases gk with
     | zero => exact absurd HA.out (by simp [zat.l1])
     | succ k2 =>
      have H := HA.out; clear HA; simp only [zat.l1] at H; by_cases c22 : x11_2 < ((⟨#[40, 41, 123, 125, 44, 59, 61, 60, 62, 43, 45, 42, 37, 33]⟩ : ByteArray).size : Int)
      ·rw [if_pos c22] at H
       have c22b0 : decide (x11_2 < ((⟨#[40, 41, 123, 125, 44, 59, 61, 60, 62, 43, 45, 42, 37, 33]⟩ : ByteArray).size : Int)) = true := decide_eq_true c22; have c22b0n : decide (x11_2 < 14) = true := c22b0; clear c22; by_cases c23 : 0 ≤ a1
       ·rw [if_pos c23] at H
        have c23b0 : decide (0 ≤ a1) = true := decide_eq_true c23; clear c23; by_cases c24 : a1 < (a0.size : Int)
        ·rw [if_pos c24] at H
         have c24b0 : decide (a1 < (a0.size : Int)) = true := decide_eq_true c24; clear c24; by_cases c26 : 0 ≤ x11_2
         ·rw [if_pos c26] at H
          have c26b0 : decide (0 ≤ x11_2) = true := decide_eq_true c26; clear c26; by_cases c28 : (bt a0 a1) = (bt (⟨#[40, 41, 123, 125, 44, 59, 61, 60, 62, 43, 45, 42, 37, 33]⟩ : ByteArray) x11_2)
          ·rw [if_pos c28] at H
           have c28b0 : ((bt a0 a1) == (bt (⟨#[40, 41, 123, 125, 44, 59, 61, 60, 62, 43, 45, 42, 37, 33]⟩ : ByteArray) x11_2)) = true := beq_iff_eq.mpr c28; have c28b1 : ((bt a0 a1) != (bt (⟨#[40, 41, 123, 125, 44, 59, 61, 60, 62, 43, 45, 42, 37, 33]⟩ : ByteArray) x11_2)) = false := bne_eq_false_iff_eq.mpr c28; clear c28; by_cases c29 : x11_2 < (y238.length : Int)
           ·rw [if_pos c29] at H
            have c29b0 : decide (x11_2 < (y238.length : Int)) = true := decide_eq_true c29; clear c29; simp only [Option.some.injEq, Prod.mk.injEq] at H; obtain ⟨rfl, rfl⟩ := H; have p25 : 0 ≤ (a1 : Int) := of_decide_eq_true (by assumption)
            have q25 : a1 < (a0.size : Int) := of_decide_eq_true (by assumption)
            have hx25 := bt_at a0 a1; replace p25 := eq_true p25; replace q25 := eq_true q25; have p27 : 0 ≤ (x11_2 : Int) := of_decide_eq_true (by assumption)
            have q27 : x11_2 < (14 : Int) := of_decide_eq_true (by assumption)
            have hx27 := bt_at (⟨#[40, 41, 123, 125, 44, 59, 61, 60, 62, 43, 45, 42, 37, 33]⟩ : ByteArray) x11_2; replace p27 := eq_true p27; replace q27 := eq_true q27; obtain ⟨Ao30, co30, eo30⟩ := Kd.zbO HO_10.out; subst eo30; have p241 : 0 ≤ (x11_2 : Int) := of_decide_eq_true (by assumption)
            have q241 : x11_2 < (y238.length : Int) := of_decide_eq_true (by assumption)
            obtain ⟨ad241, e241, hx241_0⟩ := Kd.at_int (Kd.zbB HO_10.out).2.2 x11_2 p241 q241; cases e241; replace p241 := eq_true p241; replace q241 := eq_true q241; go_wp2
            repeat (go_quiet (fail); try go_wp2)
            go_ret2
            exact ⟨by first | rfl | (simp [*, zay, zax] <;> rfl), by repeat (first | exact HB.out | apply zad | apply zac | apply zaf)⟩
           ·rw [if_neg c29] at H
            exact absurd H (by simp)
          ·rw [if_neg c28] at H
           have c28b0 : ((bt a0 a1) == (bt (⟨#[40, 41, 123, 125, 44, 59, 61, 60, 62, 43, 45, 42, 37, 33]⟩ : ByteArray) x11_2)) = false := beq_eq_false_iff_ne.mpr c28; have c28b1 : ((bt a0 a1) != (bt (⟨#[40, 41, 123, 125, 44, 59, 61, 60, 62, 43, 45, 42, 37, 33]⟩ : ByteArray) x11_2)) = true := bne_iff_ne.mpr c28; have H' := zaa.mk H; clear H; have p25 : 0 ≤ (a1 : Int) := of_decide_eq_true (by assumption)
           have q25 : a1 < (a0.size : Int) := of_decide_eq_true (by assumption)
           have hx25 := bt_at a0 a1; replace p25 := eq_true p25; replace q25 := eq_true q25; have p27 : 0 ≤ (x11_2 : Int) := of_decide_eq_true (by assumption)
           have q27 : x11_2 < (14 : Int) := of_decide_eq_true (by assumption)
           have hx27 := bt_at (⟨#[40, 41, 123, 125, 44, 59, 61, 60, 62, 43, 45, 42, 37, 33]⟩ : ByteArray) x11_2; replace p27 := eq_true p27; replace q27 := eq_true q27; go_wp2
           repeat (go_quiet (fail); try go_wp2)
           go_roundg k2
           case measure => have := HK1.out; have := HK2.out; omega
           case rel => exact ⟨(wrap64 (x11_2 + 1)), (by first | rfl | (simp; done) | (simp [*]; done)), H', ⟨by have := HK1.out; have := HK2.out; omega⟩, ⟨by (with_reducible repeat (first | apply Kd.zbt | apply Kd.zbv | apply Kd.zbM)); exact HO_10.out⟩, ⟨by repeat (first | exact HB.out | apply zad | apply zac | apply zaf)⟩⟩
         ·rw [if_neg c26] at H
          exact absurd H (by simp)
        ·rw [if_neg c24] at H
         exact absurd H (by simp)
       ·rw [if_neg c23] at H
        exact absurd H (by simp)
      ·rw [if_neg c22] at H
       have c22b0 : decide (x11_2 < ((⟨#[40, 41, 123, 125, 44, 59, 61, 60, 62, 43, 45, 42, 37, 33]⟩ : ByteArray).size : Int)) = false := decide_eq_false c22; have c22b0n : decide (x11_2 < 14) = false := c22b0; clear c22; replace H := Option.bind_eq_some_iff.mp H; obtain ⟨t242, A310, H⟩ := H; replace H : (some (5, wrap64 (a1 + t242))) = some (r1, r2) := H; have A31 := zaa.mk A310; clear A310; simp only [Option.some.injEq, Prod.mk.injEq] at H; obtain ⟨rfl, rfl⟩ := H; go_wp2_with (first | (go_at_call 44; (with_reducible refine (zaN.calls k2 a0 a1 t242 _ A31.out).mono ?_); rintro e w32 ⟨rfl, hb⟩; have n0_ := zaa.mk (Kd.zbE (by (with_reducible repeat (first | apply Kd.zbt | apply Kd.zbv | apply Kd.zbM)); exact HO_10.out) hb); have n1_ := zaa.mk (zan (by repeat (first | exact HB.out | apply zad | apply zac | apply zaf)) hb); clear HO_10; clear HB; have HO_10 := n0_; have HB := n1_; clear n0_ n1_; (try clear hb); (try clear hb2); (try clear hk); (try clear hi)))
       repeat (go_quiet (first | (go_at_call 44; (with_reducible refine (zaN.calls k2 a0 a1 t242 _ A31.out).mono ?_); rintro e w32 ⟨rfl, hb⟩; have n0_ := zaa.mk (Kd.zbE (by (with_reducible repeat (first | apply Kd.zbt | apply Kd.zbv | apply Kd.zbM)); exact HO_10.out) hb); have n1_ := zaa.mk (zan (by repeat (first | exact HB.out | apply zad | apply zac | apply zaf)) hb); clear HO_10; clear HB; have HO_10 := n0_; have HB := n1_; clear n0_ n1_; (try clear hb); (try clear hb2); (try clear hk); (try clear hi))); try go_wp2_with (first | (go_at_call 44; (with_reducible refine (zaN.calls k2 a0 a1 t242 _ A31.out).mono ?_); rintro e w32 ⟨rfl, hb⟩; have n0_ := zaa.mk (Kd.zbE (by (with_reducible repeat (first | apply Kd.zbt | apply Kd.zbv | apply Kd.zbM)); exact HO_10.out) hb); have n1_ := zaa.mk (zan (by repeat (first | exact HB.out | apply zad | apply zac | apply zaf)) hb); clear HO_10; clear HB; have HO_10 := n0_; have HB := n1_; clear n0_ n1_; (try clear hb); (try clear hb2); (try clear hk); (try clear hi))))
       go_ret2
       exact ⟨by first | rfl | (simp [*, zay, zax] <;> rfl), by repeat (first | exact HB.out | apply zad | apply zac | apply zaf)⟩
end
end Go.Proofs.Ytghbfjmmjfklfaa.H
