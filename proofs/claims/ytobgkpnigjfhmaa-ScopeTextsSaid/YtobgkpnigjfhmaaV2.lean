/- Texts of this claim, merged. -/
import Derived.Test.YtobgkpnigjfhmaaV1
import Derived.Test.YtobgkpnigjfhmaaProg
set_option maxRecDepth 100000
set_option maxHeartbeats 8000000
set_option linter.unusedVariables false
set_option linter.unusedSimpArgs false
namespace Go.Proofs.Ytobgkpnigjfhmaa.H
open Go.RowKit Go.Proofs.YtobgkpnigjfhmaaW.PrintWords Go.Proofs.YtobgkpnigjfhmaaW.PrintLast Go.Proofs.YtobgkpnigjfhmaaW.PrintMore
section
attribute [local go_sem] zbi zbg zbu zbv za9 za8 zbh zbf
def errW : Option Int → Value
 | none => .nilIface
 | some c => .iface 0 (.int .i64 c)
theorem zax : errW none = .nilIface := rfl
theorem zaw (c : Int) : errW (some c) = .iface 0 (.int .i64 c) := rfl
theorem info24 : (Try.prog.info? 24).map (fun i => (i.zero, i.size, i.bytes)) = some (some (.agg #[(.int .u8 0), (.int .u8 0), (.int .i64 0), (.slice none 0 0)]), 4, 40) := by kernel_rfl
theorem info40 : (Try.prog.info? 40).map (fun i => (i.zero, i.size, i.bytes)) = some (some (.agg #[(.int .u8 0), (.int .i64 0), (.int .i64 0)]), 3, 24) := by kernel_rfl
structure S24 where
 f0 : Int
 f1 : Int
 f2 : Int
 f3 : (List S24)
def z24 : S24 := ⟨(0 : Int), (0 : Int), (0 : Int), ([] : List S24)⟩
def F24 (d : Kd S24) : Kd S24 := Kd.iso (Kd.pair (Kd.int .u8) (Kd.pair (Kd.int .u8) (Kd.pair (Kd.int .i64) (Kd.slice 24 d)))) (fun x : S24 => (x.f0, x.f1, x.f2, x.f3))
theorem mono24 : Kd.Mono F24 := Kd.mono_iso _ (Kd.mono_pair (Kd.mono_const _) (Kd.mono_pair (Kd.mono_const _) (Kd.mono_pair (Kd.mono_const _) (Kd.mono_slice 24 Kd.mono_id))))
theorem sub24 : Kd.Sub F24 [24] := Kd.sub_iso _ (Kd.sub_pair (Kd.sub_const _ qe) (Kd.sub_pair (Kd.sub_const _ qe) (Kd.sub_pair (Kd.sub_const _ qe) (Kd.sub_slice 24 qe Kd.sub_id))))
theorem sz24 : ∀ n, (Kd.upto F24 4 [24] n).sz = 4 := Kd.upto_sz (fun _ => rfl)
def k24 : Kd S24 := Kd.fix F24 4 [24] sz24 (Kd.upto_E sub24)
theorem k24_open {w : World} {x : S24} {cs : List Value} (h : k24.K w x cs) : ∃ A3 c3, cs = [.int .u8 x.f0, .int .u8 x.f1, .int .i64 x.f2, .slice A3 x.f3.length c3] ∧ x.f3.length ≤ c3 ∧ k24.C w A3 x.f3.length x.f3 := by
 obtain ⟨n, h⟩ := h; cases n with
 | zero => exact h.elim
 | succ n =>
  obtain ⟨_, _, rfl, rfl, ⟨_, _, rfl, rfl, ⟨_, _, rfl, rfl, ⟨A3, c3, rfl, l3, g3⟩⟩⟩⟩ := h; exact ⟨A3, c3, rfl, l3, Kd.fix_C g3⟩
theorem k24_mk (w : World) (x : S24) {A3 : Option Addr} {c3 : Nat} (l3 : x.f3.length ≤ c3) (g3 : k24.C w A3 x.f3.length x.f3) : k24.K w x [.int .u8 x.f0, .int .u8 x.f1, .int .i64 x.f2, .slice A3 x.f3.length c3] := by
 obtain ⟨n3, q3⟩ := Kd.fix_C_back mono24 g3; have r3 := Kd.upto_C_le mono24 sz24 (show n3 ≤ n3 by omega) q3
 exact ⟨n3 + 1, ⟨[.int .u8 x.f0], [.int .u8 x.f1, .int .i64 x.f2, .slice A3 x.f3.length c3], rfl, rfl, ⟨[.int .u8 x.f1], [.int .i64 x.f2, .slice A3 x.f3.length c3], rfl, rfl, ⟨[.int .i64 x.f2], [.slice A3 x.f3.length c3], rfl, rfl, ⟨A3, c3, rfl, l3, r3⟩⟩⟩⟩⟩
theorem k24_mkM (w : World) (base : Nat) (ok : Nat → Prop) (x : S24) {v3 : Value} (g3 : k24.R 24 w base ok v3 x.f3) : k24.M w base ok x [.int .u8 x.f0, .int .u8 x.f1, .int .i64 x.f2, v3] := by
 obtain ⟨n3, q3⟩ := Kd.fix_R_back mono24 g3; have r3 := Kd.upto_R_le mono24 sz24 (show n3 ≤ n3 by omega) q3
 exact ⟨n3 + 1, ⟨[.int .u8 x.f0], [.int .u8 x.f1, .int .i64 x.f2, v3], rfl, rfl, ⟨[.int .u8 x.f1], [.int .i64 x.f2, v3], rfl, rfl, ⟨[.int .i64 x.f2], [v3], rfl, rfl, ⟨v3, rfl, r3⟩⟩⟩⟩⟩
theorem k24_openF {W : World} {ok : Nat → Prop} {x : S24} {cs : List Value} (h : Kd.FK k24 W ok x cs) : ∃ A3 c3, cs = [.int .u8 x.f0, .int .u8 x.f1, .int .i64 x.f2, .slice A3 x.f3.length c3] ∧ x.f3.length ≤ c3 ∧ Kd.F k24 W ok A3 x.f3.length x.f3 := by
 obtain ⟨A3, c3, rfl, l3, _⟩ := k24_open (Kd.FK_now h); exact ⟨A3, c3, rfl, l3, (fun W' hW => by obtain ⟨A3_, c3_, he, l3_, g3_⟩ := k24_open (h W' hW); injection (Option.some.inj (show some (Value.slice A3 x.f3.length c3) = some (Value.slice A3_ x.f3.length c3_) from congrArg (fun l => l[3]?) he)) with ha_ _ _; rw [ha_]; exact g3_)⟩
theorem k24_mkF (W : World) (ok : Nat → Prop) (x : S24) {A3 : Option Addr} {c3 : Nat} (l3 : x.f3.length ≤ c3) (g3 : Kd.F k24 W ok A3 x.f3.length x.f3) : Kd.FK k24 W ok x [.int .u8 x.f0, .int .u8 x.f1, .int .i64 x.f2, .slice A3 x.f3.length c3] := fun W2 hW => k24_mk W2 x l3 (g3 W2 hW)
def za6 (xs : List S24) (i : Int) : S24 := xs.getD i.toNat z24
theorem at_T24 {w : World} {A : Option Addr} {n : Nat} {xs : List S24} (h : Kd.C k24 w A n xs) (i : Int) (h0 : 0 ≤ i) (h1 : i < n) : ∃ ad A3 c3, A = some ad ∧ w.cell? (ad.add (i.toNat * 4)) = some (.int .u8 (za6 xs i).f0) ∧ w.cell? ⟨(ad.add (i.toNat * 4)).block, (ad.add (i.toNat * 4)).off + 1, none⟩ = some (.int .u8 (za6 xs i).f1) ∧ w.cell? ⟨(ad.add (i.toNat * 4)).block, (ad.add (i.toNat * 4)).off + 2, none⟩ = some (.int .i64 (za6 xs i).f2) ∧ w.cell? ⟨(ad.add (i.toNat * 4)).block, (ad.add (i.toNat * 4)).off + 3, none⟩ = some (.slice A3 (za6 xs i).f3.length c3) ∧ (za6 xs i).f3.length ≤ c3 ∧ k24.C w A3 (za6 xs i).f3.length (za6 xs i).f3 := by
 obtain ⟨ad, c, e, _, hK, hc0⟩ := Kd.C_get h z24 i h0 h1; have hc : ∀ j u, c[j]? = some u → w.cell? (ad.add (i.toNat * 4 + j)) = some u := hc0; obtain ⟨A3, c3, rfl, l3, g3⟩ := k24_open hK; exact ⟨ad, A3, c3, e, hc 0 _ rfl, Q7, Qb, by rw [← zbm _ _ 3 q9]; exact hc 3 _ rfl, l3, g3⟩
structure S97 where
 f0 : Int
 f1 : Int
 f2 : Int
 f3 : Int
def z97 : S97 := ⟨(0 : Int), (0 : Int), (0 : Int), (0 : Int)⟩
def k97 : Kd S97 := Kd.iso (Kd.pair (Kd.int .i64) (Kd.pair (Kd.int .u8) (Kd.pair (Kd.int .u8) (Kd.int .i64)))) (fun x : S97 => (x.f0, x.f1, x.f2, x.f3))
def rd_T97 (xs : List S97) (i : Int) : S97 := xs.getD i.toNat z97
structure S60 where
 f0 : Int
 f1 : Int
def z60 : S60 := ⟨(0 : Int), (0 : Int)⟩
def k60 : Kd S60 := Kd.iso (Kd.pair (Kd.int .i64) (Kd.int .i64)) (fun x : S60 => (x.f0, x.f1))
theorem k60_open {w : World} {x : S60} {cs : List Value} (h : k60.K w x cs) : cs = [.int .i64 x.f0, .int .i64 x.f1] := by
 obtain ⟨_, _, rfl, rfl, rfl⟩ := h; exact rfl
theorem k60_mkM (w : World) (base : Nat) (ok : Nat → Prop) (x : S60)  : k60.M w base ok x [.int .i64 x.f0, .int .i64 x.f1] := ⟨[.int .i64 x.f0], [.int .i64 x.f1], rfl, rfl, rfl⟩
def rd_T60 (xs : List S60) (i : Int) : S60 := xs.getD i.toNat z60
theorem at_T60 {w : World} {A : Option Addr} {n : Nat} {xs : List S60} (h : Kd.C k60 w A n xs) (i : Int) (h0 : 0 ≤ i) (h1 : i < n) : ∃ ad , A = some ad ∧ w.cell? (ad.add (i.toNat * 2)) = some (.int .i64 (rd_T60 xs i).f0) ∧ w.cell? ⟨(ad.add (i.toNat * 2)).block, (ad.add (i.toNat * 2)).off + 1, none⟩ = some (.int .i64 (rd_T60 xs i).f1) := by
 obtain ⟨ad, c, e, _, hK, hc0⟩ := Kd.C_get h z60 i h0 h1; have hc : ∀ j u, c[j]? = some u → w.cell? (ad.add (i.toNat * 2 + j)) = some u := hc0; obtain rfl := k60_open hK; exact ⟨ad, e, hc 0 _ rfl, Q7⟩
structure S113 where
 f0 : S24
 f1 : S60
 f2 : Int
def z113 : S113 := ⟨z24, z60, (0 : Int)⟩
def k113 : Kd S113 := Kd.iso (Kd.pair k24 (Kd.pair k60 (Kd.int .i64))) (fun x : S113 => (x.f0, x.f1, x.f2))
def rd_T113 (xs : List S113) (i : Int) : S113 := xs.getD i.toNat z113
structure S62 where
 f0 : S60
 f1 : Int
 f2 : Bool
def z62 : S62 := ⟨z60, (0 : Int), false⟩
def k62 : Kd S62 := Kd.iso (Kd.pair k60 (Kd.pair (Kd.int .u8) Kd.bool)) (fun x : S62 => (x.f0, x.f1, x.f2))
theorem k62_open {w : World} {x : S62} {cs : List Value} (h : k62.K w x cs) : cs = [.int .i64 x.f0.f0, .int .i64 x.f0.f1, .int .u8 x.f1, .bool x.f2] := by
 obtain ⟨_, _, rfl, s0, ⟨_, _, rfl, rfl, rfl⟩⟩ := h; obtain rfl := k60_open s0; exact rfl
theorem k62_mkM (w : World) (base : Nat) (ok : Nat → Prop) (x : S62)  : k62.M w base ok x [.int .i64 x.f0.f0, .int .i64 x.f0.f1, .int .u8 x.f1, .bool x.f2] := ⟨[.int .i64 x.f0.f0, .int .i64 x.f0.f1], [.int .u8 x.f1, .bool x.f2], rfl, (k60_mkM w base ok x.f0 ), ⟨[.int .u8 x.f1], [.bool x.f2], rfl, rfl, rfl⟩⟩
def rd_T62 (xs : List S62) (i : Int) : S62 := xs.getD i.toNat z62
theorem at_T62 {w : World} {A : Option Addr} {n : Nat} {xs : List S62} (h : Kd.C k62 w A n xs) (i : Int) (h0 : 0 ≤ i) (h1 : i < n) : ∃ ad , A = some ad ∧ w.cell? (ad.add (i.toNat * 4)) = some (.int .i64 (rd_T62 xs i).f0.f0) ∧ w.cell? ⟨(ad.add (i.toNat * 4)).block, (ad.add (i.toNat * 4)).off + 1, none⟩ = some (.int .i64 (rd_T62 xs i).f0.f1) ∧ w.cell? ⟨(ad.add (i.toNat * 4)).block, (ad.add (i.toNat * 4)).off + 2, none⟩ = some (.int .u8 (rd_T62 xs i).f1) ∧ w.cell? ⟨(ad.add (i.toNat * 4)).block, (ad.add (i.toNat * 4)).off + 3, none⟩ = some (.bool (rd_T62 xs i).f2) := by
 obtain ⟨ad, c, e, _, hK, hc0⟩ := Kd.C_get h z62 i h0 h1; have hc : ∀ j u, c[j]? = some u → w.cell? (ad.add (i.toNat * 4 + j)) = some u := hc0; obtain rfl := k62_open hK; exact ⟨ad, e, hc 0 _ rfl, Q7, Qb, by rw [← zbm _ _ 3 q9]; exact hc 3 _ rfl⟩
def rd_L9 (xs : List (List S60)) (i : Int) : (List S60) := xs.getD i.toNat ([] : List S60)
structure S90 where
 f0 : S62
 f1 : ByteArray
 f2 : (List S60)
 f3 : Int
def z90 : S90 := ⟨z62, (⟨#[]⟩ : ByteArray), ([] : List S60), (0 : Int)⟩
def k90 : Kd S90 := Kd.iso (Kd.pair k62 (Kd.pair Kd.string (Kd.pair (Kd.slice 60 k60) (Kd.int .i64)))) (fun x : S90 => (x.f0, x.f1, x.f2, x.f3))
def rd_T90 (xs : List S90) (i : Int) : S90 := xs.getD i.toNat z90
structure S92 where
 f0 : S60
 f1 : ByteArray
def z92 : S92 := ⟨z60, (⟨#[]⟩ : ByteArray)⟩
def k92 : Kd S92 := Kd.iso (Kd.pair k60 Kd.string) (fun x : S92 => (x.f0, x.f1))
def rd_T92 (xs : List S92) (i : Int) : S92 := xs.getD i.toNat z92
structure S95 where
 f0 : S60
 f1 : Int
def z95 : S95 := ⟨z60, (0 : Int)⟩
def k95 : Kd S95 := Kd.iso (Kd.pair k60 (Kd.int .i64)) (fun x : S95 => (x.f0, x.f1))
theorem k95_open {w : World} {x : S95} {cs : List Value} (h : k95.K w x cs) : cs = [.int .i64 x.f0.f0, .int .i64 x.f0.f1, .int .i64 x.f1] := by
 obtain ⟨_, _, rfl, s0, rfl⟩ := h; obtain rfl := k60_open s0; exact rfl
theorem k95_mkM (w : World) (base : Nat) (ok : Nat → Prop) (x : S95)  : k95.M w base ok x [.int .i64 x.f0.f0, .int .i64 x.f0.f1, .int .i64 x.f1] := ⟨[.int .i64 x.f0.f0, .int .i64 x.f0.f1], [.int .i64 x.f1], rfl, (k60_mkM w base ok x.f0 ), rfl⟩
def rd_T95 (xs : List S95) (i : Int) : S95 := xs.getD i.toNat z95
theorem at_T95 {w : World} {A : Option Addr} {n : Nat} {xs : List S95} (h : Kd.C k95 w A n xs) (i : Int) (h0 : 0 ≤ i) (h1 : i < n) : ∃ ad , A = some ad ∧ w.cell? (ad.add (i.toNat * 3)) = some (.int .i64 (rd_T95 xs i).f0.f0) ∧ w.cell? ⟨(ad.add (i.toNat * 3)).block, (ad.add (i.toNat * 3)).off + 1, none⟩ = some (.int .i64 (rd_T95 xs i).f0.f1) ∧ w.cell? ⟨(ad.add (i.toNat * 3)).block, (ad.add (i.toNat * 3)).off + 2, none⟩ = some (.int .i64 (rd_T95 xs i).f1) := by
 obtain ⟨ad, c, e, _, hK, hc0⟩ := Kd.C_get h z95 i h0 h1; have hc : ∀ j u, c[j]? = some u → w.cell? (ad.add (i.toNat * 3 + j)) = some u := hc0; obtain rfl := k95_open hK; exact ⟨ad, e, hc 0 _ rfl, Q7, Qb⟩
structure S40 where
 f0 : Int
 f1 : Int
 f2 : Int
def z40 : S40 := ⟨(0 : Int), (0 : Int), (0 : Int)⟩
def k40 : Kd S40 := Kd.iso (Kd.pair (Kd.int .u8) (Kd.pair (Kd.int .i64) (Kd.int .i64))) (fun x : S40 => (x.f0, x.f1, x.f2))
theorem k40_heap : Kd.Heap k40 := Kd.heap_iso _ (Kd.heap_pair (Kd.heap_int .u8) (Kd.heap_pair (Kd.heap_int .i64) (Kd.heap_int .i64)))
theorem k40_open {w : World} {x : S40} {cs : List Value} (h : k40.K w x cs) : cs = [.int .u8 x.f0, .int .i64 x.f1, .int .i64 x.f2] := by
 obtain ⟨_, _, rfl, rfl, ⟨_, _, rfl, rfl, rfl⟩⟩ := h; exact rfl
theorem k40_mkM (w : World) (base : Nat) (ok : Nat → Prop) (x : S40)  : k40.M w base ok x [.int .u8 x.f0, .int .i64 x.f1, .int .i64 x.f2] := ⟨[.int .u8 x.f0], [.int .i64 x.f1, .int .i64 x.f2], rfl, rfl, ⟨[.int .i64 x.f1], [.int .i64 x.f2], rfl, rfl, rfl⟩⟩
def zbI (xs : List S40) (i : Int) : S40 := xs.getD i.toNat z40
theorem at_T40 {w : World} {A : Option Addr} {n : Nat} {xs : List S40} (h : Kd.C k40 w A n xs) (i : Int) (h0 : 0 ≤ i) (h1 : i < n) : ∃ ad , A = some ad ∧ w.cell? (ad.add (i.toNat * 3)) = some (.int .u8 (zbI xs i).f0) ∧ w.cell? ⟨(ad.add (i.toNat * 3)).block, (ad.add (i.toNat * 3)).off + 1, none⟩ = some (.int .i64 (zbI xs i).f1) ∧ w.cell? ⟨(ad.add (i.toNat * 3)).block, (ad.add (i.toNat * 3)).off + 2, none⟩ = some (.int .i64 (zbI xs i).f2) := by
 obtain ⟨ad, c, e, _, hK, hc0⟩ := Kd.C_get h z40 i h0 h1; have hc : ∀ j u, c[j]? = some u → w.cell? (ad.add (i.toNat * 3 + j)) = some u := hc0; obtain rfl := k40_open hK; exact ⟨ad, e, hc 0 _ rfl, Q7, Qb⟩
def zbE.f (a0 : Int) : Option (Bool) := if a0 ≥ 1 then (if a0 ≤ 17 then (some true) else (if a0 ≥ 20 then (some (decide (a0 ≤ 40))) else (some false))) else (if a0 ≥ 20 then (some (decide (a0 ≤ 40))) else (some false))
theorem zbE.calls (a0 : Int) (r : Bool) (w : World) (h : zbE.f a0 = some r) :
  Calls Try.prog 75 #[.int .u8 a0] w fun e w' => e = .returned (.bool r) ∧ zat w w' := by
 have H : (if a0 ≥ 1 then (if a0 ≤ 17 then (some true) else (if a0 ≥ 20 then (some (decide (a0 ≤ 40))) else (some false))) else (if a0 ≥ 20 then (some (decide (a0 ≤ 40))) else (some false))) = some r := h
 clear h; by_cases c2 : a0 ≥ 1
 ·rw [if_pos c2] at H
  have c2b0 : decide (1 ≤ a0) = true := decide_eq_true c2; clear c2; by_cases c3 : a0 ≤ 17
  ·rw [if_pos c3] at H
   have c3b0 : decide (a0 ≤ 17) = true := decide_eq_true c3; clear c3; obtain rfl := Option.some.inj H; go_enter Try.func75, Try.ntmps75
   go_wp2
   go_ret
   exact ⟨qc, qh⟩
  ·rw [if_neg c3] at H
   have c3b0 : decide (a0 ≤ 17) = false := decide_eq_false c3; clear c3; by_cases c4 : a0 ≥ 20
   ·rw [if_pos c4] at H
    have c4b0 : decide (20 ≤ a0) = true := decide_eq_true c4; clear c4; obtain rfl := Option.some.inj H; go_enter Try.func75, Try.ntmps75
    go_wp2
    go_ret
    exact ⟨qc, qh⟩
   ·rw [if_neg c4] at H
    have c4b0 : decide (20 ≤ a0) = false := decide_eq_false c4; clear c4; obtain rfl := Option.some.inj H; go_enter Try.func75, Try.ntmps75
    go_wp2
    go_ret
    exact ⟨qc, qh⟩
 ·rw [if_neg c2] at H
  have c2b0 : decide (1 ≤ a0) = false := decide_eq_false c2; clear c2; by_cases c5 : a0 ≥ 20
  ·rw [if_pos c5] at H
   have c5b0 : decide (20 ≤ a0) = true := decide_eq_true c5; clear c5; obtain rfl := Option.some.inj H; go_enter Try.func75, Try.ntmps75
   go_wp2
   go_ret
   exact ⟨qc, qh⟩
  ·rw [if_neg c5] at H
   have c5b0 : decide (20 ≤ a0) = false := decide_eq_false c5; clear c5; obtain rfl := Option.some.inj H; go_enter Try.func75, Try.ntmps75
   go_wp2
   go_ret
   exact ⟨qc, qh⟩
def zaT.l0 : Nat → List Int → Int → Int → Int → Option (Int)
 | 0, _, _, _, _ => none
 | k + 1, x0, x1, x7, x8 => if x8 < x7 then (if 0 ≤ x8 then (if x8 < (x0.length : Int) then (if x1 = (rd x0 x8) then (some x8) else (zaT.l0 k x0 x1 x7 (wrap64 (x8 + 1)))) else (none)) else (none)) else (some (-1))
def zaT.f (k : Nat) (l0 : List Int) (a1 : Int) : Option (Int) := zaT.l0 k l0 a1 (l0.length : Int) 0
theorem zaT.calls (k : Nat) (A0 : Option Addr) (c0 : Nat) (l0 : List Int) (a1 : Int) (r : Int) (w : World) (hr0 : Kd.C (Kd.int .u8) w A0 l0.length l0) (hc0 : l0.length ≤ c0) (h : zaT.f k l0 a1 = some r) :
  Calls Try.prog 83 #[.slice A0 l0.length c0, .int .u8 a1] w fun e w' => e = .returned (.int .i64 r) ∧ zat w w' := by
 have HR0 := J hr0; have HC0 := J hc0; clear hr0 hc0; have H : (zaT.l0 k l0 a1 (l0.length : Int) 0) = some r := h; clear h; have H' := J H; clear H; go_enter Try.func83, Try.ntmps83
 go_wp2
 go_loopg [8] k (fun kq v8 w' => ∃ (x8_1 : Int), v8 = .int .i64 x8_1 ∧ zaa (zaT.l0 kq l0 a1 (l0.length : Int) x8_1 = some r) ∧ zaa (kq ≤ k) ∧ zat w w')
 case atStart => exact ⟨(0), qc, H', ⟨Nat.le_refl _⟩, qh⟩
 case round =>
  clear H'; try clear p2
  obtain ⟨x8_1, rfl, HA, HK1, ⟨m1, rfl⟩⟩ := hrel; cases gk with
  | zero => exact absurd HA.out (by simp [zaT.l0])
  | succ k1 =>
   have H := HA.out; clear HA; simp only [zaT.l0] at H; by_cases c3 : x8_1 < (l0.length : Int)
   ·rw [if_pos c3] at H
    have c3b0 : decide (x8_1 < (l0.length : Int)) = true := decide_eq_true c3; clear c3; by_cases c4 : 0 ≤ x8_1
    ·rw [if_pos c4] at H
     have c4b0 : decide (0 ≤ x8_1) = true := decide_eq_true c4; clear c4; by_cases c5 : x8_1 < (l0.length : Int)
     ·rw [if_pos c5] at H
      have c5b0 : decide (x8_1 < (l0.length : Int)) = true := decide_eq_true c5; clear c5; by_cases c6 : a1 = (rd l0 x8_1)
      ·rw [if_pos c6] at H
       have c6b0 : (a1 == (rd l0 x8_1)) = true := beq_iff_eq.mpr c6; have c6b1 : (a1 != (rd l0 x8_1)) = false := bne_eq_false_iff_eq.mpr c6; clear c6; obtain rfl := Option.some.inj H; have p101 : 0 ≤ (x8_1 : Int) := of_decide_eq_true qd
       have q101 : x8_1 < (l0.length : Int) := of_decide_eq_true qd
       obtain ⟨ad101, e101, hx101_0⟩ := Kd.at_int HR0.out x8_1 p101 q101; cases e101; replace p101 := eq_true p101; replace q101 := eq_true q101; go_wp2
       go_ret
       exact ⟨qc, qh⟩
      ·rw [if_neg c6] at H
       have c6b0 : (a1 == (rd l0 x8_1)) = false := beq_eq_false_iff_ne.mpr c6; have c6b1 : (a1 != (rd l0 x8_1)) = true := bne_iff_ne.mpr c6; have H' := J H; clear H; have p101 : 0 ≤ (x8_1 : Int) := of_decide_eq_true qd
       have q101 : x8_1 < (l0.length : Int) := of_decide_eq_true qd
       obtain ⟨ad101, e101, hx101_0⟩ := Kd.at_int HR0.out x8_1 p101 q101; cases e101; replace p101 := eq_true p101; replace q101 := eq_true q101; go_wp2
       go_roundg k1
       case measure => have := HK1.out; omega
       case rel => exact ⟨(wrap64 (x8_1 + 1)), qc, H', ⟨qx⟩, qh⟩
     ·rw [if_neg c5] at H
      exact absurd H qf
    ·rw [if_neg c4] at H
     exact absurd H qf
   ·rw [if_neg c3] at H
    have c3b0 : decide (x8_1 < (l0.length : Int)) = false := decide_eq_false c3; clear c3; obtain rfl := Option.some.inj H; go_wp2
    go_ret
    exact ⟨qc, qh⟩
def zbs.f (k : Nat) (l0 : List Int) (a1 : Int) : Option (Bool) := (zaT.f k l0 a1).bind fun t102 => (some (decide (t102 ≥ 0)))
theorem zbs.calls (k : Nat) (A0 : Option Addr) (c0 : Nat) (l0 : List Int) (a1 : Int) (r : Bool) (w : World) (hr0 : Kd.C (Kd.int .u8) w A0 l0.length l0) (hc0 : l0.length ≤ c0) (h : zbs.f k l0 a1 = some r) :
  Calls Try.prog 80 #[.slice A0 l0.length c0, .int .u8 a1] w fun e w' => e = .returned (.bool r) ∧ zat w w' := by
 have HR0 := J hr0; have HC0 := J hc0; clear hr0 hc0; have H : ((zaT.f k l0 a1).bind fun t102 => (some (decide (t102 ≥ 0)))) = some r := h
 clear h; replace H := Option.bind_eq_some_iff.mp H; obtain ⟨t102, A30, H⟩ := H; replace H : (some (decide (t102 ≥ 0))) = some r := H; have A3 := J A30; clear A30; obtain rfl := Option.some.inj H; go_enter Try.func80, Try.ntmps80
 go_wp2_with (first | ((with_reducible refine zaK (f := 83) rfl ?_); refine zbc (some 7) rfl rfl Try.func83 qb rfl #[.slice A0 l0.length c0, .int .u8 a1] rfl qi ?_; (with_reducible refine (zaT.calls k _ _ l0 a1 t102 _ ?side1 ?side2 A3.out).mono ?_); (case side1 => repeat (first | exact HR0.out | (with_reducible refine Kd.C_alloc ?_ _) | (with_reducible refine Kd.C_drewN ?_ _) | (with_reducible refine Kd.C_drew ?_))); (case side2 => exact HC0.out); rintro e w' ⟨rfl, ⟨nd, rfl⟩⟩; refine ⟨_, rfl, ?_⟩))
 go_ret
 exact ⟨qc, qh⟩
def zaP.f (a0 : Int) : Option (Bool) := if a0 ≥ 1 then (if a0 ≤ 17 then (some true) else (if a0 ≥ 20 then (some (decide (a0 ≤ 40))) else (some false))) else (if a0 ≥ 20 then (some (decide (a0 ≤ 40))) else (some false))
theorem zaP.calls (a0 : Int) (r : Bool) (w : World) (h : zaP.f a0 = some r) :
  Calls Try.prog 20 #[.int .u8 a0] w fun e w' => e = .returned (.bool r) ∧ zat w w' := by
 have H : (if a0 ≥ 1 then (if a0 ≤ 17 then (some true) else (if a0 ≥ 20 then (some (decide (a0 ≤ 40))) else (some false))) else (if a0 ≥ 20 then (some (decide (a0 ≤ 40))) else (some false))) = some r := h
 clear h; by_cases c2 : a0 ≥ 1
 ·rw [if_pos c2] at H
  have c2b0 : decide (1 ≤ a0) = true := decide_eq_true c2; clear c2; by_cases c3 : a0 ≤ 17
  ·rw [if_pos c3] at H
   have c3b0 : decide (a0 ≤ 17) = true := decide_eq_true c3; clear c3; obtain rfl := Option.some.inj H; go_enter Try.func20, Try.ntmps20
   go_wp2
   go_ret
   exact ⟨qc, qh⟩
  ·rw [if_neg c3] at H
   have c3b0 : decide (a0 ≤ 17) = false := decide_eq_false c3; clear c3; by_cases c4 : a0 ≥ 20
   ·rw [if_pos c4] at H
    have c4b0 : decide (20 ≤ a0) = true := decide_eq_true c4; clear c4; obtain rfl := Option.some.inj H; go_enter Try.func20, Try.ntmps20
    go_wp2
    go_ret
    exact ⟨qc, qh⟩
   ·rw [if_neg c4] at H
    have c4b0 : decide (20 ≤ a0) = false := decide_eq_false c4; clear c4; obtain rfl := Option.some.inj H; go_enter Try.func20, Try.ntmps20
    go_wp2
    go_ret
    exact ⟨qc, qh⟩
 ·rw [if_neg c2] at H
  have c2b0 : decide (1 ≤ a0) = false := decide_eq_false c2; clear c2; by_cases c5 : a0 ≥ 20
  ·rw [if_pos c5] at H
   have c5b0 : decide (20 ≤ a0) = true := decide_eq_true c5; clear c5; obtain rfl := Option.some.inj H; go_enter Try.func20, Try.ntmps20
   go_wp2
   go_ret
   exact ⟨qc, qh⟩
  ·rw [if_neg c5] at H
   have c5b0 : decide (20 ≤ a0) = false := decide_eq_false c5; clear c5; obtain rfl := Option.some.inj H; go_enter Try.func20, Try.ntmps20
   go_wp2
   go_ret
   exact ⟨qc, qh⟩
def zaW.f (a0 : Int) : Option (Bool) := if a0 = 1 then (some false) else (if a0 = 2 then (some false) else (if a0 = 3 then (some false) else (if a0 = 4 then (some false) else (if a0 = 5 then (some false) else (if a0 = 9 then (some false) else ((zaP.f a0).bind fun t150 => (some t150)))))))
theorem zaW.calls (a0 : Int) (r : Bool) (w : World) (h : zaW.f a0 = some r) :
  Calls Try.prog 71 #[.int .u8 a0] w fun e w' => e = .returned (.bool r) ∧ zat w w' := by
 have H : (if a0 = 1 then (some false) else (if a0 = 2 then (some false) else (if a0 = 3 then (some false) else (if a0 = 4 then (some false) else (if a0 = 5 then (some false) else (if a0 = 9 then (some false) else ((zaP.f a0).bind fun t150 => (some t150)))))))) = some r := h
 clear h; by_cases c2 : a0 = 1
 ·rw [if_pos c2] at H
  have c2b0 : (a0 == 1) = true := beq_iff_eq.mpr c2; have c2b1 : (a0 != 1) = false := bne_eq_false_iff_eq.mpr c2; clear c2; obtain rfl := Option.some.inj H; go_enter Try.func71, Try.ntmps71
  go_wp2
  go_ret
  exact ⟨qc, qh⟩
 ·rw [if_neg c2] at H
  have c2b0 : (a0 == 1) = false := beq_eq_false_iff_ne.mpr c2; have c2b1 : (a0 != 1) = true := bne_iff_ne.mpr c2; by_cases c3 : a0 = 2
  ·rw [if_pos c3] at H
   have c3b0 : (a0 == 2) = true := beq_iff_eq.mpr c3; have c3b1 : (a0 != 2) = false := bne_eq_false_iff_eq.mpr c3; clear c3; obtain rfl := Option.some.inj H; go_enter Try.func71, Try.ntmps71
   go_wp2
   go_ret
   exact ⟨qc, qh⟩
  ·rw [if_neg c3] at H
   have c3b0 : (a0 == 2) = false := beq_eq_false_iff_ne.mpr c3; have c3b1 : (a0 != 2) = true := bne_iff_ne.mpr c3; by_cases c4 : a0 = 3
   ·rw [if_pos c4] at H
    have c4b0 : (a0 == 3) = true := beq_iff_eq.mpr c4; have c4b1 : (a0 != 3) = false := bne_eq_false_iff_eq.mpr c4; clear c4; obtain rfl := Option.some.inj H; go_enter Try.func71, Try.ntmps71
    go_wp2
    go_ret
    exact ⟨qc, qh⟩
   ·rw [if_neg c4] at H
    have c4b0 : (a0 == 3) = false := beq_eq_false_iff_ne.mpr c4; have c4b1 : (a0 != 3) = true := bne_iff_ne.mpr c4; by_cases c5 : a0 = 4
    ·rw [if_pos c5] at H
     have c5b0 : (a0 == 4) = true := beq_iff_eq.mpr c5; have c5b1 : (a0 != 4) = false := bne_eq_false_iff_eq.mpr c5; clear c5; obtain rfl := Option.some.inj H; go_enter Try.func71, Try.ntmps71
     go_wp2
     go_ret
     exact ⟨qc, qh⟩
    ·rw [if_neg c5] at H
     have c5b0 : (a0 == 4) = false := beq_eq_false_iff_ne.mpr c5; have c5b1 : (a0 != 4) = true := bne_iff_ne.mpr c5; by_cases c6 : a0 = 5
     ·rw [if_pos c6] at H
      have c6b0 : (a0 == 5) = true := beq_iff_eq.mpr c6; have c6b1 : (a0 != 5) = false := bne_eq_false_iff_eq.mpr c6; clear c6; obtain rfl := Option.some.inj H; go_enter Try.func71, Try.ntmps71
      go_wp2
      go_ret
      exact ⟨qc, qh⟩
     ·rw [if_neg c6] at H
      have c6b0 : (a0 == 5) = false := beq_eq_false_iff_ne.mpr c6; have c6b1 : (a0 != 5) = true := bne_iff_ne.mpr c6; by_cases c7 : a0 = 9
      ·rw [if_pos c7] at H
       have c7b0 : (a0 == 9) = true := beq_iff_eq.mpr c7; have c7b1 : (a0 != 9) = false := bne_eq_false_iff_eq.mpr c7; clear c7; obtain rfl := Option.some.inj H; go_enter Try.func71, Try.ntmps71
       go_wp2
       go_ret
       exact ⟨qc, qh⟩
      ·rw [if_neg c7] at H
       have c7b0 : (a0 == 9) = false := beq_eq_false_iff_ne.mpr c7; have c7b1 : (a0 != 9) = true := bne_iff_ne.mpr c7; replace H := Option.bind_eq_some_iff.mp H; obtain ⟨t150, A80, H⟩ := H; replace H : (some t150) = some r := H; have A8 := J A80; clear A80; obtain rfl := Option.some.inj H; go_enter Try.func71, Try.ntmps71
       go_wp2_with (first | ((with_reducible refine zaK (f := 20) rfl ?_); refine zbc (some 12) rfl rfl Try.func20 qb rfl #[.int .u8 a0] rfl qi ?_; (with_reducible refine (zaP.calls a0 t150 _ A8.out).mono ?_); rintro e w' ⟨rfl, ⟨nd, rfl⟩⟩; refine ⟨_, rfl, ?_⟩))
       go_ret
       exact ⟨qc, qh⟩
def zbt.f (a0_0 : Int) (a0_1 : Int) (a0_2 : Int) (l0_3 : List (S24)) : Option (Bool) := if (l0_3.length : Int) > 0 then (some false) else (if a0_0 = 50 then (if a0_2 = 0 then ((zaW.f a0_1).bind fun t152 => (if t152 = true then (some true) else (if a0_1 = 60 then (some true) else (some (a0_1 == 52))))) else (some false)) else ((zaP.f a0_0).bind fun t153 => (if t153 = true then (if a0_2 ≥ 1 then (if a0_2 ≤ 1099511627776 then (some (a0_1 == 0)) else (some false)) else (some false)) else (some false))))
theorem zbt.calls (a0_0 : Int) (a0_1 : Int) (a0_2 : Int) (A0_3 : Option Addr) (c0_3 : Nat) (l0_3 : List (S24)) (r : Bool) (w : World) (hr0_3 : Kd.C k24 w A0_3 l0_3.length l0_3) (hc0_3 : l0_3.length ≤ c0_3) (h : zbt.f a0_0 a0_1 a0_2 l0_3 = some r) :
  Calls Try.prog 76 #[.agg #[.int .u8 a0_0, .int .u8 a0_1, .int .i64 a0_2, .slice A0_3 l0_3.length c0_3]] w fun e w' => e = .returned (.bool r) ∧ Below w.heap.size w w' := by
 have hu24 := Try.underlying24; have HR0_3 := J hr0_3; have HC0_3 := J hc0_3; clear hr0_3 hc0_3; have HB := J (Below.refl w.heap.size w); have H : (if (l0_3.length : Int) > 0 then (some false) else (if a0_0 = 50 then (if a0_2 = 0 then ((zaW.f a0_1).bind fun t152 => (if t152 = true then (some true) else (if a0_1 = 60 then (some true) else (some (a0_1 == 52))))) else (some false)) else ((zaP.f a0_0).bind fun t153 => (if t153 = true then (if a0_2 ≥ 1 then (if a0_2 ≤ 1099511627776 then (some (a0_1 == 0)) else (some false)) else (some false)) else (some false))))) = some r := h
 clear h; by_cases c2 : (l0_3.length : Int) > 0
 ·rw [if_pos c2] at H
  have c2b0 : decide (0 < (l0_3.length : Int)) = true := decide_eq_true c2; have c2b1 : decide (0 < l0_3.length) = true := decide_eq_true q9
  clear c2; obtain rfl := Option.some.inj H; go_enter Try.func76, Try.ntmps76
  go_wp2_with (first | ((with_reducible refine za2 (N := 1) rfl ?_); refine zbd ?hg (N := 1) ?hd (cs := #[.int .u8 a0_0, .int .u8 a0_1, .int .i64 a0_2, .slice A0_3 l0_3.length c0_3]) (t := 24) ?hr ?_; (case hd => rfl); (case hg => rfl); (case hr => first | (go_simp; done) | (go_simp; rfl)); intro gb151 hg w3 hbox hb; have n0_ := J (zak qa hb); have n1_ := J (hbox); have n2_ := J ((by rw [hg]; exact (zav qa) : w.heap.size ≤ gb151)); have n3_ := J ((by rw [hg]; exact (zav qa) : w.heap.size ≤ gb151)); clear HB; have HB := n0_; have BK151 := n1_; have GW151 := n2_; have GE151 := n3_; clear n0_ n1_ n2_ n3_; clear hb hbox hg; have hcz4_0 : w3.cell? ⟨gb151, 0, none⟩ = some (.int .u8 a0_0) := (zaf BK151.out 0).trans rfl; have hcz4_1 : w3.cell? ⟨gb151, 1, none⟩ = some (.int .u8 a0_1) := (zaf BK151.out 1).trans rfl; have hcz4_2 : w3.cell? ⟨gb151, 2, none⟩ = some (.int .i64 a0_2) := (zaf BK151.out 2).trans rfl; have hcz4_3 : w3.cell? ⟨gb151, 3, none⟩ = some (.slice A0_3 l0_3.length c0_3) := (zaf BK151.out 3).trans rfl; have hfz4_0 := zab BK151.out 0; have hfz4_1 := zab BK151.out 1; have hfz4_2 := zab BK151.out 2; have hfz4_3 := zab BK151.out 3))
  go_ret
  exact ⟨qg, qU⟩
 ·rw [if_neg c2] at H
  have c2b0 : decide (0 < (l0_3.length : Int)) = false := decide_eq_false c2; have c2b1 : decide (0 < l0_3.length) = false := decide_eq_false q9
  clear c2; by_cases c5 : a0_0 = 50
  ·rw [if_pos c5] at H
   have c5b0 : (a0_0 == 50) = true := beq_iff_eq.mpr c5; have c5b1 : (a0_0 != 50) = false := bne_eq_false_iff_eq.mpr c5; clear c5; by_cases c6 : a0_2 = 0
   ·rw [if_pos c6] at H
    have c6b0 : (a0_2 == 0) = true := beq_iff_eq.mpr c6; have c6b1 : (a0_2 != 0) = false := bne_eq_false_iff_eq.mpr c6; clear c6; replace H := Option.bind_eq_some_iff.mp H; obtain ⟨t152, A70, H⟩ := H; replace H : (if t152 = true then (some true) else (if a0_1 = 60 then (some true) else (some (a0_1 == 52)))) = some r := H
    have A7 := J A70; clear A70; by_cases c8 : t152 = true
    ·subst c8
     have H1 : (some true) = some r := by rw [if_pos rfl] at H; exact H
     clear H; have H := H1; clear H1; obtain rfl := Option.some.inj H; go_enter Try.func76, Try.ntmps76
     go_wp2_with (first | ((with_reducible refine za2 (N := 1) rfl ?_); refine zbd ?hg (N := 1) ?hd (cs := #[.int .u8 a0_0, .int .u8 a0_1, .int .i64 a0_2, .slice A0_3 l0_3.length c0_3]) (t := 24) ?hr ?_; (case hd => rfl); (case hg => rfl); (case hr => first | (go_simp; done) | (go_simp; rfl)); intro gb151 hg w9 hbox hb; have n0_ := J (zak qa hb); have n1_ := J (hbox); have n2_ := J ((by rw [hg]; exact (zav qa) : w.heap.size ≤ gb151)); have n3_ := J ((by rw [hg]; exact (zav qa) : w.heap.size ≤ gb151)); clear HB; have HB := n0_; have BK151 := n1_; have GW151 := n2_; have GE151 := n3_; clear n0_ n1_ n2_ n3_; clear hb hbox hg; have hcz10_0 : w9.cell? ⟨gb151, 0, none⟩ = some (.int .u8 a0_0) := (zaf BK151.out 0).trans rfl; have hcz10_1 : w9.cell? ⟨gb151, 1, none⟩ = some (.int .u8 a0_1) := (zaf BK151.out 1).trans rfl; have hcz10_2 : w9.cell? ⟨gb151, 2, none⟩ = some (.int .i64 a0_2) := (zaf BK151.out 2).trans rfl; have hcz10_3 : w9.cell? ⟨gb151, 3, none⟩ = some (.slice A0_3 l0_3.length c0_3) := (zaf BK151.out 3).trans rfl; have hfz10_0 := zab BK151.out 0; have hfz10_1 := zab BK151.out 1; have hfz10_2 := zab BK151.out 2; have hfz10_3 := zab BK151.out 3) | (go_at_call 71; (with_reducible refine (zaW.calls a0_1 true _ A7.out).mono ?_); rintro e w' ⟨rfl, ⟨nd, rfl⟩⟩))
     go_ret
     exact ⟨qg, qU⟩
    ·replace c8 := Bool.eq_false_iff.mpr c8
     subst c8; have H1 : (if a0_1 = 60 then (some true) else (some (a0_1 == 52))) = some r := by rw [if_neg (show ¬ (false = true) by decide)] at H; exact H
     clear H; have H := H1; clear H1; by_cases c11 : a0_1 = 60
     ·rw [if_pos c11] at H
      have c11b0 : (a0_1 == 60) = true := beq_iff_eq.mpr c11; have c11b1 : (a0_1 != 60) = false := bne_eq_false_iff_eq.mpr c11; clear c11; obtain rfl := Option.some.inj H; go_enter Try.func76, Try.ntmps76
      go_wp2_with (first | ((with_reducible refine za2 (N := 1) rfl ?_); refine zbd ?hg (N := 1) ?hd (cs := #[.int .u8 a0_0, .int .u8 a0_1, .int .i64 a0_2, .slice A0_3 l0_3.length c0_3]) (t := 24) ?hr ?_; (case hd => rfl); (case hg => rfl); (case hr => first | (go_simp; done) | (go_simp; rfl)); intro gb151 hg w12 hbox hb; have n0_ := J (zak qa hb); have n1_ := J (hbox); have n2_ := J ((by rw [hg]; exact (zav qa) : w.heap.size ≤ gb151)); have n3_ := J ((by rw [hg]; exact (zav qa) : w.heap.size ≤ gb151)); clear HB; have HB := n0_; have BK151 := n1_; have GW151 := n2_; have GE151 := n3_; clear n0_ n1_ n2_ n3_; clear hb hbox hg; have hcz13_0 : w12.cell? ⟨gb151, 0, none⟩ = some (.int .u8 a0_0) := (zaf BK151.out 0).trans rfl; have hcz13_1 : w12.cell? ⟨gb151, 1, none⟩ = some (.int .u8 a0_1) := (zaf BK151.out 1).trans rfl; have hcz13_2 : w12.cell? ⟨gb151, 2, none⟩ = some (.int .i64 a0_2) := (zaf BK151.out 2).trans rfl; have hcz13_3 : w12.cell? ⟨gb151, 3, none⟩ = some (.slice A0_3 l0_3.length c0_3) := (zaf BK151.out 3).trans rfl; have hfz13_0 := zab BK151.out 0; have hfz13_1 := zab BK151.out 1; have hfz13_2 := zab BK151.out 2; have hfz13_3 := zab BK151.out 3) | (go_at_call 71; (with_reducible refine (zaW.calls a0_1 false _ A7.out).mono ?_); rintro e w' ⟨rfl, ⟨nd, rfl⟩⟩))
      go_ret
      exact ⟨qg, qU⟩
     ·rw [if_neg c11] at H
      have c11b0 : (a0_1 == 60) = false := beq_eq_false_iff_ne.mpr c11; have c11b1 : (a0_1 != 60) = true := bne_iff_ne.mpr c11; obtain rfl := Option.some.inj H; go_enter Try.func76, Try.ntmps76
      go_wp2_with (first | ((with_reducible refine za2 (N := 1) rfl ?_); refine zbd ?hg (N := 1) ?hd (cs := #[.int .u8 a0_0, .int .u8 a0_1, .int .i64 a0_2, .slice A0_3 l0_3.length c0_3]) (t := 24) ?hr ?_; (case hd => rfl); (case hg => rfl); (case hr => first | (go_simp; done) | (go_simp; rfl)); intro gb151 hg w14 hbox hb; have n0_ := J (zak qa hb); have n1_ := J (hbox); have n2_ := J ((by rw [hg]; exact (zav qa) : w.heap.size ≤ gb151)); have n3_ := J ((by rw [hg]; exact (zav qa) : w.heap.size ≤ gb151)); clear HB; have HB := n0_; have BK151 := n1_; have GW151 := n2_; have GE151 := n3_; clear n0_ n1_ n2_ n3_; clear hb hbox hg; have hcz15_0 : w14.cell? ⟨gb151, 0, none⟩ = some (.int .u8 a0_0) := (zaf BK151.out 0).trans rfl; have hcz15_1 : w14.cell? ⟨gb151, 1, none⟩ = some (.int .u8 a0_1) := (zaf BK151.out 1).trans rfl; have hcz15_2 : w14.cell? ⟨gb151, 2, none⟩ = some (.int .i64 a0_2) := (zaf BK151.out 2).trans rfl; have hcz15_3 : w14.cell? ⟨gb151, 3, none⟩ = some (.slice A0_3 l0_3.length c0_3) := (zaf BK151.out 3).trans rfl; have hfz15_0 := zab BK151.out 0; have hfz15_1 := zab BK151.out 1; have hfz15_2 := zab BK151.out 2; have hfz15_3 := zab BK151.out 3) | (go_at_call 71; (with_reducible refine (zaW.calls a0_1 false _ A7.out).mono ?_); rintro e w' ⟨rfl, ⟨nd, rfl⟩⟩))
      go_ret
      exact ⟨qg, qU⟩
   ·rw [if_neg c6] at H
    have c6b0 : (a0_2 == 0) = false := beq_eq_false_iff_ne.mpr c6; have c6b1 : (a0_2 != 0) = true := bne_iff_ne.mpr c6; obtain rfl := Option.some.inj H; go_enter Try.func76, Try.ntmps76
    go_wp2_with (first | ((with_reducible refine za2 (N := 1) rfl ?_); refine zbd ?hg (N := 1) ?hd (cs := #[.int .u8 a0_0, .int .u8 a0_1, .int .i64 a0_2, .slice A0_3 l0_3.length c0_3]) (t := 24) ?hr ?_; (case hd => rfl); (case hg => rfl); (case hr => first | (go_simp; done) | (go_simp; rfl)); intro gb151 hg w16 hbox hb; have n0_ := J (zak qa hb); have n1_ := J (hbox); have n2_ := J ((by rw [hg]; exact (zav qa) : w.heap.size ≤ gb151)); have n3_ := J ((by rw [hg]; exact (zav qa) : w.heap.size ≤ gb151)); clear HB; have HB := n0_; have BK151 := n1_; have GW151 := n2_; have GE151 := n3_; clear n0_ n1_ n2_ n3_; clear hb hbox hg; have hcz17_0 : w16.cell? ⟨gb151, 0, none⟩ = some (.int .u8 a0_0) := (zaf BK151.out 0).trans rfl; have hcz17_1 : w16.cell? ⟨gb151, 1, none⟩ = some (.int .u8 a0_1) := (zaf BK151.out 1).trans rfl; have hcz17_2 : w16.cell? ⟨gb151, 2, none⟩ = some (.int .i64 a0_2) := (zaf BK151.out 2).trans rfl; have hcz17_3 : w16.cell? ⟨gb151, 3, none⟩ = some (.slice A0_3 l0_3.length c0_3) := (zaf BK151.out 3).trans rfl; have hfz17_0 := zab BK151.out 0; have hfz17_1 := zab BK151.out 1; have hfz17_2 := zab BK151.out 2; have hfz17_3 := zab BK151.out 3))
    go_ret
    exact ⟨qg, qU⟩
  ·rw [if_neg c5] at H
   have c5b0 : (a0_0 == 50) = false := beq_eq_false_iff_ne.mpr c5; have c5b1 : (a0_0 != 50) = true := bne_iff_ne.mpr c5; replace H := Option.bind_eq_some_iff.mp H; obtain ⟨t153, A180, H⟩ := H; replace H : (if t153 = true then (if a0_2 ≥ 1 then (if a0_2 ≤ 1099511627776 then (some (a0_1 == 0)) else (some false)) else (some false)) else (some false)) = some r := H
   have A18 := J A180; clear A180; by_cases c19 : t153 = true
   ·subst c19
    have H1 : (if a0_2 ≥ 1 then (if a0_2 ≤ 1099511627776 then (some (a0_1 == 0)) else (some false)) else (some false)) = some r := by rw [if_pos rfl] at H; exact H
    clear H; have H := H1; clear H1; by_cases c20 : a0_2 ≥ 1
    ·rw [if_pos c20] at H
     have c20b0 : decide (1 ≤ a0_2) = true := decide_eq_true c20; clear c20; by_cases c21 : a0_2 ≤ 1099511627776
     ·rw [if_pos c21] at H
      have c21b0 : decide (a0_2 ≤ 1099511627776) = true := decide_eq_true c21; clear c21; obtain rfl := Option.some.inj H; go_enter Try.func76, Try.ntmps76
      go_wp2_with (first | ((with_reducible refine za2 (N := 1) rfl ?_); refine zbd ?hg (N := 1) ?hd (cs := #[.int .u8 a0_0, .int .u8 a0_1, .int .i64 a0_2, .slice A0_3 l0_3.length c0_3]) (t := 24) ?hr ?_; (case hd => rfl); (case hg => rfl); (case hr => first | (go_simp; done) | (go_simp; rfl)); intro gb151 hg w22 hbox hb; have n0_ := J (zak qa hb); have n1_ := J (hbox); have n2_ := J ((by rw [hg]; exact (zav qa) : w.heap.size ≤ gb151)); have n3_ := J ((by rw [hg]; exact (zav qa) : w.heap.size ≤ gb151)); clear HB; have HB := n0_; have BK151 := n1_; have GW151 := n2_; have GE151 := n3_; clear n0_ n1_ n2_ n3_; clear hb hbox hg; have hcz23_0 : w22.cell? ⟨gb151, 0, none⟩ = some (.int .u8 a0_0) := (zaf BK151.out 0).trans rfl; have hcz23_1 : w22.cell? ⟨gb151, 1, none⟩ = some (.int .u8 a0_1) := (zaf BK151.out 1).trans rfl; have hcz23_2 : w22.cell? ⟨gb151, 2, none⟩ = some (.int .i64 a0_2) := (zaf BK151.out 2).trans rfl; have hcz23_3 : w22.cell? ⟨gb151, 3, none⟩ = some (.slice A0_3 l0_3.length c0_3) := (zaf BK151.out 3).trans rfl; have hfz23_0 := zab BK151.out 0; have hfz23_1 := zab BK151.out 1; have hfz23_2 := zab BK151.out 2; have hfz23_3 := zab BK151.out 3) | ((with_reducible refine zaK (f := 20) rfl ?_); refine zbc (some 30) rfl rfl Try.func20 qb rfl #[.int .u8 a0_0] rfl qi ?_; (with_reducible refine (zaP.calls a0_0 true _ A18.out).mono ?_); rintro e w' ⟨rfl, ⟨nd, rfl⟩⟩; refine ⟨_, rfl, ?_⟩))
      go_ret
      exact ⟨qg, qU⟩
     ·rw [if_neg c21] at H
      have c21b0 : decide (a0_2 ≤ 1099511627776) = false := decide_eq_false c21; clear c21; obtain rfl := Option.some.inj H; go_enter Try.func76, Try.ntmps76
      go_wp2_with (first | ((with_reducible refine za2 (N := 1) rfl ?_); refine zbd ?hg (N := 1) ?hd (cs := #[.int .u8 a0_0, .int .u8 a0_1, .int .i64 a0_2, .slice A0_3 l0_3.length c0_3]) (t := 24) ?hr ?_; (case hd => rfl); (case hg => rfl); (case hr => first | (go_simp; done) | (go_simp; rfl)); intro gb151 hg w24 hbox hb; have n0_ := J (zak qa hb); have n1_ := J (hbox); have n2_ := J ((by rw [hg]; exact (zav qa) : w.heap.size ≤ gb151)); have n3_ := J ((by rw [hg]; exact (zav qa) : w.heap.size ≤ gb151)); clear HB; have HB := n0_; have BK151 := n1_; have GW151 := n2_; have GE151 := n3_; clear n0_ n1_ n2_ n3_; clear hb hbox hg; have hcz25_0 : w24.cell? ⟨gb151, 0, none⟩ = some (.int .u8 a0_0) := (zaf BK151.out 0).trans rfl; have hcz25_1 : w24.cell? ⟨gb151, 1, none⟩ = some (.int .u8 a0_1) := (zaf BK151.out 1).trans rfl; have hcz25_2 : w24.cell? ⟨gb151, 2, none⟩ = some (.int .i64 a0_2) := (zaf BK151.out 2).trans rfl; have hcz25_3 : w24.cell? ⟨gb151, 3, none⟩ = some (.slice A0_3 l0_3.length c0_3) := (zaf BK151.out 3).trans rfl; have hfz25_0 := zab BK151.out 0; have hfz25_1 := zab BK151.out 1; have hfz25_2 := zab BK151.out 2; have hfz25_3 := zab BK151.out 3) | ((with_reducible refine zaK (f := 20) rfl ?_); refine zbc (some 30) rfl rfl Try.func20 qb rfl #[.int .u8 a0_0] rfl qi ?_; (with_reducible refine (zaP.calls a0_0 true _ A18.out).mono ?_); rintro e w' ⟨rfl, ⟨nd, rfl⟩⟩; refine ⟨_, rfl, ?_⟩))
      go_ret
      exact ⟨qg, qU⟩
    ·rw [if_neg c20] at H
     have c20b0 : decide (1 ≤ a0_2) = false := decide_eq_false c20; clear c20; obtain rfl := Option.some.inj H; go_enter Try.func76, Try.ntmps76
     go_wp2_with (first | ((with_reducible refine za2 (N := 1) rfl ?_); refine zbd ?hg (N := 1) ?hd (cs := #[.int .u8 a0_0, .int .u8 a0_1, .int .i64 a0_2, .slice A0_3 l0_3.length c0_3]) (t := 24) ?hr ?_; (case hd => rfl); (case hg => rfl); (case hr => first | (go_simp; done) | (go_simp; rfl)); intro gb151 hg w26 hbox hb; have n0_ := J (zak qa hb); have n1_ := J (hbox); have n2_ := J ((by rw [hg]; exact (zav qa) : w.heap.size ≤ gb151)); have n3_ := J ((by rw [hg]; exact (zav qa) : w.heap.size ≤ gb151)); clear HB; have HB := n0_; have BK151 := n1_; have GW151 := n2_; have GE151 := n3_; clear n0_ n1_ n2_ n3_; clear hb hbox hg; have hcz27_0 : w26.cell? ⟨gb151, 0, none⟩ = some (.int .u8 a0_0) := (zaf BK151.out 0).trans rfl; have hcz27_1 : w26.cell? ⟨gb151, 1, none⟩ = some (.int .u8 a0_1) := (zaf BK151.out 1).trans rfl; have hcz27_2 : w26.cell? ⟨gb151, 2, none⟩ = some (.int .i64 a0_2) := (zaf BK151.out 2).trans rfl; have hcz27_3 : w26.cell? ⟨gb151, 3, none⟩ = some (.slice A0_3 l0_3.length c0_3) := (zaf BK151.out 3).trans rfl; have hfz27_0 := zab BK151.out 0; have hfz27_1 := zab BK151.out 1; have hfz27_2 := zab BK151.out 2; have hfz27_3 := zab BK151.out 3) | ((with_reducible refine zaK (f := 20) rfl ?_); refine zbc (some 30) rfl rfl Try.func20 qb rfl #[.int .u8 a0_0] rfl qi ?_; (with_reducible refine (zaP.calls a0_0 true _ A18.out).mono ?_); rintro e w' ⟨rfl, ⟨nd, rfl⟩⟩; refine ⟨_, rfl, ?_⟩))
     go_ret
     exact ⟨qg, qU⟩
   ·replace c19 := Bool.eq_false_iff.mpr c19
    subst c19; have H1 : (some false) = some r := by rw [if_neg (show ¬ (false = true) by decide)] at H; exact H
    clear H; have H := H1; clear H1; obtain rfl := Option.some.inj H; go_enter Try.func76, Try.ntmps76
    go_wp2_with (first | ((with_reducible refine za2 (N := 1) rfl ?_); refine zbd ?hg (N := 1) ?hd (cs := #[.int .u8 a0_0, .int .u8 a0_1, .int .i64 a0_2, .slice A0_3 l0_3.length c0_3]) (t := 24) ?hr ?_; (case hd => rfl); (case hg => rfl); (case hr => first | (go_simp; done) | (go_simp; rfl)); intro gb151 hg w28 hbox hb; have n0_ := J (zak qa hb); have n1_ := J (hbox); have n2_ := J ((by rw [hg]; exact (zav qa) : w.heap.size ≤ gb151)); have n3_ := J ((by rw [hg]; exact (zav qa) : w.heap.size ≤ gb151)); clear HB; have HB := n0_; have BK151 := n1_; have GW151 := n2_; have GE151 := n3_; clear n0_ n1_ n2_ n3_; clear hb hbox hg; have hcz29_0 : w28.cell? ⟨gb151, 0, none⟩ = some (.int .u8 a0_0) := (zaf BK151.out 0).trans rfl; have hcz29_1 : w28.cell? ⟨gb151, 1, none⟩ = some (.int .u8 a0_1) := (zaf BK151.out 1).trans rfl; have hcz29_2 : w28.cell? ⟨gb151, 2, none⟩ = some (.int .i64 a0_2) := (zaf BK151.out 2).trans rfl; have hcz29_3 : w28.cell? ⟨gb151, 3, none⟩ = some (.slice A0_3 l0_3.length c0_3) := (zaf BK151.out 3).trans rfl; have hfz29_0 := zab BK151.out 0; have hfz29_1 := zab BK151.out 1; have hfz29_2 := zab BK151.out 2; have hfz29_3 := zab BK151.out 3) | ((with_reducible refine zaK (f := 20) rfl ?_); refine zbc (some 30) rfl rfl Try.func20 qb rfl #[.int .u8 a0_0] rfl qi ?_; (with_reducible refine (zaP.calls a0_0 false _ A18.out).mono ?_); rintro e w' ⟨rfl, ⟨nd, rfl⟩⟩; refine ⟨_, rfl, ?_⟩))
    go_ret
    exact ⟨qg, qU⟩
mutual
def zaj.j0 : Nat → Int → Int → Bool → Int → Int → Int → List (S24) → Option (Int)
 | 0, _, _, _, _, _, _, _ => none
 | k + 1, x1, x2, x16, x155000, x155001, x155002, x155003 => if x16 = true then (some 0) else (if x155000 < 51 then (zaj.j1 k x1 x2 true x155000 x155001 x155002 x155003) else (zaj.j1 k x1 x2 (decide (x155000 > 68)) x155000 x155001 x155002 x155003))
def zaj.j1 : Nat → Int → Int → Bool → Int → Int → Int → List (S24) → Option (Int)
 | 0, _, _, _, _, _, _, _ => none
 | k + 1, x1, x2, x24, x155000, x155001, x155002, x155003 => if x24 = true then ((zbt.f x155000 x155001 x155002 x155003).bind fun t155 => (if t155 = true then (some 1) else (some 0))) else (if x155001 = 0 then (if x155000 = 51 then (zaj.j2 k x1 x2 (decide (x1 > 1)) x155000 x155001 x155002 x155003) else (zaj.j2 k x1 x2 false x155000 x155001 x155002 x155003)) else (zaj.j2 k x1 x2 true x155000 x155001 x155002 x155003))
def zaj.j2 : Nat → Int → Int → Bool → Int → Int → Int → List (S24) → Option (Int)
 | 0, _, _, _, _, _, _, _ => none
 | k + 1, x1, x2, x38, x155000, x155001, x155002, x155003 => if x38 = true then (some 0) else (zaj.l0 k x1 x2 1 0 0 x155000 x155001 x155002 x155003)
def zaj.l0 : Nat → Int → Int → Int → Int → Int → Int → Int → Int → List (S24) → Option (Int)
 | 0, _, _, _, _, _, _, _, _, _ => none
 | k + 1, x1, x2, x7, x8, x9, x155000, x155001, x155002, x155003 => if x9 < (x155003.length : Int) then (if 0 ≤ x9 then ((zaj.f k ((za6 x155003 x9).f0) ((za6 x155003 x9).f1) ((za6 x155003 x9).f2) ((za6 x155003 x9).f3) (wrap64 (x1 + 1)) (wrap64 (x2 - x7))).bind fun t157 => (if t157 = 0 then (some 0) else (zaj.l0 k x1 x2 (wrap64 (x7 + t157)) (wrap64 (x8 + ((za6 x155003 x9).f2))) (wrap64 (x9 + 1)) x155000 x155001 x155002 x155003))) else (none)) else (if x8 = x155002 then (if x8 > 1099511627776 then (some 0) else (some x7)) else (some 0))
def zaj.f : Nat → Int → Int → Int → List (S24) → Int → Int → Option (Int)
 | 0, _, _, _, _, _, _ => none
 | k + 1, a0_0, a0_1, a0_2, l0_3, a1, a2 => if a1 > 65536 then (zaj.j0 k a1 a2 true a0_0 a0_1 a0_2 l0_3) else (zaj.j0 k a1 a2 (decide (a2 < 1)) a0_0 a0_1 a0_2 l0_3)
end
theorem zaj.calls (k : Nat) : ∀ (a0_0 : Int) (a0_1 : Int) (a0_2 : Int) (A0_3 : Option Addr) (c0_3 : Nat) (l0_3 : List (S24)) (a1 : Int) (a2 : Int) (r : Int) (w : World) (hr0_3 : Kd.C k24 w A0_3 l0_3.length l0_3) (hc0_3 : l0_3.length ≤ c0_3) (h : zaj.f k a0_0 a0_1 a0_2 l0_3 a1 a2 = some r),
  Calls Try.prog 70 #[.agg #[.int .u8 a0_0, .int .u8 a0_1, .int .i64 a0_2, .slice A0_3 l0_3.length c0_3], .int .i64 a1, .int .i64 a2] w fun e w' => e = .returned (.int .i64 r) ∧ Below w.heap.size w w' := by
 induction k using Nat.strongRecOn with
 | _ k ih =>
 intro a0_0 a0_1 a0_2 A0_3 c0_3 l0_3 a1 a2 r w hr0_3 hc0_3 h
 cases k with
 | zero => exact absurd h (by simp [zaj.f])
 | succ k =>
 simp only [zaj.f] at h; have hu24 := Try.underlying24; have HR0_3 := J hr0_3; have HC0_3 := J hc0_3; clear hr0_3 hc0_3; have HB := J (Below.refl w.heap.size w); have H : (if a1 > 65536 then (zaj.j0 k a1 a2 true a0_0 a0_1 a0_2 l0_3) else (zaj.j0 k a1 a2 (decide (a2 < 1)) a0_0 a0_1 a0_2 l0_3)) = some r := h
 clear h; have HC4 := J H; clear H; go_enter Try.func70, Try.ntmps70
 go_upto_region 1 with (first | ((with_reducible refine za2 (N := 3) rfl ?_); refine zbd ?hg (N := 3) ?hd (cs := #[.int .u8 a0_0, .int .u8 a0_1, .int .i64 a0_2, .slice A0_3 l0_3.length c0_3]) (t := 24) ?hr ?_; (case hd => rfl); (case hg => rfl); (case hr => first | (go_simp; done) | (go_simp; rfl)); intro gb154 hg w5 hbox hb; have n0_ := J (zak qa hb); have n1_ := J (hbox); have n2_ := J ((by rw [hg]; exact (zav qa) : w.heap.size ≤ gb154)); have n3_ := J ((by rw [hg]; exact (zav qa) : w.heap.size ≤ gb154)); clear HB; have HB := n0_; have BK154 := n1_; have GW154 := n2_; have GE154 := n3_; clear n0_ n1_ n2_ n3_; clear hb hbox hg))
 (try simp only [Act.put, zai])
 go_cut [16] (fun v16 wc => ∃ (kq : Nat) (x16_3 : Bool), v16 = .bool x16_3 ∧ zaa (zaj.j0 kq a1 a2 x16_3 a0_0 a0_1 a0_2 l0_3 = some r) ∧ zaa (kq ≤ k) ∧ zaa (wc.heap[gb154]? = some (.cells #[.int .u8 a0_0, .int .u8 a0_1, .int .i64 a0_2, (.slice A0_3 l0_3.length c0_3)] 24 (0, 0))) ∧ zaa (Below w.heap.size w wc))
 case first =>
  have H := HC4.out; clear HC4; by_cases c6 : a1 > 65536
  ·rw [if_pos c6] at H
   have c6b0 : decide (65536 < a1) = true := decide_eq_true c6; clear c6
   (first | rw [c6b0] | (simp only [i64_w, i32_w]; rw [c6b0]) | skip)
   have H' := J H; clear H; go_wp2
   go_meet
   case rel => exact ⟨_, (true), qc, H', ⟨qA⟩, ⟨qJ⟩, ⟨qs⟩⟩
  ·rw [if_neg c6] at H
   have c6b0 : decide (65536 < a1) = false := decide_eq_false c6; clear c6
   (first | rw [c6b0] | (simp only [i64_w, i32_w]; rw [c6b0]) | skip)
   have H' := J H; clear H; go_wp2
   go_meet
   case rel => exact ⟨_, (decide (a2 < 1)), qc, H', ⟨qA⟩, ⟨qJ⟩, ⟨qs⟩⟩
 case rest =>
  clear HC4; try clear p2
  try clear c6
  try clear c6b0
  obtain ⟨kq, x16_3, rfl, HA, HJ3, BK154, HB⟩ := hcut; cases kq with
  | zero => exact absurd HA.out (by simp [zaj.j0])
  | succ kj3 =>
   have H := HA.out; clear HA; simp only [zaj.j0] at H; by_cases c7 : x16_3 = true
   ·subst c7
    have H1 : (some 0) = some r := by rw [if_pos rfl] at H; exact H
    clear H; have H := H1; clear H1; obtain rfl := Option.some.inj H; go_wp2
    go_ret
    exact ⟨qg, qs⟩
   ·replace c7 := Bool.eq_false_iff.mpr c7
    subst c7; have H1 : (if a0_0 < 51 then (zaj.j1 kj3 a1 a2 true a0_0 a0_1 a0_2 l0_3) else (zaj.j1 kj3 a1 a2 (decide (a0_0 > 68)) a0_0 a0_1 a0_2 l0_3)) = some r := by rw [if_neg (show ¬ (false = true) by decide)] at H; exact H
    clear H; have H := H1; clear H1; have HC8 := J H; clear H; go_upto_region 3 with (fail)
    go_cut [24] (fun v24 wc => ∃ (kq : Nat) (x24_7 : Bool), v24 = .bool x24_7 ∧ zaa (zaj.j1 kq a1 a2 x24_7 a0_0 a0_1 a0_2 l0_3 = some r) ∧ zaa (kq ≤ kj3) ∧ zaa (wc.heap[gb154]? = some (.cells #[.int .u8 a0_0, .int .u8 a0_1, .int .i64 a0_2, (.slice A0_3 l0_3.length c0_3)] 24 (0, 0))) ∧ zaa (Below w.heap.size w wc))
    case first =>
     have H := HC8.out; clear HC8; by_cases c9 : a0_0 < 51
     ·rw [if_pos c9] at H
      have c9b0 : decide (a0_0 < 51) = true := decide_eq_true c9; clear c9
      (first | rw [c9b0] | (simp only [i64_w, i32_w]; rw [c9b0]) | skip)
      have H' := J H; clear H; have hcz10_0 : wc.cell? ⟨gb154, 0, none⟩ = some (.int .u8 a0_0) := (zaf BK154.out 0).trans rfl; have hcz10_1 : wc.cell? ⟨gb154, 1, none⟩ = some (.int .u8 a0_1) := (zaf BK154.out 1).trans rfl; have hcz10_2 : wc.cell? ⟨gb154, 2, none⟩ = some (.int .i64 a0_2) := (zaf BK154.out 2).trans rfl; have hcz10_3 : wc.cell? ⟨gb154, 3, none⟩ = some (.slice A0_3 l0_3.length c0_3) := (zaf BK154.out 3).trans rfl; have hfz10_0 := zab BK154.out 0; have hfz10_1 := zab BK154.out 1; have hfz10_2 := zab BK154.out 2; have hfz10_3 := zab BK154.out 3; go_wp2
      go_meet
      case rel => exact ⟨_, (true), qc, H', ⟨by have := HJ3.out; first | omega | exact Nat.le_refl _⟩, ⟨qJ⟩, ⟨qs⟩⟩
     ·rw [if_neg c9] at H
      have c9b0 : decide (a0_0 < 51) = false := decide_eq_false c9; clear c9
      (first | rw [c9b0] | (simp only [i64_w, i32_w]; rw [c9b0]) | skip)
      have H' := J H; clear H; have hcz11_0 : wc.cell? ⟨gb154, 0, none⟩ = some (.int .u8 a0_0) := (zaf BK154.out 0).trans rfl; have hcz11_1 : wc.cell? ⟨gb154, 1, none⟩ = some (.int .u8 a0_1) := (zaf BK154.out 1).trans rfl; have hcz11_2 : wc.cell? ⟨gb154, 2, none⟩ = some (.int .i64 a0_2) := (zaf BK154.out 2).trans rfl; have hcz11_3 : wc.cell? ⟨gb154, 3, none⟩ = some (.slice A0_3 l0_3.length c0_3) := (zaf BK154.out 3).trans rfl; have hfz11_0 := zab BK154.out 0; have hfz11_1 := zab BK154.out 1; have hfz11_2 := zab BK154.out 2; have hfz11_3 := zab BK154.out 3; go_wp2
      go_meet
      case rel => exact ⟨_, (decide (a0_0 > 68)), qc, H', ⟨by have := HJ3.out; first | omega | exact Nat.le_refl _⟩, ⟨qJ⟩, ⟨qs⟩⟩
    case rest =>
     clear HC8; try clear p2
     try clear c6
     try clear c6b0
     try clear c7
     try clear c9
     try clear c9b0
     try clear hcz10_0
     try clear hcz10_1
     try clear hcz10_2
     try clear hcz10_3
     try clear hcz11_0
     try clear hcz11_1
     try clear hcz11_2
     try clear hcz11_3
     try clear hfz10_0
     try clear hfz10_1
     try clear hfz10_2
     try clear hfz10_3
     try clear hfz11_0
     try clear hfz11_1
     try clear hfz11_2
     try clear hfz11_3
     try clear p2
     obtain ⟨kq, x24_7, rfl, HA, HJ7, BK154, HB⟩ := hcut; cases kq with
     | zero => exact absurd HA.out (by simp [zaj.j1])
     | succ kj7 =>
      have H := HA.out; clear HA; simp only [zaj.j1] at H; by_cases c12 : x24_7 = true
      ·subst c12
       have H1 : ((zbt.f a0_0 a0_1 a0_2 l0_3).bind fun t155 => (if t155 = true then (some 1) else (some 0))) = some r := by rw [if_pos rfl] at H; exact H
       clear H; have H := H1; clear H1; replace H := Option.bind_eq_some_iff.mp H; obtain ⟨t155, A130, H⟩ := H; replace H : (if t155 = true then (some 1) else (some 0)) = some r := H
       have A13 := J A130; clear A130; by_cases c14 : t155 = true
       ·subst c14
        have H1 : (some 1) = some r := by rw [if_pos rfl] at H; exact H
        clear H; have H := H1; clear H1; obtain rfl := Option.some.inj H; have hcz15_0 : wc.cell? ⟨gb154, 0, none⟩ = some (.int .u8 a0_0) := (zaf BK154.out 0).trans rfl; have hcz15_1 : wc.cell? ⟨gb154, 1, none⟩ = some (.int .u8 a0_1) := (zaf BK154.out 1).trans rfl; have hcz15_2 : wc.cell? ⟨gb154, 2, none⟩ = some (.int .i64 a0_2) := (zaf BK154.out 2).trans rfl; have hcz15_3 : wc.cell? ⟨gb154, 3, none⟩ = some (.slice A0_3 l0_3.length c0_3) := (zaf BK154.out 3).trans rfl; have hfz15_0 := zab BK154.out 0; have hfz15_1 := zab BK154.out 1; have hfz15_2 := zab BK154.out 2; have hfz15_3 := zab BK154.out 3; go_wp2_with (first | ((with_reducible refine zaK (f := 76) rfl ?_); refine zbc (some 26) rfl rfl Try.func76 qb rfl #[.agg #[.int .u8 a0_0, .int .u8 a0_1, .int .i64 a0_2, .slice A0_3 l0_3.length c0_3]] rfl qi ?_; (with_reducible refine (zbt.calls a0_0 a0_1 a0_2 _ _ l0_3 true _ ?side1 ?side2 A13.out).mono ?_); (case side1 => repeat (first | exact (Kd.za1 HR0_3.out HB.out) | (with_reducible refine Kd.C_alloc ?_ _) | (with_reducible refine Kd.C_drewN ?_ _) | (with_reducible refine Kd.C_drew ?_))); (case side2 => exact HC0_3.out); rintro e w16 ⟨rfl, hb⟩; refine ⟨_, rfl, ?_⟩; have n0_ := J (zaG (g := gb154) (o := .cells #[.int .u8 a0_0, .int .u8 a0_1, .int .i64 a0_2, .slice A0_3 l0_3.length c0_3] 24 (0, 0)) qJ hb); have n1_ := J (zak qs hb); clear BK154; clear HB; have BK154 := n0_; have HB := n1_; clear n0_ n1_; (try clear hb); (try clear hb2); (try clear hk); (try clear hi)))
        go_ret
        exact ⟨qg, qs⟩
       ·replace c14 := Bool.eq_false_iff.mpr c14
        subst c14; have H1 : (some 0) = some r := by rw [if_neg (show ¬ (false = true) by decide)] at H; exact H
        clear H; have H := H1; clear H1; obtain rfl := Option.some.inj H; have hcz17_0 : wc.cell? ⟨gb154, 0, none⟩ = some (.int .u8 a0_0) := (zaf BK154.out 0).trans rfl; have hcz17_1 : wc.cell? ⟨gb154, 1, none⟩ = some (.int .u8 a0_1) := (zaf BK154.out 1).trans rfl; have hcz17_2 : wc.cell? ⟨gb154, 2, none⟩ = some (.int .i64 a0_2) := (zaf BK154.out 2).trans rfl; have hcz17_3 : wc.cell? ⟨gb154, 3, none⟩ = some (.slice A0_3 l0_3.length c0_3) := (zaf BK154.out 3).trans rfl; have hfz17_0 := zab BK154.out 0; have hfz17_1 := zab BK154.out 1; have hfz17_2 := zab BK154.out 2; have hfz17_3 := zab BK154.out 3; go_wp2_with (first | ((with_reducible refine zaK (f := 76) rfl ?_); refine zbc (some 26) rfl rfl Try.func76 qb rfl #[.agg #[.int .u8 a0_0, .int .u8 a0_1, .int .i64 a0_2, .slice A0_3 l0_3.length c0_3]] rfl qi ?_; (with_reducible refine (zbt.calls a0_0 a0_1 a0_2 _ _ l0_3 false _ ?side1 ?side2 A13.out).mono ?_); (case side1 => repeat (first | exact (Kd.za1 HR0_3.out HB.out) | (with_reducible refine Kd.C_alloc ?_ _) | (with_reducible refine Kd.C_drewN ?_ _) | (with_reducible refine Kd.C_drew ?_))); (case side2 => exact HC0_3.out); rintro e w18 ⟨rfl, hb⟩; refine ⟨_, rfl, ?_⟩; have n0_ := J (zaG (g := gb154) (o := .cells #[.int .u8 a0_0, .int .u8 a0_1, .int .i64 a0_2, .slice A0_3 l0_3.length c0_3] 24 (0, 0)) qJ hb); have n1_ := J (zak qs hb); clear BK154; clear HB; have BK154 := n0_; have HB := n1_; clear n0_ n1_; (try clear hb); (try clear hb2); (try clear hk); (try clear hi)))
        go_ret
        exact ⟨qg, qs⟩
      ·replace c12 := Bool.eq_false_iff.mpr c12
       subst c12; have H1 : (if a0_1 = 0 then (if a0_0 = 51 then (zaj.j2 kj7 a1 a2 (decide (a1 > 1)) a0_0 a0_1 a0_2 l0_3) else (zaj.j2 kj7 a1 a2 false a0_0 a0_1 a0_2 l0_3)) else (zaj.j2 kj7 a1 a2 true a0_0 a0_1 a0_2 l0_3)) = some r := by rw [if_neg (show ¬ (false = true) by decide)] at H; exact H
       clear H; have H := H1; clear H1; have HC19 := J H; clear H; go_upto_region 7 with (fail)
       go_cut [38] (fun v38 wc => ∃ (kq : Nat) (x38_18 : Bool), v38 = .bool x38_18 ∧ zaa (zaj.j2 kq a1 a2 x38_18 a0_0 a0_1 a0_2 l0_3 = some r) ∧ zaa (kq ≤ kj7) ∧ zaa (wc.heap[gb154]? = some (.cells #[.int .u8 a0_0, .int .u8 a0_1, .int .i64 a0_2, (.slice A0_3 l0_3.length c0_3)] 24 (0, 0))) ∧ zaa (Below w.heap.size w wc))
       case first =>
        have H := HC19.out; clear HC19; by_cases c20 : a0_1 = 0
        ·rw [if_pos c20] at H
         have c20b0 : (a0_1 == 0) = true := beq_iff_eq.mpr c20; have c20b1 : (a0_1 != 0) = false := bne_eq_false_iff_eq.mpr c20; clear c20
         (first | rw [c20b0] | (simp only [i64_w, i32_w]; rw [c20b0]) | skip)
         by_cases c21 : a0_0 = 51
         ·rw [if_pos c21] at H
          have c21b0 : (a0_0 == 51) = true := beq_iff_eq.mpr c21; have c21b1 : (a0_0 != 51) = false := bne_eq_false_iff_eq.mpr c21; clear c21; have H' := J H; clear H; have hcz22_0 : wc.cell? ⟨gb154, 0, none⟩ = some (.int .u8 a0_0) := (zaf BK154.out 0).trans rfl; have hcz22_1 : wc.cell? ⟨gb154, 1, none⟩ = some (.int .u8 a0_1) := (zaf BK154.out 1).trans rfl; have hcz22_2 : wc.cell? ⟨gb154, 2, none⟩ = some (.int .i64 a0_2) := (zaf BK154.out 2).trans rfl; have hcz22_3 : wc.cell? ⟨gb154, 3, none⟩ = some (.slice A0_3 l0_3.length c0_3) := (zaf BK154.out 3).trans rfl; have hfz22_0 := zab BK154.out 0; have hfz22_1 := zab BK154.out 1; have hfz22_2 := zab BK154.out 2; have hfz22_3 := zab BK154.out 3; go_wp2
          go_meet
          case rel => exact ⟨_, (decide (a1 > 1)), qc, H', ⟨by have := HJ3.out; have := HJ7.out; first | omega | exact Nat.le_refl _⟩, ⟨qJ⟩, ⟨qs⟩⟩
         ·rw [if_neg c21] at H
          have c21b0 : (a0_0 == 51) = false := beq_eq_false_iff_ne.mpr c21; have c21b1 : (a0_0 != 51) = true := bne_iff_ne.mpr c21; have H' := J H; clear H; have hcz23_0 : wc.cell? ⟨gb154, 0, none⟩ = some (.int .u8 a0_0) := (zaf BK154.out 0).trans rfl; have hcz23_1 : wc.cell? ⟨gb154, 1, none⟩ = some (.int .u8 a0_1) := (zaf BK154.out 1).trans rfl; have hcz23_2 : wc.cell? ⟨gb154, 2, none⟩ = some (.int .i64 a0_2) := (zaf BK154.out 2).trans rfl; have hcz23_3 : wc.cell? ⟨gb154, 3, none⟩ = some (.slice A0_3 l0_3.length c0_3) := (zaf BK154.out 3).trans rfl; have hfz23_0 := zab BK154.out 0; have hfz23_1 := zab BK154.out 1; have hfz23_2 := zab BK154.out 2; have hfz23_3 := zab BK154.out 3; go_wp2
          go_meet
          case rel => exact ⟨_, (false), qc, H', ⟨by have := HJ3.out; have := HJ7.out; first | omega | exact Nat.le_refl _⟩, ⟨qJ⟩, ⟨qs⟩⟩
        ·rw [if_neg c20] at H
         have c20b0 : (a0_1 == 0) = false := beq_eq_false_iff_ne.mpr c20; have c20b1 : (a0_1 != 0) = true := bne_iff_ne.mpr c20
         (first | rw [c20b0] | (simp only [i64_w, i32_w]; rw [c20b0]) | skip)
         have H' := J H; clear H; have hcz24_0 : wc.cell? ⟨gb154, 0, none⟩ = some (.int .u8 a0_0) := (zaf BK154.out 0).trans rfl; have hcz24_1 : wc.cell? ⟨gb154, 1, none⟩ = some (.int .u8 a0_1) := (zaf BK154.out 1).trans rfl; have hcz24_2 : wc.cell? ⟨gb154, 2, none⟩ = some (.int .i64 a0_2) := (zaf BK154.out 2).trans rfl; have hcz24_3 : wc.cell? ⟨gb154, 3, none⟩ = some (.slice A0_3 l0_3.length c0_3) := (zaf BK154.out 3).trans rfl; have hfz24_0 := zab BK154.out 0; have hfz24_1 := zab BK154.out 1; have hfz24_2 := zab BK154.out 2; have hfz24_3 := zab BK154.out 3; go_wp2
         go_meet
         case rel => exact ⟨_, (true), qc, H', ⟨by have := HJ3.out; have := HJ7.out; first | omega | exact Nat.le_refl _⟩, ⟨qJ⟩, ⟨qs⟩⟩
       case rest =>
        clear HC19; try clear c1
        try clear c2
        try clear p2
        try clear c6
        try clear c6b0
        try clear c7
        try clear c9
        try clear c9b0
        try clear c12
        try clear c14
        try clear c20
        try clear c20b0
        try clear c20b1
        try clear c21
        try clear c21b0
        try clear c21b1
        try clear hcz10_0
        try clear hcz10_1
        try clear hcz10_2
        try clear hcz10_3
        try clear hcz11_0
        try clear hcz11_1
        try clear hcz11_2
        try clear hcz11_3
        try clear hcz15_0
        try clear hcz15_1
        try clear hcz15_2
        try clear hcz15_3
        try clear hcz17_0
        try clear hcz17_1
        try clear hcz17_2
        try clear hcz17_3
        try clear hcz22_0
        try clear hcz22_1
        try clear hcz22_2
        try clear hcz22_3
        try clear hcz23_0
        try clear hcz23_1
        try clear hcz23_2
        try clear hcz23_3
        try clear hcz24_0
        try clear hcz24_1
        try clear hcz24_2
        try clear hcz24_3
        try clear hfz10_0
        try clear hfz10_1
        try clear hfz10_2
        try clear hfz10_3
        try clear hfz11_0
        try clear hfz11_1
        try clear hfz11_2
        try clear hfz11_3
        try clear hfz15_0
        try clear hfz15_1
        try clear hfz15_2
        try clear hfz15_3
        try clear hfz17_0
        try clear hfz17_1
        try clear hfz17_2
        try clear hfz17_3
        try clear hfz22_0
        try clear hfz22_1
        try clear hfz22_2
        try clear hfz22_3
        try clear hfz23_0
        try clear hfz23_1
        try clear hfz23_2
        try clear hfz23_3
        try clear hfz24_0
        try clear hfz24_1
        try clear hfz24_2
        try clear hfz24_3
        try clear p2
        obtain ⟨kq, x38_18, rfl, HA, HJ18, BK154, HB⟩ := hcut; cases kq with
        | zero => exact absurd HA.out (by simp [zaj.j2])
        | succ kj18 =>
         have H := HA.out; clear HA; simp only [zaj.j2] at H; by_cases c25 : x38_18 = true
         ·subst c25
          have H1 : (some 0) = some r := by rw [if_pos rfl] at H; exact H
          clear H; have H := H1; clear H1; obtain rfl := Option.some.inj H; go_wp2
          go_ret
          exact ⟨qg, qs⟩
         ·replace c25 := Bool.eq_false_iff.mpr c25
          subst c25; have H1 : (zaj.l0 kj18 a1 a2 1 0 0 a0_0 a0_1 a0_2 l0_3) = some r := by rw [if_neg (show ¬ (false = true) by decide)] at H; exact H
          clear H; have H := H1; clear H1; have H' := J H; clear H; go_wp2
          go_loopg [7, 8, 9] kj18 (fun kq v7 v8 v9 w' => ∃ (x7_4 : Int) (x8_4 : Int) (x9_4 : Int), v7 = .int .i64 x7_4 ∧ v8 = .int .i64 x8_4 ∧ v9 = .int .i64 x9_4 ∧ zaa (zaj.l0 kq a1 a2 x7_4 x8_4 x9_4 a0_0 a0_1 a0_2 l0_3 = some r) ∧ zaa (kq ≤ kj18) ∧ zaa (w'.heap[gb154]? = some (.cells #[.int .u8 a0_0, .int .u8 a0_1, .int .i64 a0_2, (.slice A0_3 l0_3.length c0_3)] 24 (0, 0))) ∧ zaa (Below w.heap.size w w'))
          case atStart => exact ⟨(1), (0), (0), qc, qc, qc, H', ⟨Nat.le_refl _⟩, ⟨qJ⟩, ⟨qs⟩⟩
          case round =>
           clear H'; try clear c1
           try clear c2
           try clear p2
           try clear c6
           try clear c6b0
           try clear c7
           try clear c9
           try clear c9b0
           try clear c12
           try clear c14
           try clear c20
           try clear c20b0
           try clear c20b1
           try clear c21
           try clear c21b0
           try clear c21b1
           try clear c25
           try clear hcz10_0
           try clear hcz10_1
           try clear hcz10_2
           try clear hcz10_3
           try clear hcz11_0
           try clear hcz11_1
           try clear hcz11_2
           try clear hcz11_3
           try clear hcz15_0
           try clear hcz15_1
           try clear hcz15_2
           try clear hcz15_3
           try clear hcz17_0
           try clear hcz17_1
           try clear hcz17_2
           try clear hcz17_3
           try clear hcz22_0
           try clear hcz22_1
           try clear hcz22_2
           try clear hcz22_3
           try clear hcz23_0
           try clear hcz23_1
           try clear hcz23_2
           try clear hcz23_3
           try clear hcz24_0
           try clear hcz24_1
           try clear hcz24_2
           try clear hcz24_3
           try clear hfz10_0
           try clear hfz10_1
           try clear hfz10_2
           try clear hfz10_3
           try clear hfz11_0
           try clear hfz11_1
           try clear hfz11_2
           try clear hfz11_3
           try clear hfz15_0
           try clear hfz15_1
           try clear hfz15_2
           try clear hfz15_3
           try clear hfz17_0
           try clear hfz17_1
           try clear hfz17_2
           try clear hfz17_3
           try clear hfz22_0
           try clear hfz22_1
           try clear hfz22_2
           try clear hfz22_3
           try clear hfz23_0
           try clear hfz23_1
           try clear hfz23_2
           try clear hfz23_3
           try clear hfz24_0
           try clear hfz24_1
           try clear hfz24_2
           try clear hfz24_3
           try clear p2
           obtain ⟨x7_4, x8_4, x9_4, rfl, rfl, rfl, HA, HK4, BK154, HB⟩ := hrel; cases gk with
           | zero => exact absurd HA.out (by simp [zaj.l0])
           | succ k4 =>
            have H := HA.out; clear HA; simp only [zaj.l0] at H; by_cases c26 : x9_4 < (l0_3.length : Int)
            ·rw [if_pos c26] at H
             have c26b0 : decide (x9_4 < (l0_3.length : Int)) = true := decide_eq_true c26; clear c26; by_cases c27 : 0 ≤ x9_4
             ·rw [if_pos c27] at H
              have c27b0 : decide (0 ≤ x9_4) = true := decide_eq_true c27; clear c27; replace H := Option.bind_eq_some_iff.mp H; obtain ⟨t157, A280, H⟩ := H; replace H : (if t157 = 0 then (some 0) else (zaj.l0 k4 a1 a2 (wrap64 (x7_4 + t157)) (wrap64 (x8_4 + ((za6 l0_3 x9_4).f2))) (wrap64 (x9_4 + 1)) a0_0 a0_1 a0_2 l0_3)) = some r := H
              have A28 := J A280; clear A280; by_cases c29 : t157 = 0
              ·rw [if_pos c29] at H
               have c29b0 : (t157 == 0) = true := beq_iff_eq.mpr c29; have c29b1 : (t157 != 0) = false := bne_eq_false_iff_eq.mpr c29; clear c29; obtain rfl := Option.some.inj H; have hcz30_0 : wr.cell? ⟨gb154, 0, none⟩ = some (.int .u8 a0_0) := (zaf BK154.out 0).trans rfl; have hcz30_1 : wr.cell? ⟨gb154, 1, none⟩ = some (.int .u8 a0_1) := (zaf BK154.out 1).trans rfl; have hcz30_2 : wr.cell? ⟨gb154, 2, none⟩ = some (.int .i64 a0_2) := (zaf BK154.out 2).trans rfl; have hcz30_3 : wr.cell? ⟨gb154, 3, none⟩ = some (.slice A0_3 l0_3.length c0_3) := (zaf BK154.out 3).trans rfl; have hfz30_0 := zab BK154.out 0; have hfz30_1 := zab BK154.out 1; have hfz30_2 := zab BK154.out 2; have hfz30_3 := zab BK154.out 3; have p156 : 0 ≤ (x9_4 : Int) := of_decide_eq_true qd
               have q156 : x9_4 < (l0_3.length : Int) := of_decide_eq_true qd
               obtain ⟨ad156, A156_3, c156_3, e156, hx156_0, hx156_1, hx156_2, hx156_3, hl156_3, hi156_3⟩ := at_T24 HR0_3.out x9_4 p156 q156; cases e156; replace hx156_0 := (HB.out.cell (World.block_lt_of_cell? w _ hx156_0)).trans hx156_0; replace hx156_1 := (HB.out.cell (World.block_lt_of_cell? w _ hx156_1)).trans hx156_1; replace hx156_2 := (HB.out.cell (World.block_lt_of_cell? w _ hx156_2)).trans hx156_2; replace hx156_3 := (HB.out.cell (World.block_lt_of_cell? w _ hx156_3)).trans hx156_3; have HR156_3 := J hi156_3; have HC156_3 := J hl156_3; clear hi156_3 hl156_3; replace p156 := eq_true p156; replace q156 := eq_true q156; go_wp2_with (first | ((with_reducible refine zaK (f := 70) rfl ?_); refine zbc (some 56) rfl rfl Try.func70 qb rfl #[.agg #[.int .u8 ((za6 l0_3 x9_4).f0), .int .u8 ((za6 l0_3 x9_4).f1), .int .i64 ((za6 l0_3 x9_4).f2), .slice A156_3 ((za6 l0_3 x9_4).f3).length c156_3], .int .i64 (wrap64 (a1 + 1)), .int .i64 (wrap64 (a2 - x7_4))] rfl qi ?_; (with_reducible refine (ih k4 (by have := HJ3.out; have := HJ7.out; have := HJ18.out; have := HK4.out; omega) ((za6 l0_3 x9_4).f0) ((za6 l0_3 x9_4).f1) ((za6 l0_3 x9_4).f2) _ _ ((za6 l0_3 x9_4).f3) (wrap64 (a1 + 1)) (wrap64 (a2 - x7_4)) t157 _ ?side1 ?side2 A28.out).mono ?_); (case side1 => repeat (first | exact (Kd.za1 HR156_3.out HB.out) | (with_reducible refine Kd.C_alloc ?_ _) | (with_reducible refine Kd.C_drewN ?_ _) | (with_reducible refine Kd.C_drew ?_))); (case side2 => exact HC156_3.out); rintro e w31 ⟨rfl, hb⟩; refine ⟨_, rfl, ?_⟩; have n0_ := J (zaG (g := gb154) (o := .cells #[.int .u8 a0_0, .int .u8 a0_1, .int .i64 a0_2, .slice (some ad156) l0_3.length c0_3] 24 (0, 0)) qJ hb); have n1_ := J (zak qs hb); clear BK154; clear HB; have BK154 := n0_; have HB := n1_; clear n0_ n1_; (try clear hb); (try clear hb2); (try clear hk); (try clear hi)))
               go_ret
               exact ⟨qg, qs⟩
              ·rw [if_neg c29] at H
               have c29b0 : (t157 == 0) = false := beq_eq_false_iff_ne.mpr c29; have c29b1 : (t157 != 0) = true := bne_iff_ne.mpr c29; have H' := J H; clear H; have hcz32_0 : wr.cell? ⟨gb154, 0, none⟩ = some (.int .u8 a0_0) := (zaf BK154.out 0).trans rfl; have hcz32_1 : wr.cell? ⟨gb154, 1, none⟩ = some (.int .u8 a0_1) := (zaf BK154.out 1).trans rfl; have hcz32_2 : wr.cell? ⟨gb154, 2, none⟩ = some (.int .i64 a0_2) := (zaf BK154.out 2).trans rfl; have hcz32_3 : wr.cell? ⟨gb154, 3, none⟩ = some (.slice A0_3 l0_3.length c0_3) := (zaf BK154.out 3).trans rfl; have hfz32_0 := zab BK154.out 0; have hfz32_1 := zab BK154.out 1; have hfz32_2 := zab BK154.out 2; have hfz32_3 := zab BK154.out 3; have p156 : 0 ≤ (x9_4 : Int) := of_decide_eq_true qd
               have q156 : x9_4 < (l0_3.length : Int) := of_decide_eq_true qd
               obtain ⟨ad156, A156_3, c156_3, e156, hx156_0, hx156_1, hx156_2, hx156_3, hl156_3, hi156_3⟩ := at_T24 HR0_3.out x9_4 p156 q156; cases e156; replace hx156_0 := (HB.out.cell (World.block_lt_of_cell? w _ hx156_0)).trans hx156_0; replace hx156_1 := (HB.out.cell (World.block_lt_of_cell? w _ hx156_1)).trans hx156_1; replace hx156_2 := (HB.out.cell (World.block_lt_of_cell? w _ hx156_2)).trans hx156_2; replace hx156_3 := (HB.out.cell (World.block_lt_of_cell? w _ hx156_3)).trans hx156_3; have HR156_3 := J hi156_3; have HC156_3 := J hl156_3; clear hi156_3 hl156_3; replace p156 := eq_true p156; replace q156 := eq_true q156; go_wp2_with (first | ((with_reducible refine zaK (f := 70) rfl ?_); refine zbc (some 56) rfl rfl Try.func70 qb rfl #[.agg #[.int .u8 ((za6 l0_3 x9_4).f0), .int .u8 ((za6 l0_3 x9_4).f1), .int .i64 ((za6 l0_3 x9_4).f2), .slice A156_3 ((za6 l0_3 x9_4).f3).length c156_3], .int .i64 (wrap64 (a1 + 1)), .int .i64 (wrap64 (a2 - x7_4))] rfl qi ?_; (with_reducible refine (ih k4 (by have := HJ3.out; have := HJ7.out; have := HJ18.out; have := HK4.out; omega) ((za6 l0_3 x9_4).f0) ((za6 l0_3 x9_4).f1) ((za6 l0_3 x9_4).f2) _ _ ((za6 l0_3 x9_4).f3) (wrap64 (a1 + 1)) (wrap64 (a2 - x7_4)) t157 _ ?side1 ?side2 A28.out).mono ?_); (case side1 => repeat (first | exact (Kd.za1 HR156_3.out HB.out) | (with_reducible refine Kd.C_alloc ?_ _) | (with_reducible refine Kd.C_drewN ?_ _) | (with_reducible refine Kd.C_drew ?_))); (case side2 => exact HC156_3.out); rintro e w33 ⟨rfl, hb⟩; refine ⟨_, rfl, ?_⟩; have n0_ := J (zaG (g := gb154) (o := .cells #[.int .u8 a0_0, .int .u8 a0_1, .int .i64 a0_2, .slice (some ad156) l0_3.length c0_3] 24 (0, 0)) qJ hb); have n1_ := J (zak qs hb); clear BK154; clear HB; have BK154 := n0_; have HB := n1_; clear n0_ n1_; (try clear hb); (try clear hb2); (try clear hk); (try clear hi); have hcz34_0 : w33.cell? ⟨gb154, 0, none⟩ = some (.int .u8 a0_0) := (zaf BK154.out 0).trans rfl; have hcz34_1 : w33.cell? ⟨gb154, 1, none⟩ = some (.int .u8 a0_1) := (zaf BK154.out 1).trans rfl; have hcz34_2 : w33.cell? ⟨gb154, 2, none⟩ = some (.int .i64 a0_2) := (zaf BK154.out 2).trans rfl; have hcz34_3 : w33.cell? ⟨gb154, 3, none⟩ = some (.slice (some ad156) l0_3.length c0_3) := (zaf BK154.out 3).trans rfl; have hfz34_0 := zab BK154.out 0; have hfz34_1 := zab BK154.out 1; have hfz34_2 := zab BK154.out 2; have hfz34_3 := zab BK154.out 3; have p158 : 0 ≤ (x9_4 : Int) := of_decide_eq_true qd; have q158 : x9_4 < (l0_3.length : Int) := of_decide_eq_true qd; obtain ⟨ad158, A158_3, c158_3, e158, hx158_0, hx158_1, hx158_2, hx158_3, hl158_3, hi158_3⟩ := at_T24 HR0_3.out x9_4 p158 q158; obtain rfl : ad156 = ad158 := (by injection e158); replace hx158_0 := (HB.out.cell (World.block_lt_of_cell? w _ hx158_0)).trans hx158_0; replace hx158_1 := (HB.out.cell (World.block_lt_of_cell? w _ hx158_1)).trans hx158_1; replace hx158_2 := (HB.out.cell (World.block_lt_of_cell? w _ hx158_2)).trans hx158_2; replace hx158_3 := (HB.out.cell (World.block_lt_of_cell? w _ hx158_3)).trans hx158_3; have HR158_3 := J hi158_3; have HC158_3 := J hl158_3; clear hi158_3 hl158_3; replace p158 := eq_true p158; replace q158 := eq_true q158))
               go_roundg k4
               case measure => have := HJ3.out; have := HJ7.out; have := HJ18.out; have := HK4.out; omega
               case rel => exact ⟨(wrap64 (x7_4 + t157)), (wrap64 (x8_4 + ((za6 l0_3 x9_4).f2))), (wrap64 (x9_4 + 1)), qc, qc, qc, H', ⟨by have := HJ3.out; have := HJ7.out; have := HJ18.out; have := HK4.out; omega⟩, ⟨qJ⟩, ⟨qs⟩⟩
             ·rw [if_neg c27] at H
              exact absurd H qf
            ·rw [if_neg c26] at H
             have c26b0 : decide (x9_4 < (l0_3.length : Int)) = false := decide_eq_false c26; clear c26; by_cases c35 : x8_4 = a0_2
             ·rw [if_pos c35] at H
              have c35b0 : (x8_4 == a0_2) = true := beq_iff_eq.mpr c35; have c35b1 : (x8_4 != a0_2) = false := bne_eq_false_iff_eq.mpr c35; clear c35; by_cases c36 : x8_4 > 1099511627776
              ·rw [if_pos c36] at H
               have c36b0 : decide (1099511627776 < x8_4) = true := decide_eq_true c36; clear c36; obtain rfl := Option.some.inj H; have hcz37_0 : wr.cell? ⟨gb154, 0, none⟩ = some (.int .u8 a0_0) := (zaf BK154.out 0).trans rfl; have hcz37_1 : wr.cell? ⟨gb154, 1, none⟩ = some (.int .u8 a0_1) := (zaf BK154.out 1).trans rfl; have hcz37_2 : wr.cell? ⟨gb154, 2, none⟩ = some (.int .i64 a0_2) := (zaf BK154.out 2).trans rfl; have hcz37_3 : wr.cell? ⟨gb154, 3, none⟩ = some (.slice A0_3 l0_3.length c0_3) := (zaf BK154.out 3).trans rfl; have hfz37_0 := zab BK154.out 0; have hfz37_1 := zab BK154.out 1; have hfz37_2 := zab BK154.out 2; have hfz37_3 := zab BK154.out 3; go_wp2
               go_ret
               exact ⟨qg, qs⟩
              ·rw [if_neg c36] at H
               have c36b0 : decide (1099511627776 < x8_4) = false := decide_eq_false c36; clear c36; obtain rfl := Option.some.inj H; have hcz38_0 : wr.cell? ⟨gb154, 0, none⟩ = some (.int .u8 a0_0) := (zaf BK154.out 0).trans rfl; have hcz38_1 : wr.cell? ⟨gb154, 1, none⟩ = some (.int .u8 a0_1) := (zaf BK154.out 1).trans rfl; have hcz38_2 : wr.cell? ⟨gb154, 2, none⟩ = some (.int .i64 a0_2) := (zaf BK154.out 2).trans rfl; have hcz38_3 : wr.cell? ⟨gb154, 3, none⟩ = some (.slice A0_3 l0_3.length c0_3) := (zaf BK154.out 3).trans rfl; have hfz38_0 := zab BK154.out 0; have hfz38_1 := zab BK154.out 1; have hfz38_2 := zab BK154.out 2; have hfz38_3 := zab BK154.out 3; go_wp2
               go_ret
               exact ⟨qg, qs⟩
             ·rw [if_neg c35] at H
              have c35b0 : (x8_4 == a0_2) = false := beq_eq_false_iff_ne.mpr c35; have c35b1 : (x8_4 != a0_2) = true := bne_iff_ne.mpr c35; obtain rfl := Option.some.inj H; have hcz39_0 : wr.cell? ⟨gb154, 0, none⟩ = some (.int .u8 a0_0) := (zaf BK154.out 0).trans rfl; have hcz39_1 : wr.cell? ⟨gb154, 1, none⟩ = some (.int .u8 a0_1) := (zaf BK154.out 1).trans rfl; have hcz39_2 : wr.cell? ⟨gb154, 2, none⟩ = some (.int .i64 a0_2) := (zaf BK154.out 2).trans rfl; have hcz39_3 : wr.cell? ⟨gb154, 3, none⟩ = some (.slice A0_3 l0_3.length c0_3) := (zaf BK154.out 3).trans rfl; have hfz39_0 := zab BK154.out 0; have hfz39_1 := zab BK154.out 1; have hfz39_2 := zab BK154.out 2; have hfz39_3 := zab BK154.out 3; go_wp2
              go_ret
              exact ⟨qg, qs⟩
def zbw.f (k : Nat) (a0_0 : Int) (a0_1 : Int) (a0_2 : Int) (l0_3 : List (S24)) : Option (Bool) := (zaj.f k a0_0 a0_1 a0_2 l0_3 1 1048576).bind fun t160 => (some (decide (t160 > 0)))
theorem zbw.calls (k : Nat) (a0_0 : Int) (a0_1 : Int) (a0_2 : Int) (A0_3 : Option Addr) (c0_3 : Nat) (l0_3 : List (S24)) (r : Bool) (w : World) (hr0_3 : Kd.C k24 w A0_3 l0_3.length l0_3) (hc0_3 : l0_3.length ≤ c0_3) (h : zbw.f k a0_0 a0_1 a0_2 l0_3 = some r) :
  Calls Try.prog 54 #[.agg #[.int .u8 a0_0, .int .u8 a0_1, .int .i64 a0_2, .slice A0_3 l0_3.length c0_3]] w fun e w' => e = .returned (.bool r) ∧ Below w.heap.size w w' := by
 have hu24 := Try.underlying24; have HR0_3 := J hr0_3; have HC0_3 := J hc0_3; clear hr0_3 hc0_3; have HB := J (Below.refl w.heap.size w); have H : ((zaj.f k a0_0 a0_1 a0_2 l0_3 1 1048576).bind fun t160 => (some (decide (t160 > 0)))) = some r := h
 clear h; replace H := Option.bind_eq_some_iff.mp H; obtain ⟨t160, A20, H⟩ := H; replace H : (some (decide (t160 > 0))) = some r := H; have A2 := J A20; clear A20; obtain rfl := Option.some.inj H; go_enter Try.func54, Try.ntmps54
 go_wp2_with (first | ((with_reducible refine za2 (N := 1) rfl ?_); refine zbd ?hg (N := 1) ?hd (cs := #[.int .u8 a0_0, .int .u8 a0_1, .int .i64 a0_2, .slice A0_3 l0_3.length c0_3]) (t := 24) ?hr ?_; (case hd => rfl); (case hg => rfl); (case hr => first | (go_simp; done) | (go_simp; rfl)); intro gb159 hg w3 hbox hb; have n0_ := J (zak qa hb); have n1_ := J (hbox); have n2_ := J ((by rw [hg]; exact (zav qa) : w.heap.size ≤ gb159)); have n3_ := J ((by rw [hg]; exact (zav qa) : w.heap.size ≤ gb159)); clear HB; have HB := n0_; have BK159 := n1_; have GW159 := n2_; have GE159 := n3_; clear n0_ n1_ n2_ n3_; clear hb hbox hg; have hcz4_0 : w3.cell? ⟨gb159, 0, none⟩ = some (.int .u8 a0_0) := (zaf BK159.out 0).trans rfl; have hcz4_1 : w3.cell? ⟨gb159, 1, none⟩ = some (.int .u8 a0_1) := (zaf BK159.out 1).trans rfl; have hcz4_2 : w3.cell? ⟨gb159, 2, none⟩ = some (.int .i64 a0_2) := (zaf BK159.out 2).trans rfl; have hcz4_3 : w3.cell? ⟨gb159, 3, none⟩ = some (.slice A0_3 l0_3.length c0_3) := (zaf BK159.out 3).trans rfl; have hfz4_0 := zab BK159.out 0; have hfz4_1 := zab BK159.out 1; have hfz4_2 := zab BK159.out 2; have hfz4_3 := zab BK159.out 3) | ((with_reducible refine zaK (f := 70) rfl ?_); refine zbc (some 4) rfl rfl Try.func70 qb rfl #[.agg #[.int .u8 a0_0, .int .u8 a0_1, .int .i64 a0_2, .slice A0_3 l0_3.length c0_3], .int .i64 1, .int .i64 1048576] rfl qi ?_; (with_reducible refine (zaj.calls k a0_0 a0_1 a0_2 _ _ l0_3 1 1048576 t160 _ ?side1 ?side2 A2.out).mono ?_); (case side1 => repeat (first | exact (Kd.za1 HR0_3.out HB.out) | (with_reducible refine Kd.C_alloc ?_ _) | (with_reducible refine Kd.C_drewN ?_ _) | (with_reducible refine Kd.C_drew ?_))); (case side2 => exact HC0_3.out); rintro e w5 ⟨rfl, hb⟩; refine ⟨_, rfl, ?_⟩; have n0_ := J (zaG (g := gb159) (o := .cells #[.int .u8 a0_0, .int .u8 a0_1, .int .i64 a0_2, .slice A0_3 l0_3.length c0_3] 24 (0, 0)) (by (with_reducible repeat (first | refine zar ?_ _ | refine zaD ?_ | refine zas ?_ _)); exact BK159.out) hb); have n1_ := J (zak (by repeat (first | (with_reducible first | exact HB.out | apply zad | apply zac | apply zae | refine zaz ?_ GE159.out) | exact HB.out)) hb); clear BK159; clear HB; have BK159 := n0_; have HB := n1_; clear n0_ n1_; (try clear hb); (try clear hb2); (try clear hk); (try clear hi)))
 go_ret
 exact ⟨qg, by repeat (first | (with_reducible first | exact HB.out | apply zad | apply zac | apply zae | refine zaz ?_ GE159.out) | exact HB.out)⟩
mutual
def zaQ.l0 : Nat → List (S24) → Int → Int → Int → Int → List (S24) → Option (Int × Int × Int × (List (S24)))
 | 0, _, _, _, _, _, _ => none
 | k + 1, x3, x4, x134000, x134001, x134002, x134003 => if x4 < (x134003.length : Int) then (if 0 ≤ x4 then ((zaQ.f k ((za6 x134003 x4).f0) ((za6 x134003 x4).f1) ((za6 x134003 x4).f2) ((za6 x134003 x4).f3)).bind fun bt136 => (if x3.length < 3518437208883 then (zaQ.l0 k (x3 ++ [(⟨bt136.1, bt136.2.1, bt136.2.2.1, bt136.2.2.2⟩ : S24)]) (wrap64 (x4 + 1)) x134000 x134001 x134002 x134003) else (none))) else (none)) else (some (x134000, x134001, x134002, x3))
def zaQ.f : Nat → Int → Int → Int → List (S24) → Option (Int × Int × Int × (List (S24)))
 | 0, _, _, _, _ => none
 | k + 1, a0_0, a0_1, a0_2, l0_3 => if (l0_3.length : Int) = 0 then (some (a0_0, a0_1, a0_2, ([] : List (S24)))) else (zaQ.l0 k ([] : List (S24)) 0 a0_0 a0_1 a0_2 l0_3)
end
theorem zaQ.calls (k : Nat) : ∀ (a0_0 : Int) (a0_1 : Int) (a0_2 : Int) (A0_3 : Option Addr) (c0_3 : Nat) (l0_3 : List (S24)) (r1 : Int) (r2 : Int) (r3 : Int) (r4 : List (S24)) (w : World) (hr0_3 : Kd.C k24 w A0_3 l0_3.length l0_3) (hc0_3 : l0_3.length ≤ c0_3) (h : zaQ.f k a0_0 a0_1 a0_2 l0_3 = some (r1, r2, r3, r4)),
  Calls Try.prog 12 #[.agg #[.int .u8 a0_0, .int .u8 a0_1, .int .i64 a0_2, .slice A0_3 l0_3.length c0_3]] w fun e w' => ∃ v3_ : Value, e = .returned (.agg #[.int .u8 r1, .int .u8 r2, .int .i64 r3, v3_]) ∧ Kd.R k24 24 w' w.heap.size (fun _ => True) v3_ r4 ∧ Below w.heap.size w w' := by
 induction k using Nat.strongRecOn with
 | _ k ih =>
 intro a0_0 a0_1 a0_2 A0_3 c0_3 l0_3 r1 r2 r3 r4 w hr0_3 hc0_3 h
 cases k with
 | zero => exact absurd h (by simp [zaQ.f])
 | succ k =>
 simp only [zaQ.f] at h; have hu24 := Try.underlying24; have HR0_3 := J hr0_3; have HC0_3 := J hc0_3; clear hr0_3 hc0_3; have HB := J (Below.refl w.heap.size w); have H : (if (l0_3.length : Int) = 0 then (some (a0_0, a0_1, a0_2, ([] : List (S24)))) else (zaQ.l0 k ([] : List (S24)) 0 a0_0 a0_1 a0_2 l0_3)) = some (r1, r2, r3, r4) := h
 clear h; by_cases c2 : (l0_3.length : Int) = 0
 ·rw [if_pos c2] at H
  have c2b0 : ((l0_3.length : Int) == 0) = true := beq_iff_eq.mpr c2; have c2b1 : ((l0_3.length : Int) != 0) = false := bne_eq_false_iff_eq.mpr c2; clear c2; simp only [Option.some.injEq, Prod.mk.injEq] at H; obtain ⟨rfl, rfl, rfl, rfl⟩ := H; go_enter Try.func12, Try.ntmps12
  go_wp2_with (first | ((with_reducible refine za2 (N := 1) rfl ?_); refine zbd ?hg (N := 1) ?hd (cs := #[.int .u8 a0_0, .int .u8 a0_1, .int .i64 a0_2, .slice A0_3 l0_3.length c0_3]) (t := 24) ?hr ?_; (case hd => rfl); (case hg => rfl); (case hr => first | (go_simp; done) | (go_simp; rfl)); intro gb133 hg w3 hbox hb; have n0_ := J (zak qa hb); have n1_ := J (hbox); have n2_ := J ((by rw [hg]; exact (zav qa) : w.heap.size ≤ gb133)); have n3_ := J ((by rw [hg]; exact (zav qa) : w.heap.size ≤ gb133)); clear HB; have HB := n0_; have BK133 := n1_; have GW133 := n2_; have GE133 := n3_; clear n0_ n1_ n2_ n3_; clear hb hbox hg) | ((with_reducible refine za2 (N := 2) rfl ?_); refine zbd ?hg (N := 2) ?hd (cs := #[.int .u8 0, .int .u8 0, .int .i64 0, .slice none 0 0]) (t := 24) ?hr ?_; (case hd => rfl); (case hg => rfl); (case hr => first | (go_simp; done) | (go_simp; rfl)); intro gb134 hg w4 hbox hb; have n0_ := J (zaG (g := gb133) (o := .cells #[.int .u8 a0_0, .int .u8 a0_1, .int .i64 a0_2, .slice A0_3 l0_3.length c0_3] 24 (0, 0)) qM hb); have n1_ := J (zak Qc hb); have n2_ := J (hbox); have n3_ := J ((by rw [hg]; exact (zav Qc) : w.heap.size ≤ gb134)); have n4_ := J ((by rw [hg]; exact (zav Qc) : w.heap.size ≤ gb134)); have n5_ := J ((by rw [hg]; exact Nat.ne_of_lt (zaN (g := gb133) (o := .cells #[.int .u8 a0_0, .int .u8 a0_1, .int .i64 a0_2, .slice A0_3 l0_3.length c0_3] 24 (0, 0)) qM) : gb133 ≠ gb134)); have n6_ := J ((by rw [hg]; exact Nat.ne_of_gt (zaN (g := gb133) (o := .cells #[.int .u8 a0_0, .int .u8 a0_1, .int .i64 a0_2, .slice A0_3 l0_3.length c0_3] 24 (0, 0)) qM) : gb134 ≠ gb133)); clear BK133; clear HB; have BK133 := n0_; have HB := n1_; have BK134 := n2_; have GW134 := n3_; have GE134 := n4_; have NB133_134 := n5_; have NB134_133 := n6_; clear n0_ n1_ n2_ n3_ n4_ n5_ n6_; clear hb hbox hg; have hnb5 := NB133_134.out; have hnc5 := NB134_133.out; have hcz6_0 : w4.cell? ⟨gb133, 0, none⟩ = some (.int .u8 a0_0) := (zaf BK133.out 0).trans rfl; have hcz6_1 : w4.cell? ⟨gb133, 1, none⟩ = some (.int .u8 a0_1) := (zaf BK133.out 1).trans rfl; have hcz6_2 : w4.cell? ⟨gb133, 2, none⟩ = some (.int .i64 a0_2) := (zaf BK133.out 2).trans rfl; have hcz6_3 : w4.cell? ⟨gb133, 3, none⟩ = some (.slice A0_3 l0_3.length c0_3) := (zaf BK133.out 3).trans rfl; have hfz6_0 := zab BK133.out 0; have hfz6_1 := zab BK133.out 1; have hfz6_2 := zab BK133.out 2; have hfz6_3 := zab BK133.out 3; have hcz7_0 : w4.cell? ⟨gb134, 0, none⟩ = some (.int .u8 0) := (zaf BK134.out 0).trans rfl; have hcz7_1 : w4.cell? ⟨gb134, 1, none⟩ = some (.int .u8 0) := (zaf BK134.out 1).trans rfl; have hcz7_2 : w4.cell? ⟨gb134, 2, none⟩ = some (.int .i64 0) := (zaf BK134.out 2).trans rfl; have hcz7_3 : w4.cell? ⟨gb134, 3, none⟩ = some (.slice none 0 0) := (zaf BK134.out 3).trans rfl; have hfz7_0 := zab BK134.out 0; have hfz7_1 := zab BK134.out 1; have hfz7_2 := zab BK134.out 2; have hfz7_3 := zab BK134.out 3))
  refine bodyPost_ret (results_cell_row rfl _ _ gb134 24 #[.int .u8 a0_0, .int .u8 a0_1, .int .i64 a0_2, .slice none 0 0] (0, 0) _ rfl (by (with_reducible repeat (first | refine zar ?_ _ | refine zaD ?_ | refine zas ?_ _)); refine zbp (cs := #[.int .u8 a0_0, .int .u8 a0_1, .int .i64 a0_2, .slice none 0 0]) ?_ 3 _ rfl; (with_reducible repeat (first | refine zar ?_ _ | refine zaD ?_ | refine zas ?_ _)); refine zbp (cs := #[.int .u8 a0_0, .int .u8 a0_1, .int .i64 0, .slice none 0 0]) ?_ 2 _ rfl; (with_reducible repeat (first | refine zar ?_ _ | refine zaD ?_ | refine zas ?_ _)); refine zbp (cs := #[.int .u8 a0_0, .int .u8 0, .int .i64 0, .slice none 0 0]) ?_ 1 _ rfl; (with_reducible repeat (first | refine zar ?_ _ | refine zaD ?_ | refine zas ?_ _)); refine zbp (cs := #[.int .u8 0, .int .u8 0, .int .i64 0, .slice none 0 0]) ?_ 0 _ rfl; (with_reducible repeat (first | refine zar ?_ _ | refine zaD ?_ | refine zas ?_ _)); refine blk_far ?_ NB134_133.out _; (with_reducible repeat (first | refine zar ?_ _ | refine zaD ?_ | refine zas ?_ _)); exact BK134.out) Try.underlying24 rfl qb) rfl ?_
  exact ⟨_, qg, Qt, qW⟩
 ·rw [if_neg c2] at H
  have c2b0 : ((l0_3.length : Int) == 0) = false := beq_eq_false_iff_ne.mpr c2; have c2b1 : ((l0_3.length : Int) != 0) = true := bne_iff_ne.mpr c2; have c2b2 : ¬ (l0_3 = []) := fun h_ => c2 (by rw [h_]; rfl)
  have H' := J H; clear H; go_enter Try.func12, Try.ntmps12
  go_wp2_with (first | ((with_reducible refine za2 (N := 1) rfl ?_); refine zbd ?hg (N := 1) ?hd (cs := #[.int .u8 a0_0, .int .u8 a0_1, .int .i64 a0_2, .slice A0_3 l0_3.length c0_3]) (t := 24) ?hr ?_; (case hd => rfl); (case hg => rfl); (case hr => first | (go_simp; done) | (go_simp; rfl)); intro gb133 hg w8 hbox hb; have n0_ := J (zak qa hb); have n1_ := J (hbox); have n2_ := J ((by rw [hg]; exact (zav qa) : w.heap.size ≤ gb133)); have n3_ := J ((by rw [hg]; exact (zav qa) : w.heap.size ≤ gb133)); clear HB; have HB := n0_; have BK133 := n1_; have GW133 := n2_; have GE133 := n3_; clear n0_ n1_ n2_ n3_; clear hb hbox hg) | ((with_reducible refine za2 (N := 2) rfl ?_); refine zbd ?hg (N := 2) ?hd (cs := #[.int .u8 0, .int .u8 0, .int .i64 0, .slice none 0 0]) (t := 24) ?hr ?_; (case hd => rfl); (case hg => rfl); (case hr => first | (go_simp; done) | (go_simp; rfl)); intro gb134 hg w9 hbox hb; have n0_ := J (zaG (g := gb133) (o := .cells #[.int .u8 a0_0, .int .u8 a0_1, .int .i64 a0_2, .slice A0_3 l0_3.length c0_3] 24 (0, 0)) qM hb); have n1_ := J (zak Qc hb); have n2_ := J (hbox); have n3_ := J ((by rw [hg]; exact (zav Qc) : w.heap.size ≤ gb134)); have n4_ := J ((by rw [hg]; exact (zav Qc) : w.heap.size ≤ gb134)); have n5_ := J ((by rw [hg]; exact Nat.ne_of_lt (zaN (g := gb133) (o := .cells #[.int .u8 a0_0, .int .u8 a0_1, .int .i64 a0_2, .slice A0_3 l0_3.length c0_3] 24 (0, 0)) qM) : gb133 ≠ gb134)); have n6_ := J ((by rw [hg]; exact Nat.ne_of_gt (zaN (g := gb133) (o := .cells #[.int .u8 a0_0, .int .u8 a0_1, .int .i64 a0_2, .slice A0_3 l0_3.length c0_3] 24 (0, 0)) qM) : gb134 ≠ gb133)); clear BK133; clear HB; have BK133 := n0_; have HB := n1_; have BK134 := n2_; have GW134 := n3_; have GE134 := n4_; have NB133_134 := n5_; have NB134_133 := n6_; clear n0_ n1_ n2_ n3_ n4_ n5_ n6_; clear hb hbox hg; have hnb10 := NB133_134.out; have hnc10 := NB134_133.out; have hcz11_0 : w9.cell? ⟨gb133, 0, none⟩ = some (.int .u8 a0_0) := (zaf BK133.out 0).trans rfl; have hcz11_1 : w9.cell? ⟨gb133, 1, none⟩ = some (.int .u8 a0_1) := (zaf BK133.out 1).trans rfl; have hcz11_2 : w9.cell? ⟨gb133, 2, none⟩ = some (.int .i64 a0_2) := (zaf BK133.out 2).trans rfl; have hcz11_3 : w9.cell? ⟨gb133, 3, none⟩ = some (.slice A0_3 l0_3.length c0_3) := (zaf BK133.out 3).trans rfl; have hfz11_0 := zab BK133.out 0; have hfz11_1 := zab BK133.out 1; have hfz11_2 := zab BK133.out 2; have hfz11_3 := zab BK133.out 3))
  go_loopg [3, 4] k (fun kq v3 v4 w' => ∃ (x3_1 : List (S24)) (x4_1 : Int), v4 = .int .i64 x4_1 ∧ zaa (zaQ.l0 kq x3_1 x4_1 a0_0 a0_1 a0_2 l0_3 = some (r1, r2, r3, r4)) ∧ zaa (kq ≤ k) ∧ zaa (Kd.R k24 24 w' w.heap.size (fun k_ => k_ ≠ gb133 ∧ k_ ≠ gb134) v3 x3_1) ∧ zaa (w'.heap[gb133]? = some (.cells #[.int .u8 a0_0, .int .u8 a0_1, .int .i64 a0_2, (.slice A0_3 l0_3.length c0_3)] 24 (0, 0))) ∧ zaa (w'.heap[gb134]? = some (.cells #[.int .u8 0, .int .u8 0, .int .i64 0, (.slice none 0 0)] 24 (0, 0))) ∧ zaa (Below w.heap.size w w'))
  case atStart => exact ⟨(([] : List (S24))), (0), qc, H', ⟨Nat.le_refl _⟩, ⟨Qt⟩, ⟨qM⟩, ⟨Qd⟩, ⟨qW⟩⟩
  case round =>
   clear H'; try clear c1
   try clear c2
   try clear c2b0
   try clear c2b1
   try clear c2b2
   try clear p2
   try clear c5
   try clear c10
   try clear hcz11_0
   try clear hcz11_1
   try clear hcz11_2
   try clear hcz11_3
   try clear hcz6_0
   try clear hcz6_1
   try clear hcz6_2
   try clear hcz6_3
   try clear hcz7_0
   try clear hcz7_1
   try clear hcz7_2
   try clear hcz7_3
   try clear hfz11_0
   try clear hfz11_1
   try clear hfz11_2
   try clear hfz11_3
   try clear hfz6_0
   try clear hfz6_1
   try clear hfz6_2
   try clear hfz6_3
   try clear hfz7_0
   try clear hfz7_1
   try clear hfz7_2
   try clear hfz7_3
   obtain ⟨x3_1, x4_1, rfl, HA, HK1, HO_3, BK133, BK134, HB⟩ := hrel; cases gk with
   | zero => exact absurd HA.out (by simp [zaQ.l0])
   | succ k1 =>
    have H := HA.out; clear HA; simp only [zaQ.l0] at H; by_cases c12 : x4_1 < (l0_3.length : Int)
    ·rw [if_pos c12] at H
     have c12b0 : decide (x4_1 < (l0_3.length : Int)) = true := decide_eq_true c12; clear c12; by_cases c13 : 0 ≤ x4_1
     ·rw [if_pos c13] at H
      have c13b0 : decide (0 ≤ x4_1) = true := decide_eq_true c13; clear c13; replace H := Option.bind_eq_some_iff.mp H; obtain ⟨⟨t136, t137, t138, t139⟩, A140, H⟩ := H; replace H : (if x3_1.length < 3518437208883 then (zaQ.l0 k1 (x3_1 ++ [(⟨t136, t137, t138, t139⟩ : S24)]) (wrap64 (x4_1 + 1)) a0_0 a0_1 a0_2 l0_3) else (none)) = some (r1, r2, r3, r4) := H
      have A14 := J A140; clear A140; by_cases c15 : x3_1.length < 3518437208883
      ·rw [if_pos c15] at H
       have LMc15 := J c15; clear c15; obtain ⟨y142, hy142⟩ : ∃ y_ : List (S24), y_ = (x3_1 ++ [(⟨t136, t137, t138, t139⟩ : S24)]) := ⟨_, rfl⟩; replace H : (zaQ.l0 k1 y142 (wrap64 (x4_1 + 1)) a0_0 a0_1 a0_2 l0_3) = some (r1, r2, r3, r4) := by first | (rw [hy142]; with_reducible exact H) | (have H2_ := (Option.bind_some _ _).symm.trans H; rw [hy142]; with_reducible exact H2_) | (have H2_ := (Option.bind_some _ _).symm.trans H; with_reducible exact H2_) | with_reducible exact H | (rw [hy142]; exact H) | exact H
       have Ny142 := J hy142; clear hy142; have H' := J H; clear H; have hnb16 := NB133_134.out; have hnc16 := NB134_133.out; have hcz17_0 : wr.cell? ⟨gb133, 0, none⟩ = some (.int .u8 a0_0) := (zaf BK133.out 0).trans rfl; have hcz17_1 : wr.cell? ⟨gb133, 1, none⟩ = some (.int .u8 a0_1) := (zaf BK133.out 1).trans rfl; have hcz17_2 : wr.cell? ⟨gb133, 2, none⟩ = some (.int .i64 a0_2) := (zaf BK133.out 2).trans rfl; have hcz17_3 : wr.cell? ⟨gb133, 3, none⟩ = some (.slice A0_3 l0_3.length c0_3) := (zaf BK133.out 3).trans rfl; have hfz17_0 := zab BK133.out 0; have hfz17_1 := zab BK133.out 1; have hfz17_2 := zab BK133.out 2; have hfz17_3 := zab BK133.out 3; have p135 : 0 ≤ (x4_1 : Int) := of_decide_eq_true qd
       have q135 : x4_1 < (l0_3.length : Int) := of_decide_eq_true qd
       obtain ⟨ad135, A135_3, c135_3, e135, hx135_0, hx135_1, hx135_2, hx135_3, hl135_3, hi135_3⟩ := at_T24 HR0_3.out x4_1 p135 q135; cases e135; replace hx135_0 := (HB.out.cell (World.block_lt_of_cell? w _ hx135_0)).trans hx135_0; replace hx135_1 := (HB.out.cell (World.block_lt_of_cell? w _ hx135_1)).trans hx135_1; replace hx135_2 := (HB.out.cell (World.block_lt_of_cell? w _ hx135_2)).trans hx135_2; replace hx135_3 := (HB.out.cell (World.block_lt_of_cell? w _ hx135_3)).trans hx135_3; have HR135_3 := J hi135_3; have HC135_3 := J hl135_3; clear hi135_3 hl135_3; replace p135 := eq_true p135; replace q135 := eq_true q135; go_wp2_with (first | ((with_reducible refine zaK (f := 12) rfl ?_); refine zbc (some 24) rfl rfl Try.func12 qb rfl #[.agg #[.int .u8 ((za6 l0_3 x4_1).f0), .int .u8 ((za6 l0_3 x4_1).f1), .int .i64 ((za6 l0_3 x4_1).f2), .slice A135_3 ((za6 l0_3 x4_1).f3).length c135_3]] rfl qi ?_; (with_reducible refine (ih k1 qx ((za6 l0_3 x4_1).f0) ((za6 l0_3 x4_1).f1) ((za6 l0_3 x4_1).f2) _ _ ((za6 l0_3 x4_1).f3) t136 t137 t138 t139 _ ?side1 ?side2 A14.out).mono ?_); (case side1 => repeat (first | exact (Kd.za1 HR135_3.out HB.out) | (with_reducible refine Kd.C_alloc ?_ _) | (with_reducible refine Kd.C_drewN ?_ _) | (with_reducible refine Kd.C_drew ?_))); (case side2 => exact HC135_3.out); rintro e w18 ⟨v140, rfl, ho0, hb⟩; refine ⟨_, rfl, ?_⟩; have n0_ := J (Kd.R_elder' Q8 (Kd.R_base ho0) hb); have n1_ := J (Kd.zbz (Kd.R_newB (Kd.R_newB (Kd.R_new' ho0 (Kd.R_lt Q8)) (g := gb133) (o := .cells #[.int .u8 a0_0, .int .u8 a0_1, .int .i64 a0_2, .slice (some ad135) l0_3.length c0_3] 24 (0, 0)) qM) (g := gb134) (o := .cells #[.int .u8 0, .int .u8 0, .int .i64 0, .slice none 0 0] 24 (0, 0)) Qd) (zav qW)); have n2_ := J (zaG (g := gb133) (o := .cells #[.int .u8 a0_0, .int .u8 a0_1, .int .i64 a0_2, .slice (some ad135) l0_3.length c0_3] 24 (0, 0)) qM hb); have n3_ := J (zaG (g := gb134) (o := .cells #[.int .u8 0, .int .u8 0, .int .i64 0, .slice none 0 0] 24 (0, 0)) Qd hb); have n4_ := J (zak qW hb); clear HO_3; clear BK133; clear BK134; clear HB; have HO_3 := n0_; have HO141 := n1_; have BK133 := n2_; have BK134 := n3_; have HB := n4_; clear n0_ n1_ n2_ n3_ n4_; (try clear hb); (try clear hb2); (try clear hk); (try clear hi); (try clear ho0); obtain ⟨Ao20, co20, eo20⟩ := Kd.za4 HO141.out; subst eo20) | ((with_reducible refine gate_builtin (b := .append) (xs := #[.tmp 18, .tmp 25]) rfl ?_); at_builtin; refine Kd.R_append k24 (w0 := w) w.heap.size rfl (.tmp 18) (.tmp 25) 22 24 (.agg #[(.int .u8 0), (.int .u8 0), (.int .i64 0), (.slice none 0 0)]) 40 rfl Try.underlying22 info24 rfl qe q9 u3 x3_1 (⟨t136, t137, t138, t139⟩ : S24) [.int .u8 t136, .int .u8 t137, .int .i64 t138, .slice Ao20 t139.length co20] (fun k_ => k_ ≠ gb133 ∧ k_ ≠ gb134) (fun k_ => ((fun k_ => k_ ≠ gb133 ∧ k_ ≠ gb134)) k_ ∧ some k_ ≠ (u3 : Value).ownBlock) rfl rfl ?aP (fun _ hk => hk) ?aF ?aO ?aB ?aS ?aL ?_; (case aP => exact k24_mkM _ _ _ (⟨t136, t137, t138, t139⟩ : S24) (Kd.zbl (HO141.out) (fun k_ hk => ⟨⟨hk.1.2, hk.2⟩, hk.1.1.2⟩))); (case aB => exact qW); (case aF => exact (fun k_ hk => ⟨Kd.freshB (g := gb133) (o := .cells #[.int .u8 a0_0, .int .u8 a0_1, .int .i64 a0_2, .slice (some ad135) l0_3.length c0_3] 24 (0, 0)) qM k_ hk, Kd.freshB (g := gb134) (o := .cells #[.int .u8 0, .int .u8 0, .int .i64 0, .slice none 0 0] 24 (0, 0)) Qd k_ hk⟩)); (case aO => exact (by (with_reducible repeat (first | apply Kd.zbo | apply Kd.zbn | apply Kd.zbD)); exact Kd.zbl HO_3.out (fun _ hk => ⟨hk.1.1, hk.1.2⟩))); (case aS => exact (zav qW)); (case aL => have := LMc15.out; omega); intro v143 w19 ho hb hg hat; rw [← Ny142.out] at ho; have n0_ := J (blk_grown (g := gb133) (o := .cells #[.int .u8 a0_0, .int .u8 a0_1, .int .i64 a0_2, .slice (some ad135) l0_3.length c0_3] 24 (0, 0)) qM hg (Kd.R_away HO_3.out (fun _ hk => hk.1.1))); have n1_ := J (blk_grown (g := gb134) (o := .cells #[.int .u8 0, .int .u8 0, .int .i64 0, .slice none 0 0] 24 (0, 0)) Qd hg (Kd.R_away HO_3.out (fun _ hk => hk.1.2))); have n2_ := J (hb); have n3_ := J (ho); clear BK133; clear BK134; clear HB; clear HO_3; clear HO141; have BK133 := n0_; have BK134 := n1_; have HB := n2_; have HO144 := n3_; clear n0_ n1_ n2_ n3_; clear ho hb hg hat))
       go_roundg k1
       case measure => have := HK1.out; omega
       case rel => exact ⟨(y142), (wrap64 (x4_1 + 1)), qc, H', ⟨qx⟩, ⟨by (with_reducible repeat (first | apply Kd.zbo | apply Kd.zbn | apply Kd.zbD)); exact HO144.out⟩, ⟨qM⟩, ⟨Qd⟩, ⟨qW⟩⟩
      ·rw [if_neg c15] at H
       exact absurd H qf
     ·rw [if_neg c13] at H
      exact absurd H qf
    ·rw [if_neg c12] at H
     have c12b0 : decide (x4_1 < (l0_3.length : Int)) = false := decide_eq_false c12; clear c12; simp only [Option.some.injEq, Prod.mk.injEq] at H; obtain ⟨rfl, rfl, rfl, rfl⟩ := H; have hnb21 := NB133_134.out; have hnc21 := NB134_133.out; have hcz22_0 : wr.cell? ⟨gb133, 0, none⟩ = some (.int .u8 a0_0) := (zaf BK133.out 0).trans rfl; have hcz22_1 : wr.cell? ⟨gb133, 1, none⟩ = some (.int .u8 a0_1) := (zaf BK133.out 1).trans rfl; have hcz22_2 : wr.cell? ⟨gb133, 2, none⟩ = some (.int .i64 a0_2) := (zaf BK133.out 2).trans rfl; have hcz22_3 : wr.cell? ⟨gb133, 3, none⟩ = some (.slice A0_3 l0_3.length c0_3) := (zaf BK133.out 3).trans rfl; have hfz22_0 := zab BK133.out 0; have hfz22_1 := zab BK133.out 1; have hfz22_2 := zab BK133.out 2; have hfz22_3 := zab BK133.out 3; obtain ⟨Ao23, co23, eo23⟩ := Kd.za4 HO_3.out; subst eo23; have hcz24_0 : wr.cell? ⟨gb134, 0, none⟩ = some (.int .u8 0) := (zaf BK134.out 0).trans rfl; have hcz24_1 : wr.cell? ⟨gb134, 1, none⟩ = some (.int .u8 0) := (zaf BK134.out 1).trans rfl; have hcz24_2 : wr.cell? ⟨gb134, 2, none⟩ = some (.int .i64 0) := (zaf BK134.out 2).trans rfl; have hcz24_3 : wr.cell? ⟨gb134, 3, none⟩ = some (.slice none 0 0) := (zaf BK134.out 3).trans rfl; have hfz24_0 := zab BK134.out 0; have hfz24_1 := zab BK134.out 1; have hfz24_2 := zab BK134.out 2; have hfz24_3 := zab BK134.out 3; go_wp2
     refine bodyPost_ret (results_cell_row rfl _ _ gb134 24 #[.int .u8 a0_0, .int .u8 a0_1, .int .i64 a0_2, .slice Ao23 x3_1.length co23] (0, 0) _ rfl (by (with_reducible repeat (first | refine zar ?_ _ | refine zaD ?_ | refine zas ?_ _)); refine zbp (cs := #[.int .u8 a0_0, .int .u8 a0_1, .int .i64 a0_2, .slice none 0 0]) ?_ 3 _ rfl; (with_reducible repeat (first | refine zar ?_ _ | refine zaD ?_ | refine zas ?_ _)); refine zbp (cs := #[.int .u8 a0_0, .int .u8 a0_1, .int .i64 0, .slice none 0 0]) ?_ 2 _ rfl; (with_reducible repeat (first | refine zar ?_ _ | refine zaD ?_ | refine zas ?_ _)); refine zbp (cs := #[.int .u8 a0_0, .int .u8 0, .int .i64 0, .slice none 0 0]) ?_ 1 _ rfl; (with_reducible repeat (first | refine zar ?_ _ | refine zaD ?_ | refine zas ?_ _)); refine zbp (cs := #[.int .u8 0, .int .u8 0, .int .i64 0, .slice none 0 0]) ?_ 0 _ rfl; (with_reducible repeat (first | refine zar ?_ _ | refine zaD ?_ | refine zas ?_ _)); refine blk_far ?_ NB134_133.out _; (with_reducible repeat (first | refine zar ?_ _ | refine zaD ?_ | refine zas ?_ _)); exact BK134.out) Try.underlying24 rfl qb) rfl ?_
     exact ⟨_, qg, by (with_reducible repeat (first | apply Kd.zbo | apply Kd.zbn | apply Kd.zbD)); exact Kd.zbl (Kd.R_far (p := ⟨gb134, 3, none⟩) (Kd.R_far (p := ⟨gb134, 2, none⟩) (Kd.R_far (p := ⟨gb134, 1, none⟩) (Kd.R_far (p := ⟨gb134, 0, none⟩) (Kd.R_far (p := ⟨gb133, 3, none⟩) (Kd.zbl (Kd.zbl HO_3.out (fun k_ hk => (⟨hk, hk.1⟩ : _ ∧ k_ ≠ gb133))) (fun k_ hk => (⟨hk, hk.1.2⟩ : _ ∧ k_ ≠ gb134))) (fun _ hk => hk.1.2) (.slice Ao23 x3_1.length co23)) (fun _ hk => hk.2) (.int .u8 a0_0)) (fun _ hk => hk.2) (.int .u8 a0_1)) (fun _ hk => hk.2) (.int .i64 a0_2)) (fun _ hk => hk.2) (.slice Ao23 x3_1.length co23)) (fun _ hk => trivial), qW⟩
end
theorem zbN {α : Type} (d : Kd α) (e t : Nat) {X Y : World} {base n cv bytes : Nat} {ok : Nat → Prop} {Av : Option Addr} {L : List α} {z : Value} (hR : d.R e X base ok (.slice Av n cv) L) (hbase : base ≤ X.heap.size) (hfresh : ∀ k, X.heap.size ≤ k → ok k)
  (ht : Try.prog.underlying t = some (.slice e)) (hinfo : (Try.prog.info? e).map (fun i => (i.zero, i.size, i.bytes)) = some (some z, d.sz, bytes)) (hzs : z.cells.size = d.sz) (hs0 : 0 < d.sz) (hb0 : 0 < bytes) (hl : (L.length + 1) * bytes ≤ 140737488355328)
  (hbY : Below X.heap.size X Y) (p : α) (cs : List Value) (hnew : Y.heap[X.heap.size]? = some (.cells cs.toArray e (0, 0))) (hp : d.M Y base (fun _ => False) p cs) (hcs : cs.length = d.sz) (h1 : ∀ u ∈ cs, u.oneCell' = true) :
  ∃ g cap w1, (Builtin.append_ #[t, t] t #[.slice Av n cv, .slice (some ⟨X.heap.size, 0, none⟩) 1 1]).run Try.prog Y = .ok (.slice (some ⟨g, 0, none⟩) (n + 1) cap) w1 ∧
   X.grownBy w1 (Value.slice Av n cv).ownBlock ∧ ((Value.slice Av n cv).ownBlock = some g ∨ X.heap.size ≤ g) ∧ base ≤ g ∧ n = L.length ∧
   d.R e w1 base ok (.slice (some ⟨g, 0, none⟩) (n + 1) cap) (L ++ [p]) := by
 obtain ⟨i0, hi, hzz⟩ := Option.map_eq_some_iff.1 hinfo; simp only [Prod.mk.injEq] at hzz; obtain ⟨hz0, hz1, hz2⟩ := hzz; have hn : n = L.length := (Kd.zbk hR).1; have hgY : X.grownBy Y none := ⟨hbY.os, hbY.tape, hbY.output, hbY.size, fun q hq _ => hbY.block q hq⟩
 have hRY := Kd.zbx hR hbY; obtain ⟨h0, inner, hown, hr⟩ := hRY; rw [← hn] at hown; obtain ⟨v1, w1, hrun, hown1, hg1, hnil, hat⟩ := run_append_own_at (P := Try.prog) (w := Y) base t t e i0 z d.sz bytes ht hi hz0 hz1 hz2 hzs hs0 _ n inner hown ⟨X.heap.size, 0, none⟩ 1 1 cs (by rw [hcs, Nat.one_mul])
  (fun j u hu => by rw [show (⟨X.heap.size, 0, none⟩ : Addr).add j = ⟨X.heap.size, j, none⟩ by simp [Addr.add, eq_comm], zaf hnew j, List.getElem?_toArray]; exact hu) h1
  (by simp only [maxLen]; rw [hn]; have : L.length + 1 ≤ (L.length + 1) * bytes := Nat.le_mul_of_pos_right _ hb0; omega) (by rw [hn]; exact hl) (Nat.le_trans hbase hbY.size)
 obtain ⟨g, cap, cur, rfl, hbg, hcur, hncap, hcapm, hcs', htake⟩ : ∃ g cap cur, v1 = .slice (some ⟨g, 0, none⟩) (n + 1) cap ∧ base ≤ g ∧ w1.heap[g]? = some (.cells cur e (0, 0)) ∧ n + 1 ≤ cap ∧ cap ≤ maxLen ∧ cur.size = cap * d.sz ∧ cur.toList.take ((n + 1) * d.sz) = inner ++ cs := by
  rcases hown1.2 with ⟨_, h⟩ | h
  ·omega
  ·exact h
 have hat' : (Value.slice (some ⟨g, 0, none⟩) (n + 1) cap).ownBlock = (Value.slice Av n cv).ownBlock ∨ ∃ b, (Value.slice (some ⟨g, 0, none⟩) (n + 1) cap).ownBlock = some b ∧ Y.heap.size ≤ b := hat.imp_right (fun h => ⟨_, h, Nat.le_refl _⟩)
 have hgX : X.grownBy w1 (Value.slice Av n cv).ownBlock := World.grownBy.trans ⟨hbY.os, hbY.tape, hbY.output, hbY.size, fun q hq _ => hbY.block q hq⟩ hg1
 have hgo : (Value.slice Av n cv).ownBlock = some g ∨ X.heap.size ≤ g := by
  rcases hat' with h | ⟨b, h, hb⟩
  ·exact .inl (by rw [← h]; rfl)
  ·simp only [Value.ownBlock, Option.some.injEq] at h
   exact .inr (by have := hbY.size; omega)
 exact ⟨g, cap, w1, hrun, hgX, hgo, hbg, hn, Kd.R_appended h0 hr hp (fun _ h => h.elim) (fun q hq => hfresh q (Nat.le_trans hbY.size hq)) (by rw [← hn]; exact hown1) hg1 hat'⟩
section
attribute [local go_sem] zbi zbg zbu zbv za9 za8 zbh zbf
def zby.f (k : Nat) (a0 : ByteArray) (a1_0 : Int) (a1_1 : Int) (a1_2 : Int) (l1_3 : List (S24)) : Option (Bool) := if a1_0 = 51 then (if a1_2 = (a0.size : Int) then ((zbw.f k a1_0 a1_1 a1_2 l1_3).bind fun t162 => (some t162)) else (some false)) else (some false)
theorem zby.calls (k : Nat) (a0 : ByteArray) (a1_0 : Int) (a1_1 : Int) (a1_2 : Int) (A1_3 : Option Addr) (c1_3 : Nat) (l1_3 : List (S24)) (r : Bool) (w : World) (hr1_3 : Kd.C k24 w A1_3 l1_3.length l1_3) (hc1_3 : l1_3.length ≤ c1_3) (h : zby.f k a0 a1_0 a1_1 a1_2 l1_3 = some r) :
  Calls Try.prog 39 #[.string a0, .agg #[.int .u8 a1_0, .int .u8 a1_1, .int .i64 a1_2, .slice A1_3 l1_3.length c1_3]] w fun e w' => e = .returned (.bool r) ∧ Below w.heap.size w w' := by
 have hu24 := Try.underlying24; have HR1_3 := J hr1_3; have HC1_3 := J hc1_3; clear hr1_3 hc1_3; have HB := J (Below.refl w.heap.size w); have H : (if a1_0 = 51 then (if a1_2 = (a0.size : Int) then ((zbw.f k a1_0 a1_1 a1_2 l1_3).bind fun t162 => (some t162)) else (some false)) else (some false)) = some r := h
 clear h; by_cases c3 : a1_0 = 51
 ·rw [if_pos c3] at H
  have c3b0 : (a1_0 == 51) = true := beq_iff_eq.mpr c3; have c3b1 : (a1_0 != 51) = false := bne_eq_false_iff_eq.mpr c3; clear c3; by_cases c4 : a1_2 = (a0.size : Int)
  ·rw [if_pos c4] at H
   have c4b0 : (a1_2 == (a0.size : Int)) = true := beq_iff_eq.mpr c4; have c4b1 : (a1_2 != (a0.size : Int)) = false := bne_eq_false_iff_eq.mpr c4; clear c4; replace H := Option.bind_eq_some_iff.mp H; obtain ⟨t162, A50, H⟩ := H; replace H : (some t162) = some r := H; have A5 := J A50; clear A50; obtain rfl := Option.some.inj H; go_enter Try.func39, Try.ntmps39
   go_wp2_with (first | ((with_reducible refine za2 (N := 3) rfl ?_); (try (refine zbJ (by rfl) ?_; dsimp only)); refine zbd ?hg (N := 3) ?hd (cs := #[.int .u8 a1_0, .int .u8 a1_1, .int .i64 a1_2, .slice A1_3 l1_3.length c1_3]) (t := 24) ?hr ?_; (case hd => rfl); (case hg => rfl); (case hr => first | (go_simp; done) | (go_simp; rfl)); intro gb161 hg w6 hbox hb; have n0_ := J (zak qa hb); have n1_ := J (hbox); have n2_ := J ((by rw [hg]; exact (zav qa) : w.heap.size ≤ gb161)); have n3_ := J ((by rw [hg]; exact (zav qa) : w.heap.size ≤ gb161)); clear HB; have HB := n0_; have BK161 := n1_; have GW161 := n2_; have GE161 := n3_; clear n0_ n1_ n2_ n3_; clear hb hbox hg; have hcz7_0 : w6.cell? ⟨gb161, 0, none⟩ = some (.int .u8 a1_0) := (zaf BK161.out 0).trans rfl; have hcz7_1 : w6.cell? ⟨gb161, 1, none⟩ = some (.int .u8 a1_1) := (zaf BK161.out 1).trans rfl; have hcz7_2 : w6.cell? ⟨gb161, 2, none⟩ = some (.int .i64 a1_2) := (zaf BK161.out 2).trans rfl; have hcz7_3 : w6.cell? ⟨gb161, 3, none⟩ = some (.slice A1_3 l1_3.length c1_3) := (zaf BK161.out 3).trans rfl; have hfz7_0 := zab BK161.out 0; have hfz7_1 := zab BK161.out 1; have hfz7_2 := zab BK161.out 2; have hfz7_3 := zab BK161.out 3) | (go_at_call 54; (with_reducible refine (zbw.calls k a1_0 a1_1 a1_2 _ _ l1_3 t162 _ ?side1 ?side2 A5.out).mono ?_); (case side1 => repeat (first | exact (Kd.za1 HR1_3.out HB.out) | (with_reducible refine Kd.C_alloc ?_ _) | (with_reducible refine Kd.C_drewN ?_ _) | (with_reducible refine Kd.C_drew ?_))); (case side2 => exact HC1_3.out); rintro e w8 ⟨rfl, hb⟩; have n0_ := J (zaG (g := gb161) (o := .cells #[.int .u8 a1_0, .int .u8 a1_1, .int .i64 a1_2, .slice A1_3 l1_3.length c1_3] 24 (0, 0)) (by (with_reducible repeat (first | refine zar ?_ _ | refine zaD ?_ | refine zas ?_ _)); exact BK161.out) hb); have n1_ := J (zak Qm hb); clear BK161; clear HB; have BK161 := n0_; have HB := n1_; clear n0_ n1_; (try clear hb); (try clear hb2); (try clear hk); (try clear hi)))
   go_ret
   exact ⟨qg, Qm⟩
  ·rw [if_neg c4] at H
   have c4b0 : (a1_2 == (a0.size : Int)) = false := beq_eq_false_iff_ne.mpr c4; have c4b1 : (a1_2 != (a0.size : Int)) = true := bne_iff_ne.mpr c4; obtain rfl := Option.some.inj H; go_enter Try.func39, Try.ntmps39
   go_wp2_with (first | ((with_reducible refine za2 (N := 3) rfl ?_); (try (refine zbJ (by rfl) ?_; dsimp only)); refine zbd ?hg (N := 3) ?hd (cs := #[.int .u8 a1_0, .int .u8 a1_1, .int .i64 a1_2, .slice A1_3 l1_3.length c1_3]) (t := 24) ?hr ?_; (case hd => rfl); (case hg => rfl); (case hr => first | (go_simp; done) | (go_simp; rfl)); intro gb161 hg w9 hbox hb; have n0_ := J (zak qa hb); have n1_ := J (hbox); have n2_ := J ((by rw [hg]; exact (zav qa) : w.heap.size ≤ gb161)); have n3_ := J ((by rw [hg]; exact (zav qa) : w.heap.size ≤ gb161)); clear HB; have HB := n0_; have BK161 := n1_; have GW161 := n2_; have GE161 := n3_; clear n0_ n1_ n2_ n3_; clear hb hbox hg; have hcz10_0 : w9.cell? ⟨gb161, 0, none⟩ = some (.int .u8 a1_0) := (zaf BK161.out 0).trans rfl; have hcz10_1 : w9.cell? ⟨gb161, 1, none⟩ = some (.int .u8 a1_1) := (zaf BK161.out 1).trans rfl; have hcz10_2 : w9.cell? ⟨gb161, 2, none⟩ = some (.int .i64 a1_2) := (zaf BK161.out 2).trans rfl; have hcz10_3 : w9.cell? ⟨gb161, 3, none⟩ = some (.slice A1_3 l1_3.length c1_3) := (zaf BK161.out 3).trans rfl; have hfz10_0 := zab BK161.out 0; have hfz10_1 := zab BK161.out 1; have hfz10_2 := zab BK161.out 2; have hfz10_3 := zab BK161.out 3))
   go_ret
   exact ⟨qg, Qm⟩
 ·rw [if_neg c3] at H
  have c3b0 : (a1_0 == 51) = false := beq_eq_false_iff_ne.mpr c3; have c3b1 : (a1_0 != 51) = true := bne_iff_ne.mpr c3; obtain rfl := Option.some.inj H; go_enter Try.func39, Try.ntmps39
  go_wp2_with (first | ((with_reducible refine za2 (N := 3) rfl ?_); (try (refine zbJ (by rfl) ?_; dsimp only)); refine zbd ?hg (N := 3) ?hd (cs := #[.int .u8 a1_0, .int .u8 a1_1, .int .i64 a1_2, .slice A1_3 l1_3.length c1_3]) (t := 24) ?hr ?_; (case hd => rfl); (case hg => rfl); (case hr => first | (go_simp; done) | (go_simp; rfl)); intro gb161 hg w11 hbox hb; have n0_ := J (zak qa hb); have n1_ := J (hbox); have n2_ := J ((by rw [hg]; exact (zav qa) : w.heap.size ≤ gb161)); have n3_ := J ((by rw [hg]; exact (zav qa) : w.heap.size ≤ gb161)); clear HB; have HB := n0_; have BK161 := n1_; have GW161 := n2_; have GE161 := n3_; clear n0_ n1_ n2_ n3_; clear hb hbox hg; have hcz12_0 : w11.cell? ⟨gb161, 0, none⟩ = some (.int .u8 a1_0) := (zaf BK161.out 0).trans rfl; have hcz12_1 : w11.cell? ⟨gb161, 1, none⟩ = some (.int .u8 a1_1) := (zaf BK161.out 1).trans rfl; have hcz12_2 : w11.cell? ⟨gb161, 2, none⟩ = some (.int .i64 a1_2) := (zaf BK161.out 2).trans rfl; have hcz12_3 : w11.cell? ⟨gb161, 3, none⟩ = some (.slice A1_3 l1_3.length c1_3) := (zaf BK161.out 3).trans rfl; have hfz12_0 := zab BK161.out 0; have hfz12_1 := zab BK161.out 1; have hfz12_2 := zab BK161.out 2; have hfz12_3 := zab BK161.out 3))
  go_ret
  exact ⟨qg, Qm⟩
end
theorem append_elemN {α : Type} (d : Kd α) (e t : Nat) {X Y : World} {base n cv bytes : Nat} {ok okp : Nat → Prop} {Av : Option Addr} {L : List α} {z : Value} (hN : d.N e X base ok (.slice Av n cv) L) (hbase : base ≤ X.heap.size) (hfresh : ∀ k, X.heap.size ≤ k → ok k)
  (ht : Try.prog.underlying t = some (.slice e)) (hinfo : (Try.prog.info? e).map (fun i => (i.zero, i.size, i.bytes)) = some (some z, d.sz, bytes)) (hzs : z.cells.size = d.sz) (hs0 : 0 < d.sz) (hb0 : 0 < bytes) (hl : (L.length + 1) * bytes ≤ 140737488355328)
  (hbY : Below X.heap.size X Y) (p : α) (cs : List Value) (hnew : Y.heap[X.heap.size]? = some (.cells cs.toArray e (0, 0))) (hp : d.FK X okp p cs) (hokp : ∀ k, okp k → ok k ∧ some k ≠ (Value.slice Av n cv).ownBlock) :
  ∃ g cap w1, (Builtin.append_ #[t, t] t #[.slice Av n cv, .slice (some ⟨X.heap.size, 0, none⟩) 1 1]).run Try.prog Y = .ok (.slice (some ⟨g, 0, none⟩) (n + 1) cap) w1 ∧
   X.grownBy w1 (Value.slice Av n cv).ownBlock ∧ ((Value.slice Av n cv).ownBlock = some g ∨ X.heap.size ≤ g) ∧ base ≤ g ∧ n = L.length ∧
   d.N e w1 base ok (.slice (some ⟨g, 0, none⟩) (n + 1) cap) (L ++ [p]) := by
 obtain ⟨h0, rows, hrl, hR, hf⟩ := hN; have hc := Kd.FK_raw hp; obtain ⟨g, cap, w1, hrun, hgr, hat, hbg, hn, hR1⟩ := zbN (Kd.raw d.sz) e t (Kd.raw_any hR) hbase (fun _ _ => trivial) ht hinfo hzs hs0 hb0 (by rw [hrl]; exact hl) hbY cs cs hnew ⟨rfl, hc.2.1, hc.2.2⟩ hc.2.1 hc.2.2
 refine ⟨g, cap, w1, hrun, hgr, hat, hbg, by rw [hn, hrl], ?_⟩
 refine Kd.N_appended (news := [cs]) (ys := [p]) h0 hrl hf rfl (fun j x c hx hc' => ?_) hokp hfresh hR1 hgr (hat.imp (fun h => h.symm) (fun h => ⟨g, qR, h⟩))
 match j, hx, hc' with
 | 0, hx, hc' =>
  simp only [List.getElem?_cons_zero, Option.some.injEq] at hx hc'; subst hx hc'; exact hp
 | j + 1, hx, _ => simp at hx
section
attribute [local go_sem] zbi zbg zbu zbv za9 za8 zbh zbf
def zaY.f (a0 : Int) : Option (Bool) := if a0 = 32 then (some true) else (if a0 = 9 then (some true) else (if a0 = 10 then (some true) else (some (a0 == 13))))
theorem zaY.calls (a0 : Int) (r : Bool) (w : World) (h : zaY.f a0 = some r) :
  Calls Try.prog 24 #[.int .u8 a0] w fun e w' => e = .returned (.bool r) ∧ zat w w' := by
 have H : (if a0 = 32 then (some true) else (if a0 = 9 then (some true) else (if a0 = 10 then (some true) else (some (a0 == 13))))) = some r := h
 clear h; by_cases c2 : a0 = 32
 ·rw [if_pos c2] at H
  have c2b0 : (a0 == 32) = true := beq_iff_eq.mpr c2; have c2b1 : (a0 != 32) = false := bne_eq_false_iff_eq.mpr c2; clear c2; obtain rfl := Option.some.inj H; go_enter Try.func24, Try.ntmps24
  go_wp2
  go_ret
  exact ⟨qc, qh⟩
 ·rw [if_neg c2] at H
  have c2b0 : (a0 == 32) = false := beq_eq_false_iff_ne.mpr c2; have c2b1 : (a0 != 32) = true := bne_iff_ne.mpr c2; by_cases c3 : a0 = 9
  ·rw [if_pos c3] at H
   have c3b0 : (a0 == 9) = true := beq_iff_eq.mpr c3; have c3b1 : (a0 != 9) = false := bne_eq_false_iff_eq.mpr c3; clear c3; obtain rfl := Option.some.inj H; go_enter Try.func24, Try.ntmps24
   go_wp2
   go_ret
   exact ⟨qc, qh⟩
  ·rw [if_neg c3] at H
   have c3b0 : (a0 == 9) = false := beq_eq_false_iff_ne.mpr c3; have c3b1 : (a0 != 9) = true := bne_iff_ne.mpr c3; by_cases c4 : a0 = 10
   ·rw [if_pos c4] at H
    have c4b0 : (a0 == 10) = true := beq_iff_eq.mpr c4; have c4b1 : (a0 != 10) = false := bne_eq_false_iff_eq.mpr c4; clear c4; obtain rfl := Option.some.inj H; go_enter Try.func24, Try.ntmps24
    go_wp2
    go_ret
    exact ⟨qc, qh⟩
   ·rw [if_neg c4] at H
    have c4b0 : (a0 == 10) = false := beq_eq_false_iff_ne.mpr c4; have c4b1 : (a0 != 10) = true := bne_iff_ne.mpr c4; obtain rfl := Option.some.inj H; go_enter Try.func24, Try.ntmps24
    go_wp2
    go_ret
    exact ⟨qc, qh⟩
mutual
def zao.j0 : Nat → ByteArray → Int → Bool → Option (Int × Int)
 | 0, _, _, _ => none
 | k + 1, x0, x1, x19 => if x19 = true then (zao.l0 k x0 x1) else (if (wrap64 (x1 + 1)) < (x0.size : Int) then (if 0 ≤ (wrap64 (x1 + 1)) then (zao.j2 k x0 x1 ((bt x0 (wrap64 (x1 + 1))) == 42)) else (none)) else (zao.j2 k x0 x1 false))
def zao.l0 : Nat → ByteArray → Int → Option (Int × Int)
 | 0, _, _ => none
 | k + 1, x0, x6 => if x6 < (x0.size : Int) then (if 0 ≤ x6 then (if (bt x0 x6) = 10 then (some (2, x6)) else (if (bt x0 x6) = 13 then (some (2, x6)) else (zao.l0 k x0 (wrap64 (x6 + 1))))) else (none)) else (some (2, x6))
def zao.j2 : Nat → ByteArray → Int → Bool → Option (Int × Int)
 | 0, _, _, _ => none
 | k + 1, x0, x1, x51 => if x51 = true then (zao.l1 k x0 (wrap64 (x1 + 2))) else (some (36, wrap64 (x1 + 1)))
def zao.l1 : Nat → ByteArray → Int → Option (Int × Int)
 | 0, _, _ => none
 | k + 1, x0, x7 => if (wrap64 (x7 + 1)) < (x0.size : Int) then (if 0 ≤ x7 then (if x7 < (x0.size : Int) then (if (bt x0 x7) = 42 then (if 0 ≤ (wrap64 (x7 + 1)) then (if (bt x0 (wrap64 (x7 + 1))) = 47 then (some (3, wrap64 (x7 + 2))) else (zao.l1 k x0 (wrap64 (x7 + 1)))) else (none)) else (zao.l1 k x0 (wrap64 (x7 + 1)))) else (none)) else (none)) else (some (4, (x0.size : Int)))
end
def zao.f (k : Nat) (a0 : ByteArray) (a1 : Int) : Option (Int × Int) := if (wrap64 (a1 + 1)) < (a0.size : Int) then (if 0 ≤ (wrap64 (a1 + 1)) then (zao.j0 k a0 a1 ((bt a0 (wrap64 (a1 + 1))) == 47)) else (none)) else (zao.j0 k a0 a1 false)
theorem zao.calls (k : Nat) (a0 : ByteArray) (a1 : Int) (r1 : Int) (r2 : Int) (w : World) (h : zao.f k a0 a1 = some (r1, r2)) :
  Calls Try.prog 25 #[.string a0, .int .i64 a1] w fun e w' => e = .returned (.tuple #[.int .u8 r1, .int .i64 r2]) ∧ zat w w' := by
 have H : (if (wrap64 (a1 + 1)) < (a0.size : Int) then (if 0 ≤ (wrap64 (a1 + 1)) then (zao.j0 k a0 a1 ((bt a0 (wrap64 (a1 + 1))) == 47)) else (none)) else (zao.j0 k a0 a1 false)) = some (r1, r2) := h
 clear h; have HC3 := J H; clear H; go_enter Try.func25, Try.ntmps25
 go_upto_region 1 with (fail)
 go_cut [19] (fun v19 wc => ∃ (kq : Nat) (x19_2 : Bool), v19 = .bool x19_2 ∧ zaa (zao.j0 kq a0 a1 x19_2 = some (r1, r2)) ∧ zaa (kq ≤ k) ∧ zat w wc)
 case first =>
  have H := HC3.out; clear HC3; by_cases c4 : (wrap64 (a1 + 1)) < (a0.size : Int)
  ·rw [if_pos c4] at H
   have c4b0 : decide ((wrap64 (a1 + 1)) < (a0.size : Int)) = true := decide_eq_true c4; clear c4
   (first | rw [c4b0] | (simp only [i64_w, i32_w]; rw [c4b0]) | skip)
   obtain ⟨ji5, hji5⟩ : ∃ j_ : Int, (wrap64 (a1 + 1)) = j_ := ⟨_, rfl⟩; replace H : (if 0 ≤ (ji5) then (zao.j0 k a0 a1 ((bt a0 (ji5)) == 47)) else (none)) = some (r1, r2) := by first | (rw [hji5] at H; exact H) | (simp only [hji5] at H ⊢; exact H)
   (try rw [hji5] at c4b0)
   have hji5w : (IntKind.i64.wrap (a1 + 1)) = ji5 := (i64_w _).trans hji5; by_cases c6 : 0 ≤ (ji5)
   ·rw [if_pos c6] at H
    have c6b0 : decide (0 ≤ (ji5)) = true := decide_eq_true c6; clear c6; have H' := J H; clear H; have p7 : 0 ≤ ((ji5) : Int) := of_decide_eq_true qd
    have q7 : (ji5) < (a0.size : Int) := of_decide_eq_true qd
    have hx7 := bt_at a0 (ji5); replace p7 := eq_true p7; replace q7 := eq_true q7; go_wp2
    go_meet
    case rel => exact ⟨_, (((bt a0 (ji5)) == 47)), (by first | rfl | (simp; done) | (simp only [← hji5] <;> (first | rfl | simp)) | simp [*]), H', ⟨qA⟩, qh⟩
   ·rw [if_neg c6] at H
    exact absurd H qf
  ·rw [if_neg c4] at H
   have c4b0 : decide ((wrap64 (a1 + 1)) < (a0.size : Int)) = false := decide_eq_false c4; clear c4
   (first | rw [c4b0] | (simp only [i64_w, i32_w]; rw [c4b0]) | skip)
   have H' := J H; clear H; go_wp2
   go_meet
   case rel => exact ⟨_, (false), qc, H', ⟨qA⟩, qh⟩
 case rest =>
  clear HC3; try clear c2
  try clear p2
  try clear c4
  try clear c4b0
  try clear c6
  try clear c6b0
  try clear p6
  try clear p7
  try clear q7
  try clear hx7
  try clear p7
  try clear q7
  obtain ⟨kq, x19_2, rfl, HA, HJ2, ⟨mc2, rfl⟩⟩ := hcut; cases kq with
  | zero => exact absurd HA.out (by simp [zao.j0])
  | succ kj2 =>
   have H := HA.out; clear HA; simp only [zao.j0] at H; by_cases c8 : x19_2 = true
   ·subst c8
    have H1 : (zao.l0 kj2 a0 a1) = some (r1, r2) := by rw [if_pos rfl] at H; exact H
    clear H; have H := H1; clear H1; have H' := J H; clear H; go_wp2
    go_loopg [6] kj2 (fun kq v6 w' => ∃ (x6_2 : Int), v6 = .int .i64 x6_2 ∧ zaa (zao.l0 kq a0 x6_2 = some (r1, r2)) ∧ zaa (kq ≤ kj2) ∧ zat w w')
    case atStart => exact ⟨(a1), qc, H', ⟨Nat.le_refl _⟩, qh⟩
    case round =>
     clear H'; try clear c2
     try clear p2
     try clear c4
     try clear c4b0
     try clear c6
     try clear c6b0
     try clear p6
     try clear p7
     try clear q7
     try clear hx7
     try clear c8
     try clear p2
     try clear p6
     try clear p7
     try clear q7
     obtain ⟨x6_2, rfl, HA, HK2, ⟨m2, rfl⟩⟩ := hrel; cases gk with
     | zero => exact absurd HA.out (by simp [zao.l0])
     | succ k2 =>
      have H := HA.out; clear HA; simp only [zao.l0] at H; by_cases c9 : x6_2 < (a0.size : Int)
      ·rw [if_pos c9] at H
       have c9b0 : decide (x6_2 < (a0.size : Int)) = true := decide_eq_true c9; clear c9; by_cases c10 : 0 ≤ x6_2
       ·rw [if_pos c10] at H
        have c10b0 : decide (0 ≤ x6_2) = true := decide_eq_true c10; clear c10; by_cases c12 : (bt a0 x6_2) = 10
        ·rw [if_pos c12] at H
         have c12b0 : ((bt a0 x6_2) == 10) = true := beq_iff_eq.mpr c12; have c12b1 : ((bt a0 x6_2) != 10) = false := bne_eq_false_iff_eq.mpr c12; clear c12; simp only [Option.some.injEq, Prod.mk.injEq] at H; obtain ⟨rfl, rfl⟩ := H; have p11 : 0 ≤ (x6_2 : Int) := of_decide_eq_true qd
         have q11 : x6_2 < (a0.size : Int) := of_decide_eq_true qd
         have hx11 := bt_at a0 x6_2; replace p11 := eq_true p11; replace q11 := eq_true q11; go_wp2
         go_ret2
         exact ⟨qc, qh⟩
        ·rw [if_neg c12] at H
         have c12b0 : ((bt a0 x6_2) == 10) = false := beq_eq_false_iff_ne.mpr c12; have c12b1 : ((bt a0 x6_2) != 10) = true := bne_iff_ne.mpr c12; by_cases c14 : (bt a0 x6_2) = 13
         ·rw [if_pos c14] at H
          have c14b0 : ((bt a0 x6_2) == 13) = true := beq_iff_eq.mpr c14; have c14b1 : ((bt a0 x6_2) != 13) = false := bne_eq_false_iff_eq.mpr c14; clear c14; simp only [Option.some.injEq, Prod.mk.injEq] at H; obtain ⟨rfl, rfl⟩ := H; have p11 : 0 ≤ (x6_2 : Int) := of_decide_eq_true qd
          have q11 : x6_2 < (a0.size : Int) := of_decide_eq_true qd
          have hx11 := bt_at a0 x6_2; replace p11 := eq_true p11; replace q11 := eq_true q11; have p13 : 0 ≤ (x6_2 : Int) := of_decide_eq_true qd
          have q13 : x6_2 < (a0.size : Int) := of_decide_eq_true qd
          have hx13 := bt_at a0 x6_2; replace p13 := eq_true p13; replace q13 := eq_true q13; go_wp2
          go_ret2
          exact ⟨qc, qh⟩
         ·rw [if_neg c14] at H
          have c14b0 : ((bt a0 x6_2) == 13) = false := beq_eq_false_iff_ne.mpr c14; have c14b1 : ((bt a0 x6_2) != 13) = true := bne_iff_ne.mpr c14; have H' := J H; clear H; have p11 : 0 ≤ (x6_2 : Int) := of_decide_eq_true qd
          have q11 : x6_2 < (a0.size : Int) := of_decide_eq_true qd
          have hx11 := bt_at a0 x6_2; replace p11 := eq_true p11; replace q11 := eq_true q11; have p13 : 0 ≤ (x6_2 : Int) := of_decide_eq_true qd
          have q13 : x6_2 < (a0.size : Int) := of_decide_eq_true qd
          have hx13 := bt_at a0 x6_2; replace p13 := eq_true p13; replace q13 := eq_true q13; go_wp2
          go_roundg k2
          case measure => have := HJ2.out; have := HK2.out; omega
          case rel => exact ⟨(wrap64 (x6_2 + 1)), qc, H', ⟨by have := HJ2.out; have := HK2.out; omega⟩, qh⟩
       ·rw [if_neg c10] at H
        exact absurd H qf
      ·rw [if_neg c9] at H
       have c9b0 : decide (x6_2 < (a0.size : Int)) = false := decide_eq_false c9; clear c9; simp only [Option.some.injEq, Prod.mk.injEq] at H; obtain ⟨rfl, rfl⟩ := H; go_wp2
       go_ret2
       exact ⟨qc, qh⟩
   ·replace c8 := Bool.eq_false_iff.mpr c8
    subst c8; have H1 : (if (wrap64 (a1 + 1)) < (a0.size : Int) then (if 0 ≤ (wrap64 (a1 + 1)) then (zao.j2 kj2 a0 a1 ((bt a0 (wrap64 (a1 + 1))) == 42)) else (none)) else (zao.j2 kj2 a0 a1 false)) = some (r1, r2) := by rw [if_neg (show ¬ (false = true) by decide)] at H; exact H
    clear H; have H := H1; clear H1; have HC15 := J H; clear H; go_upto_region 6 with (fail)
    go_cut [51] (fun v51 wc => ∃ (kq : Nat) (x51_14 : Bool), v51 = .bool x51_14 ∧ zaa (zao.j2 kq a0 a1 x51_14 = some (r1, r2)) ∧ zaa (kq ≤ kj2) ∧ zat w wc)
    case first =>
     have H := HC15.out; clear HC15; by_cases c16 : (wrap64 (a1 + 1)) < (a0.size : Int)
     ·rw [if_pos c16] at H
      have c16b0 : decide ((wrap64 (a1 + 1)) < (a0.size : Int)) = true := decide_eq_true c16; clear c16
      (first | rw [c16b0] | (simp only [i64_w, i32_w]; rw [c16b0]) | skip)
      obtain ⟨ji17, hji17⟩ : ∃ j_ : Int, (wrap64 (a1 + 1)) = j_ := ⟨_, rfl⟩; replace H : (if 0 ≤ (ji17) then (zao.j2 kj2 a0 a1 ((bt a0 (ji17)) == 42)) else (none)) = some (r1, r2) := by first | (rw [hji17] at H; exact H) | (simp only [hji17] at H ⊢; exact H)
      (try rw [hji17] at c16b0)
      have hji17w : (IntKind.i64.wrap (a1 + 1)) = ji17 := (i64_w _).trans hji17; by_cases c18 : 0 ≤ (ji17)
      ·rw [if_pos c18] at H
       have c18b0 : decide (0 ≤ (ji17)) = true := decide_eq_true c18; clear c18; have H' := J H; clear H; have p19 : 0 ≤ ((ji17) : Int) := of_decide_eq_true qd
       have q19 : (ji17) < (a0.size : Int) := of_decide_eq_true qd
       have hx19 := bt_at a0 (ji17); replace p19 := eq_true p19; replace q19 := eq_true q19; go_wp2
       go_meet
       case rel => exact ⟨_, (((bt a0 (ji17)) == 42)), (by first | rfl | (simp; done) | (simp only [← hji17] <;> (first | rfl | simp)) | simp [*]), H', ⟨Qe⟩, qh⟩
      ·rw [if_neg c18] at H
       exact absurd H qf
     ·rw [if_neg c16] at H
      have c16b0 : decide ((wrap64 (a1 + 1)) < (a0.size : Int)) = false := decide_eq_false c16; clear c16
      (first | rw [c16b0] | (simp only [i64_w, i32_w]; rw [c16b0]) | skip)
      have H' := J H; clear H; go_wp2
      go_meet
      case rel => exact ⟨_, (false), qc, H', ⟨Qe⟩, qh⟩
    case rest =>
     clear HC15; try clear c1
     try clear p1
     try clear q1
     try clear hx1
     try clear c2
     try clear p2
     try clear c4
     try clear c4b0
     try clear c6
     try clear c6b0
     try clear p6
     try clear p7
     try clear q7
     try clear hx7
     try clear c8
     try clear c9
     try clear c9b0
     try clear c10
     try clear c10b0
     try clear p11
     try clear q11
     try clear hx11
     try clear c12
     try clear c12b0
     try clear c12b1
     try clear p13
     try clear q13
     try clear hx13
     try clear c14
     try clear c14b0
     try clear c14b1
     try clear c16
     try clear c16b0
     try clear c18
     try clear c18b0
     try clear p19
     try clear q19
     try clear hx19
     try clear p11
     try clear p13
     try clear p19
     try clear p2
     try clear p6
     try clear p7
     try clear q11
     try clear q13
     try clear q19
     try clear q7
     obtain ⟨kq, x51_14, rfl, HA, HJ14, ⟨mc14, rfl⟩⟩ := hcut; cases kq with
     | zero => exact absurd HA.out (by simp [zao.j2])
     | succ kj14 =>
      have H := HA.out; clear HA; simp only [zao.j2] at H; by_cases c20 : x51_14 = true
      ·subst c20
       have H1 : (zao.l1 kj14 a0 (wrap64 (a1 + 2))) = some (r1, r2) := by rw [if_pos rfl] at H; exact H
       clear H; have H := H1; clear H1; have H' := J H; clear H; go_wp2
       go_loopg [7] kj14 (fun kq v7 w' => ∃ (x7_3 : Int), v7 = .int .i64 x7_3 ∧ zaa (zao.l1 kq a0 x7_3 = some (r1, r2)) ∧ zaa (kq ≤ kj14) ∧ zat w w')
       case atStart => exact ⟨(wrap64 (a1 + 2)), qc, H', ⟨Nat.le_refl _⟩, qh⟩
       case round =>
        clear H'; try clear c1
        try clear p1
        try clear q1
        try clear hx1
        try clear c2
        try clear p2
        try clear c4
        try clear c4b0
        try clear c6
        try clear c6b0
        try clear p6
        try clear p7
        try clear q7
        try clear hx7
        try clear c8
        try clear c9
        try clear c9b0
        try clear c10
        try clear c10b0
        try clear p11
        try clear q11
        try clear hx11
        try clear c12
        try clear c12b0
        try clear c12b1
        try clear p13
        try clear q13
        try clear hx13
        try clear c14
        try clear c14b0
        try clear c14b1
        try clear c16
        try clear c16b0
        try clear c18
        try clear c18b0
        try clear p19
        try clear q19
        try clear hx19
        try clear c20
        try clear p1
        try clear p11
        try clear p13
        try clear p19
        try clear p2
        try clear p6
        try clear p7
        try clear q1
        try clear q11
        try clear q13
        try clear q19
        try clear q7
        obtain ⟨x7_3, rfl, HA, HK3, ⟨m3, rfl⟩⟩ := hrel; cases gk with
        | zero => exact absurd HA.out (by simp [zao.l1])
        | succ k3 =>
         have H := HA.out; clear HA; simp only [zao.l1] at H; by_cases c21 : (wrap64 (x7_3 + 1)) < (a0.size : Int)
         ·rw [if_pos c21] at H
          have c21b0 : decide ((wrap64 (x7_3 + 1)) < (a0.size : Int)) = true := decide_eq_true c21; clear c21; by_cases c22 : 0 ≤ x7_3
          ·rw [if_pos c22] at H
           have c22b0 : decide (0 ≤ x7_3) = true := decide_eq_true c22; clear c22; by_cases c23 : x7_3 < (a0.size : Int)
           ·rw [if_pos c23] at H
            have c23b0 : decide (x7_3 < (a0.size : Int)) = true := decide_eq_true c23; clear c23; by_cases c25 : (bt a0 x7_3) = 42
            ·rw [if_pos c25] at H
             have c25b0 : ((bt a0 x7_3) == 42) = true := beq_iff_eq.mpr c25; have c25b1 : ((bt a0 x7_3) != 42) = false := bne_eq_false_iff_eq.mpr c25; clear c25; obtain ⟨ji26, hji26⟩ : ∃ j_ : Int, (wrap64 (x7_3 + 1)) = j_ := ⟨_, rfl⟩; replace H : (if 0 ≤ (ji26) then (if (bt a0 (ji26)) = 47 then (some (3, wrap64 (x7_3 + 2))) else (zao.l1 k3 a0 ji26)) else (none)) = some (r1, r2) := by first | (rw [hji26] at H; exact H) | (simp only [hji26] at H ⊢; exact H)
             (try rw [hji26] at c21b0)
             have hji26w : (IntKind.i64.wrap (x7_3 + 1)) = ji26 := (i64_w _).trans hji26; by_cases c27 : 0 ≤ (ji26)
             ·rw [if_pos c27] at H
              have c27b0 : decide (0 ≤ (ji26)) = true := decide_eq_true c27; clear c27; by_cases c29 : (bt a0 (ji26)) = 47
              ·rw [if_pos c29] at H
               have c29b0 : ((bt a0 (ji26)) == 47) = true := beq_iff_eq.mpr c29; have c29b1 : ((bt a0 (ji26)) != 47) = false := bne_eq_false_iff_eq.mpr c29; clear c29; simp only [Option.some.injEq, Prod.mk.injEq] at H; obtain ⟨rfl, rfl⟩ := H; have p24 : 0 ≤ (x7_3 : Int) := of_decide_eq_true qd
               have q24 : x7_3 < (a0.size : Int) := of_decide_eq_true qd
               have hx24 := bt_at a0 x7_3; replace p24 := eq_true p24; replace q24 := eq_true q24; have p28 : 0 ≤ ((ji26) : Int) := of_decide_eq_true qd
               have q28 : (ji26) < (a0.size : Int) := of_decide_eq_true qd
               have hx28 := bt_at a0 (ji26); replace p28 := eq_true p28; replace q28 := eq_true q28; go_wp2
               go_ret2
               exact ⟨by first | rfl | (simp; done) | (simp only [← hji26] <;> (first | rfl | simp)) | simp [*], qh⟩
              ·rw [if_neg c29] at H
               have c29b0 : ((bt a0 (ji26)) == 47) = false := beq_eq_false_iff_ne.mpr c29; have c29b1 : ((bt a0 (ji26)) != 47) = true := bne_iff_ne.mpr c29; have H' := J H; clear H; have p24 : 0 ≤ (x7_3 : Int) := of_decide_eq_true qd
               have q24 : x7_3 < (a0.size : Int) := of_decide_eq_true qd
               have hx24 := bt_at a0 x7_3; replace p24 := eq_true p24; replace q24 := eq_true q24; have p28 : 0 ≤ ((ji26) : Int) := of_decide_eq_true qd
               have q28 : (ji26) < (a0.size : Int) := of_decide_eq_true qd
               have hx28 := bt_at a0 (ji26); replace p28 := eq_true p28; replace q28 := eq_true q28; go_wp2
               go_roundg k3
               case measure => have := HJ2.out; have := HJ14.out; have := HK3.out; omega
               case rel => exact ⟨(ji26), (by first | rfl | (simp; done) | (simp only [← hji26] <;> (first | rfl | simp)) | simp [*]), H', ⟨by have := HJ2.out; have := HJ14.out; have := HK3.out; omega⟩, qh⟩
             ·rw [if_neg c27] at H
              exact absurd H qf
            ·rw [if_neg c25] at H
             have c25b0 : ((bt a0 x7_3) == 42) = false := beq_eq_false_iff_ne.mpr c25; have c25b1 : ((bt a0 x7_3) != 42) = true := bne_iff_ne.mpr c25; have H' := J H; clear H; have p24 : 0 ≤ (x7_3 : Int) := of_decide_eq_true qd
             have q24 : x7_3 < (a0.size : Int) := of_decide_eq_true qd
             have hx24 := bt_at a0 x7_3; replace p24 := eq_true p24; replace q24 := eq_true q24; go_wp2
             go_roundg k3
             case measure => have := HJ2.out; have := HJ14.out; have := HK3.out; omega
             case rel => exact ⟨(wrap64 (x7_3 + 1)), qc, H', ⟨by have := HJ2.out; have := HJ14.out; have := HK3.out; omega⟩, qh⟩
           ·rw [if_neg c23] at H
            exact absurd H qf
          ·rw [if_neg c22] at H
           exact absurd H qf
         ·rw [if_neg c21] at H
          have c21b0 : decide ((wrap64 (x7_3 + 1)) < (a0.size : Int)) = false := decide_eq_false c21; clear c21; simp only [Option.some.injEq, Prod.mk.injEq] at H; obtain ⟨rfl, rfl⟩ := H; go_wp2
          go_ret2
          exact ⟨qc, qh⟩
      ·replace c20 := Bool.eq_false_iff.mpr c20
       subst c20; have H1 : (some (36, wrap64 (a1 + 1))) = some (r1, r2) := by rw [if_neg (show ¬ (false = true) by decide)] at H; exact H
       clear H; have H := H1; clear H1; simp only [Option.some.injEq, Prod.mk.injEq] at H; obtain ⟨rfl, rfl⟩ := H; go_wp2
       go_ret2
       exact ⟨qc, qh⟩
def zaV.f (a0 : Int) : Option (Bool) := if a0 ≥ 97 then (if a0 ≤ 122 then (some true) else (if a0 ≥ 65 then (if a0 ≤ 90 then (some true) else (some (a0 == 95))) else (some (a0 == 95)))) else (if a0 ≥ 65 then (if a0 ≤ 90 then (some true) else (some (a0 == 95))) else (some (a0 == 95)))
theorem zaV.calls (a0 : Int) (r : Bool) (w : World) (h : zaV.f a0 = some r) :
  Calls Try.prog 26 #[.int .u8 a0] w fun e w' => e = .returned (.bool r) ∧ zat w w' := by
 have H : (if a0 ≥ 97 then (if a0 ≤ 122 then (some true) else (if a0 ≥ 65 then (if a0 ≤ 90 then (some true) else (some (a0 == 95))) else (some (a0 == 95)))) else (if a0 ≥ 65 then (if a0 ≤ 90 then (some true) else (some (a0 == 95))) else (some (a0 == 95)))) = some r := h
 clear h; by_cases c2 : a0 ≥ 97
 ·rw [if_pos c2] at H
  have c2b0 : decide (97 ≤ a0) = true := decide_eq_true c2; clear c2; by_cases c3 : a0 ≤ 122
  ·rw [if_pos c3] at H
   have c3b0 : decide (a0 ≤ 122) = true := decide_eq_true c3; clear c3; obtain rfl := Option.some.inj H; go_enter Try.func26, Try.ntmps26
   go_wp2
   go_ret
   exact ⟨qc, qh⟩
  ·rw [if_neg c3] at H
   have c3b0 : decide (a0 ≤ 122) = false := decide_eq_false c3; clear c3; by_cases c4 : a0 ≥ 65
   ·rw [if_pos c4] at H
    have c4b0 : decide (65 ≤ a0) = true := decide_eq_true c4; clear c4; by_cases c5 : a0 ≤ 90
    ·rw [if_pos c5] at H
     have c5b0 : decide (a0 ≤ 90) = true := decide_eq_true c5; clear c5; obtain rfl := Option.some.inj H; go_enter Try.func26, Try.ntmps26
     go_wp2
     go_ret
     exact ⟨qc, qh⟩
    ·rw [if_neg c5] at H
     have c5b0 : decide (a0 ≤ 90) = false := decide_eq_false c5; clear c5; obtain rfl := Option.some.inj H; go_enter Try.func26, Try.ntmps26
     go_wp2
     go_ret
     exact ⟨qc, qh⟩
   ·rw [if_neg c4] at H
    have c4b0 : decide (65 ≤ a0) = false := decide_eq_false c4; clear c4; obtain rfl := Option.some.inj H; go_enter Try.func26, Try.ntmps26
    go_wp2
    go_ret
    exact ⟨qc, qh⟩
 ·rw [if_neg c2] at H
  have c2b0 : decide (97 ≤ a0) = false := decide_eq_false c2; clear c2; by_cases c6 : a0 ≥ 65
  ·rw [if_pos c6] at H
   have c6b0 : decide (65 ≤ a0) = true := decide_eq_true c6; clear c6; by_cases c7 : a0 ≤ 90
   ·rw [if_pos c7] at H
    have c7b0 : decide (a0 ≤ 90) = true := decide_eq_true c7; clear c7; obtain rfl := Option.some.inj H; go_enter Try.func26, Try.ntmps26
    go_wp2
    go_ret
    exact ⟨qc, qh⟩
   ·rw [if_neg c7] at H
    have c7b0 : decide (a0 ≤ 90) = false := decide_eq_false c7; clear c7; obtain rfl := Option.some.inj H; go_enter Try.func26, Try.ntmps26
    go_wp2
    go_ret
    exact ⟨qc, qh⟩
  ·rw [if_neg c6] at H
   have c6b0 : decide (65 ≤ a0) = false := decide_eq_false c6; clear c6; obtain rfl := Option.some.inj H; go_enter Try.func26, Try.ntmps26
   go_wp2
   go_ret
   exact ⟨qc, qh⟩
def zaO.f (a0 : Int) : Option (Bool) := if a0 ≥ 48 then (some (decide (a0 ≤ 57))) else (some false)
theorem zaO.calls (a0 : Int) (r : Bool) (w : World) (h : zaO.f a0 = some r) :
  Calls Try.prog 27 #[.int .u8 a0] w fun e w' => e = .returned (.bool r) ∧ zat w w' := by
 have H : (if a0 ≥ 48 then (some (decide (a0 ≤ 57))) else (some false)) = some r := h
 clear h; by_cases c2 : a0 ≥ 48
 ·rw [if_pos c2] at H
  have c2b0 : decide (48 ≤ a0) = true := decide_eq_true c2; clear c2; obtain rfl := Option.some.inj H; go_enter Try.func27, Try.ntmps27
  go_wp2
  go_ret
  exact ⟨qc, qh⟩
 ·rw [if_neg c2] at H
  have c2b0 : decide (48 ≤ a0) = false := decide_eq_false c2; clear c2; obtain rfl := Option.some.inj H; go_enter Try.func27, Try.ntmps27
  go_wp2
  go_ret
  exact ⟨qc, qh⟩
def zaS.l0 : Nat → ByteArray → List ByteArray → Int → Option (Int)
 | 0, _, _, _ => none
 | k + 1, x0, x3, x4 => if x4 < (x3.length : Int) then (if 0 ≤ x4 then (if (rdOf ByteArray.empty x3 x4).toList = x0.toList then (some ((10 + ((x4) % 256)) % 256)) else (zaS.l0 k x0 x3 (wrap64 (x4 + 1)))) else (none)) else (some 6)
def zaS.f (k : Nat) (a0 : ByteArray) : Option (Int) := zaS.l0 k a0 (([(⟨#[108, 101, 116]⟩ : ByteArray), (⟨#[102, 110]⟩ : ByteArray), (⟨#[105, 102]⟩ : ByteArray), (⟨#[101, 108, 115, 101]⟩ : ByteArray), (⟨#[119, 104, 105, 108, 101]⟩ : ByteArray), (⟨#[114, 101, 116, 117, 114, 110]⟩ : ByteArray), (⟨#[116, 114, 117, 101]⟩ : ByteArray), (⟨#[102, 97, 108, 115, 101]⟩ : ByteArray)] : List ByteArray)) 0
theorem zaS.calls (k : Nat) (a0 : ByteArray) (r : Int) (w : World) (h : zaS.f k a0 = some r) :
  Calls Try.prog 28 #[.string a0] w fun e w' => e = .returned (.int .u8 r) ∧ Below w.heap.size w w' := by
 have HB := J (Below.refl w.heap.size w); have H : (zaS.l0 k a0 (([(⟨#[108, 101, 116]⟩ : ByteArray), (⟨#[102, 110]⟩ : ByteArray), (⟨#[105, 102]⟩ : ByteArray), (⟨#[101, 108, 115, 101]⟩ : ByteArray), (⟨#[119, 104, 105, 108, 101]⟩ : ByteArray), (⟨#[114, 101, 116, 117, 114, 110]⟩ : ByteArray), (⟨#[116, 114, 117, 101]⟩ : ByteArray), (⟨#[102, 97, 108, 115, 101]⟩ : ByteArray)] : List ByteArray)) 0) = some r := h; clear h; obtain ⟨y223, hy223⟩ : ∃ y_ : List ByteArray, y_ = (([(⟨#[108, 101, 116]⟩ : ByteArray), (⟨#[102, 110]⟩ : ByteArray), (⟨#[105, 102]⟩ : ByteArray), (⟨#[101, 108, 115, 101]⟩ : ByteArray), (⟨#[119, 104, 105, 108, 101]⟩ : ByteArray), (⟨#[114, 101, 116, 117, 114, 110]⟩ : ByteArray), (⟨#[116, 114, 117, 101]⟩ : ByteArray), (⟨#[102, 97, 108, 115, 101]⟩ : ByteArray)] : List ByteArray)) := ⟨_, rfl⟩; replace H : (zaS.l0 k a0 y223 0) = some r := by first | (rw [hy223]; with_reducible exact H) | (have H2_ := (Option.bind_some _ _).symm.trans H; rw [hy223]; with_reducible exact H2_) | (have H2_ := (Option.bind_some _ _).symm.trans H; with_reducible exact H2_) | with_reducible exact H | (rw [hy223]; exact H) | exact H
 have Ny223 := J hy223; clear hy223; have H' := J H; clear H; go_enter Try.func28, Try.ntmps28
 go_wp2_with (first | ((with_reducible refine za2 (N := 5) rfl ?_); refine Kd.R_lit Kd.string _ 9 ?hg (N := 5) ?hd (xs := ([(⟨#[108, 101, 116]⟩ : ByteArray), (⟨#[102, 110]⟩ : ByteArray), (⟨#[105, 102]⟩ : ByteArray), (⟨#[101, 108, 115, 101]⟩ : ByteArray), (⟨#[119, 104, 105, 108, 101]⟩ : ByteArray), (⟨#[114, 101, 116, 117, 114, 110]⟩ : ByteArray), (⟨#[116, 114, 117, 101]⟩ : ByteArray), (⟨#[102, 97, 108, 115, 101]⟩ : ByteArray)] : List ByteArray)) (inner := [.string (⟨#[108, 101, 116]⟩ : ByteArray), .string (⟨#[102, 110]⟩ : ByteArray), .string (⟨#[105, 102]⟩ : ByteArray), .string (⟨#[101, 108, 115, 101]⟩ : ByteArray), .string (⟨#[119, 104, 105, 108, 101]⟩ : ByteArray), .string (⟨#[114, 101, 116, 117, 114, 110]⟩ : ByteArray), .string (⟨#[116, 114, 117, 101]⟩ : ByteArray), .string (⟨#[102, 97, 108, 115, 101]⟩ : ByteArray)]) (ok := fun _ => True) (okp := fun _ => True) ?hr ?hp (fun _ hk => hk) trivial (Below.refl _ _) (Nat.le_refl _) qf ?_; (case hd => rfl); (case hg => rfl); (case hr => first | (go_simp; done) | (go_simp; rfl)); (case hp => exact (Reps.one (show Kd.M Kd.string _ _ _ (⟨#[108, 101, 116]⟩ : ByteArray) [.string (⟨#[108, 101, 116]⟩ : ByteArray)] from rfl) (Reps.one (show Kd.M Kd.string _ _ _ (⟨#[102, 110]⟩ : ByteArray) [.string (⟨#[102, 110]⟩ : ByteArray)] from rfl) (Reps.one (show Kd.M Kd.string _ _ _ (⟨#[105, 102]⟩ : ByteArray) [.string (⟨#[105, 102]⟩ : ByteArray)] from rfl) (Reps.one (show Kd.M Kd.string _ _ _ (⟨#[101, 108, 115, 101]⟩ : ByteArray) [.string (⟨#[101, 108, 115, 101]⟩ : ByteArray)] from rfl) (Reps.one (show Kd.M Kd.string _ _ _ (⟨#[119, 104, 105, 108, 101]⟩ : ByteArray) [.string (⟨#[119, 104, 105, 108, 101]⟩ : ByteArray)] from rfl) (Reps.one (show Kd.M Kd.string _ _ _ (⟨#[114, 101, 116, 117, 114, 110]⟩ : ByteArray) [.string (⟨#[114, 101, 116, 117, 114, 110]⟩ : ByteArray)] from rfl) (Reps.one (show Kd.M Kd.string _ _ _ (⟨#[116, 114, 117, 101]⟩ : ByteArray) [.string (⟨#[116, 114, 117, 101]⟩ : ByteArray)] from rfl) (Reps.one (show Kd.M Kd.string _ _ _ (⟨#[102, 97, 108, 115, 101]⟩ : ByteArray) [.string (⟨#[102, 97, 108, 115, 101]⟩ : ByteArray)] from rfl) (Reps.none _ _)))))))))); intro v224 w2 ho3 hb hg_ hnew_; clear hg_ hnew_; (first | rw [← Ny223.out] at ho3 | (simp only [Int.reduceToNat] at ho3; rw [← Ny223.out] at ho3)); have n0_ := J (Kd.zbz ho3 (zav qa)); have n1_ := J (zak qa hb); clear HB; have HO225 := n0_; have HB := n1_; clear n0_ n1_; clear hb ho3))
 go_loopg [4] k (fun kq v4 w' => ∃ (x4_1 : Int), v4 = .int .i64 x4_1 ∧ zaa (zaS.l0 kq a0 y223 x4_1 = some r) ∧ zaa (kq ≤ k) ∧ zaa (Kd.R Kd.string 9 w' w.heap.size (fun _ => True) v224 y223) ∧ zaa (Below w.heap.size w w'))
 case atStart => exact ⟨(0), qc, H', ⟨Nat.le_refl _⟩, ⟨by (with_reducible repeat (first | apply Kd.zbo | apply Kd.zbn | apply Kd.zbD)); exact HO225.out⟩, ⟨qa⟩⟩
 case round =>
  clear H'; try clear c2
  try clear p2
  obtain ⟨x4_1, rfl, HA, HK1, HO_3, HB⟩ := hrel; cases gk with
  | zero => exact absurd HA.out (by simp [zaS.l0])
  | succ k1 =>
   have H := HA.out; clear HA; simp only [zaS.l0] at H; by_cases c4 : x4_1 < (y223.length : Int)
   ·rw [if_pos c4] at H
    have c4b0 : decide (x4_1 < (y223.length : Int)) = true := decide_eq_true c4; clear c4; by_cases c5 : 0 ≤ x4_1
    ·rw [if_pos c5] at H
     have c5b0 : decide (0 ≤ x4_1) = true := decide_eq_true c5; clear c5; by_cases c6 : (rdOf ByteArray.empty y223 x4_1).toList = a0.toList
     ·rw [if_pos c6] at H
      have c6b0 : ((rdOf ByteArray.empty y223 x4_1).toList == a0.toList) = true := beq_iff_eq.mpr c6; have c6b1 : ((rdOf ByteArray.empty y223 x4_1).toList != a0.toList) = false := bne_eq_false_iff_eq.mpr c6; clear c6; obtain rfl := Option.some.inj H; obtain ⟨Ao7, co7, eo7⟩ := Kd.za4 HO_3.out; subst eo7; have p226 : 0 ≤ (x4_1 : Int) := of_decide_eq_true qd
      have q226 : x4_1 < (y223.length : Int) := of_decide_eq_true qd
      obtain ⟨ad226, e226, hx226_0⟩ := Kd.at_string (Kd.zbk HO_3.out).2.2 x4_1 p226 q226; cases e226; replace p226 := eq_true p226; replace q226 := eq_true q226; go_wp2
      go_ret
      exact ⟨qg, qa⟩
     ·rw [if_neg c6] at H
      have c6b0 : ((rdOf ByteArray.empty y223 x4_1).toList == a0.toList) = false := beq_eq_false_iff_ne.mpr c6; have c6b1 : ((rdOf ByteArray.empty y223 x4_1).toList != a0.toList) = true := bne_iff_ne.mpr c6; have H' := J H; clear H; obtain ⟨Ao8, co8, eo8⟩ := Kd.za4 HO_3.out; subst eo8; have p226 : 0 ≤ (x4_1 : Int) := of_decide_eq_true qd
      have q226 : x4_1 < (y223.length : Int) := of_decide_eq_true qd
      obtain ⟨ad226, e226, hx226_0⟩ := Kd.at_string (Kd.zbk HO_3.out).2.2 x4_1 p226 q226; cases e226; replace p226 := eq_true p226; replace q226 := eq_true q226; go_wp2
      go_roundg k1
      case measure => have := HK1.out; omega
      case rel => exact ⟨(wrap64 (x4_1 + 1)), qc, H', ⟨qx⟩, ⟨Q8⟩, ⟨qa⟩⟩
    ·rw [if_neg c5] at H
     exact absurd H qf
   ·rw [if_neg c4] at H
    have c4b0 : decide (x4_1 < (y223.length : Int)) = false := decide_eq_false c4; clear c4; obtain rfl := Option.some.inj H; obtain ⟨Ao9, co9, eo9⟩ := Kd.za4 HO_3.out; subst eo9; go_wp2
    go_ret
    exact ⟨qg, qa⟩
mutual
def zan.j0 : Nat → ByteArray → Int → Bool → Option (Int × Int × Bool)
 | 0, _, _, _ => none
 | k + 1, x0, x1, x20 => if x20 = true then (some (0, 0, false)) else (if 0 ≤ x1 then (if x1 < (x0.size : Int) then (if (wrap64 (bt x0 x1)) < 128 then (some (wrap32 (wrap64 (bt x0 x1)), 1, true)) else (if (wrap64 (bt x0 x1)) ≥ 192 then (zan.j1 k x0 x1 (wrap64 (bt x0 x1)) (decide ((wrap64 (bt x0 x1)) < 224))) else (zan.j1 k x0 x1 (wrap64 (bt x0 x1)) false))) else (none)) else (none))
def zan.j3 : Nat → ByteArray → Int → Int → Int → Option (Int × Int × Bool)
 | 0, _, _, _, _ => none
 | k + 1, x0, x1, x8, x9 => if (wrap64 (x1 + x8)) > (x0.size : Int) then (some (0, 0, false)) else (zan.l0 k x0 x1 x8 x9 1)
def zan.l0 : Nat → ByteArray → Int → Int → Int → Int → Option (Int × Int × Bool)
 | 0, _, _, _, _, _ => none
 | k + 1, x0, x1, x8, x9, x10 => if x10 < x8 then (if 0 ≤ (wrap64 (x1 + x10)) then (if (wrap64 (x1 + x10)) < (x0.size : Int) then (if (wrap64 (bt x0 (wrap64 (x1 + x10)))) < 128 then (some (0, 0, false)) else (if (wrap64 (bt x0 (wrap64 (x1 + x10)))) ≥ 192 then (some (0, 0, false)) else (zan.l0 k x0 x1 x8 (wrap64 ((wrap64 ((wrap64 (x9 * 64)) + (wrap64 (bt x0 (wrap64 (x1 + x10)))))) - 128)) (wrap64 (x10 + 1))))) else (none)) else (none)) else ((some (([0, 0, 128, 2048, 65536] : List Int) : List Int)).bind fun y227 => (if 0 ≤ x8 then (if x8 < (y227.length : Int) then (if x9 < (rd y227 x8) then (some (0, 0, false)) else (if x9 > 1114111 then (some (0, 0, false)) else (if x9 ≥ 55296 then (if x9 < 57344 then (some (0, 0, false)) else (some (wrap32 (x9), x8, true))) else (some (wrap32 (x9), x8, true))))) else (none)) else (none)))
def zan.j1 : Nat → ByteArray → Int → Int → Bool → Option (Int × Int × Bool)
 | 0, _, _, _, _ => none
 | k + 1, x0, x1, x7, x31 => if x31 = true then (zan.j3 k x0 x1 2 (wrap64 (x7 - 192))) else (if x7 ≥ 224 then (zan.j2 k x0 x1 x7 (decide (x7 < 240))) else (zan.j2 k x0 x1 x7 false))
def zan.j2 : Nat → ByteArray → Int → Int → Bool → Option (Int × Int × Bool)
 | 0, _, _, _, _ => none
 | k + 1, x0, x1, x7, x40 => if x40 = true then (zan.j3 k x0 x1 3 (wrap64 (x7 - 224))) else (if x7 ≥ 240 then (if x7 < 248 then (zan.j3 k x0 x1 4 (wrap64 (x7 - 240))) else (some (0, 0, false))) else (some (0, 0, false)))
end
def zan.f (k : Nat) (a0 : ByteArray) (a1 : Int) : Option (Int × Int × Bool) := if a1 < 0 then (zan.j0 k a0 a1 true) else (zan.j0 k a0 a1 (decide (a1 ≥ (a0.size : Int))))
theorem zan.calls (k : Nat) (a0 : ByteArray) (a1 : Int) (r1 : Int) (r2 : Int) (r3 : Bool) (w : World) (h : zan.f k a0 a1 = some (r1, r2, r3)) :
  Calls Try.prog 31 #[.string a0, .int .i64 a1] w fun e w' => e = .returned (.tuple #[.int .i32 r1, .int .i64 r2, .bool r3]) ∧ Below w.heap.size w w' := by
 have HB := J (Below.refl w.heap.size w); have H : (if a1 < 0 then (zan.j0 k a0 a1 true) else (zan.j0 k a0 a1 (decide (a1 ≥ (a0.size : Int))))) = some (r1, r2, r3) := h
 clear h; have HC3 := J H; clear H; go_enter Try.func31, Try.ntmps31
 go_upto_region 1 with (fail)
 go_cut [20] (fun v20 wc => ∃ (kq : Nat) (x20_2 : Bool), v20 = .bool x20_2 ∧ zaa (zan.j0 kq a0 a1 x20_2 = some (r1, r2, r3)) ∧ zaa (kq ≤ k) ∧ zaa (Below w.heap.size w wc))
 case first =>
  have H := HC3.out; clear HC3; by_cases c4 : a1 < 0
  ·rw [if_pos c4] at H
   have c4b0 : decide (a1 < 0) = true := decide_eq_true c4; clear c4
   (first | rw [c4b0] | (simp only [i64_w, i32_w]; rw [c4b0]) | skip)
   have H' := J H; clear H; go_wp2
   go_meet
   case rel => exact ⟨_, (true), qc, H', ⟨qA⟩, ⟨qa⟩⟩
  ·rw [if_neg c4] at H
   have c4b0 : decide (a1 < 0) = false := decide_eq_false c4; clear c4
   (first | rw [c4b0] | (simp only [i64_w, i32_w]; rw [c4b0]) | skip)
   have H' := J H; clear H; go_wp2
   go_meet
   case rel => exact ⟨_, (decide (a1 ≥ (a0.size : Int))), qc, H', ⟨qA⟩, ⟨qa⟩⟩
 case rest =>
  clear HC3; try clear p2
  try clear c3
  try clear c4
  try clear c4b0
  obtain ⟨kq, x20_2, rfl, HA, HJ2, HB⟩ := hcut; cases kq with
  | zero => exact absurd HA.out (by simp [zan.j0])
  | succ kj2 =>
   have H := HA.out; clear HA; simp only [zan.j0] at H; by_cases c5 : x20_2 = true
   ·subst c5
    have H1 : (some (0, 0, false)) = some (r1, r2, r3) := by rw [if_pos rfl] at H; exact H
    clear H; have H := H1; clear H1; simp only [Option.some.injEq, Prod.mk.injEq] at H; obtain ⟨rfl, rfl, rfl⟩ := H; go_wp2
    go_ret3
    exact ⟨qg, qa⟩
   ·replace c5 := Bool.eq_false_iff.mpr c5
    subst c5; have H1 : (if 0 ≤ a1 then (if a1 < (a0.size : Int) then (if (wrap64 (bt a0 a1)) < 128 then (some (wrap32 (wrap64 (bt a0 a1)), 1, true)) else (if (wrap64 (bt a0 a1)) ≥ 192 then (zan.j1 kj2 a0 a1 (wrap64 (bt a0 a1)) (decide ((wrap64 (bt a0 a1)) < 224))) else (zan.j1 kj2 a0 a1 (wrap64 (bt a0 a1)) false))) else (none)) else (none)) = some (r1, r2, r3) := by rw [if_neg (show ¬ (false = true) by decide)] at H; exact H
    clear H; have H := H1; clear H1; by_cases c6 : 0 ≤ a1
    ·rw [if_pos c6] at H
     have c6b0 : decide (0 ≤ a1) = true := decide_eq_true c6; clear c6; by_cases c7 : a1 < (a0.size : Int)
     ·rw [if_pos c7] at H
      have c7b0 : decide (a1 < (a0.size : Int)) = true := decide_eq_true c7; clear c7; have HC9 := J H; clear H; have p8 : 0 ≤ (a1 : Int) := of_decide_eq_true qd
      have q8 : a1 < (a0.size : Int) := of_decide_eq_true qd
      have hx8 := bt_at a0 a1; replace p8 := eq_true p8; replace q8 := eq_true q8
      go_upto_block 0 with (fail)
      go_cut [8, 9] (fun v8 v9 wc => ∃ (kq : Nat) (x8_8 : Int) (x9_8 : Int), v8 = .int .i64 x8_8 ∧ v9 = .int .i64 x9_8 ∧ zaa (zan.j3 kq a0 a1 x8_8 x9_8 = some (r1, r2, r3)) ∧ zaa (kq ≤ kj2) ∧ zaa (Below w.heap.size w wc))
      case first =>
       have H := HC9.out; clear HC9; by_cases c10 : (wrap64 (bt a0 a1)) < 128
       ·rw [if_pos c10] at H
        have c10b0 : decide ((wrap64 (bt a0 a1)) < 128) = true := decide_eq_true c10; clear c10
        (first | rw [c10b0] | (simp only [i64_w, i32_w]; rw [c10b0]) | skip)
        simp only [Option.some.injEq, Prod.mk.injEq] at H; obtain ⟨rfl, rfl, rfl⟩ := H; go_wp2
        go_ret3
        exact ⟨qg, qa⟩
       ·rw [if_neg c10] at H
        have c10b0 : decide ((wrap64 (bt a0 a1)) < 128) = false := decide_eq_false c10; clear c10
        (first | rw [c10b0] | (simp only [i64_w, i32_w]; rw [c10b0]) | skip)
        have HC11 := J H; clear H; go_upto_region 8 with (fail)
        go_cut [31] (fun v31 wc => ∃ (kq : Nat) (x31_10 : Bool), v31 = .bool x31_10 ∧ zaa (zan.j1 kq a0 a1 (wrap64 (bt a0 a1)) x31_10 = some (r1, r2, r3)) ∧ zaa (kq ≤ kj2) ∧ zaa (Below w.heap.size w wc))
        case first =>
         have H := HC11.out; clear HC11; by_cases c12 : (wrap64 (bt a0 a1)) ≥ 192
         ·rw [if_pos c12] at H
          have c12b0 : decide (192 ≤ (wrap64 (bt a0 a1))) = true := decide_eq_true c12; clear c12
          (first | rw [c12b0] | (simp only [i64_w, i32_w]; rw [c12b0]) | skip)
          have H' := J H; clear H; go_wp2
          go_meet
          case rel => exact ⟨_, (decide ((wrap64 (bt a0 a1)) < 224)), qc, H', ⟨Qe⟩, ⟨qa⟩⟩
         ·rw [if_neg c12] at H
          have c12b0 : decide (192 ≤ (wrap64 (bt a0 a1))) = false := decide_eq_false c12; clear c12
          (first | rw [c12b0] | (simp only [i64_w, i32_w]; rw [c12b0]) | skip)
          have H' := J H; clear H; go_wp2
          go_meet
          case rel => exact ⟨_, (false), qc, H', ⟨Qe⟩, ⟨qa⟩⟩
        case rest =>
         clear HC11; try clear c1
         try clear p2
         try clear c3
         try clear p3
         try clear c4
         try clear c4b0
         try clear c5
         try clear c6
         try clear c6b0
         try clear p6
         try clear c7
         try clear c7b0
         try clear p8
         try clear q8
         try clear hx8
         try clear c10
         try clear c10b0
         try clear c12
         try clear c12b0
         try clear p2
         try clear p8
         try clear q8
         obtain ⟨kq, x31_10, rfl, HA, HJ10, HB⟩ := hcut; cases kq with
         | zero => exact absurd HA.out (by simp [zan.j1])
         | succ kj10 =>
          have H := HA.out; clear HA; simp only [zan.j1] at H; by_cases c13 : x31_10 = true
          ·subst c13
           have H1 : (zan.j3 kj10 a0 a1 2 (wrap64 ((wrap64 (bt a0 a1)) - 192))) = some (r1, r2, r3) := by rw [if_pos rfl] at H; exact H
           clear H; have H := H1; clear H1; have H' := J H; clear H; go_wp2
           go_meet
           case rel => exact ⟨_, (2), (wrap64 ((wrap64 (bt a0 a1)) - 192)), qc, qc, H', ⟨by have := HJ2.out; have := HJ10.out; first | omega | exact Nat.le_refl _⟩, ⟨qa⟩⟩
          ·replace c13 := Bool.eq_false_iff.mpr c13
           subst c13; have H1 : (if (wrap64 (bt a0 a1)) ≥ 224 then (zan.j2 kj10 a0 a1 (wrap64 (bt a0 a1)) (decide ((wrap64 (bt a0 a1)) < 240))) else (zan.j2 kj10 a0 a1 (wrap64 (bt a0 a1)) false)) = some (r1, r2, r3) := by rw [if_neg (show ¬ (false = true) by decide)] at H; exact H
           clear H; have H := H1; clear H1; have HC14 := J H; clear H; go_upto_region 10 with (fail)
           go_cut [40] (fun v40 wc => ∃ (kq : Nat) (x40_13 : Bool), v40 = .bool x40_13 ∧ zaa (zan.j2 kq a0 a1 (wrap64 (bt a0 a1)) x40_13 = some (r1, r2, r3)) ∧ zaa (kq ≤ kj10) ∧ zaa (Below w.heap.size w wc))
           case first =>
            have H := HC14.out; clear HC14; by_cases c15 : (wrap64 (bt a0 a1)) ≥ 224
            ·rw [if_pos c15] at H
             have c15b0 : decide (224 ≤ (wrap64 (bt a0 a1))) = true := decide_eq_true c15; clear c15
             (first | rw [c15b0] | (simp only [i64_w, i32_w]; rw [c15b0]) | skip)
             have H' := J H; clear H; go_wp2
             go_meet
             case rel => exact ⟨_, (decide ((wrap64 (bt a0 a1)) < 240)), qc, H', ⟨by have := HJ2.out; have := HJ10.out; first | omega | exact Nat.le_refl _⟩, ⟨qa⟩⟩
            ·rw [if_neg c15] at H
             have c15b0 : decide (224 ≤ (wrap64 (bt a0 a1))) = false := decide_eq_false c15; clear c15
             (first | rw [c15b0] | (simp only [i64_w, i32_w]; rw [c15b0]) | skip)
             have H' := J H; clear H; go_wp2
             go_meet
             case rel => exact ⟨_, (false), qc, H', ⟨by have := HJ2.out; have := HJ10.out; first | omega | exact Nat.le_refl _⟩, ⟨qa⟩⟩
           case rest =>
            clear HC14; try clear c1
            try clear p2
            try clear c3
            try clear p3
            try clear c4
            try clear c4b0
            try clear c5
            try clear c6
            try clear c6b0
            try clear p6
            try clear c7
            try clear c7b0
            try clear p8
            try clear q8
            try clear hx8
            try clear c10
            try clear c10b0
            try clear c12
            try clear c12b0
            try clear c13
            try clear c15
            try clear c15b0
            try clear p2
            try clear p3
            try clear p6
            try clear p8
            try clear q8
            obtain ⟨kq, x40_13, rfl, HA, HJ13, HB⟩ := hcut; cases kq with
            | zero => exact absurd HA.out (by simp [zan.j2])
            | succ kj13 =>
             have H := HA.out; clear HA; simp only [zan.j2] at H; by_cases c16 : x40_13 = true
             ·subst c16
              have H1 : (zan.j3 kj13 a0 a1 3 (wrap64 ((wrap64 (bt a0 a1)) - 224))) = some (r1, r2, r3) := by rw [if_pos rfl] at H; exact H
              clear H; have H := H1; clear H1; have H' := J H; clear H; go_wp2
              go_meet
              case rel => exact ⟨_, (3), (wrap64 ((wrap64 (bt a0 a1)) - 224)), qc, qc, H', ⟨by have := HJ2.out; have := HJ10.out; have := HJ13.out; first | omega | exact Nat.le_refl _⟩, ⟨qa⟩⟩
             ·replace c16 := Bool.eq_false_iff.mpr c16
              subst c16; have H1 : (if (wrap64 (bt a0 a1)) ≥ 240 then (if (wrap64 (bt a0 a1)) < 248 then (zan.j3 kj13 a0 a1 4 (wrap64 ((wrap64 (bt a0 a1)) - 240))) else (some (0, 0, false))) else (some (0, 0, false))) = some (r1, r2, r3) := by rw [if_neg (show ¬ (false = true) by decide)] at H; exact H
              clear H; have H := H1; clear H1; by_cases c17 : (wrap64 (bt a0 a1)) ≥ 240
              ·rw [if_pos c17] at H
               have c17b0 : decide (240 ≤ (wrap64 (bt a0 a1))) = true := decide_eq_true c17; clear c17; by_cases c18 : (wrap64 (bt a0 a1)) < 248
               ·rw [if_pos c18] at H
                have c18b0 : decide ((wrap64 (bt a0 a1)) < 248) = true := decide_eq_true c18; clear c18; have H' := J H; clear H; go_wp2
                go_meet
                case rel => exact ⟨_, (4), (wrap64 ((wrap64 (bt a0 a1)) - 240)), qc, qc, H', ⟨by have := HJ2.out; have := HJ10.out; have := HJ13.out; first | omega | exact Nat.le_refl _⟩, ⟨qa⟩⟩
               ·rw [if_neg c18] at H
                have c18b0 : decide ((wrap64 (bt a0 a1)) < 248) = false := decide_eq_false c18; clear c18; simp only [Option.some.injEq, Prod.mk.injEq] at H; obtain ⟨rfl, rfl, rfl⟩ := H; go_wp2
                go_ret3
                exact ⟨qg, qa⟩
              ·rw [if_neg c17] at H
               have c17b0 : decide (240 ≤ (wrap64 (bt a0 a1))) = false := decide_eq_false c17; clear c17; simp only [Option.some.injEq, Prod.mk.injEq] at H; obtain ⟨rfl, rfl, rfl⟩ := H; go_wp2
               go_ret3
               exact ⟨qg, qa⟩
      case rest =>
       clear HC9; try clear c1
       try clear p2
       try clear c3
       try clear p3
       try clear c4
       try clear c4b0
       try clear c5
       try clear c6
       try clear c6b0
       try clear p6
       try clear c7
       try clear c7b0
       try clear p8
       try clear q8
       try clear hx8
       try clear c10
       try clear c10b0
       try clear c12
       try clear c12b0
       try clear c13
       try clear c15
       try clear c15b0
       try clear c16
       try clear c17
       try clear c17b0
       try clear c18
       try clear c18b0
       try clear p2
       try clear p3
       try clear p6
       try clear p8
       try clear q8
       obtain ⟨kq, x8_8, x9_8, rfl, rfl, HA, HJ8, HB⟩ := hcut; cases kq with
       | zero => exact absurd HA.out (by simp [zan.j3])
       | succ kj8 =>
        have H := HA.out; clear HA; simp only [zan.j3] at H; by_cases c19 : (wrap64 (a1 + x8_8)) > (a0.size : Int)
        ·rw [if_pos c19] at H
         have c19b0 : decide ((a0.size : Int) < (wrap64 (a1 + x8_8))) = true := decide_eq_true c19; clear c19; simp only [Option.some.injEq, Prod.mk.injEq] at H; obtain ⟨rfl, rfl, rfl⟩ := H; go_wp2
         go_ret3
         exact ⟨qg, qa⟩
        ·rw [if_neg c19] at H
         have c19b0 : decide ((a0.size : Int) < (wrap64 (a1 + x8_8))) = false := decide_eq_false c19; clear c19; have H' := J H; clear H; go_wp2
         go_loopg [9, 10] kj8 (fun kq v9 v10 w' => ∃ (x9_3 : Int) (x10_3 : Int), v9 = .int .i64 x9_3 ∧ v10 = .int .i64 x10_3 ∧ zaa (zan.l0 kq a0 a1 x8_8 x9_3 x10_3 = some (r1, r2, r3)) ∧ zaa (kq ≤ kj8) ∧ zaa (Below w.heap.size w w'))
         case atStart => exact ⟨(x9_8), (1), qc, qc, H', ⟨Nat.le_refl _⟩, ⟨qa⟩⟩
         case round =>
          clear H'; try clear c1
          try clear p2
          try clear c3
          try clear p3
          try clear c4
          try clear c4b0
          try clear c5
          try clear c6
          try clear c6b0
          try clear p6
          try clear c7
          try clear c7b0
          try clear p8
          try clear q8
          try clear hx8
          try clear c10
          try clear c10b0
          try clear c12
          try clear c12b0
          try clear c13
          try clear c15
          try clear c15b0
          try clear c16
          try clear c17
          try clear c17b0
          try clear c18
          try clear c18b0
          try clear c19
          try clear c19b0
          try clear p2
          try clear p3
          try clear p6
          try clear p8
          try clear q8
          obtain ⟨x9_3, x10_3, rfl, rfl, HA, HK3, HB⟩ := hrel; cases gk with
          | zero => exact absurd HA.out (by simp [zan.l0])
          | succ k3 =>
           have H := HA.out; clear HA; simp only [zan.l0] at H; by_cases c20 : x10_3 < x8_8
           ·rw [if_pos c20] at H
            have c20b0 : decide (x10_3 < x8_8) = true := decide_eq_true c20; clear c20; obtain ⟨ji21, hji21⟩ : ∃ j_ : Int, (wrap64 (a1 + x10_3)) = j_ := ⟨_, rfl⟩; replace H : (if 0 ≤ (ji21) then (if (ji21) < (a0.size : Int) then (if (wrap64 (bt a0 (ji21))) < 128 then (some (0, 0, false)) else (if (wrap64 (bt a0 (ji21))) ≥ 192 then (some (0, 0, false)) else (zan.l0 k3 a0 a1 x8_8 (wrap64 ((wrap64 ((wrap64 (x9_3 * 64)) + (wrap64 (bt a0 (ji21))))) - 128)) (wrap64 (x10_3 + 1))))) else (none)) else (none)) = some (r1, r2, r3) := by first | (rw [hji21] at H; exact H) | (simp only [hji21] at H ⊢; exact H)
            have hji21w : (IntKind.i64.wrap (a1 + x10_3)) = ji21 := (i64_w _).trans hji21; by_cases c22 : 0 ≤ (ji21)
            ·rw [if_pos c22] at H
             have c22b0 : decide (0 ≤ (ji21)) = true := decide_eq_true c22; clear c22; by_cases c23 : (ji21) < (a0.size : Int)
             ·rw [if_pos c23] at H
              have c23b0 : decide ((ji21) < (a0.size : Int)) = true := decide_eq_true c23; clear c23; by_cases c25 : (wrap64 (bt a0 (ji21))) < 128
              ·rw [if_pos c25] at H
               have c25b0 : decide ((wrap64 (bt a0 (ji21))) < 128) = true := decide_eq_true c25; clear c25; simp only [Option.some.injEq, Prod.mk.injEq] at H; obtain ⟨rfl, rfl, rfl⟩ := H; have p24 : 0 ≤ ((ji21) : Int) := of_decide_eq_true qd
               have q24 : (ji21) < (a0.size : Int) := of_decide_eq_true qd
               have hx24 := bt_at a0 (ji21); replace p24 := eq_true p24; replace q24 := eq_true q24; go_wp2
               go_ret3
               exact ⟨by first | rfl | (simp [zax, zaw] <;> rfl) | (simp only [← hji21]; first | rfl | (simp [zax, zaw] <;> rfl)) | (simp [*, zax, zaw] <;> rfl), qa⟩
              ·rw [if_neg c25] at H
               have c25b0 : decide ((wrap64 (bt a0 (ji21))) < 128) = false := decide_eq_false c25; clear c25; by_cases c26 : (wrap64 (bt a0 (ji21))) ≥ 192
               ·rw [if_pos c26] at H
                have c26b0 : decide (192 ≤ (wrap64 (bt a0 (ji21)))) = true := decide_eq_true c26; clear c26; simp only [Option.some.injEq, Prod.mk.injEq] at H; obtain ⟨rfl, rfl, rfl⟩ := H; have p24 : 0 ≤ ((ji21) : Int) := of_decide_eq_true qd
                have q24 : (ji21) < (a0.size : Int) := of_decide_eq_true qd
                have hx24 := bt_at a0 (ji21); replace p24 := eq_true p24; replace q24 := eq_true q24; go_wp2
                go_ret3
                exact ⟨by first | rfl | (simp [zax, zaw] <;> rfl) | (simp only [← hji21]; first | rfl | (simp [zax, zaw] <;> rfl)) | (simp [*, zax, zaw] <;> rfl), qa⟩
               ·rw [if_neg c26] at H
                have c26b0 : decide (192 ≤ (wrap64 (bt a0 (ji21)))) = false := decide_eq_false c26; clear c26; have H' := J H; clear H; have p24 : 0 ≤ ((ji21) : Int) := of_decide_eq_true qd
                have q24 : (ji21) < (a0.size : Int) := of_decide_eq_true qd
                have hx24 := bt_at a0 (ji21); replace p24 := eq_true p24; replace q24 := eq_true q24; go_wp2
                go_roundg k3
                case measure => have := HJ2.out; have := HJ8.out; have := HK3.out; omega
                case rel => exact ⟨(wrap64 ((wrap64 ((wrap64 (x9_3 * 64)) + (wrap64 (bt a0 (ji21))))) - 128)), (wrap64 (x10_3 + 1)), (by first | rfl | (simp; done) | (simp only [← hji21] <;> (first | rfl | simp)) | simp [*]), qc, H', ⟨by have := HJ2.out; have := HJ8.out; have := HK3.out; omega⟩, ⟨qa⟩⟩
             ·rw [if_neg c23] at H
              exact absurd H qf
            ·rw [if_neg c22] at H
             exact absurd H qf
           ·rw [if_neg c20] at H
            have c20b0 : decide (x10_3 < x8_8) = false := decide_eq_false c20; clear c20; obtain ⟨y227, hy227⟩ : ∃ y_ : List Int, y_ = (([0, 0, 128, 2048, 65536] : List Int)) := ⟨_, rfl⟩; replace H : (if 0 ≤ x8_8 then (if x8_8 < (y227.length : Int) then (if x9_3 < (rd y227 x8_8) then (some (0, 0, false)) else (if x9_3 > 1114111 then (some (0, 0, false)) else (if x9_3 ≥ 55296 then (if x9_3 < 57344 then (some (0, 0, false)) else (some (wrap32 (x9_3), x8_8, true))) else (some (wrap32 (x9_3), x8_8, true))))) else (none)) else (none)) = some (r1, r2, r3) := by first | (rw [hy227]; with_reducible exact H) | (have H2_ := (Option.bind_some _ _).symm.trans H; rw [hy227]; with_reducible exact H2_) | (have H2_ := (Option.bind_some _ _).symm.trans H; with_reducible exact H2_) | with_reducible exact H | (rw [hy227]; exact H) | exact H
            have Ny227 := J hy227; clear hy227; by_cases c27 : 0 ≤ x8_8
            ·rw [if_pos c27] at H
             have c27b0 : decide (0 ≤ x8_8) = true := decide_eq_true c27; clear c27; by_cases c28 : x8_8 < (y227.length : Int)
             ·rw [if_pos c28] at H
              have c28b0 : decide (x8_8 < (y227.length : Int)) = true := decide_eq_true c28; clear c28; by_cases c29 : x9_3 < (rd y227 x8_8)
              ·rw [if_pos c29] at H
               have c29b0 : decide (x9_3 < (rd y227 x8_8)) = true := decide_eq_true c29; clear c29; simp only [Option.some.injEq, Prod.mk.injEq] at H; obtain ⟨rfl, rfl, rfl⟩ := H; go_wp2_with (first | ((with_reducible refine za2 (N := 86) rfl ?_); (try (refine zbJ (by rfl) ?_; dsimp only)); refine Kd.R_lit (Kd.int .i64) _ 3 ?hg (N := 86) ?hd (xs := ([0, 0, 128, 2048, 65536] : List Int)) (inner := [.int .i64 0, .int .i64 0, .int .i64 128, .int .i64 2048, .int .i64 65536]) (ok := fun _ => True) (okp := fun _ => True) ?hr ?hp (fun _ hk => hk) trivial (Below.refl _ _) (Nat.le_refl _) qf ?_; (case hd => rfl); (case hg => rfl); (case hr => first | (go_simp; done) | (go_simp; rfl)); (case hp => exact (Reps.one (show Kd.M (Kd.int .i64) _ _ _ 0 [.int .i64 0] from rfl) (Reps.one (show Kd.M (Kd.int .i64) _ _ _ 0 [.int .i64 0] from rfl) (Reps.one (show Kd.M (Kd.int .i64) _ _ _ 128 [.int .i64 128] from rfl) (Reps.one (show Kd.M (Kd.int .i64) _ _ _ 2048 [.int .i64 2048] from rfl) (Reps.one (show Kd.M (Kd.int .i64) _ _ _ 65536 [.int .i64 65536] from rfl) (Reps.none _ _))))))); intro v228 w30 ho31 hb hg_ hnew_; clear hg_ hnew_; (first | rw [← Ny227.out] at ho31 | (simp only [Int.reduceToNat] at ho31; rw [← Ny227.out] at ho31)); have n0_ := J (Kd.zbz ho31 (zav qa)); have n1_ := J (zak qa hb); clear HB; have HO229 := n0_; have HB := n1_; clear n0_ n1_; clear hb ho31; obtain ⟨Ao32, co32, eo32⟩ := Kd.za4 HO229.out; subst eo32; have p230 : 0 ≤ (x8_8 : Int) := of_decide_eq_true qd; have q230 : x8_8 < (y227.length : Int) := of_decide_eq_true qd; obtain ⟨ad230, e230, hx230_0⟩ := Kd.at_int (Kd.zbk HO229.out).2.2 x8_8 p230 q230; cases e230; replace p230 := eq_true p230; replace q230 := eq_true q230))
               go_ret3
               exact ⟨qg, qa⟩
              ·rw [if_neg c29] at H
               have c29b0 : decide (x9_3 < (rd y227 x8_8)) = false := decide_eq_false c29; clear c29; by_cases c33 : x9_3 > 1114111
               ·rw [if_pos c33] at H
                have c33b0 : decide (1114111 < x9_3) = true := decide_eq_true c33; clear c33; simp only [Option.some.injEq, Prod.mk.injEq] at H; obtain ⟨rfl, rfl, rfl⟩ := H; go_wp2_with (first | ((with_reducible refine za2 (N := 86) rfl ?_); (try (refine zbJ (by rfl) ?_; dsimp only)); refine Kd.R_lit (Kd.int .i64) _ 3 ?hg (N := 86) ?hd (xs := ([0, 0, 128, 2048, 65536] : List Int)) (inner := [.int .i64 0, .int .i64 0, .int .i64 128, .int .i64 2048, .int .i64 65536]) (ok := fun _ => True) (okp := fun _ => True) ?hr ?hp (fun _ hk => hk) trivial (Below.refl _ _) (Nat.le_refl _) qf ?_; (case hd => rfl); (case hg => rfl); (case hr => first | (go_simp; done) | (go_simp; rfl)); (case hp => exact (Reps.one (show Kd.M (Kd.int .i64) _ _ _ 0 [.int .i64 0] from rfl) (Reps.one (show Kd.M (Kd.int .i64) _ _ _ 0 [.int .i64 0] from rfl) (Reps.one (show Kd.M (Kd.int .i64) _ _ _ 128 [.int .i64 128] from rfl) (Reps.one (show Kd.M (Kd.int .i64) _ _ _ 2048 [.int .i64 2048] from rfl) (Reps.one (show Kd.M (Kd.int .i64) _ _ _ 65536 [.int .i64 65536] from rfl) (Reps.none _ _))))))); intro v228 w34 ho35 hb hg_ hnew_; clear hg_ hnew_; (first | rw [← Ny227.out] at ho35 | (simp only [Int.reduceToNat] at ho35; rw [← Ny227.out] at ho35)); have n0_ := J (Kd.zbz ho35 (zav qa)); have n1_ := J (zak qa hb); clear HB; have HO229 := n0_; have HB := n1_; clear n0_ n1_; clear hb ho35; obtain ⟨Ao36, co36, eo36⟩ := Kd.za4 HO229.out; subst eo36; have p230 : 0 ≤ (x8_8 : Int) := of_decide_eq_true qd; have q230 : x8_8 < (y227.length : Int) := of_decide_eq_true qd; obtain ⟨ad230, e230, hx230_0⟩ := Kd.at_int (Kd.zbk HO229.out).2.2 x8_8 p230 q230; cases e230; replace p230 := eq_true p230; replace q230 := eq_true q230))
                go_ret3
                exact ⟨qg, qa⟩
               ·rw [if_neg c33] at H
                have c33b0 : decide (1114111 < x9_3) = false := decide_eq_false c33; clear c33; by_cases c37 : x9_3 ≥ 55296
                ·rw [if_pos c37] at H
                 have c37b0 : decide (55296 ≤ x9_3) = true := decide_eq_true c37; clear c37; by_cases c38 : x9_3 < 57344
                 ·rw [if_pos c38] at H
                  have c38b0 : decide (x9_3 < 57344) = true := decide_eq_true c38; clear c38; simp only [Option.some.injEq, Prod.mk.injEq] at H; obtain ⟨rfl, rfl, rfl⟩ := H; go_wp2_with (first | ((with_reducible refine za2 (N := 86) rfl ?_); (try (refine zbJ (by rfl) ?_; dsimp only)); refine Kd.R_lit (Kd.int .i64) _ 3 ?hg (N := 86) ?hd (xs := ([0, 0, 128, 2048, 65536] : List Int)) (inner := [.int .i64 0, .int .i64 0, .int .i64 128, .int .i64 2048, .int .i64 65536]) (ok := fun _ => True) (okp := fun _ => True) ?hr ?hp (fun _ hk => hk) trivial (Below.refl _ _) (Nat.le_refl _) qf ?_; (case hd => rfl); (case hg => rfl); (case hr => first | (go_simp; done) | (go_simp; rfl)); (case hp => exact (Reps.one (show Kd.M (Kd.int .i64) _ _ _ 0 [.int .i64 0] from rfl) (Reps.one (show Kd.M (Kd.int .i64) _ _ _ 0 [.int .i64 0] from rfl) (Reps.one (show Kd.M (Kd.int .i64) _ _ _ 128 [.int .i64 128] from rfl) (Reps.one (show Kd.M (Kd.int .i64) _ _ _ 2048 [.int .i64 2048] from rfl) (Reps.one (show Kd.M (Kd.int .i64) _ _ _ 65536 [.int .i64 65536] from rfl) (Reps.none _ _))))))); intro v228 w39 ho40 hb hg_ hnew_; clear hg_ hnew_; (first | rw [← Ny227.out] at ho40 | (simp only [Int.reduceToNat] at ho40; rw [← Ny227.out] at ho40)); have n0_ := J (Kd.zbz ho40 (zav qa)); have n1_ := J (zak qa hb); clear HB; have HO229 := n0_; have HB := n1_; clear n0_ n1_; clear hb ho40; obtain ⟨Ao41, co41, eo41⟩ := Kd.za4 HO229.out; subst eo41; have p230 : 0 ≤ (x8_8 : Int) := of_decide_eq_true qd; have q230 : x8_8 < (y227.length : Int) := of_decide_eq_true qd; obtain ⟨ad230, e230, hx230_0⟩ := Kd.at_int (Kd.zbk HO229.out).2.2 x8_8 p230 q230; cases e230; replace p230 := eq_true p230; replace q230 := eq_true q230))
                  go_ret3
                  exact ⟨qg, qa⟩
                 ·rw [if_neg c38] at H
                  have c38b0 : decide (x9_3 < 57344) = false := decide_eq_false c38; clear c38; simp only [Option.some.injEq, Prod.mk.injEq] at H; obtain ⟨rfl, rfl, rfl⟩ := H; go_wp2_with (first | ((with_reducible refine za2 (N := 86) rfl ?_); (try (refine zbJ (by rfl) ?_; dsimp only)); refine Kd.R_lit (Kd.int .i64) _ 3 ?hg (N := 86) ?hd (xs := ([0, 0, 128, 2048, 65536] : List Int)) (inner := [.int .i64 0, .int .i64 0, .int .i64 128, .int .i64 2048, .int .i64 65536]) (ok := fun _ => True) (okp := fun _ => True) ?hr ?hp (fun _ hk => hk) trivial (Below.refl _ _) (Nat.le_refl _) qf ?_; (case hd => rfl); (case hg => rfl); (case hr => first | (go_simp; done) | (go_simp; rfl)); (case hp => exact (Reps.one (show Kd.M (Kd.int .i64) _ _ _ 0 [.int .i64 0] from rfl) (Reps.one (show Kd.M (Kd.int .i64) _ _ _ 0 [.int .i64 0] from rfl) (Reps.one (show Kd.M (Kd.int .i64) _ _ _ 128 [.int .i64 128] from rfl) (Reps.one (show Kd.M (Kd.int .i64) _ _ _ 2048 [.int .i64 2048] from rfl) (Reps.one (show Kd.M (Kd.int .i64) _ _ _ 65536 [.int .i64 65536] from rfl) (Reps.none _ _))))))); intro v228 w42 ho43 hb hg_ hnew_; clear hg_ hnew_; (first | rw [← Ny227.out] at ho43 | (simp only [Int.reduceToNat] at ho43; rw [← Ny227.out] at ho43)); have n0_ := J (Kd.zbz ho43 (zav qa)); have n1_ := J (zak qa hb); clear HB; have HO229 := n0_; have HB := n1_; clear n0_ n1_; clear hb ho43; obtain ⟨Ao44, co44, eo44⟩ := Kd.za4 HO229.out; subst eo44; have p230 : 0 ≤ (x8_8 : Int) := of_decide_eq_true qd; have q230 : x8_8 < (y227.length : Int) := of_decide_eq_true qd; obtain ⟨ad230, e230, hx230_0⟩ := Kd.at_int (Kd.zbk HO229.out).2.2 x8_8 p230 q230; cases e230; replace p230 := eq_true p230; replace q230 := eq_true q230))
                  go_ret3
                  exact ⟨qg, qa⟩
                ·rw [if_neg c37] at H
                 have c37b0 : decide (55296 ≤ x9_3) = false := decide_eq_false c37; clear c37; simp only [Option.some.injEq, Prod.mk.injEq] at H; obtain ⟨rfl, rfl, rfl⟩ := H; go_wp2_with (first | ((with_reducible refine za2 (N := 86) rfl ?_); (try (refine zbJ (by rfl) ?_; dsimp only)); refine Kd.R_lit (Kd.int .i64) _ 3 ?hg (N := 86) ?hd (xs := ([0, 0, 128, 2048, 65536] : List Int)) (inner := [.int .i64 0, .int .i64 0, .int .i64 128, .int .i64 2048, .int .i64 65536]) (ok := fun _ => True) (okp := fun _ => True) ?hr ?hp (fun _ hk => hk) trivial (Below.refl _ _) (Nat.le_refl _) qf ?_; (case hd => rfl); (case hg => rfl); (case hr => first | (go_simp; done) | (go_simp; rfl)); (case hp => exact (Reps.one (show Kd.M (Kd.int .i64) _ _ _ 0 [.int .i64 0] from rfl) (Reps.one (show Kd.M (Kd.int .i64) _ _ _ 0 [.int .i64 0] from rfl) (Reps.one (show Kd.M (Kd.int .i64) _ _ _ 128 [.int .i64 128] from rfl) (Reps.one (show Kd.M (Kd.int .i64) _ _ _ 2048 [.int .i64 2048] from rfl) (Reps.one (show Kd.M (Kd.int .i64) _ _ _ 65536 [.int .i64 65536] from rfl) (Reps.none _ _))))))); intro v228 w45 ho46 hb hg_ hnew_; clear hg_ hnew_; (first | rw [← Ny227.out] at ho46 | (simp only [Int.reduceToNat] at ho46; rw [← Ny227.out] at ho46)); have n0_ := J (Kd.zbz ho46 (zav qa)); have n1_ := J (zak qa hb); clear HB; have HO229 := n0_; have HB := n1_; clear n0_ n1_; clear hb ho46; obtain ⟨Ao47, co47, eo47⟩ := Kd.za4 HO229.out; subst eo47; have p230 : 0 ≤ (x8_8 : Int) := of_decide_eq_true qd; have q230 : x8_8 < (y227.length : Int) := of_decide_eq_true qd; obtain ⟨ad230, e230, hx230_0⟩ := Kd.at_int (Kd.zbk HO229.out).2.2 x8_8 p230 q230; cases e230; replace p230 := eq_true p230; replace q230 := eq_true q230))
                 go_ret3
                 exact ⟨qg, qa⟩
             ·rw [if_neg c28] at H
              exact absurd H qf
            ·rw [if_neg c27] at H
             exact absurd H qf
     ·rw [if_neg c7] at H
      exact absurd H qf
    ·rw [if_neg c6] at H
     exact absurd H qf
def za0.f (k : Nat) (a0 : ByteArray) (a1 : Int) : Option (Int) := (zan.f k a0 a1).bind fun bt231 => (if bt231.2.2 = true then (some bt231.2.1) else (some 1))
theorem za0.calls (k : Nat) (a0 : ByteArray) (a1 : Int) (r : Int) (w : World) (h : za0.f k a0 a1 = some r) :
  Calls Try.prog 48 #[.string a0, .int .i64 a1] w fun e w' => e = .returned (.int .i64 r) ∧ Below w.heap.size w w' := by
 have HB := J (Below.refl w.heap.size w); have H : ((zan.f k a0 a1).bind fun bt231 => (if bt231.2.2 = true then (some bt231.2.1) else (some 1))) = some r := h
 clear h; replace H := Option.bind_eq_some_iff.mp H; obtain ⟨⟨t231, t232, t233⟩, A30, H⟩ := H; replace H : (if t233 = true then (some t232) else (some 1)) = some r := H
 have A3 := J A30; clear A30; by_cases c4 : t233 = true
 ·subst c4
  have H1 : (some t232) = some r := by rw [if_pos rfl] at H; exact H
  clear H; have H := H1; clear H1; obtain rfl := Option.some.inj H; go_enter Try.func48, Try.ntmps48
  go_wp2_with (first | ((with_reducible refine zaK (f := 31) rfl ?_); refine zbc (some 11) rfl rfl Try.func31 qb rfl #[.string a0, .int .i64 a1] rfl qi ?_; (with_reducible refine (zan.calls k a0 a1 t231 t232 true _ A3.out).mono ?_); rintro e w5 ⟨rfl, hb⟩; refine ⟨_, rfl, ?_⟩; have n0_ := J (zak qa hb); clear HB; have HB := n0_; clear n0_; (try clear hb); (try clear hb2); (try clear hk); (try clear hi)))
  go_ret
  exact ⟨qg, qa⟩
 ·replace c4 := Bool.eq_false_iff.mpr c4
  subst c4; have H1 : (some 1) = some r := by rw [if_neg (show ¬ (false = true) by decide)] at H; exact H
  clear H; have H := H1; clear H1; obtain rfl := Option.some.inj H; go_enter Try.func48, Try.ntmps48
  go_wp2_with (first | ((with_reducible refine zaK (f := 31) rfl ?_); refine zbc (some 11) rfl rfl Try.func31 qb rfl #[.string a0, .int .i64 a1] rfl qi ?_; (with_reducible refine (zan.calls k a0 a1 t231 t232 false _ A3.out).mono ?_); rintro e w6 ⟨rfl, hb⟩; refine ⟨_, rfl, ?_⟩; have n0_ := J (zak qa hb); clear HB; have HB := n0_; clear n0_; (try clear hb); (try clear hb2); (try clear hk); (try clear hi)))
  go_ret
  exact ⟨qg, qa⟩
mutual
def zay.l0 : Nat → ByteArray → Int → Option (Int × Int)
 | 0, _, _ => none
 | k + 1, x0, x6 => if x6 < (x0.size : Int) then (if 0 ≤ x6 then (if (bt x0 x6) = 10 then (zay.j1 k x0 x6 false) else (zay.j1 k x0 x6 ((bt x0 x6) != 13))) else (none)) else (zay.j1 k x0 x6 false)
def zay.j1 : Nat → ByteArray → Int → Bool → Option (Int × Int)
 | 0, _, _, _ => none
 | k + 1, x0, x6, x24 => if x24 = true then (if 0 ≤ x6 then (if x6 < (x0.size : Int) then (if (bt x0 x6) = 34 then (some (8, wrap64 (x6 + 1))) else (if (bt x0 x6) = 92 then (if (wrap64 (x6 + 1)) = (x0.size : Int) then (some (9, wrap64 (x6 + 1))) else (if 0 ≤ (wrap64 (x6 + 1)) then (if (wrap64 (x6 + 1)) < (x0.size : Int) then (if (bt x0 (wrap64 (x6 + 1))) = 10 then (some (9, wrap64 (x6 + 1))) else (if (bt x0 (wrap64 (x6 + 1))) = 13 then (some (9, wrap64 (x6 + 1))) else ((za0.f k x0 (wrap64 (x6 + 1))).bind fun t234 => (zay.l0 k x0 (wrap64 ((wrap64 (x6 + 1)) + t234)))))) else (none)) else (none))) else ((za0.f k x0 x6).bind fun t235 => (zay.l0 k x0 (wrap64 (x6 + t235)))))) else (none)) else (none)) else (some (9, x6))
end
def zay.f (k : Nat) (a0 : ByteArray) (a1 : Int) : Option (Int × Int) := zay.l0 k a0 (wrap64 (a1 + 1))
theorem zay.calls (k : Nat) (a0 : ByteArray) (a1 : Int) (r1 : Int) (r2 : Int) (w : World) (h : zay.f k a0 a1 = some (r1, r2)) :
  Calls Try.prog 29 #[.string a0, .int .i64 a1] w fun e w' => e = .returned (.tuple #[.int .u8 r1, .int .i64 r2]) ∧ Below w.heap.size w w' := by
 have HB := J (Below.refl w.heap.size w); have H : (zay.l0 k a0 (wrap64 (a1 + 1))) = some (r1, r2) := h; clear h; have H' := J H; clear H; go_enter Try.func29, Try.ntmps29
 go_wp2
 go_loopg [6] k (fun kq v6 w' => ∃ (x6_1 : Int), v6 = .int .i64 x6_1 ∧ zaa (zay.l0 kq a0 x6_1 = some (r1, r2)) ∧ zaa (kq ≤ k) ∧ zaa (Below w.heap.size w w'))
 case atStart => exact ⟨(wrap64 (a1 + 1)), qc, H', ⟨Nat.le_refl _⟩, ⟨qa⟩⟩
 case round =>
  clear H'; try clear c2
  try clear p2
  obtain ⟨x6_1, rfl, HA, HK1, HB⟩ := hrel; cases gk with
  | zero => exact absurd HA.out (by simp [zay.l0])
  | succ k1 =>
   have H := HA.out; clear HA; simp only [zay.l0] at H; have HC3 := J H; clear H; go_upto_region 2 with (fail)
   go_cut [24] (fun v24 wc => ∃ (kq : Nat) (x24_2 : Bool), v24 = .bool x24_2 ∧ zaa (zay.j1 kq a0 x6_1 x24_2 = some (r1, r2)) ∧ zaa (kq ≤ k1) ∧ zaa (Below w.heap.size w wc))
   case first =>
    have H := HC3.out; clear HC3; by_cases c4 : x6_1 < (a0.size : Int)
    ·rw [if_pos c4] at H
     have c4b0 : decide (x6_1 < (a0.size : Int)) = true := decide_eq_true c4; clear c4
     (first | rw [c4b0] | (simp only [i64_w, i32_w]; rw [c4b0]) | skip)
     by_cases c5 : 0 ≤ x6_1
     ·rw [if_pos c5] at H
      have c5b0 : decide (0 ≤ x6_1) = true := decide_eq_true c5; clear c5; by_cases c7 : (bt a0 x6_1) = 10
      ·rw [if_pos c7] at H
       have c7b0 : ((bt a0 x6_1) == 10) = true := beq_iff_eq.mpr c7; have c7b1 : ((bt a0 x6_1) != 10) = false := bne_eq_false_iff_eq.mpr c7; clear c7; have H' := J H; clear H; have p6 : 0 ≤ (x6_1 : Int) := of_decide_eq_true qd
       have q6 : x6_1 < (a0.size : Int) := of_decide_eq_true qd
       have hx6 := bt_at a0 x6_1; replace p6 := eq_true p6; replace q6 := eq_true q6; go_wp2
       go_meet
       case rel => exact ⟨_, (false), qc, H', ⟨Qi⟩, ⟨qa⟩⟩
      ·rw [if_neg c7] at H
       have c7b0 : ((bt a0 x6_1) == 10) = false := beq_eq_false_iff_ne.mpr c7; have c7b1 : ((bt a0 x6_1) != 10) = true := bne_iff_ne.mpr c7; have H' := J H; clear H; have p6 : 0 ≤ (x6_1 : Int) := of_decide_eq_true qd
       have q6 : x6_1 < (a0.size : Int) := of_decide_eq_true qd
       have hx6 := bt_at a0 x6_1; replace p6 := eq_true p6; replace q6 := eq_true q6; have p8 : 0 ≤ (x6_1 : Int) := of_decide_eq_true qd
       have q8 : x6_1 < (a0.size : Int) := of_decide_eq_true qd
       have hx8 := bt_at a0 x6_1; replace p8 := eq_true p8; replace q8 := eq_true q8; go_wp2
       go_meet
       case rel => exact ⟨_, (((bt a0 x6_1) != 13)), qc, H', ⟨Qi⟩, ⟨qa⟩⟩
     ·rw [if_neg c5] at H
      exact absurd H qf
    ·rw [if_neg c4] at H
     have c4b0 : decide (x6_1 < (a0.size : Int)) = false := decide_eq_false c4; clear c4
     (first | rw [c4b0] | (simp only [i64_w, i32_w]; rw [c4b0]) | skip)
     have H' := J H; clear H; go_wp2
     go_meet
     case rel => exact ⟨_, (false), qc, H', ⟨Qi⟩, ⟨qa⟩⟩
   case rest =>
    clear HC3; try clear c2
    try clear p2
    try clear c4
    try clear c4b0
    try clear c5
    try clear c5b0
    try clear p6
    try clear q6
    try clear hx6
    try clear c7
    try clear c7b0
    try clear c7b1
    try clear p8
    try clear q8
    try clear hx8
    try clear p2
    try clear p6
    try clear p8
    try clear q6
    try clear q8
    obtain ⟨kq, x24_2, rfl, HA, HJ2, HB⟩ := hcut; cases kq with
    | zero => exact absurd HA.out (by simp [zay.j1])
    | succ kj2 =>
     have H := HA.out; clear HA; simp only [zay.j1] at H; by_cases c9 : x24_2 = true
     ·subst c9
      have H1 : (if 0 ≤ x6_1 then (if x6_1 < (a0.size : Int) then (if (bt a0 x6_1) = 34 then (some (8, wrap64 (x6_1 + 1))) else (if (bt a0 x6_1) = 92 then (if (wrap64 (x6_1 + 1)) = (a0.size : Int) then (some (9, wrap64 (x6_1 + 1))) else (if 0 ≤ (wrap64 (x6_1 + 1)) then (if (wrap64 (x6_1 + 1)) < (a0.size : Int) then (if (bt a0 (wrap64 (x6_1 + 1))) = 10 then (some (9, wrap64 (x6_1 + 1))) else (if (bt a0 (wrap64 (x6_1 + 1))) = 13 then (some (9, wrap64 (x6_1 + 1))) else ((za0.f kj2 a0 (wrap64 (x6_1 + 1))).bind fun t234 => (zay.l0 kj2 a0 (wrap64 ((wrap64 (x6_1 + 1)) + t234)))))) else (none)) else (none))) else ((za0.f kj2 a0 x6_1).bind fun t235 => (zay.l0 kj2 a0 (wrap64 (x6_1 + t235)))))) else (none)) else (none)) = some (r1, r2) := by rw [if_pos rfl] at H; exact H
      clear H; have H := H1; clear H1; by_cases c10 : 0 ≤ x6_1
      ·rw [if_pos c10] at H
       have c10b0 : decide (0 ≤ x6_1) = true := decide_eq_true c10; clear c10; by_cases c11 : x6_1 < (a0.size : Int)
       ·rw [if_pos c11] at H
        have c11b0 : decide (x6_1 < (a0.size : Int)) = true := decide_eq_true c11; clear c11; by_cases c13 : (bt a0 x6_1) = 34
        ·rw [if_pos c13] at H
         have c13b0 : ((bt a0 x6_1) == 34) = true := beq_iff_eq.mpr c13; have c13b1 : ((bt a0 x6_1) != 34) = false := bne_eq_false_iff_eq.mpr c13; clear c13; simp only [Option.some.injEq, Prod.mk.injEq] at H; obtain ⟨rfl, rfl⟩ := H; have p12 : 0 ≤ (x6_1 : Int) := of_decide_eq_true qd
         have q12 : x6_1 < (a0.size : Int) := of_decide_eq_true qd
         have hx12 := bt_at a0 x6_1; replace p12 := eq_true p12; replace q12 := eq_true q12; go_wp2
         go_ret2
         exact ⟨qg, qa⟩
        ·rw [if_neg c13] at H
         have c13b0 : ((bt a0 x6_1) == 34) = false := beq_eq_false_iff_ne.mpr c13; have c13b1 : ((bt a0 x6_1) != 34) = true := bne_iff_ne.mpr c13; by_cases c15 : (bt a0 x6_1) = 92
         ·rw [if_pos c15] at H
          have c15b0 : ((bt a0 x6_1) == 92) = true := beq_iff_eq.mpr c15; have c15b1 : ((bt a0 x6_1) != 92) = false := bne_eq_false_iff_eq.mpr c15; clear c15; by_cases c16 : (wrap64 (x6_1 + 1)) = (a0.size : Int)
          ·rw [if_pos c16] at H
           have c16b0 : ((wrap64 (x6_1 + 1)) == (a0.size : Int)) = true := beq_iff_eq.mpr c16; have c16b1 : ((wrap64 (x6_1 + 1)) != (a0.size : Int)) = false := bne_eq_false_iff_eq.mpr c16; clear c16; simp only [Option.some.injEq, Prod.mk.injEq] at H; obtain ⟨rfl, rfl⟩ := H; have p12 : 0 ≤ (x6_1 : Int) := of_decide_eq_true qd
           have q12 : x6_1 < (a0.size : Int) := of_decide_eq_true qd
           have hx12 := bt_at a0 x6_1; replace p12 := eq_true p12; replace q12 := eq_true q12; have p14 : 0 ≤ (x6_1 : Int) := of_decide_eq_true qd
           have q14 : x6_1 < (a0.size : Int) := of_decide_eq_true qd
           have hx14 := bt_at a0 x6_1; replace p14 := eq_true p14; replace q14 := eq_true q14; go_wp2
           go_ret2
           exact ⟨qg, qa⟩
          ·rw [if_neg c16] at H
           have c16b0 : ((wrap64 (x6_1 + 1)) == (a0.size : Int)) = false := beq_eq_false_iff_ne.mpr c16; have c16b1 : ((wrap64 (x6_1 + 1)) != (a0.size : Int)) = true := bne_iff_ne.mpr c16; obtain ⟨ji17, hji17⟩ : ∃ j_ : Int, (wrap64 (x6_1 + 1)) = j_ := ⟨_, rfl⟩; replace H : (if 0 ≤ (ji17) then (if (ji17) < (a0.size : Int) then (if (bt a0 (ji17)) = 10 then (some (9, ji17)) else (if (bt a0 (ji17)) = 13 then (some (9, ji17)) else ((za0.f kj2 a0 (ji17)).bind fun t234 => (zay.l0 kj2 a0 (wrap64 ((ji17) + t234)))))) else (none)) else (none)) = some (r1, r2) := by first | (rw [hji17] at H; exact H) | (simp only [hji17] at H ⊢; exact H)
           (try rw [hji17] at c16b0)
           (try rw [hji17] at c16b1)
           have hji17w : (IntKind.i64.wrap (x6_1 + 1)) = ji17 := (i64_w _).trans hji17; by_cases c18 : 0 ≤ (ji17)
           ·rw [if_pos c18] at H
            have c18b0 : decide (0 ≤ (ji17)) = true := decide_eq_true c18; clear c18; by_cases c19 : (ji17) < (a0.size : Int)
            ·rw [if_pos c19] at H
             have c19b0 : decide ((ji17) < (a0.size : Int)) = true := decide_eq_true c19; clear c19; by_cases c21 : (bt a0 (ji17)) = 10
             ·rw [if_pos c21] at H
              have c21b0 : ((bt a0 (ji17)) == 10) = true := beq_iff_eq.mpr c21; have c21b1 : ((bt a0 (ji17)) != 10) = false := bne_eq_false_iff_eq.mpr c21; clear c21; simp only [Option.some.injEq, Prod.mk.injEq] at H; obtain ⟨rfl, rfl⟩ := H; have p12 : 0 ≤ (x6_1 : Int) := of_decide_eq_true qd
              have q12 : x6_1 < (a0.size : Int) := of_decide_eq_true qd
              have hx12 := bt_at a0 x6_1; replace p12 := eq_true p12; replace q12 := eq_true q12; have p14 : 0 ≤ (x6_1 : Int) := of_decide_eq_true qd
              have q14 : x6_1 < (a0.size : Int) := of_decide_eq_true qd
              have hx14 := bt_at a0 x6_1; replace p14 := eq_true p14; replace q14 := eq_true q14; have p20 : 0 ≤ ((ji17) : Int) := of_decide_eq_true qd
              have q20 : (ji17) < (a0.size : Int) := of_decide_eq_true qd
              have hx20 := bt_at a0 (ji17); replace p20 := eq_true p20; replace q20 := eq_true q20; go_wp2
              go_ret2
              exact ⟨by first | rfl | (simp [zax, zaw] <;> rfl) | (simp only [← hji17]; first | rfl | (simp [zax, zaw] <;> rfl)) | (simp [*, zax, zaw] <;> rfl), qa⟩
             ·rw [if_neg c21] at H
              have c21b0 : ((bt a0 (ji17)) == 10) = false := beq_eq_false_iff_ne.mpr c21; have c21b1 : ((bt a0 (ji17)) != 10) = true := bne_iff_ne.mpr c21; by_cases c23 : (bt a0 (ji17)) = 13
              ·rw [if_pos c23] at H
               have c23b0 : ((bt a0 (ji17)) == 13) = true := beq_iff_eq.mpr c23; have c23b1 : ((bt a0 (ji17)) != 13) = false := bne_eq_false_iff_eq.mpr c23; clear c23; simp only [Option.some.injEq, Prod.mk.injEq] at H; obtain ⟨rfl, rfl⟩ := H; have p12 : 0 ≤ (x6_1 : Int) := of_decide_eq_true qd
               have q12 : x6_1 < (a0.size : Int) := of_decide_eq_true qd
               have hx12 := bt_at a0 x6_1; replace p12 := eq_true p12; replace q12 := eq_true q12; have p14 : 0 ≤ (x6_1 : Int) := of_decide_eq_true qd
               have q14 : x6_1 < (a0.size : Int) := of_decide_eq_true qd
               have hx14 := bt_at a0 x6_1; replace p14 := eq_true p14; replace q14 := eq_true q14; have p20 : 0 ≤ ((ji17) : Int) := of_decide_eq_true qd
               have q20 : (ji17) < (a0.size : Int) := of_decide_eq_true qd
               have hx20 := bt_at a0 (ji17); replace p20 := eq_true p20; replace q20 := eq_true q20; have p22 : 0 ≤ ((ji17) : Int) := of_decide_eq_true qd
               have q22 : (ji17) < (a0.size : Int) := of_decide_eq_true qd
               have hx22 := bt_at a0 (ji17); replace p22 := eq_true p22; replace q22 := eq_true q22; go_wp2
               go_ret2
               exact ⟨by first | rfl | (simp [zax, zaw] <;> rfl) | (simp only [← hji17]; first | rfl | (simp [zax, zaw] <;> rfl)) | (simp [*, zax, zaw] <;> rfl), qa⟩
              ·rw [if_neg c23] at H
               have c23b0 : ((bt a0 (ji17)) == 13) = false := beq_eq_false_iff_ne.mpr c23; have c23b1 : ((bt a0 (ji17)) != 13) = true := bne_iff_ne.mpr c23; replace H := Option.bind_eq_some_iff.mp H; obtain ⟨t234, A240, H⟩ := H; replace H : (zay.l0 kj2 a0 (wrap64 ((ji17) + t234))) = some (r1, r2) := H; have A24 := J A240; clear A240; have H' := J H; clear H; have p12 : 0 ≤ (x6_1 : Int) := of_decide_eq_true qd
               have q12 : x6_1 < (a0.size : Int) := of_decide_eq_true qd
               have hx12 := bt_at a0 x6_1; replace p12 := eq_true p12; replace q12 := eq_true q12; have p14 : 0 ≤ (x6_1 : Int) := of_decide_eq_true qd
               have q14 : x6_1 < (a0.size : Int) := of_decide_eq_true qd
               have hx14 := bt_at a0 x6_1; replace p14 := eq_true p14; replace q14 := eq_true q14; have p20 : 0 ≤ ((ji17) : Int) := of_decide_eq_true qd
               have q20 : (ji17) < (a0.size : Int) := of_decide_eq_true qd
               have hx20 := bt_at a0 (ji17); replace p20 := eq_true p20; replace q20 := eq_true q20; have p22 : 0 ≤ ((ji17) : Int) := of_decide_eq_true qd
               have q22 : (ji17) < (a0.size : Int) := of_decide_eq_true qd
               have hx22 := bt_at a0 (ji17); replace p22 := eq_true p22; replace q22 := eq_true q22; go_wp2_with (first | ((with_reducible refine zaK (f := 48) rfl ?_); refine zbc (some 56) rfl rfl Try.func48 qb rfl #[.string a0, .int .i64 ji17] rfl (by (try simp only [List.map_toArray, List.map_cons, List.map_nil]); first | done | (simp only [hji17]; rfl) | rfl | (simp only [List.length_drop, List.length_take]; rfl)) ?_; (with_reducible refine (za0.calls kj2 a0 ji17 t234 _ A24.out).mono ?_); rintro e w25 ⟨rfl, hb⟩; refine ⟨_, rfl, ?_⟩; have n0_ := J (zak qa hb); clear HB; have HB := n0_; clear n0_; (try clear hb); (try clear hb2); (try clear hk); (try clear hi)))
               go_roundg kj2
               case measure => have := HK1.out; have := HJ2.out; omega
               case rel => exact ⟨(wrap64 ((ji17) + t234)), (by first | rfl | (simp; done) | (simp only [← hji17] <;> (first | rfl | simp)) | simp [*]), H', ⟨by have := HK1.out; have := HJ2.out; omega⟩, ⟨qa⟩⟩
            ·rw [if_neg c19] at H
             exact absurd H qf
           ·rw [if_neg c18] at H
            exact absurd H qf
         ·rw [if_neg c15] at H
          have c15b0 : ((bt a0 x6_1) == 92) = false := beq_eq_false_iff_ne.mpr c15; have c15b1 : ((bt a0 x6_1) != 92) = true := bne_iff_ne.mpr c15; replace H := Option.bind_eq_some_iff.mp H; obtain ⟨t235, A260, H⟩ := H; replace H : (zay.l0 kj2 a0 (wrap64 (x6_1 + t235))) = some (r1, r2) := H; have A26 := J A260; clear A260; have H' := J H; clear H; have p12 : 0 ≤ (x6_1 : Int) := of_decide_eq_true qd
          have q12 : x6_1 < (a0.size : Int) := of_decide_eq_true qd
          have hx12 := bt_at a0 x6_1; replace p12 := eq_true p12; replace q12 := eq_true q12; have p14 : 0 ≤ (x6_1 : Int) := of_decide_eq_true qd
          have q14 : x6_1 < (a0.size : Int) := of_decide_eq_true qd
          have hx14 := bt_at a0 x6_1; replace p14 := eq_true p14; replace q14 := eq_true q14; go_wp2_with (first | ((with_reducible refine zaK (f := 48) rfl ?_); refine zbc (some 56) rfl rfl Try.func48 qb rfl #[.string a0, .int .i64 x6_1] rfl qi ?_; (with_reducible refine (za0.calls kj2 a0 x6_1 t235 _ A26.out).mono ?_); rintro e w27 ⟨rfl, hb⟩; refine ⟨_, rfl, ?_⟩; have n0_ := J (zak qa hb); clear HB; have HB := n0_; clear n0_; (try clear hb); (try clear hb2); (try clear hk); (try clear hi)))
          go_roundg kj2
          case measure => have := HK1.out; have := HJ2.out; omega
          case rel => exact ⟨(wrap64 (x6_1 + t235)), qc, H', ⟨by have := HK1.out; have := HJ2.out; omega⟩, ⟨qa⟩⟩
       ·rw [if_neg c11] at H
        exact absurd H qf
      ·rw [if_neg c10] at H
       exact absurd H qf
     ·replace c9 := Bool.eq_false_iff.mpr c9
      subst c9; have H1 : (some (9, x6_1)) = some (r1, r2) := by rw [if_neg (show ¬ (false = true) by decide)] at H; exact H
      clear H; have H := H1; clear H1; simp only [Option.some.injEq, Prod.mk.injEq] at H; obtain ⟨rfl, rfl⟩ := H; go_wp2
      go_ret2
      exact ⟨qg, qa⟩
mutual
def zaH.l0 : Nat → ByteArray → Int → List ByteArray → List Int → Int → Option (Int × Int)
 | 0, _, _, _, _, _ => none
 | k + 1, x0, x1, x6, x7, x8 => if x8 < (x6.length : Int) then (if (wrap64 (x1 + 2)) ≤ (x0.size : Int) then (if 0 ≤ x1 then (if x1 ≤ (wrap64 (x1 + 2)) then (if 0 ≤ x8 then (if (x0.extract (x1 : Int).toNat ((wrap64 (x1 + 2)) : Int).toNat).toList = (rdOf ByteArray.empty x6 x8).toList then (if x8 < (x7.length : Int) then (some (rd x7 x8, wrap64 (x1 + 2))) else (none)) else (zaH.l0 k x0 x1 x6 x7 (wrap64 (x8 + 1)))) else (none)) else (none)) else (none)) else (zaH.l0 k x0 x1 x6 x7 (wrap64 (x8 + 1)))) else (zaH.l1 k x0 x1 (⟨#[40, 41, 123, 125, 44, 59, 61, 60, 62, 43, 45, 42, 37, 33]⟩ : ByteArray) (([20, 21, 22, 23, 24, 25, 26, 29, 31, 33, 34, 35, 37, 38] : List Int)) 0)
def zaH.l1 : Nat → ByteArray → Int → ByteArray → List Int → Int → Option (Int × Int)
 | 0, _, _, _, _, _ => none
 | k + 1, x0, x1, x9, x10, x11 => if x11 < (x9.size : Int) then (if 0 ≤ x1 then (if x1 < (x0.size : Int) then (if 0 ≤ x11 then (if (bt x0 x1) = (bt x9 x11) then (if x11 < (x10.length : Int) then (some (rd x10 x11, wrap64 (x1 + 1))) else (none)) else (zaH.l1 k x0 x1 x9 x10 (wrap64 (x11 + 1)))) else (none)) else (none)) else (none)) else ((za0.f k x0 x1).bind fun t248 => (some (5, wrap64 (x1 + t248))))
end
def zaH.f (k : Nat) (a0 : ByteArray) (a1 : Int) : Option (Int × Int) := zaH.l0 k a0 a1 (([(⟨#[61, 61]⟩ : ByteArray), (⟨#[33, 61]⟩ : ByteArray), (⟨#[60, 61]⟩ : ByteArray), (⟨#[62, 61]⟩ : ByteArray), (⟨#[38, 38]⟩ : ByteArray), (⟨#[124, 124]⟩ : ByteArray)] : List ByteArray)) (([27, 28, 30, 32, 39, 40] : List Int)) 0
theorem zaH.calls (k : Nat) (a0 : ByteArray) (a1 : Int) (r1 : Int) (r2 : Int) (w : World) (h : zaH.f k a0 a1 = some (r1, r2)) :
  Calls Try.prog 30 #[.string a0, .int .i64 a1] w fun e w' => e = .returned (.tuple #[.int .u8 r1, .int .i64 r2]) ∧ Below w.heap.size w w' := by
 have HB := J (Below.refl w.heap.size w); have H : (zaH.l0 k a0 a1 (([(⟨#[61, 61]⟩ : ByteArray), (⟨#[33, 61]⟩ : ByteArray), (⟨#[60, 61]⟩ : ByteArray), (⟨#[62, 61]⟩ : ByteArray), (⟨#[38, 38]⟩ : ByteArray), (⟨#[124, 124]⟩ : ByteArray)] : List ByteArray)) (([27, 28, 30, 32, 39, 40] : List Int)) 0) = some (r1, r2) := h; clear h; obtain ⟨y236, hy236⟩ : ∃ y_ : List ByteArray, y_ = (([(⟨#[61, 61]⟩ : ByteArray), (⟨#[33, 61]⟩ : ByteArray), (⟨#[60, 61]⟩ : ByteArray), (⟨#[62, 61]⟩ : ByteArray), (⟨#[38, 38]⟩ : ByteArray), (⟨#[124, 124]⟩ : ByteArray)] : List ByteArray)) := ⟨_, rfl⟩; replace H : (zaH.l0 k a0 a1 y236 (([27, 28, 30, 32, 39, 40] : List Int)) 0) = some (r1, r2) := by first | (rw [hy236]; with_reducible exact H) | (have H2_ := (Option.bind_some _ _).symm.trans H; rw [hy236]; with_reducible exact H2_) | (have H2_ := (Option.bind_some _ _).symm.trans H; with_reducible exact H2_) | with_reducible exact H | (rw [hy236]; exact H) | exact H
 have Ny236 := J hy236; clear hy236; obtain ⟨y239, hy239⟩ : ∃ y_ : List Int, y_ = (([27, 28, 30, 32, 39, 40] : List Int)) := ⟨_, rfl⟩; replace H : (zaH.l0 k a0 a1 y236 y239 0) = some (r1, r2) := by first | (rw [hy239]; with_reducible exact H) | (have H2_ := (Option.bind_some _ _).symm.trans H; rw [hy239]; with_reducible exact H2_) | (have H2_ := (Option.bind_some _ _).symm.trans H; with_reducible exact H2_) | with_reducible exact H | (rw [hy239]; exact H) | exact H
 have Ny239 := J hy239; clear hy239; have H' := J H; clear H; go_enter Try.func30, Try.ntmps30
 go_wp2_with (first | ((with_reducible refine za2 (N := 12) rfl ?_); refine Kd.R_lit Kd.string _ 9 ?hg (N := 12) ?hd (xs := ([(⟨#[61, 61]⟩ : ByteArray), (⟨#[33, 61]⟩ : ByteArray), (⟨#[60, 61]⟩ : ByteArray), (⟨#[62, 61]⟩ : ByteArray), (⟨#[38, 38]⟩ : ByteArray), (⟨#[124, 124]⟩ : ByteArray)] : List ByteArray)) (inner := [.string (⟨#[61, 61]⟩ : ByteArray), .string (⟨#[33, 61]⟩ : ByteArray), .string (⟨#[60, 61]⟩ : ByteArray), .string (⟨#[62, 61]⟩ : ByteArray), .string (⟨#[38, 38]⟩ : ByteArray), .string (⟨#[124, 124]⟩ : ByteArray)]) (ok := fun _ => True) (okp := fun _ => True) ?hr ?hp (fun _ hk => hk) trivial (Below.refl _ _) (Nat.le_refl _) qf ?_; (case hd => rfl); (case hg => rfl); (case hr => first | (go_simp; done) | (go_simp; rfl)); (case hp => exact (Reps.one (show Kd.M Kd.string _ _ _ (⟨#[61, 61]⟩ : ByteArray) [.string (⟨#[61, 61]⟩ : ByteArray)] from rfl) (Reps.one (show Kd.M Kd.string _ _ _ (⟨#[33, 61]⟩ : ByteArray) [.string (⟨#[33, 61]⟩ : ByteArray)] from rfl) (Reps.one (show Kd.M Kd.string _ _ _ (⟨#[60, 61]⟩ : ByteArray) [.string (⟨#[60, 61]⟩ : ByteArray)] from rfl) (Reps.one (show Kd.M Kd.string _ _ _ (⟨#[62, 61]⟩ : ByteArray) [.string (⟨#[62, 61]⟩ : ByteArray)] from rfl) (Reps.one (show Kd.M Kd.string _ _ _ (⟨#[38, 38]⟩ : ByteArray) [.string (⟨#[38, 38]⟩ : ByteArray)] from rfl) (Reps.one (show Kd.M Kd.string _ _ _ (⟨#[124, 124]⟩ : ByteArray) [.string (⟨#[124, 124]⟩ : ByteArray)] from rfl) (Reps.none _ _)))))))); intro v237 w3 ho4 hb hg_ hnew_; clear hg_ hnew_; (first | rw [← Ny236.out] at ho4 | (simp only [Int.reduceToNat] at ho4; rw [← Ny236.out] at ho4)); have n0_ := J (Kd.zbz ho4 (zav qa)); have n1_ := J (zak qa hb); clear HB; have HO238 := n0_; have HB := n1_; clear n0_ n1_; clear hb ho4) | ((with_reducible refine za2 (N := 13) rfl ?_); refine Kd.R_lit (Kd.int .u8) _ 5 ?hg (N := 13) ?hd (xs := ([27, 28, 30, 32, 39, 40] : List Int)) (inner := [.int .u8 27, .int .u8 28, .int .u8 30, .int .u8 32, .int .u8 39, .int .u8 40]) (ok := fun _ => True) (okp := fun _ => True) ?hr ?hp (fun _ hk => hk) trivial (Below.refl _ _) (Nat.le_refl _) qf ?_; (case hd => rfl); (case hg => rfl); (case hr => first | (go_simp; done) | (go_simp; rfl)); (case hp => exact (Reps.one (show Kd.M (Kd.int .u8) _ _ _ 27 [.int .u8 27] from rfl) (Reps.one (show Kd.M (Kd.int .u8) _ _ _ 28 [.int .u8 28] from rfl) (Reps.one (show Kd.M (Kd.int .u8) _ _ _ 30 [.int .u8 30] from rfl) (Reps.one (show Kd.M (Kd.int .u8) _ _ _ 32 [.int .u8 32] from rfl) (Reps.one (show Kd.M (Kd.int .u8) _ _ _ 39 [.int .u8 39] from rfl) (Reps.one (show Kd.M (Kd.int .u8) _ _ _ 40 [.int .u8 40] from rfl) (Reps.none _ _)))))))); intro v240 w5 ho6 hb hg_ hnew_; clear hg_ hnew_; (first | rw [← Ny239.out] at ho6 | (simp only [Int.reduceToNat] at ho6; rw [← Ny239.out] at ho6)); have n0_ := J (Kd.zbx Qn hb); have n1_ := J (Kd.zbz ho6 (zav qa)); have n2_ := J (zak qa hb); clear HO238; clear HB; have HO238 := n0_; have HO241 := n1_; have HB := n2_; clear n0_ n1_ n2_; clear hb ho6))
 repeat (go_quiet (first | ((with_reducible refine za2 (N := 12) rfl ?_); refine Kd.R_lit Kd.string _ 9 ?hg (N := 12) ?hd (xs := ([(⟨#[61, 61]⟩ : ByteArray), (⟨#[33, 61]⟩ : ByteArray), (⟨#[60, 61]⟩ : ByteArray), (⟨#[62, 61]⟩ : ByteArray), (⟨#[38, 38]⟩ : ByteArray), (⟨#[124, 124]⟩ : ByteArray)] : List ByteArray)) (inner := [.string (⟨#[61, 61]⟩ : ByteArray), .string (⟨#[33, 61]⟩ : ByteArray), .string (⟨#[60, 61]⟩ : ByteArray), .string (⟨#[62, 61]⟩ : ByteArray), .string (⟨#[38, 38]⟩ : ByteArray), .string (⟨#[124, 124]⟩ : ByteArray)]) (ok := fun _ => True) (okp := fun _ => True) ?hr ?hp (fun _ hk => hk) trivial (Below.refl _ _) (Nat.le_refl _) qf ?_; (case hd => rfl); (case hg => rfl); (case hr => first | (go_simp; done) | (go_simp; rfl)); (case hp => exact (Reps.one (show Kd.M Kd.string _ _ _ (⟨#[61, 61]⟩ : ByteArray) [.string (⟨#[61, 61]⟩ : ByteArray)] from rfl) (Reps.one (show Kd.M Kd.string _ _ _ (⟨#[33, 61]⟩ : ByteArray) [.string (⟨#[33, 61]⟩ : ByteArray)] from rfl) (Reps.one (show Kd.M Kd.string _ _ _ (⟨#[60, 61]⟩ : ByteArray) [.string (⟨#[60, 61]⟩ : ByteArray)] from rfl) (Reps.one (show Kd.M Kd.string _ _ _ (⟨#[62, 61]⟩ : ByteArray) [.string (⟨#[62, 61]⟩ : ByteArray)] from rfl) (Reps.one (show Kd.M Kd.string _ _ _ (⟨#[38, 38]⟩ : ByteArray) [.string (⟨#[38, 38]⟩ : ByteArray)] from rfl) (Reps.one (show Kd.M Kd.string _ _ _ (⟨#[124, 124]⟩ : ByteArray) [.string (⟨#[124, 124]⟩ : ByteArray)] from rfl) (Reps.none _ _)))))))); intro v237 w3 ho4 hb hg_ hnew_; clear hg_ hnew_; (first | rw [← Ny236.out] at ho4 | (simp only [Int.reduceToNat] at ho4; rw [← Ny236.out] at ho4)); have n0_ := J (Kd.zbz ho4 (zav qa)); have n1_ := J (zak qa hb); clear HB; have HO238 := n0_; have HB := n1_; clear n0_ n1_; clear hb ho4) | ((with_reducible refine za2 (N := 13) rfl ?_); refine Kd.R_lit (Kd.int .u8) _ 5 ?hg (N := 13) ?hd (xs := ([27, 28, 30, 32, 39, 40] : List Int)) (inner := [.int .u8 27, .int .u8 28, .int .u8 30, .int .u8 32, .int .u8 39, .int .u8 40]) (ok := fun _ => True) (okp := fun _ => True) ?hr ?hp (fun _ hk => hk) trivial (Below.refl _ _) (Nat.le_refl _) qf ?_; (case hd => rfl); (case hg => rfl); (case hr => first | (go_simp; done) | (go_simp; rfl)); (case hp => exact (Reps.one (show Kd.M (Kd.int .u8) _ _ _ 27 [.int .u8 27] from rfl) (Reps.one (show Kd.M (Kd.int .u8) _ _ _ 28 [.int .u8 28] from rfl) (Reps.one (show Kd.M (Kd.int .u8) _ _ _ 30 [.int .u8 30] from rfl) (Reps.one (show Kd.M (Kd.int .u8) _ _ _ 32 [.int .u8 32] from rfl) (Reps.one (show Kd.M (Kd.int .u8) _ _ _ 39 [.int .u8 39] from rfl) (Reps.one (show Kd.M (Kd.int .u8) _ _ _ 40 [.int .u8 40] from rfl) (Reps.none _ _)))))))); intro v240 w5 ho6 hb hg_ hnew_; clear hg_ hnew_; (first | rw [← Ny239.out] at ho6 | (simp only [Int.reduceToNat] at ho6; rw [← Ny239.out] at ho6)); have n0_ := J (Kd.zbx Qn hb); have n1_ := J (Kd.zbz ho6 (zav qa)); have n2_ := J (zak qa hb); clear HO238; clear HB; have HO238 := n0_; have HO241 := n1_; have HB := n2_; clear n0_ n1_ n2_; clear hb ho6)); try go_wp2_with (first | ((with_reducible refine za2 (N := 12) rfl ?_); refine Kd.R_lit Kd.string _ 9 ?hg (N := 12) ?hd (xs := ([(⟨#[61, 61]⟩ : ByteArray), (⟨#[33, 61]⟩ : ByteArray), (⟨#[60, 61]⟩ : ByteArray), (⟨#[62, 61]⟩ : ByteArray), (⟨#[38, 38]⟩ : ByteArray), (⟨#[124, 124]⟩ : ByteArray)] : List ByteArray)) (inner := [.string (⟨#[61, 61]⟩ : ByteArray), .string (⟨#[33, 61]⟩ : ByteArray), .string (⟨#[60, 61]⟩ : ByteArray), .string (⟨#[62, 61]⟩ : ByteArray), .string (⟨#[38, 38]⟩ : ByteArray), .string (⟨#[124, 124]⟩ : ByteArray)]) (ok := fun _ => True) (okp := fun _ => True) ?hr ?hp (fun _ hk => hk) trivial (Below.refl _ _) (Nat.le_refl _) qf ?_; (case hd => rfl); (case hg => rfl); (case hr => first | (go_simp; done) | (go_simp; rfl)); (case hp => exact (Reps.one (show Kd.M Kd.string _ _ _ (⟨#[61, 61]⟩ : ByteArray) [.string (⟨#[61, 61]⟩ : ByteArray)] from rfl) (Reps.one (show Kd.M Kd.string _ _ _ (⟨#[33, 61]⟩ : ByteArray) [.string (⟨#[33, 61]⟩ : ByteArray)] from rfl) (Reps.one (show Kd.M Kd.string _ _ _ (⟨#[60, 61]⟩ : ByteArray) [.string (⟨#[60, 61]⟩ : ByteArray)] from rfl) (Reps.one (show Kd.M Kd.string _ _ _ (⟨#[62, 61]⟩ : ByteArray) [.string (⟨#[62, 61]⟩ : ByteArray)] from rfl) (Reps.one (show Kd.M Kd.string _ _ _ (⟨#[38, 38]⟩ : ByteArray) [.string (⟨#[38, 38]⟩ : ByteArray)] from rfl) (Reps.one (show Kd.M Kd.string _ _ _ (⟨#[124, 124]⟩ : ByteArray) [.string (⟨#[124, 124]⟩ : ByteArray)] from rfl) (Reps.none _ _)))))))); intro v237 w3 ho4 hb hg_ hnew_; clear hg_ hnew_; (first | rw [← Ny236.out] at ho4 | (simp only [Int.reduceToNat] at ho4; rw [← Ny236.out] at ho4)); have n0_ := J (Kd.zbz ho4 (zav qa)); have n1_ := J (zak qa hb); clear HB; have HO238 := n0_; have HB := n1_; clear n0_ n1_; clear hb ho4) | ((with_reducible refine za2 (N := 13) rfl ?_); refine Kd.R_lit (Kd.int .u8) _ 5 ?hg (N := 13) ?hd (xs := ([27, 28, 30, 32, 39, 40] : List Int)) (inner := [.int .u8 27, .int .u8 28, .int .u8 30, .int .u8 32, .int .u8 39, .int .u8 40]) (ok := fun _ => True) (okp := fun _ => True) ?hr ?hp (fun _ hk => hk) trivial (Below.refl _ _) (Nat.le_refl _) qf ?_; (case hd => rfl); (case hg => rfl); (case hr => first | (go_simp; done) | (go_simp; rfl)); (case hp => exact (Reps.one (show Kd.M (Kd.int .u8) _ _ _ 27 [.int .u8 27] from rfl) (Reps.one (show Kd.M (Kd.int .u8) _ _ _ 28 [.int .u8 28] from rfl) (Reps.one (show Kd.M (Kd.int .u8) _ _ _ 30 [.int .u8 30] from rfl) (Reps.one (show Kd.M (Kd.int .u8) _ _ _ 32 [.int .u8 32] from rfl) (Reps.one (show Kd.M (Kd.int .u8) _ _ _ 39 [.int .u8 39] from rfl) (Reps.one (show Kd.M (Kd.int .u8) _ _ _ 40 [.int .u8 40] from rfl) (Reps.none _ _)))))))); intro v240 w5 ho6 hb hg_ hnew_; clear hg_ hnew_; (first | rw [← Ny239.out] at ho6 | (simp only [Int.reduceToNat] at ho6; rw [← Ny239.out] at ho6)); have n0_ := J (Kd.zbx Qn hb); have n1_ := J (Kd.zbz ho6 (zav qa)); have n2_ := J (zak qa hb); clear HO238; clear HB; have HO238 := n0_; have HO241 := n1_; have HB := n2_; clear n0_ n1_ n2_; clear hb ho6)))
 go_loopg [8] k (fun kq v8 w' => ∃ (x8_1 : Int), v8 = .int .i64 x8_1 ∧ zaa (zaH.l0 kq a0 a1 y236 y239 x8_1 = some (r1, r2)) ∧ zaa (kq ≤ k) ∧ zaa (Kd.R Kd.string 9 w' w.heap.size (fun _ => True) v237 y236) ∧ zaa (Kd.R (Kd.int .u8) 5 w' w.heap.size (fun _ => True) v240 y239) ∧ zaa (Below w.heap.size w w'))
 case atStart => exact ⟨(0), qc, H', ⟨Nat.le_refl _⟩, ⟨Qn⟩, ⟨by (with_reducible repeat (first | apply Kd.zbo | apply Kd.zbn | apply Kd.zbD)); exact HO241.out⟩, ⟨qa⟩⟩
 case round =>
  clear H'; try clear p2
  try clear c3
  obtain ⟨x8_1, rfl, HA, HK1, HO_6, HO_7, HB⟩ := hrel; cases gk with
  | zero => exact absurd HA.out (by simp [zaH.l0])
  | succ k1 =>
   have H := HA.out; clear HA; simp only [zaH.l0] at H; by_cases c7 : x8_1 < (y236.length : Int)
   ·rw [if_pos c7] at H
    have c7b0 : decide (x8_1 < (y236.length : Int)) = true := decide_eq_true c7; clear c7; by_cases c8 : (wrap64 (a1 + 2)) ≤ (a0.size : Int)
    ·rw [if_pos c8] at H
     have c8b0 : decide ((wrap64 (a1 + 2)) ≤ (a0.size : Int)) = true := decide_eq_true c8; clear c8; by_cases c9 : 0 ≤ a1
     ·rw [if_pos c9] at H
      have c9b0 := eq_true c9; have c9b1 : decide (0 ≤ a1) = true := decide_eq_true c9; clear c9; by_cases c10 : a1 ≤ (wrap64 (a1 + 2))
      ·rw [if_pos c10] at H
       have c10b0 := eq_true c10; have c10b1 : decide (a1 ≤ (wrap64 (a1 + 2))) = true := decide_eq_true c10; have c11b0 := eq_true (of_decide_eq_true qd : (wrap64 (a1 + 2)) ≤ (a0.size : Int))
       by_cases c12 : 0 ≤ x8_1
       ·rw [if_pos c12] at H
        have c12b0 : decide (0 ≤ x8_1) = true := decide_eq_true c12; clear c12; by_cases c13 : (a0.extract (a1 : Int).toNat ((wrap64 (a1 + 2)) : Int).toNat).toList = (rdOf ByteArray.empty y236 x8_1).toList
        ·rw [if_pos c13] at H
         have c13b0 : ((a0.extract (a1 : Int).toNat ((wrap64 (a1 + 2)) : Int).toNat).toList == (rdOf ByteArray.empty y236 x8_1).toList) = true := beq_iff_eq.mpr c13; have c13b1 : ((a0.extract (a1 : Int).toNat ((wrap64 (a1 + 2)) : Int).toNat).toList != (rdOf ByteArray.empty y236 x8_1).toList) = false := bne_eq_false_iff_eq.mpr c13; clear c13; by_cases c14 : x8_1 < (y239.length : Int)
         ·rw [if_pos c14] at H
          have c14b0 : decide (x8_1 < (y239.length : Int)) = true := decide_eq_true c14; clear c14; simp only [Option.some.injEq, Prod.mk.injEq] at H; obtain ⟨rfl, rfl⟩ := H; obtain ⟨Ao15, co15, eo15⟩ := Kd.za4 HO_6.out; subst eo15; have p242 : 0 ≤ (x8_1 : Int) := of_decide_eq_true qd
          have q242 : x8_1 < (y236.length : Int) := of_decide_eq_true qd
          obtain ⟨ad242, e242, hx242_0⟩ := Kd.at_string (Kd.zbk HO_6.out).2.2 x8_1 p242 q242; cases e242; replace p242 := eq_true p242; replace q242 := eq_true q242; obtain ⟨Ao16, co16, eo16⟩ := Kd.za4 HO_7.out; subst eo16; have p243 : 0 ≤ (x8_1 : Int) := of_decide_eq_true qd
          have q243 : x8_1 < (y239.length : Int) := of_decide_eq_true qd
          obtain ⟨ad243, e243, hx243_0⟩ := Kd.at_int (Kd.zbk HO_7.out).2.2 x8_1 p243 q243; cases e243; replace p243 := eq_true p243; replace q243 := eq_true q243; go_wp2
          repeat (go_quiet (fail); try go_wp2)
          go_ret2
          exact ⟨qg, qa⟩
         ·rw [if_neg c14] at H
          exact absurd H qf
        ·rw [if_neg c13] at H
         have c13b0 : ((a0.extract (a1 : Int).toNat ((wrap64 (a1 + 2)) : Int).toNat).toList == (rdOf ByteArray.empty y236 x8_1).toList) = false := beq_eq_false_iff_ne.mpr c13; have c13b1 : ((a0.extract (a1 : Int).toNat ((wrap64 (a1 + 2)) : Int).toNat).toList != (rdOf ByteArray.empty y236 x8_1).toList) = true := bne_iff_ne.mpr c13; have H' := J H; clear H; obtain ⟨Ao17, co17, eo17⟩ := Kd.za4 HO_6.out; subst eo17; have p242 : 0 ≤ (x8_1 : Int) := of_decide_eq_true qd
         have q242 : x8_1 < (y236.length : Int) := of_decide_eq_true qd
         obtain ⟨ad242, e242, hx242_0⟩ := Kd.at_string (Kd.zbk HO_6.out).2.2 x8_1 p242 q242; cases e242; replace p242 := eq_true p242; replace q242 := eq_true q242; go_wp2
         repeat (go_quiet (fail); try go_wp2)
         go_roundg k1
         case measure => have := HK1.out; omega
         case rel => exact ⟨(wrap64 (x8_1 + 1)), qc, H', ⟨qx⟩, ⟨Qj⟩, ⟨qX⟩, ⟨qa⟩⟩
       ·rw [if_neg c12] at H
        exact absurd H qf
      ·rw [if_neg c10] at H
       exact absurd H qf
     ·rw [if_neg c9] at H
      exact absurd H qf
    ·rw [if_neg c8] at H
     have c8b0 : decide ((wrap64 (a1 + 2)) ≤ (a0.size : Int)) = false := decide_eq_false c8; clear c8; have H' := J H; clear H; obtain ⟨Ao18, co18, eo18⟩ := Kd.za4 HO_6.out; subst eo18; go_wp2
     repeat (go_quiet (fail); try go_wp2)
     go_roundg k1
     case measure => have := HK1.out; omega
     case rel => exact ⟨(wrap64 (x8_1 + 1)), qc, H', ⟨qx⟩, ⟨Qj⟩, ⟨qX⟩, ⟨qa⟩⟩
   ·rw [if_neg c7] at H
    have c7b0 : decide (x8_1 < (y236.length : Int)) = false := decide_eq_false c7; clear c7; obtain ⟨y244, hy244⟩ : ∃ y_ : List Int, y_ = (([20, 21, 22, 23, 24, 25, 26, 29, 31, 33, 34, 35, 37, 38] : List Int)) := ⟨_, rfl⟩; replace H : (zaH.l1 k1 a0 a1 (⟨#[40, 41, 123, 125, 44, 59, 61, 60, 62, 43, 45, 42, 37, 33]⟩ : ByteArray) y244 0) = some (r1, r2) := by first | (rw [hy244]; with_reducible exact H) | (have H2_ := (Option.bind_some _ _).symm.trans H; rw [hy244]; with_reducible exact H2_) | (have H2_ := (Option.bind_some _ _).symm.trans H; with_reducible exact H2_) | with_reducible exact H | (rw [hy244]; exact H) | exact H
    have Ny244 := J hy244; clear hy244; have H' := J H; clear H; obtain ⟨Ao19, co19, eo19⟩ := Kd.za4 HO_6.out; subst eo19; go_wp2_with (first | ((with_reducible refine za2 (N := 43) rfl ?_); refine Kd.R_lit (Kd.int .u8) _ 5 ?hg (N := 43) ?hd (xs := ([20, 21, 22, 23, 24, 25, 26, 29, 31, 33, 34, 35, 37, 38] : List Int)) (inner := [.int .u8 20, .int .u8 21, .int .u8 22, .int .u8 23, .int .u8 24, .int .u8 25, .int .u8 26, .int .u8 29, .int .u8 31, .int .u8 33, .int .u8 34, .int .u8 35, .int .u8 37, .int .u8 38]) (ok := fun _ => True) (okp := fun _ => True) ?hr ?hp (fun _ hk => hk) trivial (Below.refl _ _) (Nat.le_refl _) qf ?_; (case hd => rfl); (case hg => rfl); (case hr => first | (go_simp; done) | (go_simp; rfl)); (case hp => exact (Reps.one (show Kd.M (Kd.int .u8) _ _ _ 20 [.int .u8 20] from rfl) (Reps.one (show Kd.M (Kd.int .u8) _ _ _ 21 [.int .u8 21] from rfl) (Reps.one (show Kd.M (Kd.int .u8) _ _ _ 22 [.int .u8 22] from rfl) (Reps.one (show Kd.M (Kd.int .u8) _ _ _ 23 [.int .u8 23] from rfl) (Reps.one (show Kd.M (Kd.int .u8) _ _ _ 24 [.int .u8 24] from rfl) (Reps.one (show Kd.M (Kd.int .u8) _ _ _ 25 [.int .u8 25] from rfl) (Reps.one (show Kd.M (Kd.int .u8) _ _ _ 26 [.int .u8 26] from rfl) (Reps.one (show Kd.M (Kd.int .u8) _ _ _ 29 [.int .u8 29] from rfl) (Reps.one (show Kd.M (Kd.int .u8) _ _ _ 31 [.int .u8 31] from rfl) (Reps.one (show Kd.M (Kd.int .u8) _ _ _ 33 [.int .u8 33] from rfl) (Reps.one (show Kd.M (Kd.int .u8) _ _ _ 34 [.int .u8 34] from rfl) (Reps.one (show Kd.M (Kd.int .u8) _ _ _ 35 [.int .u8 35] from rfl) (Reps.one (show Kd.M (Kd.int .u8) _ _ _ 37 [.int .u8 37] from rfl) (Reps.one (show Kd.M (Kd.int .u8) _ _ _ 38 [.int .u8 38] from rfl) (Reps.none _ _)))))))))))))))); intro v245 w20 ho21 hb hg_ hnew_; clear hg_ hnew_; (first | rw [← Ny244.out] at ho21 | (simp only [Int.reduceToNat] at ho21; rw [← Ny244.out] at ho21)); have n0_ := J (Kd.zbx Qj hb); have n1_ := J (Kd.R_elder' qX (Kd.R_base ho21) hb); have n2_ := J (Kd.zbz (Kd.R_new' ho21 (Kd.R_lt qX)) (zav qa)); have n3_ := J (zak qa hb); clear HO_6; clear HO_7; clear HB; have HO_6 := n0_; have HO_7 := n1_; have HO246 := n2_; have HB := n3_; clear n0_ n1_ n2_ n3_; clear hb ho21))
    repeat (go_quiet (first | ((with_reducible refine za2 (N := 43) rfl ?_); refine Kd.R_lit (Kd.int .u8) _ 5 ?hg (N := 43) ?hd (xs := ([20, 21, 22, 23, 24, 25, 26, 29, 31, 33, 34, 35, 37, 38] : List Int)) (inner := [.int .u8 20, .int .u8 21, .int .u8 22, .int .u8 23, .int .u8 24, .int .u8 25, .int .u8 26, .int .u8 29, .int .u8 31, .int .u8 33, .int .u8 34, .int .u8 35, .int .u8 37, .int .u8 38]) (ok := fun _ => True) (okp := fun _ => True) ?hr ?hp (fun _ hk => hk) trivial (Below.refl _ _) (Nat.le_refl _) qf ?_; (case hd => rfl); (case hg => rfl); (case hr => first | (go_simp; done) | (go_simp; rfl)); (case hp => exact (Reps.one (show Kd.M (Kd.int .u8) _ _ _ 20 [.int .u8 20] from rfl) (Reps.one (show Kd.M (Kd.int .u8) _ _ _ 21 [.int .u8 21] from rfl) (Reps.one (show Kd.M (Kd.int .u8) _ _ _ 22 [.int .u8 22] from rfl) (Reps.one (show Kd.M (Kd.int .u8) _ _ _ 23 [.int .u8 23] from rfl) (Reps.one (show Kd.M (Kd.int .u8) _ _ _ 24 [.int .u8 24] from rfl) (Reps.one (show Kd.M (Kd.int .u8) _ _ _ 25 [.int .u8 25] from rfl) (Reps.one (show Kd.M (Kd.int .u8) _ _ _ 26 [.int .u8 26] from rfl) (Reps.one (show Kd.M (Kd.int .u8) _ _ _ 29 [.int .u8 29] from rfl) (Reps.one (show Kd.M (Kd.int .u8) _ _ _ 31 [.int .u8 31] from rfl) (Reps.one (show Kd.M (Kd.int .u8) _ _ _ 33 [.int .u8 33] from rfl) (Reps.one (show Kd.M (Kd.int .u8) _ _ _ 34 [.int .u8 34] from rfl) (Reps.one (show Kd.M (Kd.int .u8) _ _ _ 35 [.int .u8 35] from rfl) (Reps.one (show Kd.M (Kd.int .u8) _ _ _ 37 [.int .u8 37] from rfl) (Reps.one (show Kd.M (Kd.int .u8) _ _ _ 38 [.int .u8 38] from rfl) (Reps.none _ _)))))))))))))))); intro v245 w20 ho21 hb hg_ hnew_; clear hg_ hnew_; (first | rw [← Ny244.out] at ho21 | (simp only [Int.reduceToNat] at ho21; rw [← Ny244.out] at ho21)); have n0_ := J (Kd.zbx Qj hb); have n1_ := J (Kd.R_elder' qX (Kd.R_base ho21) hb); have n2_ := J (Kd.zbz (Kd.R_new' ho21 (Kd.R_lt qX)) (zav qa)); have n3_ := J (zak qa hb); clear HO_6; clear HO_7; clear HB; have HO_6 := n0_; have HO_7 := n1_; have HO246 := n2_; have HB := n3_; clear n0_ n1_ n2_ n3_; clear hb ho21)); try go_wp2_with (first | ((with_reducible refine za2 (N := 43) rfl ?_); refine Kd.R_lit (Kd.int .u8) _ 5 ?hg (N := 43) ?hd (xs := ([20, 21, 22, 23, 24, 25, 26, 29, 31, 33, 34, 35, 37, 38] : List Int)) (inner := [.int .u8 20, .int .u8 21, .int .u8 22, .int .u8 23, .int .u8 24, .int .u8 25, .int .u8 26, .int .u8 29, .int .u8 31, .int .u8 33, .int .u8 34, .int .u8 35, .int .u8 37, .int .u8 38]) (ok := fun _ => True) (okp := fun _ => True) ?hr ?hp (fun _ hk => hk) trivial (Below.refl _ _) (Nat.le_refl _) qf ?_; (case hd => rfl); (case hg => rfl); (case hr => first | (go_simp; done) | (go_simp; rfl)); (case hp => exact (Reps.one (show Kd.M (Kd.int .u8) _ _ _ 20 [.int .u8 20] from rfl) (Reps.one (show Kd.M (Kd.int .u8) _ _ _ 21 [.int .u8 21] from rfl) (Reps.one (show Kd.M (Kd.int .u8) _ _ _ 22 [.int .u8 22] from rfl) (Reps.one (show Kd.M (Kd.int .u8) _ _ _ 23 [.int .u8 23] from rfl) (Reps.one (show Kd.M (Kd.int .u8) _ _ _ 24 [.int .u8 24] from rfl) (Reps.one (show Kd.M (Kd.int .u8) _ _ _ 25 [.int .u8 25] from rfl) (Reps.one (show Kd.M (Kd.int .u8) _ _ _ 26 [.int .u8 26] from rfl) (Reps.one (show Kd.M (Kd.int .u8) _ _ _ 29 [.int .u8 29] from rfl) (Reps.one (show Kd.M (Kd.int .u8) _ _ _ 31 [.int .u8 31] from rfl) (Reps.one (show Kd.M (Kd.int .u8) _ _ _ 33 [.int .u8 33] from rfl) (Reps.one (show Kd.M (Kd.int .u8) _ _ _ 34 [.int .u8 34] from rfl) (Reps.one (show Kd.M (Kd.int .u8) _ _ _ 35 [.int .u8 35] from rfl) (Reps.one (show Kd.M (Kd.int .u8) _ _ _ 37 [.int .u8 37] from rfl) (Reps.one (show Kd.M (Kd.int .u8) _ _ _ 38 [.int .u8 38] from rfl) (Reps.none _ _)))))))))))))))); intro v245 w20 ho21 hb hg_ hnew_; clear hg_ hnew_; (first | rw [← Ny244.out] at ho21 | (simp only [Int.reduceToNat] at ho21; rw [← Ny244.out] at ho21)); have n0_ := J (Kd.zbx Qj hb); have n1_ := J (Kd.R_elder' qX (Kd.R_base ho21) hb); have n2_ := J (Kd.zbz (Kd.R_new' ho21 (Kd.R_lt qX)) (zav qa)); have n3_ := J (zak qa hb); clear HO_6; clear HO_7; clear HB; have HO_6 := n0_; have HO_7 := n1_; have HO246 := n2_; have HB := n3_; clear n0_ n1_ n2_ n3_; clear hb ho21)))
    go_loopg [11] k1 (fun kq v11 w' => ∃ (x11_2 : Int), v11 = .int .i64 x11_2 ∧ zaa (zaH.l1 kq a0 a1 (⟨#[40, 41, 123, 125, 44, 59, 61, 60, 62, 43, 45, 42, 37, 33]⟩ : ByteArray) y244 x11_2 = some (r1, r2)) ∧ zaa (kq ≤ k1) ∧ zaa (Kd.R (Kd.int .u8) 5 w' w.heap.size (fun _ => True) v245 y244) ∧ zaa (Below w.heap.size w w'))
    case atStart => exact ⟨(0), qc, H', ⟨Nat.le_refl _⟩, ⟨by (with_reducible repeat (first | apply Kd.zbo | apply Kd.zbn | apply Kd.zbD)); exact Kd.zbl HO246.out (fun _ hk => trivial)⟩, ⟨qa⟩⟩
    case round =>
     clear H'; try clear c1
     try clear p2
     try clear q2
     try clear hx2
     try clear c3
     try clear p6
     try clear c7
     try clear c7b0
     try clear c8
     try clear c8b0
     try clear c9
     try clear c9b0
     try clear c9b1
     try clear c10
     try clear c10b0
     try clear c10b1
     try clear c11
     try clear c11b0
     try clear c12
     try clear c12b0
     try clear c13
     try clear c13b0
     try clear c13b1
     try clear c14
     try clear c14b0
     try clear hx242_0
     try clear hx243_0
     try clear p2
     try clear p242
     try clear p243
     try clear q242
     try clear q243
     obtain ⟨x11_2, rfl, HA, HK2, HO_10, HB⟩ := hrel; cases gk with
     | zero => exact absurd HA.out (by simp [zaH.l1])
     | succ k2 =>
      have H := HA.out; clear HA; simp only [zaH.l1] at H; by_cases c22 : x11_2 < ((⟨#[40, 41, 123, 125, 44, 59, 61, 60, 62, 43, 45, 42, 37, 33]⟩ : ByteArray).size : Int)
      ·rw [if_pos c22] at H
       have c22b0 : decide (x11_2 < ((⟨#[40, 41, 123, 125, 44, 59, 61, 60, 62, 43, 45, 42, 37, 33]⟩ : ByteArray).size : Int)) = true := decide_eq_true c22; have c22b0n : decide (x11_2 < 14) = true := c22b0; clear c22; by_cases c23 : 0 ≤ a1
       ·rw [if_pos c23] at H
        have c23b0 : decide (0 ≤ a1) = true := decide_eq_true c23; clear c23; by_cases c24 : a1 < (a0.size : Int)
        ·rw [if_pos c24] at H
         have c24b0 : decide (a1 < (a0.size : Int)) = true := decide_eq_true c24; clear c24; by_cases c26 : 0 ≤ x11_2
         ·rw [if_pos c26] at H
          have c26b0 : decide (0 ≤ x11_2) = true := decide_eq_true c26; clear c26; by_cases c28 : (bt a0 a1) = (bt (⟨#[40, 41, 123, 125, 44, 59, 61, 60, 62, 43, 45, 42, 37, 33]⟩ : ByteArray) x11_2)
          ·rw [if_pos c28] at H
           have c28b0 : ((bt a0 a1) == (bt (⟨#[40, 41, 123, 125, 44, 59, 61, 60, 62, 43, 45, 42, 37, 33]⟩ : ByteArray) x11_2)) = true := beq_iff_eq.mpr c28; have c28b1 : ((bt a0 a1) != (bt (⟨#[40, 41, 123, 125, 44, 59, 61, 60, 62, 43, 45, 42, 37, 33]⟩ : ByteArray) x11_2)) = false := bne_eq_false_iff_eq.mpr c28; clear c28; by_cases c29 : x11_2 < (y244.length : Int)
           ·rw [if_pos c29] at H
            have c29b0 : decide (x11_2 < (y244.length : Int)) = true := decide_eq_true c29; clear c29; simp only [Option.some.injEq, Prod.mk.injEq] at H; obtain ⟨rfl, rfl⟩ := H; have p25 : 0 ≤ (a1 : Int) := of_decide_eq_true qd
            have q25 : a1 < (a0.size : Int) := of_decide_eq_true qd
            have hx25 := bt_at a0 a1; replace p25 := eq_true p25; replace q25 := eq_true q25; have p27 : 0 ≤ (x11_2 : Int) := of_decide_eq_true qd
            have q27 : x11_2 < (14 : Int) := of_decide_eq_true qd
            have hx27 := bt_at (⟨#[40, 41, 123, 125, 44, 59, 61, 60, 62, 43, 45, 42, 37, 33]⟩ : ByteArray) x11_2; replace p27 := eq_true p27; replace q27 := eq_true q27; obtain ⟨Ao30, co30, eo30⟩ := Kd.za4 HO_10.out; subst eo30; have p247 : 0 ≤ (x11_2 : Int) := of_decide_eq_true qd
            have q247 : x11_2 < (y244.length : Int) := of_decide_eq_true qd
            obtain ⟨ad247, e247, hx247_0⟩ := Kd.at_int (Kd.zbk HO_10.out).2.2 x11_2 p247 q247; cases e247; replace p247 := eq_true p247; replace q247 := eq_true q247; go_wp2
            repeat (go_quiet (fail); try go_wp2)
            go_ret2
            exact ⟨qg, qa⟩
           ·rw [if_neg c29] at H
            exact absurd H qf
          ·rw [if_neg c28] at H
           have c28b0 : ((bt a0 a1) == (bt (⟨#[40, 41, 123, 125, 44, 59, 61, 60, 62, 43, 45, 42, 37, 33]⟩ : ByteArray) x11_2)) = false := beq_eq_false_iff_ne.mpr c28; have c28b1 : ((bt a0 a1) != (bt (⟨#[40, 41, 123, 125, 44, 59, 61, 60, 62, 43, 45, 42, 37, 33]⟩ : ByteArray) x11_2)) = true := bne_iff_ne.mpr c28; have H' := J H; clear H; have p25 : 0 ≤ (a1 : Int) := of_decide_eq_true qd
           have q25 : a1 < (a0.size : Int) := of_decide_eq_true qd
           have hx25 := bt_at a0 a1; replace p25 := eq_true p25; replace q25 := eq_true q25; have p27 : 0 ≤ (x11_2 : Int) := of_decide_eq_true qd
           have q27 : x11_2 < (14 : Int) := of_decide_eq_true qd
           have hx27 := bt_at (⟨#[40, 41, 123, 125, 44, 59, 61, 60, 62, 43, 45, 42, 37, 33]⟩ : ByteArray) x11_2; replace p27 := eq_true p27; replace q27 := eq_true q27; go_wp2
           repeat (go_quiet (fail); try go_wp2)
           go_roundg k2
           case measure => have := HK1.out; have := HK2.out; omega
           case rel => exact ⟨(wrap64 (x11_2 + 1)), qc, H', ⟨by have := HK1.out; have := HK2.out; omega⟩, ⟨Qo⟩, ⟨qa⟩⟩
         ·rw [if_neg c26] at H
          exact absurd H qf
        ·rw [if_neg c24] at H
         exact absurd H qf
       ·rw [if_neg c23] at H
        exact absurd H qf
      ·rw [if_neg c22] at H
       have c22b0 : decide (x11_2 < ((⟨#[40, 41, 123, 125, 44, 59, 61, 60, 62, 43, 45, 42, 37, 33]⟩ : ByteArray).size : Int)) = false := decide_eq_false c22; have c22b0n : decide (x11_2 < 14) = false := c22b0; clear c22; replace H := Option.bind_eq_some_iff.mp H; obtain ⟨t248, A310, H⟩ := H; replace H : (some (5, wrap64 (a1 + t248))) = some (r1, r2) := H; have A31 := J A310; clear A310; simp only [Option.some.injEq, Prod.mk.injEq] at H; obtain ⟨rfl, rfl⟩ := H; go_wp2_with (first | (go_at_call 48; (with_reducible refine (za0.calls k2 a0 a1 t248 _ A31.out).mono ?_); rintro e w32 ⟨rfl, hb⟩; have n0_ := J (Kd.zbx Qo hb); have n1_ := J (zak qa hb); clear HO_10; clear HB; have HO_10 := n0_; have HB := n1_; clear n0_ n1_; (try clear hb); (try clear hb2); (try clear hk); (try clear hi)))
       repeat (go_quiet (first | (go_at_call 48; (with_reducible refine (za0.calls k2 a0 a1 t248 _ A31.out).mono ?_); rintro e w32 ⟨rfl, hb⟩; have n0_ := J (Kd.zbx Qo hb); have n1_ := J (zak qa hb); clear HO_10; clear HB; have HO_10 := n0_; have HB := n1_; clear n0_ n1_; (try clear hb); (try clear hb2); (try clear hk); (try clear hi))); try go_wp2_with (first | (go_at_call 48; (with_reducible refine (za0.calls k2 a0 a1 t248 _ A31.out).mono ?_); rintro e w32 ⟨rfl, hb⟩; have n0_ := J (Kd.zbx Qo hb); have n1_ := J (zak qa hb); clear HO_10; clear HB; have HO_10 := n0_; have HB := n1_; clear n0_ n1_; (try clear hb); (try clear hb2); (try clear hk); (try clear hi))))
       go_ret2
       exact ⟨qg, qa⟩
end
end Go.Proofs.Ytobgkpnigjfhmaa.H
