/- Texts of this claim, merged. -/
import Derived.Test.YtobgkpnigjfhmaaZ1
import Derived.Test.YtobgkpnigjfhmaaProg
set_option maxRecDepth 100000
set_option maxHeartbeats 8000000
set_option linter.unusedVariables false
set_option linter.unusedSimpArgs false
namespace Go.Proofs.Ytobgkpnigjfhmaa.H
open Go.RowKit Go.Proofs.YtobgkpnigjfhmaaW.PrintWords Go.Proofs.YtobgkpnigjfhmaaW.PrintLast Go.Proofs.YtobgkpnigjfhmaaW.PrintMore
section
attribute [local go_sem] zbl zbj zbs min_two za9 za8 zbk zbi
def errW : Option Int → Value
 | none => .nilIface
 | some c => .iface 0 (.int .i64 c)
theorem zaD : errW none = .nilIface := rfl
theorem zaC (c : Int) : errW (some c) = .iface 0 (.int .i64 c) := rfl
theorem info24 : (Try.prog.info? 24).map (fun i => (i.zero, i.size, i.bytes)) = some (some (.agg #[(.int .u8 0), (.int .u8 0), (.int .i64 0), (.slice none 0 0)]), 4, 40) := by kernel_rfl
structure S24 where
 f0 : Int
 f1 : Int
 f2 : Int
 f3 : (List S24)
def z24 : S24 := ⟨(0 : Int), (0 : Int), (0 : Int), ([] : List S24)⟩
def F24 (d : Kd S24) : Kd S24 := Kd.iso (Kd.pair (Kd.int .u8) (Kd.pair (Kd.int .u8) (Kd.pair (Kd.int .i64) (Kd.slice 24 d)))) (fun x : S24 => (x.f0, x.f1, x.f2, x.f3))
theorem mono24 : Kd.Mono F24 := Kd.mono_iso _ (Kd.mono_pair (Kd.mono_const _) (Kd.mono_pair (Kd.mono_const _) (Kd.mono_pair (Kd.mono_const _) (Kd.mono_slice 24 Kd.mono_id))))
theorem sub24 : Kd.Sub F24 [24] := Kd.sub_iso _ (Kd.sub_pair (Kd.sub_const _ (by decide)) (Kd.sub_pair (Kd.sub_const _ (by decide)) (Kd.sub_pair (Kd.sub_const _ (by decide)) (Kd.sub_slice 24 (by decide) Kd.sub_id))))
theorem sz24 : ∀ n, (Kd.upto F24 4 [24] n).sz = 4 := Kd.upto_sz (fun _ => rfl)
def k24 : Kd S24 := Kd.fix F24 4 [24] sz24 (Kd.upto_E sub24)
theorem k24_open {w : World} {x : S24} {cs : List Value} (h : k24.K w x cs) : ∃ A3 c3, cs = [.int .u8 x.f0, .int .u8 x.f1, .int .i64 x.f2, .slice A3 x.f3.length c3] ∧ x.f3.length ≤ c3 ∧ k24.C w A3 x.f3.length x.f3 := by
 obtain ⟨n, h⟩ := h; cases n with
 | zero => exact h.elim
 | succ n =>
  obtain ⟨_, _, rfl, rfl, ⟨_, _, rfl, rfl, ⟨_, _, rfl, rfl, ⟨A3, c3, rfl, l3, g3⟩⟩⟩⟩ := h; exact ⟨A3, c3, rfl, l3, Kd.fix_C g3⟩
theorem k24_mk (w : World) (x : S24) {A3 : Option Addr} {c3 : Nat} (l3 : x.f3.length ≤ c3) (g3 : k24.C w A3 x.f3.length x.f3) : k24.K w x [.int .u8 x.f0, .int .u8 x.f1, .int .i64 x.f2, .slice A3 x.f3.length c3] := by
 obtain ⟨n3, q3⟩ := Kd.fix_C_back mono24 g3; have r3 := Kd.upto_C_le mono24 sz24 (show n3 ≤ n3 by omega) q3
 exact ⟨n3 + 1, ⟨[.int .u8 x.f0], [.int .u8 x.f1, .int .i64 x.f2, .slice A3 x.f3.length c3], rfl, rfl, ⟨[.int .u8 x.f1], [.int .i64 x.f2, .slice A3 x.f3.length c3], rfl, rfl, ⟨[.int .i64 x.f2], [.slice A3 x.f3.length c3], rfl, rfl, ⟨A3, c3, rfl, l3, r3⟩⟩⟩⟩⟩
theorem k24_mkM (w : World) (base : Nat) (ok : Nat → Prop) (x : S24) {v3 : Value} (g3 : k24.R 24 w base ok v3 x.f3) : k24.M w base ok x [.int .u8 x.f0, .int .u8 x.f1, .int .i64 x.f2, v3] := by
 obtain ⟨n3, q3⟩ := Kd.fix_R_back mono24 g3; have r3 := Kd.upto_R_le mono24 sz24 (show n3 ≤ n3 by omega) q3
 exact ⟨n3 + 1, ⟨[.int .u8 x.f0], [.int .u8 x.f1, .int .i64 x.f2, v3], rfl, rfl, ⟨[.int .u8 x.f1], [.int .i64 x.f2, v3], rfl, rfl, ⟨[.int .i64 x.f2], [v3], rfl, rfl, ⟨v3, rfl, r3⟩⟩⟩⟩⟩
theorem k24_openF {W : World} {ok : Nat → Prop} {x : S24} {cs : List Value} (h : Kd.FK k24 W ok x cs) : ∃ A3 c3, cs = [.int .u8 x.f0, .int .u8 x.f1, .int .i64 x.f2, .slice A3 x.f3.length c3] ∧ x.f3.length ≤ c3 ∧ Kd.F k24 W ok A3 x.f3.length x.f3 := by
 obtain ⟨A3, c3, rfl, l3, _⟩ := k24_open (Kd.FK_now h); exact ⟨A3, c3, rfl, l3, (fun W' hW => by obtain ⟨A3_, c3_, he, l3_, g3_⟩ := k24_open (h W' hW); injection (Option.some.inj (show some (Value.slice A3 x.f3.length c3) = some (Value.slice A3_ x.f3.length c3_) from congrArg (fun l => l[3]?) he)) with ha_ _ _; rw [ha_]; exact g3_)⟩
def zaE (xs : List S24) (i : Int) : S24 := xs.getD i.toNat z24
theorem at_T24 {w : World} {A : Option Addr} {n : Nat} {xs : List S24} (h : Kd.C k24 w A n xs) (i : Int) (h0 : 0 ≤ i) (h1 : i < n) : ∃ ad A3 c3, A = some ad ∧ w.cell? (ad.add (i.toNat * 4)) = some (.int .u8 (zaE xs i).f0) ∧ w.cell? ⟨(ad.add (i.toNat * 4)).block, (ad.add (i.toNat * 4)).off + 1, none⟩ = some (.int .u8 (zaE xs i).f1) ∧ w.cell? ⟨(ad.add (i.toNat * 4)).block, (ad.add (i.toNat * 4)).off + 2, none⟩ = some (.int .i64 (zaE xs i).f2) ∧ w.cell? ⟨(ad.add (i.toNat * 4)).block, (ad.add (i.toNat * 4)).off + 3, none⟩ = some (.slice A3 (zaE xs i).f3.length c3) ∧ (zaE xs i).f3.length ≤ c3 ∧ k24.C w A3 (zaE xs i).f3.length (zaE xs i).f3 := by
 obtain ⟨ad, c, e, _, hK, hc0⟩ := Kd.C_get h z24 i h0 h1; have hc : ∀ j u, c[j]? = some u → w.cell? (ad.add (i.toNat * 4 + j)) = some u := hc0; obtain ⟨A3, c3, rfl, l3, g3⟩ := k24_open hK; exact ⟨ad, A3, c3, e, hc 0 _ rfl, by rw [← zaO _ _ 1 (by omega)]; exact hc 1 _ rfl, by rw [← zaO _ _ 2 (by omega)]; exact hc 2 _ rfl, by rw [← zaO _ _ 3 (by omega)]; exact hc 3 _ rfl, l3, g3⟩
structure S97 where
 f0 : Int
 f1 : Int
 f2 : Int
 f3 : Int
def z97 : S97 := ⟨(0 : Int), (0 : Int), (0 : Int), (0 : Int)⟩
def k97 : Kd S97 := Kd.iso (Kd.pair (Kd.int .i64) (Kd.pair (Kd.int .u8) (Kd.pair (Kd.int .u8) (Kd.int .i64)))) (fun x : S97 => (x.f0, x.f1, x.f2, x.f3))
theorem k97_open {w : World} {x : S97} {cs : List Value} (h : k97.K w x cs) : cs = [.int .i64 x.f0, .int .u8 x.f1, .int .u8 x.f2, .int .i64 x.f3] := by
 obtain ⟨_, _, rfl, rfl, ⟨_, _, rfl, rfl, ⟨_, _, rfl, rfl, rfl⟩⟩⟩ := h; exact rfl
def zax (xs : List S97) (i : Int) : S97 := xs.getD i.toNat z97
theorem at_T97 {w : World} {A : Option Addr} {n : Nat} {xs : List S97} (h : Kd.C k97 w A n xs) (i : Int) (h0 : 0 ≤ i) (h1 : i < n) : ∃ ad , A = some ad ∧ w.cell? (ad.add (i.toNat * 4)) = some (.int .i64 (zax xs i).f0) ∧ w.cell? ⟨(ad.add (i.toNat * 4)).block, (ad.add (i.toNat * 4)).off + 1, none⟩ = some (.int .u8 (zax xs i).f1) ∧ w.cell? ⟨(ad.add (i.toNat * 4)).block, (ad.add (i.toNat * 4)).off + 2, none⟩ = some (.int .u8 (zax xs i).f2) ∧ w.cell? ⟨(ad.add (i.toNat * 4)).block, (ad.add (i.toNat * 4)).off + 3, none⟩ = some (.int .i64 (zax xs i).f3) := by
 obtain ⟨ad, c, e, _, hK, hc0⟩ := Kd.C_get h z97 i h0 h1; have hc : ∀ j u, c[j]? = some u → w.cell? (ad.add (i.toNat * 4 + j)) = some u := hc0; obtain rfl := k97_open hK; exact ⟨ad, e, hc 0 _ rfl, by rw [← zaO _ _ 1 (by omega)]; exact hc 1 _ rfl, by rw [← zaO _ _ 2 (by omega)]; exact hc 2 _ rfl, by rw [← zaO _ _ 3 (by omega)]; exact hc 3 _ rfl⟩
structure S60 where
 f0 : Int
 f1 : Int
def z60 : S60 := ⟨(0 : Int), (0 : Int)⟩
def k60 : Kd S60 := Kd.iso (Kd.pair (Kd.int .i64) (Kd.int .i64)) (fun x : S60 => (x.f0, x.f1))
theorem k60_open {w : World} {x : S60} {cs : List Value} (h : k60.K w x cs) : cs = [.int .i64 x.f0, .int .i64 x.f1] := by
 obtain ⟨_, _, rfl, rfl, rfl⟩ := h; exact rfl
theorem k60_mkM (w : World) (base : Nat) (ok : Nat → Prop) (x : S60)  : k60.M w base ok x [.int .i64 x.f0, .int .i64 x.f1] := ⟨[.int .i64 x.f0], [.int .i64 x.f1], rfl, rfl, rfl⟩
def rd_T60 (xs : List S60) (i : Int) : S60 := xs.getD i.toNat z60
theorem at_T60 {w : World} {A : Option Addr} {n : Nat} {xs : List S60} (h : Kd.C k60 w A n xs) (i : Int) (h0 : 0 ≤ i) (h1 : i < n) : ∃ ad , A = some ad ∧ w.cell? (ad.add (i.toNat * 2)) = some (.int .i64 (rd_T60 xs i).f0) ∧ w.cell? ⟨(ad.add (i.toNat * 2)).block, (ad.add (i.toNat * 2)).off + 1, none⟩ = some (.int .i64 (rd_T60 xs i).f1) := by
 obtain ⟨ad, c, e, _, hK, hc0⟩ := Kd.C_get h z60 i h0 h1; have hc : ∀ j u, c[j]? = some u → w.cell? (ad.add (i.toNat * 2 + j)) = some u := hc0; obtain rfl := k60_open hK; exact ⟨ad, e, hc 0 _ rfl, by rw [← zaO _ _ 1 (by omega)]; exact hc 1 _ rfl⟩
structure S113 where
 f0 : S24
 f1 : S60
 f2 : Int
def z113 : S113 := ⟨z24, z60, (0 : Int)⟩
def k113 : Kd S113 := Kd.iso (Kd.pair k24 (Kd.pair k60 (Kd.int .i64))) (fun x : S113 => (x.f0, x.f1, x.f2))
def rd_T113 (xs : List S113) (i : Int) : S113 := xs.getD i.toNat z113
structure S62 where
 f0 : S60
 f1 : Int
 f2 : Bool
def z62 : S62 := ⟨z60, (0 : Int), false⟩
def k62 : Kd S62 := Kd.iso (Kd.pair k60 (Kd.pair (Kd.int .u8) Kd.bool)) (fun x : S62 => (x.f0, x.f1, x.f2))
theorem k62_open {w : World} {x : S62} {cs : List Value} (h : k62.K w x cs) : cs = [.int .i64 x.f0.f0, .int .i64 x.f0.f1, .int .u8 x.f1, .bool x.f2] := by
 obtain ⟨_, _, rfl, s0, ⟨_, _, rfl, rfl, rfl⟩⟩ := h; obtain rfl := k60_open s0; exact rfl
theorem k62_mkM (w : World) (base : Nat) (ok : Nat → Prop) (x : S62)  : k62.M w base ok x [.int .i64 x.f0.f0, .int .i64 x.f0.f1, .int .u8 x.f1, .bool x.f2] := ⟨[.int .i64 x.f0.f0, .int .i64 x.f0.f1], [.int .u8 x.f1, .bool x.f2], rfl, (k60_mkM w base ok x.f0 ), ⟨[.int .u8 x.f1], [.bool x.f2], rfl, rfl, rfl⟩⟩
def rd_T62 (xs : List S62) (i : Int) : S62 := xs.getD i.toNat z62
theorem at_T62 {w : World} {A : Option Addr} {n : Nat} {xs : List S62} (h : Kd.C k62 w A n xs) (i : Int) (h0 : 0 ≤ i) (h1 : i < n) : ∃ ad , A = some ad ∧ w.cell? (ad.add (i.toNat * 4)) = some (.int .i64 (rd_T62 xs i).f0.f0) ∧ w.cell? ⟨(ad.add (i.toNat * 4)).block, (ad.add (i.toNat * 4)).off + 1, none⟩ = some (.int .i64 (rd_T62 xs i).f0.f1) ∧ w.cell? ⟨(ad.add (i.toNat * 4)).block, (ad.add (i.toNat * 4)).off + 2, none⟩ = some (.int .u8 (rd_T62 xs i).f1) ∧ w.cell? ⟨(ad.add (i.toNat * 4)).block, (ad.add (i.toNat * 4)).off + 3, none⟩ = some (.bool (rd_T62 xs i).f2) := by
 obtain ⟨ad, c, e, _, hK, hc0⟩ := Kd.C_get h z62 i h0 h1; have hc : ∀ j u, c[j]? = some u → w.cell? (ad.add (i.toNat * 4 + j)) = some u := hc0; obtain rfl := k62_open hK; exact ⟨ad, e, hc 0 _ rfl, by rw [← zaO _ _ 1 (by omega)]; exact hc 1 _ rfl, by rw [← zaO _ _ 2 (by omega)]; exact hc 2 _ rfl, by rw [← zaO _ _ 3 (by omega)]; exact hc 3 _ rfl⟩
def rd_L9 (xs : List (List S60)) (i : Int) : (List S60) := xs.getD i.toNat ([] : List S60)
structure S90 where
 f0 : S62
 f1 : ByteArray
 f2 : (List S60)
 f3 : Int
def z90 : S90 := ⟨z62, (⟨#[]⟩ : ByteArray), ([] : List S60), (0 : Int)⟩
def k90 : Kd S90 := Kd.iso (Kd.pair k62 (Kd.pair Kd.string (Kd.pair (Kd.slice 60 k60) (Kd.int .i64)))) (fun x : S90 => (x.f0, x.f1, x.f2, x.f3))
def rd_T90 (xs : List S90) (i : Int) : S90 := xs.getD i.toNat z90
structure S92 where
 f0 : S60
 f1 : ByteArray
def z92 : S92 := ⟨z60, (⟨#[]⟩ : ByteArray)⟩
def k92 : Kd S92 := Kd.iso (Kd.pair k60 Kd.string) (fun x : S92 => (x.f0, x.f1))
def rd_T92 (xs : List S92) (i : Int) : S92 := xs.getD i.toNat z92
structure S95 where
 f0 : S60
 f1 : Int
def z95 : S95 := ⟨z60, (0 : Int)⟩
def k95 : Kd S95 := Kd.iso (Kd.pair k60 (Kd.int .i64)) (fun x : S95 => (x.f0, x.f1))
theorem k95_open {w : World} {x : S95} {cs : List Value} (h : k95.K w x cs) : cs = [.int .i64 x.f0.f0, .int .i64 x.f0.f1, .int .i64 x.f1] := by
 obtain ⟨_, _, rfl, s0, rfl⟩ := h; obtain rfl := k60_open s0; exact rfl
theorem k95_mkM (w : World) (base : Nat) (ok : Nat → Prop) (x : S95)  : k95.M w base ok x [.int .i64 x.f0.f0, .int .i64 x.f0.f1, .int .i64 x.f1] := ⟨[.int .i64 x.f0.f0, .int .i64 x.f0.f1], [.int .i64 x.f1], rfl, (k60_mkM w base ok x.f0 ), rfl⟩
def rd_T95 (xs : List S95) (i : Int) : S95 := xs.getD i.toNat z95
theorem at_T95 {w : World} {A : Option Addr} {n : Nat} {xs : List S95} (h : Kd.C k95 w A n xs) (i : Int) (h0 : 0 ≤ i) (h1 : i < n) : ∃ ad , A = some ad ∧ w.cell? (ad.add (i.toNat * 3)) = some (.int .i64 (rd_T95 xs i).f0.f0) ∧ w.cell? ⟨(ad.add (i.toNat * 3)).block, (ad.add (i.toNat * 3)).off + 1, none⟩ = some (.int .i64 (rd_T95 xs i).f0.f1) ∧ w.cell? ⟨(ad.add (i.toNat * 3)).block, (ad.add (i.toNat * 3)).off + 2, none⟩ = some (.int .i64 (rd_T95 xs i).f1) := by
 obtain ⟨ad, c, e, _, hK, hc0⟩ := Kd.C_get h z95 i h0 h1; have hc : ∀ j u, c[j]? = some u → w.cell? (ad.add (i.toNat * 3 + j)) = some u := hc0; obtain rfl := k95_open hK; exact ⟨ad, e, hc 0 _ rfl, by rw [← zaO _ _ 1 (by omega)]; exact hc 1 _ rfl, by rw [← zaO _ _ 2 (by omega)]; exact hc 2 _ rfl⟩
structure S40 where
 f0 : Int
 f1 : Int
 f2 : Int
def z40 : S40 := ⟨(0 : Int), (0 : Int), (0 : Int)⟩
def k40 : Kd S40 := Kd.iso (Kd.pair (Kd.int .u8) (Kd.pair (Kd.int .i64) (Kd.int .i64))) (fun x : S40 => (x.f0, x.f1, x.f2))
def rd_T40 (xs : List S40) (i : Int) : S40 := xs.getD i.toNat z40
def za1.f (a0 : Int) : Option (Bool) := if a0 ≥ 1 then (if a0 ≤ 17 then (some true) else (if a0 ≥ 20 then (some (decide (a0 ≤ 40))) else (some false))) else (if a0 ≥ 20 then (some (decide (a0 ≤ 40))) else (some false))
theorem za1.calls (a0 : Int) (r : Bool) (w : World) (h : za1.f a0 = some r) :
  Calls Try.prog 75 #[.int .u8 a0] w fun e w' => e = .returned (.bool r) ∧ zaI w w' := by
 have H : (if a0 ≥ 1 then (if a0 ≤ 17 then (some true) else (if a0 ≥ 20 then (some (decide (a0 ≤ 40))) else (some false))) else (if a0 ≥ 20 then (some (decide (a0 ≤ 40))) else (some false))) = some r := h
 clear h; by_cases c2 : a0 ≥ 1
 ·rw [if_pos c2] at H
  have c2b0 : decide (1 ≤ a0) = true := decide_eq_true c2; clear c2; by_cases c3 : a0 ≤ 17
  ·rw [if_pos c3] at H
   have c3b0 : decide (a0 ≤ 17) = true := decide_eq_true c3; clear c3; obtain rfl := Option.some.inj H; go_enter Try.func75, Try.ntmps75
   go_wp2
   go_ret
   exact ⟨by first | rfl | (simp; done) | simp [*], by repeat (first | exact zaI.refl _ | apply zaI.step)⟩
  ·rw [if_neg c3] at H
   have c3b0 : decide (a0 ≤ 17) = false := decide_eq_false c3; clear c3; by_cases c4 : a0 ≥ 20
   ·rw [if_pos c4] at H
    have c4b0 : decide (20 ≤ a0) = true := decide_eq_true c4; clear c4; obtain rfl := Option.some.inj H; go_enter Try.func75, Try.ntmps75
    go_wp2
    go_ret
    exact ⟨by first | rfl | (simp; done) | simp [*], by repeat (first | exact zaI.refl _ | apply zaI.step)⟩
   ·rw [if_neg c4] at H
    have c4b0 : decide (20 ≤ a0) = false := decide_eq_false c4; clear c4; obtain rfl := Option.some.inj H; go_enter Try.func75, Try.ntmps75
    go_wp2
    go_ret
    exact ⟨by first | rfl | (simp; done) | simp [*], by repeat (first | exact zaI.refl _ | apply zaI.step)⟩
 ·rw [if_neg c2] at H
  have c2b0 : decide (1 ≤ a0) = false := decide_eq_false c2; clear c2; by_cases c5 : a0 ≥ 20
  ·rw [if_pos c5] at H
   have c5b0 : decide (20 ≤ a0) = true := decide_eq_true c5; clear c5; obtain rfl := Option.some.inj H; go_enter Try.func75, Try.ntmps75
   go_wp2
   go_ret
   exact ⟨by first | rfl | (simp; done) | simp [*], by repeat (first | exact zaI.refl _ | apply zaI.step)⟩
  ·rw [if_neg c5] at H
   have c5b0 : decide (20 ≤ a0) = false := decide_eq_false c5; clear c5; obtain rfl := Option.some.inj H; go_enter Try.func75, Try.ntmps75
   go_wp2
   go_ret
   exact ⟨by first | rfl | (simp; done) | simp [*], by repeat (first | exact zaI.refl _ | apply zaI.step)⟩
def zaw.l0 : Nat → List Int → Int → Int → Int → Option (Int)
 | 0, _, _, _, _ => none
 | k + 1, x0, x1, x7, x8 => if x8 < x7 then (if 0 ≤ x8 then (if x8 < (x0.length : Int) then (if x1 = (rd x0 x8) then (some x8) else (zaw.l0 k x0 x1 x7 (wrap64 (x8 + 1)))) else (none)) else (none)) else (some (-1))
def zaw.f (k : Nat) (l0 : List Int) (a1 : Int) : Option (Int) := zaw.l0 k l0 a1 (l0.length : Int) 0
theorem zaw.calls (k : Nat) (A0 : Option Addr) (c0 : Nat) (l0 : List Int) (a1 : Int) (r : Int) (w : World) (hr0 : Kd.C (Kd.int .u8) w A0 l0.length l0) (hc0 : l0.length ≤ c0) (h : zaw.f k l0 a1 = some r) :
  Calls Try.prog 83 #[.slice A0 l0.length c0, .int .u8 a1] w fun e w' => e = .returned (.int .i64 r) ∧ zaI w w' := by
 have HR0 := zaa.mk hr0; have HC0 := zaa.mk hc0; clear hr0 hc0; have H : (zaw.l0 k l0 a1 (l0.length : Int) 0) = some r := h; clear h; have H' := zaa.mk H; clear H; go_enter Try.func83, Try.ntmps83
 go_wp2
 go_loopg [8] k (fun kq v8 w' => ∃ (x8_1 : Int), v8 = .int .i64 x8_1 ∧ zaa (zaw.l0 kq l0 a1 (l0.length : Int) x8_1 = some r) ∧ zaa (kq ≤ k) ∧ zaI w w')
 case atStart => exact ⟨(0), (by first | rfl | (simp; done) | simp [*]), H', ⟨Nat.le_refl _⟩, by repeat (first | exact zaI.refl _ | apply zaI.step)⟩
 case round =>
  clear H'; try clear p2
  obtain ⟨x8_1, rfl, HA, HK1, ⟨m1, rfl⟩⟩ := hrel; cases gk with
  | zero => exact absurd HA.out (by simp [zaw.l0])
  | succ k1 =>
   have H := HA.out; clear HA; simp only [zaw.l0] at H; by_cases c3 : x8_1 < (l0.length : Int)
   ·rw [if_pos c3] at H
    have c3b0 : decide (x8_1 < (l0.length : Int)) = true := decide_eq_true c3; clear c3; by_cases c4 : 0 ≤ x8_1
    ·rw [if_pos c4] at H
     have c4b0 : decide (0 ≤ x8_1) = true := decide_eq_true c4; clear c4; by_cases c5 : x8_1 < (l0.length : Int)
     ·rw [if_pos c5] at H
      have c5b0 : decide (x8_1 < (l0.length : Int)) = true := decide_eq_true c5; clear c5; by_cases c6 : a1 = (rd l0 x8_1)
      ·rw [if_pos c6] at H
       have c6b0 : (a1 == (rd l0 x8_1)) = true := beq_iff_eq.mpr c6; have c6b1 : (a1 != (rd l0 x8_1)) = false := bne_eq_false_iff_eq.mpr c6; clear c6; obtain rfl := Option.some.inj H; have p101 : 0 ≤ (x8_1 : Int) := of_decide_eq_true (by assumption)
       have q101 : x8_1 < (l0.length : Int) := of_decide_eq_true (by assumption)
       obtain ⟨ad101, e101, hx101_0⟩ := Kd.at_int HR0.out x8_1 p101 q101; cases e101; replace p101 := eq_true p101; replace q101 := eq_true q101; go_wp2
       go_ret
       exact ⟨by first | rfl | (simp; done) | simp [*], by repeat (first | exact zaI.refl _ | apply zaI.step)⟩
      ·rw [if_neg c6] at H
       have c6b0 : (a1 == (rd l0 x8_1)) = false := beq_eq_false_iff_ne.mpr c6; have c6b1 : (a1 != (rd l0 x8_1)) = true := bne_iff_ne.mpr c6; have H' := zaa.mk H; clear H; have p101 : 0 ≤ (x8_1 : Int) := of_decide_eq_true (by assumption)
       have q101 : x8_1 < (l0.length : Int) := of_decide_eq_true (by assumption)
       obtain ⟨ad101, e101, hx101_0⟩ := Kd.at_int HR0.out x8_1 p101 q101; cases e101; replace p101 := eq_true p101; replace q101 := eq_true q101; go_wp2
       go_roundg k1
       case measure => have := HK1.out; omega
       case rel => exact ⟨(wrap64 (x8_1 + 1)), (by first | rfl | (simp; done) | simp [*]), H', ⟨by have := HK1.out; omega⟩, by repeat (first | exact zaI.refl _ | apply zaI.step)⟩
     ·rw [if_neg c5] at H
      exact absurd H (by simp)
    ·rw [if_neg c4] at H
     exact absurd H (by simp)
   ·rw [if_neg c3] at H
    have c3b0 : decide (x8_1 < (l0.length : Int)) = false := decide_eq_false c3; clear c3; obtain rfl := Option.some.inj H; go_wp2
    go_ret
    exact ⟨by first | rfl | (simp; done) | simp [*], by repeat (first | exact zaI.refl _ | apply zaI.step)⟩
def zaU.f (k : Nat) (l0 : List Int) (a1 : Int) : Option (Bool) := (zaw.f k l0 a1).bind fun t102 => (some (decide (t102 ≥ 0)))
theorem zaU.calls (k : Nat) (A0 : Option Addr) (c0 : Nat) (l0 : List Int) (a1 : Int) (r : Bool) (w : World) (hr0 : Kd.C (Kd.int .u8) w A0 l0.length l0) (hc0 : l0.length ≤ c0) (h : zaU.f k l0 a1 = some r) :
  Calls Try.prog 80 #[.slice A0 l0.length c0, .int .u8 a1] w fun e w' => e = .returned (.bool r) ∧ zaI w w' := by
 have HR0 := zaa.mk hr0; have HC0 := zaa.mk hc0; clear hr0 hc0; have H : ((zaw.f k l0 a1).bind fun t102 => (some (decide (t102 ≥ 0)))) = some r := h
 clear h; replace H := Option.bind_eq_some_iff.mp H; obtain ⟨t102, A30, H⟩ := H; replace H : (some (decide (t102 ≥ 0))) = some r := H; have A3 := zaa.mk A30; clear A30; obtain rfl := Option.some.inj H; go_enter Try.func80, Try.ntmps80
 go_wp2_with (first | ((with_reducible refine zaS (f := 83) rfl ?_); refine goesL_ (some 7) rfl rfl Try.func83 (by kernel_rfl) rfl #[.slice A0 l0.length c0, .int .u8 a1] rfl (by (try simp only [List.map_toArray, List.map_cons, List.map_nil]); first | done | rfl | (simp only [List.length_drop, List.length_take]; rfl)) ?_; (with_reducible refine (zaw.calls k _ _ l0 a1 t102 _ ?side1 ?side2 A3.out).mono ?_); (case side1 => repeat (first | exact HR0.out | (with_reducible refine Kd.C_alloc ?_ _) | (with_reducible refine Kd.C_drewN ?_ _) | (with_reducible refine Kd.C_drew ?_))); (case side2 => exact HC0.out); rintro e w' ⟨rfl, ⟨nd, rfl⟩⟩; refine ⟨_, rfl, ?_⟩))
 go_ret
 exact ⟨by first | rfl | (simp; done) | simp [*], by repeat (first | exact zaI.refl _ | apply zaI.step)⟩
def zaz.f (a0 : Int) : Option (Bool) := if a0 ≥ 1 then (if a0 ≤ 17 then (some true) else (if a0 ≥ 20 then (some (decide (a0 ≤ 40))) else (some false))) else (if a0 ≥ 20 then (some (decide (a0 ≤ 40))) else (some false))
theorem zaz.calls (a0 : Int) (r : Bool) (w : World) (h : zaz.f a0 = some r) :
  Calls Try.prog 20 #[.int .u8 a0] w fun e w' => e = .returned (.bool r) ∧ zaI w w' := by
 have H : (if a0 ≥ 1 then (if a0 ≤ 17 then (some true) else (if a0 ≥ 20 then (some (decide (a0 ≤ 40))) else (some false))) else (if a0 ≥ 20 then (some (decide (a0 ≤ 40))) else (some false))) = some r := h
 clear h; by_cases c2 : a0 ≥ 1
 ·rw [if_pos c2] at H
  have c2b0 : decide (1 ≤ a0) = true := decide_eq_true c2; clear c2; by_cases c3 : a0 ≤ 17
  ·rw [if_pos c3] at H
   have c3b0 : decide (a0 ≤ 17) = true := decide_eq_true c3; clear c3; obtain rfl := Option.some.inj H; go_enter Try.func20, Try.ntmps20
   go_wp2
   go_ret
   exact ⟨by first | rfl | (simp; done) | simp [*], by repeat (first | exact zaI.refl _ | apply zaI.step)⟩
  ·rw [if_neg c3] at H
   have c3b0 : decide (a0 ≤ 17) = false := decide_eq_false c3; clear c3; by_cases c4 : a0 ≥ 20
   ·rw [if_pos c4] at H
    have c4b0 : decide (20 ≤ a0) = true := decide_eq_true c4; clear c4; obtain rfl := Option.some.inj H; go_enter Try.func20, Try.ntmps20
    go_wp2
    go_ret
    exact ⟨by first | rfl | (simp; done) | simp [*], by repeat (first | exact zaI.refl _ | apply zaI.step)⟩
   ·rw [if_neg c4] at H
    have c4b0 : decide (20 ≤ a0) = false := decide_eq_false c4; clear c4; obtain rfl := Option.some.inj H; go_enter Try.func20, Try.ntmps20
    go_wp2
    go_ret
    exact ⟨by first | rfl | (simp; done) | simp [*], by repeat (first | exact zaI.refl _ | apply zaI.step)⟩
 ·rw [if_neg c2] at H
  have c2b0 : decide (1 ≤ a0) = false := decide_eq_false c2; clear c2; by_cases c5 : a0 ≥ 20
  ·rw [if_pos c5] at H
   have c5b0 : decide (20 ≤ a0) = true := decide_eq_true c5; clear c5; obtain rfl := Option.some.inj H; go_enter Try.func20, Try.ntmps20
   go_wp2
   go_ret
   exact ⟨by first | rfl | (simp; done) | simp [*], by repeat (first | exact zaI.refl _ | apply zaI.step)⟩
  ·rw [if_neg c5] at H
   have c5b0 : decide (20 ≤ a0) = false := decide_eq_false c5; clear c5; obtain rfl := Option.some.inj H; go_enter Try.func20, Try.ntmps20
   go_wp2
   go_ret
   exact ⟨by first | rfl | (simp; done) | simp [*], by repeat (first | exact zaI.refl _ | apply zaI.step)⟩
def zaJ.f (a0 : Int) : Option (Bool) := if a0 = 1 then (some false) else (if a0 = 2 then (some false) else (if a0 = 3 then (some false) else (if a0 = 4 then (some false) else (if a0 = 5 then (some false) else (if a0 = 9 then (some false) else ((zaz.f a0).bind fun t150 => (some t150)))))))
theorem zaJ.calls (a0 : Int) (r : Bool) (w : World) (h : zaJ.f a0 = some r) :
  Calls Try.prog 71 #[.int .u8 a0] w fun e w' => e = .returned (.bool r) ∧ zaI w w' := by
 have H : (if a0 = 1 then (some false) else (if a0 = 2 then (some false) else (if a0 = 3 then (some false) else (if a0 = 4 then (some false) else (if a0 = 5 then (some false) else (if a0 = 9 then (some false) else ((zaz.f a0).bind fun t150 => (some t150)))))))) = some r := h
 clear h; by_cases c2 : a0 = 1
 ·rw [if_pos c2] at H
  have c2b0 : (a0 == 1) = true := beq_iff_eq.mpr c2; have c2b1 : (a0 != 1) = false := bne_eq_false_iff_eq.mpr c2; clear c2; obtain rfl := Option.some.inj H; go_enter Try.func71, Try.ntmps71
  go_wp2
  go_ret
  exact ⟨by first | rfl | (simp; done) | simp [*], by repeat (first | exact zaI.refl _ | apply zaI.step)⟩
 ·rw [if_neg c2] at H
  have c2b0 : (a0 == 1) = false := beq_eq_false_iff_ne.mpr c2; have c2b1 : (a0 != 1) = true := bne_iff_ne.mpr c2; by_cases c3 : a0 = 2
  ·rw [if_pos c3] at H
   have c3b0 : (a0 == 2) = true := beq_iff_eq.mpr c3; have c3b1 : (a0 != 2) = false := bne_eq_false_iff_eq.mpr c3; clear c3; obtain rfl := Option.some.inj H; go_enter Try.func71, Try.ntmps71
   go_wp2
   go_ret
   exact ⟨by first | rfl | (simp; done) | simp [*], by repeat (first | exact zaI.refl _ | apply zaI.step)⟩
  ·rw [if_neg c3] at H
   have c3b0 : (a0 == 2) = false := beq_eq_false_iff_ne.mpr c3; have c3b1 : (a0 != 2) = true := bne_iff_ne.mpr c3; by_cases c4 : a0 = 3
   ·rw [if_pos c4] at H
    have c4b0 : (a0 == 3) = true := beq_iff_eq.mpr c4; have c4b1 : (a0 != 3) = false := bne_eq_false_iff_eq.mpr c4; clear c4; obtain rfl := Option.some.inj H; go_enter Try.func71, Try.ntmps71
    go_wp2
    go_ret
    exact ⟨by first | rfl | (simp; done) | simp [*], by repeat (first | exact zaI.refl _ | apply zaI.step)⟩
   ·rw [if_neg c4] at H
    have c4b0 : (a0 == 3) = false := beq_eq_false_iff_ne.mpr c4; have c4b1 : (a0 != 3) = true := bne_iff_ne.mpr c4; by_cases c5 : a0 = 4
    ·rw [if_pos c5] at H
     have c5b0 : (a0 == 4) = true := beq_iff_eq.mpr c5; have c5b1 : (a0 != 4) = false := bne_eq_false_iff_eq.mpr c5; clear c5; obtain rfl := Option.some.inj H; go_enter Try.func71, Try.ntmps71
     go_wp2
     go_ret
     exact ⟨by first | rfl | (simp; done) | simp [*], by repeat (first | exact zaI.refl _ | apply zaI.step)⟩
    ·rw [if_neg c5] at H
     have c5b0 : (a0 == 4) = false := beq_eq_false_iff_ne.mpr c5; have c5b1 : (a0 != 4) = true := bne_iff_ne.mpr c5; by_cases c6 : a0 = 5
     ·rw [if_pos c6] at H
      have c6b0 : (a0 == 5) = true := beq_iff_eq.mpr c6; have c6b1 : (a0 != 5) = false := bne_eq_false_iff_eq.mpr c6; clear c6; obtain rfl := Option.some.inj H; go_enter Try.func71, Try.ntmps71
      go_wp2
      go_ret
      exact ⟨by first | rfl | (simp; done) | simp [*], by repeat (first | exact zaI.refl _ | apply zaI.step)⟩
     ·rw [if_neg c6] at H
      have c6b0 : (a0 == 5) = false := beq_eq_false_iff_ne.mpr c6; have c6b1 : (a0 != 5) = true := bne_iff_ne.mpr c6; by_cases c7 : a0 = 9
      ·rw [if_pos c7] at H
       have c7b0 : (a0 == 9) = true := beq_iff_eq.mpr c7; have c7b1 : (a0 != 9) = false := bne_eq_false_iff_eq.mpr c7; clear c7; obtain rfl := Option.some.inj H; go_enter Try.func71, Try.ntmps71
       go_wp2
       go_ret
       exact ⟨by first | rfl | (simp; done) | simp [*], by repeat (first | exact zaI.refl _ | apply zaI.step)⟩
      ·rw [if_neg c7] at H
       have c7b0 : (a0 == 9) = false := beq_eq_false_iff_ne.mpr c7; have c7b1 : (a0 != 9) = true := bne_iff_ne.mpr c7; replace H := Option.bind_eq_some_iff.mp H; obtain ⟨t150, A80, H⟩ := H; replace H : (some t150) = some r := H; have A8 := zaa.mk A80; clear A80; obtain rfl := Option.some.inj H; go_enter Try.func71, Try.ntmps71
       go_wp2_with (first | ((with_reducible refine zaS (f := 20) rfl ?_); refine goesL_ (some 12) rfl rfl Try.func20 (by kernel_rfl) rfl #[.int .u8 a0] rfl (by (try simp only [List.map_toArray, List.map_cons, List.map_nil]); first | done | rfl | (simp only [List.length_drop, List.length_take]; rfl)) ?_; (with_reducible refine (zaz.calls a0 t150 _ A8.out).mono ?_); rintro e w' ⟨rfl, ⟨nd, rfl⟩⟩; refine ⟨_, rfl, ?_⟩))
       go_ret
       exact ⟨by first | rfl | (simp; done) | simp [*], by repeat (first | exact zaI.refl _ | apply zaI.step)⟩
def zaV.f (a0_0 : Int) (a0_1 : Int) (a0_2 : Int) (l0_3 : List (S24)) : Option (Bool) := if (l0_3.length : Int) > 0 then (some false) else (if a0_0 = 50 then (if a0_2 = 0 then ((zaJ.f a0_1).bind fun t152 => (if t152 = true then (some true) else (if a0_1 = 60 then (some true) else (some (a0_1 == 52))))) else (some false)) else ((zaz.f a0_0).bind fun t153 => (if t153 = true then (if a0_2 ≥ 1 then (if a0_2 ≤ 1099511627776 then (some (a0_1 == 0)) else (some false)) else (some false)) else (some false))))
theorem zaV.calls (a0_0 : Int) (a0_1 : Int) (a0_2 : Int) (A0_3 : Option Addr) (c0_3 : Nat) (l0_3 : List (S24)) (r : Bool) (w : World) (hr0_3 : Kd.C k24 w A0_3 l0_3.length l0_3) (hc0_3 : l0_3.length ≤ c0_3) (h : zaV.f a0_0 a0_1 a0_2 l0_3 = some r) :
  Calls Try.prog 76 #[.agg #[.int .u8 a0_0, .int .u8 a0_1, .int .i64 a0_2, .slice A0_3 l0_3.length c0_3]] w fun e w' => e = .returned (.bool r) ∧ Below w.heap.size w w' := by
 have hu24 := Try.underlying24; have HR0_3 := zaa.mk hr0_3; have HC0_3 := zaa.mk hc0_3; clear hr0_3 hc0_3; have HB := zaa.mk (Below.refl w.heap.size w); have H : (if (l0_3.length : Int) > 0 then (some false) else (if a0_0 = 50 then (if a0_2 = 0 then ((zaJ.f a0_1).bind fun t152 => (if t152 = true then (some true) else (if a0_1 = 60 then (some true) else (some (a0_1 == 52))))) else (some false)) else ((zaz.f a0_0).bind fun t153 => (if t153 = true then (if a0_2 ≥ 1 then (if a0_2 ≤ 1099511627776 then (some (a0_1 == 0)) else (some false)) else (some false)) else (some false))))) = some r := h
 clear h; by_cases c2 : (l0_3.length : Int) > 0
 ·rw [if_pos c2] at H
  have c2b0 : decide (0 < (l0_3.length : Int)) = true := decide_eq_true c2; have c2b1 : decide (0 < l0_3.length) = true := decide_eq_true (by omega)
  clear c2; obtain rfl := Option.some.inj H; go_enter Try.func76, Try.ntmps76
  go_wp2_with (first | ((with_reducible refine zaK (N := 1) rfl ?_); refine zaF ?hg (N := 1) ?hd (cs := #[.int .u8 a0_0, .int .u8 a0_1, .int .i64 a0_2, .slice A0_3 l0_3.length c0_3]) (t := 24) ?hr ?_; (case hd => rfl); (case hg => rfl); (case hr => first | (go_simp; done) | (go_simp; rfl)); intro gb151 hg w3 hbox hb; have n0_ := zaa.mk (zal (by repeat (first | exact HB.out | apply zac | apply zad | apply zah)) hb); have n1_ := zaa.mk (hbox); have n2_ := zaa.mk ((by rw [hg]; exact (zas (by repeat (first | exact HB.out | apply zac | apply zad | apply zah))) : w.heap.size ≤ gb151)); have n3_ := zaa.mk ((by rw [hg]; exact (zas (by repeat (first | exact HB.out | apply zac | apply zad | apply zah))) : w.heap.size ≤ gb151)); clear HB; have HB := n0_; have BK151 := n1_; have GW151 := n2_; have GE151 := n3_; clear n0_ n1_ n2_ n3_; clear hb hbox hg; have hcz4_0 : w3.cell? ⟨gb151, 0, none⟩ = some (.int .u8 a0_0) := (zab BK151.out 0).trans rfl; have hcz4_1 : w3.cell? ⟨gb151, 1, none⟩ = some (.int .u8 a0_1) := (zab BK151.out 1).trans rfl; have hcz4_2 : w3.cell? ⟨gb151, 2, none⟩ = some (.int .i64 a0_2) := (zab BK151.out 2).trans rfl; have hcz4_3 : w3.cell? ⟨gb151, 3, none⟩ = some (.slice A0_3 l0_3.length c0_3) := (zab BK151.out 3).trans rfl; have hfz4_0 := zae BK151.out 0; have hfz4_1 := zae BK151.out 1; have hfz4_2 := zae BK151.out 2; have hfz4_3 := zae BK151.out 3))
  go_ret
  exact ⟨by first | rfl | (simp [*, zaD, zaC] <;> rfl), by repeat (first | (with_reducible first | exact HB.out | apply zac | apply zad | apply zah | refine zar ?_ GE151.out) | exact HB.out)⟩
 ·rw [if_neg c2] at H
  have c2b0 : decide (0 < (l0_3.length : Int)) = false := decide_eq_false c2; have c2b1 : decide (0 < l0_3.length) = false := decide_eq_false (by omega)
  clear c2; by_cases c5 : a0_0 = 50
  ·rw [if_pos c5] at H
   have c5b0 : (a0_0 == 50) = true := beq_iff_eq.mpr c5; have c5b1 : (a0_0 != 50) = false := bne_eq_false_iff_eq.mpr c5; clear c5; by_cases c6 : a0_2 = 0
   ·rw [if_pos c6] at H
    have c6b0 : (a0_2 == 0) = true := beq_iff_eq.mpr c6; have c6b1 : (a0_2 != 0) = false := bne_eq_false_iff_eq.mpr c6; clear c6; replace H := Option.bind_eq_some_iff.mp H; obtain ⟨t152, A70, H⟩ := H; replace H : (if t152 = true then (some true) else (if a0_1 = 60 then (some true) else (some (a0_1 == 52)))) = some r := H
    have A7 := zaa.mk A70; clear A70; by_cases c8 : t152 = true
    ·subst c8
     have H1 : (some true) = some r := by rw [if_pos rfl] at H; exact H
     clear H; have H := H1; clear H1; obtain rfl := Option.some.inj H; go_enter Try.func76, Try.ntmps76
     go_wp2_with (first | ((with_reducible refine zaK (N := 1) rfl ?_); refine zaF ?hg (N := 1) ?hd (cs := #[.int .u8 a0_0, .int .u8 a0_1, .int .i64 a0_2, .slice A0_3 l0_3.length c0_3]) (t := 24) ?hr ?_; (case hd => rfl); (case hg => rfl); (case hr => first | (go_simp; done) | (go_simp; rfl)); intro gb151 hg w9 hbox hb; have n0_ := zaa.mk (zal (by repeat (first | exact HB.out | apply zac | apply zad | apply zah)) hb); have n1_ := zaa.mk (hbox); have n2_ := zaa.mk ((by rw [hg]; exact (zas (by repeat (first | exact HB.out | apply zac | apply zad | apply zah))) : w.heap.size ≤ gb151)); have n3_ := zaa.mk ((by rw [hg]; exact (zas (by repeat (first | exact HB.out | apply zac | apply zad | apply zah))) : w.heap.size ≤ gb151)); clear HB; have HB := n0_; have BK151 := n1_; have GW151 := n2_; have GE151 := n3_; clear n0_ n1_ n2_ n3_; clear hb hbox hg; have hcz10_0 : w9.cell? ⟨gb151, 0, none⟩ = some (.int .u8 a0_0) := (zab BK151.out 0).trans rfl; have hcz10_1 : w9.cell? ⟨gb151, 1, none⟩ = some (.int .u8 a0_1) := (zab BK151.out 1).trans rfl; have hcz10_2 : w9.cell? ⟨gb151, 2, none⟩ = some (.int .i64 a0_2) := (zab BK151.out 2).trans rfl; have hcz10_3 : w9.cell? ⟨gb151, 3, none⟩ = some (.slice A0_3 l0_3.length c0_3) := (zab BK151.out 3).trans rfl; have hfz10_0 := zae BK151.out 0; have hfz10_1 := zae BK151.out 1; have hfz10_2 := zae BK151.out 2; have hfz10_3 := zae BK151.out 3) | (go_at_call 71; (with_reducible refine (zaJ.calls a0_1 true _ A7.out).mono ?_); rintro e w' ⟨rfl, ⟨nd, rfl⟩⟩))
     go_ret
     exact ⟨by first | rfl | (simp [*, zaD, zaC] <;> rfl), by repeat (first | (with_reducible first | exact HB.out | apply zac | apply zad | apply zah | refine zar ?_ GE151.out) | exact HB.out)⟩
    ·replace c8 := Bool.eq_false_iff.mpr c8
     subst c8; have H1 : (if a0_1 = 60 then (some true) else (some (a0_1 == 52))) = some r := by rw [if_neg (show ¬ (false = true) by decide)] at H; exact H
     clear H; have H := H1; clear H1; by_cases c11 : a0_1 = 60
     ·rw [if_pos c11] at H
      have c11b0 : (a0_1 == 60) = true := beq_iff_eq.mpr c11; have c11b1 : (a0_1 != 60) = false := bne_eq_false_iff_eq.mpr c11; clear c11; obtain rfl := Option.some.inj H; go_enter Try.func76, Try.ntmps76
      go_wp2_with (first | ((with_reducible refine zaK (N := 1) rfl ?_); refine zaF ?hg (N := 1) ?hd (cs := #[.int .u8 a0_0, .int .u8 a0_1, .int .i64 a0_2, .slice A0_3 l0_3.length c0_3]) (t := 24) ?hr ?_; (case hd => rfl); (case hg => rfl); (case hr => first | (go_simp; done) | (go_simp; rfl)); intro gb151 hg w12 hbox hb; have n0_ := zaa.mk (zal (by repeat (first | exact HB.out | apply zac | apply zad | apply zah)) hb); have n1_ := zaa.mk (hbox); have n2_ := zaa.mk ((by rw [hg]; exact (zas (by repeat (first | exact HB.out | apply zac | apply zad | apply zah))) : w.heap.size ≤ gb151)); have n3_ := zaa.mk ((by rw [hg]; exact (zas (by repeat (first | exact HB.out | apply zac | apply zad | apply zah))) : w.heap.size ≤ gb151)); clear HB; have HB := n0_; have BK151 := n1_; have GW151 := n2_; have GE151 := n3_; clear n0_ n1_ n2_ n3_; clear hb hbox hg; have hcz13_0 : w12.cell? ⟨gb151, 0, none⟩ = some (.int .u8 a0_0) := (zab BK151.out 0).trans rfl; have hcz13_1 : w12.cell? ⟨gb151, 1, none⟩ = some (.int .u8 a0_1) := (zab BK151.out 1).trans rfl; have hcz13_2 : w12.cell? ⟨gb151, 2, none⟩ = some (.int .i64 a0_2) := (zab BK151.out 2).trans rfl; have hcz13_3 : w12.cell? ⟨gb151, 3, none⟩ = some (.slice A0_3 l0_3.length c0_3) := (zab BK151.out 3).trans rfl; have hfz13_0 := zae BK151.out 0; have hfz13_1 := zae BK151.out 1; have hfz13_2 := zae BK151.out 2; have hfz13_3 := zae BK151.out 3) | (go_at_call 71; (with_reducible refine (zaJ.calls a0_1 false _ A7.out).mono ?_); rintro e w' ⟨rfl, ⟨nd, rfl⟩⟩))
      go_ret
      exact ⟨by first | rfl | (simp [*, zaD, zaC] <;> rfl), by repeat (first | (with_reducible first | exact HB.out | apply zac | apply zad | apply zah | refine zar ?_ GE151.out) | exact HB.out)⟩
     ·rw [if_neg c11] at H
      have c11b0 : (a0_1 == 60) = false := beq_eq_false_iff_ne.mpr c11; have c11b1 : (a0_1 != 60) = true := bne_iff_ne.mpr c11; obtain rfl := Option.some.inj H; go_enter Try.func76, Try.ntmps76
      go_wp2_with (first | ((with_reducible refine zaK (N := 1) rfl ?_); refine zaF ?hg (N := 1) ?hd (cs := #[.int .u8 a0_0, .int .u8 a0_1, .int .i64 a0_2, .slice A0_3 l0_3.length c0_3]) (t := 24) ?hr ?_; (case hd => rfl); (case hg => rfl); (case hr => first | (go_simp; done) | (go_simp; rfl)); intro gb151 hg w14 hbox hb; have n0_ := zaa.mk (zal (by repeat (first | exact HB.out | apply zac | apply zad | apply zah)) hb); have n1_ := zaa.mk (hbox); have n2_ := zaa.mk ((by rw [hg]; exact (zas (by repeat (first | exact HB.out | apply zac | apply zad | apply zah))) : w.heap.size ≤ gb151)); have n3_ := zaa.mk ((by rw [hg]; exact (zas (by repeat (first | exact HB.out | apply zac | apply zad | apply zah))) : w.heap.size ≤ gb151)); clear HB; have HB := n0_; have BK151 := n1_; have GW151 := n2_; have GE151 := n3_; clear n0_ n1_ n2_ n3_; clear hb hbox hg; have hcz15_0 : w14.cell? ⟨gb151, 0, none⟩ = some (.int .u8 a0_0) := (zab BK151.out 0).trans rfl; have hcz15_1 : w14.cell? ⟨gb151, 1, none⟩ = some (.int .u8 a0_1) := (zab BK151.out 1).trans rfl; have hcz15_2 : w14.cell? ⟨gb151, 2, none⟩ = some (.int .i64 a0_2) := (zab BK151.out 2).trans rfl; have hcz15_3 : w14.cell? ⟨gb151, 3, none⟩ = some (.slice A0_3 l0_3.length c0_3) := (zab BK151.out 3).trans rfl; have hfz15_0 := zae BK151.out 0; have hfz15_1 := zae BK151.out 1; have hfz15_2 := zae BK151.out 2; have hfz15_3 := zae BK151.out 3) | (go_at_call 71; (with_reducible refine (zaJ.calls a0_1 false _ A7.out).mono ?_); rintro e w' ⟨rfl, ⟨nd, rfl⟩⟩))
      go_ret
      exact ⟨by first | rfl | (simp [*, zaD, zaC] <;> rfl), by repeat (first | (with_reducible first | exact HB.out | apply zac | apply zad | apply zah | refine zar ?_ GE151.out) | exact HB.out)⟩
   ·rw [if_neg c6] at H
    have c6b0 : (a0_2 == 0) = false := beq_eq_false_iff_ne.mpr c6; have c6b1 : (a0_2 != 0) = true := bne_iff_ne.mpr c6; obtain rfl := Option.some.inj H; go_enter Try.func76, Try.ntmps76
    go_wp2_with (first | ((with_reducible refine zaK (N := 1) rfl ?_); refine zaF ?hg (N := 1) ?hd (cs := #[.int .u8 a0_0, .int .u8 a0_1, .int .i64 a0_2, .slice A0_3 l0_3.length c0_3]) (t := 24) ?hr ?_; (case hd => rfl); (case hg => rfl); (case hr => first | (go_simp; done) | (go_simp; rfl)); intro gb151 hg w16 hbox hb; have n0_ := zaa.mk (zal (by repeat (first | exact HB.out | apply zac | apply zad | apply zah)) hb); have n1_ := zaa.mk (hbox); have n2_ := zaa.mk ((by rw [hg]; exact (zas (by repeat (first | exact HB.out | apply zac | apply zad | apply zah))) : w.heap.size ≤ gb151)); have n3_ := zaa.mk ((by rw [hg]; exact (zas (by repeat (first | exact HB.out | apply zac | apply zad | apply zah))) : w.heap.size ≤ gb151)); clear HB; have HB := n0_; have BK151 := n1_; have GW151 := n2_; have GE151 := n3_; clear n0_ n1_ n2_ n3_; clear hb hbox hg; have hcz17_0 : w16.cell? ⟨gb151, 0, none⟩ = some (.int .u8 a0_0) := (zab BK151.out 0).trans rfl; have hcz17_1 : w16.cell? ⟨gb151, 1, none⟩ = some (.int .u8 a0_1) := (zab BK151.out 1).trans rfl; have hcz17_2 : w16.cell? ⟨gb151, 2, none⟩ = some (.int .i64 a0_2) := (zab BK151.out 2).trans rfl; have hcz17_3 : w16.cell? ⟨gb151, 3, none⟩ = some (.slice A0_3 l0_3.length c0_3) := (zab BK151.out 3).trans rfl; have hfz17_0 := zae BK151.out 0; have hfz17_1 := zae BK151.out 1; have hfz17_2 := zae BK151.out 2; have hfz17_3 := zae BK151.out 3))
    go_ret
    exact ⟨by first | rfl | (simp [*, zaD, zaC] <;> rfl), by repeat (first | (with_reducible first | exact HB.out | apply zac | apply zad | apply zah | refine zar ?_ GE151.out) | exact HB.out)⟩
  ·rw [if_neg c5] at H
   have c5b0 : (a0_0 == 50) = false := beq_eq_false_iff_ne.mpr c5; have c5b1 : (a0_0 != 50) = true := bne_iff_ne.mpr c5; replace H := Option.bind_eq_some_iff.mp H; obtain ⟨t153, A180, H⟩ := H; replace H : (if t153 = true then (if a0_2 ≥ 1 then (if a0_2 ≤ 1099511627776 then (some (a0_1 == 0)) else (some false)) else (some false)) else (some false)) = some r := H
   have A18 := zaa.mk A180; clear A180; by_cases c19 : t153 = true
   ·subst c19
    have H1 : (if a0_2 ≥ 1 then (if a0_2 ≤ 1099511627776 then (some (a0_1 == 0)) else (some false)) else (some false)) = some r := by rw [if_pos rfl] at H; exact H
    clear H; have H := H1; clear H1; by_cases c20 : a0_2 ≥ 1
    ·rw [if_pos c20] at H
     have c20b0 : decide (1 ≤ a0_2) = true := decide_eq_true c20; clear c20; by_cases c21 : a0_2 ≤ 1099511627776
     ·rw [if_pos c21] at H
      have c21b0 : decide (a0_2 ≤ 1099511627776) = true := decide_eq_true c21; clear c21; obtain rfl := Option.some.inj H; go_enter Try.func76, Try.ntmps76
      go_wp2_with (first | ((with_reducible refine zaK (N := 1) rfl ?_); refine zaF ?hg (N := 1) ?hd (cs := #[.int .u8 a0_0, .int .u8 a0_1, .int .i64 a0_2, .slice A0_3 l0_3.length c0_3]) (t := 24) ?hr ?_; (case hd => rfl); (case hg => rfl); (case hr => first | (go_simp; done) | (go_simp; rfl)); intro gb151 hg w22 hbox hb; have n0_ := zaa.mk (zal (by repeat (first | exact HB.out | apply zac | apply zad | apply zah)) hb); have n1_ := zaa.mk (hbox); have n2_ := zaa.mk ((by rw [hg]; exact (zas (by repeat (first | exact HB.out | apply zac | apply zad | apply zah))) : w.heap.size ≤ gb151)); have n3_ := zaa.mk ((by rw [hg]; exact (zas (by repeat (first | exact HB.out | apply zac | apply zad | apply zah))) : w.heap.size ≤ gb151)); clear HB; have HB := n0_; have BK151 := n1_; have GW151 := n2_; have GE151 := n3_; clear n0_ n1_ n2_ n3_; clear hb hbox hg; have hcz23_0 : w22.cell? ⟨gb151, 0, none⟩ = some (.int .u8 a0_0) := (zab BK151.out 0).trans rfl; have hcz23_1 : w22.cell? ⟨gb151, 1, none⟩ = some (.int .u8 a0_1) := (zab BK151.out 1).trans rfl; have hcz23_2 : w22.cell? ⟨gb151, 2, none⟩ = some (.int .i64 a0_2) := (zab BK151.out 2).trans rfl; have hcz23_3 : w22.cell? ⟨gb151, 3, none⟩ = some (.slice A0_3 l0_3.length c0_3) := (zab BK151.out 3).trans rfl; have hfz23_0 := zae BK151.out 0; have hfz23_1 := zae BK151.out 1; have hfz23_2 := zae BK151.out 2; have hfz23_3 := zae BK151.out 3) | ((with_reducible refine zaS (f := 20) rfl ?_); refine goesL_ (some 30) rfl rfl Try.func20 (by kernel_rfl) rfl #[.int .u8 a0_0] rfl (by (try simp only [List.map_toArray, List.map_cons, List.map_nil]); first | done | rfl | (simp only [List.length_drop, List.length_take]; rfl)) ?_; (with_reducible refine (zaz.calls a0_0 true _ A18.out).mono ?_); rintro e w' ⟨rfl, ⟨nd, rfl⟩⟩; refine ⟨_, rfl, ?_⟩))
      go_ret
      exact ⟨by first | rfl | (simp [*, zaD, zaC] <;> rfl), by repeat (first | (with_reducible first | exact HB.out | apply zac | apply zad | apply zah | refine zar ?_ GE151.out) | exact HB.out)⟩
     ·rw [if_neg c21] at H
      have c21b0 : decide (a0_2 ≤ 1099511627776) = false := decide_eq_false c21; clear c21; obtain rfl := Option.some.inj H; go_enter Try.func76, Try.ntmps76
      go_wp2_with (first | ((with_reducible refine zaK (N := 1) rfl ?_); refine zaF ?hg (N := 1) ?hd (cs := #[.int .u8 a0_0, .int .u8 a0_1, .int .i64 a0_2, .slice A0_3 l0_3.length c0_3]) (t := 24) ?hr ?_; (case hd => rfl); (case hg => rfl); (case hr => first | (go_simp; done) | (go_simp; rfl)); intro gb151 hg w24 hbox hb; have n0_ := zaa.mk (zal (by repeat (first | exact HB.out | apply zac | apply zad | apply zah)) hb); have n1_ := zaa.mk (hbox); have n2_ := zaa.mk ((by rw [hg]; exact (zas (by repeat (first | exact HB.out | apply zac | apply zad | apply zah))) : w.heap.size ≤ gb151)); have n3_ := zaa.mk ((by rw [hg]; exact (zas (by repeat (first | exact HB.out | apply zac | apply zad | apply zah))) : w.heap.size ≤ gb151)); clear HB; have HB := n0_; have BK151 := n1_; have GW151 := n2_; have GE151 := n3_; clear n0_ n1_ n2_ n3_; clear hb hbox hg; have hcz25_0 : w24.cell? ⟨gb151, 0, none⟩ = some (.int .u8 a0_0) := (zab BK151.out 0).trans rfl; have hcz25_1 : w24.cell? ⟨gb151, 1, none⟩ = some (.int .u8 a0_1) := (zab BK151.out 1).trans rfl; have hcz25_2 : w24.cell? ⟨gb151, 2, none⟩ = some (.int .i64 a0_2) := (zab BK151.out 2).trans rfl; have hcz25_3 : w24.cell? ⟨gb151, 3, none⟩ = some (.slice A0_3 l0_3.length c0_3) := (zab BK151.out 3).trans rfl; have hfz25_0 := zae BK151.out 0; have hfz25_1 := zae BK151.out 1; have hfz25_2 := zae BK151.out 2; have hfz25_3 := zae BK151.out 3) | ((with_reducible refine zaS (f := 20) rfl ?_); refine goesL_ (some 30) rfl rfl Try.func20 (by kernel_rfl) rfl #[.int .u8 a0_0] rfl (by (try simp only [List.map_toArray, List.map_cons, List.map_nil]); first | done | rfl | (simp only [List.length_drop, List.length_take]; rfl)) ?_; (with_reducible refine (zaz.calls a0_0 true _ A18.out).mono ?_); rintro e w' ⟨rfl, ⟨nd, rfl⟩⟩; refine ⟨_, rfl, ?_⟩))
      go_ret
      exact ⟨by first | rfl | (simp [*, zaD, zaC] <;> rfl), by repeat (first | (with_reducible first | exact HB.out | apply zac | apply zad | apply zah | refine zar ?_ GE151.out) | exact HB.out)⟩
    ·rw [if_neg c20] at H
     have c20b0 : decide (1 ≤ a0_2) = false := decide_eq_false c20; clear c20; obtain rfl := Option.some.inj H; go_enter Try.func76, Try.ntmps76
     go_wp2_with (first | ((with_reducible refine zaK (N := 1) rfl ?_); refine zaF ?hg (N := 1) ?hd (cs := #[.int .u8 a0_0, .int .u8 a0_1, .int .i64 a0_2, .slice A0_3 l0_3.length c0_3]) (t := 24) ?hr ?_; (case hd => rfl); (case hg => rfl); (case hr => first | (go_simp; done) | (go_simp; rfl)); intro gb151 hg w26 hbox hb; have n0_ := zaa.mk (zal (by repeat (first | exact HB.out | apply zac | apply zad | apply zah)) hb); have n1_ := zaa.mk (hbox); have n2_ := zaa.mk ((by rw [hg]; exact (zas (by repeat (first | exact HB.out | apply zac | apply zad | apply zah))) : w.heap.size ≤ gb151)); have n3_ := zaa.mk ((by rw [hg]; exact (zas (by repeat (first | exact HB.out | apply zac | apply zad | apply zah))) : w.heap.size ≤ gb151)); clear HB; have HB := n0_; have BK151 := n1_; have GW151 := n2_; have GE151 := n3_; clear n0_ n1_ n2_ n3_; clear hb hbox hg; have hcz27_0 : w26.cell? ⟨gb151, 0, none⟩ = some (.int .u8 a0_0) := (zab BK151.out 0).trans rfl; have hcz27_1 : w26.cell? ⟨gb151, 1, none⟩ = some (.int .u8 a0_1) := (zab BK151.out 1).trans rfl; have hcz27_2 : w26.cell? ⟨gb151, 2, none⟩ = some (.int .i64 a0_2) := (zab BK151.out 2).trans rfl; have hcz27_3 : w26.cell? ⟨gb151, 3, none⟩ = some (.slice A0_3 l0_3.length c0_3) := (zab BK151.out 3).trans rfl; have hfz27_0 := zae BK151.out 0; have hfz27_1 := zae BK151.out 1; have hfz27_2 := zae BK151.out 2; have hfz27_3 := zae BK151.out 3) | ((with_reducible refine zaS (f := 20) rfl ?_); refine goesL_ (some 30) rfl rfl Try.func20 (by kernel_rfl) rfl #[.int .u8 a0_0] rfl (by (try simp only [List.map_toArray, List.map_cons, List.map_nil]); first | done | rfl | (simp only [List.length_drop, List.length_take]; rfl)) ?_; (with_reducible refine (zaz.calls a0_0 true _ A18.out).mono ?_); rintro e w' ⟨rfl, ⟨nd, rfl⟩⟩; refine ⟨_, rfl, ?_⟩))
     go_ret
     exact ⟨by first | rfl | (simp [*, zaD, zaC] <;> rfl), by repeat (first | (with_reducible first | exact HB.out | apply zac | apply zad | apply zah | refine zar ?_ GE151.out) | exact HB.out)⟩
   ·replace c19 := Bool.eq_false_iff.mpr c19
    subst c19; have H1 : (some false) = some r := by rw [if_neg (show ¬ (false = true) by decide)] at H; exact H
    clear H; have H := H1; clear H1; obtain rfl := Option.some.inj H; go_enter Try.func76, Try.ntmps76
    go_wp2_with (first | ((with_reducible refine zaK (N := 1) rfl ?_); refine zaF ?hg (N := 1) ?hd (cs := #[.int .u8 a0_0, .int .u8 a0_1, .int .i64 a0_2, .slice A0_3 l0_3.length c0_3]) (t := 24) ?hr ?_; (case hd => rfl); (case hg => rfl); (case hr => first | (go_simp; done) | (go_simp; rfl)); intro gb151 hg w28 hbox hb; have n0_ := zaa.mk (zal (by repeat (first | exact HB.out | apply zac | apply zad | apply zah)) hb); have n1_ := zaa.mk (hbox); have n2_ := zaa.mk ((by rw [hg]; exact (zas (by repeat (first | exact HB.out | apply zac | apply zad | apply zah))) : w.heap.size ≤ gb151)); have n3_ := zaa.mk ((by rw [hg]; exact (zas (by repeat (first | exact HB.out | apply zac | apply zad | apply zah))) : w.heap.size ≤ gb151)); clear HB; have HB := n0_; have BK151 := n1_; have GW151 := n2_; have GE151 := n3_; clear n0_ n1_ n2_ n3_; clear hb hbox hg; have hcz29_0 : w28.cell? ⟨gb151, 0, none⟩ = some (.int .u8 a0_0) := (zab BK151.out 0).trans rfl; have hcz29_1 : w28.cell? ⟨gb151, 1, none⟩ = some (.int .u8 a0_1) := (zab BK151.out 1).trans rfl; have hcz29_2 : w28.cell? ⟨gb151, 2, none⟩ = some (.int .i64 a0_2) := (zab BK151.out 2).trans rfl; have hcz29_3 : w28.cell? ⟨gb151, 3, none⟩ = some (.slice A0_3 l0_3.length c0_3) := (zab BK151.out 3).trans rfl; have hfz29_0 := zae BK151.out 0; have hfz29_1 := zae BK151.out 1; have hfz29_2 := zae BK151.out 2; have hfz29_3 := zae BK151.out 3) | ((with_reducible refine zaS (f := 20) rfl ?_); refine goesL_ (some 30) rfl rfl Try.func20 (by kernel_rfl) rfl #[.int .u8 a0_0] rfl (by (try simp only [List.map_toArray, List.map_cons, List.map_nil]); first | done | rfl | (simp only [List.length_drop, List.length_take]; rfl)) ?_; (with_reducible refine (zaz.calls a0_0 false _ A18.out).mono ?_); rintro e w' ⟨rfl, ⟨nd, rfl⟩⟩; refine ⟨_, rfl, ?_⟩))
    go_ret
    exact ⟨by first | rfl | (simp [*, zaD, zaC] <;> rfl), by repeat (first | (with_reducible first | exact HB.out | apply zac | apply zad | apply zah | refine zar ?_ GE151.out) | exact HB.out)⟩
mutual
def zai.j0 : Nat → Int → Int → Bool → Int → Int → Int → List (S24) → Option (Int)
 | 0, _, _, _, _, _, _, _ => none
 | k + 1, x1, x2, x16, x155000, x155001, x155002, x155003 => if x16 = true then (some 0) else (if x155000 < 51 then (zai.j1 k x1 x2 true x155000 x155001 x155002 x155003) else (zai.j1 k x1 x2 (decide (x155000 > 68)) x155000 x155001 x155002 x155003))
def zai.j1 : Nat → Int → Int → Bool → Int → Int → Int → List (S24) → Option (Int)
 | 0, _, _, _, _, _, _, _ => none
 | k + 1, x1, x2, x24, x155000, x155001, x155002, x155003 => if x24 = true then ((zaV.f x155000 x155001 x155002 x155003).bind fun t155 => (if t155 = true then (some 1) else (some 0))) else (if x155001 = 0 then (if x155000 = 51 then (zai.j2 k x1 x2 (decide (x1 > 1)) x155000 x155001 x155002 x155003) else (zai.j2 k x1 x2 false x155000 x155001 x155002 x155003)) else (zai.j2 k x1 x2 true x155000 x155001 x155002 x155003))
def zai.j2 : Nat → Int → Int → Bool → Int → Int → Int → List (S24) → Option (Int)
 | 0, _, _, _, _, _, _, _ => none
 | k + 1, x1, x2, x38, x155000, x155001, x155002, x155003 => if x38 = true then (some 0) else (zai.l0 k x1 x2 1 0 0 x155000 x155001 x155002 x155003)
def zai.l0 : Nat → Int → Int → Int → Int → Int → Int → Int → Int → List (S24) → Option (Int)
 | 0, _, _, _, _, _, _, _, _, _ => none
 | k + 1, x1, x2, x7, x8, x9, x155000, x155001, x155002, x155003 => if x9 < (x155003.length : Int) then (if 0 ≤ x9 then ((zai.f k ((zaE x155003 x9).f0) ((zaE x155003 x9).f1) ((zaE x155003 x9).f2) ((zaE x155003 x9).f3) (wrap64 (x1 + 1)) (wrap64 (x2 - x7))).bind fun t157 => (if t157 = 0 then (some 0) else (zai.l0 k x1 x2 (wrap64 (x7 + t157)) (wrap64 (x8 + ((zaE x155003 x9).f2))) (wrap64 (x9 + 1)) x155000 x155001 x155002 x155003))) else (none)) else (if x8 = x155002 then (if x8 > 1099511627776 then (some 0) else (some x7)) else (some 0))
def zai.f : Nat → Int → Int → Int → List (S24) → Int → Int → Option (Int)
 | 0, _, _, _, _, _, _ => none
 | k + 1, a0_0, a0_1, a0_2, l0_3, a1, a2 => if a1 > 65536 then (zai.j0 k a1 a2 true a0_0 a0_1 a0_2 l0_3) else (zai.j0 k a1 a2 (decide (a2 < 1)) a0_0 a0_1 a0_2 l0_3)
end
theorem zai.calls (k : Nat) : ∀ (a0_0 : Int) (a0_1 : Int) (a0_2 : Int) (A0_3 : Option Addr) (c0_3 : Nat) (l0_3 : List (S24)) (a1 : Int) (a2 : Int) (r : Int) (w : World) (hr0_3 : Kd.C k24 w A0_3 l0_3.length l0_3) (hc0_3 : l0_3.length ≤ c0_3) (h : zai.f k a0_0 a0_1 a0_2 l0_3 a1 a2 = some r),
  Calls Try.prog 70 #[.agg #[.int .u8 a0_0, .int .u8 a0_1, .int .i64 a0_2, .slice A0_3 l0_3.length c0_3], .int .i64 a1, .int .i64 a2] w fun e w' => e = .returned (.int .i64 r) ∧ Below w.heap.size w w' := by
 induction k using Nat.strongRecOn with
 | _ k ih =>
 intro a0_0 a0_1 a0_2 A0_3 c0_3 l0_3 a1 a2 r w hr0_3 hc0_3 h
 cases k with
 | zero => exact absurd h (by simp [zai.f])
 | succ k =>
 simp only [zai.f] at h; have hu24 := Try.underlying24; have HR0_3 := zaa.mk hr0_3; have HC0_3 := zaa.mk hc0_3; clear hr0_3 hc0_3; have HB := zaa.mk (Below.refl w.heap.size w); have H : (if a1 > 65536 then (zai.j0 k a1 a2 true a0_0 a0_1 a0_2 l0_3) else (zai.j0 k a1 a2 (decide (a2 < 1)) a0_0 a0_1 a0_2 l0_3)) = some r := h
 clear h; have HC4 := zaa.mk H; clear H; go_enter Try.func70, Try.ntmps70
 go_upto_region 1 with (first | ((with_reducible refine zaK (N := 3) rfl ?_); refine zaF ?hg (N := 3) ?hd (cs := #[.int .u8 a0_0, .int .u8 a0_1, .int .i64 a0_2, .slice A0_3 l0_3.length c0_3]) (t := 24) ?hr ?_; (case hd => rfl); (case hg => rfl); (case hr => first | (go_simp; done) | (go_simp; rfl)); intro gb154 hg w5 hbox hb; have n0_ := zaa.mk (zal (by repeat (first | exact HB.out | apply zac | apply zad | apply zah)) hb); have n1_ := zaa.mk (hbox); have n2_ := zaa.mk ((by rw [hg]; exact (zas (by repeat (first | exact HB.out | apply zac | apply zad | apply zah))) : w.heap.size ≤ gb154)); have n3_ := zaa.mk ((by rw [hg]; exact (zas (by repeat (first | exact HB.out | apply zac | apply zad | apply zah))) : w.heap.size ≤ gb154)); clear HB; have HB := n0_; have BK154 := n1_; have GW154 := n2_; have GE154 := n3_; clear n0_ n1_ n2_ n3_; clear hb hbox hg))
 (try simp only [Act.put, zaj])
 go_cut [16] (fun v16 wc => ∃ (kq : Nat) (x16_3 : Bool), v16 = .bool x16_3 ∧ zaa (zai.j0 kq a1 a2 x16_3 a0_0 a0_1 a0_2 l0_3 = some r) ∧ zaa (kq ≤ k) ∧ zaa (wc.heap[gb154]? = some (.cells #[.int .u8 a0_0, .int .u8 a0_1, .int .i64 a0_2, (.slice A0_3 l0_3.length c0_3)] 24 (0, 0))) ∧ zaa (Below w.heap.size w wc))
 case first =>
  have H := HC4.out; clear HC4; by_cases c6 : a1 > 65536
  ·rw [if_pos c6] at H
   have c6b0 : decide (65536 < a1) = true := decide_eq_true c6; clear c6
   (first | rw [c6b0] | (simp only [i64_w, i32_w]; rw [c6b0]) | skip)
   have H' := zaa.mk H; clear H; go_wp2
   go_meet
   case rel => exact ⟨_, (true), (by first | rfl | (simp; done) | simp [*]), H', ⟨by first | omega | exact Nat.le_refl _⟩, ⟨by (with_reducible repeat (first | refine zan ?_ _ | refine zaq ?_ | refine zao ?_ _)); exact BK154.out⟩, ⟨by repeat (first | (with_reducible first | exact HB.out | apply zac | apply zad | apply zah | refine zar ?_ GE154.out) | exact HB.out)⟩⟩
  ·rw [if_neg c6] at H
   have c6b0 : decide (65536 < a1) = false := decide_eq_false c6; clear c6
   (first | rw [c6b0] | (simp only [i64_w, i32_w]; rw [c6b0]) | skip)
   have H' := zaa.mk H; clear H; go_wp2
   go_meet
   case rel => exact ⟨_, (decide (a2 < 1)), (by first | rfl | (simp; done) | simp [*]), H', ⟨by first | omega | exact Nat.le_refl _⟩, ⟨by (with_reducible repeat (first | refine zan ?_ _ | refine zaq ?_ | refine zao ?_ _)); exact BK154.out⟩, ⟨by repeat (first | (with_reducible first | exact HB.out | apply zac | apply zad | apply zah | refine zar ?_ GE154.out) | exact HB.out)⟩⟩
 case rest =>
  clear HC4; try clear p2
  try clear c6
  try clear c6b0
  obtain ⟨kq, x16_3, rfl, HA, HJ3, BK154, HB⟩ := hcut; cases kq with
  | zero => exact absurd HA.out (by simp [zai.j0])
  | succ kj3 =>
   have H := HA.out; clear HA; simp only [zai.j0] at H; by_cases c7 : x16_3 = true
   ·subst c7
    have H1 : (some 0) = some r := by rw [if_pos rfl] at H; exact H
    clear H; have H := H1; clear H1; obtain rfl := Option.some.inj H; go_wp2
    go_ret
    exact ⟨by first | rfl | (simp [*, zaD, zaC] <;> rfl), by repeat (first | (with_reducible first | exact HB.out | apply zac | apply zad | apply zah | refine zar ?_ GE154.out) | exact HB.out)⟩
   ·replace c7 := Bool.eq_false_iff.mpr c7
    subst c7; have H1 : (if a0_0 < 51 then (zai.j1 kj3 a1 a2 true a0_0 a0_1 a0_2 l0_3) else (zai.j1 kj3 a1 a2 (decide (a0_0 > 68)) a0_0 a0_1 a0_2 l0_3)) = some r := by rw [if_neg (show ¬ (false = true) by decide)] at H; exact H
    clear H; have H := H1; clear H1; have HC8 := zaa.mk H; clear H; go_upto_region 3 with (fail)
    go_cut [24] (fun v24 wc => ∃ (kq : Nat) (x24_7 : Bool), v24 = .bool x24_7 ∧ zaa (zai.j1 kq a1 a2 x24_7 a0_0 a0_1 a0_2 l0_3 = some r) ∧ zaa (kq ≤ kj3) ∧ zaa (wc.heap[gb154]? = some (.cells #[.int .u8 a0_0, .int .u8 a0_1, .int .i64 a0_2, (.slice A0_3 l0_3.length c0_3)] 24 (0, 0))) ∧ zaa (Below w.heap.size w wc))
    case first =>
     have H := HC8.out; clear HC8; by_cases c9 : a0_0 < 51
     ·rw [if_pos c9] at H
      have c9b0 : decide (a0_0 < 51) = true := decide_eq_true c9; clear c9
      (first | rw [c9b0] | (simp only [i64_w, i32_w]; rw [c9b0]) | skip)
      have H' := zaa.mk H; clear H; have hcz10_0 : wc.cell? ⟨gb154, 0, none⟩ = some (.int .u8 a0_0) := (zab BK154.out 0).trans rfl; have hcz10_1 : wc.cell? ⟨gb154, 1, none⟩ = some (.int .u8 a0_1) := (zab BK154.out 1).trans rfl; have hcz10_2 : wc.cell? ⟨gb154, 2, none⟩ = some (.int .i64 a0_2) := (zab BK154.out 2).trans rfl; have hcz10_3 : wc.cell? ⟨gb154, 3, none⟩ = some (.slice A0_3 l0_3.length c0_3) := (zab BK154.out 3).trans rfl; have hfz10_0 := zae BK154.out 0; have hfz10_1 := zae BK154.out 1; have hfz10_2 := zae BK154.out 2; have hfz10_3 := zae BK154.out 3; go_wp2
      go_meet
      case rel => exact ⟨_, (true), (by first | rfl | (simp; done) | simp [*]), H', ⟨by have := HJ3.out; first | omega | exact Nat.le_refl _⟩, ⟨by (with_reducible repeat (first | refine zan ?_ _ | refine zaq ?_ | refine zao ?_ _)); exact BK154.out⟩, ⟨by repeat (first | (with_reducible first | exact HB.out | apply zac | apply zad | apply zah | refine zar ?_ GE154.out) | exact HB.out)⟩⟩
     ·rw [if_neg c9] at H
      have c9b0 : decide (a0_0 < 51) = false := decide_eq_false c9; clear c9
      (first | rw [c9b0] | (simp only [i64_w, i32_w]; rw [c9b0]) | skip)
      have H' := zaa.mk H; clear H; have hcz11_0 : wc.cell? ⟨gb154, 0, none⟩ = some (.int .u8 a0_0) := (zab BK154.out 0).trans rfl; have hcz11_1 : wc.cell? ⟨gb154, 1, none⟩ = some (.int .u8 a0_1) := (zab BK154.out 1).trans rfl; have hcz11_2 : wc.cell? ⟨gb154, 2, none⟩ = some (.int .i64 a0_2) := (zab BK154.out 2).trans rfl; have hcz11_3 : wc.cell? ⟨gb154, 3, none⟩ = some (.slice A0_3 l0_3.length c0_3) := (zab BK154.out 3).trans rfl; have hfz11_0 := zae BK154.out 0; have hfz11_1 := zae BK154.out 1; have hfz11_2 := zae BK154.out 2; have hfz11_3 := zae BK154.out 3; go_wp2
      go_meet
      case rel => exact ⟨_, (decide (a0_0 > 68)), (by first | rfl | (simp; done) | simp [*]), H', ⟨by have := HJ3.out; first | omega | exact Nat.le_refl _⟩, ⟨by (with_reducible repeat (first | refine zan ?_ _ | refine zaq ?_ | refine zao ?_ _)); exact BK154.out⟩, ⟨by repeat (first | (with_reducible first | exact HB.out | apply zac | apply zad | apply zah | refine zar ?_ GE154.out) | exact HB.out)⟩⟩
    case rest =>
     clear HC8; try clear p2
     try clear c6
     try clear c6b0
     try clear c7
     try clear c9
     try clear c9b0
     try clear hcz10_0
     try clear hcz10_1
     try clear hcz10_2
     try clear hcz10_3
     try clear hcz11_0
     try clear hcz11_1
     try clear hcz11_2
     try clear hcz11_3
     try clear hfz10_0
     try clear hfz10_1
     try clear hfz10_2
     try clear hfz10_3
     try clear hfz11_0
     try clear hfz11_1
     try clear hfz11_2
     try clear hfz11_3
     try clear p2
     obtain ⟨kq, x24_7, rfl, HA, HJ7, BK154, HB⟩ := hcut; cases kq with
     | zero => exact absurd HA.out (by simp [zai.j1])
     | succ kj7 =>
      have H := HA.out; clear HA; simp only [zai.j1] at H; by_cases c12 : x24_7 = true
      ·subst c12
       have H1 : ((zaV.f a0_0 a0_1 a0_2 l0_3).bind fun t155 => (if t155 = true then (some 1) else (some 0))) = some r := by rw [if_pos rfl] at H; exact H
       clear H; have H := H1; clear H1; replace H := Option.bind_eq_some_iff.mp H; obtain ⟨t155, A130, H⟩ := H; replace H : (if t155 = true then (some 1) else (some 0)) = some r := H
       have A13 := zaa.mk A130; clear A130; by_cases c14 : t155 = true
       ·subst c14
        have H1 : (some 1) = some r := by rw [if_pos rfl] at H; exact H
        clear H; have H := H1; clear H1; obtain rfl := Option.some.inj H; have hcz15_0 : wc.cell? ⟨gb154, 0, none⟩ = some (.int .u8 a0_0) := (zab BK154.out 0).trans rfl; have hcz15_1 : wc.cell? ⟨gb154, 1, none⟩ = some (.int .u8 a0_1) := (zab BK154.out 1).trans rfl; have hcz15_2 : wc.cell? ⟨gb154, 2, none⟩ = some (.int .i64 a0_2) := (zab BK154.out 2).trans rfl; have hcz15_3 : wc.cell? ⟨gb154, 3, none⟩ = some (.slice A0_3 l0_3.length c0_3) := (zab BK154.out 3).trans rfl; have hfz15_0 := zae BK154.out 0; have hfz15_1 := zae BK154.out 1; have hfz15_2 := zae BK154.out 2; have hfz15_3 := zae BK154.out 3; go_wp2_with (first | ((with_reducible refine zaS (f := 76) rfl ?_); refine goesL_ (some 26) rfl rfl Try.func76 (by kernel_rfl) rfl #[.agg #[.int .u8 a0_0, .int .u8 a0_1, .int .i64 a0_2, .slice A0_3 l0_3.length c0_3]] rfl (by (try simp only [List.map_toArray, List.map_cons, List.map_nil]); first | done | rfl | (simp only [List.length_drop, List.length_take]; rfl)) ?_; (with_reducible refine (zaV.calls a0_0 a0_1 a0_2 _ _ l0_3 true _ ?side1 ?side2 A13.out).mono ?_); (case side1 => repeat (first | exact (Kd.zaB HR0_3.out HB.out) | (with_reducible refine Kd.C_alloc ?_ _) | (with_reducible refine Kd.C_drewN ?_ _) | (with_reducible refine Kd.C_drew ?_))); (case side2 => exact HC0_3.out); rintro e w16 ⟨rfl, hb⟩; refine ⟨_, rfl, ?_⟩; have n0_ := zaa.mk (zat (g := gb154) (o := .cells #[.int .u8 a0_0, .int .u8 a0_1, .int .i64 a0_2, .slice A0_3 l0_3.length c0_3] 24 (0, 0)) (by (with_reducible repeat (first | refine zan ?_ _ | refine zaq ?_ | refine zao ?_ _)); exact BK154.out) hb); have n1_ := zaa.mk (zal (by repeat (first | (with_reducible first | exact HB.out | apply zac | apply zad | apply zah | refine zar ?_ GE154.out) | exact HB.out)) hb); clear BK154; clear HB; have BK154 := n0_; have HB := n1_; clear n0_ n1_; (try clear hb); (try clear hb2); (try clear hk); (try clear hi)))
        go_ret
        exact ⟨by first | rfl | (simp [*, zaD, zaC] <;> rfl), by repeat (first | (with_reducible first | exact HB.out | apply zac | apply zad | apply zah | refine zar ?_ GE154.out) | exact HB.out)⟩
       ·replace c14 := Bool.eq_false_iff.mpr c14
        subst c14; have H1 : (some 0) = some r := by rw [if_neg (show ¬ (false = true) by decide)] at H; exact H
        clear H; have H := H1; clear H1; obtain rfl := Option.some.inj H; have hcz17_0 : wc.cell? ⟨gb154, 0, none⟩ = some (.int .u8 a0_0) := (zab BK154.out 0).trans rfl; have hcz17_1 : wc.cell? ⟨gb154, 1, none⟩ = some (.int .u8 a0_1) := (zab BK154.out 1).trans rfl; have hcz17_2 : wc.cell? ⟨gb154, 2, none⟩ = some (.int .i64 a0_2) := (zab BK154.out 2).trans rfl; have hcz17_3 : wc.cell? ⟨gb154, 3, none⟩ = some (.slice A0_3 l0_3.length c0_3) := (zab BK154.out 3).trans rfl; have hfz17_0 := zae BK154.out 0; have hfz17_1 := zae BK154.out 1; have hfz17_2 := zae BK154.out 2; have hfz17_3 := zae BK154.out 3; go_wp2_with (first | ((with_reducible refine zaS (f := 76) rfl ?_); refine goesL_ (some 26) rfl rfl Try.func76 (by kernel_rfl) rfl #[.agg #[.int .u8 a0_0, .int .u8 a0_1, .int .i64 a0_2, .slice A0_3 l0_3.length c0_3]] rfl (by (try simp only [List.map_toArray, List.map_cons, List.map_nil]); first | done | rfl | (simp only [List.length_drop, List.length_take]; rfl)) ?_; (with_reducible refine (zaV.calls a0_0 a0_1 a0_2 _ _ l0_3 false _ ?side1 ?side2 A13.out).mono ?_); (case side1 => repeat (first | exact (Kd.zaB HR0_3.out HB.out) | (with_reducible refine Kd.C_alloc ?_ _) | (with_reducible refine Kd.C_drewN ?_ _) | (with_reducible refine Kd.C_drew ?_))); (case side2 => exact HC0_3.out); rintro e w18 ⟨rfl, hb⟩; refine ⟨_, rfl, ?_⟩; have n0_ := zaa.mk (zat (g := gb154) (o := .cells #[.int .u8 a0_0, .int .u8 a0_1, .int .i64 a0_2, .slice A0_3 l0_3.length c0_3] 24 (0, 0)) (by (with_reducible repeat (first | refine zan ?_ _ | refine zaq ?_ | refine zao ?_ _)); exact BK154.out) hb); have n1_ := zaa.mk (zal (by repeat (first | (with_reducible first | exact HB.out | apply zac | apply zad | apply zah | refine zar ?_ GE154.out) | exact HB.out)) hb); clear BK154; clear HB; have BK154 := n0_; have HB := n1_; clear n0_ n1_; (try clear hb); (try clear hb2); (try clear hk); (try clear hi)))
        go_ret
        exact ⟨by first | rfl | (simp [*, zaD, zaC] <;> rfl), by repeat (first | (with_reducible first | exact HB.out | apply zac | apply zad | apply zah | refine zar ?_ GE154.out) | exact HB.out)⟩
      ·replace c12 := Bool.eq_false_iff.mpr c12
       subst c12; have H1 : (if a0_1 = 0 then (if a0_0 = 51 then (zai.j2 kj7 a1 a2 (decide (a1 > 1)) a0_0 a0_1 a0_2 l0_3) else (zai.j2 kj7 a1 a2 false a0_0 a0_1 a0_2 l0_3)) else (zai.j2 kj7 a1 a2 true a0_0 a0_1 a0_2 l0_3)) = some r := by rw [if_neg (show ¬ (false = true) by decide)] at H; exact H
       clear H; have H := H1; clear H1; have HC19 := zaa.mk H; clear H; go_upto_region 7 with (fail)
       go_cut [38] (fun v38 wc => ∃ (kq : Nat) (x38_18 : Bool), v38 = .bool x38_18 ∧ zaa (zai.j2 kq a1 a2 x38_18 a0_0 a0_1 a0_2 l0_3 = some r) ∧ zaa (kq ≤ kj7) ∧ zaa (wc.heap[gb154]? = some (.cells #[.int .u8 a0_0, .int .u8 a0_1, .int .i64 a0_2, (.slice A0_3 l0_3.length c0_3)] 24 (0, 0))) ∧ zaa (Below w.heap.size w wc))
       case first =>
        have H := HC19.out; clear HC19; by_cases c20 : a0_1 = 0
        ·rw [if_pos c20] at H
         have c20b0 : (a0_1 == 0) = true := beq_iff_eq.mpr c20; have c20b1 : (a0_1 != 0) = false := bne_eq_false_iff_eq.mpr c20; clear c20
         (first | rw [c20b0] | (simp only [i64_w, i32_w]; rw [c20b0]) | skip)
         by_cases c21 : a0_0 = 51
         ·rw [if_pos c21] at H
          have c21b0 : (a0_0 == 51) = true := beq_iff_eq.mpr c21; have c21b1 : (a0_0 != 51) = false := bne_eq_false_iff_eq.mpr c21; clear c21; have H' := zaa.mk H; clear H; have hcz22_0 : wc.cell? ⟨gb154, 0, none⟩ = some (.int .u8 a0_0) := (zab BK154.out 0).trans rfl; have hcz22_1 : wc.cell? ⟨gb154, 1, none⟩ = some (.int .u8 a0_1) := (zab BK154.out 1).trans rfl; have hcz22_2 : wc.cell? ⟨gb154, 2, none⟩ = some (.int .i64 a0_2) := (zab BK154.out 2).trans rfl; have hcz22_3 : wc.cell? ⟨gb154, 3, none⟩ = some (.slice A0_3 l0_3.length c0_3) := (zab BK154.out 3).trans rfl; have hfz22_0 := zae BK154.out 0; have hfz22_1 := zae BK154.out 1; have hfz22_2 := zae BK154.out 2; have hfz22_3 := zae BK154.out 3; go_wp2
          go_meet
          case rel => exact ⟨_, (decide (a1 > 1)), (by first | rfl | (simp; done) | simp [*]), H', ⟨by have := HJ3.out; have := HJ7.out; first | omega | exact Nat.le_refl _⟩, ⟨by (with_reducible repeat (first | refine zan ?_ _ | refine zaq ?_ | refine zao ?_ _)); exact BK154.out⟩, ⟨by repeat (first | (with_reducible first | exact HB.out | apply zac | apply zad | apply zah | refine zar ?_ GE154.out) | exact HB.out)⟩⟩
         ·rw [if_neg c21] at H
          have c21b0 : (a0_0 == 51) = false := beq_eq_false_iff_ne.mpr c21; have c21b1 : (a0_0 != 51) = true := bne_iff_ne.mpr c21; have H' := zaa.mk H; clear H; have hcz23_0 : wc.cell? ⟨gb154, 0, none⟩ = some (.int .u8 a0_0) := (zab BK154.out 0).trans rfl; have hcz23_1 : wc.cell? ⟨gb154, 1, none⟩ = some (.int .u8 a0_1) := (zab BK154.out 1).trans rfl; have hcz23_2 : wc.cell? ⟨gb154, 2, none⟩ = some (.int .i64 a0_2) := (zab BK154.out 2).trans rfl; have hcz23_3 : wc.cell? ⟨gb154, 3, none⟩ = some (.slice A0_3 l0_3.length c0_3) := (zab BK154.out 3).trans rfl; have hfz23_0 := zae BK154.out 0; have hfz23_1 := zae BK154.out 1; have hfz23_2 := zae BK154.out 2; have hfz23_3 := zae BK154.out 3; go_wp2
          go_meet
          case rel => exact ⟨_, (false), (by first | rfl | (simp; done) | simp [*]), H', ⟨by have := HJ3.out; have := HJ7.out; first | omega | exact Nat.le_refl _⟩, ⟨by (with_reducible repeat (first | refine zan ?_ _ | refine zaq ?_ | refine zao ?_ _)); exact BK154.out⟩, ⟨by repeat (first | (with_reducible first | exact HB.out | apply zac | apply zad | apply zah | refine zar ?_ GE154.out) | exact HB.out)⟩⟩
        ·rw [if_neg c20] at H
         have c20b0 : (a0_1 == 0) = false := beq_eq_false_iff_ne.mpr c20; have c20b1 : (a0_1 != 0) = true := bne_iff_ne.mpr c20
         (first | rw [c20b0] | (simp only [i64_w, i32_w]; rw [c20b0]) | skip)
         have H' := zaa.mk H; clear H; have hcz24_0 : wc.cell? ⟨gb154, 0, none⟩ = some (.int .u8 a0_0) := (zab BK154.out 0).trans rfl; have hcz24_1 : wc.cell? ⟨gb154, 1, none⟩ = some (.int .u8 a0_1) := (zab BK154.out 1).trans rfl; have hcz24_2 : wc.cell? ⟨gb154, 2, none⟩ = some (.int .i64 a0_2) := (zab BK154.out 2).trans rfl; have hcz24_3 : wc.cell? ⟨gb154, 3, none⟩ = some (.slice A0_3 l0_3.length c0_3) := (zab BK154.out 3).trans rfl; have hfz24_0 := zae BK154.out 0; have hfz24_1 := zae BK154.out 1; have hfz24_2 := zae BK154.out 2; have hfz24_3 := zae BK154.out 3; go_wp2
         go_meet
         case rel => exact ⟨_, (true), (by first | rfl | (simp; done) | simp [*]), H', ⟨by have := HJ3.out; have := HJ7.out; first | omega | exact Nat.le_refl _⟩, ⟨by (with_reducible repeat (first | refine zan ?_ _ | refine zaq ?_ | refine zao ?_ _)); exact BK154.out⟩, ⟨by repeat (first | (with_reducible first | exact HB.out | apply zac | apply zad | apply zah | refine zar ?_ GE154.out) | exact HB.out)⟩⟩
       case rest =>
        clear HC19; try clear c1
        try clear c2
        try clear p2
        try clear c6
        try clear c6b0
        try clear c7
        try clear c9
        try clear c9b0
        try clear c12
        try clear c14
        try clear c20
        try clear c20b0
        try clear c20b1
        try clear c21
        try clear c21b0
        try clear c21b1
        try clear hcz10_0
        try clear hcz10_1
        try clear hcz10_2
        try clear hcz10_3
        try clear hcz11_0
        try clear hcz11_1
        try clear hcz11_2
        try clear hcz11_3
        try clear hcz15_0
        try clear hcz15_1
        try clear hcz15_2
        try clear hcz15_3
        try clear hcz17_0
        try clear hcz17_1
        try clear hcz17_2
        try clear hcz17_3
        try clear hcz22_0
        try clear hcz22_1
        try clear hcz22_2
        try clear hcz22_3
        try clear hcz23_0
        try clear hcz23_1
        try clear hcz23_2
        try clear hcz23_3
        try clear hcz24_0
        try clear hcz24_1
        try clear hcz24_2
        try clear hcz24_3
        try clear hfz10_0
        try clear hfz10_1
        try clear hfz10_2
        try clear hfz10_3
        try clear hfz11_0
        try clear hfz11_1
        try clear hfz11_2
        try clear hfz11_3
        try clear hfz15_0
        try clear hfz15_1
        try clear hfz15_2
        try clear hfz15_3
        try clear hfz17_0
        try clear hfz17_1
        try clear hfz17_2
        try clear hfz17_3
        try clear hfz22_0
        try clear hfz22_1
        try clear hfz22_2
        try clear hfz22_3
        try clear hfz23_0
        try clear hfz23_1
        try clear hfz23_2
        try clear hfz23_3
        try clear hfz24_0
        try clear hfz24_1
        try clear hfz24_2
        try clear hfz24_3
        try clear p2
        obtain ⟨kq, x38_18, rfl, HA, HJ18, BK154, HB⟩ := hcut; cases kq with
        | zero => exact absurd HA.out (by simp [zai.j2])
        | succ kj18 =>
         have H := HA.out; clear HA; simp only [zai.j2] at H; by_cases c25 : x38_18 = true
         ·subst c25
          have H1 : (some 0) = some r := by rw [if_pos rfl] at H; exact H
          clear H; have H := H1; clear H1; obtain rfl := Option.some.inj H; go_wp2
          go_ret
          exact ⟨by first | rfl | (simp [*, zaD, zaC] <;> rfl), by repeat (first | (with_reducible first | exact HB.out | apply zac | apply zad | apply zah | refine zar ?_ GE154.out) | exact HB.out)⟩
         ·replace c25 := Bool.eq_false_iff.mpr c25
          subst c25; have H1 : (zai.l0 kj18 a1 a2 1 0 0 a0_0 a0_1 a0_2 l0_3) = some r := by rw [if_neg (show ¬ (false = true) by decide)] at H; exact H
          clear H; have H := H1; clear H1; have H' := zaa.mk H; clear H; go_wp2
          go_loopg [7, 8, 9] kj18 (fun kq v7 v8 v9 w' => ∃ (x7_4 : Int) (x8_4 : Int) (x9_4 : Int), v7 = .int .i64 x7_4 ∧ v8 = .int .i64 x8_4 ∧ v9 = .int .i64 x9_4 ∧ zaa (zai.l0 kq a1 a2 x7_4 x8_4 x9_4 a0_0 a0_1 a0_2 l0_3 = some r) ∧ zaa (kq ≤ kj18) ∧ zaa (w'.heap[gb154]? = some (.cells #[.int .u8 a0_0, .int .u8 a0_1, .int .i64 a0_2, (.slice A0_3 l0_3.length c0_3)] 24 (0, 0))) ∧ zaa (Below w.heap.size w w'))
          case atStart => exact ⟨(1), (0), (0), (by first | rfl | (simp; done) | simp [*]), (by first | rfl | (simp; done) | simp [*]), (by first | rfl | (simp; done) | simp [*]), H', ⟨Nat.le_refl _⟩, ⟨by (with_reducible repeat (first | refine zan ?_ _ | refine zaq ?_ | refine zao ?_ _)); exact BK154.out⟩, ⟨by repeat (first | (with_reducible first | exact HB.out | apply zac | apply zad | apply zah | refine zar ?_ GE154.out) | exact HB.out)⟩⟩
          case round =>
           clear H'; try clear c1
           try clear c2
           try clear p2
           try clear c6
           try clear c6b0
           try clear c7
           try clear c9
           try clear c9b0
           try clear c12
           try clear c14
           try clear c20
           try clear c20b0
           try clear c20b1
           try clear c21
           try clear c21b0
           try clear c21b1
           try clear c25
           try clear hcz10_0
           try clear hcz10_1
           try clear hcz10_2
           try clear hcz10_3
           try clear hcz11_0
           try clear hcz11_1
           try clear hcz11_2
           try clear hcz11_3
           try clear hcz15_0
           try clear hcz15_1
           try clear hcz15_2
           try clear hcz15_3
           try clear hcz17_0
           try clear hcz17_1
           try clear hcz17_2
           try clear hcz17_3
           try clear hcz22_0
           try clear hcz22_1
           try clear hcz22_2
           try clear hcz22_3
           try clear hcz23_0
           try clear hcz23_1
           try clear hcz23_2
           try clear hcz23_3
           try clear hcz24_0
           try clear hcz24_1
           try clear hcz24_2
           try clear hcz24_3
           try clear hfz10_0
           try clear hfz10_1
           try clear hfz10_2
           try clear hfz10_3
           try clear hfz11_0
           try clear hfz11_1
           try clear hfz11_2
           try clear hfz11_3
           try clear hfz15_0
           try clear hfz15_1
           try clear hfz15_2
           try clear hfz15_3
           try clear hfz17_0
           try clear hfz17_1
           try clear hfz17_2
           try clear hfz17_3
           try clear hfz22_0
           try clear hfz22_1
           try clear hfz22_2
           try clear hfz22_3
           try clear hfz23_0
           try clear hfz23_1
           try clear hfz23_2
           try clear hfz23_3
           try clear hfz24_0
           try clear hfz24_1
           try clear hfz24_2
           try clear hfz24_3
           try clear p2
           obtain ⟨x7_4, x8_4, x9_4, rfl, rfl, rfl, HA, HK4, BK154, HB⟩ := hrel; cases gk with
           | zero => exact absurd HA.out (by simp [zai.l0])
           | succ k4 =>
            have H := HA.out; clear HA; simp only [zai.l0] at H; by_cases c26 : x9_4 < (l0_3.length : Int)
            ·rw [if_pos c26] at H
             have c26b0 : decide (x9_4 < (l0_3.length : Int)) = true := decide_eq_true c26; clear c26; by_cases c27 : 0 ≤ x9_4
             ·rw [if_pos c27] at H
              have c27b0 : decide (0 ≤ x9_4) = true := decide_eq_true c27; clear c27; replace H := Option.bind_eq_some_iff.mp H; obtain ⟨t157, A280, H⟩ := H; replace H : (if t157 = 0 then (some 0) else (zai.l0 k4 a1 a2 (wrap64 (x7_4 + t157)) (wrap64 (x8_4 + ((zaE l0_3 x9_4).f2))) (wrap64 (x9_4 + 1)) a0_0 a0_1 a0_2 l0_3)) = some r := H
              have A28 := zaa.mk A280; clear A280; by_cases c29 : t157 = 0
              ·rw [if_pos c29] at H
               have c29b0 : (t157 == 0) = true := beq_iff_eq.mpr c29; have c29b1 : (t157 != 0) = false := bne_eq_false_iff_eq.mpr c29; clear c29; obtain rfl := Option.some.inj H; have hcz30_0 : wr.cell? ⟨gb154, 0, none⟩ = some (.int .u8 a0_0) := (zab BK154.out 0).trans rfl; have hcz30_1 : wr.cell? ⟨gb154, 1, none⟩ = some (.int .u8 a0_1) := (zab BK154.out 1).trans rfl; have hcz30_2 : wr.cell? ⟨gb154, 2, none⟩ = some (.int .i64 a0_2) := (zab BK154.out 2).trans rfl; have hcz30_3 : wr.cell? ⟨gb154, 3, none⟩ = some (.slice A0_3 l0_3.length c0_3) := (zab BK154.out 3).trans rfl; have hfz30_0 := zae BK154.out 0; have hfz30_1 := zae BK154.out 1; have hfz30_2 := zae BK154.out 2; have hfz30_3 := zae BK154.out 3; have p156 : 0 ≤ (x9_4 : Int) := of_decide_eq_true (by assumption)
               have q156 : x9_4 < (l0_3.length : Int) := of_decide_eq_true (by assumption)
               obtain ⟨ad156, A156_3, c156_3, e156, hx156_0, hx156_1, hx156_2, hx156_3, hl156_3, hi156_3⟩ := at_T24 HR0_3.out x9_4 p156 q156; cases e156; replace hx156_0 := (HB.out.cell (World.block_lt_of_cell? w _ hx156_0)).trans hx156_0; replace hx156_1 := (HB.out.cell (World.block_lt_of_cell? w _ hx156_1)).trans hx156_1; replace hx156_2 := (HB.out.cell (World.block_lt_of_cell? w _ hx156_2)).trans hx156_2; replace hx156_3 := (HB.out.cell (World.block_lt_of_cell? w _ hx156_3)).trans hx156_3; have HR156_3 := zaa.mk hi156_3; have HC156_3 := zaa.mk hl156_3; clear hi156_3 hl156_3; replace p156 := eq_true p156; replace q156 := eq_true q156; go_wp2_with (first | ((with_reducible refine zaS (f := 70) rfl ?_); refine goesL_ (some 56) rfl rfl Try.func70 (by kernel_rfl) rfl #[.agg #[.int .u8 ((zaE l0_3 x9_4).f0), .int .u8 ((zaE l0_3 x9_4).f1), .int .i64 ((zaE l0_3 x9_4).f2), .slice A156_3 ((zaE l0_3 x9_4).f3).length c156_3], .int .i64 (wrap64 (a1 + 1)), .int .i64 (wrap64 (a2 - x7_4))] rfl (by (try simp only [List.map_toArray, List.map_cons, List.map_nil]); first | done | rfl | (simp only [List.length_drop, List.length_take]; rfl)) ?_; (with_reducible refine (ih k4 (by have := HJ3.out; have := HJ7.out; have := HJ18.out; have := HK4.out; omega) ((zaE l0_3 x9_4).f0) ((zaE l0_3 x9_4).f1) ((zaE l0_3 x9_4).f2) _ _ ((zaE l0_3 x9_4).f3) (wrap64 (a1 + 1)) (wrap64 (a2 - x7_4)) t157 _ ?side1 ?side2 A28.out).mono ?_); (case side1 => repeat (first | exact (Kd.zaB HR156_3.out HB.out) | (with_reducible refine Kd.C_alloc ?_ _) | (with_reducible refine Kd.C_drewN ?_ _) | (with_reducible refine Kd.C_drew ?_))); (case side2 => exact HC156_3.out); rintro e w31 ⟨rfl, hb⟩; refine ⟨_, rfl, ?_⟩; have n0_ := zaa.mk (zat (g := gb154) (o := .cells #[.int .u8 a0_0, .int .u8 a0_1, .int .i64 a0_2, .slice (some ad156) l0_3.length c0_3] 24 (0, 0)) (by (with_reducible repeat (first | refine zan ?_ _ | refine zaq ?_ | refine zao ?_ _)); exact BK154.out) hb); have n1_ := zaa.mk (zal (by repeat (first | (with_reducible first | exact HB.out | apply zac | apply zad | apply zah | refine zar ?_ GE154.out) | exact HB.out)) hb); clear BK154; clear HB; have BK154 := n0_; have HB := n1_; clear n0_ n1_; (try clear hb); (try clear hb2); (try clear hk); (try clear hi)))
               go_ret
               exact ⟨by first | rfl | (simp [*, zaD, zaC] <;> rfl), by repeat (first | (with_reducible first | exact HB.out | apply zac | apply zad | apply zah | refine zar ?_ GE154.out) | exact HB.out)⟩
              ·rw [if_neg c29] at H
               have c29b0 : (t157 == 0) = false := beq_eq_false_iff_ne.mpr c29; have c29b1 : (t157 != 0) = true := bne_iff_ne.mpr c29; have H' := zaa.mk H; clear H; have hcz32_0 : wr.cell? ⟨gb154, 0, none⟩ = some (.int .u8 a0_0) := (zab BK154.out 0).trans rfl; have hcz32_1 : wr.cell? ⟨gb154, 1, none⟩ = some (.int .u8 a0_1) := (zab BK154.out 1).trans rfl; have hcz32_2 : wr.cell? ⟨gb154, 2, none⟩ = some (.int .i64 a0_2) := (zab BK154.out 2).trans rfl; have hcz32_3 : wr.cell? ⟨gb154, 3, none⟩ = some (.slice A0_3 l0_3.length c0_3) := (zab BK154.out 3).trans rfl; have hfz32_0 := zae BK154.out 0; have hfz32_1 := zae BK154.out 1; have hfz32_2 := zae BK154.out 2; have hfz32_3 := zae BK154.out 3; have p156 : 0 ≤ (x9_4 : Int) := of_decide_eq_true (by assumption)
               have q156 : x9_4 < (l0_3.length : Int) := of_decide_eq_true (by assumption)
               obtain ⟨ad156, A156_3, c156_3, e156, hx156_0, hx156_1, hx156_2, hx156_3, hl156_3, hi156_3⟩ := at_T24 HR0_3.out x9_4 p156 q156; cases e156; replace hx156_0 := (HB.out.cell (World.block_lt_of_cell? w _ hx156_0)).trans hx156_0; replace hx156_1 := (HB.out.cell (World.block_lt_of_cell? w _ hx156_1)).trans hx156_1; replace hx156_2 := (HB.out.cell (World.block_lt_of_cell? w _ hx156_2)).trans hx156_2; replace hx156_3 := (HB.out.cell (World.block_lt_of_cell? w _ hx156_3)).trans hx156_3; have HR156_3 := zaa.mk hi156_3; have HC156_3 := zaa.mk hl156_3; clear hi156_3 hl156_3; replace p156 := eq_true p156; replace q156 := eq_true q156; go_wp2_with (first | ((with_reducible refine zaS (f := 70) rfl ?_); refine goesL_ (some 56) rfl rfl Try.func70 (by kernel_rfl) rfl #[.agg #[.int .u8 ((zaE l0_3 x9_4).f0), .int .u8 ((zaE l0_3 x9_4).f1), .int .i64 ((zaE l0_3 x9_4).f2), .slice A156_3 ((zaE l0_3 x9_4).f3).length c156_3], .int .i64 (wrap64 (a1 + 1)), .int .i64 (wrap64 (a2 - x7_4))] rfl (by (try simp only [List.map_toArray, List.map_cons, List.map_nil]); first | done | rfl | (simp only [List.length_drop, List.length_take]; rfl)) ?_; (with_reducible refine (ih k4 (by have := HJ3.out; have := HJ7.out; have := HJ18.out; have := HK4.out; omega) ((zaE l0_3 x9_4).f0) ((zaE l0_3 x9_4).f1) ((zaE l0_3 x9_4).f2) _ _ ((zaE l0_3 x9_4).f3) (wrap64 (a1 + 1)) (wrap64 (a2 - x7_4)) t157 _ ?side1 ?side2 A28.out).mono ?_); (case side1 => repeat (first | exact (Kd.zaB HR156_3.out HB.out) | (with_reducible refine Kd.C_alloc ?_ _) | (with_reducible refine Kd.C_drewN ?_ _) | (with_reducible refine Kd.C_drew ?_))); (case side2 => exact HC156_3.out); rintro e w33 ⟨rfl, hb⟩; refine ⟨_, rfl, ?_⟩; have n0_ := zaa.mk (zat (g := gb154) (o := .cells #[.int .u8 a0_0, .int .u8 a0_1, .int .i64 a0_2, .slice (some ad156) l0_3.length c0_3] 24 (0, 0)) (by (with_reducible repeat (first | refine zan ?_ _ | refine zaq ?_ | refine zao ?_ _)); exact BK154.out) hb); have n1_ := zaa.mk (zal (by repeat (first | (with_reducible first | exact HB.out | apply zac | apply zad | apply zah | refine zar ?_ GE154.out) | exact HB.out)) hb); clear BK154; clear HB; have BK154 := n0_; have HB := n1_; clear n0_ n1_; (try clear hb); (try clear hb2); (try clear hk); (try clear hi); have hcz34_0 : w33.cell? ⟨gb154, 0, none⟩ = some (.int .u8 a0_0) := (zab BK154.out 0).trans rfl; have hcz34_1 : w33.cell? ⟨gb154, 1, none⟩ = some (.int .u8 a0_1) := (zab BK154.out 1).trans rfl; have hcz34_2 : w33.cell? ⟨gb154, 2, none⟩ = some (.int .i64 a0_2) := (zab BK154.out 2).trans rfl; have hcz34_3 : w33.cell? ⟨gb154, 3, none⟩ = some (.slice (some ad156) l0_3.length c0_3) := (zab BK154.out 3).trans rfl; have hfz34_0 := zae BK154.out 0; have hfz34_1 := zae BK154.out 1; have hfz34_2 := zae BK154.out 2; have hfz34_3 := zae BK154.out 3; have p158 : 0 ≤ (x9_4 : Int) := of_decide_eq_true (by assumption); have q158 : x9_4 < (l0_3.length : Int) := of_decide_eq_true (by assumption); obtain ⟨ad158, A158_3, c158_3, e158, hx158_0, hx158_1, hx158_2, hx158_3, hl158_3, hi158_3⟩ := at_T24 HR0_3.out x9_4 p158 q158; obtain rfl : ad156 = ad158 := (by injection e158); replace hx158_0 := (HB.out.cell (World.block_lt_of_cell? w _ hx158_0)).trans hx158_0; replace hx158_1 := (HB.out.cell (World.block_lt_of_cell? w _ hx158_1)).trans hx158_1; replace hx158_2 := (HB.out.cell (World.block_lt_of_cell? w _ hx158_2)).trans hx158_2; replace hx158_3 := (HB.out.cell (World.block_lt_of_cell? w _ hx158_3)).trans hx158_3; have HR158_3 := zaa.mk hi158_3; have HC158_3 := zaa.mk hl158_3; clear hi158_3 hl158_3; replace p158 := eq_true p158; replace q158 := eq_true q158))
               go_roundg k4
               case measure => have := HJ3.out; have := HJ7.out; have := HJ18.out; have := HK4.out; omega
               case rel => exact ⟨(wrap64 (x7_4 + t157)), (wrap64 (x8_4 + ((zaE l0_3 x9_4).f2))), (wrap64 (x9_4 + 1)), (by first | rfl | (simp; done) | simp [*]), (by first | rfl | (simp; done) | simp [*]), (by first | rfl | (simp; done) | simp [*]), H', ⟨by have := HJ3.out; have := HJ7.out; have := HJ18.out; have := HK4.out; omega⟩, ⟨by (with_reducible repeat (first | refine zan ?_ _ | refine zaq ?_ | refine zao ?_ _)); exact BK154.out⟩, ⟨by repeat (first | (with_reducible first | exact HB.out | apply zac | apply zad | apply zah | refine zar ?_ GE154.out) | exact HB.out)⟩⟩
             ·rw [if_neg c27] at H
              exact absurd H (by simp)
            ·rw [if_neg c26] at H
             have c26b0 : decide (x9_4 < (l0_3.length : Int)) = false := decide_eq_false c26; clear c26; by_cases c35 : x8_4 = a0_2
             ·rw [if_pos c35] at H
              have c35b0 : (x8_4 == a0_2) = true := beq_iff_eq.mpr c35; have c35b1 : (x8_4 != a0_2) = false := bne_eq_false_iff_eq.mpr c35; clear c35; by_cases c36 : x8_4 > 1099511627776
              ·rw [if_pos c36] at H
               have c36b0 : decide (1099511627776 < x8_4) = true := decide_eq_true c36; clear c36; obtain rfl := Option.some.inj H; have hcz37_0 : wr.cell? ⟨gb154, 0, none⟩ = some (.int .u8 a0_0) := (zab BK154.out 0).trans rfl; have hcz37_1 : wr.cell? ⟨gb154, 1, none⟩ = some (.int .u8 a0_1) := (zab BK154.out 1).trans rfl; have hcz37_2 : wr.cell? ⟨gb154, 2, none⟩ = some (.int .i64 a0_2) := (zab BK154.out 2).trans rfl; have hcz37_3 : wr.cell? ⟨gb154, 3, none⟩ = some (.slice A0_3 l0_3.length c0_3) := (zab BK154.out 3).trans rfl; have hfz37_0 := zae BK154.out 0; have hfz37_1 := zae BK154.out 1; have hfz37_2 := zae BK154.out 2; have hfz37_3 := zae BK154.out 3; go_wp2
               go_ret
               exact ⟨by first | rfl | (simp [*, zaD, zaC] <;> rfl), by repeat (first | (with_reducible first | exact HB.out | apply zac | apply zad | apply zah | refine zar ?_ GE154.out) | exact HB.out)⟩
              ·rw [if_neg c36] at H
               have c36b0 : decide (1099511627776 < x8_4) = false := decide_eq_false c36; clear c36; obtain rfl := Option.some.inj H; have hcz38_0 : wr.cell? ⟨gb154, 0, none⟩ = some (.int .u8 a0_0) := (zab BK154.out 0).trans rfl; have hcz38_1 : wr.cell? ⟨gb154, 1, none⟩ = some (.int .u8 a0_1) := (zab BK154.out 1).trans rfl; have hcz38_2 : wr.cell? ⟨gb154, 2, none⟩ = some (.int .i64 a0_2) := (zab BK154.out 2).trans rfl; have hcz38_3 : wr.cell? ⟨gb154, 3, none⟩ = some (.slice A0_3 l0_3.length c0_3) := (zab BK154.out 3).trans rfl; have hfz38_0 := zae BK154.out 0; have hfz38_1 := zae BK154.out 1; have hfz38_2 := zae BK154.out 2; have hfz38_3 := zae BK154.out 3; go_wp2
               go_ret
               exact ⟨by first | rfl | (simp [*, zaD, zaC] <;> rfl), by repeat (first | (with_reducible first | exact HB.out | apply zac | apply zad | apply zah | refine zar ?_ GE154.out) | exact HB.out)⟩
             ·rw [if_neg c35] at H
              have c35b0 : (x8_4 == a0_2) = false := beq_eq_false_iff_ne.mpr c35; have c35b1 : (x8_4 != a0_2) = true := bne_iff_ne.mpr c35; obtain rfl := Option.some.inj H; have hcz39_0 : wr.cell? ⟨gb154, 0, none⟩ = some (.int .u8 a0_0) := (zab BK154.out 0).trans rfl; have hcz39_1 : wr.cell? ⟨gb154, 1, none⟩ = some (.int .u8 a0_1) := (zab BK154.out 1).trans rfl; have hcz39_2 : wr.cell? ⟨gb154, 2, none⟩ = some (.int .i64 a0_2) := (zab BK154.out 2).trans rfl; have hcz39_3 : wr.cell? ⟨gb154, 3, none⟩ = some (.slice A0_3 l0_3.length c0_3) := (zab BK154.out 3).trans rfl; have hfz39_0 := zae BK154.out 0; have hfz39_1 := zae BK154.out 1; have hfz39_2 := zae BK154.out 2; have hfz39_3 := zae BK154.out 3; go_wp2
              go_ret
              exact ⟨by first | rfl | (simp [*, zaD, zaC] <;> rfl), by repeat (first | (with_reducible first | exact HB.out | apply zac | apply zad | apply zah | refine zar ?_ GE154.out) | exact HB.out)⟩
def zaX.f (k : Nat) (a0_0 : Int) (a0_1 : Int) (a0_2 : Int) (l0_3 : List (S24)) : Option (Bool) := (zai.f k a0_0 a0_1 a0_2 l0_3 1 1048576).bind fun t160 => (some (decide (t160 > 0)))
theorem zaX.calls (k : Nat) (a0_0 : Int) (a0_1 : Int) (a0_2 : Int) (A0_3 : Option Addr) (c0_3 : Nat) (l0_3 : List (S24)) (r : Bool) (w : World) (hr0_3 : Kd.C k24 w A0_3 l0_3.length l0_3) (hc0_3 : l0_3.length ≤ c0_3) (h : zaX.f k a0_0 a0_1 a0_2 l0_3 = some r) :
  Calls Try.prog 54 #[.agg #[.int .u8 a0_0, .int .u8 a0_1, .int .i64 a0_2, .slice A0_3 l0_3.length c0_3]] w fun e w' => e = .returned (.bool r) ∧ Below w.heap.size w w' := by
 have hu24 := Try.underlying24; have HR0_3 := zaa.mk hr0_3; have HC0_3 := zaa.mk hc0_3; clear hr0_3 hc0_3; have HB := zaa.mk (Below.refl w.heap.size w); have H : ((zai.f k a0_0 a0_1 a0_2 l0_3 1 1048576).bind fun t160 => (some (decide (t160 > 0)))) = some r := h
 clear h; replace H := Option.bind_eq_some_iff.mp H; obtain ⟨t160, A20, H⟩ := H; replace H : (some (decide (t160 > 0))) = some r := H; have A2 := zaa.mk A20; clear A20; obtain rfl := Option.some.inj H; go_enter Try.func54, Try.ntmps54
 go_wp2_with (first | ((with_reducible refine zaK (N := 1) rfl ?_); refine zaF ?hg (N := 1) ?hd (cs := #[.int .u8 a0_0, .int .u8 a0_1, .int .i64 a0_2, .slice A0_3 l0_3.length c0_3]) (t := 24) ?hr ?_; (case hd => rfl); (case hg => rfl); (case hr => first | (go_simp; done) | (go_simp; rfl)); intro gb159 hg w3 hbox hb; have n0_ := zaa.mk (zal (by repeat (first | exact HB.out | apply zac | apply zad | apply zah)) hb); have n1_ := zaa.mk (hbox); have n2_ := zaa.mk ((by rw [hg]; exact (zas (by repeat (first | exact HB.out | apply zac | apply zad | apply zah))) : w.heap.size ≤ gb159)); have n3_ := zaa.mk ((by rw [hg]; exact (zas (by repeat (first | exact HB.out | apply zac | apply zad | apply zah))) : w.heap.size ≤ gb159)); clear HB; have HB := n0_; have BK159 := n1_; have GW159 := n2_; have GE159 := n3_; clear n0_ n1_ n2_ n3_; clear hb hbox hg; have hcz4_0 : w3.cell? ⟨gb159, 0, none⟩ = some (.int .u8 a0_0) := (zab BK159.out 0).trans rfl; have hcz4_1 : w3.cell? ⟨gb159, 1, none⟩ = some (.int .u8 a0_1) := (zab BK159.out 1).trans rfl; have hcz4_2 : w3.cell? ⟨gb159, 2, none⟩ = some (.int .i64 a0_2) := (zab BK159.out 2).trans rfl; have hcz4_3 : w3.cell? ⟨gb159, 3, none⟩ = some (.slice A0_3 l0_3.length c0_3) := (zab BK159.out 3).trans rfl; have hfz4_0 := zae BK159.out 0; have hfz4_1 := zae BK159.out 1; have hfz4_2 := zae BK159.out 2; have hfz4_3 := zae BK159.out 3) | ((with_reducible refine zaS (f := 70) rfl ?_); refine goesL_ (some 4) rfl rfl Try.func70 (by kernel_rfl) rfl #[.agg #[.int .u8 a0_0, .int .u8 a0_1, .int .i64 a0_2, .slice A0_3 l0_3.length c0_3], .int .i64 1, .int .i64 1048576] rfl (by (try simp only [List.map_toArray, List.map_cons, List.map_nil]); first | done | rfl | (simp only [List.length_drop, List.length_take]; rfl)) ?_; (with_reducible refine (zai.calls k a0_0 a0_1 a0_2 _ _ l0_3 1 1048576 t160 _ ?side1 ?side2 A2.out).mono ?_); (case side1 => repeat (first | exact (Kd.zaB HR0_3.out HB.out) | (with_reducible refine Kd.C_alloc ?_ _) | (with_reducible refine Kd.C_drewN ?_ _) | (with_reducible refine Kd.C_drew ?_))); (case side2 => exact HC0_3.out); rintro e w5 ⟨rfl, hb⟩; refine ⟨_, rfl, ?_⟩; have n0_ := zaa.mk (zat (g := gb159) (o := .cells #[.int .u8 a0_0, .int .u8 a0_1, .int .i64 a0_2, .slice A0_3 l0_3.length c0_3] 24 (0, 0)) (by (with_reducible repeat (first | refine zan ?_ _ | refine zaq ?_ | refine zao ?_ _)); exact BK159.out) hb); have n1_ := zaa.mk (zal (by repeat (first | (with_reducible first | exact HB.out | apply zac | apply zad | apply zah | refine zar ?_ GE159.out) | exact HB.out)) hb); clear BK159; clear HB; have BK159 := n0_; have HB := n1_; clear n0_ n1_; (try clear hb); (try clear hb2); (try clear hk); (try clear hi)))
 go_ret
 exact ⟨by first | rfl | (simp [*, zaD, zaC] <;> rfl), by repeat (first | (with_reducible first | exact HB.out | apply zac | apply zad | apply zah | refine zar ?_ GE159.out) | exact HB.out)⟩
mutual
def zam.l0 : Nat → List (S97) → Int → Int → Int → Int → Int → List (S24) → Option (Int × Int × Int × (List (S24)) × Int)
 | 0, _, _, _, _, _, _, _ => none
 | k + 1, x0, x1, x7, x111000, x111001, x111002, x111003 => if x7 < (x0.length : Int) then (if 0 ≤ x7 then (if 0 ≤ x1 then (if x1 < (x0.length : Int) then (if ((zax x0 x7).f0) > ((zax x0 x1).f0) then ((zam.f k x0 x7).bind fun bt113 => (if x111003.length < 3518437208883 then (zam.l0 k x0 x1 bt113.2.2.2.2 x111000 x111001 (wrap64 (x111002 + bt113.2.2.1)) (x111003 ++ [(⟨bt113.1, bt113.2.1, bt113.2.2.1, bt113.2.2.2.1⟩ : S24)])) else (none))) else (some (x111000, x111001, x111002, x111003, x7))) else (none)) else (none)) else (none)) else (some (x111000, x111001, x111002, x111003, x7))
def zam.f : Nat → List (S97) → Int → Option (Int × Int × Int × (List (S24)) × Int)
 | 0, _, _ => none
 | k + 1, l0, a1 => if 0 ≤ a1 then (if a1 < (l0.length : Int) then (zam.l0 k l0 a1 (wrap64 (a1 + 1)) ((zax l0 a1).f1) ((zax l0 a1).f2) ((zax l0 a1).f3) ([] : List (S24))) else (none)) else (none)
end
def zam.T1 : Bool × List (List Nat × List Nat) := (true, [([], []), ([], []), ([0, 1], [0, 1]), ([2], [2]), ([3], [3]), ([], []), ([], []), ([5, 6], [5, 6]), ([7], [7]), ([8], [8]), ([], []), ([], []), ([10, 11], [10, 11]), ([12], [12]), ([13], [13]), ([4, 9, 14], [4, 9, 14]), ([], []), ([16, 15, 0, 1, 2, 3, 4, 5, 6, 7, 8, 9, 10, 11, 12, 13, 14, 15, 16], [15, 16])])
def zam.B1 : List Nat := [0, 0, 3, 7, 15, 0, 0, 96, 224, 480, 0, 0, 3072, 7168, 15360, 32767, 0, 131071]
theorem zam.tab1 : rtab .any (opsOf Try.f19 1) = zam.T1 := by kernel_rfl
theorem zam.bits1 : waitsOk zam.T1.2 zam.B1 = true := by kernel_rfl
def zam.T3 : Bool × List (List Nat × List Nat) := (true, [([], []), ([], []), ([1], [1]), ([0, 2], [0, 2]), ([3], [3]), ([4], [4]), ([4], [4]), ([5, 6, 4], [4, 5, 6]), ([7, 4], [4, 7]), ([8, 4], [4, 8]), ([4], [4]), ([4], [4]), ([10, 11, 4], [4, 10, 11]), ([12, 4], [4, 12]), ([13, 4], [4, 13]), ([9, 14, 4], [4, 9, 14]), ([4, 15], [4, 15])])
def zam.B3 : List Nat := [0, 0, 2, 7, 15, 31, 31, 127, 255, 511, 31, 31, 3103, 7199, 15391, 32767, 65535]
theorem zam.tab3 : rtab .any (opsOf Try.f19 3) = zam.T3 := by kernel_rfl
theorem zam.bits3 : waitsOk zam.T3.2 zam.B3 = true := by kernel_rfl
theorem zam.calls (k : Nat) : ∀ (A0 : Option Addr) (c0 : Nat) (l0 : List (S97)) (a1 : Int) (r1 : Int) (r2 : Int) (r3 : Int) (r4 : List (S24)) (r5 : Int) (w : World) (hr0 : Kd.C k97 w A0 l0.length l0) (hc0 : l0.length ≤ c0) (h : zam.f k l0 a1 = some (r1, r2, r3, r4, r5)),
  Calls Try.prog 19 #[.slice A0 l0.length c0, .int .i64 a1] w fun e w' => ∃ v3_ : Value, e = .returned (.tuple #[.agg #[.int .u8 r1, .int .u8 r2, .int .i64 r3, v3_], .int .i64 r5]) ∧ Kd.R k24 24 w' w.heap.size (fun _ => True) v3_ r4 ∧ Below w.heap.size w w' := by
 induction k using Nat.strongRecOn with
 | _ k ih =>
 intro A0 c0 l0 a1 r1 r2 r3 r4 r5 w hr0 hc0 h
 cases k with
 | zero => exact absurd h (by simp [zam.f])
 | succ k =>
 simp only [zam.f] at h; have hu24 := Try.underlying24; have HR0 := zaa.mk hr0; have HC0 := zaa.mk hc0; clear hr0 hc0; have HB := zaa.mk (Below.refl w.heap.size w); have H : (if 0 ≤ a1 then (if a1 < (l0.length : Int) then (zam.l0 k l0 a1 (wrap64 (a1 + 1)) ((zax l0 a1).f1) ((zax l0 a1).f2) ((zax l0 a1).f3) ([] : List (S24))) else (none)) else (none)) = some (r1, r2, r3, r4, r5) := h
 clear h; by_cases c3 : 0 ≤ a1
 ·rw [if_pos c3] at H
  have c3b0 : decide (0 ≤ a1) = true := decide_eq_true c3; clear c3; by_cases c4 : a1 < (l0.length : Int)
  ·rw [if_pos c4] at H
   have c4b0 : decide (a1 < (l0.length : Int)) = true := decide_eq_true c4; clear c4; have H' := zaa.mk H; clear H; go_enter Try.func19, Try.ntmps19
   try go_wp2_with (first | ((with_reducible refine zaK (N := 4) rfl ?_); refine zaF ?hg (N := 4) ?hd (cs := #[.int .u8 0, .int .u8 0, .int .i64 0, .slice none 0 0]) (t := 24) ?hr ?_; (case hd => rfl); (case hg => rfl); (case hr => first | (go_simp; done) | (go_simp; rfl)); intro gb106 hg w5 hbox hb; have n0_ := zaa.mk (zal (by repeat (first | exact HB.out | apply zac | apply zad | apply zah)) hb); have n1_ := zaa.mk (hbox); have n2_ := zaa.mk ((by rw [hg]; exact (zas (by repeat (first | exact HB.out | apply zac | apply zad | apply zah))) : w.heap.size ≤ gb106)); have n3_ := zaa.mk ((by rw [hg]; exact (zas (by repeat (first | exact HB.out | apply zac | apply zad | apply zah))) : w.heap.size ≤ gb106)); clear HB; have HB := n0_; have BK106 := n1_; have GW106 := n2_; have GE106 := n3_; clear n0_ n1_ n2_ n3_; clear hb hbox hg))
   have n0_ := zaa.mk (zaq BK106.out); have n1_ := zaa.mk (zah HB.out); clear BK106; clear HB; have BK106 := n0_; have HB := n1_; clear n0_ n1_; have p107 : 0 ≤ (a1 : Int) := of_decide_eq_true (by assumption)
   have q107 : a1 < (l0.length : Int) := of_decide_eq_true (by assumption)
   obtain ⟨ad107, e107, hx107_0, hx107_1, hx107_2, hx107_3⟩ := at_T97 HR0.out a1 p107 q107; have hw107_3 := hx107_3; have hw107_2 := hx107_2; have hw107_1 := hx107_1; have hw107_0 := hx107_0; cases e107; replace hx107_0 := (HB.out.cell (World.block_lt_of_cell? w _ hx107_0)).trans hx107_0; replace hx107_1 := (HB.out.cell (World.block_lt_of_cell? w _ hx107_1)).trans hx107_1; replace hx107_2 := (HB.out.cell (World.block_lt_of_cell? w _ hx107_2)).trans hx107_2; replace hx107_3 := (HB.out.cell (World.block_lt_of_cell? w _ hx107_3)).trans hx107_3; replace p107 := eq_true p107; replace q107 := eq_true q107; have p108 : 0 ≤ (a1 : Int) := of_decide_eq_true (by assumption)
   have q108 : a1 < (l0.length : Int) := of_decide_eq_true (by assumption)
   obtain ⟨ad108, e108, hx108_0, hx108_1, hx108_2, hx108_3⟩ := at_T97 HR0.out a1 p108 q108; have hw108_3 := hx108_3; have hw108_2 := hx108_2; have hw108_1 := hx108_1; have hw108_0 := hx108_0; obtain rfl : ad107 = ad108 := (by injection e108)
   replace hx108_0 := (HB.out.cell (World.block_lt_of_cell? w _ hx108_0)).trans hx108_0; replace hx108_1 := (HB.out.cell (World.block_lt_of_cell? w _ hx108_1)).trans hx108_1; replace hx108_2 := (HB.out.cell (World.block_lt_of_cell? w _ hx108_2)).trans hx108_2; replace hx108_3 := (HB.out.cell (World.block_lt_of_cell? w _ hx108_3)).trans hx108_3; replace p108 := eq_true p108; replace q108 := eq_true q108; have p109 : 0 ≤ (a1 : Int) := of_decide_eq_true (by assumption)
   have q109 : a1 < (l0.length : Int) := of_decide_eq_true (by assumption)
   obtain ⟨ad109, e109, hx109_0, hx109_1, hx109_2, hx109_3⟩ := at_T97 HR0.out a1 p109 q109; have hw109_3 := hx109_3; have hw109_2 := hx109_2; have hw109_1 := hx109_1; have hw109_0 := hx109_0; obtain rfl : ad107 = ad109 := (by injection e109)
   replace hx109_0 := (HB.out.cell (World.block_lt_of_cell? w _ hx109_0)).trans hx109_0; replace hx109_1 := (HB.out.cell (World.block_lt_of_cell? w _ hx109_1)).trans hx109_1; replace hx109_2 := (HB.out.cell (World.block_lt_of_cell? w _ hx109_2)).trans hx109_2; replace hx109_3 := (HB.out.cell (World.block_lt_of_cell? w _ hx109_3)).trans hx109_3; replace p109 := eq_true p109; replace q109 := eq_true q109; refine start_ (n := 18) (S := fun w' => w'.cell? (ad107.add ((a1).toNat * 4)) = some (.int .i64 ((zax l0 a1).f0)) ∧ w'.cell? ⟨(ad107.add ((a1).toNat * 4)).block, (ad107.add ((a1).toNat * 4)).off + 1, none⟩ = some (.int .u8 ((zax l0 a1).f1)) ∧ w'.cell? ⟨(ad107.add ((a1).toNat * 4)).block, (ad107.add ((a1).toNat * 4)).off + 2, none⟩ = some (.int .u8 ((zax l0 a1).f2)) ∧ w'.cell? ⟨(ad107.add ((a1).toNat * 4)).block, (ad107.add ((a1).toNat * 4)).off + 3, none⟩ = some (.int .i64 ((zax l0 a1).f3)) ∧ w'.cell? (ad107.add ((a1).toNat * 4)) = some (.int .i64 ((zax l0 a1).f0)) ∧ w'.cell? ⟨(ad107.add ((a1).toNat * 4)).block, (ad107.add ((a1).toNat * 4)).off + 1, none⟩ = some (.int .u8 ((zax l0 a1).f1)) ∧ w'.cell? ⟨(ad107.add ((a1).toNat * 4)).block, (ad107.add ((a1).toNat * 4)).off + 2, none⟩ = some (.int .u8 ((zax l0 a1).f2)) ∧ w'.cell? ⟨(ad107.add ((a1).toNat * 4)).block, (ad107.add ((a1).toNat * 4)).off + 3, none⟩ = some (.int .i64 ((zax l0 a1).f3)) ∧ w'.cell? (ad107.add ((a1).toNat * 4)) = some (.int .i64 ((zax l0 a1).f0)) ∧ w'.cell? ⟨(ad107.add ((a1).toNat * 4)).block, (ad107.add ((a1).toNat * 4)).off + 1, none⟩ = some (.int .u8 ((zax l0 a1).f1)) ∧ w'.cell? ⟨(ad107.add ((a1).toNat * 4)).block, (ad107.add ((a1).toNat * 4)).off + 2, none⟩ = some (.int .u8 ((zax l0 a1).f2)) ∧ w'.cell? ⟨(ad107.add ((a1).toNat * 4)).block, (ad107.add ((a1).toNat * 4)).off + 3, none⟩ = some (.int .i64 ((zax l0 a1).f3))) (ds := []) #[false, false, false, false, false, false, false, false, false, false, false, false, false, false, false, false, false, false] (by kernel_rfl) rfl rfl ⟨((HB.out.cell (World.block_lt_of_cell? w _ hw107_0)).trans hw107_0), ((HB.out.cell (World.block_lt_of_cell? w _ hw107_1)).trans hw107_1), ((HB.out.cell (World.block_lt_of_cell? w _ hw107_2)).trans hw107_2), ((HB.out.cell (World.block_lt_of_cell? w _ hw107_3)).trans hw107_3), ((HB.out.cell (World.block_lt_of_cell? w _ hw108_0)).trans hw108_0), ((HB.out.cell (World.block_lt_of_cell? w _ hw108_1)).trans hw108_1), ((HB.out.cell (World.block_lt_of_cell? w _ hw108_2)).trans hw108_2), ((HB.out.cell (World.block_lt_of_cell? w _ hw108_3)).trans hw108_3), ((HB.out.cell (World.block_lt_of_cell? w _ hw109_0)).trans hw109_0), ((HB.out.cell (World.block_lt_of_cell? w _ hw109_1)).trans hw109_1), ((HB.out.cell (World.block_lt_of_cell? w _ hw109_2)).trans hw109_2), ((HB.out.cell (World.block_lt_of_cell? w _ hw109_3)).trans hw109_3)⟩ (fun hHeld => ?_); refine with_tabW zam.tab1 zam.bits1 (fun HT_ HW_ => ?_)
   generalize w5.drew = w6 at BK106 HB hx107_0 hx107_1 hx107_2 hx107_3 hx108_0 hx108_1 hx108_2 hx108_3 hx109_0 hx109_1 hx109_2 hx109_3 hHeld ⊢
   refine pure_ (i := 0) (N := some 10) (v := ?_) (a' := ?_) #[true, false, false, false, false, false, false, false, false, false, false, false, false, false, false, false, false, false] rfl rfl (zaH HT_.out (by kernel_rfl)) (fun _ _ _ h => h) (Or.inl ⟨by rfl, ?_⟩) ?_ ?_
   rotate_left
   ·intro w'
    go_simp
    with_reducible rfl
   rotate_left
   ·simp only [Act.put, zaj, i64_w, i32_w]
    rfl
   refine pure_ (i := 1) (N := some 11) (v := ?_) (a' := ?_) #[true, true, false, false, false, false, false, false, false, false, false, false, false, false, false, false, false, false] rfl rfl (zaH HT_.out (by kernel_rfl)) (fun _ _ _ h => h) (Or.inl ⟨by rfl, ?_⟩) ?_ ?_
   rotate_left
   ·intro w'
    go_simp
    with_reducible rfl
   rotate_left
   ·simp only [Act.put, zaj, i64_w, i32_w]
    rfl
   refine pure_ (i := 2) (N := some 12) (v := ?_) (a' := ?_) #[true, true, true, false, false, false, false, false, false, false, false, false, false, false, false, false, false, false] rfl rfl (zaH HT_.out (by kernel_rfl)) (fun _ _ _ h => h) (Or.inl ⟨by rfl, ?_⟩) ?_ ?_
   rotate_left
   ·intro w'
    go_simp
    with_reducible rfl
   rotate_left
   ·simp only [Act.put, zaj, i64_w, i32_w]
    rfl
   refine pure_ (i := 3) (N := some 13) (v := ?_) (a' := ?_) #[true, true, true, true, false, false, false, false, false, false, false, false, false, false, false, false, false, false] rfl rfl (zaH HT_.out (by kernel_rfl)) (fun _ _ _ h => h) (Or.inl ⟨by rfl, ?_⟩) ?_ ?_
   rotate_left
   ·intro w'
    go_simp
    with_reducible rfl
   rotate_left
   ·simp only [Act.put, zaj, i64_w, i32_w]
    rfl
   refine pure_ (i := 5) (N := some 15) (v := ?_) (a' := ?_) #[true, true, true, true, false, true, false, false, false, false, false, false, false, false, false, false, false, false] rfl rfl (zaH HT_.out (by kernel_rfl)) (fun _ _ _ h => h) (Or.inl ⟨by rfl, ?_⟩) ?_ ?_
   rotate_left
   ·intro w'
    go_simp
    with_reducible rfl
   rotate_left
   ·simp only [Act.put, zaj, i64_w, i32_w]
    rfl
   refine pure_ (i := 6) (N := some 16) (v := ?_) (a' := ?_) #[true, true, true, true, false, true, true, false, false, false, false, false, false, false, false, false, false, false] rfl rfl (zaH HT_.out (by kernel_rfl)) (fun _ _ _ h => h) (Or.inl ⟨by rfl, ?_⟩) ?_ ?_
   rotate_left
   ·intro w'
    go_simp
    with_reducible rfl
   rotate_left
   ·simp only [Act.put, zaj, i64_w, i32_w]
    rfl
   refine pure_ (i := 7) (N := some 17) (v := ?_) (a' := ?_) #[true, true, true, true, false, true, true, true, false, false, false, false, false, false, false, false, false, false] rfl rfl (zaH HT_.out (by kernel_rfl)) (fun _ _ _ h => h) (Or.inl ⟨by rfl, ?_⟩) ?_ ?_
   rotate_left
   ·intro w'
    go_simp
    with_reducible rfl
   rotate_left
   ·simp only [Act.put, zaj, i64_w, i32_w]
    rfl
   refine pure_ (i := 8) (N := some 18) (v := ?_) (a' := ?_) #[true, true, true, true, false, true, true, true, true, false, false, false, false, false, false, false, false, false] rfl rfl (zaH HT_.out (by kernel_rfl)) (fun _ _ _ h => h) (Or.inl ⟨by rfl, ?_⟩) ?_ ?_
   rotate_left
   ·intro w'
    go_simp
    with_reducible rfl
   rotate_left
   ·simp only [Act.put, zaj, i64_w, i32_w]
    rfl
   refine pure_ (i := 10) (N := some 20) (v := ?_) (a' := ?_) #[true, true, true, true, false, true, true, true, true, false, true, false, false, false, false, false, false, false] rfl rfl (zaH HT_.out (by kernel_rfl)) (fun _ _ _ h => h) (Or.inl ⟨by rfl, ?_⟩) ?_ ?_
   rotate_left
   ·intro w'
    go_simp
    with_reducible rfl
   rotate_left
   ·simp only [Act.put, zaj, i64_w, i32_w]
    rfl
   refine pure_ (i := 11) (N := some 21) (v := ?_) (a' := ?_) #[true, true, true, true, false, true, true, true, true, false, true, true, false, false, false, false, false, false] rfl rfl (zaH HT_.out (by kernel_rfl)) (fun _ _ _ h => h) (Or.inl ⟨by rfl, ?_⟩) ?_ ?_
   rotate_left
   ·intro w'
    go_simp
    with_reducible rfl
   rotate_left
   ·simp only [Act.put, zaj, i64_w, i32_w]
    rfl
   refine pure_ (i := 12) (N := some 22) (v := ?_) (a' := ?_) #[true, true, true, true, false, true, true, true, true, false, true, true, true, false, false, false, false, false] rfl rfl (zaH HT_.out (by kernel_rfl)) (fun _ _ _ h => h) (Or.inl ⟨by rfl, ?_⟩) ?_ ?_
   rotate_left
   ·intro w'
    go_simp
    with_reducible rfl
   rotate_left
   ·simp only [Act.put, zaj, i64_w, i32_w]
    rfl
   refine pure_ (i := 13) (N := some 23) (v := ?_) (a' := ?_) #[true, true, true, true, false, true, true, true, true, false, true, true, true, true, false, false, false, false] rfl rfl (zaH HT_.out (by kernel_rfl)) (fun _ _ _ h => h) (Or.inl ⟨by rfl, ?_⟩) ?_ ?_
   rotate_left
   ·intro w'
    go_simp
    with_reducible rfl
   rotate_left
   ·simp only [Act.put, zaj, i64_w, i32_w]
    rfl
   refine take_ (i := 4) (N := some 14) (v := ?_) (a' := ?_) #[true, true, true, true, true, true, true, true, true, false, true, true, true, true, false, false, false, false] rfl rfl (take_ofW HT_.out HW_.out (by kernel_rfl)) (fun _ _ _ h => h) (Or.inl ⟨by rfl, ?_⟩) hHeld ?_ ?_
   rotate_left
   ·rintro w' ⟨s0, s1, s2, s3, s4, s5, s6, s7, s8, s9, s10, s11⟩
    go_simp
    with_reducible rfl
   rotate_left
   ·simp only [Act.put, zaj, i64_w, i32_w]
    rfl
   refine take_ (i := 9) (N := some 19) (v := ?_) (a' := ?_) #[true, true, true, true, true, true, true, true, true, true, true, true, true, true, false, false, false, false] rfl rfl (take_ofW HT_.out HW_.out (by kernel_rfl)) (fun _ _ _ h => h) (Or.inl ⟨by rfl, ?_⟩) hHeld ?_ ?_
   rotate_left
   ·rintro w' ⟨s0, s1, s2, s3, s4, s5, s6, s7, s8, s9, s10, s11⟩
    go_simp
    with_reducible rfl
   rotate_left
   ·simp only [Act.put, zaj, i64_w, i32_w]
    rfl
   refine take_ (i := 14) (N := some 24) (v := ?_) (a' := ?_) #[true, true, true, true, true, true, true, true, true, true, true, true, true, true, true, false, false, false] rfl rfl (take_ofW HT_.out HW_.out (by kernel_rfl)) (fun _ _ _ h => h) (Or.inl ⟨by rfl, ?_⟩) hHeld ?_ ?_
   rotate_left
   ·rintro w' ⟨s0, s1, s2, s3, s4, s5, s6, s7, s8, s9, s10, s11⟩
    go_simp
    with_reducible rfl
   rotate_left
   ·simp only [Act.put, zaj, i64_w, i32_w]
    rfl
   refine pure_ (i := 15) (N := some 25) (v := ?_) (a' := ?_) #[true, true, true, true, true, true, true, true, true, true, true, true, true, true, true, true, false, false] rfl rfl (zaH HT_.out (by kernel_rfl)) (fun _ _ _ h => h) (Or.inl ⟨by rfl, ?_⟩) ?_ ?_
   rotate_left
   ·intro w'
    go_simp
    with_reducible rfl
   rotate_left
   ·simp only [Act.put, zaj, i64_w, i32_w]
    rfl
   refine one_ (i := 16) (N := some 6) #[true, true, true, true, true, true, true, true, true, true, true, true, true, true, true, true, true, false] rfl rfl (one_of HT_.out (by kernel_rfl)) (by decide) (fun K hK => ?_)
   refine box_step ?hg (N := 6) ?hd (cs := #[.int .u8 0, .int .u8 0, .int .i64 0, .slice none 0 0]) (t := 24) ?hr ?_; (case hd => rfl); (case hg => rfl); (case hr => first | (go_simp; done) | (go_simp; rfl))
   intro gb110 hg w7 hbox hb
   have n0_ := zaa.mk (zat (g := gb106) (o := .cells #[.int .u8 0, .int .u8 0, .int .i64 0, .slice none 0 0] 24 (0, 0)) (by (with_reducible repeat (first | refine zan ?_ _ | refine zaq ?_ | refine zao ?_ _)); exact BK106.out) hb)
   have n1_ := zaa.mk (zal (by repeat (first | (with_reducible first | exact HB.out | apply zac | apply zad | apply zah | refine zar ?_ GE106.out) | exact HB.out)) hb)
   have n2_ := zaa.mk (hbox); have n3_ := zaa.mk ((by rw [hg]; exact (zas (by repeat (first | (with_reducible first | exact HB.out | apply zac | apply zad | apply zah | refine zar ?_ GE106.out) | exact HB.out))) : w.heap.size ≤ gb110))
   have n4_ := zaa.mk ((by rw [hg]; exact (zas (by repeat (first | (with_reducible first | exact HB.out | apply zac | apply zad | apply zah | refine zar ?_ GE106.out) | exact HB.out))) : w.heap.size ≤ gb110))
   have n5_ := zaa.mk ((by rw [hg]; exact Nat.ne_of_lt (zau (g := gb106) (o := .cells #[.int .u8 0, .int .u8 0, .int .i64 0, .slice none 0 0] 24 (0, 0)) (by (with_reducible repeat (first | refine zan ?_ _ | refine zaq ?_ | refine zao ?_ _)); exact BK106.out)) : gb106 ≠ gb110))
   have n6_ := zaa.mk ((by rw [hg]; exact Nat.ne_of_gt (zau (g := gb106) (o := .cells #[.int .u8 0, .int .u8 0, .int .i64 0, .slice none 0 0] 24 (0, 0)) (by (with_reducible repeat (first | refine zan ?_ _ | refine zaq ?_ | refine zao ?_ _)); exact BK106.out)) : gb110 ≠ gb106))
   clear BK106; clear HB; have BK106 := n0_; have HB := n1_; have BK110 := n2_; have GW110 := n3_; have GE110 := n4_; have NB106_110 := n5_; have NB110_106 := n6_; clear n0_ n1_ n2_ n3_ n4_ n5_ n6_; clear hb hbox hg; refine hK.out _ _ ⟨((HB.out.cell (World.block_lt_of_cell? w _ hw107_0)).trans hw107_0), ((HB.out.cell (World.block_lt_of_cell? w _ hw107_1)).trans hw107_1), ((HB.out.cell (World.block_lt_of_cell? w _ hw107_2)).trans hw107_2), ((HB.out.cell (World.block_lt_of_cell? w _ hw107_3)).trans hw107_3), ((HB.out.cell (World.block_lt_of_cell? w _ hw108_0)).trans hw108_0), ((HB.out.cell (World.block_lt_of_cell? w _ hw108_1)).trans hw108_1), ((HB.out.cell (World.block_lt_of_cell? w _ hw108_2)).trans hw108_2), ((HB.out.cell (World.block_lt_of_cell? w _ hw108_3)).trans hw108_3), ((HB.out.cell (World.block_lt_of_cell? w _ hw109_0)).trans hw109_0), ((HB.out.cell (World.block_lt_of_cell? w _ hw109_1)).trans hw109_1), ((HB.out.cell (World.block_lt_of_cell? w _ hw109_2)).trans hw109_2), ((HB.out.cell (World.block_lt_of_cell? w _ hw109_3)).trans hw109_3)⟩ (fun hHeld => ?_)
   clear hK K; refine norm_ (a' := ?_) ?_ ?_
   rotate_left
   ·show Act.put _ (some 6) _ = _
    simp only [Act.put, zaj, i64_w, i32_w]
    rfl
   refine one_ (i := 17) (N := none) #[true, true, true, true, true, true, true, true, true, true, true, true, true, true, true, true, true, true] rfl rfl (one_of HT_.out (by kernel_rfl)) (by decide) (fun K hK => ?_)
   have hs8 : w7.cell? ⟨gb110, 0, none⟩ = some (.int .u8 0) := (zab BK110.out 0).trans rfl; have hfs8 := zae BK110.out 0; have hns8_0 := NB106_110.out; have hms8_0 := NB110_106.out; have hs9 : w7.cell? ⟨gb110, 1, none⟩ = some (.int .u8 0) := (zab BK110.out 1).trans rfl; have hfs9 := zae BK110.out 1; have hns9_0 := NB106_110.out; have hms9_0 := NB110_106.out; have hs10 : w7.cell? ⟨gb110, 2, none⟩ = some (.int .i64 0) := (zab BK110.out 2).trans rfl; have hfs10 := zae BK110.out 2; have hns10_0 := NB106_110.out; have hms10_0 := NB110_106.out; have hs11 : w7.cell? ⟨gb110, 3, none⟩ = some (.slice none 0 0) := (zab BK110.out 3).trans rfl; have hfs11 := zae BK110.out 3; have hns11_0 := NB106_110.out; have hms11_0 := NB110_106.out; refine skip_ (w1 := ?_) (by rfl) rfl ?_ ?_
   rotate_left
   ·go_simp
    rfl
   refine hK.out _ _ ⟨((zaA (p := ⟨gb110, _, none⟩) (by first | exact Nat.ne_of_lt (Nat.lt_of_lt_of_le (by have := World.block_lt_of_cell? _ _ hw107_0; first | rwa [zaf] at this | exact this) GW110.out) | (rw [zaf]; exact Nat.ne_of_lt (Nat.lt_of_lt_of_le (by have := World.block_lt_of_cell? _ _ hw107_0; first | rwa [zaf] at this | exact this) GW110.out)) | (show (Addr.add _ _).block ≠ _; rw [zaf]; exact Nat.ne_of_lt (Nat.lt_of_lt_of_le (by have := World.block_lt_of_cell? _ _ hw107_0; first | rwa [zaf] at this | exact this) GW110.out)) | (dsimp only; exact Nat.ne_of_lt (Nat.lt_of_lt_of_le (by have := World.block_lt_of_cell? _ _ hw107_0; first | rwa [zaf] at this | exact this) GW110.out))) _).trans (((zaA (p := ⟨gb110, _, none⟩) (by first | exact Nat.ne_of_lt (Nat.lt_of_lt_of_le (by have := World.block_lt_of_cell? _ _ hw107_0; first | rwa [zaf] at this | exact this) GW110.out) | (rw [zaf]; exact Nat.ne_of_lt (Nat.lt_of_lt_of_le (by have := World.block_lt_of_cell? _ _ hw107_0; first | rwa [zaf] at this | exact this) GW110.out)) | (show (Addr.add _ _).block ≠ _; rw [zaf]; exact Nat.ne_of_lt (Nat.lt_of_lt_of_le (by have := World.block_lt_of_cell? _ _ hw107_0; first | rwa [zaf] at this | exact this) GW110.out)) | (dsimp only; exact Nat.ne_of_lt (Nat.lt_of_lt_of_le (by have := World.block_lt_of_cell? _ _ hw107_0; first | rwa [zaf] at this | exact this) GW110.out))) _).trans (((zaA (p := ⟨gb110, _, none⟩) (by first | exact Nat.ne_of_lt (Nat.lt_of_lt_of_le (by have := World.block_lt_of_cell? _ _ hw107_0; first | rwa [zaf] at this | exact this) GW110.out) | (rw [zaf]; exact Nat.ne_of_lt (Nat.lt_of_lt_of_le (by have := World.block_lt_of_cell? _ _ hw107_0; first | rwa [zaf] at this | exact this) GW110.out)) | (show (Addr.add _ _).block ≠ _; rw [zaf]; exact Nat.ne_of_lt (Nat.lt_of_lt_of_le (by have := World.block_lt_of_cell? _ _ hw107_0; first | rwa [zaf] at this | exact this) GW110.out)) | (dsimp only; exact Nat.ne_of_lt (Nat.lt_of_lt_of_le (by have := World.block_lt_of_cell? _ _ hw107_0; first | rwa [zaf] at this | exact this) GW110.out))) _).trans (((zaA (p := ⟨gb110, _, none⟩) (by first | exact Nat.ne_of_lt (Nat.lt_of_lt_of_le (by have := World.block_lt_of_cell? _ _ hw107_0; first | rwa [zaf] at this | exact this) GW110.out) | (rw [zaf]; exact Nat.ne_of_lt (Nat.lt_of_lt_of_le (by have := World.block_lt_of_cell? _ _ hw107_0; first | rwa [zaf] at this | exact this) GW110.out)) | (show (Addr.add _ _).block ≠ _; rw [zaf]; exact Nat.ne_of_lt (Nat.lt_of_lt_of_le (by have := World.block_lt_of_cell? _ _ hw107_0; first | rwa [zaf] at this | exact this) GW110.out)) | (dsimp only; exact Nat.ne_of_lt (Nat.lt_of_lt_of_le (by have := World.block_lt_of_cell? _ _ hw107_0; first | rwa [zaf] at this | exact this) GW110.out))) _).trans (hHeld.1)))))))), ((zaA (p := ⟨gb110, _, none⟩) (by first | exact Nat.ne_of_lt (Nat.lt_of_lt_of_le (by have := World.block_lt_of_cell? _ _ hw107_1; first | rwa [zaf] at this | exact this) GW110.out) | (rw [zaf]; exact Nat.ne_of_lt (Nat.lt_of_lt_of_le (by have := World.block_lt_of_cell? _ _ hw107_1; first | rwa [zaf] at this | exact this) GW110.out)) | (show (Addr.add _ _).block ≠ _; rw [zaf]; exact Nat.ne_of_lt (Nat.lt_of_lt_of_le (by have := World.block_lt_of_cell? _ _ hw107_1; first | rwa [zaf] at this | exact this) GW110.out)) | (dsimp only; exact Nat.ne_of_lt (Nat.lt_of_lt_of_le (by have := World.block_lt_of_cell? _ _ hw107_1; first | rwa [zaf] at this | exact this) GW110.out))) _).trans (((zaA (p := ⟨gb110, _, none⟩) (by first | exact Nat.ne_of_lt (Nat.lt_of_lt_of_le (by have := World.block_lt_of_cell? _ _ hw107_1; first | rwa [zaf] at this | exact this) GW110.out) | (rw [zaf]; exact Nat.ne_of_lt (Nat.lt_of_lt_of_le (by have := World.block_lt_of_cell? _ _ hw107_1; first | rwa [zaf] at this | exact this) GW110.out)) | (show (Addr.add _ _).block ≠ _; rw [zaf]; exact Nat.ne_of_lt (Nat.lt_of_lt_of_le (by have := World.block_lt_of_cell? _ _ hw107_1; first | rwa [zaf] at this | exact this) GW110.out)) | (dsimp only; exact Nat.ne_of_lt (Nat.lt_of_lt_of_le (by have := World.block_lt_of_cell? _ _ hw107_1; first | rwa [zaf] at this | exact this) GW110.out))) _).trans (((zaA (p := ⟨gb110, _, none⟩) (by first | exact Nat.ne_of_lt (Nat.lt_of_lt_of_le (by have := World.block_lt_of_cell? _ _ hw107_1; first | rwa [zaf] at this | exact this) GW110.out) | (rw [zaf]; exact Nat.ne_of_lt (Nat.lt_of_lt_of_le (by have := World.block_lt_of_cell? _ _ hw107_1; first | rwa [zaf] at this | exact this) GW110.out)) | (show (Addr.add _ _).block ≠ _; rw [zaf]; exact Nat.ne_of_lt (Nat.lt_of_lt_of_le (by have := World.block_lt_of_cell? _ _ hw107_1; first | rwa [zaf] at this | exact this) GW110.out)) | (dsimp only; exact Nat.ne_of_lt (Nat.lt_of_lt_of_le (by have := World.block_lt_of_cell? _ _ hw107_1; first | rwa [zaf] at this | exact this) GW110.out))) _).trans (((zaA (p := ⟨gb110, _, none⟩) (by first | exact Nat.ne_of_lt (Nat.lt_of_lt_of_le (by have := World.block_lt_of_cell? _ _ hw107_1; first | rwa [zaf] at this | exact this) GW110.out) | (rw [zaf]; exact Nat.ne_of_lt (Nat.lt_of_lt_of_le (by have := World.block_lt_of_cell? _ _ hw107_1; first | rwa [zaf] at this | exact this) GW110.out)) | (show (Addr.add _ _).block ≠ _; rw [zaf]; exact Nat.ne_of_lt (Nat.lt_of_lt_of_le (by have := World.block_lt_of_cell? _ _ hw107_1; first | rwa [zaf] at this | exact this) GW110.out)) | (dsimp only; exact Nat.ne_of_lt (Nat.lt_of_lt_of_le (by have := World.block_lt_of_cell? _ _ hw107_1; first | rwa [zaf] at this | exact this) GW110.out))) _).trans (hHeld.2.1)))))))), ((zaA (p := ⟨gb110, _, none⟩) (by first | exact Nat.ne_of_lt (Nat.lt_of_lt_of_le (by have := World.block_lt_of_cell? _ _ hw107_2; first | rwa [zaf] at this | exact this) GW110.out) | (rw [zaf]; exact Nat.ne_of_lt (Nat.lt_of_lt_of_le (by have := World.block_lt_of_cell? _ _ hw107_2; first | rwa [zaf] at this | exact this) GW110.out)) | (show (Addr.add _ _).block ≠ _; rw [zaf]; exact Nat.ne_of_lt (Nat.lt_of_lt_of_le (by have := World.block_lt_of_cell? _ _ hw107_2; first | rwa [zaf] at this | exact this) GW110.out)) | (dsimp only; exact Nat.ne_of_lt (Nat.lt_of_lt_of_le (by have := World.block_lt_of_cell? _ _ hw107_2; first | rwa [zaf] at this | exact this) GW110.out))) _).trans (((zaA (p := ⟨gb110, _, none⟩) (by first | exact Nat.ne_of_lt (Nat.lt_of_lt_of_le (by have := World.block_lt_of_cell? _ _ hw107_2; first | rwa [zaf] at this | exact this) GW110.out) | (rw [zaf]; exact Nat.ne_of_lt (Nat.lt_of_lt_of_le (by have := World.block_lt_of_cell? _ _ hw107_2; first | rwa [zaf] at this | exact this) GW110.out)) | (show (Addr.add _ _).block ≠ _; rw [zaf]; exact Nat.ne_of_lt (Nat.lt_of_lt_of_le (by have := World.block_lt_of_cell? _ _ hw107_2; first | rwa [zaf] at this | exact this) GW110.out)) | (dsimp only; exact Nat.ne_of_lt (Nat.lt_of_lt_of_le (by have := World.block_lt_of_cell? _ _ hw107_2; first | rwa [zaf] at this | exact this) GW110.out))) _).trans (((zaA (p := ⟨gb110, _, none⟩) (by first | exact Nat.ne_of_lt (Nat.lt_of_lt_of_le (by have := World.block_lt_of_cell? _ _ hw107_2; first | rwa [zaf] at this | exact this) GW110.out) | (rw [zaf]; exact Nat.ne_of_lt (Nat.lt_of_lt_of_le (by have := World.block_lt_of_cell? _ _ hw107_2; first | rwa [zaf] at this | exact this) GW110.out)) | (show (Addr.add _ _).block ≠ _; rw [zaf]; exact Nat.ne_of_lt (Nat.lt_of_lt_of_le (by have := World.block_lt_of_cell? _ _ hw107_2; first | rwa [zaf] at this | exact this) GW110.out)) | (dsimp only; exact Nat.ne_of_lt (Nat.lt_of_lt_of_le (by have := World.block_lt_of_cell? _ _ hw107_2; first | rwa [zaf] at this | exact this) GW110.out))) _).trans (((zaA (p := ⟨gb110, _, none⟩) (by first | exact Nat.ne_of_lt (Nat.lt_of_lt_of_le (by have := World.block_lt_of_cell? _ _ hw107_2; first | rwa [zaf] at this | exact this) GW110.out) | (rw [zaf]; exact Nat.ne_of_lt (Nat.lt_of_lt_of_le (by have := World.block_lt_of_cell? _ _ hw107_2; first | rwa [zaf] at this | exact this) GW110.out)) | (show (Addr.add _ _).block ≠ _; rw [zaf]; exact Nat.ne_of_lt (Nat.lt_of_lt_of_le (by have := World.block_lt_of_cell? _ _ hw107_2; first | rwa [zaf] at this | exact this) GW110.out)) | (dsimp only; exact Nat.ne_of_lt (Nat.lt_of_lt_of_le (by have := World.block_lt_of_cell? _ _ hw107_2; first | rwa [zaf] at this | exact this) GW110.out))) _).trans (hHeld.2.2.1)))))))), ((zaA (p := ⟨gb110, _, none⟩) (by first | exact Nat.ne_of_lt (Nat.lt_of_lt_of_le (by have := World.block_lt_of_cell? _ _ hw107_3; first | rwa [zaf] at this | exact this) GW110.out) | (rw [zaf]; exact Nat.ne_of_lt (Nat.lt_of_lt_of_le (by have := World.block_lt_of_cell? _ _ hw107_3; first | rwa [zaf] at this | exact this) GW110.out)) | (show (Addr.add _ _).block ≠ _; rw [zaf]; exact Nat.ne_of_lt (Nat.lt_of_lt_of_le (by have := World.block_lt_of_cell? _ _ hw107_3; first | rwa [zaf] at this | exact this) GW110.out)) | (dsimp only; exact Nat.ne_of_lt (Nat.lt_of_lt_of_le (by have := World.block_lt_of_cell? _ _ hw107_3; first | rwa [zaf] at this | exact this) GW110.out))) _).trans (((zaA (p := ⟨gb110, _, none⟩) (by first | exact Nat.ne_of_lt (Nat.lt_of_lt_of_le (by have := World.block_lt_of_cell? _ _ hw107_3; first | rwa [zaf] at this | exact this) GW110.out) | (rw [zaf]; exact Nat.ne_of_lt (Nat.lt_of_lt_of_le (by have := World.block_lt_of_cell? _ _ hw107_3; first | rwa [zaf] at this | exact this) GW110.out)) | (show (Addr.add _ _).block ≠ _; rw [zaf]; exact Nat.ne_of_lt (Nat.lt_of_lt_of_le (by have := World.block_lt_of_cell? _ _ hw107_3; first | rwa [zaf] at this | exact this) GW110.out)) | (dsimp only; exact Nat.ne_of_lt (Nat.lt_of_lt_of_le (by have := World.block_lt_of_cell? _ _ hw107_3; first | rwa [zaf] at this | exact this) GW110.out))) _).trans (((zaA (p := ⟨gb110, _, none⟩) (by first | exact Nat.ne_of_lt (Nat.lt_of_lt_of_le (by have := World.block_lt_of_cell? _ _ hw107_3; first | rwa [zaf] at this | exact this) GW110.out) | (rw [zaf]; exact Nat.ne_of_lt (Nat.lt_of_lt_of_le (by have := World.block_lt_of_cell? _ _ hw107_3; first | rwa [zaf] at this | exact this) GW110.out)) | (show (Addr.add _ _).block ≠ _; rw [zaf]; exact Nat.ne_of_lt (Nat.lt_of_lt_of_le (by have := World.block_lt_of_cell? _ _ hw107_3; first | rwa [zaf] at this | exact this) GW110.out)) | (dsimp only; exact Nat.ne_of_lt (Nat.lt_of_lt_of_le (by have := World.block_lt_of_cell? _ _ hw107_3; first | rwa [zaf] at this | exact this) GW110.out))) _).trans (((zaA (p := ⟨gb110, _, none⟩) (by first | exact Nat.ne_of_lt (Nat.lt_of_lt_of_le (by have := World.block_lt_of_cell? _ _ hw107_3; first | rwa [zaf] at this | exact this) GW110.out) | (rw [zaf]; exact Nat.ne_of_lt (Nat.lt_of_lt_of_le (by have := World.block_lt_of_cell? _ _ hw107_3; first | rwa [zaf] at this | exact this) GW110.out)) | (show (Addr.add _ _).block ≠ _; rw [zaf]; exact Nat.ne_of_lt (Nat.lt_of_lt_of_le (by have := World.block_lt_of_cell? _ _ hw107_3; first | rwa [zaf] at this | exact this) GW110.out)) | (dsimp only; exact Nat.ne_of_lt (Nat.lt_of_lt_of_le (by have := World.block_lt_of_cell? _ _ hw107_3; first | rwa [zaf] at this | exact this) GW110.out))) _).trans (hHeld.2.2.2.1)))))))), ((zaA (p := ⟨gb110, _, none⟩) (by first | exact Nat.ne_of_lt (Nat.lt_of_lt_of_le (by have := World.block_lt_of_cell? _ _ hw108_0; first | rwa [zaf] at this | exact this) GW110.out) | (rw [zaf]; exact Nat.ne_of_lt (Nat.lt_of_lt_of_le (by have := World.block_lt_of_cell? _ _ hw108_0; first | rwa [zaf] at this | exact this) GW110.out)) | (show (Addr.add _ _).block ≠ _; rw [zaf]; exact Nat.ne_of_lt (Nat.lt_of_lt_of_le (by have := World.block_lt_of_cell? _ _ hw108_0; first | rwa [zaf] at this | exact this) GW110.out)) | (dsimp only; exact Nat.ne_of_lt (Nat.lt_of_lt_of_le (by have := World.block_lt_of_cell? _ _ hw108_0; first | rwa [zaf] at this | exact this) GW110.out))) _).trans (((zaA (p := ⟨gb110, _, none⟩) (by first | exact Nat.ne_of_lt (Nat.lt_of_lt_of_le (by have := World.block_lt_of_cell? _ _ hw108_0; first | rwa [zaf] at this | exact this) GW110.out) | (rw [zaf]; exact Nat.ne_of_lt (Nat.lt_of_lt_of_le (by have := World.block_lt_of_cell? _ _ hw108_0; first | rwa [zaf] at this | exact this) GW110.out)) | (show (Addr.add _ _).block ≠ _; rw [zaf]; exact Nat.ne_of_lt (Nat.lt_of_lt_of_le (by have := World.block_lt_of_cell? _ _ hw108_0; first | rwa [zaf] at this | exact this) GW110.out)) | (dsimp only; exact Nat.ne_of_lt (Nat.lt_of_lt_of_le (by have := World.block_lt_of_cell? _ _ hw108_0; first | rwa [zaf] at this | exact this) GW110.out))) _).trans (((zaA (p := ⟨gb110, _, none⟩) (by first | exact Nat.ne_of_lt (Nat.lt_of_lt_of_le (by have := World.block_lt_of_cell? _ _ hw108_0; first | rwa [zaf] at this | exact this) GW110.out) | (rw [zaf]; exact Nat.ne_of_lt (Nat.lt_of_lt_of_le (by have := World.block_lt_of_cell? _ _ hw108_0; first | rwa [zaf] at this | exact this) GW110.out)) | (show (Addr.add _ _).block ≠ _; rw [zaf]; exact Nat.ne_of_lt (Nat.lt_of_lt_of_le (by have := World.block_lt_of_cell? _ _ hw108_0; first | rwa [zaf] at this | exact this) GW110.out)) | (dsimp only; exact Nat.ne_of_lt (Nat.lt_of_lt_of_le (by have := World.block_lt_of_cell? _ _ hw108_0; first | rwa [zaf] at this | exact this) GW110.out))) _).trans (((zaA (p := ⟨gb110, _, none⟩) (by first | exact Nat.ne_of_lt (Nat.lt_of_lt_of_le (by have := World.block_lt_of_cell? _ _ hw108_0; first | rwa [zaf] at this | exact this) GW110.out) | (rw [zaf]; exact Nat.ne_of_lt (Nat.lt_of_lt_of_le (by have := World.block_lt_of_cell? _ _ hw108_0; first | rwa [zaf] at this | exact this) GW110.out)) | (show (Addr.add _ _).block ≠ _; rw [zaf]; exact Nat.ne_of_lt (Nat.lt_of_lt_of_le (by have := World.block_lt_of_cell? _ _ hw108_0; first | rwa [zaf] at this | exact this) GW110.out)) | (dsimp only; exact Nat.ne_of_lt (Nat.lt_of_lt_of_le (by have := World.block_lt_of_cell? _ _ hw108_0; first | rwa [zaf] at this | exact this) GW110.out))) _).trans (hHeld.2.2.2.2.1)))))))), ((zaA (p := ⟨gb110, _, none⟩) (by first | exact Nat.ne_of_lt (Nat.lt_of_lt_of_le (by have := World.block_lt_of_cell? _ _ hw108_1; first | rwa [zaf] at this | exact this) GW110.out) | (rw [zaf]; exact Nat.ne_of_lt (Nat.lt_of_lt_of_le (by have := World.block_lt_of_cell? _ _ hw108_1; first | rwa [zaf] at this | exact this) GW110.out)) | (show (Addr.add _ _).block ≠ _; rw [zaf]; exact Nat.ne_of_lt (Nat.lt_of_lt_of_le (by have := World.block_lt_of_cell? _ _ hw108_1; first | rwa [zaf] at this | exact this) GW110.out)) | (dsimp only; exact Nat.ne_of_lt (Nat.lt_of_lt_of_le (by have := World.block_lt_of_cell? _ _ hw108_1; first | rwa [zaf] at this | exact this) GW110.out))) _).trans (((zaA (p := ⟨gb110, _, none⟩) (by first | exact Nat.ne_of_lt (Nat.lt_of_lt_of_le (by have := World.block_lt_of_cell? _ _ hw108_1; first | rwa [zaf] at this | exact this) GW110.out) | (rw [zaf]; exact Nat.ne_of_lt (Nat.lt_of_lt_of_le (by have := World.block_lt_of_cell? _ _ hw108_1; first | rwa [zaf] at this | exact this) GW110.out)) | (show (Addr.add _ _).block ≠ _; rw [zaf]; exact Nat.ne_of_lt (Nat.lt_of_lt_of_le (by have := World.block_lt_of_cell? _ _ hw108_1; first | rwa [zaf] at this | exact this) GW110.out)) | (dsimp only; exact Nat.ne_of_lt (Nat.lt_of_lt_of_le (by have := World.block_lt_of_cell? _ _ hw108_1; first | rwa [zaf] at this | exact this) GW110.out))) _).trans (((zaA (p := ⟨gb110, _, none⟩) (by first | exact Nat.ne_of_lt (Nat.lt_of_lt_of_le (by have := World.block_lt_of_cell? _ _ hw108_1; first | rwa [zaf] at this | exact this) GW110.out) | (rw [zaf]; exact Nat.ne_of_lt (Nat.lt_of_lt_of_le (by have := World.block_lt_of_cell? _ _ hw108_1; first | rwa [zaf] at this | exact this) GW110.out)) | (show (Addr.add _ _).block ≠ _; rw [zaf]; exact Nat.ne_of_lt (Nat.lt_of_lt_of_le (by have := World.block_lt_of_cell? _ _ hw108_1; first | rwa [zaf] at this | exact this) GW110.out)) | (dsimp only; exact Nat.ne_of_lt (Nat.lt_of_lt_of_le (by have := World.block_lt_of_cell? _ _ hw108_1; first | rwa [zaf] at this | exact this) GW110.out))) _).trans (((zaA (p := ⟨gb110, _, none⟩) (by first | exact Nat.ne_of_lt (Nat.lt_of_lt_of_le (by have := World.block_lt_of_cell? _ _ hw108_1; first | rwa [zaf] at this | exact this) GW110.out) | (rw [zaf]; exact Nat.ne_of_lt (Nat.lt_of_lt_of_le (by have := World.block_lt_of_cell? _ _ hw108_1; first | rwa [zaf] at this | exact this) GW110.out)) | (show (Addr.add _ _).block ≠ _; rw [zaf]; exact Nat.ne_of_lt (Nat.lt_of_lt_of_le (by have := World.block_lt_of_cell? _ _ hw108_1; first | rwa [zaf] at this | exact this) GW110.out)) | (dsimp only; exact Nat.ne_of_lt (Nat.lt_of_lt_of_le (by have := World.block_lt_of_cell? _ _ hw108_1; first | rwa [zaf] at this | exact this) GW110.out))) _).trans (hHeld.2.2.2.2.2.1)))))))), ((zaA (p := ⟨gb110, _, none⟩) (by first | exact Nat.ne_of_lt (Nat.lt_of_lt_of_le (by have := World.block_lt_of_cell? _ _ hw108_2; first | rwa [zaf] at this | exact this) GW110.out) | (rw [zaf]; exact Nat.ne_of_lt (Nat.lt_of_lt_of_le (by have := World.block_lt_of_cell? _ _ hw108_2; first | rwa [zaf] at this | exact this) GW110.out)) | (show (Addr.add _ _).block ≠ _; rw [zaf]; exact Nat.ne_of_lt (Nat.lt_of_lt_of_le (by have := World.block_lt_of_cell? _ _ hw108_2; first | rwa [zaf] at this | exact this) GW110.out)) | (dsimp only; exact Nat.ne_of_lt (Nat.lt_of_lt_of_le (by have := World.block_lt_of_cell? _ _ hw108_2; first | rwa [zaf] at this | exact this) GW110.out))) _).trans (((zaA (p := ⟨gb110, _, none⟩) (by first | exact Nat.ne_of_lt (Nat.lt_of_lt_of_le (by have := World.block_lt_of_cell? _ _ hw108_2; first | rwa [zaf] at this | exact this) GW110.out) | (rw [zaf]; exact Nat.ne_of_lt (Nat.lt_of_lt_of_le (by have := World.block_lt_of_cell? _ _ hw108_2; first | rwa [zaf] at this | exact this) GW110.out)) | (show (Addr.add _ _).block ≠ _; rw [zaf]; exact Nat.ne_of_lt (Nat.lt_of_lt_of_le (by have := World.block_lt_of_cell? _ _ hw108_2; first | rwa [zaf] at this | exact this) GW110.out)) | (dsimp only; exact Nat.ne_of_lt (Nat.lt_of_lt_of_le (by have := World.block_lt_of_cell? _ _ hw108_2; first | rwa [zaf] at this | exact this) GW110.out))) _).trans (((zaA (p := ⟨gb110, _, none⟩) (by first | exact Nat.ne_of_lt (Nat.lt_of_lt_of_le (by have := World.block_lt_of_cell? _ _ hw108_2; first | rwa [zaf] at this | exact this) GW110.out) | (rw [zaf]; exact Nat.ne_of_lt (Nat.lt_of_lt_of_le (by have := World.block_lt_of_cell? _ _ hw108_2; first | rwa [zaf] at this | exact this) GW110.out)) | (show (Addr.add _ _).block ≠ _; rw [zaf]; exact Nat.ne_of_lt (Nat.lt_of_lt_of_le (by have := World.block_lt_of_cell? _ _ hw108_2; first | rwa [zaf] at this | exact this) GW110.out)) | (dsimp only; exact Nat.ne_of_lt (Nat.lt_of_lt_of_le (by have := World.block_lt_of_cell? _ _ hw108_2; first | rwa [zaf] at this | exact this) GW110.out))) _).trans (((zaA (p := ⟨gb110, _, none⟩) (by first | exact Nat.ne_of_lt (Nat.lt_of_lt_of_le (by have := World.block_lt_of_cell? _ _ hw108_2; first | rwa [zaf] at this | exact this) GW110.out) | (rw [zaf]; exact Nat.ne_of_lt (Nat.lt_of_lt_of_le (by have := World.block_lt_of_cell? _ _ hw108_2; first | rwa [zaf] at this | exact this) GW110.out)) | (show (Addr.add _ _).block ≠ _; rw [zaf]; exact Nat.ne_of_lt (Nat.lt_of_lt_of_le (by have := World.block_lt_of_cell? _ _ hw108_2; first | rwa [zaf] at this | exact this) GW110.out)) | (dsimp only; exact Nat.ne_of_lt (Nat.lt_of_lt_of_le (by have := World.block_lt_of_cell? _ _ hw108_2; first | rwa [zaf] at this | exact this) GW110.out))) _).trans (hHeld.2.2.2.2.2.2.1)))))))), ((zaA (p := ⟨gb110, _, none⟩) (by first | exact Nat.ne_of_lt (Nat.lt_of_lt_of_le (by have := World.block_lt_of_cell? _ _ hw108_3; first | rwa [zaf] at this | exact this) GW110.out) | (rw [zaf]; exact Nat.ne_of_lt (Nat.lt_of_lt_of_le (by have := World.block_lt_of_cell? _ _ hw108_3; first | rwa [zaf] at this | exact this) GW110.out)) | (show (Addr.add _ _).block ≠ _; rw [zaf]; exact Nat.ne_of_lt (Nat.lt_of_lt_of_le (by have := World.block_lt_of_cell? _ _ hw108_3; first | rwa [zaf] at this | exact this) GW110.out)) | (dsimp only; exact Nat.ne_of_lt (Nat.lt_of_lt_of_le (by have := World.block_lt_of_cell? _ _ hw108_3; first | rwa [zaf] at this | exact this) GW110.out))) _).trans (((zaA (p := ⟨gb110, _, none⟩) (by first | exact Nat.ne_of_lt (Nat.lt_of_lt_of_le (by have := World.block_lt_of_cell? _ _ hw108_3; first | rwa [zaf] at this | exact this) GW110.out) | (rw [zaf]; exact Nat.ne_of_lt (Nat.lt_of_lt_of_le (by have := World.block_lt_of_cell? _ _ hw108_3; first | rwa [zaf] at this | exact this) GW110.out)) | (show (Addr.add _ _).block ≠ _; rw [zaf]; exact Nat.ne_of_lt (Nat.lt_of_lt_of_le (by have := World.block_lt_of_cell? _ _ hw108_3; first | rwa [zaf] at this | exact this) GW110.out)) | (dsimp only; exact Nat.ne_of_lt (Nat.lt_of_lt_of_le (by have := World.block_lt_of_cell? _ _ hw108_3; first | rwa [zaf] at this | exact this) GW110.out))) _).trans (((zaA (p := ⟨gb110, _, none⟩) (by first | exact Nat.ne_of_lt (Nat.lt_of_lt_of_le (by have := World.block_lt_of_cell? _ _ hw108_3; first | rwa [zaf] at this | exact this) GW110.out) | (rw [zaf]; exact Nat.ne_of_lt (Nat.lt_of_lt_of_le (by have := World.block_lt_of_cell? _ _ hw108_3; first | rwa [zaf] at this | exact this) GW110.out)) | (show (Addr.add _ _).block ≠ _; rw [zaf]; exact Nat.ne_of_lt (Nat.lt_of_lt_of_le (by have := World.block_lt_of_cell? _ _ hw108_3; first | rwa [zaf] at this | exact this) GW110.out)) | (dsimp only; exact Nat.ne_of_lt (Nat.lt_of_lt_of_le (by have := World.block_lt_of_cell? _ _ hw108_3; first | rwa [zaf] at this | exact this) GW110.out))) _).trans (((zaA (p := ⟨gb110, _, none⟩) (by first | exact Nat.ne_of_lt (Nat.lt_of_lt_of_le (by have := World.block_lt_of_cell? _ _ hw108_3; first | rwa [zaf] at this | exact this) GW110.out) | (rw [zaf]; exact Nat.ne_of_lt (Nat.lt_of_lt_of_le (by have := World.block_lt_of_cell? _ _ hw108_3; first | rwa [zaf] at this | exact this) GW110.out)) | (show (Addr.add _ _).block ≠ _; rw [zaf]; exact Nat.ne_of_lt (Nat.lt_of_lt_of_le (by have := World.block_lt_of_cell? _ _ hw108_3; first | rwa [zaf] at this | exact this) GW110.out)) | (dsimp only; exact Nat.ne_of_lt (Nat.lt_of_lt_of_le (by have := World.block_lt_of_cell? _ _ hw108_3; first | rwa [zaf] at this | exact this) GW110.out))) _).trans (hHeld.2.2.2.2.2.2.2.1)))))))), ((zaA (p := ⟨gb110, _, none⟩) (by first | exact Nat.ne_of_lt (Nat.lt_of_lt_of_le (by have := World.block_lt_of_cell? _ _ hw109_0; first | rwa [zaf] at this | exact this) GW110.out) | (rw [zaf]; exact Nat.ne_of_lt (Nat.lt_of_lt_of_le (by have := World.block_lt_of_cell? _ _ hw109_0; first | rwa [zaf] at this | exact this) GW110.out)) | (show (Addr.add _ _).block ≠ _; rw [zaf]; exact Nat.ne_of_lt (Nat.lt_of_lt_of_le (by have := World.block_lt_of_cell? _ _ hw109_0; first | rwa [zaf] at this | exact this) GW110.out)) | (dsimp only; exact Nat.ne_of_lt (Nat.lt_of_lt_of_le (by have := World.block_lt_of_cell? _ _ hw109_0; first | rwa [zaf] at this | exact this) GW110.out))) _).trans (((zaA (p := ⟨gb110, _, none⟩) (by first | exact Nat.ne_of_lt (Nat.lt_of_lt_of_le (by have := World.block_lt_of_cell? _ _ hw109_0; first | rwa [zaf] at this | exact this) GW110.out) | (rw [zaf]; exact Nat.ne_of_lt (Nat.lt_of_lt_of_le (by have := World.block_lt_of_cell? _ _ hw109_0; first | rwa [zaf] at this | exact this) GW110.out)) | (show (Addr.add _ _).block ≠ _; rw [zaf]; exact Nat.ne_of_lt (Nat.lt_of_lt_of_le (by have := World.block_lt_of_cell? _ _ hw109_0; first | rwa [zaf] at this | exact this) GW110.out)) | (dsimp only; exact Nat.ne_of_lt (Nat.lt_of_lt_of_le (by have := World.block_lt_of_cell? _ _ hw109_0; first | rwa [zaf] at this | exact this) GW110.out))) _).trans (((zaA (p := ⟨gb110, _, none⟩) (by first | exact Nat.ne_of_lt (Nat.lt_of_lt_of_le (by have := World.block_lt_of_cell? _ _ hw109_0; first | rwa [zaf] at this | exact this) GW110.out) | (rw [zaf]; exact Nat.ne_of_lt (Nat.lt_of_lt_of_le (by have := World.block_lt_of_cell? _ _ hw109_0; first | rwa [zaf] at this | exact this) GW110.out)) | (show (Addr.add _ _).block ≠ _; rw [zaf]; exact Nat.ne_of_lt (Nat.lt_of_lt_of_le (by have := World.block_lt_of_cell? _ _ hw109_0; first | rwa [zaf] at this | exact this) GW110.out)) | (dsimp only; exact Nat.ne_of_lt (Nat.lt_of_lt_of_le (by have := World.block_lt_of_cell? _ _ hw109_0; first | rwa [zaf] at this | exact this) GW110.out))) _).trans (((zaA (p := ⟨gb110, _, none⟩) (by first | exact Nat.ne_of_lt (Nat.lt_of_lt_of_le (by have := World.block_lt_of_cell? _ _ hw109_0; first | rwa [zaf] at this | exact this) GW110.out) | (rw [zaf]; exact Nat.ne_of_lt (Nat.lt_of_lt_of_le (by have := World.block_lt_of_cell? _ _ hw109_0; first | rwa [zaf] at this | exact this) GW110.out)) | (show (Addr.add _ _).block ≠ _; rw [zaf]; exact Nat.ne_of_lt (Nat.lt_of_lt_of_le (by have := World.block_lt_of_cell? _ _ hw109_0; first | rwa [zaf] at this | exact this) GW110.out)) | (dsimp only; exact Nat.ne_of_lt (Nat.lt_of_lt_of_le (by have := World.block_lt_of_cell? _ _ hw109_0; first | rwa [zaf] at this | exact this) GW110.out))) _).trans (hHeld.2.2.2.2.2.2.2.2.1)))))))), ((zaA (p := ⟨gb110, _, none⟩) (by first | exact Nat.ne_of_lt (Nat.lt_of_lt_of_le (by have := World.block_lt_of_cell? _ _ hw109_1; first | rwa [zaf] at this | exact this) GW110.out) | (rw [zaf]; exact Nat.ne_of_lt (Nat.lt_of_lt_of_le (by have := World.block_lt_of_cell? _ _ hw109_1; first | rwa [zaf] at this | exact this) GW110.out)) | (show (Addr.add _ _).block ≠ _; rw [zaf]; exact Nat.ne_of_lt (Nat.lt_of_lt_of_le (by have := World.block_lt_of_cell? _ _ hw109_1; first | rwa [zaf] at this | exact this) GW110.out)) | (dsimp only; exact Nat.ne_of_lt (Nat.lt_of_lt_of_le (by have := World.block_lt_of_cell? _ _ hw109_1; first | rwa [zaf] at this | exact this) GW110.out))) _).trans (((zaA (p := ⟨gb110, _, none⟩) (by first | exact Nat.ne_of_lt (Nat.lt_of_lt_of_le (by have := World.block_lt_of_cell? _ _ hw109_1; first | rwa [zaf] at this | exact this) GW110.out) | (rw [zaf]; exact Nat.ne_of_lt (Nat.lt_of_lt_of_le (by have := World.block_lt_of_cell? _ _ hw109_1; first | rwa [zaf] at this | exact this) GW110.out)) | (show (Addr.add _ _).block ≠ _; rw [zaf]; exact Nat.ne_of_lt (Nat.lt_of_lt_of_le (by have := World.block_lt_of_cell? _ _ hw109_1; first | rwa [zaf] at this | exact this) GW110.out)) | (dsimp only; exact Nat.ne_of_lt (Nat.lt_of_lt_of_le (by have := World.block_lt_of_cell? _ _ hw109_1; first | rwa [zaf] at this | exact this) GW110.out))) _).trans (((zaA (p := ⟨gb110, _, none⟩) (by first | exact Nat.ne_of_lt (Nat.lt_of_lt_of_le (by have := World.block_lt_of_cell? _ _ hw109_1; first | rwa [zaf] at this | exact this) GW110.out) | (rw [zaf]; exact Nat.ne_of_lt (Nat.lt_of_lt_of_le (by have := World.block_lt_of_cell? _ _ hw109_1; first | rwa [zaf] at this | exact this) GW110.out)) | (show (Addr.add _ _).block ≠ _; rw [zaf]; exact Nat.ne_of_lt (Nat.lt_of_lt_of_le (by have := World.block_lt_of_cell? _ _ hw109_1; first | rwa [zaf] at this | exact this) GW110.out)) | (dsimp only; exact Nat.ne_of_lt (Nat.lt_of_lt_of_le (by have := World.block_lt_of_cell? _ _ hw109_1; first | rwa [zaf] at this | exact this) GW110.out))) _).trans (((zaA (p := ⟨gb110, _, none⟩) (by first | exact Nat.ne_of_lt (Nat.lt_of_lt_of_le (by have := World.block_lt_of_cell? _ _ hw109_1; first | rwa [zaf] at this | exact this) GW110.out) | (rw [zaf]; exact Nat.ne_of_lt (Nat.lt_of_lt_of_le (by have := World.block_lt_of_cell? _ _ hw109_1; first | rwa [zaf] at this | exact this) GW110.out)) | (show (Addr.add _ _).block ≠ _; rw [zaf]; exact Nat.ne_of_lt (Nat.lt_of_lt_of_le (by have := World.block_lt_of_cell? _ _ hw109_1; first | rwa [zaf] at this | exact this) GW110.out)) | (dsimp only; exact Nat.ne_of_lt (Nat.lt_of_lt_of_le (by have := World.block_lt_of_cell? _ _ hw109_1; first | rwa [zaf] at this | exact this) GW110.out))) _).trans (hHeld.2.2.2.2.2.2.2.2.2.1)))))))), ((zaA (p := ⟨gb110, _, none⟩) (by first | exact Nat.ne_of_lt (Nat.lt_of_lt_of_le (by have := World.block_lt_of_cell? _ _ hw109_2; first | rwa [zaf] at this | exact this) GW110.out) | (rw [zaf]; exact Nat.ne_of_lt (Nat.lt_of_lt_of_le (by have := World.block_lt_of_cell? _ _ hw109_2; first | rwa [zaf] at this | exact this) GW110.out)) | (show (Addr.add _ _).block ≠ _; rw [zaf]; exact Nat.ne_of_lt (Nat.lt_of_lt_of_le (by have := World.block_lt_of_cell? _ _ hw109_2; first | rwa [zaf] at this | exact this) GW110.out)) | (dsimp only; exact Nat.ne_of_lt (Nat.lt_of_lt_of_le (by have := World.block_lt_of_cell? _ _ hw109_2; first | rwa [zaf] at this | exact this) GW110.out))) _).trans (((zaA (p := ⟨gb110, _, none⟩) (by first | exact Nat.ne_of_lt (Nat.lt_of_lt_of_le (by have := World.block_lt_of_cell? _ _ hw109_2; first | rwa [zaf] at this | exact this) GW110.out) | (rw [zaf]; exact Nat.ne_of_lt (Nat.lt_of_lt_of_le (by have := World.block_lt_of_cell? _ _ hw109_2; first | rwa [zaf] at this | exact this) GW110.out)) | (show (Addr.add _ _).block ≠ _; rw [zaf]; exact Nat.ne_of_lt (Nat.lt_of_lt_of_le (by have := World.block_lt_of_cell? _ _ hw109_2; first | rwa [zaf] at this | exact this) GW110.out)) | (dsimp only; exact Nat.ne_of_lt (Nat.lt_of_lt_of_le (by have := World.block_lt_of_cell? _ _ hw109_2; first | rwa [zaf] at this | exact this) GW110.out))) _).trans (((zaA (p := ⟨gb110, _, none⟩) (by first | exact Nat.ne_of_lt (Nat.lt_of_lt_of_le (by have := World.block_lt_of_cell? _ _ hw109_2; first | rwa [zaf] at this | exact this) GW110.out) | (rw [zaf]; exact Nat.ne_of_lt (Nat.lt_of_lt_of_le (by have := World.block_lt_of_cell? _ _ hw109_2; first | rwa [zaf] at this | exact this) GW110.out)) | (show (Addr.add _ _).block ≠ _; rw [zaf]; exact Nat.ne_of_lt (Nat.lt_of_lt_of_le (by have := World.block_lt_of_cell? _ _ hw109_2; first | rwa [zaf] at this | exact this) GW110.out)) | (dsimp only; exact Nat.ne_of_lt (Nat.lt_of_lt_of_le (by have := World.block_lt_of_cell? _ _ hw109_2; first | rwa [zaf] at this | exact this) GW110.out))) _).trans (((zaA (p := ⟨gb110, _, none⟩) (by first | exact Nat.ne_of_lt (Nat.lt_of_lt_of_le (by have := World.block_lt_of_cell? _ _ hw109_2; first | rwa [zaf] at this | exact this) GW110.out) | (rw [zaf]; exact Nat.ne_of_lt (Nat.lt_of_lt_of_le (by have := World.block_lt_of_cell? _ _ hw109_2; first | rwa [zaf] at this | exact this) GW110.out)) | (show (Addr.add _ _).block ≠ _; rw [zaf]; exact Nat.ne_of_lt (Nat.lt_of_lt_of_le (by have := World.block_lt_of_cell? _ _ hw109_2; first | rwa [zaf] at this | exact this) GW110.out)) | (dsimp only; exact Nat.ne_of_lt (Nat.lt_of_lt_of_le (by have := World.block_lt_of_cell? _ _ hw109_2; first | rwa [zaf] at this | exact this) GW110.out))) _).trans (hHeld.2.2.2.2.2.2.2.2.2.2.1)))))))), ((zaA (p := ⟨gb110, _, none⟩) (by first | exact Nat.ne_of_lt (Nat.lt_of_lt_of_le (by have := World.block_lt_of_cell? _ _ hw109_3; first | rwa [zaf] at this | exact this) GW110.out) | (rw [zaf]; exact Nat.ne_of_lt (Nat.lt_of_lt_of_le (by have := World.block_lt_of_cell? _ _ hw109_3; first | rwa [zaf] at this | exact this) GW110.out)) | (show (Addr.add _ _).block ≠ _; rw [zaf]; exact Nat.ne_of_lt (Nat.lt_of_lt_of_le (by have := World.block_lt_of_cell? _ _ hw109_3; first | rwa [zaf] at this | exact this) GW110.out)) | (dsimp only; exact Nat.ne_of_lt (Nat.lt_of_lt_of_le (by have := World.block_lt_of_cell? _ _ hw109_3; first | rwa [zaf] at this | exact this) GW110.out))) _).trans (((zaA (p := ⟨gb110, _, none⟩) (by first | exact Nat.ne_of_lt (Nat.lt_of_lt_of_le (by have := World.block_lt_of_cell? _ _ hw109_3; first | rwa [zaf] at this | exact this) GW110.out) | (rw [zaf]; exact Nat.ne_of_lt (Nat.lt_of_lt_of_le (by have := World.block_lt_of_cell? _ _ hw109_3; first | rwa [zaf] at this | exact this) GW110.out)) | (show (Addr.add _ _).block ≠ _; rw [zaf]; exact Nat.ne_of_lt (Nat.lt_of_lt_of_le (by have := World.block_lt_of_cell? _ _ hw109_3; first | rwa [zaf] at this | exact this) GW110.out)) | (dsimp only; exact Nat.ne_of_lt (Nat.lt_of_lt_of_le (by have := World.block_lt_of_cell? _ _ hw109_3; first | rwa [zaf] at this | exact this) GW110.out))) _).trans (((zaA (p := ⟨gb110, _, none⟩) (by first | exact Nat.ne_of_lt (Nat.lt_of_lt_of_le (by have := World.block_lt_of_cell? _ _ hw109_3; first | rwa [zaf] at this | exact this) GW110.out) | (rw [zaf]; exact Nat.ne_of_lt (Nat.lt_of_lt_of_le (by have := World.block_lt_of_cell? _ _ hw109_3; first | rwa [zaf] at this | exact this) GW110.out)) | (show (Addr.add _ _).block ≠ _; rw [zaf]; exact Nat.ne_of_lt (Nat.lt_of_lt_of_le (by have := World.block_lt_of_cell? _ _ hw109_3; first | rwa [zaf] at this | exact this) GW110.out)) | (dsimp only; exact Nat.ne_of_lt (Nat.lt_of_lt_of_le (by have := World.block_lt_of_cell? _ _ hw109_3; first | rwa [zaf] at this | exact this) GW110.out))) _).trans (((zaA (p := ⟨gb110, _, none⟩) (by first | exact Nat.ne_of_lt (Nat.lt_of_lt_of_le (by have := World.block_lt_of_cell? _ _ hw109_3; first | rwa [zaf] at this | exact this) GW110.out) | (rw [zaf]; exact Nat.ne_of_lt (Nat.lt_of_lt_of_le (by have := World.block_lt_of_cell? _ _ hw109_3; first | rwa [zaf] at this | exact this) GW110.out)) | (show (Addr.add _ _).block ≠ _; rw [zaf]; exact Nat.ne_of_lt (Nat.lt_of_lt_of_le (by have := World.block_lt_of_cell? _ _ hw109_3; first | rwa [zaf] at this | exact this) GW110.out)) | (dsimp only; exact Nat.ne_of_lt (Nat.lt_of_lt_of_le (by have := World.block_lt_of_cell? _ _ hw109_3; first | rwa [zaf] at this | exact this) GW110.out))) _).trans (hHeld.2.2.2.2.2.2.2.2.2.2.2))))))))⟩ (fun hHeld => ?_)
   clear hK K; refine done_ (done_of HT_.out (by kernel_rfl)) ?_
   try go_wp2
   go_loopg [7] k (fun kq v7 w' => ∃ (x7_1 : Int) (x111002_1 : Int) (x111003_1 : List (S24)) (u111003 : Value), v7 = .int .i64 x7_1 ∧ zaa (zam.l0 kq l0 a1 x7_1 ((zax l0 a1).f1) ((zax l0 a1).f2) x111002_1 x111003_1 = some (r1, r2, r3, r4, r5)) ∧ zaa (kq ≤ k) ∧ zaa (Kd.R k24 24 w' w.heap.size (fun k_ => k_ ≠ gb106 ∧ k_ ≠ gb110) u111003 x111003_1) ∧ zaa (w'.heap[gb106]? = some (.cells #[.int .u8 0, .int .u8 0, .int .i64 0, (.slice none 0 0)] 24 (0, 0))) ∧ zaa (w'.heap[gb110]? = some (.cells #[.int .u8 ((zax l0 a1).f1), .int .u8 ((zax l0 a1).f2), .int .i64 x111002_1, u111003] 24 (0, 0))) ∧ zaa (Below w.heap.size w w'))
   case atStart => exact ⟨(wrap64 (a1 + 1)), ((zax l0 a1).f3), (([] : List (S24))), (.slice none 0 0), (by first | rfl | (simp; done) | simp [*]), H', ⟨Nat.le_refl _⟩, ⟨by first | exact Kd.R_nil _ _ _ _ _ | exact Kd.N_nil _ _ _ _ _ | exact Kd.V_nil _ _ _ _ _ | exact Kd.Q_nil _ _ _ _ _ | exact Kd.S_nil _ _ _ _ _⟩, ⟨by (with_reducible repeat (first | refine zan ?_ _ | refine zaq ?_ | refine zao ?_ _)); refine zbb ?_ NB106_110.out _; (with_reducible repeat (first | refine zan ?_ _ | refine zaq ?_ | refine zao ?_ _)); refine zbb ?_ NB106_110.out _; (with_reducible repeat (first | refine zan ?_ _ | refine zaq ?_ | refine zao ?_ _)); refine zbb ?_ NB106_110.out _; (with_reducible repeat (first | refine zan ?_ _ | refine zaq ?_ | refine zao ?_ _)); refine zbb ?_ NB106_110.out _; (with_reducible repeat (first | refine zan ?_ _ | refine zaq ?_ | refine zao ?_ _)); exact BK106.out⟩, ⟨by (with_reducible repeat (first | refine zan ?_ _ | refine zaq ?_ | refine zao ?_ _)); refine zaR (cs := #[.int .u8 ((zax l0 a1).f1), .int .u8 ((zax l0 a1).f2), .int .i64 ((zax l0 a1).f3), .slice none 0 0]) ?_ 3 _ rfl; (with_reducible repeat (first | refine zan ?_ _ | refine zaq ?_ | refine zao ?_ _)); refine zaR (cs := #[.int .u8 ((zax l0 a1).f1), .int .u8 ((zax l0 a1).f2), .int .i64 0, .slice none 0 0]) ?_ 2 _ rfl; (with_reducible repeat (first | refine zan ?_ _ | refine zaq ?_ | refine zao ?_ _)); refine zaR (cs := #[.int .u8 ((zax l0 a1).f1), .int .u8 0, .int .i64 0, .slice none 0 0]) ?_ 1 _ rfl; (with_reducible repeat (first | refine zan ?_ _ | refine zaq ?_ | refine zao ?_ _)); refine zaR (cs := #[.int .u8 0, .int .u8 0, .int .i64 0, .slice none 0 0]) ?_ 0 _ rfl; (with_reducible repeat (first | refine zan ?_ _ | refine zaq ?_ | refine zao ?_ _)); exact BK110.out⟩, ⟨by repeat (first | (with_reducible first | exact HB.out | apply zac | apply zad | apply zah | refine zar ?_ GE106.out | refine zar ?_ GE110.out) | exact HB.out)⟩⟩
   case round =>
    clear H'; try clear c1
    try clear p1
    try clear q1
    try clear hx1
    try clear p2
    try clear c3
    try clear c3b0
    try clear c4
    try clear c4b0
    try clear p6
    try clear p10
    try clear q10
    try clear hx10
    try clear hx107_0
    try clear hx107_1
    try clear hx107_2
    try clear hx107_3
    try clear hx108_0
    try clear hx108_1
    try clear hx108_2
    try clear hx108_3
    try clear hx109_0
    try clear hx109_1
    try clear hx109_2
    try clear hx109_3
    try clear p107
    try clear p108
    try clear p109
    try clear q107
    try clear q108
    try clear q109
    obtain ⟨x7_1, x111002_1, x111003_1, u111003, rfl, HA, HK1, HO_111003, BK106, BK110, HB⟩ := hrel; cases gk with
    | zero => exact absurd HA.out (by simp [zam.l0])
    | succ k1 =>
     have H := HA.out; clear HA; simp only [zam.l0] at H; by_cases c12 : x7_1 < (l0.length : Int)
     ·rw [if_pos c12] at H
      have c12b0 : decide (x7_1 < (l0.length : Int)) = true := decide_eq_true c12; clear c12; by_cases c13 : 0 ≤ x7_1
      ·rw [if_pos c13] at H
       have c13b0 : decide (0 ≤ x7_1) = true := decide_eq_true c13; clear c13; by_cases c14 : 0 ≤ a1
       ·rw [if_pos c14] at H
        have c14b0 : decide (0 ≤ a1) = true := decide_eq_true c14; clear c14; by_cases c15 : a1 < (l0.length : Int)
        ·rw [if_pos c15] at H
         have c15b0 : decide (a1 < (l0.length : Int)) = true := decide_eq_true c15; clear c15; by_cases c16 : ((zax l0 x7_1).f0) > ((zax l0 a1).f0)
         ·rw [if_pos c16] at H
          have c16b0 : decide (((zax l0 a1).f0) < ((zax l0 x7_1).f0)) = true := decide_eq_true c16; clear c16; replace H := Option.bind_eq_some_iff.mp H; obtain ⟨⟨t113, t114, t115, t116, t119⟩, A170, H⟩ := H; replace H : (if x111003_1.length < 3518437208883 then (zam.l0 k1 l0 a1 t119 ((zax l0 a1).f1) ((zax l0 a1).f2) (wrap64 (x111002_1 + t115)) (x111003_1 ++ [(⟨t113, t114, t115, t116⟩ : S24)])) else (none)) = some (r1, r2, r3, r4, r5) := H
          have A17 := zaa.mk A170; clear A170; by_cases c18 : x111003_1.length < 3518437208883
          ·rw [if_pos c18] at H
           have LMc18 := zaa.mk c18; clear c18; obtain ⟨y121, hy121⟩ : ∃ y_ : List (S24), y_ = (x111003_1 ++ [(⟨t113, t114, t115, t116⟩ : S24)]) := ⟨_, rfl⟩; replace H : (zam.l0 k1 l0 a1 t119 ((zax l0 a1).f1) ((zax l0 a1).f2) (wrap64 (x111002_1 + t115)) y121) = some (r1, r2, r3, r4, r5) := by first | (rw [hy121]; with_reducible exact H) | (have H2_ := (Option.bind_some _ _).symm.trans H; rw [hy121]; with_reducible exact H2_) | (have H2_ := (Option.bind_some _ _).symm.trans H; with_reducible exact H2_) | with_reducible exact H | (rw [hy121]; exact H) | exact H
           have Ny121 := zaa.mk hy121; clear hy121; have H' := zaa.mk H; clear H; try go_wp2
           have n0_ := zaa.mk (Kd.zbu HO_111003.out); have n1_ := zaa.mk (zaq BK106.out); have n2_ := zaa.mk (zaq BK110.out); have n3_ := zaa.mk (zah HB.out); clear HO_111003; clear BK106; clear BK110; clear HB; have HO_111003 := n0_; have BK106 := n1_; have BK110 := n2_; have HB := n3_; clear n0_ n1_ n2_ n3_; have p111 : 0 ≤ (x7_1 : Int) := of_decide_eq_true (by assumption)
           have q111 : x7_1 < (l0.length : Int) := of_decide_eq_true (by assumption)
           obtain ⟨ad111, e111, hx111_0, hx111_1, hx111_2, hx111_3⟩ := at_T97 HR0.out x7_1 p111 q111; have hw111_3 := hx111_3; have hw111_2 := hx111_2; have hw111_1 := hx111_1; have hw111_0 := hx111_0; obtain rfl : ad107 = ad111 := (by injection e111)
           replace hx111_0 := (HB.out.cell (World.block_lt_of_cell? w _ hx111_0)).trans hx111_0; replace hx111_1 := (HB.out.cell (World.block_lt_of_cell? w _ hx111_1)).trans hx111_1; replace hx111_2 := (HB.out.cell (World.block_lt_of_cell? w _ hx111_2)).trans hx111_2; replace hx111_3 := (HB.out.cell (World.block_lt_of_cell? w _ hx111_3)).trans hx111_3; replace p111 := eq_true p111; replace q111 := eq_true q111; have p112 : 0 ≤ (a1 : Int) := of_decide_eq_true (by assumption)
           have q112 : a1 < (l0.length : Int) := of_decide_eq_true (by assumption)
           obtain ⟨ad112, e112, hx112_0, hx112_1, hx112_2, hx112_3⟩ := at_T97 HR0.out a1 p112 q112; have hw112_3 := hx112_3; have hw112_2 := hx112_2; have hw112_1 := hx112_1; have hw112_0 := hx112_0; obtain rfl : ad107 = ad112 := (by injection e112)
           replace hx112_0 := (HB.out.cell (World.block_lt_of_cell? w _ hx112_0)).trans hx112_0; replace hx112_1 := (HB.out.cell (World.block_lt_of_cell? w _ hx112_1)).trans hx112_1; replace hx112_2 := (HB.out.cell (World.block_lt_of_cell? w _ hx112_2)).trans hx112_2; replace hx112_3 := (HB.out.cell (World.block_lt_of_cell? w _ hx112_3)).trans hx112_3; replace p112 := eq_true p112; replace q112 := eq_true q112; refine start_ (n := 17) (S := fun w' => w'.cell? (ad107.add ((x7_1).toNat * 4)) = some (.int .i64 ((zax l0 x7_1).f0)) ∧ w'.cell? ⟨(ad107.add ((x7_1).toNat * 4)).block, (ad107.add ((x7_1).toNat * 4)).off + 1, none⟩ = some (.int .u8 ((zax l0 x7_1).f1)) ∧ w'.cell? ⟨(ad107.add ((x7_1).toNat * 4)).block, (ad107.add ((x7_1).toNat * 4)).off + 2, none⟩ = some (.int .u8 ((zax l0 x7_1).f2)) ∧ w'.cell? ⟨(ad107.add ((x7_1).toNat * 4)).block, (ad107.add ((x7_1).toNat * 4)).off + 3, none⟩ = some (.int .i64 ((zax l0 x7_1).f3)) ∧ w'.cell? (ad107.add ((a1).toNat * 4)) = some (.int .i64 ((zax l0 a1).f0)) ∧ w'.cell? ⟨(ad107.add ((a1).toNat * 4)).block, (ad107.add ((a1).toNat * 4)).off + 1, none⟩ = some (.int .u8 ((zax l0 a1).f1)) ∧ w'.cell? ⟨(ad107.add ((a1).toNat * 4)).block, (ad107.add ((a1).toNat * 4)).off + 2, none⟩ = some (.int .u8 ((zax l0 a1).f2)) ∧ w'.cell? ⟨(ad107.add ((a1).toNat * 4)).block, (ad107.add ((a1).toNat * 4)).off + 3, none⟩ = some (.int .i64 ((zax l0 a1).f3))) (ds := []) #[false, false, false, false, false, false, false, false, false, false, false, false, false, false, false, false, false] (by kernel_rfl) rfl rfl ⟨((HB.out.cell (World.block_lt_of_cell? w _ hw111_0)).trans hw111_0), ((HB.out.cell (World.block_lt_of_cell? w _ hw111_1)).trans hw111_1), ((HB.out.cell (World.block_lt_of_cell? w _ hw111_2)).trans hw111_2), ((HB.out.cell (World.block_lt_of_cell? w _ hw111_3)).trans hw111_3), ((HB.out.cell (World.block_lt_of_cell? w _ hw112_0)).trans hw112_0), ((HB.out.cell (World.block_lt_of_cell? w _ hw112_1)).trans hw112_1), ((HB.out.cell (World.block_lt_of_cell? w _ hw112_2)).trans hw112_2), ((HB.out.cell (World.block_lt_of_cell? w _ hw112_3)).trans hw112_3)⟩ (fun hHeld => ?_); refine with_tabW zam.tab3 zam.bits3 (fun HT_ HW_ => ?_)
           generalize wr.drew = w19 at HO_111003 BK106 BK110 HB hx111_0 hx111_1 hx111_2 hx111_3 hx112_0 hx112_1 hx112_2 hx112_3 hHeld ⊢
           refine pure_ (i := 0) (N := some 28) (v := ?_) (a' := ?_) #[true, false, false, false, false, false, false, false, false, false, false, false, false, false, false, false, false] rfl rfl (zaH HT_.out (by kernel_rfl)) (fun _ _ _ h => h) (Or.inl ⟨by rfl, ?_⟩) ?_ ?_
           rotate_left
           ·intro w'
            go_simp
            with_reducible rfl
           rotate_left
           ·simp only [Act.put, zaj, i64_w, i32_w]
            rfl
           refine pure_ (i := 1) (N := some 29) (v := ?_) (a' := ?_) #[true, true, false, false, false, false, false, false, false, false, false, false, false, false, false, false, false] rfl rfl (zaH HT_.out (by kernel_rfl)) (fun _ _ _ h => h) (Or.inl ⟨by rfl, ?_⟩) ?_ ?_
           rotate_left
           ·intro w'
            go_simp
            with_reducible rfl
           rotate_left
           ·simp only [Act.put, zaj, i64_w, i32_w]
            rfl
           refine pure_ (i := 2) (N := some 30) (v := ?_) (a' := ?_) #[true, true, true, false, false, false, false, false, false, false, false, false, false, false, false, false, false] rfl rfl (zaH HT_.out (by kernel_rfl)) (fun _ _ _ h => h) (Or.inl ⟨by rfl, ?_⟩) ?_ ?_
           rotate_left
           ·intro w'
            go_simp
            with_reducible rfl
           rotate_left
           ·simp only [Act.put, zaj, i64_w, i32_w]
            rfl
           refine pure_ (i := 3) (N := some 31) (v := ?_) (a' := ?_) #[true, true, true, true, false, false, false, false, false, false, false, false, false, false, false, false, false] rfl rfl (zaH HT_.out (by kernel_rfl)) (fun _ _ _ h => h) (Or.inl ⟨by rfl, ?_⟩) ?_ ?_
           rotate_left
           ·intro w'
            go_simp
            with_reducible rfl
           rotate_left
           ·simp only [Act.put, zaj, i64_w, i32_w]
            rfl
           refine pure_ (i := 4) (N := some 32) (v := ?_) (a' := ?_) #[true, true, true, true, true, false, false, false, false, false, false, false, false, false, false, false, false] rfl rfl (zaH HT_.out (by kernel_rfl)) (fun _ _ _ h => h) (Or.inl ⟨by rfl, ?_⟩) ?_ ?_
           rotate_left
           ·intro w'
            go_simp
            with_reducible rfl
           rotate_left
           ·simp only [Act.put, zaj, i64_w, i32_w]
            rfl
           refine pure_ (i := 5) (N := some 33) (v := ?_) (a' := ?_) #[true, true, true, true, true, true, false, false, false, false, false, false, false, false, false, false, false] rfl rfl (zaH HT_.out (by kernel_rfl)) (fun _ _ _ h => h) (Or.inl ⟨by rfl, ?_⟩) ?_ ?_
           rotate_left
           ·intro w'
            go_simp
            with_reducible rfl
           rotate_left
           ·simp only [Act.put, zaj, i64_w, i32_w]
            rfl
           refine pure_ (i := 6) (N := some 34) (v := ?_) (a' := ?_) #[true, true, true, true, true, true, true, false, false, false, false, false, false, false, false, false, false] rfl rfl (zaH HT_.out (by kernel_rfl)) (fun _ _ _ h => h) (Or.inl ⟨by rfl, ?_⟩) ?_ ?_
           rotate_left
           ·intro w'
            go_simp
            with_reducible rfl
           rotate_left
           ·simp only [Act.put, zaj, i64_w, i32_w]
            rfl
           refine pure_ (i := 7) (N := some 35) (v := ?_) (a' := ?_) #[true, true, true, true, true, true, true, true, false, false, false, false, false, false, false, false, false] rfl rfl (zaH HT_.out (by kernel_rfl)) (fun _ _ _ h => h) (Or.inl ⟨by rfl, ?_⟩) ?_ ?_
           rotate_left
           ·intro w'
            go_simp
            with_reducible rfl
           rotate_left
           ·simp only [Act.put, zaj, i64_w, i32_w]
            rfl
           refine pure_ (i := 8) (N := some 36) (v := ?_) (a' := ?_) #[true, true, true, true, true, true, true, true, true, false, false, false, false, false, false, false, false] rfl rfl (zaH HT_.out (by kernel_rfl)) (fun _ _ _ h => h) (Or.inl ⟨by rfl, ?_⟩) ?_ ?_
           rotate_left
           ·intro w'
            go_simp
            with_reducible rfl
           rotate_left
           ·simp only [Act.put, zaj, i64_w, i32_w]
            rfl
           refine pure_ (i := 10) (N := some 38) (v := ?_) (a' := ?_) #[true, true, true, true, true, true, true, true, true, false, true, false, false, false, false, false, false] rfl rfl (zaH HT_.out (by kernel_rfl)) (fun _ _ _ h => h) (Or.inl ⟨by rfl, ?_⟩) ?_ ?_
           rotate_left
           ·intro w'
            go_simp
            with_reducible rfl
           rotate_left
           ·simp only [Act.put, zaj, i64_w, i32_w]
            rfl
           refine pure_ (i := 11) (N := some 39) (v := ?_) (a' := ?_) #[true, true, true, true, true, true, true, true, true, false, true, true, false, false, false, false, false] rfl rfl (zaH HT_.out (by kernel_rfl)) (fun _ _ _ h => h) (Or.inl ⟨by rfl, ?_⟩) ?_ ?_
           rotate_left
           ·intro w'
            go_simp
            with_reducible rfl
           rotate_left
           ·simp only [Act.put, zaj, i64_w, i32_w]
            rfl
           refine pure_ (i := 12) (N := some 40) (v := ?_) (a' := ?_) #[true, true, true, true, true, true, true, true, true, false, true, true, true, false, false, false, false] rfl rfl (zaH HT_.out (by kernel_rfl)) (fun _ _ _ h => h) (Or.inl ⟨by rfl, ?_⟩) ?_ ?_
           rotate_left
           ·intro w'
            go_simp
            with_reducible rfl
           rotate_left
           ·simp only [Act.put, zaj, i64_w, i32_w]
            rfl
           refine pure_ (i := 13) (N := some 41) (v := ?_) (a' := ?_) #[true, true, true, true, true, true, true, true, true, false, true, true, true, true, false, false, false] rfl rfl (zaH HT_.out (by kernel_rfl)) (fun _ _ _ h => h) (Or.inl ⟨by rfl, ?_⟩) ?_ ?_
           rotate_left
           ·intro w'
            go_simp
            with_reducible rfl
           rotate_left
           ·simp only [Act.put, zaj, i64_w, i32_w]
            rfl
           refine take_ (i := 9) (N := some 37) (v := ?_) (a' := ?_) #[true, true, true, true, true, true, true, true, true, true, true, true, true, true, false, false, false] rfl rfl (take_ofW HT_.out HW_.out (by kernel_rfl)) (fun _ _ _ h => h) (Or.inl ⟨by rfl, ?_⟩) hHeld ?_ ?_
           rotate_left
           ·rintro w' ⟨s0, s1, s2, s3, s4, s5, s6, s7⟩
            go_simp
            with_reducible rfl
           rotate_left
           ·simp only [Act.put, zaj, i64_w, i32_w]
            rfl
           refine take_ (i := 14) (N := some 42) (v := ?_) (a' := ?_) #[true, true, true, true, true, true, true, true, true, true, true, true, true, true, true, false, false] rfl rfl (take_ofW HT_.out HW_.out (by kernel_rfl)) (fun _ _ _ h => h) (Or.inl ⟨by rfl, ?_⟩) hHeld ?_ ?_
           rotate_left
           ·rintro w' ⟨s0, s1, s2, s3, s4, s5, s6, s7⟩
            go_simp
            with_reducible rfl
           rotate_left
           ·simp only [Act.put, zaj, i64_w, i32_w]
            rfl
           refine pure_ (i := 15) (N := some 43) (v := ?_) (a' := ?_) #[true, true, true, true, true, true, true, true, true, true, true, true, true, true, true, true, false] rfl rfl (zaH HT_.out (by kernel_rfl)) (fun _ _ _ h => h) (Or.inl ⟨by rfl, ?_⟩) ?_ ?_
           rotate_left
           ·intro w'
            go_simp
            with_reducible rfl
           rotate_left
           ·simp only [Act.put, zaj, i64_w, i32_w]
            rfl
           refine pure_ (i := 16) (N := some 44) (v := ?_) (a' := ?_) #[true, true, true, true, true, true, true, true, true, true, true, true, true, true, true, true, true] rfl rfl (zaH HT_.out (by kernel_rfl)) (fun _ _ _ h => h) (Or.inl ⟨by rfl, ?_⟩) ?_ ?_
           rotate_left
           ·intro w'
            go_simp
            with_reducible rfl
           rotate_left
           ·simp only [Act.put, zaj, i64_w, i32_w]
            rfl
           refine done_ (done_of HT_.out (by kernel_rfl)) ?_
           try go_wp2_with (first | ((with_reducible refine zaS (f := 19) rfl ?_); refine goesL_ (some 48) rfl rfl Try.func19 (by kernel_rfl) rfl #[.slice (some ad107) l0.length c0, .int .i64 x7_1] rfl (by (try simp only [List.map_toArray, List.map_cons, List.map_nil]); first | done | rfl | (simp only [List.length_drop, List.length_take]; rfl)) ?_; (with_reducible refine (ih k1 (by have := HK1.out; omega) _ _ l0 x7_1 t113 t114 t115 t116 t119 _ ?side1 ?side2 A17.out).mono ?_); (case side1 => repeat (first | exact (Kd.zaB HR0.out HB.out) | (with_reducible refine Kd.C_alloc ?_ _) | (with_reducible refine Kd.C_drewN ?_ _) | (with_reducible refine Kd.C_drew ?_))); (case side2 => exact HC0.out); rintro e w20 ⟨v117, rfl, ho0, hb⟩; refine ⟨_, rfl, ?_⟩; have n0_ := zaa.mk (Kd.R_elder' (by (with_reducible repeat (first | apply Kd.zbo | apply Kd.zbn | apply Kd.zbu)); exact HO_111003.out) (Kd.R_base ho0) hb); have n1_ := zaa.mk (Kd.R_lower (Kd.R_newB (Kd.R_newB (Kd.R_new' ho0 (Kd.R_lt (by (with_reducible repeat (first | apply Kd.zbo | apply Kd.zbn | apply Kd.zbu)); exact HO_111003.out))) (g := gb106) (o := .cells #[.int .u8 0, .int .u8 0, .int .i64 0, .slice none 0 0] 24 (0, 0)) (by (with_reducible repeat (first | refine zan ?_ _ | refine zaq ?_ | refine zao ?_ _)); exact BK106.out)) (g := gb110) (o := .cells #[.int .u8 ((zax l0 a1).f1), .int .u8 ((zax l0 a1).f2), .int .i64 x111002_1, u111003] 24 (0, 0)) (by (with_reducible repeat (first | refine zan ?_ _ | refine zaq ?_ | refine zao ?_ _)); exact BK110.out)) (zas (by repeat (first | (with_reducible first | exact HB.out | apply zac | apply zad | apply zah | refine zar ?_ GE106.out | refine zar ?_ GE110.out) | exact HB.out)))); have n2_ := zaa.mk (zat (g := gb106) (o := .cells #[.int .u8 0, .int .u8 0, .int .i64 0, .slice none 0 0] 24 (0, 0)) (by (with_reducible repeat (first | refine zan ?_ _ | refine zaq ?_ | refine zao ?_ _)); exact BK106.out) hb); have n3_ := zaa.mk (zat (g := gb110) (o := .cells #[.int .u8 ((zax l0 a1).f1), .int .u8 ((zax l0 a1).f2), .int .i64 x111002_1, u111003] 24 (0, 0)) (by (with_reducible repeat (first | refine zan ?_ _ | refine zaq ?_ | refine zao ?_ _)); exact BK110.out) hb); have n4_ := zaa.mk (zal (by repeat (first | (with_reducible first | exact HB.out | apply zac | apply zad | apply zah | refine zar ?_ GE106.out | refine zar ?_ GE110.out) | exact HB.out)) hb); clear HO_111003; clear BK106; clear BK110; clear HB; have HO_111003 := n0_; have HO118 := n1_; have BK106 := n2_; have BK110 := n3_; have HB := n4_; clear n0_ n1_ n2_ n3_ n4_; (try clear hb); (try clear hb2); (try clear hk); (try clear hi); (try clear ho0)) | ((with_reducible refine zaK (N := 8) rfl ?_); refine zaF ?hg (N := 8) ?hd (cs := #[.int .u8 0, .int .u8 0, .int .i64 0, .slice none 0 0]) (t := 24) ?hr ?_; (case hd => rfl); (case hg => rfl); (case hr => first | (go_simp; done) | (go_simp; rfl)); intro gb120 hg w21 hbox hb; have n0_ := zaa.mk (Kd.za4 (Kd.R_elderB (by (with_reducible repeat (first | apply Kd.zbo | apply Kd.zbn | apply Kd.zbu)); exact HO_111003.out) gb120 (Nat.le_of_eq hg.symm)) hb); have n1_ := zaa.mk (Kd.za4 (Kd.R_elderB (by (with_reducible repeat (first | apply Kd.zbo | apply Kd.zbn | apply Kd.zbu)); exact HO118.out) gb120 (Nat.le_of_eq hg.symm)) hb); have n2_ := zaa.mk (zat (g := gb106) (o := .cells #[.int .u8 0, .int .u8 0, .int .i64 0, .slice none 0 0] 24 (0, 0)) (by (with_reducible repeat (first | refine zan ?_ _ | refine zaq ?_ | refine zao ?_ _)); exact BK106.out) hb); have n3_ := zaa.mk (zat (g := gb110) (o := .cells #[.int .u8 ((zax l0 a1).f1), .int .u8 ((zax l0 a1).f2), .int .i64 x111002_1, u111003] 24 (0, 0)) (by (with_reducible repeat (first | refine zan ?_ _ | refine zaq ?_ | refine zao ?_ _)); exact BK110.out) hb); have n4_ := zaa.mk (zal (by repeat (first | (with_reducible first | exact HB.out | apply zac | apply zad | apply zah | refine zar ?_ GE106.out | refine zar ?_ GE110.out) | exact HB.out)) hb); have n5_ := zaa.mk (hbox); have n6_ := zaa.mk ((by rw [hg]; exact (zas (by repeat (first | (with_reducible first | exact HB.out | apply zac | apply zad | apply zah | refine zar ?_ GE106.out | refine zar ?_ GE110.out) | exact HB.out))) : w.heap.size ≤ gb120)); have n7_ := zaa.mk ((by rw [hg]; exact (zas (by repeat (first | (with_reducible first | exact HB.out | apply zac | apply zad | apply zah | refine zar ?_ GE106.out | refine zar ?_ GE110.out) | exact HB.out))) : w.heap.size ≤ gb120)); have n8_ := zaa.mk ((by rw [hg]; exact Nat.ne_of_lt (zau (g := gb106) (o := .cells #[.int .u8 0, .int .u8 0, .int .i64 0, .slice none 0 0] 24 (0, 0)) (by (with_reducible repeat (first | refine zan ?_ _ | refine zaq ?_ | refine zao ?_ _)); exact BK106.out)) : gb106 ≠ gb120)); have n9_ := zaa.mk ((by rw [hg]; exact Nat.ne_of_gt (zau (g := gb106) (o := .cells #[.int .u8 0, .int .u8 0, .int .i64 0, .slice none 0 0] 24 (0, 0)) (by (with_reducible repeat (first | refine zan ?_ _ | refine zaq ?_ | refine zao ?_ _)); exact BK106.out)) : gb120 ≠ gb106)); have n10_ := zaa.mk ((by rw [hg]; exact Nat.ne_of_lt (zau (g := gb110) (o := .cells #[.int .u8 ((zax l0 a1).f1), .int .u8 ((zax l0 a1).f2), .int .i64 x111002_1, u111003] 24 (0, 0)) (by (with_reducible repeat (first | refine zan ?_ _ | refine zaq ?_ | refine zao ?_ _)); exact BK110.out)) : gb110 ≠ gb120)); have n11_ := zaa.mk ((by rw [hg]; exact Nat.ne_of_gt (zau (g := gb110) (o := .cells #[.int .u8 ((zax l0 a1).f1), .int .u8 ((zax l0 a1).f2), .int .i64 x111002_1, u111003] 24 (0, 0)) (by (with_reducible repeat (first | refine zan ?_ _ | refine zaq ?_ | refine zao ?_ _)); exact BK110.out)) : gb120 ≠ gb110)); clear HO_111003; clear HO118; clear BK106; clear BK110; clear HB; have HO_111003 := n0_; have HO118 := n1_; have BK106 := n2_; have BK110 := n3_; have HB := n4_; have BK120 := n5_; have GW120 := n6_; have GE120 := n7_; have NB106_120 := n8_; have NB120_106 := n9_; have NB110_120 := n10_; have NB120_110 := n11_; clear n0_ n1_ n2_ n3_ n4_ n5_ n6_ n7_ n8_ n9_ n10_ n11_; clear hb hbox hg; have hnb22 := NB120_106.out; have hnc22 := NB106_120.out; have hnb23 := NB120_110.out; have hnc23 := NB110_120.out; have hcz24_0 : w21.cell? ⟨gb120, 0, none⟩ = some (.int .u8 0) := (zab BK120.out 0).trans rfl; have hcz24_1 : w21.cell? ⟨gb120, 1, none⟩ = some (.int .u8 0) := (zab BK120.out 1).trans rfl; have hcz24_2 : w21.cell? ⟨gb120, 2, none⟩ = some (.int .i64 0) := (zab BK120.out 2).trans rfl; have hcz24_3 : w21.cell? ⟨gb120, 3, none⟩ = some (.slice none 0 0) := (zab BK120.out 3).trans rfl; have hfz24_0 := zae BK120.out 0; have hfz24_1 := zae BK120.out 1; have hfz24_2 := zae BK120.out 2; have hfz24_3 := zae BK120.out 3; obtain ⟨Ao25, co25, eo25⟩ := Kd.zaL HO118.out; subst eo25) | ((with_reducible refine gate_store (t := 24) (p := 8) rfl ?_); refine store_event (t := 24) (p := 8) (v := ?vo_w26) (w1 := ((((w21.setCell ⟨gb120, 0, none⟩ (.int .u8 t113)).setCell ⟨gb120, 1, none⟩ (.int .u8 t114)).setCell ⟨gb120, 2, none⟩ (.int .i64 t115)).setCell ⟨gb120, 3, none⟩ (.slice Ao25 t116.length co25))) ?hg ?ho ?hn ?hr ?_; (case ho => rfl); (case hg => rfl); (case hn => rfl); (case hr => first | (go_simp; done) | (go_simp; rfl)); intro w26 hw; have n0_ : zaa (Kd.R k24 24 w26 w.heap.size (fun k_ => some k_ ≠ (.slice Ao25 t116.length co25 : Value).ownBlock ∧ k_ ≠ gb106 ∧ k_ ≠ gb110 ∧ k_ ≠ gb120) u111003 x111003_1) := ⟨(by rw [hw]; exact (by (with_reducible repeat (first | apply Kd.zbo | apply Kd.zbn | apply Kd.zbu)); exact Kd.zaG (Kd.R_far (p := ⟨gb120, 3, none⟩) (Kd.R_far (p := ⟨gb120, 2, none⟩) (Kd.R_far (p := ⟨gb120, 1, none⟩) (Kd.R_far (p := ⟨gb120, 0, none⟩) (Kd.zaG HO_111003.out (fun k_ hk => (⟨hk, hk.2⟩ : _ ∧ k_ ≠ gb120))) (fun _ hk => hk.2) (.int .u8 t113)) (fun _ hk => hk.2) (.int .u8 t114)) (fun _ hk => hk.2) (.int .i64 t115)) (fun _ hk => hk.2) (.slice Ao25 t116.length co25)) (fun _ hk => ⟨hk.1.1.2, ⟨hk.1.1.1.1, ⟨hk.1.1.1.2, hk.1.2⟩⟩⟩)))⟩; have n1_ : zaa (Kd.R k24 24 w26 w.heap.size (fun k_ => some k_ ≠ (u111003 : Value).ownBlock ∧ k_ ≠ gb106 ∧ k_ ≠ gb110 ∧ k_ ≠ gb120) (.slice Ao25 t116.length co25) t116) := ⟨(by rw [hw]; exact (by (with_reducible repeat (first | apply Kd.zbo | apply Kd.zbn | apply Kd.zbu)); exact Kd.zaG (Kd.R_far (p := ⟨gb120, 3, none⟩) (Kd.R_far (p := ⟨gb120, 2, none⟩) (Kd.R_far (p := ⟨gb120, 1, none⟩) (Kd.R_far (p := ⟨gb120, 0, none⟩) (Kd.zaG HO118.out (fun k_ hk => (⟨hk, hk.2⟩ : _ ∧ k_ ≠ gb120))) (fun _ hk => hk.2) (.int .u8 t113)) (fun _ hk => hk.2) (.int .u8 t114)) (fun _ hk => hk.2) (.int .i64 t115)) (fun _ hk => hk.2) (.slice Ao25 t116.length co25)) (fun _ hk => ⟨hk.1.1.1.1.2, ⟨hk.1.1.1.2, ⟨hk.1.1.2, hk.1.2⟩⟩⟩)))⟩; have n2_ : zaa (w26.heap[gb106]? = some (.cells #[.int .u8 0, .int .u8 0, .int .i64 0, .slice none 0 0] 24 (0, 0))) := ⟨(by rw [hw]; exact (by (with_reducible repeat (first | refine zan ?_ _ | refine zaq ?_ | refine zao ?_ _)); refine zbb ?_ NB106_120.out _; (with_reducible repeat (first | refine zan ?_ _ | refine zaq ?_ | refine zao ?_ _)); refine zbb ?_ NB106_120.out _; (with_reducible repeat (first | refine zan ?_ _ | refine zaq ?_ | refine zao ?_ _)); refine zbb ?_ NB106_120.out _; (with_reducible repeat (first | refine zan ?_ _ | refine zaq ?_ | refine zao ?_ _)); refine zbb ?_ NB106_120.out _; (with_reducible repeat (first | refine zan ?_ _ | refine zaq ?_ | refine zao ?_ _)); exact BK106.out))⟩; have n3_ : zaa (w26.heap[gb110]? = some (.cells #[.int .u8 ((zax l0 a1).f1), .int .u8 ((zax l0 a1).f2), .int .i64 x111002_1, u111003] 24 (0, 0))) := ⟨(by rw [hw]; exact (by (with_reducible repeat (first | refine zan ?_ _ | refine zaq ?_ | refine zao ?_ _)); refine zbb ?_ NB110_120.out _; (with_reducible repeat (first | refine zan ?_ _ | refine zaq ?_ | refine zao ?_ _)); refine zbb ?_ NB110_120.out _; (with_reducible repeat (first | refine zan ?_ _ | refine zaq ?_ | refine zao ?_ _)); refine zbb ?_ NB110_120.out _; (with_reducible repeat (first | refine zan ?_ _ | refine zaq ?_ | refine zao ?_ _)); refine zbb ?_ NB110_120.out _; (with_reducible repeat (first | refine zan ?_ _ | refine zaq ?_ | refine zao ?_ _)); exact BK110.out))⟩; have n4_ : zaa (w26.heap[gb120]? = some (.cells #[.int .u8 t113, .int .u8 t114, .int .i64 t115, .slice Ao25 t116.length co25] 24 (0, 0))) := ⟨(by rw [hw]; exact (by (with_reducible repeat (first | refine zan ?_ _ | refine zaq ?_ | refine zao ?_ _)); refine zaR (cs := #[.int .u8 t113, .int .u8 t114, .int .i64 t115, .slice none 0 0]) ?_ 3 _ rfl; (with_reducible repeat (first | refine zan ?_ _ | refine zaq ?_ | refine zao ?_ _)); refine zaR (cs := #[.int .u8 t113, .int .u8 t114, .int .i64 0, .slice none 0 0]) ?_ 2 _ rfl; (with_reducible repeat (first | refine zan ?_ _ | refine zaq ?_ | refine zao ?_ _)); refine zaR (cs := #[.int .u8 t113, .int .u8 0, .int .i64 0, .slice none 0 0]) ?_ 1 _ rfl; (with_reducible repeat (first | refine zan ?_ _ | refine zaq ?_ | refine zao ?_ _)); refine zaR (cs := #[.int .u8 0, .int .u8 0, .int .i64 0, .slice none 0 0]) ?_ 0 _ rfl; (with_reducible repeat (first | refine zan ?_ _ | refine zaq ?_ | refine zao ?_ _)); exact BK120.out))⟩; have n5_ : zaa (Below w.heap.size w w26) := ⟨(by rw [hw]; exact (by repeat (first | (with_reducible first | exact HB.out | apply zac | apply zad | apply zah | refine zar ?_ GE106.out | refine zar ?_ GE110.out | refine zar ?_ GE120.out) | exact HB.out)))⟩; clear hw; clear HO_111003; clear HO118; clear BK106; clear BK110; clear BK120; clear HB; have HO_111003 := n0_; have HO118 := n1_; have BK106 := n2_; have BK110 := n3_; have BK120 := n4_; have HB := n5_; clear n0_ n1_ n2_ n3_ n4_ n5_; have hnb27 := NB110_106.out; have hnc27 := NB106_110.out; have hcz28_0 : w26.cell? ⟨gb110, 0, none⟩ = some (.int .u8 ((zax l0 a1).f1)) := (zab BK110.out 0).trans rfl; have hcz28_1 : w26.cell? ⟨gb110, 1, none⟩ = some (.int .u8 ((zax l0 a1).f2)) := (zab BK110.out 1).trans rfl; have hcz28_2 : w26.cell? ⟨gb110, 2, none⟩ = some (.int .i64 x111002_1) := (zab BK110.out 2).trans rfl; have hcz28_3 : w26.cell? ⟨gb110, 3, none⟩ = some (u111003) := (zab BK110.out 3).trans rfl; have hfz28_0 := zae BK110.out 0; have hfz28_1 := zae BK110.out 1; have hfz28_2 := zae BK110.out 2; have hfz28_3 := zae BK110.out 3; have hcz29_0 : w26.cell? ⟨gb120, 0, none⟩ = some (.int .u8 t113) := (zab BK120.out 0).trans rfl; have hcz29_1 : w26.cell? ⟨gb120, 1, none⟩ = some (.int .u8 t114) := (zab BK120.out 1).trans rfl; have hcz29_2 : w26.cell? ⟨gb120, 2, none⟩ = some (.int .i64 t115) := (zab BK120.out 2).trans rfl; have hcz29_3 : w26.cell? ⟨gb120, 3, none⟩ = some (.slice Ao25 t116.length co25) := (zab BK120.out 3).trans rfl; have hfz29_0 := zae BK120.out 0; have hfz29_1 := zae BK120.out 1; have hfz29_2 := zae BK120.out 2; have hfz29_3 := zae BK120.out 3) | ((with_reducible refine gate_builtin (b := .append) (xs := #[.tmp 52, .tmp 54]) rfl ?_); at_builtin; refine Kd.R_append k24 (w0 := w) w.heap.size rfl (.tmp 52) (.tmp 54) 22 24 (.agg #[(.int .u8 0), (.int .u8 0), (.int .i64 0), (.slice none 0 0)]) 40 rfl Try.underlying22 info24 rfl (by decide) (by omega) u111003 x111003_1 (⟨t113, t114, t115, t116⟩ : S24) [.int .u8 t113, .int .u8 t114, .int .i64 t115, .slice Ao25 t116.length co25] (fun k_ => k_ ≠ gb106 ∧ k_ ≠ gb110 ∧ k_ ≠ gb120) (fun k_ => ((fun k_ => k_ ≠ gb106 ∧ k_ ≠ gb110 ∧ k_ ≠ gb120)) k_ ∧ some k_ ≠ (u111003 : Value).ownBlock) rfl rfl ?aP (fun _ hk => hk) ?aF ?aO ?aB ?aS ?aL ?_; (case aP => exact k24_mkM _ _ _ (⟨t113, t114, t115, t116⟩ : S24) (Kd.zaG (HO118.out) (fun k_ hk => ⟨⟨hk.2.1, ⟨hk.2.2.1, hk.2.2.2⟩⟩, hk.1⟩))); (case aB => exact (by repeat (first | (with_reducible first | exact HB.out | apply zac | apply zad | apply zah | refine zar ?_ GE106.out | refine zar ?_ GE110.out | refine zar ?_ GE120.out) | exact HB.out))); (case aF => exact (fun k_ hk => ⟨Kd.freshB (g := gb106) (o := .cells #[.int .u8 0, .int .u8 0, .int .i64 0, .slice none 0 0] 24 (0, 0)) (by (with_reducible repeat (first | refine zan ?_ _ | refine zaq ?_ | refine zao ?_ _)); exact BK106.out) k_ hk, Kd.freshB (g := gb110) (o := .cells #[.int .u8 ((zax l0 a1).f1), .int .u8 ((zax l0 a1).f2), .int .i64 x111002_1, u111003] 24 (0, 0)) (by (with_reducible repeat (first | refine zan ?_ _ | refine zaq ?_ | refine zao ?_ _)); exact BK110.out) k_ hk, Kd.freshB (g := gb120) (o := .cells #[.int .u8 t113, .int .u8 t114, .int .i64 t115, .slice Ao25 t116.length co25] 24 (0, 0)) (by (with_reducible repeat (first | refine zan ?_ _ | refine zaq ?_ | refine zao ?_ _)); exact BK120.out) k_ hk⟩)); (case aO => exact (by (with_reducible repeat (first | apply Kd.zbo | apply Kd.zbn | apply Kd.zbu)); exact Kd.zaG HO_111003.out (fun _ hk => ⟨hk.2.1, ⟨hk.2.2.1, hk.2.2.2⟩⟩))); (case aS => exact (zas (by repeat (first | (with_reducible first | exact HB.out | apply zac | apply zad | apply zah | refine zar ?_ GE106.out | refine zar ?_ GE110.out | refine zar ?_ GE120.out) | exact HB.out)))); (case aL => have := LMc18.out; omega); intro v122 w30 ho hb hg hat; rw [← Ny121.out] at ho; have n0_ := zaa.mk (blk_grown (g := gb106) (o := .cells #[.int .u8 0, .int .u8 0, .int .i64 0, .slice none 0 0] 24 (0, 0)) (by (with_reducible repeat (first | refine zan ?_ _ | refine zaq ?_ | refine zao ?_ _)); exact BK106.out) hg (Kd.R_away HO_111003.out (fun _ hk => hk.2.1))); have n1_ := zaa.mk (blk_grown (g := gb110) (o := .cells #[.int .u8 ((zax l0 a1).f1), .int .u8 ((zax l0 a1).f2), .int .i64 x111002_1, u111003] 24 (0, 0)) (by (with_reducible repeat (first | refine zan ?_ _ | refine zaq ?_ | refine zao ?_ _)); exact BK110.out) hg (Kd.R_away HO_111003.out (fun _ hk => hk.2.2.1))); have n2_ := zaa.mk (blk_grown (g := gb120) (o := .cells #[.int .u8 t113, .int .u8 t114, .int .i64 t115, .slice Ao25 t116.length co25] 24 (0, 0)) (by (with_reducible repeat (first | refine zan ?_ _ | refine zaq ?_ | refine zao ?_ _)); exact BK120.out) hg (Kd.R_away HO_111003.out (fun _ hk => hk.2.2.2))); have n3_ := zaa.mk (hb); have n4_ := zaa.mk (ho); clear BK106; clear BK110; clear BK120; clear HB; clear HO_111003; clear HO118; have BK106 := n0_; have BK110 := n1_; have BK120 := n2_; have HB := n3_; have HO123 := n4_; clear n0_ n1_ n2_ n3_ n4_; clear ho hb hg hat; obtain ⟨Ao31, co31, eo31⟩ := Kd.zaL HO123.out; subst eo31; have hcz32_0 : w30.cell? ⟨gb110, 0, none⟩ = some (.int .u8 ((zax l0 a1).f1)) := (zab BK110.out 0).trans rfl; have hcz32_1 : w30.cell? ⟨gb110, 1, none⟩ = some (.int .u8 ((zax l0 a1).f2)) := (zab BK110.out 1).trans rfl; have hcz32_2 : w30.cell? ⟨gb110, 2, none⟩ = some (.int .i64 x111002_1) := (zab BK110.out 2).trans rfl; have hcz32_3 : w30.cell? ⟨gb110, 3, none⟩ = some (u111003) := (zab BK110.out 3).trans rfl; have hfz32_0 := zae BK110.out 0; have hfz32_1 := zae BK110.out 1; have hfz32_2 := zae BK110.out 2; have hfz32_3 := zae BK110.out 3; have hcz33_0 : w30.cell? ⟨gb120, 0, none⟩ = some (.int .u8 t113) := (zab BK120.out 0).trans rfl; have hcz33_1 : w30.cell? ⟨gb120, 1, none⟩ = some (.int .u8 t114) := (zab BK120.out 1).trans rfl; have hcz33_2 : w30.cell? ⟨gb120, 2, none⟩ = some (.int .i64 t115) := (zab BK120.out 2).trans rfl; have hcz33_3 : w30.cell? ⟨gb120, 3, none⟩ = some (.slice Ao25 t116.length co25) := (zab BK120.out 3).trans rfl; have hfz33_0 := zae BK120.out 0; have hfz33_1 := zae BK120.out 1; have hfz33_2 := zae BK120.out 2; have hfz33_3 := zae BK120.out 3))
           go_roundg k1
           case measure => have := HK1.out; omega
           case rel => exact ⟨(t119), (wrap64 (x111002_1 + t115)), (y121), (.slice Ao31 y121.length co31), (by first | rfl | (simp; done) | simp [*]), H', ⟨by have := HK1.out; omega⟩, ⟨by (with_reducible repeat (first | apply Kd.zbo | apply Kd.zbn | apply Kd.zbu)); exact Kd.zaG (Kd.R_far (p := ⟨gb110, 2, none⟩) (Kd.R_far (p := ⟨gb110, 3, none⟩) (Kd.zaG HO123.out (fun k_ hk => (⟨hk, hk.2.1⟩ : _ ∧ k_ ≠ gb110))) (fun _ hk => hk.2) (.slice Ao31 y121.length co31)) (fun _ hk => hk.2) (.int .i64 (wrap64 (x111002_1 + t115)))) (fun _ hk => ⟨hk.1.1, hk.1.2.1⟩)⟩, ⟨by (with_reducible repeat (first | refine zan ?_ _ | refine zaq ?_ | refine zao ?_ _)); refine zbb ?_ NB106_110.out _; (with_reducible repeat (first | refine zan ?_ _ | refine zaq ?_ | refine zao ?_ _)); refine zbb ?_ NB106_110.out _; (with_reducible repeat (first | refine zan ?_ _ | refine zaq ?_ | refine zao ?_ _)); exact BK106.out⟩, ⟨by (with_reducible repeat (first | refine zan ?_ _ | refine zaq ?_ | refine zao ?_ _)); refine zaR (cs := #[.int .u8 ((zax l0 a1).f1), .int .u8 ((zax l0 a1).f2), .int .i64 x111002_1, .slice Ao31 y121.length co31]) ?_ 2 _ rfl; (with_reducible repeat (first | refine zan ?_ _ | refine zaq ?_ | refine zao ?_ _)); refine zaR (cs := #[.int .u8 ((zax l0 a1).f1), .int .u8 ((zax l0 a1).f2), .int .i64 x111002_1, u111003]) ?_ 3 _ rfl; (with_reducible repeat (first | refine zan ?_ _ | refine zaq ?_ | refine zao ?_ _)); exact BK110.out⟩, ⟨by repeat (first | (with_reducible first | exact HB.out | apply zac | apply zad | apply zah | refine zar ?_ GE106.out | refine zar ?_ GE110.out | refine zar ?_ GE120.out) | exact HB.out)⟩⟩
          ·rw [if_neg c18] at H
           exact absurd H (by simp)
         ·rw [if_neg c16] at H
          have c16b0 : decide (((zax l0 a1).f0) < ((zax l0 x7_1).f0)) = false := decide_eq_false c16; clear c16; simp only [Option.some.injEq, Prod.mk.injEq] at H; obtain ⟨rfl, rfl, rfl, rfl, rfl⟩ := H; try go_wp2
          have n0_ := zaa.mk (Kd.zbu HO_111003.out); have n1_ := zaa.mk (zaq BK106.out); have n2_ := zaa.mk (zaq BK110.out); have n3_ := zaa.mk (zah HB.out); clear HO_111003; clear BK106; clear BK110; clear HB; have HO_111003 := n0_; have BK106 := n1_; have BK110 := n2_; have HB := n3_; clear n0_ n1_ n2_ n3_; have p111 : 0 ≤ (x7_1 : Int) := of_decide_eq_true (by assumption)
          have q111 : x7_1 < (l0.length : Int) := of_decide_eq_true (by assumption)
          obtain ⟨ad111, e111, hx111_0, hx111_1, hx111_2, hx111_3⟩ := at_T97 HR0.out x7_1 p111 q111; have hw111_3 := hx111_3; have hw111_2 := hx111_2; have hw111_1 := hx111_1; have hw111_0 := hx111_0; obtain rfl : ad107 = ad111 := (by injection e111)
          replace hx111_0 := (HB.out.cell (World.block_lt_of_cell? w _ hx111_0)).trans hx111_0; replace hx111_1 := (HB.out.cell (World.block_lt_of_cell? w _ hx111_1)).trans hx111_1; replace hx111_2 := (HB.out.cell (World.block_lt_of_cell? w _ hx111_2)).trans hx111_2; replace hx111_3 := (HB.out.cell (World.block_lt_of_cell? w _ hx111_3)).trans hx111_3; replace p111 := eq_true p111; replace q111 := eq_true q111; have p112 : 0 ≤ (a1 : Int) := of_decide_eq_true (by assumption)
          have q112 : a1 < (l0.length : Int) := of_decide_eq_true (by assumption)
          obtain ⟨ad112, e112, hx112_0, hx112_1, hx112_2, hx112_3⟩ := at_T97 HR0.out a1 p112 q112; have hw112_3 := hx112_3; have hw112_2 := hx112_2; have hw112_1 := hx112_1; have hw112_0 := hx112_0; obtain rfl : ad107 = ad112 := (by injection e112)
          replace hx112_0 := (HB.out.cell (World.block_lt_of_cell? w _ hx112_0)).trans hx112_0; replace hx112_1 := (HB.out.cell (World.block_lt_of_cell? w _ hx112_1)).trans hx112_1; replace hx112_2 := (HB.out.cell (World.block_lt_of_cell? w _ hx112_2)).trans hx112_2; replace hx112_3 := (HB.out.cell (World.block_lt_of_cell? w _ hx112_3)).trans hx112_3; replace p112 := eq_true p112; replace q112 := eq_true q112; refine start_ (n := 17) (S := fun w' => w'.cell? (ad107.add ((x7_1).toNat * 4)) = some (.int .i64 ((zax l0 x7_1).f0)) ∧ w'.cell? ⟨(ad107.add ((x7_1).toNat * 4)).block, (ad107.add ((x7_1).toNat * 4)).off + 1, none⟩ = some (.int .u8 ((zax l0 x7_1).f1)) ∧ w'.cell? ⟨(ad107.add ((x7_1).toNat * 4)).block, (ad107.add ((x7_1).toNat * 4)).off + 2, none⟩ = some (.int .u8 ((zax l0 x7_1).f2)) ∧ w'.cell? ⟨(ad107.add ((x7_1).toNat * 4)).block, (ad107.add ((x7_1).toNat * 4)).off + 3, none⟩ = some (.int .i64 ((zax l0 x7_1).f3)) ∧ w'.cell? (ad107.add ((a1).toNat * 4)) = some (.int .i64 ((zax l0 a1).f0)) ∧ w'.cell? ⟨(ad107.add ((a1).toNat * 4)).block, (ad107.add ((a1).toNat * 4)).off + 1, none⟩ = some (.int .u8 ((zax l0 a1).f1)) ∧ w'.cell? ⟨(ad107.add ((a1).toNat * 4)).block, (ad107.add ((a1).toNat * 4)).off + 2, none⟩ = some (.int .u8 ((zax l0 a1).f2)) ∧ w'.cell? ⟨(ad107.add ((a1).toNat * 4)).block, (ad107.add ((a1).toNat * 4)).off + 3, none⟩ = some (.int .i64 ((zax l0 a1).f3))) (ds := []) #[false, false, false, false, false, false, false, false, false, false, false, false, false, false, false, false, false] (by kernel_rfl) rfl rfl ⟨((HB.out.cell (World.block_lt_of_cell? w _ hw111_0)).trans hw111_0), ((HB.out.cell (World.block_lt_of_cell? w _ hw111_1)).trans hw111_1), ((HB.out.cell (World.block_lt_of_cell? w _ hw111_2)).trans hw111_2), ((HB.out.cell (World.block_lt_of_cell? w _ hw111_3)).trans hw111_3), ((HB.out.cell (World.block_lt_of_cell? w _ hw112_0)).trans hw112_0), ((HB.out.cell (World.block_lt_of_cell? w _ hw112_1)).trans hw112_1), ((HB.out.cell (World.block_lt_of_cell? w _ hw112_2)).trans hw112_2), ((HB.out.cell (World.block_lt_of_cell? w _ hw112_3)).trans hw112_3)⟩ (fun hHeld => ?_); refine with_tabW zam.tab3 zam.bits3 (fun HT_ HW_ => ?_)
          generalize wr.drew = w34 at HO_111003 BK106 BK110 HB hx111_0 hx111_1 hx111_2 hx111_3 hx112_0 hx112_1 hx112_2 hx112_3 hHeld ⊢
          refine pure_ (i := 0) (N := some 28) (v := ?_) (a' := ?_) #[true, false, false, false, false, false, false, false, false, false, false, false, false, false, false, false, false] rfl rfl (zaH HT_.out (by kernel_rfl)) (fun _ _ _ h => h) (Or.inl ⟨by rfl, ?_⟩) ?_ ?_
          rotate_left
          ·intro w'
           go_simp
           with_reducible rfl
          rotate_left
          ·simp only [Act.put, zaj, i64_w, i32_w]
           rfl
          refine pure_ (i := 1) (N := some 29) (v := ?_) (a' := ?_) #[true, true, false, false, false, false, false, false, false, false, false, false, false, false, false, false, false] rfl rfl (zaH HT_.out (by kernel_rfl)) (fun _ _ _ h => h) (Or.inl ⟨by rfl, ?_⟩) ?_ ?_
          rotate_left
          ·intro w'
           go_simp
           with_reducible rfl
          rotate_left
          ·simp only [Act.put, zaj, i64_w, i32_w]
           rfl
          refine pure_ (i := 2) (N := some 30) (v := ?_) (a' := ?_) #[true, true, true, false, false, false, false, false, false, false, false, false, false, false, false, false, false] rfl rfl (zaH HT_.out (by kernel_rfl)) (fun _ _ _ h => h) (Or.inl ⟨by rfl, ?_⟩) ?_ ?_
          rotate_left
          ·intro w'
           go_simp
           with_reducible rfl
          rotate_left
          ·simp only [Act.put, zaj, i64_w, i32_w]
           rfl
          refine pure_ (i := 3) (N := some 31) (v := ?_) (a' := ?_) #[true, true, true, true, false, false, false, false, false, false, false, false, false, false, false, false, false] rfl rfl (zaH HT_.out (by kernel_rfl)) (fun _ _ _ h => h) (Or.inl ⟨by rfl, ?_⟩) ?_ ?_
          rotate_left
          ·intro w'
           go_simp
           with_reducible rfl
          rotate_left
          ·simp only [Act.put, zaj, i64_w, i32_w]
           rfl
          refine pure_ (i := 4) (N := some 32) (v := ?_) (a' := ?_) #[true, true, true, true, true, false, false, false, false, false, false, false, false, false, false, false, false] rfl rfl (zaH HT_.out (by kernel_rfl)) (fun _ _ _ h => h) (Or.inl ⟨by rfl, ?_⟩) ?_ ?_
          rotate_left
          ·intro w'
           go_simp
           with_reducible rfl
          rotate_left
          ·simp only [Act.put, zaj, i64_w, i32_w]
           rfl
          refine pure_ (i := 5) (N := some 33) (v := ?_) (a' := ?_) #[true, true, true, true, true, true, false, false, false, false, false, false, false, false, false, false, false] rfl rfl (zaH HT_.out (by kernel_rfl)) (fun _ _ _ h => h) (Or.inl ⟨by rfl, ?_⟩) ?_ ?_
          rotate_left
          ·intro w'
           go_simp
           with_reducible rfl
          rotate_left
          ·simp only [Act.put, zaj, i64_w, i32_w]
           rfl
          refine pure_ (i := 6) (N := some 34) (v := ?_) (a' := ?_) #[true, true, true, true, true, true, true, false, false, false, false, false, false, false, false, false, false] rfl rfl (zaH HT_.out (by kernel_rfl)) (fun _ _ _ h => h) (Or.inl ⟨by rfl, ?_⟩) ?_ ?_
          rotate_left
          ·intro w'
           go_simp
           with_reducible rfl
          rotate_left
          ·simp only [Act.put, zaj, i64_w, i32_w]
           rfl
          refine pure_ (i := 7) (N := some 35) (v := ?_) (a' := ?_) #[true, true, true, true, true, true, true, true, false, false, false, false, false, false, false, false, false] rfl rfl (zaH HT_.out (by kernel_rfl)) (fun _ _ _ h => h) (Or.inl ⟨by rfl, ?_⟩) ?_ ?_
          rotate_left
          ·intro w'
           go_simp
           with_reducible rfl
          rotate_left
          ·simp only [Act.put, zaj, i64_w, i32_w]
           rfl
          refine pure_ (i := 8) (N := some 36) (v := ?_) (a' := ?_) #[true, true, true, true, true, true, true, true, true, false, false, false, false, false, false, false, false] rfl rfl (zaH HT_.out (by kernel_rfl)) (fun _ _ _ h => h) (Or.inl ⟨by rfl, ?_⟩) ?_ ?_
          rotate_left
          ·intro w'
           go_simp
           with_reducible rfl
          rotate_left
          ·simp only [Act.put, zaj, i64_w, i32_w]
           rfl
          refine pure_ (i := 10) (N := some 38) (v := ?_) (a' := ?_) #[true, true, true, true, true, true, true, true, true, false, true, false, false, false, false, false, false] rfl rfl (zaH HT_.out (by kernel_rfl)) (fun _ _ _ h => h) (Or.inl ⟨by rfl, ?_⟩) ?_ ?_
          rotate_left
          ·intro w'
           go_simp
           with_reducible rfl
          rotate_left
          ·simp only [Act.put, zaj, i64_w, i32_w]
           rfl
          refine pure_ (i := 11) (N := some 39) (v := ?_) (a' := ?_) #[true, true, true, true, true, true, true, true, true, false, true, true, false, false, false, false, false] rfl rfl (zaH HT_.out (by kernel_rfl)) (fun _ _ _ h => h) (Or.inl ⟨by rfl, ?_⟩) ?_ ?_
          rotate_left
          ·intro w'
           go_simp
           with_reducible rfl
          rotate_left
          ·simp only [Act.put, zaj, i64_w, i32_w]
           rfl
          refine pure_ (i := 12) (N := some 40) (v := ?_) (a' := ?_) #[true, true, true, true, true, true, true, true, true, false, true, true, true, false, false, false, false] rfl rfl (zaH HT_.out (by kernel_rfl)) (fun _ _ _ h => h) (Or.inl ⟨by rfl, ?_⟩) ?_ ?_
          rotate_left
          ·intro w'
           go_simp
           with_reducible rfl
          rotate_left
          ·simp only [Act.put, zaj, i64_w, i32_w]
           rfl
          refine pure_ (i := 13) (N := some 41) (v := ?_) (a' := ?_) #[true, true, true, true, true, true, true, true, true, false, true, true, true, true, false, false, false] rfl rfl (zaH HT_.out (by kernel_rfl)) (fun _ _ _ h => h) (Or.inl ⟨by rfl, ?_⟩) ?_ ?_
          rotate_left
          ·intro w'
           go_simp
           with_reducible rfl
          rotate_left
          ·simp only [Act.put, zaj, i64_w, i32_w]
           rfl
          refine take_ (i := 9) (N := some 37) (v := ?_) (a' := ?_) #[true, true, true, true, true, true, true, true, true, true, true, true, true, true, false, false, false] rfl rfl (take_ofW HT_.out HW_.out (by kernel_rfl)) (fun _ _ _ h => h) (Or.inl ⟨by rfl, ?_⟩) hHeld ?_ ?_
          rotate_left
          ·rintro w' ⟨s0, s1, s2, s3, s4, s5, s6, s7⟩
           go_simp
           with_reducible rfl
          rotate_left
          ·simp only [Act.put, zaj, i64_w, i32_w]
           rfl
          refine take_ (i := 14) (N := some 42) (v := ?_) (a' := ?_) #[true, true, true, true, true, true, true, true, true, true, true, true, true, true, true, false, false] rfl rfl (take_ofW HT_.out HW_.out (by kernel_rfl)) (fun _ _ _ h => h) (Or.inl ⟨by rfl, ?_⟩) hHeld ?_ ?_
          rotate_left
          ·rintro w' ⟨s0, s1, s2, s3, s4, s5, s6, s7⟩
           go_simp
           with_reducible rfl
          rotate_left
          ·simp only [Act.put, zaj, i64_w, i32_w]
           rfl
          refine pure_ (i := 15) (N := some 43) (v := ?_) (a' := ?_) #[true, true, true, true, true, true, true, true, true, true, true, true, true, true, true, true, false] rfl rfl (zaH HT_.out (by kernel_rfl)) (fun _ _ _ h => h) (Or.inl ⟨by rfl, ?_⟩) ?_ ?_
          rotate_left
          ·intro w'
           go_simp
           with_reducible rfl
          rotate_left
          ·simp only [Act.put, zaj, i64_w, i32_w]
           rfl
          refine pure_ (i := 16) (N := some 44) (v := ?_) (a' := ?_) #[true, true, true, true, true, true, true, true, true, true, true, true, true, true, true, true, true] rfl rfl (zaH HT_.out (by kernel_rfl)) (fun _ _ _ h => h) (Or.inl ⟨by rfl, ?_⟩) ?_ ?_
          rotate_left
          ·intro w'
           go_simp
           with_reducible rfl
          rotate_left
          ·simp only [Act.put, zaj, i64_w, i32_w]
           rfl
          refine done_ (done_of HT_.out (by kernel_rfl)) ?_
          have hnb35 := NB110_106.out; have hnc35 := NB106_110.out; have hcz36_0 : w34.cell? ⟨gb110, 0, none⟩ = some (.int .u8 ((zax l0 a1).f1)) := (zab BK110.out 0).trans rfl; have hcz36_1 : w34.cell? ⟨gb110, 1, none⟩ = some (.int .u8 ((zax l0 a1).f2)) := (zab BK110.out 1).trans rfl; have hcz36_2 : w34.cell? ⟨gb110, 2, none⟩ = some (.int .i64 x111002_1) := (zab BK110.out 2).trans rfl; have hcz36_3 : w34.cell? ⟨gb110, 3, none⟩ = some (u111003) := (zab BK110.out 3).trans rfl; have hfz36_0 := zae BK110.out 0; have hfz36_1 := zae BK110.out 1; have hfz36_2 := zae BK110.out 2; have hfz36_3 := zae BK110.out 3; have hcz37_0 : w34.cell? ⟨gb106, 0, none⟩ = some (.int .u8 0) := (zab BK106.out 0).trans rfl; have hcz37_1 : w34.cell? ⟨gb106, 1, none⟩ = some (.int .u8 0) := (zab BK106.out 1).trans rfl; have hcz37_2 : w34.cell? ⟨gb106, 2, none⟩ = some (.int .i64 0) := (zab BK106.out 2).trans rfl; have hcz37_3 : w34.cell? ⟨gb106, 3, none⟩ = some (.slice none 0 0) := (zab BK106.out 3).trans rfl; have hfz37_0 := zae BK106.out 0; have hfz37_1 := zae BK106.out 1; have hfz37_2 := zae BK106.out 2; have hfz37_3 := zae BK106.out 3; obtain ⟨Ao38, co38, eo38⟩ := Kd.zaL HO_111003.out; subst eo38; try go_wp2
          refine bodyPost_ret (zbq rfl _ _ gb106 24 #[.int .u8 ((zax l0 a1).f1), .int .u8 ((zax l0 a1).f2), .int .i64 x111002_1, .slice Ao38 x111003_1.length co38] (0, 0) _ rfl (by (with_reducible repeat (first | refine zan ?_ _ | refine zaq ?_ | refine zao ?_ _)); refine zaR (cs := #[.int .u8 ((zax l0 a1).f1), .int .u8 ((zax l0 a1).f2), .int .i64 x111002_1, .slice none 0 0]) ?_ 3 _ rfl; (with_reducible repeat (first | refine zan ?_ _ | refine zaq ?_ | refine zao ?_ _)); refine zaR (cs := #[.int .u8 ((zax l0 a1).f1), .int .u8 ((zax l0 a1).f2), .int .i64 0, .slice none 0 0]) ?_ 2 _ rfl; (with_reducible repeat (first | refine zan ?_ _ | refine zaq ?_ | refine zao ?_ _)); refine zaR (cs := #[.int .u8 ((zax l0 a1).f1), .int .u8 0, .int .i64 0, .slice none 0 0]) ?_ 1 _ rfl; (with_reducible repeat (first | refine zan ?_ _ | refine zaq ?_ | refine zao ?_ _)); refine zaR (cs := #[.int .u8 0, .int .u8 0, .int .i64 0, .slice none 0 0]) ?_ 0 _ rfl; (with_reducible repeat (first | refine zan ?_ _ | refine zaq ?_ | refine zao ?_ _)); exact BK106.out) Try.underlying24 rfl (by kernel_rfl)) rfl ?_
          exact ⟨_, by first | rfl | (simp [*, zaD, zaC] <;> rfl), by (with_reducible repeat (first | apply Kd.zbo | apply Kd.zbn | apply Kd.zbu)); exact Kd.zaG (Kd.R_far (p := ⟨gb106, 3, none⟩) (Kd.R_far (p := ⟨gb106, 2, none⟩) (Kd.R_far (p := ⟨gb106, 1, none⟩) (Kd.R_far (p := ⟨gb106, 0, none⟩) (Kd.zaG HO_111003.out (fun k_ hk => (⟨hk, hk.1⟩ : _ ∧ k_ ≠ gb106))) (fun _ hk => hk.2) (.int .u8 ((zax l0 a1).f1))) (fun _ hk => hk.2) (.int .u8 ((zax l0 a1).f2))) (fun _ hk => hk.2) (.int .i64 x111002_1)) (fun _ hk => hk.2) (.slice Ao38 x111003_1.length co38)) (fun _ hk => trivial), by repeat (first | (with_reducible first | exact HB.out | apply zac | apply zad | apply zah | refine zar ?_ GE106.out | refine zar ?_ GE110.out) | exact HB.out)⟩
        ·rw [if_neg c15] at H
         exact absurd H (by simp)
       ·rw [if_neg c14] at H
        exact absurd H (by simp)
      ·rw [if_neg c13] at H
       exact absurd H (by simp)
     ·rw [if_neg c12] at H
      have c12b0 : decide (x7_1 < (l0.length : Int)) = false := decide_eq_false c12; clear c12; simp only [Option.some.injEq, Prod.mk.injEq] at H; obtain ⟨rfl, rfl, rfl, rfl, rfl⟩ := H; try go_wp2
      have n0_ := zaa.mk (Kd.zbu HO_111003.out); have n1_ := zaa.mk (zaq BK106.out); have n2_ := zaa.mk (zaq BK110.out); have n3_ := zaa.mk (zah HB.out); clear HO_111003; clear BK106; clear BK110; clear HB; have HO_111003 := n0_; have BK106 := n1_; have BK110 := n2_; have HB := n3_; clear n0_ n1_ n2_ n3_; refine start_ (n := 17) (S := fun w' => True) (ds := []) #[false, false, false, false, false, false, false, false, false, false, false, false, false, false, false, false, false] (by kernel_rfl) rfl rfl trivial (fun hHeld => ?_); refine with_tabW zam.tab3 zam.bits3 (fun HT_ HW_ => ?_)
      generalize wr.drew = w39 at HO_111003 BK106 BK110 HB hHeld ⊢
      refine pure_ (i := 0) (N := some 28) (v := ?_) (a' := ?_) #[true, false, false, false, false, false, false, false, false, false, false, false, false, false, false, false, false] rfl rfl (zaH HT_.out (by kernel_rfl)) (fun _ _ _ h => h) (Or.inl ⟨by rfl, ?_⟩) ?_ ?_
      rotate_left
      ·intro w'
       go_simp
       with_reducible rfl
      rotate_left
      ·simp only [Act.put, zaj, i64_w, i32_w]
       rfl
      refine pure_ (i := 1) (N := some 29) (v := ?_) (a' := ?_) #[true, true, false, false, false, false, false, false, false, false, false, false, false, false, false, false, false] rfl rfl (zaH HT_.out (by kernel_rfl)) (fun _ _ _ h => h) (Or.inl ⟨by rfl, ?_⟩) ?_ ?_
      rotate_left
      ·intro w'
       go_simp
       with_reducible rfl
      rotate_left
      ·simp only [Act.put, zaj, i64_w, i32_w]
       rfl
      refine pure_ (i := 2) (N := some 30) (v := ?_) (a' := ?_) #[true, true, true, false, false, false, false, false, false, false, false, false, false, false, false, false, false] rfl rfl (zaH HT_.out (by kernel_rfl)) (fun _ _ _ h => h) (Or.inl ⟨by rfl, ?_⟩) ?_ ?_
      rotate_left
      ·intro w'
       go_simp
       with_reducible rfl
      rotate_left
      ·simp only [Act.put, zaj, i64_w, i32_w]
       rfl
      refine pure_ (i := 3) (N := some 31) (v := ?_) (a' := ?_) #[true, true, true, true, false, false, false, false, false, false, false, false, false, false, false, false, false] rfl rfl (zaH HT_.out (by kernel_rfl)) (fun _ _ _ h => h) (Or.inl ⟨by rfl, ?_⟩) ?_ ?_
      rotate_left
      ·intro w'
       go_simp
       with_reducible rfl
      rotate_left
      ·simp only [Act.put, zaj, i64_w, i32_w]
       rfl
      refine pure_ (i := 4) (N := some 32) (v := ?_) (a' := ?_) #[true, true, true, true, true, false, false, false, false, false, false, false, false, false, false, false, false] rfl rfl (zaH HT_.out (by kernel_rfl)) (fun _ _ _ h => h) (Or.inl ⟨by rfl, ?_⟩) ?_ ?_
      rotate_left
      ·intro w'
       go_simp
       with_reducible rfl
      rotate_left
      ·simp only [Act.put, zaj, i64_w, i32_w]
       rfl
      refine pure_ (i := 5) (N := some 33) (v := undef) (a' := ?_) #[true, true, true, true, true, true, false, false, false, false, false, false, false, false, false, false, false] rfl rfl (zaH HT_.out (by kernel_rfl)) (fun _ _ _ h => h) (Or.inr ⟨by rfl, rfl⟩) ?_ ?_
      rotate_left
      ·simp only [Act.put, zaj, i64_w, i32_w]
       rfl
      refine pure_ (i := 6) (N := some 34) (v := undef) (a' := ?_) #[true, true, true, true, true, true, true, false, false, false, false, false, false, false, false, false, false] rfl rfl (zaH HT_.out (by kernel_rfl)) (fun _ _ _ h => h) (Or.inr ⟨by rfl, rfl⟩) ?_ ?_
      rotate_left
      ·simp only [Act.put, zaj, i64_w, i32_w]
       rfl
      refine pure_ (i := 7) (N := some 35) (v := undef) (a' := ?_) #[true, true, true, true, true, true, true, true, false, false, false, false, false, false, false, false, false] rfl rfl (zaH HT_.out (by kernel_rfl)) (fun _ _ _ h => h) (Or.inr ⟨by rfl, rfl⟩) ?_ ?_
      rotate_left
      ·simp only [Act.put, zaj, i64_w, i32_w]
       rfl
      refine pure_ (i := 8) (N := some 36) (v := undef) (a' := ?_) #[true, true, true, true, true, true, true, true, true, false, false, false, false, false, false, false, false] rfl rfl (zaH HT_.out (by kernel_rfl)) (fun _ _ _ h => h) (Or.inr ⟨by rfl, rfl⟩) ?_ ?_
      rotate_left
      ·simp only [Act.put, zaj, i64_w, i32_w]
       rfl
      refine pure_ (i := 9) (N := some 37) (v := undef) (a' := ?_) #[true, true, true, true, true, true, true, true, true, true, false, false, false, false, false, false, false] rfl rfl (zaH HT_.out (by kernel_rfl)) (fun _ _ _ h => h) (Or.inr ⟨by rfl, rfl⟩) ?_ ?_
      rotate_left
      ·simp only [Act.put, zaj, i64_w, i32_w]
       rfl
      refine pure_ (i := 10) (N := some 38) (v := undef) (a' := ?_) #[true, true, true, true, true, true, true, true, true, true, true, false, false, false, false, false, false] rfl rfl (zaH HT_.out (by kernel_rfl)) (fun _ _ _ h => h) (Or.inr ⟨by rfl, rfl⟩) ?_ ?_
      rotate_left
      ·simp only [Act.put, zaj, i64_w, i32_w]
       rfl
      refine pure_ (i := 11) (N := some 39) (v := undef) (a' := ?_) #[true, true, true, true, true, true, true, true, true, true, true, true, false, false, false, false, false] rfl rfl (zaH HT_.out (by kernel_rfl)) (fun _ _ _ h => h) (Or.inr ⟨by rfl, rfl⟩) ?_ ?_
      rotate_left
      ·simp only [Act.put, zaj, i64_w, i32_w]
       rfl
      refine pure_ (i := 12) (N := some 40) (v := undef) (a' := ?_) #[true, true, true, true, true, true, true, true, true, true, true, true, true, false, false, false, false] rfl rfl (zaH HT_.out (by kernel_rfl)) (fun _ _ _ h => h) (Or.inr ⟨by rfl, rfl⟩) ?_ ?_
      rotate_left
      ·simp only [Act.put, zaj, i64_w, i32_w]
       rfl
      refine pure_ (i := 13) (N := some 41) (v := undef) (a' := ?_) #[true, true, true, true, true, true, true, true, true, true, true, true, true, true, false, false, false] rfl rfl (zaH HT_.out (by kernel_rfl)) (fun _ _ _ h => h) (Or.inr ⟨by rfl, rfl⟩) ?_ ?_
      rotate_left
      ·simp only [Act.put, zaj, i64_w, i32_w]
       rfl
      refine pure_ (i := 14) (N := some 42) (v := undef) (a' := ?_) #[true, true, true, true, true, true, true, true, true, true, true, true, true, true, true, false, false] rfl rfl (zaH HT_.out (by kernel_rfl)) (fun _ _ _ h => h) (Or.inr ⟨by rfl, rfl⟩) ?_ ?_
      rotate_left
      ·simp only [Act.put, zaj, i64_w, i32_w]
       rfl
      refine pure_ (i := 15) (N := some 43) (v := undef) (a' := ?_) #[true, true, true, true, true, true, true, true, true, true, true, true, true, true, true, true, false] rfl rfl (zaH HT_.out (by kernel_rfl)) (fun _ _ _ h => h) (Or.inr ⟨by rfl, rfl⟩) ?_ ?_
      rotate_left
      ·simp only [Act.put, zaj, i64_w, i32_w]
       rfl
      refine pure_ (i := 16) (N := some 44) (v := ?_) (a' := ?_) #[true, true, true, true, true, true, true, true, true, true, true, true, true, true, true, true, true] rfl rfl (zaH HT_.out (by kernel_rfl)) (fun _ _ _ h => h) (Or.inl ⟨by rfl, ?_⟩) ?_ ?_
      rotate_left
      ·intro w'
       go_simp
       with_reducible rfl
      rotate_left
      ·simp only [Act.put, zaj, i64_w, i32_w]
       rfl
      refine done_ (done_of HT_.out (by kernel_rfl)) ?_
      have hnb40 := NB110_106.out; have hnc40 := NB106_110.out; have hcz41_0 : w39.cell? ⟨gb110, 0, none⟩ = some (.int .u8 ((zax l0 a1).f1)) := (zab BK110.out 0).trans rfl; have hcz41_1 : w39.cell? ⟨gb110, 1, none⟩ = some (.int .u8 ((zax l0 a1).f2)) := (zab BK110.out 1).trans rfl; have hcz41_2 : w39.cell? ⟨gb110, 2, none⟩ = some (.int .i64 x111002_1) := (zab BK110.out 2).trans rfl; have hcz41_3 : w39.cell? ⟨gb110, 3, none⟩ = some (u111003) := (zab BK110.out 3).trans rfl; have hfz41_0 := zae BK110.out 0; have hfz41_1 := zae BK110.out 1; have hfz41_2 := zae BK110.out 2; have hfz41_3 := zae BK110.out 3; have hcz42_0 : w39.cell? ⟨gb106, 0, none⟩ = some (.int .u8 0) := (zab BK106.out 0).trans rfl; have hcz42_1 : w39.cell? ⟨gb106, 1, none⟩ = some (.int .u8 0) := (zab BK106.out 1).trans rfl; have hcz42_2 : w39.cell? ⟨gb106, 2, none⟩ = some (.int .i64 0) := (zab BK106.out 2).trans rfl; have hcz42_3 : w39.cell? ⟨gb106, 3, none⟩ = some (.slice none 0 0) := (zab BK106.out 3).trans rfl; have hfz42_0 := zae BK106.out 0; have hfz42_1 := zae BK106.out 1; have hfz42_2 := zae BK106.out 2; have hfz42_3 := zae BK106.out 3; obtain ⟨Ao43, co43, eo43⟩ := Kd.zaL HO_111003.out; subst eo43; try go_wp2
      refine bodyPost_ret (zbq rfl _ _ gb106 24 #[.int .u8 ((zax l0 a1).f1), .int .u8 ((zax l0 a1).f2), .int .i64 x111002_1, .slice Ao43 x111003_1.length co43] (0, 0) _ rfl (by (with_reducible repeat (first | refine zan ?_ _ | refine zaq ?_ | refine zao ?_ _)); refine zaR (cs := #[.int .u8 ((zax l0 a1).f1), .int .u8 ((zax l0 a1).f2), .int .i64 x111002_1, .slice none 0 0]) ?_ 3 _ rfl; (with_reducible repeat (first | refine zan ?_ _ | refine zaq ?_ | refine zao ?_ _)); refine zaR (cs := #[.int .u8 ((zax l0 a1).f1), .int .u8 ((zax l0 a1).f2), .int .i64 0, .slice none 0 0]) ?_ 2 _ rfl; (with_reducible repeat (first | refine zan ?_ _ | refine zaq ?_ | refine zao ?_ _)); refine zaR (cs := #[.int .u8 ((zax l0 a1).f1), .int .u8 0, .int .i64 0, .slice none 0 0]) ?_ 1 _ rfl; (with_reducible repeat (first | refine zan ?_ _ | refine zaq ?_ | refine zao ?_ _)); refine zaR (cs := #[.int .u8 0, .int .u8 0, .int .i64 0, .slice none 0 0]) ?_ 0 _ rfl; (with_reducible repeat (first | refine zan ?_ _ | refine zaq ?_ | refine zao ?_ _)); exact BK106.out) Try.underlying24 rfl (by kernel_rfl)) rfl ?_
      exact ⟨_, by first | rfl | (simp [*, zaD, zaC] <;> rfl), by (with_reducible repeat (first | apply Kd.zbo | apply Kd.zbn | apply Kd.zbu)); exact Kd.zaG (Kd.R_far (p := ⟨gb106, 3, none⟩) (Kd.R_far (p := ⟨gb106, 2, none⟩) (Kd.R_far (p := ⟨gb106, 1, none⟩) (Kd.R_far (p := ⟨gb106, 0, none⟩) (Kd.zaG HO_111003.out (fun k_ hk => (⟨hk, hk.1⟩ : _ ∧ k_ ≠ gb106))) (fun _ hk => hk.2) (.int .u8 ((zax l0 a1).f1))) (fun _ hk => hk.2) (.int .u8 ((zax l0 a1).f2))) (fun _ hk => hk.2) (.int .i64 x111002_1)) (fun _ hk => hk.2) (.slice Ao43 x111003_1.length co43)) (fun _ hk => trivial), by repeat (first | (with_reducible first | exact HB.out | apply zac | apply zad | apply zah | refine zar ?_ GE106.out | refine zar ?_ GE110.out) | exact HB.out)⟩
  ·rw [if_neg c4] at H
   exact absurd H (by simp)
 ·rw [if_neg c3] at H
  exact absurd H (by simp)
def zaP.f (k : Nat) (l0 : List (S97)) : Option (Int × Int × Int × (List (S24)) × Bool) := if (l0.length : Int) = 0 then (some (0, 0, 0, ([] : List (S24)), false)) else (if (l0.length : Int) > 3000 then (some (0, 0, 0, ([] : List (S24)), false)) else ((zam.f k l0 0).bind fun bt125 => (some (bt125.1, bt125.2.1, bt125.2.2.1, bt125.2.2.2.1, true))))
theorem zaP.calls (k : Nat) (A0 : Option Addr) (c0 : Nat) (l0 : List (S97)) (r1 : Int) (r2 : Int) (r3 : Int) (r4 : List (S24)) (r5 : Bool) (w : World) (hr0 : Kd.C k97 w A0 l0.length l0) (hc0 : l0.length ≤ c0) (h : zaP.f k l0 = some (r1, r2, r3, r4, r5)) :
  Calls Try.prog 8 #[.slice A0 l0.length c0] w fun e w' => ∃ v3_ : Value, e = .returned (.tuple #[.agg #[.int .u8 r1, .int .u8 r2, .int .i64 r3, v3_], .bool r5]) ∧ Kd.R k24 24 w' w.heap.size (fun _ => True) v3_ r4 ∧ Below w.heap.size w w' := by
 have hu24 := Try.underlying24; have HR0 := zaa.mk hr0; have HC0 := zaa.mk hc0; clear hr0 hc0; have HB := zaa.mk (Below.refl w.heap.size w); have H : (if (l0.length : Int) = 0 then (some (0, 0, 0, ([] : List (S24)), false)) else (if (l0.length : Int) > 3000 then (some (0, 0, 0, ([] : List (S24)), false)) else ((zam.f k l0 0).bind fun bt125 => (some (bt125.1, bt125.2.1, bt125.2.2.1, bt125.2.2.2.1, true))))) = some (r1, r2, r3, r4, r5) := h
 clear h; by_cases c2 : (l0.length : Int) = 0
 ·rw [if_pos c2] at H
  have c2b0 : ((l0.length : Int) == 0) = true := beq_iff_eq.mpr c2; have c2b1 : ((l0.length : Int) != 0) = false := bne_eq_false_iff_eq.mpr c2; clear c2; simp only [Option.some.injEq, Prod.mk.injEq] at H; obtain ⟨rfl, rfl, rfl, rfl, rfl⟩ := H; go_enter Try.func8, Try.ntmps8
  go_wp2_with (first | ((with_reducible refine zaK (N := 2) rfl ?_); (try (refine gate_guard (by rfl) ?_; dsimp only)); refine zaF ?hg (N := 2) ?hd (cs := #[.int .u8 0, .int .u8 0, .int .i64 0, .slice none 0 0]) (t := 24) ?hr ?_; (case hd => rfl); (case hg => rfl); (case hr => first | (go_simp; done) | (go_simp; rfl)); intro gb124 hg w3 hbox hb; have n0_ := zaa.mk (zal (by repeat (first | exact HB.out | apply zac | apply zad | apply zah)) hb); have n1_ := zaa.mk (hbox); have n2_ := zaa.mk ((by rw [hg]; exact (zas (by repeat (first | exact HB.out | apply zac | apply zad | apply zah))) : w.heap.size ≤ gb124)); have n3_ := zaa.mk ((by rw [hg]; exact (zas (by repeat (first | exact HB.out | apply zac | apply zad | apply zah))) : w.heap.size ≤ gb124)); clear HB; have HB := n0_; have BK124 := n1_; have GW124 := n2_; have GE124 := n3_; clear n0_ n1_ n2_ n3_; clear hb hbox hg; have hcz4_0 : w3.cell? ⟨gb124, 0, none⟩ = some (.int .u8 0) := (zab BK124.out 0).trans rfl; have hcz4_1 : w3.cell? ⟨gb124, 1, none⟩ = some (.int .u8 0) := (zab BK124.out 1).trans rfl; have hcz4_2 : w3.cell? ⟨gb124, 2, none⟩ = some (.int .i64 0) := (zab BK124.out 2).trans rfl; have hcz4_3 : w3.cell? ⟨gb124, 3, none⟩ = some (.slice none 0 0) := (zab BK124.out 3).trans rfl; have hfz4_0 := zae BK124.out 0; have hfz4_1 := zae BK124.out 1; have hfz4_2 := zae BK124.out 2; have hfz4_3 := zae BK124.out 3))
  refine bodyPost_ret (zbq rfl _ _ gb124 24 #[.int .u8 0, .int .u8 0, .int .i64 0, .slice none 0 0] (0, 0) _ rfl (by (with_reducible repeat (first | refine zan ?_ _ | refine zaq ?_ | refine zao ?_ _)); refine zaR (cs := #[.int .u8 0, .int .u8 0, .int .i64 0, .slice none 0 0]) ?_ 3 _ rfl; (with_reducible repeat (first | refine zan ?_ _ | refine zaq ?_ | refine zao ?_ _)); refine zaR (cs := #[.int .u8 0, .int .u8 0, .int .i64 0, .slice none 0 0]) ?_ 2 _ rfl; (with_reducible repeat (first | refine zan ?_ _ | refine zaq ?_ | refine zao ?_ _)); refine zaR (cs := #[.int .u8 0, .int .u8 0, .int .i64 0, .slice none 0 0]) ?_ 1 _ rfl; (with_reducible repeat (first | refine zan ?_ _ | refine zaq ?_ | refine zao ?_ _)); refine zaR (cs := #[.int .u8 0, .int .u8 0, .int .i64 0, .slice none 0 0]) ?_ 0 _ rfl; (with_reducible repeat (first | refine zan ?_ _ | refine zaq ?_ | refine zao ?_ _)); exact BK124.out) Try.underlying24 rfl (by kernel_rfl)) rfl ?_
  exact ⟨_, by first | rfl | (simp [*, zaD, zaC] <;> rfl), by first | exact Kd.R_nil _ _ _ _ _ | exact Kd.N_nil _ _ _ _ _ | exact Kd.V_nil _ _ _ _ _ | exact Kd.Q_nil _ _ _ _ _ | exact Kd.S_nil _ _ _ _ _, by repeat (first | (with_reducible first | exact HB.out | apply zac | apply zad | apply zah | refine zar ?_ GE124.out) | exact HB.out)⟩
 ·rw [if_neg c2] at H
  have c2b0 : ((l0.length : Int) == 0) = false := beq_eq_false_iff_ne.mpr c2; have c2b1 : ((l0.length : Int) != 0) = true := bne_iff_ne.mpr c2; have c2b2 : ¬ (l0 = []) := fun h_ => c2 (by rw [h_]; rfl)
  by_cases c5 : (l0.length : Int) > 3000
  ·rw [if_pos c5] at H
   have c5b0 : decide (3000 < (l0.length : Int)) = true := decide_eq_true c5; have c5b1 : decide (3000 < l0.length) = true := decide_eq_true (by omega)
   clear c5; simp only [Option.some.injEq, Prod.mk.injEq] at H; obtain ⟨rfl, rfl, rfl, rfl, rfl⟩ := H; go_enter Try.func8, Try.ntmps8
   go_wp2_with (first | ((with_reducible refine zaK (N := 2) rfl ?_); (try (refine gate_guard (by rfl) ?_; dsimp only)); refine zaF ?hg (N := 2) ?hd (cs := #[.int .u8 0, .int .u8 0, .int .i64 0, .slice none 0 0]) (t := 24) ?hr ?_; (case hd => rfl); (case hg => rfl); (case hr => first | (go_simp; done) | (go_simp; rfl)); intro gb124 hg w6 hbox hb; have n0_ := zaa.mk (zal (by repeat (first | exact HB.out | apply zac | apply zad | apply zah)) hb); have n1_ := zaa.mk (hbox); have n2_ := zaa.mk ((by rw [hg]; exact (zas (by repeat (first | exact HB.out | apply zac | apply zad | apply zah))) : w.heap.size ≤ gb124)); have n3_ := zaa.mk ((by rw [hg]; exact (zas (by repeat (first | exact HB.out | apply zac | apply zad | apply zah))) : w.heap.size ≤ gb124)); clear HB; have HB := n0_; have BK124 := n1_; have GW124 := n2_; have GE124 := n3_; clear n0_ n1_ n2_ n3_; clear hb hbox hg; have hcz7_0 : w6.cell? ⟨gb124, 0, none⟩ = some (.int .u8 0) := (zab BK124.out 0).trans rfl; have hcz7_1 : w6.cell? ⟨gb124, 1, none⟩ = some (.int .u8 0) := (zab BK124.out 1).trans rfl; have hcz7_2 : w6.cell? ⟨gb124, 2, none⟩ = some (.int .i64 0) := (zab BK124.out 2).trans rfl; have hcz7_3 : w6.cell? ⟨gb124, 3, none⟩ = some (.slice none 0 0) := (zab BK124.out 3).trans rfl; have hfz7_0 := zae BK124.out 0; have hfz7_1 := zae BK124.out 1; have hfz7_2 := zae BK124.out 2; have hfz7_3 := zae BK124.out 3))
   refine bodyPost_ret (zbq rfl _ _ gb124 24 #[.int .u8 0, .int .u8 0, .int .i64 0, .slice none 0 0] (0, 0) _ rfl (by (with_reducible repeat (first | refine zan ?_ _ | refine zaq ?_ | refine zao ?_ _)); refine zaR (cs := #[.int .u8 0, .int .u8 0, .int .i64 0, .slice none 0 0]) ?_ 3 _ rfl; (with_reducible repeat (first | refine zan ?_ _ | refine zaq ?_ | refine zao ?_ _)); refine zaR (cs := #[.int .u8 0, .int .u8 0, .int .i64 0, .slice none 0 0]) ?_ 2 _ rfl; (with_reducible repeat (first | refine zan ?_ _ | refine zaq ?_ | refine zao ?_ _)); refine zaR (cs := #[.int .u8 0, .int .u8 0, .int .i64 0, .slice none 0 0]) ?_ 1 _ rfl; (with_reducible repeat (first | refine zan ?_ _ | refine zaq ?_ | refine zao ?_ _)); refine zaR (cs := #[.int .u8 0, .int .u8 0, .int .i64 0, .slice none 0 0]) ?_ 0 _ rfl; (with_reducible repeat (first | refine zan ?_ _ | refine zaq ?_ | refine zao ?_ _)); exact BK124.out) Try.underlying24 rfl (by kernel_rfl)) rfl ?_
   exact ⟨_, by first | rfl | (simp [*, zaD, zaC] <;> rfl), by first | exact Kd.R_nil _ _ _ _ _ | exact Kd.N_nil _ _ _ _ _ | exact Kd.V_nil _ _ _ _ _ | exact Kd.Q_nil _ _ _ _ _ | exact Kd.S_nil _ _ _ _ _, by repeat (first | (with_reducible first | exact HB.out | apply zac | apply zad | apply zah | refine zar ?_ GE124.out) | exact HB.out)⟩
  ·rw [if_neg c5] at H
   have c5b0 : decide (3000 < (l0.length : Int)) = false := decide_eq_false c5; have c5b1 : decide (3000 < l0.length) = false := decide_eq_false (by omega)
   clear c5; replace H := Option.bind_eq_some_iff.mp H; obtain ⟨⟨t125, t126, t127, t128, t131⟩, A80, H⟩ := H; replace H : (some (t125, t126, t127, t128, true)) = some (r1, r2, r3, r4, r5) := H; have A8 := zaa.mk A80; clear A80; simp only [Option.some.injEq, Prod.mk.injEq] at H; obtain ⟨rfl, rfl, rfl, rfl, rfl⟩ := H; go_enter Try.func8, Try.ntmps8
   go_wp2_with (first | ((with_reducible refine zaK (N := 2) rfl ?_); (try (refine gate_guard (by rfl) ?_; dsimp only)); refine zaF ?hg (N := 2) ?hd (cs := #[.int .u8 0, .int .u8 0, .int .i64 0, .slice none 0 0]) (t := 24) ?hr ?_; (case hd => rfl); (case hg => rfl); (case hr => first | (go_simp; done) | (go_simp; rfl)); intro gb124 hg w9 hbox hb; have n0_ := zaa.mk (zal (by repeat (first | exact HB.out | apply zac | apply zad | apply zah)) hb); have n1_ := zaa.mk (hbox); have n2_ := zaa.mk ((by rw [hg]; exact (zas (by repeat (first | exact HB.out | apply zac | apply zad | apply zah))) : w.heap.size ≤ gb124)); have n3_ := zaa.mk ((by rw [hg]; exact (zas (by repeat (first | exact HB.out | apply zac | apply zad | apply zah))) : w.heap.size ≤ gb124)); clear HB; have HB := n0_; have BK124 := n1_; have GW124 := n2_; have GE124 := n3_; clear n0_ n1_ n2_ n3_; clear hb hbox hg) | ((with_reducible refine zaS (f := 19) rfl ?_); refine goesL_ (some 17) rfl rfl Try.func19 (by kernel_rfl) rfl #[.slice A0 l0.length c0, .int .i64 0] rfl (by (try simp only [List.map_toArray, List.map_cons, List.map_nil]); first | done | rfl | (simp only [List.length_drop, List.length_take]; rfl)) ?_; (with_reducible refine (zam.calls k _ _ l0 0 t125 t126 t127 t128 t131 _ ?side1 ?side2 A8.out).mono ?_); (case side1 => repeat (first | exact (Kd.zaB HR0.out HB.out) | (with_reducible refine Kd.C_alloc ?_ _) | (with_reducible refine Kd.C_drewN ?_ _) | (with_reducible refine Kd.C_drew ?_))); (case side2 => exact HC0.out); rintro e w10 ⟨v129, rfl, ho0, hb⟩; refine ⟨_, rfl, ?_⟩; have n0_ := zaa.mk (Kd.R_lower (Kd.R_newB ho0 (g := gb124) (o := .cells #[.int .u8 0, .int .u8 0, .int .i64 0, .slice none 0 0] 24 (0, 0)) (by (with_reducible repeat (first | refine zan ?_ _ | refine zaq ?_ | refine zao ?_ _)); exact BK124.out)) (zas (by repeat (first | (with_reducible first | exact HB.out | apply zac | apply zad | apply zah | refine zar ?_ GE124.out) | exact HB.out)))); have n1_ := zaa.mk (zat (g := gb124) (o := .cells #[.int .u8 0, .int .u8 0, .int .i64 0, .slice none 0 0] 24 (0, 0)) (by (with_reducible repeat (first | refine zan ?_ _ | refine zaq ?_ | refine zao ?_ _)); exact BK124.out) hb); have n2_ := zaa.mk (zal (by repeat (first | (with_reducible first | exact HB.out | apply zac | apply zad | apply zah | refine zar ?_ GE124.out) | exact HB.out)) hb); clear BK124; clear HB; have HO130 := n0_; have BK124 := n1_; have HB := n2_; clear n0_ n1_ n2_; (try clear hb); (try clear hb2); (try clear hk); (try clear hi); (try clear ho0)) | ((with_reducible refine zaK (N := 4) rfl ?_); (try (refine gate_guard (by rfl) ?_; dsimp only)); refine zaF ?hg (N := 4) ?hd (cs := #[.int .u8 0, .int .u8 0, .int .i64 0, .slice none 0 0]) (t := 24) ?hr ?_; (case hd => rfl); (case hg => rfl); (case hr => first | (go_simp; done) | (go_simp; rfl)); intro gb132 hg w11 hbox hb; have n0_ := zaa.mk (Kd.za4 (Kd.R_elderB (by (with_reducible repeat (first | apply Kd.zbo | apply Kd.zbn | apply Kd.zbu)); exact HO130.out) gb132 (Nat.le_of_eq hg.symm)) hb); have n1_ := zaa.mk (zat (g := gb124) (o := .cells #[.int .u8 0, .int .u8 0, .int .i64 0, .slice none 0 0] 24 (0, 0)) (by (with_reducible repeat (first | refine zan ?_ _ | refine zaq ?_ | refine zao ?_ _)); exact BK124.out) hb); have n2_ := zaa.mk (zal (by repeat (first | (with_reducible first | exact HB.out | apply zac | apply zad | apply zah | refine zar ?_ GE124.out) | exact HB.out)) hb); have n3_ := zaa.mk (hbox); have n4_ := zaa.mk ((by rw [hg]; exact (zas (by repeat (first | (with_reducible first | exact HB.out | apply zac | apply zad | apply zah | refine zar ?_ GE124.out) | exact HB.out))) : w.heap.size ≤ gb132)); have n5_ := zaa.mk ((by rw [hg]; exact (zas (by repeat (first | (with_reducible first | exact HB.out | apply zac | apply zad | apply zah | refine zar ?_ GE124.out) | exact HB.out))) : w.heap.size ≤ gb132)); have n6_ := zaa.mk ((by rw [hg]; exact Nat.ne_of_lt (zau (g := gb124) (o := .cells #[.int .u8 0, .int .u8 0, .int .i64 0, .slice none 0 0] 24 (0, 0)) (by (with_reducible repeat (first | refine zan ?_ _ | refine zaq ?_ | refine zao ?_ _)); exact BK124.out)) : gb124 ≠ gb132)); have n7_ := zaa.mk ((by rw [hg]; exact Nat.ne_of_gt (zau (g := gb124) (o := .cells #[.int .u8 0, .int .u8 0, .int .i64 0, .slice none 0 0] 24 (0, 0)) (by (with_reducible repeat (first | refine zan ?_ _ | refine zaq ?_ | refine zao ?_ _)); exact BK124.out)) : gb132 ≠ gb124)); clear HO130; clear BK124; clear HB; have HO130 := n0_; have BK124 := n1_; have HB := n2_; have BK132 := n3_; have GW132 := n4_; have GE132 := n5_; have NB124_132 := n6_; have NB132_124 := n7_; clear n0_ n1_ n2_ n3_ n4_ n5_ n6_ n7_; clear hb hbox hg; have hnb12 := NB132_124.out; have hnc12 := NB124_132.out; have hcz13_0 : w11.cell? ⟨gb132, 0, none⟩ = some (.int .u8 0) := (zab BK132.out 0).trans rfl; have hcz13_1 : w11.cell? ⟨gb132, 1, none⟩ = some (.int .u8 0) := (zab BK132.out 1).trans rfl; have hcz13_2 : w11.cell? ⟨gb132, 2, none⟩ = some (.int .i64 0) := (zab BK132.out 2).trans rfl; have hcz13_3 : w11.cell? ⟨gb132, 3, none⟩ = some (.slice none 0 0) := (zab BK132.out 3).trans rfl; have hfz13_0 := zae BK132.out 0; have hfz13_1 := zae BK132.out 1; have hfz13_2 := zae BK132.out 2; have hfz13_3 := zae BK132.out 3; obtain ⟨Ao14, co14, eo14⟩ := Kd.zaL HO130.out; subst eo14; have hcz15_0 : w11.cell? ⟨gb124, 0, none⟩ = some (.int .u8 0) := (zab BK124.out 0).trans rfl; have hcz15_1 : w11.cell? ⟨gb124, 1, none⟩ = some (.int .u8 0) := (zab BK124.out 1).trans rfl; have hcz15_2 : w11.cell? ⟨gb124, 2, none⟩ = some (.int .i64 0) := (zab BK124.out 2).trans rfl; have hcz15_3 : w11.cell? ⟨gb124, 3, none⟩ = some (.slice none 0 0) := (zab BK124.out 3).trans rfl; have hfz15_0 := zae BK124.out 0; have hfz15_1 := zae BK124.out 1; have hfz15_2 := zae BK124.out 2; have hfz15_3 := zae BK124.out 3))
   refine bodyPost_ret (zbq rfl _ _ gb124 24 #[.int .u8 t125, .int .u8 t126, .int .i64 t127, .slice Ao14 t128.length co14] (0, 0) _ rfl (by (with_reducible repeat (first | refine zan ?_ _ | refine zaq ?_ | refine zao ?_ _)); refine zaR (cs := #[.int .u8 t125, .int .u8 t126, .int .i64 t127, .slice none 0 0]) ?_ 3 _ rfl; (with_reducible repeat (first | refine zan ?_ _ | refine zaq ?_ | refine zao ?_ _)); refine zaR (cs := #[.int .u8 t125, .int .u8 t126, .int .i64 0, .slice none 0 0]) ?_ 2 _ rfl; (with_reducible repeat (first | refine zan ?_ _ | refine zaq ?_ | refine zao ?_ _)); refine zaR (cs := #[.int .u8 t125, .int .u8 0, .int .i64 0, .slice none 0 0]) ?_ 1 _ rfl; (with_reducible repeat (first | refine zan ?_ _ | refine zaq ?_ | refine zao ?_ _)); refine zaR (cs := #[.int .u8 0, .int .u8 0, .int .i64 0, .slice none 0 0]) ?_ 0 _ rfl; (with_reducible repeat (first | refine zan ?_ _ | refine zaq ?_ | refine zao ?_ _)); refine zbb ?_ NB124_132.out _; (with_reducible repeat (first | refine zan ?_ _ | refine zaq ?_ | refine zao ?_ _)); refine zbb ?_ NB124_132.out _; (with_reducible repeat (first | refine zan ?_ _ | refine zaq ?_ | refine zao ?_ _)); refine zbb ?_ NB124_132.out _; (with_reducible repeat (first | refine zan ?_ _ | refine zaq ?_ | refine zao ?_ _)); refine zbb ?_ NB124_132.out _; (with_reducible repeat (first | refine zan ?_ _ | refine zaq ?_ | refine zao ?_ _)); exact BK124.out) Try.underlying24 rfl (by kernel_rfl)) rfl ?_
   exact ⟨_, by first | rfl | (simp [*, zaD, zaC] <;> rfl), by (with_reducible repeat (first | apply Kd.zbo | apply Kd.zbn | apply Kd.zbu)); exact Kd.zaG (Kd.R_far (p := ⟨gb124, 3, none⟩) (Kd.R_far (p := ⟨gb124, 2, none⟩) (Kd.R_far (p := ⟨gb124, 1, none⟩) (Kd.R_far (p := ⟨gb124, 0, none⟩) (Kd.R_far (p := ⟨gb132, 3, none⟩) (Kd.R_far (p := ⟨gb132, 2, none⟩) (Kd.R_far (p := ⟨gb132, 1, none⟩) (Kd.R_far (p := ⟨gb132, 0, none⟩) (Kd.zaG (Kd.zaG HO130.out (fun k_ hk => (⟨hk, hk.2⟩ : _ ∧ k_ ≠ gb132))) (fun k_ hk => (⟨hk, hk.1.1.2⟩ : _ ∧ k_ ≠ gb124))) (fun _ hk => hk.1.2) (.int .u8 t125)) (fun _ hk => hk.1.2) (.int .u8 t126)) (fun _ hk => hk.1.2) (.int .i64 t127)) (fun _ hk => hk.1.2) (.slice Ao14 t128.length co14)) (fun _ hk => hk.2) (.int .u8 t125)) (fun _ hk => hk.2) (.int .u8 t126)) (fun _ hk => hk.2) (.int .i64 t127)) (fun _ hk => hk.2) (.slice Ao14 t128.length co14)) (fun _ hk => trivial), by repeat (first | (with_reducible first | exact HB.out | apply zac | apply zad | apply zah | refine zar ?_ GE124.out | refine zar ?_ GE132.out) | exact HB.out)⟩
mutual
def zav.l0 : Nat → List (S24) → Int → Int → Int → Int → List (S24) → Option (Int × Int × Int × (List (S24)))
 | 0, _, _, _, _, _, _ => none
 | k + 1, x3, x4, x134000, x134001, x134002, x134003 => if x4 < (x134003.length : Int) then (if 0 ≤ x4 then ((zav.f k ((zaE x134003 x4).f0) ((zaE x134003 x4).f1) ((zaE x134003 x4).f2) ((zaE x134003 x4).f3)).bind fun bt136 => (if x3.length < 3518437208883 then (zav.l0 k (x3 ++ [(⟨bt136.1, bt136.2.1, bt136.2.2.1, bt136.2.2.2⟩ : S24)]) (wrap64 (x4 + 1)) x134000 x134001 x134002 x134003) else (none))) else (none)) else (some (x134000, x134001, x134002, x3))
def zav.f : Nat → Int → Int → Int → List (S24) → Option (Int × Int × Int × (List (S24)))
 | 0, _, _, _, _ => none
 | k + 1, a0_0, a0_1, a0_2, l0_3 => if (l0_3.length : Int) = 0 then (some (a0_0, a0_1, a0_2, ([] : List (S24)))) else (zav.l0 k ([] : List (S24)) 0 a0_0 a0_1 a0_2 l0_3)
end
theorem zav.calls (k : Nat) : ∀ (a0_0 : Int) (a0_1 : Int) (a0_2 : Int) (A0_3 : Option Addr) (c0_3 : Nat) (l0_3 : List (S24)) (r1 : Int) (r2 : Int) (r3 : Int) (r4 : List (S24)) (w : World) (hr0_3 : Kd.C k24 w A0_3 l0_3.length l0_3) (hc0_3 : l0_3.length ≤ c0_3) (h : zav.f k a0_0 a0_1 a0_2 l0_3 = some (r1, r2, r3, r4)),
  Calls Try.prog 12 #[.agg #[.int .u8 a0_0, .int .u8 a0_1, .int .i64 a0_2, .slice A0_3 l0_3.length c0_3]] w fun e w' => ∃ v3_ : Value, e = .returned (.agg #[.int .u8 r1, .int .u8 r2, .int .i64 r3, v3_]) ∧ Kd.R k24 24 w' w.heap.size (fun _ => True) v3_ r4 ∧ Below w.heap.size w w' := by
 induction k using Nat.strongRecOn with
 | _ k ih =>
 intro a0_0 a0_1 a0_2 A0_3 c0_3 l0_3 r1 r2 r3 r4 w hr0_3 hc0_3 h
 cases k with
 | zero => exact absurd h (by simp [zav.f])
 | succ k =>
 simp only [zav.f] at h; have hu24 := Try.underlying24; have HR0_3 := zaa.mk hr0_3; have HC0_3 := zaa.mk hc0_3; clear hr0_3 hc0_3; have HB := zaa.mk (Below.refl w.heap.size w); have H : (if (l0_3.length : Int) = 0 then (some (a0_0, a0_1, a0_2, ([] : List (S24)))) else (zav.l0 k ([] : List (S24)) 0 a0_0 a0_1 a0_2 l0_3)) = some (r1, r2, r3, r4) := h
 clear h; by_cases c2 : (l0_3.length : Int) = 0
 ·rw [if_pos c2] at H
  have c2b0 : ((l0_3.length : Int) == 0) = true := beq_iff_eq.mpr c2; have c2b1 : ((l0_3.length : Int) != 0) = false := bne_eq_false_iff_eq.mpr c2; clear c2; simp only [Option.some.injEq, Prod.mk.injEq] at H; obtain ⟨rfl, rfl, rfl, rfl⟩ := H; go_enter Try.func12, Try.ntmps12
  go_wp2_with (first | ((with_reducible refine zaK (N := 1) rfl ?_); refine zaF ?hg (N := 1) ?hd (cs := #[.int .u8 a0_0, .int .u8 a0_1, .int .i64 a0_2, .slice A0_3 l0_3.length c0_3]) (t := 24) ?hr ?_; (case hd => rfl); (case hg => rfl); (case hr => first | (go_simp; done) | (go_simp; rfl)); intro gb133 hg w3 hbox hb; have n0_ := zaa.mk (zal (by repeat (first | exact HB.out | apply zac | apply zad | apply zah)) hb); have n1_ := zaa.mk (hbox); have n2_ := zaa.mk ((by rw [hg]; exact (zas (by repeat (first | exact HB.out | apply zac | apply zad | apply zah))) : w.heap.size ≤ gb133)); have n3_ := zaa.mk ((by rw [hg]; exact (zas (by repeat (first | exact HB.out | apply zac | apply zad | apply zah))) : w.heap.size ≤ gb133)); clear HB; have HB := n0_; have BK133 := n1_; have GW133 := n2_; have GE133 := n3_; clear n0_ n1_ n2_ n3_; clear hb hbox hg) | ((with_reducible refine zaK (N := 2) rfl ?_); refine zaF ?hg (N := 2) ?hd (cs := #[.int .u8 0, .int .u8 0, .int .i64 0, .slice none 0 0]) (t := 24) ?hr ?_; (case hd => rfl); (case hg => rfl); (case hr => first | (go_simp; done) | (go_simp; rfl)); intro gb134 hg w4 hbox hb; have n0_ := zaa.mk (zat (g := gb133) (o := .cells #[.int .u8 a0_0, .int .u8 a0_1, .int .i64 a0_2, .slice A0_3 l0_3.length c0_3] 24 (0, 0)) (by (with_reducible repeat (first | refine zan ?_ _ | refine zaq ?_ | refine zao ?_ _)); exact BK133.out) hb); have n1_ := zaa.mk (zal (by repeat (first | (with_reducible first | exact HB.out | apply zac | apply zad | apply zah | refine zar ?_ GE133.out) | exact HB.out)) hb); have n2_ := zaa.mk (hbox); have n3_ := zaa.mk ((by rw [hg]; exact (zas (by repeat (first | (with_reducible first | exact HB.out | apply zac | apply zad | apply zah | refine zar ?_ GE133.out) | exact HB.out))) : w.heap.size ≤ gb134)); have n4_ := zaa.mk ((by rw [hg]; exact (zas (by repeat (first | (with_reducible first | exact HB.out | apply zac | apply zad | apply zah | refine zar ?_ GE133.out) | exact HB.out))) : w.heap.size ≤ gb134)); have n5_ := zaa.mk ((by rw [hg]; exact Nat.ne_of_lt (zau (g := gb133) (o := .cells #[.int .u8 a0_0, .int .u8 a0_1, .int .i64 a0_2, .slice A0_3 l0_3.length c0_3] 24 (0, 0)) (by (with_reducible repeat (first | refine zan ?_ _ | refine zaq ?_ | refine zao ?_ _)); exact BK133.out)) : gb133 ≠ gb134)); have n6_ := zaa.mk ((by rw [hg]; exact Nat.ne_of_gt (zau (g := gb133) (o := .cells #[.int .u8 a0_0, .int .u8 a0_1, .int .i64 a0_2, .slice A0_3 l0_3.length c0_3] 24 (0, 0)) (by (with_reducible repeat (first | refine zan ?_ _ | refine zaq ?_ | refine zao ?_ _)); exact BK133.out)) : gb134 ≠ gb133)); clear BK133; clear HB; have BK133 := n0_; have HB := n1_; have BK134 := n2_; have GW134 := n3_; have GE134 := n4_; have NB133_134 := n5_; have NB134_133 := n6_; clear n0_ n1_ n2_ n3_ n4_ n5_ n6_; clear hb hbox hg; have hnb5 := NB133_134.out; have hnc5 := NB134_133.out; have hcz6_0 : w4.cell? ⟨gb133, 0, none⟩ = some (.int .u8 a0_0) := (zab BK133.out 0).trans rfl; have hcz6_1 : w4.cell? ⟨gb133, 1, none⟩ = some (.int .u8 a0_1) := (zab BK133.out 1).trans rfl; have hcz6_2 : w4.cell? ⟨gb133, 2, none⟩ = some (.int .i64 a0_2) := (zab BK133.out 2).trans rfl; have hcz6_3 : w4.cell? ⟨gb133, 3, none⟩ = some (.slice A0_3 l0_3.length c0_3) := (zab BK133.out 3).trans rfl; have hfz6_0 := zae BK133.out 0; have hfz6_1 := zae BK133.out 1; have hfz6_2 := zae BK133.out 2; have hfz6_3 := zae BK133.out 3; have hcz7_0 : w4.cell? ⟨gb134, 0, none⟩ = some (.int .u8 0) := (zab BK134.out 0).trans rfl; have hcz7_1 : w4.cell? ⟨gb134, 1, none⟩ = some (.int .u8 0) := (zab BK134.out 1).trans rfl; have hcz7_2 : w4.cell? ⟨gb134, 2, none⟩ = some (.int .i64 0) := (zab BK134.out 2).trans rfl; have hcz7_3 : w4.cell? ⟨gb134, 3, none⟩ = some (.slice none 0 0) := (zab BK134.out 3).trans rfl; have hfz7_0 := zae BK134.out 0; have hfz7_1 := zae BK134.out 1; have hfz7_2 := zae BK134.out 2; have hfz7_3 := zae BK134.out 3))
  refine bodyPost_ret (results_cell_row rfl _ _ gb134 24 #[.int .u8 a0_0, .int .u8 a0_1, .int .i64 a0_2, .slice none 0 0] (0, 0) _ rfl (by (with_reducible repeat (first | refine zan ?_ _ | refine zaq ?_ | refine zao ?_ _)); refine zaR (cs := #[.int .u8 a0_0, .int .u8 a0_1, .int .i64 a0_2, .slice none 0 0]) ?_ 3 _ rfl; (with_reducible repeat (first | refine zan ?_ _ | refine zaq ?_ | refine zao ?_ _)); refine zaR (cs := #[.int .u8 a0_0, .int .u8 a0_1, .int .i64 0, .slice none 0 0]) ?_ 2 _ rfl; (with_reducible repeat (first | refine zan ?_ _ | refine zaq ?_ | refine zao ?_ _)); refine zaR (cs := #[.int .u8 a0_0, .int .u8 0, .int .i64 0, .slice none 0 0]) ?_ 1 _ rfl; (with_reducible repeat (first | refine zan ?_ _ | refine zaq ?_ | refine zao ?_ _)); refine zaR (cs := #[.int .u8 0, .int .u8 0, .int .i64 0, .slice none 0 0]) ?_ 0 _ rfl; (with_reducible repeat (first | refine zan ?_ _ | refine zaq ?_ | refine zao ?_ _)); refine zbb ?_ NB134_133.out _; (with_reducible repeat (first | refine zan ?_ _ | refine zaq ?_ | refine zao ?_ _)); exact BK134.out) Try.underlying24 rfl (by kernel_rfl)) rfl ?_
  exact ⟨_, by first | rfl | (simp [*, zaD, zaC] <;> rfl), by first | exact Kd.R_nil _ _ _ _ _ | exact Kd.N_nil _ _ _ _ _ | exact Kd.V_nil _ _ _ _ _ | exact Kd.Q_nil _ _ _ _ _ | exact Kd.S_nil _ _ _ _ _, by repeat (first | (with_reducible first | exact HB.out | apply zac | apply zad | apply zah | refine zar ?_ GE133.out | refine zar ?_ GE134.out) | exact HB.out)⟩
 ·rw [if_neg c2] at H
  have c2b0 : ((l0_3.length : Int) == 0) = false := beq_eq_false_iff_ne.mpr c2; have c2b1 : ((l0_3.length : Int) != 0) = true := bne_iff_ne.mpr c2; have c2b2 : ¬ (l0_3 = []) := fun h_ => c2 (by rw [h_]; rfl)
  have H' := zaa.mk H; clear H; go_enter Try.func12, Try.ntmps12
  go_wp2_with (first | ((with_reducible refine zaK (N := 1) rfl ?_); refine zaF ?hg (N := 1) ?hd (cs := #[.int .u8 a0_0, .int .u8 a0_1, .int .i64 a0_2, .slice A0_3 l0_3.length c0_3]) (t := 24) ?hr ?_; (case hd => rfl); (case hg => rfl); (case hr => first | (go_simp; done) | (go_simp; rfl)); intro gb133 hg w8 hbox hb; have n0_ := zaa.mk (zal (by repeat (first | exact HB.out | apply zac | apply zad | apply zah)) hb); have n1_ := zaa.mk (hbox); have n2_ := zaa.mk ((by rw [hg]; exact (zas (by repeat (first | exact HB.out | apply zac | apply zad | apply zah))) : w.heap.size ≤ gb133)); have n3_ := zaa.mk ((by rw [hg]; exact (zas (by repeat (first | exact HB.out | apply zac | apply zad | apply zah))) : w.heap.size ≤ gb133)); clear HB; have HB := n0_; have BK133 := n1_; have GW133 := n2_; have GE133 := n3_; clear n0_ n1_ n2_ n3_; clear hb hbox hg) | ((with_reducible refine zaK (N := 2) rfl ?_); refine zaF ?hg (N := 2) ?hd (cs := #[.int .u8 0, .int .u8 0, .int .i64 0, .slice none 0 0]) (t := 24) ?hr ?_; (case hd => rfl); (case hg => rfl); (case hr => first | (go_simp; done) | (go_simp; rfl)); intro gb134 hg w9 hbox hb; have n0_ := zaa.mk (zat (g := gb133) (o := .cells #[.int .u8 a0_0, .int .u8 a0_1, .int .i64 a0_2, .slice A0_3 l0_3.length c0_3] 24 (0, 0)) (by (with_reducible repeat (first | refine zan ?_ _ | refine zaq ?_ | refine zao ?_ _)); exact BK133.out) hb); have n1_ := zaa.mk (zal (by repeat (first | (with_reducible first | exact HB.out | apply zac | apply zad | apply zah | refine zar ?_ GE133.out) | exact HB.out)) hb); have n2_ := zaa.mk (hbox); have n3_ := zaa.mk ((by rw [hg]; exact (zas (by repeat (first | (with_reducible first | exact HB.out | apply zac | apply zad | apply zah | refine zar ?_ GE133.out) | exact HB.out))) : w.heap.size ≤ gb134)); have n4_ := zaa.mk ((by rw [hg]; exact (zas (by repeat (first | (with_reducible first | exact HB.out | apply zac | apply zad | apply zah | refine zar ?_ GE133.out) | exact HB.out))) : w.heap.size ≤ gb134)); have n5_ := zaa.mk ((by rw [hg]; exact Nat.ne_of_lt (zau (g := gb133) (o := .cells #[.int .u8 a0_0, .int .u8 a0_1, .int .i64 a0_2, .slice A0_3 l0_3.length c0_3] 24 (0, 0)) (by (with_reducible repeat (first | refine zan ?_ _ | refine zaq ?_ | refine zao ?_ _)); exact BK133.out)) : gb133 ≠ gb134)); have n6_ := zaa.mk ((by rw [hg]; exact Nat.ne_of_gt (zau (g := gb133) (o := .cells #[.int .u8 a0_0, .int .u8 a0_1, .int .i64 a0_2, .slice A0_3 l0_3.length c0_3] 24 (0, 0)) (by (with_reducible repeat (first | refine zan ?_ _ | refine zaq ?_ | refine zao ?_ _)); exact BK133.out)) : gb134 ≠ gb133)); clear BK133; clear HB; have BK133 := n0_; have HB := n1_; have BK134 := n2_; have GW134 := n3_; have GE134 := n4_; have NB133_134 := n5_; have NB134_133 := n6_; clear n0_ n1_ n2_ n3_ n4_ n5_ n6_; clear hb hbox hg; have hnb10 := NB133_134.out; have hnc10 := NB134_133.out; have hcz11_0 : w9.cell? ⟨gb133, 0, none⟩ = some (.int .u8 a0_0) := (zab BK133.out 0).trans rfl; have hcz11_1 : w9.cell? ⟨gb133, 1, none⟩ = some (.int .u8 a0_1) := (zab BK133.out 1).trans rfl; have hcz11_2 : w9.cell? ⟨gb133, 2, none⟩ = some (.int .i64 a0_2) := (zab BK133.out 2).trans rfl; have hcz11_3 : w9.cell? ⟨gb133, 3, none⟩ = some (.slice A0_3 l0_3.length c0_3) := (zab BK133.out 3).trans rfl; have hfz11_0 := zae BK133.out 0; have hfz11_1 := zae BK133.out 1; have hfz11_2 := zae BK133.out 2; have hfz11_3 := zae BK133.out 3))
  go_loopg [3, 4] k (fun kq v3 v4 w' => ∃ (x3_1 : List (S24)) (x4_1 : Int), v4 = .int .i64 x4_1 ∧ zaa (zav.l0 kq x3_1 x4_1 a0_0 a0_1 a0_2 l0_3 = some (r1, r2, r3, r4)) ∧ zaa (kq ≤ k) ∧ zaa (Kd.R k24 24 w' w.heap.size (fun k_ => k_ ≠ gb133 ∧ k_ ≠ gb134) v3 x3_1) ∧ zaa (w'.heap[gb133]? = some (.cells #[.int .u8 a0_0, .int .u8 a0_1, .int .i64 a0_2, (.slice A0_3 l0_3.length c0_3)] 24 (0, 0))) ∧ zaa (w'.heap[gb134]? = some (.cells #[.int .u8 0, .int .u8 0, .int .i64 0, (.slice none 0 0)] 24 (0, 0))) ∧ zaa (Below w.heap.size w w'))
  case atStart => exact ⟨(([] : List (S24))), (0), (by first | rfl | (simp; done) | simp [*]), H', ⟨Nat.le_refl _⟩, ⟨by first | exact Kd.R_nil _ _ _ _ _ | exact Kd.N_nil _ _ _ _ _ | exact Kd.V_nil _ _ _ _ _ | exact Kd.Q_nil _ _ _ _ _ | exact Kd.S_nil _ _ _ _ _⟩, ⟨by (with_reducible repeat (first | refine zan ?_ _ | refine zaq ?_ | refine zao ?_ _)); exact BK133.out⟩, ⟨by (with_reducible repeat (first | refine zan ?_ _ | refine zaq ?_ | refine zao ?_ _)); exact BK134.out⟩, ⟨by repeat (first | (with_reducible first | exact HB.out | apply zac | apply zad | apply zah | refine zar ?_ GE133.out | refine zar ?_ GE134.out) | exact HB.out)⟩⟩
  case round =>
   clear H'; try clear c1
   try clear c2
   try clear c2b0
   try clear c2b1
   try clear c2b2
   try clear p2
   try clear c5
   try clear c10
   try clear hcz11_0
   try clear hcz11_1
   try clear hcz11_2
   try clear hcz11_3
   try clear hcz6_0
   try clear hcz6_1
   try clear hcz6_2
   try clear hcz6_3
   try clear hcz7_0
   try clear hcz7_1
   try clear hcz7_2
   try clear hcz7_3
   try clear hfz11_0
   try clear hfz11_1
   try clear hfz11_2
   try clear hfz11_3
   try clear hfz6_0
   try clear hfz6_1
   try clear hfz6_2
   try clear hfz6_3
   try clear hfz7_0
   try clear hfz7_1
   try clear hfz7_2
   try clear hfz7_3
   obtain ⟨x3_1, x4_1, rfl, HA, HK1, HO_3, BK133, BK134, HB⟩ := hrel; cases gk with
   | zero => exact absurd HA.out (by simp [zav.l0])
   | succ k1 =>
    have H := HA.out; clear HA; simp only [zav.l0] at H; by_cases c12 : x4_1 < (l0_3.length : Int)
    ·rw [if_pos c12] at H
     have c12b0 : decide (x4_1 < (l0_3.length : Int)) = true := decide_eq_true c12; clear c12; by_cases c13 : 0 ≤ x4_1
     ·rw [if_pos c13] at H
      have c13b0 : decide (0 ≤ x4_1) = true := decide_eq_true c13; clear c13; replace H := Option.bind_eq_some_iff.mp H; obtain ⟨⟨t136, t137, t138, t139⟩, A140, H⟩ := H; replace H : (if x3_1.length < 3518437208883 then (zav.l0 k1 (x3_1 ++ [(⟨t136, t137, t138, t139⟩ : S24)]) (wrap64 (x4_1 + 1)) a0_0 a0_1 a0_2 l0_3) else (none)) = some (r1, r2, r3, r4) := H
      have A14 := zaa.mk A140; clear A140; by_cases c15 : x3_1.length < 3518437208883
      ·rw [if_pos c15] at H
       have LMc15 := zaa.mk c15; clear c15; obtain ⟨y142, hy142⟩ : ∃ y_ : List (S24), y_ = (x3_1 ++ [(⟨t136, t137, t138, t139⟩ : S24)]) := ⟨_, rfl⟩; replace H : (zav.l0 k1 y142 (wrap64 (x4_1 + 1)) a0_0 a0_1 a0_2 l0_3) = some (r1, r2, r3, r4) := by first | (rw [hy142]; with_reducible exact H) | (have H2_ := (Option.bind_some _ _).symm.trans H; rw [hy142]; with_reducible exact H2_) | (have H2_ := (Option.bind_some _ _).symm.trans H; with_reducible exact H2_) | with_reducible exact H | (rw [hy142]; exact H) | exact H
       have Ny142 := zaa.mk hy142; clear hy142; have H' := zaa.mk H; clear H; have hnb16 := NB133_134.out; have hnc16 := NB134_133.out; have hcz17_0 : wr.cell? ⟨gb133, 0, none⟩ = some (.int .u8 a0_0) := (zab BK133.out 0).trans rfl; have hcz17_1 : wr.cell? ⟨gb133, 1, none⟩ = some (.int .u8 a0_1) := (zab BK133.out 1).trans rfl; have hcz17_2 : wr.cell? ⟨gb133, 2, none⟩ = some (.int .i64 a0_2) := (zab BK133.out 2).trans rfl; have hcz17_3 : wr.cell? ⟨gb133, 3, none⟩ = some (.slice A0_3 l0_3.length c0_3) := (zab BK133.out 3).trans rfl; have hfz17_0 := zae BK133.out 0; have hfz17_1 := zae BK133.out 1; have hfz17_2 := zae BK133.out 2; have hfz17_3 := zae BK133.out 3; have p135 : 0 ≤ (x4_1 : Int) := of_decide_eq_true (by assumption)
       have q135 : x4_1 < (l0_3.length : Int) := of_decide_eq_true (by assumption)
       obtain ⟨ad135, A135_3, c135_3, e135, hx135_0, hx135_1, hx135_2, hx135_3, hl135_3, hi135_3⟩ := at_T24 HR0_3.out x4_1 p135 q135; cases e135; replace hx135_0 := (HB.out.cell (World.block_lt_of_cell? w _ hx135_0)).trans hx135_0; replace hx135_1 := (HB.out.cell (World.block_lt_of_cell? w _ hx135_1)).trans hx135_1; replace hx135_2 := (HB.out.cell (World.block_lt_of_cell? w _ hx135_2)).trans hx135_2; replace hx135_3 := (HB.out.cell (World.block_lt_of_cell? w _ hx135_3)).trans hx135_3; have HR135_3 := zaa.mk hi135_3; have HC135_3 := zaa.mk hl135_3; clear hi135_3 hl135_3; replace p135 := eq_true p135; replace q135 := eq_true q135; go_wp2_with (first | ((with_reducible refine zaS (f := 12) rfl ?_); refine goesL_ (some 24) rfl rfl Try.func12 (by kernel_rfl) rfl #[.agg #[.int .u8 ((zaE l0_3 x4_1).f0), .int .u8 ((zaE l0_3 x4_1).f1), .int .i64 ((zaE l0_3 x4_1).f2), .slice A135_3 ((zaE l0_3 x4_1).f3).length c135_3]] rfl (by (try simp only [List.map_toArray, List.map_cons, List.map_nil]); first | done | rfl | (simp only [List.length_drop, List.length_take]; rfl)) ?_; (with_reducible refine (ih k1 (by have := HK1.out; omega) ((zaE l0_3 x4_1).f0) ((zaE l0_3 x4_1).f1) ((zaE l0_3 x4_1).f2) _ _ ((zaE l0_3 x4_1).f3) t136 t137 t138 t139 _ ?side1 ?side2 A14.out).mono ?_); (case side1 => repeat (first | exact (Kd.zaB HR135_3.out HB.out) | (with_reducible refine Kd.C_alloc ?_ _) | (with_reducible refine Kd.C_drewN ?_ _) | (with_reducible refine Kd.C_drew ?_))); (case side2 => exact HC135_3.out); rintro e w18 ⟨v140, rfl, ho0, hb⟩; refine ⟨_, rfl, ?_⟩; have n0_ := zaa.mk (Kd.R_elder' (by (with_reducible repeat (first | apply Kd.zbo | apply Kd.zbn | apply Kd.zbu)); exact HO_3.out) (Kd.R_base ho0) hb); have n1_ := zaa.mk (Kd.R_lower (Kd.R_newB (Kd.R_newB (Kd.R_new' ho0 (Kd.R_lt (by (with_reducible repeat (first | apply Kd.zbo | apply Kd.zbn | apply Kd.zbu)); exact HO_3.out))) (g := gb133) (o := .cells #[.int .u8 a0_0, .int .u8 a0_1, .int .i64 a0_2, .slice (some ad135) l0_3.length c0_3] 24 (0, 0)) (by (with_reducible repeat (first | refine zan ?_ _ | refine zaq ?_ | refine zao ?_ _)); exact BK133.out)) (g := gb134) (o := .cells #[.int .u8 0, .int .u8 0, .int .i64 0, .slice none 0 0] 24 (0, 0)) (by (with_reducible repeat (first | refine zan ?_ _ | refine zaq ?_ | refine zao ?_ _)); exact BK134.out)) (zas (by repeat (first | (with_reducible first | exact HB.out | apply zac | apply zad | apply zah | refine zar ?_ GE133.out | refine zar ?_ GE134.out) | exact HB.out)))); have n2_ := zaa.mk (zat (g := gb133) (o := .cells #[.int .u8 a0_0, .int .u8 a0_1, .int .i64 a0_2, .slice (some ad135) l0_3.length c0_3] 24 (0, 0)) (by (with_reducible repeat (first | refine zan ?_ _ | refine zaq ?_ | refine zao ?_ _)); exact BK133.out) hb); have n3_ := zaa.mk (zat (g := gb134) (o := .cells #[.int .u8 0, .int .u8 0, .int .i64 0, .slice none 0 0] 24 (0, 0)) (by (with_reducible repeat (first | refine zan ?_ _ | refine zaq ?_ | refine zao ?_ _)); exact BK134.out) hb); have n4_ := zaa.mk (zal (by repeat (first | (with_reducible first | exact HB.out | apply zac | apply zad | apply zah | refine zar ?_ GE133.out | refine zar ?_ GE134.out) | exact HB.out)) hb); clear HO_3; clear BK133; clear BK134; clear HB; have HO_3 := n0_; have HO141 := n1_; have BK133 := n2_; have BK134 := n3_; have HB := n4_; clear n0_ n1_ n2_ n3_ n4_; (try clear hb); (try clear hb2); (try clear hk); (try clear hi); (try clear ho0); obtain ⟨Ao20, co20, eo20⟩ := Kd.zaL HO141.out; subst eo20) | ((with_reducible refine gate_builtin (b := .append) (xs := #[.tmp 18, .tmp 25]) rfl ?_); at_builtin; refine Kd.R_append k24 (w0 := w) w.heap.size rfl (.tmp 18) (.tmp 25) 22 24 (.agg #[(.int .u8 0), (.int .u8 0), (.int .i64 0), (.slice none 0 0)]) 40 rfl Try.underlying22 info24 rfl (by decide) (by omega) u3 x3_1 (⟨t136, t137, t138, t139⟩ : S24) [.int .u8 t136, .int .u8 t137, .int .i64 t138, .slice Ao20 t139.length co20] (fun k_ => k_ ≠ gb133 ∧ k_ ≠ gb134) (fun k_ => ((fun k_ => k_ ≠ gb133 ∧ k_ ≠ gb134)) k_ ∧ some k_ ≠ (u3 : Value).ownBlock) rfl rfl ?aP (fun _ hk => hk) ?aF ?aO ?aB ?aS ?aL ?_; (case aP => exact k24_mkM _ _ _ (⟨t136, t137, t138, t139⟩ : S24) (Kd.zaG (HO141.out) (fun k_ hk => ⟨⟨hk.1.2, hk.2⟩, hk.1.1.2⟩))); (case aB => exact (by repeat (first | (with_reducible first | exact HB.out | apply zac | apply zad | apply zah | refine zar ?_ GE133.out | refine zar ?_ GE134.out) | exact HB.out))); (case aF => exact (fun k_ hk => ⟨Kd.freshB (g := gb133) (o := .cells #[.int .u8 a0_0, .int .u8 a0_1, .int .i64 a0_2, .slice (some ad135) l0_3.length c0_3] 24 (0, 0)) (by (with_reducible repeat (first | refine zan ?_ _ | refine zaq ?_ | refine zao ?_ _)); exact BK133.out) k_ hk, Kd.freshB (g := gb134) (o := .cells #[.int .u8 0, .int .u8 0, .int .i64 0, .slice none 0 0] 24 (0, 0)) (by (with_reducible repeat (first | refine zan ?_ _ | refine zaq ?_ | refine zao ?_ _)); exact BK134.out) k_ hk⟩)); (case aO => exact (by (with_reducible repeat (first | apply Kd.zbo | apply Kd.zbn | apply Kd.zbu)); exact Kd.zaG HO_3.out (fun _ hk => ⟨hk.1.1, hk.1.2⟩))); (case aS => exact (zas (by repeat (first | (with_reducible first | exact HB.out | apply zac | apply zad | apply zah | refine zar ?_ GE133.out | refine zar ?_ GE134.out) | exact HB.out)))); (case aL => have := LMc15.out; omega); intro v143 w19 ho hb hg hat; rw [← Ny142.out] at ho; have n0_ := zaa.mk (blk_grown (g := gb133) (o := .cells #[.int .u8 a0_0, .int .u8 a0_1, .int .i64 a0_2, .slice (some ad135) l0_3.length c0_3] 24 (0, 0)) (by (with_reducible repeat (first | refine zan ?_ _ | refine zaq ?_ | refine zao ?_ _)); exact BK133.out) hg (Kd.R_away HO_3.out (fun _ hk => hk.1.1))); have n1_ := zaa.mk (blk_grown (g := gb134) (o := .cells #[.int .u8 0, .int .u8 0, .int .i64 0, .slice none 0 0] 24 (0, 0)) (by (with_reducible repeat (first | refine zan ?_ _ | refine zaq ?_ | refine zao ?_ _)); exact BK134.out) hg (Kd.R_away HO_3.out (fun _ hk => hk.1.2))); have n2_ := zaa.mk (hb); have n3_ := zaa.mk (ho); clear BK133; clear BK134; clear HB; clear HO_3; clear HO141; have BK133 := n0_; have BK134 := n1_; have HB := n2_; have HO144 := n3_; clear n0_ n1_ n2_ n3_; clear ho hb hg hat))
       go_roundg k1
       case measure => have := HK1.out; omega
       case rel => exact ⟨(y142), (wrap64 (x4_1 + 1)), (by first | rfl | (simp; done) | simp [*]), H', ⟨by have := HK1.out; omega⟩, ⟨by (with_reducible repeat (first | apply Kd.zbo | apply Kd.zbn | apply Kd.zbu)); exact HO144.out⟩, ⟨by (with_reducible repeat (first | refine zan ?_ _ | refine zaq ?_ | refine zao ?_ _)); exact BK133.out⟩, ⟨by (with_reducible repeat (first | refine zan ?_ _ | refine zaq ?_ | refine zao ?_ _)); exact BK134.out⟩, ⟨by repeat (first | (with_reducible first | exact HB.out | apply zac | apply zad | apply zah | refine zar ?_ GE133.out | refine zar ?_ GE134.out) | exact HB.out)⟩⟩
      ·rw [if_neg c15] at H
       exact absurd H (by simp)
     ·rw [if_neg c13] at H
      exact absurd H (by simp)
    ·rw [if_neg c12] at H
     have c12b0 : decide (x4_1 < (l0_3.length : Int)) = false := decide_eq_false c12; clear c12; simp only [Option.some.injEq, Prod.mk.injEq] at H; obtain ⟨rfl, rfl, rfl, rfl⟩ := H; have hnb21 := NB133_134.out; have hnc21 := NB134_133.out; have hcz22_0 : wr.cell? ⟨gb133, 0, none⟩ = some (.int .u8 a0_0) := (zab BK133.out 0).trans rfl; have hcz22_1 : wr.cell? ⟨gb133, 1, none⟩ = some (.int .u8 a0_1) := (zab BK133.out 1).trans rfl; have hcz22_2 : wr.cell? ⟨gb133, 2, none⟩ = some (.int .i64 a0_2) := (zab BK133.out 2).trans rfl; have hcz22_3 : wr.cell? ⟨gb133, 3, none⟩ = some (.slice A0_3 l0_3.length c0_3) := (zab BK133.out 3).trans rfl; have hfz22_0 := zae BK133.out 0; have hfz22_1 := zae BK133.out 1; have hfz22_2 := zae BK133.out 2; have hfz22_3 := zae BK133.out 3; obtain ⟨Ao23, co23, eo23⟩ := Kd.zaL HO_3.out; subst eo23; have hcz24_0 : wr.cell? ⟨gb134, 0, none⟩ = some (.int .u8 0) := (zab BK134.out 0).trans rfl; have hcz24_1 : wr.cell? ⟨gb134, 1, none⟩ = some (.int .u8 0) := (zab BK134.out 1).trans rfl; have hcz24_2 : wr.cell? ⟨gb134, 2, none⟩ = some (.int .i64 0) := (zab BK134.out 2).trans rfl; have hcz24_3 : wr.cell? ⟨gb134, 3, none⟩ = some (.slice none 0 0) := (zab BK134.out 3).trans rfl; have hfz24_0 := zae BK134.out 0; have hfz24_1 := zae BK134.out 1; have hfz24_2 := zae BK134.out 2; have hfz24_3 := zae BK134.out 3; go_wp2
     refine bodyPost_ret (results_cell_row rfl _ _ gb134 24 #[.int .u8 a0_0, .int .u8 a0_1, .int .i64 a0_2, .slice Ao23 x3_1.length co23] (0, 0) _ rfl (by (with_reducible repeat (first | refine zan ?_ _ | refine zaq ?_ | refine zao ?_ _)); refine zaR (cs := #[.int .u8 a0_0, .int .u8 a0_1, .int .i64 a0_2, .slice none 0 0]) ?_ 3 _ rfl; (with_reducible repeat (first | refine zan ?_ _ | refine zaq ?_ | refine zao ?_ _)); refine zaR (cs := #[.int .u8 a0_0, .int .u8 a0_1, .int .i64 0, .slice none 0 0]) ?_ 2 _ rfl; (with_reducible repeat (first | refine zan ?_ _ | refine zaq ?_ | refine zao ?_ _)); refine zaR (cs := #[.int .u8 a0_0, .int .u8 0, .int .i64 0, .slice none 0 0]) ?_ 1 _ rfl; (with_reducible repeat (first | refine zan ?_ _ | refine zaq ?_ | refine zao ?_ _)); refine zaR (cs := #[.int .u8 0, .int .u8 0, .int .i64 0, .slice none 0 0]) ?_ 0 _ rfl; (with_reducible repeat (first | refine zan ?_ _ | refine zaq ?_ | refine zao ?_ _)); refine zbb ?_ NB134_133.out _; (with_reducible repeat (first | refine zan ?_ _ | refine zaq ?_ | refine zao ?_ _)); exact BK134.out) Try.underlying24 rfl (by kernel_rfl)) rfl ?_
     exact ⟨_, by first | rfl | (simp [*, zaD, zaC] <;> rfl), by (with_reducible repeat (first | apply Kd.zbo | apply Kd.zbn | apply Kd.zbu)); exact Kd.zaG (Kd.R_far (p := ⟨gb134, 3, none⟩) (Kd.R_far (p := ⟨gb134, 2, none⟩) (Kd.R_far (p := ⟨gb134, 1, none⟩) (Kd.R_far (p := ⟨gb134, 0, none⟩) (Kd.R_far (p := ⟨gb133, 3, none⟩) (Kd.zaG (Kd.zaG HO_3.out (fun k_ hk => (⟨hk, hk.1⟩ : _ ∧ k_ ≠ gb133))) (fun k_ hk => (⟨hk, hk.1.2⟩ : _ ∧ k_ ≠ gb134))) (fun _ hk => hk.1.2) (.slice Ao23 x3_1.length co23)) (fun _ hk => hk.2) (.int .u8 a0_0)) (fun _ hk => hk.2) (.int .u8 a0_1)) (fun _ hk => hk.2) (.int .i64 a0_2)) (fun _ hk => hk.2) (.slice Ao23 x3_1.length co23)) (fun _ hk => trivial), by repeat (first | (with_reducible first | exact HB.out | apply zac | apply zad | apply zah | refine zar ?_ GE133.out | refine zar ?_ GE134.out) | exact HB.out)⟩
end
theorem zbc {α : Type} (d : Kd α) (e t : Nat) {X Y : World} {base n cv bytes : Nat} {ok : Nat → Prop} {Av : Option Addr} {L : List α} {z : Value} (hR : d.R e X base ok (.slice Av n cv) L) (hbase : base ≤ X.heap.size) (hfresh : ∀ k, X.heap.size ≤ k → ok k)
  (ht : Try.prog.underlying t = some (.slice e)) (hinfo : (Try.prog.info? e).map (fun i => (i.zero, i.size, i.bytes)) = some (some z, d.sz, bytes)) (hzs : z.cells.size = d.sz) (hs0 : 0 < d.sz) (hb0 : 0 < bytes) (hl : (L.length + 1) * bytes ≤ 140737488355328)
  (hbY : Below X.heap.size X Y) (p : α) (cs : List Value) (hnew : Y.heap[X.heap.size]? = some (.cells cs.toArray e (0, 0))) (hp : d.M Y base (fun _ => False) p cs) (hcs : cs.length = d.sz) (h1 : ∀ u ∈ cs, u.oneCell' = true) :
  ∃ g cap w1, (Builtin.append_ #[t, t] t #[.slice Av n cv, .slice (some ⟨X.heap.size, 0, none⟩) 1 1]).run Try.prog Y = .ok (.slice (some ⟨g, 0, none⟩) (n + 1) cap) w1 ∧
   X.grownBy w1 (Value.slice Av n cv).ownBlock ∧ ((Value.slice Av n cv).ownBlock = some g ∨ X.heap.size ≤ g) ∧ base ≤ g ∧ n = L.length ∧
   d.R e w1 base ok (.slice (some ⟨g, 0, none⟩) (n + 1) cap) (L ++ [p]) := by
 obtain ⟨i0, hi, hzz⟩ := Option.map_eq_some_iff.1 hinfo; simp only [Prod.mk.injEq] at hzz; obtain ⟨hz0, hz1, hz2⟩ := hzz; have hn : n = L.length := (Kd.zbe hR).1; have hgY : X.grownBy Y none := ⟨hbY.os, hbY.tape, hbY.output, hbY.size, fun q hq _ => hbY.block q hq⟩
 have hRY := Kd.za4 hR hbY; obtain ⟨h0, inner, hown, hr⟩ := hRY; rw [← hn] at hown; obtain ⟨v1, w1, hrun, hown1, hg1, hnil, hat⟩ := run_append_own_at (P := Try.prog) (w := Y) base t t e i0 z d.sz bytes ht hi hz0 hz1 hz2 hzs hs0 _ n inner hown ⟨X.heap.size, 0, none⟩ 1 1 cs (by rw [hcs, Nat.one_mul])
  (fun j u hu => by rw [show (⟨X.heap.size, 0, none⟩ : Addr).add j = ⟨X.heap.size, j, none⟩ by simp [Addr.add, eq_comm], zab hnew j, List.getElem?_toArray]; exact hu) h1
  (by simp only [maxLen]; rw [hn]; have : L.length + 1 ≤ (L.length + 1) * bytes := Nat.le_mul_of_pos_right _ hb0; omega) (by rw [hn]; exact hl) (Nat.le_trans hbase hbY.size)
 obtain ⟨g, cap, cur, rfl, hbg, hcur, hncap, hcapm, hcs', htake⟩ : ∃ g cap cur, v1 = .slice (some ⟨g, 0, none⟩) (n + 1) cap ∧ base ≤ g ∧ w1.heap[g]? = some (.cells cur e (0, 0)) ∧ n + 1 ≤ cap ∧ cap ≤ maxLen ∧ cur.size = cap * d.sz ∧ cur.toList.take ((n + 1) * d.sz) = inner ++ cs := by
  rcases hown1.2 with ⟨_, h⟩ | h
  ·omega
  ·exact h
 have hat' : (Value.slice (some ⟨g, 0, none⟩) (n + 1) cap).ownBlock = (Value.slice Av n cv).ownBlock ∨ ∃ b, (Value.slice (some ⟨g, 0, none⟩) (n + 1) cap).ownBlock = some b ∧ Y.heap.size ≤ b := hat.imp_right (fun h => ⟨_, h, Nat.le_refl _⟩)
 have hgX : X.grownBy w1 (Value.slice Av n cv).ownBlock := World.grownBy.trans ⟨hbY.os, hbY.tape, hbY.output, hbY.size, fun q hq _ => hbY.block q hq⟩ hg1
 have hgo : (Value.slice Av n cv).ownBlock = some g ∨ X.heap.size ≤ g := by
  rcases hat' with h | ⟨b, h, hb⟩
  ·exact .inl (by rw [← h]; rfl)
  ·simp only [Value.ownBlock, Option.some.injEq] at h
   exact .inr (by have := hbY.size; omega)
 exact ⟨g, cap, w1, hrun, hgX, hgo, hbg, hn, Kd.R_appended h0 hr hp (fun _ h => h.elim) (fun q hq => hfresh q (Nat.le_trans hbY.size hq)) (by rw [← hn]; exact hown1) hg1 hat'⟩
section
attribute [local go_sem] zbl zbj zbs min_two za9 za8 zbk zbi
def zaY.f (k : Nat) (a0 : ByteArray) (a1_0 : Int) (a1_1 : Int) (a1_2 : Int) (l1_3 : List (S24)) : Option (Bool) := if a1_0 = 51 then (if a1_2 = (a0.size : Int) then ((zaX.f k a1_0 a1_1 a1_2 l1_3).bind fun t162 => (some t162)) else (some false)) else (some false)
theorem zaY.calls (k : Nat) (a0 : ByteArray) (a1_0 : Int) (a1_1 : Int) (a1_2 : Int) (A1_3 : Option Addr) (c1_3 : Nat) (l1_3 : List (S24)) (r : Bool) (w : World) (hr1_3 : Kd.C k24 w A1_3 l1_3.length l1_3) (hc1_3 : l1_3.length ≤ c1_3) (h : zaY.f k a0 a1_0 a1_1 a1_2 l1_3 = some r) :
  Calls Try.prog 39 #[.string a0, .agg #[.int .u8 a1_0, .int .u8 a1_1, .int .i64 a1_2, .slice A1_3 l1_3.length c1_3]] w fun e w' => e = .returned (.bool r) ∧ Below w.heap.size w w' := by
 have hu24 := Try.underlying24; have HR1_3 := zaa.mk hr1_3; have HC1_3 := zaa.mk hc1_3; clear hr1_3 hc1_3; have HB := zaa.mk (Below.refl w.heap.size w); have H : (if a1_0 = 51 then (if a1_2 = (a0.size : Int) then ((zaX.f k a1_0 a1_1 a1_2 l1_3).bind fun t162 => (some t162)) else (some false)) else (some false)) = some r := h
 clear h; by_cases c3 : a1_0 = 51
 ·rw [if_pos c3] at H
  have c3b0 : (a1_0 == 51) = true := beq_iff_eq.mpr c3; have c3b1 : (a1_0 != 51) = false := bne_eq_false_iff_eq.mpr c3; clear c3; by_cases c4 : a1_2 = (a0.size : Int)
  ·rw [if_pos c4] at H
   have c4b0 : (a1_2 == (a0.size : Int)) = true := beq_iff_eq.mpr c4; have c4b1 : (a1_2 != (a0.size : Int)) = false := bne_eq_false_iff_eq.mpr c4; clear c4; replace H := Option.bind_eq_some_iff.mp H; obtain ⟨t162, A50, H⟩ := H; replace H : (some t162) = some r := H; have A5 := zaa.mk A50; clear A50; obtain rfl := Option.some.inj H; go_enter Try.func39, Try.ntmps39
   go_wp2_with (first | ((with_reducible refine zaK (N := 3) rfl ?_); (try (refine gate_guard (by rfl) ?_; dsimp only)); refine zaF ?hg (N := 3) ?hd (cs := #[.int .u8 a1_0, .int .u8 a1_1, .int .i64 a1_2, .slice A1_3 l1_3.length c1_3]) (t := 24) ?hr ?_; (case hd => rfl); (case hg => rfl); (case hr => first | (go_simp; done) | (go_simp; rfl)); intro gb161 hg w6 hbox hb; have n0_ := zaa.mk (zal (by repeat (first | exact HB.out | apply zac | apply zad | apply zah)) hb); have n1_ := zaa.mk (hbox); have n2_ := zaa.mk ((by rw [hg]; exact (zas (by repeat (first | exact HB.out | apply zac | apply zad | apply zah))) : w.heap.size ≤ gb161)); have n3_ := zaa.mk ((by rw [hg]; exact (zas (by repeat (first | exact HB.out | apply zac | apply zad | apply zah))) : w.heap.size ≤ gb161)); clear HB; have HB := n0_; have BK161 := n1_; have GW161 := n2_; have GE161 := n3_; clear n0_ n1_ n2_ n3_; clear hb hbox hg; have hcz7_0 : w6.cell? ⟨gb161, 0, none⟩ = some (.int .u8 a1_0) := (zab BK161.out 0).trans rfl; have hcz7_1 : w6.cell? ⟨gb161, 1, none⟩ = some (.int .u8 a1_1) := (zab BK161.out 1).trans rfl; have hcz7_2 : w6.cell? ⟨gb161, 2, none⟩ = some (.int .i64 a1_2) := (zab BK161.out 2).trans rfl; have hcz7_3 : w6.cell? ⟨gb161, 3, none⟩ = some (.slice A1_3 l1_3.length c1_3) := (zab BK161.out 3).trans rfl; have hfz7_0 := zae BK161.out 0; have hfz7_1 := zae BK161.out 1; have hfz7_2 := zae BK161.out 2; have hfz7_3 := zae BK161.out 3) | (go_at_call 54; (with_reducible refine (zaX.calls k a1_0 a1_1 a1_2 _ _ l1_3 t162 _ ?side1 ?side2 A5.out).mono ?_); (case side1 => repeat (first | exact (Kd.zaB HR1_3.out HB.out) | (with_reducible refine Kd.C_alloc ?_ _) | (with_reducible refine Kd.C_drewN ?_ _) | (with_reducible refine Kd.C_drew ?_))); (case side2 => exact HC1_3.out); rintro e w8 ⟨rfl, hb⟩; have n0_ := zaa.mk (zat (g := gb161) (o := .cells #[.int .u8 a1_0, .int .u8 a1_1, .int .i64 a1_2, .slice A1_3 l1_3.length c1_3] 24 (0, 0)) (by (with_reducible repeat (first | refine zan ?_ _ | refine zaq ?_ | refine zao ?_ _)); exact BK161.out) hb); have n1_ := zaa.mk (zal (by repeat (first | (with_reducible first | exact HB.out | apply zac | apply zad | apply zah | refine zar ?_ GE161.out) | exact HB.out)) hb); clear BK161; clear HB; have BK161 := n0_; have HB := n1_; clear n0_ n1_; (try clear hb); (try clear hb2); (try clear hk); (try clear hi)))
   go_ret
   exact ⟨by first | rfl | (simp [*, zaD, zaC] <;> rfl), by repeat (first | (with_reducible first | exact HB.out | apply zac | apply zad | apply zah | refine zar ?_ GE161.out) | exact HB.out)⟩
  ·rw [if_neg c4] at H
   have c4b0 : (a1_2 == (a0.size : Int)) = false := beq_eq_false_iff_ne.mpr c4; have c4b1 : (a1_2 != (a0.size : Int)) = true := bne_iff_ne.mpr c4; obtain rfl := Option.some.inj H; go_enter Try.func39, Try.ntmps39
   go_wp2_with (first | ((with_reducible refine zaK (N := 3) rfl ?_); (try (refine gate_guard (by rfl) ?_; dsimp only)); refine zaF ?hg (N := 3) ?hd (cs := #[.int .u8 a1_0, .int .u8 a1_1, .int .i64 a1_2, .slice A1_3 l1_3.length c1_3]) (t := 24) ?hr ?_; (case hd => rfl); (case hg => rfl); (case hr => first | (go_simp; done) | (go_simp; rfl)); intro gb161 hg w9 hbox hb; have n0_ := zaa.mk (zal (by repeat (first | exact HB.out | apply zac | apply zad | apply zah)) hb); have n1_ := zaa.mk (hbox); have n2_ := zaa.mk ((by rw [hg]; exact (zas (by repeat (first | exact HB.out | apply zac | apply zad | apply zah))) : w.heap.size ≤ gb161)); have n3_ := zaa.mk ((by rw [hg]; exact (zas (by repeat (first | exact HB.out | apply zac | apply zad | apply zah))) : w.heap.size ≤ gb161)); clear HB; have HB := n0_; have BK161 := n1_; have GW161 := n2_; have GE161 := n3_; clear n0_ n1_ n2_ n3_; clear hb hbox hg; have hcz10_0 : w9.cell? ⟨gb161, 0, none⟩ = some (.int .u8 a1_0) := (zab BK161.out 0).trans rfl; have hcz10_1 : w9.cell? ⟨gb161, 1, none⟩ = some (.int .u8 a1_1) := (zab BK161.out 1).trans rfl; have hcz10_2 : w9.cell? ⟨gb161, 2, none⟩ = some (.int .i64 a1_2) := (zab BK161.out 2).trans rfl; have hcz10_3 : w9.cell? ⟨gb161, 3, none⟩ = some (.slice A1_3 l1_3.length c1_3) := (zab BK161.out 3).trans rfl; have hfz10_0 := zae BK161.out 0; have hfz10_1 := zae BK161.out 1; have hfz10_2 := zae BK161.out 2; have hfz10_3 := zae BK161.out 3))
   go_ret
   exact ⟨by first | rfl | (simp [*, zaD, zaC] <;> rfl), by repeat (first | (with_reducible first | exact HB.out | apply zac | apply zad | apply zah | refine zar ?_ GE161.out) | exact HB.out)⟩
 ·rw [if_neg c3] at H
  have c3b0 : (a1_0 == 51) = false := beq_eq_false_iff_ne.mpr c3; have c3b1 : (a1_0 != 51) = true := bne_iff_ne.mpr c3; obtain rfl := Option.some.inj H; go_enter Try.func39, Try.ntmps39
  go_wp2_with (first | ((with_reducible refine zaK (N := 3) rfl ?_); (try (refine gate_guard (by rfl) ?_; dsimp only)); refine zaF ?hg (N := 3) ?hd (cs := #[.int .u8 a1_0, .int .u8 a1_1, .int .i64 a1_2, .slice A1_3 l1_3.length c1_3]) (t := 24) ?hr ?_; (case hd => rfl); (case hg => rfl); (case hr => first | (go_simp; done) | (go_simp; rfl)); intro gb161 hg w11 hbox hb; have n0_ := zaa.mk (zal (by repeat (first | exact HB.out | apply zac | apply zad | apply zah)) hb); have n1_ := zaa.mk (hbox); have n2_ := zaa.mk ((by rw [hg]; exact (zas (by repeat (first | exact HB.out | apply zac | apply zad | apply zah))) : w.heap.size ≤ gb161)); have n3_ := zaa.mk ((by rw [hg]; exact (zas (by repeat (first | exact HB.out | apply zac | apply zad | apply zah))) : w.heap.size ≤ gb161)); clear HB; have HB := n0_; have BK161 := n1_; have GW161 := n2_; have GE161 := n3_; clear n0_ n1_ n2_ n3_; clear hb hbox hg; have hcz12_0 : w11.cell? ⟨gb161, 0, none⟩ = some (.int .u8 a1_0) := (zab BK161.out 0).trans rfl; have hcz12_1 : w11.cell? ⟨gb161, 1, none⟩ = some (.int .u8 a1_1) := (zab BK161.out 1).trans rfl; have hcz12_2 : w11.cell? ⟨gb161, 2, none⟩ = some (.int .i64 a1_2) := (zab BK161.out 2).trans rfl; have hcz12_3 : w11.cell? ⟨gb161, 3, none⟩ = some (.slice A1_3 l1_3.length c1_3) := (zab BK161.out 3).trans rfl; have hfz12_0 := zae BK161.out 0; have hfz12_1 := zae BK161.out 1; have hfz12_2 := zae BK161.out 2; have hfz12_3 := zae BK161.out 3))
  go_ret
  exact ⟨by first | rfl | (simp [*, zaD, zaC] <;> rfl), by repeat (first | (with_reducible first | exact HB.out | apply zac | apply zad | apply zah | refine zar ?_ GE161.out) | exact HB.out)⟩
end
end Go.Proofs.Ytobgkpnigjfhmaa.H
