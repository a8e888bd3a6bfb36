/- Texts of this claim, merged. -/
import Derived.Test.YtobgkpnigjfhmaaDoorZ1
import Derived.Test.YtobgkpnigjfhmaaDoorProg
set_option maxRecDepth 100000
set_option maxHeartbeats 8000000
set_option linter.unusedVariables false
set_option linter.unusedSimpArgs false
namespace Go.Proofs.YtobgkpnigjfhmaaDoor.H
open Go.RowKit Go.Proofs.YtobgkpnigjfhmaaDoorW.PrintWords Go.Proofs.YtobgkpnigjfhmaaDoorW.PrintLast Go.Proofs.YtobgkpnigjfhmaaDoorW.PrintMore
section
attribute [local go_sem] zbi zbg zbs zbr za8 za7 zbh zbf
def errW : Option Int → Value
 | none => .nilIface
 | some c => .iface 0 (.int .i64 c)
theorem zaz : errW none = .nilIface := rfl
theorem zay (c : Int) : errW (some c) = .iface 0 (.int .i64 c) := rfl
theorem info29 : (Tryd.prog.info? 29).map (fun i => (i.zero, i.size, i.bytes)) = some (some (.agg #[(.int .u8 0), (.int .u8 0), (.int .i64 0), (.slice none 0 0)]), 4, 40) := by kernel_rfl
theorem info43 : (Tryd.prog.info? 43).map (fun i => (i.zero, i.size, i.bytes)) = some (some (.agg #[(.int .i64 0), (.int .i64 0), (.int .i64 0)]), 3, 24) := by kernel_rfl
theorem info63 : (Tryd.prog.info? 63).map (fun i => (i.zero, i.size, i.bytes)) = some (some (.agg #[(.int .u8 0), (.int .i64 0), (.int .i64 0)]), 3, 24) := by kernel_rfl
theorem info72 : (Tryd.prog.info? 72).map (fun i => (i.zero, i.size, i.bytes)) = some (some (.agg #[(.int .i64 0), (.int .i64 0), (.int .u8 0), (.bool false)]), 4, 24) := by kernel_rfl
structure S80 where
 f0 : Int
 f1 : Int
 f2 : Int
 f3 : Int
def z80 : S80 := ⟨(0 : Int), (0 : Int), (0 : Int), (0 : Int)⟩
def k80 : Kd S80 := Kd.iso (Kd.pair (Kd.int .i64) (Kd.pair (Kd.int .u8) (Kd.pair (Kd.int .u8) (Kd.int .i64)))) (fun x : S80 => (x.f0, x.f1, x.f2, x.f3))
def rd_T80 (xs : List S80) (i : Int) : S80 := xs.getD i.toNat z80
structure S29 where
 f0 : Int
 f1 : Int
 f2 : Int
 f3 : (List S29)
def z29 : S29 := ⟨(0 : Int), (0 : Int), (0 : Int), ([] : List S29)⟩
def F29 (d : Kd S29) : Kd S29 := Kd.iso (Kd.pair (Kd.int .u8) (Kd.pair (Kd.int .u8) (Kd.pair (Kd.int .i64) (Kd.slice 29 d)))) (fun x : S29 => (x.f0, x.f1, x.f2, x.f3))
theorem mono29 : Kd.Mono F29 := Kd.mono_iso _ (Kd.mono_pair (Kd.mono_const _) (Kd.mono_pair (Kd.mono_const _) (Kd.mono_pair (Kd.mono_const _) (Kd.mono_slice 29 Kd.mono_id))))
theorem sub29 : Kd.Sub F29 [29] := Kd.sub_iso _ (Kd.sub_pair (Kd.sub_const _ (by decide)) (Kd.sub_pair (Kd.sub_const _ (by decide)) (Kd.sub_pair (Kd.sub_const _ (by decide)) (Kd.sub_slice 29 (by decide) Kd.sub_id))))
theorem sz29 : ∀ n, (Kd.upto F29 4 [29] n).sz = 4 := Kd.upto_sz (fun _ => rfl)
def k29 : Kd S29 := Kd.fix F29 4 [29] sz29 (Kd.upto_E sub29)
theorem k29_heap : Kd.Heap k29 := Kd.heap_fix (fun _ h_ => Kd.heap_iso _ (Kd.heap_pair (Kd.heap_int .u8) (Kd.heap_pair (Kd.heap_int .u8) (Kd.heap_pair (Kd.heap_int .i64) (Kd.heap_slice 29 h_)))))
theorem k29_open {w : World} {x : S29} {cs : List Value} (h : k29.K w x cs) : ∃ A3 c3, cs = [.int .u8 x.f0, .int .u8 x.f1, .int .i64 x.f2, .slice A3 x.f3.length c3] ∧ x.f3.length ≤ c3 ∧ k29.C w A3 x.f3.length x.f3 := by
 obtain ⟨n, h⟩ := h; cases n with
 | zero => exact h.elim
 | succ n =>
  obtain ⟨_, _, rfl, rfl, ⟨_, _, rfl, rfl, ⟨_, _, rfl, rfl, ⟨A3, c3, rfl, l3, g3⟩⟩⟩⟩ := h; exact ⟨A3, c3, rfl, l3, Kd.fix_C g3⟩
theorem k29_mk (w : World) (x : S29) {A3 : Option Addr} {c3 : Nat} (l3 : x.f3.length ≤ c3) (g3 : k29.C w A3 x.f3.length x.f3) : k29.K w x [.int .u8 x.f0, .int .u8 x.f1, .int .i64 x.f2, .slice A3 x.f3.length c3] := by
 obtain ⟨n3, q3⟩ := Kd.fix_C_back mono29 g3; have r3 := Kd.upto_C_le mono29 sz29 (show n3 ≤ n3 by omega) q3
 exact ⟨n3 + 1, ⟨[.int .u8 x.f0], [.int .u8 x.f1, .int .i64 x.f2, .slice A3 x.f3.length c3], rfl, rfl, ⟨[.int .u8 x.f1], [.int .i64 x.f2, .slice A3 x.f3.length c3], rfl, rfl, ⟨[.int .i64 x.f2], [.slice A3 x.f3.length c3], rfl, rfl, ⟨A3, c3, rfl, l3, r3⟩⟩⟩⟩⟩
theorem k29_mkM (w : World) (base : Nat) (ok : Nat → Prop) (x : S29) {v3 : Value} (g3 : k29.R 29 w base ok v3 x.f3) : k29.M w base ok x [.int .u8 x.f0, .int .u8 x.f1, .int .i64 x.f2, v3] := by
 obtain ⟨n3, q3⟩ := Kd.fix_R_back mono29 g3; have r3 := Kd.upto_R_le mono29 sz29 (show n3 ≤ n3 by omega) q3
 exact ⟨n3 + 1, ⟨[.int .u8 x.f0], [.int .u8 x.f1, .int .i64 x.f2, v3], rfl, rfl, ⟨[.int .u8 x.f1], [.int .i64 x.f2, v3], rfl, rfl, ⟨[.int .i64 x.f2], [v3], rfl, rfl, ⟨v3, rfl, r3⟩⟩⟩⟩⟩
theorem k29_openF {W : World} {ok : Nat → Prop} {x : S29} {cs : List Value} (h : Kd.FK k29 W ok x cs) : ∃ A3 c3, cs = [.int .u8 x.f0, .int .u8 x.f1, .int .i64 x.f2, .slice A3 x.f3.length c3] ∧ x.f3.length ≤ c3 ∧ Kd.F k29 W ok A3 x.f3.length x.f3 := by
 obtain ⟨A3, c3, rfl, l3, _⟩ := k29_open (Kd.FK_now h); exact ⟨A3, c3, rfl, l3, (fun W' hW => by obtain ⟨A3_, c3_, he, l3_, g3_⟩ := k29_open (h W' hW); injection (Option.some.inj (show some (Value.slice A3 x.f3.length c3) = some (Value.slice A3_ x.f3.length c3_) from congrArg (fun l => l[3]?) he)) with ha_ _ _; rw [ha_]; exact g3_)⟩
theorem k29_mkF (W : World) (ok : Nat → Prop) (x : S29) {A3 : Option Addr} {c3 : Nat} (l3 : x.f3.length ≤ c3) (g3 : Kd.F k29 W ok A3 x.f3.length x.f3) : Kd.FK k29 W ok x [.int .u8 x.f0, .int .u8 x.f1, .int .i64 x.f2, .slice A3 x.f3.length c3] := fun W2 hW => k29_mk W2 x l3 (g3 W2 hW)
def zbc (xs : List S29) (i : Int) : S29 := xs.getD i.toNat z29
theorem at_T29 {w : World} {A : Option Addr} {n : Nat} {xs : List S29} (h : Kd.C k29 w A n xs) (i : Int) (h0 : 0 ≤ i) (h1 : i < n) : ∃ ad A3 c3, A = some ad ∧ w.cell? (ad.add (i.toNat * 4)) = some (.int .u8 (zbc xs i).f0) ∧ w.cell? ⟨(ad.add (i.toNat * 4)).block, (ad.add (i.toNat * 4)).off + 1, none⟩ = some (.int .u8 (zbc xs i).f1) ∧ w.cell? ⟨(ad.add (i.toNat * 4)).block, (ad.add (i.toNat * 4)).off + 2, none⟩ = some (.int .i64 (zbc xs i).f2) ∧ w.cell? ⟨(ad.add (i.toNat * 4)).block, (ad.add (i.toNat * 4)).off + 3, none⟩ = some (.slice A3 (zbc xs i).f3.length c3) ∧ (zbc xs i).f3.length ≤ c3 ∧ k29.C w A3 (zbc xs i).f3.length (zbc xs i).f3 := by
 obtain ⟨ad, c, e, _, hK, hc0⟩ := Kd.C_get h z29 i h0 h1; have hc : ∀ j u, c[j]? = some u → w.cell? (ad.add (i.toNat * 4 + j)) = some u := hc0; obtain ⟨A3, c3, rfl, l3, g3⟩ := k29_open hK; exact ⟨ad, A3, c3, e, hc 0 _ rfl, by rw [← zba _ _ 1 (by omega)]; exact hc 1 _ rfl, by rw [← zba _ _ 2 (by omega)]; exact hc 2 _ rfl, by rw [← zba _ _ 3 (by omega)]; exact hc 3 _ rfl, l3, g3⟩
structure S41 where
 f0 : Int
 f1 : Int
def z41 : S41 := ⟨(0 : Int), (0 : Int)⟩
def k41 : Kd S41 := Kd.iso (Kd.pair (Kd.int .i64) (Kd.int .i64)) (fun x : S41 => (x.f0, x.f1))
theorem k41_open {w : World} {x : S41} {cs : List Value} (h : k41.K w x cs) : cs = [.int .i64 x.f0, .int .i64 x.f1] := by
 obtain ⟨_, _, rfl, rfl, rfl⟩ := h; exact rfl
theorem k41_openM {w : World} {base : Nat} {ok : Nat → Prop} {x : S41} {cs : List Value} (h : k41.M w base ok x cs) : cs = [.int .i64 x.f0, .int .i64 x.f1] := by
 obtain ⟨_, _, rfl, rfl, rfl⟩ := h; exact rfl
theorem k41_mk (w : World) (x : S41)  : k41.K w x [.int .i64 x.f0, .int .i64 x.f1] := ⟨[.int .i64 x.f0], [.int .i64 x.f1], rfl, rfl, rfl⟩
theorem k41_mkM (w : World) (base : Nat) (ok : Nat → Prop) (x : S41)  : k41.M w base ok x [.int .i64 x.f0, .int .i64 x.f1] := ⟨[.int .i64 x.f0], [.int .i64 x.f1], rfl, rfl, rfl⟩
def rd_T41 (xs : List S41) (i : Int) : S41 := xs.getD i.toNat z41
theorem at_T41 {w : World} {A : Option Addr} {n : Nat} {xs : List S41} (h : Kd.C k41 w A n xs) (i : Int) (h0 : 0 ≤ i) (h1 : i < n) : ∃ ad , A = some ad ∧ w.cell? (ad.add (i.toNat * 2)) = some (.int .i64 (rd_T41 xs i).f0) ∧ w.cell? ⟨(ad.add (i.toNat * 2)).block, (ad.add (i.toNat * 2)).off + 1, none⟩ = some (.int .i64 (rd_T41 xs i).f1) := by
 obtain ⟨ad, c, e, _, hK, hc0⟩ := Kd.C_get h z41 i h0 h1; have hc : ∀ j u, c[j]? = some u → w.cell? (ad.add (i.toNat * 2 + j)) = some u := hc0; obtain rfl := k41_open hK; exact ⟨ad, e, hc 0 _ rfl, by rw [← zba _ _ 1 (by omega)]; exact hc 1 _ rfl⟩
structure S85 where
 f0 : S29
 f1 : S41
 f2 : Int
def z85 : S85 := ⟨z29, z41, (0 : Int)⟩
def k85 : Kd S85 := Kd.iso (Kd.pair k29 (Kd.pair k41 (Kd.int .i64))) (fun x : S85 => (x.f0, x.f1, x.f2))
theorem k85_open {w : World} {x : S85} {cs : List Value} (h : k85.K w x cs) : ∃ A3 c3, cs = [.int .u8 x.f0.f0, .int .u8 x.f0.f1, .int .i64 x.f0.f2, .slice A3 x.f0.f3.length c3, .int .i64 x.f1.f0, .int .i64 x.f1.f1, .int .i64 x.f2] ∧ x.f0.f3.length ≤ c3 ∧ k29.C w A3 x.f0.f3.length x.f0.f3 := by
 obtain ⟨_, _, rfl, s0, ⟨_, _, rfl, s4, rfl⟩⟩ := h; obtain ⟨A3, c3, rfl, l3, g3⟩ := k29_open s0; obtain rfl := k41_open s4; exact ⟨A3, c3, rfl, l3, g3⟩
theorem k85_mk (w : World) (x : S85) {A3 : Option Addr} {c3 : Nat} (l3 : x.f0.f3.length ≤ c3) (g3 : k29.C w A3 x.f0.f3.length x.f0.f3) : k85.K w x [.int .u8 x.f0.f0, .int .u8 x.f0.f1, .int .i64 x.f0.f2, .slice A3 x.f0.f3.length c3, .int .i64 x.f1.f0, .int .i64 x.f1.f1, .int .i64 x.f2] := ⟨[.int .u8 x.f0.f0, .int .u8 x.f0.f1, .int .i64 x.f0.f2, .slice A3 x.f0.f3.length c3], [.int .i64 x.f1.f0, .int .i64 x.f1.f1, .int .i64 x.f2], rfl, (k29_mk w x.f0 l3 g3), ⟨[.int .i64 x.f1.f0, .int .i64 x.f1.f1], [.int .i64 x.f2], rfl, (k41_mk w x.f1 ), rfl⟩⟩
theorem k85_mkF (W : World) (ok : Nat → Prop) (x : S85) {A3 : Option Addr} {c3 : Nat} (l3 : x.f0.f3.length ≤ c3) (g3 : Kd.F k29 W ok A3 x.f0.f3.length x.f0.f3) : Kd.FK k85 W ok x [.int .u8 x.f0.f0, .int .u8 x.f0.f1, .int .i64 x.f0.f2, .slice A3 x.f0.f3.length c3, .int .i64 x.f1.f0, .int .i64 x.f1.f1, .int .i64 x.f2] := fun W2 hW => k85_mk W2 x l3 (g3 W2 hW)
def rd_T85 (xs : List S85) (i : Int) : S85 := xs.getD i.toNat z85
theorem at_T85 {w : World} {A : Option Addr} {n : Nat} {xs : List S85} (h : Kd.C k85 w A n xs) (i : Int) (h0 : 0 ≤ i) (h1 : i < n) : ∃ ad A3 c3, A = some ad ∧ w.cell? (ad.add (i.toNat * 7)) = some (.int .u8 (rd_T85 xs i).f0.f0) ∧ w.cell? ⟨(ad.add (i.toNat * 7)).block, (ad.add (i.toNat * 7)).off + 1, none⟩ = some (.int .u8 (rd_T85 xs i).f0.f1) ∧ w.cell? ⟨(ad.add (i.toNat * 7)).block, (ad.add (i.toNat * 7)).off + 2, none⟩ = some (.int .i64 (rd_T85 xs i).f0.f2) ∧ w.cell? ⟨(ad.add (i.toNat * 7)).block, (ad.add (i.toNat * 7)).off + 3, none⟩ = some (.slice A3 (rd_T85 xs i).f0.f3.length c3) ∧ w.cell? ⟨(ad.add (i.toNat * 7)).block, (ad.add (i.toNat * 7)).off + 4, none⟩ = some (.int .i64 (rd_T85 xs i).f1.f0) ∧ w.cell? ⟨(ad.add (i.toNat * 7)).block, (ad.add (i.toNat * 7)).off + 5, none⟩ = some (.int .i64 (rd_T85 xs i).f1.f1) ∧ w.cell? ⟨(ad.add (i.toNat * 7)).block, (ad.add (i.toNat * 7)).off + 6, none⟩ = some (.int .i64 (rd_T85 xs i).f2) ∧ (rd_T85 xs i).f0.f3.length ≤ c3 ∧ k29.C w A3 (rd_T85 xs i).f0.f3.length (rd_T85 xs i).f0.f3 := by
 obtain ⟨ad, c, e, _, hK, hc0⟩ := Kd.C_get h z85 i h0 h1; have hc : ∀ j u, c[j]? = some u → w.cell? (ad.add (i.toNat * 7 + j)) = some u := hc0; obtain ⟨A3, c3, rfl, l3, g3⟩ := k85_open hK; exact ⟨ad, A3, c3, e, hc 0 _ rfl, by rw [← zba _ _ 1 (by omega)]; exact hc 1 _ rfl, by rw [← zba _ _ 2 (by omega)]; exact hc 2 _ rfl, by rw [← zba _ _ 3 (by omega)]; exact hc 3 _ rfl, by rw [← zba _ _ 4 (by omega)]; exact hc 4 _ rfl, by rw [← zba _ _ 5 (by omega)]; exact hc 5 _ rfl, by rw [← zba _ _ 6 (by omega)]; exact hc 6 _ rfl, l3, g3⟩
structure S72 where
 f0 : S41
 f1 : Int
 f2 : Bool
def z72 : S72 := ⟨z41, (0 : Int), false⟩
def k72 : Kd S72 := Kd.iso (Kd.pair k41 (Kd.pair (Kd.int .u8) Kd.bool)) (fun x : S72 => (x.f0, x.f1, x.f2))
theorem k72_open {w : World} {x : S72} {cs : List Value} (h : k72.K w x cs) : cs = [.int .i64 x.f0.f0, .int .i64 x.f0.f1, .int .u8 x.f1, .bool x.f2] := by
 obtain ⟨_, _, rfl, s0, ⟨_, _, rfl, rfl, rfl⟩⟩ := h; obtain rfl := k41_open s0; exact rfl
theorem k72_mkM (w : World) (base : Nat) (ok : Nat → Prop) (x : S72)  : k72.M w base ok x [.int .i64 x.f0.f0, .int .i64 x.f0.f1, .int .u8 x.f1, .bool x.f2] := ⟨[.int .i64 x.f0.f0, .int .i64 x.f0.f1], [.int .u8 x.f1, .bool x.f2], rfl, (k41_mkM w base ok x.f0 ), ⟨[.int .u8 x.f1], [.bool x.f2], rfl, rfl, rfl⟩⟩
def rd_T72 (xs : List S72) (i : Int) : S72 := xs.getD i.toNat z72
theorem at_T72 {w : World} {A : Option Addr} {n : Nat} {xs : List S72} (h : Kd.C k72 w A n xs) (i : Int) (h0 : 0 ≤ i) (h1 : i < n) : ∃ ad , A = some ad ∧ w.cell? (ad.add (i.toNat * 4)) = some (.int .i64 (rd_T72 xs i).f0.f0) ∧ w.cell? ⟨(ad.add (i.toNat * 4)).block, (ad.add (i.toNat * 4)).off + 1, none⟩ = some (.int .i64 (rd_T72 xs i).f0.f1) ∧ w.cell? ⟨(ad.add (i.toNat * 4)).block, (ad.add (i.toNat * 4)).off + 2, none⟩ = some (.int .u8 (rd_T72 xs i).f1) ∧ w.cell? ⟨(ad.add (i.toNat * 4)).block, (ad.add (i.toNat * 4)).off + 3, none⟩ = some (.bool (rd_T72 xs i).f2) := by
 obtain ⟨ad, c, e, _, hK, hc0⟩ := Kd.C_get h z72 i h0 h1; have hc : ∀ j u, c[j]? = some u → w.cell? (ad.add (i.toNat * 4 + j)) = some u := hc0; obtain rfl := k72_open hK; exact ⟨ad, e, hc 0 _ rfl, by rw [← zba _ _ 1 (by omega)]; exact hc 1 _ rfl, by rw [← zba _ _ 2 (by omega)]; exact hc 2 _ rfl, by rw [← zba _ _ 3 (by omega)]; exact hc 3 _ rfl⟩
structure S43 where
 f0 : S41
 f1 : Int
def z43 : S43 := ⟨z41, (0 : Int)⟩
def k43 : Kd S43 := Kd.iso (Kd.pair k41 (Kd.int .i64)) (fun x : S43 => (x.f0, x.f1))
theorem k43_open {w : World} {x : S43} {cs : List Value} (h : k43.K w x cs) : cs = [.int .i64 x.f0.f0, .int .i64 x.f0.f1, .int .i64 x.f1] := by
 obtain ⟨_, _, rfl, s0, rfl⟩ := h; obtain rfl := k41_open s0; exact rfl
theorem k43_openM {w : World} {base : Nat} {ok : Nat → Prop} {x : S43} {cs : List Value} (h : k43.M w base ok x cs) : cs = [.int .i64 x.f0.f0, .int .i64 x.f0.f1, .int .i64 x.f1] := by
 obtain ⟨_, _, rfl, s0, rfl⟩ := h; obtain rfl := k41_openM s0; exact rfl
theorem k43_mkM (w : World) (base : Nat) (ok : Nat → Prop) (x : S43)  : k43.M w base ok x [.int .i64 x.f0.f0, .int .i64 x.f0.f1, .int .i64 x.f1] := ⟨[.int .i64 x.f0.f0, .int .i64 x.f0.f1], [.int .i64 x.f1], rfl, (k41_mkM w base ok x.f0 ), rfl⟩
def rd_T43 (xs : List S43) (i : Int) : S43 := xs.getD i.toNat z43
theorem at_T43 {w : World} {A : Option Addr} {n : Nat} {xs : List S43} (h : Kd.C k43 w A n xs) (i : Int) (h0 : 0 ≤ i) (h1 : i < n) : ∃ ad , A = some ad ∧ w.cell? (ad.add (i.toNat * 3)) = some (.int .i64 (rd_T43 xs i).f0.f0) ∧ w.cell? ⟨(ad.add (i.toNat * 3)).block, (ad.add (i.toNat * 3)).off + 1, none⟩ = some (.int .i64 (rd_T43 xs i).f0.f1) ∧ w.cell? ⟨(ad.add (i.toNat * 3)).block, (ad.add (i.toNat * 3)).off + 2, none⟩ = some (.int .i64 (rd_T43 xs i).f1) := by
 obtain ⟨ad, c, e, _, hK, hc0⟩ := Kd.C_get h z43 i h0 h1; have hc : ∀ j u, c[j]? = some u → w.cell? (ad.add (i.toNat * 3 + j)) = some u := hc0; obtain rfl := k43_open hK; exact ⟨ad, e, hc 0 _ rfl, by rw [← zba _ _ 1 (by omega)]; exact hc 1 _ rfl, by rw [← zba _ _ 2 (by omega)]; exact hc 2 _ rfl⟩
structure S57 where
 f0 : S41
 f1 : Int
 f2 : Int
def z57 : S57 := ⟨z41, (0 : Int), (0 : Int)⟩
def k57 : Kd S57 := Kd.iso (Kd.pair k41 (Kd.pair (Kd.int .i64) (Kd.int .i64))) (fun x : S57 => (x.f0, x.f1, x.f2))
theorem k57_open {w : World} {x : S57} {cs : List Value} (h : k57.K w x cs) : cs = [.int .i64 x.f0.f0, .int .i64 x.f0.f1, .int .i64 x.f1, .int .i64 x.f2] := by
 obtain ⟨_, _, rfl, s0, ⟨_, _, rfl, rfl, rfl⟩⟩ := h; obtain rfl := k41_open s0; exact rfl
theorem k57_openM {w : World} {base : Nat} {ok : Nat → Prop} {x : S57} {cs : List Value} (h : k57.M w base ok x cs) : cs = [.int .i64 x.f0.f0, .int .i64 x.f0.f1, .int .i64 x.f1, .int .i64 x.f2] := by
 obtain ⟨_, _, rfl, s0, ⟨_, _, rfl, rfl, rfl⟩⟩ := h; obtain rfl := k41_openM s0; exact rfl
theorem k57_mkM (w : World) (base : Nat) (ok : Nat → Prop) (x : S57)  : k57.M w base ok x [.int .i64 x.f0.f0, .int .i64 x.f0.f1, .int .i64 x.f1, .int .i64 x.f2] := ⟨[.int .i64 x.f0.f0, .int .i64 x.f0.f1], [.int .i64 x.f1, .int .i64 x.f2], rfl, (k41_mkM w base ok x.f0 ), ⟨[.int .i64 x.f1], [.int .i64 x.f2], rfl, rfl, rfl⟩⟩
def zbH (xs : List S57) (i : Int) : S57 := xs.getD i.toNat z57
theorem at_T57 {w : World} {A : Option Addr} {n : Nat} {xs : List S57} (h : Kd.C k57 w A n xs) (i : Int) (h0 : 0 ≤ i) (h1 : i < n) : ∃ ad , A = some ad ∧ w.cell? (ad.add (i.toNat * 4)) = some (.int .i64 (zbH xs i).f0.f0) ∧ w.cell? ⟨(ad.add (i.toNat * 4)).block, (ad.add (i.toNat * 4)).off + 1, none⟩ = some (.int .i64 (zbH xs i).f0.f1) ∧ w.cell? ⟨(ad.add (i.toNat * 4)).block, (ad.add (i.toNat * 4)).off + 2, none⟩ = some (.int .i64 (zbH xs i).f1) ∧ w.cell? ⟨(ad.add (i.toNat * 4)).block, (ad.add (i.toNat * 4)).off + 3, none⟩ = some (.int .i64 (zbH xs i).f2) := by
 obtain ⟨ad, c, e, _, hK, hc0⟩ := Kd.C_get h z57 i h0 h1; have hc : ∀ j u, c[j]? = some u → w.cell? (ad.add (i.toNat * 4 + j)) = some u := hc0; obtain rfl := k57_open hK; exact ⟨ad, e, hc 0 _ rfl, by rw [← zba _ _ 1 (by omega)]; exact hc 1 _ rfl, by rw [← zba _ _ 2 (by omega)]; exact hc 2 _ rfl, by rw [← zba _ _ 3 (by omega)]; exact hc 3 _ rfl⟩
def rd_L11 (xs : List (List S72)) (i : Int) : (List S72) := xs.getD i.toNat ([] : List S72)
def rd_L12 (xs : List (List S43)) (i : Int) : (List S43) := xs.getD i.toNat ([] : List S43)
structure S26 where
 f0 : (List S72)
 f1 : (List S43)
def z26 : S26 := ⟨([] : List S72), ([] : List S43)⟩
def k26 : Kd S26 := Kd.iso (Kd.pair (Kd.slice 72 k72) (Kd.slice 43 k43)) (fun x : S26 => (x.f0, x.f1))
def rd_T26 (xs : List S26) (i : Int) : S26 := xs.getD i.toNat z26
structure S113 where
 f0 : S29
 f1 : S41
 f2 : Int
def z113 : S113 := ⟨z29, z41, (0 : Int)⟩
def k113 : Kd S113 := Kd.iso (Kd.pair k29 (Kd.pair k41 (Kd.int .i64))) (fun x : S113 => (x.f0, x.f1, x.f2))
def rd_T113 (xs : List S113) (i : Int) : S113 := xs.getD i.toNat z113
structure S63 where
 f0 : Int
 f1 : Int
 f2 : Int
def z63 : S63 := ⟨(0 : Int), (0 : Int), (0 : Int)⟩
def k63 : Kd S63 := Kd.iso (Kd.pair (Kd.int .u8) (Kd.pair (Kd.int .i64) (Kd.int .i64))) (fun x : S63 => (x.f0, x.f1, x.f2))
theorem k63_heap : Kd.Heap k63 := Kd.heap_iso _ (Kd.heap_pair (Kd.heap_int .u8) (Kd.heap_pair (Kd.heap_int .i64) (Kd.heap_int .i64)))
theorem k63_open {w : World} {x : S63} {cs : List Value} (h : k63.K w x cs) : cs = [.int .u8 x.f0, .int .i64 x.f1, .int .i64 x.f2] := by
 obtain ⟨_, _, rfl, rfl, ⟨_, _, rfl, rfl, rfl⟩⟩ := h; exact rfl
theorem k63_mkM (w : World) (base : Nat) (ok : Nat → Prop) (x : S63)  : k63.M w base ok x [.int .u8 x.f0, .int .i64 x.f1, .int .i64 x.f2] := ⟨[.int .u8 x.f0], [.int .i64 x.f1, .int .i64 x.f2], rfl, rfl, ⟨[.int .i64 x.f1], [.int .i64 x.f2], rfl, rfl, rfl⟩⟩
def zbI (xs : List S63) (i : Int) : S63 := xs.getD i.toNat z63
theorem at_T63 {w : World} {A : Option Addr} {n : Nat} {xs : List S63} (h : Kd.C k63 w A n xs) (i : Int) (h0 : 0 ≤ i) (h1 : i < n) : ∃ ad , A = some ad ∧ w.cell? (ad.add (i.toNat * 3)) = some (.int .u8 (zbI xs i).f0) ∧ w.cell? ⟨(ad.add (i.toNat * 3)).block, (ad.add (i.toNat * 3)).off + 1, none⟩ = some (.int .i64 (zbI xs i).f1) ∧ w.cell? ⟨(ad.add (i.toNat * 3)).block, (ad.add (i.toNat * 3)).off + 2, none⟩ = some (.int .i64 (zbI xs i).f2) := by
 obtain ⟨ad, c, e, _, hK, hc0⟩ := Kd.C_get h z63 i h0 h1; have hc : ∀ j u, c[j]? = some u → w.cell? (ad.add (i.toNat * 3 + j)) = some u := hc0; obtain rfl := k63_open hK; exact ⟨ad, e, hc 0 _ rfl, by rw [← zba _ _ 1 (by omega)]; exact hc 1 _ rfl, by rw [← zba _ _ 2 (by omega)]; exact hc 2 _ rfl⟩
def zbD.f (a0 : Int) : Option (Bool) := if a0 ≥ 1 then (if a0 ≤ 17 then (some true) else (if a0 ≥ 20 then (some (decide (a0 ≤ 40))) else (some false))) else (if a0 ≥ 20 then (some (decide (a0 ≤ 40))) else (some false))
theorem zbD.calls (a0 : Int) (r : Bool) (w : World) (h : zbD.f a0 = some r) :
  Calls Tryd.prog 68 #[.int .u8 a0] w fun e w' => e = .returned (.bool r) ∧ zaq w w' := by
 have H : (if a0 ≥ 1 then (if a0 ≤ 17 then (some true) else (if a0 ≥ 20 then (some (decide (a0 ≤ 40))) else (some false))) else (if a0 ≥ 20 then (some (decide (a0 ≤ 40))) else (some false))) = some r := h
 clear h; by_cases c2 : a0 ≥ 1
 ·rw [if_pos c2] at H
  have c2b0 : decide (1 ≤ a0) = true := decide_eq_true c2; clear c2; by_cases c3 : a0 ≤ 17
  ·rw [if_pos c3] at H
   have c3b0 : decide (a0 ≤ 17) = true := decide_eq_true c3; clear c3; obtain rfl := Option.some.inj H; go_enter Tryd.func68, Tryd.ntmps68
   go_wp2
   go_ret
   exact ⟨by first | rfl | (simp; done) | simp [*], by repeat (first | exact zaq.refl _ | apply zaq.step)⟩
  ·rw [if_neg c3] at H
   have c3b0 : decide (a0 ≤ 17) = false := decide_eq_false c3; clear c3; by_cases c4 : a0 ≥ 20
   ·rw [if_pos c4] at H
    have c4b0 : decide (20 ≤ a0) = true := decide_eq_true c4; clear c4; obtain rfl := Option.some.inj H; go_enter Tryd.func68, Tryd.ntmps68
    go_wp2
    go_ret
    exact ⟨by first | rfl | (simp; done) | simp [*], by repeat (first | exact zaq.refl _ | apply zaq.step)⟩
   ·rw [if_neg c4] at H
    have c4b0 : decide (20 ≤ a0) = false := decide_eq_false c4; clear c4; obtain rfl := Option.some.inj H; go_enter Tryd.func68, Tryd.ntmps68
    go_wp2
    go_ret
    exact ⟨by first | rfl | (simp; done) | simp [*], by repeat (first | exact zaq.refl _ | apply zaq.step)⟩
 ·rw [if_neg c2] at H
  have c2b0 : decide (1 ≤ a0) = false := decide_eq_false c2; clear c2; by_cases c5 : a0 ≥ 20
  ·rw [if_pos c5] at H
   have c5b0 : decide (20 ≤ a0) = true := decide_eq_true c5; clear c5; obtain rfl := Option.some.inj H; go_enter Tryd.func68, Tryd.ntmps68
   go_wp2
   go_ret
   exact ⟨by first | rfl | (simp; done) | simp [*], by repeat (first | exact zaq.refl _ | apply zaq.step)⟩
  ·rw [if_neg c5] at H
   have c5b0 : decide (20 ≤ a0) = false := decide_eq_false c5; clear c5; obtain rfl := Option.some.inj H; go_enter Tryd.func68, Tryd.ntmps68
   go_wp2
   go_ret
   exact ⟨by first | rfl | (simp; done) | simp [*], by repeat (first | exact zaq.refl _ | apply zaq.step)⟩
def zaV.l0 : Nat → List Int → Int → Int → Int → Option (Int)
 | 0, _, _, _, _ => none
 | k + 1, x0, x1, x7, x8 => if x8 < x7 then (if 0 ≤ x8 then (if x8 < (x0.length : Int) then (if x1 = (rd x0 x8) then (some x8) else (zaV.l0 k x0 x1 x7 (wrap64 (x8 + 1)))) else (none)) else (none)) else (some (-1))
def zaV.f (k : Nat) (l0 : List Int) (a1 : Int) : Option (Int) := zaV.l0 k l0 a1 (l0.length : Int) 0
theorem zaV.calls (k : Nat) (A0 : Option Addr) (c0 : Nat) (l0 : List Int) (a1 : Int) (r : Int) (w : World) (hr0 : Kd.C (Kd.int .u8) w A0 l0.length l0) (hc0 : l0.length ≤ c0) (h : zaV.f k l0 a1 = some r) :
  Calls Tryd.prog 83 #[.slice A0 l0.length c0, .int .u8 a1] w fun e w' => e = .returned (.int .i64 r) ∧ zaq w w' := by
 have HR0 := zaa.mk hr0; have HC0 := zaa.mk hc0; clear hr0 hc0; have H : (zaV.l0 k l0 a1 (l0.length : Int) 0) = some r := h; clear h; have H' := zaa.mk H; clear H; go_enter Tryd.func83, Tryd.ntmps83
 go_wp2
 go_loopg [8] k (fun kq v8 w' => ∃ (x8_1 : Int), v8 = .int .i64 x8_1 ∧ zaa (zaV.l0 kq l0 a1 (l0.length : Int) x8_1 = some r) ∧ zaa (kq ≤ k) ∧ zaq w w')
 case atStart => exact ⟨(0), (by first | rfl | (simp; done) | simp [*]), H', ⟨Nat.le_refl _⟩, by repeat (first | exact zaq.refl _ | apply zaq.step)⟩
 case round =>
  clear H'; try clear p2
  obtain ⟨x8_1, rfl, HA, HK1, ⟨m1, rfl⟩⟩ := hrel; cases gk with
  | zero => exact absurd HA.out (by simp [zaV.l0])
  | succ k1 =>
   have H := HA.out; clear HA; simp only [zaV.l0] at H; by_cases c3 : x8_1 < (l0.length : Int)
   ·rw [if_pos c3] at H
    have c3b0 : decide (x8_1 < (l0.length : Int)) = true := decide_eq_true c3; clear c3; by_cases c4 : 0 ≤ x8_1
    ·rw [if_pos c4] at H
     have c4b0 : decide (0 ≤ x8_1) = true := decide_eq_true c4; clear c4; by_cases c5 : x8_1 < (l0.length : Int)
     ·rw [if_pos c5] at H
      have c5b0 : decide (x8_1 < (l0.length : Int)) = true := decide_eq_true c5; clear c5; by_cases c6 : a1 = (rd l0 x8_1)
      ·rw [if_pos c6] at H
       have c6b0 : (a1 == (rd l0 x8_1)) = true := beq_iff_eq.mpr c6; have c6b1 : (a1 != (rd l0 x8_1)) = false := bne_eq_false_iff_eq.mpr c6; clear c6; obtain rfl := Option.some.inj H; have p241 : 0 ≤ (x8_1 : Int) := of_decide_eq_true (by assumption)
       have q241 : x8_1 < (l0.length : Int) := of_decide_eq_true (by assumption)
       obtain ⟨ad241, e241, hx241_0⟩ := Kd.at_int HR0.out x8_1 p241 q241; cases e241; replace p241 := eq_true p241; replace q241 := eq_true q241; go_wp2
       go_ret
       exact ⟨by first | rfl | (simp; done) | simp [*], by repeat (first | exact zaq.refl _ | apply zaq.step)⟩
      ·rw [if_neg c6] at H
       have c6b0 : (a1 == (rd l0 x8_1)) = false := beq_eq_false_iff_ne.mpr c6; have c6b1 : (a1 != (rd l0 x8_1)) = true := bne_iff_ne.mpr c6; have H' := zaa.mk H; clear H; have p241 : 0 ≤ (x8_1 : Int) := of_decide_eq_true (by assumption)
       have q241 : x8_1 < (l0.length : Int) := of_decide_eq_true (by assumption)
       obtain ⟨ad241, e241, hx241_0⟩ := Kd.at_int HR0.out x8_1 p241 q241; cases e241; replace p241 := eq_true p241; replace q241 := eq_true q241; go_wp2
       go_roundg k1
       case measure => have := HK1.out; omega
       case rel => exact ⟨(wrap64 (x8_1 + 1)), (by first | rfl | (simp; done) | simp [*]), H', ⟨by have := HK1.out; omega⟩, by repeat (first | exact zaq.refl _ | apply zaq.step)⟩
     ·rw [if_neg c5] at H
      exact absurd H (by simp)
    ·rw [if_neg c4] at H
     exact absurd H (by simp)
   ·rw [if_neg c3] at H
    have c3b0 : decide (x8_1 < (l0.length : Int)) = false := decide_eq_false c3; clear c3; obtain rfl := Option.some.inj H; go_wp2
    go_ret
    exact ⟨by first | rfl | (simp; done) | simp [*], by repeat (first | exact zaq.refl _ | apply zaq.step)⟩
def zbx.f (k : Nat) (l0 : List Int) (a1 : Int) : Option (Bool) := (zaV.f k l0 a1).bind fun t242 => (some (decide (t242 ≥ 0)))
theorem zbx.calls (k : Nat) (A0 : Option Addr) (c0 : Nat) (l0 : List Int) (a1 : Int) (r : Bool) (w : World) (hr0 : Kd.C (Kd.int .u8) w A0 l0.length l0) (hc0 : l0.length ≤ c0) (h : zbx.f k l0 a1 = some r) :
  Calls Tryd.prog 80 #[.slice A0 l0.length c0, .int .u8 a1] w fun e w' => e = .returned (.bool r) ∧ zaq w w' := by
 have HR0 := zaa.mk hr0; have HC0 := zaa.mk hc0; clear hr0 hc0; have H : ((zaV.f k l0 a1).bind fun t242 => (some (decide (t242 ≥ 0)))) = some r := h
 clear h; replace H := Option.bind_eq_some_iff.mp H; obtain ⟨t242, A30, H⟩ := H; replace H : (some (decide (t242 ≥ 0))) = some r := H; have A3 := zaa.mk A30; clear A30; obtain rfl := Option.some.inj H; go_enter Tryd.func80, Tryd.ntmps80
 go_wp2_with (first | ((with_reducible refine zaK (f := 83) rfl ?_); refine zbk (some 7) rfl rfl Tryd.func83 (by kernel_rfl) rfl #[.slice A0 l0.length c0, .int .u8 a1] rfl (by (try simp only [List.map_toArray, List.map_cons, List.map_nil]); first | done | rfl | (simp only [List.length_drop, List.length_take]; rfl)) ?_; (with_reducible refine (zaV.calls k _ _ l0 a1 t242 _ ?side1 ?side2 A3.out).mono ?_); (case side1 => repeat (first | exact HR0.out | (with_reducible refine Kd.C_alloc ?_ _) | (with_reducible refine Kd.C_drewN ?_ _) | (with_reducible refine Kd.C_drew ?_))); (case side2 => exact HC0.out); rintro e w' ⟨rfl, ⟨nd, rfl⟩⟩; refine ⟨_, rfl, ?_⟩))
 go_ret
 exact ⟨by first | rfl | (simp; done) | simp [*], by repeat (first | exact zaq.refl _ | apply zaq.step)⟩
def zaQ.f (a0 : Int) : Option (Bool) := if a0 ≥ 1 then (if a0 ≤ 17 then (some true) else (if a0 ≥ 20 then (some (decide (a0 ≤ 40))) else (some false))) else (if a0 ≥ 20 then (some (decide (a0 ≤ 40))) else (some false))
theorem zaQ.calls (a0 : Int) (r : Bool) (w : World) (h : zaQ.f a0 = some r) :
  Calls Tryd.prog 30 #[.int .u8 a0] w fun e w' => e = .returned (.bool r) ∧ zaq w w' := by
 have H : (if a0 ≥ 1 then (if a0 ≤ 17 then (some true) else (if a0 ≥ 20 then (some (decide (a0 ≤ 40))) else (some false))) else (if a0 ≥ 20 then (some (decide (a0 ≤ 40))) else (some false))) = some r := h
 clear h; by_cases c2 : a0 ≥ 1
 ·rw [if_pos c2] at H
  have c2b0 : decide (1 ≤ a0) = true := decide_eq_true c2; clear c2; by_cases c3 : a0 ≤ 17
  ·rw [if_pos c3] at H
   have c3b0 : decide (a0 ≤ 17) = true := decide_eq_true c3; clear c3; obtain rfl := Option.some.inj H; go_enter Tryd.func30, Tryd.ntmps30
   go_wp2
   go_ret
   exact ⟨by first | rfl | (simp; done) | simp [*], by repeat (first | exact zaq.refl _ | apply zaq.step)⟩
  ·rw [if_neg c3] at H
   have c3b0 : decide (a0 ≤ 17) = false := decide_eq_false c3; clear c3; by_cases c4 : a0 ≥ 20
   ·rw [if_pos c4] at H
    have c4b0 : decide (20 ≤ a0) = true := decide_eq_true c4; clear c4; obtain rfl := Option.some.inj H; go_enter Tryd.func30, Tryd.ntmps30
    go_wp2
    go_ret
    exact ⟨by first | rfl | (simp; done) | simp [*], by repeat (first | exact zaq.refl _ | apply zaq.step)⟩
   ·rw [if_neg c4] at H
    have c4b0 : decide (20 ≤ a0) = false := decide_eq_false c4; clear c4; obtain rfl := Option.some.inj H; go_enter Tryd.func30, Tryd.ntmps30
    go_wp2
    go_ret
    exact ⟨by first | rfl | (simp; done) | simp [*], by repeat (first | exact zaq.refl _ | apply zaq.step)⟩
 ·rw [if_neg c2] at H
  have c2b0 : decide (1 ≤ a0) = false := decide_eq_false c2; clear c2; by_cases c5 : a0 ≥ 20
  ·rw [if_pos c5] at H
   have c5b0 : decide (20 ≤ a0) = true := decide_eq_true c5; clear c5; obtain rfl := Option.some.inj H; go_enter Tryd.func30, Tryd.ntmps30
   go_wp2
   go_ret
   exact ⟨by first | rfl | (simp; done) | simp [*], by repeat (first | exact zaq.refl _ | apply zaq.step)⟩
  ·rw [if_neg c5] at H
   have c5b0 : decide (20 ≤ a0) = false := decide_eq_false c5; clear c5; obtain rfl := Option.some.inj H; go_enter Tryd.func30, Tryd.ntmps30
   go_wp2
   go_ret
   exact ⟨by first | rfl | (simp; done) | simp [*], by repeat (first | exact zaq.refl _ | apply zaq.step)⟩
def zaY.f (a0 : Int) : Option (Bool) := if a0 = 1 then (some false) else (if a0 = 2 then (some false) else (if a0 = 3 then (some false) else (if a0 = 4 then (some false) else (if a0 = 5 then (some false) else (if a0 = 9 then (some false) else ((zaQ.f a0).bind fun t140 => (some t140)))))))
theorem zaY.calls (a0 : Int) (r : Bool) (w : World) (h : zaY.f a0 = some r) :
  Calls Tryd.prog 78 #[.int .u8 a0] w fun e w' => e = .returned (.bool r) ∧ zaq w w' := by
 have H : (if a0 = 1 then (some false) else (if a0 = 2 then (some false) else (if a0 = 3 then (some false) else (if a0 = 4 then (some false) else (if a0 = 5 then (some false) else (if a0 = 9 then (some false) else ((zaQ.f a0).bind fun t140 => (some t140)))))))) = some r := h
 clear h; by_cases c2 : a0 = 1
 ·rw [if_pos c2] at H
  have c2b0 : (a0 == 1) = true := beq_iff_eq.mpr c2; have c2b1 : (a0 != 1) = false := bne_eq_false_iff_eq.mpr c2; clear c2; obtain rfl := Option.some.inj H; go_enter Tryd.func78, Tryd.ntmps78
  go_wp2
  go_ret
  exact ⟨by first | rfl | (simp; done) | simp [*], by repeat (first | exact zaq.refl _ | apply zaq.step)⟩
 ·rw [if_neg c2] at H
  have c2b0 : (a0 == 1) = false := beq_eq_false_iff_ne.mpr c2; have c2b1 : (a0 != 1) = true := bne_iff_ne.mpr c2; by_cases c3 : a0 = 2
  ·rw [if_pos c3] at H
   have c3b0 : (a0 == 2) = true := beq_iff_eq.mpr c3; have c3b1 : (a0 != 2) = false := bne_eq_false_iff_eq.mpr c3; clear c3; obtain rfl := Option.some.inj H; go_enter Tryd.func78, Tryd.ntmps78
   go_wp2
   go_ret
   exact ⟨by first | rfl | (simp; done) | simp [*], by repeat (first | exact zaq.refl _ | apply zaq.step)⟩
  ·rw [if_neg c3] at H
   have c3b0 : (a0 == 2) = false := beq_eq_false_iff_ne.mpr c3; have c3b1 : (a0 != 2) = true := bne_iff_ne.mpr c3; by_cases c4 : a0 = 3
   ·rw [if_pos c4] at H
    have c4b0 : (a0 == 3) = true := beq_iff_eq.mpr c4; have c4b1 : (a0 != 3) = false := bne_eq_false_iff_eq.mpr c4; clear c4; obtain rfl := Option.some.inj H; go_enter Tryd.func78, Tryd.ntmps78
    go_wp2
    go_ret
    exact ⟨by first | rfl | (simp; done) | simp [*], by repeat (first | exact zaq.refl _ | apply zaq.step)⟩
   ·rw [if_neg c4] at H
    have c4b0 : (a0 == 3) = false := beq_eq_false_iff_ne.mpr c4; have c4b1 : (a0 != 3) = true := bne_iff_ne.mpr c4; by_cases c5 : a0 = 4
    ·rw [if_pos c5] at H
     have c5b0 : (a0 == 4) = true := beq_iff_eq.mpr c5; have c5b1 : (a0 != 4) = false := bne_eq_false_iff_eq.mpr c5; clear c5; obtain rfl := Option.some.inj H; go_enter Tryd.func78, Tryd.ntmps78
     go_wp2
     go_ret
     exact ⟨by first | rfl | (simp; done) | simp [*], by repeat (first | exact zaq.refl _ | apply zaq.step)⟩
    ·rw [if_neg c5] at H
     have c5b0 : (a0 == 4) = false := beq_eq_false_iff_ne.mpr c5; have c5b1 : (a0 != 4) = true := bne_iff_ne.mpr c5; by_cases c6 : a0 = 5
     ·rw [if_pos c6] at H
      have c6b0 : (a0 == 5) = true := beq_iff_eq.mpr c6; have c6b1 : (a0 != 5) = false := bne_eq_false_iff_eq.mpr c6; clear c6; obtain rfl := Option.some.inj H; go_enter Tryd.func78, Tryd.ntmps78
      go_wp2
      go_ret
      exact ⟨by first | rfl | (simp; done) | simp [*], by repeat (first | exact zaq.refl _ | apply zaq.step)⟩
     ·rw [if_neg c6] at H
      have c6b0 : (a0 == 5) = false := beq_eq_false_iff_ne.mpr c6; have c6b1 : (a0 != 5) = true := bne_iff_ne.mpr c6; by_cases c7 : a0 = 9
      ·rw [if_pos c7] at H
       have c7b0 : (a0 == 9) = true := beq_iff_eq.mpr c7; have c7b1 : (a0 != 9) = false := bne_eq_false_iff_eq.mpr c7; clear c7; obtain rfl := Option.some.inj H; go_enter Tryd.func78, Tryd.ntmps78
       go_wp2
       go_ret
       exact ⟨by first | rfl | (simp; done) | simp [*], by repeat (first | exact zaq.refl _ | apply zaq.step)⟩
      ·rw [if_neg c7] at H
       have c7b0 : (a0 == 9) = false := beq_eq_false_iff_ne.mpr c7; have c7b1 : (a0 != 9) = true := bne_iff_ne.mpr c7; replace H := Option.bind_eq_some_iff.mp H; obtain ⟨t140, A80, H⟩ := H; replace H : (some t140) = some r := H; have A8 := zaa.mk A80; clear A80; obtain rfl := Option.some.inj H; go_enter Tryd.func78, Tryd.ntmps78
       go_wp2_with (first | ((with_reducible refine zaK (f := 30) rfl ?_); refine zbk (some 12) rfl rfl Tryd.func30 (by kernel_rfl) rfl #[.int .u8 a0] rfl (by (try simp only [List.map_toArray, List.map_cons, List.map_nil]); first | done | rfl | (simp only [List.length_drop, List.length_take]; rfl)) ?_; (with_reducible refine (zaQ.calls a0 t140 _ A8.out).mono ?_); rintro e w' ⟨rfl, ⟨nd, rfl⟩⟩; refine ⟨_, rfl, ?_⟩))
       go_ret
       exact ⟨by first | rfl | (simp; done) | simp [*], by repeat (first | exact zaq.refl _ | apply zaq.step)⟩
def zby.f (a0_0 : Int) (a0_1 : Int) (a0_2 : Int) (l0_3 : List (S29)) : Option (Bool) := if (l0_3.length : Int) > 0 then (some false) else (if a0_0 = 50 then (if a0_2 = 0 then ((zaY.f a0_1).bind fun t142 => (if t142 = true then (some true) else (if a0_1 = 60 then (some true) else (some (a0_1 == 52))))) else (some false)) else ((zaQ.f a0_0).bind fun t143 => (if t143 = true then (if a0_2 ≥ 1 then (if a0_2 ≤ 1099511627776 then (some (a0_1 == 0)) else (some false)) else (some false)) else (some false))))
theorem zby.calls (a0_0 : Int) (a0_1 : Int) (a0_2 : Int) (A0_3 : Option Addr) (c0_3 : Nat) (l0_3 : List (S29)) (r : Bool) (w : World) (hr0_3 : Kd.C k29 w A0_3 l0_3.length l0_3) (hc0_3 : l0_3.length ≤ c0_3) (h : zby.f a0_0 a0_1 a0_2 l0_3 = some r) :
  Calls Tryd.prog 66 #[.agg #[.int .u8 a0_0, .int .u8 a0_1, .int .i64 a0_2, .slice A0_3 l0_3.length c0_3]] w fun e w' => e = .returned (.bool r) ∧ Below w.heap.size w w' := by
 have hu29 := Tryd.underlying29; have HR0_3 := zaa.mk hr0_3; have HC0_3 := zaa.mk hc0_3; clear hr0_3 hc0_3; have HB := zaa.mk (Below.refl w.heap.size w); have H : (if (l0_3.length : Int) > 0 then (some false) else (if a0_0 = 50 then (if a0_2 = 0 then ((zaY.f a0_1).bind fun t142 => (if t142 = true then (some true) else (if a0_1 = 60 then (some true) else (some (a0_1 == 52))))) else (some false)) else ((zaQ.f a0_0).bind fun t143 => (if t143 = true then (if a0_2 ≥ 1 then (if a0_2 ≤ 1099511627776 then (some (a0_1 == 0)) else (some false)) else (some false)) else (some false))))) = some r := h
 clear h; by_cases c2 : (l0_3.length : Int) > 0
 ·rw [if_pos c2] at H
  have c2b0 : decide (0 < (l0_3.length : Int)) = true := decide_eq_true c2; have c2b1 : decide (0 < l0_3.length) = true := decide_eq_true (by omega)
  clear c2; obtain rfl := Option.some.inj H; go_enter Tryd.func66, Tryd.ntmps66
  go_wp2_with (first | ((with_reducible refine za6 (N := 1) rfl ?_); refine zbl ?hg (N := 1) ?hd (cs := #[.int .u8 a0_0, .int .u8 a0_1, .int .i64 a0_2, .slice A0_3 l0_3.length c0_3]) (t := 29) ?hr ?_; (case hd => rfl); (case hg => rfl); (case hr => first | (go_simp; done) | (go_simp; rfl)); intro gb141 hg w3 hbox hb; have n0_ := zaa.mk (zai (by repeat (first | exact HB.out | apply zad | apply zac | apply zae)) hb); have n1_ := zaa.mk (hbox); have n2_ := zaa.mk ((by rw [hg]; exact (zax (by repeat (first | exact HB.out | apply zad | apply zac | apply zae))) : w.heap.size ≤ gb141)); have n3_ := zaa.mk ((by rw [hg]; exact (zax (by repeat (first | exact HB.out | apply zad | apply zac | apply zae))) : w.heap.size ≤ gb141)); clear HB; have HB := n0_; have BK141 := n1_; have GW141 := n2_; have GE141 := n3_; clear n0_ n1_ n2_ n3_; clear hb hbox hg; have hcz4_0 : w3.cell? ⟨gb141, 0, none⟩ = some (.int .u8 a0_0) := (zaf BK141.out 0).trans rfl; have hcz4_1 : w3.cell? ⟨gb141, 1, none⟩ = some (.int .u8 a0_1) := (zaf BK141.out 1).trans rfl; have hcz4_2 : w3.cell? ⟨gb141, 2, none⟩ = some (.int .i64 a0_2) := (zaf BK141.out 2).trans rfl; have hcz4_3 : w3.cell? ⟨gb141, 3, none⟩ = some (.slice A0_3 l0_3.length c0_3) := (zaf BK141.out 3).trans rfl; have hfz4_0 := zab BK141.out 0; have hfz4_1 := zab BK141.out 1; have hfz4_2 := zab BK141.out 2; have hfz4_3 := zab BK141.out 3))
  go_ret
  exact ⟨by first | rfl | (simp [*, zaz, zay] <;> rfl), by repeat (first | (with_reducible first | exact HB.out | apply zad | apply zac | apply zae | refine zaB ?_ GE141.out) | exact HB.out)⟩
 ·rw [if_neg c2] at H
  have c2b0 : decide (0 < (l0_3.length : Int)) = false := decide_eq_false c2; have c2b1 : decide (0 < l0_3.length) = false := decide_eq_false (by omega)
  clear c2; by_cases c5 : a0_0 = 50
  ·rw [if_pos c5] at H
   have c5b0 : (a0_0 == 50) = true := beq_iff_eq.mpr c5; have c5b1 : (a0_0 != 50) = false := bne_eq_false_iff_eq.mpr c5; clear c5; by_cases c6 : a0_2 = 0
   ·rw [if_pos c6] at H
    have c6b0 : (a0_2 == 0) = true := beq_iff_eq.mpr c6; have c6b1 : (a0_2 != 0) = false := bne_eq_false_iff_eq.mpr c6; clear c6; replace H := Option.bind_eq_some_iff.mp H; obtain ⟨t142, A70, H⟩ := H; replace H : (if t142 = true then (some true) else (if a0_1 = 60 then (some true) else (some (a0_1 == 52)))) = some r := H
    have A7 := zaa.mk A70; clear A70; by_cases c8 : t142 = true
    ·subst c8
     have H1 : (some true) = some r := by rw [if_pos rfl] at H; exact H
     clear H; have H := H1; clear H1; obtain rfl := Option.some.inj H; go_enter Tryd.func66, Tryd.ntmps66
     go_wp2_with (first | ((with_reducible refine za6 (N := 1) rfl ?_); refine zbl ?hg (N := 1) ?hd (cs := #[.int .u8 a0_0, .int .u8 a0_1, .int .i64 a0_2, .slice A0_3 l0_3.length c0_3]) (t := 29) ?hr ?_; (case hd => rfl); (case hg => rfl); (case hr => first | (go_simp; done) | (go_simp; rfl)); intro gb141 hg w9 hbox hb; have n0_ := zaa.mk (zai (by repeat (first | exact HB.out | apply zad | apply zac | apply zae)) hb); have n1_ := zaa.mk (hbox); have n2_ := zaa.mk ((by rw [hg]; exact (zax (by repeat (first | exact HB.out | apply zad | apply zac | apply zae))) : w.heap.size ≤ gb141)); have n3_ := zaa.mk ((by rw [hg]; exact (zax (by repeat (first | exact HB.out | apply zad | apply zac | apply zae))) : w.heap.size ≤ gb141)); clear HB; have HB := n0_; have BK141 := n1_; have GW141 := n2_; have GE141 := n3_; clear n0_ n1_ n2_ n3_; clear hb hbox hg; have hcz10_0 : w9.cell? ⟨gb141, 0, none⟩ = some (.int .u8 a0_0) := (zaf BK141.out 0).trans rfl; have hcz10_1 : w9.cell? ⟨gb141, 1, none⟩ = some (.int .u8 a0_1) := (zaf BK141.out 1).trans rfl; have hcz10_2 : w9.cell? ⟨gb141, 2, none⟩ = some (.int .i64 a0_2) := (zaf BK141.out 2).trans rfl; have hcz10_3 : w9.cell? ⟨gb141, 3, none⟩ = some (.slice A0_3 l0_3.length c0_3) := (zaf BK141.out 3).trans rfl; have hfz10_0 := zab BK141.out 0; have hfz10_1 := zab BK141.out 1; have hfz10_2 := zab BK141.out 2; have hfz10_3 := zab BK141.out 3) | (go_at_call 78; (with_reducible refine (zaY.calls a0_1 true _ A7.out).mono ?_); rintro e w' ⟨rfl, ⟨nd, rfl⟩⟩))
     go_ret
     exact ⟨by first | rfl | (simp [*, zaz, zay] <;> rfl), by repeat (first | (with_reducible first | exact HB.out | apply zad | apply zac | apply zae | refine zaB ?_ GE141.out) | exact HB.out)⟩
    ·replace c8 := Bool.eq_false_iff.mpr c8
     subst c8; have H1 : (if a0_1 = 60 then (some true) else (some (a0_1 == 52))) = some r := by rw [if_neg (show ¬ (false = true) by decide)] at H; exact H
     clear H; have H := H1; clear H1; by_cases c11 : a0_1 = 60
     ·rw [if_pos c11] at H
      have c11b0 : (a0_1 == 60) = true := beq_iff_eq.mpr c11; have c11b1 : (a0_1 != 60) = false := bne_eq_false_iff_eq.mpr c11; clear c11; obtain rfl := Option.some.inj H; go_enter Tryd.func66, Tryd.ntmps66
      go_wp2_with (first | ((with_reducible refine za6 (N := 1) rfl ?_); refine zbl ?hg (N := 1) ?hd (cs := #[.int .u8 a0_0, .int .u8 a0_1, .int .i64 a0_2, .slice A0_3 l0_3.length c0_3]) (t := 29) ?hr ?_; (case hd => rfl); (case hg => rfl); (case hr => first | (go_simp; done) | (go_simp; rfl)); intro gb141 hg w12 hbox hb; have n0_ := zaa.mk (zai (by repeat (first | exact HB.out | apply zad | apply zac | apply zae)) hb); have n1_ := zaa.mk (hbox); have n2_ := zaa.mk ((by rw [hg]; exact (zax (by repeat (first | exact HB.out | apply zad | apply zac | apply zae))) : w.heap.size ≤ gb141)); have n3_ := zaa.mk ((by rw [hg]; exact (zax (by repeat (first | exact HB.out | apply zad | apply zac | apply zae))) : w.heap.size ≤ gb141)); clear HB; have HB := n0_; have BK141 := n1_; have GW141 := n2_; have GE141 := n3_; clear n0_ n1_ n2_ n3_; clear hb hbox hg; have hcz13_0 : w12.cell? ⟨gb141, 0, none⟩ = some (.int .u8 a0_0) := (zaf BK141.out 0).trans rfl; have hcz13_1 : w12.cell? ⟨gb141, 1, none⟩ = some (.int .u8 a0_1) := (zaf BK141.out 1).trans rfl; have hcz13_2 : w12.cell? ⟨gb141, 2, none⟩ = some (.int .i64 a0_2) := (zaf BK141.out 2).trans rfl; have hcz13_3 : w12.cell? ⟨gb141, 3, none⟩ = some (.slice A0_3 l0_3.length c0_3) := (zaf BK141.out 3).trans rfl; have hfz13_0 := zab BK141.out 0; have hfz13_1 := zab BK141.out 1; have hfz13_2 := zab BK141.out 2; have hfz13_3 := zab BK141.out 3) | (go_at_call 78; (with_reducible refine (zaY.calls a0_1 false _ A7.out).mono ?_); rintro e w' ⟨rfl, ⟨nd, rfl⟩⟩))
      go_ret
      exact ⟨by first | rfl | (simp [*, zaz, zay] <;> rfl), by repeat (first | (with_reducible first | exact HB.out | apply zad | apply zac | apply zae | refine zaB ?_ GE141.out) | exact HB.out)⟩
     ·rw [if_neg c11] at H
      have c11b0 : (a0_1 == 60) = false := beq_eq_false_iff_ne.mpr c11; have c11b1 : (a0_1 != 60) = true := bne_iff_ne.mpr c11; obtain rfl := Option.some.inj H; go_enter Tryd.func66, Tryd.ntmps66
      go_wp2_with (first | ((with_reducible refine za6 (N := 1) rfl ?_); refine zbl ?hg (N := 1) ?hd (cs := #[.int .u8 a0_0, .int .u8 a0_1, .int .i64 a0_2, .slice A0_3 l0_3.length c0_3]) (t := 29) ?hr ?_; (case hd => rfl); (case hg => rfl); (case hr => first | (go_simp; done) | (go_simp; rfl)); intro gb141 hg w14 hbox hb; have n0_ := zaa.mk (zai (by repeat (first | exact HB.out | apply zad | apply zac | apply zae)) hb); have n1_ := zaa.mk (hbox); have n2_ := zaa.mk ((by rw [hg]; exact (zax (by repeat (first | exact HB.out | apply zad | apply zac | apply zae))) : w.heap.size ≤ gb141)); have n3_ := zaa.mk ((by rw [hg]; exact (zax (by repeat (first | exact HB.out | apply zad | apply zac | apply zae))) : w.heap.size ≤ gb141)); clear HB; have HB := n0_; have BK141 := n1_; have GW141 := n2_; have GE141 := n3_; clear n0_ n1_ n2_ n3_; clear hb hbox hg; have hcz15_0 : w14.cell? ⟨gb141, 0, none⟩ = some (.int .u8 a0_0) := (zaf BK141.out 0).trans rfl; have hcz15_1 : w14.cell? ⟨gb141, 1, none⟩ = some (.int .u8 a0_1) := (zaf BK141.out 1).trans rfl; have hcz15_2 : w14.cell? ⟨gb141, 2, none⟩ = some (.int .i64 a0_2) := (zaf BK141.out 2).trans rfl; have hcz15_3 : w14.cell? ⟨gb141, 3, none⟩ = some (.slice A0_3 l0_3.length c0_3) := (zaf BK141.out 3).trans rfl; have hfz15_0 := zab BK141.out 0; have hfz15_1 := zab BK141.out 1; have hfz15_2 := zab BK141.out 2; have hfz15_3 := zab BK141.out 3) | (go_at_call 78; (with_reducible refine (zaY.calls a0_1 false _ A7.out).mono ?_); rintro e w' ⟨rfl, ⟨nd, rfl⟩⟩))
      go_ret
      exact ⟨by first | rfl | (simp [*, zaz, zay] <;> rfl), by repeat (first | (with_reducible first | exact HB.out | apply zad | apply zac | apply zae | refine zaB ?_ GE141.out) | exact HB.out)⟩
   ·rw [if_neg c6] at H
    have c6b0 : (a0_2 == 0) = false := beq_eq_false_iff_ne.mpr c6; have c6b1 : (a0_2 != 0) = true := bne_iff_ne.mpr c6; obtain rfl := Option.some.inj H; go_enter Tryd.func66, Tryd.ntmps66
    go_wp2_with (first | ((with_reducible refine za6 (N := 1) rfl ?_); refine zbl ?hg (N := 1) ?hd (cs := #[.int .u8 a0_0, .int .u8 a0_1, .int .i64 a0_2, .slice A0_3 l0_3.length c0_3]) (t := 29) ?hr ?_; (case hd => rfl); (case hg => rfl); (case hr => first | (go_simp; done) | (go_simp; rfl)); intro gb141 hg w16 hbox hb; have n0_ := zaa.mk (zai (by repeat (first | exact HB.out | apply zad | apply zac | apply zae)) hb); have n1_ := zaa.mk (hbox); have n2_ := zaa.mk ((by rw [hg]; exact (zax (by repeat (first | exact HB.out | apply zad | apply zac | apply zae))) : w.heap.size ≤ gb141)); have n3_ := zaa.mk ((by rw [hg]; exact (zax (by repeat (first | exact HB.out | apply zad | apply zac | apply zae))) : w.heap.size ≤ gb141)); clear HB; have HB := n0_; have BK141 := n1_; have GW141 := n2_; have GE141 := n3_; clear n0_ n1_ n2_ n3_; clear hb hbox hg; have hcz17_0 : w16.cell? ⟨gb141, 0, none⟩ = some (.int .u8 a0_0) := (zaf BK141.out 0).trans rfl; have hcz17_1 : w16.cell? ⟨gb141, 1, none⟩ = some (.int .u8 a0_1) := (zaf BK141.out 1).trans rfl; have hcz17_2 : w16.cell? ⟨gb141, 2, none⟩ = some (.int .i64 a0_2) := (zaf BK141.out 2).trans rfl; have hcz17_3 : w16.cell? ⟨gb141, 3, none⟩ = some (.slice A0_3 l0_3.length c0_3) := (zaf BK141.out 3).trans rfl; have hfz17_0 := zab BK141.out 0; have hfz17_1 := zab BK141.out 1; have hfz17_2 := zab BK141.out 2; have hfz17_3 := zab BK141.out 3))
    go_ret
    exact ⟨by first | rfl | (simp [*, zaz, zay] <;> rfl), by repeat (first | (with_reducible first | exact HB.out | apply zad | apply zac | apply zae | refine zaB ?_ GE141.out) | exact HB.out)⟩
  ·rw [if_neg c5] at H
   have c5b0 : (a0_0 == 50) = false := beq_eq_false_iff_ne.mpr c5; have c5b1 : (a0_0 != 50) = true := bne_iff_ne.mpr c5; replace H := Option.bind_eq_some_iff.mp H; obtain ⟨t143, A180, H⟩ := H; replace H : (if t143 = true then (if a0_2 ≥ 1 then (if a0_2 ≤ 1099511627776 then (some (a0_1 == 0)) else (some false)) else (some false)) else (some false)) = some r := H
   have A18 := zaa.mk A180; clear A180; by_cases c19 : t143 = true
   ·subst c19
    have H1 : (if a0_2 ≥ 1 then (if a0_2 ≤ 1099511627776 then (some (a0_1 == 0)) else (some false)) else (some false)) = some r := by rw [if_pos rfl] at H; exact H
    clear H; have H := H1; clear H1; by_cases c20 : a0_2 ≥ 1
    ·rw [if_pos c20] at H
     have c20b0 : decide (1 ≤ a0_2) = true := decide_eq_true c20; clear c20; by_cases c21 : a0_2 ≤ 1099511627776
     ·rw [if_pos c21] at H
      have c21b0 : decide (a0_2 ≤ 1099511627776) = true := decide_eq_true c21; clear c21; obtain rfl := Option.some.inj H; go_enter Tryd.func66, Tryd.ntmps66
      go_wp2_with (first | ((with_reducible refine za6 (N := 1) rfl ?_); refine zbl ?hg (N := 1) ?hd (cs := #[.int .u8 a0_0, .int .u8 a0_1, .int .i64 a0_2, .slice A0_3 l0_3.length c0_3]) (t := 29) ?hr ?_; (case hd => rfl); (case hg => rfl); (case hr => first | (go_simp; done) | (go_simp; rfl)); intro gb141 hg w22 hbox hb; have n0_ := zaa.mk (zai (by repeat (first | exact HB.out | apply zad | apply zac | apply zae)) hb); have n1_ := zaa.mk (hbox); have n2_ := zaa.mk ((by rw [hg]; exact (zax (by repeat (first | exact HB.out | apply zad | apply zac | apply zae))) : w.heap.size ≤ gb141)); have n3_ := zaa.mk ((by rw [hg]; exact (zax (by repeat (first | exact HB.out | apply zad | apply zac | apply zae))) : w.heap.size ≤ gb141)); clear HB; have HB := n0_; have BK141 := n1_; have GW141 := n2_; have GE141 := n3_; clear n0_ n1_ n2_ n3_; clear hb hbox hg; have hcz23_0 : w22.cell? ⟨gb141, 0, none⟩ = some (.int .u8 a0_0) := (zaf BK141.out 0).trans rfl; have hcz23_1 : w22.cell? ⟨gb141, 1, none⟩ = some (.int .u8 a0_1) := (zaf BK141.out 1).trans rfl; have hcz23_2 : w22.cell? ⟨gb141, 2, none⟩ = some (.int .i64 a0_2) := (zaf BK141.out 2).trans rfl; have hcz23_3 : w22.cell? ⟨gb141, 3, none⟩ = some (.slice A0_3 l0_3.length c0_3) := (zaf BK141.out 3).trans rfl; have hfz23_0 := zab BK141.out 0; have hfz23_1 := zab BK141.out 1; have hfz23_2 := zab BK141.out 2; have hfz23_3 := zab BK141.out 3) | ((with_reducible refine zaK (f := 30) rfl ?_); refine zbk (some 30) rfl rfl Tryd.func30 (by kernel_rfl) rfl #[.int .u8 a0_0] rfl (by (try simp only [List.map_toArray, List.map_cons, List.map_nil]); first | done | rfl | (simp only [List.length_drop, List.length_take]; rfl)) ?_; (with_reducible refine (zaQ.calls a0_0 true _ A18.out).mono ?_); rintro e w' ⟨rfl, ⟨nd, rfl⟩⟩; refine ⟨_, rfl, ?_⟩))
      go_ret
      exact ⟨by first | rfl | (simp [*, zaz, zay] <;> rfl), by repeat (first | (with_reducible first | exact HB.out | apply zad | apply zac | apply zae | refine zaB ?_ GE141.out) | exact HB.out)⟩
     ·rw [if_neg c21] at H
      have c21b0 : decide (a0_2 ≤ 1099511627776) = false := decide_eq_false c21; clear c21; obtain rfl := Option.some.inj H; go_enter Tryd.func66, Tryd.ntmps66
      go_wp2_with (first | ((with_reducible refine za6 (N := 1) rfl ?_); refine zbl ?hg (N := 1) ?hd (cs := #[.int .u8 a0_0, .int .u8 a0_1, .int .i64 a0_2, .slice A0_3 l0_3.length c0_3]) (t := 29) ?hr ?_; (case hd => rfl); (case hg => rfl); (case hr => first | (go_simp; done) | (go_simp; rfl)); intro gb141 hg w24 hbox hb; have n0_ := zaa.mk (zai (by repeat (first | exact HB.out | apply zad | apply zac | apply zae)) hb); have n1_ := zaa.mk (hbox); have n2_ := zaa.mk ((by rw [hg]; exact (zax (by repeat (first | exact HB.out | apply zad | apply zac | apply zae))) : w.heap.size ≤ gb141)); have n3_ := zaa.mk ((by rw [hg]; exact (zax (by repeat (first | exact HB.out | apply zad | apply zac | apply zae))) : w.heap.size ≤ gb141)); clear HB; have HB := n0_; have BK141 := n1_; have GW141 := n2_; have GE141 := n3_; clear n0_ n1_ n2_ n3_; clear hb hbox hg; have hcz25_0 : w24.cell? ⟨gb141, 0, none⟩ = some (.int .u8 a0_0) := (zaf BK141.out 0).trans rfl; have hcz25_1 : w24.cell? ⟨gb141, 1, none⟩ = some (.int .u8 a0_1) := (zaf BK141.out 1).trans rfl; have hcz25_2 : w24.cell? ⟨gb141, 2, none⟩ = some (.int .i64 a0_2) := (zaf BK141.out 2).trans rfl; have hcz25_3 : w24.cell? ⟨gb141, 3, none⟩ = some (.slice A0_3 l0_3.length c0_3) := (zaf BK141.out 3).trans rfl; have hfz25_0 := zab BK141.out 0; have hfz25_1 := zab BK141.out 1; have hfz25_2 := zab BK141.out 2; have hfz25_3 := zab BK141.out 3) | ((with_reducible refine zaK (f := 30) rfl ?_); refine zbk (some 30) rfl rfl Tryd.func30 (by kernel_rfl) rfl #[.int .u8 a0_0] rfl (by (try simp only [List.map_toArray, List.map_cons, List.map_nil]); first | done | rfl | (simp only [List.length_drop, List.length_take]; rfl)) ?_; (with_reducible refine (zaQ.calls a0_0 true _ A18.out).mono ?_); rintro e w' ⟨rfl, ⟨nd, rfl⟩⟩; refine ⟨_, rfl, ?_⟩))
      go_ret
      exact ⟨by first | rfl | (simp [*, zaz, zay] <;> rfl), by repeat (first | (with_reducible first | exact HB.out | apply zad | apply zac | apply zae | refine zaB ?_ GE141.out) | exact HB.out)⟩
    ·rw [if_neg c20] at H
     have c20b0 : decide (1 ≤ a0_2) = false := decide_eq_false c20; clear c20; obtain rfl := Option.some.inj H; go_enter Tryd.func66, Tryd.ntmps66
     go_wp2_with (first | ((with_reducible refine za6 (N := 1) rfl ?_); refine zbl ?hg (N := 1) ?hd (cs := #[.int .u8 a0_0, .int .u8 a0_1, .int .i64 a0_2, .slice A0_3 l0_3.length c0_3]) (t := 29) ?hr ?_; (case hd => rfl); (case hg => rfl); (case hr => first | (go_simp; done) | (go_simp; rfl)); intro gb141 hg w26 hbox hb; have n0_ := zaa.mk (zai (by repeat (first | exact HB.out | apply zad | apply zac | apply zae)) hb); have n1_ := zaa.mk (hbox); have n2_ := zaa.mk ((by rw [hg]; exact (zax (by repeat (first | exact HB.out | apply zad | apply zac | apply zae))) : w.heap.size ≤ gb141)); have n3_ := zaa.mk ((by rw [hg]; exact (zax (by repeat (first | exact HB.out | apply zad | apply zac | apply zae))) : w.heap.size ≤ gb141)); clear HB; have HB := n0_; have BK141 := n1_; have GW141 := n2_; have GE141 := n3_; clear n0_ n1_ n2_ n3_; clear hb hbox hg; have hcz27_0 : w26.cell? ⟨gb141, 0, none⟩ = some (.int .u8 a0_0) := (zaf BK141.out 0).trans rfl; have hcz27_1 : w26.cell? ⟨gb141, 1, none⟩ = some (.int .u8 a0_1) := (zaf BK141.out 1).trans rfl; have hcz27_2 : w26.cell? ⟨gb141, 2, none⟩ = some (.int .i64 a0_2) := (zaf BK141.out 2).trans rfl; have hcz27_3 : w26.cell? ⟨gb141, 3, none⟩ = some (.slice A0_3 l0_3.length c0_3) := (zaf BK141.out 3).trans rfl; have hfz27_0 := zab BK141.out 0; have hfz27_1 := zab BK141.out 1; have hfz27_2 := zab BK141.out 2; have hfz27_3 := zab BK141.out 3) | ((with_reducible refine zaK (f := 30) rfl ?_); refine zbk (some 30) rfl rfl Tryd.func30 (by kernel_rfl) rfl #[.int .u8 a0_0] rfl (by (try simp only [List.map_toArray, List.map_cons, List.map_nil]); first | done | rfl | (simp only [List.length_drop, List.length_take]; rfl)) ?_; (with_reducible refine (zaQ.calls a0_0 true _ A18.out).mono ?_); rintro e w' ⟨rfl, ⟨nd, rfl⟩⟩; refine ⟨_, rfl, ?_⟩))
     go_ret
     exact ⟨by first | rfl | (simp [*, zaz, zay] <;> rfl), by repeat (first | (with_reducible first | exact HB.out | apply zad | apply zac | apply zae | refine zaB ?_ GE141.out) | exact HB.out)⟩
   ·replace c19 := Bool.eq_false_iff.mpr c19
    subst c19; have H1 : (some false) = some r := by rw [if_neg (show ¬ (false = true) by decide)] at H; exact H
    clear H; have H := H1; clear H1; obtain rfl := Option.some.inj H; go_enter Tryd.func66, Tryd.ntmps66
    go_wp2_with (first | ((with_reducible refine za6 (N := 1) rfl ?_); refine zbl ?hg (N := 1) ?hd (cs := #[.int .u8 a0_0, .int .u8 a0_1, .int .i64 a0_2, .slice A0_3 l0_3.length c0_3]) (t := 29) ?hr ?_; (case hd => rfl); (case hg => rfl); (case hr => first | (go_simp; done) | (go_simp; rfl)); intro gb141 hg w28 hbox hb; have n0_ := zaa.mk (zai (by repeat (first | exact HB.out | apply zad | apply zac | apply zae)) hb); have n1_ := zaa.mk (hbox); have n2_ := zaa.mk ((by rw [hg]; exact (zax (by repeat (first | exact HB.out | apply zad | apply zac | apply zae))) : w.heap.size ≤ gb141)); have n3_ := zaa.mk ((by rw [hg]; exact (zax (by repeat (first | exact HB.out | apply zad | apply zac | apply zae))) : w.heap.size ≤ gb141)); clear HB; have HB := n0_; have BK141 := n1_; have GW141 := n2_; have GE141 := n3_; clear n0_ n1_ n2_ n3_; clear hb hbox hg; have hcz29_0 : w28.cell? ⟨gb141, 0, none⟩ = some (.int .u8 a0_0) := (zaf BK141.out 0).trans rfl; have hcz29_1 : w28.cell? ⟨gb141, 1, none⟩ = some (.int .u8 a0_1) := (zaf BK141.out 1).trans rfl; have hcz29_2 : w28.cell? ⟨gb141, 2, none⟩ = some (.int .i64 a0_2) := (zaf BK141.out 2).trans rfl; have hcz29_3 : w28.cell? ⟨gb141, 3, none⟩ = some (.slice A0_3 l0_3.length c0_3) := (zaf BK141.out 3).trans rfl; have hfz29_0 := zab BK141.out 0; have hfz29_1 := zab BK141.out 1; have hfz29_2 := zab BK141.out 2; have hfz29_3 := zab BK141.out 3) | ((with_reducible refine zaK (f := 30) rfl ?_); refine zbk (some 30) rfl rfl Tryd.func30 (by kernel_rfl) rfl #[.int .u8 a0_0] rfl (by (try simp only [List.map_toArray, List.map_cons, List.map_nil]); first | done | rfl | (simp only [List.length_drop, List.length_take]; rfl)) ?_; (with_reducible refine (zaQ.calls a0_0 false _ A18.out).mono ?_); rintro e w' ⟨rfl, ⟨nd, rfl⟩⟩; refine ⟨_, rfl, ?_⟩))
    go_ret
    exact ⟨by first | rfl | (simp [*, zaz, zay] <;> rfl), by repeat (first | (with_reducible first | exact HB.out | apply zad | apply zac | apply zae | refine zaB ?_ GE141.out) | exact HB.out)⟩
mutual
def zak.j0 : Nat → Int → Int → Bool → Int → Int → Int → List (S29) → Option (Int)
 | 0, _, _, _, _, _, _, _ => none
 | k + 1, x1, x2, x16, x145000, x145001, x145002, x145003 => if x16 = true then (some 0) else (if x145000 < 51 then (zak.j1 k x1 x2 true x145000 x145001 x145002 x145003) else (zak.j1 k x1 x2 (decide (x145000 > 68)) x145000 x145001 x145002 x145003))
def zak.j1 : Nat → Int → Int → Bool → Int → Int → Int → List (S29) → Option (Int)
 | 0, _, _, _, _, _, _, _ => none
 | k + 1, x1, x2, x24, x145000, x145001, x145002, x145003 => if x24 = true then ((zby.f x145000 x145001 x145002 x145003).bind fun t145 => (if t145 = true then (some 1) else (some 0))) else (if x145001 = 0 then (if x145000 = 51 then (zak.j2 k x1 x2 (decide (x1 > 1)) x145000 x145001 x145002 x145003) else (zak.j2 k x1 x2 false x145000 x145001 x145002 x145003)) else (zak.j2 k x1 x2 true x145000 x145001 x145002 x145003))
def zak.j2 : Nat → Int → Int → Bool → Int → Int → Int → List (S29) → Option (Int)
 | 0, _, _, _, _, _, _, _ => none
 | k + 1, x1, x2, x38, x145000, x145001, x145002, x145003 => if x38 = true then (some 0) else (zak.l0 k x1 x2 1 0 0 x145000 x145001 x145002 x145003)
def zak.l0 : Nat → Int → Int → Int → Int → Int → Int → Int → Int → List (S29) → Option (Int)
 | 0, _, _, _, _, _, _, _, _, _ => none
 | k + 1, x1, x2, x7, x8, x9, x145000, x145001, x145002, x145003 => if x9 < (x145003.length : Int) then (if 0 ≤ x9 then ((zak.f k ((zbc x145003 x9).f0) ((zbc x145003 x9).f1) ((zbc x145003 x9).f2) ((zbc x145003 x9).f3) (wrap64 (x1 + 1)) (wrap64 (x2 - x7))).bind fun t147 => (if t147 = 0 then (some 0) else (zak.l0 k x1 x2 (wrap64 (x7 + t147)) (wrap64 (x8 + ((zbc x145003 x9).f2))) (wrap64 (x9 + 1)) x145000 x145001 x145002 x145003))) else (none)) else (if x8 = x145002 then (if x8 > 1099511627776 then (some 0) else (some x7)) else (some 0))
def zak.f : Nat → Int → Int → Int → List (S29) → Int → Int → Option (Int)
 | 0, _, _, _, _, _, _ => none
 | k + 1, a0_0, a0_1, a0_2, l0_3, a1, a2 => if a1 > 65536 then (zak.j0 k a1 a2 true a0_0 a0_1 a0_2 l0_3) else (zak.j0 k a1 a2 (decide (a2 < 1)) a0_0 a0_1 a0_2 l0_3)
end
theorem zak.calls (k : Nat) : ∀ (a0_0 : Int) (a0_1 : Int) (a0_2 : Int) (A0_3 : Option Addr) (c0_3 : Nat) (l0_3 : List (S29)) (a1 : Int) (a2 : Int) (r : Int) (w : World) (hr0_3 : Kd.C k29 w A0_3 l0_3.length l0_3) (hc0_3 : l0_3.length ≤ c0_3) (h : zak.f k a0_0 a0_1 a0_2 l0_3 a1 a2 = some r),
  Calls Tryd.prog 50 #[.agg #[.int .u8 a0_0, .int .u8 a0_1, .int .i64 a0_2, .slice A0_3 l0_3.length c0_3], .int .i64 a1, .int .i64 a2] w fun e w' => e = .returned (.int .i64 r) ∧ Below w.heap.size w w' := by
 induction k using Nat.strongRecOn with
 | _ k ih =>
 intro a0_0 a0_1 a0_2 A0_3 c0_3 l0_3 a1 a2 r w hr0_3 hc0_3 h
 cases k with
 | zero => exact absurd h (by simp [zak.f])
 | succ k =>
 simp only [zak.f] at h; have hu29 := Tryd.underlying29; have HR0_3 := zaa.mk hr0_3; have HC0_3 := zaa.mk hc0_3; clear hr0_3 hc0_3; have HB := zaa.mk (Below.refl w.heap.size w); have H : (if a1 > 65536 then (zak.j0 k a1 a2 true a0_0 a0_1 a0_2 l0_3) else (zak.j0 k a1 a2 (decide (a2 < 1)) a0_0 a0_1 a0_2 l0_3)) = some r := h
 clear h; have HC4 := zaa.mk H; clear H; go_enter Tryd.func50, Tryd.ntmps50
 go_upto_region 1 with (first | ((with_reducible refine za6 (N := 3) rfl ?_); refine zbl ?hg (N := 3) ?hd (cs := #[.int .u8 a0_0, .int .u8 a0_1, .int .i64 a0_2, .slice A0_3 l0_3.length c0_3]) (t := 29) ?hr ?_; (case hd => rfl); (case hg => rfl); (case hr => first | (go_simp; done) | (go_simp; rfl)); intro gb144 hg w5 hbox hb; have n0_ := zaa.mk (zai (by repeat (first | exact HB.out | apply zad | apply zac | apply zae)) hb); have n1_ := zaa.mk (hbox); have n2_ := zaa.mk ((by rw [hg]; exact (zax (by repeat (first | exact HB.out | apply zad | apply zac | apply zae))) : w.heap.size ≤ gb144)); have n3_ := zaa.mk ((by rw [hg]; exact (zax (by repeat (first | exact HB.out | apply zad | apply zac | apply zae))) : w.heap.size ≤ gb144)); clear HB; have HB := n0_; have BK144 := n1_; have GW144 := n2_; have GE144 := n3_; clear n0_ n1_ n2_ n3_; clear hb hbox hg))
 (try simp only [Act.put, zaj])
 go_cut [16] (fun v16 wc => ∃ (kq : Nat) (x16_3 : Bool), v16 = .bool x16_3 ∧ zaa (zak.j0 kq a1 a2 x16_3 a0_0 a0_1 a0_2 l0_3 = some r) ∧ zaa (kq ≤ k) ∧ zaa (wc.heap[gb144]? = some (.cells #[.int .u8 a0_0, .int .u8 a0_1, .int .i64 a0_2, (.slice A0_3 l0_3.length c0_3)] 29 (0, 0))) ∧ zaa (Below w.heap.size w wc))
 case first =>
  have H := HC4.out; clear HC4; by_cases c6 : a1 > 65536
  ·rw [if_pos c6] at H
   have c6b0 : decide (65536 < a1) = true := decide_eq_true c6; clear c6
   (first | rw [c6b0] | (simp only [i64_w, i32_w]; rw [c6b0]) | skip)
   have H' := zaa.mk H; clear H; go_wp2
   go_meet
   case rel => exact ⟨_, (true), (by first | rfl | (simp; done) | simp [*]), H', ⟨by first | omega | exact Nat.le_refl _⟩, ⟨by (with_reducible repeat (first | refine zau ?_ _ | refine zaF ?_ | refine zav ?_ _)); exact BK144.out⟩, ⟨by repeat (first | (with_reducible first | exact HB.out | apply zad | apply zac | apply zae | refine zaB ?_ GE144.out) | exact HB.out)⟩⟩
  ·rw [if_neg c6] at H
   have c6b0 : decide (65536 < a1) = false := decide_eq_false c6; clear c6
   (first | rw [c6b0] | (simp only [i64_w, i32_w]; rw [c6b0]) | skip)
   have H' := zaa.mk H; clear H; go_wp2
   go_meet
   case rel => exact ⟨_, (decide (a2 < 1)), (by first | rfl | (simp; done) | simp [*]), H', ⟨by first | omega | exact Nat.le_refl _⟩, ⟨by (with_reducible repeat (first | refine zau ?_ _ | refine zaF ?_ | refine zav ?_ _)); exact BK144.out⟩, ⟨by repeat (first | (with_reducible first | exact HB.out | apply zad | apply zac | apply zae | refine zaB ?_ GE144.out) | exact HB.out)⟩⟩
 case rest =>
  clear HC4; try clear p2
  try clear c5
  try clear c6
  try clear c6b0
  obtain ⟨kq, x16_3, rfl, HA, HJ3, BK144, HB⟩ := hcut; cases kq with
  | zero => exact absurd HA.out (by simp [zak.j0])
  | succ kj3 =>
   have H := HA.out; clear HA; simp only [zak.j0] at H; by_cases c7 : x16_3 = true
   ·subst c7
    have H1 : (some 0) = some r := by rw [if_pos rfl] at H; exact H
    clear H; have H := H1; clear H1; obtain rfl := Option.some.inj H; go_wp2
    go_ret
    exact ⟨by first | rfl | (simp [*, zaz, zay] <;> rfl), by repeat (first | (with_reducible first | exact HB.out | apply zad | apply zac | apply zae | refine zaB ?_ GE144.out) | exact HB.out)⟩
   ·replace c7 := Bool.eq_false_iff.mpr c7
    subst c7; have H1 : (if a0_0 < 51 then (zak.j1 kj3 a1 a2 true a0_0 a0_1 a0_2 l0_3) else (zak.j1 kj3 a1 a2 (decide (a0_0 > 68)) a0_0 a0_1 a0_2 l0_3)) = some r := by rw [if_neg (show ¬ (false = true) by decide)] at H; exact H
    clear H; have H := H1; clear H1; have HC8 := zaa.mk H; clear H; go_upto_region 3 with (fail)
    go_cut [24] (fun v24 wc => ∃ (kq : Nat) (x24_7 : Bool), v24 = .bool x24_7 ∧ zaa (zak.j1 kq a1 a2 x24_7 a0_0 a0_1 a0_2 l0_3 = some r) ∧ zaa (kq ≤ kj3) ∧ zaa (wc.heap[gb144]? = some (.cells #[.int .u8 a0_0, .int .u8 a0_1, .int .i64 a0_2, (.slice A0_3 l0_3.length c0_3)] 29 (0, 0))) ∧ zaa (Below w.heap.size w wc))
    case first =>
     have H := HC8.out; clear HC8; by_cases c9 : a0_0 < 51
     ·rw [if_pos c9] at H
      have c9b0 : decide (a0_0 < 51) = true := decide_eq_true c9; clear c9
      (first | rw [c9b0] | (simp only [i64_w, i32_w]; rw [c9b0]) | skip)
      have H' := zaa.mk H; clear H; have hcz10_0 : wc.cell? ⟨gb144, 0, none⟩ = some (.int .u8 a0_0) := (zaf BK144.out 0).trans rfl; have hcz10_1 : wc.cell? ⟨gb144, 1, none⟩ = some (.int .u8 a0_1) := (zaf BK144.out 1).trans rfl; have hcz10_2 : wc.cell? ⟨gb144, 2, none⟩ = some (.int .i64 a0_2) := (zaf BK144.out 2).trans rfl; have hcz10_3 : wc.cell? ⟨gb144, 3, none⟩ = some (.slice A0_3 l0_3.length c0_3) := (zaf BK144.out 3).trans rfl; have hfz10_0 := zab BK144.out 0; have hfz10_1 := zab BK144.out 1; have hfz10_2 := zab BK144.out 2; have hfz10_3 := zab BK144.out 3; go_wp2
      go_meet
      case rel => exact ⟨_, (true), (by first | rfl | (simp; done) | simp [*]), H', ⟨by have := HJ3.out; first | omega | exact Nat.le_refl _⟩, ⟨by (with_reducible repeat (first | refine zau ?_ _ | refine zaF ?_ | refine zav ?_ _)); exact BK144.out⟩, ⟨by repeat (first | (with_reducible first | exact HB.out | apply zad | apply zac | apply zae | refine zaB ?_ GE144.out) | exact HB.out)⟩⟩
     ·rw [if_neg c9] at H
      have c9b0 : decide (a0_0 < 51) = false := decide_eq_false c9; clear c9
      (first | rw [c9b0] | (simp only [i64_w, i32_w]; rw [c9b0]) | skip)
      have H' := zaa.mk H; clear H; have hcz11_0 : wc.cell? ⟨gb144, 0, none⟩ = some (.int .u8 a0_0) := (zaf BK144.out 0).trans rfl; have hcz11_1 : wc.cell? ⟨gb144, 1, none⟩ = some (.int .u8 a0_1) := (zaf BK144.out 1).trans rfl; have hcz11_2 : wc.cell? ⟨gb144, 2, none⟩ = some (.int .i64 a0_2) := (zaf BK144.out 2).trans rfl; have hcz11_3 : wc.cell? ⟨gb144, 3, none⟩ = some (.slice A0_3 l0_3.length c0_3) := (zaf BK144.out 3).trans rfl; have hfz11_0 := zab BK144.out 0; have hfz11_1 := zab BK144.out 1; have hfz11_2 := zab BK144.out 2; have hfz11_3 := zab BK144.out 3; go_wp2
      go_meet
      case rel => exact ⟨_, (decide (a0_0 > 68)), (by first | rfl | (simp; done) | simp [*]), H', ⟨by have := HJ3.out; first | omega | exact Nat.le_refl _⟩, ⟨by (with_reducible repeat (first | refine zau ?_ _ | refine zaF ?_ | refine zav ?_ _)); exact BK144.out⟩, ⟨by repeat (first | (with_reducible first | exact HB.out | apply zad | apply zac | apply zae | refine zaB ?_ GE144.out) | exact HB.out)⟩⟩
    case rest =>
     clear HC8; try clear p2
     try clear c5
     try clear c6
     try clear c6b0
     try clear c7
     try clear c9
     try clear c9b0
     try clear hcz10_0
     try clear hcz10_1
     try clear hcz10_2
     try clear hcz10_3
     try clear hcz11_0
     try clear hcz11_1
     try clear hcz11_2
     try clear hcz11_3
     try clear hfz10_0
     try clear hfz10_1
     try clear hfz10_2
     try clear hfz10_3
     try clear hfz11_0
     try clear hfz11_1
     try clear hfz11_2
     try clear hfz11_3
     try clear p2
     obtain ⟨kq, x24_7, rfl, HA, HJ7, BK144, HB⟩ := hcut; cases kq with
     | zero => exact absurd HA.out (by simp [zak.j1])
     | succ kj7 =>
      have H := HA.out; clear HA; simp only [zak.j1] at H; by_cases c12 : x24_7 = true
      ·subst c12
       have H1 : ((zby.f a0_0 a0_1 a0_2 l0_3).bind fun t145 => (if t145 = true then (some 1) else (some 0))) = some r := by rw [if_pos rfl] at H; exact H
       clear H; have H := H1; clear H1; replace H := Option.bind_eq_some_iff.mp H; obtain ⟨t145, A130, H⟩ := H; replace H : (if t145 = true then (some 1) else (some 0)) = some r := H
       have A13 := zaa.mk A130; clear A130; by_cases c14 : t145 = true
       ·subst c14
        have H1 : (some 1) = some r := by rw [if_pos rfl] at H; exact H
        clear H; have H := H1; clear H1; obtain rfl := Option.some.inj H; have hcz15_0 : wc.cell? ⟨gb144, 0, none⟩ = some (.int .u8 a0_0) := (zaf BK144.out 0).trans rfl; have hcz15_1 : wc.cell? ⟨gb144, 1, none⟩ = some (.int .u8 a0_1) := (zaf BK144.out 1).trans rfl; have hcz15_2 : wc.cell? ⟨gb144, 2, none⟩ = some (.int .i64 a0_2) := (zaf BK144.out 2).trans rfl; have hcz15_3 : wc.cell? ⟨gb144, 3, none⟩ = some (.slice A0_3 l0_3.length c0_3) := (zaf BK144.out 3).trans rfl; have hfz15_0 := zab BK144.out 0; have hfz15_1 := zab BK144.out 1; have hfz15_2 := zab BK144.out 2; have hfz15_3 := zab BK144.out 3; go_wp2_with (first | ((with_reducible refine zaK (f := 66) rfl ?_); refine zbk (some 26) rfl rfl Tryd.func66 (by kernel_rfl) rfl #[.agg #[.int .u8 a0_0, .int .u8 a0_1, .int .i64 a0_2, .slice A0_3 l0_3.length c0_3]] rfl (by (try simp only [List.map_toArray, List.map_cons, List.map_nil]); first | done | rfl | (simp only [List.length_drop, List.length_take]; rfl)) ?_; (with_reducible refine (zby.calls a0_0 a0_1 a0_2 _ _ l0_3 true _ ?side1 ?side2 A13.out).mono ?_); (case side1 => repeat (first | exact (Kd.zaT HR0_3.out HB.out) | (with_reducible refine Kd.C_alloc ?_ _) | (with_reducible refine Kd.C_drewN ?_ _) | (with_reducible refine Kd.C_drew ?_))); (case side2 => exact HC0_3.out); rintro e w16 ⟨rfl, hb⟩; refine ⟨_, rfl, ?_⟩; have n0_ := zaa.mk (zat (g := gb144) (o := .cells #[.int .u8 a0_0, .int .u8 a0_1, .int .i64 a0_2, .slice A0_3 l0_3.length c0_3] 29 (0, 0)) (by (with_reducible repeat (first | refine zau ?_ _ | refine zaF ?_ | refine zav ?_ _)); exact BK144.out) hb); have n1_ := zaa.mk (zai (by repeat (first | (with_reducible first | exact HB.out | apply zad | apply zac | apply zae | refine zaB ?_ GE144.out) | exact HB.out)) hb); clear BK144; clear HB; have BK144 := n0_; have HB := n1_; clear n0_ n1_; (try clear hb); (try clear hb2); (try clear hk); (try clear hi)))
        go_ret
        exact ⟨by first | rfl | (simp [*, zaz, zay] <;> rfl), by repeat (first | (with_reducible first | exact HB.out | apply zad | apply zac | apply zae | refine zaB ?_ GE144.out) | exact HB.out)⟩
       ·replace c14 := Bool.eq_false_iff.mpr c14
        subst c14; have H1 : (some 0) = some r := by rw [if_neg (show ¬ (false = true) by decide)] at H; exact H
        clear H; have H := H1; clear H1; obtain rfl := Option.some.inj H; have hcz17_0 : wc.cell? ⟨gb144, 0, none⟩ = some (.int .u8 a0_0) := (zaf BK144.out 0).trans rfl; have hcz17_1 : wc.cell? ⟨gb144, 1, none⟩ = some (.int .u8 a0_1) := (zaf BK144.out 1).trans rfl; have hcz17_2 : wc.cell? ⟨gb144, 2, none⟩ = some (.int .i64 a0_2) := (zaf BK144.out 2).trans rfl; have hcz17_3 : wc.cell? ⟨gb144, 3, none⟩ = some (.slice A0_3 l0_3.length c0_3) := (zaf BK144.out 3).trans rfl; have hfz17_0 := zab BK144.out 0; have hfz17_1 := zab BK144.out 1; have hfz17_2 := zab BK144.out 2; have hfz17_3 := zab BK144.out 3; go_wp2_with (first | ((with_reducible refine zaK (f := 66) rfl ?_); refine zbk (some 26) rfl rfl Tryd.func66 (by kernel_rfl) rfl #[.agg #[.int .u8 a0_0, .int .u8 a0_1, .int .i64 a0_2, .slice A0_3 l0_3.length c0_3]] rfl (by (try simp only [List.map_toArray, List.map_cons, List.map_nil]); first | done | rfl | (simp only [List.length_drop, List.length_take]; rfl)) ?_; (with_reducible refine (zby.calls a0_0 a0_1 a0_2 _ _ l0_3 false _ ?side1 ?side2 A13.out).mono ?_); (case side1 => repeat (first | exact (Kd.zaT HR0_3.out HB.out) | (with_reducible refine Kd.C_alloc ?_ _) | (with_reducible refine Kd.C_drewN ?_ _) | (with_reducible refine Kd.C_drew ?_))); (case side2 => exact HC0_3.out); rintro e w18 ⟨rfl, hb⟩; refine ⟨_, rfl, ?_⟩; have n0_ := zaa.mk (zat (g := gb144) (o := .cells #[.int .u8 a0_0, .int .u8 a0_1, .int .i64 a0_2, .slice A0_3 l0_3.length c0_3] 29 (0, 0)) (by (with_reducible repeat (first | refine zau ?_ _ | refine zaF ?_ | refine zav ?_ _)); exact BK144.out) hb); have n1_ := zaa.mk (zai (by repeat (first | (with_reducible first | exact HB.out | apply zad | apply zac | apply zae | refine zaB ?_ GE144.out) | exact HB.out)) hb); clear BK144; clear HB; have BK144 := n0_; have HB := n1_; clear n0_ n1_; (try clear hb); (try clear hb2); (try clear hk); (try clear hi)))
        go_ret
        exact ⟨by first | rfl | (simp [*, zaz, zay] <;> rfl), by repeat (first | (with_reducible first | exact HB.out | apply zad | apply zac | apply zae | refine zaB ?_ GE144.out) | exact HB.out)⟩
      ·replace c12 := Bool.eq_false_iff.mpr c12
       subst c12; have H1 : (if a0_1 = 0 then (if a0_0 = 51 then (zak.j2 kj7 a1 a2 (decide (a1 > 1)) a0_0 a0_1 a0_2 l0_3) else (zak.j2 kj7 a1 a2 false a0_0 a0_1 a0_2 l0_3)) else (zak.j2 kj7 a1 a2 true a0_0 a0_1 a0_2 l0_3)) = some r := by rw [if_neg (show ¬ (false = true) by decide)] at H; exact H
       clear H; have H := H1; clear H1; have HC19 := zaa.mk H; clear H; go_upto_region 7 with (fail)
       go_cut [38] (fun v38 wc => ∃ (kq : Nat) (x38_18 : Bool), v38 = .bool x38_18 ∧ zaa (zak.j2 kq a1 a2 x38_18 a0_0 a0_1 a0_2 l0_3 = some r) ∧ zaa (kq ≤ kj7) ∧ zaa (wc.heap[gb144]? = some (.cells #[.int .u8 a0_0, .int .u8 a0_1, .int .i64 a0_2, (.slice A0_3 l0_3.length c0_3)] 29 (0, 0))) ∧ zaa (Below w.heap.size w wc))
       case first =>
        have H := HC19.out; clear HC19; by_cases c20 : a0_1 = 0
        ·rw [if_pos c20] at H
         have c20b0 : (a0_1 == 0) = true := beq_iff_eq.mpr c20; have c20b1 : (a0_1 != 0) = false := bne_eq_false_iff_eq.mpr c20; clear c20
         (first | rw [c20b0] | (simp only [i64_w, i32_w]; rw [c20b0]) | skip)
         by_cases c21 : a0_0 = 51
         ·rw [if_pos c21] at H
          have c21b0 : (a0_0 == 51) = true := beq_iff_eq.mpr c21; have c21b1 : (a0_0 != 51) = false := bne_eq_false_iff_eq.mpr c21; clear c21; have H' := zaa.mk H; clear H; have hcz22_0 : wc.cell? ⟨gb144, 0, none⟩ = some (.int .u8 a0_0) := (zaf BK144.out 0).trans rfl; have hcz22_1 : wc.cell? ⟨gb144, 1, none⟩ = some (.int .u8 a0_1) := (zaf BK144.out 1).trans rfl; have hcz22_2 : wc.cell? ⟨gb144, 2, none⟩ = some (.int .i64 a0_2) := (zaf BK144.out 2).trans rfl; have hcz22_3 : wc.cell? ⟨gb144, 3, none⟩ = some (.slice A0_3 l0_3.length c0_3) := (zaf BK144.out 3).trans rfl; have hfz22_0 := zab BK144.out 0; have hfz22_1 := zab BK144.out 1; have hfz22_2 := zab BK144.out 2; have hfz22_3 := zab BK144.out 3; go_wp2
          go_meet
          case rel => exact ⟨_, (decide (a1 > 1)), (by first | rfl | (simp; done) | simp [*]), H', ⟨by have := HJ3.out; have := HJ7.out; first | omega | exact Nat.le_refl _⟩, ⟨by (with_reducible repeat (first | refine zau ?_ _ | refine zaF ?_ | refine zav ?_ _)); exact BK144.out⟩, ⟨by repeat (first | (with_reducible first | exact HB.out | apply zad | apply zac | apply zae | refine zaB ?_ GE144.out) | exact HB.out)⟩⟩
         ·rw [if_neg c21] at H
          have c21b0 : (a0_0 == 51) = false := beq_eq_false_iff_ne.mpr c21; have c21b1 : (a0_0 != 51) = true := bne_iff_ne.mpr c21; have H' := zaa.mk H; clear H; have hcz23_0 : wc.cell? ⟨gb144, 0, none⟩ = some (.int .u8 a0_0) := (zaf BK144.out 0).trans rfl; have hcz23_1 : wc.cell? ⟨gb144, 1, none⟩ = some (.int .u8 a0_1) := (zaf BK144.out 1).trans rfl; have hcz23_2 : wc.cell? ⟨gb144, 2, none⟩ = some (.int .i64 a0_2) := (zaf BK144.out 2).trans rfl; have hcz23_3 : wc.cell? ⟨gb144, 3, none⟩ = some (.slice A0_3 l0_3.length c0_3) := (zaf BK144.out 3).trans rfl; have hfz23_0 := zab BK144.out 0; have hfz23_1 := zab BK144.out 1; have hfz23_2 := zab BK144.out 2; have hfz23_3 := zab BK144.out 3; go_wp2
          go_meet
          case rel => exact ⟨_, (false), (by first | rfl | (simp; done) | simp [*]), H', ⟨by have := HJ3.out; have := HJ7.out; first | omega | exact Nat.le_refl _⟩, ⟨by (with_reducible repeat (first | refine zau ?_ _ | refine zaF ?_ | refine zav ?_ _)); exact BK144.out⟩, ⟨by repeat (first | (with_reducible first | exact HB.out | apply zad | apply zac | apply zae | refine zaB ?_ GE144.out) | exact HB.out)⟩⟩
        ·rw [if_neg c20] at H
         have c20b0 : (a0_1 == 0) = false := beq_eq_false_iff_ne.mpr c20; have c20b1 : (a0_1 != 0) = true := bne_iff_ne.mpr c20
         (first | rw [c20b0] | (simp only [i64_w, i32_w]; rw [c20b0]) | skip)
         have H' := zaa.mk H; clear H; have hcz24_0 : wc.cell? ⟨gb144, 0, none⟩ = some (.int .u8 a0_0) := (zaf BK144.out 0).trans rfl; have hcz24_1 : wc.cell? ⟨gb144, 1, none⟩ = some (.int .u8 a0_1) := (zaf BK144.out 1).trans rfl; have hcz24_2 : wc.cell? ⟨gb144, 2, none⟩ = some (.int .i64 a0_2) := (zaf BK144.out 2).trans rfl; have hcz24_3 : wc.cell? ⟨gb144, 3, none⟩ = some (.slice A0_3 l0_3.length c0_3) := (zaf BK144.out 3).trans rfl; have hfz24_0 := zab BK144.out 0; have hfz24_1 := zab BK144.out 1; have hfz24_2 := zab BK144.out 2; have hfz24_3 := zab BK144.out 3; go_wp2
         go_meet
         case rel => exact ⟨_, (true), (by first | rfl | (simp; done) | simp [*]), H', ⟨by have := HJ3.out; have := HJ7.out; first | omega | exact Nat.le_refl _⟩, ⟨by (with_reducible repeat (first | refine zau ?_ _ | refine zaF ?_ | refine zav ?_ _)); exact BK144.out⟩, ⟨by repeat (first | (with_reducible first | exact HB.out | apply zad | apply zac | apply zae | refine zaB ?_ GE144.out) | exact HB.out)⟩⟩
       case rest =>
        clear HC19; try clear c1
        try clear c2
        try clear p2
        try clear c5
        try clear c6
        try clear c6b0
        try clear c7
        try clear c9
        try clear c9b0
        try clear c12
        try clear c14
        try clear c20
        try clear c20b0
        try clear c20b1
        try clear c21
        try clear c21b0
        try clear c21b1
        try clear hcz10_0
        try clear hcz10_1
        try clear hcz10_2
        try clear hcz10_3
        try clear hcz11_0
        try clear hcz11_1
        try clear hcz11_2
        try clear hcz11_3
        try clear hcz15_0
        try clear hcz15_1
        try clear hcz15_2
        try clear hcz15_3
        try clear hcz17_0
        try clear hcz17_1
        try clear hcz17_2
        try clear hcz17_3
        try clear hcz22_0
        try clear hcz22_1
        try clear hcz22_2
        try clear hcz22_3
        try clear hcz23_0
        try clear hcz23_1
        try clear hcz23_2
        try clear hcz23_3
        try clear hcz24_0
        try clear hcz24_1
        try clear hcz24_2
        try clear hcz24_3
        try clear hfz10_0
        try clear hfz10_1
        try clear hfz10_2
        try clear hfz10_3
        try clear hfz11_0
        try clear hfz11_1
        try clear hfz11_2
        try clear hfz11_3
        try clear hfz15_0
        try clear hfz15_1
        try clear hfz15_2
        try clear hfz15_3
        try clear hfz17_0
        try clear hfz17_1
        try clear hfz17_2
        try clear hfz17_3
        try clear hfz22_0
        try clear hfz22_1
        try clear hfz22_2
        try clear hfz22_3
        try clear hfz23_0
        try clear hfz23_1
        try clear hfz23_2
        try clear hfz23_3
        try clear hfz24_0
        try clear hfz24_1
        try clear hfz24_2
        try clear hfz24_3
        try clear p2
        obtain ⟨kq, x38_18, rfl, HA, HJ18, BK144, HB⟩ := hcut; cases kq with
        | zero => exact absurd HA.out (by simp [zak.j2])
        | succ kj18 =>
         have H := HA.out; clear HA; simp only [zak.j2] at H; by_cases c25 : x38_18 = true
         ·subst c25
          have H1 : (some 0) = some r := by rw [if_pos rfl] at H; exact H
          clear H; have H := H1; clear H1; obtain rfl := Option.some.inj H; go_wp2
          go_ret
          exact ⟨by first | rfl | (simp [*, zaz, zay] <;> rfl), by repeat (first | (with_reducible first | exact HB.out | apply zad | apply zac | apply zae | refine zaB ?_ GE144.out) | exact HB.out)⟩
         ·replace c25 := Bool.eq_false_iff.mpr c25
          subst c25; have H1 : (zak.l0 kj18 a1 a2 1 0 0 a0_0 a0_1 a0_2 l0_3) = some r := by rw [if_neg (show ¬ (false = true) by decide)] at H; exact H
          clear H; have H := H1; clear H1; have H' := zaa.mk H; clear H; go_wp2
          go_loopg [7, 8, 9] kj18 (fun kq v7 v8 v9 w' => ∃ (x7_4 : Int) (x8_4 : Int) (x9_4 : Int), v7 = .int .i64 x7_4 ∧ v8 = .int .i64 x8_4 ∧ v9 = .int .i64 x9_4 ∧ zaa (zak.l0 kq a1 a2 x7_4 x8_4 x9_4 a0_0 a0_1 a0_2 l0_3 = some r) ∧ zaa (kq ≤ kj18) ∧ zaa (w'.heap[gb144]? = some (.cells #[.int .u8 a0_0, .int .u8 a0_1, .int .i64 a0_2, (.slice A0_3 l0_3.length c0_3)] 29 (0, 0))) ∧ zaa (Below w.heap.size w w'))
          case atStart => exact ⟨(1), (0), (0), (by first | rfl | (simp; done) | simp [*]), (by first | rfl | (simp; done) | simp [*]), (by first | rfl | (simp; done) | simp [*]), H', ⟨Nat.le_refl _⟩, ⟨by (with_reducible repeat (first | refine zau ?_ _ | refine zaF ?_ | refine zav ?_ _)); exact BK144.out⟩, ⟨by repeat (first | (with_reducible first | exact HB.out | apply zad | apply zac | apply zae | refine zaB ?_ GE144.out) | exact HB.out)⟩⟩
          case round =>
           clear H'; try clear c1
           try clear c2
           try clear p2
           try clear c5
           try clear c6
           try clear c6b0
           try clear c7
           try clear c9
           try clear c9b0
           try clear c12
           try clear c14
           try clear c20
           try clear c20b0
           try clear c20b1
           try clear c21
           try clear c21b0
           try clear c21b1
           try clear c25
           try clear hcz10_0
           try clear hcz10_1
           try clear hcz10_2
           try clear hcz10_3
           try clear hcz11_0
           try clear hcz11_1
           try clear hcz11_2
           try clear hcz11_3
           try clear hcz15_0
           try clear hcz15_1
           try clear hcz15_2
           try clear hcz15_3
           try clear hcz17_0
           try clear hcz17_1
           try clear hcz17_2
           try clear hcz17_3
           try clear hcz22_0
           try clear hcz22_1
           try clear hcz22_2
           try clear hcz22_3
           try clear hcz23_0
           try clear hcz23_1
           try clear hcz23_2
           try clear hcz23_3
           try clear hcz24_0
           try clear hcz24_1
           try clear hcz24_2
           try clear hcz24_3
           try clear hfz10_0
           try clear hfz10_1
           try clear hfz10_2
           try clear hfz10_3
           try clear hfz11_0
           try clear hfz11_1
           try clear hfz11_2
           try clear hfz11_3
           try clear hfz15_0
           try clear hfz15_1
           try clear hfz15_2
           try clear hfz15_3
           try clear hfz17_0
           try clear hfz17_1
           try clear hfz17_2
           try clear hfz17_3
           try clear hfz22_0
           try clear hfz22_1
           try clear hfz22_2
           try clear hfz22_3
           try clear hfz23_0
           try clear hfz23_1
           try clear hfz23_2
           try clear hfz23_3
           try clear hfz24_0
           try clear hfz24_1
           try clear hfz24_2
           try clear hfz24_3
           try clear p2
           obtain ⟨x7_4, x8_4, x9_4, rfl, rfl, rfl, HA, HK4, BK144, HB⟩ := hrel; cases gk with
           | zero => exact absurd HA.out (by simp [zak.l0])
           | succ k4 =>
            have H := HA.out; clear HA; simp only [zak.l0] at H; by_cases c26 : x9_4 < (l0_3.length : Int)
            ·rw [if_pos c26] at H
             have c26b0 : decide (x9_4 < (l0_3.length : Int)) = true := decide_eq_true c26; clear c26; by_cases c27 : 0 ≤ x9_4
             ·rw [if_pos c27] at H
              have c27b0 : decide (0 ≤ x9_4) = true := decide_eq_true c27; clear c27; replace H := Option.bind_eq_some_iff.mp H; obtain ⟨t147, A280, H⟩ := H; replace H : (if t147 = 0 then (some 0) else (zak.l0 k4 a1 a2 (wrap64 (x7_4 + t147)) (wrap64 (x8_4 + ((zbc l0_3 x9_4).f2))) (wrap64 (x9_4 + 1)) a0_0 a0_1 a0_2 l0_3)) = some r := H
              have A28 := zaa.mk A280; clear A280; by_cases c29 : t147 = 0
              ·rw [if_pos c29] at H
               have c29b0 : (t147 == 0) = true := beq_iff_eq.mpr c29; have c29b1 : (t147 != 0) = false := bne_eq_false_iff_eq.mpr c29; clear c29; obtain rfl := Option.some.inj H; have hcz30_0 : wr.cell? ⟨gb144, 0, none⟩ = some (.int .u8 a0_0) := (zaf BK144.out 0).trans rfl; have hcz30_1 : wr.cell? ⟨gb144, 1, none⟩ = some (.int .u8 a0_1) := (zaf BK144.out 1).trans rfl; have hcz30_2 : wr.cell? ⟨gb144, 2, none⟩ = some (.int .i64 a0_2) := (zaf BK144.out 2).trans rfl; have hcz30_3 : wr.cell? ⟨gb144, 3, none⟩ = some (.slice A0_3 l0_3.length c0_3) := (zaf BK144.out 3).trans rfl; have hfz30_0 := zab BK144.out 0; have hfz30_1 := zab BK144.out 1; have hfz30_2 := zab BK144.out 2; have hfz30_3 := zab BK144.out 3; have p146 : 0 ≤ (x9_4 : Int) := of_decide_eq_true (by assumption)
               have q146 : x9_4 < (l0_3.length : Int) := of_decide_eq_true (by assumption)
               obtain ⟨ad146, A146_3, c146_3, e146, hx146_0, hx146_1, hx146_2, hx146_3, hl146_3, hi146_3⟩ := at_T29 HR0_3.out x9_4 p146 q146; cases e146; replace hx146_0 := (HB.out.cell (World.block_lt_of_cell? w _ hx146_0)).trans hx146_0; replace hx146_1 := (HB.out.cell (World.block_lt_of_cell? w _ hx146_1)).trans hx146_1; replace hx146_2 := (HB.out.cell (World.block_lt_of_cell? w _ hx146_2)).trans hx146_2; replace hx146_3 := (HB.out.cell (World.block_lt_of_cell? w _ hx146_3)).trans hx146_3; have HR146_3 := zaa.mk hi146_3; have HC146_3 := zaa.mk hl146_3; clear hi146_3 hl146_3; replace p146 := eq_true p146; replace q146 := eq_true q146; go_wp2_with (first | ((with_reducible refine zaK (f := 50) rfl ?_); refine zbk (some 56) rfl rfl Tryd.func50 (by kernel_rfl) rfl #[.agg #[.int .u8 ((zbc l0_3 x9_4).f0), .int .u8 ((zbc l0_3 x9_4).f1), .int .i64 ((zbc l0_3 x9_4).f2), .slice A146_3 ((zbc l0_3 x9_4).f3).length c146_3], .int .i64 (wrap64 (a1 + 1)), .int .i64 (wrap64 (a2 - x7_4))] rfl (by (try simp only [List.map_toArray, List.map_cons, List.map_nil]); first | done | rfl | (simp only [List.length_drop, List.length_take]; rfl)) ?_; (with_reducible refine (ih k4 (by have := HJ3.out; have := HJ7.out; have := HJ18.out; have := HK4.out; omega) ((zbc l0_3 x9_4).f0) ((zbc l0_3 x9_4).f1) ((zbc l0_3 x9_4).f2) _ _ ((zbc l0_3 x9_4).f3) (wrap64 (a1 + 1)) (wrap64 (a2 - x7_4)) t147 _ ?side1 ?side2 A28.out).mono ?_); (case side1 => repeat (first | exact (Kd.zaT HR146_3.out HB.out) | (with_reducible refine Kd.C_alloc ?_ _) | (with_reducible refine Kd.C_drewN ?_ _) | (with_reducible refine Kd.C_drew ?_))); (case side2 => exact HC146_3.out); rintro e w31 ⟨rfl, hb⟩; refine ⟨_, rfl, ?_⟩; have n0_ := zaa.mk (zat (g := gb144) (o := .cells #[.int .u8 a0_0, .int .u8 a0_1, .int .i64 a0_2, .slice (some ad146) l0_3.length c0_3] 29 (0, 0)) (by (with_reducible repeat (first | refine zau ?_ _ | refine zaF ?_ | refine zav ?_ _)); exact BK144.out) hb); have n1_ := zaa.mk (zai (by repeat (first | (with_reducible first | exact HB.out | apply zad | apply zac | apply zae | refine zaB ?_ GE144.out) | exact HB.out)) hb); clear BK144; clear HB; have BK144 := n0_; have HB := n1_; clear n0_ n1_; (try clear hb); (try clear hb2); (try clear hk); (try clear hi)))
               go_ret
               exact ⟨by first | rfl | (simp [*, zaz, zay] <;> rfl), by repeat (first | (with_reducible first | exact HB.out | apply zad | apply zac | apply zae | refine zaB ?_ GE144.out) | exact HB.out)⟩
              ·rw [if_neg c29] at H
               have c29b0 : (t147 == 0) = false := beq_eq_false_iff_ne.mpr c29; have c29b1 : (t147 != 0) = true := bne_iff_ne.mpr c29; have H' := zaa.mk H; clear H; have hcz32_0 : wr.cell? ⟨gb144, 0, none⟩ = some (.int .u8 a0_0) := (zaf BK144.out 0).trans rfl; have hcz32_1 : wr.cell? ⟨gb144, 1, none⟩ = some (.int .u8 a0_1) := (zaf BK144.out 1).trans rfl; have hcz32_2 : wr.cell? ⟨gb144, 2, none⟩ = some (.int .i64 a0_2) := (zaf BK144.out 2).trans rfl; have hcz32_3 : wr.cell? ⟨gb144, 3, none⟩ = some (.slice A0_3 l0_3.length c0_3) := (zaf BK144.out 3).trans rfl; have hfz32_0 := zab BK144.out 0; have hfz32_1 := zab BK144.out 1; have hfz32_2 := zab BK144.out 2; have hfz32_3 := zab BK144.out 3; have p146 : 0 ≤ (x9_4 : Int) := of_decide_eq_true (by assumption)
               have q146 : x9_4 < (l0_3.length : Int) := of_decide_eq_true (by assumption)
               obtain ⟨ad146, A146_3, c146_3, e146, hx146_0, hx146_1, hx146_2, hx146_3, hl146_3, hi146_3⟩ := at_T29 HR0_3.out x9_4 p146 q146; cases e146; replace hx146_0 := (HB.out.cell (World.block_lt_of_cell? w _ hx146_0)).trans hx146_0; replace hx146_1 := (HB.out.cell (World.block_lt_of_cell? w _ hx146_1)).trans hx146_1; replace hx146_2 := (HB.out.cell (World.block_lt_of_cell? w _ hx146_2)).trans hx146_2; replace hx146_3 := (HB.out.cell (World.block_lt_of_cell? w _ hx146_3)).trans hx146_3; have HR146_3 := zaa.mk hi146_3; have HC146_3 := zaa.mk hl146_3; clear hi146_3 hl146_3; replace p146 := eq_true p146; replace q146 := eq_true q146; go_wp2_with (first | ((with_reducible refine zaK (f := 50) rfl ?_); refine zbk (some 56) rfl rfl Tryd.func50 (by kernel_rfl) rfl #[.agg #[.int .u8 ((zbc l0_3 x9_4).f0), .int .u8 ((zbc l0_3 x9_4).f1), .int .i64 ((zbc l0_3 x9_4).f2), .slice A146_3 ((zbc l0_3 x9_4).f3).length c146_3], .int .i64 (wrap64 (a1 + 1)), .int .i64 (wrap64 (a2 - x7_4))] rfl (by (try simp only [List.map_toArray, List.map_cons, List.map_nil]); first | done | rfl | (simp only [List.length_drop, List.length_take]; rfl)) ?_; (with_reducible refine (ih k4 (by have := HJ3.out; have := HJ7.out; have := HJ18.out; have := HK4.out; omega) ((zbc l0_3 x9_4).f0) ((zbc l0_3 x9_4).f1) ((zbc l0_3 x9_4).f2) _ _ ((zbc l0_3 x9_4).f3) (wrap64 (a1 + 1)) (wrap64 (a2 - x7_4)) t147 _ ?side1 ?side2 A28.out).mono ?_); (case side1 => repeat (first | exact (Kd.zaT HR146_3.out HB.out) | (with_reducible refine Kd.C_alloc ?_ _) | (with_reducible refine Kd.C_drewN ?_ _) | (with_reducible refine Kd.C_drew ?_))); (case side2 => exact HC146_3.out); rintro e w33 ⟨rfl, hb⟩; refine ⟨_, rfl, ?_⟩; have n0_ := zaa.mk (zat (g := gb144) (o := .cells #[.int .u8 a0_0, .int .u8 a0_1, .int .i64 a0_2, .slice (some ad146) l0_3.length c0_3] 29 (0, 0)) (by (with_reducible repeat (first | refine zau ?_ _ | refine zaF ?_ | refine zav ?_ _)); exact BK144.out) hb); have n1_ := zaa.mk (zai (by repeat (first | (with_reducible first | exact HB.out | apply zad | apply zac | apply zae | refine zaB ?_ GE144.out) | exact HB.out)) hb); clear BK144; clear HB; have BK144 := n0_; have HB := n1_; clear n0_ n1_; (try clear hb); (try clear hb2); (try clear hk); (try clear hi); have hcz34_0 : w33.cell? ⟨gb144, 0, none⟩ = some (.int .u8 a0_0) := (zaf BK144.out 0).trans rfl; have hcz34_1 : w33.cell? ⟨gb144, 1, none⟩ = some (.int .u8 a0_1) := (zaf BK144.out 1).trans rfl; have hcz34_2 : w33.cell? ⟨gb144, 2, none⟩ = some (.int .i64 a0_2) := (zaf BK144.out 2).trans rfl; have hcz34_3 : w33.cell? ⟨gb144, 3, none⟩ = some (.slice (some ad146) l0_3.length c0_3) := (zaf BK144.out 3).trans rfl; have hfz34_0 := zab BK144.out 0; have hfz34_1 := zab BK144.out 1; have hfz34_2 := zab BK144.out 2; have hfz34_3 := zab BK144.out 3; have p148 : 0 ≤ (x9_4 : Int) := of_decide_eq_true (by assumption); have q148 : x9_4 < (l0_3.length : Int) := of_decide_eq_true (by assumption); obtain ⟨ad148, A148_3, c148_3, e148, hx148_0, hx148_1, hx148_2, hx148_3, hl148_3, hi148_3⟩ := at_T29 HR0_3.out x9_4 p148 q148; obtain rfl : ad146 = ad148 := (by injection e148); replace hx148_0 := (HB.out.cell (World.block_lt_of_cell? w _ hx148_0)).trans hx148_0; replace hx148_1 := (HB.out.cell (World.block_lt_of_cell? w _ hx148_1)).trans hx148_1; replace hx148_2 := (HB.out.cell (World.block_lt_of_cell? w _ hx148_2)).trans hx148_2; replace hx148_3 := (HB.out.cell (World.block_lt_of_cell? w _ hx148_3)).trans hx148_3; have HR148_3 := zaa.mk hi148_3; have HC148_3 := zaa.mk hl148_3; clear hi148_3 hl148_3; replace p148 := eq_true p148; replace q148 := eq_true q148))
               go_roundg k4
               case measure => have := HJ3.out; have := HJ7.out; have := HJ18.out; have := HK4.out; omega
               case rel => exact ⟨(wrap64 (x7_4 + t147)), (wrap64 (x8_4 + ((zbc l0_3 x9_4).f2))), (wrap64 (x9_4 + 1)), (by first | rfl | (simp; done) | simp [*]), (by first | rfl | (simp; done) | simp [*]), (by first | rfl | (simp; done) | simp [*]), H', ⟨by have := HJ3.out; have := HJ7.out; have := HJ18.out; have := HK4.out; omega⟩, ⟨by (with_reducible repeat (first | refine zau ?_ _ | refine zaF ?_ | refine zav ?_ _)); exact BK144.out⟩, ⟨by repeat (first | (with_reducible first | exact HB.out | apply zad | apply zac | apply zae | refine zaB ?_ GE144.out) | exact HB.out)⟩⟩
             ·rw [if_neg c27] at H
              exact absurd H (by simp)
            ·rw [if_neg c26] at H
             have c26b0 : decide (x9_4 < (l0_3.length : Int)) = false := decide_eq_false c26; clear c26; by_cases c35 : x8_4 = a0_2
             ·rw [if_pos c35] at H
              have c35b0 : (x8_4 == a0_2) = true := beq_iff_eq.mpr c35; have c35b1 : (x8_4 != a0_2) = false := bne_eq_false_iff_eq.mpr c35; clear c35; by_cases c36 : x8_4 > 1099511627776
              ·rw [if_pos c36] at H
               have c36b0 : decide (1099511627776 < x8_4) = true := decide_eq_true c36; clear c36; obtain rfl := Option.some.inj H; have hcz37_0 : wr.cell? ⟨gb144, 0, none⟩ = some (.int .u8 a0_0) := (zaf BK144.out 0).trans rfl; have hcz37_1 : wr.cell? ⟨gb144, 1, none⟩ = some (.int .u8 a0_1) := (zaf BK144.out 1).trans rfl; have hcz37_2 : wr.cell? ⟨gb144, 2, none⟩ = some (.int .i64 a0_2) := (zaf BK144.out 2).trans rfl; have hcz37_3 : wr.cell? ⟨gb144, 3, none⟩ = some (.slice A0_3 l0_3.length c0_3) := (zaf BK144.out 3).trans rfl; have hfz37_0 := zab BK144.out 0; have hfz37_1 := zab BK144.out 1; have hfz37_2 := zab BK144.out 2; have hfz37_3 := zab BK144.out 3; go_wp2
               go_ret
               exact ⟨by first | rfl | (simp [*, zaz, zay] <;> rfl), by repeat (first | (with_reducible first | exact HB.out | apply zad | apply zac | apply zae | refine zaB ?_ GE144.out) | exact HB.out)⟩
              ·rw [if_neg c36] at H
               have c36b0 : decide (1099511627776 < x8_4) = false := decide_eq_false c36; clear c36; obtain rfl := Option.some.inj H; have hcz38_0 : wr.cell? ⟨gb144, 0, none⟩ = some (.int .u8 a0_0) := (zaf BK144.out 0).trans rfl; have hcz38_1 : wr.cell? ⟨gb144, 1, none⟩ = some (.int .u8 a0_1) := (zaf BK144.out 1).trans rfl; have hcz38_2 : wr.cell? ⟨gb144, 2, none⟩ = some (.int .i64 a0_2) := (zaf BK144.out 2).trans rfl; have hcz38_3 : wr.cell? ⟨gb144, 3, none⟩ = some (.slice A0_3 l0_3.length c0_3) := (zaf BK144.out 3).trans rfl; have hfz38_0 := zab BK144.out 0; have hfz38_1 := zab BK144.out 1; have hfz38_2 := zab BK144.out 2; have hfz38_3 := zab BK144.out 3; go_wp2
               go_ret
               exact ⟨by first | rfl | (simp [*, zaz, zay] <;> rfl), by repeat (first | (with_reducible first | exact HB.out | apply zad | apply zac | apply zae | refine zaB ?_ GE144.out) | exact HB.out)⟩
             ·rw [if_neg c35] at H
              have c35b0 : (x8_4 == a0_2) = false := beq_eq_false_iff_ne.mpr c35; have c35b1 : (x8_4 != a0_2) = true := bne_iff_ne.mpr c35; obtain rfl := Option.some.inj H; have hcz39_0 : wr.cell? ⟨gb144, 0, none⟩ = some (.int .u8 a0_0) := (zaf BK144.out 0).trans rfl; have hcz39_1 : wr.cell? ⟨gb144, 1, none⟩ = some (.int .u8 a0_1) := (zaf BK144.out 1).trans rfl; have hcz39_2 : wr.cell? ⟨gb144, 2, none⟩ = some (.int .i64 a0_2) := (zaf BK144.out 2).trans rfl; have hcz39_3 : wr.cell? ⟨gb144, 3, none⟩ = some (.slice A0_3 l0_3.length c0_3) := (zaf BK144.out 3).trans rfl; have hfz39_0 := zab BK144.out 0; have hfz39_1 := zab BK144.out 1; have hfz39_2 := zab BK144.out 2; have hfz39_3 := zab BK144.out 3; go_wp2
              go_ret
              exact ⟨by first | rfl | (simp [*, zaz, zay] <;> rfl), by repeat (first | (with_reducible first | exact HB.out | apply zad | apply zac | apply zae | refine zaB ?_ GE144.out) | exact HB.out)⟩
def zbe.f (k : Nat) (a0_0 : Int) (a0_1 : Int) (a0_2 : Int) (l0_3 : List (S29)) : Option (Bool) := (zak.f k a0_0 a0_1 a0_2 l0_3 1 1048576).bind fun t150 => (some (decide (t150 > 0)))
theorem zbe.calls (k : Nat) (a0_0 : Int) (a0_1 : Int) (a0_2 : Int) (A0_3 : Option Addr) (c0_3 : Nat) (l0_3 : List (S29)) (r : Bool) (w : World) (hr0_3 : Kd.C k29 w A0_3 l0_3.length l0_3) (hc0_3 : l0_3.length ≤ c0_3) (h : zbe.f k a0_0 a0_1 a0_2 l0_3 = some r) :
  Calls Tryd.prog 23 #[.agg #[.int .u8 a0_0, .int .u8 a0_1, .int .i64 a0_2, .slice A0_3 l0_3.length c0_3]] w fun e w' => e = .returned (.bool r) ∧ Below w.heap.size w w' := by
 have hu29 := Tryd.underlying29; have HR0_3 := zaa.mk hr0_3; have HC0_3 := zaa.mk hc0_3; clear hr0_3 hc0_3; have HB := zaa.mk (Below.refl w.heap.size w); have H : ((zak.f k a0_0 a0_1 a0_2 l0_3 1 1048576).bind fun t150 => (some (decide (t150 > 0)))) = some r := h
 clear h; replace H := Option.bind_eq_some_iff.mp H; obtain ⟨t150, A20, H⟩ := H; replace H : (some (decide (t150 > 0))) = some r := H; have A2 := zaa.mk A20; clear A20; obtain rfl := Option.some.inj H; go_enter Tryd.func23, Tryd.ntmps23
 go_wp2_with (first | ((with_reducible refine za6 (N := 1) rfl ?_); refine zbl ?hg (N := 1) ?hd (cs := #[.int .u8 a0_0, .int .u8 a0_1, .int .i64 a0_2, .slice A0_3 l0_3.length c0_3]) (t := 29) ?hr ?_; (case hd => rfl); (case hg => rfl); (case hr => first | (go_simp; done) | (go_simp; rfl)); intro gb149 hg w3 hbox hb; have n0_ := zaa.mk (zai (by repeat (first | exact HB.out | apply zad | apply zac | apply zae)) hb); have n1_ := zaa.mk (hbox); have n2_ := zaa.mk ((by rw [hg]; exact (zax (by repeat (first | exact HB.out | apply zad | apply zac | apply zae))) : w.heap.size ≤ gb149)); have n3_ := zaa.mk ((by rw [hg]; exact (zax (by repeat (first | exact HB.out | apply zad | apply zac | apply zae))) : w.heap.size ≤ gb149)); clear HB; have HB := n0_; have BK149 := n1_; have GW149 := n2_; have GE149 := n3_; clear n0_ n1_ n2_ n3_; clear hb hbox hg; have hcz4_0 : w3.cell? ⟨gb149, 0, none⟩ = some (.int .u8 a0_0) := (zaf BK149.out 0).trans rfl; have hcz4_1 : w3.cell? ⟨gb149, 1, none⟩ = some (.int .u8 a0_1) := (zaf BK149.out 1).trans rfl; have hcz4_2 : w3.cell? ⟨gb149, 2, none⟩ = some (.int .i64 a0_2) := (zaf BK149.out 2).trans rfl; have hcz4_3 : w3.cell? ⟨gb149, 3, none⟩ = some (.slice A0_3 l0_3.length c0_3) := (zaf BK149.out 3).trans rfl; have hfz4_0 := zab BK149.out 0; have hfz4_1 := zab BK149.out 1; have hfz4_2 := zab BK149.out 2; have hfz4_3 := zab BK149.out 3) | ((with_reducible refine zaK (f := 50) rfl ?_); refine zbk (some 4) rfl rfl Tryd.func50 (by kernel_rfl) rfl #[.agg #[.int .u8 a0_0, .int .u8 a0_1, .int .i64 a0_2, .slice A0_3 l0_3.length c0_3], .int .i64 1, .int .i64 1048576] rfl (by (try simp only [List.map_toArray, List.map_cons, List.map_nil]); first | done | rfl | (simp only [List.length_drop, List.length_take]; rfl)) ?_; (with_reducible refine (zak.calls k a0_0 a0_1 a0_2 _ _ l0_3 1 1048576 t150 _ ?side1 ?side2 A2.out).mono ?_); (case side1 => repeat (first | exact (Kd.zaT HR0_3.out HB.out) | (with_reducible refine Kd.C_alloc ?_ _) | (with_reducible refine Kd.C_drewN ?_ _) | (with_reducible refine Kd.C_drew ?_))); (case side2 => exact HC0_3.out); rintro e w5 ⟨rfl, hb⟩; refine ⟨_, rfl, ?_⟩; have n0_ := zaa.mk (zat (g := gb149) (o := .cells #[.int .u8 a0_0, .int .u8 a0_1, .int .i64 a0_2, .slice A0_3 l0_3.length c0_3] 29 (0, 0)) (by (with_reducible repeat (first | refine zau ?_ _ | refine zaF ?_ | refine zav ?_ _)); exact BK149.out) hb); have n1_ := zaa.mk (zai (by repeat (first | (with_reducible first | exact HB.out | apply zad | apply zac | apply zae | refine zaB ?_ GE149.out) | exact HB.out)) hb); clear BK149; clear HB; have BK149 := n0_; have HB := n1_; clear n0_ n1_; (try clear hb); (try clear hb2); (try clear hk); (try clear hi)))
 go_ret
 exact ⟨by first | rfl | (simp [*, zaz, zay] <;> rfl), by repeat (first | (with_reducible first | exact HB.out | apply zad | apply zac | apply zae | refine zaB ?_ GE149.out) | exact HB.out)⟩
mutual
def zaR.l0 : Nat → List (S29) → Int → Int → Int → Int → List (S29) → Option (Int × Int × Int × (List (S29)))
 | 0, _, _, _, _, _, _ => none
 | k + 1, x3, x4, x129000, x129001, x129002, x129003 => if x4 < (x129003.length : Int) then (if 0 ≤ x4 then ((zaR.f k ((zbc x129003 x4).f0) ((zbc x129003 x4).f1) ((zbc x129003 x4).f2) ((zbc x129003 x4).f3)).bind fun bt131 => (if x3.length < 3518437208883 then (zaR.l0 k (x3 ++ [(⟨bt131.1, bt131.2.1, bt131.2.2.1, bt131.2.2.2⟩ : S29)]) (wrap64 (x4 + 1)) x129000 x129001 x129002 x129003) else (none))) else (none)) else (some (x129000, x129001, x129002, x3))
def zaR.f : Nat → Int → Int → Int → List (S29) → Option (Int × Int × Int × (List (S29)))
 | 0, _, _, _, _ => none
 | k + 1, a0_0, a0_1, a0_2, l0_3 => if (l0_3.length : Int) = 0 then (some (a0_0, a0_1, a0_2, ([] : List (S29)))) else (zaR.l0 k ([] : List (S29)) 0 a0_0 a0_1 a0_2 l0_3)
end
theorem zaR.calls (k : Nat) : ∀ (a0_0 : Int) (a0_1 : Int) (a0_2 : Int) (A0_3 : Option Addr) (c0_3 : Nat) (l0_3 : List (S29)) (r1 : Int) (r2 : Int) (r3 : Int) (r4 : List (S29)) (w : World) (hr0_3 : Kd.C k29 w A0_3 l0_3.length l0_3) (hc0_3 : l0_3.length ≤ c0_3) (h : zaR.f k a0_0 a0_1 a0_2 l0_3 = some (r1, r2, r3, r4)),
  Calls Tryd.prog 11 #[.agg #[.int .u8 a0_0, .int .u8 a0_1, .int .i64 a0_2, .slice A0_3 l0_3.length c0_3]] w fun e w' => ∃ v3_ : Value, e = .returned (.agg #[.int .u8 r1, .int .u8 r2, .int .i64 r3, v3_]) ∧ Kd.R k29 29 w' w.heap.size (fun _ => True) v3_ r4 ∧ Below w.heap.size w w' := by
 induction k using Nat.strongRecOn with
 | _ k ih =>
 intro a0_0 a0_1 a0_2 A0_3 c0_3 l0_3 r1 r2 r3 r4 w hr0_3 hc0_3 h
 cases k with
 | zero => exact absurd h (by simp [zaR.f])
 | succ k =>
 simp only [zaR.f] at h; have hu29 := Tryd.underlying29; have HR0_3 := zaa.mk hr0_3; have HC0_3 := zaa.mk hc0_3; clear hr0_3 hc0_3; have HB := zaa.mk (Below.refl w.heap.size w); have H : (if (l0_3.length : Int) = 0 then (some (a0_0, a0_1, a0_2, ([] : List (S29)))) else (zaR.l0 k ([] : List (S29)) 0 a0_0 a0_1 a0_2 l0_3)) = some (r1, r2, r3, r4) := h
 clear h; by_cases c2 : (l0_3.length : Int) = 0
 ·rw [if_pos c2] at H
  have c2b0 : ((l0_3.length : Int) == 0) = true := beq_iff_eq.mpr c2; have c2b1 : ((l0_3.length : Int) != 0) = false := bne_eq_false_iff_eq.mpr c2; clear c2; simp only [Option.some.injEq, Prod.mk.injEq] at H; obtain ⟨rfl, rfl, rfl, rfl⟩ := H; go_enter Tryd.func11, Tryd.ntmps11
  go_wp2_with (first | ((with_reducible refine za6 (N := 1) rfl ?_); refine zbl ?hg (N := 1) ?hd (cs := #[.int .u8 a0_0, .int .u8 a0_1, .int .i64 a0_2, .slice A0_3 l0_3.length c0_3]) (t := 29) ?hr ?_; (case hd => rfl); (case hg => rfl); (case hr => first | (go_simp; done) | (go_simp; rfl)); intro gb128 hg w3 hbox hb; have n0_ := zaa.mk (zai (by repeat (first | exact HB.out | apply zad | apply zac | apply zae)) hb); have n1_ := zaa.mk (hbox); have n2_ := zaa.mk ((by rw [hg]; exact (zax (by repeat (first | exact HB.out | apply zad | apply zac | apply zae))) : w.heap.size ≤ gb128)); have n3_ := zaa.mk ((by rw [hg]; exact (zax (by repeat (first | exact HB.out | apply zad | apply zac | apply zae))) : w.heap.size ≤ gb128)); clear HB; have HB := n0_; have BK128 := n1_; have GW128 := n2_; have GE128 := n3_; clear n0_ n1_ n2_ n3_; clear hb hbox hg) | ((with_reducible refine za6 (N := 2) rfl ?_); refine zbl ?hg (N := 2) ?hd (cs := #[.int .u8 0, .int .u8 0, .int .i64 0, .slice none 0 0]) (t := 29) ?hr ?_; (case hd => rfl); (case hg => rfl); (case hr => first | (go_simp; done) | (go_simp; rfl)); intro gb129 hg w4 hbox hb; have n0_ := zaa.mk (zat (g := gb128) (o := .cells #[.int .u8 a0_0, .int .u8 a0_1, .int .i64 a0_2, .slice A0_3 l0_3.length c0_3] 29 (0, 0)) (by (with_reducible repeat (first | refine zau ?_ _ | refine zaF ?_ | refine zav ?_ _)); exact BK128.out) hb); have n1_ := zaa.mk (zai (by repeat (first | (with_reducible first | exact HB.out | apply zad | apply zac | apply zae | refine zaB ?_ GE128.out) | exact HB.out)) hb); have n2_ := zaa.mk (hbox); have n3_ := zaa.mk ((by rw [hg]; exact (zax (by repeat (first | (with_reducible first | exact HB.out | apply zad | apply zac | apply zae | refine zaB ?_ GE128.out) | exact HB.out))) : w.heap.size ≤ gb129)); have n4_ := zaa.mk ((by rw [hg]; exact (zax (by repeat (first | (with_reducible first | exact HB.out | apply zad | apply zac | apply zae | refine zaB ?_ GE128.out) | exact HB.out))) : w.heap.size ≤ gb129)); have n5_ := zaa.mk ((by rw [hg]; exact Nat.ne_of_lt (zaO (g := gb128) (o := .cells #[.int .u8 a0_0, .int .u8 a0_1, .int .i64 a0_2, .slice A0_3 l0_3.length c0_3] 29 (0, 0)) (by (with_reducible repeat (first | refine zau ?_ _ | refine zaF ?_ | refine zav ?_ _)); exact BK128.out)) : gb128 ≠ gb129)); have n6_ := zaa.mk ((by rw [hg]; exact Nat.ne_of_gt (zaO (g := gb128) (o := .cells #[.int .u8 a0_0, .int .u8 a0_1, .int .i64 a0_2, .slice A0_3 l0_3.length c0_3] 29 (0, 0)) (by (with_reducible repeat (first | refine zau ?_ _ | refine zaF ?_ | refine zav ?_ _)); exact BK128.out)) : gb129 ≠ gb128)); clear BK128; clear HB; have BK128 := n0_; have HB := n1_; have BK129 := n2_; have GW129 := n3_; have GE129 := n4_; have NB128_129 := n5_; have NB129_128 := n6_; clear n0_ n1_ n2_ n3_ n4_ n5_ n6_; clear hb hbox hg; have hnb5 := NB128_129.out; have hnc5 := NB129_128.out; have hcz6_0 : w4.cell? ⟨gb128, 0, none⟩ = some (.int .u8 a0_0) := (zaf BK128.out 0).trans rfl; have hcz6_1 : w4.cell? ⟨gb128, 1, none⟩ = some (.int .u8 a0_1) := (zaf BK128.out 1).trans rfl; have hcz6_2 : w4.cell? ⟨gb128, 2, none⟩ = some (.int .i64 a0_2) := (zaf BK128.out 2).trans rfl; have hcz6_3 : w4.cell? ⟨gb128, 3, none⟩ = some (.slice A0_3 l0_3.length c0_3) := (zaf BK128.out 3).trans rfl; have hfz6_0 := zab BK128.out 0; have hfz6_1 := zab BK128.out 1; have hfz6_2 := zab BK128.out 2; have hfz6_3 := zab BK128.out 3; have hcz7_0 : w4.cell? ⟨gb129, 0, none⟩ = some (.int .u8 0) := (zaf BK129.out 0).trans rfl; have hcz7_1 : w4.cell? ⟨gb129, 1, none⟩ = some (.int .u8 0) := (zaf BK129.out 1).trans rfl; have hcz7_2 : w4.cell? ⟨gb129, 2, none⟩ = some (.int .i64 0) := (zaf BK129.out 2).trans rfl; have hcz7_3 : w4.cell? ⟨gb129, 3, none⟩ = some (.slice none 0 0) := (zaf BK129.out 3).trans rfl; have hfz7_0 := zab BK129.out 0; have hfz7_1 := zab BK129.out 1; have hfz7_2 := zab BK129.out 2; have hfz7_3 := zab BK129.out 3))
  refine bodyPost_ret (results_cell_row rfl _ _ gb129 29 #[.int .u8 a0_0, .int .u8 a0_1, .int .i64 a0_2, .slice none 0 0] (0, 0) _ rfl (by (with_reducible repeat (first | refine zau ?_ _ | refine zaF ?_ | refine zav ?_ _)); refine zbv (cs := #[.int .u8 a0_0, .int .u8 a0_1, .int .i64 a0_2, .slice none 0 0]) ?_ 3 _ rfl; (with_reducible repeat (first | refine zau ?_ _ | refine zaF ?_ | refine zav ?_ _)); refine zbv (cs := #[.int .u8 a0_0, .int .u8 a0_1, .int .i64 0, .slice none 0 0]) ?_ 2 _ rfl; (with_reducible repeat (first | refine zau ?_ _ | refine zaF ?_ | refine zav ?_ _)); refine zbv (cs := #[.int .u8 a0_0, .int .u8 0, .int .i64 0, .slice none 0 0]) ?_ 1 _ rfl; (with_reducible repeat (first | refine zau ?_ _ | refine zaF ?_ | refine zav ?_ _)); refine zbv (cs := #[.int .u8 0, .int .u8 0, .int .i64 0, .slice none 0 0]) ?_ 0 _ rfl; (with_reducible repeat (first | refine zau ?_ _ | refine zaF ?_ | refine zav ?_ _)); refine zb3 ?_ NB129_128.out _; (with_reducible repeat (first | refine zau ?_ _ | refine zaF ?_ | refine zav ?_ _)); exact BK129.out) Tryd.underlying29 rfl (by kernel_rfl)) rfl ?_
  exact ⟨_, by first | rfl | (simp [*, zaz, zay] <;> rfl), by first | exact Kd.R_nil _ _ _ _ _ | exact Kd.N_nil _ _ _ _ _ | exact Kd.V_nil _ _ _ _ _ | exact Kd.Q_nil _ _ _ _ _ | exact Kd.S_nil _ _ _ _ _, by repeat (first | (with_reducible first | exact HB.out | apply zad | apply zac | apply zae | refine zaB ?_ GE128.out | refine zaB ?_ GE129.out) | exact HB.out)⟩
 ·rw [if_neg c2] at H
  have c2b0 : ((l0_3.length : Int) == 0) = false := beq_eq_false_iff_ne.mpr c2; have c2b1 : ((l0_3.length : Int) != 0) = true := bne_iff_ne.mpr c2; have c2b2 : ¬ (l0_3 = []) := fun h_ => c2 (by rw [h_]; rfl)
  have H' := zaa.mk H; clear H; go_enter Tryd.func11, Tryd.ntmps11
  go_wp2_with (first | ((with_reducible refine za6 (N := 1) rfl ?_); refine zbl ?hg (N := 1) ?hd (cs := #[.int .u8 a0_0, .int .u8 a0_1, .int .i64 a0_2, .slice A0_3 l0_3.length c0_3]) (t := 29) ?hr ?_; (case hd => rfl); (case hg => rfl); (case hr => first | (go_simp; done) | (go_simp; rfl)); intro gb128 hg w8 hbox hb; have n0_ := zaa.mk (zai (by repeat (first | exact HB.out | apply zad | apply zac | apply zae)) hb); have n1_ := zaa.mk (hbox); have n2_ := zaa.mk ((by rw [hg]; exact (zax (by repeat (first | exact HB.out | apply zad | apply zac | apply zae))) : w.heap.size ≤ gb128)); have n3_ := zaa.mk ((by rw [hg]; exact (zax (by repeat (first | exact HB.out | apply zad | apply zac | apply zae))) : w.heap.size ≤ gb128)); clear HB; have HB := n0_; have BK128 := n1_; have GW128 := n2_; have GE128 := n3_; clear n0_ n1_ n2_ n3_; clear hb hbox hg) | ((with_reducible refine za6 (N := 2) rfl ?_); refine zbl ?hg (N := 2) ?hd (cs := #[.int .u8 0, .int .u8 0, .int .i64 0, .slice none 0 0]) (t := 29) ?hr ?_; (case hd => rfl); (case hg => rfl); (case hr => first | (go_simp; done) | (go_simp; rfl)); intro gb129 hg w9 hbox hb; have n0_ := zaa.mk (zat (g := gb128) (o := .cells #[.int .u8 a0_0, .int .u8 a0_1, .int .i64 a0_2, .slice A0_3 l0_3.length c0_3] 29 (0, 0)) (by (with_reducible repeat (first | refine zau ?_ _ | refine zaF ?_ | refine zav ?_ _)); exact BK128.out) hb); have n1_ := zaa.mk (zai (by repeat (first | (with_reducible first | exact HB.out | apply zad | apply zac | apply zae | refine zaB ?_ GE128.out) | exact HB.out)) hb); have n2_ := zaa.mk (hbox); have n3_ := zaa.mk ((by rw [hg]; exact (zax (by repeat (first | (with_reducible first | exact HB.out | apply zad | apply zac | apply zae | refine zaB ?_ GE128.out) | exact HB.out))) : w.heap.size ≤ gb129)); have n4_ := zaa.mk ((by rw [hg]; exact (zax (by repeat (first | (with_reducible first | exact HB.out | apply zad | apply zac | apply zae | refine zaB ?_ GE128.out) | exact HB.out))) : w.heap.size ≤ gb129)); have n5_ := zaa.mk ((by rw [hg]; exact Nat.ne_of_lt (zaO (g := gb128) (o := .cells #[.int .u8 a0_0, .int .u8 a0_1, .int .i64 a0_2, .slice A0_3 l0_3.length c0_3] 29 (0, 0)) (by (with_reducible repeat (first | refine zau ?_ _ | refine zaF ?_ | refine zav ?_ _)); exact BK128.out)) : gb128 ≠ gb129)); have n6_ := zaa.mk ((by rw [hg]; exact Nat.ne_of_gt (zaO (g := gb128) (o := .cells #[.int .u8 a0_0, .int .u8 a0_1, .int .i64 a0_2, .slice A0_3 l0_3.length c0_3] 29 (0, 0)) (by (with_reducible repeat (first | refine zau ?_ _ | refine zaF ?_ | refine zav ?_ _)); exact BK128.out)) : gb129 ≠ gb128)); clear BK128; clear HB; have BK128 := n0_; have HB := n1_; have BK129 := n2_; have GW129 := n3_; have GE129 := n4_; have NB128_129 := n5_; have NB129_128 := n6_; clear n0_ n1_ n2_ n3_ n4_ n5_ n6_; clear hb hbox hg; have hnb10 := NB128_129.out; have hnc10 := NB129_128.out; have hcz11_0 : w9.cell? ⟨gb128, 0, none⟩ = some (.int .u8 a0_0) := (zaf BK128.out 0).trans rfl; have hcz11_1 : w9.cell? ⟨gb128, 1, none⟩ = some (.int .u8 a0_1) := (zaf BK128.out 1).trans rfl; have hcz11_2 : w9.cell? ⟨gb128, 2, none⟩ = some (.int .i64 a0_2) := (zaf BK128.out 2).trans rfl; have hcz11_3 : w9.cell? ⟨gb128, 3, none⟩ = some (.slice A0_3 l0_3.length c0_3) := (zaf BK128.out 3).trans rfl; have hfz11_0 := zab BK128.out 0; have hfz11_1 := zab BK128.out 1; have hfz11_2 := zab BK128.out 2; have hfz11_3 := zab BK128.out 3))
  go_loopg [3, 4] k (fun kq v3 v4 w' => ∃ (x3_1 : List (S29)) (x4_1 : Int), v4 = .int .i64 x4_1 ∧ zaa (zaR.l0 kq x3_1 x4_1 a0_0 a0_1 a0_2 l0_3 = some (r1, r2, r3, r4)) ∧ zaa (kq ≤ k) ∧ zaa (Kd.R k29 29 w' w.heap.size (fun k_ => k_ ≠ gb128 ∧ k_ ≠ gb129) v3 x3_1) ∧ zaa (w'.heap[gb128]? = some (.cells #[.int .u8 a0_0, .int .u8 a0_1, .int .i64 a0_2, (.slice A0_3 l0_3.length c0_3)] 29 (0, 0))) ∧ zaa (w'.heap[gb129]? = some (.cells #[.int .u8 0, .int .u8 0, .int .i64 0, (.slice none 0 0)] 29 (0, 0))) ∧ zaa (Below w.heap.size w w'))
  case atStart => exact ⟨(([] : List (S29))), (0), (by first | rfl | (simp; done) | simp [*]), H', ⟨Nat.le_refl _⟩, ⟨by first | exact Kd.R_nil _ _ _ _ _ | exact Kd.N_nil _ _ _ _ _ | exact Kd.V_nil _ _ _ _ _ | exact Kd.Q_nil _ _ _ _ _ | exact Kd.S_nil _ _ _ _ _⟩, ⟨by (with_reducible repeat (first | refine zau ?_ _ | refine zaF ?_ | refine zav ?_ _)); exact BK128.out⟩, ⟨by (with_reducible repeat (first | refine zau ?_ _ | refine zaF ?_ | refine zav ?_ _)); exact BK129.out⟩, ⟨by repeat (first | (with_reducible first | exact HB.out | apply zad | apply zac | apply zae | refine zaB ?_ GE128.out | refine zaB ?_ GE129.out) | exact HB.out)⟩⟩
  case round =>
   clear H'; try clear c1
   try clear c2
   try clear c2b0
   try clear c2b1
   try clear c2b2
   try clear p2
   try clear c5
   try clear c10
   try clear c11
   try clear hcz11_0
   try clear hcz11_1
   try clear hcz11_2
   try clear hcz11_3
   try clear hcz6_0
   try clear hcz6_1
   try clear hcz6_2
   try clear hcz6_3
   try clear hcz7_0
   try clear hcz7_1
   try clear hcz7_2
   try clear hcz7_3
   try clear hfz11_0
   try clear hfz11_1
   try clear hfz11_2
   try clear hfz11_3
   try clear hfz6_0
   try clear hfz6_1
   try clear hfz6_2
   try clear hfz6_3
   try clear hfz7_0
   try clear hfz7_1
   try clear hfz7_2
   try clear hfz7_3
   obtain ⟨x3_1, x4_1, rfl, HA, HK1, HO_3, BK128, BK129, HB⟩ := hrel; cases gk with
   | zero => exact absurd HA.out (by simp [zaR.l0])
   | succ k1 =>
    have H := HA.out; clear HA; simp only [zaR.l0] at H; by_cases c12 : x4_1 < (l0_3.length : Int)
    ·rw [if_pos c12] at H
     have c12b0 : decide (x4_1 < (l0_3.length : Int)) = true := decide_eq_true c12; clear c12; by_cases c13 : 0 ≤ x4_1
     ·rw [if_pos c13] at H
      have c13b0 : decide (0 ≤ x4_1) = true := decide_eq_true c13; clear c13; replace H := Option.bind_eq_some_iff.mp H; obtain ⟨⟨t131, t132, t133, t134⟩, A140, H⟩ := H; replace H : (if x3_1.length < 3518437208883 then (zaR.l0 k1 (x3_1 ++ [(⟨t131, t132, t133, t134⟩ : S29)]) (wrap64 (x4_1 + 1)) a0_0 a0_1 a0_2 l0_3) else (none)) = some (r1, r2, r3, r4) := H
      have A14 := zaa.mk A140; clear A140; by_cases c15 : x3_1.length < 3518437208883
      ·rw [if_pos c15] at H
       have LMc15 := zaa.mk c15; clear c15; obtain ⟨y137, hy137⟩ : ∃ y_ : List (S29), y_ = (x3_1 ++ [(⟨t131, t132, t133, t134⟩ : S29)]) := ⟨_, rfl⟩; replace H : (zaR.l0 k1 y137 (wrap64 (x4_1 + 1)) a0_0 a0_1 a0_2 l0_3) = some (r1, r2, r3, r4) := by first | (rw [hy137]; with_reducible exact H) | (have H2_ := (Option.bind_some _ _).symm.trans H; rw [hy137]; with_reducible exact H2_) | (have H2_ := (Option.bind_some _ _).symm.trans H; with_reducible exact H2_) | with_reducible exact H | (rw [hy137]; exact H) | exact H
       have Ny137 := zaa.mk hy137; clear hy137; have H' := zaa.mk H; clear H; have hnb16 := NB128_129.out; have hnc16 := NB129_128.out; have hcz17_0 : wr.cell? ⟨gb128, 0, none⟩ = some (.int .u8 a0_0) := (zaf BK128.out 0).trans rfl; have hcz17_1 : wr.cell? ⟨gb128, 1, none⟩ = some (.int .u8 a0_1) := (zaf BK128.out 1).trans rfl; have hcz17_2 : wr.cell? ⟨gb128, 2, none⟩ = some (.int .i64 a0_2) := (zaf BK128.out 2).trans rfl; have hcz17_3 : wr.cell? ⟨gb128, 3, none⟩ = some (.slice A0_3 l0_3.length c0_3) := (zaf BK128.out 3).trans rfl; have hfz17_0 := zab BK128.out 0; have hfz17_1 := zab BK128.out 1; have hfz17_2 := zab BK128.out 2; have hfz17_3 := zab BK128.out 3; have p130 : 0 ≤ (x4_1 : Int) := of_decide_eq_true (by assumption)
       have q130 : x4_1 < (l0_3.length : Int) := of_decide_eq_true (by assumption)
       obtain ⟨ad130, A130_3, c130_3, e130, hx130_0, hx130_1, hx130_2, hx130_3, hl130_3, hi130_3⟩ := at_T29 HR0_3.out x4_1 p130 q130; cases e130; replace hx130_0 := (HB.out.cell (World.block_lt_of_cell? w _ hx130_0)).trans hx130_0; replace hx130_1 := (HB.out.cell (World.block_lt_of_cell? w _ hx130_1)).trans hx130_1; replace hx130_2 := (HB.out.cell (World.block_lt_of_cell? w _ hx130_2)).trans hx130_2; replace hx130_3 := (HB.out.cell (World.block_lt_of_cell? w _ hx130_3)).trans hx130_3; have HR130_3 := zaa.mk hi130_3; have HC130_3 := zaa.mk hl130_3; clear hi130_3 hl130_3; replace p130 := eq_true p130; replace q130 := eq_true q130; go_wp2_with (first | ((with_reducible refine zaK (f := 11) rfl ?_); refine zbk (some 24) rfl rfl Tryd.func11 (by kernel_rfl) rfl #[.agg #[.int .u8 ((zbc l0_3 x4_1).f0), .int .u8 ((zbc l0_3 x4_1).f1), .int .i64 ((zbc l0_3 x4_1).f2), .slice A130_3 ((zbc l0_3 x4_1).f3).length c130_3]] rfl (by (try simp only [List.map_toArray, List.map_cons, List.map_nil]); first | done | rfl | (simp only [List.length_drop, List.length_take]; rfl)) ?_; (with_reducible refine (ih k1 (by have := HK1.out; omega) ((zbc l0_3 x4_1).f0) ((zbc l0_3 x4_1).f1) ((zbc l0_3 x4_1).f2) _ _ ((zbc l0_3 x4_1).f3) t131 t132 t133 t134 _ ?side1 ?side2 A14.out).mono ?_); (case side1 => repeat (first | exact (Kd.zaT HR130_3.out HB.out) | (with_reducible refine Kd.C_alloc ?_ _) | (with_reducible refine Kd.C_drewN ?_ _) | (with_reducible refine Kd.C_drew ?_))); (case side2 => exact HC130_3.out); rintro e w18 ⟨v135, rfl, ho0, hb⟩; refine ⟨_, rfl, ?_⟩; have n0_ := zaa.mk (Kd.R_elder' (by (with_reducible repeat (first | apply Kd.za4 | apply Kd.zbu | apply Kd.zbC)); exact HO_3.out) (Kd.R_base ho0) hb); have n1_ := zaa.mk (Kd.zbz (Kd.R_newB (Kd.R_newB (Kd.R_new' ho0 (Kd.R_lt (by (with_reducible repeat (first | apply Kd.za4 | apply Kd.zbu | apply Kd.zbC)); exact HO_3.out))) (g := gb128) (o := .cells #[.int .u8 a0_0, .int .u8 a0_1, .int .i64 a0_2, .slice (some ad130) l0_3.length c0_3] 29 (0, 0)) (by (with_reducible repeat (first | refine zau ?_ _ | refine zaF ?_ | refine zav ?_ _)); exact BK128.out)) (g := gb129) (o := .cells #[.int .u8 0, .int .u8 0, .int .i64 0, .slice none 0 0] 29 (0, 0)) (by (with_reducible repeat (first | refine zau ?_ _ | refine zaF ?_ | refine zav ?_ _)); exact BK129.out)) (zax (by repeat (first | (with_reducible first | exact HB.out | apply zad | apply zac | apply zae | refine zaB ?_ GE128.out | refine zaB ?_ GE129.out) | exact HB.out)))); have n2_ := zaa.mk (zat (g := gb128) (o := .cells #[.int .u8 a0_0, .int .u8 a0_1, .int .i64 a0_2, .slice (some ad130) l0_3.length c0_3] 29 (0, 0)) (by (with_reducible repeat (first | refine zau ?_ _ | refine zaF ?_ | refine zav ?_ _)); exact BK128.out) hb); have n3_ := zaa.mk (zat (g := gb129) (o := .cells #[.int .u8 0, .int .u8 0, .int .i64 0, .slice none 0 0] 29 (0, 0)) (by (with_reducible repeat (first | refine zau ?_ _ | refine zaF ?_ | refine zav ?_ _)); exact BK129.out) hb); have n4_ := zaa.mk (zai (by repeat (first | (with_reducible first | exact HB.out | apply zad | apply zac | apply zae | refine zaB ?_ GE128.out | refine zaB ?_ GE129.out) | exact HB.out)) hb); clear HO_3; clear BK128; clear BK129; clear HB; have HO_3 := n0_; have HO136 := n1_; have BK128 := n2_; have BK129 := n3_; have HB := n4_; clear n0_ n1_ n2_ n3_ n4_; (try clear hb); (try clear hb2); (try clear hk); (try clear hi); (try clear ho0); obtain ⟨Ao20, co20, eo20⟩ := Kd.zbo HO136.out; subst eo20) | ((with_reducible refine gate_builtin (b := .append) (xs := #[.tmp 18, .tmp 25]) rfl ?_); at_builtin; refine Kd.R_append k29 (w0 := w) w.heap.size rfl (.tmp 18) (.tmp 25) 27 29 (.agg #[(.int .u8 0), (.int .u8 0), (.int .i64 0), (.slice none 0 0)]) 40 rfl Tryd.underlying27 info29 rfl (by decide) (by omega) u3 x3_1 (⟨t131, t132, t133, t134⟩ : S29) [.int .u8 t131, .int .u8 t132, .int .i64 t133, .slice Ao20 t134.length co20] (fun k_ => k_ ≠ gb128 ∧ k_ ≠ gb129) (fun k_ => ((fun k_ => k_ ≠ gb128 ∧ k_ ≠ gb129)) k_ ∧ some k_ ≠ (u3 : Value).ownBlock) rfl rfl ?aP (fun _ hk => hk) ?aF ?aO ?aB ?aS ?aL ?_; (case aP => exact k29_mkM _ _ _ (⟨t131, t132, t133, t134⟩ : S29) (Kd.zbT (HO136.out) (fun k_ hk => ⟨⟨hk.1.2, hk.2⟩, hk.1.1.2⟩))); (case aB => exact (by repeat (first | (with_reducible first | exact HB.out | apply zad | apply zac | apply zae | refine zaB ?_ GE128.out | refine zaB ?_ GE129.out) | exact HB.out))); (case aF => exact (fun k_ hk => ⟨Kd.freshB (g := gb128) (o := .cells #[.int .u8 a0_0, .int .u8 a0_1, .int .i64 a0_2, .slice (some ad130) l0_3.length c0_3] 29 (0, 0)) (by (with_reducible repeat (first | refine zau ?_ _ | refine zaF ?_ | refine zav ?_ _)); exact BK128.out) k_ hk, Kd.freshB (g := gb129) (o := .cells #[.int .u8 0, .int .u8 0, .int .i64 0, .slice none 0 0] 29 (0, 0)) (by (with_reducible repeat (first | refine zau ?_ _ | refine zaF ?_ | refine zav ?_ _)); exact BK129.out) k_ hk⟩)); (case aO => exact (by (with_reducible repeat (first | apply Kd.za4 | apply Kd.zbu | apply Kd.zbC)); exact Kd.zbT HO_3.out (fun _ hk => ⟨hk.1.1, hk.1.2⟩))); (case aS => exact (zax (by repeat (first | (with_reducible first | exact HB.out | apply zad | apply zac | apply zae | refine zaB ?_ GE128.out | refine zaB ?_ GE129.out) | exact HB.out)))); (case aL => have := LMc15.out; omega); intro v138 w19 ho hb hg hat; rw [← Ny137.out] at ho; have n0_ := zaa.mk (blk_grown (g := gb128) (o := .cells #[.int .u8 a0_0, .int .u8 a0_1, .int .i64 a0_2, .slice (some ad130) l0_3.length c0_3] 29 (0, 0)) (by (with_reducible repeat (first | refine zau ?_ _ | refine zaF ?_ | refine zav ?_ _)); exact BK128.out) hg (Kd.R_away HO_3.out (fun _ hk => hk.1.1))); have n1_ := zaa.mk (blk_grown (g := gb129) (o := .cells #[.int .u8 0, .int .u8 0, .int .i64 0, .slice none 0 0] 29 (0, 0)) (by (with_reducible repeat (first | refine zau ?_ _ | refine zaF ?_ | refine zav ?_ _)); exact BK129.out) hg (Kd.R_away HO_3.out (fun _ hk => hk.1.2))); have n2_ := zaa.mk (hb); have n3_ := zaa.mk (ho); clear BK128; clear BK129; clear HB; clear HO_3; clear HO136; have BK128 := n0_; have BK129 := n1_; have HB := n2_; have HO139 := n3_; clear n0_ n1_ n2_ n3_; clear ho hb hg hat))
       go_roundg k1
       case measure => have := HK1.out; omega
       case rel => exact ⟨(y137), (wrap64 (x4_1 + 1)), (by first | rfl | (simp; done) | simp [*]), H', ⟨by have := HK1.out; omega⟩, ⟨by (with_reducible repeat (first | apply Kd.za4 | apply Kd.zbu | apply Kd.zbC)); exact HO139.out⟩, ⟨by (with_reducible repeat (first | refine zau ?_ _ | refine zaF ?_ | refine zav ?_ _)); exact BK128.out⟩, ⟨by (with_reducible repeat (first | refine zau ?_ _ | refine zaF ?_ | refine zav ?_ _)); exact BK129.out⟩, ⟨by repeat (first | (with_reducible first | exact HB.out | apply zad | apply zac | apply zae | refine zaB ?_ GE128.out | refine zaB ?_ GE129.out) | exact HB.out)⟩⟩
      ·rw [if_neg c15] at H
       exact absurd H (by simp)
     ·rw [if_neg c13] at H
      exact absurd H (by simp)
    ·rw [if_neg c12] at H
     have c12b0 : decide (x4_1 < (l0_3.length : Int)) = false := decide_eq_false c12; clear c12; simp only [Option.some.injEq, Prod.mk.injEq] at H; obtain ⟨rfl, rfl, rfl, rfl⟩ := H; have hnb21 := NB128_129.out; have hnc21 := NB129_128.out; have hcz22_0 : wr.cell? ⟨gb128, 0, none⟩ = some (.int .u8 a0_0) := (zaf BK128.out 0).trans rfl; have hcz22_1 : wr.cell? ⟨gb128, 1, none⟩ = some (.int .u8 a0_1) := (zaf BK128.out 1).trans rfl; have hcz22_2 : wr.cell? ⟨gb128, 2, none⟩ = some (.int .i64 a0_2) := (zaf BK128.out 2).trans rfl; have hcz22_3 : wr.cell? ⟨gb128, 3, none⟩ = some (.slice A0_3 l0_3.length c0_3) := (zaf BK128.out 3).trans rfl; have hfz22_0 := zab BK128.out 0; have hfz22_1 := zab BK128.out 1; have hfz22_2 := zab BK128.out 2; have hfz22_3 := zab BK128.out 3; obtain ⟨Ao23, co23, eo23⟩ := Kd.zbo HO_3.out; subst eo23; have hcz24_0 : wr.cell? ⟨gb129, 0, none⟩ = some (.int .u8 0) := (zaf BK129.out 0).trans rfl; have hcz24_1 : wr.cell? ⟨gb129, 1, none⟩ = some (.int .u8 0) := (zaf BK129.out 1).trans rfl; have hcz24_2 : wr.cell? ⟨gb129, 2, none⟩ = some (.int .i64 0) := (zaf BK129.out 2).trans rfl; have hcz24_3 : wr.cell? ⟨gb129, 3, none⟩ = some (.slice none 0 0) := (zaf BK129.out 3).trans rfl; have hfz24_0 := zab BK129.out 0; have hfz24_1 := zab BK129.out 1; have hfz24_2 := zab BK129.out 2; have hfz24_3 := zab BK129.out 3; go_wp2
     refine bodyPost_ret (results_cell_row rfl _ _ gb129 29 #[.int .u8 a0_0, .int .u8 a0_1, .int .i64 a0_2, .slice Ao23 x3_1.length co23] (0, 0) _ rfl (by (with_reducible repeat (first | refine zau ?_ _ | refine zaF ?_ | refine zav ?_ _)); refine zbv (cs := #[.int .u8 a0_0, .int .u8 a0_1, .int .i64 a0_2, .slice none 0 0]) ?_ 3 _ rfl; (with_reducible repeat (first | refine zau ?_ _ | refine zaF ?_ | refine zav ?_ _)); refine zbv (cs := #[.int .u8 a0_0, .int .u8 a0_1, .int .i64 0, .slice none 0 0]) ?_ 2 _ rfl; (with_reducible repeat (first | refine zau ?_ _ | refine zaF ?_ | refine zav ?_ _)); refine zbv (cs := #[.int .u8 a0_0, .int .u8 0, .int .i64 0, .slice none 0 0]) ?_ 1 _ rfl; (with_reducible repeat (first | refine zau ?_ _ | refine zaF ?_ | refine zav ?_ _)); refine zbv (cs := #[.int .u8 0, .int .u8 0, .int .i64 0, .slice none 0 0]) ?_ 0 _ rfl; (with_reducible repeat (first | refine zau ?_ _ | refine zaF ?_ | refine zav ?_ _)); refine zb3 ?_ NB129_128.out _; (with_reducible repeat (first | refine zau ?_ _ | refine zaF ?_ | refine zav ?_ _)); exact BK129.out) Tryd.underlying29 rfl (by kernel_rfl)) rfl ?_
     exact ⟨_, by first | rfl | (simp [*, zaz, zay] <;> rfl), by (with_reducible repeat (first | apply Kd.za4 | apply Kd.zbu | apply Kd.zbC)); exact Kd.zbT (Kd.R_far (p := ⟨gb129, 3, none⟩) (Kd.R_far (p := ⟨gb129, 2, none⟩) (Kd.R_far (p := ⟨gb129, 1, none⟩) (Kd.R_far (p := ⟨gb129, 0, none⟩) (Kd.R_far (p := ⟨gb128, 3, none⟩) (Kd.zbT (Kd.zbT HO_3.out (fun k_ hk => (⟨hk, hk.1⟩ : _ ∧ k_ ≠ gb128))) (fun k_ hk => (⟨hk, hk.1.2⟩ : _ ∧ k_ ≠ gb129))) (fun _ hk => hk.1.2) (.slice Ao23 x3_1.length co23)) (fun _ hk => hk.2) (.int .u8 a0_0)) (fun _ hk => hk.2) (.int .u8 a0_1)) (fun _ hk => hk.2) (.int .i64 a0_2)) (fun _ hk => hk.2) (.slice Ao23 x3_1.length co23)) (fun _ hk => trivial), by repeat (first | (with_reducible first | exact HB.out | apply zad | apply zac | apply zae | refine zaB ?_ GE128.out | refine zaB ?_ GE129.out) | exact HB.out)⟩
end
theorem zbR {α : Type} (d : Kd α) (e t : Nat) {X Y : World} {base n cv bytes : Nat} {ok : Nat → Prop} {Av : Option Addr} {L : List α} {z : Value} (hR : d.R e X base ok (.slice Av n cv) L) (hbase : base ≤ X.heap.size) (hfresh : ∀ k, X.heap.size ≤ k → ok k)
  (ht : Tryd.prog.underlying t = some (.slice e)) (hinfo : (Tryd.prog.info? e).map (fun i => (i.zero, i.size, i.bytes)) = some (some z, d.sz, bytes)) (hzs : z.cells.size = d.sz) (hs0 : 0 < d.sz) (hb0 : 0 < bytes) (hl : (L.length + 1) * bytes ≤ 140737488355328)
  (hbY : Below X.heap.size X Y) (p : α) (cs : List Value) (hnew : Y.heap[X.heap.size]? = some (.cells cs.toArray e (0, 0))) (hp : d.M Y base (fun _ => False) p cs) (hcs : cs.length = d.sz) (h1 : ∀ u ∈ cs, u.oneCell' = true) :
  ∃ g cap w1, (Builtin.append_ #[t, t] t #[.slice Av n cv, .slice (some ⟨X.heap.size, 0, none⟩) 1 1]).run Tryd.prog Y = .ok (.slice (some ⟨g, 0, none⟩) (n + 1) cap) w1 ∧
   X.grownBy w1 (Value.slice Av n cv).ownBlock ∧ ((Value.slice Av n cv).ownBlock = some g ∨ X.heap.size ≤ g) ∧ base ≤ g ∧ n = L.length ∧
   d.R e w1 base ok (.slice (some ⟨g, 0, none⟩) (n + 1) cap) (L ++ [p]) := by
 obtain ⟨i0, hi, hzz⟩ := Option.map_eq_some_iff.1 hinfo; simp only [Prod.mk.injEq] at hzz; obtain ⟨hz0, hz1, hz2⟩ := hzz; have hn : n = L.length := (Kd.za0 hR).1; have hgY : X.grownBy Y none := ⟨hbY.os, hbY.tape, hbY.output, hbY.size, fun q hq _ => hbY.block q hq⟩
 have hRY := Kd.zbm hR hbY; obtain ⟨h0, inner, hown, hr⟩ := hRY; rw [← hn] at hown; obtain ⟨v1, w1, hrun, hown1, hg1, hnil, hat⟩ := run_append_own_at (P := Tryd.prog) (w := Y) base t t e i0 z d.sz bytes ht hi hz0 hz1 hz2 hzs hs0 _ n inner hown ⟨X.heap.size, 0, none⟩ 1 1 cs (by rw [hcs, Nat.one_mul])
  (fun j u hu => by rw [show (⟨X.heap.size, 0, none⟩ : Addr).add j = ⟨X.heap.size, j, none⟩ by simp [Addr.add, eq_comm], zaf hnew j, List.getElem?_toArray]; exact hu) h1
  (by simp only [maxLen]; rw [hn]; have : L.length + 1 ≤ (L.length + 1) * bytes := Nat.le_mul_of_pos_right _ hb0; omega) (by rw [hn]; exact hl) (Nat.le_trans hbase hbY.size)
 obtain ⟨g, cap, cur, rfl, hbg, hcur, hncap, hcapm, hcs', htake⟩ : ∃ g cap cur, v1 = .slice (some ⟨g, 0, none⟩) (n + 1) cap ∧ base ≤ g ∧ w1.heap[g]? = some (.cells cur e (0, 0)) ∧ n + 1 ≤ cap ∧ cap ≤ maxLen ∧ cur.size = cap * d.sz ∧ cur.toList.take ((n + 1) * d.sz) = inner ++ cs := by
  rcases hown1.2 with ⟨_, h⟩ | h
  ·omega
  ·exact h
 have hat' : (Value.slice (some ⟨g, 0, none⟩) (n + 1) cap).ownBlock = (Value.slice Av n cv).ownBlock ∨ ∃ b, (Value.slice (some ⟨g, 0, none⟩) (n + 1) cap).ownBlock = some b ∧ Y.heap.size ≤ b := hat.imp_right (fun h => ⟨_, h, Nat.le_refl _⟩)
 have hgX : X.grownBy w1 (Value.slice Av n cv).ownBlock := World.grownBy.trans ⟨hbY.os, hbY.tape, hbY.output, hbY.size, fun q hq _ => hbY.block q hq⟩ hg1
 have hgo : (Value.slice Av n cv).ownBlock = some g ∨ X.heap.size ≤ g := by
  rcases hat' with h | ⟨b, h, hb⟩
  ·exact .inl (by rw [← h]; rfl)
  ·simp only [Value.ownBlock, Option.some.injEq] at h
   exact .inr (by have := hbY.size; omega)
 exact ⟨g, cap, w1, hrun, hgX, hgo, hbg, hn, Kd.R_appended h0 hr hp (fun _ h => h.elim) (fun q hq => hfresh q (Nat.le_trans hbY.size hq)) (by rw [← hn]; exact hown1) hg1 hat'⟩
section
attribute [local go_sem] zbi zbg zbs zbr za8 za7 zbh zbf
mutual
def zas.j0 : Nat → Int → Bool → Option (Int)
 | 0, _, _ => none
 | k + 1, x0, x3 => if x3 = true then (some 0) else (if x0 ≥ 2 then (zas.j1 k x0 (decide (x0 ≤ 4))) else (zas.j1 k x0 false))
def zas.j1 : Nat → Int → Bool → Option (Int)
 | 0, _, _ => none
 | k + 1, x0, x10 => if x10 = true then (some 1) else (if x0 = 8 then (zas.j2 k x0 true) else (zas.j2 k x0 (x0 == 9)))
def zas.j2 : Nat → Int → Bool → Option (Int)
 | 0, _, _ => none
 | k + 1, x0, x17 => if x17 = true then (some 2) else (if x0 = 7 then (some 3) else (if x0 ≥ 26 then (if x0 ≤ 40 then (some 4) else (some (-1))) else (some (-1))))
end
def zas.f (k : Nat) (a0 : Int) : Option (Int) := if a0 ≥ 10 then (zas.j0 k a0 (decide (a0 ≤ 17))) else (zas.j0 k a0 false)
theorem zas.mono_l : ∀ k, (∀ y0 y1, LeO (zas.j0 k y0 y1) (zas.j0 (k + 1) y0 y1)) ∧ (∀ y0 y1, LeO (zas.j1 k y0 y1) (zas.j1 (k + 1) y0 y1)) ∧ (∀ y0 y1, LeO (zas.j2 k y0 y1) (zas.j2 (k + 1) y0 y1))
 | 0 => ⟨fun _ _ r h => by simp [zas.j0] at h, fun _ _ r h => by simp [zas.j1] at h, fun _ _ r h => by simp [zas.j2] at h⟩
 | k + 1 => by
  obtain ⟨ih0, ih1, ih2⟩ := zas.mono_l k; refine ⟨?_, ?_, ?_⟩
  ·intro y0 y1
   unfold zas.j0
   repeat' first
   | (with_reducible exact ih0 _ _)
   | (with_reducible exact ih1 _ _)
   | (with_reducible exact ih2 _ _)
   | (with_reducible exact LeO.refl _)
   | (with_reducible exact LeO.none _)
   | (with_reducible refine LeO.ite ?_ ?_)
   | (with_reducible refine LeO.bind ?_ (fun _ => ?_))
  ·intro y0 y1
   unfold zas.j1
   repeat' first
   | (with_reducible exact ih0 _ _)
   | (with_reducible exact ih1 _ _)
   | (with_reducible exact ih2 _ _)
   | (with_reducible exact LeO.refl _)
   | (with_reducible exact LeO.none _)
   | (with_reducible refine LeO.ite ?_ ?_)
   | (with_reducible refine LeO.bind ?_ (fun _ => ?_))
  ·intro y0 y1
   unfold zas.j2
   repeat' first
   | (with_reducible exact ih0 _ _)
   | (with_reducible exact ih1 _ _)
   | (with_reducible exact ih2 _ _)
   | (with_reducible exact LeO.refl _)
   | (with_reducible exact LeO.none _)
   | (with_reducible refine LeO.ite ?_ ?_)
   | (with_reducible refine LeO.bind ?_ (fun _ => ?_))
theorem zas.mono : ∀ a0 k, LeO (zas.f k a0) (zas.f (k + 1) a0) := by
 intro a0 k
 obtain ⟨ih0, ih1, ih2⟩ := zas.mono_l k; unfold zas.f
 repeat' first
   | (with_reducible exact ih0 _ _)
   | (with_reducible exact ih1 _ _)
   | (with_reducible exact ih2 _ _)
   | (with_reducible exact LeO.refl _)
   | (with_reducible exact LeO.none _)
   | (with_reducible refine LeO.ite ?_ ?_)
   | (with_reducible refine LeO.bind ?_ (fun _ => ?_))
theorem zas.calls (k : Nat) (a0 : Int) (r : Int) (w : World) (h : zas.f k a0 = some r) :
  Calls Tryd.prog 25 #[.int .u8 a0] w fun e w' => e = .returned (.int .i64 r) ∧ zaq w w' := by
 have H : (if a0 ≥ 10 then (zas.j0 k a0 (decide (a0 ≤ 17))) else (zas.j0 k a0 false)) = some r := h
 clear h; have HC2 := zaa.mk H; clear H; go_enter Tryd.func25, Tryd.ntmps25
 go_upto_region 1 with (fail)
 go_cut [3] (fun v3 wc => ∃ (kq : Nat) (x3_1 : Bool), v3 = .bool x3_1 ∧ zaa (zas.j0 kq a0 x3_1 = some r) ∧ zaa (kq ≤ k) ∧ zaq w wc)
 case first =>
  have H := HC2.out; clear HC2; by_cases c3 : a0 ≥ 10
  ·rw [if_pos c3] at H
   have c3b0 : decide (10 ≤ a0) = true := decide_eq_true c3; clear c3
   (first | rw [c3b0] | (simp only [i64_w, i32_w]; rw [c3b0]) | skip)
   have H' := zaa.mk H; clear H; go_wp2
   go_meet
   case rel => exact ⟨_, (decide (a0 ≤ 17)), (by first | rfl | (simp; done) | simp [*]), H', ⟨by first | omega | exact Nat.le_refl _⟩, by repeat (first | exact zaq.refl _ | apply zaq.step)⟩
  ·rw [if_neg c3] at H
   have c3b0 : decide (10 ≤ a0) = false := decide_eq_false c3; clear c3
   (first | rw [c3b0] | (simp only [i64_w, i32_w]; rw [c3b0]) | skip)
   have H' := zaa.mk H; clear H; go_wp2
   go_meet
   case rel => exact ⟨_, (false), (by first | rfl | (simp; done) | simp [*]), H', ⟨by first | omega | exact Nat.le_refl _⟩, by repeat (first | exact zaq.refl _ | apply zaq.step)⟩
 case rest =>
  clear HC2; try clear c2
  try clear p2
  try clear c3
  try clear c3b0
  obtain ⟨kq, x3_1, rfl, HA, HJ1, ⟨mc1, rfl⟩⟩ := hcut; cases kq with
  | zero => exact absurd HA.out (by simp [zas.j0])
  | succ kj1 =>
   have H := HA.out; clear HA; simp only [zas.j0] at H; by_cases c4 : x3_1 = true
   ·subst c4
    have H1 : (some 0) = some r := by rw [if_pos rfl] at H; exact H
    clear H; have H := H1; clear H1; obtain rfl := Option.some.inj H; go_wp2
    go_ret
    exact ⟨by first | rfl | (simp; done) | simp [*], by repeat (first | exact zaq.refl _ | apply zaq.step)⟩
   ·replace c4 := Bool.eq_false_iff.mpr c4
    subst c4; have H1 : (if a0 ≥ 2 then (zas.j1 kj1 a0 (decide (a0 ≤ 4))) else (zas.j1 kj1 a0 false)) = some r := by rw [if_neg (show ¬ (false = true) by decide)] at H; exact H
    clear H; have H := H1; clear H1; have HC5 := zaa.mk H; clear H; go_upto_region 3 with (fail)
    go_cut [10] (fun v10 wc => ∃ (kq : Nat) (x10_4 : Bool), v10 = .bool x10_4 ∧ zaa (zas.j1 kq a0 x10_4 = some r) ∧ zaa (kq ≤ kj1) ∧ zaq w wc)
    case first =>
     have H := HC5.out; clear HC5; by_cases c6 : a0 ≥ 2
     ·rw [if_pos c6] at H
      have c6b0 : decide (2 ≤ a0) = true := decide_eq_true c6; clear c6
      (first | rw [c6b0] | (simp only [i64_w, i32_w]; rw [c6b0]) | skip)
      have H' := zaa.mk H; clear H; go_wp2
      go_meet
      case rel => exact ⟨_, (decide (a0 ≤ 4)), (by first | rfl | (simp; done) | simp [*]), H', ⟨by have := HJ1.out; first | omega | exact Nat.le_refl _⟩, by repeat (first | exact zaq.refl _ | apply zaq.step)⟩
     ·rw [if_neg c6] at H
      have c6b0 : decide (2 ≤ a0) = false := decide_eq_false c6; clear c6
      (first | rw [c6b0] | (simp only [i64_w, i32_w]; rw [c6b0]) | skip)
      have H' := zaa.mk H; clear H; go_wp2
      go_meet
      case rel => exact ⟨_, (false), (by first | rfl | (simp; done) | simp [*]), H', ⟨by have := HJ1.out; first | omega | exact Nat.le_refl _⟩, by repeat (first | exact zaq.refl _ | apply zaq.step)⟩
    case rest =>
     clear HC5; try clear c1
     try clear c2
     try clear p2
     try clear c3
     try clear c3b0
     try clear c4
     try clear c6
     try clear c6b0
     try clear p2
     obtain ⟨kq, x10_4, rfl, HA, HJ4, ⟨mc4, rfl⟩⟩ := hcut; cases kq with
     | zero => exact absurd HA.out (by simp [zas.j1])
     | succ kj4 =>
      have H := HA.out; clear HA; simp only [zas.j1] at H; by_cases c7 : x10_4 = true
      ·subst c7
       have H1 : (some 1) = some r := by rw [if_pos rfl] at H; exact H
       clear H; have H := H1; clear H1; obtain rfl := Option.some.inj H; go_wp2
       go_ret
       exact ⟨by first | rfl | (simp; done) | simp [*], by repeat (first | exact zaq.refl _ | apply zaq.step)⟩
      ·replace c7 := Bool.eq_false_iff.mpr c7
       subst c7; have H1 : (if a0 = 8 then (zas.j2 kj4 a0 true) else (zas.j2 kj4 a0 (a0 == 9))) = some r := by rw [if_neg (show ¬ (false = true) by decide)] at H; exact H
       clear H; have H := H1; clear H1; have HC8 := zaa.mk H; clear H; go_upto_region 5 with (fail)
       go_cut [17] (fun v17 wc => ∃ (kq : Nat) (x17_7 : Bool), v17 = .bool x17_7 ∧ zaa (zas.j2 kq a0 x17_7 = some r) ∧ zaa (kq ≤ kj4) ∧ zaq w wc)
       case first =>
        have H := HC8.out; clear HC8; by_cases c9 : a0 = 8
        ·rw [if_pos c9] at H
         have c9b0 : (a0 == 8) = true := beq_iff_eq.mpr c9; have c9b1 : (a0 != 8) = false := bne_eq_false_iff_eq.mpr c9; clear c9
         (first | rw [c9b0] | (simp only [i64_w, i32_w]; rw [c9b0]) | skip)
         have H' := zaa.mk H; clear H; go_wp2
         go_meet
         case rel => exact ⟨_, (true), (by first | rfl | (simp; done) | simp [*]), H', ⟨by have := HJ1.out; have := HJ4.out; first | omega | exact Nat.le_refl _⟩, by repeat (first | exact zaq.refl _ | apply zaq.step)⟩
        ·rw [if_neg c9] at H
         have c9b0 : (a0 == 8) = false := beq_eq_false_iff_ne.mpr c9; have c9b1 : (a0 != 8) = true := bne_iff_ne.mpr c9
         (first | rw [c9b0] | (simp only [i64_w, i32_w]; rw [c9b0]) | skip)
         have H' := zaa.mk H; clear H; go_wp2
         go_meet
         case rel => exact ⟨_, ((a0 == 9)), (by first | rfl | (simp; done) | simp [*]), H', ⟨by have := HJ1.out; have := HJ4.out; first | omega | exact Nat.le_refl _⟩, by repeat (first | exact zaq.refl _ | apply zaq.step)⟩
       case rest =>
        clear HC8; try clear c1
        try clear c2
        try clear p2
        try clear c3
        try clear c3b0
        try clear c4
        try clear c6
        try clear c6b0
        try clear c7
        try clear c9
        try clear c9b0
        try clear c9b1
        try clear p2
        obtain ⟨kq, x17_7, rfl, HA, HJ7, ⟨mc7, rfl⟩⟩ := hcut; cases kq with
        | zero => exact absurd HA.out (by simp [zas.j2])
        | succ kj7 =>
         have H := HA.out; clear HA; simp only [zas.j2] at H; by_cases c10 : x17_7 = true
         ·subst c10
          have H1 : (some 2) = some r := by rw [if_pos rfl] at H; exact H
          clear H; have H := H1; clear H1; obtain rfl := Option.some.inj H; go_wp2
          go_ret
          exact ⟨by first | rfl | (simp; done) | simp [*], by repeat (first | exact zaq.refl _ | apply zaq.step)⟩
         ·replace c10 := Bool.eq_false_iff.mpr c10
          subst c10; have H1 : (if a0 = 7 then (some 3) else (if a0 ≥ 26 then (if a0 ≤ 40 then (some 4) else (some (-1))) else (some (-1)))) = some r := by rw [if_neg (show ¬ (false = true) by decide)] at H; exact H
          clear H; have H := H1; clear H1; by_cases c11 : a0 = 7
          ·rw [if_pos c11] at H
           have c11b0 : (a0 == 7) = true := beq_iff_eq.mpr c11; have c11b1 : (a0 != 7) = false := bne_eq_false_iff_eq.mpr c11; clear c11; obtain rfl := Option.some.inj H; go_wp2
           go_ret
           exact ⟨by first | rfl | (simp; done) | simp [*], by repeat (first | exact zaq.refl _ | apply zaq.step)⟩
          ·rw [if_neg c11] at H
           have c11b0 : (a0 == 7) = false := beq_eq_false_iff_ne.mpr c11; have c11b1 : (a0 != 7) = true := bne_iff_ne.mpr c11; by_cases c12 : a0 ≥ 26
           ·rw [if_pos c12] at H
            have c12b0 : decide (26 ≤ a0) = true := decide_eq_true c12; clear c12; by_cases c13 : a0 ≤ 40
            ·rw [if_pos c13] at H
             have c13b0 : decide (a0 ≤ 40) = true := decide_eq_true c13; clear c13; obtain rfl := Option.some.inj H; go_wp2
             go_ret
             exact ⟨by first | rfl | (simp; done) | simp [*], by repeat (first | exact zaq.refl _ | apply zaq.step)⟩
            ·rw [if_neg c13] at H
             have c13b0 : decide (a0 ≤ 40) = false := decide_eq_false c13; clear c13; obtain rfl := Option.some.inj H; go_wp2
             go_ret
             exact ⟨by first | rfl | (simp; done) | simp [*], by repeat (first | exact zaq.refl _ | apply zaq.step)⟩
           ·rw [if_neg c12] at H
            have c12b0 : decide (26 ≤ a0) = false := decide_eq_false c12; clear c12; obtain rfl := Option.some.inj H; go_wp2
            go_ret
            exact ⟨by first | rfl | (simp; done) | simp [*], by repeat (first | exact zaq.refl _ | apply zaq.step)⟩
theorem eqA41 (d : Nat) (w : World) (x0 y0 : Int) (x1 y1 : Int) :
  (Op.equalIn (d + 2) 41 (.agg #[.int .i64 x0, .int .i64 x1]) (.agg #[.int .i64 y0, .int .i64 y1])).run Tryd.prog w = .ok (x0 == y0 && (x1 == y1)) w := by
 refine eqA_of Tryd.underlying41 (by kernel_rfl) ?_
 refine eqf_cons (by rfl) (by go_simp; rfl) (by go_simp; rfl) (by go_simp) ?_
 exact eqf_last (by rfl) (by go_simp; rfl) (by go_simp; rfl) (by go_simp)
def zbF.f (a0 : Int) : Option (Int) := if a0 = 2 then (some 7) else (if a0 = 3 then (some 6) else (some 5))
theorem zbF.calls (a0 : Int) (r : Int) (w : World) (h : zbF.f a0 = some r) :
  Calls Tryd.prog 52 #[.int .u8 a0] w fun e w' => e = .returned (.int .i64 r) ∧ zaq w w' := by
 have H : (if a0 = 2 then (some 7) else (if a0 = 3 then (some 6) else (some 5))) = some r := h
 clear h; by_cases c2 : a0 = 2
 ·rw [if_pos c2] at H
  have c2b0 : (a0 == 2) = true := beq_iff_eq.mpr c2; have c2b1 : (a0 != 2) = false := bne_eq_false_iff_eq.mpr c2; clear c2; obtain rfl := Option.some.inj H; go_enter Tryd.func52, Tryd.ntmps52
  go_wp2
  go_ret
  exact ⟨by first | rfl | (simp; done) | simp [*], by repeat (first | exact zaq.refl _ | apply zaq.step)⟩
 ·rw [if_neg c2] at H
  have c2b0 : (a0 == 2) = false := beq_eq_false_iff_ne.mpr c2; have c2b1 : (a0 != 2) = true := bne_iff_ne.mpr c2; by_cases c3 : a0 = 3
  ·rw [if_pos c3] at H
   have c3b0 : (a0 == 3) = true := beq_iff_eq.mpr c3; have c3b1 : (a0 != 3) = false := bne_eq_false_iff_eq.mpr c3; clear c3; obtain rfl := Option.some.inj H; go_enter Tryd.func52, Tryd.ntmps52
   go_wp2
   go_ret
   exact ⟨by first | rfl | (simp; done) | simp [*], by repeat (first | exact zaq.refl _ | apply zaq.step)⟩
  ·rw [if_neg c3] at H
   have c3b0 : (a0 == 3) = false := beq_eq_false_iff_ne.mpr c3; have c3b1 : (a0 != 3) = true := bne_iff_ne.mpr c3; obtain rfl := Option.some.inj H; go_enter Tryd.func52, Tryd.ntmps52
   go_wp2
   go_ret
   exact ⟨by first | rfl | (simp; done) | simp [*], by repeat (first | exact zaq.refl _ | apply zaq.step)⟩
theorem eqA57 (d : Nat) (w : World) (x0 y0 : Int) (x1 y1 : Int) (x2 y2 : Int) (x3 y3 : Int) :
  (Op.equalIn (d + 3) 57 (.agg #[.int .i64 x0, .int .i64 x1, .int .i64 x2, .int .i64 x3]) (.agg #[.int .i64 y0, .int .i64 y1, .int .i64 y2, .int .i64 y3])).run Tryd.prog w = .ok ((x0 == y0 && (x1 == y1)) && (x2 == y2 && (x3 == y3))) w := by
 refine eqA_of Tryd.underlying57 (by kernel_rfl) ?_
 refine eqf_cons (by rfl) (by go_simp) (by go_simp) (eqA41 (d + 0) w _ _ _ _) ?_
 refine eqf_cons (by rfl) (by go_simp; rfl) (by go_simp; rfl) (by go_simp) ?_
 exact eqf_last (by rfl) (by go_simp; rfl) (by go_simp; rfl) (by go_simp)
end
section
attribute [local go_sem] zbi zbg zbs zbr za8 za7 zbh zbf
attribute [local go_sem high] eqA57
def za5.l0 : Nat → List (S57) → List (S57) → Int → Option (Bool)
 | 0, _, _, _ => none
 | k + 1, x0, x1, x5 => if x5 < (x0.length : Int) then (if 0 ≤ x5 then (if x5 < (x1.length : Int) then (if ((!(((zbH x0 x5).f0.f0) == ((zbH x1 x5).f0.f0)) || (!(((zbH x0 x5).f0.f1) == ((zbH x1 x5).f0.f1)))) || (!(((zbH x0 x5).f1) == ((zbH x1 x5).f1)) || (!(((zbH x0 x5).f2) == ((zbH x1 x5).f2))))) = true then (some false) else (za5.l0 k x0 x1 (wrap64 (x5 + 1)))) else (none)) else (none)) else (some true)
def za5.f (k : Nat) (l0 : List (S57)) (l1 : List (S57)) : Option (Bool) := if (l0.length : Int) = (l1.length : Int) then (za5.l0 k l0 l1 0) else (some false)
theorem za5.calls (k : Nat) (A0 : Option Addr) (c0 : Nat) (l0 : List (S57)) (A1 : Option Addr) (c1 : Nat) (l1 : List (S57)) (r : Bool) (w : World) (hr0 : Kd.C k57 w A0 l0.length l0) (hc0 : l0.length ≤ c0) (hr1 : Kd.C k57 w A1 l1.length l1) (hc1 : l1.length ≤ c1) (h : za5.f k l0 l1 = some r) :
  Calls Tryd.prog 14 #[.slice A0 l0.length c0, .slice A1 l1.length c1] w fun e w' => e = .returned (.bool r) ∧ zaq w w' := by
 have hu57 := Tryd.underlying57; have HR0 := zaa.mk hr0; have HC0 := zaa.mk hc0; clear hr0 hc0; have HR1 := zaa.mk hr1; have HC1 := zaa.mk hc1; clear hr1 hc1; have H : (if (l0.length : Int) = (l1.length : Int) then (za5.l0 k l0 l1 0) else (some false)) = some r := h
 clear h; by_cases c3 : (l0.length : Int) = (l1.length : Int)
 ·rw [if_pos c3] at H
  have c3b0 : ((l0.length : Int) == (l1.length : Int)) = true := beq_iff_eq.mpr c3; have c3b1 : ((l0.length : Int) != (l1.length : Int)) = false := bne_eq_false_iff_eq.mpr c3; have c3b2 : (l0.length == l1.length) = true := by first | simpa using c3 | (simp at c3 ⊢; omega)
  clear c3; have H' := zaa.mk H; clear H; go_enter Tryd.func14, Tryd.ntmps14
  go_wp2
  repeat (go_quiet (fail); try go_wp2)
  go_loopg [5] k (fun kq v5 w' => ∃ (x5_1 : Int), v5 = .int .i64 x5_1 ∧ zaa (za5.l0 kq l0 l1 x5_1 = some r) ∧ zaa (kq ≤ k) ∧ zaq w w')
  case atStart => exact ⟨(0), (by first | rfl | (simp; done) | simp [*]), H', ⟨Nat.le_refl _⟩, by repeat (first | exact zaq.refl _ | apply zaq.step)⟩
  case round =>
   clear H'; try clear c1
   try clear p2
   try clear c3
   try clear c3b0
   try clear c3b1
   try clear c3b2
   obtain ⟨x5_1, rfl, HA, HK1, ⟨m1, rfl⟩⟩ := hrel; cases gk with
   | zero => exact absurd HA.out (by simp [za5.l0])
   | succ k1 =>
    have H := HA.out; clear HA; simp only [za5.l0] at H; by_cases c4 : x5_1 < (l0.length : Int)
    ·rw [if_pos c4] at H
     have c4b0 : decide (x5_1 < (l0.length : Int)) = true := decide_eq_true c4; clear c4; by_cases c5 : 0 ≤ x5_1
     ·rw [if_pos c5] at H
      have c5b0 : decide (0 ≤ x5_1) = true := decide_eq_true c5; clear c5; by_cases c6 : x5_1 < (l1.length : Int)
      ·rw [if_pos c6] at H
       have c6b0 : decide (x5_1 < (l1.length : Int)) = true := decide_eq_true c6; clear c6; by_cases c7 : ((!(((zbH l0 x5_1).f0.f0) == ((zbH l1 x5_1).f0.f0)) || (!(((zbH l0 x5_1).f0.f1) == ((zbH l1 x5_1).f0.f1)))) || (!(((zbH l0 x5_1).f1) == ((zbH l1 x5_1).f1)) || (!(((zbH l0 x5_1).f2) == ((zbH l1 x5_1).f2))))) = true
       ·rw [if_pos c7] at H
        have c7b0 : ((!(((zbH l0 x5_1).f0.f0) == ((zbH l1 x5_1).f0.f0)) || (!(((zbH l0 x5_1).f0.f1) == ((zbH l1 x5_1).f0.f1)))) || (!(((zbH l0 x5_1).f1) == ((zbH l1 x5_1).f1)) || (!(((zbH l0 x5_1).f2) == ((zbH l1 x5_1).f2))))) = true := c7; clear c7; obtain rfl := Option.some.inj H; have p185 : 0 ≤ (x5_1 : Int) := of_decide_eq_true (by assumption)
        have q185 : x5_1 < (l0.length : Int) := of_decide_eq_true (by assumption)
        obtain ⟨ad185, e185, hx185_0, hx185_1, hx185_2, hx185_3⟩ := at_T57 HR0.out x5_1 p185 q185; cases e185; replace p185 := eq_true p185; replace q185 := eq_true q185; have p186 : 0 ≤ (x5_1 : Int) := of_decide_eq_true (by assumption)
        have q186 : x5_1 < (l1.length : Int) := of_decide_eq_true (by assumption)
        obtain ⟨ad186, e186, hx186_0, hx186_1, hx186_2, hx186_3⟩ := at_T57 HR1.out x5_1 p186 q186; cases e186; replace p186 := eq_true p186; replace q186 := eq_true q186; go_wp2
        repeat (go_quiet (fail); try go_wp2)
        go_ret
        exact ⟨by first | rfl | (simp; done) | simp [*], by repeat (first | exact zaq.refl _ | apply zaq.step)⟩
       ·rw [if_neg c7] at H
        have c7b0 : ((!(((zbH l0 x5_1).f0.f0) == ((zbH l1 x5_1).f0.f0)) || (!(((zbH l0 x5_1).f0.f1) == ((zbH l1 x5_1).f0.f1)))) || (!(((zbH l0 x5_1).f1) == ((zbH l1 x5_1).f1)) || (!(((zbH l0 x5_1).f2) == ((zbH l1 x5_1).f2))))) = false := by simpa using c7
        clear c7; have H' := zaa.mk H; clear H; have p185 : 0 ≤ (x5_1 : Int) := of_decide_eq_true (by assumption)
        have q185 : x5_1 < (l0.length : Int) := of_decide_eq_true (by assumption)
        obtain ⟨ad185, e185, hx185_0, hx185_1, hx185_2, hx185_3⟩ := at_T57 HR0.out x5_1 p185 q185; cases e185; replace p185 := eq_true p185; replace q185 := eq_true q185; have p186 : 0 ≤ (x5_1 : Int) := of_decide_eq_true (by assumption)
        have q186 : x5_1 < (l1.length : Int) := of_decide_eq_true (by assumption)
        obtain ⟨ad186, e186, hx186_0, hx186_1, hx186_2, hx186_3⟩ := at_T57 HR1.out x5_1 p186 q186; cases e186; replace p186 := eq_true p186; replace q186 := eq_true q186; go_wp2
        repeat (go_quiet (fail); try go_wp2)
        go_roundg k1
        case measure => have := HK1.out; omega
        case rel => exact ⟨(wrap64 (x5_1 + 1)), (by first | rfl | (simp; done) | simp [*]), H', ⟨by have := HK1.out; omega⟩, by repeat (first | exact zaq.refl _ | apply zaq.step)⟩
      ·rw [if_neg c6] at H
       exact absurd H (by simp)
     ·rw [if_neg c5] at H
      exact absurd H (by simp)
    ·rw [if_neg c4] at H
     have c4b0 : decide (x5_1 < (l0.length : Int)) = false := decide_eq_false c4; clear c4; obtain rfl := Option.some.inj H; go_wp2
     repeat (go_quiet (fail); try go_wp2)
     go_ret
     exact ⟨by first | rfl | (simp; done) | simp [*], by repeat (first | exact zaq.refl _ | apply zaq.step)⟩
 ·rw [if_neg c3] at H
  have c3b0 : ((l0.length : Int) == (l1.length : Int)) = false := beq_eq_false_iff_ne.mpr c3; have c3b1 : ((l0.length : Int) != (l1.length : Int)) = true := bne_iff_ne.mpr c3; have c3b2 : (l0.length == l1.length) = false := by first | simpa using c3 | (simp at c3 ⊢; omega)
  obtain rfl := Option.some.inj H; go_enter Tryd.func14, Tryd.ntmps14
  go_wp2
  repeat (go_quiet (fail); try go_wp2)
  go_ret
  exact ⟨by first | rfl | (simp; done) | simp [*], by repeat (first | exact zaq.refl _ | apply zaq.step)⟩
end
section
attribute [local go_sem] zbi zbg zbs zbr za8 za7 zbh zbf
def zbB.f (k : Nat) (a0 : ByteArray) (a1_0 : Int) (a1_1 : Int) (a1_2 : Int) (l1_3 : List (S29)) : Option (Bool) := if a1_0 = 51 then (if a1_2 = (a0.size : Int) then ((zbe.f k a1_0 a1_1 a1_2 l1_3).bind fun t247 => (some t247)) else (some false)) else (some false)
theorem zbB.calls (k : Nat) (a0 : ByteArray) (a1_0 : Int) (a1_1 : Int) (a1_2 : Int) (A1_3 : Option Addr) (c1_3 : Nat) (l1_3 : List (S29)) (r : Bool) (w : World) (hr1_3 : Kd.C k29 w A1_3 l1_3.length l1_3) (hc1_3 : l1_3.length ≤ c1_3) (h : zbB.f k a0 a1_0 a1_1 a1_2 l1_3 = some r) :
  Calls Tryd.prog 20 #[.string a0, .agg #[.int .u8 a1_0, .int .u8 a1_1, .int .i64 a1_2, .slice A1_3 l1_3.length c1_3]] w fun e w' => e = .returned (.bool r) ∧ Below w.heap.size w w' := by
 have hu29 := Tryd.underlying29; have HR1_3 := zaa.mk hr1_3; have HC1_3 := zaa.mk hc1_3; clear hr1_3 hc1_3; have HB := zaa.mk (Below.refl w.heap.size w); have H : (if a1_0 = 51 then (if a1_2 = (a0.size : Int) then ((zbe.f k a1_0 a1_1 a1_2 l1_3).bind fun t247 => (some t247)) else (some false)) else (some false)) = some r := h
 clear h; by_cases c3 : a1_0 = 51
 ·rw [if_pos c3] at H
  have c3b0 : (a1_0 == 51) = true := beq_iff_eq.mpr c3; have c3b1 : (a1_0 != 51) = false := bne_eq_false_iff_eq.mpr c3; clear c3; by_cases c4 : a1_2 = (a0.size : Int)
  ·rw [if_pos c4] at H
   have c4b0 : (a1_2 == (a0.size : Int)) = true := beq_iff_eq.mpr c4; have c4b1 : (a1_2 != (a0.size : Int)) = false := bne_eq_false_iff_eq.mpr c4; clear c4; replace H := Option.bind_eq_some_iff.mp H; obtain ⟨t247, A50, H⟩ := H; replace H : (some t247) = some r := H; have A5 := zaa.mk A50; clear A50; obtain rfl := Option.some.inj H; go_enter Tryd.func20, Tryd.ntmps20
   go_wp2_with (first | ((with_reducible refine za6 (N := 3) rfl ?_); (try (refine zbM (by rfl) ?_; dsimp only)); refine zbl ?hg (N := 3) ?hd (cs := #[.int .u8 a1_0, .int .u8 a1_1, .int .i64 a1_2, .slice A1_3 l1_3.length c1_3]) (t := 29) ?hr ?_; (case hd => rfl); (case hg => rfl); (case hr => first | (go_simp; done) | (go_simp; rfl)); intro gb246 hg w6 hbox hb; have n0_ := zaa.mk (zai (by repeat (first | exact HB.out | apply zad | apply zac | apply zae)) hb); have n1_ := zaa.mk (hbox); have n2_ := zaa.mk ((by rw [hg]; exact (zax (by repeat (first | exact HB.out | apply zad | apply zac | apply zae))) : w.heap.size ≤ gb246)); have n3_ := zaa.mk ((by rw [hg]; exact (zax (by repeat (first | exact HB.out | apply zad | apply zac | apply zae))) : w.heap.size ≤ gb246)); clear HB; have HB := n0_; have BK246 := n1_; have GW246 := n2_; have GE246 := n3_; clear n0_ n1_ n2_ n3_; clear hb hbox hg; have hcz7_0 : w6.cell? ⟨gb246, 0, none⟩ = some (.int .u8 a1_0) := (zaf BK246.out 0).trans rfl; have hcz7_1 : w6.cell? ⟨gb246, 1, none⟩ = some (.int .u8 a1_1) := (zaf BK246.out 1).trans rfl; have hcz7_2 : w6.cell? ⟨gb246, 2, none⟩ = some (.int .i64 a1_2) := (zaf BK246.out 2).trans rfl; have hcz7_3 : w6.cell? ⟨gb246, 3, none⟩ = some (.slice A1_3 l1_3.length c1_3) := (zaf BK246.out 3).trans rfl; have hfz7_0 := zab BK246.out 0; have hfz7_1 := zab BK246.out 1; have hfz7_2 := zab BK246.out 2; have hfz7_3 := zab BK246.out 3) | (go_at_call 23; (with_reducible refine (zbe.calls k a1_0 a1_1 a1_2 _ _ l1_3 t247 _ ?side1 ?side2 A5.out).mono ?_); (case side1 => repeat (first | exact (Kd.zaT HR1_3.out HB.out) | (with_reducible refine Kd.C_alloc ?_ _) | (with_reducible refine Kd.C_drewN ?_ _) | (with_reducible refine Kd.C_drew ?_))); (case side2 => exact HC1_3.out); rintro e w8 ⟨rfl, hb⟩; have n0_ := zaa.mk (zat (g := gb246) (o := .cells #[.int .u8 a1_0, .int .u8 a1_1, .int .i64 a1_2, .slice A1_3 l1_3.length c1_3] 29 (0, 0)) (by (with_reducible repeat (first | refine zau ?_ _ | refine zaF ?_ | refine zav ?_ _)); exact BK246.out) hb); have n1_ := zaa.mk (zai (by repeat (first | (with_reducible first | exact HB.out | apply zad | apply zac | apply zae | refine zaB ?_ GE246.out) | exact HB.out)) hb); clear BK246; clear HB; have BK246 := n0_; have HB := n1_; clear n0_ n1_; (try clear hb); (try clear hb2); (try clear hk); (try clear hi)))
   go_ret
   exact ⟨by first | rfl | (simp [*, zaz, zay] <;> rfl), by repeat (first | (with_reducible first | exact HB.out | apply zad | apply zac | apply zae | refine zaB ?_ GE246.out) | exact HB.out)⟩
  ·rw [if_neg c4] at H
   have c4b0 : (a1_2 == (a0.size : Int)) = false := beq_eq_false_iff_ne.mpr c4; have c4b1 : (a1_2 != (a0.size : Int)) = true := bne_iff_ne.mpr c4; obtain rfl := Option.some.inj H; go_enter Tryd.func20, Tryd.ntmps20
   go_wp2_with (first | ((with_reducible refine za6 (N := 3) rfl ?_); (try (refine zbM (by rfl) ?_; dsimp only)); refine zbl ?hg (N := 3) ?hd (cs := #[.int .u8 a1_0, .int .u8 a1_1, .int .i64 a1_2, .slice A1_3 l1_3.length c1_3]) (t := 29) ?hr ?_; (case hd => rfl); (case hg => rfl); (case hr => first | (go_simp; done) | (go_simp; rfl)); intro gb246 hg w9 hbox hb; have n0_ := zaa.mk (zai (by repeat (first | exact HB.out | apply zad | apply zac | apply zae)) hb); have n1_ := zaa.mk (hbox); have n2_ := zaa.mk ((by rw [hg]; exact (zax (by repeat (first | exact HB.out | apply zad | apply zac | apply zae))) : w.heap.size ≤ gb246)); have n3_ := zaa.mk ((by rw [hg]; exact (zax (by repeat (first | exact HB.out | apply zad | apply zac | apply zae))) : w.heap.size ≤ gb246)); clear HB; have HB := n0_; have BK246 := n1_; have GW246 := n2_; have GE246 := n3_; clear n0_ n1_ n2_ n3_; clear hb hbox hg; have hcz10_0 : w9.cell? ⟨gb246, 0, none⟩ = some (.int .u8 a1_0) := (zaf BK246.out 0).trans rfl; have hcz10_1 : w9.cell? ⟨gb246, 1, none⟩ = some (.int .u8 a1_1) := (zaf BK246.out 1).trans rfl; have hcz10_2 : w9.cell? ⟨gb246, 2, none⟩ = some (.int .i64 a1_2) := (zaf BK246.out 2).trans rfl; have hcz10_3 : w9.cell? ⟨gb246, 3, none⟩ = some (.slice A1_3 l1_3.length c1_3) := (zaf BK246.out 3).trans rfl; have hfz10_0 := zab BK246.out 0; have hfz10_1 := zab BK246.out 1; have hfz10_2 := zab BK246.out 2; have hfz10_3 := zab BK246.out 3))
   go_ret
   exact ⟨by first | rfl | (simp [*, zaz, zay] <;> rfl), by repeat (first | (with_reducible first | exact HB.out | apply zad | apply zac | apply zae | refine zaB ?_ GE246.out) | exact HB.out)⟩
 ·rw [if_neg c3] at H
  have c3b0 : (a1_0 == 51) = false := beq_eq_false_iff_ne.mpr c3; have c3b1 : (a1_0 != 51) = true := bne_iff_ne.mpr c3; obtain rfl := Option.some.inj H; go_enter Tryd.func20, Tryd.ntmps20
  go_wp2_with (first | ((with_reducible refine za6 (N := 3) rfl ?_); (try (refine zbM (by rfl) ?_; dsimp only)); refine zbl ?hg (N := 3) ?hd (cs := #[.int .u8 a1_0, .int .u8 a1_1, .int .i64 a1_2, .slice A1_3 l1_3.length c1_3]) (t := 29) ?hr ?_; (case hd => rfl); (case hg => rfl); (case hr => first | (go_simp; done) | (go_simp; rfl)); intro gb246 hg w11 hbox hb; have n0_ := zaa.mk (zai (by repeat (first | exact HB.out | apply zad | apply zac | apply zae)) hb); have n1_ := zaa.mk (hbox); have n2_ := zaa.mk ((by rw [hg]; exact (zax (by repeat (first | exact HB.out | apply zad | apply zac | apply zae))) : w.heap.size ≤ gb246)); have n3_ := zaa.mk ((by rw [hg]; exact (zax (by repeat (first | exact HB.out | apply zad | apply zac | apply zae))) : w.heap.size ≤ gb246)); clear HB; have HB := n0_; have BK246 := n1_; have GW246 := n2_; have GE246 := n3_; clear n0_ n1_ n2_ n3_; clear hb hbox hg; have hcz12_0 : w11.cell? ⟨gb246, 0, none⟩ = some (.int .u8 a1_0) := (zaf BK246.out 0).trans rfl; have hcz12_1 : w11.cell? ⟨gb246, 1, none⟩ = some (.int .u8 a1_1) := (zaf BK246.out 1).trans rfl; have hcz12_2 : w11.cell? ⟨gb246, 2, none⟩ = some (.int .i64 a1_2) := (zaf BK246.out 2).trans rfl; have hcz12_3 : w11.cell? ⟨gb246, 3, none⟩ = some (.slice A1_3 l1_3.length c1_3) := (zaf BK246.out 3).trans rfl; have hfz12_0 := zab BK246.out 0; have hfz12_1 := zab BK246.out 1; have hfz12_2 := zab BK246.out 2; have hfz12_3 := zab BK246.out 3))
  go_ret
  exact ⟨by first | rfl | (simp [*, zaz, zay] <;> rfl), by repeat (first | (with_reducible first | exact HB.out | apply zad | apply zac | apply zae | refine zaB ?_ GE246.out) | exact HB.out)⟩
end
theorem append_elemN {α : Type} (d : Kd α) (e t : Nat) {X Y : World} {base n cv bytes : Nat} {ok okp : Nat → Prop} {Av : Option Addr} {L : List α} {z : Value} (hN : d.N e X base ok (.slice Av n cv) L) (hbase : base ≤ X.heap.size) (hfresh : ∀ k, X.heap.size ≤ k → ok k)
  (ht : Tryd.prog.underlying t = some (.slice e)) (hinfo : (Tryd.prog.info? e).map (fun i => (i.zero, i.size, i.bytes)) = some (some z, d.sz, bytes)) (hzs : z.cells.size = d.sz) (hs0 : 0 < d.sz) (hb0 : 0 < bytes) (hl : (L.length + 1) * bytes ≤ 140737488355328)
  (hbY : Below X.heap.size X Y) (p : α) (cs : List Value) (hnew : Y.heap[X.heap.size]? = some (.cells cs.toArray e (0, 0))) (hp : d.FK X okp p cs) (hokp : ∀ k, okp k → ok k ∧ some k ≠ (Value.slice Av n cv).ownBlock) :
  ∃ g cap w1, (Builtin.append_ #[t, t] t #[.slice Av n cv, .slice (some ⟨X.heap.size, 0, none⟩) 1 1]).run Tryd.prog Y = .ok (.slice (some ⟨g, 0, none⟩) (n + 1) cap) w1 ∧
   X.grownBy w1 (Value.slice Av n cv).ownBlock ∧ ((Value.slice Av n cv).ownBlock = some g ∨ X.heap.size ≤ g) ∧ base ≤ g ∧ n = L.length ∧
   d.N e w1 base ok (.slice (some ⟨g, 0, none⟩) (n + 1) cap) (L ++ [p]) := by
 obtain ⟨h0, rows, hrl, hR, hf⟩ := hN; have hc := Kd.FK_raw hp; obtain ⟨g, cap, w1, hrun, hgr, hat, hbg, hn, hR1⟩ := zbR (Kd.raw d.sz) e t (Kd.raw_any hR) hbase (fun _ _ => trivial) ht hinfo hzs hs0 hb0 (by rw [hrl]; exact hl) hbY cs cs hnew ⟨rfl, hc.2.1, hc.2.2⟩ hc.2.1 hc.2.2
 refine ⟨g, cap, w1, hrun, hgr, hat, hbg, by rw [hn, hrl], ?_⟩
 refine Kd.N_appended (news := [cs]) (ys := [p]) h0 hrl hf rfl (fun j x c hx hc' => ?_) hokp hfresh hR1 hgr (hat.imp (fun h => h.symm) (fun h => ⟨g, by simp [Value.ownBlock], h⟩))
 match j, hx, hc' with
 | 0, hx, hc' =>
  simp only [List.getElem?_cons_zero, Option.some.injEq] at hx hc'; subst hx hc'; exact hp
 | j + 1, hx, _ => simp at hx
section
attribute [local go_sem] zbi zbg zbs zbr za8 za7 zbh zbf
def za1.f (a0 : Int) : Option (Bool) := if a0 = 32 then (some true) else (if a0 = 9 then (some true) else (if a0 = 10 then (some true) else (some (a0 == 13))))
theorem za1.calls (a0 : Int) (r : Bool) (w : World) (h : za1.f a0 = some r) :
  Calls Tryd.prog 34 #[.int .u8 a0] w fun e w' => e = .returned (.bool r) ∧ zaq w w' := by
 have H : (if a0 = 32 then (some true) else (if a0 = 9 then (some true) else (if a0 = 10 then (some true) else (some (a0 == 13))))) = some r := h
 clear h; by_cases c2 : a0 = 32
 ·rw [if_pos c2] at H
  have c2b0 : (a0 == 32) = true := beq_iff_eq.mpr c2; have c2b1 : (a0 != 32) = false := bne_eq_false_iff_eq.mpr c2; clear c2; obtain rfl := Option.some.inj H; go_enter Tryd.func34, Tryd.ntmps34
  go_wp2
  go_ret
  exact ⟨by first | rfl | (simp; done) | simp [*], by repeat (first | exact zaq.refl _ | apply zaq.step)⟩
 ·rw [if_neg c2] at H
  have c2b0 : (a0 == 32) = false := beq_eq_false_iff_ne.mpr c2; have c2b1 : (a0 != 32) = true := bne_iff_ne.mpr c2; by_cases c3 : a0 = 9
  ·rw [if_pos c3] at H
   have c3b0 : (a0 == 9) = true := beq_iff_eq.mpr c3; have c3b1 : (a0 != 9) = false := bne_eq_false_iff_eq.mpr c3; clear c3; obtain rfl := Option.some.inj H; go_enter Tryd.func34, Tryd.ntmps34
   go_wp2
   go_ret
   exact ⟨by first | rfl | (simp; done) | simp [*], by repeat (first | exact zaq.refl _ | apply zaq.step)⟩
  ·rw [if_neg c3] at H
   have c3b0 : (a0 == 9) = false := beq_eq_false_iff_ne.mpr c3; have c3b1 : (a0 != 9) = true := bne_iff_ne.mpr c3; by_cases c4 : a0 = 10
   ·rw [if_pos c4] at H
    have c4b0 : (a0 == 10) = true := beq_iff_eq.mpr c4; have c4b1 : (a0 != 10) = false := bne_eq_false_iff_eq.mpr c4; clear c4; obtain rfl := Option.some.inj H; go_enter Tryd.func34, Tryd.ntmps34
    go_wp2
    go_ret
    exact ⟨by first | rfl | (simp; done) | simp [*], by repeat (first | exact zaq.refl _ | apply zaq.step)⟩
   ·rw [if_neg c4] at H
    have c4b0 : (a0 == 10) = false := beq_eq_false_iff_ne.mpr c4; have c4b1 : (a0 != 10) = true := bne_iff_ne.mpr c4; obtain rfl := Option.some.inj H; go_enter Tryd.func34, Tryd.ntmps34
    go_wp2
    go_ret
    exact ⟨by first | rfl | (simp; done) | simp [*], by repeat (first | exact zaq.refl _ | apply zaq.step)⟩
mutual
def zao.j0 : Nat → ByteArray → Int → Bool → Option (Int × Int)
 | 0, _, _, _ => none
 | k + 1, x0, x1, x19 => if x19 = true then (zao.l0 k x0 x1) else (if (wrap64 (x1 + 1)) < (x0.size : Int) then (if 0 ≤ (wrap64 (x1 + 1)) then (zao.j2 k x0 x1 ((bt x0 (wrap64 (x1 + 1))) == 42)) else (none)) else (zao.j2 k x0 x1 false))
def zao.l0 : Nat → ByteArray → Int → Option (Int × Int)
 | 0, _, _ => none
 | k + 1, x0, x6 => if x6 < (x0.size : Int) then (if 0 ≤ x6 then (if (bt x0 x6) = 10 then (some (2, x6)) else (if (bt x0 x6) = 13 then (some (2, x6)) else (zao.l0 k x0 (wrap64 (x6 + 1))))) else (none)) else (some (2, x6))
def zao.j2 : Nat → ByteArray → Int → Bool → Option (Int × Int)
 | 0, _, _, _ => none
 | k + 1, x0, x1, x51 => if x51 = true then (zao.l1 k x0 (wrap64 (x1 + 2))) else (some (36, wrap64 (x1 + 1)))
def zao.l1 : Nat → ByteArray → Int → Option (Int × Int)
 | 0, _, _ => none
 | k + 1, x0, x7 => if (wrap64 (x7 + 1)) < (x0.size : Int) then (if 0 ≤ x7 then (if x7 < (x0.size : Int) then (if (bt x0 x7) = 42 then (if 0 ≤ (wrap64 (x7 + 1)) then (if (bt x0 (wrap64 (x7 + 1))) = 47 then (some (3, wrap64 (x7 + 2))) else (zao.l1 k x0 (wrap64 (x7 + 1)))) else (none)) else (zao.l1 k x0 (wrap64 (x7 + 1)))) else (none)) else (none)) else (some (4, (x0.size : Int)))
end
def zao.f (k : Nat) (a0 : ByteArray) (a1 : Int) : Option (Int × Int) := if (wrap64 (a1 + 1)) < (a0.size : Int) then (if 0 ≤ (wrap64 (a1 + 1)) then (zao.j0 k a0 a1 ((bt a0 (wrap64 (a1 + 1))) == 47)) else (none)) else (zao.j0 k a0 a1 false)
theorem zao.calls (k : Nat) (a0 : ByteArray) (a1 : Int) (r1 : Int) (r2 : Int) (w : World) (h : zao.f k a0 a1 = some (r1, r2)) :
  Calls Tryd.prog 35 #[.string a0, .int .i64 a1] w fun e w' => e = .returned (.tuple #[.int .u8 r1, .int .i64 r2]) ∧ zaq w w' := by
 have H : (if (wrap64 (a1 + 1)) < (a0.size : Int) then (if 0 ≤ (wrap64 (a1 + 1)) then (zao.j0 k a0 a1 ((bt a0 (wrap64 (a1 + 1))) == 47)) else (none)) else (zao.j0 k a0 a1 false)) = some (r1, r2) := h
 clear h; have HC3 := zaa.mk H; clear H; go_enter Tryd.func35, Tryd.ntmps35
 go_upto_region 1 with (fail)
 go_cut [19] (fun v19 wc => ∃ (kq : Nat) (x19_2 : Bool), v19 = .bool x19_2 ∧ zaa (zao.j0 kq a0 a1 x19_2 = some (r1, r2)) ∧ zaa (kq ≤ k) ∧ zaq w wc)
 case first =>
  have H := HC3.out; clear HC3; by_cases c4 : (wrap64 (a1 + 1)) < (a0.size : Int)
  ·rw [if_pos c4] at H
   have c4b0 : decide ((wrap64 (a1 + 1)) < (a0.size : Int)) = true := decide_eq_true c4; clear c4
   (first | rw [c4b0] | (simp only [i64_w, i32_w]; rw [c4b0]) | skip)
   obtain ⟨ji5, hji5⟩ : ∃ j_ : Int, (wrap64 (a1 + 1)) = j_ := ⟨_, rfl⟩; replace H : (if 0 ≤ (ji5) then (zao.j0 k a0 a1 ((bt a0 (ji5)) == 47)) else (none)) = some (r1, r2) := by first | (rw [hji5] at H; exact H) | (simp only [hji5] at H ⊢; exact H)
   (try rw [hji5] at c4b0)
   have hji5w : (IntKind.i64.wrap (a1 + 1)) = ji5 := (i64_w _).trans hji5; by_cases c6 : 0 ≤ (ji5)
   ·rw [if_pos c6] at H
    have c6b0 : decide (0 ≤ (ji5)) = true := decide_eq_true c6; clear c6; have H' := zaa.mk H; clear H; have p7 : 0 ≤ ((ji5) : Int) := of_decide_eq_true (by assumption)
    have q7 : (ji5) < (a0.size : Int) := of_decide_eq_true (by assumption)
    have hx7 := bt_at a0 (ji5); replace p7 := eq_true p7; replace q7 := eq_true q7; go_wp2
    go_meet
    case rel => exact ⟨_, (((bt a0 (ji5)) == 47)), (by first | rfl | (simp; done) | (simp only [← hji5] <;> (first | rfl | simp)) | simp [*]), H', ⟨by first | omega | exact Nat.le_refl _⟩, by repeat (first | exact zaq.refl _ | apply zaq.step)⟩
   ·rw [if_neg c6] at H
    exact absurd H (by simp)
  ·rw [if_neg c4] at H
   have c4b0 : decide ((wrap64 (a1 + 1)) < (a0.size : Int)) = false := decide_eq_false c4; clear c4
   (first | rw [c4b0] | (simp only [i64_w, i32_w]; rw [c4b0]) | skip)
   have H' := zaa.mk H; clear H; go_wp2
   go_meet
   case rel => exact ⟨_, (false), (by first | rfl | (simp; done) | simp [*]), H', ⟨by first | omega | exact Nat.le_refl _⟩, by repeat (first | exact zaq.refl _ | apply zaq.step)⟩
 case rest =>
  clear HC3; try clear p2
  try clear c3
  try clear c4
  try clear c4b0
  try clear c6
  try clear c6b0
  try clear p6
  try clear p7
  try clear q7
  try clear hx7
  try clear p7
  try clear q7
  obtain ⟨kq, x19_2, rfl, HA, HJ2, ⟨mc2, rfl⟩⟩ := hcut; cases kq with
  | zero => exact absurd HA.out (by simp [zao.j0])
  | succ kj2 =>
   have H := HA.out; clear HA; simp only [zao.j0] at H; by_cases c8 : x19_2 = true
   ·subst c8
    have H1 : (zao.l0 kj2 a0 a1) = some (r1, r2) := by rw [if_pos rfl] at H; exact H
    clear H; have H := H1; clear H1; have H' := zaa.mk H; clear H; go_wp2
    go_loopg [6] kj2 (fun kq v6 w' => ∃ (x6_2 : Int), v6 = .int .i64 x6_2 ∧ zaa (zao.l0 kq a0 x6_2 = some (r1, r2)) ∧ zaa (kq ≤ kj2) ∧ zaq w w')
    case atStart => exact ⟨(a1), (by first | rfl | (simp; done) | simp [*]), H', ⟨Nat.le_refl _⟩, by repeat (first | exact zaq.refl _ | apply zaq.step)⟩
    case round =>
     clear H'; try clear c2
     try clear p2
     try clear c3
     try clear c4
     try clear c4b0
     try clear c6
     try clear c6b0
     try clear p6
     try clear p7
     try clear q7
     try clear hx7
     try clear c8
     try clear p2
     try clear p6
     try clear p7
     try clear q7
     obtain ⟨x6_2, rfl, HA, HK2, ⟨m2, rfl⟩⟩ := hrel; cases gk with
     | zero => exact absurd HA.out (by simp [zao.l0])
     | succ k2 =>
      have H := HA.out; clear HA; simp only [zao.l0] at H; by_cases c9 : x6_2 < (a0.size : Int)
      ·rw [if_pos c9] at H
       have c9b0 : decide (x6_2 < (a0.size : Int)) = true := decide_eq_true c9; clear c9; by_cases c10 : 0 ≤ x6_2
       ·rw [if_pos c10] at H
        have c10b0 : decide (0 ≤ x6_2) = true := decide_eq_true c10; clear c10; by_cases c12 : (bt a0 x6_2) = 10
        ·rw [if_pos c12] at H
         have c12b0 : ((bt a0 x6_2) == 10) = true := beq_iff_eq.mpr c12; have c12b1 : ((bt a0 x6_2) != 10) = false := bne_eq_false_iff_eq.mpr c12; clear c12; simp only [Option.some.injEq, Prod.mk.injEq] at H; obtain ⟨rfl, rfl⟩ := H; have p11 : 0 ≤ (x6_2 : Int) := of_decide_eq_true (by assumption)
         have q11 : x6_2 < (a0.size : Int) := of_decide_eq_true (by assumption)
         have hx11 := bt_at a0 x6_2; replace p11 := eq_true p11; replace q11 := eq_true q11; go_wp2
         go_ret2
         exact ⟨by first | rfl | (simp; done) | simp [*], by repeat (first | exact zaq.refl _ | apply zaq.step)⟩
        ·rw [if_neg c12] at H
         have c12b0 : ((bt a0 x6_2) == 10) = false := beq_eq_false_iff_ne.mpr c12; have c12b1 : ((bt a0 x6_2) != 10) = true := bne_iff_ne.mpr c12; by_cases c14 : (bt a0 x6_2) = 13
         ·rw [if_pos c14] at H
          have c14b0 : ((bt a0 x6_2) == 13) = true := beq_iff_eq.mpr c14; have c14b1 : ((bt a0 x6_2) != 13) = false := bne_eq_false_iff_eq.mpr c14; clear c14; simp only [Option.some.injEq, Prod.mk.injEq] at H; obtain ⟨rfl, rfl⟩ := H; have p11 : 0 ≤ (x6_2 : Int) := of_decide_eq_true (by assumption)
          have q11 : x6_2 < (a0.size : Int) := of_decide_eq_true (by assumption)
          have hx11 := bt_at a0 x6_2; replace p11 := eq_true p11; replace q11 := eq_true q11; have p13 : 0 ≤ (x6_2 : Int) := of_decide_eq_true (by assumption)
          have q13 : x6_2 < (a0.size : Int) := of_decide_eq_true (by assumption)
          have hx13 := bt_at a0 x6_2; replace p13 := eq_true p13; replace q13 := eq_true q13; go_wp2
          go_ret2
          exact ⟨by first | rfl | (simp; done) | simp [*], by repeat (first | exact zaq.refl _ | apply zaq.step)⟩
         ·rw [if_neg c14] at H
          have c14b0 : ((bt a0 x6_2) == 13) = false := beq_eq_false_iff_ne.mpr c14; have c14b1 : ((bt a0 x6_2) != 13) = true := bne_iff_ne.mpr c14; have H' := zaa.mk H; clear H; have p11 : 0 ≤ (x6_2 : Int) := of_decide_eq_true (by assumption)
          have q11 : x6_2 < (a0.size : Int) := of_decide_eq_true (by assumption)
          have hx11 := bt_at a0 x6_2; replace p11 := eq_true p11; replace q11 := eq_true q11; have p13 : 0 ≤ (x6_2 : Int) := of_decide_eq_true (by assumption)
          have q13 : x6_2 < (a0.size : Int) := of_decide_eq_true (by assumption)
          have hx13 := bt_at a0 x6_2; replace p13 := eq_true p13; replace q13 := eq_true q13; go_wp2
          go_roundg k2
          case measure => have := HJ2.out; have := HK2.out; omega
          case rel => exact ⟨(wrap64 (x6_2 + 1)), (by first | rfl | (simp; done) | simp [*]), H', ⟨by have := HJ2.out; have := HK2.out; omega⟩, by repeat (first | exact zaq.refl _ | apply zaq.step)⟩
       ·rw [if_neg c10] at H
        exact absurd H (by simp)
      ·rw [if_neg c9] at H
       have c9b0 : decide (x6_2 < (a0.size : Int)) = false := decide_eq_false c9; clear c9; simp only [Option.some.injEq, Prod.mk.injEq] at H; obtain ⟨rfl, rfl⟩ := H; go_wp2
       go_ret2
       exact ⟨by first | rfl | (simp; done) | simp [*], by repeat (first | exact zaq.refl _ | apply zaq.step)⟩
   ·replace c8 := Bool.eq_false_iff.mpr c8
    subst c8; have H1 : (if (wrap64 (a1 + 1)) < (a0.size : Int) then (if 0 ≤ (wrap64 (a1 + 1)) then (zao.j2 kj2 a0 a1 ((bt a0 (wrap64 (a1 + 1))) == 42)) else (none)) else (zao.j2 kj2 a0 a1 false)) = some (r1, r2) := by rw [if_neg (show ¬ (false = true) by decide)] at H; exact H
    clear H; have H := H1; clear H1; have HC15 := zaa.mk H; clear H; go_upto_region 6 with (fail)
    go_cut [51] (fun v51 wc => ∃ (kq : Nat) (x51_14 : Bool), v51 = .bool x51_14 ∧ zaa (zao.j2 kq a0 a1 x51_14 = some (r1, r2)) ∧ zaa (kq ≤ kj2) ∧ zaq w wc)
    case first =>
     have H := HC15.out; clear HC15; by_cases c16 : (wrap64 (a1 + 1)) < (a0.size : Int)
     ·rw [if_pos c16] at H
      have c16b0 : decide ((wrap64 (a1 + 1)) < (a0.size : Int)) = true := decide_eq_true c16; clear c16
      (first | rw [c16b0] | (simp only [i64_w, i32_w]; rw [c16b0]) | skip)
      obtain ⟨ji17, hji17⟩ : ∃ j_ : Int, (wrap64 (a1 + 1)) = j_ := ⟨_, rfl⟩; replace H : (if 0 ≤ (ji17) then (zao.j2 kj2 a0 a1 ((bt a0 (ji17)) == 42)) else (none)) = some (r1, r2) := by first | (rw [hji17] at H; exact H) | (simp only [hji17] at H ⊢; exact H)
      (try rw [hji17] at c16b0)
      have hji17w : (IntKind.i64.wrap (a1 + 1)) = ji17 := (i64_w _).trans hji17; by_cases c18 : 0 ≤ (ji17)
      ·rw [if_pos c18] at H
       have c18b0 : decide (0 ≤ (ji17)) = true := decide_eq_true c18; clear c18; have H' := zaa.mk H; clear H; have p19 : 0 ≤ ((ji17) : Int) := of_decide_eq_true (by assumption)
       have q19 : (ji17) < (a0.size : Int) := of_decide_eq_true (by assumption)
       have hx19 := bt_at a0 (ji17); replace p19 := eq_true p19; replace q19 := eq_true q19; go_wp2
       go_meet
       case rel => exact ⟨_, (((bt a0 (ji17)) == 42)), (by first | rfl | (simp; done) | (simp only [← hji17] <;> (first | rfl | simp)) | simp [*]), H', ⟨by have := HJ2.out; first | omega | exact Nat.le_refl _⟩, by repeat (first | exact zaq.refl _ | apply zaq.step)⟩
      ·rw [if_neg c18] at H
       exact absurd H (by simp)
     ·rw [if_neg c16] at H
      have c16b0 : decide ((wrap64 (a1 + 1)) < (a0.size : Int)) = false := decide_eq_false c16; clear c16
      (first | rw [c16b0] | (simp only [i64_w, i32_w]; rw [c16b0]) | skip)
      have H' := zaa.mk H; clear H; go_wp2
      go_meet
      case rel => exact ⟨_, (false), (by first | rfl | (simp; done) | simp [*]), H', ⟨by have := HJ2.out; first | omega | exact Nat.le_refl _⟩, by repeat (first | exact zaq.refl _ | apply zaq.step)⟩
    case rest =>
     clear HC15; try clear c1
     try clear p1
     try clear q1
     try clear hx1
     try clear c2
     try clear p2
     try clear c3
     try clear c4
     try clear c4b0
     try clear c6
     try clear c6b0
     try clear p6
     try clear p7
     try clear q7
     try clear hx7
     try clear c8
     try clear c9
     try clear c9b0
     try clear c10
     try clear c10b0
     try clear p11
     try clear q11
     try clear hx11
     try clear c12
     try clear c12b0
     try clear c12b1
     try clear p13
     try clear q13
     try clear hx13
     try clear c14
     try clear c14b0
     try clear c14b1
     try clear c16
     try clear c16b0
     try clear c18
     try clear c18b0
     try clear p19
     try clear q19
     try clear hx19
     try clear p11
     try clear p13
     try clear p19
     try clear p2
     try clear p6
     try clear p7
     try clear q11
     try clear q13
     try clear q19
     try clear q7
     obtain ⟨kq, x51_14, rfl, HA, HJ14, ⟨mc14, rfl⟩⟩ := hcut; cases kq with
     | zero => exact absurd HA.out (by simp [zao.j2])
     | succ kj14 =>
      have H := HA.out; clear HA; simp only [zao.j2] at H; by_cases c20 : x51_14 = true
      ·subst c20
       have H1 : (zao.l1 kj14 a0 (wrap64 (a1 + 2))) = some (r1, r2) := by rw [if_pos rfl] at H; exact H
       clear H; have H := H1; clear H1; have H' := zaa.mk H; clear H; go_wp2
       go_loopg [7] kj14 (fun kq v7 w' => ∃ (x7_3 : Int), v7 = .int .i64 x7_3 ∧ zaa (zao.l1 kq a0 x7_3 = some (r1, r2)) ∧ zaa (kq ≤ kj14) ∧ zaq w w')
       case atStart => exact ⟨(wrap64 (a1 + 2)), (by first | rfl | (simp; done) | simp [*]), H', ⟨Nat.le_refl _⟩, by repeat (first | exact zaq.refl _ | apply zaq.step)⟩
       case round =>
        clear H'; try clear c1
        try clear p1
        try clear q1
        try clear hx1
        try clear c2
        try clear p2
        try clear c3
        try clear c4
        try clear c4b0
        try clear c6
        try clear c6b0
        try clear p6
        try clear p7
        try clear q7
        try clear hx7
        try clear c8
        try clear c9
        try clear c9b0
        try clear c10
        try clear c10b0
        try clear p11
        try clear q11
        try clear hx11
        try clear c12
        try clear c12b0
        try clear c12b1
        try clear p13
        try clear q13
        try clear hx13
        try clear c14
        try clear c14b0
        try clear c14b1
        try clear c16
        try clear c16b0
        try clear c18
        try clear c18b0
        try clear p19
        try clear q19
        try clear hx19
        try clear c20
        try clear p1
        try clear p11
        try clear p13
        try clear p19
        try clear p2
        try clear p6
        try clear p7
        try clear q1
        try clear q11
        try clear q13
        try clear q19
        try clear q7
        obtain ⟨x7_3, rfl, HA, HK3, ⟨m3, rfl⟩⟩ := hrel; cases gk with
        | zero => exact absurd HA.out (by simp [zao.l1])
        | succ k3 =>
         have H := HA.out; clear HA; simp only [zao.l1] at H; by_cases c21 : (wrap64 (x7_3 + 1)) < (a0.size : Int)
         ·rw [if_pos c21] at H
          have c21b0 : decide ((wrap64 (x7_3 + 1)) < (a0.size : Int)) = true := decide_eq_true c21; clear c21; by_cases c22 : 0 ≤ x7_3
          ·rw [if_pos c22] at H
           have c22b0 : decide (0 ≤ x7_3) = true := decide_eq_true c22; clear c22; by_cases c23 : x7_3 < (a0.size : Int)
           ·rw [if_pos c23] at H
            have c23b0 : decide (x7_3 < (a0.size : Int)) = true := decide_eq_true c23; clear c23; by_cases c25 : (bt a0 x7_3) = 42
            ·rw [if_pos c25] at H
             have c25b0 : ((bt a0 x7_3) == 42) = true := beq_iff_eq.mpr c25; have c25b1 : ((bt a0 x7_3) != 42) = false := bne_eq_false_iff_eq.mpr c25; clear c25; obtain ⟨ji26, hji26⟩ : ∃ j_ : Int, (wrap64 (x7_3 + 1)) = j_ := ⟨_, rfl⟩; replace H : (if 0 ≤ (ji26) then (if (bt a0 (ji26)) = 47 then (some (3, wrap64 (x7_3 + 2))) else (zao.l1 k3 a0 ji26)) else (none)) = some (r1, r2) := by first | (rw [hji26] at H; exact H) | (simp only [hji26] at H ⊢; exact H)
             (try rw [hji26] at c21b0)
             have hji26w : (IntKind.i64.wrap (x7_3 + 1)) = ji26 := (i64_w _).trans hji26; by_cases c27 : 0 ≤ (ji26)
             ·rw [if_pos c27] at H
              have c27b0 : decide (0 ≤ (ji26)) = true := decide_eq_true c27; clear c27; by_cases c29 : (bt a0 (ji26)) = 47
              ·rw [if_pos c29] at H
               have c29b0 : ((bt a0 (ji26)) == 47) = true := beq_iff_eq.mpr c29; have c29b1 : ((bt a0 (ji26)) != 47) = false := bne_eq_false_iff_eq.mpr c29; clear c29; simp only [Option.some.injEq, Prod.mk.injEq] at H; obtain ⟨rfl, rfl⟩ := H; have p24 : 0 ≤ (x7_3 : Int) := of_decide_eq_true (by assumption)
               have q24 : x7_3 < (a0.size : Int) := of_decide_eq_true (by assumption)
               have hx24 := bt_at a0 x7_3; replace p24 := eq_true p24; replace q24 := eq_true q24; have p28 : 0 ≤ ((ji26) : Int) := of_decide_eq_true (by assumption)
               have q28 : (ji26) < (a0.size : Int) := of_decide_eq_true (by assumption)
               have hx28 := bt_at a0 (ji26); replace p28 := eq_true p28; replace q28 := eq_true q28; go_wp2
               go_ret2
               exact ⟨by first | rfl | (simp; done) | (simp only [← hji26] <;> (first | rfl | simp)) | simp [*], by repeat (first | exact zaq.refl _ | apply zaq.step)⟩
              ·rw [if_neg c29] at H
               have c29b0 : ((bt a0 (ji26)) == 47) = false := beq_eq_false_iff_ne.mpr c29; have c29b1 : ((bt a0 (ji26)) != 47) = true := bne_iff_ne.mpr c29; have H' := zaa.mk H; clear H; have p24 : 0 ≤ (x7_3 : Int) := of_decide_eq_true (by assumption)
               have q24 : x7_3 < (a0.size : Int) := of_decide_eq_true (by assumption)
               have hx24 := bt_at a0 x7_3; replace p24 := eq_true p24; replace q24 := eq_true q24; have p28 : 0 ≤ ((ji26) : Int) := of_decide_eq_true (by assumption)
               have q28 : (ji26) < (a0.size : Int) := of_decide_eq_true (by assumption)
               have hx28 := bt_at a0 (ji26); replace p28 := eq_true p28; replace q28 := eq_true q28; go_wp2
               go_roundg k3
               case measure => have := HJ2.out; have := HJ14.out; have := HK3.out; omega
               case rel => exact ⟨(ji26), (by first | rfl | (simp; done) | (simp only [← hji26] <;> (first | rfl | simp)) | simp [*]), H', ⟨by have := HJ2.out; have := HJ14.out; have := HK3.out; omega⟩, by repeat (first | exact zaq.refl _ | apply zaq.step)⟩
             ·rw [if_neg c27] at H
              exact absurd H (by simp)
            ·rw [if_neg c25] at H
             have c25b0 : ((bt a0 x7_3) == 42) = false := beq_eq_false_iff_ne.mpr c25; have c25b1 : ((bt a0 x7_3) != 42) = true := bne_iff_ne.mpr c25; have H' := zaa.mk H; clear H; have p24 : 0 ≤ (x7_3 : Int) := of_decide_eq_true (by assumption)
             have q24 : x7_3 < (a0.size : Int) := of_decide_eq_true (by assumption)
             have hx24 := bt_at a0 x7_3; replace p24 := eq_true p24; replace q24 := eq_true q24; go_wp2
             go_roundg k3
             case measure => have := HJ2.out; have := HJ14.out; have := HK3.out; omega
             case rel => exact ⟨(wrap64 (x7_3 + 1)), (by first | rfl | (simp; done) | simp [*]), H', ⟨by have := HJ2.out; have := HJ14.out; have := HK3.out; omega⟩, by repeat (first | exact zaq.refl _ | apply zaq.step)⟩
           ·rw [if_neg c23] at H
            exact absurd H (by simp)
          ·rw [if_neg c22] at H
           exact absurd H (by simp)
         ·rw [if_neg c21] at H
          have c21b0 : decide ((wrap64 (x7_3 + 1)) < (a0.size : Int)) = false := decide_eq_false c21; clear c21; simp only [Option.some.injEq, Prod.mk.injEq] at H; obtain ⟨rfl, rfl⟩ := H; go_wp2
          go_ret2
          exact ⟨by first | rfl | (simp; done) | simp [*], by repeat (first | exact zaq.refl _ | apply zaq.step)⟩
      ·replace c20 := Bool.eq_false_iff.mpr c20
       subst c20; have H1 : (some (36, wrap64 (a1 + 1))) = some (r1, r2) := by rw [if_neg (show ¬ (false = true) by decide)] at H; exact H
       clear H; have H := H1; clear H1; simp only [Option.some.injEq, Prod.mk.injEq] at H; obtain ⟨rfl, rfl⟩ := H; go_wp2
       go_ret2
       exact ⟨by first | rfl | (simp; done) | simp [*], by repeat (first | exact zaq.refl _ | apply zaq.step)⟩
def zaX.f (a0 : Int) : Option (Bool) := if a0 ≥ 97 then (if a0 ≤ 122 then (some true) else (if a0 ≥ 65 then (if a0 ≤ 90 then (some true) else (some (a0 == 95))) else (some (a0 == 95)))) else (if a0 ≥ 65 then (if a0 ≤ 90 then (some true) else (some (a0 == 95))) else (some (a0 == 95)))
theorem zaX.calls (a0 : Int) (r : Bool) (w : World) (h : zaX.f a0 = some r) :
  Calls Tryd.prog 36 #[.int .u8 a0] w fun e w' => e = .returned (.bool r) ∧ zaq w w' := by
 have H : (if a0 ≥ 97 then (if a0 ≤ 122 then (some true) else (if a0 ≥ 65 then (if a0 ≤ 90 then (some true) else (some (a0 == 95))) else (some (a0 == 95)))) else (if a0 ≥ 65 then (if a0 ≤ 90 then (some true) else (some (a0 == 95))) else (some (a0 == 95)))) = some r := h
 clear h; by_cases c2 : a0 ≥ 97
 ·rw [if_pos c2] at H
  have c2b0 : decide (97 ≤ a0) = true := decide_eq_true c2; clear c2; by_cases c3 : a0 ≤ 122
  ·rw [if_pos c3] at H
   have c3b0 : decide (a0 ≤ 122) = true := decide_eq_true c3; clear c3; obtain rfl := Option.some.inj H; go_enter Tryd.func36, Tryd.ntmps36
   go_wp2
   go_ret
   exact ⟨by first | rfl | (simp; done) | simp [*], by repeat (first | exact zaq.refl _ | apply zaq.step)⟩
  ·rw [if_neg c3] at H
   have c3b0 : decide (a0 ≤ 122) = false := decide_eq_false c3; clear c3; by_cases c4 : a0 ≥ 65
   ·rw [if_pos c4] at H
    have c4b0 : decide (65 ≤ a0) = true := decide_eq_true c4; clear c4; by_cases c5 : a0 ≤ 90
    ·rw [if_pos c5] at H
     have c5b0 : decide (a0 ≤ 90) = true := decide_eq_true c5; clear c5; obtain rfl := Option.some.inj H; go_enter Tryd.func36, Tryd.ntmps36
     go_wp2
     go_ret
     exact ⟨by first | rfl | (simp; done) | simp [*], by repeat (first | exact zaq.refl _ | apply zaq.step)⟩
    ·rw [if_neg c5] at H
     have c5b0 : decide (a0 ≤ 90) = false := decide_eq_false c5; clear c5; obtain rfl := Option.some.inj H; go_enter Tryd.func36, Tryd.ntmps36
     go_wp2
     go_ret
     exact ⟨by first | rfl | (simp; done) | simp [*], by repeat (first | exact zaq.refl _ | apply zaq.step)⟩
   ·rw [if_neg c4] at H
    have c4b0 : decide (65 ≤ a0) = false := decide_eq_false c4; clear c4; obtain rfl := Option.some.inj H; go_enter Tryd.func36, Tryd.ntmps36
    go_wp2
    go_ret
    exact ⟨by first | rfl | (simp; done) | simp [*], by repeat (first | exact zaq.refl _ | apply zaq.step)⟩
 ·rw [if_neg c2] at H
  have c2b0 : decide (97 ≤ a0) = false := decide_eq_false c2; clear c2; by_cases c6 : a0 ≥ 65
  ·rw [if_pos c6] at H
   have c6b0 : decide (65 ≤ a0) = true := decide_eq_true c6; clear c6; by_cases c7 : a0 ≤ 90
   ·rw [if_pos c7] at H
    have c7b0 : decide (a0 ≤ 90) = true := decide_eq_true c7; clear c7; obtain rfl := Option.some.inj H; go_enter Tryd.func36, Tryd.ntmps36
    go_wp2
    go_ret
    exact ⟨by first | rfl | (simp; done) | simp [*], by repeat (first | exact zaq.refl _ | apply zaq.step)⟩
   ·rw [if_neg c7] at H
    have c7b0 : decide (a0 ≤ 90) = false := decide_eq_false c7; clear c7; obtain rfl := Option.some.inj H; go_enter Tryd.func36, Tryd.ntmps36
    go_wp2
    go_ret
    exact ⟨by first | rfl | (simp; done) | simp [*], by repeat (first | exact zaq.refl _ | apply zaq.step)⟩
  ·rw [if_neg c6] at H
   have c6b0 : decide (65 ≤ a0) = false := decide_eq_false c6; clear c6; obtain rfl := Option.some.inj H; go_enter Tryd.func36, Tryd.ntmps36
   go_wp2
   go_ret
   exact ⟨by first | rfl | (simp; done) | simp [*], by repeat (first | exact zaq.refl _ | apply zaq.step)⟩
def zaP.f (a0 : Int) : Option (Bool) := if a0 ≥ 48 then (some (decide (a0 ≤ 57))) else (some false)
theorem zaP.calls (a0 : Int) (r : Bool) (w : World) (h : zaP.f a0 = some r) :
  Calls Tryd.prog 37 #[.int .u8 a0] w fun e w' => e = .returned (.bool r) ∧ zaq w w' := by
 have H : (if a0 ≥ 48 then (some (decide (a0 ≤ 57))) else (some false)) = some r := h
 clear h; by_cases c2 : a0 ≥ 48
 ·rw [if_pos c2] at H
  have c2b0 : decide (48 ≤ a0) = true := decide_eq_true c2; clear c2; obtain rfl := Option.some.inj H; go_enter Tryd.func37, Tryd.ntmps37
  go_wp2
  go_ret
  exact ⟨by first | rfl | (simp; done) | simp [*], by repeat (first | exact zaq.refl _ | apply zaq.step)⟩
 ·rw [if_neg c2] at H
  have c2b0 : decide (48 ≤ a0) = false := decide_eq_false c2; clear c2; obtain rfl := Option.some.inj H; go_enter Tryd.func37, Tryd.ntmps37
  go_wp2
  go_ret
  exact ⟨by first | rfl | (simp; done) | simp [*], by repeat (first | exact zaq.refl _ | apply zaq.step)⟩
def zaU.l0 : Nat → ByteArray → List ByteArray → Int → Option (Int)
 | 0, _, _, _ => none
 | k + 1, x0, x3, x4 => if x4 < (x3.length : Int) then (if 0 ≤ x4 then (if (rdOf ByteArray.empty x3 x4).toList = x0.toList then (some ((10 + ((x4) % 256)) % 256)) else (zaU.l0 k x0 x3 (wrap64 (x4 + 1)))) else (none)) else (some 6)
def zaU.f (k : Nat) (a0 : ByteArray) : Option (Int) := zaU.l0 k a0 (([(⟨#[108, 101, 116]⟩ : ByteArray), (⟨#[102, 110]⟩ : ByteArray), (⟨#[105, 102]⟩ : ByteArray), (⟨#[101, 108, 115, 101]⟩ : ByteArray), (⟨#[119, 104, 105, 108, 101]⟩ : ByteArray), (⟨#[114, 101, 116, 117, 114, 110]⟩ : ByteArray), (⟨#[116, 114, 117, 101]⟩ : ByteArray), (⟨#[102, 97, 108, 115, 101]⟩ : ByteArray)] : List ByteArray)) 0
theorem zaU.calls (k : Nat) (a0 : ByteArray) (r : Int) (w : World) (h : zaU.f k a0 = some r) :
  Calls Tryd.prog 38 #[.string a0] w fun e w' => e = .returned (.int .u8 r) ∧ Below w.heap.size w w' := by
 have HB := zaa.mk (Below.refl w.heap.size w); have H : (zaU.l0 k a0 (([(⟨#[108, 101, 116]⟩ : ByteArray), (⟨#[102, 110]⟩ : ByteArray), (⟨#[105, 102]⟩ : ByteArray), (⟨#[101, 108, 115, 101]⟩ : ByteArray), (⟨#[119, 104, 105, 108, 101]⟩ : ByteArray), (⟨#[114, 101, 116, 117, 114, 110]⟩ : ByteArray), (⟨#[116, 114, 117, 101]⟩ : ByteArray), (⟨#[102, 97, 108, 115, 101]⟩ : ByteArray)] : List ByteArray)) 0) = some r := h; clear h; obtain ⟨y266, hy266⟩ : ∃ y_ : List ByteArray, y_ = (([(⟨#[108, 101, 116]⟩ : ByteArray), (⟨#[102, 110]⟩ : ByteArray), (⟨#[105, 102]⟩ : ByteArray), (⟨#[101, 108, 115, 101]⟩ : ByteArray), (⟨#[119, 104, 105, 108, 101]⟩ : ByteArray), (⟨#[114, 101, 116, 117, 114, 110]⟩ : ByteArray), (⟨#[116, 114, 117, 101]⟩ : ByteArray), (⟨#[102, 97, 108, 115, 101]⟩ : ByteArray)] : List ByteArray)) := ⟨_, rfl⟩; replace H : (zaU.l0 k a0 y266 0) = some r := by first | (rw [hy266]; with_reducible exact H) | (have H2_ := (Option.bind_some _ _).symm.trans H; rw [hy266]; with_reducible exact H2_) | (have H2_ := (Option.bind_some _ _).symm.trans H; with_reducible exact H2_) | with_reducible exact H | (rw [hy266]; exact H) | exact H
 have Ny266 := zaa.mk hy266; clear hy266; have H' := zaa.mk H; clear H; go_enter Tryd.func38, Tryd.ntmps38
 go_wp2_with (first | ((with_reducible refine za6 (N := 5) rfl ?_); refine Kd.R_lit Kd.string _ 9 ?hg (N := 5) ?hd (xs := ([(⟨#[108, 101, 116]⟩ : ByteArray), (⟨#[102, 110]⟩ : ByteArray), (⟨#[105, 102]⟩ : ByteArray), (⟨#[101, 108, 115, 101]⟩ : ByteArray), (⟨#[119, 104, 105, 108, 101]⟩ : ByteArray), (⟨#[114, 101, 116, 117, 114, 110]⟩ : ByteArray), (⟨#[116, 114, 117, 101]⟩ : ByteArray), (⟨#[102, 97, 108, 115, 101]⟩ : ByteArray)] : List ByteArray)) (inner := [.string (⟨#[108, 101, 116]⟩ : ByteArray), .string (⟨#[102, 110]⟩ : ByteArray), .string (⟨#[105, 102]⟩ : ByteArray), .string (⟨#[101, 108, 115, 101]⟩ : ByteArray), .string (⟨#[119, 104, 105, 108, 101]⟩ : ByteArray), .string (⟨#[114, 101, 116, 117, 114, 110]⟩ : ByteArray), .string (⟨#[116, 114, 117, 101]⟩ : ByteArray), .string (⟨#[102, 97, 108, 115, 101]⟩ : ByteArray)]) (ok := fun _ => True) (okp := fun _ => True) ?hr ?hp (fun _ hk => hk) trivial (Below.refl _ _) (Nat.le_refl _) (by simp) ?_; (case hd => rfl); (case hg => rfl); (case hr => first | (go_simp; done) | (go_simp; rfl)); (case hp => exact (Reps.one (show Kd.M Kd.string _ _ _ (⟨#[108, 101, 116]⟩ : ByteArray) [.string (⟨#[108, 101, 116]⟩ : ByteArray)] from rfl) (Reps.one (show Kd.M Kd.string _ _ _ (⟨#[102, 110]⟩ : ByteArray) [.string (⟨#[102, 110]⟩ : ByteArray)] from rfl) (Reps.one (show Kd.M Kd.string _ _ _ (⟨#[105, 102]⟩ : ByteArray) [.string (⟨#[105, 102]⟩ : ByteArray)] from rfl) (Reps.one (show Kd.M Kd.string _ _ _ (⟨#[101, 108, 115, 101]⟩ : ByteArray) [.string (⟨#[101, 108, 115, 101]⟩ : ByteArray)] from rfl) (Reps.one (show Kd.M Kd.string _ _ _ (⟨#[119, 104, 105, 108, 101]⟩ : ByteArray) [.string (⟨#[119, 104, 105, 108, 101]⟩ : ByteArray)] from rfl) (Reps.one (show Kd.M Kd.string _ _ _ (⟨#[114, 101, 116, 117, 114, 110]⟩ : ByteArray) [.string (⟨#[114, 101, 116, 117, 114, 110]⟩ : ByteArray)] from rfl) (Reps.one (show Kd.M Kd.string _ _ _ (⟨#[116, 114, 117, 101]⟩ : ByteArray) [.string (⟨#[116, 114, 117, 101]⟩ : ByteArray)] from rfl) (Reps.one (show Kd.M Kd.string _ _ _ (⟨#[102, 97, 108, 115, 101]⟩ : ByteArray) [.string (⟨#[102, 97, 108, 115, 101]⟩ : ByteArray)] from rfl) (Reps.none _ _)))))))))); intro v267 w2 ho3 hb hg_ hnew_; clear hg_ hnew_; (first | rw [← Ny266.out] at ho3 | (simp only [Int.reduceToNat] at ho3; rw [← Ny266.out] at ho3)); have n0_ := zaa.mk (Kd.zbz ho3 (zax (by repeat (first | exact HB.out | apply zad | apply zac | apply zae)))); have n1_ := zaa.mk (zai (by repeat (first | exact HB.out | apply zad | apply zac | apply zae)) hb); clear HB; have HO268 := n0_; have HB := n1_; clear n0_ n1_; clear hb ho3))
 go_loopg [4] k (fun kq v4 w' => ∃ (x4_1 : Int), v4 = .int .i64 x4_1 ∧ zaa (zaU.l0 kq a0 y266 x4_1 = some r) ∧ zaa (kq ≤ k) ∧ zaa (Kd.R Kd.string 9 w' w.heap.size (fun _ => True) v267 y266) ∧ zaa (Below w.heap.size w w'))
 case atStart => exact ⟨(0), (by first | rfl | (simp; done) | simp [*]), H', ⟨Nat.le_refl _⟩, ⟨by (with_reducible repeat (first | apply Kd.za4 | apply Kd.zbu | apply Kd.zbC)); exact HO268.out⟩, ⟨by repeat (first | exact HB.out | apply zad | apply zac | apply zae)⟩⟩
 case round =>
  clear H'; try clear p2
  try clear c3
  obtain ⟨x4_1, rfl, HA, HK1, HO_3, HB⟩ := hrel; cases gk with
  | zero => exact absurd HA.out (by simp [zaU.l0])
  | succ k1 =>
   have H := HA.out; clear HA; simp only [zaU.l0] at H; by_cases c4 : x4_1 < (y266.length : Int)
   ·rw [if_pos c4] at H
    have c4b0 : decide (x4_1 < (y266.length : Int)) = true := decide_eq_true c4; clear c4; by_cases c5 : 0 ≤ x4_1
    ·rw [if_pos c5] at H
     have c5b0 : decide (0 ≤ x4_1) = true := decide_eq_true c5; clear c5; by_cases c6 : (rdOf ByteArray.empty y266 x4_1).toList = a0.toList
     ·rw [if_pos c6] at H
      have c6b0 : ((rdOf ByteArray.empty y266 x4_1).toList == a0.toList) = true := beq_iff_eq.mpr c6; have c6b1 : ((rdOf ByteArray.empty y266 x4_1).toList != a0.toList) = false := bne_eq_false_iff_eq.mpr c6; clear c6; obtain rfl := Option.some.inj H; obtain ⟨Ao7, co7, eo7⟩ := Kd.zbo HO_3.out; subst eo7; have p269 : 0 ≤ (x4_1 : Int) := of_decide_eq_true (by assumption)
      have q269 : x4_1 < (y266.length : Int) := of_decide_eq_true (by assumption)
      obtain ⟨ad269, e269, hx269_0⟩ := Kd.at_string (Kd.za0 HO_3.out).2.2 x4_1 p269 q269; cases e269; replace p269 := eq_true p269; replace q269 := eq_true q269; go_wp2
      go_ret
      exact ⟨by first | rfl | (simp [*, zaz, zay] <;> rfl), by repeat (first | exact HB.out | apply zad | apply zac | apply zae)⟩
     ·rw [if_neg c6] at H
      have c6b0 : ((rdOf ByteArray.empty y266 x4_1).toList == a0.toList) = false := beq_eq_false_iff_ne.mpr c6; have c6b1 : ((rdOf ByteArray.empty y266 x4_1).toList != a0.toList) = true := bne_iff_ne.mpr c6; have H' := zaa.mk H; clear H; obtain ⟨Ao8, co8, eo8⟩ := Kd.zbo HO_3.out; subst eo8; have p269 : 0 ≤ (x4_1 : Int) := of_decide_eq_true (by assumption)
      have q269 : x4_1 < (y266.length : Int) := of_decide_eq_true (by assumption)
      obtain ⟨ad269, e269, hx269_0⟩ := Kd.at_string (Kd.za0 HO_3.out).2.2 x4_1 p269 q269; cases e269; replace p269 := eq_true p269; replace q269 := eq_true q269; go_wp2
      go_roundg k1
      case measure => have := HK1.out; omega
      case rel => exact ⟨(wrap64 (x4_1 + 1)), (by first | rfl | (simp; done) | simp [*]), H', ⟨by have := HK1.out; omega⟩, ⟨by (with_reducible repeat (first | apply Kd.za4 | apply Kd.zbu | apply Kd.zbC)); exact HO_3.out⟩, ⟨by repeat (first | exact HB.out | apply zad | apply zac | apply zae)⟩⟩
    ·rw [if_neg c5] at H
     exact absurd H (by simp)
   ·rw [if_neg c4] at H
    have c4b0 : decide (x4_1 < (y266.length : Int)) = false := decide_eq_false c4; clear c4; obtain rfl := Option.some.inj H; obtain ⟨Ao9, co9, eo9⟩ := Kd.zbo HO_3.out; subst eo9; go_wp2
    go_ret
    exact ⟨by first | rfl | (simp [*, zaz, zay] <;> rfl), by repeat (first | exact HB.out | apply zad | apply zac | apply zae)⟩
mutual
def zan.j0 : Nat → ByteArray → Int → Bool → Option (Int × Int × Bool)
 | 0, _, _, _ => none
 | k + 1, x0, x1, x20 => if x20 = true then (some (0, 0, false)) else (if 0 ≤ x1 then (if x1 < (x0.size : Int) then (if (wrap64 (bt x0 x1)) < 128 then (some (wrap32 (wrap64 (bt x0 x1)), 1, true)) else (if (wrap64 (bt x0 x1)) ≥ 192 then (zan.j1 k x0 x1 (wrap64 (bt x0 x1)) (decide ((wrap64 (bt x0 x1)) < 224))) else (zan.j1 k x0 x1 (wrap64 (bt x0 x1)) false))) else (none)) else (none))
def zan.j3 : Nat → ByteArray → Int → Int → Int → Option (Int × Int × Bool)
 | 0, _, _, _, _ => none
 | k + 1, x0, x1, x8, x9 => if (wrap64 (x1 + x8)) > (x0.size : Int) then (some (0, 0, false)) else (zan.l0 k x0 x1 x8 x9 1)
def zan.l0 : Nat → ByteArray → Int → Int → Int → Int → Option (Int × Int × Bool)
 | 0, _, _, _, _, _ => none
 | k + 1, x0, x1, x8, x9, x10 => if x10 < x8 then (if 0 ≤ (wrap64 (x1 + x10)) then (if (wrap64 (x1 + x10)) < (x0.size : Int) then (if (wrap64 (bt x0 (wrap64 (x1 + x10)))) < 128 then (some (0, 0, false)) else (if (wrap64 (bt x0 (wrap64 (x1 + x10)))) ≥ 192 then (some (0, 0, false)) else (zan.l0 k x0 x1 x8 (wrap64 ((wrap64 ((wrap64 (x9 * 64)) + (wrap64 (bt x0 (wrap64 (x1 + x10)))))) - 128)) (wrap64 (x10 + 1))))) else (none)) else (none)) else ((some (([0, 0, 128, 2048, 65536] : List Int) : List Int)).bind fun y270 => (if 0 ≤ x8 then (if x8 < (y270.length : Int) then (if x9 < (rd y270 x8) then (some (0, 0, false)) else (if x9 > 1114111 then (some (0, 0, false)) else (if x9 ≥ 55296 then (if x9 < 57344 then (some (0, 0, false)) else (some (wrap32 (x9), x8, true))) else (some (wrap32 (x9), x8, true))))) else (none)) else (none)))
def zan.j1 : Nat → ByteArray → Int → Int → Bool → Option (Int × Int × Bool)
 | 0, _, _, _, _ => none
 | k + 1, x0, x1, x7, x31 => if x31 = true then (zan.j3 k x0 x1 2 (wrap64 (x7 - 192))) else (if x7 ≥ 224 then (zan.j2 k x0 x1 x7 (decide (x7 < 240))) else (zan.j2 k x0 x1 x7 false))
def zan.j2 : Nat → ByteArray → Int → Int → Bool → Option (Int × Int × Bool)
 | 0, _, _, _, _ => none
 | k + 1, x0, x1, x7, x40 => if x40 = true then (zan.j3 k x0 x1 3 (wrap64 (x7 - 224))) else (if x7 ≥ 240 then (if x7 < 248 then (zan.j3 k x0 x1 4 (wrap64 (x7 - 240))) else (some (0, 0, false))) else (some (0, 0, false)))
end
def zan.f (k : Nat) (a0 : ByteArray) (a1 : Int) : Option (Int × Int × Bool) := if a1 < 0 then (zan.j0 k a0 a1 true) else (zan.j0 k a0 a1 (decide (a1 ≥ (a0.size : Int))))
theorem zan.calls (k : Nat) (a0 : ByteArray) (a1 : Int) (r1 : Int) (r2 : Int) (r3 : Bool) (w : World) (h : zan.f k a0 a1 = some (r1, r2, r3)) :
  Calls Tryd.prog 41 #[.string a0, .int .i64 a1] w fun e w' => e = .returned (.tuple #[.int .i32 r1, .int .i64 r2, .bool r3]) ∧ Below w.heap.size w w' := by
 have HB := zaa.mk (Below.refl w.heap.size w); have H : (if a1 < 0 then (zan.j0 k a0 a1 true) else (zan.j0 k a0 a1 (decide (a1 ≥ (a0.size : Int))))) = some (r1, r2, r3) := h
 clear h; have HC3 := zaa.mk H; clear H; go_enter Tryd.func41, Tryd.ntmps41
 go_upto_region 1 with (fail)
 go_cut [20] (fun v20 wc => ∃ (kq : Nat) (x20_2 : Bool), v20 = .bool x20_2 ∧ zaa (zan.j0 kq a0 a1 x20_2 = some (r1, r2, r3)) ∧ zaa (kq ≤ k) ∧ zaa (Below w.heap.size w wc))
 case first =>
  have H := HC3.out; clear HC3; by_cases c4 : a1 < 0
  ·rw [if_pos c4] at H
   have c4b0 : decide (a1 < 0) = true := decide_eq_true c4; clear c4
   (first | rw [c4b0] | (simp only [i64_w, i32_w]; rw [c4b0]) | skip)
   have H' := zaa.mk H; clear H; go_wp2
   go_meet
   case rel => exact ⟨_, (true), (by first | rfl | (simp; done) | simp [*]), H', ⟨by first | omega | exact Nat.le_refl _⟩, ⟨by repeat (first | exact HB.out | apply zad | apply zac | apply zae)⟩⟩
  ·rw [if_neg c4] at H
   have c4b0 : decide (a1 < 0) = false := decide_eq_false c4; clear c4
   (first | rw [c4b0] | (simp only [i64_w, i32_w]; rw [c4b0]) | skip)
   have H' := zaa.mk H; clear H; go_wp2
   go_meet
   case rel => exact ⟨_, (decide (a1 ≥ (a0.size : Int))), (by first | rfl | (simp; done) | simp [*]), H', ⟨by first | omega | exact Nat.le_refl _⟩, ⟨by repeat (first | exact HB.out | apply zad | apply zac | apply zae)⟩⟩
 case rest =>
  clear HC3; try clear p2
  try clear c4
  try clear c4b0
  obtain ⟨kq, x20_2, rfl, HA, HJ2, HB⟩ := hcut; cases kq with
  | zero => exact absurd HA.out (by simp [zan.j0])
  | succ kj2 =>
   have H := HA.out; clear HA; simp only [zan.j0] at H; by_cases c5 : x20_2 = true
   ·subst c5
    have H1 : (some (0, 0, false)) = some (r1, r2, r3) := by rw [if_pos rfl] at H; exact H
    clear H; have H := H1; clear H1; simp only [Option.some.injEq, Prod.mk.injEq] at H; obtain ⟨rfl, rfl, rfl⟩ := H; go_wp2
    go_ret3
    exact ⟨by first | rfl | (simp [*, zaz, zay] <;> rfl), by repeat (first | exact HB.out | apply zad | apply zac | apply zae)⟩
   ·replace c5 := Bool.eq_false_iff.mpr c5
    subst c5; have H1 : (if 0 ≤ a1 then (if a1 < (a0.size : Int) then (if (wrap64 (bt a0 a1)) < 128 then (some (wrap32 (wrap64 (bt a0 a1)), 1, true)) else (if (wrap64 (bt a0 a1)) ≥ 192 then (zan.j1 kj2 a0 a1 (wrap64 (bt a0 a1)) (decide ((wrap64 (bt a0 a1)) < 224))) else (zan.j1 kj2 a0 a1 (wrap64 (bt a0 a1)) false))) else (none)) else (none)) = some (r1, r2, r3) := by rw [if_neg (show ¬ (false = true) by decide)] at H; exact H
    clear H; have H := H1; clear H1; by_cases c6 : 0 ≤ a1
    ·rw [if_pos c6] at H
     have c6b0 : decide (0 ≤ a1) = true := decide_eq_true c6; clear c6; by_cases c7 : a1 < (a0.size : Int)
     ·rw [if_pos c7] at H
      have c7b0 : decide (a1 < (a0.size : Int)) = true := decide_eq_true c7; clear c7; have HC9 := zaa.mk H; clear H; have p8 : 0 ≤ (a1 : Int) := of_decide_eq_true (by assumption)
      have q8 : a1 < (a0.size : Int) := of_decide_eq_true (by assumption)
      have hx8 := bt_at a0 a1; replace p8 := eq_true p8; replace q8 := eq_true q8
      go_upto_block 0 with (fail)
      go_cut [8, 9] (fun v8 v9 wc => ∃ (kq : Nat) (x8_8 : Int) (x9_8 : Int), v8 = .int .i64 x8_8 ∧ v9 = .int .i64 x9_8 ∧ zaa (zan.j3 kq a0 a1 x8_8 x9_8 = some (r1, r2, r3)) ∧ zaa (kq ≤ kj2) ∧ zaa (Below w.heap.size w wc))
      case first =>
       have H := HC9.out; clear HC9; by_cases c10 : (wrap64 (bt a0 a1)) < 128
       ·rw [if_pos c10] at H
        have c10b0 : decide ((wrap64 (bt a0 a1)) < 128) = true := decide_eq_true c10; clear c10
        (first | rw [c10b0] | (simp only [i64_w, i32_w]; rw [c10b0]) | skip)
        simp only [Option.some.injEq, Prod.mk.injEq] at H; obtain ⟨rfl, rfl, rfl⟩ := H; go_wp2
        go_ret3
        exact ⟨by first | rfl | (simp [*, zaz, zay] <;> rfl), by repeat (first | exact HB.out | apply zad | apply zac | apply zae)⟩
       ·rw [if_neg c10] at H
        have c10b0 : decide ((wrap64 (bt a0 a1)) < 128) = false := decide_eq_false c10; clear c10
        (first | rw [c10b0] | (simp only [i64_w, i32_w]; rw [c10b0]) | skip)
        have HC11 := zaa.mk H; clear H; go_upto_region 8 with (fail)
        go_cut [31] (fun v31 wc => ∃ (kq : Nat) (x31_10 : Bool), v31 = .bool x31_10 ∧ zaa (zan.j1 kq a0 a1 (wrap64 (bt a0 a1)) x31_10 = some (r1, r2, r3)) ∧ zaa (kq ≤ kj2) ∧ zaa (Below w.heap.size w wc))
        case first =>
         have H := HC11.out; clear HC11; by_cases c12 : (wrap64 (bt a0 a1)) ≥ 192
         ·rw [if_pos c12] at H
          have c12b0 : decide (192 ≤ (wrap64 (bt a0 a1))) = true := decide_eq_true c12; clear c12
          (first | rw [c12b0] | (simp only [i64_w, i32_w]; rw [c12b0]) | skip)
          have H' := zaa.mk H; clear H; go_wp2
          go_meet
          case rel => exact ⟨_, (decide ((wrap64 (bt a0 a1)) < 224)), (by first | rfl | (simp; done) | simp [*]), H', ⟨by have := HJ2.out; first | omega | exact Nat.le_refl _⟩, ⟨by repeat (first | exact HB.out | apply zad | apply zac | apply zae)⟩⟩
         ·rw [if_neg c12] at H
          have c12b0 : decide (192 ≤ (wrap64 (bt a0 a1))) = false := decide_eq_false c12; clear c12
          (first | rw [c12b0] | (simp only [i64_w, i32_w]; rw [c12b0]) | skip)
          have H' := zaa.mk H; clear H; go_wp2
          go_meet
          case rel => exact ⟨_, (false), (by first | rfl | (simp; done) | simp [*]), H', ⟨by have := HJ2.out; first | omega | exact Nat.le_refl _⟩, ⟨by repeat (first | exact HB.out | apply zad | apply zac | apply zae)⟩⟩
        case rest =>
         clear HC11; try clear c1
         try clear p2
         try clear p3
         try clear c4
         try clear c4b0
         try clear c5
         try clear c6
         try clear c6b0
         try clear p6
         try clear c7
         try clear c7b0
         try clear p8
         try clear q8
         try clear hx8
         try clear c10
         try clear c10b0
         try clear c12
         try clear c12b0
         try clear p2
         try clear p8
         try clear q8
         obtain ⟨kq, x31_10, rfl, HA, HJ10, HB⟩ := hcut; cases kq with
         | zero => exact absurd HA.out (by simp [zan.j1])
         | succ kj10 =>
          have H := HA.out; clear HA; simp only [zan.j1] at H; by_cases c13 : x31_10 = true
          ·subst c13
           have H1 : (zan.j3 kj10 a0 a1 2 (wrap64 ((wrap64 (bt a0 a1)) - 192))) = some (r1, r2, r3) := by rw [if_pos rfl] at H; exact H
           clear H; have H := H1; clear H1; have H' := zaa.mk H; clear H; go_wp2
           go_meet
           case rel => exact ⟨_, (2), (wrap64 ((wrap64 (bt a0 a1)) - 192)), (by first | rfl | (simp; done) | simp [*]), (by first | rfl | (simp; done) | simp [*]), H', ⟨by have := HJ2.out; have := HJ10.out; first | omega | exact Nat.le_refl _⟩, ⟨by repeat (first | exact HB.out | apply zad | apply zac | apply zae)⟩⟩
          ·replace c13 := Bool.eq_false_iff.mpr c13
           subst c13; have H1 : (if (wrap64 (bt a0 a1)) ≥ 224 then (zan.j2 kj10 a0 a1 (wrap64 (bt a0 a1)) (decide ((wrap64 (bt a0 a1)) < 240))) else (zan.j2 kj10 a0 a1 (wrap64 (bt a0 a1)) false)) = some (r1, r2, r3) := by rw [if_neg (show ¬ (false = true) by decide)] at H; exact H
           clear H; have H := H1; clear H1; have HC14 := zaa.mk H; clear H; go_upto_region 10 with (fail)
           go_cut [40] (fun v40 wc => ∃ (kq : Nat) (x40_13 : Bool), v40 = .bool x40_13 ∧ zaa (zan.j2 kq a0 a1 (wrap64 (bt a0 a1)) x40_13 = some (r1, r2, r3)) ∧ zaa (kq ≤ kj10) ∧ zaa (Below w.heap.size w wc))
           case first =>
            have H := HC14.out; clear HC14; by_cases c15 : (wrap64 (bt a0 a1)) ≥ 224
            ·rw [if_pos c15] at H
             have c15b0 : decide (224 ≤ (wrap64 (bt a0 a1))) = true := decide_eq_true c15; clear c15
             (first | rw [c15b0] | (simp only [i64_w, i32_w]; rw [c15b0]) | skip)
             have H' := zaa.mk H; clear H; go_wp2
             go_meet
             case rel => exact ⟨_, (decide ((wrap64 (bt a0 a1)) < 240)), (by first | rfl | (simp; done) | simp [*]), H', ⟨by have := HJ2.out; have := HJ10.out; first | omega | exact Nat.le_refl _⟩, ⟨by repeat (first | exact HB.out | apply zad | apply zac | apply zae)⟩⟩
            ·rw [if_neg c15] at H
             have c15b0 : decide (224 ≤ (wrap64 (bt a0 a1))) = false := decide_eq_false c15; clear c15
             (first | rw [c15b0] | (simp only [i64_w, i32_w]; rw [c15b0]) | skip)
             have H' := zaa.mk H; clear H; go_wp2
             go_meet
             case rel => exact ⟨_, (false), (by first | rfl | (simp; done) | simp [*]), H', ⟨by have := HJ2.out; have := HJ10.out; first | omega | exact Nat.le_refl _⟩, ⟨by repeat (first | exact HB.out | apply zad | apply zac | apply zae)⟩⟩
           case rest =>
            clear HC14; try clear c1
            try clear p2
            try clear p3
            try clear c4
            try clear c4b0
            try clear c5
            try clear c6
            try clear c6b0
            try clear p6
            try clear c7
            try clear c7b0
            try clear p8
            try clear q8
            try clear hx8
            try clear c10
            try clear c10b0
            try clear c12
            try clear c12b0
            try clear c13
            try clear c15
            try clear c15b0
            try clear p2
            try clear p3
            try clear p6
            try clear p8
            try clear q8
            obtain ⟨kq, x40_13, rfl, HA, HJ13, HB⟩ := hcut; cases kq with
            | zero => exact absurd HA.out (by simp [zan.j2])
            | succ kj13 =>
             have H := HA.out; clear HA; simp only [zan.j2] at H; by_cases c16 : x40_13 = true
             ·subst c16
              have H1 : (zan.j3 kj13 a0 a1 3 (wrap64 ((wrap64 (bt a0 a1)) - 224))) = some (r1, r2, r3) := by rw [if_pos rfl] at H; exact H
              clear H; have H := H1; clear H1; have H' := zaa.mk H; clear H; go_wp2
              go_meet
              case rel => exact ⟨_, (3), (wrap64 ((wrap64 (bt a0 a1)) - 224)), (by first | rfl | (simp; done) | simp [*]), (by first | rfl | (simp; done) | simp [*]), H', ⟨by have := HJ2.out; have := HJ10.out; have := HJ13.out; first | omega | exact Nat.le_refl _⟩, ⟨by repeat (first | exact HB.out | apply zad | apply zac | apply zae)⟩⟩
             ·replace c16 := Bool.eq_false_iff.mpr c16
              subst c16; have H1 : (if (wrap64 (bt a0 a1)) ≥ 240 then (if (wrap64 (bt a0 a1)) < 248 then (zan.j3 kj13 a0 a1 4 (wrap64 ((wrap64 (bt a0 a1)) - 240))) else (some (0, 0, false))) else (some (0, 0, false))) = some (r1, r2, r3) := by rw [if_neg (show ¬ (false = true) by decide)] at H; exact H
              clear H; have H := H1; clear H1; by_cases c17 : (wrap64 (bt a0 a1)) ≥ 240
              ·rw [if_pos c17] at H
               have c17b0 : decide (240 ≤ (wrap64 (bt a0 a1))) = true := decide_eq_true c17; clear c17; by_cases c18 : (wrap64 (bt a0 a1)) < 248
               ·rw [if_pos c18] at H
                have c18b0 : decide ((wrap64 (bt a0 a1)) < 248) = true := decide_eq_true c18; clear c18; have H' := zaa.mk H; clear H; go_wp2
                go_meet
                case rel => exact ⟨_, (4), (wrap64 ((wrap64 (bt a0 a1)) - 240)), (by first | rfl | (simp; done) | simp [*]), (by first | rfl | (simp; done) | simp [*]), H', ⟨by have := HJ2.out; have := HJ10.out; have := HJ13.out; first | omega | exact Nat.le_refl _⟩, ⟨by repeat (first | exact HB.out | apply zad | apply zac | apply zae)⟩⟩
               ·rw [if_neg c18] at H
                have c18b0 : decide ((wrap64 (bt a0 a1)) < 248) = false := decide_eq_false c18; clear c18; simp only [Option.some.injEq, Prod.mk.injEq] at H; obtain ⟨rfl, rfl, rfl⟩ := H; go_wp2
                go_ret3
                exact ⟨by first | rfl | (simp [*, zaz, zay] <;> rfl), by repeat (first | exact HB.out | apply zad | apply zac | apply zae)⟩
              ·rw [if_neg c17] at H
               have c17b0 : decide (240 ≤ (wrap64 (bt a0 a1))) = false := decide_eq_false c17; clear c17; simp only [Option.some.injEq, Prod.mk.injEq] at H; obtain ⟨rfl, rfl, rfl⟩ := H; go_wp2
               go_ret3
               exact ⟨by first | rfl | (simp [*, zaz, zay] <;> rfl), by repeat (first | exact HB.out | apply zad | apply zac | apply zae)⟩
      case rest =>
       clear HC9; try clear c1
       try clear p2
       try clear p3
       try clear c4
       try clear c4b0
       try clear c5
       try clear c6
       try clear c6b0
       try clear p6
       try clear c7
       try clear c7b0
       try clear p8
       try clear q8
       try clear hx8
       try clear c10
       try clear c10b0
       try clear c12
       try clear c12b0
       try clear c13
       try clear c15
       try clear c15b0
       try clear c16
       try clear c17
       try clear c17b0
       try clear c18
       try clear c18b0
       try clear p2
       try clear p3
       try clear p6
       try clear p8
       try clear q8
       obtain ⟨kq, x8_8, x9_8, rfl, rfl, HA, HJ8, HB⟩ := hcut; cases kq with
       | zero => exact absurd HA.out (by simp [zan.j3])
       | succ kj8 =>
        have H := HA.out; clear HA; simp only [zan.j3] at H; by_cases c19 : (wrap64 (a1 + x8_8)) > (a0.size : Int)
        ·rw [if_pos c19] at H
         have c19b0 : decide ((a0.size : Int) < (wrap64 (a1 + x8_8))) = true := decide_eq_true c19; clear c19; simp only [Option.some.injEq, Prod.mk.injEq] at H; obtain ⟨rfl, rfl, rfl⟩ := H; go_wp2
         go_ret3
         exact ⟨by first | rfl | (simp [*, zaz, zay] <;> rfl), by repeat (first | exact HB.out | apply zad | apply zac | apply zae)⟩
        ·rw [if_neg c19] at H
         have c19b0 : decide ((a0.size : Int) < (wrap64 (a1 + x8_8))) = false := decide_eq_false c19; clear c19; have H' := zaa.mk H; clear H; go_wp2
         go_loopg [9, 10] kj8 (fun kq v9 v10 w' => ∃ (x9_3 : Int) (x10_3 : Int), v9 = .int .i64 x9_3 ∧ v10 = .int .i64 x10_3 ∧ zaa (zan.l0 kq a0 a1 x8_8 x9_3 x10_3 = some (r1, r2, r3)) ∧ zaa (kq ≤ kj8) ∧ zaa (Below w.heap.size w w'))
         case atStart => exact ⟨(x9_8), (1), (by first | rfl | (simp; done) | simp [*]), (by first | rfl | (simp; done) | simp [*]), H', ⟨Nat.le_refl _⟩, ⟨by repeat (first | exact HB.out | apply zad | apply zac | apply zae)⟩⟩
         case round =>
          clear H'; try clear c1
          try clear p2
          try clear p3
          try clear c4
          try clear c4b0
          try clear c5
          try clear c6
          try clear c6b0
          try clear p6
          try clear c7
          try clear c7b0
          try clear p8
          try clear q8
          try clear hx8
          try clear c10
          try clear c10b0
          try clear c12
          try clear c12b0
          try clear c13
          try clear c15
          try clear c15b0
          try clear c16
          try clear c17
          try clear c17b0
          try clear c18
          try clear c18b0
          try clear c19
          try clear c19b0
          try clear p2
          try clear p3
          try clear p6
          try clear p8
          try clear q8
          obtain ⟨x9_3, x10_3, rfl, rfl, HA, HK3, HB⟩ := hrel; cases gk with
          | zero => exact absurd HA.out (by simp [zan.l0])
          | succ k3 =>
           have H := HA.out; clear HA; simp only [zan.l0] at H; by_cases c20 : x10_3 < x8_8
           ·rw [if_pos c20] at H
            have c20b0 : decide (x10_3 < x8_8) = true := decide_eq_true c20; clear c20; obtain ⟨ji21, hji21⟩ : ∃ j_ : Int, (wrap64 (a1 + x10_3)) = j_ := ⟨_, rfl⟩; replace H : (if 0 ≤ (ji21) then (if (ji21) < (a0.size : Int) then (if (wrap64 (bt a0 (ji21))) < 128 then (some (0, 0, false)) else (if (wrap64 (bt a0 (ji21))) ≥ 192 then (some (0, 0, false)) else (zan.l0 k3 a0 a1 x8_8 (wrap64 ((wrap64 ((wrap64 (x9_3 * 64)) + (wrap64 (bt a0 (ji21))))) - 128)) (wrap64 (x10_3 + 1))))) else (none)) else (none)) = some (r1, r2, r3) := by first | (rw [hji21] at H; exact H) | (simp only [hji21] at H ⊢; exact H)
            have hji21w : (IntKind.i64.wrap (a1 + x10_3)) = ji21 := (i64_w _).trans hji21; by_cases c22 : 0 ≤ (ji21)
            ·rw [if_pos c22] at H
             have c22b0 : decide (0 ≤ (ji21)) = true := decide_eq_true c22; clear c22; by_cases c23 : (ji21) < (a0.size : Int)
             ·rw [if_pos c23] at H
              have c23b0 : decide ((ji21) < (a0.size : Int)) = true := decide_eq_true c23; clear c23; by_cases c25 : (wrap64 (bt a0 (ji21))) < 128
              ·rw [if_pos c25] at H
               have c25b0 : decide ((wrap64 (bt a0 (ji21))) < 128) = true := decide_eq_true c25; clear c25; simp only [Option.some.injEq, Prod.mk.injEq] at H; obtain ⟨rfl, rfl, rfl⟩ := H; have p24 : 0 ≤ ((ji21) : Int) := of_decide_eq_true (by assumption)
               have q24 : (ji21) < (a0.size : Int) := of_decide_eq_true (by assumption)
               have hx24 := bt_at a0 (ji21); replace p24 := eq_true p24; replace q24 := eq_true q24; go_wp2
               go_ret3
               exact ⟨by first | rfl | (simp [zaz, zay] <;> rfl) | (simp only [← hji21]; first | rfl | (simp [zaz, zay] <;> rfl)) | (simp [*, zaz, zay] <;> rfl), by repeat (first | exact HB.out | apply zad | apply zac | apply zae)⟩
              ·rw [if_neg c25] at H
               have c25b0 : decide ((wrap64 (bt a0 (ji21))) < 128) = false := decide_eq_false c25; clear c25; by_cases c26 : (wrap64 (bt a0 (ji21))) ≥ 192
               ·rw [if_pos c26] at H
                have c26b0 : decide (192 ≤ (wrap64 (bt a0 (ji21)))) = true := decide_eq_true c26; clear c26; simp only [Option.some.injEq, Prod.mk.injEq] at H; obtain ⟨rfl, rfl, rfl⟩ := H; have p24 : 0 ≤ ((ji21) : Int) := of_decide_eq_true (by assumption)
                have q24 : (ji21) < (a0.size : Int) := of_decide_eq_true (by assumption)
                have hx24 := bt_at a0 (ji21); replace p24 := eq_true p24; replace q24 := eq_true q24; go_wp2
                go_ret3
                exact ⟨by first | rfl | (simp [zaz, zay] <;> rfl) | (simp only [← hji21]; first | rfl | (simp [zaz, zay] <;> rfl)) | (simp [*, zaz, zay] <;> rfl), by repeat (first | exact HB.out | apply zad | apply zac | apply zae)⟩
               ·rw [if_neg c26] at H
                have c26b0 : decide (192 ≤ (wrap64 (bt a0 (ji21)))) = false := decide_eq_false c26; clear c26; have H' := zaa.mk H; clear H; have p24 : 0 ≤ ((ji21) : Int) := of_decide_eq_true (by assumption)
                have q24 : (ji21) < (a0.size : Int) := of_decide_eq_true (by assumption)
                have hx24 := bt_at a0 (ji21); replace p24 := eq_true p24; replace q24 := eq_true q24; go_wp2
                go_roundg k3
                case measure => have := HJ2.out; have := HJ8.out; have := HK3.out; omega
                case rel => exact ⟨(wrap64 ((wrap64 ((wrap64 (x9_3 * 64)) + (wrap64 (bt a0 (ji21))))) - 128)), (wrap64 (x10_3 + 1)), (by first | rfl | (simp; done) | (simp only [← hji21] <;> (first | rfl | simp)) | simp [*]), (by first | rfl | (simp; done) | simp [*]), H', ⟨by have := HJ2.out; have := HJ8.out; have := HK3.out; omega⟩, ⟨by repeat (first | exact HB.out | apply zad | apply zac | apply zae)⟩⟩
             ·rw [if_neg c23] at H
              exact absurd H (by simp)
            ·rw [if_neg c22] at H
             exact absurd H (by simp)
           ·rw [if_neg c20] at H
            have c20b0 : decide (x10_3 < x8_8) = false := decide_eq_false c20; clear c20; obtain ⟨y270, hy270⟩ : ∃ y_ : List Int, y_ = (([0, 0, 128, 2048, 65536] : List Int)) := ⟨_, rfl⟩; replace H : (if 0 ≤ x8_8 then (if x8_8 < (y270.length : Int) then (if x9_3 < (rd y270 x8_8) then (some (0, 0, false)) else (if x9_3 > 1114111 then (some (0, 0, false)) else (if x9_3 ≥ 55296 then (if x9_3 < 57344 then (some (0, 0, false)) else (some (wrap32 (x9_3), x8_8, true))) else (some (wrap32 (x9_3), x8_8, true))))) else (none)) else (none)) = some (r1, r2, r3) := by first | (rw [hy270]; with_reducible exact H) | (have H2_ := (Option.bind_some _ _).symm.trans H; rw [hy270]; with_reducible exact H2_) | (have H2_ := (Option.bind_some _ _).symm.trans H; with_reducible exact H2_) | with_reducible exact H | (rw [hy270]; exact H) | exact H
            have Ny270 := zaa.mk hy270; clear hy270; by_cases c27 : 0 ≤ x8_8
            ·rw [if_pos c27] at H
             have c27b0 : decide (0 ≤ x8_8) = true := decide_eq_true c27; clear c27; by_cases c28 : x8_8 < (y270.length : Int)
             ·rw [if_pos c28] at H
              have c28b0 : decide (x8_8 < (y270.length : Int)) = true := decide_eq_true c28; clear c28; by_cases c29 : x9_3 < (rd y270 x8_8)
              ·rw [if_pos c29] at H
               have c29b0 : decide (x9_3 < (rd y270 x8_8)) = true := decide_eq_true c29; clear c29; simp only [Option.some.injEq, Prod.mk.injEq] at H; obtain ⟨rfl, rfl, rfl⟩ := H; go_wp2_with (first | ((with_reducible refine za6 (N := 86) rfl ?_); (try (refine zbM (by rfl) ?_; dsimp only)); refine Kd.R_lit (Kd.int .i64) _ 3 ?hg (N := 86) ?hd (xs := ([0, 0, 128, 2048, 65536] : List Int)) (inner := [.int .i64 0, .int .i64 0, .int .i64 128, .int .i64 2048, .int .i64 65536]) (ok := fun _ => True) (okp := fun _ => True) ?hr ?hp (fun _ hk => hk) trivial (Below.refl _ _) (Nat.le_refl _) (by simp) ?_; (case hd => rfl); (case hg => rfl); (case hr => first | (go_simp; done) | (go_simp; rfl)); (case hp => exact (Reps.one (show Kd.M (Kd.int .i64) _ _ _ 0 [.int .i64 0] from rfl) (Reps.one (show Kd.M (Kd.int .i64) _ _ _ 0 [.int .i64 0] from rfl) (Reps.one (show Kd.M (Kd.int .i64) _ _ _ 128 [.int .i64 128] from rfl) (Reps.one (show Kd.M (Kd.int .i64) _ _ _ 2048 [.int .i64 2048] from rfl) (Reps.one (show Kd.M (Kd.int .i64) _ _ _ 65536 [.int .i64 65536] from rfl) (Reps.none _ _))))))); intro v271 w30 ho31 hb hg_ hnew_; clear hg_ hnew_; (first | rw [← Ny270.out] at ho31 | (simp only [Int.reduceToNat] at ho31; rw [← Ny270.out] at ho31)); have n0_ := zaa.mk (Kd.zbz ho31 (zax (by repeat (first | exact HB.out | apply zad | apply zac | apply zae)))); have n1_ := zaa.mk (zai (by repeat (first | exact HB.out | apply zad | apply zac | apply zae)) hb); clear HB; have HO272 := n0_; have HB := n1_; clear n0_ n1_; clear hb ho31; obtain ⟨Ao32, co32, eo32⟩ := Kd.zbo HO272.out; subst eo32; have p273 : 0 ≤ (x8_8 : Int) := of_decide_eq_true (by assumption); have q273 : x8_8 < (y270.length : Int) := of_decide_eq_true (by assumption); obtain ⟨ad273, e273, hx273_0⟩ := Kd.at_int (Kd.za0 HO272.out).2.2 x8_8 p273 q273; cases e273; replace p273 := eq_true p273; replace q273 := eq_true q273))
               go_ret3
               exact ⟨by first | rfl | (simp [*, zaz, zay] <;> rfl), by repeat (first | exact HB.out | apply zad | apply zac | apply zae)⟩
              ·rw [if_neg c29] at H
               have c29b0 : decide (x9_3 < (rd y270 x8_8)) = false := decide_eq_false c29; clear c29; by_cases c33 : x9_3 > 1114111
               ·rw [if_pos c33] at H
                have c33b0 : decide (1114111 < x9_3) = true := decide_eq_true c33; clear c33; simp only [Option.some.injEq, Prod.mk.injEq] at H; obtain ⟨rfl, rfl, rfl⟩ := H; go_wp2_with (first | ((with_reducible refine za6 (N := 86) rfl ?_); (try (refine zbM (by rfl) ?_; dsimp only)); refine Kd.R_lit (Kd.int .i64) _ 3 ?hg (N := 86) ?hd (xs := ([0, 0, 128, 2048, 65536] : List Int)) (inner := [.int .i64 0, .int .i64 0, .int .i64 128, .int .i64 2048, .int .i64 65536]) (ok := fun _ => True) (okp := fun _ => True) ?hr ?hp (fun _ hk => hk) trivial (Below.refl _ _) (Nat.le_refl _) (by simp) ?_; (case hd => rfl); (case hg => rfl); (case hr => first | (go_simp; done) | (go_simp; rfl)); (case hp => exact (Reps.one (show Kd.M (Kd.int .i64) _ _ _ 0 [.int .i64 0] from rfl) (Reps.one (show Kd.M (Kd.int .i64) _ _ _ 0 [.int .i64 0] from rfl) (Reps.one (show Kd.M (Kd.int .i64) _ _ _ 128 [.int .i64 128] from rfl) (Reps.one (show Kd.M (Kd.int .i64) _ _ _ 2048 [.int .i64 2048] from rfl) (Reps.one (show Kd.M (Kd.int .i64) _ _ _ 65536 [.int .i64 65536] from rfl) (Reps.none _ _))))))); intro v271 w34 ho35 hb hg_ hnew_; clear hg_ hnew_; (first | rw [← Ny270.out] at ho35 | (simp only [Int.reduceToNat] at ho35; rw [← Ny270.out] at ho35)); have n0_ := zaa.mk (Kd.zbz ho35 (zax (by repeat (first | exact HB.out | apply zad | apply zac | apply zae)))); have n1_ := zaa.mk (zai (by repeat (first | exact HB.out | apply zad | apply zac | apply zae)) hb); clear HB; have HO272 := n0_; have HB := n1_; clear n0_ n1_; clear hb ho35; obtain ⟨Ao36, co36, eo36⟩ := Kd.zbo HO272.out; subst eo36; have p273 : 0 ≤ (x8_8 : Int) := of_decide_eq_true (by assumption); have q273 : x8_8 < (y270.length : Int) := of_decide_eq_true (by assumption); obtain ⟨ad273, e273, hx273_0⟩ := Kd.at_int (Kd.za0 HO272.out).2.2 x8_8 p273 q273; cases e273; replace p273 := eq_true p273; replace q273 := eq_true q273))
                go_ret3
                exact ⟨by first | rfl | (simp [*, zaz, zay] <;> rfl), by repeat (first | exact HB.out | apply zad | apply zac | apply zae)⟩
               ·rw [if_neg c33] at H
                have c33b0 : decide (1114111 < x9_3) = false := decide_eq_false c33; clear c33; by_cases c37 : x9_3 ≥ 55296
                ·rw [if_pos c37] at H
                 have c37b0 : decide (55296 ≤ x9_3) = true := decide_eq_true c37; clear c37; by_cases c38 : x9_3 < 57344
                 ·rw [if_pos c38] at H
                  have c38b0 : decide (x9_3 < 57344) = true := decide_eq_true c38; clear c38; simp only [Option.some.injEq, Prod.mk.injEq] at H; obtain ⟨rfl, rfl, rfl⟩ := H; go_wp2_with (first | ((with_reducible refine za6 (N := 86) rfl ?_); (try (refine zbM (by rfl) ?_; dsimp only)); refine Kd.R_lit (Kd.int .i64) _ 3 ?hg (N := 86) ?hd (xs := ([0, 0, 128, 2048, 65536] : List Int)) (inner := [.int .i64 0, .int .i64 0, .int .i64 128, .int .i64 2048, .int .i64 65536]) (ok := fun _ => True) (okp := fun _ => True) ?hr ?hp (fun _ hk => hk) trivial (Below.refl _ _) (Nat.le_refl _) (by simp) ?_; (case hd => rfl); (case hg => rfl); (case hr => first | (go_simp; done) | (go_simp; rfl)); (case hp => exact (Reps.one (show Kd.M (Kd.int .i64) _ _ _ 0 [.int .i64 0] from rfl) (Reps.one (show Kd.M (Kd.int .i64) _ _ _ 0 [.int .i64 0] from rfl) (Reps.one (show Kd.M (Kd.int .i64) _ _ _ 128 [.int .i64 128] from rfl) (Reps.one (show Kd.M (Kd.int .i64) _ _ _ 2048 [.int .i64 2048] from rfl) (Reps.one (show Kd.M (Kd.int .i64) _ _ _ 65536 [.int .i64 65536] from rfl) (Reps.none _ _))))))); intro v271 w39 ho40 hb hg_ hnew_; clear hg_ hnew_; (first | rw [← Ny270.out] at ho40 | (simp only [Int.reduceToNat] at ho40; rw [← Ny270.out] at ho40)); have n0_ := zaa.mk (Kd.zbz ho40 (zax (by repeat (first | exact HB.out | apply zad | apply zac | apply zae)))); have n1_ := zaa.mk (zai (by repeat (first | exact HB.out | apply zad | apply zac | apply zae)) hb); clear HB; have HO272 := n0_; have HB := n1_; clear n0_ n1_; clear hb ho40; obtain ⟨Ao41, co41, eo41⟩ := Kd.zbo HO272.out; subst eo41; have p273 : 0 ≤ (x8_8 : Int) := of_decide_eq_true (by assumption); have q273 : x8_8 < (y270.length : Int) := of_decide_eq_true (by assumption); obtain ⟨ad273, e273, hx273_0⟩ := Kd.at_int (Kd.za0 HO272.out).2.2 x8_8 p273 q273; cases e273; replace p273 := eq_true p273; replace q273 := eq_true q273))
                  go_ret3
                  exact ⟨by first | rfl | (simp [*, zaz, zay] <;> rfl), by repeat (first | exact HB.out | apply zad | apply zac | apply zae)⟩
                 ·rw [if_neg c38] at H
                  have c38b0 : decide (x9_3 < 57344) = false := decide_eq_false c38; clear c38; simp only [Option.some.injEq, Prod.mk.injEq] at H; obtain ⟨rfl, rfl, rfl⟩ := H; go_wp2_with (first | ((with_reducible refine za6 (N := 86) rfl ?_); (try (refine zbM (by rfl) ?_; dsimp only)); refine Kd.R_lit (Kd.int .i64) _ 3 ?hg (N := 86) ?hd (xs := ([0, 0, 128, 2048, 65536] : List Int)) (inner := [.int .i64 0, .int .i64 0, .int .i64 128, .int .i64 2048, .int .i64 65536]) (ok := fun _ => True) (okp := fun _ => True) ?hr ?hp (fun _ hk => hk) trivial (Below.refl _ _) (Nat.le_refl _) (by simp) ?_; (case hd => rfl); (case hg => rfl); (case hr => first | (go_simp; done) | (go_simp; rfl)); (case hp => exact (Reps.one (show Kd.M (Kd.int .i64) _ _ _ 0 [.int .i64 0] from rfl) (Reps.one (show Kd.M (Kd.int .i64) _ _ _ 0 [.int .i64 0] from rfl) (Reps.one (show Kd.M (Kd.int .i64) _ _ _ 128 [.int .i64 128] from rfl) (Reps.one (show Kd.M (Kd.int .i64) _ _ _ 2048 [.int .i64 2048] from rfl) (Reps.one (show Kd.M (Kd.int .i64) _ _ _ 65536 [.int .i64 65536] from rfl) (Reps.none _ _))))))); intro v271 w42 ho43 hb hg_ hnew_; clear hg_ hnew_; (first | rw [← Ny270.out] at ho43 | (simp only [Int.reduceToNat] at ho43; rw [← Ny270.out] at ho43)); have n0_ := zaa.mk (Kd.zbz ho43 (zax (by repeat (first | exact HB.out | apply zad | apply zac | apply zae)))); have n1_ := zaa.mk (zai (by repeat (first | exact HB.out | apply zad | apply zac | apply zae)) hb); clear HB; have HO272 := n0_; have HB := n1_; clear n0_ n1_; clear hb ho43; obtain ⟨Ao44, co44, eo44⟩ := Kd.zbo HO272.out; subst eo44; have p273 : 0 ≤ (x8_8 : Int) := of_decide_eq_true (by assumption); have q273 : x8_8 < (y270.length : Int) := of_decide_eq_true (by assumption); obtain ⟨ad273, e273, hx273_0⟩ := Kd.at_int (Kd.za0 HO272.out).2.2 x8_8 p273 q273; cases e273; replace p273 := eq_true p273; replace q273 := eq_true q273))
                  go_ret3
                  exact ⟨by first | rfl | (simp [*, zaz, zay] <;> rfl), by repeat (first | exact HB.out | apply zad | apply zac | apply zae)⟩
                ·rw [if_neg c37] at H
                 have c37b0 : decide (55296 ≤ x9_3) = false := decide_eq_false c37; clear c37; simp only [Option.some.injEq, Prod.mk.injEq] at H; obtain ⟨rfl, rfl, rfl⟩ := H; go_wp2_with (first | ((with_reducible refine za6 (N := 86) rfl ?_); (try (refine zbM (by rfl) ?_; dsimp only)); refine Kd.R_lit (Kd.int .i64) _ 3 ?hg (N := 86) ?hd (xs := ([0, 0, 128, 2048, 65536] : List Int)) (inner := [.int .i64 0, .int .i64 0, .int .i64 128, .int .i64 2048, .int .i64 65536]) (ok := fun _ => True) (okp := fun _ => True) ?hr ?hp (fun _ hk => hk) trivial (Below.refl _ _) (Nat.le_refl _) (by simp) ?_; (case hd => rfl); (case hg => rfl); (case hr => first | (go_simp; done) | (go_simp; rfl)); (case hp => exact (Reps.one (show Kd.M (Kd.int .i64) _ _ _ 0 [.int .i64 0] from rfl) (Reps.one (show Kd.M (Kd.int .i64) _ _ _ 0 [.int .i64 0] from rfl) (Reps.one (show Kd.M (Kd.int .i64) _ _ _ 128 [.int .i64 128] from rfl) (Reps.one (show Kd.M (Kd.int .i64) _ _ _ 2048 [.int .i64 2048] from rfl) (Reps.one (show Kd.M (Kd.int .i64) _ _ _ 65536 [.int .i64 65536] from rfl) (Reps.none _ _))))))); intro v271 w45 ho46 hb hg_ hnew_; clear hg_ hnew_; (first | rw [← Ny270.out] at ho46 | (simp only [Int.reduceToNat] at ho46; rw [← Ny270.out] at ho46)); have n0_ := zaa.mk (Kd.zbz ho46 (zax (by repeat (first | exact HB.out | apply zad | apply zac | apply zae)))); have n1_ := zaa.mk (zai (by repeat (first | exact HB.out | apply zad | apply zac | apply zae)) hb); clear HB; have HO272 := n0_; have HB := n1_; clear n0_ n1_; clear hb ho46; obtain ⟨Ao47, co47, eo47⟩ := Kd.zbo HO272.out; subst eo47; have p273 : 0 ≤ (x8_8 : Int) := of_decide_eq_true (by assumption); have q273 : x8_8 < (y270.length : Int) := of_decide_eq_true (by assumption); obtain ⟨ad273, e273, hx273_0⟩ := Kd.at_int (Kd.za0 HO272.out).2.2 x8_8 p273 q273; cases e273; replace p273 := eq_true p273; replace q273 := eq_true q273))
                 go_ret3
                 exact ⟨by first | rfl | (simp [*, zaz, zay] <;> rfl), by repeat (first | exact HB.out | apply zad | apply zac | apply zae)⟩
             ·rw [if_neg c28] at H
              exact absurd H (by simp)
            ·rw [if_neg c27] at H
             exact absurd H (by simp)
     ·rw [if_neg c7] at H
      exact absurd H (by simp)
    ·rw [if_neg c6] at H
     exact absurd H (by simp)
def za3.f (k : Nat) (a0 : ByteArray) (a1 : Int) : Option (Int) := (zan.f k a0 a1).bind fun bt274 => (if bt274.2.2 = true then (some bt274.2.1) else (some 1))
theorem za3.calls (k : Nat) (a0 : ByteArray) (a1 : Int) (r : Int) (w : World) (h : za3.f k a0 a1 = some r) :
  Calls Tryd.prog 65 #[.string a0, .int .i64 a1] w fun e w' => e = .returned (.int .i64 r) ∧ Below w.heap.size w w' := by
 have HB := zaa.mk (Below.refl w.heap.size w); have H : ((zan.f k a0 a1).bind fun bt274 => (if bt274.2.2 = true then (some bt274.2.1) else (some 1))) = some r := h
 clear h; replace H := Option.bind_eq_some_iff.mp H; obtain ⟨⟨t274, t275, t276⟩, A30, H⟩ := H; replace H : (if t276 = true then (some t275) else (some 1)) = some r := H
 have A3 := zaa.mk A30; clear A30; by_cases c4 : t276 = true
 ·subst c4
  have H1 : (some t275) = some r := by rw [if_pos rfl] at H; exact H
  clear H; have H := H1; clear H1; obtain rfl := Option.some.inj H; go_enter Tryd.func65, Tryd.ntmps65
  go_wp2_with (first | ((with_reducible refine zaK (f := 41) rfl ?_); refine zbk (some 11) rfl rfl Tryd.func41 (by kernel_rfl) rfl #[.string a0, .int .i64 a1] rfl (by (try simp only [List.map_toArray, List.map_cons, List.map_nil]); first | done | rfl | (simp only [List.length_drop, List.length_take]; rfl)) ?_; (with_reducible refine (zan.calls k a0 a1 t274 t275 true _ A3.out).mono ?_); rintro e w5 ⟨rfl, hb⟩; refine ⟨_, rfl, ?_⟩; have n0_ := zaa.mk (zai (by repeat (first | exact HB.out | apply zad | apply zac | apply zae)) hb); clear HB; have HB := n0_; clear n0_; (try clear hb); (try clear hb2); (try clear hk); (try clear hi)))
  go_ret
  exact ⟨by first | rfl | (simp [*, zaz, zay] <;> rfl), by repeat (first | exact HB.out | apply zad | apply zac | apply zae)⟩
 ·replace c4 := Bool.eq_false_iff.mpr c4
  subst c4; have H1 : (some 1) = some r := by rw [if_neg (show ¬ (false = true) by decide)] at H; exact H
  clear H; have H := H1; clear H1; obtain rfl := Option.some.inj H; go_enter Tryd.func65, Tryd.ntmps65
  go_wp2_with (first | ((with_reducible refine zaK (f := 41) rfl ?_); refine zbk (some 11) rfl rfl Tryd.func41 (by kernel_rfl) rfl #[.string a0, .int .i64 a1] rfl (by (try simp only [List.map_toArray, List.map_cons, List.map_nil]); first | done | rfl | (simp only [List.length_drop, List.length_take]; rfl)) ?_; (with_reducible refine (zan.calls k a0 a1 t274 t275 false _ A3.out).mono ?_); rintro e w6 ⟨rfl, hb⟩; refine ⟨_, rfl, ?_⟩; have n0_ := zaa.mk (zai (by repeat (first | exact HB.out | apply zad | apply zac | apply zae)) hb); clear HB; have HB := n0_; clear n0_; (try clear hb); (try clear hb2); (try clear hk); (try clear hi)))
  go_ret
  exact ⟨by first | rfl | (simp [*, zaz, zay] <;> rfl), by repeat (first | exact HB.out | apply zad | apply zac | apply zae)⟩
mutual
def zaA.l0 : Nat → ByteArray → Int → Option (Int × Int)
 | 0, _, _ => none
 | k + 1, x0, x6 => if x6 < (x0.size : Int) then (if 0 ≤ x6 then (if (bt x0 x6) = 10 then (zaA.j1 k x0 x6 false) else (zaA.j1 k x0 x6 ((bt x0 x6) != 13))) else (none)) else (zaA.j1 k x0 x6 false)
def zaA.j1 : Nat → ByteArray → Int → Bool → Option (Int × Int)
 | 0, _, _, _ => none
 | k + 1, x0, x6, x24 => if x24 = true then (if 0 ≤ x6 then (if x6 < (x0.size : Int) then (if (bt x0 x6) = 34 then (some (8, wrap64 (x6 + 1))) else (if (bt x0 x6) = 92 then (if (wrap64 (x6 + 1)) = (x0.size : Int) then (some (9, wrap64 (x6 + 1))) else (if 0 ≤ (wrap64 (x6 + 1)) then (if (wrap64 (x6 + 1)) < (x0.size : Int) then (if (bt x0 (wrap64 (x6 + 1))) = 10 then (some (9, wrap64 (x6 + 1))) else (if (bt x0 (wrap64 (x6 + 1))) = 13 then (some (9, wrap64 (x6 + 1))) else ((za3.f k x0 (wrap64 (x6 + 1))).bind fun t277 => (zaA.l0 k x0 (wrap64 ((wrap64 (x6 + 1)) + t277)))))) else (none)) else (none))) else ((za3.f k x0 x6).bind fun t278 => (zaA.l0 k x0 (wrap64 (x6 + t278)))))) else (none)) else (none)) else (some (9, x6))
end
def zaA.f (k : Nat) (a0 : ByteArray) (a1 : Int) : Option (Int × Int) := zaA.l0 k a0 (wrap64 (a1 + 1))
theorem zaA.calls (k : Nat) (a0 : ByteArray) (a1 : Int) (r1 : Int) (r2 : Int) (w : World) (h : zaA.f k a0 a1 = some (r1, r2)) :
  Calls Tryd.prog 39 #[.string a0, .int .i64 a1] w fun e w' => e = .returned (.tuple #[.int .u8 r1, .int .i64 r2]) ∧ Below w.heap.size w w' := by
 have HB := zaa.mk (Below.refl w.heap.size w); have H : (zaA.l0 k a0 (wrap64 (a1 + 1))) = some (r1, r2) := h; clear h; have H' := zaa.mk H; clear H; go_enter Tryd.func39, Tryd.ntmps39
 go_wp2
 go_loopg [6] k (fun kq v6 w' => ∃ (x6_1 : Int), v6 = .int .i64 x6_1 ∧ zaa (zaA.l0 kq a0 x6_1 = some (r1, r2)) ∧ zaa (kq ≤ k) ∧ zaa (Below w.heap.size w w'))
 case atStart => exact ⟨(wrap64 (a1 + 1)), (by first | rfl | (simp; done) | simp [*]), H', ⟨Nat.le_refl _⟩, ⟨by repeat (first | exact HB.out | apply zad | apply zac | apply zae)⟩⟩
 case round =>
  clear H'; try clear p2
  obtain ⟨x6_1, rfl, HA, HK1, HB⟩ := hrel; cases gk with
  | zero => exact absurd HA.out (by simp [zaA.l0])
  | succ k1 =>
   have H := HA.out; clear HA; simp only [zaA.l0] at H; have HC3 := zaa.mk H; clear H; go_upto_region 2 with (fail)
   go_cut [24] (fun v24 wc => ∃ (kq : Nat) (x24_2 : Bool), v24 = .bool x24_2 ∧ zaa (zaA.j1 kq a0 x6_1 x24_2 = some (r1, r2)) ∧ zaa (kq ≤ k1) ∧ zaa (Below w.heap.size w wc))
   case first =>
    have H := HC3.out; clear HC3; by_cases c4 : x6_1 < (a0.size : Int)
    ·rw [if_pos c4] at H
     have c4b0 : decide (x6_1 < (a0.size : Int)) = true := decide_eq_true c4; clear c4
     (first | rw [c4b0] | (simp only [i64_w, i32_w]; rw [c4b0]) | skip)
     by_cases c5 : 0 ≤ x6_1
     ·rw [if_pos c5] at H
      have c5b0 : decide (0 ≤ x6_1) = true := decide_eq_true c5; clear c5; by_cases c7 : (bt a0 x6_1) = 10
      ·rw [if_pos c7] at H
       have c7b0 : ((bt a0 x6_1) == 10) = true := beq_iff_eq.mpr c7; have c7b1 : ((bt a0 x6_1) != 10) = false := bne_eq_false_iff_eq.mpr c7; clear c7; have H' := zaa.mk H; clear H; have p6 : 0 ≤ (x6_1 : Int) := of_decide_eq_true (by assumption)
       have q6 : x6_1 < (a0.size : Int) := of_decide_eq_true (by assumption)
       have hx6 := bt_at a0 x6_1; replace p6 := eq_true p6; replace q6 := eq_true q6; go_wp2
       go_meet
       case rel => exact ⟨_, (false), (by first | rfl | (simp; done) | simp [*]), H', ⟨by have := HK1.out; first | omega | exact Nat.le_refl _⟩, ⟨by repeat (first | exact HB.out | apply zad | apply zac | apply zae)⟩⟩
      ·rw [if_neg c7] at H
       have c7b0 : ((bt a0 x6_1) == 10) = false := beq_eq_false_iff_ne.mpr c7; have c7b1 : ((bt a0 x6_1) != 10) = true := bne_iff_ne.mpr c7; have H' := zaa.mk H; clear H; have p6 : 0 ≤ (x6_1 : Int) := of_decide_eq_true (by assumption)
       have q6 : x6_1 < (a0.size : Int) := of_decide_eq_true (by assumption)
       have hx6 := bt_at a0 x6_1; replace p6 := eq_true p6; replace q6 := eq_true q6; have p8 : 0 ≤ (x6_1 : Int) := of_decide_eq_true (by assumption)
       have q8 : x6_1 < (a0.size : Int) := of_decide_eq_true (by assumption)
       have hx8 := bt_at a0 x6_1; replace p8 := eq_true p8; replace q8 := eq_true q8; go_wp2
       go_meet
       case rel => exact ⟨_, (((bt a0 x6_1) != 13)), (by first | rfl | (simp; done) | simp [*]), H', ⟨by have := HK1.out; first | omega | exact Nat.le_refl _⟩, ⟨by repeat (first | exact HB.out | apply zad | apply zac | apply zae)⟩⟩
     ·rw [if_neg c5] at H
      exact absurd H (by simp)
    ·rw [if_neg c4] at H
     have c4b0 : decide (x6_1 < (a0.size : Int)) = false := decide_eq_false c4; clear c4
     (first | rw [c4b0] | (simp only [i64_w, i32_w]; rw [c4b0]) | skip)
     have H' := zaa.mk H; clear H; go_wp2
     go_meet
     case rel => exact ⟨_, (false), (by first | rfl | (simp; done) | simp [*]), H', ⟨by have := HK1.out; first | omega | exact Nat.le_refl _⟩, ⟨by repeat (first | exact HB.out | apply zad | apply zac | apply zae)⟩⟩
   case rest =>
    clear HC3; try clear p2
    try clear c3
    try clear c4
    try clear c4b0
    try clear c5
    try clear c5b0
    try clear p6
    try clear q6
    try clear hx6
    try clear c7
    try clear c7b0
    try clear c7b1
    try clear p8
    try clear q8
    try clear hx8
    try clear p2
    try clear p6
    try clear p8
    try clear q6
    try clear q8
    obtain ⟨kq, x24_2, rfl, HA, HJ2, HB⟩ := hcut; cases kq with
    | zero => exact absurd HA.out (by simp [zaA.j1])
    | succ kj2 =>
     have H := HA.out; clear HA; simp only [zaA.j1] at H; by_cases c9 : x24_2 = true
     ·subst c9
      have H1 : (if 0 ≤ x6_1 then (if x6_1 < (a0.size : Int) then (if (bt a0 x6_1) = 34 then (some (8, wrap64 (x6_1 + 1))) else (if (bt a0 x6_1) = 92 then (if (wrap64 (x6_1 + 1)) = (a0.size : Int) then (some (9, wrap64 (x6_1 + 1))) else (if 0 ≤ (wrap64 (x6_1 + 1)) then (if (wrap64 (x6_1 + 1)) < (a0.size : Int) then (if (bt a0 (wrap64 (x6_1 + 1))) = 10 then (some (9, wrap64 (x6_1 + 1))) else (if (bt a0 (wrap64 (x6_1 + 1))) = 13 then (some (9, wrap64 (x6_1 + 1))) else ((za3.f kj2 a0 (wrap64 (x6_1 + 1))).bind fun t277 => (zaA.l0 kj2 a0 (wrap64 ((wrap64 (x6_1 + 1)) + t277)))))) else (none)) else (none))) else ((za3.f kj2 a0 x6_1).bind fun t278 => (zaA.l0 kj2 a0 (wrap64 (x6_1 + t278)))))) else (none)) else (none)) = some (r1, r2) := by rw [if_pos rfl] at H; exact H
      clear H; have H := H1; clear H1; by_cases c10 : 0 ≤ x6_1
      ·rw [if_pos c10] at H
       have c10b0 : decide (0 ≤ x6_1) = true := decide_eq_true c10; clear c10; by_cases c11 : x6_1 < (a0.size : Int)
       ·rw [if_pos c11] at H
        have c11b0 : decide (x6_1 < (a0.size : Int)) = true := decide_eq_true c11; clear c11; by_cases c13 : (bt a0 x6_1) = 34
        ·rw [if_pos c13] at H
         have c13b0 : ((bt a0 x6_1) == 34) = true := beq_iff_eq.mpr c13; have c13b1 : ((bt a0 x6_1) != 34) = false := bne_eq_false_iff_eq.mpr c13; clear c13; simp only [Option.some.injEq, Prod.mk.injEq] at H; obtain ⟨rfl, rfl⟩ := H; have p12 : 0 ≤ (x6_1 : Int) := of_decide_eq_true (by assumption)
         have q12 : x6_1 < (a0.size : Int) := of_decide_eq_true (by assumption)
         have hx12 := bt_at a0 x6_1; replace p12 := eq_true p12; replace q12 := eq_true q12; go_wp2
         go_ret2
         exact ⟨by first | rfl | (simp [*, zaz, zay] <;> rfl), by repeat (first | exact HB.out | apply zad | apply zac | apply zae)⟩
        ·rw [if_neg c13] at H
         have c13b0 : ((bt a0 x6_1) == 34) = false := beq_eq_false_iff_ne.mpr c13; have c13b1 : ((bt a0 x6_1) != 34) = true := bne_iff_ne.mpr c13; by_cases c15 : (bt a0 x6_1) = 92
         ·rw [if_pos c15] at H
          have c15b0 : ((bt a0 x6_1) == 92) = true := beq_iff_eq.mpr c15; have c15b1 : ((bt a0 x6_1) != 92) = false := bne_eq_false_iff_eq.mpr c15; clear c15; by_cases c16 : (wrap64 (x6_1 + 1)) = (a0.size : Int)
          ·rw [if_pos c16] at H
           have c16b0 : ((wrap64 (x6_1 + 1)) == (a0.size : Int)) = true := beq_iff_eq.mpr c16; have c16b1 : ((wrap64 (x6_1 + 1)) != (a0.size : Int)) = false := bne_eq_false_iff_eq.mpr c16; clear c16; simp only [Option.some.injEq, Prod.mk.injEq] at H; obtain ⟨rfl, rfl⟩ := H; have p12 : 0 ≤ (x6_1 : Int) := of_decide_eq_true (by assumption)
           have q12 : x6_1 < (a0.size : Int) := of_decide_eq_true (by assumption)
           have hx12 := bt_at a0 x6_1; replace p12 := eq_true p12; replace q12 := eq_true q12; have p14 : 0 ≤ (x6_1 : Int) := of_decide_eq_true (by assumption)
           have q14 : x6_1 < (a0.size : Int) := of_decide_eq_true (by assumption)
           have hx14 := bt_at a0 x6_1; replace p14 := eq_true p14; replace q14 := eq_true q14; go_wp2
           go_ret2
           exact ⟨by first | rfl | (simp [*, zaz, zay] <;> rfl), by repeat (first | exact HB.out | apply zad | apply zac | apply zae)⟩
          ·rw [if_neg c16] at H
           have c16b0 : ((wrap64 (x6_1 + 1)) == (a0.size : Int)) = false := beq_eq_false_iff_ne.mpr c16; have c16b1 : ((wrap64 (x6_1 + 1)) != (a0.size : Int)) = true := bne_iff_ne.mpr c16; obtain ⟨ji17, hji17⟩ : ∃ j_ : Int, (wrap64 (x6_1 + 1)) = j_ := ⟨_, rfl⟩; replace H : (if 0 ≤ (ji17) then (if (ji17) < (a0.size : Int) then (if (bt a0 (ji17)) = 10 then (some (9, ji17)) else (if (bt a0 (ji17)) = 13 then (some (9, ji17)) else ((za3.f kj2 a0 (ji17)).bind fun t277 => (zaA.l0 kj2 a0 (wrap64 ((ji17) + t277)))))) else (none)) else (none)) = some (r1, r2) := by first | (rw [hji17] at H; exact H) | (simp only [hji17] at H ⊢; exact H)
           (try rw [hji17] at c16b0)
           (try rw [hji17] at c16b1)
           have hji17w : (IntKind.i64.wrap (x6_1 + 1)) = ji17 := (i64_w _).trans hji17; by_cases c18 : 0 ≤ (ji17)
           ·rw [if_pos c18] at H
            have c18b0 : decide (0 ≤ (ji17)) = true := decide_eq_true c18; clear c18; by_cases c19 : (ji17) < (a0.size : Int)
            ·rw [if_pos c19] at H
             have c19b0 : decide ((ji17) < (a0.size : Int)) = true := decide_eq_true c19; clear c19; by_cases c21 : (bt a0 (ji17)) = 10
             ·rw [if_pos c21] at H
              have c21b0 : ((bt a0 (ji17)) == 10) = true := beq_iff_eq.mpr c21; have c21b1 : ((bt a0 (ji17)) != 10) = false := bne_eq_false_iff_eq.mpr c21; clear c21; simp only [Option.some.injEq, Prod.mk.injEq] at H; obtain ⟨rfl, rfl⟩ := H; have p12 : 0 ≤ (x6_1 : Int) := of_decide_eq_true (by assumption)
              have q12 : x6_1 < (a0.size : Int) := of_decide_eq_true (by assumption)
              have hx12 := bt_at a0 x6_1; replace p12 := eq_true p12; replace q12 := eq_true q12; have p14 : 0 ≤ (x6_1 : Int) := of_decide_eq_true (by assumption)
              have q14 : x6_1 < (a0.size : Int) := of_decide_eq_true (by assumption)
              have hx14 := bt_at a0 x6_1; replace p14 := eq_true p14; replace q14 := eq_true q14; have p20 : 0 ≤ ((ji17) : Int) := of_decide_eq_true (by assumption)
              have q20 : (ji17) < (a0.size : Int) := of_decide_eq_true (by assumption)
              have hx20 := bt_at a0 (ji17); replace p20 := eq_true p20; replace q20 := eq_true q20; go_wp2
              go_ret2
              exact ⟨by first | rfl | (simp [zaz, zay] <;> rfl) | (simp only [← hji17]; first | rfl | (simp [zaz, zay] <;> rfl)) | (simp [*, zaz, zay] <;> rfl), by repeat (first | exact HB.out | apply zad | apply zac | apply zae)⟩
             ·rw [if_neg c21] at H
              have c21b0 : ((bt a0 (ji17)) == 10) = false := beq_eq_false_iff_ne.mpr c21; have c21b1 : ((bt a0 (ji17)) != 10) = true := bne_iff_ne.mpr c21; by_cases c23 : (bt a0 (ji17)) = 13
              ·rw [if_pos c23] at H
               have c23b0 : ((bt a0 (ji17)) == 13) = true := beq_iff_eq.mpr c23; have c23b1 : ((bt a0 (ji17)) != 13) = false := bne_eq_false_iff_eq.mpr c23; clear c23; simp only [Option.some.injEq, Prod.mk.injEq] at H; obtain ⟨rfl, rfl⟩ := H; have p12 : 0 ≤ (x6_1 : Int) := of_decide_eq_true (by assumption)
               have q12 : x6_1 < (a0.size : Int) := of_decide_eq_true (by assumption)
               have hx12 := bt_at a0 x6_1; replace p12 := eq_true p12; replace q12 := eq_true q12; have p14 : 0 ≤ (x6_1 : Int) := of_decide_eq_true (by assumption)
               have q14 : x6_1 < (a0.size : Int) := of_decide_eq_true (by assumption)
               have hx14 := bt_at a0 x6_1; replace p14 := eq_true p14; replace q14 := eq_true q14; have p20 : 0 ≤ ((ji17) : Int) := of_decide_eq_true (by assumption)
               have q20 : (ji17) < (a0.size : Int) := of_decide_eq_true (by assumption)
               have hx20 := bt_at a0 (ji17); replace p20 := eq_true p20; replace q20 := eq_true q20; have p22 : 0 ≤ ((ji17) : Int) := of_decide_eq_true (by assumption)
               have q22 : (ji17) < (a0.size : Int) := of_decide_eq_true (by assumption)
               have hx22 := bt_at a0 (ji17); replace p22 := eq_true p22; replace q22 := eq_true q22; go_wp2
               go_ret2
               exact ⟨by first | rfl | (simp [zaz, zay] <;> rfl) | (simp only [← hji17]; first | rfl | (simp [zaz, zay] <;> rfl)) | (simp [*, zaz, zay] <;> rfl), by repeat (first | exact HB.out | apply zad | apply zac | apply zae)⟩
              ·rw [if_neg c23] at H
               have c23b0 : ((bt a0 (ji17)) == 13) = false := beq_eq_false_iff_ne.mpr c23; have c23b1 : ((bt a0 (ji17)) != 13) = true := bne_iff_ne.mpr c23; replace H := Option.bind_eq_some_iff.mp H; obtain ⟨t277, A240, H⟩ := H; replace H : (zaA.l0 kj2 a0 (wrap64 ((ji17) + t277))) = some (r1, r2) := H; have A24 := zaa.mk A240; clear A240; have H' := zaa.mk H; clear H; have p12 : 0 ≤ (x6_1 : Int) := of_decide_eq_true (by assumption)
               have q12 : x6_1 < (a0.size : Int) := of_decide_eq_true (by assumption)
               have hx12 := bt_at a0 x6_1; replace p12 := eq_true p12; replace q12 := eq_true q12; have p14 : 0 ≤ (x6_1 : Int) := of_decide_eq_true (by assumption)
               have q14 : x6_1 < (a0.size : Int) := of_decide_eq_true (by assumption)
               have hx14 := bt_at a0 x6_1; replace p14 := eq_true p14; replace q14 := eq_true q14; have p20 : 0 ≤ ((ji17) : Int) := of_decide_eq_true (by assumption)
               have q20 : (ji17) < (a0.size : Int) := of_decide_eq_true (by assumption)
               have hx20 := bt_at a0 (ji17); replace p20 := eq_true p20; replace q20 := eq_true q20; have p22 : 0 ≤ ((ji17) : Int) := of_decide_eq_true (by assumption)
               have q22 : (ji17) < (a0.size : Int) := of_decide_eq_true (by assumption)
               have hx22 := bt_at a0 (ji17); replace p22 := eq_true p22; replace q22 := eq_true q22; go_wp2_with (first | ((with_reducible refine zaK (f := 65) rfl ?_); refine zbk (some 56) rfl rfl Tryd.func65 (by kernel_rfl) rfl #[.string a0, .int .i64 ji17] rfl (by (try simp only [List.map_toArray, List.map_cons, List.map_nil]); first | done | (simp only [hji17]; rfl) | rfl | (simp only [List.length_drop, List.length_take]; rfl)) ?_; (with_reducible refine (za3.calls kj2 a0 ji17 t277 _ A24.out).mono ?_); rintro e w25 ⟨rfl, hb⟩; refine ⟨_, rfl, ?_⟩; have n0_ := zaa.mk (zai (by repeat (first | exact HB.out | apply zad | apply zac | apply zae)) hb); clear HB; have HB := n0_; clear n0_; (try clear hb); (try clear hb2); (try clear hk); (try clear hi)))
               go_roundg kj2
               case measure => have := HK1.out; have := HJ2.out; omega
               case rel => exact ⟨(wrap64 ((ji17) + t277)), (by first | rfl | (simp; done) | (simp only [← hji17] <;> (first | rfl | simp)) | simp [*]), H', ⟨by have := HK1.out; have := HJ2.out; omega⟩, ⟨by repeat (first | exact HB.out | apply zad | apply zac | apply zae)⟩⟩
            ·rw [if_neg c19] at H
             exact absurd H (by simp)
           ·rw [if_neg c18] at H
            exact absurd H (by simp)
         ·rw [if_neg c15] at H
          have c15b0 : ((bt a0 x6_1) == 92) = false := beq_eq_false_iff_ne.mpr c15; have c15b1 : ((bt a0 x6_1) != 92) = true := bne_iff_ne.mpr c15; replace H := Option.bind_eq_some_iff.mp H; obtain ⟨t278, A260, H⟩ := H; replace H : (zaA.l0 kj2 a0 (wrap64 (x6_1 + t278))) = some (r1, r2) := H; have A26 := zaa.mk A260; clear A260; have H' := zaa.mk H; clear H; have p12 : 0 ≤ (x6_1 : Int) := of_decide_eq_true (by assumption)
          have q12 : x6_1 < (a0.size : Int) := of_decide_eq_true (by assumption)
          have hx12 := bt_at a0 x6_1; replace p12 := eq_true p12; replace q12 := eq_true q12; have p14 : 0 ≤ (x6_1 : Int) := of_decide_eq_true (by assumption)
          have q14 : x6_1 < (a0.size : Int) := of_decide_eq_true (by assumption)
          have hx14 := bt_at a0 x6_1; replace p14 := eq_true p14; replace q14 := eq_true q14; go_wp2_with (first | ((with_reducible refine zaK (f := 65) rfl ?_); refine zbk (some 56) rfl rfl Tryd.func65 (by kernel_rfl) rfl #[.string a0, .int .i64 x6_1] rfl (by (try simp only [List.map_toArray, List.map_cons, List.map_nil]); first | done | rfl | (simp only [List.length_drop, List.length_take]; rfl)) ?_; (with_reducible refine (za3.calls kj2 a0 x6_1 t278 _ A26.out).mono ?_); rintro e w27 ⟨rfl, hb⟩; refine ⟨_, rfl, ?_⟩; have n0_ := zaa.mk (zai (by repeat (first | exact HB.out | apply zad | apply zac | apply zae)) hb); clear HB; have HB := n0_; clear n0_; (try clear hb); (try clear hb2); (try clear hk); (try clear hi)))
          go_roundg kj2
          case measure => have := HK1.out; have := HJ2.out; omega
          case rel => exact ⟨(wrap64 (x6_1 + t278)), (by first | rfl | (simp; done) | simp [*]), H', ⟨by have := HK1.out; have := HJ2.out; omega⟩, ⟨by repeat (first | exact HB.out | apply zad | apply zac | apply zae)⟩⟩
       ·rw [if_neg c11] at H
        exact absurd H (by simp)
      ·rw [if_neg c10] at H
       exact absurd H (by simp)
     ·replace c9 := Bool.eq_false_iff.mpr c9
      subst c9; have H1 : (some (9, x6_1)) = some (r1, r2) := by rw [if_neg (show ¬ (false = true) by decide)] at H; exact H
      clear H; have H := H1; clear H1; simp only [Option.some.injEq, Prod.mk.injEq] at H; obtain ⟨rfl, rfl⟩ := H; go_wp2
      go_ret2
      exact ⟨by first | rfl | (simp [*, zaz, zay] <;> rfl), by repeat (first | exact HB.out | apply zad | apply zac | apply zae)⟩
end
end Go.Proofs.YtobgkpnigjfhmaaDoor.H
