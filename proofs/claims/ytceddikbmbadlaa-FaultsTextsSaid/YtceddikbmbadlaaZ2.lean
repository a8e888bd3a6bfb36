/- Texts of this claim, merged. -/
import Derived.Test.YtceddikbmbadlaaZ1
import Derived.Test.YtceddikbmbadlaaProg
set_option linter.unusedVariables false
set_option linter.unusedSimpArgs false
namespace Go.Proofs.Ytceddikbmbadlaa.H
open Go.RowKit Go.Proofs.YtceddikbmbadlaaW.PrintWords Go.Proofs.YtceddikbmbadlaaW.PrintLast Go.Proofs.YtceddikbmbadlaaW.PrintMore
section
attribute [local go_sem] zbq zbo zbx zbw zbg zbf zbp zbn
def errW : Option Int → Value
 | none => .nilIface
 | some c => .iface 0 (.int .i64 c)
theorem zaF : errW none = .nilIface := rfl
theorem zaE (c : Int) : errW (some c) = .iface 0 (.int .i64 c) := rfl
theorem info25 : (Try.prog.info? 25).map (fun i => (i.zero, i.size, i.bytes)) = some (some (.agg #[(.int .u8 0), (.int .u8 0), (.int .i64 0), (.slice none 0 0)]), 4, 40) := by kernel_rfl
theorem info44 : (Try.prog.info? 44).map (fun i => (i.zero, i.size, i.bytes)) = some (some (.agg #[(.int .i64 0), (.int .i64 0), (.int .u8 0), (.int .u8 0)]), 4, 24) := by kernel_rfl
theorem info50 : (Try.prog.info? 50).map (fun i => (i.zero, i.size, i.bytes)) = some (some (.agg #[(.int .u8 0), (.int .i64 0), (.int .i64 0)]), 3, 24) := by kernel_rfl
structure S54 where
 f0 : Int
 f1 : Int
 f2 : Int
 f3 : Int
def z54 : S54 := ⟨(0 : Int), (0 : Int), (0 : Int), (0 : Int)⟩
def k54 : Kd S54 := Kd.iso (Kd.pair (Kd.int .i64) (Kd.pair (Kd.int .u8) (Kd.pair (Kd.int .u8) (Kd.int .i64)))) (fun x : S54 => (x.f0, x.f1, x.f2, x.f3))
theorem k54_open {w : World} {x : S54} {cs : List Value} (h : k54.K w x cs) : cs = [.int .i64 x.f0, .int .u8 x.f1, .int .u8 x.f2, .int .i64 x.f3] := by
 obtain ⟨_, _, rfl, rfl, ⟨_, _, rfl, rfl, ⟨_, _, rfl, rfl, rfl⟩⟩⟩ := h; exact rfl
def rd_T54 (xs : List S54) (i : Int) : S54 := xs.getD i.toNat z54
theorem at_T54 {w : World} {A : Option Addr} {n : Nat} {xs : List S54} (h : Kd.C k54 w A n xs) (i : Int) (h0 : 0 ≤ i) (h1 : i < n) : ∃ ad , A = some ad ∧ w.cell? (ad.add (i.toNat * 4)) = some (.int .i64 (rd_T54 xs i).f0) ∧ w.cell? ⟨(ad.add (i.toNat * 4)).block, (ad.add (i.toNat * 4)).off + 1, none⟩ = some (.int .u8 (rd_T54 xs i).f1) ∧ w.cell? ⟨(ad.add (i.toNat * 4)).block, (ad.add (i.toNat * 4)).off + 2, none⟩ = some (.int .u8 (rd_T54 xs i).f2) ∧ w.cell? ⟨(ad.add (i.toNat * 4)).block, (ad.add (i.toNat * 4)).off + 3, none⟩ = some (.int .i64 (rd_T54 xs i).f3) := by
 obtain ⟨ad, c, e, _, hK, hc0⟩ := Kd.C_get h z54 i h0 h1; have hc : ∀ j u, c[j]? = some u → w.cell? (ad.add (i.toNat * 4 + j)) = some u := hc0; obtain rfl := k54_open hK; exact ⟨ad, e, hc 0 _ rfl, by rw [← zbe _ _ 1 (by omega)]; exact hc 1 _ rfl, by rw [← zbe _ _ 2 (by omega)]; exact hc 2 _ rfl, by rw [← zbe _ _ 3 (by omega)]; exact hc 3 _ rfl⟩
structure S25 where
 f0 : Int
 f1 : Int
 f2 : Int
 f3 : (List S25)
def z25 : S25 := ⟨(0 : Int), (0 : Int), (0 : Int), ([] : List S25)⟩
def F25 (d : Kd S25) : Kd S25 := Kd.iso (Kd.pair (Kd.int .u8) (Kd.pair (Kd.int .u8) (Kd.pair (Kd.int .i64) (Kd.slice 25 d)))) (fun x : S25 => (x.f0, x.f1, x.f2, x.f3))
theorem mono25 : Kd.Mono F25 := Kd.mono_iso _ (Kd.mono_pair (Kd.mono_const _) (Kd.mono_pair (Kd.mono_const _) (Kd.mono_pair (Kd.mono_const _) (Kd.mono_slice 25 Kd.mono_id))))
theorem sub25 : Kd.Sub F25 [25] := Kd.sub_iso _ (Kd.sub_pair (Kd.sub_const _ (by decide)) (Kd.sub_pair (Kd.sub_const _ (by decide)) (Kd.sub_pair (Kd.sub_const _ (by decide)) (Kd.sub_slice 25 (by decide) Kd.sub_id))))
theorem sz25 : ∀ n, (Kd.upto F25 4 [25] n).sz = 4 := Kd.upto_sz (fun _ => rfl)
def k25 : Kd S25 := Kd.fix F25 4 [25] sz25 (Kd.upto_E sub25)
theorem k25_heap : Kd.Heap k25 := Kd.heap_fix (fun _ h_ => Kd.heap_iso _ (Kd.heap_pair (Kd.heap_int .u8) (Kd.heap_pair (Kd.heap_int .u8) (Kd.heap_pair (Kd.heap_int .i64) (Kd.heap_slice 25 h_)))))
theorem k25_open {w : World} {x : S25} {cs : List Value} (h : k25.K w x cs) : ∃ A3 c3, cs = [.int .u8 x.f0, .int .u8 x.f1, .int .i64 x.f2, .slice A3 x.f3.length c3] ∧ x.f3.length ≤ c3 ∧ k25.C w A3 x.f3.length x.f3 := by
 obtain ⟨n, h⟩ := h; cases n with
 | zero => exact h.elim
 | succ n =>
  obtain ⟨_, _, rfl, rfl, ⟨_, _, rfl, rfl, ⟨_, _, rfl, rfl, ⟨A3, c3, rfl, l3, g3⟩⟩⟩⟩ := h; exact ⟨A3, c3, rfl, l3, Kd.fix_C g3⟩
theorem k25_mk (w : World) (x : S25) {A3 : Option Addr} {c3 : Nat} (l3 : x.f3.length ≤ c3) (g3 : k25.C w A3 x.f3.length x.f3) : k25.K w x [.int .u8 x.f0, .int .u8 x.f1, .int .i64 x.f2, .slice A3 x.f3.length c3] := by
 obtain ⟨n3, q3⟩ := Kd.fix_C_back mono25 g3; have r3 := Kd.upto_C_le mono25 sz25 (show n3 ≤ n3 by omega) q3
 exact ⟨n3 + 1, ⟨[.int .u8 x.f0], [.int .u8 x.f1, .int .i64 x.f2, .slice A3 x.f3.length c3], rfl, rfl, ⟨[.int .u8 x.f1], [.int .i64 x.f2, .slice A3 x.f3.length c3], rfl, rfl, ⟨[.int .i64 x.f2], [.slice A3 x.f3.length c3], rfl, rfl, ⟨A3, c3, rfl, l3, r3⟩⟩⟩⟩⟩
theorem k25_mkM (w : World) (base : Nat) (ok : Nat → Prop) (x : S25) {v3 : Value} (g3 : k25.R 25 w base ok v3 x.f3) : k25.M w base ok x [.int .u8 x.f0, .int .u8 x.f1, .int .i64 x.f2, v3] := by
 obtain ⟨n3, q3⟩ := Kd.fix_R_back mono25 g3; have r3 := Kd.upto_R_le mono25 sz25 (show n3 ≤ n3 by omega) q3
 exact ⟨n3 + 1, ⟨[.int .u8 x.f0], [.int .u8 x.f1, .int .i64 x.f2, v3], rfl, rfl, ⟨[.int .u8 x.f1], [.int .i64 x.f2, v3], rfl, rfl, ⟨[.int .i64 x.f2], [v3], rfl, rfl, ⟨v3, rfl, r3⟩⟩⟩⟩⟩
theorem k25_openF {W : World} {ok : Nat → Prop} {x : S25} {cs : List Value} (h : Kd.FK k25 W ok x cs) : ∃ A3 c3, cs = [.int .u8 x.f0, .int .u8 x.f1, .int .i64 x.f2, .slice A3 x.f3.length c3] ∧ x.f3.length ≤ c3 ∧ Kd.F k25 W ok A3 x.f3.length x.f3 := by
 obtain ⟨A3, c3, rfl, l3, _⟩ := k25_open (Kd.FK_now h); exact ⟨A3, c3, rfl, l3, (fun W' hW => by obtain ⟨A3_, c3_, he, l3_, g3_⟩ := k25_open (h W' hW); injection (Option.some.inj (show some (Value.slice A3 x.f3.length c3) = some (Value.slice A3_ x.f3.length c3_) from congrArg (fun l => l[3]?) he)) with ha_ _ _; rw [ha_]; exact g3_)⟩
theorem k25_mkF (W : World) (ok : Nat → Prop) (x : S25) {A3 : Option Addr} {c3 : Nat} (l3 : x.f3.length ≤ c3) (g3 : Kd.F k25 W ok A3 x.f3.length x.f3) : Kd.FK k25 W ok x [.int .u8 x.f0, .int .u8 x.f1, .int .i64 x.f2, .slice A3 x.f3.length c3] := fun W2 hW => k25_mk W2 x l3 (g3 W2 hW)
def za0 (xs : List S25) (i : Int) : S25 := xs.getD i.toNat z25
theorem at_T25 {w : World} {A : Option Addr} {n : Nat} {xs : List S25} (h : Kd.C k25 w A n xs) (i : Int) (h0 : 0 ≤ i) (h1 : i < n) : ∃ ad A3 c3, A = some ad ∧ w.cell? (ad.add (i.toNat * 4)) = some (.int .u8 (za0 xs i).f0) ∧ w.cell? ⟨(ad.add (i.toNat * 4)).block, (ad.add (i.toNat * 4)).off + 1, none⟩ = some (.int .u8 (za0 xs i).f1) ∧ w.cell? ⟨(ad.add (i.toNat * 4)).block, (ad.add (i.toNat * 4)).off + 2, none⟩ = some (.int .i64 (za0 xs i).f2) ∧ w.cell? ⟨(ad.add (i.toNat * 4)).block, (ad.add (i.toNat * 4)).off + 3, none⟩ = some (.slice A3 (za0 xs i).f3.length c3) ∧ (za0 xs i).f3.length ≤ c3 ∧ k25.C w A3 (za0 xs i).f3.length (za0 xs i).f3 := by
 obtain ⟨ad, c, e, _, hK, hc0⟩ := Kd.C_get h z25 i h0 h1; have hc : ∀ j u, c[j]? = some u → w.cell? (ad.add (i.toNat * 4 + j)) = some u := hc0; obtain ⟨A3, c3, rfl, l3, g3⟩ := k25_open hK; exact ⟨ad, A3, c3, e, hc 0 _ rfl, by rw [← zbe _ _ 1 (by omega)]; exact hc 1 _ rfl, by rw [← zbe _ _ 2 (by omega)]; exact hc 2 _ rfl, by rw [← zbe _ _ 3 (by omega)]; exact hc 3 _ rfl, l3, g3⟩
structure S42 where
 f0 : Int
 f1 : Int
def z42 : S42 := ⟨(0 : Int), (0 : Int)⟩
def k42 : Kd S42 := Kd.iso (Kd.pair (Kd.int .i64) (Kd.int .i64)) (fun x : S42 => (x.f0, x.f1))
theorem k42_open {w : World} {x : S42} {cs : List Value} (h : k42.K w x cs) : cs = [.int .i64 x.f0, .int .i64 x.f1] := by
 obtain ⟨_, _, rfl, rfl, rfl⟩ := h; exact rfl
theorem k42_openM {w : World} {base : Nat} {ok : Nat → Prop} {x : S42} {cs : List Value} (h : k42.M w base ok x cs) : cs = [.int .i64 x.f0, .int .i64 x.f1] := by
 obtain ⟨_, _, rfl, rfl, rfl⟩ := h; exact rfl
theorem k42_mk (w : World) (x : S42)  : k42.K w x [.int .i64 x.f0, .int .i64 x.f1] := ⟨[.int .i64 x.f0], [.int .i64 x.f1], rfl, rfl, rfl⟩
theorem k42_mkM (w : World) (base : Nat) (ok : Nat → Prop) (x : S42)  : k42.M w base ok x [.int .i64 x.f0, .int .i64 x.f1] := ⟨[.int .i64 x.f0], [.int .i64 x.f1], rfl, rfl, rfl⟩
def rd_T42 (xs : List S42) (i : Int) : S42 := xs.getD i.toNat z42
structure S58 where
 f0 : S25
 f1 : S42
 f2 : Int
def z58 : S58 := ⟨z25, z42, (0 : Int)⟩
def k58 : Kd S58 := Kd.iso (Kd.pair k25 (Kd.pair k42 (Kd.int .i64))) (fun x : S58 => (x.f0, x.f1, x.f2))
theorem k58_open {w : World} {x : S58} {cs : List Value} (h : k58.K w x cs) : ∃ A3 c3, cs = [.int .u8 x.f0.f0, .int .u8 x.f0.f1, .int .i64 x.f0.f2, .slice A3 x.f0.f3.length c3, .int .i64 x.f1.f0, .int .i64 x.f1.f1, .int .i64 x.f2] ∧ x.f0.f3.length ≤ c3 ∧ k25.C w A3 x.f0.f3.length x.f0.f3 := by
 obtain ⟨_, _, rfl, s0, ⟨_, _, rfl, s4, rfl⟩⟩ := h; obtain ⟨A3, c3, rfl, l3, g3⟩ := k25_open s0; obtain rfl := k42_open s4; exact ⟨A3, c3, rfl, l3, g3⟩
theorem k58_mk (w : World) (x : S58) {A3 : Option Addr} {c3 : Nat} (l3 : x.f0.f3.length ≤ c3) (g3 : k25.C w A3 x.f0.f3.length x.f0.f3) : k58.K w x [.int .u8 x.f0.f0, .int .u8 x.f0.f1, .int .i64 x.f0.f2, .slice A3 x.f0.f3.length c3, .int .i64 x.f1.f0, .int .i64 x.f1.f1, .int .i64 x.f2] := ⟨[.int .u8 x.f0.f0, .int .u8 x.f0.f1, .int .i64 x.f0.f2, .slice A3 x.f0.f3.length c3], [.int .i64 x.f1.f0, .int .i64 x.f1.f1, .int .i64 x.f2], rfl, (k25_mk w x.f0 l3 g3), ⟨[.int .i64 x.f1.f0, .int .i64 x.f1.f1], [.int .i64 x.f2], rfl, (k42_mk w x.f1 ), rfl⟩⟩
theorem zbR {W : World} {ok : Nat → Prop} {x : S58} {cs : List Value} (h : Kd.FK k58 W ok x cs) : ∃ A3 c3, cs = [.int .u8 x.f0.f0, .int .u8 x.f0.f1, .int .i64 x.f0.f2, .slice A3 x.f0.f3.length c3, .int .i64 x.f1.f0, .int .i64 x.f1.f1, .int .i64 x.f2] ∧ x.f0.f3.length ≤ c3 ∧ Kd.F k25 W ok A3 x.f0.f3.length x.f0.f3 := by
 obtain ⟨A3, c3, rfl, l3, _⟩ := k58_open (Kd.FK_now h); exact ⟨A3, c3, rfl, l3, (fun W' hW => by obtain ⟨A3_, c3_, he, l3_, g3_⟩ := k58_open (h W' hW); injection (Option.some.inj (show some (Value.slice A3 x.f0.f3.length c3) = some (Value.slice A3_ x.f0.f3.length c3_) from congrArg (fun l => l[3]?) he)) with ha_ _ _; rw [ha_]; exact g3_)⟩
theorem k58_mkF (W : World) (ok : Nat → Prop) (x : S58) {A3 : Option Addr} {c3 : Nat} (l3 : x.f0.f3.length ≤ c3) (g3 : Kd.F k25 W ok A3 x.f0.f3.length x.f0.f3) : Kd.FK k58 W ok x [.int .u8 x.f0.f0, .int .u8 x.f0.f1, .int .i64 x.f0.f2, .slice A3 x.f0.f3.length c3, .int .i64 x.f1.f0, .int .i64 x.f1.f1, .int .i64 x.f2] := fun W2 hW => k58_mk W2 x l3 (g3 W2 hW)
def zaJ (xs : List S58) (i : Int) : S58 := xs.getD i.toNat z58
theorem at_T58 {w : World} {A : Option Addr} {n : Nat} {xs : List S58} (h : Kd.C k58 w A n xs) (i : Int) (h0 : 0 ≤ i) (h1 : i < n) : ∃ ad A3 c3, A = some ad ∧ w.cell? (ad.add (i.toNat * 7)) = some (.int .u8 (zaJ xs i).f0.f0) ∧ w.cell? ⟨(ad.add (i.toNat * 7)).block, (ad.add (i.toNat * 7)).off + 1, none⟩ = some (.int .u8 (zaJ xs i).f0.f1) ∧ w.cell? ⟨(ad.add (i.toNat * 7)).block, (ad.add (i.toNat * 7)).off + 2, none⟩ = some (.int .i64 (zaJ xs i).f0.f2) ∧ w.cell? ⟨(ad.add (i.toNat * 7)).block, (ad.add (i.toNat * 7)).off + 3, none⟩ = some (.slice A3 (zaJ xs i).f0.f3.length c3) ∧ w.cell? ⟨(ad.add (i.toNat * 7)).block, (ad.add (i.toNat * 7)).off + 4, none⟩ = some (.int .i64 (zaJ xs i).f1.f0) ∧ w.cell? ⟨(ad.add (i.toNat * 7)).block, (ad.add (i.toNat * 7)).off + 5, none⟩ = some (.int .i64 (zaJ xs i).f1.f1) ∧ w.cell? ⟨(ad.add (i.toNat * 7)).block, (ad.add (i.toNat * 7)).off + 6, none⟩ = some (.int .i64 (zaJ xs i).f2) ∧ (zaJ xs i).f0.f3.length ≤ c3 ∧ k25.C w A3 (zaJ xs i).f0.f3.length (zaJ xs i).f0.f3 := by
 obtain ⟨ad, c, e, _, hK, hc0⟩ := Kd.C_get h z58 i h0 h1; have hc : ∀ j u, c[j]? = some u → w.cell? (ad.add (i.toNat * 7 + j)) = some u := hc0; obtain ⟨A3, c3, rfl, l3, g3⟩ := k58_open hK; exact ⟨ad, A3, c3, e, hc 0 _ rfl, by rw [← zbe _ _ 1 (by omega)]; exact hc 1 _ rfl, by rw [← zbe _ _ 2 (by omega)]; exact hc 2 _ rfl, by rw [← zbe _ _ 3 (by omega)]; exact hc 3 _ rfl, by rw [← zbe _ _ 4 (by omega)]; exact hc 4 _ rfl, by rw [← zbe _ _ 5 (by omega)]; exact hc 5 _ rfl, by rw [← zbe _ _ 6 (by omega)]; exact hc 6 _ rfl, l3, g3⟩
structure S44 where
 f0 : S42
 f1 : Int
 f2 : Int
def z44 : S44 := ⟨z42, (0 : Int), (0 : Int)⟩
def k44 : Kd S44 := Kd.iso (Kd.pair k42 (Kd.pair (Kd.int .u8) (Kd.int .u8))) (fun x : S44 => (x.f0, x.f1, x.f2))
theorem k44_open {w : World} {x : S44} {cs : List Value} (h : k44.K w x cs) : cs = [.int .i64 x.f0.f0, .int .i64 x.f0.f1, .int .u8 x.f1, .int .u8 x.f2] := by
 obtain ⟨_, _, rfl, s0, ⟨_, _, rfl, rfl, rfl⟩⟩ := h; obtain rfl := k42_open s0; exact rfl
theorem k44_openM {w : World} {base : Nat} {ok : Nat → Prop} {x : S44} {cs : List Value} (h : k44.M w base ok x cs) : cs = [.int .i64 x.f0.f0, .int .i64 x.f0.f1, .int .u8 x.f1, .int .u8 x.f2] := by
 obtain ⟨_, _, rfl, s0, ⟨_, _, rfl, rfl, rfl⟩⟩ := h; obtain rfl := k42_openM s0; exact rfl
theorem k44_mkM (w : World) (base : Nat) (ok : Nat → Prop) (x : S44)  : k44.M w base ok x [.int .i64 x.f0.f0, .int .i64 x.f0.f1, .int .u8 x.f1, .int .u8 x.f2] := ⟨[.int .i64 x.f0.f0, .int .i64 x.f0.f1], [.int .u8 x.f1, .int .u8 x.f2], rfl, (k42_mkM w base ok x.f0 ), ⟨[.int .u8 x.f1], [.int .u8 x.f2], rfl, rfl, rfl⟩⟩
def zbD (xs : List S44) (i : Int) : S44 := xs.getD i.toNat z44
theorem at_T44 {w : World} {A : Option Addr} {n : Nat} {xs : List S44} (h : Kd.C k44 w A n xs) (i : Int) (h0 : 0 ≤ i) (h1 : i < n) : ∃ ad , A = some ad ∧ w.cell? (ad.add (i.toNat * 4)) = some (.int .i64 (zbD xs i).f0.f0) ∧ w.cell? ⟨(ad.add (i.toNat * 4)).block, (ad.add (i.toNat * 4)).off + 1, none⟩ = some (.int .i64 (zbD xs i).f0.f1) ∧ w.cell? ⟨(ad.add (i.toNat * 4)).block, (ad.add (i.toNat * 4)).off + 2, none⟩ = some (.int .u8 (zbD xs i).f1) ∧ w.cell? ⟨(ad.add (i.toNat * 4)).block, (ad.add (i.toNat * 4)).off + 3, none⟩ = some (.int .u8 (zbD xs i).f2) := by
 obtain ⟨ad, c, e, _, hK, hc0⟩ := Kd.C_get h z44 i h0 h1; have hc : ∀ j u, c[j]? = some u → w.cell? (ad.add (i.toNat * 4 + j)) = some u := hc0; obtain rfl := k44_open hK; exact ⟨ad, e, hc 0 _ rfl, by rw [← zbe _ _ 1 (by omega)]; exact hc 1 _ rfl, by rw [← zbe _ _ 2 (by omega)]; exact hc 2 _ rfl, by rw [← zbe _ _ 3 (by omega)]; exact hc 3 _ rfl⟩
structure S50 where
 f0 : Int
 f1 : Int
 f2 : Int
def z50 : S50 := ⟨(0 : Int), (0 : Int), (0 : Int)⟩
def k50 : Kd S50 := Kd.iso (Kd.pair (Kd.int .u8) (Kd.pair (Kd.int .i64) (Kd.int .i64))) (fun x : S50 => (x.f0, x.f1, x.f2))
theorem k50_heap : Kd.Heap k50 := Kd.heap_iso _ (Kd.heap_pair (Kd.heap_int .u8) (Kd.heap_pair (Kd.heap_int .i64) (Kd.heap_int .i64)))
theorem k50_open {w : World} {x : S50} {cs : List Value} (h : k50.K w x cs) : cs = [.int .u8 x.f0, .int .i64 x.f1, .int .i64 x.f2] := by
 obtain ⟨_, _, rfl, rfl, ⟨_, _, rfl, rfl, rfl⟩⟩ := h; exact rfl
theorem k50_mkM (w : World) (base : Nat) (ok : Nat → Prop) (x : S50)  : k50.M w base ok x [.int .u8 x.f0, .int .i64 x.f1, .int .i64 x.f2] := ⟨[.int .u8 x.f0], [.int .i64 x.f1, .int .i64 x.f2], rfl, rfl, ⟨[.int .i64 x.f1], [.int .i64 x.f2], rfl, rfl, rfl⟩⟩
def zbP (xs : List S50) (i : Int) : S50 := xs.getD i.toNat z50
theorem at_T50 {w : World} {A : Option Addr} {n : Nat} {xs : List S50} (h : Kd.C k50 w A n xs) (i : Int) (h0 : 0 ≤ i) (h1 : i < n) : ∃ ad , A = some ad ∧ w.cell? (ad.add (i.toNat * 3)) = some (.int .u8 (zbP xs i).f0) ∧ w.cell? ⟨(ad.add (i.toNat * 3)).block, (ad.add (i.toNat * 3)).off + 1, none⟩ = some (.int .i64 (zbP xs i).f1) ∧ w.cell? ⟨(ad.add (i.toNat * 3)).block, (ad.add (i.toNat * 3)).off + 2, none⟩ = some (.int .i64 (zbP xs i).f2) := by
 obtain ⟨ad, c, e, _, hK, hc0⟩ := Kd.C_get h z50 i h0 h1; have hc : ∀ j u, c[j]? = some u → w.cell? (ad.add (i.toNat * 3 + j)) = some u := hc0; obtain rfl := k50_open hK; exact ⟨ad, e, hc 0 _ rfl, by rw [← zbe _ _ 1 (by omega)]; exact hc 1 _ rfl, by rw [← zbe _ _ 2 (by omega)]; exact hc 2 _ rfl⟩
end
theorem append_elem {α : Type} (d : Kd α) (e t : Nat) {X Y : World} {base n cv bytes : Nat} {ok : Nat → Prop} {Av : Option Addr} {L : List α} {z : Value} (hR : d.R e X base ok (.slice Av n cv) L) (hbase : base ≤ X.heap.size) (hfresh : ∀ k, X.heap.size ≤ k → ok k)
  (ht : Try.prog.underlying t = some (.slice e)) (hinfo : (Try.prog.info? e).map (fun i => (i.zero, i.size, i.bytes)) = some (some z, d.sz, bytes)) (hzs : z.cells.size = d.sz) (hs0 : 0 < d.sz) (hb0 : 0 < bytes) (hl : (L.length + 1) * bytes ≤ 140737488355328)
  (hbY : Below X.heap.size X Y) (p : α) (cs : List Value) (hnew : Y.heap[X.heap.size]? = some (.cells cs.toArray e (0, 0))) (hp : d.M Y base (fun _ => False) p cs) (hcs : cs.length = d.sz) (h1 : ∀ u ∈ cs, u.oneCell' = true) :
  ∃ g cap w1, (Builtin.append_ #[t, t] t #[.slice Av n cv, .slice (some ⟨X.heap.size, 0, none⟩) 1 1]).run Try.prog Y = .ok (.slice (some ⟨g, 0, none⟩) (n + 1) cap) w1 ∧
   X.grownBy w1 (Value.slice Av n cv).ownBlock ∧ ((Value.slice Av n cv).ownBlock = some g ∨ X.heap.size ≤ g) ∧ base ≤ g ∧ n = L.length ∧
   d.R e w1 base ok (.slice (some ⟨g, 0, none⟩) (n + 1) cap) (L ++ [p]) := by
 obtain ⟨i0, hi, hzz⟩ := Option.map_eq_some_iff.1 hinfo; simp only [Prod.mk.injEq] at hzz; obtain ⟨hz0, hz1, hz2⟩ := hzz; have hn : n = L.length := (Kd.zbt hR).1; have hgY : X.grownBy Y none := ⟨hbY.os, hbY.tape, hbY.output, hbY.size, fun q hq _ => hbY.block q hq⟩
 have hRY := Kd.zbT hR hbY; obtain ⟨h0, inner, hown, hr⟩ := hRY; rw [← hn] at hown; obtain ⟨v1, w1, hrun, hown1, hg1, hnil, hat⟩ := run_append_own_at (P := Try.prog) (w := Y) base t t e i0 z d.sz bytes ht hi hz0 hz1 hz2 hzs hs0 _ n inner hown ⟨X.heap.size, 0, none⟩ 1 1 cs (by rw [hcs, Nat.one_mul])
  (fun j u hu => by rw [show (⟨X.heap.size, 0, none⟩ : Addr).add j = ⟨X.heap.size, j, none⟩ by simp [Addr.add, eq_comm], zaf hnew j, List.getElem?_toArray]; exact hu) h1
  (by simp only [maxLen]; rw [hn]; have : L.length + 1 ≤ (L.length + 1) * bytes := Nat.le_mul_of_pos_right _ hb0; omega) (by rw [hn]; exact hl) (Nat.le_trans hbase hbY.size)
 obtain ⟨g, cap, cur, rfl, hbg, hcur, hncap, hcapm, hcs', htake⟩ : ∃ g cap cur, v1 = .slice (some ⟨g, 0, none⟩) (n + 1) cap ∧ base ≤ g ∧ w1.heap[g]? = some (.cells cur e (0, 0)) ∧ n + 1 ≤ cap ∧ cap ≤ maxLen ∧ cur.size = cap * d.sz ∧ cur.toList.take ((n + 1) * d.sz) = inner ++ cs := by
  rcases hown1.2 with ⟨_, h⟩ | h
  ·omega
  ·exact h
 have hat' : (Value.slice (some ⟨g, 0, none⟩) (n + 1) cap).ownBlock = (Value.slice Av n cv).ownBlock ∨ ∃ b, (Value.slice (some ⟨g, 0, none⟩) (n + 1) cap).ownBlock = some b ∧ Y.heap.size ≤ b := hat.imp_right (fun h => ⟨_, h, Nat.le_refl _⟩)
 have hgX : X.grownBy w1 (Value.slice Av n cv).ownBlock := World.grownBy.trans ⟨hbY.os, hbY.tape, hbY.output, hbY.size, fun q hq _ => hbY.block q hq⟩ hg1
 have hgo : (Value.slice Av n cv).ownBlock = some g ∨ X.heap.size ≤ g := by
  rcases hat' with h | ⟨b, h, hb⟩
  ·exact .inl (by rw [← h]; rfl)
  ·simp only [Value.ownBlock, Option.some.injEq] at h
   exact .inr (by have := hbY.size; omega)
 exact ⟨g, cap, w1, hrun, hgX, hgo, hbg, hn, Kd.R_appended h0 hr hp (fun _ h => h.elim) (fun q hq => hfresh q (Nat.le_trans hbY.size hq)) (by rw [← hn]; exact hown1) hg1 hat'⟩
theorem append_elemN {α : Type} (d : Kd α) (e t : Nat) {X Y : World} {base n cv bytes : Nat} {ok okp : Nat → Prop} {Av : Option Addr} {L : List α} {z : Value} (hN : d.N e X base ok (.slice Av n cv) L) (hbase : base ≤ X.heap.size) (hfresh : ∀ k, X.heap.size ≤ k → ok k)
  (ht : Try.prog.underlying t = some (.slice e)) (hinfo : (Try.prog.info? e).map (fun i => (i.zero, i.size, i.bytes)) = some (some z, d.sz, bytes)) (hzs : z.cells.size = d.sz) (hs0 : 0 < d.sz) (hb0 : 0 < bytes) (hl : (L.length + 1) * bytes ≤ 140737488355328)
  (hbY : Below X.heap.size X Y) (p : α) (cs : List Value) (hnew : Y.heap[X.heap.size]? = some (.cells cs.toArray e (0, 0))) (hp : d.FK X okp p cs) (hokp : ∀ k, okp k → ok k ∧ some k ≠ (Value.slice Av n cv).ownBlock) :
  ∃ g cap w1, (Builtin.append_ #[t, t] t #[.slice Av n cv, .slice (some ⟨X.heap.size, 0, none⟩) 1 1]).run Try.prog Y = .ok (.slice (some ⟨g, 0, none⟩) (n + 1) cap) w1 ∧
   X.grownBy w1 (Value.slice Av n cv).ownBlock ∧ ((Value.slice Av n cv).ownBlock = some g ∨ X.heap.size ≤ g) ∧ base ≤ g ∧ n = L.length ∧
   d.N e w1 base ok (.slice (some ⟨g, 0, none⟩) (n + 1) cap) (L ++ [p]) := by
 obtain ⟨h0, rows, hrl, hR, hf⟩ := hN; have hc := Kd.FK_raw hp; obtain ⟨g, cap, w1, hrun, hgr, hat, hbg, hn, hR1⟩ := append_elem (Kd.raw d.sz) e t (Kd.raw_any hR) hbase (fun _ _ => trivial) ht hinfo hzs hs0 hb0 (by rw [hrl]; exact hl) hbY cs cs hnew ⟨rfl, hc.2.1, hc.2.2⟩ hc.2.1 hc.2.2
 refine ⟨g, cap, w1, hrun, hgr, hat, hbg, by rw [hn, hrl], ?_⟩
 refine Kd.N_appended (news := [cs]) (ys := [p]) h0 hrl hf rfl (fun j x c hx hc' => ?_) hokp hfresh hR1 hgr (hat.imp (fun h => h.symm) (fun h => ⟨g, by simp [Value.ownBlock], h⟩))
 match j, hx, hc' with
 | 0, hx, hc' =>
  simp only [List.getElem?_cons_zero, Option.some.injEq] at hx hc'; subst hx hc'; exact hp
 | j + 1, hx, _ => simp at hx
section
attribute [local go_sem] zbq zbo zbx zbw zbg zbf zbp zbn
def zbK.f (a0 : Int) : Option (Bool) := if a0 ≥ 1 then (if a0 ≤ 17 then (some true) else (if a0 ≥ 20 then (some (decide (a0 ≤ 40))) else (some false))) else (if a0 ≥ 20 then (some (decide (a0 ≤ 40))) else (some false))
set_option maxHeartbeats 8000000 in
set_option maxRecDepth 100000 in
theorem zbK.calls (a0 : Int) (r : Bool) (w : World) (h : zbK.f a0 = some r) :
  Calls Try.prog 72 #[.int .u8 a0] w fun e w' => e = .returned (.bool r) ∧ zaC w w' := by
 have H : (if a0 ≥ 1 then (if a0 ≤ 17 then (some true) else (if a0 ≥ 20 then (some (decide (a0 ≤ 40))) else (some false))) else (if a0 ≥ 20 then (some (decide (a0 ≤ 40))) else (some false))) = some r := h
 clear h; by_cases c2 : a0 ≥ 1
 ·rw [if_pos c2] at H
  have c2b0 : decide (1 ≤ a0) = true := decide_eq_true c2; clear c2; by_cases c3 : a0 ≤ 17
  ·rw [if_pos c3] at H
   have c3b0 : decide (a0 ≤ 17) = true := decide_eq_true c3; clear c3; obtain rfl := Option.some.inj H; go_enter Try.func72, Try.ntmps72
   go_wp2
   go_ret
   exact ⟨by first | rfl | (simp; done) | (simp [*]; done), by repeat (first | exact zaC.refl _ | apply zaC.step)⟩
  ·rw [if_neg c3] at H
   have c3b0 : decide (a0 ≤ 17) = false := decide_eq_false c3; clear c3; by_cases c4 : a0 ≥ 20
   ·rw [if_pos c4] at H
    have c4b0 : decide (20 ≤ a0) = true := decide_eq_true c4; clear c4; obtain rfl := Option.some.inj H; go_enter Try.func72, Try.ntmps72
    go_wp2
    go_ret
    exact ⟨by first | rfl | (simp; done) | (simp [*]; done), by repeat (first | exact zaC.refl _ | apply zaC.step)⟩
   ·rw [if_neg c4] at H
    have c4b0 : decide (20 ≤ a0) = false := decide_eq_false c4; clear c4; obtain rfl := Option.some.inj H; go_enter Try.func72, Try.ntmps72
    go_wp2
    go_ret
    exact ⟨by first | rfl | (simp; done) | (simp [*]; done), by repeat (first | exact zaC.refl _ | apply zaC.step)⟩
 ·rw [if_neg c2] at H
  have c2b0 : decide (1 ≤ a0) = false := decide_eq_false c2; clear c2; by_cases c5 : a0 ≥ 20
  ·rw [if_pos c5] at H
   have c5b0 : decide (20 ≤ a0) = true := decide_eq_true c5; clear c5; obtain rfl := Option.some.inj H; go_enter Try.func72, Try.ntmps72
   go_wp2
   go_ret
   exact ⟨by first | rfl | (simp; done) | (simp [*]; done), by repeat (first | exact zaC.refl _ | apply zaC.step)⟩
  ·rw [if_neg c5] at H
   have c5b0 : decide (20 ≤ a0) = false := decide_eq_false c5; clear c5; obtain rfl := Option.some.inj H; go_enter Try.func72, Try.ntmps72
   go_wp2
   go_ret
   exact ⟨by first | rfl | (simp; done) | (simp [*]; done), by repeat (first | exact zaC.refl _ | apply zaC.step)⟩
def zaO.l0 : Nat → List Int → Int → Int → Int → Option (Int)
 | 0, _, _, _, _ => none
 | k + 1, x0, x1, x7, x8 => if x8 < x7 then (if 0 ≤ x8 then (if x8 < (x0.length : Int) then (if x1 = (rd x0 x8) then (some x8) else (zaO.l0 k x0 x1 x7 (wrap64 (x8 + 1)))) else (none)) else (none)) else (some (-1))
def zaO.f (k : Nat) (l0 : List Int) (a1 : Int) : Option (Int) := zaO.l0 k l0 a1 (l0.length : Int) 0
theorem zaO.zbr : ∀ k, (∀ y0 y1 y2 y3, LeO (zaO.l0 k y0 y1 y2 y3) (zaO.l0 (k + 1) y0 y1 y2 y3))
 | 0 => fun _ _ _ _ r h => by simp [zaO.l0] at h
 | k + 1 => by
  have ih0 := zaO.zbr k
  ·intro y0 y1 y2 y3
   unfold zaO.l0
   repeat' first
   | (with_reducible exact ih0 _ _ _ _)
   | (with_reducible exact LeO.refl _)
   | (with_reducible exact LeO.none _)
   | (with_reducible refine LeO.ite ?_ ?_)
   | (with_reducible refine LeO.bind ?_ (fun _ => ?_))
theorem zaO.mono : ∀ a0 a1 k, LeO (zaO.f k a0 a1) (zaO.f (k + 1) a0 a1) := by
 intro a0 a1 k
 have ih0 := zaO.zbr k; unfold zaO.f
 repeat' first
   | (with_reducible exact ih0 _ _ _ _)
   | (with_reducible exact LeO.refl _)
   | (with_reducible exact LeO.none _)
   | (with_reducible refine LeO.ite ?_ ?_)
   | (with_reducible refine LeO.bind ?_ (fun _ => ?_))
set_option maxHeartbeats 8000000 in
set_option maxRecDepth 100000 in
theorem zaO.calls (k : Nat) (A0 : Option Addr) (c0 : Nat) (l0 : List Int) (a1 : Int) (r : Int) (w : World) (hr0 : Kd.C (Kd.int .u8) w A0 l0.length l0) (hc0 : l0.length ≤ c0) (h : zaO.f k l0 a1 = some r) :
  Calls Try.prog 77 #[.slice A0 l0.length c0, .int .u8 a1] w fun e w' => e = .returned (.int .i64 r) ∧ zaC w w' := by
 have HR0 := zaa.mk hr0; have HC0 := zaa.mk hc0; clear hr0 hc0; have H : (zaO.l0 k l0 a1 (l0.length : Int) 0) = some r := h; clear h; have H' := zaa.mk H; clear H; go_enter Try.func77, Try.ntmps77
 go_wp2
 go_loopg [8] k (fun kq v8 w' => ∃ (x8_1 : Int), v8 = .int .i64 x8_1 ∧ zaa (zaO.l0 kq l0 a1 (l0.length : Int) x8_1 = some r) ∧ zaa (kq ≤ k) ∧ zaC w w')
 case atStart => exact ⟨(0), (by first | rfl | (simp; done) | (simp [*]; done)), H', ⟨Nat.le_refl _⟩, by repeat (first | exact zaC.refl _ | apply zaC.step)⟩
 case round =>
  clear H'; try clear p2
  obtain ⟨x8_1, rfl, HA, HK1, ⟨m1, rfl⟩⟩ := hrel; cases gk with
  | zero => exact absurd HA.out (by simp [zaO.l0])
  | succ k1 =>
   have H := HA.out; clear HA; simp only [zaO.l0] at H; by_cases c3 : x8_1 < (l0.length : Int)
   ·rw [if_pos c3] at H
    have c3b0 : decide (x8_1 < (l0.length : Int)) = true := decide_eq_true c3; clear c3; by_cases c4 : 0 ≤ x8_1
    ·rw [if_pos c4] at H
     have c4b0 : decide (0 ≤ x8_1) = true := decide_eq_true c4; clear c4; by_cases c5 : x8_1 < (l0.length : Int)
     ·rw [if_pos c5] at H
      have c5b0 : decide (x8_1 < (l0.length : Int)) = true := decide_eq_true c5; clear c5; by_cases c6 : a1 = (rd l0 x8_1)
      ·rw [if_pos c6] at H
       have c6b0 : (a1 == (rd l0 x8_1)) = true := beq_iff_eq.mpr c6; have c6b1 : (a1 != (rd l0 x8_1)) = false := bne_eq_false_iff_eq.mpr c6; clear c6; obtain rfl := Option.some.inj H; have p215 : 0 ≤ (x8_1 : Int) := of_decide_eq_true (by assumption)
       have q215 : x8_1 < (l0.length : Int) := of_decide_eq_true (by assumption)
       obtain ⟨ad215, e215, hx215_0⟩ := Kd.at_int HR0.out x8_1 p215 q215; cases e215; replace p215 := eq_true p215; replace q215 := eq_true q215; go_wp2
       go_ret
       exact ⟨by first | rfl | (simp; done) | (simp [*]; done), by repeat (first | exact zaC.refl _ | apply zaC.step)⟩
      ·rw [if_neg c6] at H
       have c6b0 : (a1 == (rd l0 x8_1)) = false := beq_eq_false_iff_ne.mpr c6; have c6b1 : (a1 != (rd l0 x8_1)) = true := bne_iff_ne.mpr c6; have H' := zaa.mk H; clear H; have p215 : 0 ≤ (x8_1 : Int) := of_decide_eq_true (by assumption)
       have q215 : x8_1 < (l0.length : Int) := of_decide_eq_true (by assumption)
       obtain ⟨ad215, e215, hx215_0⟩ := Kd.at_int HR0.out x8_1 p215 q215; cases e215; replace p215 := eq_true p215; replace q215 := eq_true q215; go_wp2
       go_roundg k1
       case measure => have := HK1.out; omega
       case rel => exact ⟨(wrap64 (x8_1 + 1)), (by first | rfl | (simp; done) | (simp [*]; done)), H', ⟨by have := HK1.out; omega⟩, by repeat (first | exact zaC.refl _ | apply zaC.step)⟩
     ·rw [if_neg c5] at H
      exact absurd H (by simp)
    ·rw [if_neg c4] at H
     exact absurd H (by simp)
   ·rw [if_neg c3] at H
    have c3b0 : decide (x8_1 < (l0.length : Int)) = false := decide_eq_false c3; clear c3; obtain rfl := Option.some.inj H; go_wp2
    go_ret
    exact ⟨by first | rfl | (simp; done) | (simp [*]; done), by repeat (first | exact zaC.refl _ | apply zaC.step)⟩
def zbb.f (k : Nat) (l0 : List Int) (a1 : Int) : Option (Bool) := (zaO.f k l0 a1).bind fun t216 => (some (decide (t216 ≥ 0)))
theorem zbb.mono : ∀ a0 a1 k, LeO (zbb.f k a0 a1) (zbb.f (k + 1) a0 a1) := by
 intro a0 a1 k
 unfold zbb.f
 repeat' first
   | (with_reducible exact zaO.mono _ _ _)
   | (with_reducible exact LeO.refl _)
   | (with_reducible exact LeO.none _)
   | (with_reducible refine LeO.ite ?_ ?_)
   | (with_reducible refine LeO.bind ?_ (fun _ => ?_))
   | exact zaO.mono _ _ _
   | exact LeO.none _
   | refine LeO.ite ?_ ?_
   | refine LeO.bind ?_ (fun _ => ?_)
set_option maxHeartbeats 8000000 in
set_option maxRecDepth 100000 in
theorem zbb.calls (k : Nat) (A0 : Option Addr) (c0 : Nat) (l0 : List Int) (a1 : Int) (r : Bool) (w : World) (hr0 : Kd.C (Kd.int .u8) w A0 l0.length l0) (hc0 : l0.length ≤ c0) (h : zbb.f k l0 a1 = some r) :
  Calls Try.prog 76 #[.slice A0 l0.length c0, .int .u8 a1] w fun e w' => e = .returned (.bool r) ∧ zaC w w' := by
 have HR0 := zaa.mk hr0; have HC0 := zaa.mk hc0; clear hr0 hc0; have H : ((zaO.f k l0 a1).bind fun t216 => (some (decide (t216 ≥ 0)))) = some r := h
 clear h; replace H := Option.bind_eq_some_iff.mp H; obtain ⟨t216, A30, H⟩ := H; replace H : (some (decide (t216 ≥ 0))) = some r := H; have A3 := zaa.mk A30; clear A30; obtain rfl := Option.some.inj H; go_enter Try.func76, Try.ntmps76
 go_wp2_with (first | ((with_reducible refine zaS (f := 77) rfl ?_); refine zbj (some 7) rfl rfl Try.func77 (by kernel_rfl) rfl #[.slice A0 l0.length c0, .int .u8 a1] rfl (by (try simp only [List.map_toArray, List.map_cons, List.map_nil]); first | done | rfl | (simp only [List.length_drop, List.length_take]; rfl)) ?_; (with_reducible refine (zaO.calls k _ _ l0 a1 t216 _ ?side1 ?side2 A3.out).mono ?_); (case side1 => repeat (first | exact HR0.out | (with_reducible refine Kd.zb4 ?_ _) | (with_reducible refine Kd.zb3 ?_ _) | (with_reducible refine Kd.zb5 ?_))); (case side2 => exact HC0.out); rintro e w' ⟨rfl, ⟨nd, rfl⟩⟩; refine ⟨_, rfl, ?_⟩))
 go_ret
 exact ⟨by first | rfl | (simp; done) | (simp [*]; done), by repeat (first | exact zaC.refl _ | apply zaC.step)⟩
def zaZ.f (a0 : Int) : Option (Bool) := if a0 ≥ 1 then (if a0 ≤ 17 then (some true) else (if a0 ≥ 20 then (some (decide (a0 ≤ 40))) else (some false))) else (if a0 ≥ 20 then (some (decide (a0 ≤ 40))) else (some false))
set_option maxHeartbeats 8000000 in
set_option maxRecDepth 100000 in
theorem zaZ.calls (a0 : Int) (r : Bool) (w : World) (h : zaZ.f a0 = some r) :
  Calls Try.prog 21 #[.int .u8 a0] w fun e w' => e = .returned (.bool r) ∧ zaC w w' := by
 have H : (if a0 ≥ 1 then (if a0 ≤ 17 then (some true) else (if a0 ≥ 20 then (some (decide (a0 ≤ 40))) else (some false))) else (if a0 ≥ 20 then (some (decide (a0 ≤ 40))) else (some false))) = some r := h
 clear h; by_cases c2 : a0 ≥ 1
 ·rw [if_pos c2] at H
  have c2b0 : decide (1 ≤ a0) = true := decide_eq_true c2; clear c2; by_cases c3 : a0 ≤ 17
  ·rw [if_pos c3] at H
   have c3b0 : decide (a0 ≤ 17) = true := decide_eq_true c3; clear c3; obtain rfl := Option.some.inj H; go_enter Try.func21, Try.ntmps21
   go_wp2
   go_ret
   exact ⟨by first | rfl | (simp; done) | (simp [*]; done), by repeat (first | exact zaC.refl _ | apply zaC.step)⟩
  ·rw [if_neg c3] at H
   have c3b0 : decide (a0 ≤ 17) = false := decide_eq_false c3; clear c3; by_cases c4 : a0 ≥ 20
   ·rw [if_pos c4] at H
    have c4b0 : decide (20 ≤ a0) = true := decide_eq_true c4; clear c4; obtain rfl := Option.some.inj H; go_enter Try.func21, Try.ntmps21
    go_wp2
    go_ret
    exact ⟨by first | rfl | (simp; done) | (simp [*]; done), by repeat (first | exact zaC.refl _ | apply zaC.step)⟩
   ·rw [if_neg c4] at H
    have c4b0 : decide (20 ≤ a0) = false := decide_eq_false c4; clear c4; obtain rfl := Option.some.inj H; go_enter Try.func21, Try.ntmps21
    go_wp2
    go_ret
    exact ⟨by first | rfl | (simp; done) | (simp [*]; done), by repeat (first | exact zaC.refl _ | apply zaC.step)⟩
 ·rw [if_neg c2] at H
  have c2b0 : decide (1 ≤ a0) = false := decide_eq_false c2; clear c2; by_cases c5 : a0 ≥ 20
  ·rw [if_pos c5] at H
   have c5b0 : decide (20 ≤ a0) = true := decide_eq_true c5; clear c5; obtain rfl := Option.some.inj H; go_enter Try.func21, Try.ntmps21
   go_wp2
   go_ret
   exact ⟨by first | rfl | (simp; done) | (simp [*]; done), by repeat (first | exact zaC.refl _ | apply zaC.step)⟩
  ·rw [if_neg c5] at H
   have c5b0 : decide (20 ≤ a0) = false := decide_eq_false c5; clear c5; obtain rfl := Option.some.inj H; go_enter Try.func21, Try.ntmps21
   go_wp2
   go_ret
   exact ⟨by first | rfl | (simp; done) | (simp [*]; done), by repeat (first | exact zaC.refl _ | apply zaC.step)⟩
def za4.f (a0 : Int) : Option (Bool) := if a0 = 1 then (some false) else (if a0 = 2 then (some false) else (if a0 = 3 then (some false) else (if a0 = 4 then (some false) else (if a0 = 5 then (some false) else (if a0 = 9 then (some false) else ((zaZ.f a0).bind fun t140 => (some t140)))))))
set_option maxHeartbeats 8000000 in
set_option maxRecDepth 100000 in
theorem za4.calls (a0 : Int) (r : Bool) (w : World) (h : za4.f a0 = some r) :
  Calls Try.prog 64 #[.int .u8 a0] w fun e w' => e = .returned (.bool r) ∧ zaC w w' := by
 have H : (if a0 = 1 then (some false) else (if a0 = 2 then (some false) else (if a0 = 3 then (some false) else (if a0 = 4 then (some false) else (if a0 = 5 then (some false) else (if a0 = 9 then (some false) else ((zaZ.f a0).bind fun t140 => (some t140)))))))) = some r := h
 clear h; by_cases c2 : a0 = 1
 ·rw [if_pos c2] at H
  have c2b0 : (a0 == 1) = true := beq_iff_eq.mpr c2; have c2b1 : (a0 != 1) = false := bne_eq_false_iff_eq.mpr c2; clear c2; obtain rfl := Option.some.inj H; go_enter Try.func64, Try.ntmps64
  go_wp2
  go_ret
  exact ⟨by first | rfl | (simp; done) | (simp [*]; done), by repeat (first | exact zaC.refl _ | apply zaC.step)⟩
 ·rw [if_neg c2] at H
  have c2b0 : (a0 == 1) = false := beq_eq_false_iff_ne.mpr c2; have c2b1 : (a0 != 1) = true := bne_iff_ne.mpr c2; by_cases c3 : a0 = 2
  ·rw [if_pos c3] at H
   have c3b0 : (a0 == 2) = true := beq_iff_eq.mpr c3; have c3b1 : (a0 != 2) = false := bne_eq_false_iff_eq.mpr c3; clear c3; obtain rfl := Option.some.inj H; go_enter Try.func64, Try.ntmps64
   go_wp2
   go_ret
   exact ⟨by first | rfl | (simp; done) | (simp [*]; done), by repeat (first | exact zaC.refl _ | apply zaC.step)⟩
  ·rw [if_neg c3] at H
   have c3b0 : (a0 == 2) = false := beq_eq_false_iff_ne.mpr c3; have c3b1 : (a0 != 2) = true := bne_iff_ne.mpr c3; by_cases c4 : a0 = 3
   ·rw [if_pos c4] at H
    have c4b0 : (a0 == 3) = true := beq_iff_eq.mpr c4; have c4b1 : (a0 != 3) = false := bne_eq_false_iff_eq.mpr c4; clear c4; obtain rfl := Option.some.inj H; go_enter Try.func64, Try.ntmps64
    go_wp2
    go_ret
    exact ⟨by first | rfl | (simp; done) | (simp [*]; done), by repeat (first | exact zaC.refl _ | apply zaC.step)⟩
   ·rw [if_neg c4] at H
    have c4b0 : (a0 == 3) = false := beq_eq_false_iff_ne.mpr c4; have c4b1 : (a0 != 3) = true := bne_iff_ne.mpr c4; by_cases c5 : a0 = 4
    ·rw [if_pos c5] at H
     have c5b0 : (a0 == 4) = true := beq_iff_eq.mpr c5; have c5b1 : (a0 != 4) = false := bne_eq_false_iff_eq.mpr c5; clear c5; obtain rfl := Option.some.inj H; go_enter Try.func64, Try.ntmps64
     go_wp2
     go_ret
     exact ⟨by first | rfl | (simp; done) | (simp [*]; done), by repeat (first | exact zaC.refl _ | apply zaC.step)⟩
    ·rw [if_neg c5] at H
     have c5b0 : (a0 == 4) = false := beq_eq_false_iff_ne.mpr c5; have c5b1 : (a0 != 4) = true := bne_iff_ne.mpr c5; by_cases c6 : a0 = 5
     ·rw [if_pos c6] at H
      have c6b0 : (a0 == 5) = true := beq_iff_eq.mpr c6; have c6b1 : (a0 != 5) = false := bne_eq_false_iff_eq.mpr c6; clear c6; obtain rfl := Option.some.inj H; go_enter Try.func64, Try.ntmps64
      go_wp2
      go_ret
      exact ⟨by first | rfl | (simp; done) | (simp [*]; done), by repeat (first | exact zaC.refl _ | apply zaC.step)⟩
     ·rw [if_neg c6] at H
      have c6b0 : (a0 == 5) = false := beq_eq_false_iff_ne.mpr c6; have c6b1 : (a0 != 5) = true := bne_iff_ne.mpr c6; by_cases c7 : a0 = 9
      ·rw [if_pos c7] at H
       have c7b0 : (a0 == 9) = true := beq_iff_eq.mpr c7; have c7b1 : (a0 != 9) = false := bne_eq_false_iff_eq.mpr c7; clear c7; obtain rfl := Option.some.inj H; go_enter Try.func64, Try.ntmps64
       go_wp2
       go_ret
       exact ⟨by first | rfl | (simp; done) | (simp [*]; done), by repeat (first | exact zaC.refl _ | apply zaC.step)⟩
      ·rw [if_neg c7] at H
       have c7b0 : (a0 == 9) = false := beq_eq_false_iff_ne.mpr c7; have c7b1 : (a0 != 9) = true := bne_iff_ne.mpr c7; replace H := Option.bind_eq_some_iff.mp H; obtain ⟨t140, A80, H⟩ := H; replace H : (some t140) = some r := H; have A8 := zaa.mk A80; clear A80; obtain rfl := Option.some.inj H; go_enter Try.func64, Try.ntmps64
       go_wp2_with (first | ((with_reducible refine zaS (f := 21) rfl ?_); refine zbj (some 12) rfl rfl Try.func21 (by kernel_rfl) rfl #[.int .u8 a0] rfl (by (try simp only [List.map_toArray, List.map_cons, List.map_nil]); first | done | rfl | (simp only [List.length_drop, List.length_take]; rfl)) ?_; (with_reducible refine (zaZ.calls a0 t140 _ A8.out).mono ?_); rintro e w' ⟨rfl, ⟨nd, rfl⟩⟩; refine ⟨_, rfl, ?_⟩))
       go_ret
       exact ⟨by first | rfl | (simp; done) | (simp [*]; done), by repeat (first | exact zaC.refl _ | apply zaC.step)⟩
def zbz.f (a0_0 : Int) (a0_1 : Int) (a0_2 : Int) (l0_3 : List (S25)) : Option (Bool) := if (l0_3.length : Int) > 0 then (some false) else (if a0_0 = 50 then (if a0_2 = 0 then ((za4.f a0_1).bind fun t142 => (if t142 = true then (some true) else (if a0_1 = 60 then (some true) else (some (a0_1 == 52))))) else (some false)) else ((zaZ.f a0_0).bind fun t143 => (if t143 = true then (if a0_2 ≥ 1 then (if a0_2 ≤ 1099511627776 then (some (a0_1 == 0)) else (some false)) else (some false)) else (some false))))
set_option maxHeartbeats 8000000 in
set_option maxRecDepth 100000 in
theorem zbz.calls (a0_0 : Int) (a0_1 : Int) (a0_2 : Int) (A0_3 : Option Addr) (c0_3 : Nat) (l0_3 : List (S25)) (r : Bool) (w : World) (hr0_3 : Kd.C k25 w A0_3 l0_3.length l0_3) (hc0_3 : l0_3.length ≤ c0_3) (h : zbz.f a0_0 a0_1 a0_2 l0_3 = some r) :
  Calls Try.prog 60 #[.agg #[.int .u8 a0_0, .int .u8 a0_1, .int .i64 a0_2, .slice A0_3 l0_3.length c0_3]] w fun e w' => e = .returned (.bool r) ∧ Below w.heap.size w w' := by
 have hu25 := Try.underlying25; have HR0_3 := zaa.mk hr0_3; have HC0_3 := zaa.mk hc0_3; clear hr0_3 hc0_3; have HB := zaa.mk (Below.refl w.heap.size w); have H : (if (l0_3.length : Int) > 0 then (some false) else (if a0_0 = 50 then (if a0_2 = 0 then ((za4.f a0_1).bind fun t142 => (if t142 = true then (some true) else (if a0_1 = 60 then (some true) else (some (a0_1 == 52))))) else (some false)) else ((zaZ.f a0_0).bind fun t143 => (if t143 = true then (if a0_2 ≥ 1 then (if a0_2 ≤ 1099511627776 then (some (a0_1 == 0)) else (some false)) else (some false)) else (some false))))) = some r := h
 clear h; by_cases c2 : (l0_3.length : Int) > 0
 ·rw [if_pos c2] at H
  have c2b0 : decide (0 < (l0_3.length : Int)) = true := decide_eq_true c2; have c2b1 : decide (0 < l0_3.length) = true := decide_eq_true (by omega)
  clear c2; obtain rfl := Option.some.inj H; go_enter Try.func60, Try.ntmps60
  go_wp2_with (first | ((with_reducible refine za7 (N := 1) rfl ?_); refine zbl ?hg (N := 1) ?hd (cs := #[.int .u8 a0_0, .int .u8 a0_1, .int .i64 a0_2, .slice A0_3 l0_3.length c0_3]) (t := 25) ?hr ?_; (case hd => rfl); (case hg => rfl); (case hr => first | (go_simp; done) | (go_simp; rfl)); intro gb141 hg w3 hbox hb; have n0_ := zaa.mk (zaG (by repeat (first | exact HB.out | apply zad | apply zac | apply zae)) hb); have n1_ := zaa.mk (hbox); have n2_ := zaa.mk ((by rw [hg]; exact (zaB (by repeat (first | exact HB.out | apply zad | apply zac | apply zae))) : w.heap.size ≤ gb141)); have n3_ := zaa.mk ((by rw [hg]; exact (zaB (by repeat (first | exact HB.out | apply zad | apply zac | apply zae))) : w.heap.size ≤ gb141)); clear HB; have HB := n0_; have BK141 := n1_; have GW141 := n2_; have GE141 := n3_; clear n0_ n1_ n2_ n3_; clear hb hbox hg; have hcz4_0 : w3.cell? ⟨gb141, 0, none⟩ = some (.int .u8 a0_0) := (zaf BK141.out 0).trans rfl; have hcz4_1 : w3.cell? ⟨gb141, 1, none⟩ = some (.int .u8 a0_1) := (zaf BK141.out 1).trans rfl; have hcz4_2 : w3.cell? ⟨gb141, 2, none⟩ = some (.int .i64 a0_2) := (zaf BK141.out 2).trans rfl; have hcz4_3 : w3.cell? ⟨gb141, 3, none⟩ = some (.slice A0_3 l0_3.length c0_3) := (zaf BK141.out 3).trans rfl; have hfz4_0 := zab BK141.out 0; have hfz4_1 := zab BK141.out 1; have hfz4_2 := zab BK141.out 2; have hfz4_3 := zab BK141.out 3))
  go_ret
  exact ⟨by first | rfl | (simp [*, zaF, zaE] <;> rfl), by repeat (first | (with_reducible first | exact HB.out | apply zad | apply zac | apply zae | refine zaq ?_ GE141.out) | exact HB.out)⟩
 ·rw [if_neg c2] at H
  have c2b0 : decide (0 < (l0_3.length : Int)) = false := decide_eq_false c2; have c2b1 : decide (0 < l0_3.length) = false := decide_eq_false (by omega)
  clear c2; by_cases c5 : a0_0 = 50
  ·rw [if_pos c5] at H
   have c5b0 : (a0_0 == 50) = true := beq_iff_eq.mpr c5; have c5b1 : (a0_0 != 50) = false := bne_eq_false_iff_eq.mpr c5; clear c5; by_cases c6 : a0_2 = 0
   ·rw [if_pos c6] at H
    have c6b0 : (a0_2 == 0) = true := beq_iff_eq.mpr c6; have c6b1 : (a0_2 != 0) = false := bne_eq_false_iff_eq.mpr c6; clear c6; replace H := Option.bind_eq_some_iff.mp H; obtain ⟨t142, A70, H⟩ := H; replace H : (if t142 = true then (some true) else (if a0_1 = 60 then (some true) else (some (a0_1 == 52)))) = some r := H
    have A7 := zaa.mk A70; clear A70; by_cases c8 : t142 = true
    ·subst c8
     have H1 : (some true) = some r := by rw [if_pos rfl] at H; exact H
     clear H; have H := H1; clear H1; obtain rfl := Option.some.inj H; go_enter Try.func60, Try.ntmps60
     go_wp2_with (first | ((with_reducible refine za7 (N := 1) rfl ?_); refine zbl ?hg (N := 1) ?hd (cs := #[.int .u8 a0_0, .int .u8 a0_1, .int .i64 a0_2, .slice A0_3 l0_3.length c0_3]) (t := 25) ?hr ?_; (case hd => rfl); (case hg => rfl); (case hr => first | (go_simp; done) | (go_simp; rfl)); intro gb141 hg w9 hbox hb; have n0_ := zaa.mk (zaG (by repeat (first | exact HB.out | apply zad | apply zac | apply zae)) hb); have n1_ := zaa.mk (hbox); have n2_ := zaa.mk ((by rw [hg]; exact (zaB (by repeat (first | exact HB.out | apply zad | apply zac | apply zae))) : w.heap.size ≤ gb141)); have n3_ := zaa.mk ((by rw [hg]; exact (zaB (by repeat (first | exact HB.out | apply zad | apply zac | apply zae))) : w.heap.size ≤ gb141)); clear HB; have HB := n0_; have BK141 := n1_; have GW141 := n2_; have GE141 := n3_; clear n0_ n1_ n2_ n3_; clear hb hbox hg; have hcz10_0 : w9.cell? ⟨gb141, 0, none⟩ = some (.int .u8 a0_0) := (zaf BK141.out 0).trans rfl; have hcz10_1 : w9.cell? ⟨gb141, 1, none⟩ = some (.int .u8 a0_1) := (zaf BK141.out 1).trans rfl; have hcz10_2 : w9.cell? ⟨gb141, 2, none⟩ = some (.int .i64 a0_2) := (zaf BK141.out 2).trans rfl; have hcz10_3 : w9.cell? ⟨gb141, 3, none⟩ = some (.slice A0_3 l0_3.length c0_3) := (zaf BK141.out 3).trans rfl; have hfz10_0 := zab BK141.out 0; have hfz10_1 := zab BK141.out 1; have hfz10_2 := zab BK141.out 2; have hfz10_3 := zab BK141.out 3) | (go_at_call 64; (with_reducible refine (za4.calls a0_1 true _ A7.out).mono ?_); rintro e w' ⟨rfl, ⟨nd, rfl⟩⟩))
     go_ret
     exact ⟨by first | rfl | (simp [*, zaF, zaE] <;> rfl), by repeat (first | (with_reducible first | exact HB.out | apply zad | apply zac | apply zae | refine zaq ?_ GE141.out) | exact HB.out)⟩
    ·replace c8 := Bool.eq_false_iff.mpr c8
     subst c8; have H1 : (if a0_1 = 60 then (some true) else (some (a0_1 == 52))) = some r := by rw [if_neg (show ¬ (false = true) by decide)] at H; exact H
     clear H; have H := H1; clear H1; by_cases c11 : a0_1 = 60
     ·rw [if_pos c11] at H
      have c11b0 : (a0_1 == 60) = true := beq_iff_eq.mpr c11; have c11b1 : (a0_1 != 60) = false := bne_eq_false_iff_eq.mpr c11; clear c11; obtain rfl := Option.some.inj H; go_enter Try.func60, Try.ntmps60
      go_wp2_with (first | ((with_reducible refine za7 (N := 1) rfl ?_); refine zbl ?hg (N := 1) ?hd (cs := #[.int .u8 a0_0, .int .u8 a0_1, .int .i64 a0_2, .slice A0_3 l0_3.length c0_3]) (t := 25) ?hr ?_; (case hd => rfl); (case hg => rfl); (case hr => first | (go_simp; done) | (go_simp; rfl)); intro gb141 hg w12 hbox hb; have n0_ := zaa.mk (zaG (by repeat (first | exact HB.out | apply zad | apply zac | apply zae)) hb); have n1_ := zaa.mk (hbox); have n2_ := zaa.mk ((by rw [hg]; exact (zaB (by repeat (first | exact HB.out | apply zad | apply zac | apply zae))) : w.heap.size ≤ gb141)); have n3_ := zaa.mk ((by rw [hg]; exact (zaB (by repeat (first | exact HB.out | apply zad | apply zac | apply zae))) : w.heap.size ≤ gb141)); clear HB; have HB := n0_; have BK141 := n1_; have GW141 := n2_; have GE141 := n3_; clear n0_ n1_ n2_ n3_; clear hb hbox hg; have hcz13_0 : w12.cell? ⟨gb141, 0, none⟩ = some (.int .u8 a0_0) := (zaf BK141.out 0).trans rfl; have hcz13_1 : w12.cell? ⟨gb141, 1, none⟩ = some (.int .u8 a0_1) := (zaf BK141.out 1).trans rfl; have hcz13_2 : w12.cell? ⟨gb141, 2, none⟩ = some (.int .i64 a0_2) := (zaf BK141.out 2).trans rfl; have hcz13_3 : w12.cell? ⟨gb141, 3, none⟩ = some (.slice A0_3 l0_3.length c0_3) := (zaf BK141.out 3).trans rfl; have hfz13_0 := zab BK141.out 0; have hfz13_1 := zab BK141.out 1; have hfz13_2 := zab BK141.out 2; have hfz13_3 := zab BK141.out 3) | (go_at_call 64; (with_reducible refine (za4.calls a0_1 false _ A7.out).mono ?_); rintro e w' ⟨rfl, ⟨nd, rfl⟩⟩))
      go_ret
      exact ⟨by first | rfl | (simp [*, zaF, zaE] <;> rfl), by repeat (first | (with_reducible first | exact HB.out | apply zad | apply zac | apply zae | refine zaq ?_ GE141.out) | exact HB.out)⟩
     ·rw [if_neg c11] at H
      have c11b0 : (a0_1 == 60) = false := beq_eq_false_iff_ne.mpr c11; have c11b1 : (a0_1 != 60) = true := bne_iff_ne.mpr c11; obtain rfl := Option.some.inj H; go_enter Try.func60, Try.ntmps60
      go_wp2_with (first | ((with_reducible refine za7 (N := 1) rfl ?_); refine zbl ?hg (N := 1) ?hd (cs := #[.int .u8 a0_0, .int .u8 a0_1, .int .i64 a0_2, .slice A0_3 l0_3.length c0_3]) (t := 25) ?hr ?_; (case hd => rfl); (case hg => rfl); (case hr => first | (go_simp; done) | (go_simp; rfl)); intro gb141 hg w14 hbox hb; have n0_ := zaa.mk (zaG (by repeat (first | exact HB.out | apply zad | apply zac | apply zae)) hb); have n1_ := zaa.mk (hbox); have n2_ := zaa.mk ((by rw [hg]; exact (zaB (by repeat (first | exact HB.out | apply zad | apply zac | apply zae))) : w.heap.size ≤ gb141)); have n3_ := zaa.mk ((by rw [hg]; exact (zaB (by repeat (first | exact HB.out | apply zad | apply zac | apply zae))) : w.heap.size ≤ gb141)); clear HB; have HB := n0_; have BK141 := n1_; have GW141 := n2_; have GE141 := n3_; clear n0_ n1_ n2_ n3_; clear hb hbox hg; have hcz15_0 : w14.cell? ⟨gb141, 0, none⟩ = some (.int .u8 a0_0) := (zaf BK141.out 0).trans rfl; have hcz15_1 : w14.cell? ⟨gb141, 1, none⟩ = some (.int .u8 a0_1) := (zaf BK141.out 1).trans rfl; have hcz15_2 : w14.cell? ⟨gb141, 2, none⟩ = some (.int .i64 a0_2) := (zaf BK141.out 2).trans rfl; have hcz15_3 : w14.cell? ⟨gb141, 3, none⟩ = some (.slice A0_3 l0_3.length c0_3) := (zaf BK141.out 3).trans rfl; have hfz15_0 := zab BK141.out 0; have hfz15_1 := zab BK141.out 1; have hfz15_2 := zab BK141.out 2; have hfz15_3 := zab BK141.out 3) | (go_at_call 64; (with_reducible refine (za4.calls a0_1 false _ A7.out).mono ?_); rintro e w' ⟨rfl, ⟨nd, rfl⟩⟩))
      go_ret
      exact ⟨by first | rfl | (simp [*, zaF, zaE] <;> rfl), by repeat (first | (with_reducible first | exact HB.out | apply zad | apply zac | apply zae | refine zaq ?_ GE141.out) | exact HB.out)⟩
   ·rw [if_neg c6] at H
    have c6b0 : (a0_2 == 0) = false := beq_eq_false_iff_ne.mpr c6; have c6b1 : (a0_2 != 0) = true := bne_iff_ne.mpr c6; obtain rfl := Option.some.inj H; go_enter Try.func60, Try.ntmps60
    go_wp2_with (first | ((with_reducible refine za7 (N := 1) rfl ?_); refine zbl ?hg (N := 1) ?hd (cs := #[.int .u8 a0_0, .int .u8 a0_1, .int .i64 a0_2, .slice A0_3 l0_3.length c0_3]) (t := 25) ?hr ?_; (case hd => rfl); (case hg => rfl); (case hr => first | (go_simp; done) | (go_simp; rfl)); intro gb141 hg w16 hbox hb; have n0_ := zaa.mk (zaG (by repeat (first | exact HB.out | apply zad | apply zac | apply zae)) hb); have n1_ := zaa.mk (hbox); have n2_ := zaa.mk ((by rw [hg]; exact (zaB (by repeat (first | exact HB.out | apply zad | apply zac | apply zae))) : w.heap.size ≤ gb141)); have n3_ := zaa.mk ((by rw [hg]; exact (zaB (by repeat (first | exact HB.out | apply zad | apply zac | apply zae))) : w.heap.size ≤ gb141)); clear HB; have HB := n0_; have BK141 := n1_; have GW141 := n2_; have GE141 := n3_; clear n0_ n1_ n2_ n3_; clear hb hbox hg; have hcz17_0 : w16.cell? ⟨gb141, 0, none⟩ = some (.int .u8 a0_0) := (zaf BK141.out 0).trans rfl; have hcz17_1 : w16.cell? ⟨gb141, 1, none⟩ = some (.int .u8 a0_1) := (zaf BK141.out 1).trans rfl; have hcz17_2 : w16.cell? ⟨gb141, 2, none⟩ = some (.int .i64 a0_2) := (zaf BK141.out 2).trans rfl; have hcz17_3 : w16.cell? ⟨gb141, 3, none⟩ = some (.slice A0_3 l0_3.length c0_3) := (zaf BK141.out 3).trans rfl; have hfz17_0 := zab BK141.out 0; have hfz17_1 := zab BK141.out 1; have hfz17_2 := zab BK141.out 2; have hfz17_3 := zab BK141.out 3))
    go_ret
    exact ⟨by first | rfl | (simp [*, zaF, zaE] <;> rfl), by repeat (first | (with_reducible first | exact HB.out | apply zad | apply zac | apply zae | refine zaq ?_ GE141.out) | exact HB.out)⟩
  ·rw [if_neg c5] at H
   have c5b0 : (a0_0 == 50) = false := beq_eq_false_iff_ne.mpr c5; have c5b1 : (a0_0 != 50) = true := bne_iff_ne.mpr c5; replace H := Option.bind_eq_some_iff.mp H; obtain ⟨t143, A180, H⟩ := H; replace H : (if t143 = true then (if a0_2 ≥ 1 then (if a0_2 ≤ 1099511627776 then (some (a0_1 == 0)) else (some false)) else (some false)) else (some false)) = some r := H
   have A18 := zaa.mk A180; clear A180; by_cases c19 : t143 = true
   ·subst c19
    have H1 : (if a0_2 ≥ 1 then (if a0_2 ≤ 1099511627776 then (some (a0_1 == 0)) else (some false)) else (some false)) = some r := by rw [if_pos rfl] at H; exact H
    clear H; have H := H1; clear H1; by_cases c20 : a0_2 ≥ 1
    ·rw [if_pos c20] at H
     have c20b0 : decide (1 ≤ a0_2) = true := decide_eq_true c20; clear c20; by_cases c21 : a0_2 ≤ 1099511627776
     ·rw [if_pos c21] at H
      have c21b0 : decide (a0_2 ≤ 1099511627776) = true := decide_eq_true c21; clear c21; obtain rfl := Option.some.inj H; go_enter Try.func60, Try.ntmps60
      go_wp2_with (first | ((with_reducible refine za7 (N := 1) rfl ?_); refine zbl ?hg (N := 1) ?hd (cs := #[.int .u8 a0_0, .int .u8 a0_1, .int .i64 a0_2, .slice A0_3 l0_3.length c0_3]) (t := 25) ?hr ?_; (case hd => rfl); (case hg => rfl); (case hr => first | (go_simp; done) | (go_simp; rfl)); intro gb141 hg w22 hbox hb; have n0_ := zaa.mk (zaG (by repeat (first | exact HB.out | apply zad | apply zac | apply zae)) hb); have n1_ := zaa.mk (hbox); have n2_ := zaa.mk ((by rw [hg]; exact (zaB (by repeat (first | exact HB.out | apply zad | apply zac | apply zae))) : w.heap.size ≤ gb141)); have n3_ := zaa.mk ((by rw [hg]; exact (zaB (by repeat (first | exact HB.out | apply zad | apply zac | apply zae))) : w.heap.size ≤ gb141)); clear HB; have HB := n0_; have BK141 := n1_; have GW141 := n2_; have GE141 := n3_; clear n0_ n1_ n2_ n3_; clear hb hbox hg; have hcz23_0 : w22.cell? ⟨gb141, 0, none⟩ = some (.int .u8 a0_0) := (zaf BK141.out 0).trans rfl; have hcz23_1 : w22.cell? ⟨gb141, 1, none⟩ = some (.int .u8 a0_1) := (zaf BK141.out 1).trans rfl; have hcz23_2 : w22.cell? ⟨gb141, 2, none⟩ = some (.int .i64 a0_2) := (zaf BK141.out 2).trans rfl; have hcz23_3 : w22.cell? ⟨gb141, 3, none⟩ = some (.slice A0_3 l0_3.length c0_3) := (zaf BK141.out 3).trans rfl; have hfz23_0 := zab BK141.out 0; have hfz23_1 := zab BK141.out 1; have hfz23_2 := zab BK141.out 2; have hfz23_3 := zab BK141.out 3) | ((with_reducible refine zaS (f := 21) rfl ?_); refine zbj (some 30) rfl rfl Try.func21 (by kernel_rfl) rfl #[.int .u8 a0_0] rfl (by (try simp only [List.map_toArray, List.map_cons, List.map_nil]); first | done | rfl | (simp only [List.length_drop, List.length_take]; rfl)) ?_; (with_reducible refine (zaZ.calls a0_0 true _ A18.out).mono ?_); rintro e w' ⟨rfl, ⟨nd, rfl⟩⟩; refine ⟨_, rfl, ?_⟩))
      go_ret
      exact ⟨by first | rfl | (simp [*, zaF, zaE] <;> rfl), by repeat (first | (with_reducible first | exact HB.out | apply zad | apply zac | apply zae | refine zaq ?_ GE141.out) | exact HB.out)⟩
     ·rw [if_neg c21] at H
      have c21b0 : decide (a0_2 ≤ 1099511627776) = false := decide_eq_false c21; clear c21; obtain rfl := Option.some.inj H; go_enter Try.func60, Try.ntmps60
      go_wp2_with (first | ((with_reducible refine za7 (N := 1) rfl ?_); refine zbl ?hg (N := 1) ?hd (cs := #[.int .u8 a0_0, .int .u8 a0_1, .int .i64 a0_2, .slice A0_3 l0_3.length c0_3]) (t := 25) ?hr ?_; (case hd => rfl); (case hg => rfl); (case hr => first | (go_simp; done) | (go_simp; rfl)); intro gb141 hg w24 hbox hb; have n0_ := zaa.mk (zaG (by repeat (first | exact HB.out | apply zad | apply zac | apply zae)) hb); have n1_ := zaa.mk (hbox); have n2_ := zaa.mk ((by rw [hg]; exact (zaB (by repeat (first | exact HB.out | apply zad | apply zac | apply zae))) : w.heap.size ≤ gb141)); have n3_ := zaa.mk ((by rw [hg]; exact (zaB (by repeat (first | exact HB.out | apply zad | apply zac | apply zae))) : w.heap.size ≤ gb141)); clear HB; have HB := n0_; have BK141 := n1_; have GW141 := n2_; have GE141 := n3_; clear n0_ n1_ n2_ n3_; clear hb hbox hg; have hcz25_0 : w24.cell? ⟨gb141, 0, none⟩ = some (.int .u8 a0_0) := (zaf BK141.out 0).trans rfl; have hcz25_1 : w24.cell? ⟨gb141, 1, none⟩ = some (.int .u8 a0_1) := (zaf BK141.out 1).trans rfl; have hcz25_2 : w24.cell? ⟨gb141, 2, none⟩ = some (.int .i64 a0_2) := (zaf BK141.out 2).trans rfl; have hcz25_3 : w24.cell? ⟨gb141, 3, none⟩ = some (.slice A0_3 l0_3.length c0_3) := (zaf BK141.out 3).trans rfl; have hfz25_0 := zab BK141.out 0; have hfz25_1 := zab BK141.out 1; have hfz25_2 := zab BK141.out 2; have hfz25_3 := zab BK141.out 3) | ((with_reducible refine zaS (f := 21) rfl ?_); refine zbj (some 30) rfl rfl Try.func21 (by kernel_rfl) rfl #[.int .u8 a0_0] rfl (by (try simp only [List.map_toArray, List.map_cons, List.map_nil]); first | done | rfl | (simp only [List.length_drop, List.length_take]; rfl)) ?_; (with_reducible refine (zaZ.calls a0_0 true _ A18.out).mono ?_); rintro e w' ⟨rfl, ⟨nd, rfl⟩⟩; refine ⟨_, rfl, ?_⟩))
      go_ret
      exact ⟨by first | rfl | (simp [*, zaF, zaE] <;> rfl), by repeat (first | (with_reducible first | exact HB.out | apply zad | apply zac | apply zae | refine zaq ?_ GE141.out) | exact HB.out)⟩
    ·rw [if_neg c20] at H
     have c20b0 : decide (1 ≤ a0_2) = false := decide_eq_false c20; clear c20; obtain rfl := Option.some.inj H; go_enter Try.func60, Try.ntmps60
     go_wp2_with (first | ((with_reducible refine za7 (N := 1) rfl ?_); refine zbl ?hg (N := 1) ?hd (cs := #[.int .u8 a0_0, .int .u8 a0_1, .int .i64 a0_2, .slice A0_3 l0_3.length c0_3]) (t := 25) ?hr ?_; (case hd => rfl); (case hg => rfl); (case hr => first | (go_simp; done) | (go_simp; rfl)); intro gb141 hg w26 hbox hb; have n0_ := zaa.mk (zaG (by repeat (first | exact HB.out | apply zad | apply zac | apply zae)) hb); have n1_ := zaa.mk (hbox); have n2_ := zaa.mk ((by rw [hg]; exact (zaB (by repeat (first | exact HB.out | apply zad | apply zac | apply zae))) : w.heap.size ≤ gb141)); have n3_ := zaa.mk ((by rw [hg]; exact (zaB (by repeat (first | exact HB.out | apply zad | apply zac | apply zae))) : w.heap.size ≤ gb141)); clear HB; have HB := n0_; have BK141 := n1_; have GW141 := n2_; have GE141 := n3_; clear n0_ n1_ n2_ n3_; clear hb hbox hg; have hcz27_0 : w26.cell? ⟨gb141, 0, none⟩ = some (.int .u8 a0_0) := (zaf BK141.out 0).trans rfl; have hcz27_1 : w26.cell? ⟨gb141, 1, none⟩ = some (.int .u8 a0_1) := (zaf BK141.out 1).trans rfl; have hcz27_2 : w26.cell? ⟨gb141, 2, none⟩ = some (.int .i64 a0_2) := (zaf BK141.out 2).trans rfl; have hcz27_3 : w26.cell? ⟨gb141, 3, none⟩ = some (.slice A0_3 l0_3.length c0_3) := (zaf BK141.out 3).trans rfl; have hfz27_0 := zab BK141.out 0; have hfz27_1 := zab BK141.out 1; have hfz27_2 := zab BK141.out 2; have hfz27_3 := zab BK141.out 3) | ((with_reducible refine zaS (f := 21) rfl ?_); refine zbj (some 30) rfl rfl Try.func21 (by kernel_rfl) rfl #[.int .u8 a0_0] rfl (by (try simp only [List.map_toArray, List.map_cons, List.map_nil]); first | done | rfl | (simp only [List.length_drop, List.length_take]; rfl)) ?_; (with_reducible refine (zaZ.calls a0_0 true _ A18.out).mono ?_); rintro e w' ⟨rfl, ⟨nd, rfl⟩⟩; refine ⟨_, rfl, ?_⟩))
     go_ret
     exact ⟨by first | rfl | (simp [*, zaF, zaE] <;> rfl), by repeat (first | (with_reducible first | exact HB.out | apply zad | apply zac | apply zae | refine zaq ?_ GE141.out) | exact HB.out)⟩
   ·replace c19 := Bool.eq_false_iff.mpr c19
    subst c19; have H1 : (some false) = some r := by rw [if_neg (show ¬ (false = true) by decide)] at H; exact H
    clear H; have H := H1; clear H1; obtain rfl := Option.some.inj H; go_enter Try.func60, Try.ntmps60
    go_wp2_with (first | ((with_reducible refine za7 (N := 1) rfl ?_); refine zbl ?hg (N := 1) ?hd (cs := #[.int .u8 a0_0, .int .u8 a0_1, .int .i64 a0_2, .slice A0_3 l0_3.length c0_3]) (t := 25) ?hr ?_; (case hd => rfl); (case hg => rfl); (case hr => first | (go_simp; done) | (go_simp; rfl)); intro gb141 hg w28 hbox hb; have n0_ := zaa.mk (zaG (by repeat (first | exact HB.out | apply zad | apply zac | apply zae)) hb); have n1_ := zaa.mk (hbox); have n2_ := zaa.mk ((by rw [hg]; exact (zaB (by repeat (first | exact HB.out | apply zad | apply zac | apply zae))) : w.heap.size ≤ gb141)); have n3_ := zaa.mk ((by rw [hg]; exact (zaB (by repeat (first | exact HB.out | apply zad | apply zac | apply zae))) : w.heap.size ≤ gb141)); clear HB; have HB := n0_; have BK141 := n1_; have GW141 := n2_; have GE141 := n3_; clear n0_ n1_ n2_ n3_; clear hb hbox hg; have hcz29_0 : w28.cell? ⟨gb141, 0, none⟩ = some (.int .u8 a0_0) := (zaf BK141.out 0).trans rfl; have hcz29_1 : w28.cell? ⟨gb141, 1, none⟩ = some (.int .u8 a0_1) := (zaf BK141.out 1).trans rfl; have hcz29_2 : w28.cell? ⟨gb141, 2, none⟩ = some (.int .i64 a0_2) := (zaf BK141.out 2).trans rfl; have hcz29_3 : w28.cell? ⟨gb141, 3, none⟩ = some (.slice A0_3 l0_3.length c0_3) := (zaf BK141.out 3).trans rfl; have hfz29_0 := zab BK141.out 0; have hfz29_1 := zab BK141.out 1; have hfz29_2 := zab BK141.out 2; have hfz29_3 := zab BK141.out 3) | ((with_reducible refine zaS (f := 21) rfl ?_); refine zbj (some 30) rfl rfl Try.func21 (by kernel_rfl) rfl #[.int .u8 a0_0] rfl (by (try simp only [List.map_toArray, List.map_cons, List.map_nil]); first | done | rfl | (simp only [List.length_drop, List.length_take]; rfl)) ?_; (with_reducible refine (zaZ.calls a0_0 false _ A18.out).mono ?_); rintro e w' ⟨rfl, ⟨nd, rfl⟩⟩; refine ⟨_, rfl, ?_⟩))
    go_ret
    exact ⟨by first | rfl | (simp [*, zaF, zaE] <;> rfl), by repeat (first | (with_reducible first | exact HB.out | apply zad | apply zac | apply zae | refine zaq ?_ GE141.out) | exact HB.out)⟩
mutual
def zai.j0 : Nat → Int → Int → Bool → Int → Int → Int → List (S25) → Option (Int)
 | 0, _, _, _, _, _, _, _ => none
 | k + 1, x1, x2, x16, x145000, x145001, x145002, x145003 => if x16 = true then (some 0) else (if x145000 < 51 then (zai.j1 k x1 x2 true x145000 x145001 x145002 x145003) else (zai.j1 k x1 x2 (decide (x145000 > 68)) x145000 x145001 x145002 x145003))
def zai.j1 : Nat → Int → Int → Bool → Int → Int → Int → List (S25) → Option (Int)
 | 0, _, _, _, _, _, _, _ => none
 | k + 1, x1, x2, x24, x145000, x145001, x145002, x145003 => if x24 = true then ((zbz.f x145000 x145001 x145002 x145003).bind fun t145 => (if t145 = true then (some 1) else (some 0))) else (if x145001 = 0 then (if x145000 = 51 then (zai.j2 k x1 x2 (decide (x1 > 1)) x145000 x145001 x145002 x145003) else (zai.j2 k x1 x2 false x145000 x145001 x145002 x145003)) else (zai.j2 k x1 x2 true x145000 x145001 x145002 x145003))
def zai.j2 : Nat → Int → Int → Bool → Int → Int → Int → List (S25) → Option (Int)
 | 0, _, _, _, _, _, _, _ => none
 | k + 1, x1, x2, x38, x145000, x145001, x145002, x145003 => if x38 = true then (some 0) else (zai.l0 k x1 x2 1 0 0 x145000 x145001 x145002 x145003)
def zai.l0 : Nat → Int → Int → Int → Int → Int → Int → Int → Int → List (S25) → Option (Int)
 | 0, _, _, _, _, _, _, _, _, _ => none
 | k + 1, x1, x2, x7, x8, x9, x145000, x145001, x145002, x145003 => if x9 < (x145003.length : Int) then (if 0 ≤ x9 then ((zai.f k ((za0 x145003 x9).f0) ((za0 x145003 x9).f1) ((za0 x145003 x9).f2) ((za0 x145003 x9).f3) (wrap64 (x1 + 1)) (wrap64 (x2 - x7))).bind fun t147 => (if t147 = 0 then (some 0) else (zai.l0 k x1 x2 (wrap64 (x7 + t147)) (wrap64 (x8 + ((za0 x145003 x9).f2))) (wrap64 (x9 + 1)) x145000 x145001 x145002 x145003))) else (none)) else (if x8 = x145002 then (if x8 > 1099511627776 then (some 0) else (some x7)) else (some 0))
def zai.f : Nat → Int → Int → Int → List (S25) → Int → Int → Option (Int)
 | 0, _, _, _, _, _, _ => none
 | k + 1, a0_0, a0_1, a0_2, l0_3, a1, a2 => if a1 > 65536 then (zai.j0 k a1 a2 true a0_0 a0_1 a0_2 l0_3) else (zai.j0 k a1 a2 (decide (a2 < 1)) a0_0 a0_1 a0_2 l0_3)
end
theorem zai.zbr : ∀ k, (∀ y0 y1 y2 y3 y4 y5, LeO (zai.f k y0 y1 y2 y3 y4 y5) (zai.f (k + 1) y0 y1 y2 y3 y4 y5)) ∧ (∀ y0 y1 y2 y3 y4 y5 y6, LeO (zai.j0 k y0 y1 y2 y3 y4 y5 y6) (zai.j0 (k + 1) y0 y1 y2 y3 y4 y5 y6)) ∧ (∀ y0 y1 y2 y3 y4 y5 y6, LeO (zai.j1 k y0 y1 y2 y3 y4 y5 y6) (zai.j1 (k + 1) y0 y1 y2 y3 y4 y5 y6)) ∧ (∀ y0 y1 y2 y3 y4 y5 y6, LeO (zai.j2 k y0 y1 y2 y3 y4 y5 y6) (zai.j2 (k + 1) y0 y1 y2 y3 y4 y5 y6)) ∧ (∀ y0 y1 y2 y3 y4 y5 y6 y7 y8, LeO (zai.l0 k y0 y1 y2 y3 y4 y5 y6 y7 y8) (zai.l0 (k + 1) y0 y1 y2 y3 y4 y5 y6 y7 y8))
 | 0 => ⟨fun _ _ _ _ _ _ r h => by simp [zai.f] at h, fun _ _ _ _ _ _ _ r h => by simp [zai.j0] at h, fun _ _ _ _ _ _ _ r h => by simp [zai.j1] at h, fun _ _ _ _ _ _ _ r h => by simp [zai.j2] at h, fun _ _ _ _ _ _ _ _ _ r h => by simp [zai.l0] at h⟩
 | k + 1 => by
  obtain ⟨ih0, ih1, ih2, ih3, ih4⟩ := zai.zbr k; refine ⟨?_, ?_, ?_, ?_, ?_⟩
  ·intro y0 y1 y2 y3 y4 y5
   unfold zai.f
   repeat' first
   | (with_reducible exact ih0 _ _ _ _ _ _)
   | (with_reducible exact ih1 _ _ _ _ _ _ _)
   | (with_reducible exact ih2 _ _ _ _ _ _ _)
   | (with_reducible exact ih3 _ _ _ _ _ _ _)
   | (with_reducible exact ih4 _ _ _ _ _ _ _ _ _)
   | (with_reducible exact LeO.refl _)
   | (with_reducible exact LeO.none _)
   | (with_reducible refine LeO.ite ?_ ?_)
   | (with_reducible refine LeO.bind ?_ (fun _ => ?_))
  ·intro y0 y1 y2 y3 y4 y5 y6
   unfold zai.j0
   repeat' first
   | (with_reducible exact ih0 _ _ _ _ _ _)
   | (with_reducible exact ih1 _ _ _ _ _ _ _)
   | (with_reducible exact ih2 _ _ _ _ _ _ _)
   | (with_reducible exact ih3 _ _ _ _ _ _ _)
   | (with_reducible exact ih4 _ _ _ _ _ _ _ _ _)
   | (with_reducible exact LeO.refl _)
   | (with_reducible exact LeO.none _)
   | (with_reducible refine LeO.ite ?_ ?_)
   | (with_reducible refine LeO.bind ?_ (fun _ => ?_))
  ·intro y0 y1 y2 y3 y4 y5 y6
   unfold zai.j1
   repeat' first
   | (with_reducible exact ih0 _ _ _ _ _ _)
   | (with_reducible exact ih1 _ _ _ _ _ _ _)
   | (with_reducible exact ih2 _ _ _ _ _ _ _)
   | (with_reducible exact ih3 _ _ _ _ _ _ _)
   | (with_reducible exact ih4 _ _ _ _ _ _ _ _ _)
   | (with_reducible exact LeO.refl _)
   | (with_reducible exact LeO.none _)
   | (with_reducible refine LeO.ite ?_ ?_)
   | (with_reducible refine LeO.bind ?_ (fun _ => ?_))
  ·intro y0 y1 y2 y3 y4 y5 y6
   unfold zai.j2
   repeat' first
   | (with_reducible exact ih0 _ _ _ _ _ _)
   | (with_reducible exact ih1 _ _ _ _ _ _ _)
   | (with_reducible exact ih2 _ _ _ _ _ _ _)
   | (with_reducible exact ih3 _ _ _ _ _ _ _)
   | (with_reducible exact ih4 _ _ _ _ _ _ _ _ _)
   | (with_reducible exact LeO.refl _)
   | (with_reducible exact LeO.none _)
   | (with_reducible refine LeO.ite ?_ ?_)
   | (with_reducible refine LeO.bind ?_ (fun _ => ?_))
  ·intro y0 y1 y2 y3 y4 y5 y6 y7 y8
   unfold zai.l0
   repeat' first
   | (with_reducible exact ih0 _ _ _ _ _ _)
   | (with_reducible exact ih1 _ _ _ _ _ _ _)
   | (with_reducible exact ih2 _ _ _ _ _ _ _)
   | (with_reducible exact ih3 _ _ _ _ _ _ _)
   | (with_reducible exact ih4 _ _ _ _ _ _ _ _ _)
   | (with_reducible exact LeO.refl _)
   | (with_reducible exact LeO.none _)
   | (with_reducible refine LeO.ite ?_ ?_)
   | (with_reducible refine LeO.bind ?_ (fun _ => ?_))
theorem zai.mono : ∀ a0 a1 a2 a3 a4 a5 k, LeO (zai.f k a0 a1 a2 a3 a4 a5) (zai.f (k + 1) a0 a1 a2 a3 a4 a5) := by
 intro a0 a1 a2 a3 a4 a5 k
 obtain ⟨ih0, ih1, ih2, ih3, ih4⟩ := zai.zbr k; exact ih0 a0 a1 a2 a3 a4 a5
set_option maxHeartbeats 8000000 in
set_option maxRecDepth 100000 in
theorem zai.calls (k : Nat) : ∀ (a0_0 : Int) (a0_1 : Int) (a0_2 : Int) (A0_3 : Option Addr) (c0_3 : Nat) (l0_3 : List (S25)) (a1 : Int) (a2 : Int) (r : Int) (w : World) (hr0_3 : Kd.C k25 w A0_3 l0_3.length l0_3) (hc0_3 : l0_3.length ≤ c0_3) (h : zai.f k a0_0 a0_1 a0_2 l0_3 a1 a2 = some r),
  Calls Try.prog 50 #[.agg #[.int .u8 a0_0, .int .u8 a0_1, .int .i64 a0_2, .slice A0_3 l0_3.length c0_3], .int .i64 a1, .int .i64 a2] w fun e w' => e = .returned (.int .i64 r) ∧ Below w.heap.size w w' := by
 induction k using Nat.strongRecOn with
 | _ k ih =>
 intro a0_0 a0_1 a0_2 A0_3 c0_3 l0_3 a1 a2 r w hr0_3 hc0_3 h
 cases k with
 | zero => exact absurd h (by simp [zai.f])
 | succ k =>
 simp only [zai.f] at h; have hu25 := Try.underlying25; have HR0_3 := zaa.mk hr0_3; have HC0_3 := zaa.mk hc0_3; clear hr0_3 hc0_3; have HB := zaa.mk (Below.refl w.heap.size w); have H : (if a1 > 65536 then (zai.j0 k a1 a2 true a0_0 a0_1 a0_2 l0_3) else (zai.j0 k a1 a2 (decide (a2 < 1)) a0_0 a0_1 a0_2 l0_3)) = some r := h
 clear h; have HC4 := zaa.mk H; clear H; go_enter Try.func50, Try.ntmps50
 go_upto_region 1 with (first | ((with_reducible refine za7 (N := 3) rfl ?_); refine zbl ?hg (N := 3) ?hd (cs := #[.int .u8 a0_0, .int .u8 a0_1, .int .i64 a0_2, .slice A0_3 l0_3.length c0_3]) (t := 25) ?hr ?_; (case hd => rfl); (case hg => rfl); (case hr => first | (go_simp; done) | (go_simp; rfl)); intro gb144 hg w5 hbox hb; have n0_ := zaa.mk (zaG (by repeat (first | exact HB.out | apply zad | apply zac | apply zae)) hb); have n1_ := zaa.mk (hbox); have n2_ := zaa.mk ((by rw [hg]; exact (zaB (by repeat (first | exact HB.out | apply zad | apply zac | apply zae))) : w.heap.size ≤ gb144)); have n3_ := zaa.mk ((by rw [hg]; exact (zaB (by repeat (first | exact HB.out | apply zad | apply zac | apply zae))) : w.heap.size ≤ gb144)); clear HB; have HB := n0_; have BK144 := n1_; have GW144 := n2_; have GE144 := n3_; clear n0_ n1_ n2_ n3_; clear hb hbox hg))
 (try simp only [Act.put, zaw])
 go_cut [16] (fun v16 wc => ∃ (kq : Nat) (x16_3 : Bool), v16 = .bool x16_3 ∧ zaa (zai.j0 kq a1 a2 x16_3 a0_0 a0_1 a0_2 l0_3 = some r) ∧ zaa (kq ≤ k) ∧ zaa (wc.heap[gb144]? = some (.cells #[.int .u8 a0_0, .int .u8 a0_1, .int .i64 a0_2, (.slice A0_3 l0_3.length c0_3)] 25 (0, 0))) ∧ zaa (Below w.heap.size w wc))
 case first =>
  have H := HC4.out; clear HC4; by_cases c6 : a1 > 65536
  ·rw [if_pos c6] at H
   have c6b0 : decide (65536 < a1) = true := decide_eq_true c6; clear c6
   (first | rw [c6b0] | (simp only [i64_w, i32_w]; rw [c6b0]) | skip)
   have H' := zaa.mk H; clear H; go_wp2
   go_meet
   case rel => exact ⟨_, (true), (by first | rfl | (simp; done) | (simp [*]; done)), H', ⟨by first | omega | exact Nat.le_refl _⟩, ⟨by (with_reducible repeat (first | refine zar ?_ _ | refine zav ?_ | refine zas ?_ _)); exact BK144.out⟩, ⟨by repeat (first | (with_reducible first | exact HB.out | apply zad | apply zac | apply zae | refine zaq ?_ GE144.out) | exact HB.out)⟩⟩
  ·rw [if_neg c6] at H
   have c6b0 : decide (65536 < a1) = false := decide_eq_false c6; clear c6
   (first | rw [c6b0] | (simp only [i64_w, i32_w]; rw [c6b0]) | skip)
   have H' := zaa.mk H; clear H; go_wp2
   go_meet
   case rel => exact ⟨_, (decide (a2 < 1)), (by first | rfl | (simp; done) | (simp [*]; done)), H', ⟨by first | omega | exact Nat.le_refl _⟩, ⟨by (with_reducible repeat (first | refine zar ?_ _ | refine zav ?_ | refine zas ?_ _)); exact BK144.out⟩, ⟨by repeat (first | (with_reducible first | exact HB.out | apply zad | apply zac | apply zae | refine zaq ?_ GE144.out) | exact HB.out)⟩⟩
 case rest =>
  clear HC4; try clear p2
  try clear c5
  try clear c6
  try clear c6b0
  obtain ⟨kq, x16_3, rfl, HA, HJ3, BK144, HB⟩ := hcut; cases kq with
  | zero => exact absurd HA.out (by simp [zai.j0])
  | succ kj3 =>
   have H := HA.out; clear HA; simp only [zai.j0] at H; by_cases c7 : x16_3 = true
   ·subst c7
    have H1 : (some 0) = some r := by rw [if_pos rfl] at H; exact H
    clear H; have H := H1; clear H1; obtain rfl := Option.some.inj H; go_wp2
    go_ret
    exact ⟨by first | rfl | (simp [*, zaF, zaE] <;> rfl), by repeat (first | (with_reducible first | exact HB.out | apply zad | apply zac | apply zae | refine zaq ?_ GE144.out) | exact HB.out)⟩
   ·replace c7 := Bool.eq_false_iff.mpr c7
    subst c7; have H1 : (if a0_0 < 51 then (zai.j1 kj3 a1 a2 true a0_0 a0_1 a0_2 l0_3) else (zai.j1 kj3 a1 a2 (decide (a0_0 > 68)) a0_0 a0_1 a0_2 l0_3)) = some r := by rw [if_neg (show ¬ (false = true) by decide)] at H; exact H
    clear H; have H := H1; clear H1; have HC8 := zaa.mk H; clear H; go_upto_region 3 with (fail)
    go_cut [24] (fun v24 wc => ∃ (kq : Nat) (x24_7 : Bool), v24 = .bool x24_7 ∧ zaa (zai.j1 kq a1 a2 x24_7 a0_0 a0_1 a0_2 l0_3 = some r) ∧ zaa (kq ≤ kj3) ∧ zaa (wc.heap[gb144]? = some (.cells #[.int .u8 a0_0, .int .u8 a0_1, .int .i64 a0_2, (.slice A0_3 l0_3.length c0_3)] 25 (0, 0))) ∧ zaa (Below w.heap.size w wc))
    case first =>
     have H := HC8.out; clear HC8; by_cases c9 : a0_0 < 51
     ·rw [if_pos c9] at H
      have c9b0 : decide (a0_0 < 51) = true := decide_eq_true c9; clear c9
      (first | rw [c9b0] | (simp only [i64_w, i32_w]; rw [c9b0]) | skip)
      have H' := zaa.mk H; clear H; have hcz10_0 : wc.cell? ⟨gb144, 0, none⟩ = some (.int .u8 a0_0) := (zaf BK144.out 0).trans rfl; have hcz10_1 : wc.cell? ⟨gb144, 1, none⟩ = some (.int .u8 a0_1) := (zaf BK144.out 1).trans rfl; have hcz10_2 : wc.cell? ⟨gb144, 2, none⟩ = some (.int .i64 a0_2) := (zaf BK144.out 2).trans rfl; have hcz10_3 : wc.cell? ⟨gb144, 3, none⟩ = some (.slice A0_3 l0_3.length c0_3) := (zaf BK144.out 3).trans rfl; have hfz10_0 := zab BK144.out 0; have hfz10_1 := zab BK144.out 1; have hfz10_2 := zab BK144.out 2; have hfz10_3 := zab BK144.out 3; go_wp2
      go_meet
      case rel => exact ⟨_, (true), (by first | rfl | (simp; done) | (simp [*]; done)), H', ⟨by have := HJ3.out; first | omega | exact Nat.le_refl _⟩, ⟨by (with_reducible repeat (first | refine zar ?_ _ | refine zav ?_ | refine zas ?_ _)); exact BK144.out⟩, ⟨by repeat (first | (with_reducible first | exact HB.out | apply zad | apply zac | apply zae | refine zaq ?_ GE144.out) | exact HB.out)⟩⟩
     ·rw [if_neg c9] at H
      have c9b0 : decide (a0_0 < 51) = false := decide_eq_false c9; clear c9
      (first | rw [c9b0] | (simp only [i64_w, i32_w]; rw [c9b0]) | skip)
      have H' := zaa.mk H; clear H; have hcz11_0 : wc.cell? ⟨gb144, 0, none⟩ = some (.int .u8 a0_0) := (zaf BK144.out 0).trans rfl; have hcz11_1 : wc.cell? ⟨gb144, 1, none⟩ = some (.int .u8 a0_1) := (zaf BK144.out 1).trans rfl; have hcz11_2 : wc.cell? ⟨gb144, 2, none⟩ = some (.int .i64 a0_2) := (zaf BK144.out 2).trans rfl; have hcz11_3 : wc.cell? ⟨gb144, 3, none⟩ = some (.slice A0_3 l0_3.length c0_3) := (zaf BK144.out 3).trans rfl; have hfz11_0 := zab BK144.out 0; have hfz11_1 := zab BK144.out 1; have hfz11_2 := zab BK144.out 2; have hfz11_3 := zab BK144.out 3; go_wp2
      go_meet
      case rel => exact ⟨_, (decide (a0_0 > 68)), (by first | rfl | (simp; done) | (simp [*]; done)), H', ⟨by have := HJ3.out; first | omega | exact Nat.le_refl _⟩, ⟨by (with_reducible repeat (first | refine zar ?_ _ | refine zav ?_ | refine zas ?_ _)); exact BK144.out⟩, ⟨by repeat (first | (with_reducible first | exact HB.out | apply zad | apply zac | apply zae | refine zaq ?_ GE144.out) | exact HB.out)⟩⟩
    case rest =>
     clear HC8; try clear p2
     try clear c5
     try clear c6
     try clear c6b0
     try clear c7
     try clear c9
     try clear c9b0
     try clear hcz10_0
     try clear hcz10_1
     try clear hcz10_2
     try clear hcz10_3
     try clear hcz11_0
     try clear hcz11_1
     try clear hcz11_2
     try clear hcz11_3
     try clear hfz10_0
     try clear hfz10_1
     try clear hfz10_2
     try clear hfz10_3
     try clear hfz11_0
     try clear hfz11_1
     try clear hfz11_2
     try clear hfz11_3
     try clear p2
     obtain ⟨kq, x24_7, rfl, HA, HJ7, BK144, HB⟩ := hcut; cases kq with
     | zero => exact absurd HA.out (by simp [zai.j1])
     | succ kj7 =>
      have H := HA.out; clear HA; simp only [zai.j1] at H; by_cases c12 : x24_7 = true
      ·subst c12
       have H1 : ((zbz.f a0_0 a0_1 a0_2 l0_3).bind fun t145 => (if t145 = true then (some 1) else (some 0))) = some r := by rw [if_pos rfl] at H; exact H
       clear H; have H := H1; clear H1; replace H := Option.bind_eq_some_iff.mp H; obtain ⟨t145, A130, H⟩ := H; replace H : (if t145 = true then (some 1) else (some 0)) = some r := H
       have A13 := zaa.mk A130; clear A130; by_cases c14 : t145 = true
       ·subst c14
        have H1 : (some 1) = some r := by rw [if_pos rfl] at H; exact H
        clear H; have H := H1; clear H1; obtain rfl := Option.some.inj H; have hcz15_0 : wc.cell? ⟨gb144, 0, none⟩ = some (.int .u8 a0_0) := (zaf BK144.out 0).trans rfl; have hcz15_1 : wc.cell? ⟨gb144, 1, none⟩ = some (.int .u8 a0_1) := (zaf BK144.out 1).trans rfl; have hcz15_2 : wc.cell? ⟨gb144, 2, none⟩ = some (.int .i64 a0_2) := (zaf BK144.out 2).trans rfl; have hcz15_3 : wc.cell? ⟨gb144, 3, none⟩ = some (.slice A0_3 l0_3.length c0_3) := (zaf BK144.out 3).trans rfl; have hfz15_0 := zab BK144.out 0; have hfz15_1 := zab BK144.out 1; have hfz15_2 := zab BK144.out 2; have hfz15_3 := zab BK144.out 3; go_wp2_with (first | ((with_reducible refine zaS (f := 60) rfl ?_); refine zbj (some 26) rfl rfl Try.func60 (by kernel_rfl) rfl #[.agg #[.int .u8 a0_0, .int .u8 a0_1, .int .i64 a0_2, .slice A0_3 l0_3.length c0_3]] rfl (by (try simp only [List.map_toArray, List.map_cons, List.map_nil]); first | done | rfl | (simp only [List.length_drop, List.length_take]; rfl)) ?_; (with_reducible refine (zbz.calls a0_0 a0_1 a0_2 _ _ l0_3 true _ ?side1 ?side2 A13.out).mono ?_); (case side1 => repeat (first | exact (Kd.zbH HR0_3.out HB.out) | (with_reducible refine Kd.zb4 ?_ _) | (with_reducible refine Kd.zb3 ?_ _) | (with_reducible refine Kd.zb5 ?_))); (case side2 => exact HC0_3.out); rintro e w16 ⟨rfl, hb⟩; refine ⟨_, rfl, ?_⟩; have n0_ := zaa.mk (zaX (g := gb144) (o := .cells #[.int .u8 a0_0, .int .u8 a0_1, .int .i64 a0_2, .slice A0_3 l0_3.length c0_3] 25 (0, 0)) (by (with_reducible repeat (first | refine zar ?_ _ | refine zav ?_ | refine zas ?_ _)); exact BK144.out) hb); have n1_ := zaa.mk (zaG (by repeat (first | (with_reducible first | exact HB.out | apply zad | apply zac | apply zae | refine zaq ?_ GE144.out) | exact HB.out)) hb); clear BK144; clear HB; have BK144 := n0_; have HB := n1_; clear n0_ n1_; (try clear hb); (try clear hb2); (try clear hk); (try clear hi)))
        go_ret
        exact ⟨by first | rfl | (simp [*, zaF, zaE] <;> rfl), by repeat (first | (with_reducible first | exact HB.out | apply zad | apply zac | apply zae | refine zaq ?_ GE144.out) | exact HB.out)⟩
       ·replace c14 := Bool.eq_false_iff.mpr c14
        subst c14; have H1 : (some 0) = some r := by rw [if_neg (show ¬ (false = true) by decide)] at H; exact H
        clear H; have H := H1; clear H1; obtain rfl := Option.some.inj H; have hcz17_0 : wc.cell? ⟨gb144, 0, none⟩ = some (.int .u8 a0_0) := (zaf BK144.out 0).trans rfl; have hcz17_1 : wc.cell? ⟨gb144, 1, none⟩ = some (.int .u8 a0_1) := (zaf BK144.out 1).trans rfl; have hcz17_2 : wc.cell? ⟨gb144, 2, none⟩ = some (.int .i64 a0_2) := (zaf BK144.out 2).trans rfl; have hcz17_3 : wc.cell? ⟨gb144, 3, none⟩ = some (.slice A0_3 l0_3.length c0_3) := (zaf BK144.out 3).trans rfl; have hfz17_0 := zab BK144.out 0; have hfz17_1 := zab BK144.out 1; have hfz17_2 := zab BK144.out 2; have hfz17_3 := zab BK144.out 3; go_wp2_with (first | ((with_reducible refine zaS (f := 60) rfl ?_); refine zbj (some 26) rfl rfl Try.func60 (by kernel_rfl) rfl #[.agg #[.int .u8 a0_0, .int .u8 a0_1, .int .i64 a0_2, .slice A0_3 l0_3.length c0_3]] rfl (by (try simp only [List.map_toArray, List.map_cons, List.map_nil]); first | done | rfl | (simp only [List.length_drop, List.length_take]; rfl)) ?_; (with_reducible refine (zbz.calls a0_0 a0_1 a0_2 _ _ l0_3 false _ ?side1 ?side2 A13.out).mono ?_); (case side1 => repeat (first | exact (Kd.zbH HR0_3.out HB.out) | (with_reducible refine Kd.zb4 ?_ _) | (with_reducible refine Kd.zb3 ?_ _) | (with_reducible refine Kd.zb5 ?_))); (case side2 => exact HC0_3.out); rintro e w18 ⟨rfl, hb⟩; refine ⟨_, rfl, ?_⟩; have n0_ := zaa.mk (zaX (g := gb144) (o := .cells #[.int .u8 a0_0, .int .u8 a0_1, .int .i64 a0_2, .slice A0_3 l0_3.length c0_3] 25 (0, 0)) (by (with_reducible repeat (first | refine zar ?_ _ | refine zav ?_ | refine zas ?_ _)); exact BK144.out) hb); have n1_ := zaa.mk (zaG (by repeat (first | (with_reducible first | exact HB.out | apply zad | apply zac | apply zae | refine zaq ?_ GE144.out) | exact HB.out)) hb); clear BK144; clear HB; have BK144 := n0_; have HB := n1_; clear n0_ n1_; (try clear hb); (try clear hb2); (try clear hk); (try clear hi)))
        go_ret
        exact ⟨by first | rfl | (simp [*, zaF, zaE] <;> rfl), by repeat (first | (with_reducible first | exact HB.out | apply zad | apply zac | apply zae | refine zaq ?_ GE144.out) | exact HB.out)⟩
      ·replace c12 := Bool.eq_false_iff.mpr c12
       subst c12; have H1 : (if a0_1 = 0 then (if a0_0 = 51 then (zai.j2 kj7 a1 a2 (decide (a1 > 1)) a0_0 a0_1 a0_2 l0_3) else (zai.j2 kj7 a1 a2 false a0_0 a0_1 a0_2 l0_3)) else (zai.j2 kj7 a1 a2 true a0_0 a0_1 a0_2 l0_3)) = some r := by rw [if_neg (show ¬ (false = true) by decide)] at H; exact H
       clear H; have H := H1; clear H1; have HC19 := zaa.mk H; clear H; go_upto_region 7 with (fail)
       go_cut [38] (fun v38 wc => ∃ (kq : Nat) (x38_18 : Bool), v38 = .bool x38_18 ∧ zaa (zai.j2 kq a1 a2 x38_18 a0_0 a0_1 a0_2 l0_3 = some r) ∧ zaa (kq ≤ kj7) ∧ zaa (wc.heap[gb144]? = some (.cells #[.int .u8 a0_0, .int .u8 a0_1, .int .i64 a0_2, (.slice A0_3 l0_3.length c0_3)] 25 (0, 0))) ∧ zaa (Below w.heap.size w wc))
       case first =>
        have H := HC19.out; clear HC19; by_cases c20 : a0_1 = 0
        ·rw [if_pos c20] at H
         have c20b0 : (a0_1 == 0) = true := beq_iff_eq.mpr c20; have c20b1 : (a0_1 != 0) = false := bne_eq_false_iff_eq.mpr c20; clear c20
         (first | rw [c20b0] | (simp only [i64_w, i32_w]; rw [c20b0]) | skip)
         by_cases c21 : a0_0 = 51
         ·rw [if_pos c21] at H
          have c21b0 : (a0_0 == 51) = true := beq_iff_eq.mpr c21; have c21b1 : (a0_0 != 51) = false := bne_eq_false_iff_eq.mpr c21; clear c21; have H' := zaa.mk H; clear H; have hcz22_0 : wc.cell? ⟨gb144, 0, none⟩ = some (.int .u8 a0_0) := (zaf BK144.out 0).trans rfl; have hcz22_1 : wc.cell? ⟨gb144, 1, none⟩ = some (.int .u8 a0_1) := (zaf BK144.out 1).trans rfl; have hcz22_2 : wc.cell? ⟨gb144, 2, none⟩ = some (.int .i64 a0_2) := (zaf BK144.out 2).trans rfl; have hcz22_3 : wc.cell? ⟨gb144, 3, none⟩ = some (.slice A0_3 l0_3.length c0_3) := (zaf BK144.out 3).trans rfl; have hfz22_0 := zab BK144.out 0; have hfz22_1 := zab BK144.out 1; have hfz22_2 := zab BK144.out 2; have hfz22_3 := zab BK144.out 3; go_wp2
          go_meet
          case rel => exact ⟨_, (decide (a1 > 1)), (by first | rfl | (simp; done) | (simp [*]; done)), H', ⟨by have := HJ3.out; have := HJ7.out; first | omega | exact Nat.le_refl _⟩, ⟨by (with_reducible repeat (first | refine zar ?_ _ | refine zav ?_ | refine zas ?_ _)); exact BK144.out⟩, ⟨by repeat (first | (with_reducible first | exact HB.out | apply zad | apply zac | apply zae | refine zaq ?_ GE144.out) | exact HB.out)⟩⟩
         ·rw [if_neg c21] at H
          have c21b0 : (a0_0 == 51) = false := beq_eq_false_iff_ne.mpr c21; have c21b1 : (a0_0 != 51) = true := bne_iff_ne.mpr c21; have H' := zaa.mk H; clear H; have hcz23_0 : wc.cell? ⟨gb144, 0, none⟩ = some (.int .u8 a0_0) := (zaf BK144.out 0).trans rfl; have hcz23_1 : wc.cell? ⟨gb144, 1, none⟩ = some (.int .u8 a0_1) := (zaf BK144.out 1).trans rfl; have hcz23_2 : wc.cell? ⟨gb144, 2, none⟩ = some (.int .i64 a0_2) := (zaf BK144.out 2).trans rfl; have hcz23_3 : wc.cell? ⟨gb144, 3, none⟩ = some (.slice A0_3 l0_3.length c0_3) := (zaf BK144.out 3).trans rfl; have hfz23_0 := zab BK144.out 0; have hfz23_1 := zab BK144.out 1; have hfz23_2 := zab BK144.out 2; have hfz23_3 := zab BK144.out 3; go_wp2
          go_meet
          case rel => exact ⟨_, (false), (by first | rfl | (simp; done) | (simp [*]; done)), H', ⟨by have := HJ3.out; have := HJ7.out; first | omega | exact Nat.le_refl _⟩, ⟨by (with_reducible repeat (first | refine zar ?_ _ | refine zav ?_ | refine zas ?_ _)); exact BK144.out⟩, ⟨by repeat (first | (with_reducible first | exact HB.out | apply zad | apply zac | apply zae | refine zaq ?_ GE144.out) | exact HB.out)⟩⟩
        ·rw [if_neg c20] at H
         have c20b0 : (a0_1 == 0) = false := beq_eq_false_iff_ne.mpr c20; have c20b1 : (a0_1 != 0) = true := bne_iff_ne.mpr c20
         (first | rw [c20b0] | (simp only [i64_w, i32_w]; rw [c20b0]) | skip)
         have H' := zaa.mk H; clear H; have hcz24_0 : wc.cell? ⟨gb144, 0, none⟩ = some (.int .u8 a0_0) := (zaf BK144.out 0).trans rfl; have hcz24_1 : wc.cell? ⟨gb144, 1, none⟩ = some (.int .u8 a0_1) := (zaf BK144.out 1).trans rfl; have hcz24_2 : wc.cell? ⟨gb144, 2, none⟩ = some (.int .i64 a0_2) := (zaf BK144.out 2).trans rfl; have hcz24_3 : wc.cell? ⟨gb144, 3, none⟩ = some (.slice A0_3 l0_3.length c0_3) := (zaf BK144.out 3).trans rfl; have hfz24_0 := zab BK144.out 0; have hfz24_1 := zab BK144.out 1; have hfz24_2 := zab BK144.out 2; have hfz24_3 := zab BK144.out 3; go_wp2
         go_meet
         case rel => exact ⟨_, (true), (by first | rfl | (simp; done) | (simp [*]; done)), H', ⟨by have := HJ3.out; have := HJ7.out; first | omega | exact Nat.le_refl _⟩, ⟨by (with_reducible repeat (first | refine zar ?_ _ | refine zav ?_ | refine zas ?_ _)); exact BK144.out⟩, ⟨by repeat (first | (with_reducible first | exact HB.out | apply zad | apply zac | apply zae | refine zaq ?_ GE144.out) | exact HB.out)⟩⟩
       case rest =>
        clear HC19; try clear c1
        try clear c2
        try clear p2
        try clear c5
        try clear c6
        try clear c6b0
        try clear c7
        try clear c9
        try clear c9b0
        try clear c12
        try clear c14
        try clear c20
        try clear c20b0
        try clear c20b1
        try clear c21
        try clear c21b0
        try clear c21b1
        try clear hcz10_0
        try clear hcz10_1
        try clear hcz10_2
        try clear hcz10_3
        try clear hcz11_0
        try clear hcz11_1
        try clear hcz11_2
        try clear hcz11_3
        try clear hcz15_0
        try clear hcz15_1
        try clear hcz15_2
        try clear hcz15_3
        try clear hcz17_0
        try clear hcz17_1
        try clear hcz17_2
        try clear hcz17_3
        try clear hcz22_0
        try clear hcz22_1
        try clear hcz22_2
        try clear hcz22_3
        try clear hcz23_0
        try clear hcz23_1
        try clear hcz23_2
        try clear hcz23_3
        try clear hcz24_0
        try clear hcz24_1
        try clear hcz24_2
        try clear hcz24_3
        try clear hfz10_0
        try clear hfz10_1
        try clear hfz10_2
        try clear hfz10_3
        try clear hfz11_0
        try clear hfz11_1
        try clear hfz11_2
        try clear hfz11_3
        try clear hfz15_0
        try clear hfz15_1
        try clear hfz15_2
        try clear hfz15_3
        try clear hfz17_0
        try clear hfz17_1
        try clear hfz17_2
        try clear hfz17_3
        try clear hfz22_0
        try clear hfz22_1
        try clear hfz22_2
        try clear hfz22_3
        try clear hfz23_0
        try clear hfz23_1
        try clear hfz23_2
        try clear hfz23_3
        try clear hfz24_0
        try clear hfz24_1
        try clear hfz24_2
        try clear hfz24_3
        try clear p2
        obtain ⟨kq, x38_18, rfl, HA, HJ18, BK144, HB⟩ := hcut; cases kq with
        | zero => exact absurd HA.out (by simp [zai.j2])
        | succ kj18 =>
         have H := HA.out; clear HA; simp only [zai.j2] at H; by_cases c25 : x38_18 = true
         ·subst c25
          have H1 : (some 0) = some r := by rw [if_pos rfl] at H; exact H
          clear H; have H := H1; clear H1; obtain rfl := Option.some.inj H; go_wp2
          go_ret
          exact ⟨by first | rfl | (simp [*, zaF, zaE] <;> rfl), by repeat (first | (with_reducible first | exact HB.out | apply zad | apply zac | apply zae | refine zaq ?_ GE144.out) | exact HB.out)⟩
         ·replace c25 := Bool.eq_false_iff.mpr c25
          subst c25; have H1 : (zai.l0 kj18 a1 a2 1 0 0 a0_0 a0_1 a0_2 l0_3) = some r := by rw [if_neg (show ¬ (false = true) by decide)] at H; exact H
          clear H; have H := H1; clear H1; have H' := zaa.mk H; clear H; go_wp2
          go_loopg [7, 8, 9] kj18 (fun kq v7 v8 v9 w' => ∃ (x7_4 : Int) (x8_4 : Int) (x9_4 : Int), v7 = .int .i64 x7_4 ∧ v8 = .int .i64 x8_4 ∧ v9 = .int .i64 x9_4 ∧ zaa (zai.l0 kq a1 a2 x7_4 x8_4 x9_4 a0_0 a0_1 a0_2 l0_3 = some r) ∧ zaa (kq ≤ kj18) ∧ zaa (w'.heap[gb144]? = some (.cells #[.int .u8 a0_0, .int .u8 a0_1, .int .i64 a0_2, (.slice A0_3 l0_3.length c0_3)] 25 (0, 0))) ∧ zaa (Below w.heap.size w w'))
          case atStart => exact ⟨(1), (0), (0), (by first | rfl | (simp; done) | (simp [*]; done)), (by first | rfl | (simp; done) | (simp [*]; done)), (by first | rfl | (simp; done) | (simp [*]; done)), H', ⟨Nat.le_refl _⟩, ⟨by (with_reducible repeat (first | refine zar ?_ _ | refine zav ?_ | refine zas ?_ _)); exact BK144.out⟩, ⟨by repeat (first | (with_reducible first | exact HB.out | apply zad | apply zac | apply zae | refine zaq ?_ GE144.out) | exact HB.out)⟩⟩
          case round =>
           clear H'; try clear c1
           try clear c2
           try clear p2
           try clear c5
           try clear c6
           try clear c6b0
           try clear c7
           try clear c9
           try clear c9b0
           try clear c12
           try clear c14
           try clear c20
           try clear c20b0
           try clear c20b1
           try clear c21
           try clear c21b0
           try clear c21b1
           try clear c25
           try clear hcz10_0
           try clear hcz10_1
           try clear hcz10_2
           try clear hcz10_3
           try clear hcz11_0
           try clear hcz11_1
           try clear hcz11_2
           try clear hcz11_3
           try clear hcz15_0
           try clear hcz15_1
           try clear hcz15_2
           try clear hcz15_3
           try clear hcz17_0
           try clear hcz17_1
           try clear hcz17_2
           try clear hcz17_3
           try clear hcz22_0
           try clear hcz22_1
           try clear hcz22_2
           try clear hcz22_3
           try clear hcz23_0
           try clear hcz23_1
           try clear hcz23_2
           try clear hcz23_3
           try clear hcz24_0
           try clear hcz24_1
           try clear hcz24_2
           try clear hcz24_3
           try clear hfz10_0
           try clear hfz10_1
           try clear hfz10_2
           try clear hfz10_3
           try clear hfz11_0
           try clear hfz11_1
           try clear hfz11_2
           try clear hfz11_3
           try clear hfz15_0
           try clear hfz15_1
           try clear hfz15_2
           try clear hfz15_3
           try clear hfz17_0
           try clear hfz17_1
           try clear hfz17_2
           try clear hfz17_3
           try clear hfz22_0
           try clear hfz22_1
           try clear hfz22_2
           try clear hfz22_3
           try clear hfz23_0
           try clear hfz23_1
           try clear hfz23_2
           try clear hfz23_3
           try clear hfz24_0
           try clear hfz24_1
           try clear hfz24_2
           try clear hfz24_3
           try clear p2
           obtain ⟨x7_4, x8_4, x9_4, rfl, rfl, rfl, HA, HK4, BK144, HB⟩ := hrel; cases gk with
           | zero => exact absurd HA.out (by simp [zai.l0])
           | succ k4 =>
            have H := HA.out; clear HA; simp only [zai.l0] at H; by_cases c26 : x9_4 < (l0_3.length : Int)
            ·rw [if_pos c26] at H
             have c26b0 : decide (x9_4 < (l0_3.length : Int)) = true := decide_eq_true c26; clear c26; by_cases c27 : 0 ≤ x9_4
             ·rw [if_pos c27] at H
              have c27b0 : decide (0 ≤ x9_4) = true := decide_eq_true c27; clear c27; replace H := Option.bind_eq_some_iff.mp H; obtain ⟨t147, A280, H⟩ := H; replace H : (if t147 = 0 then (some 0) else (zai.l0 k4 a1 a2 (wrap64 (x7_4 + t147)) (wrap64 (x8_4 + ((za0 l0_3 x9_4).f2))) (wrap64 (x9_4 + 1)) a0_0 a0_1 a0_2 l0_3)) = some r := H
              have A28 := zaa.mk A280; clear A280; by_cases c29 : t147 = 0
              ·rw [if_pos c29] at H
               have c29b0 : (t147 == 0) = true := beq_iff_eq.mpr c29; have c29b1 : (t147 != 0) = false := bne_eq_false_iff_eq.mpr c29; clear c29; obtain rfl := Option.some.inj H; have hcz30_0 : wr.cell? ⟨gb144, 0, none⟩ = some (.int .u8 a0_0) := (zaf BK144.out 0).trans rfl; have hcz30_1 : wr.cell? ⟨gb144, 1, none⟩ = some (.int .u8 a0_1) := (zaf BK144.out 1).trans rfl; have hcz30_2 : wr.cell? ⟨gb144, 2, none⟩ = some (.int .i64 a0_2) := (zaf BK144.out 2).trans rfl; have hcz30_3 : wr.cell? ⟨gb144, 3, none⟩ = some (.slice A0_3 l0_3.length c0_3) := (zaf BK144.out 3).trans rfl; have hfz30_0 := zab BK144.out 0; have hfz30_1 := zab BK144.out 1; have hfz30_2 := zab BK144.out 2; have hfz30_3 := zab BK144.out 3; have p146 : 0 ≤ (x9_4 : Int) := of_decide_eq_true (by assumption)
               have q146 : x9_4 < (l0_3.length : Int) := of_decide_eq_true (by assumption)
               obtain ⟨ad146, A146_3, c146_3, e146, hx146_0, hx146_1, hx146_2, hx146_3, hl146_3, hi146_3⟩ := at_T25 HR0_3.out x9_4 p146 q146; cases e146; replace hx146_0 := (HB.out.cell (World.block_lt_of_cell? w _ hx146_0)).trans hx146_0; replace hx146_1 := (HB.out.cell (World.block_lt_of_cell? w _ hx146_1)).trans hx146_1; replace hx146_2 := (HB.out.cell (World.block_lt_of_cell? w _ hx146_2)).trans hx146_2; replace hx146_3 := (HB.out.cell (World.block_lt_of_cell? w _ hx146_3)).trans hx146_3; have HR146_3 := zaa.mk hi146_3; have HC146_3 := zaa.mk hl146_3; clear hi146_3 hl146_3; replace p146 := eq_true p146; replace q146 := eq_true q146; go_wp2_with (first | ((with_reducible refine zaS (f := 50) rfl ?_); refine zbj (some 56) rfl rfl Try.func50 (by kernel_rfl) rfl #[.agg #[.int .u8 ((za0 l0_3 x9_4).f0), .int .u8 ((za0 l0_3 x9_4).f1), .int .i64 ((za0 l0_3 x9_4).f2), .slice A146_3 ((za0 l0_3 x9_4).f3).length c146_3], .int .i64 (wrap64 (a1 + 1)), .int .i64 (wrap64 (a2 - x7_4))] rfl (by (try simp only [List.map_toArray, List.map_cons, List.map_nil]); first | done | rfl | (simp only [List.length_drop, List.length_take]; rfl)) ?_; (with_reducible refine (ih k4 (by have := HJ3.out; have := HJ7.out; have := HJ18.out; have := HK4.out; omega) ((za0 l0_3 x9_4).f0) ((za0 l0_3 x9_4).f1) ((za0 l0_3 x9_4).f2) _ _ ((za0 l0_3 x9_4).f3) (wrap64 (a1 + 1)) (wrap64 (a2 - x7_4)) t147 _ ?side1 ?side2 A28.out).mono ?_); (case side1 => repeat (first | exact (Kd.zbH HR146_3.out HB.out) | (with_reducible refine Kd.zb4 ?_ _) | (with_reducible refine Kd.zb3 ?_ _) | (with_reducible refine Kd.zb5 ?_))); (case side2 => exact HC146_3.out); rintro e w31 ⟨rfl, hb⟩; refine ⟨_, rfl, ?_⟩; have n0_ := zaa.mk (zaX (g := gb144) (o := .cells #[.int .u8 a0_0, .int .u8 a0_1, .int .i64 a0_2, .slice (some ad146) l0_3.length c0_3] 25 (0, 0)) (by (with_reducible repeat (first | refine zar ?_ _ | refine zav ?_ | refine zas ?_ _)); exact BK144.out) hb); have n1_ := zaa.mk (zaG (by repeat (first | (with_reducible first | exact HB.out | apply zad | apply zac | apply zae | refine zaq ?_ GE144.out) | exact HB.out)) hb); clear BK144; clear HB; have BK144 := n0_; have HB := n1_; clear n0_ n1_; (try clear hb); (try clear hb2); (try clear hk); (try clear hi)))
               go_ret
               exact ⟨by first | rfl | (simp [*, zaF, zaE] <;> rfl), by repeat (first | (with_reducible first | exact HB.out | apply zad | apply zac | apply zae | refine zaq ?_ GE144.out) | exact HB.out)⟩
              ·rw [if_neg c29] at H
               have c29b0 : (t147 == 0) = false := beq_eq_false_iff_ne.mpr c29; have c29b1 : (t147 != 0) = true := bne_iff_ne.mpr c29; have H' := zaa.mk H; clear H; have hcz32_0 : wr.cell? ⟨gb144, 0, none⟩ = some (.int .u8 a0_0) := (zaf BK144.out 0).trans rfl; have hcz32_1 : wr.cell? ⟨gb144, 1, none⟩ = some (.int .u8 a0_1) := (zaf BK144.out 1).trans rfl; have hcz32_2 : wr.cell? ⟨gb144, 2, none⟩ = some (.int .i64 a0_2) := (zaf BK144.out 2).trans rfl; have hcz32_3 : wr.cell? ⟨gb144, 3, none⟩ = some (.slice A0_3 l0_3.length c0_3) := (zaf BK144.out 3).trans rfl; have hfz32_0 := zab BK144.out 0; have hfz32_1 := zab BK144.out 1; have hfz32_2 := zab BK144.out 2; have hfz32_3 := zab BK144.out 3; have p146 : 0 ≤ (x9_4 : Int) := of_decide_eq_true (by assumption)
               have q146 : x9_4 < (l0_3.length : Int) := of_decide_eq_true (by assumption)
               obtain ⟨ad146, A146_3, c146_3, e146, hx146_0, hx146_1, hx146_2, hx146_3, hl146_3, hi146_3⟩ := at_T25 HR0_3.out x9_4 p146 q146; cases e146; replace hx146_0 := (HB.out.cell (World.block_lt_of_cell? w _ hx146_0)).trans hx146_0; replace hx146_1 := (HB.out.cell (World.block_lt_of_cell? w _ hx146_1)).trans hx146_1; replace hx146_2 := (HB.out.cell (World.block_lt_of_cell? w _ hx146_2)).trans hx146_2; replace hx146_3 := (HB.out.cell (World.block_lt_of_cell? w _ hx146_3)).trans hx146_3; have HR146_3 := zaa.mk hi146_3; have HC146_3 := zaa.mk hl146_3; clear hi146_3 hl146_3; replace p146 := eq_true p146; replace q146 := eq_true q146; go_wp2_with (first | ((with_reducible refine zaS (f := 50) rfl ?_); refine zbj (some 56) rfl rfl Try.func50 (by kernel_rfl) rfl #[.agg #[.int .u8 ((za0 l0_3 x9_4).f0), .int .u8 ((za0 l0_3 x9_4).f1), .int .i64 ((za0 l0_3 x9_4).f2), .slice A146_3 ((za0 l0_3 x9_4).f3).length c146_3], .int .i64 (wrap64 (a1 + 1)), .int .i64 (wrap64 (a2 - x7_4))] rfl (by (try simp only [List.map_toArray, List.map_cons, List.map_nil]); first | done | rfl | (simp only [List.length_drop, List.length_take]; rfl)) ?_; (with_reducible refine (ih k4 (by have := HJ3.out; have := HJ7.out; have := HJ18.out; have := HK4.out; omega) ((za0 l0_3 x9_4).f0) ((za0 l0_3 x9_4).f1) ((za0 l0_3 x9_4).f2) _ _ ((za0 l0_3 x9_4).f3) (wrap64 (a1 + 1)) (wrap64 (a2 - x7_4)) t147 _ ?side1 ?side2 A28.out).mono ?_); (case side1 => repeat (first | exact (Kd.zbH HR146_3.out HB.out) | (with_reducible refine Kd.zb4 ?_ _) | (with_reducible refine Kd.zb3 ?_ _) | (with_reducible refine Kd.zb5 ?_))); (case side2 => exact HC146_3.out); rintro e w33 ⟨rfl, hb⟩; refine ⟨_, rfl, ?_⟩; have n0_ := zaa.mk (zaX (g := gb144) (o := .cells #[.int .u8 a0_0, .int .u8 a0_1, .int .i64 a0_2, .slice (some ad146) l0_3.length c0_3] 25 (0, 0)) (by (with_reducible repeat (first | refine zar ?_ _ | refine zav ?_ | refine zas ?_ _)); exact BK144.out) hb); have n1_ := zaa.mk (zaG (by repeat (first | (with_reducible first | exact HB.out | apply zad | apply zac | apply zae | refine zaq ?_ GE144.out) | exact HB.out)) hb); clear BK144; clear HB; have BK144 := n0_; have HB := n1_; clear n0_ n1_; (try clear hb); (try clear hb2); (try clear hk); (try clear hi); have hcz34_0 : w33.cell? ⟨gb144, 0, none⟩ = some (.int .u8 a0_0) := (zaf BK144.out 0).trans rfl; have hcz34_1 : w33.cell? ⟨gb144, 1, none⟩ = some (.int .u8 a0_1) := (zaf BK144.out 1).trans rfl; have hcz34_2 : w33.cell? ⟨gb144, 2, none⟩ = some (.int .i64 a0_2) := (zaf BK144.out 2).trans rfl; have hcz34_3 : w33.cell? ⟨gb144, 3, none⟩ = some (.slice (some ad146) l0_3.length c0_3) := (zaf BK144.out 3).trans rfl; have hfz34_0 := zab BK144.out 0; have hfz34_1 := zab BK144.out 1; have hfz34_2 := zab BK144.out 2; have hfz34_3 := zab BK144.out 3; have p148 : 0 ≤ (x9_4 : Int) := of_decide_eq_true (by assumption); have q148 : x9_4 < (l0_3.length : Int) := of_decide_eq_true (by assumption); obtain ⟨ad148, A148_3, c148_3, e148, hx148_0, hx148_1, hx148_2, hx148_3, hl148_3, hi148_3⟩ := at_T25 HR0_3.out x9_4 p148 q148; obtain rfl : ad146 = ad148 := (by injection e148); replace hx148_0 := (HB.out.cell (World.block_lt_of_cell? w _ hx148_0)).trans hx148_0; replace hx148_1 := (HB.out.cell (World.block_lt_of_cell? w _ hx148_1)).trans hx148_1; replace hx148_2 := (HB.out.cell (World.block_lt_of_cell? w _ hx148_2)).trans hx148_2; replace hx148_3 := (HB.out.cell (World.block_lt_of_cell? w _ hx148_3)).trans hx148_3; have HR148_3 := zaa.mk hi148_3; have HC148_3 := zaa.mk hl148_3; clear hi148_3 hl148_3; replace p148 := eq_true p148; replace q148 := eq_true q148))
               go_roundg k4
               case measure => have := HJ3.out; have := HJ7.out; have := HJ18.out; have := HK4.out; omega
               case rel => exact ⟨(wrap64 (x7_4 + t147)), (wrap64 (x8_4 + ((za0 l0_3 x9_4).f2))), (wrap64 (x9_4 + 1)), (by first | rfl | (simp; done) | (simp [*]; done)), (by first | rfl | (simp; done) | (simp [*]; done)), (by first | rfl | (simp; done) | (simp [*]; done)), H', ⟨by have := HJ3.out; have := HJ7.out; have := HJ18.out; have := HK4.out; omega⟩, ⟨by (with_reducible repeat (first | refine zar ?_ _ | refine zav ?_ | refine zas ?_ _)); exact BK144.out⟩, ⟨by repeat (first | (with_reducible first | exact HB.out | apply zad | apply zac | apply zae | refine zaq ?_ GE144.out) | exact HB.out)⟩⟩
             ·rw [if_neg c27] at H
              exact absurd H (by simp)
            ·rw [if_neg c26] at H
             have c26b0 : decide (x9_4 < (l0_3.length : Int)) = false := decide_eq_false c26; clear c26; by_cases c35 : x8_4 = a0_2
             ·rw [if_pos c35] at H
              have c35b0 : (x8_4 == a0_2) = true := beq_iff_eq.mpr c35; have c35b1 : (x8_4 != a0_2) = false := bne_eq_false_iff_eq.mpr c35; clear c35; by_cases c36 : x8_4 > 1099511627776
              ·rw [if_pos c36] at H
               have c36b0 : decide (1099511627776 < x8_4) = true := decide_eq_true c36; clear c36; obtain rfl := Option.some.inj H; have hcz37_0 : wr.cell? ⟨gb144, 0, none⟩ = some (.int .u8 a0_0) := (zaf BK144.out 0).trans rfl; have hcz37_1 : wr.cell? ⟨gb144, 1, none⟩ = some (.int .u8 a0_1) := (zaf BK144.out 1).trans rfl; have hcz37_2 : wr.cell? ⟨gb144, 2, none⟩ = some (.int .i64 a0_2) := (zaf BK144.out 2).trans rfl; have hcz37_3 : wr.cell? ⟨gb144, 3, none⟩ = some (.slice A0_3 l0_3.length c0_3) := (zaf BK144.out 3).trans rfl; have hfz37_0 := zab BK144.out 0; have hfz37_1 := zab BK144.out 1; have hfz37_2 := zab BK144.out 2; have hfz37_3 := zab BK144.out 3; go_wp2
               go_ret
               exact ⟨by first | rfl | (simp [*, zaF, zaE] <;> rfl), by repeat (first | (with_reducible first | exact HB.out | apply zad | apply zac | apply zae | refine zaq ?_ GE144.out) | exact HB.out)⟩
              ·rw [if_neg c36] at H
               have c36b0 : decide (1099511627776 < x8_4) = false := decide_eq_false c36; clear c36; obtain rfl := Option.some.inj H; have hcz38_0 : wr.cell? ⟨gb144, 0, none⟩ = some (.int .u8 a0_0) := (zaf BK144.out 0).trans rfl; have hcz38_1 : wr.cell? ⟨gb144, 1, none⟩ = some (.int .u8 a0_1) := (zaf BK144.out 1).trans rfl; have hcz38_2 : wr.cell? ⟨gb144, 2, none⟩ = some (.int .i64 a0_2) := (zaf BK144.out 2).trans rfl; have hcz38_3 : wr.cell? ⟨gb144, 3, none⟩ = some (.slice A0_3 l0_3.length c0_3) := (zaf BK144.out 3).trans rfl; have hfz38_0 := zab BK144.out 0; have hfz38_1 := zab BK144.out 1; have hfz38_2 := zab BK144.out 2; have hfz38_3 := zab BK144.out 3; go_wp2
               go_ret
               exact ⟨by first | rfl | (simp [*, zaF, zaE] <;> rfl), by repeat (first | (with_reducible first | exact HB.out | apply zad | apply zac | apply zae | refine zaq ?_ GE144.out) | exact HB.out)⟩
             ·rw [if_neg c35] at H
              have c35b0 : (x8_4 == a0_2) = false := beq_eq_false_iff_ne.mpr c35; have c35b1 : (x8_4 != a0_2) = true := bne_iff_ne.mpr c35; obtain rfl := Option.some.inj H; have hcz39_0 : wr.cell? ⟨gb144, 0, none⟩ = some (.int .u8 a0_0) := (zaf BK144.out 0).trans rfl; have hcz39_1 : wr.cell? ⟨gb144, 1, none⟩ = some (.int .u8 a0_1) := (zaf BK144.out 1).trans rfl; have hcz39_2 : wr.cell? ⟨gb144, 2, none⟩ = some (.int .i64 a0_2) := (zaf BK144.out 2).trans rfl; have hcz39_3 : wr.cell? ⟨gb144, 3, none⟩ = some (.slice A0_3 l0_3.length c0_3) := (zaf BK144.out 3).trans rfl; have hfz39_0 := zab BK144.out 0; have hfz39_1 := zab BK144.out 1; have hfz39_2 := zab BK144.out 2; have hfz39_3 := zab BK144.out 3; go_wp2
              go_ret
              exact ⟨by first | rfl | (simp [*, zaF, zaE] <;> rfl), by repeat (first | (with_reducible first | exact HB.out | apply zad | apply zac | apply zae | refine zaq ?_ GE144.out) | exact HB.out)⟩
def zbh.f (k : Nat) (a0_0 : Int) (a0_1 : Int) (a0_2 : Int) (l0_3 : List (S25)) : Option (Bool) := (zai.f k a0_0 a0_1 a0_2 l0_3 1 1048576).bind fun t150 => (some (decide (t150 > 0)))
theorem zbh.mono : ∀ a0 a1 a2 a3 k, LeO (zbh.f k a0 a1 a2 a3) (zbh.f (k + 1) a0 a1 a2 a3) := by
 intro a0 a1 a2 a3 k
 unfold zbh.f
 repeat' first
   | (with_reducible exact zai.mono _ _ _ _ _ _ _)
   | (with_reducible exact LeO.refl _)
   | (with_reducible exact LeO.none _)
   | (with_reducible refine LeO.ite ?_ ?_)
   | (with_reducible refine LeO.bind ?_ (fun _ => ?_))
   | exact zai.mono _ _ _ _ _ _ _
   | exact LeO.none _
   | refine LeO.ite ?_ ?_
   | refine LeO.bind ?_ (fun _ => ?_)
set_option maxHeartbeats 8000000 in
set_option maxRecDepth 100000 in
theorem zbh.calls (k : Nat) (a0_0 : Int) (a0_1 : Int) (a0_2 : Int) (A0_3 : Option Addr) (c0_3 : Nat) (l0_3 : List (S25)) (r : Bool) (w : World) (hr0_3 : Kd.C k25 w A0_3 l0_3.length l0_3) (hc0_3 : l0_3.length ≤ c0_3) (h : zbh.f k a0_0 a0_1 a0_2 l0_3 = some r) :
  Calls Try.prog 38 #[.agg #[.int .u8 a0_0, .int .u8 a0_1, .int .i64 a0_2, .slice A0_3 l0_3.length c0_3]] w fun e w' => e = .returned (.bool r) ∧ Below w.heap.size w w' := by
 have hu25 := Try.underlying25; have HR0_3 := zaa.mk hr0_3; have HC0_3 := zaa.mk hc0_3; clear hr0_3 hc0_3; have HB := zaa.mk (Below.refl w.heap.size w); have H : ((zai.f k a0_0 a0_1 a0_2 l0_3 1 1048576).bind fun t150 => (some (decide (t150 > 0)))) = some r := h
 clear h; replace H := Option.bind_eq_some_iff.mp H; obtain ⟨t150, A20, H⟩ := H; replace H : (some (decide (t150 > 0))) = some r := H; have A2 := zaa.mk A20; clear A20; obtain rfl := Option.some.inj H; go_enter Try.func38, Try.ntmps38
 go_wp2_with (first | ((with_reducible refine za7 (N := 1) rfl ?_); refine zbl ?hg (N := 1) ?hd (cs := #[.int .u8 a0_0, .int .u8 a0_1, .int .i64 a0_2, .slice A0_3 l0_3.length c0_3]) (t := 25) ?hr ?_; (case hd => rfl); (case hg => rfl); (case hr => first | (go_simp; done) | (go_simp; rfl)); intro gb149 hg w3 hbox hb; have n0_ := zaa.mk (zaG (by repeat (first | exact HB.out | apply zad | apply zac | apply zae)) hb); have n1_ := zaa.mk (hbox); have n2_ := zaa.mk ((by rw [hg]; exact (zaB (by repeat (first | exact HB.out | apply zad | apply zac | apply zae))) : w.heap.size ≤ gb149)); have n3_ := zaa.mk ((by rw [hg]; exact (zaB (by repeat (first | exact HB.out | apply zad | apply zac | apply zae))) : w.heap.size ≤ gb149)); clear HB; have HB := n0_; have BK149 := n1_; have GW149 := n2_; have GE149 := n3_; clear n0_ n1_ n2_ n3_; clear hb hbox hg; have hcz4_0 : w3.cell? ⟨gb149, 0, none⟩ = some (.int .u8 a0_0) := (zaf BK149.out 0).trans rfl; have hcz4_1 : w3.cell? ⟨gb149, 1, none⟩ = some (.int .u8 a0_1) := (zaf BK149.out 1).trans rfl; have hcz4_2 : w3.cell? ⟨gb149, 2, none⟩ = some (.int .i64 a0_2) := (zaf BK149.out 2).trans rfl; have hcz4_3 : w3.cell? ⟨gb149, 3, none⟩ = some (.slice A0_3 l0_3.length c0_3) := (zaf BK149.out 3).trans rfl; have hfz4_0 := zab BK149.out 0; have hfz4_1 := zab BK149.out 1; have hfz4_2 := zab BK149.out 2; have hfz4_3 := zab BK149.out 3) | ((with_reducible refine zaS (f := 50) rfl ?_); refine zbj (some 4) rfl rfl Try.func50 (by kernel_rfl) rfl #[.agg #[.int .u8 a0_0, .int .u8 a0_1, .int .i64 a0_2, .slice A0_3 l0_3.length c0_3], .int .i64 1, .int .i64 1048576] rfl (by (try simp only [List.map_toArray, List.map_cons, List.map_nil]); first | done | rfl | (simp only [List.length_drop, List.length_take]; rfl)) ?_; (with_reducible refine (zai.calls k a0_0 a0_1 a0_2 _ _ l0_3 1 1048576 t150 _ ?side1 ?side2 A2.out).mono ?_); (case side1 => repeat (first | exact (Kd.zbH HR0_3.out HB.out) | (with_reducible refine Kd.zb4 ?_ _) | (with_reducible refine Kd.zb3 ?_ _) | (with_reducible refine Kd.zb5 ?_))); (case side2 => exact HC0_3.out); rintro e w5 ⟨rfl, hb⟩; refine ⟨_, rfl, ?_⟩; have n0_ := zaa.mk (zaX (g := gb149) (o := .cells #[.int .u8 a0_0, .int .u8 a0_1, .int .i64 a0_2, .slice A0_3 l0_3.length c0_3] 25 (0, 0)) (by (with_reducible repeat (first | refine zar ?_ _ | refine zav ?_ | refine zas ?_ _)); exact BK149.out) hb); have n1_ := zaa.mk (zaG (by repeat (first | (with_reducible first | exact HB.out | apply zad | apply zac | apply zae | refine zaq ?_ GE149.out) | exact HB.out)) hb); clear BK149; clear HB; have BK149 := n0_; have HB := n1_; clear n0_ n1_; (try clear hb); (try clear hb2); (try clear hk); (try clear hi)))
 go_ret
 exact ⟨by first | rfl | (simp [*, zaF, zaE] <;> rfl), by repeat (first | (with_reducible first | exact HB.out | apply zad | apply zac | apply zae | refine zaq ?_ GE149.out) | exact HB.out)⟩
mutual
def zaD.l0 : Nat → List (S25) → Int → Int → Int → Int → List (S25) → Option (Int × Int × Int × (List (S25)))
 | 0, _, _, _, _, _, _ => none
 | k + 1, x3, x4, x129000, x129001, x129002, x129003 => if x4 < (x129003.length : Int) then (if 0 ≤ x4 then ((zaD.f k ((za0 x129003 x4).f0) ((za0 x129003 x4).f1) ((za0 x129003 x4).f2) ((za0 x129003 x4).f3)).bind fun bt131 => (if x3.length < 3518437208883 then (zaD.l0 k (x3 ++ [(⟨bt131.1, bt131.2.1, bt131.2.2.1, bt131.2.2.2⟩ : S25)]) (wrap64 (x4 + 1)) x129000 x129001 x129002 x129003) else (none))) else (none)) else (some (x129000, x129001, x129002, x3))
def zaD.f : Nat → Int → Int → Int → List (S25) → Option (Int × Int × Int × (List (S25)))
 | 0, _, _, _, _ => none
 | k + 1, a0_0, a0_1, a0_2, l0_3 => if (l0_3.length : Int) = 0 then (some (a0_0, a0_1, a0_2, ([] : List (S25)))) else (zaD.l0 k ([] : List (S25)) 0 a0_0 a0_1 a0_2 l0_3)
end
theorem zaD.zbr : ∀ k, (∀ y0 y1 y2 y3, LeO (zaD.f k y0 y1 y2 y3) (zaD.f (k + 1) y0 y1 y2 y3)) ∧ (∀ y0 y1 y2 y3 y4 y5, LeO (zaD.l0 k y0 y1 y2 y3 y4 y5) (zaD.l0 (k + 1) y0 y1 y2 y3 y4 y5))
 | 0 => ⟨fun _ _ _ _ r h => by simp [zaD.f] at h, fun _ _ _ _ _ _ r h => by simp [zaD.l0] at h⟩
 | k + 1 => by
  obtain ⟨ih0, ih1⟩ := zaD.zbr k; refine ⟨?_, ?_⟩
  ·intro y0 y1 y2 y3
   unfold zaD.f
   repeat' first
   | (with_reducible exact ih0 _ _ _ _)
   | (with_reducible exact ih1 _ _ _ _ _ _)
   | (with_reducible exact LeO.refl _)
   | (with_reducible exact LeO.none _)
   | (with_reducible refine LeO.ite ?_ ?_)
   | (with_reducible refine LeO.bind ?_ (fun _ => ?_))
  ·intro y0 y1 y2 y3 y4 y5
   unfold zaD.l0
   repeat' first
   | (with_reducible exact ih0 _ _ _ _)
   | (with_reducible exact ih1 _ _ _ _ _ _)
   | (with_reducible exact LeO.refl _)
   | (with_reducible exact LeO.none _)
   | (with_reducible refine LeO.ite ?_ ?_)
   | (with_reducible refine LeO.bind ?_ (fun _ => ?_))
theorem zaD.mono : ∀ a0 a1 a2 a3 k, LeO (zaD.f k a0 a1 a2 a3) (zaD.f (k + 1) a0 a1 a2 a3) := by
 intro a0 a1 a2 a3 k
 obtain ⟨ih0, ih1⟩ := zaD.zbr k; exact ih0 a0 a1 a2 a3
set_option maxHeartbeats 8000000 in
set_option maxRecDepth 100000 in
theorem zaD.calls (k : Nat) : ∀ (a0_0 : Int) (a0_1 : Int) (a0_2 : Int) (A0_3 : Option Addr) (c0_3 : Nat) (l0_3 : List (S25)) (r1 : Int) (r2 : Int) (r3 : Int) (r4 : List (S25)) (w : World) (hr0_3 : Kd.C k25 w A0_3 l0_3.length l0_3) (hc0_3 : l0_3.length ≤ c0_3) (h : zaD.f k a0_0 a0_1 a0_2 l0_3 = some (r1, r2, r3, r4)),
  Calls Try.prog 10 #[.agg #[.int .u8 a0_0, .int .u8 a0_1, .int .i64 a0_2, .slice A0_3 l0_3.length c0_3]] w fun e w' => ∃ v3_ : Value, e = .returned (.agg #[.int .u8 r1, .int .u8 r2, .int .i64 r3, v3_]) ∧ Kd.R k25 25 w' w.heap.size (fun _ => True) v3_ r4 ∧ Below w.heap.size w w' := by
 induction k using Nat.strongRecOn with
 | _ k ih =>
 intro a0_0 a0_1 a0_2 A0_3 c0_3 l0_3 r1 r2 r3 r4 w hr0_3 hc0_3 h
 cases k with
 | zero => exact absurd h (by simp [zaD.f])
 | succ k =>
 simp only [zaD.f] at h; have hu25 := Try.underlying25; have HR0_3 := zaa.mk hr0_3; have HC0_3 := zaa.mk hc0_3; clear hr0_3 hc0_3; have HB := zaa.mk (Below.refl w.heap.size w); have H : (if (l0_3.length : Int) = 0 then (some (a0_0, a0_1, a0_2, ([] : List (S25)))) else (zaD.l0 k ([] : List (S25)) 0 a0_0 a0_1 a0_2 l0_3)) = some (r1, r2, r3, r4) := h
 clear h; by_cases c2 : (l0_3.length : Int) = 0
 ·rw [if_pos c2] at H
  have c2b0 : ((l0_3.length : Int) == 0) = true := beq_iff_eq.mpr c2; have c2b1 : ((l0_3.length : Int) != 0) = false := bne_eq_false_iff_eq.mpr c2; clear c2; simp only [Option.some.injEq, Prod.mk.injEq] at H; obtain ⟨rfl, rfl, rfl, rfl⟩ := H; go_enter Try.func10, Try.ntmps10
  go_wp2_with (first | ((with_reducible refine za7 (N := 1) rfl ?_); refine zbl ?hg (N := 1) ?hd (cs := #[.int .u8 a0_0, .int .u8 a0_1, .int .i64 a0_2, .slice A0_3 l0_3.length c0_3]) (t := 25) ?hr ?_; (case hd => rfl); (case hg => rfl); (case hr => first | (go_simp; done) | (go_simp; rfl)); intro gb128 hg w3 hbox hb; have n0_ := zaa.mk (zaG (by repeat (first | exact HB.out | apply zad | apply zac | apply zae)) hb); have n1_ := zaa.mk (hbox); have n2_ := zaa.mk ((by rw [hg]; exact (zaB (by repeat (first | exact HB.out | apply zad | apply zac | apply zae))) : w.heap.size ≤ gb128)); have n3_ := zaa.mk ((by rw [hg]; exact (zaB (by repeat (first | exact HB.out | apply zad | apply zac | apply zae))) : w.heap.size ≤ gb128)); clear HB; have HB := n0_; have BK128 := n1_; have GW128 := n2_; have GE128 := n3_; clear n0_ n1_ n2_ n3_; clear hb hbox hg) | ((with_reducible refine za7 (N := 2) rfl ?_); refine zbl ?hg (N := 2) ?hd (cs := #[.int .u8 0, .int .u8 0, .int .i64 0, .slice none 0 0]) (t := 25) ?hr ?_; (case hd => rfl); (case hg => rfl); (case hr => first | (go_simp; done) | (go_simp; rfl)); intro gb129 hg w4 hbox hb; have n0_ := zaa.mk (zaX (g := gb128) (o := .cells #[.int .u8 a0_0, .int .u8 a0_1, .int .i64 a0_2, .slice A0_3 l0_3.length c0_3] 25 (0, 0)) (by (with_reducible repeat (first | refine zar ?_ _ | refine zav ?_ | refine zas ?_ _)); exact BK128.out) hb); have n1_ := zaa.mk (zaG (by repeat (first | (with_reducible first | exact HB.out | apply zad | apply zac | apply zae | refine zaq ?_ GE128.out) | exact HB.out)) hb); have n2_ := zaa.mk (hbox); have n3_ := zaa.mk ((by rw [hg]; exact (zaB (by repeat (first | (with_reducible first | exact HB.out | apply zad | apply zac | apply zae | refine zaq ?_ GE128.out) | exact HB.out))) : w.heap.size ≤ gb129)); have n4_ := zaa.mk ((by rw [hg]; exact (zaB (by repeat (first | (with_reducible first | exact HB.out | apply zad | apply zac | apply zae | refine zaq ?_ GE128.out) | exact HB.out))) : w.heap.size ≤ gb129)); have n5_ := zaa.mk ((by rw [hg]; exact Nat.ne_of_lt (za9 (g := gb128) (o := .cells #[.int .u8 a0_0, .int .u8 a0_1, .int .i64 a0_2, .slice A0_3 l0_3.length c0_3] 25 (0, 0)) (by (with_reducible repeat (first | refine zar ?_ _ | refine zav ?_ | refine zas ?_ _)); exact BK128.out)) : gb128 ≠ gb129)); have n6_ := zaa.mk ((by rw [hg]; exact Nat.ne_of_gt (za9 (g := gb128) (o := .cells #[.int .u8 a0_0, .int .u8 a0_1, .int .i64 a0_2, .slice A0_3 l0_3.length c0_3] 25 (0, 0)) (by (with_reducible repeat (first | refine zar ?_ _ | refine zav ?_ | refine zas ?_ _)); exact BK128.out)) : gb129 ≠ gb128)); clear BK128; clear HB; have BK128 := n0_; have HB := n1_; have BK129 := n2_; have GW129 := n3_; have GE129 := n4_; have NB128_129 := n5_; have NB129_128 := n6_; clear n0_ n1_ n2_ n3_ n4_ n5_ n6_; clear hb hbox hg; have hnb5 := NB128_129.out; have hnc5 := NB129_128.out; have hcz6_0 : w4.cell? ⟨gb128, 0, none⟩ = some (.int .u8 a0_0) := (zaf BK128.out 0).trans rfl; have hcz6_1 : w4.cell? ⟨gb128, 1, none⟩ = some (.int .u8 a0_1) := (zaf BK128.out 1).trans rfl; have hcz6_2 : w4.cell? ⟨gb128, 2, none⟩ = some (.int .i64 a0_2) := (zaf BK128.out 2).trans rfl; have hcz6_3 : w4.cell? ⟨gb128, 3, none⟩ = some (.slice A0_3 l0_3.length c0_3) := (zaf BK128.out 3).trans rfl; have hfz6_0 := zab BK128.out 0; have hfz6_1 := zab BK128.out 1; have hfz6_2 := zab BK128.out 2; have hfz6_3 := zab BK128.out 3; have hcz7_0 : w4.cell? ⟨gb129, 0, none⟩ = some (.int .u8 0) := (zaf BK129.out 0).trans rfl; have hcz7_1 : w4.cell? ⟨gb129, 1, none⟩ = some (.int .u8 0) := (zaf BK129.out 1).trans rfl; have hcz7_2 : w4.cell? ⟨gb129, 2, none⟩ = some (.int .i64 0) := (zaf BK129.out 2).trans rfl; have hcz7_3 : w4.cell? ⟨gb129, 3, none⟩ = some (.slice none 0 0) := (zaf BK129.out 3).trans rfl; have hfz7_0 := zab BK129.out 0; have hfz7_1 := zab BK129.out 1; have hfz7_2 := zab BK129.out 2; have hfz7_3 := zab BK129.out 3))
  refine bodyPost_ret (results_cell_row rfl _ _ gb129 25 #[.int .u8 a0_0, .int .u8 a0_1, .int .i64 a0_2, .slice none 0 0] (0, 0) _ rfl (by (with_reducible repeat (first | refine zar ?_ _ | refine zav ?_ | refine zas ?_ _)); refine zbv (cs := #[.int .u8 a0_0, .int .u8 a0_1, .int .i64 a0_2, .slice none 0 0]) ?_ 3 _ rfl; (with_reducible repeat (first | refine zar ?_ _ | refine zav ?_ | refine zas ?_ _)); refine zbv (cs := #[.int .u8 a0_0, .int .u8 a0_1, .int .i64 0, .slice none 0 0]) ?_ 2 _ rfl; (with_reducible repeat (first | refine zar ?_ _ | refine zav ?_ | refine zas ?_ _)); refine zbv (cs := #[.int .u8 a0_0, .int .u8 0, .int .i64 0, .slice none 0 0]) ?_ 1 _ rfl; (with_reducible repeat (first | refine zar ?_ _ | refine zav ?_ | refine zas ?_ _)); refine zbv (cs := #[.int .u8 0, .int .u8 0, .int .i64 0, .slice none 0 0]) ?_ 0 _ rfl; (with_reducible repeat (first | refine zar ?_ _ | refine zav ?_ | refine zas ?_ _)); refine zb7 ?_ NB129_128.out _; (with_reducible repeat (first | refine zar ?_ _ | refine zav ?_ | refine zas ?_ _)); exact BK129.out) Try.underlying25 rfl (by kernel_rfl)) rfl ?_
  exact ⟨_, by first | rfl | (simp [*, zaF, zaE] <;> rfl), by first | exact Kd.R_nil _ _ _ _ _ | exact Kd.N_nil _ _ _ _ _ | exact Kd.V_nil _ _ _ _ _ | exact Kd.Q_nil _ _ _ _ _ | exact Kd.S_nil _ _ _ _ _, by repeat (first | (with_reducible first | exact HB.out | apply zad | apply zac | apply zae | refine zaq ?_ GE128.out | refine zaq ?_ GE129.out) | exact HB.out)⟩
 ·rw [if_neg c2] at H
  have c2b0 : ((l0_3.length : Int) == 0) = false := beq_eq_false_iff_ne.mpr c2; have c2b1 : ((l0_3.length : Int) != 0) = true := bne_iff_ne.mpr c2; have c2b2 : ¬ (l0_3 = []) := fun h_ => c2 (by rw [h_]; rfl)
  have H' := zaa.mk H; clear H; go_enter Try.func10, Try.ntmps10
  go_wp2_with (first | ((with_reducible refine za7 (N := 1) rfl ?_); refine zbl ?hg (N := 1) ?hd (cs := #[.int .u8 a0_0, .int .u8 a0_1, .int .i64 a0_2, .slice A0_3 l0_3.length c0_3]) (t := 25) ?hr ?_; (case hd => rfl); (case hg => rfl); (case hr => first | (go_simp; done) | (go_simp; rfl)); intro gb128 hg w8 hbox hb; have n0_ := zaa.mk (zaG (by repeat (first | exact HB.out | apply zad | apply zac | apply zae)) hb); have n1_ := zaa.mk (hbox); have n2_ := zaa.mk ((by rw [hg]; exact (zaB (by repeat (first | exact HB.out | apply zad | apply zac | apply zae))) : w.heap.size ≤ gb128)); have n3_ := zaa.mk ((by rw [hg]; exact (zaB (by repeat (first | exact HB.out | apply zad | apply zac | apply zae))) : w.heap.size ≤ gb128)); clear HB; have HB := n0_; have BK128 := n1_; have GW128 := n2_; have GE128 := n3_; clear n0_ n1_ n2_ n3_; clear hb hbox hg) | ((with_reducible refine za7 (N := 2) rfl ?_); refine zbl ?hg (N := 2) ?hd (cs := #[.int .u8 0, .int .u8 0, .int .i64 0, .slice none 0 0]) (t := 25) ?hr ?_; (case hd => rfl); (case hg => rfl); (case hr => first | (go_simp; done) | (go_simp; rfl)); intro gb129 hg w9 hbox hb; have n0_ := zaa.mk (zaX (g := gb128) (o := .cells #[.int .u8 a0_0, .int .u8 a0_1, .int .i64 a0_2, .slice A0_3 l0_3.length c0_3] 25 (0, 0)) (by (with_reducible repeat (first | refine zar ?_ _ | refine zav ?_ | refine zas ?_ _)); exact BK128.out) hb); have n1_ := zaa.mk (zaG (by repeat (first | (with_reducible first | exact HB.out | apply zad | apply zac | apply zae | refine zaq ?_ GE128.out) | exact HB.out)) hb); have n2_ := zaa.mk (hbox); have n3_ := zaa.mk ((by rw [hg]; exact (zaB (by repeat (first | (with_reducible first | exact HB.out | apply zad | apply zac | apply zae | refine zaq ?_ GE128.out) | exact HB.out))) : w.heap.size ≤ gb129)); have n4_ := zaa.mk ((by rw [hg]; exact (zaB (by repeat (first | (with_reducible first | exact HB.out | apply zad | apply zac | apply zae | refine zaq ?_ GE128.out) | exact HB.out))) : w.heap.size ≤ gb129)); have n5_ := zaa.mk ((by rw [hg]; exact Nat.ne_of_lt (za9 (g := gb128) (o := .cells #[.int .u8 a0_0, .int .u8 a0_1, .int .i64 a0_2, .slice A0_3 l0_3.length c0_3] 25 (0, 0)) (by (with_reducible repeat (first | refine zar ?_ _ | refine zav ?_ | refine zas ?_ _)); exact BK128.out)) : gb128 ≠ gb129)); have n6_ := zaa.mk ((by rw [hg]; exact Nat.ne_of_gt (za9 (g := gb128) (o := .cells #[.int .u8 a0_0, .int .u8 a0_1, .int .i64 a0_2, .slice A0_3 l0_3.length c0_3] 25 (0, 0)) (by (with_reducible repeat (first | refine zar ?_ _ | refine zav ?_ | refine zas ?_ _)); exact BK128.out)) : gb129 ≠ gb128)); clear BK128; clear HB; have BK128 := n0_; have HB := n1_; have BK129 := n2_; have GW129 := n3_; have GE129 := n4_; have NB128_129 := n5_; have NB129_128 := n6_; clear n0_ n1_ n2_ n3_ n4_ n5_ n6_; clear hb hbox hg; have hnb10 := NB128_129.out; have hnc10 := NB129_128.out; have hcz11_0 : w9.cell? ⟨gb128, 0, none⟩ = some (.int .u8 a0_0) := (zaf BK128.out 0).trans rfl; have hcz11_1 : w9.cell? ⟨gb128, 1, none⟩ = some (.int .u8 a0_1) := (zaf BK128.out 1).trans rfl; have hcz11_2 : w9.cell? ⟨gb128, 2, none⟩ = some (.int .i64 a0_2) := (zaf BK128.out 2).trans rfl; have hcz11_3 : w9.cell? ⟨gb128, 3, none⟩ = some (.slice A0_3 l0_3.length c0_3) := (zaf BK128.out 3).trans rfl; have hfz11_0 := zab BK128.out 0; have hfz11_1 := zab BK128.out 1; have hfz11_2 := zab BK128.out 2; have hfz11_3 := zab BK128.out 3))
  go_loopg [3, 4] k (fun kq v3 v4 w' => ∃ (x3_1 : List (S25)) (x4_1 : Int), v4 = .int .i64 x4_1 ∧ zaa (zaD.l0 kq x3_1 x4_1 a0_0 a0_1 a0_2 l0_3 = some (r1, r2, r3, r4)) ∧ zaa (kq ≤ k) ∧ zaa (Kd.R k25 25 w' w.heap.size (fun k_ => k_ ≠ gb128 ∧ k_ ≠ gb129) v3 x3_1) ∧ zaa (w'.heap[gb128]? = some (.cells #[.int .u8 a0_0, .int .u8 a0_1, .int .i64 a0_2, (.slice A0_3 l0_3.length c0_3)] 25 (0, 0))) ∧ zaa (w'.heap[gb129]? = some (.cells #[.int .u8 0, .int .u8 0, .int .i64 0, (.slice none 0 0)] 25 (0, 0))) ∧ zaa (Below w.heap.size w w'))
  case atStart => exact ⟨(([] : List (S25))), (0), (by first | rfl | (simp; done) | (simp [*]; done)), H', ⟨Nat.le_refl _⟩, ⟨by first | exact Kd.R_nil _ _ _ _ _ | exact Kd.N_nil _ _ _ _ _ | exact Kd.V_nil _ _ _ _ _ | exact Kd.Q_nil _ _ _ _ _ | exact Kd.S_nil _ _ _ _ _⟩, ⟨by (with_reducible repeat (first | refine zar ?_ _ | refine zav ?_ | refine zas ?_ _)); exact BK128.out⟩, ⟨by (with_reducible repeat (first | refine zar ?_ _ | refine zav ?_ | refine zas ?_ _)); exact BK129.out⟩, ⟨by repeat (first | (with_reducible first | exact HB.out | apply zad | apply zac | apply zae | refine zaq ?_ GE128.out | refine zaq ?_ GE129.out) | exact HB.out)⟩⟩
  case round =>
   clear H'; try clear c1
   try clear c2
   try clear c2b0
   try clear c2b1
   try clear c2b2
   try clear p2
   try clear c5
   try clear c10
   try clear hcz11_0
   try clear hcz11_1
   try clear hcz11_2
   try clear hcz11_3
   try clear hcz6_0
   try clear hcz6_1
   try clear hcz6_2
   try clear hcz6_3
   try clear hcz7_0
   try clear hcz7_1
   try clear hcz7_2
   try clear hcz7_3
   try clear hfz11_0
   try clear hfz11_1
   try clear hfz11_2
   try clear hfz11_3
   try clear hfz6_0
   try clear hfz6_1
   try clear hfz6_2
   try clear hfz6_3
   try clear hfz7_0
   try clear hfz7_1
   try clear hfz7_2
   try clear hfz7_3
   obtain ⟨x3_1, x4_1, rfl, HA, HK1, HO_3, BK128, BK129, HB⟩ := hrel; cases gk with
   | zero => exact absurd HA.out (by simp [zaD.l0])
   | succ k1 =>
    have H := HA.out; clear HA; simp only [zaD.l0] at H; by_cases c12 : x4_1 < (l0_3.length : Int)
    ·rw [if_pos c12] at H
     have c12b0 : decide (x4_1 < (l0_3.length : Int)) = true := decide_eq_true c12; clear c12; by_cases c13 : 0 ≤ x4_1
     ·rw [if_pos c13] at H
      have c13b0 : decide (0 ≤ x4_1) = true := decide_eq_true c13; clear c13; replace H := Option.bind_eq_some_iff.mp H; obtain ⟨⟨t131, t132, t133, t134⟩, A140, H⟩ := H; replace H : (if x3_1.length < 3518437208883 then (zaD.l0 k1 (x3_1 ++ [(⟨t131, t132, t133, t134⟩ : S25)]) (wrap64 (x4_1 + 1)) a0_0 a0_1 a0_2 l0_3) else (none)) = some (r1, r2, r3, r4) := H
      have A14 := zaa.mk A140; clear A140; by_cases c15 : x3_1.length < 3518437208883
      ·rw [if_pos c15] at H
       have LMc15 := zaa.mk c15; clear c15; obtain ⟨y137, hy137⟩ : ∃ y_ : List (S25), y_ = (x3_1 ++ [(⟨t131, t132, t133, t134⟩ : S25)]) := ⟨_, rfl⟩; replace H : (zaD.l0 k1 y137 (wrap64 (x4_1 + 1)) a0_0 a0_1 a0_2 l0_3) = some (r1, r2, r3, r4) := by first | (rw [hy137]; with_reducible exact H) | (have H2_ := (Option.bind_some _ _).symm.trans H; rw [hy137]; with_reducible exact H2_) | (have H2_ := (Option.bind_some _ _).symm.trans H; with_reducible exact H2_) | with_reducible exact H | (rw [hy137]; exact H) | exact H
       have Ny137 := zaa.mk hy137; clear hy137; have H' := zaa.mk H; clear H; have hnb16 := NB128_129.out; have hnc16 := NB129_128.out; have hcz17_0 : wr.cell? ⟨gb128, 0, none⟩ = some (.int .u8 a0_0) := (zaf BK128.out 0).trans rfl; have hcz17_1 : wr.cell? ⟨gb128, 1, none⟩ = some (.int .u8 a0_1) := (zaf BK128.out 1).trans rfl; have hcz17_2 : wr.cell? ⟨gb128, 2, none⟩ = some (.int .i64 a0_2) := (zaf BK128.out 2).trans rfl; have hcz17_3 : wr.cell? ⟨gb128, 3, none⟩ = some (.slice A0_3 l0_3.length c0_3) := (zaf BK128.out 3).trans rfl; have hfz17_0 := zab BK128.out 0; have hfz17_1 := zab BK128.out 1; have hfz17_2 := zab BK128.out 2; have hfz17_3 := zab BK128.out 3; have p130 : 0 ≤ (x4_1 : Int) := of_decide_eq_true (by assumption)
       have q130 : x4_1 < (l0_3.length : Int) := of_decide_eq_true (by assumption)
       obtain ⟨ad130, A130_3, c130_3, e130, hx130_0, hx130_1, hx130_2, hx130_3, hl130_3, hi130_3⟩ := at_T25 HR0_3.out x4_1 p130 q130; cases e130; replace hx130_0 := (HB.out.cell (World.block_lt_of_cell? w _ hx130_0)).trans hx130_0; replace hx130_1 := (HB.out.cell (World.block_lt_of_cell? w _ hx130_1)).trans hx130_1; replace hx130_2 := (HB.out.cell (World.block_lt_of_cell? w _ hx130_2)).trans hx130_2; replace hx130_3 := (HB.out.cell (World.block_lt_of_cell? w _ hx130_3)).trans hx130_3; have HR130_3 := zaa.mk hi130_3; have HC130_3 := zaa.mk hl130_3; clear hi130_3 hl130_3; replace p130 := eq_true p130; replace q130 := eq_true q130; go_wp2_with (first | ((with_reducible refine zaS (f := 10) rfl ?_); refine zbj (some 24) rfl rfl Try.func10 (by kernel_rfl) rfl #[.agg #[.int .u8 ((za0 l0_3 x4_1).f0), .int .u8 ((za0 l0_3 x4_1).f1), .int .i64 ((za0 l0_3 x4_1).f2), .slice A130_3 ((za0 l0_3 x4_1).f3).length c130_3]] rfl (by (try simp only [List.map_toArray, List.map_cons, List.map_nil]); first | done | rfl | (simp only [List.length_drop, List.length_take]; rfl)) ?_; (with_reducible refine (ih k1 (by have := HK1.out; omega) ((za0 l0_3 x4_1).f0) ((za0 l0_3 x4_1).f1) ((za0 l0_3 x4_1).f2) _ _ ((za0 l0_3 x4_1).f3) t131 t132 t133 t134 _ ?side1 ?side2 A14.out).mono ?_); (case side1 => repeat (first | exact (Kd.zbH HR130_3.out HB.out) | (with_reducible refine Kd.zb4 ?_ _) | (with_reducible refine Kd.zb3 ?_ _) | (with_reducible refine Kd.zb5 ?_))); (case side2 => exact HC130_3.out); rintro e w18 ⟨v135, rfl, ho0, hb⟩; refine ⟨_, rfl, ?_⟩; have n0_ := zaa.mk (Kd.R_elder' (by (with_reducible repeat (first | apply Kd.za3 | apply Kd.za2 | apply Kd.za8)); exact HO_3.out) (Kd.R_base ho0) hb); have n1_ := zaa.mk (Kd.zbG (Kd.R_newB (Kd.R_newB (Kd.R_new' ho0 (Kd.R_lt (by (with_reducible repeat (first | apply Kd.za3 | apply Kd.za2 | apply Kd.za8)); exact HO_3.out))) (g := gb128) (o := .cells #[.int .u8 a0_0, .int .u8 a0_1, .int .i64 a0_2, .slice (some ad130) l0_3.length c0_3] 25 (0, 0)) (by (with_reducible repeat (first | refine zar ?_ _ | refine zav ?_ | refine zas ?_ _)); exact BK128.out)) (g := gb129) (o := .cells #[.int .u8 0, .int .u8 0, .int .i64 0, .slice none 0 0] 25 (0, 0)) (by (with_reducible repeat (first | refine zar ?_ _ | refine zav ?_ | refine zas ?_ _)); exact BK129.out)) (zaB (by repeat (first | (with_reducible first | exact HB.out | apply zad | apply zac | apply zae | refine zaq ?_ GE128.out | refine zaq ?_ GE129.out) | exact HB.out)))); have n2_ := zaa.mk (zaX (g := gb128) (o := .cells #[.int .u8 a0_0, .int .u8 a0_1, .int .i64 a0_2, .slice (some ad130) l0_3.length c0_3] 25 (0, 0)) (by (with_reducible repeat (first | refine zar ?_ _ | refine zav ?_ | refine zas ?_ _)); exact BK128.out) hb); have n3_ := zaa.mk (zaX (g := gb129) (o := .cells #[.int .u8 0, .int .u8 0, .int .i64 0, .slice none 0 0] 25 (0, 0)) (by (with_reducible repeat (first | refine zar ?_ _ | refine zav ?_ | refine zas ?_ _)); exact BK129.out) hb); have n4_ := zaa.mk (zaG (by repeat (first | (with_reducible first | exact HB.out | apply zad | apply zac | apply zae | refine zaq ?_ GE128.out | refine zaq ?_ GE129.out) | exact HB.out)) hb); clear HO_3; clear BK128; clear BK129; clear HB; have HO_3 := n0_; have HO136 := n1_; have BK128 := n2_; have BK129 := n3_; have HB := n4_; clear n0_ n1_ n2_ n3_ n4_; (try clear hb); (try clear hb2); (try clear hk); (try clear hi); (try clear ho0); obtain ⟨Ao20, co20, eo20⟩ := Kd.zbB HO136.out; subst eo20) | ((with_reducible refine gate_builtin (b := .append) (xs := #[.tmp 18, .tmp 25]) rfl ?_); at_builtin; refine Kd.R_append k25 (w0 := w) w.heap.size rfl (.tmp 18) (.tmp 25) 23 25 (.agg #[(.int .u8 0), (.int .u8 0), (.int .i64 0), (.slice none 0 0)]) 40 rfl Try.underlying23 info25 rfl (by decide) (by omega) u3 x3_1 (⟨t131, t132, t133, t134⟩ : S25) [.int .u8 t131, .int .u8 t132, .int .i64 t133, .slice Ao20 t134.length co20] (fun k_ => k_ ≠ gb128 ∧ k_ ≠ gb129) (fun k_ => ((fun k_ => k_ ≠ gb128 ∧ k_ ≠ gb129)) k_ ∧ some k_ ≠ (u3 : Value).ownBlock) rfl rfl ?aP (fun _ hk => hk) ?aF ?aO ?aB ?aS ?aL ?_; (case aP => exact k25_mkM _ _ _ (⟨t131, t132, t133, t134⟩ : S25) (Kd.zbV (HO136.out) (fun k_ hk => ⟨⟨hk.1.2, hk.2⟩, hk.1.1.2⟩))); (case aB => exact (by repeat (first | (with_reducible first | exact HB.out | apply zad | apply zac | apply zae | refine zaq ?_ GE128.out | refine zaq ?_ GE129.out) | exact HB.out))); (case aF => exact (fun k_ hk => ⟨Kd.freshB (g := gb128) (o := .cells #[.int .u8 a0_0, .int .u8 a0_1, .int .i64 a0_2, .slice (some ad130) l0_3.length c0_3] 25 (0, 0)) (by (with_reducible repeat (first | refine zar ?_ _ | refine zav ?_ | refine zas ?_ _)); exact BK128.out) k_ hk, Kd.freshB (g := gb129) (o := .cells #[.int .u8 0, .int .u8 0, .int .i64 0, .slice none 0 0] 25 (0, 0)) (by (with_reducible repeat (first | refine zar ?_ _ | refine zav ?_ | refine zas ?_ _)); exact BK129.out) k_ hk⟩)); (case aO => exact (by (with_reducible repeat (first | apply Kd.za3 | apply Kd.za2 | apply Kd.za8)); exact Kd.zbV HO_3.out (fun _ hk => ⟨hk.1.1, hk.1.2⟩))); (case aS => exact (zaB (by repeat (first | (with_reducible first | exact HB.out | apply zad | apply zac | apply zae | refine zaq ?_ GE128.out | refine zaq ?_ GE129.out) | exact HB.out)))); (case aL => have := LMc15.out; omega); intro v138 w19 ho hb hg hat; rw [← Ny137.out] at ho; have n0_ := zaa.mk (zcb (g := gb128) (o := .cells #[.int .u8 a0_0, .int .u8 a0_1, .int .i64 a0_2, .slice (some ad130) l0_3.length c0_3] 25 (0, 0)) (by (with_reducible repeat (first | refine zar ?_ _ | refine zav ?_ | refine zas ?_ _)); exact BK128.out) hg (Kd.R_away HO_3.out (fun _ hk => hk.1.1))); have n1_ := zaa.mk (zcb (g := gb129) (o := .cells #[.int .u8 0, .int .u8 0, .int .i64 0, .slice none 0 0] 25 (0, 0)) (by (with_reducible repeat (first | refine zar ?_ _ | refine zav ?_ | refine zas ?_ _)); exact BK129.out) hg (Kd.R_away HO_3.out (fun _ hk => hk.1.2))); have n2_ := zaa.mk (hb); have n3_ := zaa.mk (ho); clear BK128; clear BK129; clear HB; clear HO_3; clear HO136; have BK128 := n0_; have BK129 := n1_; have HB := n2_; have HO139 := n3_; clear n0_ n1_ n2_ n3_; clear ho hb hg hat))
       go_roundg k1
       case measure => have := HK1.out; omega
       case rel => exact ⟨(y137), (wrap64 (x4_1 + 1)), (by first | rfl | (simp; done) | (simp [*]; done)), H', ⟨by have := HK1.out; omega⟩, ⟨by (with_reducible repeat (first | apply Kd.za3 | apply Kd.za2 | apply Kd.za8)); exact HO139.out⟩, ⟨by (with_reducible repeat (first | refine zar ?_ _ | refine zav ?_ | refine zas ?_ _)); exact BK128.out⟩, ⟨by (with_reducible repeat (first | refine zar ?_ _ | refine zav ?_ | refine zas ?_ _)); exact BK129.out⟩, ⟨by repeat (first | (with_reducible first | exact HB.out | apply zad | apply zac | apply zae | refine zaq ?_ GE128.out | refine zaq ?_ GE129.out) | exact HB.out)⟩⟩
      ·rw [if_neg c15] at H
       exact absurd H (by simp)
     ·rw [if_neg c13] at H
      exact absurd H (by simp)
    ·rw [if_neg c12] at H
     have c12b0 : decide (x4_1 < (l0_3.length : Int)) = false := decide_eq_false c12; clear c12; simp only [Option.some.injEq, Prod.mk.injEq] at H; obtain ⟨rfl, rfl, rfl, rfl⟩ := H; have hnb21 := NB128_129.out; have hnc21 := NB129_128.out; have hcz22_0 : wr.cell? ⟨gb128, 0, none⟩ = some (.int .u8 a0_0) := (zaf BK128.out 0).trans rfl; have hcz22_1 : wr.cell? ⟨gb128, 1, none⟩ = some (.int .u8 a0_1) := (zaf BK128.out 1).trans rfl; have hcz22_2 : wr.cell? ⟨gb128, 2, none⟩ = some (.int .i64 a0_2) := (zaf BK128.out 2).trans rfl; have hcz22_3 : wr.cell? ⟨gb128, 3, none⟩ = some (.slice A0_3 l0_3.length c0_3) := (zaf BK128.out 3).trans rfl; have hfz22_0 := zab BK128.out 0; have hfz22_1 := zab BK128.out 1; have hfz22_2 := zab BK128.out 2; have hfz22_3 := zab BK128.out 3; obtain ⟨Ao23, co23, eo23⟩ := Kd.zbB HO_3.out; subst eo23; have hcz24_0 : wr.cell? ⟨gb129, 0, none⟩ = some (.int .u8 0) := (zaf BK129.out 0).trans rfl; have hcz24_1 : wr.cell? ⟨gb129, 1, none⟩ = some (.int .u8 0) := (zaf BK129.out 1).trans rfl; have hcz24_2 : wr.cell? ⟨gb129, 2, none⟩ = some (.int .i64 0) := (zaf BK129.out 2).trans rfl; have hcz24_3 : wr.cell? ⟨gb129, 3, none⟩ = some (.slice none 0 0) := (zaf BK129.out 3).trans rfl; have hfz24_0 := zab BK129.out 0; have hfz24_1 := zab BK129.out 1; have hfz24_2 := zab BK129.out 2; have hfz24_3 := zab BK129.out 3; go_wp2
     refine bodyPost_ret (results_cell_row rfl _ _ gb129 25 #[.int .u8 a0_0, .int .u8 a0_1, .int .i64 a0_2, .slice Ao23 x3_1.length co23] (0, 0) _ rfl (by (with_reducible repeat (first | refine zar ?_ _ | refine zav ?_ | refine zas ?_ _)); refine zbv (cs := #[.int .u8 a0_0, .int .u8 a0_1, .int .i64 a0_2, .slice none 0 0]) ?_ 3 _ rfl; (with_reducible repeat (first | refine zar ?_ _ | refine zav ?_ | refine zas ?_ _)); refine zbv (cs := #[.int .u8 a0_0, .int .u8 a0_1, .int .i64 0, .slice none 0 0]) ?_ 2 _ rfl; (with_reducible repeat (first | refine zar ?_ _ | refine zav ?_ | refine zas ?_ _)); refine zbv (cs := #[.int .u8 a0_0, .int .u8 0, .int .i64 0, .slice none 0 0]) ?_ 1 _ rfl; (with_reducible repeat (first | refine zar ?_ _ | refine zav ?_ | refine zas ?_ _)); refine zbv (cs := #[.int .u8 0, .int .u8 0, .int .i64 0, .slice none 0 0]) ?_ 0 _ rfl; (with_reducible repeat (first | refine zar ?_ _ | refine zav ?_ | refine zas ?_ _)); refine zb7 ?_ NB129_128.out _; (with_reducible repeat (first | refine zar ?_ _ | refine zav ?_ | refine zas ?_ _)); exact BK129.out) Try.underlying25 rfl (by kernel_rfl)) rfl ?_
     exact ⟨_, by first | rfl | (simp [*, zaF, zaE] <;> rfl), by (with_reducible repeat (first | apply Kd.za3 | apply Kd.za2 | apply Kd.za8)); exact Kd.zbV (Kd.R_far (p := ⟨gb129, 3, none⟩) (Kd.R_far (p := ⟨gb129, 2, none⟩) (Kd.R_far (p := ⟨gb129, 1, none⟩) (Kd.R_far (p := ⟨gb129, 0, none⟩) (Kd.R_far (p := ⟨gb128, 3, none⟩) (Kd.zbV (Kd.zbV HO_3.out (fun k_ hk => (⟨hk, hk.1⟩ : _ ∧ k_ ≠ gb128))) (fun k_ hk => (⟨hk, hk.1.2⟩ : _ ∧ k_ ≠ gb129))) (fun _ hk => hk.1.2) (.slice Ao23 x3_1.length co23)) (fun _ hk => hk.2) (.int .u8 a0_0)) (fun _ hk => hk.2) (.int .u8 a0_1)) (fun _ hk => hk.2) (.int .i64 a0_2)) (fun _ hk => hk.2) (.slice Ao23 x3_1.length co23)) (fun _ hk => trivial), by repeat (first | (with_reducible first | exact HB.out | apply zad | apply zac | apply zae | refine zaq ?_ GE128.out | refine zaq ?_ GE129.out) | exact HB.out)⟩
mutual
def zan.j0 : Nat → Bool → Int → Int → Int → List (S25) → Int → Int → Int → List (S25) → Option (Bool)
 | 0, _, _, _, _, _, _, _, _, _ => none
 | k + 1, x33, x185000, x185001, x185002, x185003, x186000, x186001, x186002, x186003 => if x33 = true then (some false) else (zan.l0 k 0 x185000 x185001 x185002 x185003 x186000 x186001 x186002 x186003)
def zan.l0 : Nat → Int → Int → Int → Int → List (S25) → Int → Int → Int → List (S25) → Option (Bool)
 | 0, _, _, _, _, _, _, _, _, _ => none
 | k + 1, x5, x185000, x185001, x185002, x185003, x186000, x186001, x186002, x186003 => if x5 < (x185003.length : Int) then (if 0 ≤ x5 then (if x5 < (x186003.length : Int) then ((zan.f k ((za0 x185003 x5).f0) ((za0 x185003 x5).f1) ((za0 x185003 x5).f2) ((za0 x185003 x5).f3) ((za0 x186003 x5).f0) ((za0 x186003 x5).f1) ((za0 x186003 x5).f2) ((za0 x186003 x5).f3)).bind fun t188 => (if t188 = true then (zan.l0 k (wrap64 (x5 + 1)) x185000 x185001 x185002 x185003 x186000 x186001 x186002 x186003) else (some false))) else (none)) else (none)) else (some true)
def zan.f : Nat → Int → Int → Int → List (S25) → Int → Int → Int → List (S25) → Option (Bool)
 | 0, _, _, _, _, _, _, _, _ => none
 | k + 1, a0_0, a0_1, a0_2, l0_3, a1_0, a1_1, a1_2, l1_3 => if a0_0 = a1_0 then (if a0_1 = a1_1 then (if a0_2 = a1_2 then (zan.j0 k ((l0_3.length : Int) != (l1_3.length : Int)) a0_0 a0_1 a0_2 l0_3 a1_0 a1_1 a1_2 l1_3) else (zan.j0 k true a0_0 a0_1 a0_2 l0_3 a1_0 a1_1 a1_2 l1_3)) else (zan.j0 k true a0_0 a0_1 a0_2 l0_3 a1_0 a1_1 a1_2 l1_3)) else (zan.j0 k true a0_0 a0_1 a0_2 l0_3 a1_0 a1_1 a1_2 l1_3)
end
theorem zan.zbr : ∀ k, (∀ y0 y1 y2 y3 y4 y5 y6 y7, LeO (zan.f k y0 y1 y2 y3 y4 y5 y6 y7) (zan.f (k + 1) y0 y1 y2 y3 y4 y5 y6 y7)) ∧ (∀ y0 y1 y2 y3 y4 y5 y6 y7 y8, LeO (zan.j0 k y0 y1 y2 y3 y4 y5 y6 y7 y8) (zan.j0 (k + 1) y0 y1 y2 y3 y4 y5 y6 y7 y8)) ∧ (∀ y0 y1 y2 y3 y4 y5 y6 y7 y8, LeO (zan.l0 k y0 y1 y2 y3 y4 y5 y6 y7 y8) (zan.l0 (k + 1) y0 y1 y2 y3 y4 y5 y6 y7 y8))
 | 0 => ⟨fun _ _ _ _ _ _ _ _ r h => by simp [zan.f] at h, fun _ _ _ _ _ _ _ _ _ r h => by simp [zan.j0] at h, fun _ _ _ _ _ _ _ _ _ r h => by simp [zan.l0] at h⟩
 | k + 1 => by
  obtain ⟨ih0, ih1, ih2⟩ := zan.zbr k; refine ⟨?_, ?_, ?_⟩
  ·intro y0 y1 y2 y3 y4 y5 y6 y7
   unfold zan.f
   repeat' first
   | (with_reducible exact ih0 _ _ _ _ _ _ _ _)
   | (with_reducible exact ih1 _ _ _ _ _ _ _ _ _)
   | (with_reducible exact ih2 _ _ _ _ _ _ _ _ _)
   | (with_reducible exact LeO.refl _)
   | (with_reducible exact LeO.none _)
   | (with_reducible refine LeO.ite ?_ ?_)
   | (with_reducible refine LeO.bind ?_ (fun _ => ?_))
  ·intro y0 y1 y2 y3 y4 y5 y6 y7 y8
   unfold zan.j0
   repeat' first
   | (with_reducible exact ih0 _ _ _ _ _ _ _ _)
   | (with_reducible exact ih1 _ _ _ _ _ _ _ _ _)
   | (with_reducible exact ih2 _ _ _ _ _ _ _ _ _)
   | (with_reducible exact LeO.refl _)
   | (with_reducible exact LeO.none _)
   | (with_reducible refine LeO.ite ?_ ?_)
   | (with_reducible refine LeO.bind ?_ (fun _ => ?_))
  ·intro y0 y1 y2 y3 y4 y5 y6 y7 y8
   unfold zan.l0
   repeat' first
   | (with_reducible exact ih0 _ _ _ _ _ _ _ _)
   | (with_reducible exact ih1 _ _ _ _ _ _ _ _ _)
   | (with_reducible exact ih2 _ _ _ _ _ _ _ _ _)
   | (with_reducible exact LeO.refl _)
   | (with_reducible exact LeO.none _)
   | (with_reducible refine LeO.ite ?_ ?_)
   | (with_reducible refine LeO.bind ?_ (fun _ => ?_))
theorem zan.mono : ∀ a0 a1 a2 a3 a4 a5 a6 a7 k, LeO (zan.f k a0 a1 a2 a3 a4 a5 a6 a7) (zan.f (k + 1) a0 a1 a2 a3 a4 a5 a6 a7) := by
 intro a0 a1 a2 a3 a4 a5 a6 a7 k
 obtain ⟨ih0, ih1, ih2⟩ := zan.zbr k; exact ih0 a0 a1 a2 a3 a4 a5 a6 a7
def zan.T6 : Bool × List (List Nat × List Nat) := (true, [([], []), ([0], [0]), ([], []), ([1, 2], [1, 2]), ([3], [3]), ([], []), ([5], [5]), ([], []), ([6, 7], [6, 7]), ([8], [8]), ([4, 9], [4, 9]), ([10], [10])])
def zan.B6 : List Nat := [0, 1, 0, 7, 15, 0, 32, 0, 224, 480, 1023, 2047]
theorem zan.tab6 : rtab .any (opsOf Try.f14 6) = zan.T6 := by kernel_rfl
theorem zan.bits6 : waitsOk zan.T6.2 zan.B6 = true := by kernel_rfl
set_option maxHeartbeats 8000000 in
set_option maxRecDepth 100000 in
theorem zan.calls (k : Nat) : ∀ (a0_0 : Int) (a0_1 : Int) (a0_2 : Int) (A0_3 : Option Addr) (c0_3 : Nat) (l0_3 : List (S25)) (a1_0 : Int) (a1_1 : Int) (a1_2 : Int) (A1_3 : Option Addr) (c1_3 : Nat) (l1_3 : List (S25)) (r : Bool) (w : World) (hr0_3 : Kd.C k25 w A0_3 l0_3.length l0_3) (hc0_3 : l0_3.length ≤ c0_3) (hr1_3 : Kd.C k25 w A1_3 l1_3.length l1_3) (hc1_3 : l1_3.length ≤ c1_3) (h : zan.f k a0_0 a0_1 a0_2 l0_3 a1_0 a1_1 a1_2 l1_3 = some r),
  Calls Try.prog 14 #[.agg #[.int .u8 a0_0, .int .u8 a0_1, .int .i64 a0_2, .slice A0_3 l0_3.length c0_3], .agg #[.int .u8 a1_0, .int .u8 a1_1, .int .i64 a1_2, .slice A1_3 l1_3.length c1_3]] w fun e w' => e = .returned (.bool r) ∧ Below w.heap.size w w' := by
 induction k using Nat.strongRecOn with
 | _ k ih =>
 intro a0_0 a0_1 a0_2 A0_3 c0_3 l0_3 a1_0 a1_1 a1_2 A1_3 c1_3 l1_3 r w hr0_3 hc0_3 hr1_3 hc1_3 h
 cases k with
 | zero => exact absurd h (by simp [zan.f])
 | succ k =>
 simp only [zan.f] at h; have hu25 := Try.underlying25; have HR0_3 := zaa.mk hr0_3; have HC0_3 := zaa.mk hc0_3; clear hr0_3 hc0_3; have HR1_3 := zaa.mk hr1_3; have HC1_3 := zaa.mk hc1_3; clear hr1_3 hc1_3; have HB := zaa.mk (Below.refl w.heap.size w); have H : (if a0_0 = a1_0 then (if a0_1 = a1_1 then (if a0_2 = a1_2 then (zan.j0 k ((l0_3.length : Int) != (l1_3.length : Int)) a0_0 a0_1 a0_2 l0_3 a1_0 a1_1 a1_2 l1_3) else (zan.j0 k true a0_0 a0_1 a0_2 l0_3 a1_0 a1_1 a1_2 l1_3)) else (zan.j0 k true a0_0 a0_1 a0_2 l0_3 a1_0 a1_1 a1_2 l1_3)) else (zan.j0 k true a0_0 a0_1 a0_2 l0_3 a1_0 a1_1 a1_2 l1_3)) = some r := h
 clear h; have HC3 := zaa.mk H; clear H; go_enter Try.func14, Try.ntmps14
 go_upto_region 1 with (first | ((with_reducible refine za7 (N := 2) rfl ?_); (try (refine zbW (by rfl) ?_; dsimp only)); refine zbl ?hg (N := 2) ?hd (cs := #[.int .u8 a0_0, .int .u8 a0_1, .int .i64 a0_2, .slice A0_3 l0_3.length c0_3]) (t := 25) ?hr ?_; (case hd => rfl); (case hg => rfl); (case hr => first | (go_simp; done) | (go_simp; rfl)); intro gb184 hg w4 hbox hb; have n0_ := zaa.mk (zaG (by repeat (first | exact HB.out | apply zad | apply zac | apply zae)) hb); have n1_ := zaa.mk (hbox); have n2_ := zaa.mk ((by rw [hg]; exact (zaB (by repeat (first | exact HB.out | apply zad | apply zac | apply zae))) : w.heap.size ≤ gb184)); have n3_ := zaa.mk ((by rw [hg]; exact (zaB (by repeat (first | exact HB.out | apply zad | apply zac | apply zae))) : w.heap.size ≤ gb184)); clear HB; have HB := n0_; have BK184 := n1_; have GW184 := n2_; have GE184 := n3_; clear n0_ n1_ n2_ n3_; clear hb hbox hg) | ((with_reducible refine za7 (N := 3) rfl ?_); (try (refine zbW (by rfl) ?_; dsimp only)); refine zbl ?hg (N := 3) ?hd (cs := #[.int .u8 a1_0, .int .u8 a1_1, .int .i64 a1_2, .slice A1_3 l1_3.length c1_3]) (t := 25) ?hr ?_; (case hd => rfl); (case hg => rfl); (case hr => first | (go_simp; done) | (go_simp; rfl)); intro gb185 hg w5 hbox hb; have n0_ := zaa.mk (zaX (g := gb184) (o := .cells #[.int .u8 a0_0, .int .u8 a0_1, .int .i64 a0_2, .slice A0_3 l0_3.length c0_3] 25 (0, 0)) (by (with_reducible repeat (first | refine zar ?_ _ | refine zav ?_ | refine zas ?_ _)); exact BK184.out) hb); have n1_ := zaa.mk (zaG (by repeat (first | (with_reducible first | exact HB.out | apply zad | apply zac | apply zae | refine zaq ?_ GE184.out) | exact HB.out)) hb); have n2_ := zaa.mk (hbox); have n3_ := zaa.mk ((by rw [hg]; exact (zaB (by repeat (first | (with_reducible first | exact HB.out | apply zad | apply zac | apply zae | refine zaq ?_ GE184.out) | exact HB.out))) : w.heap.size ≤ gb185)); have n4_ := zaa.mk ((by rw [hg]; exact (zaB (by repeat (first | (with_reducible first | exact HB.out | apply zad | apply zac | apply zae | refine zaq ?_ GE184.out) | exact HB.out))) : w.heap.size ≤ gb185)); have n5_ := zaa.mk ((by rw [hg]; exact Nat.ne_of_lt (za9 (g := gb184) (o := .cells #[.int .u8 a0_0, .int .u8 a0_1, .int .i64 a0_2, .slice A0_3 l0_3.length c0_3] 25 (0, 0)) (by (with_reducible repeat (first | refine zar ?_ _ | refine zav ?_ | refine zas ?_ _)); exact BK184.out)) : gb184 ≠ gb185)); have n6_ := zaa.mk ((by rw [hg]; exact Nat.ne_of_gt (za9 (g := gb184) (o := .cells #[.int .u8 a0_0, .int .u8 a0_1, .int .i64 a0_2, .slice A0_3 l0_3.length c0_3] 25 (0, 0)) (by (with_reducible repeat (first | refine zar ?_ _ | refine zav ?_ | refine zas ?_ _)); exact BK184.out)) : gb185 ≠ gb184)); clear BK184; clear HB; have BK184 := n0_; have HB := n1_; have BK185 := n2_; have GW185 := n3_; have GE185 := n4_; have NB184_185 := n5_; have NB185_184 := n6_; clear n0_ n1_ n2_ n3_ n4_ n5_ n6_; clear hb hbox hg))
 (try simp only [Act.put, zaw])
 go_cut [33] (fun v33 wc => ∃ (kq : Nat) (x33_2 : Bool), v33 = .bool x33_2 ∧ zaa (zan.j0 kq x33_2 a0_0 a0_1 a0_2 l0_3 a1_0 a1_1 a1_2 l1_3 = some r) ∧ zaa (kq ≤ k) ∧ zaa (wc.heap[gb184]? = some (.cells #[.int .u8 a0_0, .int .u8 a0_1, .int .i64 a0_2, (.slice A0_3 l0_3.length c0_3)] 25 (0, 0))) ∧ zaa (wc.heap[gb185]? = some (.cells #[.int .u8 a1_0, .int .u8 a1_1, .int .i64 a1_2, (.slice A1_3 l1_3.length c1_3)] 25 (0, 0))) ∧ zaa (Below w.heap.size w wc))
 case first =>
  have H := HC3.out; clear HC3; by_cases c6 : a0_0 = a1_0
  ·rw [if_pos c6] at H
   have c6b0 : (a0_0 == a1_0) = true := beq_iff_eq.mpr c6; have c6b1 : (a0_0 != a1_0) = false := bne_eq_false_iff_eq.mpr c6; clear c6
   (first | rw [c6b0] | (simp only [i64_w, i32_w]; rw [c6b0]) | skip)
   by_cases c7 : a0_1 = a1_1
   ·rw [if_pos c7] at H
    have c7b0 : (a0_1 == a1_1) = true := beq_iff_eq.mpr c7; have c7b1 : (a0_1 != a1_1) = false := bne_eq_false_iff_eq.mpr c7; clear c7; by_cases c8 : a0_2 = a1_2
    ·rw [if_pos c8] at H
     have c8b0 : (a0_2 == a1_2) = true := beq_iff_eq.mpr c8; have c8b1 : (a0_2 != a1_2) = false := bne_eq_false_iff_eq.mpr c8; clear c8; have H' := zaa.mk H; clear H; have hnb9 := NB184_185.out; have hnc9 := NB185_184.out; have hcz10_0 : w5.cell? ⟨gb184, 0, none⟩ = some (.int .u8 a0_0) := (zaf BK184.out 0).trans rfl; have hcz10_1 : w5.cell? ⟨gb184, 1, none⟩ = some (.int .u8 a0_1) := (zaf BK184.out 1).trans rfl; have hcz10_2 : w5.cell? ⟨gb184, 2, none⟩ = some (.int .i64 a0_2) := (zaf BK184.out 2).trans rfl; have hcz10_3 : w5.cell? ⟨gb184, 3, none⟩ = some (.slice A0_3 l0_3.length c0_3) := (zaf BK184.out 3).trans rfl; have hfz10_0 := zab BK184.out 0; have hfz10_1 := zab BK184.out 1; have hfz10_2 := zab BK184.out 2; have hfz10_3 := zab BK184.out 3; have hcz11_0 : w5.cell? ⟨gb185, 0, none⟩ = some (.int .u8 a1_0) := (zaf BK185.out 0).trans rfl; have hcz11_1 : w5.cell? ⟨gb185, 1, none⟩ = some (.int .u8 a1_1) := (zaf BK185.out 1).trans rfl; have hcz11_2 : w5.cell? ⟨gb185, 2, none⟩ = some (.int .i64 a1_2) := (zaf BK185.out 2).trans rfl; have hcz11_3 : w5.cell? ⟨gb185, 3, none⟩ = some (.slice A1_3 l1_3.length c1_3) := (zaf BK185.out 3).trans rfl; have hfz11_0 := zab BK185.out 0; have hfz11_1 := zab BK185.out 1; have hfz11_2 := zab BK185.out 2; have hfz11_3 := zab BK185.out 3; go_wp2
     go_meet
     case rel => exact ⟨_, (((l0_3.length : Int) != (l1_3.length : Int))), (by first | rfl | (simp; done) | (simp [*]; done)), H', ⟨by first | omega | exact Nat.le_refl _⟩, ⟨by (with_reducible repeat (first | refine zar ?_ _ | refine zav ?_ | refine zas ?_ _)); exact BK184.out⟩, ⟨by (with_reducible repeat (first | refine zar ?_ _ | refine zav ?_ | refine zas ?_ _)); exact BK185.out⟩, ⟨by repeat (first | (with_reducible first | exact HB.out | apply zad | apply zac | apply zae | refine zaq ?_ GE184.out | refine zaq ?_ GE185.out) | exact HB.out)⟩⟩
    ·rw [if_neg c8] at H
     have c8b0 : (a0_2 == a1_2) = false := beq_eq_false_iff_ne.mpr c8; have c8b1 : (a0_2 != a1_2) = true := bne_iff_ne.mpr c8; have H' := zaa.mk H; clear H; have hnb12 := NB184_185.out; have hnc12 := NB185_184.out; have hcz13_0 : w5.cell? ⟨gb184, 0, none⟩ = some (.int .u8 a0_0) := (zaf BK184.out 0).trans rfl; have hcz13_1 : w5.cell? ⟨gb184, 1, none⟩ = some (.int .u8 a0_1) := (zaf BK184.out 1).trans rfl; have hcz13_2 : w5.cell? ⟨gb184, 2, none⟩ = some (.int .i64 a0_2) := (zaf BK184.out 2).trans rfl; have hcz13_3 : w5.cell? ⟨gb184, 3, none⟩ = some (.slice A0_3 l0_3.length c0_3) := (zaf BK184.out 3).trans rfl; have hfz13_0 := zab BK184.out 0; have hfz13_1 := zab BK184.out 1; have hfz13_2 := zab BK184.out 2; have hfz13_3 := zab BK184.out 3; have hcz14_0 : w5.cell? ⟨gb185, 0, none⟩ = some (.int .u8 a1_0) := (zaf BK185.out 0).trans rfl; have hcz14_1 : w5.cell? ⟨gb185, 1, none⟩ = some (.int .u8 a1_1) := (zaf BK185.out 1).trans rfl; have hcz14_2 : w5.cell? ⟨gb185, 2, none⟩ = some (.int .i64 a1_2) := (zaf BK185.out 2).trans rfl; have hcz14_3 : w5.cell? ⟨gb185, 3, none⟩ = some (.slice A1_3 l1_3.length c1_3) := (zaf BK185.out 3).trans rfl; have hfz14_0 := zab BK185.out 0; have hfz14_1 := zab BK185.out 1; have hfz14_2 := zab BK185.out 2; have hfz14_3 := zab BK185.out 3; go_wp2
     go_meet
     case rel => exact ⟨_, (true), (by first | rfl | (simp; done) | (simp [*]; done)), H', ⟨by first | omega | exact Nat.le_refl _⟩, ⟨by (with_reducible repeat (first | refine zar ?_ _ | refine zav ?_ | refine zas ?_ _)); exact BK184.out⟩, ⟨by (with_reducible repeat (first | refine zar ?_ _ | refine zav ?_ | refine zas ?_ _)); exact BK185.out⟩, ⟨by repeat (first | (with_reducible first | exact HB.out | apply zad | apply zac | apply zae | refine zaq ?_ GE184.out | refine zaq ?_ GE185.out) | exact HB.out)⟩⟩
   ·rw [if_neg c7] at H
    have c7b0 : (a0_1 == a1_1) = false := beq_eq_false_iff_ne.mpr c7; have c7b1 : (a0_1 != a1_1) = true := bne_iff_ne.mpr c7; have H' := zaa.mk H; clear H; have hnb15 := NB184_185.out; have hnc15 := NB185_184.out; have hcz16_0 : w5.cell? ⟨gb184, 0, none⟩ = some (.int .u8 a0_0) := (zaf BK184.out 0).trans rfl; have hcz16_1 : w5.cell? ⟨gb184, 1, none⟩ = some (.int .u8 a0_1) := (zaf BK184.out 1).trans rfl; have hcz16_2 : w5.cell? ⟨gb184, 2, none⟩ = some (.int .i64 a0_2) := (zaf BK184.out 2).trans rfl; have hcz16_3 : w5.cell? ⟨gb184, 3, none⟩ = some (.slice A0_3 l0_3.length c0_3) := (zaf BK184.out 3).trans rfl; have hfz16_0 := zab BK184.out 0; have hfz16_1 := zab BK184.out 1; have hfz16_2 := zab BK184.out 2; have hfz16_3 := zab BK184.out 3; have hcz17_0 : w5.cell? ⟨gb185, 0, none⟩ = some (.int .u8 a1_0) := (zaf BK185.out 0).trans rfl; have hcz17_1 : w5.cell? ⟨gb185, 1, none⟩ = some (.int .u8 a1_1) := (zaf BK185.out 1).trans rfl; have hcz17_2 : w5.cell? ⟨gb185, 2, none⟩ = some (.int .i64 a1_2) := (zaf BK185.out 2).trans rfl; have hcz17_3 : w5.cell? ⟨gb185, 3, none⟩ = some (.slice A1_3 l1_3.length c1_3) := (zaf BK185.out 3).trans rfl; have hfz17_0 := zab BK185.out 0; have hfz17_1 := zab BK185.out 1; have hfz17_2 := zab BK185.out 2; have hfz17_3 := zab BK185.out 3; go_wp2
    go_meet
    case rel => exact ⟨_, (true), (by first | rfl | (simp; done) | (simp [*]; done)), H', ⟨by first | omega | exact Nat.le_refl _⟩, ⟨by (with_reducible repeat (first | refine zar ?_ _ | refine zav ?_ | refine zas ?_ _)); exact BK184.out⟩, ⟨by (with_reducible repeat (first | refine zar ?_ _ | refine zav ?_ | refine zas ?_ _)); exact BK185.out⟩, ⟨by repeat (first | (with_reducible first | exact HB.out | apply zad | apply zac | apply zae | refine zaq ?_ GE184.out | refine zaq ?_ GE185.out) | exact HB.out)⟩⟩
  ·rw [if_neg c6] at H
   have c6b0 : (a0_0 == a1_0) = false := beq_eq_false_iff_ne.mpr c6; have c6b1 : (a0_0 != a1_0) = true := bne_iff_ne.mpr c6
   (first | rw [c6b0] | (simp only [i64_w, i32_w]; rw [c6b0]) | skip)
   have H' := zaa.mk H; clear H; have hnb18 := NB184_185.out; have hnc18 := NB185_184.out; have hcz19_0 : w5.cell? ⟨gb184, 0, none⟩ = some (.int .u8 a0_0) := (zaf BK184.out 0).trans rfl; have hcz19_1 : w5.cell? ⟨gb184, 1, none⟩ = some (.int .u8 a0_1) := (zaf BK184.out 1).trans rfl; have hcz19_2 : w5.cell? ⟨gb184, 2, none⟩ = some (.int .i64 a0_2) := (zaf BK184.out 2).trans rfl; have hcz19_3 : w5.cell? ⟨gb184, 3, none⟩ = some (.slice A0_3 l0_3.length c0_3) := (zaf BK184.out 3).trans rfl; have hfz19_0 := zab BK184.out 0; have hfz19_1 := zab BK184.out 1; have hfz19_2 := zab BK184.out 2; have hfz19_3 := zab BK184.out 3; have hcz20_0 : w5.cell? ⟨gb185, 0, none⟩ = some (.int .u8 a1_0) := (zaf BK185.out 0).trans rfl; have hcz20_1 : w5.cell? ⟨gb185, 1, none⟩ = some (.int .u8 a1_1) := (zaf BK185.out 1).trans rfl; have hcz20_2 : w5.cell? ⟨gb185, 2, none⟩ = some (.int .i64 a1_2) := (zaf BK185.out 2).trans rfl; have hcz20_3 : w5.cell? ⟨gb185, 3, none⟩ = some (.slice A1_3 l1_3.length c1_3) := (zaf BK185.out 3).trans rfl; have hfz20_0 := zab BK185.out 0; have hfz20_1 := zab BK185.out 1; have hfz20_2 := zab BK185.out 2; have hfz20_3 := zab BK185.out 3; go_wp2
   go_meet
   case rel => exact ⟨_, (true), (by first | rfl | (simp; done) | (simp [*]; done)), H', ⟨by first | omega | exact Nat.le_refl _⟩, ⟨by (with_reducible repeat (first | refine zar ?_ _ | refine zav ?_ | refine zas ?_ _)); exact BK184.out⟩, ⟨by (with_reducible repeat (first | refine zar ?_ _ | refine zav ?_ | refine zas ?_ _)); exact BK185.out⟩, ⟨by repeat (first | (with_reducible first | exact HB.out | apply zad | apply zac | apply zae | refine zaq ?_ GE184.out | refine zaq ?_ GE185.out) | exact HB.out)⟩⟩
 case rest =>
  clear HC3; try clear c1
  try clear p2
  try clear c6
  try clear c6b0
  try clear c6b1
  try clear c7
  try clear c7b0
  try clear c7b1
  try clear c8
  try clear c8b0
  try clear c8b1
  try clear c9
  try clear c12
  try clear c14
  try clear c15
  try clear c18
  try clear hcz10_0
  try clear hcz10_1
  try clear hcz10_2
  try clear hcz10_3
  try clear hcz11_0
  try clear hcz11_1
  try clear hcz11_2
  try clear hcz11_3
  try clear hcz13_0
  try clear hcz13_1
  try clear hcz13_2
  try clear hcz13_3
  try clear hcz14_0
  try clear hcz14_1
  try clear hcz14_2
  try clear hcz14_3
  try clear hcz16_0
  try clear hcz16_1
  try clear hcz16_2
  try clear hcz16_3
  try clear hcz17_0
  try clear hcz17_1
  try clear hcz17_2
  try clear hcz17_3
  try clear hcz19_0
  try clear hcz19_1
  try clear hcz19_2
  try clear hcz19_3
  try clear hcz20_0
  try clear hcz20_1
  try clear hcz20_2
  try clear hcz20_3
  try clear hfz10_0
  try clear hfz10_1
  try clear hfz10_2
  try clear hfz10_3
  try clear hfz11_0
  try clear hfz11_1
  try clear hfz11_2
  try clear hfz11_3
  try clear hfz13_0
  try clear hfz13_1
  try clear hfz13_2
  try clear hfz13_3
  try clear hfz14_0
  try clear hfz14_1
  try clear hfz14_2
  try clear hfz14_3
  try clear hfz16_0
  try clear hfz16_1
  try clear hfz16_2
  try clear hfz16_3
  try clear hfz17_0
  try clear hfz17_1
  try clear hfz17_2
  try clear hfz17_3
  try clear hfz19_0
  try clear hfz19_1
  try clear hfz19_2
  try clear hfz19_3
  try clear hfz20_0
  try clear hfz20_1
  try clear hfz20_2
  try clear hfz20_3
  obtain ⟨kq, x33_2, rfl, HA, HJ2, BK184, BK185, HB⟩ := hcut; cases kq with
  | zero => exact absurd HA.out (by simp [zan.j0])
  | succ kj2 =>
   have H := HA.out; clear HA; simp only [zan.j0] at H; by_cases c21 : x33_2 = true
   ·subst c21
    have H1 : (some false) = some r := by rw [if_pos rfl] at H; exact H
    clear H; have H := H1; clear H1; obtain rfl := Option.some.inj H; go_wp2
    go_ret
    exact ⟨by first | rfl | (simp [*, zaF, zaE] <;> rfl), by repeat (first | (with_reducible first | exact HB.out | apply zad | apply zac | apply zae | refine zaq ?_ GE184.out | refine zaq ?_ GE185.out) | exact HB.out)⟩
   ·replace c21 := Bool.eq_false_iff.mpr c21
    subst c21; have H1 : (zan.l0 kj2 0 a0_0 a0_1 a0_2 l0_3 a1_0 a1_1 a1_2 l1_3) = some r := by rw [if_neg (show ¬ (false = true) by decide)] at H; exact H
    clear H; have H := H1; clear H1; have H' := zaa.mk H; clear H; go_wp2
    go_loopg [5] kj2 (fun kq v5 w' => ∃ (x5_2 : Int), v5 = .int .i64 x5_2 ∧ zaa (zan.l0 kq x5_2 a0_0 a0_1 a0_2 l0_3 a1_0 a1_1 a1_2 l1_3 = some r) ∧ zaa (kq ≤ kj2) ∧ zaa (w'.heap[gb184]? = some (.cells #[.int .u8 a0_0, .int .u8 a0_1, .int .i64 a0_2, (.slice A0_3 l0_3.length c0_3)] 25 (0, 0))) ∧ zaa (w'.heap[gb185]? = some (.cells #[.int .u8 a1_0, .int .u8 a1_1, .int .i64 a1_2, (.slice A1_3 l1_3.length c1_3)] 25 (0, 0))) ∧ zaa (Below w.heap.size w w'))
    case atStart => exact ⟨(0), (by first | rfl | (simp; done) | (simp [*]; done)), H', ⟨Nat.le_refl _⟩, ⟨by (with_reducible repeat (first | refine zar ?_ _ | refine zav ?_ | refine zas ?_ _)); exact BK184.out⟩, ⟨by (with_reducible repeat (first | refine zar ?_ _ | refine zav ?_ | refine zas ?_ _)); exact BK185.out⟩, ⟨by repeat (first | (with_reducible first | exact HB.out | apply zad | apply zac | apply zae | refine zaq ?_ GE184.out | refine zaq ?_ GE185.out) | exact HB.out)⟩⟩
    case round =>
     clear H'; try clear c1
     try clear c2
     try clear p2
     try clear c6
     try clear c6b0
     try clear c6b1
     try clear c7
     try clear c7b0
     try clear c7b1
     try clear c8
     try clear c8b0
     try clear c8b1
     try clear c9
     try clear c12
     try clear c14
     try clear c15
     try clear c18
     try clear c21
     try clear hcz10_0
     try clear hcz10_1
     try clear hcz10_2
     try clear hcz10_3
     try clear hcz11_0
     try clear hcz11_1
     try clear hcz11_2
     try clear hcz11_3
     try clear hcz13_0
     try clear hcz13_1
     try clear hcz13_2
     try clear hcz13_3
     try clear hcz14_0
     try clear hcz14_1
     try clear hcz14_2
     try clear hcz14_3
     try clear hcz16_0
     try clear hcz16_1
     try clear hcz16_2
     try clear hcz16_3
     try clear hcz17_0
     try clear hcz17_1
     try clear hcz17_2
     try clear hcz17_3
     try clear hcz19_0
     try clear hcz19_1
     try clear hcz19_2
     try clear hcz19_3
     try clear hcz20_0
     try clear hcz20_1
     try clear hcz20_2
     try clear hcz20_3
     try clear hfz10_0
     try clear hfz10_1
     try clear hfz10_2
     try clear hfz10_3
     try clear hfz11_0
     try clear hfz11_1
     try clear hfz11_2
     try clear hfz11_3
     try clear hfz13_0
     try clear hfz13_1
     try clear hfz13_2
     try clear hfz13_3
     try clear hfz14_0
     try clear hfz14_1
     try clear hfz14_2
     try clear hfz14_3
     try clear hfz16_0
     try clear hfz16_1
     try clear hfz16_2
     try clear hfz16_3
     try clear hfz17_0
     try clear hfz17_1
     try clear hfz17_2
     try clear hfz17_3
     try clear hfz19_0
     try clear hfz19_1
     try clear hfz19_2
     try clear hfz19_3
     try clear hfz20_0
     try clear hfz20_1
     try clear hfz20_2
     try clear hfz20_3
     try clear p2
     obtain ⟨x5_2, rfl, HA, HK2, BK184, BK185, HB⟩ := hrel; cases gk with
     | zero => exact absurd HA.out (by simp [zan.l0])
     | succ k2 =>
      have H := HA.out; clear HA; simp only [zan.l0] at H; by_cases c22 : x5_2 < (l0_3.length : Int)
      ·rw [if_pos c22] at H
       have c22b0 : decide (x5_2 < (l0_3.length : Int)) = true := decide_eq_true c22; clear c22; by_cases c23 : 0 ≤ x5_2
       ·rw [if_pos c23] at H
        have c23b0 : decide (0 ≤ x5_2) = true := decide_eq_true c23; clear c23; by_cases c24 : x5_2 < (l1_3.length : Int)
        ·rw [if_pos c24] at H
         have c24b0 : decide (x5_2 < (l1_3.length : Int)) = true := decide_eq_true c24; clear c24; replace H := Option.bind_eq_some_iff.mp H; obtain ⟨t188, A250, H⟩ := H; replace H : (if t188 = true then (zan.l0 k2 (wrap64 (x5_2 + 1)) a0_0 a0_1 a0_2 l0_3 a1_0 a1_1 a1_2 l1_3) else (some false)) = some r := H
         have A25 := zaa.mk A250; clear A250; by_cases c26 : t188 = true
         ·subst c26
          have H1 : (zan.l0 k2 (wrap64 (x5_2 + 1)) a0_0 a0_1 a0_2 l0_3 a1_0 a1_1 a1_2 l1_3) = some r := by rw [if_pos rfl] at H; exact H
          clear H; have H := H1; clear H1; have H' := zaa.mk H; clear H; have hnb27 := NB184_185.out; have hnc27 := NB185_184.out; have hcz28_0 : wr.cell? ⟨gb184, 0, none⟩ = some (.int .u8 a0_0) := (zaf BK184.out 0).trans rfl; have hcz28_1 : wr.cell? ⟨gb184, 1, none⟩ = some (.int .u8 a0_1) := (zaf BK184.out 1).trans rfl; have hcz28_2 : wr.cell? ⟨gb184, 2, none⟩ = some (.int .i64 a0_2) := (zaf BK184.out 2).trans rfl; have hcz28_3 : wr.cell? ⟨gb184, 3, none⟩ = some (.slice A0_3 l0_3.length c0_3) := (zaf BK184.out 3).trans rfl; have hfz28_0 := zab BK184.out 0; have hfz28_1 := zab BK184.out 1; have hfz28_2 := zab BK184.out 2; have hfz28_3 := zab BK184.out 3; try go_wp2
          have n0_ := zaa.mk (zav BK184.out); have n1_ := zaa.mk (zav BK185.out); have n2_ := zaa.mk (zae HB.out); clear BK184; clear BK185; clear HB; have BK184 := n0_; have BK185 := n1_; have HB := n2_; clear n0_ n1_ n2_; have p186 : 0 ≤ (x5_2 : Int) := of_decide_eq_true (by assumption)
          have q186 : x5_2 < (l0_3.length : Int) := of_decide_eq_true (by assumption)
          obtain ⟨ad186, A186_3, c186_3, e186, hx186_0, hx186_1, hx186_2, hx186_3, hl186_3, hi186_3⟩ := at_T25 HR0_3.out x5_2 p186 q186; have hw186_3 := hx186_3; have hw186_2 := hx186_2; have hw186_1 := hx186_1; have hw186_0 := hx186_0; cases e186; replace hx186_0 := (HB.out.cell (World.block_lt_of_cell? w _ hx186_0)).trans hx186_0; replace hx186_1 := (HB.out.cell (World.block_lt_of_cell? w _ hx186_1)).trans hx186_1; replace hx186_2 := (HB.out.cell (World.block_lt_of_cell? w _ hx186_2)).trans hx186_2; replace hx186_3 := (HB.out.cell (World.block_lt_of_cell? w _ hx186_3)).trans hx186_3; have HR186_3 := zaa.mk hi186_3; have HC186_3 := zaa.mk hl186_3; clear hi186_3 hl186_3; replace p186 := eq_true p186; replace q186 := eq_true q186; have p187 : 0 ≤ (x5_2 : Int) := of_decide_eq_true (by assumption)
          have q187 : x5_2 < (l1_3.length : Int) := of_decide_eq_true (by assumption)
          obtain ⟨ad187, A187_3, c187_3, e187, hx187_0, hx187_1, hx187_2, hx187_3, hl187_3, hi187_3⟩ := at_T25 HR1_3.out x5_2 p187 q187; have hw187_3 := hx187_3; have hw187_2 := hx187_2; have hw187_1 := hx187_1; have hw187_0 := hx187_0; cases e187; replace hx187_0 := (HB.out.cell (World.block_lt_of_cell? w _ hx187_0)).trans hx187_0; replace hx187_1 := (HB.out.cell (World.block_lt_of_cell? w _ hx187_1)).trans hx187_1; replace hx187_2 := (HB.out.cell (World.block_lt_of_cell? w _ hx187_2)).trans hx187_2; replace hx187_3 := (HB.out.cell (World.block_lt_of_cell? w _ hx187_3)).trans hx187_3; have HR187_3 := zaa.mk hi187_3; have HC187_3 := zaa.mk hl187_3; clear hi187_3 hl187_3; replace p187 := eq_true p187; replace q187 := eq_true q187; refine start_ (n := 12) (S := fun w' => w'.cell? ⟨gb184, 0, none⟩ = some (.int .u8 a0_0) ∧ w'.cell? ⟨gb184, 1, none⟩ = some (.int .u8 a0_1) ∧ w'.cell? ⟨gb184, 2, none⟩ = some (.int .i64 a0_2) ∧ w'.cell? ⟨gb184, 3, none⟩ = some (.slice (some ad186) l0_3.length c0_3) ∧ w'.cell? ⟨gb185, 0, none⟩ = some (.int .u8 a1_0) ∧ w'.cell? ⟨gb185, 1, none⟩ = some (.int .u8 a1_1) ∧ w'.cell? ⟨gb185, 2, none⟩ = some (.int .i64 a1_2) ∧ w'.cell? ⟨gb185, 3, none⟩ = some (.slice (some ad187) l1_3.length c1_3) ∧ w'.cell? (ad186.add ((x5_2).toNat * 4)) = some (.int .u8 ((za0 l0_3 x5_2).f0)) ∧ w'.cell? ⟨(ad186.add ((x5_2).toNat * 4)).block, (ad186.add ((x5_2).toNat * 4)).off + 1, none⟩ = some (.int .u8 ((za0 l0_3 x5_2).f1)) ∧ w'.cell? ⟨(ad186.add ((x5_2).toNat * 4)).block, (ad186.add ((x5_2).toNat * 4)).off + 2, none⟩ = some (.int .i64 ((za0 l0_3 x5_2).f2)) ∧ w'.cell? ⟨(ad186.add ((x5_2).toNat * 4)).block, (ad186.add ((x5_2).toNat * 4)).off + 3, none⟩ = some (.slice A186_3 ((za0 l0_3 x5_2).f3).length c186_3) ∧ w'.cell? (ad187.add ((x5_2).toNat * 4)) = some (.int .u8 ((za0 l1_3 x5_2).f0)) ∧ w'.cell? ⟨(ad187.add ((x5_2).toNat * 4)).block, (ad187.add ((x5_2).toNat * 4)).off + 1, none⟩ = some (.int .u8 ((za0 l1_3 x5_2).f1)) ∧ w'.cell? ⟨(ad187.add ((x5_2).toNat * 4)).block, (ad187.add ((x5_2).toNat * 4)).off + 2, none⟩ = some (.int .i64 ((za0 l1_3 x5_2).f2)) ∧ w'.cell? ⟨(ad187.add ((x5_2).toNat * 4)).block, (ad187.add ((x5_2).toNat * 4)).off + 3, none⟩ = some (.slice A187_3 ((za0 l1_3 x5_2).f3).length c187_3)) (ds := []) #[false, false, false, false, false, false, false, false, false, false, false, false] (by kernel_rfl) rfl rfl ⟨(zaf BK184.out 0).trans rfl, (zaf BK184.out 1).trans rfl, (zaf BK184.out 2).trans rfl, (zaf BK184.out 3).trans rfl, (zaf BK185.out 0).trans rfl, (zaf BK185.out 1).trans rfl, (zaf BK185.out 2).trans rfl, (zaf BK185.out 3).trans rfl, ((HB.out.cell (World.block_lt_of_cell? w _ hw186_0)).trans hw186_0), ((HB.out.cell (World.block_lt_of_cell? w _ hw186_1)).trans hw186_1), ((HB.out.cell (World.block_lt_of_cell? w _ hw186_2)).trans hw186_2), ((HB.out.cell (World.block_lt_of_cell? w _ hw186_3)).trans hw186_3), ((HB.out.cell (World.block_lt_of_cell? w _ hw187_0)).trans hw187_0), ((HB.out.cell (World.block_lt_of_cell? w _ hw187_1)).trans hw187_1), ((HB.out.cell (World.block_lt_of_cell? w _ hw187_2)).trans hw187_2), ((HB.out.cell (World.block_lt_of_cell? w _ hw187_3)).trans hw187_3)⟩ (fun hHeld => ?_); refine with_tabW zan.tab6 zan.bits6 (fun HT_ HW_ => ?_)
          generalize wr.drew = w29 at BK184 BK185 HB HR186_3 HR187_3 hx186_0 hx186_1 hx186_2 hx186_3 hx187_0 hx187_1 hx187_2 hx187_3 hHeld ⊢
          refine pure_ (i := 0) (N := some 41) (v := ?_) (a' := ?_) #[true, false, false, false, false, false, false, false, false, false, false, false] rfl rfl (zbd HT_.out (by kernel_rfl)) (fun _ _ _ h => h) (Or.inl ⟨by rfl, ?_⟩) ?_ ?_
          rotate_left
          ·intro w'
           go_simp
           with_reducible rfl
          rotate_left
          ·simp only [Act.put, zaw, i64_w, i32_w]
           rfl
          refine pure_ (i := 2) (N := some 43) (v := ?_) (a' := ?_) #[true, false, true, false, false, false, false, false, false, false, false, false] rfl rfl (zbd HT_.out (by kernel_rfl)) (fun _ _ _ h => h) (Or.inl ⟨by rfl, ?_⟩) ?_ ?_
          rotate_left
          ·intro w'
           go_simp
           with_reducible rfl
          rotate_left
          ·simp only [Act.put, zaw, i64_w, i32_w]
           rfl
          refine pure_ (i := 5) (N := some 46) (v := ?_) (a' := ?_) #[true, false, true, false, false, true, false, false, false, false, false, false] rfl rfl (zbd HT_.out (by kernel_rfl)) (fun _ _ _ h => h) (Or.inl ⟨by rfl, ?_⟩) ?_ ?_
          rotate_left
          ·intro w'
           go_simp
           with_reducible rfl
          rotate_left
          ·simp only [Act.put, zaw, i64_w, i32_w]
           rfl
          refine pure_ (i := 7) (N := some 48) (v := ?_) (a' := ?_) #[true, false, true, false, false, true, false, true, false, false, false, false] rfl rfl (zbd HT_.out (by kernel_rfl)) (fun _ _ _ h => h) (Or.inl ⟨by rfl, ?_⟩) ?_ ?_
          rotate_left
          ·intro w'
           go_simp
           with_reducible rfl
          rotate_left
          ·simp only [Act.put, zaw, i64_w, i32_w]
           rfl
          refine take_ (i := 1) (N := some 42) (v := ?_) (a' := ?_) #[true, true, true, false, false, true, false, true, false, false, false, false] rfl rfl (zbU HT_.out HW_.out (by kernel_rfl)) (fun _ _ _ h => h) (Or.inl ⟨by rfl, ?_⟩) hHeld ?_ ?_
          rotate_left
          ·rintro w' ⟨s0, s1, s2, s3, s4, s5, s6, s7, s8, s9, s10, s11, s12, s13, s14, s15⟩
           go_simp
           with_reducible rfl
          rotate_left
          ·simp only [Act.put, zaw, i64_w, i32_w]
           rfl
          refine pure_ (i := 3) (N := some 44) (v := ?_) (a' := ?_) #[true, true, true, true, false, true, false, true, false, false, false, false] rfl rfl (zbd HT_.out (by kernel_rfl)) (fun _ _ _ h => h) (Or.inl ⟨by rfl, ?_⟩) ?_ ?_
          rotate_left
          ·intro w'
           go_simp
           with_reducible rfl
          rotate_left
          ·simp only [Act.put, zaw, i64_w, i32_w]
           rfl
          refine take_ (i := 4) (N := some 45) (v := ?_) (a' := ?_) #[true, true, true, true, true, true, false, true, false, false, false, false] rfl rfl (zbU HT_.out HW_.out (by kernel_rfl)) (fun _ _ _ h => h) (Or.inl ⟨by rfl, ?_⟩) hHeld ?_ ?_
          rotate_left
          ·rintro w' ⟨s0, s1, s2, s3, s4, s5, s6, s7, s8, s9, s10, s11, s12, s13, s14, s15⟩
           go_simp
           with_reducible rfl
          rotate_left
          ·simp only [Act.put, zaw, i64_w, i32_w]
           rfl
          refine take_ (i := 6) (N := some 47) (v := ?_) (a' := ?_) #[true, true, true, true, true, true, true, true, false, false, false, false] rfl rfl (zbU HT_.out HW_.out (by kernel_rfl)) (fun _ _ _ h => h) (Or.inl ⟨by rfl, ?_⟩) hHeld ?_ ?_
          rotate_left
          ·rintro w' ⟨s0, s1, s2, s3, s4, s5, s6, s7, s8, s9, s10, s11, s12, s13, s14, s15⟩
           go_simp
           with_reducible rfl
          rotate_left
          ·simp only [Act.put, zaw, i64_w, i32_w]
           rfl
          refine pure_ (i := 8) (N := some 49) (v := ?_) (a' := ?_) #[true, true, true, true, true, true, true, true, true, false, false, false] rfl rfl (zbd HT_.out (by kernel_rfl)) (fun _ _ _ h => h) (Or.inl ⟨by rfl, ?_⟩) ?_ ?_
          rotate_left
          ·intro w'
           go_simp
           with_reducible rfl
          rotate_left
          ·simp only [Act.put, zaw, i64_w, i32_w]
           rfl
          refine take_ (i := 9) (N := some 50) (v := ?_) (a' := ?_) #[true, true, true, true, true, true, true, true, true, true, false, false] rfl rfl (zbU HT_.out HW_.out (by kernel_rfl)) (fun _ _ _ h => h) (Or.inl ⟨by rfl, ?_⟩) hHeld ?_ ?_
          rotate_left
          ·rintro w' ⟨s0, s1, s2, s3, s4, s5, s6, s7, s8, s9, s10, s11, s12, s13, s14, s15⟩
           go_simp
           with_reducible rfl
          rotate_left
          ·simp only [Act.put, zaw, i64_w, i32_w]
           rfl
          refine one_ (i := 10) (N := some 51) #[true, true, true, true, true, true, true, true, true, true, true, false] rfl rfl (one_of HT_.out (by kernel_rfl)) (by decide) (fun K hK => ?_)
          refine goes_ Try.func14 (by kernel_rfl) rfl #[.agg #[.int .u8 ((za0 l0_3 x5_2).f0), .int .u8 ((za0 l0_3 x5_2).f1), .int .i64 ((za0 l0_3 x5_2).f2), .slice A186_3 ((za0 l0_3 x5_2).f3).length c186_3], .agg #[.int .u8 ((za0 l1_3 x5_2).f0), .int .u8 ((za0 l1_3 x5_2).f1), .int .i64 ((za0 l1_3 x5_2).f2), .slice A187_3 ((za0 l1_3 x5_2).f3).length c187_3]] (by rfl) rfl rfl (by (try simp only [List.map_toArray, List.map_cons, List.map_nil]); first | done | rfl | (simp only [List.length_drop, List.length_take]; rfl)) ?_
          with_reducible refine (ih k2 (by have := HJ2.out; have := HK2.out; omega) ((za0 l0_3 x5_2).f0) ((za0 l0_3 x5_2).f1) ((za0 l0_3 x5_2).f2) _ _ ((za0 l0_3 x5_2).f3) ((za0 l1_3 x5_2).f0) ((za0 l1_3 x5_2).f1) ((za0 l1_3 x5_2).f2) _ _ ((za0 l1_3 x5_2).f3) true _ ?side1 ?side2 ?side3 ?side4 A25.out).mono ?_
          (case side1 => repeat (first | exact (Kd.zbH HR186_3.out HB.out) | (with_reducible refine Kd.zb4 ?_ _) | (with_reducible refine Kd.zb3 ?_ _) | (with_reducible refine Kd.zb5 ?_)))
          (case side2 => exact HC186_3.out)
          (case side3 => repeat (first | exact (Kd.zbH HR187_3.out HB.out) | (with_reducible refine Kd.zb4 ?_ _) | (with_reducible refine Kd.zb3 ?_ _) | (with_reducible refine Kd.zb5 ?_)))
          (case side4 => exact HC187_3.out)
          rintro e w30 ⟨rfl, hb⟩
          refine ⟨_, rfl, ?_⟩
          have n0_ := zaa.mk (zaX (g := gb184) (o := .cells #[.int .u8 a0_0, .int .u8 a0_1, .int .i64 a0_2, .slice (some ad186) l0_3.length c0_3] 25 (0, 0)) (by (with_reducible repeat (first | refine zar ?_ _ | refine zav ?_ | refine zas ?_ _)); exact BK184.out) hb)
          have n1_ := zaa.mk (zaX (g := gb185) (o := .cells #[.int .u8 a1_0, .int .u8 a1_1, .int .i64 a1_2, .slice (some ad187) l1_3.length c1_3] 25 (0, 0)) (by (with_reducible repeat (first | refine zar ?_ _ | refine zav ?_ | refine zas ?_ _)); exact BK185.out) hb)
          have n2_ := zaa.mk (zaG (by repeat (first | (with_reducible first | exact HB.out | apply zad | apply zac | apply zae | refine zaq ?_ GE184.out | refine zaq ?_ GE185.out) | exact HB.out)) hb)
          clear BK184; clear BK185; clear HB; have BK184 := n0_; have BK185 := n1_; have HB := n2_; clear n0_ n1_ n2_
          (try clear hb)
          (try clear hb2)
          (try clear hk)
          (try clear hi)
          refine hK.out _ _ ⟨(zaf BK184.out 0).trans rfl, (zaf BK184.out 1).trans rfl, (zaf BK184.out 2).trans rfl, (zaf BK184.out 3).trans rfl, (zaf BK185.out 0).trans rfl, (zaf BK185.out 1).trans rfl, (zaf BK185.out 2).trans rfl, (zaf BK185.out 3).trans rfl, ((HB.out.cell (World.block_lt_of_cell? w _ hw186_0)).trans hw186_0), ((HB.out.cell (World.block_lt_of_cell? w _ hw186_1)).trans hw186_1), ((HB.out.cell (World.block_lt_of_cell? w _ hw186_2)).trans hw186_2), ((HB.out.cell (World.block_lt_of_cell? w _ hw186_3)).trans hw186_3), ((HB.out.cell (World.block_lt_of_cell? w _ hw187_0)).trans hw187_0), ((HB.out.cell (World.block_lt_of_cell? w _ hw187_1)).trans hw187_1), ((HB.out.cell (World.block_lt_of_cell? w _ hw187_2)).trans hw187_2), ((HB.out.cell (World.block_lt_of_cell? w _ hw187_3)).trans hw187_3)⟩ (fun hHeld => ?_)
          clear hK K; refine norm_ (a' := ?_) ?_ ?_
          rotate_left
          ·show Act.put _ (some 51) _ = _
           simp only [Act.put, zaw, i64_w, i32_w]
           rfl
          refine pure_ (i := 11) (N := some 52) (v := ?_) (a' := ?_) #[true, true, true, true, true, true, true, true, true, true, true, true] rfl rfl (zbd HT_.out (by kernel_rfl)) (fun _ _ _ h => h) (Or.inl ⟨by rfl, ?_⟩) ?_ ?_
          rotate_left
          ·intro w'
           go_simp
           with_reducible rfl
          rotate_left
          ·simp only [Act.put, zaw, i64_w, i32_w]
           rfl
          refine done_ (done_of HT_.out (by kernel_rfl)) ?_
          try go_wp2
          go_roundg k2
          case measure => have := HJ2.out; have := HK2.out; omega
          case rel => exact ⟨(wrap64 (x5_2 + 1)), (by first | rfl | (simp; done) | (simp [*]; done)), H', ⟨by have := HJ2.out; have := HK2.out; omega⟩, ⟨by (with_reducible repeat (first | refine zar ?_ _ | refine zav ?_ | refine zas ?_ _)); exact BK184.out⟩, ⟨by (with_reducible repeat (first | refine zar ?_ _ | refine zav ?_ | refine zas ?_ _)); exact BK185.out⟩, ⟨by repeat (first | (with_reducible first | exact HB.out | apply zad | apply zac | apply zae | refine zaq ?_ GE184.out | refine zaq ?_ GE185.out) | exact HB.out)⟩⟩
         ·replace c26 := Bool.eq_false_iff.mpr c26
          subst c26; have H1 : (some false) = some r := by rw [if_neg (show ¬ (false = true) by decide)] at H; exact H
          clear H; have H := H1; clear H1; obtain rfl := Option.some.inj H; have hnb31 := NB184_185.out; have hnc31 := NB185_184.out; have hcz32_0 : wr.cell? ⟨gb184, 0, none⟩ = some (.int .u8 a0_0) := (zaf BK184.out 0).trans rfl; have hcz32_1 : wr.cell? ⟨gb184, 1, none⟩ = some (.int .u8 a0_1) := (zaf BK184.out 1).trans rfl; have hcz32_2 : wr.cell? ⟨gb184, 2, none⟩ = some (.int .i64 a0_2) := (zaf BK184.out 2).trans rfl; have hcz32_3 : wr.cell? ⟨gb184, 3, none⟩ = some (.slice A0_3 l0_3.length c0_3) := (zaf BK184.out 3).trans rfl; have hfz32_0 := zab BK184.out 0; have hfz32_1 := zab BK184.out 1; have hfz32_2 := zab BK184.out 2; have hfz32_3 := zab BK184.out 3; try go_wp2
          have n0_ := zaa.mk (zav BK184.out); have n1_ := zaa.mk (zav BK185.out); have n2_ := zaa.mk (zae HB.out); clear BK184; clear BK185; clear HB; have BK184 := n0_; have BK185 := n1_; have HB := n2_; clear n0_ n1_ n2_; have p186 : 0 ≤ (x5_2 : Int) := of_decide_eq_true (by assumption)
          have q186 : x5_2 < (l0_3.length : Int) := of_decide_eq_true (by assumption)
          obtain ⟨ad186, A186_3, c186_3, e186, hx186_0, hx186_1, hx186_2, hx186_3, hl186_3, hi186_3⟩ := at_T25 HR0_3.out x5_2 p186 q186; have hw186_3 := hx186_3; have hw186_2 := hx186_2; have hw186_1 := hx186_1; have hw186_0 := hx186_0; cases e186; replace hx186_0 := (HB.out.cell (World.block_lt_of_cell? w _ hx186_0)).trans hx186_0; replace hx186_1 := (HB.out.cell (World.block_lt_of_cell? w _ hx186_1)).trans hx186_1; replace hx186_2 := (HB.out.cell (World.block_lt_of_cell? w _ hx186_2)).trans hx186_2; replace hx186_3 := (HB.out.cell (World.block_lt_of_cell? w _ hx186_3)).trans hx186_3; have HR186_3 := zaa.mk hi186_3; have HC186_3 := zaa.mk hl186_3; clear hi186_3 hl186_3; replace p186 := eq_true p186; replace q186 := eq_true q186; have p187 : 0 ≤ (x5_2 : Int) := of_decide_eq_true (by assumption)
          have q187 : x5_2 < (l1_3.length : Int) := of_decide_eq_true (by assumption)
          obtain ⟨ad187, A187_3, c187_3, e187, hx187_0, hx187_1, hx187_2, hx187_3, hl187_3, hi187_3⟩ := at_T25 HR1_3.out x5_2 p187 q187; have hw187_3 := hx187_3; have hw187_2 := hx187_2; have hw187_1 := hx187_1; have hw187_0 := hx187_0; cases e187; replace hx187_0 := (HB.out.cell (World.block_lt_of_cell? w _ hx187_0)).trans hx187_0; replace hx187_1 := (HB.out.cell (World.block_lt_of_cell? w _ hx187_1)).trans hx187_1; replace hx187_2 := (HB.out.cell (World.block_lt_of_cell? w _ hx187_2)).trans hx187_2; replace hx187_3 := (HB.out.cell (World.block_lt_of_cell? w _ hx187_3)).trans hx187_3; have HR187_3 := zaa.mk hi187_3; have HC187_3 := zaa.mk hl187_3; clear hi187_3 hl187_3; replace p187 := eq_true p187; replace q187 := eq_true q187; refine start_ (n := 12) (S := fun w' => w'.cell? ⟨gb184, 0, none⟩ = some (.int .u8 a0_0) ∧ w'.cell? ⟨gb184, 1, none⟩ = some (.int .u8 a0_1) ∧ w'.cell? ⟨gb184, 2, none⟩ = some (.int .i64 a0_2) ∧ w'.cell? ⟨gb184, 3, none⟩ = some (.slice (some ad186) l0_3.length c0_3) ∧ w'.cell? ⟨gb185, 0, none⟩ = some (.int .u8 a1_0) ∧ w'.cell? ⟨gb185, 1, none⟩ = some (.int .u8 a1_1) ∧ w'.cell? ⟨gb185, 2, none⟩ = some (.int .i64 a1_2) ∧ w'.cell? ⟨gb185, 3, none⟩ = some (.slice (some ad187) l1_3.length c1_3) ∧ w'.cell? (ad186.add ((x5_2).toNat * 4)) = some (.int .u8 ((za0 l0_3 x5_2).f0)) ∧ w'.cell? ⟨(ad186.add ((x5_2).toNat * 4)).block, (ad186.add ((x5_2).toNat * 4)).off + 1, none⟩ = some (.int .u8 ((za0 l0_3 x5_2).f1)) ∧ w'.cell? ⟨(ad186.add ((x5_2).toNat * 4)).block, (ad186.add ((x5_2).toNat * 4)).off + 2, none⟩ = some (.int .i64 ((za0 l0_3 x5_2).f2)) ∧ w'.cell? ⟨(ad186.add ((x5_2).toNat * 4)).block, (ad186.add ((x5_2).toNat * 4)).off + 3, none⟩ = some (.slice A186_3 ((za0 l0_3 x5_2).f3).length c186_3) ∧ w'.cell? (ad187.add ((x5_2).toNat * 4)) = some (.int .u8 ((za0 l1_3 x5_2).f0)) ∧ w'.cell? ⟨(ad187.add ((x5_2).toNat * 4)).block, (ad187.add ((x5_2).toNat * 4)).off + 1, none⟩ = some (.int .u8 ((za0 l1_3 x5_2).f1)) ∧ w'.cell? ⟨(ad187.add ((x5_2).toNat * 4)).block, (ad187.add ((x5_2).toNat * 4)).off + 2, none⟩ = some (.int .i64 ((za0 l1_3 x5_2).f2)) ∧ w'.cell? ⟨(ad187.add ((x5_2).toNat * 4)).block, (ad187.add ((x5_2).toNat * 4)).off + 3, none⟩ = some (.slice A187_3 ((za0 l1_3 x5_2).f3).length c187_3)) (ds := []) #[false, false, false, false, false, false, false, false, false, false, false, false] (by kernel_rfl) rfl rfl ⟨(zaf BK184.out 0).trans rfl, (zaf BK184.out 1).trans rfl, (zaf BK184.out 2).trans rfl, (zaf BK184.out 3).trans rfl, (zaf BK185.out 0).trans rfl, (zaf BK185.out 1).trans rfl, (zaf BK185.out 2).trans rfl, (zaf BK185.out 3).trans rfl, ((HB.out.cell (World.block_lt_of_cell? w _ hw186_0)).trans hw186_0), ((HB.out.cell (World.block_lt_of_cell? w _ hw186_1)).trans hw186_1), ((HB.out.cell (World.block_lt_of_cell? w _ hw186_2)).trans hw186_2), ((HB.out.cell (World.block_lt_of_cell? w _ hw186_3)).trans hw186_3), ((HB.out.cell (World.block_lt_of_cell? w _ hw187_0)).trans hw187_0), ((HB.out.cell (World.block_lt_of_cell? w _ hw187_1)).trans hw187_1), ((HB.out.cell (World.block_lt_of_cell? w _ hw187_2)).trans hw187_2), ((HB.out.cell (World.block_lt_of_cell? w _ hw187_3)).trans hw187_3)⟩ (fun hHeld => ?_); refine with_tabW zan.tab6 zan.bits6 (fun HT_ HW_ => ?_)
          generalize wr.drew = w33 at BK184 BK185 HB HR186_3 HR187_3 hx186_0 hx186_1 hx186_2 hx186_3 hx187_0 hx187_1 hx187_2 hx187_3 hHeld ⊢
          refine pure_ (i := 0) (N := some 41) (v := ?_) (a' := ?_) #[true, false, false, false, false, false, false, false, false, false, false, false] rfl rfl (zbd HT_.out (by kernel_rfl)) (fun _ _ _ h => h) (Or.inl ⟨by rfl, ?_⟩) ?_ ?_
          rotate_left
          ·intro w'
           go_simp
           with_reducible rfl
          rotate_left
          ·simp only [Act.put, zaw, i64_w, i32_w]
           rfl
          refine pure_ (i := 2) (N := some 43) (v := ?_) (a' := ?_) #[true, false, true, false, false, false, false, false, false, false, false, false] rfl rfl (zbd HT_.out (by kernel_rfl)) (fun _ _ _ h => h) (Or.inl ⟨by rfl, ?_⟩) ?_ ?_
          rotate_left
          ·intro w'
           go_simp
           with_reducible rfl
          rotate_left
          ·simp only [Act.put, zaw, i64_w, i32_w]
           rfl
          refine pure_ (i := 5) (N := some 46) (v := ?_) (a' := ?_) #[true, false, true, false, false, true, false, false, false, false, false, false] rfl rfl (zbd HT_.out (by kernel_rfl)) (fun _ _ _ h => h) (Or.inl ⟨by rfl, ?_⟩) ?_ ?_
          rotate_left
          ·intro w'
           go_simp
           with_reducible rfl
          rotate_left
          ·simp only [Act.put, zaw, i64_w, i32_w]
           rfl
          refine pure_ (i := 7) (N := some 48) (v := ?_) (a' := ?_) #[true, false, true, false, false, true, false, true, false, false, false, false] rfl rfl (zbd HT_.out (by kernel_rfl)) (fun _ _ _ h => h) (Or.inl ⟨by rfl, ?_⟩) ?_ ?_
          rotate_left
          ·intro w'
           go_simp
           with_reducible rfl
          rotate_left
          ·simp only [Act.put, zaw, i64_w, i32_w]
           rfl
          refine take_ (i := 1) (N := some 42) (v := ?_) (a' := ?_) #[true, true, true, false, false, true, false, true, false, false, false, false] rfl rfl (zbU HT_.out HW_.out (by kernel_rfl)) (fun _ _ _ h => h) (Or.inl ⟨by rfl, ?_⟩) hHeld ?_ ?_
          rotate_left
          ·rintro w' ⟨s0, s1, s2, s3, s4, s5, s6, s7, s8, s9, s10, s11, s12, s13, s14, s15⟩
           go_simp
           with_reducible rfl
          rotate_left
          ·simp only [Act.put, zaw, i64_w, i32_w]
           rfl
          refine pure_ (i := 3) (N := some 44) (v := ?_) (a' := ?_) #[true, true, true, true, false, true, false, true, false, false, false, false] rfl rfl (zbd HT_.out (by kernel_rfl)) (fun _ _ _ h => h) (Or.inl ⟨by rfl, ?_⟩) ?_ ?_
          rotate_left
          ·intro w'
           go_simp
           with_reducible rfl
          rotate_left
          ·simp only [Act.put, zaw, i64_w, i32_w]
           rfl
          refine take_ (i := 4) (N := some 45) (v := ?_) (a' := ?_) #[true, true, true, true, true, true, false, true, false, false, false, false] rfl rfl (zbU HT_.out HW_.out (by kernel_rfl)) (fun _ _ _ h => h) (Or.inl ⟨by rfl, ?_⟩) hHeld ?_ ?_
          rotate_left
          ·rintro w' ⟨s0, s1, s2, s3, s4, s5, s6, s7, s8, s9, s10, s11, s12, s13, s14, s15⟩
           go_simp
           with_reducible rfl
          rotate_left
          ·simp only [Act.put, zaw, i64_w, i32_w]
           rfl
          refine take_ (i := 6) (N := some 47) (v := ?_) (a' := ?_) #[true, true, true, true, true, true, true, true, false, false, false, false] rfl rfl (zbU HT_.out HW_.out (by kernel_rfl)) (fun _ _ _ h => h) (Or.inl ⟨by rfl, ?_⟩) hHeld ?_ ?_
          rotate_left
          ·rintro w' ⟨s0, s1, s2, s3, s4, s5, s6, s7, s8, s9, s10, s11, s12, s13, s14, s15⟩
           go_simp
           with_reducible rfl
          rotate_left
          ·simp only [Act.put, zaw, i64_w, i32_w]
           rfl
          refine pure_ (i := 8) (N := some 49) (v := ?_) (a' := ?_) #[true, true, true, true, true, true, true, true, true, false, false, false] rfl rfl (zbd HT_.out (by kernel_rfl)) (fun _ _ _ h => h) (Or.inl ⟨by rfl, ?_⟩) ?_ ?_
          rotate_left
          ·intro w'
           go_simp
           with_reducible rfl
          rotate_left
          ·simp only [Act.put, zaw, i64_w, i32_w]
           rfl
          refine take_ (i := 9) (N := some 50) (v := ?_) (a' := ?_) #[true, true, true, true, true, true, true, true, true, true, false, false] rfl rfl (zbU HT_.out HW_.out (by kernel_rfl)) (fun _ _ _ h => h) (Or.inl ⟨by rfl, ?_⟩) hHeld ?_ ?_
          rotate_left
          ·rintro w' ⟨s0, s1, s2, s3, s4, s5, s6, s7, s8, s9, s10, s11, s12, s13, s14, s15⟩
           go_simp
           with_reducible rfl
          rotate_left
          ·simp only [Act.put, zaw, i64_w, i32_w]
           rfl
          refine one_ (i := 10) (N := some 51) #[true, true, true, true, true, true, true, true, true, true, true, false] rfl rfl (one_of HT_.out (by kernel_rfl)) (by decide) (fun K hK => ?_)
          refine goes_ Try.func14 (by kernel_rfl) rfl #[.agg #[.int .u8 ((za0 l0_3 x5_2).f0), .int .u8 ((za0 l0_3 x5_2).f1), .int .i64 ((za0 l0_3 x5_2).f2), .slice A186_3 ((za0 l0_3 x5_2).f3).length c186_3], .agg #[.int .u8 ((za0 l1_3 x5_2).f0), .int .u8 ((za0 l1_3 x5_2).f1), .int .i64 ((za0 l1_3 x5_2).f2), .slice A187_3 ((za0 l1_3 x5_2).f3).length c187_3]] (by rfl) rfl rfl (by (try simp only [List.map_toArray, List.map_cons, List.map_nil]); first | done | rfl | (simp only [List.length_drop, List.length_take]; rfl)) ?_
          with_reducible refine (ih k2 (by have := HJ2.out; have := HK2.out; omega) ((za0 l0_3 x5_2).f0) ((za0 l0_3 x5_2).f1) ((za0 l0_3 x5_2).f2) _ _ ((za0 l0_3 x5_2).f3) ((za0 l1_3 x5_2).f0) ((za0 l1_3 x5_2).f1) ((za0 l1_3 x5_2).f2) _ _ ((za0 l1_3 x5_2).f3) false _ ?side1 ?side2 ?side3 ?side4 A25.out).mono ?_
          (case side1 => repeat (first | exact (Kd.zbH HR186_3.out HB.out) | (with_reducible refine Kd.zb4 ?_ _) | (with_reducible refine Kd.zb3 ?_ _) | (with_reducible refine Kd.zb5 ?_)))
          (case side2 => exact HC186_3.out)
          (case side3 => repeat (first | exact (Kd.zbH HR187_3.out HB.out) | (with_reducible refine Kd.zb4 ?_ _) | (with_reducible refine Kd.zb3 ?_ _) | (with_reducible refine Kd.zb5 ?_)))
          (case side4 => exact HC187_3.out)
          rintro e w34 ⟨rfl, hb⟩
          refine ⟨_, rfl, ?_⟩
          have n0_ := zaa.mk (zaX (g := gb184) (o := .cells #[.int .u8 a0_0, .int .u8 a0_1, .int .i64 a0_2, .slice (some ad186) l0_3.length c0_3] 25 (0, 0)) (by (with_reducible repeat (first | refine zar ?_ _ | refine zav ?_ | refine zas ?_ _)); exact BK184.out) hb)
          have n1_ := zaa.mk (zaX (g := gb185) (o := .cells #[.int .u8 a1_0, .int .u8 a1_1, .int .i64 a1_2, .slice (some ad187) l1_3.length c1_3] 25 (0, 0)) (by (with_reducible repeat (first | refine zar ?_ _ | refine zav ?_ | refine zas ?_ _)); exact BK185.out) hb)
          have n2_ := zaa.mk (zaG (by repeat (first | (with_reducible first | exact HB.out | apply zad | apply zac | apply zae | refine zaq ?_ GE184.out | refine zaq ?_ GE185.out) | exact HB.out)) hb)
          clear BK184; clear BK185; clear HB; have BK184 := n0_; have BK185 := n1_; have HB := n2_; clear n0_ n1_ n2_
          (try clear hb)
          (try clear hb2)
          (try clear hk)
          (try clear hi)
          refine hK.out _ _ ⟨(zaf BK184.out 0).trans rfl, (zaf BK184.out 1).trans rfl, (zaf BK184.out 2).trans rfl, (zaf BK184.out 3).trans rfl, (zaf BK185.out 0).trans rfl, (zaf BK185.out 1).trans rfl, (zaf BK185.out 2).trans rfl, (zaf BK185.out 3).trans rfl, ((HB.out.cell (World.block_lt_of_cell? w _ hw186_0)).trans hw186_0), ((HB.out.cell (World.block_lt_of_cell? w _ hw186_1)).trans hw186_1), ((HB.out.cell (World.block_lt_of_cell? w _ hw186_2)).trans hw186_2), ((HB.out.cell (World.block_lt_of_cell? w _ hw186_3)).trans hw186_3), ((HB.out.cell (World.block_lt_of_cell? w _ hw187_0)).trans hw187_0), ((HB.out.cell (World.block_lt_of_cell? w _ hw187_1)).trans hw187_1), ((HB.out.cell (World.block_lt_of_cell? w _ hw187_2)).trans hw187_2), ((HB.out.cell (World.block_lt_of_cell? w _ hw187_3)).trans hw187_3)⟩ (fun hHeld => ?_)
          clear hK K; refine norm_ (a' := ?_) ?_ ?_
          rotate_left
          ·show Act.put _ (some 51) _ = _
           simp only [Act.put, zaw, i64_w, i32_w]
           rfl
          refine pure_ (i := 11) (N := some 52) (v := ?_) (a' := ?_) #[true, true, true, true, true, true, true, true, true, true, true, true] rfl rfl (zbd HT_.out (by kernel_rfl)) (fun _ _ _ h => h) (Or.inl ⟨by rfl, ?_⟩) ?_ ?_
          rotate_left
          ·intro w'
           go_simp
           with_reducible rfl
          rotate_left
          ·simp only [Act.put, zaw, i64_w, i32_w]
           rfl
          refine done_ (done_of HT_.out (by kernel_rfl)) ?_
          try go_wp2
          go_ret
          exact ⟨by first | rfl | (simp [*, zaF, zaE] <;> rfl), by repeat (first | (with_reducible first | exact HB.out | apply zad | apply zac | apply zae | refine zaq ?_ GE184.out | refine zaq ?_ GE185.out) | exact HB.out)⟩
        ·rw [if_neg c24] at H
         exact absurd H (by simp)
       ·rw [if_neg c23] at H
        exact absurd H (by simp)
      ·rw [if_neg c22] at H
       have c22b0 : decide (x5_2 < (l0_3.length : Int)) = false := decide_eq_false c22; clear c22; obtain rfl := Option.some.inj H; have hnb35 := NB184_185.out; have hnc35 := NB185_184.out; have hcz36_0 : wr.cell? ⟨gb184, 0, none⟩ = some (.int .u8 a0_0) := (zaf BK184.out 0).trans rfl; have hcz36_1 : wr.cell? ⟨gb184, 1, none⟩ = some (.int .u8 a0_1) := (zaf BK184.out 1).trans rfl; have hcz36_2 : wr.cell? ⟨gb184, 2, none⟩ = some (.int .i64 a0_2) := (zaf BK184.out 2).trans rfl; have hcz36_3 : wr.cell? ⟨gb184, 3, none⟩ = some (.slice A0_3 l0_3.length c0_3) := (zaf BK184.out 3).trans rfl; have hfz36_0 := zab BK184.out 0; have hfz36_1 := zab BK184.out 1; have hfz36_2 := zab BK184.out 2; have hfz36_3 := zab BK184.out 3; go_wp2
       go_ret
       exact ⟨by first | rfl | (simp [*, zaF, zaE] <;> rfl), by repeat (first | (with_reducible first | exact HB.out | apply zad | apply zac | apply zae | refine zaq ?_ GE184.out | refine zaq ?_ GE185.out) | exact HB.out)⟩
def za6.f (a0 : Int) : Option (Bool) := if a0 = 32 then (some true) else (if a0 = 9 then (some true) else (if a0 = 10 then (some true) else (some (a0 == 13))))
set_option maxHeartbeats 8000000 in
set_option maxRecDepth 100000 in
theorem za6.calls (a0 : Int) (r : Bool) (w : World) (h : za6.f a0 = some r) :
  Calls Try.prog 25 #[.int .u8 a0] w fun e w' => e = .returned (.bool r) ∧ zaC w w' := by
 have H : (if a0 = 32 then (some true) else (if a0 = 9 then (some true) else (if a0 = 10 then (some true) else (some (a0 == 13))))) = some r := h
 clear h; by_cases c2 : a0 = 32
 ·rw [if_pos c2] at H
  have c2b0 : (a0 == 32) = true := beq_iff_eq.mpr c2; have c2b1 : (a0 != 32) = false := bne_eq_false_iff_eq.mpr c2; clear c2; obtain rfl := Option.some.inj H; go_enter Try.func25, Try.ntmps25
  go_wp2
  go_ret
  exact ⟨by first | rfl | (simp; done) | (simp [*]; done), by repeat (first | exact zaC.refl _ | apply zaC.step)⟩
 ·rw [if_neg c2] at H
  have c2b0 : (a0 == 32) = false := beq_eq_false_iff_ne.mpr c2; have c2b1 : (a0 != 32) = true := bne_iff_ne.mpr c2; by_cases c3 : a0 = 9
  ·rw [if_pos c3] at H
   have c3b0 : (a0 == 9) = true := beq_iff_eq.mpr c3; have c3b1 : (a0 != 9) = false := bne_eq_false_iff_eq.mpr c3; clear c3; obtain rfl := Option.some.inj H; go_enter Try.func25, Try.ntmps25
   go_wp2
   go_ret
   exact ⟨by first | rfl | (simp; done) | (simp [*]; done), by repeat (first | exact zaC.refl _ | apply zaC.step)⟩
  ·rw [if_neg c3] at H
   have c3b0 : (a0 == 9) = false := beq_eq_false_iff_ne.mpr c3; have c3b1 : (a0 != 9) = true := bne_iff_ne.mpr c3; by_cases c4 : a0 = 10
   ·rw [if_pos c4] at H
    have c4b0 : (a0 == 10) = true := beq_iff_eq.mpr c4; have c4b1 : (a0 != 10) = false := bne_eq_false_iff_eq.mpr c4; clear c4; obtain rfl := Option.some.inj H; go_enter Try.func25, Try.ntmps25
    go_wp2
    go_ret
    exact ⟨by first | rfl | (simp; done) | (simp [*]; done), by repeat (first | exact zaC.refl _ | apply zaC.step)⟩
   ·rw [if_neg c4] at H
    have c4b0 : (a0 == 10) = false := beq_eq_false_iff_ne.mpr c4; have c4b1 : (a0 != 10) = true := bne_iff_ne.mpr c4; obtain rfl := Option.some.inj H; go_enter Try.func25, Try.ntmps25
    go_wp2
    go_ret
    exact ⟨by first | rfl | (simp; done) | (simp [*]; done), by repeat (first | exact zaC.refl _ | apply zaC.step)⟩
mutual
def zal.j0 : Nat → ByteArray → Int → Bool → Option (Int × Int)
 | 0, _, _, _ => none
 | k + 1, x0, x1, x19 => if x19 = true then (zal.l0 k x0 x1) else (if (wrap64 (x1 + 1)) < (x0.size : Int) then (if 0 ≤ (wrap64 (x1 + 1)) then (zal.j2 k x0 x1 ((bt x0 (wrap64 (x1 + 1))) == 42)) else (none)) else (zal.j2 k x0 x1 false))
def zal.l0 : Nat → ByteArray → Int → Option (Int × Int)
 | 0, _, _ => none
 | k + 1, x0, x6 => if x6 < (x0.size : Int) then (if 0 ≤ x6 then (if (bt x0 x6) = 10 then (some (2, x6)) else (if (bt x0 x6) = 13 then (some (2, x6)) else (zal.l0 k x0 (wrap64 (x6 + 1))))) else (none)) else (some (2, x6))
def zal.j2 : Nat → ByteArray → Int → Bool → Option (Int × Int)
 | 0, _, _, _ => none
 | k + 1, x0, x1, x51 => if x51 = true then (zal.l1 k x0 (wrap64 (x1 + 2))) else (some (36, wrap64 (x1 + 1)))
def zal.l1 : Nat → ByteArray → Int → Option (Int × Int)
 | 0, _, _ => none
 | k + 1, x0, x7 => if (wrap64 (x7 + 1)) < (x0.size : Int) then (if 0 ≤ x7 then (if x7 < (x0.size : Int) then (if (bt x0 x7) = 42 then (if 0 ≤ (wrap64 (x7 + 1)) then (if (bt x0 (wrap64 (x7 + 1))) = 47 then (some (3, wrap64 (x7 + 2))) else (zal.l1 k x0 (wrap64 (x7 + 1)))) else (none)) else (zal.l1 k x0 (wrap64 (x7 + 1)))) else (none)) else (none)) else (some (4, (x0.size : Int)))
end
def zal.f (k : Nat) (a0 : ByteArray) (a1 : Int) : Option (Int × Int) := if (wrap64 (a1 + 1)) < (a0.size : Int) then (if 0 ≤ (wrap64 (a1 + 1)) then (zal.j0 k a0 a1 ((bt a0 (wrap64 (a1 + 1))) == 47)) else (none)) else (zal.j0 k a0 a1 false)
theorem zal.zbr : ∀ k, (∀ y0 y1 y2, LeO (zal.j0 k y0 y1 y2) (zal.j0 (k + 1) y0 y1 y2)) ∧ (∀ y0 y1, LeO (zal.l0 k y0 y1) (zal.l0 (k + 1) y0 y1)) ∧ (∀ y0 y1 y2, LeO (zal.j2 k y0 y1 y2) (zal.j2 (k + 1) y0 y1 y2)) ∧ (∀ y0 y1, LeO (zal.l1 k y0 y1) (zal.l1 (k + 1) y0 y1))
 | 0 => ⟨fun _ _ _ r h => by simp [zal.j0] at h, fun _ _ r h => by simp [zal.l0] at h, fun _ _ _ r h => by simp [zal.j2] at h, fun _ _ r h => by simp [zal.l1] at h⟩
 | k + 1 => by
  obtain ⟨ih0, ih1, ih2, ih3⟩ := zal.zbr k; refine ⟨?_, ?_, ?_, ?_⟩
  ·intro y0 y1 y2
   unfold zal.j0
   repeat' first
   | (with_reducible exact ih0 _ _ _)
   | (with_reducible exact ih1 _ _)
   | (with_reducible exact ih2 _ _ _)
   | (with_reducible exact ih3 _ _)
   | (with_reducible exact LeO.refl _)
   | (with_reducible exact LeO.none _)
   | (with_reducible refine LeO.ite ?_ ?_)
   | (with_reducible refine LeO.bind ?_ (fun _ => ?_))
  ·intro y0 y1
   unfold zal.l0
   repeat' first
   | (with_reducible exact ih0 _ _ _)
   | (with_reducible exact ih1 _ _)
   | (with_reducible exact ih2 _ _ _)
   | (with_reducible exact ih3 _ _)
   | (with_reducible exact LeO.refl _)
   | (with_reducible exact LeO.none _)
   | (with_reducible refine LeO.ite ?_ ?_)
   | (with_reducible refine LeO.bind ?_ (fun _ => ?_))
  ·intro y0 y1 y2
   unfold zal.j2
   repeat' first
   | (with_reducible exact ih0 _ _ _)
   | (with_reducible exact ih1 _ _)
   | (with_reducible exact ih2 _ _ _)
   | (with_reducible exact ih3 _ _)
   | (with_reducible exact LeO.refl _)
   | (with_reducible exact LeO.none _)
   | (with_reducible refine LeO.ite ?_ ?_)
   | (with_reducible refine LeO.bind ?_ (fun _ => ?_))
  ·intro y0 y1
   unfold zal.l1
   repeat' first
   | (with_reducible exact ih0 _ _ _)
   | (with_reducible exact ih1 _ _)
   | (with_reducible exact ih2 _ _ _)
   | (with_reducible exact ih3 _ _)
   | (with_reducible exact LeO.refl _)
   | (with_reducible exact LeO.none _)
   | (with_reducible refine LeO.ite ?_ ?_)
   | (with_reducible refine LeO.bind ?_ (fun _ => ?_))
theorem zal.mono : ∀ a0 a1 k, LeO (zal.f k a0 a1) (zal.f (k + 1) a0 a1) := by
 intro a0 a1 k
 obtain ⟨ih0, ih1, ih2, ih3⟩ := zal.zbr k; unfold zal.f
 repeat' first
   | (with_reducible exact ih0 _ _ _)
   | (with_reducible exact ih1 _ _)
   | (with_reducible exact ih2 _ _ _)
   | (with_reducible exact ih3 _ _)
   | (with_reducible exact LeO.refl _)
   | (with_reducible exact LeO.none _)
   | (with_reducible refine LeO.ite ?_ ?_)
   | (with_reducible refine LeO.bind ?_ (fun _ => ?_))
set_option maxHeartbeats 8000000 in
set_option maxRecDepth 100000 in
theorem zal.calls (k : Nat) (a0 : ByteArray) (a1 : Int) (r1 : Int) (r2 : Int) (w : World) (h : zal.f k a0 a1 = some (r1, r2)) :
  Calls Try.prog 26 #[.string a0, .int .i64 a1] w fun e w' => e = .returned (.tuple #[.int .u8 r1, .int .i64 r2]) ∧ zaC w w' := by
 have H : (if (wrap64 (a1 + 1)) < (a0.size : Int) then (if 0 ≤ (wrap64 (a1 + 1)) then (zal.j0 k a0 a1 ((bt a0 (wrap64 (a1 + 1))) == 47)) else (none)) else (zal.j0 k a0 a1 false)) = some (r1, r2) := h
 clear h; have HC3 := zaa.mk H; clear H; go_enter Try.func26, Try.ntmps26
 go_upto_region 1 with (fail)
 go_cut [19] (fun v19 wc => ∃ (kq : Nat) (x19_2 : Bool), v19 = .bool x19_2 ∧ zaa (zal.j0 kq a0 a1 x19_2 = some (r1, r2)) ∧ zaa (kq ≤ k) ∧ zaC w wc)
 case first =>
  have H := HC3.out; clear HC3; by_cases c4 : (wrap64 (a1 + 1)) < (a0.size : Int)
  ·rw [if_pos c4] at H
   have c4b0 : decide ((wrap64 (a1 + 1)) < (a0.size : Int)) = true := decide_eq_true c4; clear c4
   (first | rw [c4b0] | (simp only [i64_w, i32_w]; rw [c4b0]) | skip)
   obtain ⟨ji5, hji5⟩ : ∃ j_ : Int, (wrap64 (a1 + 1)) = j_ := ⟨_, rfl⟩; replace H : (if 0 ≤ (ji5) then (zal.j0 k a0 a1 ((bt a0 (ji5)) == 47)) else (none)) = some (r1, r2) := by first | (rw [hji5] at H; exact H) | (simp only [hji5] at H ⊢; exact H)
   (try rw [hji5] at c4b0)
   have hji5w : (IntKind.i64.wrap (a1 + 1)) = ji5 := (i64_w _).trans hji5; by_cases c6 : 0 ≤ (ji5)
   ·rw [if_pos c6] at H
    have c6b0 : decide (0 ≤ (ji5)) = true := decide_eq_true c6; clear c6; have H' := zaa.mk H; clear H; have p7 : 0 ≤ ((ji5) : Int) := of_decide_eq_true (by assumption)
    have q7 : (ji5) < (a0.size : Int) := of_decide_eq_true (by assumption)
    have hx7 := bt_at a0 (ji5); replace p7 := eq_true p7; replace q7 := eq_true q7; go_wp2
    go_meet
    case rel => exact ⟨_, (((bt a0 (ji5)) == 47)), (by first | rfl | (simp; done) | (simp only [← hji5] <;> (first | rfl | simp)) | (simp [*]; done)), H', ⟨by first | omega | exact Nat.le_refl _⟩, by repeat (first | exact zaC.refl _ | apply zaC.step)⟩
   ·rw [if_neg c6] at H
    exact absurd H (by simp)
  ·rw [if_neg c4] at H
   have c4b0 : decide ((wrap64 (a1 + 1)) < (a0.size : Int)) = false := decide_eq_false c4; clear c4
   (first | rw [c4b0] | (simp only [i64_w, i32_w]; rw [c4b0]) | skip)
   have H' := zaa.mk H; clear H; go_wp2
   go_meet
   case rel => exact ⟨_, (false), (by first | rfl | (simp; done) | (simp [*]; done)), H', ⟨by first | omega | exact Nat.le_refl _⟩, by repeat (first | exact zaC.refl _ | apply zaC.step)⟩
 case rest =>
  clear HC3; try clear c2
  try clear p2
  try clear c4
  try clear c4b0
  try clear c6
  try clear c6b0
  try clear p6
  try clear p7
  try clear q7
  try clear hx7
  try clear p7
  try clear q7
  obtain ⟨kq, x19_2, rfl, HA, HJ2, ⟨mc2, rfl⟩⟩ := hcut; cases kq with
  | zero => exact absurd HA.out (by simp [zal.j0])
  | succ kj2 =>
   have H := HA.out; clear HA; simp only [zal.j0] at H; by_cases c8 : x19_2 = true
   ·subst c8
    have H1 : (zal.l0 kj2 a0 a1) = some (r1, r2) := by rw [if_pos rfl] at H; exact H
    clear H; have H := H1; clear H1; have H' := zaa.mk H; clear H; go_wp2
    go_loopg [6] kj2 (fun kq v6 w' => ∃ (x6_2 : Int), v6 = .int .i64 x6_2 ∧ zaa (zal.l0 kq a0 x6_2 = some (r1, r2)) ∧ zaa (kq ≤ kj2) ∧ zaC w w')
    case atStart => exact ⟨(a1), (by first | rfl | (simp; done) | (simp [*]; done)), H', ⟨Nat.le_refl _⟩, by repeat (first | exact zaC.refl _ | apply zaC.step)⟩
    case round =>
     clear H'; try clear c2
     try clear p2
     try clear c4
     try clear c4b0
     try clear c6
     try clear c6b0
     try clear p6
     try clear p7
     try clear q7
     try clear hx7
     try clear c8
     try clear p2
     try clear p6
     try clear p7
     try clear q7
     obtain ⟨x6_2, rfl, HA, HK2, ⟨m2, rfl⟩⟩ := hrel; cases gk with
     | zero => exact absurd HA.out (by simp [zal.l0])
     | succ k2 =>
      have H := HA.out; clear HA; simp only [zal.l0] at H; by_cases c9 : x6_2 < (a0.size : Int)
      ·rw [if_pos c9] at H
       have c9b0 : decide (x6_2 < (a0.size : Int)) = true := decide_eq_true c9; clear c9; by_cases c10 : 0 ≤ x6_2
       ·rw [if_pos c10] at H
        have c10b0 : decide (0 ≤ x6_2) = true := decide_eq_true c10; clear c10; by_cases c12 : (bt a0 x6_2) = 10
        ·rw [if_pos c12] at H
         have c12b0 : ((bt a0 x6_2) == 10) = true := beq_iff_eq.mpr c12; have c12b1 : ((bt a0 x6_2) != 10) = false := bne_eq_false_iff_eq.mpr c12; clear c12; simp only [Option.some.injEq, Prod.mk.injEq] at H; obtain ⟨rfl, rfl⟩ := H; have p11 : 0 ≤ (x6_2 : Int) := of_decide_eq_true (by assumption)
         have q11 : x6_2 < (a0.size : Int) := of_decide_eq_true (by assumption)
         have hx11 := bt_at a0 x6_2; replace p11 := eq_true p11; replace q11 := eq_true q11; go_wp2
         go_ret2
         exact ⟨by first | rfl | (simp; done) | (simp [*]; done), by repeat (first | exact zaC.refl _ | apply zaC.step)⟩
        ·rw [if_neg c12] at H
         have c12b0 : ((bt a0 x6_2) == 10) = false := beq_eq_false_iff_ne.mpr c12; have c12b1 : ((bt a0 x6_2) != 10) = true := bne_iff_ne.mpr c12; by_cases c14 : (bt a0 x6_2) = 13
         ·rw [if_pos c14] at H
          have c14b0 : ((bt a0 x6_2) == 13) = true := beq_iff_eq.mpr c14; have c14b1 : ((bt a0 x6_2) != 13) = false := bne_eq_false_iff_eq.mpr c14; clear c14; simp only [Option.some.injEq, Prod.mk.injEq] at H; obtain ⟨rfl, rfl⟩ := H; have p11 : 0 ≤ (x6_2 : Int) := of_decide_eq_true (by assumption)
          have q11 : x6_2 < (a0.size : Int) := of_decide_eq_true (by assumption)
          have hx11 := bt_at a0 x6_2; replace p11 := eq_true p11; replace q11 := eq_true q11; have p13 : 0 ≤ (x6_2 : Int) := of_decide_eq_true (by assumption)
          have q13 : x6_2 < (a0.size : Int) := of_decide_eq_true (by assumption)
          have hx13 := bt_at a0 x6_2; replace p13 := eq_true p13; replace q13 := eq_true q13; go_wp2
          go_ret2
          exact ⟨by first | rfl | (simp; done) | (simp [*]; done), by repeat (first | exact zaC.refl _ | apply zaC.step)⟩
         ·rw [if_neg c14] at H
          have c14b0 : ((bt a0 x6_2) == 13) = false := beq_eq_false_iff_ne.mpr c14; have c14b1 : ((bt a0 x6_2) != 13) = true := bne_iff_ne.mpr c14; have H' := zaa.mk H; clear H; have p11 : 0 ≤ (x6_2 : Int) := of_decide_eq_true (by assumption)
          have q11 : x6_2 < (a0.size : Int) := of_decide_eq_true (by assumption)
          have hx11 := bt_at a0 x6_2; replace p11 := eq_true p11; replace q11 := eq_true q11; have p13 : 0 ≤ (x6_2 : Int) := of_decide_eq_true (by assumption)
          have q13 : x6_2 < (a0.size : Int) := of_decide_eq_true (by assumption)
          have hx13 := bt_at a0 x6_2; replace p13 := eq_true p13; replace q13 := eq_true q13; go_wp2
          go_roundg k2
          case measure => have := HJ2.out; have := HK2.out; omega
          case rel => exact ⟨(wrap64 (x6_2 + 1)), (by first | rfl | (simp; done) | (simp [*]; done)), H', ⟨by have := HJ2.out; have := HK2.out; omega⟩, by repeat (first | exact zaC.refl _ | apply zaC.step)⟩
       ·rw [if_neg c10] at H
        exact absurd H (by simp)
      ·rw [if_neg c9] at H
       have c9b0 : decide (x6_2 < (a0.size : Int)) = false := decide_eq_false c9; clear c9; simp only [Option.some.injEq, Prod.mk.injEq] at H; obtain ⟨rfl, rfl⟩ := H; go_wp2
       go_ret2
       exact ⟨by first | rfl | (simp; done) | (simp [*]; done), by repeat (first | exact zaC.refl _ | apply zaC.step)⟩
   ·replace c8 := Bool.eq_false_iff.mpr c8
    subst c8; have H1 : (if (wrap64 (a1 + 1)) < (a0.size : Int) then (if 0 ≤ (wrap64 (a1 + 1)) then (zal.j2 kj2 a0 a1 ((bt a0 (wrap64 (a1 + 1))) == 42)) else (none)) else (zal.j2 kj2 a0 a1 false)) = some (r1, r2) := by rw [if_neg (show ¬ (false = true) by decide)] at H; exact H
    clear H; have H := H1; clear H1; have HC15 := zaa.mk H; clear H; go_upto_region 6 with (fail)
    go_cut [51] (fun v51 wc => ∃ (kq : Nat) (x51_14 : Bool), v51 = .bool x51_14 ∧ zaa (zal.j2 kq a0 a1 x51_14 = some (r1, r2)) ∧ zaa (kq ≤ kj2) ∧ zaC w wc)
    case first =>
     have H := HC15.out; clear HC15; by_cases c16 : (wrap64 (a1 + 1)) < (a0.size : Int)
     ·rw [if_pos c16] at H
      have c16b0 : decide ((wrap64 (a1 + 1)) < (a0.size : Int)) = true := decide_eq_true c16; clear c16
      (first | rw [c16b0] | (simp only [i64_w, i32_w]; rw [c16b0]) | skip)
      obtain ⟨ji17, hji17⟩ : ∃ j_ : Int, (wrap64 (a1 + 1)) = j_ := ⟨_, rfl⟩; replace H : (if 0 ≤ (ji17) then (zal.j2 kj2 a0 a1 ((bt a0 (ji17)) == 42)) else (none)) = some (r1, r2) := by first | (rw [hji17] at H; exact H) | (simp only [hji17] at H ⊢; exact H)
      (try rw [hji17] at c16b0)
      have hji17w : (IntKind.i64.wrap (a1 + 1)) = ji17 := (i64_w _).trans hji17; by_cases c18 : 0 ≤ (ji17)
      ·rw [if_pos c18] at H
       have c18b0 : decide (0 ≤ (ji17)) = true := decide_eq_true c18; clear c18; have H' := zaa.mk H; clear H; have p19 : 0 ≤ ((ji17) : Int) := of_decide_eq_true (by assumption)
       have q19 : (ji17) < (a0.size : Int) := of_decide_eq_true (by assumption)
       have hx19 := bt_at a0 (ji17); replace p19 := eq_true p19; replace q19 := eq_true q19; go_wp2
       go_meet
       case rel => exact ⟨_, (((bt a0 (ji17)) == 42)), (by first | rfl | (simp; done) | (simp only [← hji17] <;> (first | rfl | simp)) | (simp [*]; done)), H', ⟨by have := HJ2.out; first | omega | exact Nat.le_refl _⟩, by repeat (first | exact zaC.refl _ | apply zaC.step)⟩
      ·rw [if_neg c18] at H
       exact absurd H (by simp)
     ·rw [if_neg c16] at H
      have c16b0 : decide ((wrap64 (a1 + 1)) < (a0.size : Int)) = false := decide_eq_false c16; clear c16
      (first | rw [c16b0] | (simp only [i64_w, i32_w]; rw [c16b0]) | skip)
      have H' := zaa.mk H; clear H; go_wp2
      go_meet
      case rel => exact ⟨_, (false), (by first | rfl | (simp; done) | (simp [*]; done)), H', ⟨by have := HJ2.out; first | omega | exact Nat.le_refl _⟩, by repeat (first | exact zaC.refl _ | apply zaC.step)⟩
    case rest =>
     clear HC15; try clear c1
     try clear p1
     try clear q1
     try clear hx1
     try clear c2
     try clear p2
     try clear c4
     try clear c4b0
     try clear c6
     try clear c6b0
     try clear p6
     try clear p7
     try clear q7
     try clear hx7
     try clear c8
     try clear c9
     try clear c9b0
     try clear c10
     try clear c10b0
     try clear p11
     try clear q11
     try clear hx11
     try clear c12
     try clear c12b0
     try clear c12b1
     try clear p13
     try clear q13
     try clear hx13
     try clear c14
     try clear c14b0
     try clear c14b1
     try clear c16
     try clear c16b0
     try clear c18
     try clear c18b0
     try clear p19
     try clear q19
     try clear hx19
     try clear p11
     try clear p13
     try clear p19
     try clear p2
     try clear p6
     try clear p7
     try clear q11
     try clear q13
     try clear q19
     try clear q7
     obtain ⟨kq, x51_14, rfl, HA, HJ14, ⟨mc14, rfl⟩⟩ := hcut; cases kq with
     | zero => exact absurd HA.out (by simp [zal.j2])
     | succ kj14 =>
      have H := HA.out; clear HA; simp only [zal.j2] at H; by_cases c20 : x51_14 = true
      ·subst c20
       have H1 : (zal.l1 kj14 a0 (wrap64 (a1 + 2))) = some (r1, r2) := by rw [if_pos rfl] at H; exact H
       clear H; have H := H1; clear H1; have H' := zaa.mk H; clear H; go_wp2
       go_loopg [7] kj14 (fun kq v7 w' => ∃ (x7_3 : Int), v7 = .int .i64 x7_3 ∧ zaa (zal.l1 kq a0 x7_3 = some (r1, r2)) ∧ zaa (kq ≤ kj14) ∧ zaC w w')
       case atStart => exact ⟨(wrap64 (a1 + 2)), (by first | rfl | (simp; done) | (simp [*]; done)), H', ⟨Nat.le_refl _⟩, by repeat (first | exact zaC.refl _ | apply zaC.step)⟩
       case round =>
        clear H'; try clear c1
        try clear p1
        try clear q1
        try clear hx1
        try clear c2
        try clear p2
        try clear c4
        try clear c4b0
        try clear c6
        try clear c6b0
        try clear p6
        try clear p7
        try clear q7
        try clear hx7
        try clear c8
        try clear c9
        try clear c9b0
        try clear c10
        try clear c10b0
        try clear p11
        try clear q11
        try clear hx11
        try clear c12
        try clear c12b0
        try clear c12b1
        try clear p13
        try clear q13
        try clear hx13
        try clear c14
        try clear c14b0
        try clear c14b1
        try clear c16
        try clear c16b0
        try clear c18
        try clear c18b0
        try clear p19
        try clear q19
        try clear hx19
        try clear c20
        try clear p1
        try clear p11
        try clear p13
        try clear p19
        try clear p2
        try clear p6
        try clear p7
        try clear q1
        try clear q11
        try clear q13
        try clear q19
        try clear q7
        obtain ⟨x7_3, rfl, HA, HK3, ⟨m3, rfl⟩⟩ := hrel; cases gk with
        | zero => exact absurd HA.out (by simp [zal.l1])
        | succ k3 =>
         have H := HA.out; clear HA; simp only [zal.l1] at H; by_cases c21 : (wrap64 (x7_3 + 1)) < (a0.size : Int)
         ·rw [if_pos c21] at H
          have c21b0 : decide ((wrap64 (x7_3 + 1)) < (a0.size : Int)) = true := decide_eq_true c21; clear c21; by_cases c22 : 0 ≤ x7_3
          ·rw [if_pos c22] at H
           have c22b0 : decide (0 ≤ x7_3) = true := decide_eq_true c22; clear c22; by_cases c23 : x7_3 < (a0.size : Int)
           ·rw [if_pos c23] at H
            have c23b0 : decide (x7_3 < (a0.size : Int)) = true := decide_eq_true c23; clear c23; by_cases c25 : (bt a0 x7_3) = 42
            ·rw [if_pos c25] at H
             have c25b0 : ((bt a0 x7_3) == 42) = true := beq_iff_eq.mpr c25; have c25b1 : ((bt a0 x7_3) != 42) = false := bne_eq_false_iff_eq.mpr c25; clear c25; obtain ⟨ji26, hji26⟩ : ∃ j_ : Int, (wrap64 (x7_3 + 1)) = j_ := ⟨_, rfl⟩; replace H : (if 0 ≤ (ji26) then (if (bt a0 (ji26)) = 47 then (some (3, wrap64 (x7_3 + 2))) else (zal.l1 k3 a0 ji26)) else (none)) = some (r1, r2) := by first | (rw [hji26] at H; exact H) | (simp only [hji26] at H ⊢; exact H)
             (try rw [hji26] at c21b0)
             have hji26w : (IntKind.i64.wrap (x7_3 + 1)) = ji26 := (i64_w _).trans hji26; by_cases c27 : 0 ≤ (ji26)
             ·rw [if_pos c27] at H
              have c27b0 : decide (0 ≤ (ji26)) = true := decide_eq_true c27; clear c27; by_cases c29 : (bt a0 (ji26)) = 47
              ·rw [if_pos c29] at H
               have c29b0 : ((bt a0 (ji26)) == 47) = true := beq_iff_eq.mpr c29; have c29b1 : ((bt a0 (ji26)) != 47) = false := bne_eq_false_iff_eq.mpr c29; clear c29; simp only [Option.some.injEq, Prod.mk.injEq] at H; obtain ⟨rfl, rfl⟩ := H; have p24 : 0 ≤ (x7_3 : Int) := of_decide_eq_true (by assumption)
               have q24 : x7_3 < (a0.size : Int) := of_decide_eq_true (by assumption)
               have hx24 := bt_at a0 x7_3; replace p24 := eq_true p24; replace q24 := eq_true q24; have p28 : 0 ≤ ((ji26) : Int) := of_decide_eq_true (by assumption)
               have q28 : (ji26) < (a0.size : Int) := of_decide_eq_true (by assumption)
               have hx28 := bt_at a0 (ji26); replace p28 := eq_true p28; replace q28 := eq_true q28; go_wp2
               go_ret2
               exact ⟨by first | rfl | (simp; done) | (simp only [← hji26] <;> (first | rfl | simp)) | (simp [*]; done), by repeat (first | exact zaC.refl _ | apply zaC.step)⟩
              ·rw [if_neg c29] at H
               have c29b0 : ((bt a0 (ji26)) == 47) = false := beq_eq_false_iff_ne.mpr c29; have c29b1 : ((bt a0 (ji26)) != 47) = true := bne_iff_ne.mpr c29; have H' := zaa.mk H; clear H; have p24 : 0 ≤ (x7_3 : Int) := of_decide_eq_true (by assumption)
               have q24 : x7_3 < (a0.size : Int) := of_decide_eq_true (by assumption)
               have hx24 := bt_at a0 x7_3; replace p24 := eq_true p24; replace q24 := eq_true q24; have p28 : 0 ≤ ((ji26) : Int) := of_decide_eq_true (by assumption)
               have q28 : (ji26) < (a0.size : Int) := of_decide_eq_true (by assumption)
               have hx28 := bt_at a0 (ji26); replace p28 := eq_true p28; replace q28 := eq_true q28; go_wp2
               go_roundg k3
               case measure => have := HJ2.out; have := HJ14.out; have := HK3.out; omega
               case rel => exact ⟨(ji26), (by first | rfl | (simp; done) | (simp only [← hji26] <;> (first | rfl | simp)) | (simp [*]; done)), H', ⟨by have := HJ2.out; have := HJ14.out; have := HK3.out; omega⟩, by repeat (first | exact zaC.refl _ | apply zaC.step)⟩
             ·rw [if_neg c27] at H
              exact absurd H (by simp)
            ·rw [if_neg c25] at H
             have c25b0 : ((bt a0 x7_3) == 42) = false := beq_eq_false_iff_ne.mpr c25; have c25b1 : ((bt a0 x7_3) != 42) = true := bne_iff_ne.mpr c25; have H' := zaa.mk H; clear H; have p24 : 0 ≤ (x7_3 : Int) := of_decide_eq_true (by assumption)
             have q24 : x7_3 < (a0.size : Int) := of_decide_eq_true (by assumption)
             have hx24 := bt_at a0 x7_3; replace p24 := eq_true p24; replace q24 := eq_true q24; go_wp2
             go_roundg k3
             case measure => have := HJ2.out; have := HJ14.out; have := HK3.out; omega
             case rel => exact ⟨(wrap64 (x7_3 + 1)), (by first | rfl | (simp; done) | (simp [*]; done)), H', ⟨by have := HJ2.out; have := HJ14.out; have := HK3.out; omega⟩, by repeat (first | exact zaC.refl _ | apply zaC.step)⟩
           ·rw [if_neg c23] at H
            exact absurd H (by simp)
          ·rw [if_neg c22] at H
           exact absurd H (by simp)
         ·rw [if_neg c21] at H
          have c21b0 : decide ((wrap64 (x7_3 + 1)) < (a0.size : Int)) = false := decide_eq_false c21; clear c21; simp only [Option.some.injEq, Prod.mk.injEq] at H; obtain ⟨rfl, rfl⟩ := H; go_wp2
          go_ret2
          exact ⟨by first | rfl | (simp; done) | (simp [*]; done), by repeat (first | exact zaC.refl _ | apply zaC.step)⟩
      ·replace c20 := Bool.eq_false_iff.mpr c20
       subst c20; have H1 : (some (36, wrap64 (a1 + 1))) = some (r1, r2) := by rw [if_neg (show ¬ (false = true) by decide)] at H; exact H
       clear H; have H := H1; clear H1; simp only [Option.some.injEq, Prod.mk.injEq] at H; obtain ⟨rfl, rfl⟩ := H; go_wp2
       go_ret2
       exact ⟨by first | rfl | (simp; done) | (simp [*]; done), by repeat (first | exact zaC.refl _ | apply zaC.step)⟩
def za1.f (a0 : Int) : Option (Bool) := if a0 ≥ 97 then (if a0 ≤ 122 then (some true) else (if a0 ≥ 65 then (if a0 ≤ 90 then (some true) else (some (a0 == 95))) else (some (a0 == 95)))) else (if a0 ≥ 65 then (if a0 ≤ 90 then (some true) else (some (a0 == 95))) else (some (a0 == 95)))
set_option maxHeartbeats 8000000 in
set_option maxRecDepth 100000 in
theorem za1.calls (a0 : Int) (r : Bool) (w : World) (h : za1.f a0 = some r) :
  Calls Try.prog 27 #[.int .u8 a0] w fun e w' => e = .returned (.bool r) ∧ zaC w w' := by
 have H : (if a0 ≥ 97 then (if a0 ≤ 122 then (some true) else (if a0 ≥ 65 then (if a0 ≤ 90 then (some true) else (some (a0 == 95))) else (some (a0 == 95)))) else (if a0 ≥ 65 then (if a0 ≤ 90 then (some true) else (some (a0 == 95))) else (some (a0 == 95)))) = some r := h
 clear h; by_cases c2 : a0 ≥ 97
 ·rw [if_pos c2] at H
  have c2b0 : decide (97 ≤ a0) = true := decide_eq_true c2; clear c2; by_cases c3 : a0 ≤ 122
  ·rw [if_pos c3] at H
   have c3b0 : decide (a0 ≤ 122) = true := decide_eq_true c3; clear c3; obtain rfl := Option.some.inj H; go_enter Try.func27, Try.ntmps27
   go_wp2
   go_ret
   exact ⟨by first | rfl | (simp; done) | (simp [*]; done), by repeat (first | exact zaC.refl _ | apply zaC.step)⟩
  ·rw [if_neg c3] at H
   have c3b0 : decide (a0 ≤ 122) = false := decide_eq_false c3; clear c3; by_cases c4 : a0 ≥ 65
   ·rw [if_pos c4] at H
    have c4b0 : decide (65 ≤ a0) = true := decide_eq_true c4; clear c4; by_cases c5 : a0 ≤ 90
    ·rw [if_pos c5] at H
     have c5b0 : decide (a0 ≤ 90) = true := decide_eq_true c5; clear c5; obtain rfl := Option.some.inj H; go_enter Try.func27, Try.ntmps27
     go_wp2
     go_ret
     exact ⟨by first | rfl | (simp; done) | (simp [*]; done), by repeat (first | exact zaC.refl _ | apply zaC.step)⟩
    ·rw [if_neg c5] at H
     have c5b0 : decide (a0 ≤ 90) = false := decide_eq_false c5; clear c5; obtain rfl := Option.some.inj H; go_enter Try.func27, Try.ntmps27
     go_wp2
     go_ret
     exact ⟨by first | rfl | (simp; done) | (simp [*]; done), by repeat (first | exact zaC.refl _ | apply zaC.step)⟩
   ·rw [if_neg c4] at H
    have c4b0 : decide (65 ≤ a0) = false := decide_eq_false c4; clear c4; obtain rfl := Option.some.inj H; go_enter Try.func27, Try.ntmps27
    go_wp2
    go_ret
    exact ⟨by first | rfl | (simp; done) | (simp [*]; done), by repeat (first | exact zaC.refl _ | apply zaC.step)⟩
 ·rw [if_neg c2] at H
  have c2b0 : decide (97 ≤ a0) = false := decide_eq_false c2; clear c2; by_cases c6 : a0 ≥ 65
  ·rw [if_pos c6] at H
   have c6b0 : decide (65 ≤ a0) = true := decide_eq_true c6; clear c6; by_cases c7 : a0 ≤ 90
   ·rw [if_pos c7] at H
    have c7b0 : decide (a0 ≤ 90) = true := decide_eq_true c7; clear c7; obtain rfl := Option.some.inj H; go_enter Try.func27, Try.ntmps27
    go_wp2
    go_ret
    exact ⟨by first | rfl | (simp; done) | (simp [*]; done), by repeat (first | exact zaC.refl _ | apply zaC.step)⟩
   ·rw [if_neg c7] at H
    have c7b0 : decide (a0 ≤ 90) = false := decide_eq_false c7; clear c7; obtain rfl := Option.some.inj H; go_enter Try.func27, Try.ntmps27
    go_wp2
    go_ret
    exact ⟨by first | rfl | (simp; done) | (simp [*]; done), by repeat (first | exact zaC.refl _ | apply zaC.step)⟩
  ·rw [if_neg c6] at H
   have c6b0 : decide (65 ≤ a0) = false := decide_eq_false c6; clear c6; obtain rfl := Option.some.inj H; go_enter Try.func27, Try.ntmps27
   go_wp2
   go_ret
   exact ⟨by first | rfl | (simp; done) | (simp [*]; done), by repeat (first | exact zaC.refl _ | apply zaC.step)⟩
def zaY.f (a0 : Int) : Option (Bool) := if a0 ≥ 48 then (some (decide (a0 ≤ 57))) else (some false)
set_option maxHeartbeats 8000000 in
set_option maxRecDepth 100000 in
theorem zaY.calls (a0 : Int) (r : Bool) (w : World) (h : zaY.f a0 = some r) :
  Calls Try.prog 28 #[.int .u8 a0] w fun e w' => e = .returned (.bool r) ∧ zaC w w' := by
 have H : (if a0 ≥ 48 then (some (decide (a0 ≤ 57))) else (some false)) = some r := h
 clear h; by_cases c2 : a0 ≥ 48
 ·rw [if_pos c2] at H
  have c2b0 : decide (48 ≤ a0) = true := decide_eq_true c2; clear c2; obtain rfl := Option.some.inj H; go_enter Try.func28, Try.ntmps28
  go_wp2
  go_ret
  exact ⟨by first | rfl | (simp; done) | (simp [*]; done), by repeat (first | exact zaC.refl _ | apply zaC.step)⟩
 ·rw [if_neg c2] at H
  have c2b0 : decide (48 ≤ a0) = false := decide_eq_false c2; clear c2; obtain rfl := Option.some.inj H; go_enter Try.func28, Try.ntmps28
  go_wp2
  go_ret
  exact ⟨by first | rfl | (simp; done) | (simp [*]; done), by repeat (first | exact zaC.refl _ | apply zaC.step)⟩
def zaK.l0 : Nat → ByteArray → List ByteArray → Int → Option (Int)
 | 0, _, _, _ => none
 | k + 1, x0, x3, x4 => if x4 < (x3.length : Int) then (if 0 ≤ x4 then (if (rdOf ByteArray.empty x3 x4).toList = x0.toList then (some ((10 + ((x4) % 256)) % 256)) else (zaK.l0 k x0 x3 (wrap64 (x4 + 1)))) else (none)) else (some 6)
def zaK.f (k : Nat) (a0 : ByteArray) : Option (Int) := zaK.l0 k a0 (([(⟨#[108, 101, 116]⟩ : ByteArray), (⟨#[102, 110]⟩ : ByteArray), (⟨#[105, 102]⟩ : ByteArray), (⟨#[101, 108, 115, 101]⟩ : ByteArray), (⟨#[119, 104, 105, 108, 101]⟩ : ByteArray), (⟨#[114, 101, 116, 117, 114, 110]⟩ : ByteArray), (⟨#[116, 114, 117, 101]⟩ : ByteArray), (⟨#[102, 97, 108, 115, 101]⟩ : ByteArray)] : List ByteArray)) 0
theorem zaK.zbr : ∀ k, (∀ y0 y1 y2, LeO (zaK.l0 k y0 y1 y2) (zaK.l0 (k + 1) y0 y1 y2))
 | 0 => fun _ _ _ r h => by simp [zaK.l0] at h
 | k + 1 => by
  have ih0 := zaK.zbr k
  ·intro y0 y1 y2
   unfold zaK.l0
   repeat' first
   | (with_reducible exact ih0 _ _ _)
   | (with_reducible exact LeO.refl _)
   | (with_reducible exact LeO.none _)
   | (with_reducible refine LeO.ite ?_ ?_)
   | (with_reducible refine LeO.bind ?_ (fun _ => ?_))
theorem zaK.mono : ∀ a0 k, LeO (zaK.f k a0) (zaK.f (k + 1) a0) := by
 intro a0 k
 have ih0 := zaK.zbr k; unfold zaK.f
 repeat' first
   | (with_reducible exact ih0 _ _ _)
   | (with_reducible exact LeO.refl _)
   | (with_reducible exact LeO.none _)
   | (with_reducible refine LeO.ite ?_ ?_)
   | (with_reducible refine LeO.bind ?_ (fun _ => ?_))
set_option maxHeartbeats 8000000 in
set_option maxRecDepth 100000 in
theorem zaK.calls (k : Nat) (a0 : ByteArray) (r : Int) (w : World) (h : zaK.f k a0 = some r) :
  Calls Try.prog 29 #[.string a0] w fun e w' => e = .returned (.int .u8 r) ∧ Below w.heap.size w w' := by
 have HB := zaa.mk (Below.refl w.heap.size w); have H : (zaK.l0 k a0 (([(⟨#[108, 101, 116]⟩ : ByteArray), (⟨#[102, 110]⟩ : ByteArray), (⟨#[105, 102]⟩ : ByteArray), (⟨#[101, 108, 115, 101]⟩ : ByteArray), (⟨#[119, 104, 105, 108, 101]⟩ : ByteArray), (⟨#[114, 101, 116, 117, 114, 110]⟩ : ByteArray), (⟨#[116, 114, 117, 101]⟩ : ByteArray), (⟨#[102, 97, 108, 115, 101]⟩ : ByteArray)] : List ByteArray)) 0) = some r := h; clear h; obtain ⟨y220, hy220⟩ : ∃ y_ : List ByteArray, y_ = (([(⟨#[108, 101, 116]⟩ : ByteArray), (⟨#[102, 110]⟩ : ByteArray), (⟨#[105, 102]⟩ : ByteArray), (⟨#[101, 108, 115, 101]⟩ : ByteArray), (⟨#[119, 104, 105, 108, 101]⟩ : ByteArray), (⟨#[114, 101, 116, 117, 114, 110]⟩ : ByteArray), (⟨#[116, 114, 117, 101]⟩ : ByteArray), (⟨#[102, 97, 108, 115, 101]⟩ : ByteArray)] : List ByteArray)) := ⟨_, rfl⟩; replace H : (zaK.l0 k a0 y220 0) = some r := by first | (rw [hy220]; with_reducible exact H) | (have H2_ := (Option.bind_some _ _).symm.trans H; rw [hy220]; with_reducible exact H2_) | (have H2_ := (Option.bind_some _ _).symm.trans H; with_reducible exact H2_) | with_reducible exact H | (rw [hy220]; exact H) | exact H
 have Ny220 := zaa.mk hy220; clear hy220; have H' := zaa.mk H; clear H; go_enter Try.func29, Try.ntmps29
 go_wp2_with (first | ((with_reducible refine za7 (N := 5) rfl ?_); refine Kd.R_lit Kd.string _ 9 ?hg (N := 5) ?hd (xs := ([(⟨#[108, 101, 116]⟩ : ByteArray), (⟨#[102, 110]⟩ : ByteArray), (⟨#[105, 102]⟩ : ByteArray), (⟨#[101, 108, 115, 101]⟩ : ByteArray), (⟨#[119, 104, 105, 108, 101]⟩ : ByteArray), (⟨#[114, 101, 116, 117, 114, 110]⟩ : ByteArray), (⟨#[116, 114, 117, 101]⟩ : ByteArray), (⟨#[102, 97, 108, 115, 101]⟩ : ByteArray)] : List ByteArray)) (inner := [.string (⟨#[108, 101, 116]⟩ : ByteArray), .string (⟨#[102, 110]⟩ : ByteArray), .string (⟨#[105, 102]⟩ : ByteArray), .string (⟨#[101, 108, 115, 101]⟩ : ByteArray), .string (⟨#[119, 104, 105, 108, 101]⟩ : ByteArray), .string (⟨#[114, 101, 116, 117, 114, 110]⟩ : ByteArray), .string (⟨#[116, 114, 117, 101]⟩ : ByteArray), .string (⟨#[102, 97, 108, 115, 101]⟩ : ByteArray)]) (ok := fun _ => True) (okp := fun _ => True) ?hr ?hp (fun _ hk => hk) trivial (Below.refl _ _) (Nat.le_refl _) (by simp) ?_; (case hd => rfl); (case hg => rfl); (case hr => first | (go_simp; done) | (go_simp; rfl)); (case hp => exact (Reps.one (show Kd.M Kd.string _ _ _ (⟨#[108, 101, 116]⟩ : ByteArray) [.string (⟨#[108, 101, 116]⟩ : ByteArray)] from rfl) (Reps.one (show Kd.M Kd.string _ _ _ (⟨#[102, 110]⟩ : ByteArray) [.string (⟨#[102, 110]⟩ : ByteArray)] from rfl) (Reps.one (show Kd.M Kd.string _ _ _ (⟨#[105, 102]⟩ : ByteArray) [.string (⟨#[105, 102]⟩ : ByteArray)] from rfl) (Reps.one (show Kd.M Kd.string _ _ _ (⟨#[101, 108, 115, 101]⟩ : ByteArray) [.string (⟨#[101, 108, 115, 101]⟩ : ByteArray)] from rfl) (Reps.one (show Kd.M Kd.string _ _ _ (⟨#[119, 104, 105, 108, 101]⟩ : ByteArray) [.string (⟨#[119, 104, 105, 108, 101]⟩ : ByteArray)] from rfl) (Reps.one (show Kd.M Kd.string _ _ _ (⟨#[114, 101, 116, 117, 114, 110]⟩ : ByteArray) [.string (⟨#[114, 101, 116, 117, 114, 110]⟩ : ByteArray)] from rfl) (Reps.one (show Kd.M Kd.string _ _ _ (⟨#[116, 114, 117, 101]⟩ : ByteArray) [.string (⟨#[116, 114, 117, 101]⟩ : ByteArray)] from rfl) (Reps.one (show Kd.M Kd.string _ _ _ (⟨#[102, 97, 108, 115, 101]⟩ : ByteArray) [.string (⟨#[102, 97, 108, 115, 101]⟩ : ByteArray)] from rfl) (Reps.none _ _)))))))))); intro v221 w2 ho3 hb hg_ hnew_; clear hg_ hnew_; (first | rw [← Ny220.out] at ho3 | (simp only [Int.reduceToNat] at ho3; rw [← Ny220.out] at ho3)); have n0_ := zaa.mk (Kd.zbG ho3 (zaB (by repeat (first | exact HB.out | apply zad | apply zac | apply zae)))); have n1_ := zaa.mk (zaG (by repeat (first | exact HB.out | apply zad | apply zac | apply zae)) hb); clear HB; have HO222 := n0_; have HB := n1_; clear n0_ n1_; clear hb ho3))
 go_loopg [4] k (fun kq v4 w' => ∃ (x4_1 : Int), v4 = .int .i64 x4_1 ∧ zaa (zaK.l0 kq a0 y220 x4_1 = some r) ∧ zaa (kq ≤ k) ∧ zaa (Kd.R Kd.string 9 w' w.heap.size (fun _ => True) v221 y220) ∧ zaa (Below w.heap.size w w'))
 case atStart => exact ⟨(0), (by first | rfl | (simp; done) | (simp [*]; done)), H', ⟨Nat.le_refl _⟩, ⟨by (with_reducible repeat (first | apply Kd.za3 | apply Kd.za2 | apply Kd.za8)); exact HO222.out⟩, ⟨by repeat (first | exact HB.out | apply zad | apply zac | apply zae)⟩⟩
 case round =>
  clear H'; try clear c2
  try clear p2
  obtain ⟨x4_1, rfl, HA, HK1, HO_3, HB⟩ := hrel; cases gk with
  | zero => exact absurd HA.out (by simp [zaK.l0])
  | succ k1 =>
   have H := HA.out; clear HA; simp only [zaK.l0] at H; by_cases c4 : x4_1 < (y220.length : Int)
   ·rw [if_pos c4] at H
    have c4b0 : decide (x4_1 < (y220.length : Int)) = true := decide_eq_true c4; clear c4; by_cases c5 : 0 ≤ x4_1
    ·rw [if_pos c5] at H
     have c5b0 : decide (0 ≤ x4_1) = true := decide_eq_true c5; clear c5; by_cases c6 : (rdOf ByteArray.empty y220 x4_1).toList = a0.toList
     ·rw [if_pos c6] at H
      have c6b0 : ((rdOf ByteArray.empty y220 x4_1).toList == a0.toList) = true := beq_iff_eq.mpr c6; have c6b1 : ((rdOf ByteArray.empty y220 x4_1).toList != a0.toList) = false := bne_eq_false_iff_eq.mpr c6; clear c6; obtain rfl := Option.some.inj H; obtain ⟨Ao7, co7, eo7⟩ := Kd.zbB HO_3.out; subst eo7; have p223 : 0 ≤ (x4_1 : Int) := of_decide_eq_true (by assumption)
      have q223 : x4_1 < (y220.length : Int) := of_decide_eq_true (by assumption)
      obtain ⟨ad223, e223, hx223_0⟩ := Kd.at_string (Kd.zbt HO_3.out).2.2 x4_1 p223 q223; cases e223; replace p223 := eq_true p223; replace q223 := eq_true q223; go_wp2
      go_ret
      exact ⟨by first | rfl | (simp [*, zaF, zaE] <;> rfl), by repeat (first | exact HB.out | apply zad | apply zac | apply zae)⟩
     ·rw [if_neg c6] at H
      have c6b0 : ((rdOf ByteArray.empty y220 x4_1).toList == a0.toList) = false := beq_eq_false_iff_ne.mpr c6; have c6b1 : ((rdOf ByteArray.empty y220 x4_1).toList != a0.toList) = true := bne_iff_ne.mpr c6; have H' := zaa.mk H; clear H; obtain ⟨Ao8, co8, eo8⟩ := Kd.zbB HO_3.out; subst eo8; have p223 : 0 ≤ (x4_1 : Int) := of_decide_eq_true (by assumption)
      have q223 : x4_1 < (y220.length : Int) := of_decide_eq_true (by assumption)
      obtain ⟨ad223, e223, hx223_0⟩ := Kd.at_string (Kd.zbt HO_3.out).2.2 x4_1 p223 q223; cases e223; replace p223 := eq_true p223; replace q223 := eq_true q223; go_wp2
      go_roundg k1
      case measure => have := HK1.out; omega
      case rel => exact ⟨(wrap64 (x4_1 + 1)), (by first | rfl | (simp; done) | (simp [*]; done)), H', ⟨by have := HK1.out; omega⟩, ⟨by (with_reducible repeat (first | apply Kd.za3 | apply Kd.za2 | apply Kd.za8)); exact HO_3.out⟩, ⟨by repeat (first | exact HB.out | apply zad | apply zac | apply zae)⟩⟩
    ·rw [if_neg c5] at H
     exact absurd H (by simp)
   ·rw [if_neg c4] at H
    have c4b0 : decide (x4_1 < (y220.length : Int)) = false := decide_eq_false c4; clear c4; obtain rfl := Option.some.inj H; obtain ⟨Ao9, co9, eo9⟩ := Kd.zbB HO_3.out; subst eo9; go_wp2
    go_ret
    exact ⟨by first | rfl | (simp [*, zaF, zaE] <;> rfl), by repeat (first | exact HB.out | apply zad | apply zac | apply zae)⟩
mutual
def zaj.j0 : Nat → ByteArray → Int → Bool → Option (Int × Int × Bool)
 | 0, _, _, _ => none
 | k + 1, x0, x1, x20 => if x20 = true then (some (0, 0, false)) else (if 0 ≤ x1 then (if x1 < (x0.size : Int) then (if (wrap64 (bt x0 x1)) < 128 then (some (wrap32 (wrap64 (bt x0 x1)), 1, true)) else (if (wrap64 (bt x0 x1)) ≥ 192 then (zaj.j1 k x0 x1 (wrap64 (bt x0 x1)) (decide ((wrap64 (bt x0 x1)) < 224))) else (zaj.j1 k x0 x1 (wrap64 (bt x0 x1)) false))) else (none)) else (none))
def zaj.j3 : Nat → ByteArray → Int → Int → Int → Option (Int × Int × Bool)
 | 0, _, _, _, _ => none
 | k + 1, x0, x1, x8, x9 => if (wrap64 (x1 + x8)) > (x0.size : Int) then (some (0, 0, false)) else (zaj.l0 k x0 x1 x8 x9 1)
def zaj.l0 : Nat → ByteArray → Int → Int → Int → Int → Option (Int × Int × Bool)
 | 0, _, _, _, _, _ => none
 | k + 1, x0, x1, x8, x9, x10 => if x10 < x8 then (if 0 ≤ (wrap64 (x1 + x10)) then (if (wrap64 (x1 + x10)) < (x0.size : Int) then (if (wrap64 (bt x0 (wrap64 (x1 + x10)))) < 128 then (some (0, 0, false)) else (if (wrap64 (bt x0 (wrap64 (x1 + x10)))) ≥ 192 then (some (0, 0, false)) else (zaj.l0 k x0 x1 x8 (wrap64 ((wrap64 ((wrap64 (x9 * 64)) + (wrap64 (bt x0 (wrap64 (x1 + x10)))))) - 128)) (wrap64 (x10 + 1))))) else (none)) else (none)) else ((some (([0, 0, 128, 2048, 65536] : List Int) : List Int)).bind fun y224 => (if 0 ≤ x8 then (if x8 < (y224.length : Int) then (if x9 < (rd y224 x8) then (some (0, 0, false)) else (if x9 > 1114111 then (some (0, 0, false)) else (if x9 ≥ 55296 then (if x9 < 57344 then (some (0, 0, false)) else (some (wrap32 (x9), x8, true))) else (some (wrap32 (x9), x8, true))))) else (none)) else (none)))
def zaj.j1 : Nat → ByteArray → Int → Int → Bool → Option (Int × Int × Bool)
 | 0, _, _, _, _ => none
 | k + 1, x0, x1, x7, x31 => if x31 = true then (zaj.j3 k x0 x1 2 (wrap64 (x7 - 192))) else (if x7 ≥ 224 then (zaj.j2 k x0 x1 x7 (decide (x7 < 240))) else (zaj.j2 k x0 x1 x7 false))
def zaj.j2 : Nat → ByteArray → Int → Int → Bool → Option (Int × Int × Bool)
 | 0, _, _, _, _ => none
 | k + 1, x0, x1, x7, x40 => if x40 = true then (zaj.j3 k x0 x1 3 (wrap64 (x7 - 224))) else (if x7 ≥ 240 then (if x7 < 248 then (zaj.j3 k x0 x1 4 (wrap64 (x7 - 240))) else (some (0, 0, false))) else (some (0, 0, false)))
end
def zaj.f (k : Nat) (a0 : ByteArray) (a1 : Int) : Option (Int × Int × Bool) := if a1 < 0 then (zaj.j0 k a0 a1 true) else (zaj.j0 k a0 a1 (decide (a1 ≥ (a0.size : Int))))
theorem zaj.zbr : ∀ k, (∀ y0 y1 y2, LeO (zaj.j0 k y0 y1 y2) (zaj.j0 (k + 1) y0 y1 y2)) ∧ (∀ y0 y1 y2 y3, LeO (zaj.j3 k y0 y1 y2 y3) (zaj.j3 (k + 1) y0 y1 y2 y3)) ∧ (∀ y0 y1 y2 y3 y4, LeO (zaj.l0 k y0 y1 y2 y3 y4) (zaj.l0 (k + 1) y0 y1 y2 y3 y4)) ∧ (∀ y0 y1 y2 y3, LeO (zaj.j1 k y0 y1 y2 y3) (zaj.j1 (k + 1) y0 y1 y2 y3)) ∧ (∀ y0 y1 y2 y3, LeO (zaj.j2 k y0 y1 y2 y3) (zaj.j2 (k + 1) y0 y1 y2 y3))
 | 0 => ⟨fun _ _ _ r h => by simp [zaj.j0] at h, fun _ _ _ _ r h => by simp [zaj.j3] at h, fun _ _ _ _ _ r h => by simp [zaj.l0] at h, fun _ _ _ _ r h => by simp [zaj.j1] at h, fun _ _ _ _ r h => by simp [zaj.j2] at h⟩
 | k + 1 => by
  obtain ⟨ih0, ih1, ih2, ih3, ih4⟩ := zaj.zbr k; refine ⟨?_, ?_, ?_, ?_, ?_⟩
  ·intro y0 y1 y2
   unfold zaj.j0
   repeat' first
   | (with_reducible exact ih0 _ _ _)
   | (with_reducible exact ih1 _ _ _ _)
   | (with_reducible exact ih2 _ _ _ _ _)
   | (with_reducible exact ih3 _ _ _ _)
   | (with_reducible exact ih4 _ _ _ _)
   | (with_reducible exact LeO.refl _)
   | (with_reducible exact LeO.none _)
   | (with_reducible refine LeO.ite ?_ ?_)
   | (with_reducible refine LeO.bind ?_ (fun _ => ?_))
  ·intro y0 y1 y2 y3
   unfold zaj.j3
   repeat' first
   | (with_reducible exact ih0 _ _ _)
   | (with_reducible exact ih1 _ _ _ _)
   | (with_reducible exact ih2 _ _ _ _ _)
   | (with_reducible exact ih3 _ _ _ _)
   | (with_reducible exact ih4 _ _ _ _)
   | (with_reducible exact LeO.refl _)
   | (with_reducible exact LeO.none _)
   | (with_reducible refine LeO.ite ?_ ?_)
   | (with_reducible refine LeO.bind ?_ (fun _ => ?_))
  ·intro y0 y1 y2 y3 y4
   unfold zaj.l0
   repeat' first
   | (with_reducible exact ih0 _ _ _)
   | (with_reducible exact ih1 _ _ _ _)
   | (with_reducible exact ih2 _ _ _ _ _)
   | (with_reducible exact ih3 _ _ _ _)
   | (with_reducible exact ih4 _ _ _ _)
   | (with_reducible exact LeO.refl _)
   | (with_reducible exact LeO.none _)
   | (with_reducible refine LeO.ite ?_ ?_)
   | (with_reducible refine LeO.bind ?_ (fun _ => ?_))
  ·intro y0 y1 y2 y3
   unfold zaj.j1
   repeat' first
   | (with_reducible exact ih0 _ _ _)
   | (with_reducible exact ih1 _ _ _ _)
   | (with_reducible exact ih2 _ _ _ _ _)
   | (with_reducible exact ih3 _ _ _ _)
   | (with_reducible exact ih4 _ _ _ _)
   | (with_reducible exact LeO.refl _)
   | (with_reducible exact LeO.none _)
   | (with_reducible refine LeO.ite ?_ ?_)
   | (with_reducible refine LeO.bind ?_ (fun _ => ?_))
  ·intro y0 y1 y2 y3
   unfold zaj.j2
   repeat' first
   | (with_reducible exact ih0 _ _ _)
   | (with_reducible exact ih1 _ _ _ _)
   | (with_reducible exact ih2 _ _ _ _ _)
   | (with_reducible exact ih3 _ _ _ _)
   | (with_reducible exact ih4 _ _ _ _)
   | (with_reducible exact LeO.refl _)
   | (with_reducible exact LeO.none _)
   | (with_reducible refine LeO.ite ?_ ?_)
   | (with_reducible refine LeO.bind ?_ (fun _ => ?_))
theorem zaj.mono : ∀ a0 a1 k, LeO (zaj.f k a0 a1) (zaj.f (k + 1) a0 a1) := by
 intro a0 a1 k
 obtain ⟨ih0, ih1, ih2, ih3, ih4⟩ := zaj.zbr k; unfold zaj.f
 repeat' first
   | (with_reducible exact ih0 _ _ _)
   | (with_reducible exact ih1 _ _ _ _)
   | (with_reducible exact ih2 _ _ _ _ _)
   | (with_reducible exact ih3 _ _ _ _)
   | (with_reducible exact ih4 _ _ _ _)
   | (with_reducible exact LeO.refl _)
   | (with_reducible exact LeO.none _)
   | (with_reducible refine LeO.ite ?_ ?_)
   | (with_reducible refine LeO.bind ?_ (fun _ => ?_))
set_option maxHeartbeats 8000000 in
set_option maxRecDepth 100000 in
theorem zaj.calls (k : Nat) (a0 : ByteArray) (a1 : Int) (r1 : Int) (r2 : Int) (r3 : Bool) (w : World) (h : zaj.f k a0 a1 = some (r1, r2, r3)) :
  Calls Try.prog 32 #[.string a0, .int .i64 a1] w fun e w' => e = .returned (.tuple #[.int .i32 r1, .int .i64 r2, .bool r3]) ∧ Below w.heap.size w w' := by
 have HB := zaa.mk (Below.refl w.heap.size w); have H : (if a1 < 0 then (zaj.j0 k a0 a1 true) else (zaj.j0 k a0 a1 (decide (a1 ≥ (a0.size : Int))))) = some (r1, r2, r3) := h
 clear h; have HC3 := zaa.mk H; clear H; go_enter Try.func32, Try.ntmps32
 go_upto_region 1 with (fail)
 go_cut [20] (fun v20 wc => ∃ (kq : Nat) (x20_2 : Bool), v20 = .bool x20_2 ∧ zaa (zaj.j0 kq a0 a1 x20_2 = some (r1, r2, r3)) ∧ zaa (kq ≤ k) ∧ zaa (Below w.heap.size w wc))
 case first =>
  have H := HC3.out; clear HC3; by_cases c4 : a1 < 0
  ·rw [if_pos c4] at H
   have c4b0 : decide (a1 < 0) = true := decide_eq_true c4; clear c4
   (first | rw [c4b0] | (simp only [i64_w, i32_w]; rw [c4b0]) | skip)
   have H' := zaa.mk H; clear H; go_wp2
   go_meet
   case rel => exact ⟨_, (true), (by first | rfl | (simp; done) | (simp [*]; done)), H', ⟨by first | omega | exact Nat.le_refl _⟩, ⟨by repeat (first | exact HB.out | apply zad | apply zac | apply zae)⟩⟩
  ·rw [if_neg c4] at H
   have c4b0 : decide (a1 < 0) = false := decide_eq_false c4; clear c4
   (first | rw [c4b0] | (simp only [i64_w, i32_w]; rw [c4b0]) | skip)
   have H' := zaa.mk H; clear H; go_wp2
   go_meet
   case rel => exact ⟨_, (decide (a1 ≥ (a0.size : Int))), (by first | rfl | (simp; done) | (simp [*]; done)), H', ⟨by first | omega | exact Nat.le_refl _⟩, ⟨by repeat (first | exact HB.out | apply zad | apply zac | apply zae)⟩⟩
 case rest =>
  clear HC3; try clear p2
  try clear c3
  try clear c4
  try clear c4b0
  obtain ⟨kq, x20_2, rfl, HA, HJ2, HB⟩ := hcut; cases kq with
  | zero => exact absurd HA.out (by simp [zaj.j0])
  | succ kj2 =>
   have H := HA.out; clear HA; simp only [zaj.j0] at H; by_cases c5 : x20_2 = true
   ·subst c5
    have H1 : (some (0, 0, false)) = some (r1, r2, r3) := by rw [if_pos rfl] at H; exact H
    clear H; have H := H1; clear H1; simp only [Option.some.injEq, Prod.mk.injEq] at H; obtain ⟨rfl, rfl, rfl⟩ := H; go_wp2
    go_ret3
    exact ⟨by first | rfl | (simp [*, zaF, zaE] <;> rfl), by repeat (first | exact HB.out | apply zad | apply zac | apply zae)⟩
   ·replace c5 := Bool.eq_false_iff.mpr c5
    subst c5; have H1 : (if 0 ≤ a1 then (if a1 < (a0.size : Int) then (if (wrap64 (bt a0 a1)) < 128 then (some (wrap32 (wrap64 (bt a0 a1)), 1, true)) else (if (wrap64 (bt a0 a1)) ≥ 192 then (zaj.j1 kj2 a0 a1 (wrap64 (bt a0 a1)) (decide ((wrap64 (bt a0 a1)) < 224))) else (zaj.j1 kj2 a0 a1 (wrap64 (bt a0 a1)) false))) else (none)) else (none)) = some (r1, r2, r3) := by rw [if_neg (show ¬ (false = true) by decide)] at H; exact H
    clear H; have H := H1; clear H1; by_cases c6 : 0 ≤ a1
    ·rw [if_pos c6] at H
     have c6b0 : decide (0 ≤ a1) = true := decide_eq_true c6; clear c6; by_cases c7 : a1 < (a0.size : Int)
     ·rw [if_pos c7] at H
      have c7b0 : decide (a1 < (a0.size : Int)) = true := decide_eq_true c7; clear c7; have HC9 := zaa.mk H; clear H; have p8 : 0 ≤ (a1 : Int) := of_decide_eq_true (by assumption)
      have q8 : a1 < (a0.size : Int) := of_decide_eq_true (by assumption)
      have hx8 := bt_at a0 a1; replace p8 := eq_true p8; replace q8 := eq_true q8
      go_upto_block 0 with (fail)
      go_cut [8, 9] (fun v8 v9 wc => ∃ (kq : Nat) (x8_8 : Int) (x9_8 : Int), v8 = .int .i64 x8_8 ∧ v9 = .int .i64 x9_8 ∧ zaa (zaj.j3 kq a0 a1 x8_8 x9_8 = some (r1, r2, r3)) ∧ zaa (kq ≤ kj2) ∧ zaa (Below w.heap.size w wc))
      case first =>
       have H := HC9.out; clear HC9; by_cases c10 : (wrap64 (bt a0 a1)) < 128
       ·rw [if_pos c10] at H
        have c10b0 : decide ((wrap64 (bt a0 a1)) < 128) = true := decide_eq_true c10; clear c10
        (first | rw [c10b0] | (simp only [i64_w, i32_w]; rw [c10b0]) | skip)
        simp only [Option.some.injEq, Prod.mk.injEq] at H; obtain ⟨rfl, rfl, rfl⟩ := H; go_wp2
        go_ret3
        exact ⟨by first | rfl | (simp [*, zaF, zaE] <;> rfl), by repeat (first | exact HB.out | apply zad | apply zac | apply zae)⟩
       ·rw [if_neg c10] at H
        have c10b0 : decide ((wrap64 (bt a0 a1)) < 128) = false := decide_eq_false c10; clear c10
        (first | rw [c10b0] | (simp only [i64_w, i32_w]; rw [c10b0]) | skip)
        have HC11 := zaa.mk H; clear H; go_upto_region 8 with (fail)
        go_cut [31] (fun v31 wc => ∃ (kq : Nat) (x31_10 : Bool), v31 = .bool x31_10 ∧ zaa (zaj.j1 kq a0 a1 (wrap64 (bt a0 a1)) x31_10 = some (r1, r2, r3)) ∧ zaa (kq ≤ kj2) ∧ zaa (Below w.heap.size w wc))
        case first =>
         have H := HC11.out; clear HC11; by_cases c12 : (wrap64 (bt a0 a1)) ≥ 192
         ·rw [if_pos c12] at H
          have c12b0 : decide (192 ≤ (wrap64 (bt a0 a1))) = true := decide_eq_true c12; clear c12
          (first | rw [c12b0] | (simp only [i64_w, i32_w]; rw [c12b0]) | skip)
          have H' := zaa.mk H; clear H; go_wp2
          go_meet
          case rel => exact ⟨_, (decide ((wrap64 (bt a0 a1)) < 224)), (by first | rfl | (simp; done) | (simp [*]; done)), H', ⟨by have := HJ2.out; first | omega | exact Nat.le_refl _⟩, ⟨by repeat (first | exact HB.out | apply zad | apply zac | apply zae)⟩⟩
         ·rw [if_neg c12] at H
          have c12b0 : decide (192 ≤ (wrap64 (bt a0 a1))) = false := decide_eq_false c12; clear c12
          (first | rw [c12b0] | (simp only [i64_w, i32_w]; rw [c12b0]) | skip)
          have H' := zaa.mk H; clear H; go_wp2
          go_meet
          case rel => exact ⟨_, (false), (by first | rfl | (simp; done) | (simp [*]; done)), H', ⟨by have := HJ2.out; first | omega | exact Nat.le_refl _⟩, ⟨by repeat (first | exact HB.out | apply zad | apply zac | apply zae)⟩⟩
        case rest =>
         clear HC11; try clear c1
         try clear p2
         try clear c3
         try clear p3
         try clear c4
         try clear c4b0
         try clear c5
         try clear c6
         try clear c6b0
         try clear p6
         try clear c7
         try clear c7b0
         try clear p8
         try clear q8
         try clear hx8
         try clear c10
         try clear c10b0
         try clear c12
         try clear c12b0
         try clear p2
         try clear p8
         try clear q8
         obtain ⟨kq, x31_10, rfl, HA, HJ10, HB⟩ := hcut; cases kq with
         | zero => exact absurd HA.out (by simp [zaj.j1])
         | succ kj10 =>
          have H := HA.out; clear HA; simp only [zaj.j1] at H; by_cases c13 : x31_10 = true
          ·subst c13
           have H1 : (zaj.j3 kj10 a0 a1 2 (wrap64 ((wrap64 (bt a0 a1)) - 192))) = some (r1, r2, r3) := by rw [if_pos rfl] at H; exact H
           clear H; have H := H1; clear H1; have H' := zaa.mk H; clear H; go_wp2
           go_meet
           case rel => exact ⟨_, (2), (wrap64 ((wrap64 (bt a0 a1)) - 192)), (by first | rfl | (simp; done) | (simp [*]; done)), (by first | rfl | (simp; done) | (simp [*]; done)), H', ⟨by have := HJ2.out; have := HJ10.out; first | omega | exact Nat.le_refl _⟩, ⟨by repeat (first | exact HB.out | apply zad | apply zac | apply zae)⟩⟩
          ·replace c13 := Bool.eq_false_iff.mpr c13
           subst c13; have H1 : (if (wrap64 (bt a0 a1)) ≥ 224 then (zaj.j2 kj10 a0 a1 (wrap64 (bt a0 a1)) (decide ((wrap64 (bt a0 a1)) < 240))) else (zaj.j2 kj10 a0 a1 (wrap64 (bt a0 a1)) false)) = some (r1, r2, r3) := by rw [if_neg (show ¬ (false = true) by decide)] at H; exact H
           clear H; have H := H1; clear H1; have HC14 := zaa.mk H; clear H; go_upto_region 10 with (fail)
           go_cut [40] (fun v40 wc => ∃ (kq : Nat) (x40_13 : Bool), v40 = .bool x40_13 ∧ zaa (zaj.j2 kq a0 a1 (wrap64 (bt a0 a1)) x40_13 = some (r1, r2, r3)) ∧ zaa (kq ≤ kj10) ∧ zaa (Below w.heap.size w wc))
           case first =>
            have H := HC14.out; clear HC14; by_cases c15 : (wrap64 (bt a0 a1)) ≥ 224
            ·rw [if_pos c15] at H
             have c15b0 : decide (224 ≤ (wrap64 (bt a0 a1))) = true := decide_eq_true c15; clear c15
             (first | rw [c15b0] | (simp only [i64_w, i32_w]; rw [c15b0]) | skip)
             have H' := zaa.mk H; clear H; go_wp2
             go_meet
             case rel => exact ⟨_, (decide ((wrap64 (bt a0 a1)) < 240)), (by first | rfl | (simp; done) | (simp [*]; done)), H', ⟨by have := HJ2.out; have := HJ10.out; first | omega | exact Nat.le_refl _⟩, ⟨by repeat (first | exact HB.out | apply zad | apply zac | apply zae)⟩⟩
            ·rw [if_neg c15] at H
             have c15b0 : decide (224 ≤ (wrap64 (bt a0 a1))) = false := decide_eq_false c15; clear c15
             (first | rw [c15b0] | (simp only [i64_w, i32_w]; rw [c15b0]) | skip)
             have H' := zaa.mk H; clear H; go_wp2
             go_meet
             case rel => exact ⟨_, (false), (by first | rfl | (simp; done) | (simp [*]; done)), H', ⟨by have := HJ2.out; have := HJ10.out; first | omega | exact Nat.le_refl _⟩, ⟨by repeat (first | exact HB.out | apply zad | apply zac | apply zae)⟩⟩
           case rest =>
            clear HC14; try clear c1
            try clear p2
            try clear c3
            try clear p3
            try clear c4
            try clear c4b0
            try clear c5
            try clear c6
            try clear c6b0
            try clear p6
            try clear c7
            try clear c7b0
            try clear p8
            try clear q8
            try clear hx8
            try clear c10
            try clear c10b0
            try clear c12
            try clear c12b0
            try clear c13
            try clear c15
            try clear c15b0
            try clear p2
            try clear p3
            try clear p6
            try clear p8
            try clear q8
            obtain ⟨kq, x40_13, rfl, HA, HJ13, HB⟩ := hcut; cases kq with
            | zero => exact absurd HA.out (by simp [zaj.j2])
            | succ kj13 =>
             have H := HA.out; clear HA; simp only [zaj.j2] at H; by_cases c16 : x40_13 = true
             ·subst c16
              have H1 : (zaj.j3 kj13 a0 a1 3 (wrap64 ((wrap64 (bt a0 a1)) - 224))) = some (r1, r2, r3) := by rw [if_pos rfl] at H; exact H
              clear H; have H := H1; clear H1; have H' := zaa.mk H; clear H; go_wp2
              go_meet
              case rel => exact ⟨_, (3), (wrap64 ((wrap64 (bt a0 a1)) - 224)), (by first | rfl | (simp; done) | (simp [*]; done)), (by first | rfl | (simp; done) | (simp [*]; done)), H', ⟨by have := HJ2.out; have := HJ10.out; have := HJ13.out; first | omega | exact Nat.le_refl _⟩, ⟨by repeat (first | exact HB.out | apply zad | apply zac | apply zae)⟩⟩
             ·replace c16 := Bool.eq_false_iff.mpr c16
              subst c16; have H1 : (if (wrap64 (bt a0 a1)) ≥ 240 then (if (wrap64 (bt a0 a1)) < 248 then (zaj.j3 kj13 a0 a1 4 (wrap64 ((wrap64 (bt a0 a1)) - 240))) else (some (0, 0, false))) else (some (0, 0, false))) = some (r1, r2, r3) := by rw [if_neg (show ¬ (false = true) by decide)] at H; exact H
              clear H; have H := H1; clear H1; by_cases c17 : (wrap64 (bt a0 a1)) ≥ 240
              ·rw [if_pos c17] at H
               have c17b0 : decide (240 ≤ (wrap64 (bt a0 a1))) = true := decide_eq_true c17; clear c17; by_cases c18 : (wrap64 (bt a0 a1)) < 248
               ·rw [if_pos c18] at H
                have c18b0 : decide ((wrap64 (bt a0 a1)) < 248) = true := decide_eq_true c18; clear c18; have H' := zaa.mk H; clear H; go_wp2
                go_meet
                case rel => exact ⟨_, (4), (wrap64 ((wrap64 (bt a0 a1)) - 240)), (by first | rfl | (simp; done) | (simp [*]; done)), (by first | rfl | (simp; done) | (simp [*]; done)), H', ⟨by have := HJ2.out; have := HJ10.out; have := HJ13.out; first | omega | exact Nat.le_refl _⟩, ⟨by repeat (first | exact HB.out | apply zad | apply zac | apply zae)⟩⟩
               ·rw [if_neg c18] at H
                have c18b0 : decide ((wrap64 (bt a0 a1)) < 248) = false := decide_eq_false c18; clear c18; simp only [Option.some.injEq, Prod.mk.injEq] at H; obtain ⟨rfl, rfl, rfl⟩ := H; go_wp2
                go_ret3
                exact ⟨by first | rfl | (simp [*, zaF, zaE] <;> rfl), by repeat (first | exact HB.out | apply zad | apply zac | apply zae)⟩
              ·rw [if_neg c17] at H
               have c17b0 : decide (240 ≤ (wrap64 (bt a0 a1))) = false := decide_eq_false c17; clear c17; simp only [Option.some.injEq, Prod.mk.injEq] at H; obtain ⟨rfl, rfl, rfl⟩ := H; go_wp2
               go_ret3
               exact ⟨by first | rfl | (simp [*, zaF, zaE] <;> rfl), by repeat (first | exact HB.out | apply zad | apply zac | apply zae)⟩
      case rest =>
       clear HC9; try clear c1
       try clear p2
       try clear c3
       try clear p3
       try clear c4
       try clear c4b0
       try clear c5
       try clear c6
       try clear c6b0
       try clear p6
       try clear c7
       try clear c7b0
       try clear p8
       try clear q8
       try clear hx8
       try clear c10
       try clear c10b0
       try clear c12
       try clear c12b0
       try clear c13
       try clear c15
       try clear c15b0
       try clear c16
       try clear c17
       try clear c17b0
       try clear c18
       try clear c18b0
       try clear p2
       try clear p3
       try clear p6
       try clear p8
       try clear q8
       obtain ⟨kq, x8_8, x9_8, rfl, rfl, HA, HJ8, HB⟩ := hcut; cases kq with
       | zero => exact absurd HA.out (by simp [zaj.j3])
       | succ kj8 =>
        have H := HA.out; clear HA; simp only [zaj.j3] at H; by_cases c19 : (wrap64 (a1 + x8_8)) > (a0.size : Int)
        ·rw [if_pos c19] at H
         have c19b0 : decide ((a0.size : Int) < (wrap64 (a1 + x8_8))) = true := decide_eq_true c19; clear c19; simp only [Option.some.injEq, Prod.mk.injEq] at H; obtain ⟨rfl, rfl, rfl⟩ := H; go_wp2
         go_ret3
         exact ⟨by first | rfl | (simp [*, zaF, zaE] <;> rfl), by repeat (first | exact HB.out | apply zad | apply zac | apply zae)⟩
        ·rw [if_neg c19] at H
         have c19b0 : decide ((a0.size : Int) < (wrap64 (a1 + x8_8))) = false := decide_eq_false c19; clear c19; have H' := zaa.mk H; clear H; go_wp2
         go_loopg [9, 10] kj8 (fun kq v9 v10 w' => ∃ (x9_3 : Int) (x10_3 : Int), v9 = .int .i64 x9_3 ∧ v10 = .int .i64 x10_3 ∧ zaa (zaj.l0 kq a0 a1 x8_8 x9_3 x10_3 = some (r1, r2, r3)) ∧ zaa (kq ≤ kj8) ∧ zaa (Below w.heap.size w w'))
         case atStart => exact ⟨(x9_8), (1), (by first | rfl | (simp; done) | (simp [*]; done)), (by first | rfl | (simp; done) | (simp [*]; done)), H', ⟨Nat.le_refl _⟩, ⟨by repeat (first | exact HB.out | apply zad | apply zac | apply zae)⟩⟩
         case round =>
          clear H'; try clear c1
          try clear p2
          try clear c3
          try clear p3
          try clear c4
          try clear c4b0
          try clear c5
          try clear c6
          try clear c6b0
          try clear p6
          try clear c7
          try clear c7b0
          try clear p8
          try clear q8
          try clear hx8
          try clear c10
          try clear c10b0
          try clear c12
          try clear c12b0
          try clear c13
          try clear c15
          try clear c15b0
          try clear c16
          try clear c17
          try clear c17b0
          try clear c18
          try clear c18b0
          try clear c19
          try clear c19b0
          try clear p2
          try clear p3
          try clear p6
          try clear p8
          try clear q8
          obtain ⟨x9_3, x10_3, rfl, rfl, HA, HK3, HB⟩ := hrel; cases gk with
          | zero => exact absurd HA.out (by simp [zaj.l0])
          | succ k3 =>
           have H := HA.out; clear HA; simp only [zaj.l0] at H; by_cases c20 : x10_3 < x8_8
           ·rw [if_pos c20] at H
            have c20b0 : decide (x10_3 < x8_8) = true := decide_eq_true c20; clear c20; obtain ⟨ji21, hji21⟩ : ∃ j_ : Int, (wrap64 (a1 + x10_3)) = j_ := ⟨_, rfl⟩; replace H : (if 0 ≤ (ji21) then (if (ji21) < (a0.size : Int) then (if (wrap64 (bt a0 (ji21))) < 128 then (some (0, 0, false)) else (if (wrap64 (bt a0 (ji21))) ≥ 192 then (some (0, 0, false)) else (zaj.l0 k3 a0 a1 x8_8 (wrap64 ((wrap64 ((wrap64 (x9_3 * 64)) + (wrap64 (bt a0 (ji21))))) - 128)) (wrap64 (x10_3 + 1))))) else (none)) else (none)) = some (r1, r2, r3) := by first | (rw [hji21] at H; exact H) | (simp only [hji21] at H ⊢; exact H)
            have hji21w : (IntKind.i64.wrap (a1 + x10_3)) = ji21 := (i64_w _).trans hji21; by_cases c22 : 0 ≤ (ji21)
            ·rw [if_pos c22] at H
             have c22b0 : decide (0 ≤ (ji21)) = true := decide_eq_true c22; clear c22; by_cases c23 : (ji21) < (a0.size : Int)
             ·rw [if_pos c23] at H
              have c23b0 : decide ((ji21) < (a0.size : Int)) = true := decide_eq_true c23; clear c23; by_cases c25 : (wrap64 (bt a0 (ji21))) < 128
              ·rw [if_pos c25] at H
               have c25b0 : decide ((wrap64 (bt a0 (ji21))) < 128) = true := decide_eq_true c25; clear c25; simp only [Option.some.injEq, Prod.mk.injEq] at H; obtain ⟨rfl, rfl, rfl⟩ := H; have p24 : 0 ≤ ((ji21) : Int) := of_decide_eq_true (by assumption)
               have q24 : (ji21) < (a0.size : Int) := of_decide_eq_true (by assumption)
               have hx24 := bt_at a0 (ji21); replace p24 := eq_true p24; replace q24 := eq_true q24; go_wp2
               go_ret3
               exact ⟨by first | rfl | (simp [zaF, zaE] <;> rfl) | (simp only [← hji21]; first | rfl | (simp [zaF, zaE] <;> rfl)) | (simp [*, zaF, zaE] <;> rfl), by repeat (first | exact HB.out | apply zad | apply zac | apply zae)⟩
              ·rw [if_neg c25] at H
               have c25b0 : decide ((wrap64 (bt a0 (ji21))) < 128) = false := decide_eq_false c25; clear c25; by_cases c26 : (wrap64 (bt a0 (ji21))) ≥ 192
               ·rw [if_pos c26] at H
                have c26b0 : decide (192 ≤ (wrap64 (bt a0 (ji21)))) = true := decide_eq_true c26; clear c26; simp only [Option.some.injEq, Prod.mk.injEq] at H; obtain ⟨rfl, rfl, rfl⟩ := H; have p24 : 0 ≤ ((ji21) : Int) := of_decide_eq_true (by assumption)
                have q24 : (ji21) < (a0.size : Int) := of_decide_eq_true (by assumption)
                have hx24 := bt_at a0 (ji21); replace p24 := eq_true p24; replace q24 := eq_true q24; go_wp2
                go_ret3
                exact ⟨by first | rfl | (simp [zaF, zaE] <;> rfl) | (simp only [← hji21]; first | rfl | (simp [zaF, zaE] <;> rfl)) | (simp [*, zaF, zaE] <;> rfl), by repeat (first | exact HB.out | apply zad | apply zac | apply zae)⟩
               ·rw [if_neg c26] at H
                have c26b0 : decide (192 ≤ (wrap64 (bt a0 (ji21)))) = false := decide_eq_false c26; clear c26; have H' := zaa.mk H; clear H; have p24 : 0 ≤ ((ji21) : Int) := of_decide_eq_true (by assumption)
                have q24 : (ji21) < (a0.size : Int) := of_decide_eq_true (by assumption)
                have hx24 := bt_at a0 (ji21); replace p24 := eq_true p24; replace q24 := eq_true q24; go_wp2
                go_roundg k3
                case measure => have := HJ2.out; have := HJ8.out; have := HK3.out; omega
                case rel => exact ⟨(wrap64 ((wrap64 ((wrap64 (x9_3 * 64)) + (wrap64 (bt a0 (ji21))))) - 128)), (wrap64 (x10_3 + 1)), (by first | rfl | (simp; done) | (simp only [← hji21] <;> (first | rfl | simp)) | (simp [*]; done)), (by first | rfl | (simp; done) | (simp [*]; done)), H', ⟨by have := HJ2.out; have := HJ8.out; have := HK3.out; omega⟩, ⟨by repeat (first | exact HB.out | apply zad | apply zac | apply zae)⟩⟩
             ·rw [if_neg c23] at H
              exact absurd H (by simp)
            ·rw [if_neg c22] at H
             exact absurd H (by simp)
           ·rw [if_neg c20] at H
            have c20b0 : decide (x10_3 < x8_8) = false := decide_eq_false c20; clear c20; obtain ⟨y224, hy224⟩ : ∃ y_ : List Int, y_ = (([0, 0, 128, 2048, 65536] : List Int)) := ⟨_, rfl⟩; replace H : (if 0 ≤ x8_8 then (if x8_8 < (y224.length : Int) then (if x9_3 < (rd y224 x8_8) then (some (0, 0, false)) else (if x9_3 > 1114111 then (some (0, 0, false)) else (if x9_3 ≥ 55296 then (if x9_3 < 57344 then (some (0, 0, false)) else (some (wrap32 (x9_3), x8_8, true))) else (some (wrap32 (x9_3), x8_8, true))))) else (none)) else (none)) = some (r1, r2, r3) := by first | (rw [hy224]; with_reducible exact H) | (have H2_ := (Option.bind_some _ _).symm.trans H; rw [hy224]; with_reducible exact H2_) | (have H2_ := (Option.bind_some _ _).symm.trans H; with_reducible exact H2_) | with_reducible exact H | (rw [hy224]; exact H) | exact H
            have Ny224 := zaa.mk hy224; clear hy224; by_cases c27 : 0 ≤ x8_8
            ·rw [if_pos c27] at H
             have c27b0 : decide (0 ≤ x8_8) = true := decide_eq_true c27; clear c27; by_cases c28 : x8_8 < (y224.length : Int)
             ·rw [if_pos c28] at H
              have c28b0 : decide (x8_8 < (y224.length : Int)) = true := decide_eq_true c28; clear c28; by_cases c29 : x9_3 < (rd y224 x8_8)
              ·rw [if_pos c29] at H
               have c29b0 : decide (x9_3 < (rd y224 x8_8)) = true := decide_eq_true c29; clear c29; simp only [Option.some.injEq, Prod.mk.injEq] at H; obtain ⟨rfl, rfl, rfl⟩ := H; go_wp2_with (first | ((with_reducible refine za7 (N := 86) rfl ?_); (try (refine zbW (by rfl) ?_; dsimp only)); refine Kd.R_lit (Kd.int .i64) _ 3 ?hg (N := 86) ?hd (xs := ([0, 0, 128, 2048, 65536] : List Int)) (inner := [.int .i64 0, .int .i64 0, .int .i64 128, .int .i64 2048, .int .i64 65536]) (ok := fun _ => True) (okp := fun _ => True) ?hr ?hp (fun _ hk => hk) trivial (Below.refl _ _) (Nat.le_refl _) (by simp) ?_; (case hd => rfl); (case hg => rfl); (case hr => first | (go_simp; done) | (go_simp; rfl)); (case hp => exact (Reps.one (show Kd.M (Kd.int .i64) _ _ _ 0 [.int .i64 0] from rfl) (Reps.one (show Kd.M (Kd.int .i64) _ _ _ 0 [.int .i64 0] from rfl) (Reps.one (show Kd.M (Kd.int .i64) _ _ _ 128 [.int .i64 128] from rfl) (Reps.one (show Kd.M (Kd.int .i64) _ _ _ 2048 [.int .i64 2048] from rfl) (Reps.one (show Kd.M (Kd.int .i64) _ _ _ 65536 [.int .i64 65536] from rfl) (Reps.none _ _))))))); intro v225 w30 ho31 hb hg_ hnew_; clear hg_ hnew_; (first | rw [← Ny224.out] at ho31 | (simp only [Int.reduceToNat] at ho31; rw [← Ny224.out] at ho31)); have n0_ := zaa.mk (Kd.zbG ho31 (zaB (by repeat (first | exact HB.out | apply zad | apply zac | apply zae)))); have n1_ := zaa.mk (zaG (by repeat (first | exact HB.out | apply zad | apply zac | apply zae)) hb); clear HB; have HO226 := n0_; have HB := n1_; clear n0_ n1_; clear hb ho31; obtain ⟨Ao32, co32, eo32⟩ := Kd.zbB HO226.out; subst eo32; have p227 : 0 ≤ (x8_8 : Int) := of_decide_eq_true (by assumption); have q227 : x8_8 < (y224.length : Int) := of_decide_eq_true (by assumption); obtain ⟨ad227, e227, hx227_0⟩ := Kd.at_int (Kd.zbt HO226.out).2.2 x8_8 p227 q227; cases e227; replace p227 := eq_true p227; replace q227 := eq_true q227))
               go_ret3
               exact ⟨by first | rfl | (simp [*, zaF, zaE] <;> rfl), by repeat (first | exact HB.out | apply zad | apply zac | apply zae)⟩
              ·rw [if_neg c29] at H
               have c29b0 : decide (x9_3 < (rd y224 x8_8)) = false := decide_eq_false c29; clear c29; by_cases c33 : x9_3 > 1114111
               ·rw [if_pos c33] at H
                have c33b0 : decide (1114111 < x9_3) = true := decide_eq_true c33; clear c33; simp only [Option.some.injEq, Prod.mk.injEq] at H; obtain ⟨rfl, rfl, rfl⟩ := H; go_wp2_with (first | ((with_reducible refine za7 (N := 86) rfl ?_); (try (refine zbW (by rfl) ?_; dsimp only)); refine Kd.R_lit (Kd.int .i64) _ 3 ?hg (N := 86) ?hd (xs := ([0, 0, 128, 2048, 65536] : List Int)) (inner := [.int .i64 0, .int .i64 0, .int .i64 128, .int .i64 2048, .int .i64 65536]) (ok := fun _ => True) (okp := fun _ => True) ?hr ?hp (fun _ hk => hk) trivial (Below.refl _ _) (Nat.le_refl _) (by simp) ?_; (case hd => rfl); (case hg => rfl); (case hr => first | (go_simp; done) | (go_simp; rfl)); (case hp => exact (Reps.one (show Kd.M (Kd.int .i64) _ _ _ 0 [.int .i64 0] from rfl) (Reps.one (show Kd.M (Kd.int .i64) _ _ _ 0 [.int .i64 0] from rfl) (Reps.one (show Kd.M (Kd.int .i64) _ _ _ 128 [.int .i64 128] from rfl) (Reps.one (show Kd.M (Kd.int .i64) _ _ _ 2048 [.int .i64 2048] from rfl) (Reps.one (show Kd.M (Kd.int .i64) _ _ _ 65536 [.int .i64 65536] from rfl) (Reps.none _ _))))))); intro v225 w34 ho35 hb hg_ hnew_; clear hg_ hnew_; (first | rw [← Ny224.out] at ho35 | (simp only [Int.reduceToNat] at ho35; rw [← Ny224.out] at ho35)); have n0_ := zaa.mk (Kd.zbG ho35 (zaB (by repeat (first | exact HB.out | apply zad | apply zac | apply zae)))); have n1_ := zaa.mk (zaG (by repeat (first | exact HB.out | apply zad | apply zac | apply zae)) hb); clear HB; have HO226 := n0_; have HB := n1_; clear n0_ n1_; clear hb ho35; obtain ⟨Ao36, co36, eo36⟩ := Kd.zbB HO226.out; subst eo36; have p227 : 0 ≤ (x8_8 : Int) := of_decide_eq_true (by assumption); have q227 : x8_8 < (y224.length : Int) := of_decide_eq_true (by assumption); obtain ⟨ad227, e227, hx227_0⟩ := Kd.at_int (Kd.zbt HO226.out).2.2 x8_8 p227 q227; cases e227; replace p227 := eq_true p227; replace q227 := eq_true q227))
                go_ret3
                exact ⟨by first | rfl | (simp [*, zaF, zaE] <;> rfl), by repeat (first | exact HB.out | apply zad | apply zac | apply zae)⟩
               ·rw [if_neg c33] at H
                have c33b0 : decide (1114111 < x9_3) = false := decide_eq_false c33; clear c33; by_cases c37 : x9_3 ≥ 55296
                ·rw [if_pos c37] at H
                 have c37b0 : decide (55296 ≤ x9_3) = true := decide_eq_true c37; clear c37; by_cases c38 : x9_3 < 57344
                 ·rw [if_pos c38] at H
                  have c38b0 : decide (x9_3 < 57344) = true := decide_eq_true c38; clear c38; simp only [Option.some.injEq, Prod.mk.injEq] at H; obtain ⟨rfl, rfl, rfl⟩ := H; go_wp2_with (first | ((with_reducible refine za7 (N := 86) rfl ?_); (try (refine zbW (by rfl) ?_; dsimp only)); refine Kd.R_lit (Kd.int .i64) _ 3 ?hg (N := 86) ?hd (xs := ([0, 0, 128, 2048, 65536] : List Int)) (inner := [.int .i64 0, .int .i64 0, .int .i64 128, .int .i64 2048, .int .i64 65536]) (ok := fun _ => True) (okp := fun _ => True) ?hr ?hp (fun _ hk => hk) trivial (Below.refl _ _) (Nat.le_refl _) (by simp) ?_; (case hd => rfl); (case hg => rfl); (case hr => first | (go_simp; done) | (go_simp; rfl)); (case hp => exact (Reps.one (show Kd.M (Kd.int .i64) _ _ _ 0 [.int .i64 0] from rfl) (Reps.one (show Kd.M (Kd.int .i64) _ _ _ 0 [.int .i64 0] from rfl) (Reps.one (show Kd.M (Kd.int .i64) _ _ _ 128 [.int .i64 128] from rfl) (Reps.one (show Kd.M (Kd.int .i64) _ _ _ 2048 [.int .i64 2048] from rfl) (Reps.one (show Kd.M (Kd.int .i64) _ _ _ 65536 [.int .i64 65536] from rfl) (Reps.none _ _))))))); intro v225 w39 ho40 hb hg_ hnew_; clear hg_ hnew_; (first | rw [← Ny224.out] at ho40 | (simp only [Int.reduceToNat] at ho40; rw [← Ny224.out] at ho40)); have n0_ := zaa.mk (Kd.zbG ho40 (zaB (by repeat (first | exact HB.out | apply zad | apply zac | apply zae)))); have n1_ := zaa.mk (zaG (by repeat (first | exact HB.out | apply zad | apply zac | apply zae)) hb); clear HB; have HO226 := n0_; have HB := n1_; clear n0_ n1_; clear hb ho40; obtain ⟨Ao41, co41, eo41⟩ := Kd.zbB HO226.out; subst eo41; have p227 : 0 ≤ (x8_8 : Int) := of_decide_eq_true (by assumption); have q227 : x8_8 < (y224.length : Int) := of_decide_eq_true (by assumption); obtain ⟨ad227, e227, hx227_0⟩ := Kd.at_int (Kd.zbt HO226.out).2.2 x8_8 p227 q227; cases e227; replace p227 := eq_true p227; replace q227 := eq_true q227))
                  go_ret3
                  exact ⟨by first | rfl | (simp [*, zaF, zaE] <;> rfl), by repeat (first | exact HB.out | apply zad | apply zac | apply zae)⟩
                 ·rw [if_neg c38] at H
                  have c38b0 : decide (x9_3 < 57344) = false := decide_eq_false c38; clear c38; simp only [Option.some.injEq, Prod.mk.injEq] at H; obtain ⟨rfl, rfl, rfl⟩ := H; go_wp2_with (first | ((with_reducible refine za7 (N := 86) rfl ?_); (try (refine zbW (by rfl) ?_; dsimp only)); refine Kd.R_lit (Kd.int .i64) _ 3 ?hg (N := 86) ?hd (xs := ([0, 0, 128, 2048, 65536] : List Int)) (inner := [.int .i64 0, .int .i64 0, .int .i64 128, .int .i64 2048, .int .i64 65536]) (ok := fun _ => True) (okp := fun _ => True) ?hr ?hp (fun _ hk => hk) trivial (Below.refl _ _) (Nat.le_refl _) (by simp) ?_; (case hd => rfl); (case hg => rfl); (case hr => first | (go_simp; done) | (go_simp; rfl)); (case hp => exact (Reps.one (show Kd.M (Kd.int .i64) _ _ _ 0 [.int .i64 0] from rfl) (Reps.one (show Kd.M (Kd.int .i64) _ _ _ 0 [.int .i64 0] from rfl) (Reps.one (show Kd.M (Kd.int .i64) _ _ _ 128 [.int .i64 128] from rfl) (Reps.one (show Kd.M (Kd.int .i64) _ _ _ 2048 [.int .i64 2048] from rfl) (Reps.one (show Kd.M (Kd.int .i64) _ _ _ 65536 [.int .i64 65536] from rfl) (Reps.none _ _))))))); intro v225 w42 ho43 hb hg_ hnew_; clear hg_ hnew_; (first | rw [← Ny224.out] at ho43 | (simp only [Int.reduceToNat] at ho43; rw [← Ny224.out] at ho43)); have n0_ := zaa.mk (Kd.zbG ho43 (zaB (by repeat (first | exact HB.out | apply zad | apply zac | apply zae)))); have n1_ := zaa.mk (zaG (by repeat (first | exact HB.out | apply zad | apply zac | apply zae)) hb); clear HB; have HO226 := n0_; have HB := n1_; clear n0_ n1_; clear hb ho43; obtain ⟨Ao44, co44, eo44⟩ := Kd.zbB HO226.out; subst eo44; have p227 : 0 ≤ (x8_8 : Int) := of_decide_eq_true (by assumption); have q227 : x8_8 < (y224.length : Int) := of_decide_eq_true (by assumption); obtain ⟨ad227, e227, hx227_0⟩ := Kd.at_int (Kd.zbt HO226.out).2.2 x8_8 p227 q227; cases e227; replace p227 := eq_true p227; replace q227 := eq_true q227))
                  go_ret3
                  exact ⟨by first | rfl | (simp [*, zaF, zaE] <;> rfl), by repeat (first | exact HB.out | apply zad | apply zac | apply zae)⟩
                ·rw [if_neg c37] at H
                 have c37b0 : decide (55296 ≤ x9_3) = false := decide_eq_false c37; clear c37; simp only [Option.some.injEq, Prod.mk.injEq] at H; obtain ⟨rfl, rfl, rfl⟩ := H; go_wp2_with (first | ((with_reducible refine za7 (N := 86) rfl ?_); (try (refine zbW (by rfl) ?_; dsimp only)); refine Kd.R_lit (Kd.int .i64) _ 3 ?hg (N := 86) ?hd (xs := ([0, 0, 128, 2048, 65536] : List Int)) (inner := [.int .i64 0, .int .i64 0, .int .i64 128, .int .i64 2048, .int .i64 65536]) (ok := fun _ => True) (okp := fun _ => True) ?hr ?hp (fun _ hk => hk) trivial (Below.refl _ _) (Nat.le_refl _) (by simp) ?_; (case hd => rfl); (case hg => rfl); (case hr => first | (go_simp; done) | (go_simp; rfl)); (case hp => exact (Reps.one (show Kd.M (Kd.int .i64) _ _ _ 0 [.int .i64 0] from rfl) (Reps.one (show Kd.M (Kd.int .i64) _ _ _ 0 [.int .i64 0] from rfl) (Reps.one (show Kd.M (Kd.int .i64) _ _ _ 128 [.int .i64 128] from rfl) (Reps.one (show Kd.M (Kd.int .i64) _ _ _ 2048 [.int .i64 2048] from rfl) (Reps.one (show Kd.M (Kd.int .i64) _ _ _ 65536 [.int .i64 65536] from rfl) (Reps.none _ _))))))); intro v225 w45 ho46 hb hg_ hnew_; clear hg_ hnew_; (first | rw [← Ny224.out] at ho46 | (simp only [Int.reduceToNat] at ho46; rw [← Ny224.out] at ho46)); have n0_ := zaa.mk (Kd.zbG ho46 (zaB (by repeat (first | exact HB.out | apply zad | apply zac | apply zae)))); have n1_ := zaa.mk (zaG (by repeat (first | exact HB.out | apply zad | apply zac | apply zae)) hb); clear HB; have HO226 := n0_; have HB := n1_; clear n0_ n1_; clear hb ho46; obtain ⟨Ao47, co47, eo47⟩ := Kd.zbB HO226.out; subst eo47; have p227 : 0 ≤ (x8_8 : Int) := of_decide_eq_true (by assumption); have q227 : x8_8 < (y224.length : Int) := of_decide_eq_true (by assumption); obtain ⟨ad227, e227, hx227_0⟩ := Kd.at_int (Kd.zbt HO226.out).2.2 x8_8 p227 q227; cases e227; replace p227 := eq_true p227; replace q227 := eq_true q227))
                 go_ret3
                 exact ⟨by first | rfl | (simp [*, zaF, zaE] <;> rfl), by repeat (first | exact HB.out | apply zad | apply zac | apply zae)⟩
             ·rw [if_neg c28] at H
              exact absurd H (by simp)
            ·rw [if_neg c27] at H
             exact absurd H (by simp)
     ·rw [if_neg c7] at H
      exact absurd H (by simp)
    ·rw [if_neg c6] at H
     exact absurd H (by simp)
def zaT.f (k : Nat) (a0 : ByteArray) (a1 : Int) : Option (Int) := (zaj.f k a0 a1).bind fun bt228 => (if bt228.2.2 = true then (some bt228.2.1) else (some 1))
theorem zaT.mono : ∀ a0 a1 k, LeO (zaT.f k a0 a1) (zaT.f (k + 1) a0 a1) := by
 intro a0 a1 k
 unfold zaT.f
 repeat' first
   | (with_reducible exact zaj.mono _ _ _)
   | (with_reducible exact LeO.refl _)
   | (with_reducible exact LeO.none _)
   | (with_reducible refine LeO.ite ?_ ?_)
   | (with_reducible refine LeO.bind ?_ (fun _ => ?_))
   | exact zaj.mono _ _ _
   | exact LeO.none _
   | refine LeO.ite ?_ ?_
   | refine LeO.bind ?_ (fun _ => ?_)
set_option maxHeartbeats 8000000 in
set_option maxRecDepth 100000 in
theorem zaT.calls (k : Nat) (a0 : ByteArray) (a1 : Int) (r : Int) (w : World) (h : zaT.f k a0 a1 = some r) :
  Calls Try.prog 49 #[.string a0, .int .i64 a1] w fun e w' => e = .returned (.int .i64 r) ∧ Below w.heap.size w w' := by
 have HB := zaa.mk (Below.refl w.heap.size w); have H : ((zaj.f k a0 a1).bind fun bt228 => (if bt228.2.2 = true then (some bt228.2.1) else (some 1))) = some r := h
 clear h; replace H := Option.bind_eq_some_iff.mp H; obtain ⟨⟨t228, t229, t230⟩, A30, H⟩ := H; replace H : (if t230 = true then (some t229) else (some 1)) = some r := H
 have A3 := zaa.mk A30; clear A30; by_cases c4 : t230 = true
 ·subst c4
  have H1 : (some t229) = some r := by rw [if_pos rfl] at H; exact H
  clear H; have H := H1; clear H1; obtain rfl := Option.some.inj H; go_enter Try.func49, Try.ntmps49
  go_wp2_with (first | ((with_reducible refine zaS (f := 32) rfl ?_); refine zbj (some 11) rfl rfl Try.func32 (by kernel_rfl) rfl #[.string a0, .int .i64 a1] rfl (by (try simp only [List.map_toArray, List.map_cons, List.map_nil]); first | done | rfl | (simp only [List.length_drop, List.length_take]; rfl)) ?_; (with_reducible refine (zaj.calls k a0 a1 t228 t229 true _ A3.out).mono ?_); rintro e w5 ⟨rfl, hb⟩; refine ⟨_, rfl, ?_⟩; have n0_ := zaa.mk (zaG (by repeat (first | exact HB.out | apply zad | apply zac | apply zae)) hb); clear HB; have HB := n0_; clear n0_; (try clear hb); (try clear hb2); (try clear hk); (try clear hi)))
  go_ret
  exact ⟨by first | rfl | (simp [*, zaF, zaE] <;> rfl), by repeat (first | exact HB.out | apply zad | apply zac | apply zae)⟩
 ·replace c4 := Bool.eq_false_iff.mpr c4
  subst c4; have H1 : (some 1) = some r := by rw [if_neg (show ¬ (false = true) by decide)] at H; exact H
  clear H; have H := H1; clear H1; obtain rfl := Option.some.inj H; go_enter Try.func49, Try.ntmps49
  go_wp2_with (first | ((with_reducible refine zaS (f := 32) rfl ?_); refine zbj (some 11) rfl rfl Try.func32 (by kernel_rfl) rfl #[.string a0, .int .i64 a1] rfl (by (try simp only [List.map_toArray, List.map_cons, List.map_nil]); first | done | rfl | (simp only [List.length_drop, List.length_take]; rfl)) ?_; (with_reducible refine (zaj.calls k a0 a1 t228 t229 false _ A3.out).mono ?_); rintro e w6 ⟨rfl, hb⟩; refine ⟨_, rfl, ?_⟩; have n0_ := zaa.mk (zaG (by repeat (first | exact HB.out | apply zad | apply zac | apply zae)) hb); clear HB; have HB := n0_; clear n0_; (try clear hb); (try clear hb2); (try clear hk); (try clear hi)))
  go_ret
  exact ⟨by first | rfl | (simp [*, zaF, zaE] <;> rfl), by repeat (first | exact HB.out | apply zad | apply zac | apply zae)⟩
end
end Go.Proofs.Ytceddikbmbadlaa.H
