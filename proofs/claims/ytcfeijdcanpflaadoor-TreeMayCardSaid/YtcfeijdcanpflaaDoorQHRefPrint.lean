/- The document's Print: its walk. -/
import Derived.Test.YtcfeijdcanpflaaDoorQPureMay
import Derived.Test.YtcfeijdcanpflaaDoorQHTreeAll
import Derived.Test.YtcfeijdcanpflaaDoorQHRound
import Derived.Test.YtcfeijdcanpflaaDoorQHSpansRow
import Derived.Lib.AppendStr
import Derived.Maps.AppendAt
set_option linter.unusedVariables false
set_option linter.unusedSimpArgs false
namespace Go.Proofs.YtcfeijdcanpflaaDoor.H
open Go.RowKit Go.Proofs.YtcfeijdcanpflaaDoorW.PrintWords Go.Proofs.YtcfeijdcanpflaaDoorW.PrintLast Go.Proofs.YtcfeijdcanpflaaDoorW.PrintMore
theorem all_ev (t : S25) (hb : byteT t) (ht : tsize t ≤ 2000000) : Ev (fun m => glossatorref15_All.f m t.f0 t.f1 t.f2 t.f3) ((allT t).map seenS) := by
  have e : (⟨t.f0, t.f1, t.f2, t.f3⟩ : S25) = t := eta25' t
  refine Ev.congr (fun m => by unfold glossatorref15_All.f; rfl) (Ev.bind (a := okB t) (f := fun _ (r : Bool) => if r = true then (if tsize ⟨t.f0, t.f1, t.f2, t.f3⟩ ≤ 2000000 then some ((preT ⟨t.f0, t.f1, t.f2, t.f3⟩ 0 0).map seenS) else none) else some []) (by have := right_ref t.f0 t.f1 t.f2 t.f3 (by rw [e]; exact hb); rw [e] at this; exact this) (Ev.const ?_))
  rw [e, if_pos ht]
  unfold allT
  cases okB t <;> simp
def bC (bs : List UInt8) : List Value := bs.map fun b => Value.int .u8 (b.toNat : Int)
theorem bC_app (a b : List UInt8) : bC (a ++ b) = bC a ++ bC b := List.map_append
def OwnB (base : Nat) (X : World) (v : Value) (bs : List UInt8) : Prop := X.ownsRow base 5 1 v bs.length (bC bs)
theorem OwnB.below {base : Nat} {X X' : World} {v : Value} {bs : List UInt8} (h : OwnB base X v bs) (hb : Below X.heap.size X X') : OwnB base X' v bs := by
  refine World.ownsRow.kept (row := none) h ⟨hb.os, hb.tape, hb.output, hb.size, fun i hi _ => hb.block i hi⟩ ?_
  rcases h' : v.ownBlock with _ | k
  · exact .inl rfl
  · exact .inr (by simp)
theorem OwnB.nil (base : Nat) (X : World) : OwnB base X (.slice none 0 0) [] := World.ownsRow_nil X base 5 1
theorem OwnB.slice {base : Nat} {X : World} {v : Value} {bs : List UInt8} (h : OwnB base X v bs) : ∃ A c, v = .slice A bs.length c := by
  rcases h.2 with ⟨rfl, hn⟩ | ⟨g, cap, cur, rfl, _⟩
  · exact ⟨none, 0, by rw [hn]⟩
  · exact ⟨_, _, rfl⟩
theorem OwnB.grown {base : Nat} {X X' : World} {v : Value} {bs : List UInt8} (h : OwnB base X v bs) (hg : X.grownBy X' v.ownBlock) (hb : base ≤ X.heap.size) : Below base X X' :=
  ⟨hg.os, hg.tape, hg.output, hg.size, fun k hk => hg.block k (by omega) (fun e => by have := (World.ownsRow.lt h k e.symm).1; omega)⟩
theorem infoByte : (Tryd.prog.info? 5).map (fun i => (i.zero, i.size, i.bytes)) = some (some (.int .u8 0), 1, 1) := by kernel_rfl
theorem append_one {ops : Array Oper} {rest : List Oper} {o : Oper} {a : Act} {Q : Exit → Act → World → Prop} {W : World} (base : Nat) (hgd : o.guard = none) (s x : Operand)
    (ho : o.op = .call { callee := .builtin .append, args := #[s, x], argTypes := #[66, 66] }) (v : Value) (bs : List UInt8) (b : UInt8) (hs : a.eval s = v) (hx : a.eval x = .slice (some ⟨W.heap.size, 0, none⟩) 1 1)
    (HO : OwnB base W v bs) (hbase : base ≤ W.heap.size) (hl : bs.length + 1 ≤ 4000000)
    (h : ∀ v1 w1, OwnB base w1 v1 (bs ++ [b]) → Below base W w1 → wpList Tryd.prog ops Q rest (a.put o.dst v1) w1) : wpList Tryd.prog ops Q (o :: rest) a (W.alloc (.cells #[.int .u8 (b.toNat : Int)] 5)) := by
  obtain ⟨i0, hi, hzz⟩ := Option.map_eq_some_iff.1 infoByte
  simp only [Prod.mk.injEq] at hzz
  obtain ⟨hz0, hz1, hz2⟩ := hzz
  have hbY : Below W.heap.size W (W.alloc (.cells #[.int .u8 (b.toNat : Int)] 5)) := below_alloc (Below.refl _ _) _
  have hnew : (W.alloc (.cells #[.int .u8 (b.toNat : Int)] 5)).heap[W.heap.size]? = some (.cells #[.int .u8 (b.toNat : Int)] 5 (0, 0)) := heap_alloc_new W _
  have HO2 := HO.below hbY
  refine wpList_plain hgd fun K hK => ?_
  obtain ⟨v1, w1, hrun, hown1, hg1, hnil, hat⟩ := run_append_own_at (P := Tryd.prog) (w := W.alloc (.cells #[.int .u8 (b.toNat : Int)] 5)) base 66 o.type 5 i0 (.int .u8 0) 1 1 Tryd.underlying66 hi hz0 hz1 hz2 rfl (by decide) v bs.length (bC bs) HO2 ⟨W.heap.size, 0, none⟩ 1 1 [.int .u8 (b.toNat : Int)] rfl
    (fun j u hu => by rw [show (⟨W.heap.size, 0, none⟩ : Addr).add j = ⟨W.heap.size, j, none⟩ by simp [Addr.add, eq_comm], blk_cell hnew j]; simpa using hu) (fun u hu => by simp at hu; subst hu; rfl)
    (by simp only [maxLen]; omega) (by omega) (Nat.le_trans hbase hbY.size)
  unfold Oper.wp execOp
  simp only [ho, resolve, invoke, builtin, Sem.run_bind, Sem.run_pure, Result.andThen_ok, List.map_toArray, List.map_cons, List.map_nil, hs, hx, hrun]
  refine hK _ _ (h v1 w1 ?_ ?_)
  · show w1.ownsRow base 5 1 v1 (bs ++ [b]).length (bC (bs ++ [b]))
    rw [List.length_append, bC_app]
    exact hown1
  · exact (hbY.mono hbase).trans (HO2.grown hg1 (Nat.le_trans hbase hbY.size))
theorem run_append_text (base : Nat) {X : World} {v : Value} {bs : List UInt8} (HO : OwnB base X v bs) (s : ByteArray) (ty : TypeId) (hbase : base ≤ X.heap.size) (hl : bs.length + s.size ≤ 4000000) :
    ∃ v1 w1, (Builtin.append_ #[66, 9] ty #[v, .string s]).run Tryd.prog X = .ok v1 w1 ∧ OwnB base w1 v1 (bs ++ s.data.toList) ∧ Below base X w1 := by
  obtain ⟨i0, hi, hzz⟩ := Option.map_eq_some_iff.1 infoByte
  simp only [Prod.mk.injEq] at hzz
  obtain ⟨hz0, hz1, hz2⟩ := hzz
  obtain ⟨v1, w1, hr, h2, h3, h4⟩ := Lib.run_append_own_string (P := Tryd.prog) X base 66 9 ty 5 i0 Tryd.underlying66 Tryd.underlying9 hi hz0 hz1 hz2 v bs.length (bC bs) HO s (by simp only [maxLen]; omega) (by omega) hbase
  refine ⟨v1, w1, hr, ?_, HO.grown h3 hbase⟩
  show w1.ownsRow base 5 1 v1 (bs ++ s.data.toList).length (bC (bs ++ s.data.toList))
  rw [List.length_append, bC_app]
  exact h2
theorem run_text {base : Nat} {X : World} {v : Value} {bs : List UInt8} (HO : OwnB base X v bs) : (convert 66 9 v).run Tryd.prog X = .ok (.string ⟨bs.toArray⟩) X := by
  rcases HO.2 with ⟨rfl, hn⟩ | ⟨g, cap, cur, rfl, hb, hg, hn, hm, hs, ht⟩
  · obtain rfl := List.eq_nil_of_length_eq_zero hn
    exact run_convert_bytes_nil X 66 5 Tryd.underlying66 Tryd.underlying5 0 0 9 Tryd.underlying9
  · refine run_convert_bytes_back X 66 9 5 ⟨g, 0, none⟩ cap bs Tryd.underlying66 Tryd.underlying5 Tryd.underlying9 (fun j hj => ?_)
    have hc := World.ownsRow.cells (g := g) HO rfl j (.int .u8 (bs[j].toNat : Int)) (by simp [bC, hj])
    exact hc
theorem lines_take (xs : List (S25 × Int × Int)) (n : Nat) : (linesT (xs.take n)).length ≤ (linesT xs).length := by
  have h : linesT xs = linesT (xs.take n) ++ linesT (xs.drop n) := by
    unfold linesT
    rw [← List.flatten_append, ← List.map_append, List.take_append_drop]
  rw [h, List.length_append]
  omega
theorem wp_append_run2 {P : Program} {w w' : World} {o : Oper} {a : Act} {K : Act → World → Prop} {Q : Exit → Act → World → Prop} {v' : Value} {b : Bool} {R : Prop} (hb : b = true) (s x : Operand) (t u : TypeId)
    (hop : o.op = Op.call { callee := Callee.builtin Builtin.append, args := #[s, x], argTypes := #[t, u] })
    (hrun : (Builtin.append_ #[t, u] o.type #[a.eval s, a.eval x]).run P w = .ok v' w') (hK : K (a.put o.dst v') w') : if b = true then Oper.wp P o a w K Q else R := by
  rw [if_pos hb]
  unfold Oper.wp execOp
  simp only [hop, resolve, invoke, builtin, Sem.run_bind, Sem.run_pure, Result.andThen_ok, List.map_toArray, List.map_cons, List.map_nil, hrun]
  exact hK
theorem repeat32 : ∀ n : Nat, Lib.repeatL [32] n = List.replicate n (32 : UInt8)
  | 0 => rfl
  | n + 1 => by rw [List.replicate_succ, Lib.repeatL, repeat32 n]; rfl
set_option maxHeartbeats 8000000 in
set_option maxRecDepth 100000 in
theorem refPrint_calls (P0 : Nat → Prop) (k w wd : Int) (kids : List S25) (A : Option Addr) (c : Nat) (W : World) (hV : Kd.V k25 25 W W.heap.size (fun k_ => P0 k_) (.slice A kids.length c) kids) (hb : byteT ⟨k, w, wd, kids⟩) (hN : tsize ⟨k, w, wd, kids⟩ ≤ 2000000) :
    Calls Tryd.prog 14 #[.agg #[.int .u8 k, .int .u8 w, .int .i64 wd, .slice A kids.length c]] W fun e w' => e = .returned (.tuple #[.string (printT ⟨k, w, wd, kids⟩).1, .int .i64 (printT ⟨k, w, wd, kids⟩).2]) ∧ Below W.heap.size W w' := by
  obtain ⟨A', c', e0, hc0, hF0⟩ := hV
  injection e0 with e1 _ e2
  subst e1 e2
  obtain ⟨K1, hK1⟩ := right_ref k w wd kids hb
  obtain ⟨K2, hK2⟩ := all_ev ⟨k, w, wd, kids⟩ hb hN
  have HK1 := Aside0.mk (hK1 K1 (Nat.le_refl _))
  have HK2 := Aside0.mk (hK2 K2 (Nat.le_refl _))
  have HF := Aside0.mk (Kd.F_bound hF0)
  have HC := Aside0.mk hc0
  have HBT := Aside0.mk hb
  have HNN := Aside0.mk hN
  clear hK1 hK2 hF0 hc0 hb hN
  obtain ⟨W1, hW1⟩ : ∃ W1, W1 = W.alloc (.cells #[.int .u8 k, .int .u8 w, .int .i64 wd, .slice A kids.length c] 25) := ⟨_, rfl⟩
  have hb1 : Below W.heap.size W W1 := by rw [hW1]; exact below_alloc (Below.refl _ _) _
  have hX : W1.heap[W.heap.size]? = some (.cells #[.int .u8 k, .int .u8 w, .int .i64 wd, .slice A kids.length c] 25 (0, 0)) := by rw [hW1]; exact heap_alloc_new _ _
  have HX := Aside0.mk hX
  have HB1 := Aside0.mk hb1
  have HS1 := Aside0.mk (show W1.heap.size = W.heap.size + 1 by rw [hW1]; simp)
  have hkb0 := blk_cell hX 0
  have hkb1 := blk_cell hX 1
  have hkb2 := blk_cell hX 2
  have hkb3 := blk_cell hX 3
  have hlt := blk_lt hX
  simp at hkb0 hkb1 hkb2 hkb3
  have hu := Tryd.underlying25
  clear hb1 hX
  go_enter Tryd.func14, Tryd.ntmps14
  go_upto_region 1 with (fail)
  rw [← hW1]
  clear hW1
  cases hok : okB ⟨k, w, wd, kids⟩ with
  | false =>
    go_wp2_with (go_at_call 15; refine (glossatorref15_Right.calls K1 _ _ _ _ _ _ _ _ (Kd.C_below (Kd.F_now HF.out) HB1.out) HC.out HK1.out).mono ?_; rintro e w2 ⟨rfl, hb2⟩; have HB2 := Aside0.mk (below_step HB1.out hb2); clear hb2; rw [hok])
    go_ret2
    refine ⟨?_, HB2.out⟩
    rw [printT, hok]
    rfl
  | true =>
    go_upto_region 3 with (go_at_call 15; refine (glossatorref15_Right.calls K1 _ _ _ _ _ _ _ _ (Kd.C_below (Kd.F_now HF.out) HB1.out) HC.out HK1.out).mono ?_; rintro e w2 ⟨rfl, hb2⟩; have HB2 := Aside0.mk (below_step HB1.out hb2); have hX2 := blk_below HX.out hb2; have HX2 := Aside0.mk hX2; have hkc0 := blk_cell hX2 0; have hkc1 := blk_cell hX2 1; have hkc2 := blk_cell hX2 2; have hkc3 := blk_cell hX2 3; have hlt2 := blk_lt hX2; simp at hkc0 hkc1 hkc2 hkc3; clear hkb0 hkb1 hkb2 hkb3 hlt hX2 hb2; rw [hok])
    obtain ⟨xs, hxs⟩ : ∃ xs, xs = allT ⟨k, w, wd, kids⟩ := ⟨_, rfl⟩
    have HXS := Aside0.mk hxs
    have HK3 := Aside0.mk (show glossatorref15_All.f K2 k w wd kids = some (xs.map seenS) by rw [hxs]; exact HK2.out)
    have HXL := Aside0.mk (show xs.length ≤ 2000000 by
      rw [hxs]; unfold allT; rw [hok, if_pos rfl, preT_length]; exact HNN.out)
    clear hxs HK2
    go_upto_region 5 with (go_at_call 32; refine (glossatorref15_All.calls K2 k w wd (fun q => P0 q ∧ q < W.heap.size) A c kids _ _ ⟨A, c, rfl, HC.out, Kd.F_below HF.out HB2.out⟩ HK3.out).mono ?_; rintro e w3 ⟨v3, rfl, hv3, hb3⟩; have HV3 := Aside0.mk hv3; have HB3 := Aside0.mk hb3; clear hv3 hb3 hkc0 hkc1 hkc2 hkc3 hlt2)
    obtain ⟨A3, c3, rfl, hc3, hF3⟩ := HV3.out
    have HF3 := Aside0.mk (Kd.F_bound hF3)
    have HC3 := Aside0.mk hc3
    have hnl : (xs.map seenS).length = xs.length := List.length_map ..
    have HCELL := Aside0.mk (fun (i : Nat) (x : S25 × Int × Int) (hx : xs[i]? = some x) => (show ∃ ad, A3 = some ad ∧ ∀ X : World, Below w3.heap.size w3 X → X.cell? (ad.add (i * 7)) = some (.int .u8 x.1.f0) ∧ X.cell? ⟨(ad.add (i * 7)).block, (ad.add (i * 7)).off + 1, none⟩ = some (.int .u8 x.1.f1) ∧ X.cell? ⟨(ad.add (i * 7)).block, (ad.add (i * 7)).off + 4, none⟩ = some (.int .i64 x.2.1) ∧ X.cell? ⟨(ad.add (i * 7)).block, (ad.add (i * 7)).off + 5, none⟩ = some (.int .i64 (wrap64 (x.2.1 + x.1.f2))) ∧ X.cell? ⟨(ad.add (i * 7)).block, (ad.add (i * 7)).off + 6, none⟩ = some (.int .i64 x.2.2) from by
      have hi := (List.getElem?_eq_some_iff.1 hx).1
      have hrd : rd_T80 (xs.map seenS) (i : Int) = seenS x := by simp [rd_T80, List.getD_eq_getElem?_getD, hx]
      obtain ⟨ad, _, _, e, _⟩ := at_T80 (Kd.F_now HF3.out) (i : Int) (by omega) (by omega)
      refine ⟨ad, e, fun X hX => ?_⟩
      obtain ⟨ad', A4, c4, e', g0, g1, g2, g3, g4, g5, g6, gl, gc⟩ := at_T80 (Kd.C_below (Kd.F_now HF3.out) hX) (i : Int) (by omega) (by omega)
      rw [e] at e'
      injection e' with e'
      subst e'
      rw [hrd, Int.toNat_natCast] at g0 g1 g4 g5 g6
      exact ⟨g0, g1, g4, g5, g6⟩))
    rw [hnl]
    clear HV3 hF3 hc3
    go_wp2_with fail
    go_loopg [5, 6] xs.length (fun kq v5 v6 w' => ∃ i : Nat, v6 = .int .i64 i ∧ i ≤ xs.length ∧ Aside0 (kq = xs.length - i) ∧ Aside0 (OwnB w3.heap.size w' v5 (linesT (xs.take i))) ∧ Aside0 (Below w3.heap.size w3 w') ∧ Aside0 ((linesT (xs.take i)).length ≤ 1048576))
    case atStart => exact ⟨0, rfl, Nat.zero_le _, ⟨rfl⟩, ⟨OwnB.nil _ _⟩, ⟨Below.refl _ _⟩, ⟨Nat.zero_le _⟩⟩
    case round =>
      obtain ⟨i, rfl, hi, HK, HO, HB, HL⟩ := hrel
      by_cases hlt : i < xs.length
      · have hgx := List.getElem?_eq_getElem hlt
        obtain ⟨x, hx⟩ : ∃ x, x = xs[i] := ⟨_, rfl⟩
        rw [← hx] at hgx
        have hmem : x ∈ allT ⟨k, w, wd, kids⟩ := by rw [← HXS.out, hx]; exact List.getElem_mem hlt
        have hw1 := allT_want HBT.out HNN.out hmem
        have ha1 := allT_at HBT.out hmem
        obtain ⟨ad, rfl, hcell⟩ := HCELL.out i x hgx
        have HTK := Aside0.mk (show linesT (xs.take (i + 1)) = linesT (xs.take i) ++ lineT x by rw [List.take_add_one, hgx, Option.toList_some, linesT_snoc])
        obtain ⟨⟨nk, nw, nwd, nks⟩, f, d⟩ := x
        simp only at hw1 ha1 hcell
        obtain ⟨⟨hk1, hw2, hk0, hw0⟩, hfr, hd0, hd1⟩ := hw1
        obtain ⟨dn, rfl⟩ := Int.eq_ofNat_of_zero_le hd0
        obtain ⟨t, ht⟩ : ∃ t, t = wrap64 (f + nwd) := ⟨_, rfl⟩
        rw [← ht] at hcell
        have HTT := Aside0.mk (show 0 ≤ t ∧ t ≤ 1099511627776 by rw [ht, wrap_id (by omega) (by omega)]; omega)
        obtain ⟨acc, hacc⟩ : ∃ l, l = linesT (xs.take i) := ⟨_, rfl⟩
        rw [← hacc] at HO HL HTK
        have HTK2 := Aside0.mk (show linesT (xs.take (i + 1)) = acc ++ (List.replicate dn 32 ++ (wordB nk nw).data.toList ++ (spanB f t).data.toList) by
          rw [HTK.out, lineT, ← ht]; simp only [Int.toNat_natCast]; rw [repeat32])
        have HCL := Aside0.mk hcell
        have HKW := Aside0.mk (And.intro hk1 (And.intro hw2 (And.intro hk0 hw0)))
        have HFT := Aside0.mk (show 0 ≤ f ∧ f ≤ 1099511627776 by omega)
        have HDN := Aside0.mk (show dn < 2000000 by omega)
        clear hx hgx hmem ha1 hk1 hw2 hk0 hw0 hfr hd0 hd1 ht hacc hcell HTK
        go_wp2_with fail
        go_loopg [5, 7] dn (fun kq v5 v7 w' => ∃ j : Nat, v7 = .int .i64 j ∧ j ≤ dn ∧ Aside0 (kq = dn - j) ∧ Aside0 (OwnB w3.heap.size w' v5 (acc ++ List.replicate j 32)) ∧ Aside0 (Below w3.heap.size w3 w'))
        case atStart => exact ⟨0, rfl, Nat.zero_le _, ⟨rfl⟩, ⟨by rw [List.replicate_zero, List.append_nil]; exact HO.out⟩, HB⟩
        case round =>
          obtain ⟨j, rfl, hj, HKj, HOj, HBj⟩ := hrel
          obtain ⟨g0, g1, g4, g5, g6⟩ := HCL.out _ HBj.out
          by_cases hjl : j < dn
          · go_wp2_with (at_builtin; refine append_one w3.heap.size rfl (.tmp 29) (.tmp 30) rfl _ _ 32 rfl rfl HOj.out (by have := HBj.out.size; omega) (by rw [List.length_append, List.length_replicate]; have := HL.out; have := HDN.out; omega) ?_; intro v1 w1 ho1 hb1; have HO1 := Aside0.mk ho1; have HB1' := Aside0.mk (HBj.out.trans hb1); clear ho1 hb1)
            go_roundg (dn - (j + 1))
            case measure => have := HKj.out; omega
            case rel => exact ⟨j + 1, by (have := HDN.out; rw [wrap_id (by omega) (by omega)]; rfl), by omega, ⟨rfl⟩, ⟨by have := HO1.out; rw [List.append_assoc] at this; rw [List.replicate_succ']; exact this⟩, HB1'⟩
          · obtain rfl : j = dn := by omega
            obtain ⟨acc2, hacc2⟩ : ∃ l, l = acc ++ List.replicate j 32 := ⟨_, rfl⟩
            rw [← hacc2] at HOj
            have HL2 := Aside0.mk (show acc2.length ≤ 3048576 by rw [hacc2, List.length_append, List.length_replicate]; have := HL.out; have := HDN.out; omega)
            have HTK3 := Aside0.mk (show linesT (xs.take (i + 1)) = acc2 ++ ((wordB nk nw).data.toList ++ (spanB f t).data.toList) by rw [HTK2.out, hacc2]; simp only [List.append_assoc])
            clear hacc2 HTK2 HL HO HB HDN HKj
            go_upto_region 13 with (go_at_call 19; refine (glossatorref15_Name.calls _ _ _ (refName_some nk HKW.out.2.2.1 (by have := HKW.out.1; omega))).mono ?_; rintro e w5 ⟨rfl, hb5⟩; have HO5 := Aside0.mk (HOj.out.below hb5); have HB5 := Aside0.mk (below_step HBj.out hb5); clear hb5; clear g0 g1 g4 g5 g6; obtain ⟨g0, g1, g4, g5, g6⟩ := HCL.out _ HB5.out; clear HOj HBj)
            have HNV := Aside0.mk (show ∀ q : Int, (nameB q).size ≤ 10 from nameB_size)
            by_cases c50 : nk = 50
            case' pos =>
              have d50 : (nk == 50) = true := by simp [c50]
              have HW := Aside0.mk (show wordB nk nw = ⟨#[63]⟩ ++ nameB nw by rw [wordB, if_pos c50])
              go_wp2_with (go_at_call 19; refine (glossatorref15_Name.calls _ _ _ (refName_some nw HKW.out.2.2.2 (by have := HKW.out.2.1 c50; omega))).mono ?_; rintro e w6 ⟨rfl, hb6⟩; have HO6 := Aside0.mk (HO5.out.below hb6); have HB6 := Aside0.mk (below_step HB5.out hb6); clear hb6; clear g0 g1 g4 g5 g6; obtain ⟨N, hN⟩ : ∃ N, N = nameB nw := ⟨_, rfl⟩; have hNs : N.size ≤ 10 := (by rw [hN]; exact HNV.out nw); rw [← hN] at HW ⊢; have z1 : ¬ 9223372036854775807 < 1 + N.size := (by omega); clear hN HO5 HB5)
            case' neg =>
              have d50 : (nk == 50) = false := by simp [c50]
              have HW := Aside0.mk (show wordB nk nw = nameB nk by rw [wordB, if_neg c50])
              obtain ⟨N, hN⟩ : ∃ N, N = nameB nk := ⟨_, rfl⟩
              have hNs : N.size ≤ 10 := by rw [hN]; exact HNV.out nk
              rw [← hN] at HW ⊢
              clear hN
              obtain ⟨w6, hw6⟩ : ∃ w6, w6 = w5 := ⟨_, rfl⟩
              rw [← hw6] at HO5 HB5 g0 ⊢
              have HO6 := HO5
              have HB6 := HB5
              clear HO5 HB5 g1 g4 g5 g6 hw6
              go_wp2_with fail
              clear g0
            all_goals
              obtain ⟨V, hV⟩ : ∃ V, V = wordB nk nw := ⟨_, rfl⟩
              rw [← HW.out, ← hV]
              have hVs : V.size ≤ 11 := by rw [hV, HW.out]; first | omega | (rw [ByteArray.size_append, show (⟨#[63]⟩ : ByteArray).size = 1 from rfl]; omega)
              obtain ⟨kf, hkf⟩ := number_some f HFT.out.1 (by have := HFT.out.2; omega)
              obtain ⟨kt, hkt⟩ := number_some t HTT.out.1 (by have := HTT.out.2; omega)
              have hle := Lib.itoa_length_le f (by have := HFT.out.1; omega) (by have := HFT.out.2; omega)
              have hlf := Lib.itoa_length_le t (by have := HTT.out.1; omega) (by have := HTT.out.2; omega)
              obtain ⟨A1, hA⟩ : ∃ A1 : ByteArray, A1 = itoaB f := ⟨_, rfl⟩
              obtain ⟨B1, hB⟩ : ∃ B1 : ByteArray, B1 = itoaB t := ⟨_, rfl⟩
              have ha : A1.size ≤ 21 := by rw [hA]; exact hle
              have hbb : B1.size ≤ 21 := by rw [hB]; exact hlf
              have HSPAN := Aside0.mk (show spanB f t = ⟨#[32]⟩ ++ A1 ++ ⟨#[45]⟩ ++ B1 ++ ⟨#[10]⟩ by rw [hA, hB]; rfl)
              rw [← hA] at hkf
              rw [← hB] at hkt
              have HNA := Aside0.mk hkf
              have HNB := Aside0.mk hkt
              clear hkf hkt hle hlf hA hB
              have y0 : ¬ 9223372036854775807 < V.size + 1 := by omega
              have y1 : ¬ 9223372036854775807 < V.size + 1 + A1.size := by omega
              have y2 : ¬ 9223372036854775807 < V.size + 1 + A1.size + 1 := by omega
              have y3 : ¬ 9223372036854775807 < V.size + 1 + A1.size + 1 + B1.size := by omega
              have y4 : ¬ 9223372036854775807 < V.size + 1 + A1.size + 1 + B1.size + 1 := by omega
              have HVV := Aside0.mk (show linesT (xs.take (i + 1)) = acc2 ++ (V ++ ⟨#[32]⟩ ++ A1 ++ ⟨#[45]⟩ ++ B1 ++ ⟨#[10]⟩ : ByteArray).data.toList by
                rw [HTK3.out, HSPAN.out, hV]; simp only [ByteArray.data_append, Array.toList_append, List.append_assoc])
              clear hV
              have HCX := Aside0.mk (fun (X : World) (h : Below w3.heap.size w3 X) => (show X.cell? ⟨(ad.add (i * 7)).block, (ad.add (i * 7)).off + 4, none⟩ = some (.int .i64 f) ∧ X.cell? ⟨(ad.add (i * 7)).block, (ad.add (i * 7)).off + 5, none⟩ = some (.int .i64 t) from ⟨(HCL.out X h).2.2.1, (HCL.out X h).2.2.2.1⟩))
              have n0 := Aside0.mk (HO6.out.below (X' := w6.drew) (Below.refl _ _).drew)
              have n1 := Aside0.mk (show Below w3.heap.size w3 w6.drew from HB6.out.drew)
              clear HO6 HB6
              have HO6 := n0
              have HB6 := n1
              clear n0 n1
              have HT0 := Aside0.mk (HCX.out _ HB6.out)
              refine wp_region_noPanic (plain_need [0, 1, 2, 3, 4, 5, 6, 7, 8, 9, 10, 11, 12, 13, 14, 15, 16, 17, 18, 19, 20, 21, 22] (fun W' => W'.cell? ⟨(ad.add (i * 7)).block, (ad.add (i * 7)).off + 4, none⟩ = some (.int .i64 f) ∧ W'.cell? ⟨(ad.add (i * 7)).block, (ad.add (i * 7)).off + 5, none⟩ = some (.int .i64 t)) (by kernel_rfl) ?_)
              refine wpAnyN_take (i := 0) (v := ?_) rfl (by kernel_rfl) (by kernel_rfl) (by kernel_rfl) (by kernel_rfl) (fun _ _ _ h => h) (.inl ⟨by rfl, ?_⟩) ⟨HT0.out.1, HT0.out.2⟩ ?_
              rotate_left
              · (intro W' hW'; obtain ⟨s0, s1⟩ := hW'; go_simp; try rfl)
              simp only [Act.put, List.setIfInBounds_toArray, List.set_cons_zero, List.set_cons_succ]
              refine wpAnyN_take (i := 1) (v := ?_) rfl (by kernel_rfl) (by kernel_rfl) (by kernel_rfl) (by kernel_rfl) (fun _ _ _ h => h) (.inl ⟨by rfl, ?_⟩) ⟨HT0.out.1, HT0.out.2⟩ ?_
              rotate_left
              · (intro W' hW'; obtain ⟨s0, s1⟩ := hW'; go_simp; try rfl)
              simp only [Act.put, List.setIfInBounds_toArray, List.set_cons_zero, List.set_cons_succ]
              refine wpAnyN_take (i := 2) (v := ?_) rfl (by kernel_rfl) (by kernel_rfl) (by kernel_rfl) (by kernel_rfl) (fun _ _ _ h => h) (.inl ⟨by rfl, ?_⟩) ⟨HT0.out.1, HT0.out.2⟩ ?_
              rotate_left
              · (intro W' hW'; obtain ⟨s0, s1⟩ := hW'; go_simp; try rfl)
              simp only [Act.put, List.setIfInBounds_toArray, List.set_cons_zero, List.set_cons_succ]
              refine wpAnyN_take (i := 3) (v := ?_) rfl (by kernel_rfl) (by kernel_rfl) (by kernel_rfl) (by kernel_rfl) (fun _ _ _ h => h) (.inl ⟨by rfl, ?_⟩) ⟨HT0.out.1, HT0.out.2⟩ ?_
              rotate_left
              · (intro W' hW'; obtain ⟨s0, s1⟩ := hW'; go_simp; try rfl)
              simp only [Act.put, List.setIfInBounds_toArray, List.set_cons_zero, List.set_cons_succ]
              refine wpAnyN_take (i := 4) (v := ?_) rfl (by kernel_rfl) (by kernel_rfl) (by kernel_rfl) (by kernel_rfl) (fun _ _ _ h => h) (.inl ⟨by rfl, ?_⟩) ⟨HT0.out.1, HT0.out.2⟩ ?_
              rotate_left
              · (intro W' hW'; obtain ⟨s0, s1⟩ := hW'; go_simp; try rfl)
              simp only [Act.put, List.setIfInBounds_toArray, List.set_cons_zero, List.set_cons_succ]
              refine wpAnyN_take (i := 5) (v := ?_) rfl (by kernel_rfl) (by kernel_rfl) (by kernel_rfl) (by kernel_rfl) (fun _ _ _ h => h) (.inl ⟨by rfl, ?_⟩) ⟨HT0.out.1, HT0.out.2⟩ ?_
              rotate_left
              · (intro W' hW'; obtain ⟨s0, s1⟩ := hW'; go_simp; try rfl)
              simp only [Act.put, List.setIfInBounds_toArray, List.set_cons_zero, List.set_cons_succ]
              refine wpAnyN_take (i := 6) (v := ?_) rfl (by kernel_rfl) (by kernel_rfl) (by kernel_rfl) (by kernel_rfl) (fun _ _ _ h => h) (.inl ⟨by rfl, ?_⟩) ⟨HT0.out.1, HT0.out.2⟩ ?_
              rotate_left
              · (intro W' hW'; obtain ⟨s0, s1⟩ := hW'; go_simp; try rfl)
              simp only [Act.put, List.setIfInBounds_toArray, List.set_cons_zero, List.set_cons_succ]
              refine wpAnyN_take (i := 7) (v := ?_) rfl (by kernel_rfl) (by kernel_rfl) (by kernel_rfl) (by kernel_rfl) (fun _ _ _ h => h) (.inl ⟨by rfl, ?_⟩) ⟨HT0.out.1, HT0.out.2⟩ ?_
              rotate_left
              · (intro W' hW'; obtain ⟨s0, s1⟩ := hW'; go_simp; try rfl)
              simp only [Act.put, List.setIfInBounds_toArray, List.set_cons_zero, List.set_cons_succ]
              refine wpAnyN_take (i := 8) (v := ?_) rfl (by kernel_rfl) (by kernel_rfl) (by kernel_rfl) (by kernel_rfl) (fun _ _ _ h => h) (.inl ⟨by rfl, ?_⟩) ⟨HT0.out.1, HT0.out.2⟩ ?_
              rotate_left
              · (intro W' hW'; obtain ⟨s0, s1⟩ := hW'; go_simp; try rfl)
              simp only [Act.put, List.setIfInBounds_toArray, List.set_cons_zero, List.set_cons_succ]
              refine wpAnyN_take (i := 12) (v := ?_) rfl (by kernel_rfl) (by kernel_rfl) (by kernel_rfl) (by kernel_rfl) (fun _ _ _ h => h) (.inl ⟨by rfl, ?_⟩) ⟨HT0.out.1, HT0.out.2⟩ ?_
              rotate_left
              · (intro W' hW'; obtain ⟨s0, s1⟩ := hW'; go_simp; try rfl)
              simp only [Act.put, List.setIfInBounds_toArray, List.set_cons_zero, List.set_cons_succ]
              refine wpAnyN_take (i := 13) (v := ?_) rfl (by kernel_rfl) (by kernel_rfl) (by kernel_rfl) (by kernel_rfl) (fun _ _ _ h => h) (.inl ⟨by rfl, ?_⟩) ⟨HT0.out.1, HT0.out.2⟩ ?_
              rotate_left
              · (intro W' hW'; obtain ⟨s0, s1⟩ := hW'; go_simp; try rfl)
              simp only [Act.put, List.setIfInBounds_toArray, List.set_cons_zero, List.set_cons_succ]
              refine wpAnyN_take (i := 14) (v := ?_) rfl (by kernel_rfl) (by kernel_rfl) (by kernel_rfl) (by kernel_rfl) (fun _ _ _ h => h) (.inl ⟨by rfl, ?_⟩) ⟨HT0.out.1, HT0.out.2⟩ ?_
              rotate_left
              · (intro W' hW'; obtain ⟨s0, s1⟩ := hW'; go_simp; try rfl)
              simp only [Act.put, List.setIfInBounds_toArray, List.set_cons_zero, List.set_cons_succ]
              refine wpAnyN_take (i := 15) (v := ?_) rfl (by kernel_rfl) (by kernel_rfl) (by kernel_rfl) (by kernel_rfl) (fun _ _ _ h => h) (.inl ⟨by rfl, ?_⟩) ⟨HT0.out.1, HT0.out.2⟩ ?_
              rotate_left
              · (intro W' hW'; obtain ⟨s0, s1⟩ := hW'; go_simp; try rfl)
              simp only [Act.put, List.setIfInBounds_toArray, List.set_cons_zero, List.set_cons_succ]
              refine wpAnyN_take (i := 16) (v := ?_) rfl (by kernel_rfl) (by kernel_rfl) (by kernel_rfl) (by kernel_rfl) (fun _ _ _ h => h) (.inl ⟨by rfl, ?_⟩) ⟨HT0.out.1, HT0.out.2⟩ ?_
              rotate_left
              · (intro W' hW'; obtain ⟨s0, s1⟩ := hW'; go_simp; try rfl)
              simp only [Act.put, List.setIfInBounds_toArray, List.set_cons_zero, List.set_cons_succ]
              refine wpAnyN_take (i := 17) (v := ?_) rfl (by kernel_rfl) (by kernel_rfl) (by kernel_rfl) (by kernel_rfl) (fun _ _ _ h => h) (.inl ⟨by rfl, ?_⟩) ⟨HT0.out.1, HT0.out.2⟩ ?_
              rotate_left
              · (intro W' hW'; obtain ⟨s0, s1⟩ := hW'; go_simp; try rfl)
              simp only [Act.put, List.setIfInBounds_toArray, List.set_cons_zero, List.set_cons_succ]
              refine wpAnyN_one (i := 9) rfl (by kernel_rfl) (fun K hK => ?_)
              go_simp
              refine (glossatorref15_number.calls _ _ _ _ HNA.out).mono ?_
              rintro e w7 ⟨rfl, hb⟩
              have HO7 := Aside0.mk (HO6.out.below hb)
              have HB7 := Aside0.mk (below_step HB6.out hb)
              have HT1 := Aside0.mk (HCX.out _ HB7.out)
              clear hb
              refine hK.out _ _ (fun _ => HT1.out) (fun _ => ?_)
              clear hK K
              try simp only [Act.put, List.setIfInBounds_toArray, List.set_cons_zero, List.set_cons_succ]
              refine wpAnyN_take (i := 10) (v := ?_) rfl (by kernel_rfl) (by kernel_rfl) (by kernel_rfl) (by kernel_rfl) (fun _ _ _ h => h) (.inl ⟨by rfl, ?_⟩) ⟨HT1.out.1, HT1.out.2⟩ ?_
              rotate_left
              · (intro W' hW'; obtain ⟨s0, s1⟩ := hW'; go_simp; try rfl)
              simp only [Act.put, List.setIfInBounds_toArray, List.set_cons_zero, List.set_cons_succ]
              refine wpAnyN_take (i := 11) (v := ?_) rfl (by kernel_rfl) (by kernel_rfl) (by kernel_rfl) (by kernel_rfl) (fun _ _ _ h => h) (.inl ⟨by rfl, ?_⟩) ⟨HT1.out.1, HT1.out.2⟩ ?_
              rotate_left
              · (intro W' hW'; obtain ⟨s0, s1⟩ := hW'; go_simp; try rfl)
              simp only [Act.put, List.setIfInBounds_toArray, List.set_cons_zero, List.set_cons_succ]
              refine wpAnyN_one (i := 18) rfl (by kernel_rfl) (fun K hK => ?_)
              go_simp
              refine (glossatorref15_number.calls _ _ _ _ HNB.out).mono ?_
              rintro e w8 ⟨rfl, hb⟩
              have HO8 := Aside0.mk (HO7.out.below hb)
              have HB8 := Aside0.mk (below_step HB7.out hb)
              have HT2 := Aside0.mk (HCX.out _ HB8.out)
              clear hb
              refine hK.out _ _ (fun _ => HT2.out) (fun _ => ?_)
              clear hK K
              try simp only [Act.put, List.setIfInBounds_toArray, List.set_cons_zero, List.set_cons_succ]
              refine wpAnyN_take (i := 19) (v := ?_) rfl (by kernel_rfl) (by kernel_rfl) (by kernel_rfl) (by kernel_rfl) (fun _ _ _ h => h) (.inl ⟨by rfl, ?_⟩) ⟨HT2.out.1, HT2.out.2⟩ ?_
              rotate_left
              · (intro W' hW'; obtain ⟨s0, s1⟩ := hW'; go_simp; try rfl)
              simp only [Act.put, List.setIfInBounds_toArray, List.set_cons_zero, List.set_cons_succ]
              refine wpAnyN_take (i := 20) (v := ?_) rfl (by kernel_rfl) (by kernel_rfl) (by kernel_rfl) (by kernel_rfl) (fun _ _ _ h => h) (.inl ⟨by rfl, ?_⟩) ⟨HT2.out.1, HT2.out.2⟩ ?_
              rotate_left
              · (intro W' hW'; obtain ⟨s0, s1⟩ := hW'; go_simp; try rfl)
              simp only [Act.put, List.setIfInBounds_toArray, List.set_cons_zero, List.set_cons_succ]
              obtain ⟨TX, hTX⟩ : ∃ TX, TX = V ++ ⟨#[32]⟩ ++ A1 ++ ⟨#[45]⟩ ++ B1 ++ ⟨#[10]⟩ := ⟨_, rfl⟩
              rw [← hTX]
              have htx : TX.size ≤ 100 := by rw [hTX]; simp only [ByteArray.size_append, show (⟨#[32]⟩ : ByteArray).size = 1 from rfl, show (⟨#[45]⟩ : ByteArray).size = 1 from rfl, show (⟨#[10]⟩ : ByteArray).size = 1 from rfl]; omega
              rw [← hTX] at HVV
              clear hTX
              obtain ⟨v9, w9, hrun, ho9, hb9⟩ := run_append_text w3.heap.size HO8.out TX 66 (HB8.out.size) (by have := HL2.out; omega)
              have HO9 := Aside0.mk ho9
              have HB9 := Aside0.mk (HB8.out.trans hb9)
              have HT3 := Aside0.mk (HCX.out _ HB9.out)
              clear ho9 hb9
              refine wpAnyN_one (i := 21) rfl (by kernel_rfl) (fun K hK => ?_)
              refine wp_append_run2 (by rfl) (.tmp 54) (.tmp 74) 66 9 rfl hrun ?_
              refine hK.out _ _ (fun _ => HT3.out) (fun _ => ?_)
              clear hK K
              simp only [Act.put, List.setIfInBounds_toArray, List.set_cons_zero, List.set_cons_succ]
              refine wpAnyN_take (i := 22) (v := ?_) rfl (by kernel_rfl) (by kernel_rfl) (by kernel_rfl) (by kernel_rfl) (fun _ _ _ h => h) (.inl ⟨by rfl, ?_⟩) ⟨HT3.out.1, HT3.out.2⟩ ?_
              rotate_left
              · (intro W' hW'; obtain ⟨s0, s1⟩ := hW'; go_simp; try rfl)
              simp only [Act.put, List.setIfInBounds_toArray, List.set_cons_zero, List.set_cons_succ]
              refine wpAnyN_done (by kernel_rfl) (NoPanic.normal ?_) _
              obtain ⟨acc3, hacc3⟩ : ∃ l, l = linesT (xs.take (i + 1)) := ⟨_, rfl⟩
              rw [← HVV.out, ← hacc3] at HO9
              have HAC := Aside0.mk hacc3
              obtain ⟨A9, c9, rfl⟩ := HO9.out.slice
              clear hacc3 hrun HVV HSPAN HTK3 HO8 HB8 HO7 HB7 HO6 HB6 HT0 HT1 HT2 HT3 y0 y1 y2 y3 y4 ha hbb hVs htx
              by_cases clen : acc3.length > 1048576
              · go_wp2
                go_ret2
                refine ⟨?_, below_step (below_step HB2.out HB3.out) HB9.out⟩
                have := lines_take xs (i + 1)
                rw [← HAC.out] at this
                rw [printT, hok, if_pos rfl, ← HXS.out, if_pos (by omega)]
                rfl
              · go_wp2
                go_roundg (xs.length - (i + 1))
                case measure => have := HK.out; omega
                case rel => exact ⟨i + 1, by (have := HXL.out; rw [wrap_id (by omega) (by omega)]; rfl), by omega, ⟨rfl⟩, ⟨by rw [← HAC.out]; exact HO9.out⟩, HB9, ⟨by rw [← HAC.out]; omega⟩⟩
      · obtain rfl : i = xs.length := by omega
        rw [List.take_length] at HO HL
        have hcv := run_text HO.out
        obtain ⟨A9, c9, rfl⟩ := HO.out.slice
        go_wp2
        go_ret2
        refine ⟨?_, below_step (below_step HB2.out HB3.out) HB.out⟩
        rw [printT, hok, if_pos rfl, ← HXS.out, if_neg (by have := HL.out; omega)]
        rfl
end Go.Proofs.YtcfeijdcanpflaaDoor.H
