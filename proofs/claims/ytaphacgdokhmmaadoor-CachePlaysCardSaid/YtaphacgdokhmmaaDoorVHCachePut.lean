/- cache.Cache's Put. -/
import Derived.Test.YtaphacgdokhmmaaDoorVHCacheAdd
set_option linter.unusedVariables false
set_option linter.unusedSimpArgs false
namespace Go.Proofs.YtaphacgdokhmmaaDoor.H
open Go.RowKit Go.Shelf Go.Proofs.YtaphacgdokhmmaaDoorW.PrintWords Go.Proofs.YtaphacgdokhmmaaDoorW.PrintLast Go.Proofs.YtaphacgdokhmmaaDoorW.PrintMore
open Go.MuLone
theorem wp_append_run {P : Program} {w w' : World} {o : Oper} {a : Act} {K : Act → World → Prop} {Q : Exit → Act → World → Prop} {v' : Value} {b : Bool} {R : Prop} (hb : b = true) (s x : Operand) (t : TypeId)
    (hop : o.op = Op.call { callee := Callee.builtin Builtin.append, args := #[s, x], argTypes := #[t, t] })
    (hrun : (Builtin.append_ #[t, t] o.type #[a.eval s, a.eval x]).run P w = .ok v' w') (hK : K (a.put o.dst v') w') : if b = true then Oper.wp P o a w K Q else R := by
  rw [if_pos hb]
  unfold Oper.wp execOp
  simp only [hop, resolve, invoke, builtin, Sem.run_bind, Sem.run_pure, Result.andThen_ok, List.map_toArray, List.map_cons, List.map_nil, hrun]
  exact hK
def last4 (l : List Res) : List Res := if 4 < l.length then l.drop 1 else l
def putM (M : ByteArray → List Res) (u : ByteArray) (r : Res) : ByteArray → List Res := fun x => if x = u then last4 (M u ++ [r]) else M x
def more (Fp : Nat → Prop) (W W' : World) : Nat → Prop := fun q => Fp q ∨ (W.heap.size ≤ q ∧ q < W'.heap.size)
def owU (ow : Nat → Option ByteArray) (W W' : World) (u : ByteArray) : Nat → Option ByteArray := fun q => if W.heap.size ≤ q ∧ q < W'.heap.size then some u else ow q
theorem res_FK {X : World} {okp : Nat → Prop} {id : ByteArray} {A : Option Addr} {c : Nat} {l : List Int} (hc : l.length ≤ c) (hF : Kd.F (Kd.int .i64) X okp A l.length l) : kres.FK X okp (id, l) [.string id, .slice A l.length c] :=
  fun W' hW => ⟨[.string id], [.slice A l.length c], rfl, rfl, ⟨A, c, rfl, hc, hF W' hW⟩⟩
theorem put_end {Fp : Nat → Prop} {W W5 : World} {b bm cnt : Nat} {n : Int} {D : DataW Value} {ow : Nat → Option ByteArray} {M : ByteArray → List Res} {u : ByteArray} {r : Res} {v : Value} {cnt' : Nat}
    (hx : CIx Fp W b bm cnt n 0 D ow M) (hsz : W.heap.size ≤ W5.heap.size)
    (hblk : W5.heap[b]? = some (.cells #[.int .i64 (n + 1), .int .i32 1, .int .u32 0, .map (some bm)] 51 (0, 0)))
    (hmap : W5.ownsMap Tryd.prog 9 rawE bm cnt' (D.put (keyS u) (.held v)))
    (hold : ∀ q, q < W.heap.size → q ≠ b → q ≠ bm → ow q ≠ some u → W5.heap[q]? = W.heap[q]?)
    (hrow : Kd.N kres 67 W5 0 (fun q => ow q = some u ∨ W.heap.size ≤ q) v (last4 (M u ++ [r]))) (hr : r.2.length ≤ 60000) :
    CIx (more Fp W W5) (W5.setCell ⟨b, 1, none⟩ (.int .i32 0)) b bm cnt' (n + 1) 0 (D.put (keyS u) (.held v)) (owU ow W W5 u) (putM M u r) := by
  have hbW := blk_lt hx.blk
  have hmW : bm < W.heap.size := hx.map.lt
  have h1 : CIx (more Fp W W5) W5 b bm cnt' (n + 1) 1 (D.put (keyS u) (.held v)) (owU ow W W5 u) (putM M u r) := by
    refine ⟨hblk, .inl hx.fb, .inl hx.fm, hx.ne, ?_, ?_, hmap, fun q hq => ?_, fun x hxs => ?_, fun x => ?_, fun x => ?_⟩
    · unfold owU; rw [if_neg (by omega)]; exact hx.ob
    · unfold owU; rw [if_neg (by omega)]; exact hx.om
    · unfold owU at hq
      by_cases e : W.heap.size ≤ q ∧ q < W5.heap.size
      · exact .inr e
      · rw [if_neg e] at hq
        exact .inl (hx.fo q hq)
    · unfold putM
      by_cases e : x = u
      · subst e
        rw [if_pos rfl, mval_put_same hx.map.isMap (keyS_lit _)]
        refine Kd.N_mono (Kd.N_bound hrow) (fun q hq => ?_)
        unfold owU
        by_cases e2 : W.heap.size ≤ q ∧ q < W5.heap.size
        · rw [if_pos e2]
        · rw [if_neg e2]
          rcases hq.1 with h | h
          · exact h
          · exact absurd ⟨h, hq.2⟩ e2
      · rw [if_neg e, mval_put_other (fun h => e (keyS_inj h))]
        refine Kd.N_mono (Kd.N_step (Kd.N_bound (hx.rows x hxs)) (fun q hq hl => hold q hl (fun h => ?_) (fun h => ?_) (fun h => ?_))) (fun q hq => ?_)
        · rw [h, hx.ob] at hq; exact absurd hq.1 (by simp)
        · rw [h, hx.om] at hq; exact absurd hq.1 (by simp)
        · rw [h] at hq; exact e (Option.some.inj hq.1).symm
        · unfold owU
          rw [if_neg (by have := hq.2; omega)]
          exact hq.1
    · unfold putM
      split
      · have := hx.four u
        unfold last4
        split <;> simp <;> simp_all <;> omega
      · exact hx.four x
    · unfold putM
      split
      · intro y hy
        have hy' : y ∈ M u ++ [r] := by
          unfold last4 at hy
          split at hy
          · exact List.mem_of_mem_drop hy
          · exact hy
        rcases List.mem_append.1 hy' with h | h
        · exact hx.dat u y h
        · rw [List.mem_singleton.1 h]; exact hr
      · exact hx.dat x
  exact h1.lock 0
theorem CIx.count {Fp : Nat → Prop} {W : World} {b bm cnt : Nat} {n s : Int} {D : DataW Value} {ow : Nat → Option ByteArray} {M : ByteArray → List Res} (h : CIx Fp W b bm cnt n s D ow M) (n' : Int) : CIx Fp (W.setCell ⟨b, 0, none⟩ (.int .i64 n')) b bm cnt n' s D ow M := by
  have ho : ∀ q, q ≠ b → (W.setCell ⟨b, 0, none⟩ (.int .i64 n')).heap[q]? = W.heap[q]? := fun q hq => Below.heap_setCell _ _ _ _ hq
  obtain ⟨es, clock, h1, h2⟩ := h.map
  exact ⟨by simpa using blk_set h.blk 0 (.int .i64 n'), h.fb, h.fm, h.ne, h.ob, h.om, ⟨es, clock, (ho bm h.ne).trans h1, h2⟩, h.fo,
    fun u hu => Kd.N_step (h.rows u hu) (fun q hq hl => ho q (fun e => by rw [e, h.ob] at hq; cases hq)), h.four, h.dat⟩
theorem drop_N {X w : World} {ok : Nat → Prop} {rows : List (List Value)} {xs : List Res} {v v' : Value} (hl : rows.length = xs.length) (hf : ∀ (j : Nat) (x : Res) (c : List Value), xs[j]? = some x → rows[j]? = some c → kres.FK X (fun k => ok k ∧ some k ≠ v.ownBlock) x c)
    (hb : Below X.heap.size X w) (hR : Kd.R (Kd.raw 2) 67 w X.heap.size (fun k => X.heap.size ≤ k) v' (rows.drop 1)) (hok : ∀ k, X.heap.size ≤ k → ok k) : Kd.N kres 67 w 0 ok v' (xs.drop 1) := by
  refine ⟨fun k hk => hok k (hR.1 k hk), rows.drop 1, by simp [hl], Kd.R_lower (Kd.raw_tight hR) (Nat.zero_le _), fun j x c hx hc => ?_⟩
  rw [List.getElem?_drop] at hx hc
  refine Kd.FK_mono (Kd.FK_below (Kd.FK_bound (hf _ x c hx hc)) hb) (fun k hk => ⟨hk.1.1, fun e => ?_⟩)
  have := hR.1 k e.symm
  have := hk.2
  omega
theorem put_fin {Fp : Nat → Prop} {W w W6 : World} {b bm cnt n : Nat} {D : DataW Value} {ow : Nat → Option ByteArray} {M : ByteArray → List Res} {u : ByteArray} {r : Res} {v : Value}
    (hx : CIx Fp W b bm cnt (n : Int) 0 D ow M) (hc : cnt ≤ n) (hO : w.os = W.os ∧ w.tape = W.tape ∧ w.output = W.output ∧ W.heap.size ≤ w.heap.size)
    (hblk : w.heap[b]? = some (.cells #[.int .i64 ((n : Int) + 1), .int .i32 1, .int .u32 0, .map (some bm)] 51 (0, 0)))
    (hold : ∀ q, q < W.heap.size → q ≠ b → ow q ≠ some u → w.heap[q]? = W.heap[q]?)
    (hrow : Kd.N kres 67 w 0 (fun q => ow q = some u ∨ W.heap.size ≤ q) v (last4 (M u ++ [r]))) (hr : r.2.length ≤ 60000)
    (hturn : w.mapTurned W6 bm) (hown : W6.ownsMap Tryd.prog 9 rawE bm (cnt + 1) (D.put (keyS u) (.held v))) :
    W6.heap[b]? = some (.cells #[.int .i64 ((n : Int) + 1), .int .i32 1, .int .u32 0, .map (some bm)] 51 (0, 0)) ∧ CI (more Fp W (W6.setCell ⟨b, 1, none⟩ (.int .i32 0))) (W6.setCell ⟨b, 1, none⟩ (.int .i32 0)) b (n + 1) (putM M u r) ∧ Chg Fp W (W6.setCell ⟨b, 1, none⟩ (.int .i32 0)) := by
  have hk := turned_keep hturn
  obtain ⟨t1, t2, t3, t4⟩ := turned_same hturn
  obtain ⟨o1, o2, o3, o4⟩ := hO
  have hmW : bm < W.heap.size := hx.map.lt
  have hb6 := (hk b (Ne.symm hx.ne)).trans hblk
  have e : more Fp W (W6.setCell ⟨b, 1, none⟩ (.int .i32 0)) = more Fp W W6 := by unfold more; simp
  refine ⟨hb6, ?_, ?_⟩
  · rw [e]
    refine ⟨bm, cnt + 1, D.put (keyS u) (.held v), owU ow W W6 u, by omega, ?_⟩
    have := put_end (W5 := W6) (r := r) (u := u) (v := v) hx (by omega) hb6 hown (fun q h1 h2 h3 h4 => (hk q h3).trans (hold q h1 h2 h4)) (Kd.N_step hrow (fun q hq _ => hk q (fun e => by
      rw [e] at hq
      rcases hq with h | h
      · rw [hx.om] at h; cases h
      · omega))) hr
    push_cast
    exact this
  · refine ⟨by simp [World.setCell, t1, o1], by simp [World.setCell, t2, o2], by simp [World.setCell, t3, o3], by simp [t4, o4], fun q hq hf => ?_⟩
    have hne : q ≠ b := fun e => hf (e ▸ hx.fb)
    rw [Below.heap_setCell _ _ _ _ (show q ≠ b from hne), hk q (fun e => hf (e ▸ hx.fm)), hold q hq hne (fun e => hf (hx.fo q (by rw [e]; simp)))]
set_option maxHeartbeats 8000000 in
set_option maxRecDepth 100000 in
theorem put_calls (Fp : Nat → Prop) (b n : Nat) (M : ByteArray → List Res) (W : World) (h : CI Fp W b n M) (u : ByteArray) (hu : u.size ≤ maxLen) (A : Option Addr) (c : Nat) (l : List Int) (hlc : l.length ≤ c) (hF : Kd.F (Kd.int .i64) W (fun q => ¬ Fp q) A l.length l) (hl : l.length ≤ 60000) (hn : n ≤ 100000)
    (htab : ∀ W', (∀ q, q < W.heap.size → ¬ Fp q → W'.heap[q]? = W.heap[q]?) → Tab W') :
    Calls Tryd.prog 12 #[.pointer (some ⟨b, 0, none⟩), .string u, .slice A l.length c] W fun e W' => e = .returned (.string (dec ((n : Int) + 1))) ∧ CI (more Fp W W') W' b (n + 1) (putM M u (dec ((n : Int) + 1), l)) ∧ Chg Fp W W' := by
  obtain ⟨bm, cnt, D, ow, hcnt, hx⟩ := h
  have HX := Aside0.mk hx
  have HU := Aside0.mk hu
  have HCNT := Aside0.mk hcnt
  have HLC := Aside0.mk hlc
  have HF := Aside0.mk hF
  have HL := Aside0.mk hl
  have HT := Aside0.mk htab
  have h1 := hx.lock 1
  have HX1 := Aside0.mk h1
  have c1 := blk_cell hx.blk 1
  have f1 := blk_frozen hx.blk 1
  simp at c1
  have HC1 := Aside0.mk c1
  have HF1 := Aside0.mk f1
  clear hx h1 hu hcnt c1 f1 hlc hF hl htab
  go_enter_defers Tryd.func12, Tryd.ntmps12
  go_upto_region 5 with (first | (go_at_call 21; refine (none_calls b bm n 0 W HX.out.blk).mono ?_; rintro e w' ⟨rfl, rfl⟩) | (go_at_call 22; refine (lock_free muLib ⟨b, 1, none⟩ _ HC1.out HF1.out).mono ?_; rintro e w' ⟨rfl, rfl⟩))
  have HW1 := Aside0.mk (show (W.setCell ⟨b, 1, none⟩ (.int .i32 1)).os = W.os ∧ (W.setCell ⟨b, 1, none⟩ (.int .i32 1)).tape = W.tape ∧ (W.setCell ⟨b, 1, none⟩ (.int .i32 1)).output = W.output ∧ (W.setCell ⟨b, 1, none⟩ (.int .i32 1)).heap.size = W.heap.size ∧ ∀ q, q ≠ b → (W.setCell ⟨b, 1, none⟩ (.int .i32 1)).heap[q]? = W.heap[q]? from ⟨by simp [World.setCell], by simp [World.setCell], by simp [World.setCell], by simp, fun q hq => Below.heap_setCell _ _ _ _ hq⟩)
  obtain ⟨W1, hW1⟩ : ∃ W1, W1 = W.setCell ⟨b, 1, none⟩ (.int .i32 1) := ⟨_, rfl⟩
  rw [← hW1] at HX1 HW1
  change Code.wp Tryd.prog _ _ _ (W.setCell ⟨b, 1, none⟩ (.int .i32 1))
  rw [← hW1]
  clear hW1
  have c0 := blk_cell HX1.out.blk 0
  simp at c0
  have HC0 := Aside0.mk c0
  have HX2 := Aside0.mk (HX1.out.count ((n : Int) + 1))
  have HW2 := Aside0.mk (show (W1.setCell ⟨b, 0, none⟩ (.int .i64 ((n : Int) + 1))).os = W.os ∧ (W1.setCell ⟨b, 0, none⟩ (.int .i64 ((n : Int) + 1))).tape = W.tape ∧ (W1.setCell ⟨b, 0, none⟩ (.int .i64 ((n : Int) + 1))).output = W.output ∧ (W1.setCell ⟨b, 0, none⟩ (.int .i64 ((n : Int) + 1))).heap.size = W.heap.size ∧ ∀ q, q ≠ b → (W1.setCell ⟨b, 0, none⟩ (.int .i64 ((n : Int) + 1))).heap[q]? = W.heap[q]? by
    obtain ⟨o1, o2, o3, o4, o5⟩ := HW1.out
    exact ⟨by simp [World.setCell, o1], by simp [World.setCell, o2], by simp [World.setCell, o3], by simp [o4], fun q hq => (Below.heap_setCell _ _ _ _ (show q ≠ b from hq)).trans (o5 q hq)⟩)
  have HTB := Aside0.mk (show Tab (W1.setCell ⟨b, 0, none⟩ (.int .i64 ((n : Int) + 1))) from HT.out _ (fun q hq hf => HW2.out.2.2.2.2 q (fun e => hf (e ▸ HX.out.fb))))
  clear c0
  go_upto_region 6 with (first | (go_at_call 26; refine (atomicAdd_calls b (n : Int) W1 HC0.out (blk_frozen HX1.out.blk 0) (by omega) (by omega)).mono ?_; rintro e w' ⟨rfl, rfl⟩) | (go_at_call 25; refine (formatInt_calls ((n : Int) + 1) (by omega) (by omega) _ HTB.out).mono ?_; rintro e w3 ⟨rfl, hB3⟩; have HB3 := Aside0.mk hB3; clear hB3))
  have HX3 := Aside0.mk (HX2.out.below HB3.out)
  have HW3 := Aside0.mk (show w3.os = W.os ∧ w3.tape = W.tape ∧ w3.output = W.output ∧ W.heap.size ≤ w3.heap.size ∧ ∀ q, q < W.heap.size → q ≠ b → w3.heap[q]? = W.heap[q]? by
    obtain ⟨o1, o2, o3, o4, o5⟩ := HW2.out
    have hb := HB3.out
    rw [o4] at hb
    exact ⟨hb.os.trans o1, hb.tape.trans o2, hb.output.trans o3, by have := hb.size; omega, fun q hq hne => (hb.block q hq).trans (o5 q hne)⟩)
  clear HX2 HW2 HTB HB3 HC0 HX1 HW1
  obtain ⟨id, hid⟩ : ∃ id, id = dec ((n : Int) + 1) := ⟨_, rfl⟩
  rw [← hid]
  have HID := Aside0.mk hid
  clear hid
  obtain ⟨Ar, cr, hv, hlr, _⟩ := Kd.N_reads (HX3.out.rows u HU.out)
  have HNR := Aside0.mk (HX3.out.rows u HU.out)
  have H4 := Aside0.mk (HX.out.four u)
  have HLK := Aside0.mk (show ∀ w' : World, w'.ownsMap Tryd.prog 9 rawE bm cnt D → (Instr.lookup 49 (.map (some bm)) (.string u) false).run Tryd.prog w' = .ok (.slice Ar (M u).length cr) w' from fun w' h => hv ▸ omap_look h klaw Tryd.underlying49 (Tryd.zeroValue65 w') (keyS_of u HU.out))
  rw [hv] at HNR
  obtain ⟨xs, hxs⟩ : ∃ xs, xs = M u := ⟨_, rfl⟩
  rw [← hxs] at HNR H4 HLK hlr
  have HXS := Aside0.mk hxs
  clear hxs hv
  have HX4 := Aside0.mk (HX3.out.below (W' := w3.drew) (Below.refl _ _).drew)
  have HS0 := Aside0.mk (show w3.drew.cell? ⟨b, 3, none⟩ = some (.map (some bm)) ∧ (Instr.lookup 49 (.map (some bm)) (.string u) false).run Tryd.prog w3.drew = .ok (.slice Ar xs.length cr) w3.drew from ⟨by
    have h := blk_cell HX4.out.blk 3
    simp at h
    exact h, HLK.out _ HX4.out.map⟩)
  refine wp_region_noPanic (plain_need [0, 1, 2, 3, 4, 5, 6, 7, 8, 9, 10, 11] (fun W' => W'.cell? ⟨b, 3, none⟩ = some (.map (some bm)) ∧ (Instr.lookup 49 (.map (some bm)) (.string u) false).run Tryd.prog W' = .ok (.slice Ar xs.length cr) W') (by kernel_rfl) ?_)
  refine wpAnyN_take (i := 0) (v := ?_) rfl (by kernel_rfl) (by kernel_rfl) (by kernel_rfl) (by kernel_rfl) (fun _ _ _ h => h) (.inl ⟨by rfl, ?_⟩) HS0.out ?_
  rotate_left
  · (intro W' hW'; obtain ⟨s0, s1⟩ := hW'; go_simp; try rfl)
  simp only [Act.put, List.setIfInBounds_toArray, List.set_cons_zero, List.set_cons_succ]
  refine wpAnyN_take (i := 1) (v := ?_) rfl (by kernel_rfl) (by kernel_rfl) (by kernel_rfl) (by kernel_rfl) (fun _ _ _ h => h) (.inl ⟨by rfl, ?_⟩) HS0.out ?_
  rotate_left
  · (intro W' hW'; obtain ⟨s0, s1⟩ := hW'; go_simp; try rfl)
  simp only [Act.put, List.setIfInBounds_toArray, List.set_cons_zero, List.set_cons_succ]
  refine wpAnyN_take (i := 2) (v := ?_) rfl (by kernel_rfl) (by kernel_rfl) (by kernel_rfl) (by kernel_rfl) (fun _ _ _ h => h) (.inl ⟨by rfl, ?_⟩) HS0.out ?_
  rotate_left
  · (intro W' hW'; obtain ⟨s0, s1⟩ := hW'; go_simp; try rfl)
  simp only [Act.put, List.setIfInBounds_toArray, List.set_cons_zero, List.set_cons_succ]
  refine wpAnyN_take (i := 3) (v := ?_) rfl (by kernel_rfl) (by kernel_rfl) (by kernel_rfl) (by kernel_rfl) (fun _ _ _ h => h) (.inl ⟨by rfl, ?_⟩) HS0.out ?_
  rotate_left
  · (intro W' hW'; obtain ⟨s0, s1⟩ := hW'; go_simp; try rfl)
  simp only [Act.put, List.setIfInBounds_toArray, List.set_cons_zero, List.set_cons_succ]
  refine wpAnyN_take (i := 4) (v := ?_) rfl (by kernel_rfl) (by kernel_rfl) (by kernel_rfl) (by kernel_rfl) (fun _ _ _ h => h) (.inl ⟨by rfl, ?_⟩) HS0.out ?_
  rotate_left
  · (intro W' hW'; obtain ⟨s0, s1⟩ := hW'; go_simp; try rfl)
  simp only [Act.put, List.setIfInBounds_toArray, List.set_cons_zero, List.set_cons_succ]
  refine wpAnyN_take (i := 5) (v := ?_) rfl (by kernel_rfl) (by kernel_rfl) (by kernel_rfl) (by kernel_rfl) (fun _ _ _ h => h) (.inl ⟨by rfl, ?_⟩) HS0.out ?_
  rotate_left
  · (intro W' hW'; obtain ⟨s0, s1⟩ := hW'; go_simp; try rfl)
  simp only [Act.put, List.setIfInBounds_toArray, List.set_cons_zero, List.set_cons_succ]
  refine wpAnyN_take (i := 6) (v := ?_) rfl (by kernel_rfl) (by kernel_rfl) (by kernel_rfl) (by kernel_rfl) (fun _ _ _ h => h) (.inl ⟨by rfl, ?_⟩) HS0.out ?_
  rotate_left
  · (intro W' hW'; obtain ⟨s0, s1⟩ := hW'; go_simp; try rfl)
  simp only [Act.put, List.setIfInBounds_toArray, List.set_cons_zero, List.set_cons_succ]
  refine wpAnyN_take (i := 7) (v := ?_) rfl (by kernel_rfl) (by kernel_rfl) (by kernel_rfl) (by kernel_rfl) (fun _ _ _ h => h) (.inl ⟨by rfl, ?_⟩) HS0.out ?_
  rotate_left
  · (intro W' hW'; obtain ⟨s0, s1⟩ := hW'; go_simp; try rfl)
  simp only [Act.put, List.setIfInBounds_toArray, List.set_cons_zero, List.set_cons_succ]
  refine wpAnyN_one (i := 8) rfl (by kernel_rfl) (fun K hK => ?_)
  go_simp
  refine (clone_calls A c l w3.drew (Kd.F_now (Kd.F_step (W1 := w3.drew) HF.out (fun q hq hl_ => HW3.out.2.2.2.2 q hl_ (fun e => hq (e ▸ HX.out.fb))))) HLC.out HL.out).mono ?_
  rintro e w4 ⟨v4, rfl, hR4, hB4⟩
  obtain ⟨Ac, cc, rfl, hcc, _⟩ := Kd.R_reads hR4
  have HR4 := Aside0.mk hR4
  have HB4 := Aside0.mk hB4
  have HCC := Aside0.mk hcc
  have HX5 := Aside0.mk (HX4.out.below hB4)
  have HS1 := Aside0.mk (show w4.cell? ⟨b, 3, none⟩ = some (.map (some bm)) ∧ (Instr.lookup 49 (.map (some bm)) (.string u) false).run Tryd.prog w4 = .ok (.slice Ar xs.length cr) w4 from ⟨by
    have h := blk_cell HX5.out.blk 3
    simp at h
    exact h, HLK.out _ HX5.out.map⟩)
  have HNR4 := Aside0.mk (Kd.N_below HNR.out ((show Below w3.heap.size w3 w3.drew from (Below.refl _ _).drew).trans hB4))
  clear hR4 hB4 hcc
  refine hK.out _ _ (fun _ => HS1.out) (fun _ => ?_)
  clear hK K
  try simp only [Act.put, List.setIfInBounds_toArray, List.set_cons_zero, List.set_cons_succ]
  refine wpAnyN_one (i := 9) rfl (by kernel_rfl) (fun K hK => ?_)
  go_simp
  refine hK.out _ _ (fun _ => HS1.out) (fun _ => ?_)
  clear hK K
  try simp only [Act.put, List.setIfInBounds_toArray, List.set_cons_zero, List.set_cons_succ]
  have HBY := Aside0.mk (show Below w4.heap.size w4 (w4.alloc (.cells #[.string id, .slice Ac l.length cc] 67)) from below_alloc (Below.refl _ _) _)
  have HXY := Aside0.mk (HX5.out.below HBY.out)
  have HNEW := Aside0.mk (heap_alloc_new w4 (.cells #[.string id, .slice Ac l.length cc] 67))
  have HS2 := Aside0.mk (show (w4.alloc (.cells #[.string id, .slice Ac l.length cc] 67)).cell? ⟨b, 3, none⟩ = some (.map (some bm)) ∧ (Instr.lookup 49 (.map (some bm)) (.string u) false).run Tryd.prog (w4.alloc (.cells #[.string id, .slice Ac l.length cc] 67)) = .ok (.slice Ar xs.length cr) (w4.alloc (.cells #[.string id, .slice Ac l.length cc] 67)) from ⟨by
    have h := blk_cell HXY.out.blk 3
    simp at h
    exact h, HLK.out _ HXY.out.map⟩)
  refine wpAnyN_one (i := 10) rfl (by kernel_rfl) (fun K hK => ?_)
  go_simp
  refine hK.out _ _ (fun _ => HS2.out) (fun _ => ?_)
  clear hK K
  try simp only [Act.put, List.setIfInBounds_toArray, List.set_cons_zero, List.set_cons_succ]
  obtain ⟨Y, hY⟩ : ∃ Y, Y = w4.alloc (.cells #[.string id, .slice Ac l.length cc] 67) := ⟨_, rfl⟩
  rw [← hY] at HBY HXY HNEW HS2
  rw [← hY]
  clear hY
  have HSW4 := Aside0.mk (show W.heap.size ≤ w4.heap.size from Nat.le_trans HW3.out.2.2.2.1 HB4.out.size)
  have hrowlt : ∀ k, (Value.slice Ar xs.length cr).ownBlock = some k → k < w3.heap.size := fun k hk => Kd.N_lt HNR.out k hk
  have hrowu : ∀ k, (Value.slice Ar xs.length cr).ownBlock = some k → ow k = some u := fun k hk => HNR.out.1 k hk
  have hokp : ∀ k, (w3.drew.heap.size ≤ k ∧ k < w4.heap.size) → (ow k = some u ∨ W.heap.size ≤ k) ∧ some k ≠ (Value.slice Ar xs.length cr).ownBlock := fun k hk => ⟨.inr (Nat.le_trans HW3.out.2.2.2.1 hk.1), fun e => by have := hrowlt k e.symm; have h2 : w3.heap.size ≤ k := hk.1; omega⟩
  obtain ⟨g, cap, w5, hrun, hgr, hat, _, hnl, hN5⟩ := append_elemN kres 67 65 (X := w4) (Y := Y) (base := 0) (ok := fun q => ow q = some u ∨ W.heap.size ≤ q) (Kd.N_mono HNR4.out (fun q hq => .inl hq)) (Nat.zero_le _) (fun k hk => .inr (Nat.le_trans HSW4.out hk)) Tryd.underlying65 info67 rfl (show 0 < 2 by decide) (by omega) (by have := H4.out; omega) HBY.out (id, l) [.string id, .slice Ac l.length cc] HNEW.out (res_FK HCC.out (Kd.F_mono (Kd.F_bound (Kd.R_F HR4.out)) (fun q hq => hq))) hokp
  have HG := Aside0.mk hgr
  have HN5 := Aside0.mk hN5
  have hrb : (Value.slice Ar xs.length cr).ownBlock ≠ some b := fun e => by have := hrowu b e; rw [HX.out.ob] at this; cases this
  have hrm : (Value.slice Ar xs.length cr).ownBlock ≠ some bm := fun e => by have := hrowu bm e; rw [HX.out.om] at this; cases this
  have HBK5 := Aside0.mk ((hgr.block b (blk_lt HX5.out.blk) (fun e => hrb e.symm)).trans HX5.out.blk)
  have HM5 := Aside0.mk (HX5.out.map.kept hgr (fun e => hrm e.symm))
  have HH5 := Aside0.mk (show ∀ q, q < W.heap.size → q ≠ b → ow q ≠ some u → w5.heap[q]? = W.heap[q]? from fun q hq hb hu2 => (hgr.block q (Nat.lt_of_lt_of_le hq HSW4.out) (fun e => hu2 (hrowu q e.symm))).trans ((HB4.out.block q (Nat.lt_of_lt_of_le hq HW3.out.2.2.2.1)).trans (HW3.out.2.2.2.2 q hq hb)))
  have HS3 := Aside0.mk (show w5.cell? ⟨b, 3, none⟩ = some (.map (some bm)) ∧ (Instr.lookup 49 (.map (some bm)) (.string u) false).run Tryd.prog w5 = .ok (.slice Ar xs.length cr) w5 from ⟨by
    have h := blk_cell HBK5.out 3
    simp at h
    exact h, HLK.out _ HM5.out⟩)
  have HO5 := Aside0.mk (show w5.os = W.os ∧ w5.tape = W.tape ∧ w5.output = W.output ∧ W.heap.size ≤ w5.heap.size by
    obtain ⟨o1, o2, o3, o4, _⟩ := HW3.out
    exact ⟨hgr.os.trans (HB4.out.os.trans o1), hgr.tape.trans (HB4.out.tape.trans o2), hgr.output.trans (HB4.out.output.trans o3), by have := hgr.size; have := HSW4.out; omega⟩)
  clear hgr hN5 hrowlt hrowu hokp hrb hrm hat hnl
  refine wpAnyN_one (i := 11) rfl (by kernel_rfl) (fun K hK => ?_)
  refine wp_append_run (by rfl) (.tmp 28) (.tmp 33) 65 rfl hrun ?_
  refine hK.out _ _ (fun _ => HS3.out) (fun _ => ?_)
  clear hK K hrun
  try simp only [Act.put, List.setIfInBounds_toArray, List.set_cons_zero, List.set_cons_succ]
  refine wpAnyN_one (i := 12) rfl (by kernel_rfl) (fun K hK => ?_)
  go_simp
  refine hK.out _ _ (fun h => Bool.noConfusion (show false = true from h)) (fun _ => ?_)
  clear hK K
  try simp only [Act.put, List.setIfInBounds_toArray, List.set_cons_zero, List.set_cons_succ]
  refine wpAnyN_done (by kernel_rfl) (NoPanic.normal ?_) _
  have HLA := Aside0.mk (show last4 (M u ++ [(id, l)]) = if xs.length = 4 then (xs ++ [(id, l)]).drop 1 else xs ++ [(id, l)] by
    unfold last4
    rw [← HXS.out]
    have := H4.out
    by_cases e : xs.length = 4
    · rw [if_pos (by simp; omega), if_pos e]
    · rw [if_neg (by simp; omega), if_neg e])
  have h4 := H4.out
  by_cases h4x : xs.length = 4
  · rw [if_pos h4x] at HLA
    have hd4 : (4 : Int) < (xs.length : Int) + 1 := by omega
    have hd4' : 4 < xs.length + 1 := by omega
    obtain ⟨h0, rows, hrl, hR, hf⟩ := HN5.out
    obtain ⟨hnr, hlx, hCx⟩ := Kd.R_reads' hR
    have hcap : ¬ cap = 1 := by omega
    have hcap2 : 1 ≤ cap := by omega
    have hCd := Kd.C_drop (m := 1) (c := cap) hCx (by omega) (by omega)
    rw [if_neg hcap] at hCd
    have HCD := Aside0.mk hCd
    have HRL := Aside0.mk hrl
    have HFF := Aside0.mk hf
    have HNR2 := Aside0.mk hnr
    have HLX := Aside0.mk hlx
    clear hCx hCd hrl hf hR h0 hnr hlx
    have hd4r : (rows.drop 1).length = 4 := by rw [List.length_drop, ← HNR2.out]; omega
    have HCL := Aside0.mk (show Calls Tryd.prog 27 #[.slice (some ⟨g, 2, none⟩) 4 (cap - 1)] w5 fun e w' => ∃ v0_ : Value, e = .returned v0_ ∧ Kd.R (Kd.raw 2) 67 w' w5.heap.size (fun k => w5.heap.size ≤ k) v0_ (rows.drop 1) ∧ Below w5.heap.size w5 w' from by
      have h := cloneRes_calls ⟨g, 2, none⟩ (cap - 1) (rows.drop 1) w5 HCD.out (by rw [hd4r]; have := HLX.out; omega) (by omega)
      rw [hd4r] at h
      exact h)
    clear hd4r
    go_upto_region 9 with (go_at_call 27; refine HCL.out.mono ?_; rintro e w9 ⟨v9, rfl, hR9, hB9⟩; have HR9 := Aside0.mk hR9; have HB9 := Aside0.mk hB9; clear hR9 hB9)
    clear hd4 hd4' hcap hcap2
    have HM9 := Aside0.mk (HM5.out.kept (w' := w9) (row := none) ⟨HB9.out.os, HB9.out.tape, HB9.out.output, HB9.out.size, fun q hq _ => HB9.out.block q hq⟩ (by simp))
    have HBK9 := Aside0.mk (blk_below HBK5.out HB9.out)
    have HH9 := Aside0.mk (show ∀ q, q < W.heap.size → q ≠ b → ow q ≠ some u → w9.heap[q]? = W.heap[q]? from fun q hq h1 h2 => (HB9.out.block q (Nat.lt_of_lt_of_le hq HO5.out.2.2.2)).trans (HH5.out q hq h1 h2))
    have HO9 := Aside0.mk (show w9.os = W.os ∧ w9.tape = W.tape ∧ w9.output = W.output ∧ W.heap.size ≤ w9.heap.size from ⟨HB9.out.os.trans HO5.out.1, HB9.out.tape.trans HO5.out.2.1, HB9.out.output.trans HO5.out.2.2.1, Nat.le_trans HO5.out.2.2.2 HB9.out.size⟩)
    have HN9 := Aside0.mk (drop_N HRL.out HFF.out HB9.out HR9.out (fun k hk => .inr (Nat.le_trans HO5.out.2.2.2 hk)))
    have hcb := blk_cell HBK9.out 3
    simp at hcb
    have HS9 := Aside0.mk hcb
    clear hcb HCL
    obtain ⟨W6, hrun, hown, hturn⟩ := omap_store (val := v9) HM9.out klaw Tryd.underlying49 (show cnt < maxLen by have := HCNT.out; unfold maxLen; omega) (keyS_of u HU.out)
    obtain ⟨hb6, hci, hchg⟩ := put_fin HX.out HCNT.out HO9.out HBK9.out HH9.out (by rw [HLA.out]; exact HN9.out) HL.out hturn hown
    have c3 := HS9.out
    have HC6 := Aside0.mk hb6
    have HCI := Aside0.mk hci
    have HCH := Aside0.mk hchg
    clear hown hturn hb6 hci hchg
    go_wp2_with fail
    have hc9 := blk_cell HC6.out 1
    simp at hc9
    refine leaves_cons (f := 23) (args := #[.pointer (some ⟨b, 1, none⟩)]) (by simp) (by simp [go_sem]) ?_
    refine (unlock_deferred muLib ⟨b, 1, none⟩ .returning _ hc9 (blk_frozen HC6.out 1)).mono ?_
    rintro e u' w'' ⟨rfl, rfl, rfl⟩
    refine ⟨_, results_tmp rfl _ _ _, by rw [← HID.out]; rfl, by rw [← HID.out]; exact HCI.out, HCH.out⟩
  · rw [if_neg h4x] at HLA
    have hd4 : ¬ (4 : Int) < (xs.length : Int) + 1 := by omega
    have hd4' : ¬ 4 < xs.length + 1 := by omega
    go_upto_region 9 with (fail)
    clear hd4 hd4'
    obtain ⟨W6, hrun, hown, hturn⟩ := omap_store (val := .slice (some ⟨g, 0, none⟩) (xs.length + 1) cap) HM5.out klaw Tryd.underlying49 (show cnt < maxLen by have := HCNT.out; unfold maxLen; omega) (keyS_of u HU.out)
    obtain ⟨hb6, hci, hchg⟩ := put_fin HX.out HCNT.out HO5.out HBK5.out HH5.out (by rw [HLA.out]; exact HN5.out) HL.out hturn hown
    have c3 := HS3.out.1
    have HC6 := Aside0.mk hb6
    have HCI := Aside0.mk hci
    have HCH := Aside0.mk hchg
    clear hown hturn hb6 hci hchg
    go_wp2_with fail
    have hc9 := blk_cell HC6.out 1
    simp at hc9
    refine leaves_cons (f := 23) (args := #[.pointer (some ⟨b, 1, none⟩)]) (by simp) (by simp [go_sem]) ?_
    refine (unlock_deferred muLib ⟨b, 1, none⟩ .returning _ hc9 (blk_frozen HC6.out 1)).mono ?_
    rintro e u' w'' ⟨rfl, rfl, rfl⟩
    refine ⟨_, results_tmp rfl _ _ _, by rw [← HID.out]; rfl, by rw [← HID.out]; exact HCI.out, HCH.out⟩
end Go.Proofs.YtaphacgdokhmmaaDoor.H
