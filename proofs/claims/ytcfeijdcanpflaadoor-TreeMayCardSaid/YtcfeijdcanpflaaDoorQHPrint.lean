/- tree.Print: its walk. -/
import Derived.Test.YtcfeijdcanpflaaDoorQHTreeWalkU
import Derived.Test.YtcfeijdcanpflaaDoorQHPrintPlain
import Derived.Test.YtcfeijdcanpflaaDoorQHShelf
import Derived.Test.YtcfeijdcanpflaaDoorQHRound
set_option linter.unusedVariables false
set_option linter.unusedSimpArgs false
namespace Go.Proofs.YtcfeijdcanpflaaDoor.H
open Go.RowKit Go.Shelf Go.Proofs.YtcfeijdcanpflaaDoorW.PrintWords Go.Proofs.YtcfeijdcanpflaaDoorW.PrintLast Go.Proofs.YtcfeijdcanpflaaDoorW.PrintMore
attribute [local go_sem] Oper.semAt_some
theorem others_below {b : Option Nat} {X X' : World} (h : Below X.heap.size X X') : Lib.OthersKept 5 b X X' := fun k o ho _ _ => (h.block k (Array.getElem?_eq_some_iff.1 ho).1).trans ho
theorem kp_builder {n0 B b : Nat} (h0 : n0 ≤ b) (hB : b < B) {X X' : World} (h1 : Below b X X') (h2 : Lib.OthersKept 5 (some b) X X') : KeepsFrom B X X' ∧ Kp n0 B [] X X' := by
  have hnc : ∀ (k : Nat) (o : Obj), B ≤ k → o.isCells = false → X.heap[k]? = some o → X'.heap[k]? = some o := fun k o hk hc ho =>
    h2 k o ho (fun e => by injection e; omega) (fun c fz e => by subst e; cases hc)
  exact ⟨⟨h1.size, fun k o hk ho hc => hnc k o hk hc ho⟩, ⟨h1.mono h0, fun k cs t fz ht hk _ hc => h2 k _ hc (fun e => by injection e; omega) (fun c fz' e => by injection e with e1 e2 e3; exact ht e2), fun k hf => (by obtain ⟨_, h, _⟩ := hf; cases h), fun k o hk hc ho => hnc k o (by omega) hc ho⟩⟩
theorem kp_set {n0 B : Nat} {Y X X' : World} (hY : KeepsFrom B Y X') (hX : Kp n0 B [] X X') {p : Addr} (h0 : n0 ≤ p.block) (h1 : p.block < B) (v : Value) : KeepsFrom B Y (X'.setCell p v) ∧ Kp n0 B [] X (X'.setCell p v) := by
  have hne : ∀ k, B ≤ k → (X'.setCell p v).heap[k]? = X'.heap[k]? := fun k hk => Below.heap_setCell _ _ _ _ (by omega)
  exact ⟨⟨by simpa using hY.size, fun k o hk ho hc => (hne k hk).trans (hY.same k o hk ho hc)⟩, ⟨hX.low.setCell h0 v, fun k cs t fz ht hk hn hc => (hne k hk).trans (hX.high k cs t fz ht hk hn hc), fun k hf => (by obtain ⟨_, h, _⟩ := hf; cases h), fun k o hk hc ho => (hne k (by omega)).trans (hX.rest k o hk hc ho)⟩⟩
def ers {W0 : World} (pre : List (Told W0)) : List (S25 × Int × Int) := pre.map fun x => er x.1
abbrev namesO : Obj := .cells (NAMES.map Value.string).toArray 63 (0, 0)
theorem names_cell {X : World} {lb : Nat} (h : X.heap[lb]? = some namesO) (k : Int) (h0 : 0 ≤ k) (h1 : k ≤ 68) : X.cell? ⟨lb, k.toNat, none⟩ = some (.string (nameB k)) := by
  rw [blk_cell h]
  have hl : NAMES.length = 69 := by decide +kernel
  have hk : k.toNat < NAMES.length := by omega
  unfold nameB
  rw [List.getD_eq_getElem?_getD, List.getElem?_eq_getElem hk]
  simp [List.getElem?_eq_getElem hk]
abbrev boxS (k w wd : Int) (A : Option Addr) (n c : Nat) (f t d : Int) : Obj := .cells #[.int .u8 k, .int .u8 w, .int .i64 wd, .slice A n c, .int .i64 f, .int .i64 t, .int .i64 d] 61 (0, 0)
structure St (w Y : World) (b q lb : Nat) (o : Obj) (acc : List UInt8) (X : World) : Prop where
  isB : IsB b b acc X
  box : X.heap[q]? = some o
  names : X.heap[lb]? = some namesO
  low0 : Below w.heap.size w X
  low : Below b Y X
  oth : Lib.OthersKept 5 (some b) Y X
theorem St.below {w Y : World} {b q lb : Nat} {o : Obj} {acc : List UInt8} {X X' : World} (h : St w Y b q lb o acc X) (hb : Below X.heap.size X X') (hbX : b ≤ X.heap.size) : St w Y b q lb o acc X' :=
  ⟨h.isB.below hb, (hb.block q (Array.getElem?_eq_some_iff.1 h.box).1).trans h.box, (hb.block lb (Array.getElem?_eq_some_iff.1 h.names).1).trans h.names, h.low0.trans (hb.mono h.low0.size), h.low.trans (hb.mono hbX), h.oth.trans (others_below hb)⟩
theorem St.write {w Y : World} {b q lb : Nat} {o : Obj} {acc acc' : List UInt8} {X X' : World} (h : St w Y b q lb o acc X) (h1 : IsB b b acc' X') (hb : Below b X X') (ho : Lib.OthersKept 5 (some b) X X') (hq : q ≠ b) (ht : ∀ c fz, o ≠ .cells c 5 fz) (hlb : lb < b) (hwb : w.heap.size ≤ b) : St w Y b q lb o acc' X' :=
  ⟨h1, ho q o h.box (fun e => hq (by injection e)) ht, (hb.block lb hlb).trans h.names, h.low0.trans (hb.mono hwb), h.low.trans hb, h.oth.trans ho⟩
theorem St.size {w Y : World} {b q lb : Nat} {o : Obj} {acc : List UInt8} {X : World} (h : St w Y b q lb o acc X) (hY : b ≤ Y.heap.size) : b ≤ X.heap.size := Nat.le_trans hY h.low.size
theorem print_results (tmps : Array Value) (X : World) (b0 b1 : Nat) (s : ByteArray) (n : Int) (h2 : tmps[2]?.getD undef = .pointer (some ⟨b0, 0, none⟩)) (h3 : tmps[3]?.getD undef = .pointer (some ⟨b1, 0, none⟩))
    (c0 : X.cell? ⟨b0, 0, none⟩ = some (.string s)) (c1 : X.cell? ⟨b1, 0, none⟩ = some (.int .i64 n)) : (results Tryd.f13 tmps).run Tryd.prog X = .ok (.tuple #[.string s, .int .i64 n]) X := by
  simp [results, show Tryd.f13.results = #[.cell 2 9, .cell 3 45] from rfl, h2, h3, c0, c1, go_sem]
theorem cell_string {X : World} {b : Nat} {v : Value} {t : TypeId} (h : X.heap[b]? = some (.cells #[v] t (0, 0))) : X.cell? ⟨b, 0, none⟩ = some v := by
  rw [blk_cell h]
  rfl
set_option maxHeartbeats 8000000 in
set_option maxRecDepth 100000 in
theorem print_in (T : AT) (w : World) (hT : AtT w T) (hb : byteT T.erase) (hN : tsize T.erase ≤ 2000000) (htab : Tab w) :
    Calls Tryd.prog 13 #[.agg #[.int .u8 T.k, .int .u8 T.w, .int .i64 T.wd, .slice T.A T.kids.length T.c]] w fun e w' => e = .returned (.tuple #[.string (printT T.erase).1, .int .i64 (printT T.erase).2]) ∧ Below w.heap.size w w' := by
  refine (callsIn_wide (n := 3)).1 ?_
  have HTAB := Aside0.mk htab
  have HBT := Aside0.mk hb
  have HNN := Aside0.mk hN
  obtain ⟨W1, hW1⟩ : ∃ W1, W1 = ((w.alloc (boxN T.k T.w T.wd T.A T.kids.length T.c)).alloc (.cells #[.string ⟨#[]⟩] 9)).alloc (.cells #[.int .i64 0] 45) := ⟨_, rfl⟩
  have hs1 : W1.heap.size = w.heap.size + 3 := by rw [hW1]; simp
  have hb1 : Below w.heap.size w W1 := by rw [hW1]; exact Below.alloc (Below.alloc (below_alloc (Below.refl _ _) _) (by simp) _) (by simp; omega) _
  have hr0 : W1.heap[w.heap.size + 1]? = some (.cells #[.string ⟨#[]⟩] 9 (0, 0)) := by
    rw [hW1, Below.heap_alloc _ _ _ (by simp)]
    have := heap_alloc_new (w.alloc (boxN T.k T.w T.wd T.A T.kids.length T.c)) (.cells #[.string ⟨#[]⟩] 9)
    simpa using this
  have hr1 : W1.heap[w.heap.size + 1 + 1]? = some (.cells #[.int .i64 0] 45 (0, 0)) := by
    rw [hW1]
    have := heap_alloc_new ((w.alloc (boxN T.k T.w T.wd T.A T.kids.length T.c)).alloc (.cells #[.string ⟨#[]⟩] 9)) (.cells #[.int .i64 0] 45)
    simpa using this
  have hbn : W1.heap[w.heap.size]? = some (boxN T.k T.w T.wd T.A T.kids.length T.c) := by
    rw [hW1, Below.heap_alloc _ _ _ (by simp; omega), Below.heap_alloc _ _ _ (by simp)]
    exact heap_alloc_new w _
  have hu := Tryd.underlying25
  have hT1 : AtT W1 T := AtT.below hb1 T hT
  have hC := C_of_AT _ T (Nat.lt_succ_self _) W1 hT1
  have hle : (eraseL T.kids).length ≤ T.c := by
    rw [eraseL_length]
    obtain ⟨k, w1, wd, A, c, kids⟩ := T
    simp only [AtT] at hT
    exact hT.1
  have hright := tree_Right.calls T.k T.w T.wd T.A T.c (eraseL T.kids) (okB T.erase) W1 (by rw [eraseL_length]; exact hC) hle (by rw [erase_f]; exact right_prog _ _ _ _)
  rw [eraseL_length] at hright
  have HRIGHT := Aside0.mk hright
  have HT := Aside0.mk hT
  have HB1 := Aside0.mk hb1
  have HR0 := Aside0.mk hr0
  have HR1 := Aside0.mk hr1
  have HBN := Aside0.mk hbn
  have HS1 := Aside0.mk hs1
  clear hright hT hb1 hr0 hr1 hbn hs1 hC hle hT1 htab hb hN
  refine callsIn_of_wp_marks Tryd.func13 rfl trivial ?_ rfl
  simp only [Tryd.ntmps13, List.size_toArray, List.length_cons, List.length_nil, Nat.reduceAdd, Nat.reduceSub, Array.replicate_succ, Array.replicate_zero, List.push_toArray, List.append_toArray, List.nil_append, List.cons_append]
  gi_wp2
  refine ⟨trivial, ?_⟩
  change CallsIn Fence.wide 2 Tryd.prog 10 _ (((w.alloc (boxN T.k T.w T.wd T.A T.kids.length T.c)).alloc (.cells #[.string ⟨#[]⟩] 9)).alloc (.cells #[.int .i64 0] 45)) _
  rw [← hW1]
  refine (callsIn_wide.2 HRIGHT.out).mono ?_
  rintro e w2 ⟨rfl, hb2⟩
  have hr0 := blk_below HR0.out hb2
  have hr1 := blk_below HR1.out hb2
  have hbn := blk_below HBN.out hb2
  have HB2 := Aside0.mk (below_step HB1.out hb2)
  have HZ2 := Aside0.mk (show w.heap.size + 3 ≤ w2.heap.size by have := hb2.size; have := HS1.out; omega)
  clear hb2 HRIGHT hW1 HB1 HR0 HR1 HBN HS1 W1
  have f0 := blk_frozen hr0 0
  have f1 := blk_frozen hr1 0
  have l0 := blk_lt hr0
  have l1 := blk_lt hr1
  have c0 := blk_cell hr0 0
  have c1 := blk_cell hr1 0
  simp at c0 c1
  cases hok : okB T.erase with
  | false =>
    have HR0 := Aside0.mk hr0
    have HR1 := Aside0.mk hr1
    clear hr0 hr1 hbn
    gi_wp2
    have e0 := blk_far (blk_set HR0.out 0 (.string ⟨#[]⟩)) (p := ⟨w.heap.size + 1 + 1, 0, none⟩) (show w.heap.size + 1 ≠ w.heap.size + 1 + 1 by omega) (.int .i64 150)
    have e1 := blk_set (blk_far HR1.out (p := ⟨w.heap.size + 1, 0, none⟩) (show w.heap.size + 1 + 1 ≠ w.heap.size + 1 by omega) (.string ⟨#[]⟩)) 0 (.int .i64 150)
    refine ⟨_, print_results _ _ _ _ _ _ rfl rfl (cell_string e0) (cell_string e1), ?_, (HB2.out.setCell (show w.heap.size ≤ w.heap.size + 1 by omega) _).setCell (show w.heap.size ≤ w.heap.size + 1 + 1 by omega) _⟩
    rw [printT, hok]
    rfl
  | true =>
    have k0 := blk_cell hbn 0
    have k1 := blk_cell hbn 1
    have k2 := blk_cell hbn 2
    have k3 := blk_cell hbn 3
    have kl := blk_lt hbn
    simp at k0 k1 k2 k3
    have HR0 := Aside0.mk hr0
    have HR1 := Aside0.mk hr1
    have HBN := Aside0.mk hbn
    clear hr0 hr1 hbn f0 f1 l0 l1 c0 c1 k0 k1 k2 k3 kl
    have hz := zero_names
    have hst := names_store
    gi_wp2
    refine ⟨trivial, ?_⟩
    refine (callsIn_wide.2 (names_calls _)).mono ?_
    rintro e w3 ⟨rfl, hb3⟩
    obtain ⟨W4, hW4⟩ : ∃ W4, W4 = w3.alloc (.cells (NAMES.map Value.string).toArray 63) := ⟨_, rfl⟩
    obtain ⟨W5, hW5⟩ : ∃ W5, W5 = W4.alloc (.cells #[.pointer none, .slice none 0 0] 68) := ⟨_, rfl⟩
    obtain ⟨W6, hW6⟩ : ∃ W6, W6 = W5.alloc (boxN T.k T.w T.wd T.A T.kids.length T.c) := ⟨_, rfl⟩
    have hb4 : Below w3.heap.size w3 W4 := by rw [hW4]; exact below_alloc (Below.refl _ _) _
    have hb5 : Below W4.heap.size W4 W5 := by rw [hW5]; exact below_alloc (Below.refl _ _) _
    have hb6 : Below W5.heap.size W5 W6 := by rw [hW6]; exact below_alloc (Below.refl _ _) _
    have hz4 : W4.heap.size = w3.heap.size + 1 := by rw [hW4]; simp
    have hz5 : W5.heap.size = W4.heap.size + 1 := by rw [hW5]; simp
    have hz6 : W6.heap.size = W5.heap.size + 1 := by rw [hW6]; simp
    have hnm : W4.heap[w3.heap.size]? = some namesO := by rw [hW4]; exact heap_alloc_new _ _
    have hbd : W5.heap[W4.heap.size]? = some (.cells #[.pointer none, .slice none 0 0] 68 (0, 0)) := by rw [hW5]; exact heap_alloc_new _ _
    have hnb6 : W6.heap[W5.heap.size]? = some (boxN T.k T.w T.wd T.A T.kids.length T.c) := by rw [hW6]; exact heap_alloc_new _ _
    have hbn5 := blk_below HBN.out hb3
    have k0 := blk_cell hbn5 0
    have k1 := blk_cell hbn5 1
    have k2 := blk_cell hbn5 2
    have k3 := blk_cell hbn5 3
    have kl := blk_lt hbn5
    simp at k0 k1 k2 k3
    have HISB := Aside0.mk (show IsB W4.heap.size W4.heap.size [] W5 from .inl ⟨Nat.le_refl _, _, hbd, ⟨rfl, .inl ⟨rfl, rfl⟩⟩, by simp [Value.ownBlock]⟩)
    have hb36 := below_step (below_step (below_step hb3 hb4) hb5) hb6
    have HB6 := Aside0.mk (below_step HB2.out hb36)
    have HNM := Aside0.mk (blk_below (blk_below hnm hb5) hb6)
    have HRR0 := Aside0.mk (blk_below HR0.out hb36)
    have HRR1 := Aside0.mk (blk_below HR1.out hb36)
    have HNB6 := Aside0.mk hnb6
    have HSZ := Aside0.mk (show w.heap.size + 3 ≤ w3.heap.size ∧ W4.heap.size = w3.heap.size + 1 ∧ W5.heap.size = W4.heap.size + 1 ∧ W6.heap.size = W5.heap.size + 1 from ⟨Nat.le_trans HZ2.out hb3.size, hz4, hz5, hz6⟩)
    have HISB6 := Aside0.mk (HISB.out.below hb6)
    clear hb3 hb4 hb5 hb6 hz4 hz5 hz6 hnm hbd hnb6 hbn5 hb36 HISB HR0 HR1 HBN HB2 HZ2
    unfold NAMEV
    gi_wp2
    refine ⟨trivial, ?_⟩
    change CallsIn Fence.wide 2 Tryd.prog 23 _ ((w3.alloc (.cells (NAMES.map Value.string).toArray 63)).alloc (.cells #[.pointer none, .slice none 0 0] 68)) _
    rw [← hW4, ← hW5]
    refine (all_in _ _ _ _ _ _ _ _).mono ?_
    rintro e w' ⟨rfl, rfl⟩
    rw [← hW6]
    obtain ⟨b, hbb⟩ : ∃ b, b = w3.heap.size + 1 := ⟨_, rfl⟩
    have hsz := HSZ.out
    rw [show W4.heap.size = b by omega] at HISB6
    have HBB := Aside0.mk hbb
    have HBW6 := Aside0.mk (show b + 2 = W6.heap.size by omega)
    have HWB := Aside0.mk (show w.heap.size + 4 ≤ b by omega)
    have HB5 := Aside0.mk (show W5.heap.size = b + 1 by omega)
    rw [← hbb]
    obtain ⟨lb, hlb⟩ : ∃ lb, lb = w3.heap.size := ⟨_, rfl⟩
    rw [← hlb] at HNM ⊢
    have HLB := Aside0.mk (show lb < b by omega)
    have HLW := Aside0.mk (show w.heap.size + 3 ≤ lb by omega)
    clear hsz hbb hlb hW4 hW5 hW6 hst hz HSZ k0 k1 k2 k3 kl
    gi_wp2
    refine rangeF (w := W6) (gf := 36) (lb := #[.pointer (some ⟨W5.heap.size, 0, none⟩)]) rfl (enters_of Tryd.func36 (by kernel_rfl) rfl)
      (all_stops w w.heap.size W6.heap.size rfl (by have := HBW6.out; have := HWB.out; omega) [] (fun b hb => by cases hb) W5.heap.size T W6 HT.out HB6.out (Nat.le_refl _) HNB6.out)
      (fun h k => Kp.trans h k) (fun W o o' h hc => Kp.record (fun b hb => by cases hb) (by have := HBW6.out; have := HWB.out; omega) W o o' h hc) (Below.refl _ _) (fun _ => rfl)
      (fun pre X => IsB b b (linesT (ers pre)) X ∧ X.heap[lb]? = some namesO ∧ X.heap[w.heap.size + 1]? = some (.cells #[.string ⟨#[]⟩] 9 (0, 0)) ∧ X.heap[w.heap.size + 1 + 1]? = some (.cells #[.int .i64 0] 45 (0, 0)) ∧ Below w.heap.size w X ∧ W6.heap.size + 2 ≤ X.heap.size ∧ (linesT (ers pre)).length ≤ 1048576)
      (fun c pre X => c = .ret ∧ 1048576 < (linesT (ers pre)).length ∧ X.heap[w.heap.size + 1]? = some (.cells #[.string ⟨#[]⟩] 9 (0, 0)) ∧ X.heap[w.heap.size + 1 + 1]? = some (.cells #[.int .i64 3] 45 (0, 0)) ∧ Below w.heap.size w X)
      (fun s A B row hs hg hr => ⟨hs.1.grown hg (fun r h => (hr r h).2), own_cells () A B row hs.2.1 hg hr, own_cells () A B row hs.2.2.1 hg hr, own_cells () A B row hs.2.2.2.1 hg hr, hs.2.2.2.2.1.grown hg hs.2.2.2.2.1.size (fun q hq => by have := (hr q hq).1; have := HBW6.out; have := HWB.out; omega), Nat.le_trans hs.2.2.2.2.2.1 hg.size, hs.2.2.2.2.2.2⟩)
      (fun c s A B row hs hg hr => ⟨hs.1, hs.2.1, own_cells () A B row hs.2.2.1 hg hr, own_cells () A B row hs.2.2.2.1 hg hr, hs.2.2.2.2.grown hg hs.2.2.2.2.size (fun q hq => by have := (hr q hq).1; have := HBW6.out; have := HWB.out; omega)⟩)
      (fun pre X h => fun k hf => by obtain ⟨_, h, _⟩ := hf; cases h)
      (fun Wq hbq hsq => ⟨HISB6.out.below hbq, blk_below HNM.out hbq, blk_below HRR0.out hbq, blk_below HRR1.out hbq, below_step HB6.out hbq, hsq, Nat.zero_le _⟩)
      ?round ?done ?stop
    case round =>
      rintro l' pre ⟨⟨⟨nk, nw, nwd, nA, nc, nkids⟩, f, d⟩, hTn⟩ X C hX ⟨hB, hnm, hr0, hr1, hlow, hsz, hln⟩ hp hC
      have hf := allT_want HBT.out HNN.out (x := er (AT.node nk nw nwd nA nc nkids, f, d)) (by
        rw [← er_all]
        exact List.mem_map_of_mem (hp.subset (by simp)))
      have e0 : (er (AT.node nk nw nwd nA nc nkids, f, d)) = (⟨nk, nw, nwd, eraseL nkids⟩, f, d) := by simp [er, AT.erase]
      rw [e0] at hf
      simp only at hf
      obtain ⟨⟨hk1, hw1, hk0, hw0⟩, hfr, hd0, hd1⟩ := hf
      obtain ⟨dn, rfl⟩ := Int.eq_ofNat_of_zero_le hd0
      obtain ⟨acc, hacc⟩ : ∃ acc, acc = linesT (ers pre) := ⟨_, rfl⟩
      rw [← hacc] at hB hln
      obtain ⟨xx, hxx⟩ : ∃ xx : Told w, xx = ⟨(AT.node nk nw nwd nA nc nkids, f, (dn : Int)), hTn⟩ := ⟨_, rfl⟩
      obtain ⟨t, ht⟩ : ∃ t, t = wrap64 (f + nwd) := ⟨_, rfl⟩
      have HXX := Aside0.mk (show ∀ ys : List (Told w), ys = pre ++ [xx] → linesT (ers ys) = acc ++ (Lib.repeatL [32] dn ++ (wordB nk nw).data.toList ++ (spanB f t).data.toList) by
        rintro _ rfl
        rw [ers, List.map_append, List.map_singleton, linesT_snoc, hxx, ht, e0, hacc]
        rfl)
      have htr : inr t := by rw [ht]; exact inr_wrap _
      have HTR := Aside0.mk htr
      have HKW := Aside0.mk (And.intro hk1 (And.intro hw1 (And.intro hk0 hw0)))
      have HDN := Aside0.mk (show dn < 2000000 by omega)
      have HSZ := Aside0.mk hX
      clear hk1 hw1 hk0 hw0 hd0 hd1
      have HFR := Aside0.mk hfr
      rw [← hxx] at hC hp
      have HC := Aside0.mk hC
      simp only [seenV, AT.k, AT.w, AT.wd, AT.A, AT.c, AT.kids]
      rw [← ht]
      obtain ⟨X2, hX2⟩ : ∃ X2, X2 = X.alloc (boxS nk nw nwd nA nkids.length nc f t dn) := ⟨_, rfl⟩
      have hbx2 : Below X.heap.size X X2 := by rw [hX2]; exact below_alloc (Below.refl _ _) _
      have hq : X2.heap[X.heap.size]? = some (boxS nk nw nwd nA nkids.length nc f t dn) := by rw [hX2]; exact heap_alloc_new X _
      have HBX := Aside0.mk hbx2
      have HQ := Aside0.mk hq
      have HI := Aside0.mk (And.intro hB (And.intro hnm (And.intro hr0 (And.intro hr1 (And.intro hlow (And.intro hsz hln))))))
      have HX2 := Aside0.mk hX2
      have HACC := Aside0.mk hacc
      clear hC hp hxx ht hX2 hq hbx2 hB hnm hr0 hr1 hlow hln htr hfr hacc e0 hsz hX
      gi_wp2
      rw [← HX2.out]
      obtain ⟨hB, hnm, hr0, hr1, hlow, hsz, hln⟩ := HI.out
      refine HC.out _ _ ⟨HBX.out.size, fun q o _ ho _ => (HBX.out.block q (Array.getElem?_eq_some_iff.1 ho).1).trans ho⟩ (Kp.of_below (fun b hb => by cases hb) (hlow.size) (by have := HSZ.out; omega) HBX.out) ⟨by rw [← HACC.out]; exact hB.below HBX.out, blk_below hnm HBX.out, blk_below hr0 HBX.out, blk_below hr1 HBX.out, below_step hlow HBX.out, Nat.le_trans hsz HBX.out.size, by rw [← HACC.out]; exact hln⟩ (fun Wb hKb hIb hcells hszb => ?_)
      obtain ⟨bB, bnm, br0, br1, blow, bsz, bln⟩ := hIb
      rw [← HACC.out] at bB bln
      obtain ⟨q, hqq⟩ : ∃ q, q = X.heap.size := ⟨_, rfl⟩
      rw [← hqq]
      have HS0 := Aside0.mk (show St w Wb b q lb (boxS nk nw nwd nA nkids.length nc f t dn) acc Wb from ⟨bB, by rw [hqq]; exact hcells _ _ _ _ HQ.out, bnm, blow, Below.refl _ _, Lib.OthersKept.refl _ _ _⟩)
      have HQB := Aside0.mk (show b < q by have := HBW6.out; have := HSZ.out; omega)
      have HYB := Aside0.mk (show b + 2 ≤ Wb.heap.size by have := HBW6.out; omega)
      have HRR := Aside0.mk (And.intro br0 br1)
      have HKB := Aside0.mk hKb
      have HSZB := Aside0.mk bsz
      have HLN := Aside0.mk bln
      clear hB hnm hr0 hr1 hlow hln bB bnm br0 br1 blow bsz bln hqq hcells hszb hKb HI HX2 HBX HQ HC
      have q6 := blk_cell HS0.out.box 6
      simp at q6
      have hus := Tryd.underlying61
      gi_wp2
      refine ⟨trivial, ?_⟩
      refine (wideCalls (repeat_calls ⟨#[32]⟩ dn Wb (by have := HDN.out; omega) (by rw [show (⟨#[32]⟩ : ByteArray).size = 1 from rfl]; have := HDN.out; omega))).mono ?_
      rintro e X3 ⟨rfl, hb3⟩
      obtain ⟨R, hR⟩ : ∃ R : ByteArray, R = ⟨(Lib.repeatL (⟨#[32]⟩ : ByteArray).data.toList dn).toArray⟩ := ⟨_, rfl⟩
      have hRl : R.data.toList = Lib.repeatL [32] dn := by rw [hR]
      have HR := Aside0.mk hRl
      have hRs : R.size ≤ 2000000 := by
        have e1 : R.size = R.data.toList.length := rfl
        rw [e1, hRl, Lib.repeatL_length]
        simp
        have := HDN.out
        omega
      rw [← hR]
      have HS3 := Aside0.mk (HS0.out.below hb3 (by have := HYB.out; omega))
      have hsz3 := HS3.out.size (by have := HYB.out; omega)
      clear hR hRl hb3 q6
      gi_wp2
      refine ⟨trivial, ?_⟩
      refine (wideCalls (writeString_calls b b acc R X3 HS3.out.isB (by have := HLN.out; omega) hsz3)).mono ?_
      rintro e X4 ⟨rfl, h1, h2, h3⟩
      have HS4 := Aside0.mk (HS3.out.write h1 h2 h3 (by have := HQB.out; omega) (fun c fz e => by injection e with _ e _; exact absurd e (by decide)) HLB.out (by have := HWB.out; omega))
      have q0 := blk_cell HS4.out.box 0
      simp at q0
      clear h1 h2 h3 HS3 hsz3
      have hup := Tryd.underlying25
      have HZ4 := Aside0.mk (HS4.out.size (by have := HYB.out; omega))
      have HL4 := Aside0.mk (show (acc ++ R.data.toList).length ≤ 3048576 by
        rw [List.length_append]
        have e1 : R.size = R.data.toList.length := rfl
        have := HLN.out
        omega)
      have HE4 := Aside0.mk (show acc ++ R.data.toList = acc ++ Lib.repeatL [32] dn by rw [HR.out])
      obtain ⟨acc4, hacc4⟩ : ∃ l, l = acc ++ R.data.toList := ⟨_, rfl⟩
      rw [← hacc4] at HS4 HL4 HE4
      clear hacc4 HR hRs HLN
      by_cases c50 : nk = 50
      case' pos =>
        have d50 : (nk == 50) = true := by simp [c50]
        have q1 := blk_cell HS4.out.box 1
        simp at q1
        have hn := names_cell HS4.out.names nw HKW.out.2.2.2 (HKW.out.2.1 c50)
        obtain ⟨N, hN⟩ : ∃ N, N = nameB nw := ⟨_, rfl⟩
        have hNs : N.size ≤ 10 := by rw [hN]; exact nameB_size nw
        rw [← hN] at hn
        have HW := Aside0.mk (show wordB nk nw = ⟨#[63]⟩ ++ N by rw [wordB, if_pos c50, hN])
        have hw0 := HKW.out.2.2.2
        have hw1 := HKW.out.2.1 c50
        have z1 : ¬ 9223372036854775807 < 1 + N.size := by omega
        have i1 : nw < 69 := by omega
        have i0 : ¬ nw < 0 := by omega
        clear hN
        gi_wp2
      case' neg =>
        have d50 : (nk == 50) = false := by simp [c50]
        have hn := names_cell HS4.out.names nk HKW.out.2.2.1 HKW.out.1
        obtain ⟨N, hN⟩ : ∃ N, N = nameB nk := ⟨_, rfl⟩
        have hNs : N.size ≤ 10 := by rw [hN]; exact nameB_size nk
        rw [← hN] at hn
        have HW := Aside0.mk (show wordB nk nw = N by rw [wordB, if_neg c50, hN])
        have hw0 := HKW.out.2.2.1
        have hw1 := HKW.out.1
        have i1 : nk < 69 := by omega
        have i0 : ¬ nk < 0 := by omega
        clear hN
        gi_wp2
      all_goals
        refine ⟨trivial, ?_⟩
        obtain ⟨V, hV⟩ : ∃ V, V = wordB nk nw := ⟨_, rfl⟩
        rw [← HW.out, ← hV]
        have hVs : V.size ≤ 11 := by rw [hV, HW.out]; first | omega | (rw [ByteArray.size_append, show (⟨#[63]⟩ : ByteArray).size = 1 from rfl]; omega)
        refine (wideCalls (writeString_calls b b acc4 V X4 HS4.out.isB (by have := HL4.out; omega) HZ4.out)).mono ?_
        rintro e X5 ⟨rfl, h1, h2, h3⟩
        have HS5 := Aside0.mk (HS4.out.write h1 h2 h3 (by have := HQB.out; omega) (fun c fz e => by injection e with _ e _; exact absurd e (by decide)) HLB.out (by have := HWB.out; omega))
        have HZ5 := Aside0.mk (HS5.out.size (by have := HYB.out; omega))
        have HL5 := Aside0.mk (show (acc4 ++ V.data.toList).length ≤ 3048587 by
          rw [List.length_append]
          have e1 : V.size = V.data.toList.length := rfl
          have := HL4.out
          omega)
        have HV := Aside0.mk hV
        obtain ⟨acc5, hacc5⟩ : ∃ l, l = acc4 ++ V.data.toList := ⟨_, rfl⟩
        rw [← hacc5] at HS5 HL5
        have HE5 := Aside0.mk (show acc5 = acc4 ++ (wordB nk nw).data.toList by rw [hacc5, hV])
        clear h1 h2 h3 hacc5 hV hVs HW hNs HL4 HZ4
        gi_wp2
        have hle := Lib.itoa_length_le f HFR.out.1 HFR.out.2
        have hlf := Lib.itoa_length_le t HTR.out.1 HTR.out.2
        obtain ⟨A, hA⟩ : ∃ A : ByteArray, A = itoaB f := ⟨_, rfl⟩
        obtain ⟨B, hB⟩ : ∃ B : ByteArray, B = itoaB t := ⟨_, rfl⟩
        have ha : A.size ≤ 21 := by rw [hA]; exact hle
        have hb : B.size ≤ 21 := by rw [hB]; exact hlf
        have HIA := Aside0.mk (fun (W : World) (ht : Tab W) => (show A = (⟨(Lib.itoa f).toArray⟩ : ByteArray) from hA) ▸ itoa_calls f HFR.out.1 HFR.out.2 W ht)
        have HIB := Aside0.mk (fun (W : World) (ht : Tab W) => (show B = (⟨(Lib.itoa t).toArray⟩ : ByteArray) from hB) ▸ itoa_calls t HTR.out.1 HTR.out.2 W ht)
        have HSPAN := Aside0.mk (show spanB f t = ⟨#[32]⟩ ++ A ++ ⟨#[45]⟩ ++ B ++ ⟨#[10]⟩ by rw [hA, hB]; rfl)
        clear hA hB hle hlf
        have y1 : ¬ 9223372036854775807 < 1 + A.size := by omega
        have y2 : ¬ 9223372036854775807 < 1 + A.size + 1 := by omega
        have y3 : ¬ 9223372036854775807 < 1 + A.size + 1 + B.size := by omega
        have y4 : ¬ 9223372036854775807 < 1 + A.size + 1 + B.size + 1 := by omega
        have hSB : ∀ X' : World, Below X5.heap.size X5 X' → (X'.cell? ⟨q, 4, none⟩ = some (.int .i64 f) ∧ X'.cell? ⟨q, 5, none⟩ = some (.int .i64 t) ∧ St w Wb b q lb (boxS nk nw nwd nA nkids.length nc f t dn) acc5 X') := fun X' h => by
          have h5 := HS5.out.below h HZ5.out
          have q4 := blk_cell h5.box 4
          have q5 := blk_cell h5.box 5
          simp at q4 q5
          exact ⟨q4, q5, h5⟩
        have HSB := Aside0.mk hSB
        clear hSB q0
        have hmix : Tryd.prog.follows .mixedOrders = true := by kernel_rfl
        refine round_need [0, 1, 2, 3, 4, 5, 6, 7, 8, 9, 10, 11, 12] (fun W' => W'.cell? ⟨q, 4, none⟩ = some (.int .i64 f) ∧ W'.cell? ⟨q, 5, none⟩ = some (.int .i64 t)) hmix (by kernel_rfl) (fun ⟨_, _, h⟩ => h) ?_
        have HT0 := Aside0.mk (HSB.out X5.drew (Below.refl _ _).drew)
        have HD0 := Aside0.mk (show Below X5.heap.size X5 X5.drew from (Below.refl _ _).drew)
        refine wpAnyN_take (i := 0) (v := ?_) rfl (by kernel_rfl) (by kernel_rfl) (by kernel_rfl) (by kernel_rfl) (fun _ _ _ h => h) (.inl ⟨by rfl, ?_⟩) ⟨HT0.out.1, HT0.out.2.1⟩ ?_
        rotate_left
        · (intro W' hW'; obtain ⟨s0, s1⟩ := hW'; go_simp; try rfl)
        simp only [Act.put, List.setIfInBounds_toArray, List.set_cons_zero, List.set_cons_succ]
        refine wpAnyN_take (i := 1) (v := ?_) rfl (by kernel_rfl) (by kernel_rfl) (by kernel_rfl) (by kernel_rfl) (fun _ _ _ h => h) (.inl ⟨by rfl, ?_⟩) ⟨HT0.out.1, HT0.out.2.1⟩ ?_
        rotate_left
        · (intro W' hW'; obtain ⟨s0, s1⟩ := hW'; go_simp; try rfl)
        simp only [Act.put, List.setIfInBounds_toArray, List.set_cons_zero, List.set_cons_succ]
        refine wpAnyN_take (i := 2) (v := ?_) rfl (by kernel_rfl) (by kernel_rfl) (by kernel_rfl) (by kernel_rfl) (fun _ _ _ h => h) (.inl ⟨by rfl, ?_⟩) ⟨HT0.out.1, HT0.out.2.1⟩ ?_
        rotate_left
        · (intro W' hW'; obtain ⟨s0, s1⟩ := hW'; go_simp; try rfl)
        simp only [Act.put, List.setIfInBounds_toArray, List.set_cons_zero, List.set_cons_succ]
        refine wpAnyN_take (i := 6) (v := ?_) rfl (by kernel_rfl) (by kernel_rfl) (by kernel_rfl) (by kernel_rfl) (fun _ _ _ h => h) (.inl ⟨by rfl, ?_⟩) ⟨HT0.out.1, HT0.out.2.1⟩ ?_
        rotate_left
        · (intro W' hW'; obtain ⟨s0, s1⟩ := hW'; go_simp; try rfl)
        simp only [Act.put, List.setIfInBounds_toArray, List.set_cons_zero, List.set_cons_succ]
        refine wpAnyN_take (i := 7) (v := ?_) rfl (by kernel_rfl) (by kernel_rfl) (by kernel_rfl) (by kernel_rfl) (fun _ _ _ h => h) (.inl ⟨by rfl, ?_⟩) ⟨HT0.out.1, HT0.out.2.1⟩ ?_
        rotate_left
        · (intro W' hW'; obtain ⟨s0, s1⟩ := hW'; go_simp; try rfl)
        simp only [Act.put, List.setIfInBounds_toArray, List.set_cons_zero, List.set_cons_succ]
        refine wpAnyN_take (i := 8) (v := ?_) rfl (by kernel_rfl) (by kernel_rfl) (by kernel_rfl) (by kernel_rfl) (fun _ _ _ h => h) (.inl ⟨by rfl, ?_⟩) ⟨HT0.out.1, HT0.out.2.1⟩ ?_
        rotate_left
        · (intro W' hW'; obtain ⟨s0, s1⟩ := hW'; go_simp; try rfl)
        simp only [Act.put, List.setIfInBounds_toArray, List.set_cons_zero, List.set_cons_succ]
        refine wpAnyN_one (i := 3) rfl (by kernel_rfl) (fun K hK => ?_)
        go_simp
        refine (HIA.out _ (HTAB.out.below HT0.out.2.2.low0)).mono ?_
        rintro e X6 ⟨rfl, kk, os, hX6⟩
        have HD1 := Aside0.mk (show Below X5.heap.size X5 X6 from hX6 ▸ below_step HD0.out (grow_below _ kk os))
        have HT1 := Aside0.mk (HSB.out X6 HD1.out)
        clear hX6
        refine hK.out _ _ (fun _ => ⟨HT1.out.1, HT1.out.2.1⟩) (fun _ => ?_)
        clear hK K
        try simp only [Act.put, List.setIfInBounds_toArray, List.set_cons_zero, List.set_cons_succ]
        refine wpAnyN_take (i := 4) (v := ?_) rfl (by kernel_rfl) (by kernel_rfl) (by kernel_rfl) (by kernel_rfl) (fun _ _ _ h => h) (.inl ⟨by rfl, ?_⟩) ⟨HT1.out.1, HT1.out.2.1⟩ ?_
        rotate_left
        · (intro W' hW'; obtain ⟨s0, s1⟩ := hW'; go_simp; try rfl)
        simp only [Act.put, List.setIfInBounds_toArray, List.set_cons_zero, List.set_cons_succ]
        refine wpAnyN_take (i := 5) (v := ?_) rfl (by kernel_rfl) (by kernel_rfl) (by kernel_rfl) (by kernel_rfl) (fun _ _ _ h => h) (.inl ⟨by rfl, ?_⟩) ⟨HT1.out.1, HT1.out.2.1⟩ ?_
        rotate_left
        · (intro W' hW'; obtain ⟨s0, s1⟩ := hW'; go_simp; try rfl)
        simp only [Act.put, List.setIfInBounds_toArray, List.set_cons_zero, List.set_cons_succ]
        refine wpAnyN_one (i := 9) rfl (by kernel_rfl) (fun K hK => ?_)
        go_simp
        refine (HIB.out _ (HTAB.out.below HT1.out.2.2.low0)).mono ?_
        rintro e X7 ⟨rfl, kk, os, hX7⟩
        have HD2 := Aside0.mk (show Below X5.heap.size X5 X7 from hX7 ▸ below_step HD1.out (grow_below _ kk os))
        have HT2 := Aside0.mk (HSB.out X7 HD2.out)
        clear hX7
        refine hK.out _ _ (fun _ => ⟨HT2.out.1, HT2.out.2.1⟩) (fun _ => ?_)
        clear hK K
        try simp only [Act.put, List.setIfInBounds_toArray, List.set_cons_zero, List.set_cons_succ]
        refine wpAnyN_take (i := 10) (v := ?_) rfl (by kernel_rfl) (by kernel_rfl) (by kernel_rfl) (by kernel_rfl) (fun _ _ _ h => h) (.inl ⟨by rfl, ?_⟩) ⟨HT2.out.1, HT2.out.2.1⟩ ?_
        rotate_left
        · (intro W' hW'; obtain ⟨s0, s1⟩ := hW'; go_simp; try rfl)
        simp only [Act.put, List.setIfInBounds_toArray, List.set_cons_zero, List.set_cons_succ]
        refine wpAnyN_take (i := 11) (v := ?_) rfl (by kernel_rfl) (by kernel_rfl) (by kernel_rfl) (by kernel_rfl) (fun _ _ _ h => h) (.inl ⟨by rfl, ?_⟩) ⟨HT2.out.1, HT2.out.2.1⟩ ?_
        rotate_left
        · (intro W' hW'; obtain ⟨s0, s1⟩ := hW'; go_simp; try rfl)
        simp only [Act.put, List.setIfInBounds_toArray, List.set_cons_zero, List.set_cons_succ]
        rw [← HSPAN.out]
        obtain ⟨V, hV⟩ : ∃ V, V = spanB f t := ⟨_, rfl⟩
        rw [← hV]
        have hVs : V.size ≤ 46 := by
          rw [hV, HSPAN.out]
          simp only [ByteArray.size_append]
          have e1 : (⟨#[32]⟩ : ByteArray).size = 1 := rfl
          have e2 : (⟨#[45]⟩ : ByteArray).size = 1 := rfl
          have e3 : (⟨#[10]⟩ : ByteArray).size = 1 := rfl
          omega
        have HVV := Aside0.mk hV
        clear hV y1 y2 y3 y4 ha hb HIA HIB
        refine wpAnyN_one (i := 12) rfl (by kernel_rfl) (fun K hK => ?_)
        go_simp
        refine (writeString_calls b b acc5 V X7 HT2.out.2.2.isB (by have := HL5.out; omega) (HT2.out.2.2.size (by have := HYB.out; omega))).mono ?_
        rintro e X8 ⟨rfl, h1, h2, h3⟩
        have HS8 := Aside0.mk (HT2.out.2.2.write h1 h2 h3 (by have := HQB.out; omega) (fun c fz e => by injection e with _ e _; exact absurd e (by decide)) HLB.out (by have := HWB.out; omega))
        refine hK.out _ _ (fun _ => by
          have q4 := blk_cell HS8.out.box 4
          have q5 := blk_cell HS8.out.box 5
          simp at q4 q5
          exact ⟨q4, q5⟩) (fun _ => ?_)
        clear hK K
        refine wpAnyN_done (by kernel_rfl) ?_ _
        try simp only [Act.put, List.setIfInBounds_toArray, List.set_cons_zero, List.set_cons_succ]
        clear h1 h2 h3
        obtain ⟨acc8, hacc8⟩ : ∃ l, l = acc5 ++ V.data.toList := ⟨_, rfl⟩
        rw [← hacc8] at HS8
        have HE8 := Aside0.mk (show acc8 = linesT (ers (pre ++ [xx])) by rw [hacc8, HXX.out _ rfl, HE5.out, HE4.out, HVV.out, List.append_assoc, List.append_assoc, List.append_assoc])
        have HL8 := Aside0.mk (show acc8.length ≤ 4000000 by
          rw [hacc8, List.length_append]
          have e1 : V.size = V.data.toList.length := rfl
          have := HL5.out
          omega)
        clear hacc8 hVs
        gi_wp2
        refine ⟨trivial, ?_⟩
        refine (wideCalls (builderLen_calls b b acc8 X8 HS8.out.isB)).mono ?_
        rintro e X9 ⟨rfl, rfl⟩
        have hlt8 := HS8.out.low
        have hr0 := (hlt8.block (w.heap.size + 1) (by have := HWB.out; omega)).trans HRR.out.1
        have hr1 := (hlt8.block (w.heap.size + 1 + 1) (by have := HWB.out; omega)).trans HRR.out.2
        obtain ⟨hk8, hp8⟩ := kp_builder (n0 := w.heap.size) (B := W6.heap.size) (by have := HWB.out; omega) (by have := HBW6.out; omega) HS8.out.low HS8.out.oth
        have HK8 := Aside0.mk hk8
        have HP8 := Aside0.mk (HKB.out.trans hp8)
        have HXS := Aside0.mk hlt8.size
        clear hk8 hp8 hlt8
        by_cases cl : 1048576 < acc8.length
        · have dl : decide ((acc8.length : Int) > 1048576) = true := decide_eq_true (by omega)
          have dl2 : decide ((1048576 : Int) < (acc8.length : Int)) = true := decide_eq_true (by omega)
          have c0 := blk_cell hr0 0
          have c1 := blk_cell hr1 0
          simp at c0 c1
          have f0 := blk_frozen hr0 0
          have f1 := blk_frozen hr1 0
          have l0 := blk_lt hr0
          have l1 := blk_lt hr1
          have HR0 := Aside0.mk hr0
          have HR1 := Aside0.mk hr1
          have CL := Aside0.mk cl
          clear hr0 hr1 cl
          gi_wp2
          obtain ⟨k1, p1⟩ := kp_set HK8.out HP8.out (p := ⟨w.heap.size + 1, 0, none⟩) (show w.heap.size ≤ w.heap.size + 1 by omega) (show w.heap.size + 1 < W6.heap.size by have := HWB.out; have := HBW6.out; omega) (.string ⟨#[]⟩)
          obtain ⟨k2, p2⟩ := kp_set k1 p1 (p := ⟨w.heap.size + 1 + 1, 0, none⟩) (show w.heap.size ≤ w.heap.size + 1 + 1 by omega) (show w.heap.size + 1 + 1 < W6.heap.size by have := HWB.out; have := HBW6.out; omega) (.int .i64 3)
          have e0 := blk_far (blk_set HR0.out 0 (.string ⟨#[]⟩)) (p := ⟨w.heap.size + 1 + 1, 0, none⟩) (show w.heap.size + 1 ≠ w.heap.size + 1 + 1 by omega) (.int .i64 3)
          have e1 := blk_set (blk_far HR1.out (p := ⟨w.heap.size + 1, 0, none⟩) (show w.heap.size + 1 + 1 ≠ w.heap.size + 1 by omega) (.string ⟨#[]⟩)) 0 (.int .i64 3)
          exact ⟨k2, p2, rfl, by rw [← HE8.out]; exact CL.out, e0, e1, (HS8.out.low0.setCell (show w.heap.size ≤ w.heap.size + 1 by omega) _).setCell (show w.heap.size ≤ w.heap.size + 1 + 1 by omega) _⟩
        · have dl : decide ((acc8.length : Int) > 1048576) = false := decide_eq_false (by omega)
          have dl2 : decide ((1048576 : Int) < (acc8.length : Int)) = false := decide_eq_false (by omega)
          have HR0 := Aside0.mk hr0
          have HR1 := Aside0.mk hr1
          have CL := Aside0.mk cl
          clear hr0 hr1 cl
          gi_wp2
          exact ⟨HK8.out, HP8.out, by rw [← HE8.out]; exact HS8.out.isB, HS8.out.names, HR0.out, HR1.out, HS8.out.low0, by have := HXS.out; have := HSZB.out; omega, by rw [← HE8.out]; have := CL.out; omega⟩
    case done =>
      rintro xs X hS ⟨hB, hnm, hr0, hr1, hlow, hsz, hln⟩ hD
      have HD := Aside0.mk hD
      have HB := Aside0.mk hB
      have HR0 := Aside0.mk hr0
      have HR1 := Aside0.mk hr1
      clear hnm hr0 hr1 hD hB
      gi_wp2
      refine ⟨trivial, ?_⟩
      refine (callsIn_wide.2 (builderString_calls b b _ X HB.out (by have := HBW6.out; omega))).mono ?_
      rintro e X2 ⟨rfl, h1, h2, h3⟩
      have hr0 := (h2.block (w.heap.size + 1) (by have := HWB.out; omega)).trans HR0.out
      have hr1 := (h2.block (w.heap.size + 1 + 1) (by have := HWB.out; omega)).trans HR1.out
      have c0 := blk_cell hr0 0
      have c1 := blk_cell hr1 0
      simp at c0 c1
      have f0 := blk_frozen hr0 0
      have f1 := blk_frozen hr1 0
      have l0 := blk_lt hr0
      have l1 := blk_lt hr1
      have HR0 := Aside0.mk hr0
      have HR1 := Aside0.mk hr1
      have HL2 := Aside0.mk (hlow.trans (h2.mono (show w.heap.size ≤ b by have := HWB.out; omega)))
      have HD2 := Aside0.mk (h3 _ _ HD.out (fun e => by injection e; have := HBW6.out; omega) (fun c fz e => by cases e))
      clear h1 h2 h3 hr0 hr1
      gi_wp2
      have e0 := blk_far (blk_set HR0.out 0 (.string ⟨(linesT (ers xs)).toArray⟩)) (p := ⟨w.heap.size + 1 + 1, 0, none⟩) (show w.heap.size + 1 ≠ w.heap.size + 1 + 1 by omega) (.int .i64 0)
      have e1 := blk_set (blk_far HR1.out (p := ⟨w.heap.size + 1, 0, none⟩) (show w.heap.size + 1 + 1 ≠ w.heap.size + 1 by omega) (.string ⟨(linesT (ers xs)).toArray⟩)) 0 (.int .i64 0)
      have hd := ((Below.heap_setCell (X2.setCell ⟨w.heap.size + 1, 0, none⟩ (.string ⟨(linesT (ers xs)).toArray⟩)) ⟨w.heap.size + 1 + 1, 0, none⟩ (.int .i64 0) W6.heap.size (by have := HWB.out; have := HBW6.out; simp only; omega)).trans (Below.heap_setCell X2 ⟨w.heap.size + 1, 0, none⟩ (.string ⟨(linesT (ers xs)).toArray⟩) W6.heap.size (by have := HWB.out; have := HBW6.out; simp only; omega))).trans HD2.out
      refine ⟨by simp, .inl ⟨_, _, rfl, run_takeDeferred hd, ?_⟩⟩
      have hlb : w.heap.size ≤ W6.heap.size := by have := HWB.out; have := HBW6.out; omega
      refine ⟨_, print_results _ _ _ _ _ _ rfl rfl (cell_string ((World.putObj_heap_other (by have := HWB.out; have := HBW6.out; omega)).trans e0)) (cell_string ((World.putObj_heap_other (by have := HWB.out; have := HBW6.out; omega)).trans e1)), ?_, ((HL2.out.setCell (show w.heap.size ≤ w.heap.size + 1 by omega) _).setCell (show w.heap.size ≤ w.heap.size + 1 + 1 by omega) _).trans (below_putObj _ _ hlb)⟩
      have hxs : ers xs = allT T.erase := by rw [← er_all, ← hS, List.map_map]; rfl
      rw [printT, hok, if_pos rfl, ← hxs, if_neg (by omega)]
    case stop =>
      rintro c pre X hS ⟨rfl, hln, hr0, hr1, hlow⟩ hD
      have HD := Aside0.mk hD
      have HR0 := Aside0.mk hr0
      have HR1 := Aside0.mk hr1
      clear hD hr0 hr1
      gi_wp2
      refine ⟨by simp, .inl ⟨_, _, rfl, run_takeDeferred HD.out, ?_⟩⟩
      have hlb : w.heap.size ≤ W6.heap.size := by have := HWB.out; have := HBW6.out; omega
      refine ⟨_, print_results _ _ _ _ _ _ rfl rfl (cell_string ((World.putObj_heap_other (by have := HWB.out; have := HBW6.out; omega)).trans HR0.out)) (cell_string ((World.putObj_heap_other (by have := HWB.out; have := HBW6.out; omega)).trans HR1.out)), ?_, hlow.trans (below_putObj _ _ hlb)⟩
      obtain ⟨sfx, hsf⟩ := hS
      have hxs : allT T.erase = ers pre ++ sfx.map er := by rw [← er_all, ← hsf, List.map_append, List.map_map]; rfl
      have hlen : 1048576 < (linesT (allT T.erase)).length := by
        rw [hxs]
        unfold linesT at hln ⊢
        rw [List.map_append, List.flatten_append, List.length_append]
        omega
      rw [printT, hok, if_pos rfl, if_pos hlen]
end Go.Proofs.YtcfeijdcanpflaaDoor.H
