/- tree.all, tree.Walk. -/
import Derived.Test.YtobgkpnigjfhmaaDoorQHTreeIter
set_option linter.unusedVariables false
set_option linter.unusedSimpArgs false
namespace Go.Proofs.YtobgkpnigjfhmaaDoor.H
open Go.RowKit Go.Shelf Go.Proofs.YtobgkpnigjfhmaaDoorW.PrintWords Go.Proofs.YtobgkpnigjfhmaaDoorW.PrintLast Go.Proofs.YtobgkpnigjfhmaaDoorW.PrintMore
attribute [local go_sem] Oper.semAt_some
abbrev boxN (k w wd : Int) (A : Option Addr) (n c : Nat) : Obj := .cells #[.int .u8 k, .int .u8 w, .int .i64 wd, .slice A n c] 29 (0, 0)
set_option maxHeartbeats 1000000 in
theorem all_in (n : Nat) (k w1 wd : Int) (A : Option Addr) (m c : Nat) (w : World) :
    CallsIn Fence.wide n Tryd.prog 58 #[.agg #[.int .u8 k, .int .u8 w1, .int .i64 wd, .slice A m c]] w fun e w' => e = .returned (.func (.func 69) #[] #[.pointer (some ⟨w.heap.size, 0, none⟩)]) ∧ w' = w.alloc (boxN k w1 wd A m c) := by
  refine callsIn_of_wp Tryd.func58 rfl trivial ?_ rfl
  simp only [Tryd.ntmps58, List.size_toArray, List.length_cons, List.length_nil, Nat.reduceAdd, Nat.reduceSub, Array.replicate_succ, Array.replicate_zero, List.push_toArray, List.append_toArray, List.nil_append, List.cons_append]
  gi_wp2
  go_ret
  exact ⟨rfl, rfl⟩
set_option maxHeartbeats 1000000 in
theorem walkF_in (n : Nat) (k w1 wd : Int) (A : Option Addr) (m c : Nat) (w : World) :
    CallsIn Fence.wide n Tryd.prog 29 #[.agg #[.int .u8 k, .int .u8 w1, .int .i64 wd, .slice A m c]] w fun e w' => e = .returned (.func (.func 57) #[] #[.pointer (some ⟨w.heap.size, 0, none⟩)]) ∧ w' = w.alloc (boxN k w1 wd A m c) := by
  refine callsIn_of_wp Tryd.func29 rfl trivial ?_ rfl
  simp only [Tryd.ntmps29, List.size_toArray, List.length_cons, List.length_nil, Nat.reduceAdd, Nat.reduceSub, Array.replicate_succ, Array.replicate_zero, List.push_toArray, List.append_toArray, List.nil_append, List.cons_append]
  gi_wp2
  go_ret
  exact ⟨rfl, rfl⟩
theorem OwnFrom.le {β : Type} {B C : Nat} {I : β → World → Prop} (h : OwnFrom B I) (hBC : B ≤ C) : OwnFrom C I := fun s W W' row hs hg hr => h s W W' row hs hg (fun r e => ⟨by have := (hr r e).1; omega, (hr r e).2⟩)
theorem Kp.le {n0 B C : Nat} {bx : List Nat} {W W' : World} (h : Kp n0 B bx W W') (hBC : B ≤ C) : Kp n0 C bx W W' := ⟨h.low, fun k cs t fz hk hn hc => h.high k cs t fz (by omega) hn hc, h.own, fun k o hk ho hc => h.rest k o (by omega) ho hc⟩
theorem own_cells {β : Type} {B : Nat} {k : Nat} {cs : Array Value} {t : TypeId} {fz : Nat × Nat} : OwnFrom B (fun (_ : β) W => W.heap[k]? = some (.cells cs t fz)) := fun s W W' row hs hg hr =>
  (hg.block k (blk_lt hs) (fun e => by obtain ⟨_, o, ho, hc⟩ := hr k e.symm; rw [hs] at ho; cases ho; cases hc)).trans hs
theorem cell_eq {W W' : World} {b : Nat} {o : Nat} (h : W'.heap[b]? = W.heap[b]?) : W'.cell? ⟨b, o, none⟩ = W.cell? ⟨b, o, none⟩ := by
  unfold World.cell?
  simp only [h]
def spanV (x : AT × Int × Int) : Value := .agg #[.int .i64 x.2.1, .int .i64 (wrap64 (x.2.1 + x.1.wd))]
set_option maxHeartbeats 4000000 in
set_option maxRecDepth 100000 in
theorem walk_stops (W0 : World) (n0 B : Nat) (hn0 : n0 = W0.heap.size) (hB : n0 ≤ B) (bx : List Nat) (hbx : ∀ b ∈ bx, b < B) (nb : Nat) (T : AT) (w : World) (hT : AtT W0 T) (hlow : Below n0 W0 w) (hnb : w.heap[nb]? = some (boxN T.k T.w T.wd T.A T.kids.length T.c)) :
    SeqStopsO Tryd.prog 57 #[.pointer (some ⟨nb, 0, none⟩)] (fun x : Told W0 => #[spanV x.1, x.1.1.val]) (Kp n0 B bx) (fun W => Valid bx W ∧ B + 2 ≤ W.heap.size) (fun ys => ys.map (·.1) = T.all) (fun pre => pre.map (·.1) <+: T.all) w := by
  intro n l J Jx W hW hJ hJx hJV0 hY h0
  have hJV : ∀ pre W, J pre W → Valid bx W := fun pre W h => (hJV0 pre W h).1
  have hnbW := blk_below hnb hW
  have hlowW : Below n0 W0 W := hlow.trans (hW.mono (by rw [hn0]; have := hlow.size; exact this))
  have hBW : B + 2 ≤ W.heap.size := (hJV0 _ _ h0).2
  clear hJV0
  obtain ⟨W1, hW1⟩ : ∃ W1, W1 = W.alloc (.cells #[.func (.yield l) #[] #[]] 121) := ⟨_, rfl⟩
  have hb1 : Below W.heap.size W W1 := by rw [hW1]; exact below_alloc (Below.refl _ _) _
  have hyb : W1.heap[W.heap.size]? = some (one1 (.func (.yield l) #[] #[]) 121) := by rw [hW1]; exact heap_alloc_new W _
  have k0 := blk_cell hnbW 0
  have k1 := blk_cell hnbW 1
  have k2 := blk_cell hnbW 2
  have k3 := blk_cell hnbW 3
  simp at k0 k1 k2 k3
  have hlt := blk_lt hnbW
  have hu := Tryd.underlying29
  obtain ⟨W2, hW2⟩ : ∃ W2, W2 = W1.alloc (boxN T.k T.w T.wd T.A T.kids.length T.c) := ⟨_, rfl⟩
  have hb2 : Below W1.heap.size W1 W2 := by rw [hW2]; exact below_alloc (Below.refl _ _) _
  have hnb2 : W2.heap[W1.heap.size]? = some (boxN T.k T.w T.wd T.A T.kids.length T.c) := by rw [hW2]; exact heap_alloc_new W1 _
  have hbW2 := below_step hb1 hb2
  have hs1 : W1.heap.size = W.heap.size + 1 := by rw [hW1]; simp
  have hs2 : W2.heap.size = W.heap.size + 2 := by rw [hW2, World.size_alloc, hs1]
  refine callsIn_of_wp_marks Tryd.func57 rfl trivial ?_ rfl
  simp only [Tryd.ntmps57, List.size_toArray, List.length_cons, List.length_nil, Nat.reduceAdd, Nat.reduceSub, Array.replicate_succ, Array.replicate_zero, List.push_toArray, List.append_toArray, List.nil_append, List.cons_append]
  gi_wp2
  refine ⟨trivial, fun h => (by cases h), ?_⟩
  rw [← hW1]
  refine (all_in _ _ _ _ _ _ _ _).mono ?_
  rintro e w' ⟨rfl, rfl⟩
  rw [← hW2]
  have HYB := Aside0.mk (blk_below hyb hb2)
  have HJ0 := Aside0.mk (abides_below hJ [] W W2 h0 hbW2)
  have HL2 := Aside0.mk (hlowW.trans (hbW2.mono (by omega)))
  have HNB := Aside0.mk hnb2
  have HBW2 := Aside0.mk hbW2
  have h0' := h0
  have HY := Aside0.mk hY
  have HS1 := Aside0.mk hs1
  have HS2 := Aside0.mk hs2
  clear k0 k1 k2 k3 hnb2 hyb hY h0 hW1 hW2 hs1 hs2
  gi_wp2
  refine rangeO (w := W2) (gf := 69) (lb := #[.pointer (some ⟨W1.heap.size, 0, none⟩)]) rfl (enters_of Tryd.func69 (by kernel_rfl) rfl)
    (all_stops W0 n0 W2.heap.size hn0 (by have := HS2.out; omega) bx (fun b hb => by have := hbx b hb; have := HS2.out; omega) W1.heap.size T W2 hT HL2.out (Nat.le_refl _) HNB.out)
    (fun h k => Kp.trans h k) (fun W o o' h hc => Kp.record (fun b hb => by have := hbx b hb; have := HS2.out; omega) (by have := HS2.out; omega) W o o' h hc) (Below.refl _ _) (fun _ => rfl)
    (fun pre X => J pre X ∧ (X.heap[W.heap.size]? = some (one1 (.func (.yield l) #[] #[]) 121) ∧ ¬ fr bx X W.heap.size) ∧ W2.heap.size ≤ X.heap.size)
    (fun c pre X => c = .ret ∧ Jx pre X)
    (fun s A B row hs hg hr => ⟨(OwnFrom.le hJ (by have := HS2.out; omega)) s A B row hs.1 hg hr, ⟨own_cells s A B row hs.2.1.1 hg hr, fun hf => hs.2.1.2 (by
      obtain ⟨b, hb, v, hv, ho⟩ := hf
      refine ⟨b, hb, v, ?_, ho⟩
      have hlt := hbx b hb
      have h2 : B.heap[b]? = A.heap[b]? := hg.block b (by have := HS2.out; have := hs.2.2; omega) (fun e => by have := (hr b e.symm).1; have := HS2.out; omega)
      rw [← cell_eq h2]
      exact hv)⟩, Nat.le_trans hs.2.2 hg.size⟩)
    (fun c s A B row hs hg hr => ⟨hs.1, (OwnFrom.le hJx (by have := HS2.out; omega)) s A B row hs.2 hg hr⟩)
    (fun pre X h => hJV pre X h.1)
    (fun Wq hbq _ => ⟨abides_below hJ [] W2 Wq HJ0.out hbq, ⟨blk_below HYB.out hbq, fun hf => by have := hJV _ _ h0' _ (fr.below hbx (by omega) HBW2.out (fr.below hbx (by have := HS2.out; omega) hbq hf)); omega⟩, hbq.size⟩)
    (fun x a' Ws X => ∃ b, W2.heap.size ≤ b ∧ X.heap[b]? = some (.cells #[.int .u8 x.1.1.k, .int .u8 x.1.1.w, .int .i64 x.1.1.wd, .slice x.1.1.A x.1.1.kids.length x.1.1.c, .int .i64 x.1.2.1, .int .i64 (wrap64 (x.1.2.1 + x.1.1.wd)), .int .i64 x.1.2.2] 126 (0, 0)) ∧
      a' = { tmps := #[.func (.yield l) #[] #[], .pointer (some ⟨nb, 0, none⟩), .pointer (some ⟨W.heap.size, 0, none⟩), .pointer (some ⟨b, 0, none⟩), .agg #[.int .u8 T.k, .int .u8 T.w, .int .i64 T.wd, .slice T.A T.kids.length T.c], .func (.func 69) #[] #[.pointer (some ⟨W1.heap.size, 0, none⟩)], seenV x.1, undef, undef, undef, undef, undef, undef, undef], defers := [] })
    (fun x a' Ws s A B row hs hg hr => by
      obtain ⟨b, h1, h2, h3⟩ := hs
      exact ⟨b, h1, own_cells () A B row h2 hg hr, h3⟩) ?assign ?body ?done ?stop
  case assign =>
    intro l' pre x X C hlt' hi hC
    simp only [seenV]
    have hup : Below X.heap.size X (X.alloc (.cells #[.int .u8 x.1.1.k, .int .u8 x.1.1.w, .int .i64 x.1.1.wd, .slice x.1.1.A x.1.1.kids.length x.1.1.c, .int .i64 x.1.2.1, .int .i64 (wrap64 (x.1.2.1 + x.1.1.wd)), .int .i64 x.1.2.2] 126)) := below_alloc (Below.refl _ _) _
    have HUP := Aside0.mk hup
    have HI := Aside0.mk hi
    clear hup hi
    gi_wp2
    refine hC _ _ ⟨HUP.out.size, fun k o _ ho _ => (HUP.out.block k (Array.getElem?_eq_some_iff.1 ho).1).trans ho⟩ (Kp.of_below (fun b hb => by have := hbx b hb; have := HS2.out; omega) (by have := HS2.out; omega) (by omega) HUP.out) ⟨abides_below hJ pre X _ HI.out.1 HUP.out, ⟨blk_below HI.out.2.1.1 HUP.out, fun hf => HI.out.2.1.2 (fr.below hbx (by have := HS2.out; omega) HUP.out hf)⟩, Nat.le_trans HI.out.2.2 HUP.out.size⟩ ⟨X.heap.size, HI.out.2.2, heap_alloc_new X _, rfl⟩
  case body =>
    rintro l' pre x a' Xs X hsX _ ⟨hj, ⟨hyX, hnX⟩, hszX⟩ hKX ⟨b, hb, hblk, rfl⟩ hlen
    obtain ⟨fn, tmps, assign, body, hyr, hR⟩ := HY.out (n - 1) pre x X hj hlen
    simp only [spanV, AT.val] at hyr
    have HR := Aside0.mk hR
    have HHY := Aside0.mk hyX
    have q0 := blk_cell hblk 0
    have q1 := blk_cell hblk 1
    have q2 := blk_cell hblk 2
    have q3 := blk_cell hblk 3
    have q4 := blk_cell hblk 4
    have q5 := blk_cell hblk 5
    have ky := blk_cell hyX 0
    simp at q0 q1 q2 q3 q4 q5 ky
    have hus := Tryd.underlying126
    have hup := Tryd.underlying41
    clear hR hyX hblk
    simp only [seenV]
    gi_wp2
    refine ⟨fun h => (by cases h), ?_⟩
    refine (show RoundIn (Fence.wide.inRound l') (n - 1) _ _ _ _ _ _ _ _ from HR.out).mono ?_
    clear q0 q1 q2 q3 q4 q5 ky
    have hBX : B + 2 ≤ W2.heap.size := by have := HS2.out; omega
    rintro e X' (⟨rfl, hj', hk'⟩ | ⟨rfl, hx', hk'⟩)
    · have HJ' := Aside0.mk hj'
      have HK' := Aside0.mk hk'
      clear hj' hk'
      gi_wp2
      exact ⟨HK'.out.keeps hBX, hKX.trans (HK'.out.le (by omega)), HJ'.out, ⟨HK'.out.high _ _ _ _ (by omega) hnX HHY.out, HK'.out.notfr (blk_lt HHY.out) hnX⟩, Nat.le_trans hszX HK'.out.low.size⟩
    · have HJ' := Aside0.mk hx'
      have HK' := Aside0.mk hk'
      clear hx' hk'
      gi_wp2
      exact ⟨HK'.out.keeps hBX, hKX.trans (HK'.out.le (by omega)), rfl, HJ'.out⟩
  case done =>
    rintro xs X hS ⟨hj, _, _⟩ hD
    have HD := Aside0.mk hD
    clear hD
    gi_wp2
    refine ⟨by simp, .inl ⟨_, _, rfl, run_takeDeferred HD.out, ?_⟩⟩
    exact ⟨_, results_none rfl _ _ _, ⟨_, rfl⟩, .inl ⟨xs, hS, (OwnFrom.le hJ (by have := HS2.out; omega)).putObj (B := W2.heap.size) _ hj (Nat.le_refl _) HD.out rfl⟩⟩
  case stop =>
    rintro c pre X hS ⟨rfl, hj⟩ hD
    have HD := Aside0.mk hD
    clear hD
    gi_wp2
    refine ⟨by simp, .inl ⟨_, _, rfl, run_takeDeferred HD.out, ?_⟩⟩
    exact ⟨_, results_none rfl _ _ _, ⟨_, rfl⟩, .inr ⟨pre, hS, (OwnFrom.le hJx (by have := HS2.out; omega)).putObj (B := W2.heap.size) _ hj (Nat.le_refl _) HD.out rfl⟩⟩
end Go.Proofs.YtobgkpnigjfhmaaDoor.H
