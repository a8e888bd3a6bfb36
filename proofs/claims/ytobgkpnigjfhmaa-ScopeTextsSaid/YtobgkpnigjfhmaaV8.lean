/- Texts of this claim, merged. -/
import Derived.Test.YtobgkpnigjfhmaaV7
import Derived.Maps.OwnSet
import Derived.Maps.Views
import Derived.Maps.OwnOps
import Derived.WalkSpells
set_option maxRecDepth 100000
set_option maxHeartbeats 8000000
set_option linter.unusedVariables false
set_option linter.unusedSimpArgs false
namespace Go.Proofs.Ytobgkpnigjfhmaa.H
open Go.RowKit Go.Proofs.YtobgkpnigjfhmaaW.PrintWords Go.Proofs.YtobgkpnigjfhmaaW.PrintLast Go.Proofs.YtobgkpnigjfhmaaW.PrintMore
open Go.Maps (Keyed IsMap)
section
def rawE (v : Value) : Option (DataW Value × List MemPlace) := some (.held v, [])
def mval (D : DataW Value) (kl : Lit) (z : Value) : Value := match D.atKey kl (.held z) with | .held v => v | _ => z
variable {P : Program} {k t e : TypeId} {W : World} {b n : Nat} {D : DataW Value} {key val z : Value} {kl kl' : Lit}
theorem rawE_inv {v : Value} {d : DataW Value} {ps : List MemPlace} (h : rawE v = some (d, ps)) : d = .held v := by
 simp [rawE] at h; exact h.1.symm
theorem omap_look (h : W.ownsMap P k rawE b n D) (K : Keyed P k) (ht : P.underlying t = some (.map k e)) (hz : (zeroValue e).run P W = .ok z W) (hkey : keyOf P k key = some kl) :
  (Instr.lookup t (.map (some b)) key false).run P W = .ok (mval D kl z) W := by
 obtain ⟨v, ps, hr, hv⟩ := h.lookup K ht hz (zd := .held z) (zp := []) rfl hkey; rw [hr]; unfold mval
 rw [rawE_inv hv]
theorem omap_store (h : W.ownsMap P k rawE b n D) (K : Keyed P k) (ht : P.underlying t = some (.map k e)) (hn : n < maxLen) (hkey : keyOf P k key = some kl) :
  ∃ W', (Instr.mapUpdate t (.map (some b)) key val).run P W = .ok () W' ∧ W'.ownsMap P k rawE b (n + 1) (D.put kl (.held val)) ∧ W.mapTurned W' b :=
 h.store K ht hn hkey rfl
theorem mval_put_same (hD : IsMap D) (hk : WideAt.IsKeyLit kl) : mval (D.put kl (.held val)) kl z = val := by
 unfold mval
 rw [Maps.atKey_put_same hD hk]
theorem mval_put_other (hne : kl' ≠ kl) : mval (D.put kl (.held val)) kl' z = mval D kl' z := by
 unfold mval
 rw [Maps.atKey_put_other hne]
theorem mval_empty : mval (.map []) kl z = z := by simp [mval, DataW.atKey]
end
theorem turned_grown {W W' : World} {b : Nat} (h : W.mapTurned W' b) : W.grownBy W' (some b) := h.grown
end Go.Proofs.Ytobgkpnigjfhmaa.H
namespace Go.Proofs.Ytobgkpnigjfhmaa.H
open Go.RowKit Go.Proofs.YtobgkpnigjfhmaaW.PrintWords Go.Proofs.YtobgkpnigjfhmaaW.PrintLast Go.Proofs.YtobgkpnigjfhmaaW.PrintMore
open Go.Maps (Keyed IsMap)
open Go.WideMaps
theorem klaw : Keyed Try.prog 9 := Go.Maps.string_keyed Try.underlying9
def keyS (u : ByteArray) : Lit := .string u.data.toList
theorem keyS_of (u : ByteArray) (h : u.size ≤ maxLen) : keyOf Try.prog 9 (.string u) = some (keyS u) := keyOf_string_mk Try.underlying9 h
theorem keyS_inj {u v : ByteArray} (h : keyS u = keyS v) : u = v := by
 unfold keyS at h
 injection h with h
 cases u; cases v; simp only [Array.toList_inj] at h; rw [h]
theorem keyS_lit (u : ByteArray) : WideAt.IsKeyLit (keyS u) := trivial
abbrev nilS : Value := .slice none 0 0
structure SM (W : World) (b n : Nat) (M : ByteArray → Int) : Prop where
 own : ∃ D, W.ownsMap Try.prog 9 rawE b n D ∧ ∀ u, mval D (keyS u) (.int .i64 0) = .int .i64 (M u)
section
variable {W W' : World} {b n : Nat} {M : ByteArray → Int}
theorem SM.keep (h : SM W b n M) (hk : W'.heap[b]? = W.heap[b]?) : SM W' b n M := by
 obtain ⟨D, ⟨es, clock, h1, h2⟩, hd⟩ := h.own; exact ⟨D, ⟨es, clock, hk.trans h1, h2⟩, hd⟩
theorem SM.lt (h : SM W b n M) : b < W.heap.size := by
 obtain ⟨D, ho, _⟩ := h.own; exact ho.lt
theorem SM.mono {m : Nat} (h : SM W b n M) (hm : n ≤ m) : SM W b m M := by
 obtain ⟨D, ho, hd⟩ := h.own; exact ⟨D, ho.mono hm, hd⟩
theorem SM.below (h : SM W b n M) (hb : Below W.heap.size W W') : SM W' b n M := h.keep (hb.block b h.lt)
theorem SM.start (W : World) : SM (W.alloc (.map #[] 0)) W.heap.size 0 (fun _ => 0) := ⟨.map [], World.ownsMap_made W Try.prog 9 rawE, fun u => mval_empty⟩
theorem SM.look (h : SM W b n M) (u : ByteArray) (hu : u.size ≤ maxLen) : (Instr.lookup 121 (.map (some b)) (.string u) false).run Try.prog W = .ok (.int .i64 (M u)) W := by
 obtain ⟨D, ho, hd⟩ := h.own; rw [omap_look ho klaw Try.underlying121 qb (keyS_of u hu), hd u]
theorem SM.store (h : SM W b n M) (u : ByteArray) (hu : u.size ≤ maxLen) (v : Int) (hn : n < maxLen) :
  ∃ W', (Instr.mapUpdate 121 (.map (some b)) (.string u) (.int .i64 v)).run Try.prog W = .ok () W' ∧ SM W' b (n + 1) (upd M u v) ∧ W.mapTurned W' b := by
 obtain ⟨D, ho, hd⟩ := h.own; obtain ⟨W', hr, ho', ht⟩ := omap_store (val := .int .i64 v) ho klaw Try.underlying121 hn (keyS_of u hu); refine ⟨W', hr, ⟨_, ho', fun t => ?_⟩, ht⟩
 unfold upd
 by_cases e : t = u
 ·subst e
  rw [if_pos rfl, mval_put_same ho.isMap (keyS_lit _)]
 ·rw [if_neg e, mval_put_other (fun h => e (keyS_inj h)), hd t]
end
end Go.Proofs.Ytobgkpnigjfhmaa.H
namespace Go.Proofs.Ytobgkpnigjfhmaa.H
open Go.RowKit Go.Proofs.YtobgkpnigjfhmaaW.PrintWords Go.Proofs.YtobgkpnigjfhmaaW.PrintLast Go.Proofs.YtobgkpnigjfhmaaW.PrintMore
inductive Ow where
 | no | fin | km | ly | ds | bs | sh
 | st (u : ByteArray)
 | nm (i : Nat)
 | hm (i : Nat)
abbrev rawLy (m : Value × Nat) : List Value := [m.1, .map (some m.2)]
def LysOk (W : World) (ow : Nat → Ow) (n : Nat) : List (Value × Nat) → List Lay → Prop
 | [], [] => True
 | m :: r, t :: q => Kd.R Kd.string 9 W 0 (fun z => ow z = .nm r.length) m.1 t.1 ∧ SM W m.2 n t.2 ∧ ow m.2 = .hm r.length ∧ LysOk W ow n r q
 | _, _ => False
structure FM (s : ByteArray) (stop : Int) (n : Nat) (W : World) (g bm : Nat) (D : DataW Value) (ow : Nat → Ow) (vd vb vl vs : Value) (ml : List (Value × Nat)) (x : St) : Prop where
 blk : W.heap[g]? = some (.cells #[.string s, vd, vb, .map (some bm), vl, .int .i64 stop, vs] 82 (0, 0))
 og : ow g = .fin
 om : ow bm = .km
 lt : ∀ q, ow q ≠ .no → q < W.heap.size
 map : W.ownsMap Try.prog 9 rawE bm n D
 rd : Kd.R k62 62 W 0 (fun q => ow q = .ds) vd x.ds
 rb : Kd.R k95 95 W 0 (fun q => ow q = .bs) vb x.bs
 rs : Kd.R k62 62 W 0 (fun q => ow q = .sh) vs x.sh
 rl : Kd.R (Kd.raw 2) 123 W 0 (fun q => ow q = .ly) vl (ml.reverse.map rawLy)
 stk : ∀ u, Kd.R (Kd.int .i64) 3 W 0 (fun q => ow q = .st u) (mval D (keyS u) nilS) (x.kn u)
 lys : LysOk W ow n ml x.ls
def own (ow : Nat → Ow) (b : Nat) (t : Ow) : Nat → Ow := fun q => if q = b then t else ow q
structure Mv (ow : Nat → Ow) (b : Nat) (t : Ow) (g : Nat) (W W' : World) : Prop where
 hb : ow b = t ∨ W.heap.size ≤ b
 bl : b < W'.heap.size
 sz : W.heap.size ≤ W'.heap.size
 st : ∀ q, q < W.heap.size → q ≠ g → ow q ≠ t → W'.heap[q]? = W.heap[q]?
section
variable {s : ByteArray} {stop : Int} {n m : Nat} {W W' W2 : World} {g bm b : Nat} {D : DataW Value} {ow ow' ow2 : Nat → Ow} {vd vb vl vs v : Value} {ml : List (Value × Nat)} {x : St} {t t' t0 : Ow}
theorem own_b : own ow b t b = t := if_pos rfl
theorem Mv.old (h : Mv ow b t g W W') (lt : ∀ q, ow q ≠ .no → q < W.heap.size) {q : Nat} (hq : ow q = t') (ht : t' ≠ t) (hn : t' ≠ .no) : own ow b t q = t' := by
 unfold own
 rw [if_neg, hq]; rintro rfl
 rcases h.hb with e | e
 ·exact ht (hq.symm.trans e)
 ·have := lt q (by rw [hq]; exact hn); omega
theorem Mv.lt (h : Mv ow b t g W W') (lt : ∀ q, ow q ≠ .no → q < W.heap.size) (q : Nat) (hq : own ow b t q ≠ .no) : q < W'.heap.size := by
 by_cases e : q = b
 ·rw [e]; exact h.bl
 ·unfold own at hq
  rw [if_neg e] at hq; exact Nat.lt_of_lt_of_le (lt q hq) h.sz
theorem Mv.blk (h : Mv ow b t g W W') (og : ow g = t0) (lt : ∀ q, ow q ≠ .no → q < W.heap.size) {q : Nat} (hq : ow q = t') (ht : t' ≠ t) (hn : t' ≠ .no) (hf : t' ≠ t0) : W'.heap[q]? = W.heap[q]? :=
 h.st q (lt q (by rw [hq]; exact hn)) (fun e => hf (by rw [← hq, e, og])) (by rw [hq]; exact ht)
theorem Mv.row {α : Type} {d : Kd α} {e : Nat} {l : List α} (h : Mv ow b t g W W') (og : ow g = t0) (lt : ∀ q, ow q ≠ .no → q < W.heap.size) (hR : Kd.R d e W 0 (fun q => ow q = t') v l) (ht : t' ≠ t) (hn : t' ≠ .no) (hf : t' ≠ t0) :
  Kd.R d e W' 0 (fun q => own ow b t q = t') v l :=
 Kd.zbl (Kd.zbC hR (fun q hq _ => h.blk og lt hq ht hn hf)) (fun q hq => h.old lt hq ht hn)
theorem Mv.sm {M : ByteArray → Int} {q : Nat} (h : Mv ow b t g W W') (og : ow g = t0) (lt : ∀ q, ow q ≠ .no → q < W.heap.size) (hS : SM W q n M) (hq : ow q = t') (ht : t' ≠ t) (hn : t' ≠ .no) (hf : t' ≠ t0) : SM W' q n M :=
 hS.keep (h.blk og lt hq ht hn hf)
theorem Mv.map (h : Mv ow b t g W W') (og : ow g = t0) (lt : ∀ q, ow q ≠ .no → q < W.heap.size) (hS : W.ownsMap Try.prog 9 rawE bm n D) (hq : ow bm = .km) (ht : .km ≠ t) (hf : .km ≠ t0) : W'.ownsMap Try.prog 9 rawE bm n D := by
 obtain ⟨es, clock, h1, h2⟩ := hS; exact ⟨es, clock, (h.blk og lt hq ht nofun hf).trans h1, h2⟩
theorem LysOk.mv (h : Mv ow b t g W W') (og : ow g = t0) (h0 : ∀ j, .nm j ≠ t0 ∧ .hm j ≠ t0) (lt : ∀ q, ow q ≠ .no → q < W.heap.size) : ∀ (ml : List (Value × Nat)) (ls : List Lay), (∀ j, j < ml.length → .nm j ≠ t ∧ .hm j ≠ t) → LysOk W ow n ml ls → LysOk W' (own ow b t) n ml ls
 | [], [], _, _ => trivial
 | [], _ :: _, _, hl => hl.elim
 | _ :: _, [], _, hl => hl.elim
 | a :: r, y :: q, ht, hl => by
  obtain ⟨h1, h2, h3, h4⟩ := hl; have hj := ht r.length qf
  exact ⟨h.row og lt h1 hj.1 nofun (h0 _).1, h.sm og lt h2 h3 hj.2 nofun (h0 _).2, h.old lt h3 hj.2 nofun, LysOk.mv h og h0 lt r q (fun j hj => ht j (by simp only [List.length_cons]; omega)) h4⟩
theorem LysOk.up (hm : n ≤ m) : ∀ (ml : List (Value × Nat)) (ls : List Lay), LysOk W ow n ml ls → LysOk W ow m ml ls
 | [], [], _ => trivial
 | [], _ :: _, hl => hl.elim
 | _ :: _, [], hl => hl.elim
 | a :: r, y :: q, hl => by
  obtain ⟨h1, h2, h3, h4⟩ := hl; exact ⟨h1, h2.mono hm, h3, LysOk.up hm r q h4⟩
theorem LysOk.len : ∀ (ml : List (Value × Nat)) (ls : List Lay), LysOk W ow n ml ls → ml.length = ls.length
 | [], [], _ => rfl
 | [], _ :: _, hl => hl.elim
 | _ :: _, [], hl => hl.elim
 | a :: r, y :: q, hl => by
  have := LysOk.len r q hl.2.2.2; simp only [List.length_cons, this]
theorem LysOk.keep (hk : ∀ q, ow q ≠ .no → W'.heap[q]? = W.heap[q]?) : ∀ (ml : List (Value × Nat)) (ls : List Lay), LysOk W ow n ml ls → LysOk W' ow n ml ls
 | [], [], _ => trivial
 | [], _ :: _, hl => hl.elim
 | _ :: _, [], hl => hl.elim
 | a :: r, y :: q, hl => by
  obtain ⟨h1, h2, h3, h4⟩ := hl; exact ⟨Kd.zbC h1 (fun q hq _ => hk q (by rw [hq]; nofun)), h2.keep (hk _ (by rw [h3]; nofun)), h3, LysOk.keep hk r q h4⟩
theorem FM.up (h : FM s stop n W g bm D ow vd vb vl vs ml x) (hm : n ≤ m) : FM s stop m W g bm D ow vd vb vl vs ml x :=
 ⟨h.blk, h.og, h.om, h.lt, h.map.mono hm, h.rd, h.rb, h.rs, h.rl, h.stk, LysOk.up hm _ _ h.lys⟩
theorem FM.keep (h : FM s stop n W g bm D ow vd vb vl vs ml x) (hs : W.heap.size ≤ W'.heap.size) (hk : ∀ q, ow q ≠ .no → W'.heap[q]? = W.heap[q]?) : FM s stop n W' g bm D ow vd vb vl vs ml x := by
 obtain ⟨es, clock, h1, h2⟩ := h.map; exact ⟨(hk g (by rw [h.og]; nofun)).trans h.blk, h.og, h.om, fun q hq => Nat.lt_of_lt_of_le (h.lt q hq) hs, ⟨es, clock, (hk bm (by rw [h.om]; nofun)).trans h1, h2⟩,
  Kd.zbC h.rd (fun q hq _ => hk q (by rw [hq]; nofun)), Kd.zbC h.rb (fun q hq _ => hk q (by rw [hq]; nofun)), Kd.zbC h.rs (fun q hq _ => hk q (by rw [hq]; nofun)), Kd.zbC h.rl (fun q hq _ => hk q (by rw [hq]; nofun)),
  fun u => Kd.zbC (h.stk u) (fun q hq _ => hk q (by rw [hq]; nofun)), LysOk.keep hk _ _ h.lys⟩
theorem FM.below (h : FM s stop n W g bm D ow vd vb vl vs ml x) (hb : Below W.heap.size W W') : FM s stop n W' g bm D ow vd vb vl vs ml x :=
 h.keep hb.size (fun q hq => hb.block q (h.lt q hq))
theorem FM.setDs {ds : List Dp} (h : FM s stop n W g bm D ow vd vb vl vs ml x) (k : Mv ow b .ds g W W') (hb : W'.heap[g]? = some (.cells #[.string s, v, vb, .map (some bm), vl, .int .i64 stop, vs] 82 (0, 0)))
  (hR : Kd.R k62 62 W' 0 (fun q => own ow b .ds q = .ds) v ds) : FM s stop n W' g bm D (own ow b .ds) v vb vl vs ml { x with ds := ds } :=
 ⟨hb, k.old h.lt h.og nofun nofun, k.old h.lt h.om nofun nofun, k.lt h.lt, k.map h.og h.lt h.map h.om nofun nofun, hR, k.row h.og h.lt h.rb nofun nofun nofun, k.row h.og h.lt h.rs nofun nofun nofun, k.row h.og h.lt h.rl nofun nofun nofun,
  fun u => k.row h.og h.lt (h.stk u) nofun nofun nofun, LysOk.mv k h.og (fun _ => ⟨nofun, nofun⟩) h.lt _ _ (fun j _ => ⟨nofun, nofun⟩) h.lys⟩
theorem FM.setBs {bs : List Bp} (h : FM s stop n W g bm D ow vd vb vl vs ml x) (k : Mv ow b .bs g W W') (hb : W'.heap[g]? = some (.cells #[.string s, vd, v, .map (some bm), vl, .int .i64 stop, vs] 82 (0, 0)))
  (hR : Kd.R k95 95 W' 0 (fun q => own ow b .bs q = .bs) v bs) : FM s stop n W' g bm D (own ow b .bs) vd v vl vs ml { x with bs := bs } :=
 ⟨hb, k.old h.lt h.og nofun nofun, k.old h.lt h.om nofun nofun, k.lt h.lt, k.map h.og h.lt h.map h.om nofun nofun, k.row h.og h.lt h.rd nofun nofun nofun, hR, k.row h.og h.lt h.rs nofun nofun nofun, k.row h.og h.lt h.rl nofun nofun nofun,
  fun u => k.row h.og h.lt (h.stk u) nofun nofun nofun, LysOk.mv k h.og (fun _ => ⟨nofun, nofun⟩) h.lt _ _ (fun j _ => ⟨nofun, nofun⟩) h.lys⟩
theorem FM.setSh {sh : List Dp} (h : FM s stop n W g bm D ow vd vb vl vs ml x) (k : Mv ow b .sh g W W') (hb : W'.heap[g]? = some (.cells #[.string s, vd, vb, .map (some bm), vl, .int .i64 stop, v] 82 (0, 0)))
  (hR : Kd.R k62 62 W' 0 (fun q => own ow b .sh q = .sh) v sh) : FM s stop n W' g bm D (own ow b .sh) vd vb vl v ml { x with sh := sh } :=
 ⟨hb, k.old h.lt h.og nofun nofun, k.old h.lt h.om nofun nofun, k.lt h.lt, k.map h.og h.lt h.map h.om nofun nofun, k.row h.og h.lt h.rd nofun nofun nofun, k.row h.og h.lt h.rb nofun nofun nofun, hR, k.row h.og h.lt h.rl nofun nofun nofun,
  fun u => k.row h.og h.lt (h.stk u) nofun nofun nofun, LysOk.mv k h.og (fun _ => ⟨nofun, nofun⟩) h.lt _ _ (fun j _ => ⟨nofun, nofun⟩) h.lys⟩
theorem FM.setLy {ml' : List (Value × Nat)} {ls : List Lay} (h : FM s stop n W g bm D ow vd vb vl vs ml x) (k : Mv ow b .ly g W W') (hb : W'.heap[g]? = some (.cells #[.string s, vd, vb, .map (some bm), v, .int .i64 stop, vs] 82 (0, 0)))
  (hR : Kd.R (Kd.raw 2) 123 W' 0 (fun q => own ow b .ly q = .ly) v (ml'.reverse.map rawLy)) (hl : LysOk W' (own ow b .ly) n ml' ls) : FM s stop n W' g bm D (own ow b .ly) vd vb v vs ml' { x with ls := ls } :=
 ⟨hb, k.old h.lt h.og nofun nofun, k.old h.lt h.om nofun nofun, k.lt h.lt, k.map h.og h.lt h.map h.om nofun nofun, k.row h.og h.lt h.rd nofun nofun nofun, k.row h.og h.lt h.rb nofun nofun nofun, k.row h.og h.lt h.rs nofun nofun nofun, hR,
  fun u => k.row h.og h.lt (h.stk u) nofun nofun nofun, hl⟩
theorem FM.setSt {u : ByteArray} {l : List Int} {W2 : World} {n' : Nat} (h : FM s stop n W g bm D ow vd vb vl vs ml x) (k : Mv ow b (.st u) g W W') (hg : W'.heap[g]? = W.heap[g]?) (hR : Kd.R (Kd.int .i64) 3 W' 0 (fun q => own ow b (.st u) q = .st u) v l)
  (ht : ∀ q, q < W'.heap.size → q ≠ bm → W2.heap[q]? = W'.heap[q]?) (hs : W'.heap.size ≤ W2.heap.size) (hm : W2.ownsMap Try.prog 9 rawE bm n' (D.put (keyS u) (.held v))) (hn : n ≤ n') :
  FM s stop n' W2 g bm (D.put (keyS u) (.held v)) (own ow b (.st u)) vd vb vl vs ml { x with kn := upd x.kn u l } := by
 have hlt := k.lt h.lt; have hbm : own ow b (.st u) bm = .km := k.old h.lt h.om nofun nofun; have hk : ∀ q, own ow b (.st u) q ≠ .no → own ow b (.st u) q ≠ .km → W2.heap[q]? = W'.heap[q]? := fun q h1 h2 => ht q (hlt q h1) (fun e => h2 (by rw [e, hbm]))
 have hr : ∀ {α : Type} {d : Kd α} {e : Nat} {l : List α} {v : Value} {t : Ow}, Kd.R d e W 0 (fun q => ow q = t) v l → t ≠ .no → t ≠ .km → t ≠ .fin → t ≠ .st u → Kd.R d e W2 0 (fun q => own ow b (.st u) q = t) v l := fun hR h1 h2 h3 h4 =>
  Kd.zbC (k.row h.og h.lt hR h4 h1 h3) (fun q hq _ => hk q (by rw [hq]; exact h1) (by rw [hq]; exact h2))
 have hog : own ow b (.st u) g = .fin := k.old h.lt h.og nofun nofun; have hly : ∀ (ml : List (Value × Nat)) (ls : List Lay), LysOk W' (own ow b (.st u)) n ml ls → LysOk W2 (own ow b (.st u)) n ml ls := by
  intro ml
  induction ml with
  | nil => intro ls hl; cases ls with | nil => trivial | cons a r => exact hl.elim
  | cons a r ih =>
   intro ls hl
   cases ls with
   | nil => exact hl.elim
   | cons y q =>
    obtain ⟨h1, h2, h3, h4⟩ := hl; exact ⟨Kd.zbC h1 (fun q hq _ => hk q (by rw [hq]; nofun) (by rw [hq]; nofun)), h2.keep (hk _ (by rw [h3]; nofun) (by rw [h3]; nofun)), h3, ih q h4⟩
 refine ⟨(hk g (by rw [hog]; nofun) (by rw [hog]; nofun)).trans (hg.trans h.blk), hog, hbm, fun q hq => Nat.lt_of_lt_of_le (hlt q hq) hs, hm, hr h.rd nofun nofun nofun nofun, hr h.rb nofun nofun nofun nofun, hr h.rs nofun nofun nofun nofun, hr h.rl nofun nofun nofun nofun, fun w => ?_,
  LysOk.up hn _ _ (hly _ _ (LysOk.mv k h.og (fun _ => ⟨nofun, nofun⟩) h.lt _ _ (fun j _ => ⟨nofun, nofun⟩) h.lys))⟩
 simp only [upd]; by_cases e : w = u
 ·subst e
  rw [if_pos rfl, mval_put_same h.map.isMap (keyS_lit _)]; exact Kd.zbC hR (fun q hq _ => hk q (by rw [hq]; nofun) (by rw [hq]; nofun))
 ·rw [if_neg e, mval_put_other (fun h => e (keyS_inj h))]
  exact hr (h.stk w) nofun nofun nofun (fun h => e (by injection h))
end
theorem FM.look {s : ByteArray} {stop : Int} {n : Nat} {W : World} {g bm : Nat} {D : DataW Value} {ow : Nat → Ow} {vd vb vl vs : Value} {ml : List (Value × Nat)} {x : St} (h : FM s stop n W g bm D ow vd vb vl vs ml x) (u : ByteArray) (hu : u.size ≤ maxLen) :
    ∃ A c, mval D (keyS u) nilS = .slice A (x.kn u).length c ∧ (x.kn u).length ≤ c ∧ c ≤ maxLen ∧ Kd.C (Kd.int .i64) W A (x.kn u).length (x.kn u) ∧ (Instr.lookup 79 (.map (some bm)) (.string u) false).run Try.prog W = .ok (.slice A (x.kn u).length c) W := by
  obtain ⟨A, c, e, hc, hC⟩ := Kd.zbR (h.stk u); have hR := h.stk u; rw [e] at hR; refine ⟨A, c, e, hc, ?_, hC, ?_⟩
  · obtain ⟨_, inner, ho, _⟩ := hR
    rcases ho.2 with ⟨hv, _⟩ | ⟨q, cap, cur, hv, _, _, _, hm, _⟩
    · injection hv with _ _ h3
      rw [h3]; exact Nat.zero_le _
    · injection hv with _ _ h3
      rw [h3]; exact hm
  · rw [omap_look h.map klaw Try.underlying79 qb (keyS_of u hu), e]
theorem last_int {W : World} {A : Option Addr} {L : List Int} (h : Kd.C (Kd.int .i64) W A L.length L) (m : Nat) (hm : L.length = m + 1) : ∃ ad, A = some ad ∧ W.cell? (ad.add m) = some (.int .i64 (L.getLast?.getD (-1))) := by
  obtain ⟨ad, c, e, _, hK, hc0⟩ := Kd.C_get h (-1) (m : Int) q9 q9
  obtain rfl : c = [.int .i64 (L.getD (m : Int).toNat (-1))] := hK; refine ⟨ad, e, ?_⟩
  have := hc0 0 _ rfl; rw [Int.toNat_natCast] at this; rw [show (ad.add m) = (ad.add (m * (Kd.int .i64).sz + 0)) by simp [Kd.int, Kd.scalar], this]
  rw [List.getLast?_eq_getElem?, List.getD_eq_getElem?_getD, hm]
  rfl
theorem means_calls {s : ByteArray} {stop : Int} {n : Nat} {W : World} {g bm : Nat} {D : DataW Value} {ow : Nat → Ow} {vd vb vl vs : Value} {ml : List (Value × Nat)} {x : St} (h : FM s stop n W g bm D ow vd vb vl vs ml x) (u : ByteArray) (hu : u.size ≤ maxLen) :
    Calls Try.prog 67 #[.pointer (some ⟨g, 0, none⟩), .string u] W fun e w' => e = .returned (.int .i64 (zbB x.kn u)) ∧ W = w' := by
  obtain ⟨A, c, e, hlc, hcm, hC, hlk⟩ := h.look u hu; obtain ⟨L, hL⟩ : ∃ L, L = x.kn u := ⟨_, rfl⟩; have HM := J (show zbB x.kn u = L.getLast?.getD (-1) by rw [hL]; rfl)
  have p3 := zaf h.blk 3; have l0 := zaN h.blk; simp at p3; have hus := Try.underlying82; rw [← hL] at hlc hC hlk; clear e h hL hu; cases L with
  | nil =>
    simp only [List.length_nil] at hlk hlc; go_enter Try.func67, Try.ntmps67
    go_wp2
    go_ret
    exact ⟨by rw [HM.out]; rfl, rfl⟩
  | cons a r =>
    obtain ⟨m, hm⟩ : ∃ m, m = r.length := ⟨_, rfl⟩; obtain ⟨ad, rfl, q0⟩ := last_int hC m (by rw [hm]; rfl)
    have hl : (a :: r).length = m + 1 := by rw [hm]; rfl
    rw [hl] at hlk hlc; obtain ⟨v, hv⟩ : ∃ v, v = (a :: r).getLast?.getD (-1) := ⟨_, rfl⟩; rw [← hv] at HM q0; have hml : m ≤ 9223372036854775806 := by simp only [maxLen] at hcm; omega
    clear hl hC hm hv hcm; go_enter Try.func67, Try.ntmps67
    go_wp2
    go_ret
    exact ⟨by rw [HM.out]; rfl, rfl⟩
structure Fch (ow : Nat → Ow) (W W' : World) : Prop where
  os : W'.os = W.os
  tape : W'.tape = W.tape
  output : W'.output = W.output
  size : W.heap.size ≤ W'.heap.size
  block : ∀ q, q < W.heap.size → ow q = .no → W'.heap[q]? = W.heap[q]?
def Sub (ow : Nat → Ow) (W : World) (ow' : Nat → Ow) : Prop := ∀ q, ow' q ≠ .no → ow q ≠ .no ∨ W.heap.size ≤ q
def FX (s : ByteArray) (stop : Int) (n : Nat) (W : World) (g : Nat) (ow : Nat → Ow) (hb : List Nat) (x : St) : Prop :=
  Ok s n x ∧ ∃ bm D vd vb vl vs ml, FM s stop n W g bm D ow vd vb vl vs ml x ∧ hb = ml.map (·.2)
def FP (s : ByteArray) (stop : Int) (n : Nat) (W W' : World) (g : Nat) (ow : Nat → Ow) (hb : List Nat) (x : St) : Prop :=
  ∃ ow', FX s stop n W' g ow' hb x ∧ Sub ow W ow' ∧ Fch ow W W'
section
variable {s : ByteArray} {stop : Int} {n m : Nat} {W W' W2 : World} {g bm b : Nat} {D : DataW Value} {ow ow' ow2 : Nat → Ow} {vd vb vl vs v : Value} {ml : List (Value × Nat)} {hb : List Nat} {x : St} {t t' : Ow}
theorem Sub.refl : Sub ow W ow := fun _ h => .inl h
theorem Sub.own (h : ow b = t ∨ W.heap.size ≤ b) (ht : t ≠ .no) : Sub ow W (own ow b t) := fun q hq => by
  by_cases e : q = b
  · subst e
    exact h.imp (fun h => by rw [h]; exact ht) id
  · unfold H.own at hq
    rw [if_neg e] at hq; exact .inl hq
theorem Sub.trans (h : Sub ow W ow') (k : Sub ow' W' ow2) (hs : W.heap.size ≤ W'.heap.size) : Sub ow W ow2 := fun q hq => by
  rcases k q hq with h1 | h1
  · exact h q h1
  · exact .inr (Nat.le_trans hs h1)
theorem Fch.refl : Fch ow W W := ⟨rfl, rfl, rfl, Nat.le_refl _, fun _ _ _ => rfl⟩
theorem Fch.trans (h : Fch ow W W') (k : Fch ow' W' W2) (hs : Sub ow W ow') : Fch ow W W2 :=
  ⟨k.os.trans h.os, k.tape.trans h.tape, k.output.trans h.output, Nat.le_trans h.size k.size, fun q hq ho => (k.block q (Nat.lt_of_lt_of_le hq h.size) (by
    cases e : ow' q with
    | no => rfl
    | _ => rcases hs q qn with h1 | h1
           · exact absurd ho h1
           · omega)).trans (h.block q hq ho)⟩
theorem Fch.of_below (h : Below W.heap.size W W') : Fch ow W W' := ⟨h.os, h.tape, h.output, h.size, fun q hq _ => h.block q hq⟩
theorem FX.below (h : FX s stop n W g ow hb x) (hb' : Below W.heap.size W W') : FX s stop n W' g ow hb x := by
  obtain ⟨h0, bm, D, vd, vb, vl, vs, ml, h1, h2⟩ := h; exact ⟨h0, bm, D, vd, vb, vl, vs, ml, h1.below hb', h2⟩
theorem FX.up (h : FX s stop n W g ow hb x) (hm : n ≤ m) : FX s stop m W g ow hb x := by
  obtain ⟨h0, bm, D, vd, vb, vl, vs, ml, h1, h2⟩ := h; exact ⟨h0.mono hm, bm, D, vd, vb, vl, vs, ml, h1.up hm, h2⟩
theorem FX.keep (h : FX s stop n W g ow hb x) (hs : W.heap.size ≤ W'.heap.size) (hk : ∀ q, ow q ≠ .no → W'.heap[q]? = W.heap[q]?) : FX s stop n W' g ow hb x := by
  obtain ⟨h0, bm, D, vd, vb, vl, vs, ml, h1, h2⟩ := h; exact ⟨h0, bm, D, vd, vb, vl, vs, ml, h1.keep hs hk, h2⟩
theorem FX.lt (h : FX s stop n W g ow hb x) : ∀ q, ow q ≠ .no → q < W.heap.size := by
  obtain ⟨h0, bm, D, vd, vb, vl, vs, ml, h1, h2⟩ := h; exact h1.lt
theorem FP.of (h : FX s stop n W' g ow' hb x) (hs : Sub ow W ow') (hf : Fch ow W W') : FP s stop n W W' g ow hb x := ⟨ow', h, hs, hf⟩
theorem FM.fresh (h : FM s stop n W g bm D ow vd vb vl vs ml x) (hb : Below W.heap.size W W') (hs : W.heap.size < W'.heap.size) : FM s stop n W' g bm D (own ow W.heap.size (.hm ml.length)) vd vb vl vs ml x := by
  have k : Mv ow W.heap.size (.hm ml.length) g W W' := ⟨.inr (Nat.le_refl _), hs, hb.size, fun q hq _ _ => hb.block q hq⟩
  exact ⟨zaG h.blk hb, k.old h.lt h.og nofun nofun, k.old h.lt h.om nofun nofun, k.lt h.lt, k.map h.og h.lt h.map h.om nofun nofun, k.row h.og h.lt h.rd nofun nofun nofun, k.row h.og h.lt h.rb nofun nofun nofun, k.row h.og h.lt h.rs nofun nofun nofun, k.row h.og h.lt h.rl nofun nofun nofun,
    fun u => k.row h.og h.lt (h.stk u) nofun nofun nofun, LysOk.mv k h.og (fun _ => ⟨nofun, nofun⟩) h.lt _ _ (fun j hj => ⟨nofun, fun e => by injection e with e; omega⟩) h.lys⟩
theorem row_app {α : Type} (d : Kd α) (e tt : Nat) {cv bytes nn : Nat} {Av : Option Addr} {L : List α} {z : Value} {Y : World} (hE : d.E = []) (lt : ∀ q, ow q ≠ .no → q < W.heap.size) (ht0 : t ≠ .no) (hR : Kd.R d e W 0 (fun q => ow q = t) (.slice Av nn cv) L)
    (hu : Try.prog.underlying tt = some (.slice e)) (hinfo : (Try.prog.info? e).map (fun i => (i.zero, i.size, i.bytes)) = some (some z, d.sz, bytes)) (hzs : z.cells.size = d.sz) (hs0 : 0 < d.sz) (hb0 : 0 < bytes) (hl : (L.length + 1) * bytes ≤ 140737488355328)
    (p : α) (cs : List Value) (hY : Y = W.alloc (.cells cs.toArray e)) (hp : d.M Y 0 (fun _ => False) p cs) (hcs : cs.length = d.sz) (h1 : ∀ u ∈ cs, u.oneCell' = true) :
    ∃ b cap w1, (Builtin.append_ #[tt, tt] tt #[.slice Av nn cv, .slice (some ⟨W.heap.size, 0, none⟩) 1 1]).run Try.prog Y = .ok (.slice (some ⟨b, 0, none⟩) (nn + 1) cap) w1 ∧ (ow b = t ∨ W.heap.size ≤ b) ∧ b < w1.heap.size ∧ W.heap.size ≤ w1.heap.size ∧ (∀ q, q < W.heap.size → ow q ≠ t → w1.heap[q]? = W.heap[q]?) ∧ Fch ow W w1 ∧
      Kd.R d e w1 0 (fun q => own ow b t q = t) (.slice (some ⟨b, 0, none⟩) (nn + 1) cap) (L ++ [p]) := by
  have hbY : Below W.heap.size W Y := by rw [hY]; exact zad (Below.refl _ _) _
  obtain ⟨b, cap, w1, hrun, hg, hgo, _, hnl, hR1⟩ := zbN d e tt (Kd.zbl hR (ok' := fun q => ow q = t ∨ W.heap.size ≤ q) (fun q hq => .inl hq)) (Nat.zero_le _) (fun q hq => .inr hq) hu hinfo hzs hs0 hb0 hl hbY p cs Q3 hp hcs h1
  have ho : ∀ q, q < W.heap.size → ow q ≠ t → w1.heap[q]? = W.heap[q]? := fun q hq ho => hg.block q hq (fun e => ho (hR.1 q e.symm))
  refine ⟨b, cap, w1, hrun, hgo.imp (fun h => hR.1 b h) id, ?_, hg.size, ho, ⟨hg.os, hg.tape, hg.output, hg.size, fun q hq h0 => ho q hq (by rw [h0]; exact fun e => ht0 e.symm)⟩, Kd.R_reok hE hR1 (fun q hq => ?_)⟩
  · exact (Kd.R_bound hR1).1 b qR |>.2.2.1
  · have : b = q := by simpa [Value.ownBlock] using hq
    rw [← this]; exact own_b
end
theorem mixF : Try.prog.follows .mixedOrders = true := by kernel_rfl
theorem wpF_app {P : Program} {w w' : World} {ops : Array Oper} {o : Oper} {a : Act} {Q : Exit → Act → World → Prop} {Kc : Act → World → Prop} {v' : Value}
  (hw : Region.wanted o (yielded ops a.tmps) = true) (s x : Operand) (t : TypeId) (hop : o.op = Op.call { callee := Callee.builtin Builtin.append, args := #[s, x], argTypes := #[t, t] })
  (hrun : (Builtin.append_ #[t, t] o.type #[a.eval s, a.eval x]).run P w = .ok v' w') (hK : Kc (a.put o.dst v') w') : if Region.wanted o (yielded ops a.tmps) = true then Oper.wp P o a w Kc Q else Kc (a.put o.dst undef) w := by
 rw [if_pos hw]; unfold Oper.wp execOp
 simp only [hop, resolve, invoke, builtin, Sem.run_bind, Sem.run_pure, Result.andThen_ok, List.map_toArray, List.map_cons, List.map_nil, hrun]; exact hK
theorem cutS_le (s : ByteArray) (a b : Int) (hs : s.size ≤ 1099511627776) : (cutS s a b).size ≤ maxLen := by
 unfold cutS
 rw [ByteArray.size_extract]; unfold maxLen
 omega
theorem infoDp : (Try.prog.info? 62).map (fun i => (i.zero, i.size, i.bytes)) = some (some (.agg #[.int .i64 0, .int .i64 0, .int .u8 0, .bool false]), 4, 24) := by kernel_rfl
theorem declare_core {s : ByteArray} {stop : Int} {n : Nat} {W : World} {g bm : Nat} {D : DataW Value} {ow : Nat → Ow} {vd vb vl vs : Value} {ml : List (Value × Nat)} {x : St} (hM : FM s stop n W g bm D ow vd vb vl vs ml x) (hn : x.ds.length ≤ 4000000000000) (hsl : s.size ≤ 1099511627776)
  (a b kind : Int) (ha : 0 ≤ a) (hab : a ≤ b) (hb : b ≤ s.size) (bh c : Nat) (h : ByteArray → Int) (hS : SM W bh c h) (hc : c ≤ 4000000000000) (hh : ∀ u, 0 ≤ h u ∧ h u ≤ 4000000000000) (hbg : bh ≠ g) (hbd : ow bh ≠ .ds) :
  Calls Try.prog 68 #[.pointer (some ⟨g, 0, none⟩), .agg #[.int .i64 a, .int .i64 b], .int .u8 kind, .map (some bh)] W fun e W' => e = .returned (.int .i64 x.ds.length) ∧ ∃ q v W1, FM s stop n W1 g bm D (own ow q .ds) v vb vl vs ml (declD s a b kind h x) ∧ Sub ow W (own ow q .ds) ∧ Fch ow W W1 ∧ SM W' bh (c + 1) (bump h (cutS s a b)) ∧ W1.grownBy W' (some bh) ∧ q ≠ bh := by
 obtain ⟨u, hu⟩ : ∃ u, u = cutS s a b := ⟨_, rfl⟩; have hul := cutS_le s a b hsl; rw [← hu] at hul ⊢; obtain ⟨X0, hX0⟩ : ∃ X, X = W.alloc (.cells #[.int .i64 a, .int .i64 b] 60) := ⟨_, rfl⟩; have b0 : Below W.heap.size W X0 := by rw [hX0]; exact zad (Below.refl _ _) _
 have kx0 : X0.heap[W.heap.size]? = some (.cells #[.int .i64 a, .int .i64 b] 60 (0, 0)) := by rw [hX0]; exact heap_alloc_new _ _
 obtain ⟨kb, hkb⟩ : ∃ kb, kb = W.heap.size := ⟨_, rfl⟩; rw [← hkb] at kx0; have HKB := J hkb; have HKX0 := J kx0; have HB0 := J b0; have HMM := J hM; have HSS := J hS; have HNN := J hn; have HUL := J hul; have HCN := J hc; have HHH := J hh; have HBD := J hbd; have HU := J (show u = s.extract a.toNat b.toNat from hu)
 have hus := Try.underlying82; have hup := Try.underlying60; have hud := Try.underlying62; have hnm := Try.underlying47; have HX0 := J (show ∀ W', W' = X0 → W'.cell? ⟨g, 0, none⟩ = some (.string s) ∧ W'.cell? ⟨kb, 0, none⟩ = some (.int .i64 a) ∧ W'.cell? ⟨kb, 1, none⟩ = some (.int .i64 b) ∧ g < W'.heap.size ∧ kb < W'.heap.size from fun W' e => by
  subst e; have h1 := zaf (hM.below b0).blk 0; have h2 := zaf HKX0.out 0; have h3 := zaf HKX0.out 1; simp at h1 h2 h3; exact ⟨h1, h2, h3, zaN (hM.below b0).blk, zaN HKX0.out⟩)
 clear hM hS hn hul hc hh hbd hu hsl kx0 b0; go_enter Try.func68, Try.ntmps68
 go_upto_region 1 with (fail)
 change Code.wp Try.prog _ _ _ (W.alloc (.cells #[.int .i64 a, .int .i64 b] 60))
 rw [← hX0]; clear hX0; rw [show (⟨W.heap.size, 0, none⟩ : Addr) = ⟨kb, 0, none⟩ by rw [hkb]]
 clear hkb; obtain ⟨x0, x1, x2, x3, x4⟩ := HX0.out X0 rfl
 go_quiet (fail)
 rw [← HU.out]; go_upto_region 2 with (fail)
 clear x0 x1 x2 x3 x4 ha hab hb; obtain ⟨X, hX⟩ : ∃ X, X = (X0.drewN nq).drew := ⟨_, rfl⟩; have bX : Below X0.heap.size X0 X := by rw [hX]; exact ⟨rfl, rfl, rfl, Nat.le_refl _, fun _ _ => rfl⟩
 have kx := zaG HKX0.out bX; have hMX := HMM.out.below (zak HB0.out bX); have hSX := HSS.out.below (zak HB0.out bX); obtain ⟨Ad, cd, ed⟩ := Kd.za4 hMX.rd; obtain ⟨nd, hnd⟩ : ∃ nd, nd = x.ds.length := ⟨_, rfl⟩; have hn := HNN.out; rw [← hnd] at ed hn; subst ed; obtain ⟨ag, hag⟩ : ∃ ag, ag = decide (0 < h u) := ⟨_, rfl⟩; obtain ⟨q, cap, w5, hrun, hbo, hbl, hsz_, hst, hfc, hR5⟩ := row_app (t := .ds) k62 62 44 rfl hMX.lt nofun hMX.rd Try.underlying44 infoDp rfl qe qe (by rw [← hnd]; omega)
  ⟨⟨a, b⟩, kind, ag⟩ [.int .i64 a, .int .i64 b, .int .u8 kind, .bool ag] rfl (k62_mkM _ _ _ _) rfl Qs
 have hqg : q ≠ g := fun e => by
  rcases hbo with h | h
  ·rw [e, hMX.og] at h; cases h
  ·have := zaN hMX.blk; omega
 have hqb : q ≠ bh := fun e => by
  rcases hbo with h | h
  ·exact HBD.out (by rw [← e]; exact h)
  ·have := hSX.lt; omega
 have hk5 : w5.heap[g]? = X.heap[g]? := hst g (zaN hMX.blk) (by rw [hMX.og]; nofun)
 have hc5 := hk5.trans hMX.blk; have hS5 : SM w5 bh c h := hSX.keep (hst bh hSX.lt HBD.out); obtain ⟨Z, hZ⟩ : ∃ Z, Z = w5.setCell ⟨g, 1, none⟩ (.slice (some ⟨q, 0, none⟩) (nd + 1) cap) := ⟨_, rfl⟩; have hzs : Z.heap.size = w5.heap.size := by rw [hZ]; simp
 have hzo : ∀ q, q ≠ g → Z.heap[q]? = w5.heap[q]? := fun q hq => by rw [hZ]; exact Below.heap_setCell _ _ _ _ hq
 have hzc : Z.heap[g]? = some (.cells #[.string s, .slice (some ⟨q, 0, none⟩) (nd + 1) cap, vb, .map (some bm), vl, .int .i64 stop, vs] 82 (0, 0)) := by rw [hZ]; simpa using zbe hc5 1 (.slice (some ⟨q, 0, none⟩) (nd + 1) cap)
 have k : Mv ow q .ds g X Z := ⟨hbo, by rw [hzs]; exact hbl, by rw [hzs]; exact hsz_, fun q hq h1 h2 => (hzo q h1).trans (hst q hq h2)⟩
 have hMZ := hMX.setDs k hzc (Kd.zbC hR5 (fun z hz _ => hzo z (fun e => by rw [e, k.old hMX.lt hMX.og nofun nofun] at hz; cases hz)))
 have hSZ : SM Z bh c h := hS5.keep (hzo bh hbg); obtain ⟨W6, hrun6, hS6, ht6⟩ := hSZ.store u HUL.out (h u + 1) (by have := HCN.out; unfold maxLen; omega)
 have hg6 := turned_grown ht6; have hk6 : W6.heap[g]? = Z.heap[g]? := hg6.block g (zaN hzc) (fun e => hbg (Option.some.inj e).symm)
 have hc6 := hk6.trans hzc; have hlk0 := (hSX.look u HUL.out); have hlk5 := hS5.look u HUL.out; have HLZ := J (hSZ.look u HUL.out); have HXW := J (zak HB0.out bX); have HF := J (show FM s stop n Z g bm D (own ow q .ds) (.slice (some ⟨q, 0, none⟩) (nd + 1) cap) vb vl vs ml (declD s a b kind h x) by unfold declD; rw [show cutS s a b = u from HU.out.symm, ← hag]; exact hMZ)
 have HS := J (show Sub ow W (own ow q .ds) from Sub.own (hbo.imp id (fun h => Nat.le_trans (zak HB0.out bX).size h)) nofun)
 have HC := J (show Fch ow W Z from by
  refine Fch.trans (Fch.of_below (zak HB0.out bX)) (ow' := ow) ⟨?_, ?_, ?_, by rw [hzs]; exact hsz_, fun z hz h0 => k.st z hz (fun e => by rw [e, hMX.og] at h0; cases h0) (by rw [h0]; nofun)⟩ Sub.refl
  ·rw [hZ]; simpa [World.setCell] using hfc.os
  ·rw [hZ]; simpa [World.setCell] using hfc.tape
  ·rw [hZ]; simpa [World.setCell] using hfc.output)
 have HS6 := J (show SM W6 bh (c + 1) (bump h u) from hS6)
 have HG6 := J hg6; have HQB := J hqb; have hal : ∀ Y, Y = X.alloc (.cells #[.int .i64 a, .int .i64 b, .int .u8 kind, .bool ag] 62) → Below X.heap.size X Y := fun Y e => by rw [e]; exact zad (Below.refl _ _) _
 have hlkY : ∀ Y, Y = X.alloc (.cells #[.int .i64 a, .int .i64 b, .int .u8 kind, .bool ag] 62) → (Instr.lookup 121 (.map (some bh)) (.string u) false).run Try.prog Y = .ok (.int .i64 (h u)) Y := fun Y e => (hSX.below (hal Y e)).look u HUL.out
 have hh0 := HHH.out u; obtain ⟨hv, hhv⟩ : ∃ hv, hv = h u := ⟨_, rfl⟩; rw [← hhv] at hrun6 hlk0 hlk5 HLZ hlkY hag hh0; have hkbX : kb < X.heap.size := zaN kx; have hk5b : w5.heap[kb]? = X.heap[kb]? := hst kb hkbX (fun e => by have := HMM.out.lt kb qn; have := HKB.out; omega)
 have kx5 := hk5b.trans kx; have hcX := hMX.blk; have hwh : IntKind.i64.wrap (hv + 1) = hv + 1 := IntWalk.i64_in _ ⟨q9, q9⟩
 have HSF := J (show ∀ W' : World, W'.heap[g]? = some (.cells #[.string s, .slice Ad nd cd, vb, .map (some bm), vl, .int .i64 stop, vs] 82 (0, 0)) → W'.heap[kb]? = some (.cells #[.int .i64 a, .int .i64 b] 60 (0, 0)) → (Instr.lookup 121 (.map (some bh)) (.string u) false).run Try.prog W' = .ok (.int .i64 hv) W' →
   (W'.cell? ⟨g, 1, none⟩ = some (.slice Ad nd cd) ∧ g < W'.heap.size) ∧ (W'.cell? ⟨kb, 0, none⟩ = some (.int .i64 a) ∧ W'.cell? ⟨kb, 1, none⟩ = some (.int .i64 b) ∧ kb < W'.heap.size) ∧ (Instr.lookup 121 (.map (some bh)) (.string u) false).run Try.prog W' = .ok (.int .i64 hv) W' from fun W' h1 h2 h3 => by
  have e1 := zaf h1 1; have e2 := zaf h2 0; have e3 := zaf h2 1; simp at e1 e2 e3; exact ⟨⟨e1, zaN h1⟩, ⟨e2, e3, zaN h2⟩, h3⟩)
 have HS0 := J (HSF.out X hcX kx hlk0); have HSY := J (show ∀ Y, Y = X.alloc (.cells #[.int .i64 a, .int .i64 b, .int .u8 kind, .bool ag] 62) → _ from fun Y e => HSF.out Y (zaG hcX (hal Y e)) (zaG kx (hal Y e)) (hlkY Y e))
 have HSW := J (HSF.out w5 hc5 kx5 hlk5); have HRUN := J hrun; have HC5 := J hc5; have HC6 := J hc6; have HZC := J hzc; have HND := J hnd; have HAG := J hag; clear hag hMX hSX hnd hbo hbl hsz_ hst hfc hR5 hqg hqb hk5 hc5 hS5 hzs hzo hzc k hMZ hSZ hS6 ht6 hg6 hk6 hc6 hlk0 hlk5 hlkY hal hk5b kx5 hkbX hcX kx bX hrun hhv hn; refine wp_region_noPanic (zba [0, 1, 2, 3, 4, 5, 6, 7, 8, 9, 10, 11, 12, 13, 14, 15, 16, 17] (fun W' => (W'.cell? ⟨g, 1, none⟩ = some (.slice Ad nd cd) ∧ g < W'.heap.size) ∧ (W'.cell? ⟨kb, 0, none⟩ = some (.int .i64 a) ∧ W'.cell? ⟨kb, 1, none⟩ = some (.int .i64 b) ∧ kb < W'.heap.size) ∧ (Instr.lookup 121 (.map (some bh)) (.string u) false).run Try.prog W' = .ok (.int .i64 hv) W') mixF ?_)
 rw [← hX]; clear hX; refine zah 0 rfl HS0.out (fun _ h => qK) ?_
 simp only [Act.put, zai]; refine zah 1 rfl HS0.out (fun _ h => qK) ?_
 simp only [Act.put, zai]; refine zah 2 rfl HS0.out (fun _ h => qK) ?_
 simp only [Act.put, zai]; refine zah 3 rfl HS0.out (fun _ h => qK) ?_
 simp only [Act.put, zai]; refine zah 4 rfl HS0.out (fun _ h => qK) ?_
 simp only [Act.put, zai]; refine zah 5 rfl HS0.out (fun _ h => qK) ?_
 simp only [Act.put, zai]; refine zah 6 rfl HS0.out (fun _ h => qK) ?_
 simp only [Act.put, zai]; refine zah 7 rfl HS0.out (fun _ h => qK) ?_
 simp only [Act.put, zai]; refine zah 8 rfl HS0.out (fun _ h => qK) ?_
 simp only [Act.put, zai]; refine zah 9 rfl HS0.out (fun _ h => qK) ?_
 simp only [Act.put, zai]; refine zah 10 rfl HS0.out (fun _ h => qK) ?_
 simp only [Act.put, zai]; refine zah 11 rfl HS0.out (fun _ h => qK) ?_
 simp only [Act.put, zai]; refine zah 12 rfl HS0.out (fun _ h => qK) ?_
 simp only [Act.put, zai]; rw [← HAG.out]; refine zaI (i := 13) rfl qb (fun K hK => ?_)
 go_simp
 refine hK.out _ _ (fun _ => HSY.out _ rfl) (fun _ => ?_)
 clear hK K; try simp only [Act.put, zai]
 refine zaI (i := 14) rfl qb (fun K hK => ?_)
 refine wpF_app (by rfl) _ _ _ rfl HRUN.out ?_
 refine hK.out _ _ (fun _ => HSW.out) (fun _ => ?_)
 clear hK K; try simp only [Act.put, zai]
 have r0 := zaf HC5.out 1; have g0 := zab HC5.out 1; have lb := zaN HC5.out; simp at r0; refine zaI (i := 15) rfl qb (fun K hK => ?_)
 go_simp
 refine hK.out _ _ (fun _ => HSW.out) (fun _ => ?_)
 clear hK K; try simp only [Act.put, zai]
 refine zaI (i := 16) rfl qb (fun K hK => ?_)
 go_simp
 refine hK.out _ _ (fun _ => HSW.out) (fun _ => ?_)
 clear hK K; try simp only [Act.put, zai]
 refine zaI (i := 17) rfl qb (fun K hK => ?_)
 go_simp
 refine hK.out _ _ (fun _ => HSW.out) (fun _ => ?_)
 clear hK K; try simp only [Act.put, zai]
 refine zaI (i := 18) rfl qb (fun K hK => ?_)
 go_simp
 refine hK.out _ _ (fun h => Bool.noConfusion (show false = true from h)) (fun _ => ?_)
 clear hK K; try simp only [Act.put, zai]
 refine za3 qb (NoPanic.normal ?_) _
 clear r0 g0 lb; go_upto_region 3 with (fail)
 change Code.wp Try.prog _ _ _ (w5.setCell ⟨g, 1, none⟩ (.slice (some ⟨q, 0, none⟩) (nd + 1) cap))
 rw [← hZ]; clear hZ; have hlkz := HLZ.out; go_upto_region 4 with (fail)
 have r1 := zaf HC6.out 1; have lb := zaN HC6.out; simp at r1; have hnl : nd ≤ 4000000000000 := by rw [HND.out]; exact HNN.out
 go_wp2
 go_ret
 exact ⟨by rw [← HND.out]; rfl, _, _, _, HF.out, HS.out, HC.out, HS6.out, HG6.out, HQB.out⟩
theorem FM.setHm {s : ByteArray} {stop : Int} {n : Nat} {W W' : World} {g bm : Nat} {D : DataW Value} {ow : Nat → Ow} {vd vb vl vs v : Value} {q : Nat} {ml : List (Value × Nat)} {x : St} {h : ByteArray → Int} (hM : FM s stop n W g bm D ow vd vb vl vs ((v, q) :: ml) x) (hg : W.grownBy W' (some q)) (hS : SM W' q (n + 1) h) :
  FM s stop (n + 1) W' g bm D ow vd vb vl vs ((v, q) :: ml) { x with ls := setH x.ls h } := by
 have hl := hM.lys; cases e : x.ls with
 | nil => rw [e] at hl; exact hl.elim
 | cons t r =>
  rw [e] at hl; obtain ⟨h1, h2, h3, h4⟩ := hl; have hk : ∀ z, ow z ≠ .no → (∀ i, ow z ≠ .hm i) → W'.heap[z]? = W.heap[z]? := fun z h0 hi => hg.block z (hM.lt z h0) (fun e => hi ml.length (by rw [Option.some.inj e]; exact h3))
  have hr : ∀ {α : Type} {d : Kd α} {e : Nat} {l : List α} {v : Value} {t : Ow}, Kd.R d e W 0 (fun q => ow q = t) v l → t ≠ .no → (∀ i, t ≠ .hm i) → Kd.R d e W' 0 (fun q => ow q = t) v l := fun hR h1 h2 =>
   Kd.zbC hR (fun q hq _ => hk q (by rw [hq]; exact h1) (fun i => by rw [hq]; exact h2 i))
  have hly : ∀ (ml' : List (Value × Nat)) (ls : List Lay), ml'.length ≤ ml.length → LysOk W ow n ml' ls → LysOk W' ow (n + 1) ml' ls := by
   intro ml'
   induction ml' with
   | nil => intro ls _ hl; cases ls with | nil => trivial | cons a r => exact hl.elim
   | cons a r ih =>
    intro ls hln hl
    cases ls with
    | nil => exact hl.elim
    | cons y q' =>
     obtain ⟨k1, k2, k3, k4⟩ := hl; simp only [List.length_cons] at hln; exact ⟨hr k1 nofun (fun _ => nofun), (k2.keep (hg.block _ (hM.lt _ (by rw [k3]; nofun)) (fun e => by rw [Option.some.inj e, h3] at k3; injection k3 with k3; omega))).mono (Nat.le_succ n), k3, ih q' q9 k4⟩
  obtain ⟨es, clock, m1, m2⟩ := hM.map.mono (Nat.le_succ n); refine ⟨(hk g (by rw [hM.og]; nofun) (fun i => by rw [hM.og]; nofun)).trans hM.blk, hM.og, hM.om, fun z hz => Nat.lt_of_lt_of_le (hM.lt z hz) hg.size, ⟨es, clock, (hk bm (by rw [hM.om]; nofun) (fun i => by rw [hM.om]; nofun)).trans m1, m2⟩,
   hr hM.rd nofun (fun _ => nofun), hr hM.rb nofun (fun _ => nofun), hr hM.rs nofun (fun _ => nofun), hr hM.rl nofun (fun _ => nofun), fun u => hr (hM.stk u) nofun (fun _ => nofun), ?_⟩
  exact ⟨hr h1 nofun (fun _ => nofun), hS, h3, hly ml r (Nat.le_refl _) h4⟩
theorem Fch.grown {ow ow' : Nat → Ow} {W W1 W' : World} {q : Nat} (h : Fch ow W W1) (hg : W1.grownBy W' (some q)) (hs : Sub ow W ow') (hq : ow' q ≠ .no) : Fch ow W W' :=
 h.trans (ow' := ow') ⟨hg.os, hg.tape, hg.output, hg.size, fun z hz h0 => hg.block z hz (fun e => by rw [Option.some.inj e] at h0; exact hq h0)⟩ hs
theorem declT_calls {s : ByteArray} {stop : Int} {n : Nat} {W : World} {g q : Nat} {ow : Nat → Ow} {hb : List Nat} {x : St} (h : FX s stop n W g ow (q :: hb) x) (hn : n ≤ 4000000000000) (hsl : s.size ≤ 1099511627776) (a b kind : Int) (ha : 0 ≤ a) (hab : a ≤ b) (hbs : b ≤ s.size) :
  Calls Try.prog 68 #[.pointer (some ⟨g, 0, none⟩), .agg #[.int .i64 a, .int .i64 b], .int .u8 kind, .map (some q)] W fun e W' => e = .returned (.int .i64 x.ds.length) ∧ FP s stop (n + 1) W W' g ow (q :: hb) (declT s a b kind x) := by
 obtain ⟨hok, bm, D, vd, vb, vl, vs, ml, hM, hhb⟩ := h; cases ml with
 | nil => cases hhb
 | cons m r =>
  obtain ⟨v, q'⟩ := m; simp only [List.map_cons, List.cons.injEq] at hhb; obtain ⟨rfl, rfl⟩ := hhb; have hl := hM.lys; cases e : x.ls with
  | nil => rw [e] at hl; exact hl.elim
  | cons t l =>
   rw [e] at hl; obtain ⟨h1, h2, h3, h4⟩ := hl; have htop : topH x.ls = t.2 := by rw [e]; rfl
   refine (declare_core hM (Nat.le_trans hok.dl hn) hsl a b kind ha hab hbs q n t.2 h2 hn (fun u => by have := hok.hl t Qa u; omega) (fun e => by rw [e, hM.og] at h3; cases h3) (by rw [h3]; nofun)).mono ?_
   rintro e' W' ⟨rfl, z, v', W1, hM1, hs, hf, hS, hg, hzq⟩
   have h3' : own ow z .ds q = .hm r.length := by unfold own; rw [if_neg (fun e => hzq e.symm)]; exact h3
   have hM2 := hM1.setHm hg hS; rw [← htop] at hM2; exact ⟨rfl, _, ⟨hok.declT kind ha hab hbs, bm, D, v', vb, vl, vs, (v, q) :: r, hM2, rfl⟩, hs, hf.grown hg hs (by rw [h3']; nofun)⟩
theorem declD_calls {s : ByteArray} {stop : Int} {n : Nat} {W : World} {g q : Nat} {ow : Nat → Ow} {hb : List Nat} {x : St} (h : FX s stop n W g ow hb x) (hn : n ≤ 4000000000000) (hsl : s.size ≤ 1099511627776) (a b kind : Int) (ha : 0 ≤ a) (hab : a ≤ b) (hbs : b ≤ s.size)
  (hm : ByteArray → Int) (hS : SM W q n hm) (hh : ∀ u, 0 ≤ hm u ∧ hm u ≤ 4000000000000) (ho : ow q = .no) :
  Calls Try.prog 68 #[.pointer (some ⟨g, 0, none⟩), .agg #[.int .i64 a, .int .i64 b], .int .u8 kind, .map (some q)] W fun e W' => e = .returned (.int .i64 x.ds.length) ∧ SM W' q (n + 1) (bump hm (cutS s a b)) ∧ ∃ ow', FX s stop (n + 1) W' g ow' hb (declD s a b kind hm x) ∧ Sub ow W ow' ∧ Fch (own ow q .fin) W W' := by
 obtain ⟨hok, bm, D, vd, vb, vl, vs, ml, hM, hhb⟩ := h; refine (declare_core hM (Nat.le_trans hok.dl hn) hsl a b kind ha hab hbs q n hm hS hn hh (fun e => by rw [e, hM.og] at ho; cases ho) (by rw [ho]; nofun)).mono ?_
 rintro e' W' ⟨rfl, z, v', W1, hM1, hs, hf, hS', hg, hzq⟩
 have hq1 : own ow z .ds q = .no := by unfold own; rw [if_neg (fun e => hzq e.symm)]; exact ho
 refine ⟨rfl, hS', _, ⟨hok.declD kind hm ha hab hbs, bm, D, v', vb, vl, vs, ml, (hM1.keep hg.size (fun y hy => hg.block y (hM1.lt y hy) (fun e => by rw [Option.some.inj e] at hy; exact hy hq1))).up (Nat.le_succ n), hhb⟩, hs, hg.os.trans hf.os, hg.tape.trans hf.tape, hg.output.trans hf.output, Nat.le_trans hf.size hg.size, fun y hy h0 => ?_⟩
 by_cases e : y = q
 ·subst e; rw [own_b] at h0; cases h0
 ·unfold own at h0
  rw [if_neg e] at h0; exact (hg.block y (Nat.lt_of_lt_of_le hy hf.size) (fun h => e (Option.some.inj h))).trans (hf.block y hy h0)
theorem infoStr : (Try.prog.info? 9).map (fun i => (i.zero, i.size, i.bytes)) = some (some (.string ⟨#[]⟩), 1, 16) := by kernel_rfl
theorem dp_at (l : List Dp) (i : Nat) (d : Dp) (h : l[i]? = some d) : rd_T62 l (i : Int) = d := by
 unfold rd_T62
 rw [Int.toNat_natCast, List.getD_eq_getElem?_getD, h]
 rfl
theorem FM.top {s : ByteArray} {stop : Int} {n : Nat} {W : World} {g bm : Nat} {D : DataW Value} {ow : Nat → Ow} {vd vb vl vs v : Value} {q : Nat} {r : List (Value × Nat)} {x : St} (hM : FM s stop n W g bm D ow vd vb vl vs ((v, q) :: r) x) :
  ∃ lb cl, vl = .slice (some ⟨lb, 0, none⟩) (r.length + 1) cl ∧ ow lb = .ly ∧ r.length + 1 ≤ cl ∧ (W.cell? ⟨lb, r.length * 2, none⟩ = some v ∧ W.cell? ⟨lb, r.length * 2 + 1, none⟩ = some (.map (some q))) ∧ W.frozen? ⟨lb, r.length * 2, none⟩ = false ∧ lb < W.heap.size ∧ lb ≠ g ∧
   ∀ (W2 : World) (v' : Value), (∀ q, ow q = .ly → W2.heap[q]? = W.heap[q]?) → v'.oneCell' = true → Kd.R (Kd.raw 2) 123 (W2.setCell ⟨lb, r.length * 2, none⟩ v') 0 (fun q => ow q = .ly) vl (((v', q) :: r).reverse.map rawLy) := by
 have hR := hM.rl; have hlen : ((((v, q) :: r).reverse.map rawLy).length) = r.length + 1 := by simp
 obtain ⟨lb, cl, hv, _, hlt, _, _⟩ := Kd.R_form hR (by rw [hlen]; omega)
 rw [hlen] at hv; rw [hv] at hR; have hll : (((v, q) :: r).reverse.map rawLy).getD (r.length : Int).toNat [] = rawLy (v, q) := by
  rw [Int.toNat_natCast, List.reverse_cons, List.map_append, List.getD_eq_getElem?_getD, List.getElem?_append_right qf]
  simp
 obtain ⟨ce, hcl, hMM, hcc, hfr⟩ := Kd.R_elem hR [] (r.length : Int) q9 q9
 rw [hll] at hMM; have hce : ce = rawLy (v, q) := hMM.1; have hl := hM.lys; have hvc : v.oneCell' = true := by
  cases e : x.ls with
  | nil => rw [e] at hl; exact hl.elim
  | cons t l => rw [e] at hl; exact (Kd.R_val hl.1).2
 have hob : ow lb = .ly := hR.1 lb rfl; refine ⟨lb, cl, hv, hob, (Kd.zbk hR).2.1, ⟨?_, ?_⟩, ?_, ?_, ?_, fun W2 v' hk h1 => ?_⟩
 ·have := hcc 0 v (by rw [hce]; rfl)
  simpa [Kd.raw] using this
 ·have := hcc 1 (.map (some q)) (by rw [hce]; rfl)
  simpa [Kd.raw] using this
 ·have := hfr 0
  simpa [Kd.raw] using this
 ·exact hM.lt lb (by rw [hob]; nofun)
 ·intro e; rw [e, hM.og] at hob; cases hob
 ·have hR2 := Kd.zbC (w1 := W2) hR (fun q hq _ => hk q hq)
  obtain ⟨ce, hcl, hMM, hcc, hfr⟩ := Kd.R_elem hR2 [] (r.length : Int) q9 q9
  rw [hll] at hMM; have hce : ce = rawLy (v, q) := hMM.1; have hseg := Kd.R_seg hR2 (r.length : Int) q9 q9 (seg := [v']) (j := 0) hcl hcc (show 0 + 1 ≤ 2 from qe) (x' := rawLy (v', q)) (okp := fun _ => False) (by rw [hce]; exact ⟨rfl, rfl, by intro y hy; simp at hy; rcases hy with rfl | rfl; exact h1; rfl⟩) (fun _ h => h.elim)
  have h2 := hseg.1; rw [hv]; have e1 : ((((v, q) :: r).reverse.map rawLy).set (r.length : Int).toNat (rawLy (v', q))) = ((v', q) :: r).reverse.map rawLy := by
   rw [Int.toNat_natCast, List.reverse_cons, List.reverse_cons, List.map_append, List.map_append, List.set_append_right _ _ qf]
   simp
  rw [e1] at h2
  simpa [World.setCells, Kd.raw] using h2
theorem FM.names_app {s : ByteArray} {stop : Int} {n : Nat} {W : World} {g bm : Nat} {D : DataW Value} {ow : Nat → Ow} {vd vb vl vs v : Value} {q : Nat} {r : List (Value × Nat)} {x : St} (hM : FM s stop n W g bm D ow vd vb vl vs ((v, q) :: r) x) (hok : ∀ t ∈ x.ls, t.1.length ≤ 4000000000001) (u : ByteArray) (lb : Nat) (cl : Nat) (hvl : vl = .slice (some ⟨lb, 0, none⟩) (r.length + 1) cl) :
  ∃ A m c, v = .slice A m c ∧ ∃ b cap w1, (Builtin.append_ #[103, 103] 103 #[.slice A m c, .slice (some ⟨W.heap.size, 0, none⟩) 1 1]).run Try.prog (W.alloc (.cells #[.string u] 9)) = .ok (.slice (some ⟨b, 0, none⟩) (m + 1) cap) w1 ∧ w1.cell? ⟨lb, r.length * 2, none⟩ = some v ∧ w1.frozen? ⟨lb, r.length * 2, none⟩ = false ∧ lb < w1.heap.size ∧
   ∃ ow', FM s stop n (w1.setCell ⟨lb, r.length * 2, none⟩ (.slice (some ⟨b, 0, none⟩) (m + 1) cap)) g bm D ow' vd vb vl vs ((.slice (some ⟨b, 0, none⟩) (m + 1) cap, q) :: r) { x with ls := addName x.ls u } ∧ Sub ow W ow' ∧ Fch ow W (w1.setCell ⟨lb, r.length * 2, none⟩ (.slice (some ⟨b, 0, none⟩) (m + 1) cap)) := by
 have hl := hM.lys; cases e : x.ls with
 | nil => rw [e] at hl; exact hl.elim
 | cons t l =>
  rw [e] at hl; obtain ⟨h1, h2, h3, h4⟩ := hl; obtain ⟨A, c, hv⟩ := Kd.za4 h1; simp only at hv; have h1' := h1; simp only [hv] at h1'; obtain ⟨b, cap, w1, hrun, hbo, hbl, hsz, hst, hfc, hR5⟩ := row_app (t := .nm r.length) Kd.string 9 103 rfl hM.lt nofun h1' Try.underlying103 infoStr rfl qe qe (by have := hok t Qa; omega)
   u [.string u] rfl rfl rfl (by intro y hy; simp at hy; rw [hy]; rfl)
  obtain ⟨lb', cl', hvl', hob, _, ⟨hcell, _⟩, hfr, hlb, hlg, hput⟩ := hM.top; rw [hvl] at hvl'; injection hvl' with hvl1 _ _
  injection hvl1 with hvl1
  obtain rfl : lb = lb' := by injection hvl1
  have hlk : w1.heap[lb]? = W.heap[lb]? := hst lb hlb (by rw [hob]; nofun)
  obtain ⟨Z, hZ⟩ : ∃ Z, Z = w1.setCell ⟨lb, r.length * 2, none⟩ (.slice (some ⟨b, 0, none⟩) (t.1.length + 1) cap) := ⟨_, rfl⟩; have hzs : Z.heap.size = w1.heap.size := by rw [hZ]; simp
  have hzo : ∀ z, z ≠ lb → Z.heap[z]? = w1.heap[z]? := fun z hz => by rw [hZ]; exact Below.heap_setCell _ _ _ _ hz
  have k : Mv ow b (.nm r.length) lb W Z := ⟨hbo, by rw [hzs]; exact hbl, by rw [hzs]; exact hsz, fun z hz h1 h2 => (hzo z h1).trans (hst z hz h2)⟩
  have hbn : own ow b (.nm r.length) lb = .ly := k.old hM.lt hob nofun nofun; refine ⟨A, t.1.length, c, hv, b, cap, w1, hrun, ?_, ?_, q9, own ow b (.nm r.length), ?_, Sub.own hbo nofun, ?_⟩
  ·rw [cell_of_heap hlk, hcell]
  ·rw [← hfr]
   unfold World.frozen?
   simp only [hlk]
  ·rw [← hZ]
   refine ⟨(hzo g (fun e => hlg e.symm)).trans ((hst g (zaN hM.blk) (by rw [hM.og]; nofun)).trans hM.blk), k.old hM.lt hM.og nofun nofun, k.old hM.lt hM.om nofun nofun, k.lt hM.lt, k.map hob hM.lt hM.map hM.om nofun nofun, k.row hob hM.lt hM.rd nofun nofun nofun, k.row hob hM.lt hM.rb nofun nofun nofun, k.row hob hM.lt hM.rs nofun nofun nofun, ?_,
    fun w => k.row hob hM.lt (hM.stk w) nofun nofun nofun, ?_⟩
   ·rw [hZ]
    exact Kd.zbl (hput w1 _ (fun z hz => hst z (hM.lt z qv) qv) rfl) (fun z hz => k.old hM.lt hz nofun nofun)
   ·simp only [e, addName]
    exact ⟨Kd.zbC hR5 (fun z hz _ => hzo z (fun e => by rw [e, hbn] at hz; cases hz)), k.sm hob hM.lt h2 h3 nofun nofun nofun, k.old hM.lt h3 nofun nofun, LysOk.mv k hob (fun _ => ⟨nofun, nofun⟩) hM.lt _ _ (fun j hj => ⟨fun e => by injection e with e; omega, nofun⟩) h4⟩
  ·rw [← hZ]
   refine ⟨?_, ?_, ?_, by rw [hzs]; exact hsz, fun z hz h0 => k.st z hz (fun e => by rw [e, hob] at h0; cases h0) (by rw [h0]; nofun)⟩
   ·rw [hZ]; simpa [World.setCell] using hfc.os
   ·rw [hZ]; simpa [World.setCell] using hfc.tape
   ·rw [hZ]; simpa [World.setCell] using hfc.output
section
attribute [local go_sem] zbu
theorem infoInt : (Try.prog.info? 3).map (fun i => (i.zero, i.size, i.bytes)) = some (some (.int .i64 0), 1, 8) := by kernel_rfl
theorem int_at {W : World} {A : Option Addr} {l : List Int} (h : Kd.C (Kd.int .i64) W A l.length l) (i : Nat) (k : Int) (hk : l[i]? = some k) : ∃ ad, A = some ad ∧ W.cell? (ad.add i) = some (.int .i64 k) := by
 have hi : i < l.length := (List.getElem?_eq_some_iff.1 hk).1; obtain ⟨ad, c, e, _, hK, hc0⟩ := Kd.C_get h (-1) (i : Int) q9 q9
 obtain rfl : c = [.int .i64 (l.getD (i : Int).toNat (-1))] := hK; refine ⟨ad, e, ?_⟩
 have := hc0 0 _ rfl; rw [Int.toNat_natCast, List.getD_eq_getElem?_getD, hk] at this; rw [show (ad.add i) = (ad.add (i * (Kd.int .i64).sz + 0)) by simp [Kd.int, Kd.scalar], this]
 rfl
theorem addName_cons {s : ByteArray} {x : St} {k : Int} : zbT s x k = { x with kn := upd x.kn (nmK s x.ds k) (x.kn (nmK s x.ds k) ++ [max k (zbB x.kn (nmK s x.ds k))]), ls := addName x.ls (nmK s x.ds k) } := rfl
theorem countP_take {s : ByteArray} {x : St} {l : List Int} {i : Nat} {k : Int} (h : l[i]? = some k) : countP s x (l.take (i + 1)) = zbT s (countP s x (l.take i)) k := by
 unfold countP
 rw [List.take_add_one, h, List.foldl_append]
 rfl
theorem fcount_calls {s : ByteArray} {stop : Int} {n : Nat} {W : World} {g : Nat} {ow : Nat → Ow} {hb : List Nat} {x : St} (h : FX s stop n W g ow hb x) (hls : x.ls ≠ []) (l : List Int) (A : Option Addr) (c : Nat) (hF : Kd.F (Kd.int .i64) W (fun q => ow q = .no) A l.length l) (hlk : ∀ k ∈ l, 0 ≤ k ∧ k < x.ds.length) (hn : n + l.length ≤ 4000000000000) (hsl : s.size ≤ 1099511627776) :
  Calls Try.prog 52 #[.pointer (some ⟨g, 0, none⟩), .slice A l.length c] W fun e W' => e = .returned (.tuple #[]) ∧ FP s stop (n + l.length) W W' g ow hb (countP s x l) := by
 obtain ⟨hok, bm, D, vd, vb, vl, vs, ml, hM, hhb⟩ := h; have HOK := J hok; have hl := hM.lys; cases ml with
 | nil => cases e : x.ls with
  | nil => exact absurd e hls
  | cons t r => rw [e] at hl; exact hl.elim
 | cons m r =>
 obtain ⟨v0, q⟩ := m; obtain ⟨lb, cl, hvl, hob, hcl, ⟨hc0, _⟩, _, hlb, hlg, _⟩ := hM.top; have HVL := J hvl; have HM := J hM; have HF := J hF; have HLK := J hlk; have HN := J hn; have HSL := J hsl; have HLS := J hls; have HHB := J hhb; have HOB := J hob; have p4 := zaf hM.blk 4; have l0 := zaN hM.blk; simp at p4; rw [hvl] at p4; obtain ⟨rl, hrl⟩ : ∃ rl, rl = r.length := ⟨_, rfl⟩; rw [← hrl] at p4 hcl; have hrn : rl ≤ 4000000000000 := by
  have h1 := LysOk.len _ _ hM.lys; have := hok.ll; simp only [List.length_cons] at h1; omega
 have HRL := J hrl; have hus := Try.underlying82; have hul := Try.underlying123; have hup := Try.underlying60; have hud := Try.underlying62; have hnm := Try.underlying47; have hll : l.length ≤ 4000000000000 := by omega
 clear hok hM hvl hob hc0 hlb hF hlk hn hsl hls hhb hl hrl; go_enter Try.func52, Try.ntmps52
 go_upto_region 0 with (fail)
 go_quiet (fail)
 go_wp2
 clear p4; obtain ⟨w0, hw0⟩ : ∃ w0, w0 = W.drewN nq := ⟨_, rfl⟩; have HB0 := J (show Below W.heap.size W w0 by rw [hw0]; exact ⟨rfl, rfl, rfl, Nat.le_refl _, fun _ _ => rfl⟩)
 rw [← hw0]; clear hw0; go_loopg [22] l.length (fun kq v22 wr => ∃ i : Nat, v22 = .int .i64 i ∧ i ≤ l.length ∧ zaa (kq = l.length - i) ∧ ∃ D' ow' v', zaa (FM s stop (n + i) wr g bm D' ow' vd vb vl vs ((v', q) :: r) (countP s x (l.take i)) ∧ Sub ow W ow' ∧ Fch ow W wr))
 case atStart => exact ⟨0, rfl, Nat.zero_le _, ⟨rfl⟩, D, ow, v0, ⟨HM.out.below HB0.out, Sub.refl, Fch.of_below HB0.out⟩⟩
 case round =>
  clear l0; obtain ⟨i, rfl, hi, HKQ, D', ow', v', HR⟩ := hrel; by_cases hlt : i < l.length
  ·obtain ⟨k', hk'⟩ : ∃ k, l[i]? = some k := ⟨_, List.getElem?_eq_getElem hlt⟩
   obtain ⟨hk0, hk1⟩ := HLK.out k' (List.mem_of_getElem? hk'); obtain ⟨k, rfl⟩ : ∃ k : Nat, k' = k := ⟨k'.toNat, q9⟩
   obtain ⟨d, hd⟩ : ∃ d, x.ds[k]? = some d := ⟨_, List.getElem?_eq_getElem q9⟩
   obtain ⟨x', hx'⟩ : ∃ x', x' = countP s x (l.take i) := ⟨_, rfl⟩; have hds : x'.ds = x.ds := by rw [hx']; exact (countP_ds s _ x).1
   rw [← hx'] at HR; have hMr := HR.out.1; have HMR := J hMr; have HSB := J HR.out.2.1; have HFC := J HR.out.2.2; have HXN := J (show countP s x (l.take (i + 1)) = zbT s x' k by rw [hx']; exact countP_take hk')
   have HOK' := J (show Ok s (n + i) x' by
    have := HOK.out.countP (l.take i) (fun z hz => HLK.out z (List.mem_of_mem_take hz)) HLS.out
    rw [List.length_take, Nat.min_eq_left hi] at this; rw [hx']; exact this)
   have hC := Kd.F_now (Kd.F_step (W1 := wr) HF.out (fun z hz hzl => HFC.out.block z hzl hz))
   obtain ⟨ad, rfl, q0⟩ := int_at hC i _ hk'; have hRd := hMr.rd; rw [hds] at hRd; obtain ⟨Ad, cd, hvd, hcd, hCd⟩ := Kd.zbR hRd; obtain ⟨ad2, e2, c0, c1, c2, c3⟩ := at_T62 hCd (k : Int) q9 q9
   subst e2; rw [dp_at _ _ _ hd, Int.toNat_natCast] at c0 c1 c2 c3; have HSP := J (HOK.out.sp d (List.mem_of_getElem? hd)); have HNK := J (show nmK s x'.ds k = cutS s d.f0.f0 d.f0.f1 by rw [hds]; exact nmK_some (by rw [Int.toNat_natCast]; exact hd))
   obtain ⟨⟨a, b⟩, dk, da⟩ := d; simp only at c0 c1 c2 c3 HSP HNK; obtain ⟨sz, hsz⟩ : ∃ sz, sz = x.ds.length := ⟨_, rfl⟩; rw [← hsz] at hk1 hvd; have p1 := zaf hMr.blk 1; have l1 := zaN hMr.blk; simp at p1; rw [hvd] at p1; have HVD := J hvd; have HMB := J hMr.blk; have hszl : sz ≤ 4000000000000 := by have := HOK.out.dl; have := HN.out; omega
   clear hk' hk0 hd hx' hds hMr hC hRd hvd hCd hcd c2 c3 hsz; go_upto_region 5 with (fail)
   obtain ⟨X1, hX1⟩ : ∃ X, X = wr.alloc (.cells #[.int .i64 a, .int .i64 b] 60) := ⟨_, rfl⟩; have b1 : Below wr.heap.size wr X1 := by rw [hX1]; exact zad (Below.refl _ _) _
   have kx1 : X1.heap[wr.heap.size]? = some (.cells #[.int .i64 a, .int .i64 b] 60 (0, 0)) := by rw [hX1]; exact heap_alloc_new _ _
   change Code.wp Try.prog _ _ _ (wr.alloc (.cells #[.int .i64 a, .int .i64 b] 60))
   rw [← hX1]; obtain ⟨kb, hkb⟩ : ∃ kb, kb = wr.heap.size := ⟨_, rfl⟩; rw [← hkb] at kx1; rw [show (⟨wr.heap.size, 0, none⟩ : Addr) = ⟨kb, 0, none⟩ by rw [hkb]]
   have HB1 := J b1; have x0 := zaf (zaG HMB.out b1) 0; have x1 := zaf kx1 0; have x2 := zaf kx1 1; have x3 := zaN kx1; have x4 := zaN (zaG HMB.out b1); simp at x0 x1 x2; obtain ⟨ha, hab, hbs⟩ := HSP.out; clear hX1 hkb b1 kx1 q0 c0 c1 p1 l1
   go_quiet (fail)
   obtain ⟨u, hu⟩ : ∃ u, u = s.extract a.toNat b.toNat := ⟨_, rfl⟩; have hnk : nmK s x'.ds k = u := HNK.out.trans hu.symm; have HU := J hnk; have HUL := J (show u.size ≤ maxLen by rw [hu]; exact cutS_le s a b HSL.out)
   rw [← hu]; clear hu hnk x0 x1 x2 x3 x4 ha hab hbs; go_upto_region 6 with (fail)
   obtain ⟨X, hX⟩ : ∃ X, X = (X1.drewN nq).drew := ⟨_, rfl⟩; have bX : Below X1.heap.size X1 X := by rw [hX]; exact ⟨rfl, rfl, rfl, Nat.le_refl _, fun _ _ => rfl⟩
   have hbX := zak HB1.out bX; have hMX := HMR.out.below hbX; obtain ⟨Au, cu, hmu, hlu, hcu, _, hlkX⟩ := hMX.look u HUL.out; obtain ⟨m, hm⟩ : ∃ m, m = (x'.kn u).length := ⟨_, rfl⟩; have hRu := hMX.stk u; rw [← hm] at hmu hlkX hlu; rw [hmu] at hRu; obtain ⟨mv, hmv⟩ : ∃ mv, mv = zbB x'.kn u := ⟨_, rfl⟩; obtain ⟨mx, hmx⟩ : ∃ mx, mx = max (k : Int) mv := ⟨_, rfl⟩; obtain ⟨z, cap, w5, hrun, hzo, hzl, hsz5, hst, hfc5, hR5⟩ := row_app (t := .st u) (Kd.int .i64) 3 106 rfl hMX.lt nofun hRu Try.underlying106 infoInt rfl qe qe (by have := HOK'.out.kl u; have := HN.out; omega)
    mx [.int .i64 mx] rfl rfl rfl (by intro y hy; simp at hy; rw [hy]; rfl)
   have k1 : Mv ow' z (.st u) g X w5 := ⟨hzo, hzl, hsz5, fun y hy _ h2 => hst y hy h2⟩
   have hgk : w5.heap[g]? = X.heap[g]? := hst g (zaN hMX.blk) (by rw [hMX.og]; nofun)
   have hm5 := k1.map hMX.og hMX.lt hMX.map hMX.om nofun nofun; obtain ⟨W6, hrun6, hown6, hturn⟩ := omap_store (val := .slice (some ⟨z, 0, none⟩) (m + 1) cap) hm5 klaw Try.underlying79 (show n + i < maxLen by have := HN.out; unfold maxLen; omega) (keyS_of u HUL.out)
   have hg6 := turned_grown hturn; have hM6 := hMX.setSt k1 hgk hR5 (fun y hy hne => hg6.block y hy (fun e => hne (Option.some.inj e))) hg6.size hown6 (Nat.le_succ _)
   have hf6 : Fch ow' wr W6 := (Fch.trans (Fch.of_below hbX) hfc5 Sub.refl).trans (ow' := ow') ⟨hg6.os, hg6.tape, hg6.output, hg6.size, fun y hy h0 => hg6.block y hy (fun e => by rw [Option.some.inj e, hMX.om] at h0; cases h0)⟩ Sub.refl
   have hs6 : Sub ow' wr (own ow' z (.st u)) := Sub.own (hzo.imp id (fun h => Nat.le_trans hbX.size h)) nofun
   have hlk5 : (Instr.lookup 79 (.map (some bm)) (.string u) false).run Try.prog w5 = .ok (.slice Au m cu) w5 := by rw [omap_look hm5 klaw Try.underlying79 qb (keyS_of u HUL.out), hmu]
   have hal : ∀ Y, Y = X.alloc (.cells #[.int .i64 mx] 3) → Below X.heap.size X Y := fun Y e => by rw [e]; exact zad (Below.refl _ _) _
   have hlkY : ∀ Y, Y = X.alloc (.cells #[.int .i64 mx] 3) → (Instr.lookup 79 (.map (some bm)) (.string u) false).run Try.prog Y = .ok (.slice Au m cu) Y := fun Y e => by
    rw [omap_look (hMX.below (hal Y e)).map klaw Try.underlying79 qb (keyS_of u HUL.out), hmu]
   have HSF := J (show ∀ W' : World, W'.heap[g]? = some (.cells #[.string s, vd, vb, .map (some bm), vl, .int .i64 stop, vs] 82 (0, 0)) → (Instr.lookup 79 (.map (some bm)) (.string u) false).run Try.prog W' = .ok (.slice Au m cu) W' →
     (W'.cell? ⟨g, 3, none⟩ = some (.map (some bm)) ∧ g < W'.heap.size) ∧ (Instr.lookup 79 (.map (some bm)) (.string u) false).run Try.prog W' = .ok (.slice Au m cu) W' from fun W' h1 h2 => by
    have e1 := zaf h1 3; simp at e1; exact ⟨⟨e1, zaN h1⟩, h2⟩)
   have HS0 := J (HSF.out X hMX.blk hlkX); have HSY := J (show ∀ Y, Y = X.alloc (.cells #[.int .i64 mx] 3) → _ from fun Y e => HSF.out Y (zaG hMX.blk (hal Y e)) (hlkY Y e))
   have HS5 := J (HSF.out w5 (hgk.trans hMX.blk) hlk5); have HRUN := J hrun; have HRUN6 := J hrun6; have HMX := J hMX; have HMV := J hmv; have HITE := J (show (if (k : Int) < mv then mv else (k : Int)) = mx by rw [hmx]; split <;> omega)
   have HM6 := J (show FM s stop (n + i + 1) W6 g bm (D'.put (keyS u) (.held (.slice (some ⟨z, 0, none⟩) (m + 1) cap))) (own ow' z (.st u)) vd vb vl vs ((v', q) :: r) { x' with kn := upd x'.kn u (x'.kn u ++ [max (k : Int) (zbB x'.kn u)]) } by rw [← hmv, ← hmx]; exact hM6)
   have HF6 := J hf6; have HS6 := J hs6; clear hmv bX hbX hMX hmu hlu hcu hlkX hm hRu hmx hrun hzo hzl hsz5 hst hfc5 hR5 k1 hgk hm5 hrun6 hown6 hturn hg6 hM6 hf6 hs6 hlk5 hal hlkY; refine wp_region_noPanic (zba [0, 1, 2, 3, 4, 5, 6, 7, 8, 9, 10, 11, 12, 13, 14, 15, 16, 17] (fun W' => (W'.cell? ⟨g, 3, none⟩ = some (.map (some bm)) ∧ g < W'.heap.size) ∧ (Instr.lookup 79 (.map (some bm)) (.string u) false).run Try.prog W' = .ok (.slice Au m cu) W') mixF ?_)
   rw [← hX]; clear hX; refine zah 0 rfl HS0.out (fun _ h => qH) ?_
   simp only [Act.put, zai]; refine zah 1 rfl HS0.out (fun _ h => qH) ?_
   simp only [Act.put, zai]; refine zah 2 rfl HS0.out (fun _ h => qH) ?_
   simp only [Act.put, zai]; refine zah 3 rfl HS0.out (fun _ h => qH) ?_
   simp only [Act.put, zai]; refine zah 4 rfl HS0.out (fun _ h => qH) ?_
   simp only [Act.put, zai]; refine zah 5 rfl HS0.out (fun _ h => qH) ?_
   simp only [Act.put, zai]; refine zah 6 rfl HS0.out (fun _ h => qH) ?_
   simp only [Act.put, zai]; refine zah 7 rfl HS0.out (fun _ h => qH) ?_
   simp only [Act.put, zai]; refine zah 8 rfl HS0.out (fun _ h => qH) ?_
   simp only [Act.put, zai]; refine zah 9 rfl HS0.out (fun _ h => qH) ?_
   simp only [Act.put, zai]; refine zah 10 rfl HS0.out (fun _ h => qH) ?_
   simp only [Act.put, zai]; refine zah 11 rfl HS0.out (fun _ h => qH) ?_
   simp only [Act.put, zai]; refine zah 12 rfl HS0.out (fun _ h => qH) ?_
   simp only [Act.put, zai]; refine zah 13 rfl HS0.out (fun _ h => qH) ?_
   simp only [Act.put, zai]; refine zaI (i := 14) rfl qb (fun K hK => ?_)
   go_simp
   refine (means_calls HMX.out u HUL.out).mono ?_
   rintro e_ w_ ⟨rfl, rfl⟩
   rw [← HMV.out]; refine hK.out _ _ (fun _ => HS0.out) (fun _ => ?_)
   clear hK K; try simp only [Act.put, zai]
   refine zah 15 rfl HS0.out (fun _ h => qH) ?_
   simp only [Act.put, zai]; rw [HITE.out]; refine zaI (i := 16) rfl qb (fun K hK => ?_)
   go_simp
   refine hK.out _ _ (fun _ => HSY.out _ rfl) (fun _ => ?_)
   clear hK K; try simp only [Act.put, zai]
   refine zaI (i := 17) rfl qb (fun K hK => ?_)
   refine wpF_app (by rfl) _ _ _ rfl HRUN.out ?_
   refine hK.out _ _ (fun _ => HS5.out) (fun _ => ?_)
   clear hK K; try simp only [Act.put, zai]
   have hrun6 := HRUN6.out; refine zaI (i := 18) rfl qb (fun K hK => ?_)
   go_simp
   refine hK.out _ _ (fun h => Bool.noConfusion (show false = true from h)) (fun _ => ?_)
   clear hK K; try simp only [Act.put, zai]
   refine za3 qb (NoPanic.normal ?_) _
   clear hrun6; obtain ⟨An, mn, cn, hvn, bn, cap2, w7, hrun7, hc7, hfr7, hl7, ow7, hM7, hs7, hf7⟩ := HM6.out.names_app (fun t_ ht_ => by have h1 := HOK'.out.nl t_ ht_; have := HN.out; omega) u lb cl HVL.out
   obtain ⟨lb', _, hvl', _, _, ⟨hc6, _⟩, _, hl6, _, _⟩ := HM6.out.top; obtain rfl : lb = lb' := by
    have h1 := HVL.out.symm.trans hvl'; injection h1 with h1 _ _
    injection h1 with h1
    injection h1
   rw [← HRL.out] at hc7 hfr7 hc6 hM7 hf7; rw [hvn] at hc6 hc7; have HM7 := J hM7; have HS7 := J hs7; have HF7 := J hf7; clear hvl' hvn hM7 hs7 hf7; go_upto_region 8 with (at_builtin; refine wpL_app rfl _ _ _ rfl hrun7 ?_; clear hrun7)
   have HFN := J (HFC.out.trans (HF6.out.trans HF7.out HS6.out) HSB.out); have HSN := J (HSB.out.trans (HS6.out.trans HS7.out HF6.out.size) HFC.out.size); have HMN := J (show FM s stop (n + (i + 1)) _ g bm _ ow7 vd vb vl vs _ (countP s x (l.take (i + 1))) by rw [HXN.out, addName_cons, HU.out]; exact HM7.out)
   clear hc6 hc7 hfr7 hl7 hl6; go_wp2
   go_roundg (l.length - (i + 1))
   case measure => have := HKQ.out; omega
   case rel => exact ⟨i + 1, qk, q9, ⟨rfl⟩, _, _, _, ⟨HMN.out, HSN.out, HFN.out⟩⟩
  ·obtain rfl : i = l.length := by omega
   rw [List.take_length] at HR; go_wp2
   exact ⟨rfl, .tuple #[], by simp [results, show Try.f52.results = #[] from rfl, go_sem], rfl, ow', ⟨HOK.out.countP l HLK.out HLS.out, bm, D', vd, vb, vl, vs, _, HR.out.1, HHB.out⟩, HR.out.2.1, HR.out.2.2⟩
end
theorem infoLay : (Try.prog.info? 123).map (fun i => (i.zero, i.size, i.bytes)) = some (some (.agg #[.slice none 0 0, .map none]), 2, 32) := by kernel_rfl
theorem open_calls {s : ByteArray} {stop : Int} {n : Nat} {W : World} {g : Nat} {ow : Nat → Ow} {hb : List Nat} {x : St} (h : FX s stop n W g ow hb x) (hn : n ≤ 4000000000000) :
  Calls Try.prog 50 #[.pointer (some ⟨g, 0, none⟩)] W fun e W' => e = .returned (.tuple #[]) ∧ ∃ q, FP s stop (n + 1) W W' g ow (q :: hb) (openP x) := by
 obtain ⟨hok, bm, D, vd, vb, vl, vs, ml, hM, hhb⟩ := h; obtain ⟨Al, cl, el⟩ := Kd.za4 hM.rl; obtain ⟨nl, hnl⟩ : ∃ nl, nl = (ml.reverse.map rawLy).length := ⟨_, rfl⟩; rw [← hnl] at el; subst el; have hll : ml.length = x.ls.length := LysOk.len _ _ hM.lys; have hlen : nl ≤ 4000000000000 := by have := hok.ll; rw [hnl, List.length_map, List.length_reverse, hll]; omega
 obtain ⟨X1, hX1⟩ : ∃ X, X = W.alloc (.map #[] 0) := ⟨_, rfl⟩; have b1 : Below W.heap.size W X1 := by rw [hX1]; exact zad (Below.refl _ _) _
 have s1 : X1.heap.size = W.heap.size + 1 := by rw [hX1]; simp
 have hS : SM X1 W.heap.size 0 (fun _ => 0) := by rw [hX1]; exact SM.start W
 have hM1 := hM.fresh b1 q9
 obtain ⟨Y, hY⟩ : ∃ Y, Y = X1.alloc (.cells #[.slice none 0 0, .map (some W.heap.size)] 123) := ⟨_, rfl⟩; obtain ⟨b, cap, w5, hrun, hbo, hbl, hsz, hst, hfc, hR5⟩ := row_app (t := .ly) (Kd.raw 2) 123 80 rfl hM1.lt nofun hM1.rl Try.underlying80 infoLay rfl qe qe (by rw [← hnl]; omega)
  (rawLy (.slice none 0 0, W.heap.size)) (rawLy (.slice none 0 0, W.heap.size)) hY ⟨rfl, rfl, by intro v hv; simp at hv; rcases hv with rfl | rfl <;> rfl⟩ rfl (by intro v hv; simp at hv; rcases hv with rfl | rfl <;> rfl)
 have hbg : b ≠ g := fun e => by
  rcases hbo with h | h
  ·rw [e, hM1.og] at h; cases h
  ·have := zaN hM1.blk; omega
 have hk5 : w5.heap[g]? = X1.heap[g]? := hst g (zaN hM1.blk) (by rw [hM1.og]; nofun)
 have hc5 := hk5.trans hM1.blk; obtain ⟨Z, hZ⟩ : ∃ Z, Z = w5.setCell ⟨g, 4, none⟩ (.slice (some ⟨b, 0, none⟩) (nl + 1) cap) := ⟨_, rfl⟩; have hzs : Z.heap.size = w5.heap.size := by rw [hZ]; simp
 have hzo : ∀ q, q ≠ g → Z.heap[q]? = w5.heap[q]? := fun q hq => by rw [hZ]; exact Below.heap_setCell _ _ _ _ hq
 have hzc : Z.heap[g]? = some (.cells #[.string s, vd, vb, .map (some bm), .slice (some ⟨b, 0, none⟩) (nl + 1) cap, .int .i64 stop, vs] 82 (0, 0)) := by rw [hZ]; simpa using zbe hc5 4 (.slice (some ⟨b, 0, none⟩) (nl + 1) cap)
 have k : Mv (own ow W.heap.size (.hm ml.length)) b .ly g X1 Z := ⟨hbo, by rw [hzs]; exact hbl, by rw [hzs]; exact hsz, fun q hq h1 h2 => (hzo q h1).trans (hst q hq h2)⟩
 have hRZ : Kd.R (Kd.raw 2) 123 Z 0 (fun q => own (own ow W.heap.size (.hm ml.length)) b .ly q = .ly) (.slice (some ⟨b, 0, none⟩) (nl + 1) cap) ((((.slice none 0 0, W.heap.size) :: ml : List (Value × Nat))).reverse.map rawLy) := by
  rw [List.reverse_cons, List.map_append, List.map_singleton]; refine Kd.zbC hR5 (fun q hq _ => hzo q (fun e => ?_))
  rw [e, k.old hM1.lt hM1.og nofun nofun] at hq; cases hq
 have hoh : own ow W.heap.size (.hm ml.length) W.heap.size = .hm ml.length := own_b; have HF := J (hM1.setLy (ml' := (.slice none 0 0, W.heap.size) :: ml) (ls := ([], fun _ => 0) :: x.ls) k hzc hRZ ⟨Kd.R_nil _ _ _ _ _, (k.sm hM1.og hM1.lt (hS.mono (Nat.zero_le n)) hoh nofun nofun nofun), k.old hM1.lt hoh nofun nofun, LysOk.mv k hM1.og (fun _ => ⟨nofun, nofun⟩) hM1.lt _ _ (fun j _ => ⟨nofun, nofun⟩) hM1.lys⟩)
 have HS := J (show Sub ow W (own (own ow W.heap.size (.hm ml.length)) b .ly) from Sub.trans (Sub.own (t := .hm ml.length) (.inr (Nat.le_refl _)) nofun) (Sub.own (t := .ly) hbo nofun) q9)
 have HC := J (show Fch ow W Z from by
  refine Fch.trans (Fch.of_below b1) (ow' := own ow W.heap.size (.hm ml.length)) ⟨?_, ?_, ?_, by rw [hzs]; exact hsz, fun q hq h0 => ?_⟩ (Sub.own (t := .hm ml.length) (.inr (Nat.le_refl _)) nofun)
  ·rw [hZ]; simpa [World.setCell] using hfc.os
  ·rw [hZ]; simpa [World.setCell] using hfc.tape
  ·rw [hZ]; simpa [World.setCell] using hfc.output
  ·exact k.st q hq (fun e => by rw [e, hM1.og] at h0; cases h0) (by rw [h0]; nofun))
 have HK := J hok.open_; have HHB := J hhb; have hus := Try.underlying82; have hul := Try.underlying123; have hmm := @run_makeMap Try.prog; have p4 := zaf hM.blk 4; have l0 := zaN hM.blk; have p5 := zaf hM1.blk 4; have p6 := zaf hc5 4; have f6 := zab hc5 4; have l6 := zaN hc5; simp at p4 p5 p6; rw [hY, hX1] at hrun; have hs1' : (W.alloc (.map #[] 0)).heap.size = W.heap.size + 1 := by simp
 rw [hs1'] at hrun; rw [hX1] at p5; clear hnl hok hM hhb hll hlen hS hM1 hbo hbl hsz hst hfc hR5 hbg hk5 hc5 hzs hzo hzc k hRZ hoh b1 s1 hX1 hY; go_enter Try.func50, Try.ntmps50
 go_wp2_with (at_builtin; refine wpL_app rfl _ _ _ rfl hrun ?_; clear hrun)
 rw [← hZ]; exact ⟨rfl, .tuple #[], by simp [results, show Try.f50.results = #[] from rfl, go_sem], rfl, W.heap.size, _, (show FX s stop (n + 1) Z g _ _ (openP x) from ⟨HK.out, _, _, _, _, _, _, _, HF.out.up (Nat.le_succ _), by rw [HHB.out]; rfl⟩), HS.out, HC.out⟩
end Go.Proofs.Ytobgkpnigjfhmaa.H
