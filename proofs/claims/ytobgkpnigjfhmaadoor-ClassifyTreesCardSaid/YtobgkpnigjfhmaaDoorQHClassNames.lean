/- classify.names: the colours of names, by where they stand: the first that is put at a span stays. -/
import Derived.Test.YtobgkpnigjfhmaaDoorQHSpanKey
import Derived.Test.YtobgkpnigjfhmaaDoorQHRound
import Derived.Test.YtobgkpnigjfhmaaDoorQHxclassifycalled
import Derived.WalkSpells
set_option linter.unusedVariables false
set_option linter.unusedSimpArgs false
namespace Go.Proofs.YtobgkpnigjfhmaaDoor.H
open Go.RowKit Go.Proofs.YtobgkpnigjfhmaaDoorW.PrintWords Go.Proofs.YtobgkpnigjfhmaaDoorW.PrintLast Go.Proofs.YtobgkpnigjfhmaaDoorW.PrintMore
open Go.Maps (Keyed IsMap)
abbrev Ent := (Int × Int) × (Int × Int)
def firstOf (L : List Ent) (s : Int × Int) : Option (Int × Int) := (L.find? (fun e => e.1 == s)).map (·.2)
theorem firstOf_snoc (L : List Ent) (e : Ent) (s : Int × Int) : firstOf (L ++ [e]) s = (firstOf L s).or (if e.1 = s then some e.2 else none) := by
  unfold firstOf
  rw [List.find?_append]
  cases h : List.find? (fun e => e.1 == s) L with
  | some x => simp
  | none =>
    by_cases c : e.1 = s
    · simp [List.find?_cons, c]
    · simp [List.find?_cons, c]
abbrev colV (c : Int × Int) : Value := .agg #[.int .i64 c.1, .int .i64 c.2]
structure Holds (W : World) (b n : Nat) (L : List Ent) : Prop where
  own : ∃ D, W.ownsMap Tryd.prog 41 rawE b n D ∧ ∀ s l, keyOf Tryd.prog 41 (spV s) = some l → Maps.has D l = (firstOf L s).isSome ∧ mval D l (colV (0, 0)) = colV ((firstOf L s).getD (0, 0))
theorem Holds.keep {W W' : World} {b n : Nat} {L : List Ent} (h : Holds W b n L) (hk : W'.heap[b]? = W.heap[b]?) : Holds W' b n L := by
  obtain ⟨D, ⟨es, clock, h1, h2⟩, hd⟩ := h.own
  exact ⟨D, ⟨es, clock, hk.trans h1, h2⟩, hd⟩
theorem Holds.lt {W : World} {b n : Nat} {L : List Ent} (h : Holds W b n L) : b < W.heap.size := by
  obtain ⟨D, ho, _⟩ := h.own
  exact ho.lt
theorem Holds.below {W W' : World} {b n : Nat} {L : List Ent} (h : Holds W b n L) (hb : Below W.heap.size W W') : Holds W' b n L := h.keep (hb.block b h.lt)
theorem Holds.start (W : World) : Holds (W.alloc (.map #[] 0)) W.heap.size 0 [] := ⟨.map [], World.ownsMap_made W Tryd.prog 41 rawE, fun s l h => ⟨rfl, mval_empty⟩⟩
theorem spV_inj {s t : Int × Int} (h : spV s = spV t) : s = t := by
  injection h with h
  simp at h
  exact Prod.ext h.1 h.2
theorem Holds.look {W : World} {b n : Nat} {L : List Ent} (h : Holds W b n L) (s : Int × Int) (h1 : inI s.1) (h2 : inI s.2) :
    (Instr.lookup 89 (.map (some b)) (spV s) false).run Tryd.prog W = .ok (colV ((firstOf L s).getD (0, 0))) W := by
  obtain ⟨l, hl⟩ := spKey s h1 h2
  obtain ⟨D, ho, hd⟩ := h.own
  rw [omap_look ho spLaw Tryd.underlying89 (by kernel_rfl) hl, (hd s l hl).2]
theorem Holds.look_ok {W : World} {b n : Nat} {L : List Ent} (h : Holds W b n L) (s : Int × Int) (h1 : inI s.1) (h2 : inI s.2) :
    (Instr.lookup 89 (.map (some b)) (spV s) true).run Tryd.prog W = .ok (.tuple #[colV ((firstOf L s).getD (0, 0)), .bool (firstOf L s).isSome]) W := by
  obtain ⟨l, hl⟩ := spKey s h1 h2
  obtain ⟨D, ho, hd⟩ := h.own
  rw [omap_look_ok ho spLaw Tryd.underlying89 (by kernel_rfl) hl, (hd s l hl).2, (hd s l hl).1]
theorem Holds.store {W : World} {b n : Nat} {L : List Ent} (h : Holds W b n L) (s c : Int × Int) (h1 : inI s.1) (h2 : inI s.2) (hn : n < maxLen) (hf : firstOf L s = none) :
    ∃ W', (Instr.mapUpdate 89 (.map (some b)) (spV s) (colV c)).run Tryd.prog W = .ok () W' ∧ Holds W' b (n + 1) (L ++ [(s, c)]) ∧ W.mapTurned W' b := by
  obtain ⟨l, hl⟩ := spKey s h1 h2
  obtain ⟨D, ho, hd⟩ := h.own
  obtain ⟨W', hr, ho', ht⟩ := omap_store (val := colV c) ho spLaw Tryd.underlying89 hn hl
  refine ⟨W', hr, ⟨_, ho', fun t l' hl' => ?_⟩, ht⟩
  rw [firstOf_snoc]
  by_cases e : s = t
  · subst e
    obtain rfl : l = l' := Option.some.inj (hl.symm.trans hl')
    rw [Maps.has_put_same ho.isMap (spLaw.key hl), mval_put_same ho.isMap (spLaw.key hl), hf]
    simp
  · have hne : l' ≠ l := fun e' => e (spV_inj (spLaw.inj hl (e' ▸ hl')))
    rw [Maps.has_put_other hne, mval_put_other hne, (hd t l' hl').1, (hd t l' hl').2]
    simp [e]
theorem Holds.more {W : World} {b n : Nat} {L : List Ent} (h : Holds W b n L) (s c : Int × Int) (hf : (firstOf L s).isSome = true) : Holds W b n (L ++ [(s, c)]) := by
  obtain ⟨D, ho, hd⟩ := h.own
  refine ⟨D, ho, fun t l hl => ?_⟩
  rw [firstOf_snoc]
  by_cases e : s = t
  · subst e
    rw [(hd s l hl).1, (hd s l hl).2]
    cases h : firstOf L s with
    | none => rw [h] at hf; cases hf
    | some x => simp
  · rw [(hd t l hl).1, (hd t l hl).2]
    simp [e]
set_option maxHeartbeats 8000000 in
set_option maxRecDepth 100000 in
theorem put_calls (bo b n : Nat) (L : List Ent) (s c : Int × Int) (W : World) (h1 : inI s.1) (h2 : inI s.2) (hn : n < maxLen) (hH : Holds W b n L) (hbo : W.heap[bo]? = some (.cells #[.map (some b)] 89 (0, 0))) (hne : b ≠ bo) :
    Calls Tryd.prog 55 #[spV s, colV c, .pointer (some ⟨bo, 0, none⟩)] W fun e W' => e = .returned (.tuple #[]) ∧ ∃ n', n' ≤ n + 1 ∧ Holds W' b n' (L ++ [(s, c)]) ∧ W.grownBy W' (some b) := by
  have HH := Aside0.mk hH
  have H1 := Aside0.mk h1
  have H2 := Aside0.mk h2
  have HN := Aside0.mk hn
  have HBO := Aside0.mk hbo
  clear hH h1 h2 hn hbo
  go_enter Tryd.func55, Tryd.ntmps55
  go_upto_region 1 with (fail)
  obtain ⟨X1, hX1⟩ : ∃ X, X = W.alloc (.cells #[.int .i64 s.1, .int .i64 s.2] 41) := ⟨_, rfl⟩
  obtain ⟨X, hX⟩ : ∃ X, X = X1.alloc (.cells #[.int .i64 c.1, .int .i64 c.2] 95) := ⟨_, rfl⟩
  have s1 : X1.heap.size = W.heap.size + 1 := by rw [hX1]; simp
  have s2 : X.heap.size = W.heap.size + 2 := by rw [hX]; simp [s1]
  have b1 : Below W.heap.size W X1 := by rw [hX1]; exact below_alloc (Below.refl _ _) _
  have b2 : Below X1.heap.size X1 X := by rw [hX]; exact below_alloc (Below.refl _ _) _
  have k1 : X.heap[W.heap.size]? = some (.cells #[.int .i64 s.1, .int .i64 s.2] 41 (0, 0)) := blk_below (by rw [hX1]; exact heap_alloc_new _ _) b2
  have k2 : X.heap[W.heap.size + 1]? = some (.cells #[.int .i64 c.1, .int .i64 c.2] 95 (0, 0)) := by rw [hX, ← s1]; exact heap_alloc_new _ _
  have hb := below_step b1 b2
  have k0 := blk_below HBO.out hb
  have HX := Aside0.mk (HH.out.below hb)
  have HB := Aside0.mk hb
  have hlk := HX.out.look_ok s H1.out H2.out
  have p1 := blk_cell k1 0
  have p2 := blk_cell k1 1
  have r1 := blk_cell k2 0
  have r2 := blk_cell k2 1
  have q0 := blk_cell k0 0
  have l1 := blk_lt k1
  have l2 := blk_lt k2
  have l0 := blk_lt k0
  simp at p1 p2 r1 r2 q0
  have hus := Tryd.underlying41
  have huc := Tryd.underlying95
  have K0 := Aside0.mk k0
  have K1 := Aside0.mk k1
  have K2 := Aside0.mk k2
  change Code.wp Tryd.prog _ _ _ ((W.alloc (.cells #[.int .i64 s.1, .int .i64 s.2] 41)).alloc (.cells #[.int .i64 c.1, .int .i64 c.2] 95))
  rw [← hX1, ← hX]
  clear hX1 hX s1 s2 b1 b2 k0 k1 k2 hb
  cases hf : (firstOf L s).isSome with
  | true =>
    rw [hf] at hlk
    have HF := Aside0.mk hf
    clear hf
    obtain ⟨cc, hcc⟩ : ∃ cc, cc = (firstOf L s).getD (0, 0) := ⟨_, rfl⟩
    rw [← hcc] at hlk
    clear hcc
    go_wp2
    exact ⟨rfl, .tuple #[], by simp [results, show Tryd.f55.results = #[] from rfl, go_sem], rfl, n, by omega, (HX.out.below (below_alloc (Below.refl _ _) _)).more s c HF.out, grown_of_below (below_step HB.out (below_alloc (Below.refl _ _) _)) _⟩
  | false =>
    rw [hf] at hlk
    have HF := Aside0.mk (show firstOf L s = none by simpa using hf)
    clear hf
    obtain ⟨cc, hcc⟩ : ∃ cc, cc = (firstOf L s).getD (0, 0) := ⟨_, rfl⟩
    rw [← hcc] at hlk
    clear hcc
    go_upto_region 3 with (fail)
    obtain ⟨Y, hY⟩ : ∃ Y, Y = X.alloc (.cells #[.int .i64 cc.1, .int .i64 cc.2] 95) := ⟨_, rfl⟩
    have hbY : Below X.heap.size X Y := by rw [hY]; exact below_alloc (Below.refl _ _) _
    change Code.wp Tryd.prog _ _ _ (X.alloc (.cells #[.int .i64 cc.1, .int .i64 cc.2] 95))
    rw [← hY]
    obtain ⟨W6, hrun, hown, hturn⟩ := (HX.out.below hbY).store s c H1.out H2.out HN.out HF.out
    have HOWN := Aside0.mk hown
    have HGR := Aside0.mk (turned_grown hturn)
    have k0 := blk_below K0.out hbY
    have k1 := blk_below K1.out hbY
    have k2 := blk_below K2.out hbY
    have p1 := blk_cell k1 0
    have p2 := blk_cell k1 1
    have r1 := blk_cell k2 0
    have r2 := blk_cell k2 1
    have q0 := blk_cell k0 0
    simp at p1 p2 r1 r2 q0
    have HBY := Aside0.mk (below_step HB.out hbY)
    clear hlk hY hbY hown hturn k0 k1 k2
    go_wp2
    exact ⟨rfl, .tuple #[], by simp [results, show Tryd.f55.results = #[] from rfl, go_sem], rfl, n + 1, by omega, HOWN.out, World.grownBy.trans (grown_of_below HBY.out _) HGR.out⟩
def calN (k : Int) : Int := if k = 2 then 8 else if k = 3 then 7 else 6
set_option maxHeartbeats 1000000 in
theorem called_calls (k : Int) (w : World) : Calls Tryd.prog 56 #[.int .u8 k] w fun e w' => e = .returned (.int .i64 (calN k)) ∧ w = w' := by
  by_cases c2 : k = 2
  · have d2 : (k == 2) = true := by simp [c2]
    have e : calN k = 8 := by unfold calN; rw [if_pos c2]
    rw [e]
    clear c2 e
    go_enter Tryd.func56, Tryd.ntmps56
    go_wp2
    go_ret
    exact ⟨rfl, rfl⟩
  · have d2 : (k == 2) = false := by simp [c2]
    by_cases c3 : k = 3
    · have d3 : (k == 3) = true := by simp [c3]
      have e : calN k = 7 := by unfold calN; rw [if_neg c2, if_pos c3]
      rw [e]
      clear c2 c3 e
      go_enter Tryd.func56, Tryd.ntmps56
      go_wp2
      go_ret
      exact ⟨rfl, rfl⟩
    · have d3 : (k == 3) = false := by simp [c3]
      have e : calN k = 6 := by unfold calN; rw [if_neg c2, if_neg c3]
      rw [e]
      clear c2 c3 e
      go_enter Tryd.func56, Tryd.ntmps56
      go_wp2
      go_ret
      exact ⟨rfl, rfl⟩
def entD (d : S72) : Ent := ((d.f0.f0, d.f0.f1), (calN d.f1, if d.f2 = true then 5 else 1))
def entB (ds : List S72) (b : S43) : Ent := ((b.f0.f0, b.f0.f1), if 0 ≤ b.f1 ∧ b.f1 < (ds.length : Int) then (calN (rd_T72 ds b.f1).f1, 0) else (6, 2))
def ents (ds : List S72) (bs : List S43) : List Ent := ds.map entD ++ bs.map (entB ds)
structure NS (W w : World) (xv : Array Value) (x o b n : Nat) (L : List Ent) : Prop where
  bel : Below W.heap.size W w
  box : w.heap[x]? = some (.cells xv 26 (0, 0))
  out : w.heap[o]? = some (.cells #[.map (some b)] 89 (0, 0))
  map : Holds w b n L
  lo : W.heap.size ≤ b
  ox : x ≠ b
  oo : o ≠ b
theorem NS.below {W w w' : World} {xv : Array Value} {x o b n : Nat} {L : List Ent} (h : NS W w xv x o b n L) (hb : Below w.heap.size w w') : NS W w' xv x o b n L :=
  ⟨below_step h.bel hb, blk_below h.box hb, blk_below h.out hb, h.map.below hb, h.lo, h.ox, h.oo⟩
theorem NS.put {W w w' : World} {xv : Array Value} {x o b n n' : Nat} {L L' : List Ent} (h : NS W w xv x o b n L) (hm : Holds w' b n' L') (hg : w.grownBy w' (some b)) : NS W w' xv x o b n' L' :=
  ⟨h.bel.grown hg h.bel.size (fun k hk => by injection hk with hk; have := h.lo; omega), (hg.block _ (blk_lt h.box) (fun e => h.ox (Option.some.inj e))).trans h.box, (hg.block _ (blk_lt h.out) (fun e => h.oo (Option.some.inj e))).trans h.out, hm, h.lo, h.ox, h.oo⟩
theorem map_take_snoc {α β : Type} (f : α → β) (l : List α) (i : Nat) (x : α) (h : l[i]? = some x) : (l.take (i + 1)).map f = (l.take i).map f ++ [f x] := by
  rw [List.take_add_one, h, List.map_append]
  rfl
theorem rd72_at (l : List S72) (i : Nat) (h : i < l.length) : l[i]? = some (rd_T72 l (i : Int)) := by
  unfold rd_T72
  rw [Int.toNat_natCast, List.getD_eq_getElem?_getD, List.getElem?_eq_getElem h]
  rfl
theorem rd43_at (l : List S43) (i : Nat) (h : i < l.length) : l[i]? = some (rd_T43 l (i : Int)) := by
  unfold rd_T43
  rw [Int.toNat_natCast, List.getD_eq_getElem?_getD, List.getElem?_eq_getElem h]
  rfl
def inDs (ds : List S72) : Prop := ∀ d ∈ ds, inI d.f0.f0 ∧ inI d.f0.f1
def inBs (bs : List S43) : Prop := ∀ d ∈ bs, inI d.f0.f0 ∧ inI d.f0.f1
set_option maxHeartbeats 8000000 in
set_option maxRecDepth 100000 in
theorem names_calls (Ad : Option Addr) (cd : Nat) (ds : List S72) (Ab : Option Addr) (cb : Nat) (bs : List S43) (W : World) (hd : Kd.C k72 W Ad ds.length ds) (hb : Kd.C k43 W Ab bs.length bs) (hdi : inDs ds) (hbi : inBs bs) (hn : ds.length + bs.length ≤ 100000) :
    Calls Tryd.prog 28 #[.agg #[.slice Ad ds.length cd, .slice Ab bs.length cb]] W fun e W' => ∃ b n, e = .returned (.map (some b)) ∧ Holds W' b n (ents ds bs) ∧ W.heap.size ≤ b ∧ Below W.heap.size W W' := by
  have HD := Aside0.mk hd
  have HB := Aside0.mk hb
  have HDI := Aside0.mk hdi
  have HBI := Aside0.mk hbi
  have HN := Aside0.mk hn
  clear hd hb hdi hbi hn
  have hmm := @run_makeMap Tryd.prog
  go_enter Tryd.func28, Tryd.ntmps28
  go_upto_region 3 with (fail)
  obtain ⟨V1, hV1⟩ : ∃ X, X = W.alloc (.cells #[.slice Ad ds.length cd, .slice Ab bs.length cb] 26) := ⟨_, rfl⟩
  obtain ⟨V2, hV2⟩ : ∃ X, X = V1.alloc (.map #[] 0) := ⟨_, rfl⟩
  obtain ⟨V, hV⟩ : ∃ X, X = V2.alloc (.cells #[.map (some (W.heap.size + 1))] 89) := ⟨_, rfl⟩
  have s1 : V1.heap.size = W.heap.size + 1 := by rw [hV1]; simp
  have s2 : V2.heap.size = W.heap.size + 2 := by rw [hV2]; simp [s1]
  have e1 : Below W.heap.size W V1 := by rw [hV1]; exact below_alloc (Below.refl _ _) _
  have e2 : Below V1.heap.size V1 V2 := by rw [hV2]; exact below_alloc (Below.refl _ _) _
  have e3 : Below V2.heap.size V2 V := by rw [hV]; exact below_alloc (Below.refl _ _) _
  have hH : Holds V2 V1.heap.size 0 [] := by rw [hV2]; exact Holds.start V1
  rw [s1] at hH
  have HV := Aside0.mk (show NS W V #[.slice Ad ds.length cd, .slice Ab bs.length cb] W.heap.size (W.heap.size + 1 + 1) (W.heap.size + 1) 0 [] from
    ⟨below_step e1 (below_step e2 e3), blk_below (by rw [hV1]; exact heap_alloc_new _ _) (below_step e2 e3), by rw [hV, show W.heap.size + 1 + 1 = V2.heap.size by omega]; exact heap_alloc_new _ _, hH.below e3, by omega, by omega, by omega⟩)
  change Code.wp Tryd.prog _ _ _ (((W.alloc (.cells #[.slice Ad ds.length cd, .slice Ab bs.length cb] 26)).alloc (.map #[] 0)).alloc (.cells #[.map (some (W.heap.size + 1))] 89))
  rw [← hV1, ← hV2, ← hV]
  clear hV1 hV2 hV s1 s2 e1 e2 e3 hH
  obtain ⟨bm, hbm⟩ : ∃ b, b = W.heap.size + 1 := ⟨_, rfl⟩
  obtain ⟨bo, hbo⟩ : ∃ b, b = W.heap.size + 1 + 1 := ⟨_, rfl⟩
  obtain ⟨bx, hbx⟩ : ∃ b, b = W.heap.size := ⟨_, rfl⟩
  have HLO := Aside0.mk (show W.heap.size ≤ bm by omega)
  rw [← hbo, ← hbm] at HV
  rw [← hbo, ← hbm]
  rw [show NS W V #[.slice Ad ds.length cd, .slice Ab bs.length cb] W.heap.size bo bm 0 [] = NS W V #[.slice Ad ds.length cd, .slice Ab bs.length cb] bx bo bm 0 [] by rw [hbx]] at HV
  rw [show (Value.pointer (some { block := W.heap.size, off := 0 })) = Value.pointer (some { block := bx, off := 0 }) by rw [hbx]]
  clear hbo hbm hbx
  have hsv := HV.out.box
  have x0 := blk_cell hsv 0
  simp at x0
  clear hsv hmm
  have hus := Tryd.underlying41
  have huc := Tryd.underlying95
  have hud := Tryd.underlying72
  have hub := Tryd.underlying43
  go_wp2_with fail
  clear x0
  go_loopg [15] ds.length (fun kq v15 w' => ∃ i n : Nat, v15 = .int .i64 i ∧ i ≤ ds.length ∧ Aside0 (n ≤ i) ∧ Aside0 (kq = ds.length - i) ∧ Aside0 (NS W w' #[.slice Ad ds.length cd, .slice Ab bs.length cb] bx bo bm n ((ds.take i).map entD)))
  case atStart => exact ⟨0, 0, rfl, Nat.zero_le _, ⟨Nat.le_refl _⟩, ⟨rfl⟩, HV⟩
  case round =>
    clear HV
    obtain ⟨i, n, rfl, hi, HNI, HK, HV⟩ := hrel
    have hN := HN.out
    by_cases hlt : i < ds.length
    · obtain ⟨ad, e0, c0, c1, c2, c3⟩ := at_T72 (Kd.C_below HD.out HV.out.bel) (i : Int) (by omega) (by omega)
      subst e0
      rw [Int.toNat_natCast] at c0 c1 c2 c3
      have HIN := Aside0.mk (HDI.out _ (List.mem_of_getElem? (rd72_at ds i hlt)))
      have HSN := Aside0.mk (map_take_snoc entD ds i _ (rd72_at ds i hlt))
      obtain ⟨d, hd_⟩ : ∃ d, d = rd_T72 ds (i : Int) := ⟨_, rfl⟩
      rw [← hd_] at c0 c1 c2 c3 HIN HSN
      clear hd_
      obtain ⟨⟨df, dt⟩, dk, da⟩ := d
      simp only at c0 c1 c2 c3
      go_upto_region 7 with (go_at_call 56; refine (called_calls dk _).mono ?_; rintro e w1 ⟨rfl, rfl⟩)
      obtain ⟨X1, hX1⟩ : ∃ X, X = wr.alloc (.cells #[.int .i64 df, .int .i64 dt, .int .u8 dk, .bool da] 72) := ⟨_, rfl⟩
      obtain ⟨X, hX⟩ : ∃ X, X = X1.alloc (.cells #[.int .i64 (calN dk), .int .i64 1] 95) := ⟨_, rfl⟩
      have s1 : X1.heap.size = wr.heap.size + 1 := by rw [hX1]; simp
      have e1 : Below wr.heap.size wr X1 := by rw [hX1]; exact below_alloc (Below.refl _ _) _
      have e2 : Below X1.heap.size X1 X := by rw [hX]; exact below_alloc (Below.refl _ _) _
      have k1 : X.heap[wr.heap.size]? = some (.cells #[.int .i64 df, .int .i64 dt, .int .u8 dk, .bool da] 72 (0, 0)) := blk_below (by rw [hX1]; exact heap_alloc_new _ _) e2
      have k2 : X.heap[wr.heap.size + 1]? = some (.cells #[.int .i64 (calN dk), .int .i64 1] 95 (0, 0)) := by rw [hX, ← s1]; exact heap_alloc_new _ _
      change Code.wp Tryd.prog _ _ _ ((wr.alloc (.cells #[.int .i64 df, .int .i64 dt, .int .u8 dk, .bool da] 72)).alloc (.cells #[.int .i64 (calN dk), .int .i64 1] 95))
      rw [← hX1, ← hX]
      have HVX := Aside0.mk (HV.out.below (below_step e1 e2))
      have HBX := Aside0.mk (show ∀ q, q < wr.heap.size → X.heap[q]? = wr.heap[q]? from (below_step e1 e2).block)
      have K1 := Aside0.mk k1
      have K2 := Aside0.mk k2
      have q0 := blk_cell k1 0
      have q1 := blk_cell k1 1
      have q3 := blk_cell k1 3
      have r0 := blk_cell k2 0
      have r1 := blk_cell k2 1
      have f1 := blk_frozen k2 1
      have l1 := blk_lt k1
      have l2 := blk_lt k2
      simp at q0 q1 q3 r0 r1
      clear hX1 hX s1 e1 e2 k1 k2 c0 c1 c2 c3
      cases da with
      | true =>
        have hbits : bits BinOp.or IntKind.i64 1 4 = 5 := by kernel_rfl
        go_upto_region 9 with (fail)
        obtain ⟨Y, hY⟩ : ∃ Y, Y = X.setCell ⟨wr.heap.size + 1, 1, none⟩ (.int .i64 5) := ⟨_, rfl⟩
        have k2 := blk_set K2.out 1 (.int .i64 5)
        have k1 : Y.heap[wr.heap.size]? = _ := (show Y.heap[wr.heap.size]? = X.heap[wr.heap.size]? by rw [hY]; exact Below.heap_setCell _ _ _ _ (by show wr.heap.size ≠ wr.heap.size + 1; omega)).trans K1.out
        rw [← hY] at k2
        have HVY := Aside0.mk (show NS W Y #[.slice (some ad) ds.length cd, .slice Ab bs.length cb] bx bo bm n ((ds.take i).map entD) from HV.out.below (by
          have hb : Below wr.heap.size wr X := ⟨HVX.out.bel.os.trans HV.out.bel.os.symm, HVX.out.bel.tape.trans HV.out.bel.tape.symm, HVX.out.bel.output.trans HV.out.bel.output.symm, by have := blk_lt K1.out; omega, HBX.out⟩
          rw [hY]
          exact hb.setCell (by show wr.heap.size ≤ wr.heap.size + 1; omega) _))
        change Code.wp Tryd.prog _ _ _ (X.setCell ⟨wr.heap.size + 1, 1, none⟩ (.int .i64 5))
        rw [← hY]
        have q0 := blk_cell k1 0
        have q1 := blk_cell k1 1
        have r0 := blk_cell k2 0
        have r1 := blk_cell k2 1
        simp at q0 q1 r0 r1
        clear hY k1 k2 hbits q3 f1
        go_wp2_with (go_at_call 55; refine (put_calls bo bm n _ (df, dt) (calN dk, 5) _ HIN.out.1 HIN.out.2 (by have := HNI.out; unfold maxLen; omega) HVY.out.map HVY.out.out (fun e => HVY.out.oo e.symm)).mono ?_; rintro e w5 ⟨rfl, n', hn', hm', hg'⟩; have HV5 := Aside0.mk (HVY.out.put hm' hg'); have HN5 := Aside0.mk hn'; clear hm' hg' hn')
        go_roundg (ds.length - (i + 1))
        case measure => have := HK.out; omega
        case rel => exact ⟨i + 1, n', by go_num, by omega, ⟨by have := HN5.out; have := HNI.out; omega⟩, ⟨rfl⟩, ⟨by rw [HSN.out]; exact HV5.out⟩⟩
      | false =>
        go_wp2_with (go_at_call 55; refine (put_calls bo bm n _ (df, dt) (calN dk, 1) _ HIN.out.1 HIN.out.2 (by have := HNI.out; unfold maxLen; omega) HVX.out.map HVX.out.out (fun e => HVX.out.oo e.symm)).mono ?_; rintro e w5 ⟨rfl, n', hn', hm', hg'⟩; have HV5 := Aside0.mk (HVX.out.put hm' hg'); have HN5 := Aside0.mk hn'; clear hm' hg' hn')
        go_roundg (ds.length - (i + 1))
        case measure => have := HK.out; omega
        case rel => exact ⟨i + 1, n', by go_num, by omega, ⟨by have := HN5.out; have := HNI.out; omega⟩, ⟨rfl⟩, ⟨by rw [HSN.out]; exact HV5.out⟩⟩
    · have hie : i = ds.length := by omega
      subst hie
      have HL := Aside0.mk (show (ds.take ds.length).map entD = ds.map entD by rw [List.take_length])
      rw [HL.out] at HV
      have hsv := HV.out.box
      have x1 := blk_cell hsv 1
      simp at x1
      have HNI0 := Aside0.mk (show n ≤ ds.length from HNI.out)
      clear hsv HL
      go_wp2_with fail
      -- LOOP2
      have HVO := HV
      clear x1 HV HNI HK
      obtain ⟨n0, hn0⟩ : ∃ n0, n0 = n := ⟨_, rfl⟩
      go_loopg [38] bs.length (fun kq v38 w' => ∃ i n : Nat, v38 = .int .i64 i ∧ i ≤ bs.length ∧ Aside0 (n ≤ ds.length + i) ∧ Aside0 (kq = bs.length - i) ∧ Aside0 (NS W w' #[.slice Ad ds.length cd, .slice Ab bs.length cb] bx bo bm n (ds.map entD ++ (bs.take i).map (entB ds))))
      case atStart => exact ⟨0, n, rfl, Nat.zero_le _, ⟨by rw [Nat.add_zero]; exact HNI0.out⟩, ⟨rfl⟩, ⟨by rw [List.take_zero, List.map_nil, List.append_nil]; exact HVO.out⟩⟩
      case round =>
        clear HVO hn0
        obtain ⟨i, n, rfl, hi, HNI, HK, HV⟩ := hrel
        have hN := HN.out
        by_cases hlt : i < bs.length
        · obtain ⟨ab, e0, c0, c1, c2⟩ := at_T43 (Kd.C_below HB.out HV.out.bel) (i : Int) (by omega) (by omega)
          subst e0
          rw [Int.toNat_natCast] at c0 c1 c2
          have HIN := Aside0.mk (HBI.out _ (List.mem_of_getElem? (rd43_at bs i hlt)))
          have HSN := Aside0.mk (show ds.map entD ++ (bs.take (i + 1)).map (entB ds) = (ds.map entD ++ (bs.take i).map (entB ds)) ++ [entB ds (rd_T43 bs (i : Int))] by rw [map_take_snoc (entB ds) bs i _ (rd43_at bs i hlt), List.append_assoc])
          obtain ⟨d, hd_⟩ : ∃ d, d = rd_T43 bs (i : Int) := ⟨_, rfl⟩
          rw [← hd_] at c0 c1 c2 HIN HSN
          clear hd_
          obtain ⟨⟨df, dt⟩, dd⟩ := d
          simp only at c0 c1 c2
          obtain ⟨X, hX⟩ : ∃ X, X = wr.alloc (.cells #[.int .i64 df, .int .i64 dt, .int .i64 dd] 43) := ⟨_, rfl⟩
          have hbX : Below wr.heap.size wr X := by rw [hX]; exact below_alloc (Below.refl _ _) _
          have k1 : X.heap[wr.heap.size]? = some (.cells #[.int .i64 df, .int .i64 dt, .int .i64 dd] 43 (0, 0)) := by rw [hX]; exact heap_alloc_new _ _
          have HVX := Aside0.mk (HV.out.below hbX)
          have q0 := blk_cell k1 0
          have q1 := blk_cell k1 1
          have q2 := blk_cell k1 2
          have l1 := blk_lt k1
          have hsv := HVX.out.box
          have x0 := blk_cell hsv 0
          have lx := blk_lt hsv
          simp at q0 q1 q2 x0
          have K1 := Aside0.mk k1
          have HX := Aside0.mk hX
          clear hX hbX k1 hsv
          go_upto_region 14 with (fail)
          change Code.wp Tryd.prog _ _ _ (wr.alloc (.cells #[.int .i64 df, .int .i64 dt, .int .i64 dd] 43))
          rw [← HX.out]
          clear c0 c1 c2
          by_cases hdn : dd < 0
          · have HEN := Aside0.mk (show entB ds ⟨⟨df, dt⟩, dd⟩ = ((df, dt), (6, 2)) by unfold entB; rw [if_neg (by simp only; omega)])
            go_wp2_with (go_at_call 55; refine (put_calls bo bm n _ (df, dt) (6, 2) _ HIN.out.1 HIN.out.2 (by have := HNI.out; unfold maxLen; omega) HVX.out.map HVX.out.out (fun e => HVX.out.oo e.symm)).mono ?_; rintro e w5 ⟨rfl, n', hn', hm', hg'⟩; have HV5 := Aside0.mk (HVX.out.put hm' hg'); have HN5 := Aside0.mk hn'; clear hm' hg' hn')
            go_roundg (bs.length - (i + 1))
            case measure => have := HK.out; omega
            case rel => exact ⟨i + 1, n', by go_num, by omega, ⟨by have := HN5.out; have := HNI.out; omega⟩, ⟨rfl⟩, ⟨by rw [HSN.out, show entB ds ⟨⟨df, dt⟩, dd⟩ = ((df, dt), (6, 2)) from HEN.out]; exact HV5.out⟩⟩
          · by_cases hdl : dd < (ds.length : Int)
            · obtain ⟨j, hj⟩ : ∃ j : Nat, dd = (j : Int) := ⟨dd.toNat, by omega⟩
              subst hj
              have hjl : j < ds.length := by omega
              obtain ⟨ad, ea, _, _, d1, _⟩ := at_T72 (Kd.C_below HD.out HVX.out.bel) (j : Int) (by omega) (by omega)
              subst ea
              rw [Int.toNat_natCast] at d1
              obtain ⟨dk, hdk⟩ : ∃ k, k = (rd_T72 ds (j : Int)).f1 := ⟨_, rfl⟩
              rw [← hdk] at d1
              have HEN := Aside0.mk (show entB ds ⟨⟨df, dt⟩, (j : Int)⟩ = ((df, dt), (calN dk, 0)) by unfold entB; rw [if_pos (by simp only; omega)]; simp only; rw [hdk])
              have HD1 := Aside0.mk d1
              clear hdk d1
              go_upto_region 15 with (fail)
              obtain ⟨Xd, hXd⟩ : ∃ Xd, Xd = X.drew := ⟨_, rfl⟩
              have HBD := Aside0.mk (show Below X.heap.size X Xd by rw [hXd]; exact (Below.refl _ _).drew)
              refine wp_region_noPanic (plain_need [0, 1, 2, 3, 4, 5, 6, 7, 8, 9, 10, 11, 12] (fun W' => W'.cell? ⟨bx, 0, none⟩ = some (.slice (some ad) ds.length cd) ∧ W'.cell? ⟨wr.heap.size, 0, none⟩ = some (.int .i64 df) ∧ W'.cell? ⟨wr.heap.size, 1, none⟩ = some (.int .i64 dt) ∧ W'.cell? ⟨wr.heap.size, 2, none⟩ = some (.int .i64 (j : Int)) ∧ W'.cell? ⟨(ad.add (j * 4)).block, (ad.add (j * 4)).off + 2, none⟩ = some (.int .u8 dk)) (by kernel_rfl) ?_)
              rw [← hXd]
              have HVD := Aside0.mk (HVX.out.below HBD.out)
              have HS0 := Aside0.mk (show Xd.cell? ⟨bx, 0, none⟩ = some (.slice (some ad) ds.length cd) ∧ Xd.cell? ⟨wr.heap.size, 0, none⟩ = some (.int .i64 df) ∧ Xd.cell? ⟨wr.heap.size, 1, none⟩ = some (.int .i64 dt) ∧ Xd.cell? ⟨wr.heap.size, 2, none⟩ = some (.int .i64 (j : Int)) ∧ Xd.cell? ⟨(ad.add (j * 4)).block, (ad.add (j * 4)).off + 2, none⟩ = some (.int .u8 dk) from ⟨by rw [hXd]; exact x0, by rw [hXd]; exact q0, by rw [hXd]; exact q1, by rw [hXd]; exact q2, by rw [hXd]; exact HD1.out⟩)
              have HLD := Aside0.mk (show (ad.add (j * 4)).block < W.heap.size from ?_)
              rotate_left
              · have hc := Kd.C_lt HD.out (by omega) (by decide)
                rw [add_block]
                exact hc
              clear hXd x0 q0 q1 q2
              refine wpAnyN_take (i := 0) (v := ?_) rfl (by kernel_rfl) (by kernel_rfl) (by kernel_rfl) (by kernel_rfl) (fun _ _ _ h => h) (.inl ⟨by rfl, ?_⟩) HS0.out ?_
              rotate_left
              · (intro W' hW'; obtain ⟨s0, s1, s2, s3, s4⟩ := hW'; go_simp; try rfl)
              simp only [Act.put, List.setIfInBounds_toArray, List.set_cons_zero, List.set_cons_succ]
              refine wpAnyN_take (i := 1) (v := ?_) rfl (by kernel_rfl) (by kernel_rfl) (by kernel_rfl) (by kernel_rfl) (fun _ _ _ h => h) (.inl ⟨by rfl, ?_⟩) HS0.out ?_
              rotate_left
              · (intro W' hW'; obtain ⟨s0, s1, s2, s3, s4⟩ := hW'; go_simp; try rfl)
              simp only [Act.put, List.setIfInBounds_toArray, List.set_cons_zero, List.set_cons_succ]
              refine wpAnyN_take (i := 2) (v := ?_) rfl (by kernel_rfl) (by kernel_rfl) (by kernel_rfl) (by kernel_rfl) (fun _ _ _ h => h) (.inl ⟨by rfl, ?_⟩) HS0.out ?_
              rotate_left
              · (intro W' hW'; obtain ⟨s0, s1, s2, s3, s4⟩ := hW'; go_simp; try rfl)
              simp only [Act.put, List.setIfInBounds_toArray, List.set_cons_zero, List.set_cons_succ]
              refine wpAnyN_take (i := 3) (v := ?_) rfl (by kernel_rfl) (by kernel_rfl) (by kernel_rfl) (by kernel_rfl) (fun _ _ _ h => h) (.inl ⟨by rfl, ?_⟩) HS0.out ?_
              rotate_left
              · (intro W' hW'; obtain ⟨s0, s1, s2, s3, s4⟩ := hW'; go_simp; try rfl)
              simp only [Act.put, List.setIfInBounds_toArray, List.set_cons_zero, List.set_cons_succ]
              refine wpAnyN_take (i := 4) (v := ?_) rfl (by kernel_rfl) (by kernel_rfl) (by kernel_rfl) (by kernel_rfl) (fun _ _ _ h => h) (.inl ⟨by rfl, ?_⟩) HS0.out ?_
              rotate_left
              · (intro W' hW'; obtain ⟨s0, s1, s2, s3, s4⟩ := hW'; go_simp; try rfl)
              simp only [Act.put, List.setIfInBounds_toArray, List.set_cons_zero, List.set_cons_succ]
              refine wpAnyN_take (i := 5) (v := ?_) rfl (by kernel_rfl) (by kernel_rfl) (by kernel_rfl) (by kernel_rfl) (fun _ _ _ h => h) (.inl ⟨by rfl, ?_⟩) HS0.out ?_
              rotate_left
              · (intro W' hW'; obtain ⟨s0, s1, s2, s3, s4⟩ := hW'; go_simp; try rfl)
              simp only [Act.put, List.setIfInBounds_toArray, List.set_cons_zero, List.set_cons_succ]
              refine wpAnyN_take (i := 6) (v := ?_) rfl (by kernel_rfl) (by kernel_rfl) (by kernel_rfl) (by kernel_rfl) (fun _ _ _ h => h) (.inl ⟨by rfl, ?_⟩) HS0.out ?_
              rotate_left
              · (intro W' hW'; obtain ⟨s0, s1, s2, s3, s4⟩ := hW'; go_simp; try rfl)
              simp only [Act.put, List.setIfInBounds_toArray, List.set_cons_zero, List.set_cons_succ]
              refine wpAnyN_take (i := 7) (v := ?_) rfl (by kernel_rfl) (by kernel_rfl) (by kernel_rfl) (by kernel_rfl) (fun _ _ _ h => h) (.inl ⟨by rfl, ?_⟩) HS0.out ?_
              rotate_left
              · (intro W' hW'; obtain ⟨s0, s1, s2, s3, s4⟩ := hW'; go_simp; try rfl)
              simp only [Act.put, List.setIfInBounds_toArray, List.set_cons_zero, List.set_cons_succ]
              refine wpAnyN_take (i := 8) (v := ?_) rfl (by kernel_rfl) (by kernel_rfl) (by kernel_rfl) (by kernel_rfl) (fun _ _ _ h => h) (.inl ⟨by rfl, ?_⟩) HS0.out ?_
              rotate_left
              · (intro W' hW'; obtain ⟨s0, s1, s2, s3, s4⟩ := hW'; go_simp; try rfl)
              simp only [Act.put, List.setIfInBounds_toArray, List.set_cons_zero, List.set_cons_succ]
              refine wpAnyN_take (i := 9) (v := ?_) rfl (by kernel_rfl) (by kernel_rfl) (by kernel_rfl) (by kernel_rfl) (fun _ _ _ h => h) (.inl ⟨by rfl, ?_⟩) HS0.out ?_
              rotate_left
              · (intro W' hW'; obtain ⟨s0, s1, s2, s3, s4⟩ := hW'; go_simp; try rfl)
              simp only [Act.put, List.setIfInBounds_toArray, List.set_cons_zero, List.set_cons_succ]
              refine wpAnyN_one (i := 10) rfl (by kernel_rfl) (fun K hK => ?_)
              go_simp
              refine (called_calls dk _).mono ?_
              rintro e w4 ⟨rfl, rfl⟩
              refine hK.out _ _ (fun _ => HS0.out) (fun _ => ?_)
              clear hK K
              try simp only [Act.put, List.setIfInBounds_toArray, List.set_cons_zero, List.set_cons_succ]
              refine wpAnyN_one (i := 11) rfl (by kernel_rfl) (fun K hK => ?_)
              go_simp
              refine hK.out _ _ (fun _ => HS0.out) (fun _ => ?_)
              clear hK K
              try simp only [Act.put, List.setIfInBounds_toArray, List.set_cons_zero, List.set_cons_succ]
              refine wpAnyN_one (i := 12) rfl (by kernel_rfl) (fun K hK => ?_)
              go_simp
              refine (put_calls bo bm n _ (df, dt) (calN dk, 0) _ HIN.out.1 HIN.out.2 (by have := HNI.out; unfold maxLen; omega) HVD.out.map HVD.out.out (fun e => HVD.out.oo e.symm)).mono ?_; rintro e w5 ⟨rfl, n', hn', hm', hg'⟩; have HV5 := Aside0.mk (HVD.out.put hm' hg'); have HN5 := Aside0.mk hn'
              have hsv := HV5.out.box
              have x0 := blk_cell hsv 0
              have k5 := (hg'.block _ (show wr.heap.size < Xd.heap.size by have := blk_lt K1.out; have := HBD.out.size; omega) (fun e => by have := HV.out.map.lt; injection e with e; omega)).trans (blk_below K1.out HBD.out)
              have q0 := blk_cell k5 0
              have q1 := blk_cell k5 1
              have q2 := blk_cell k5 2
              simp at x0 q0 q1 q2
              have q4 : w5.cell? ⟨(ad.add (j * 4)).block, (ad.add (j * 4)).off + 2, none⟩ = some (.int .u8 dk) := (HV5.out.bel.cell (p := ⟨(ad.add (j * 4)).block, (ad.add (j * 4)).off + 2, none⟩) HLD.out).trans ((HVD.out.bel.cell (p := ⟨(ad.add (j * 4)).block, (ad.add (j * 4)).off + 2, none⟩) HLD.out).symm.trans HS0.out.2.2.2.2)
              have HS1 := Aside0.mk (show w5.cell? ⟨bx, 0, none⟩ = some (.slice (some ad) ds.length cd) ∧ w5.cell? ⟨wr.heap.size, 0, none⟩ = some (.int .i64 df) ∧ w5.cell? ⟨wr.heap.size, 1, none⟩ = some (.int .i64 dt) ∧ w5.cell? ⟨wr.heap.size, 2, none⟩ = some (.int .i64 (j : Int)) ∧ w5.cell? ⟨(ad.add (j * 4)).block, (ad.add (j * 4)).off + 2, none⟩ = some (.int .u8 dk) from ⟨x0, q0, q1, q2, q4⟩)
              clear hm' hg' hn' hsv k5 x0 q0 q1 q2 q4
              refine hK.out _ _ (fun _ => HS1.out) (fun _ => ?_)
              clear hK K
              try simp only [Act.put, List.setIfInBounds_toArray, List.set_cons_zero, List.set_cons_succ]
              refine wpAnyN_done (by kernel_rfl) (NoPanic.normal ?_) _
              go_wp2_with fail
              go_roundg (bs.length - (i + 1))
              case measure => have := HK.out; omega
              case rel => exact ⟨i + 1, n', by go_num, by omega, ⟨by have := HN5.out; have := HNI.out; omega⟩, ⟨rfl⟩, ⟨by rw [HSN.out, show entB ds ⟨⟨df, dt⟩, (j : Int)⟩ = ((df, dt), (calN dk, 0)) from HEN.out]; exact HV5.out⟩⟩
            · have HEN := Aside0.mk (show entB ds ⟨⟨df, dt⟩, dd⟩ = ((df, dt), (6, 2)) by unfold entB; rw [if_neg (by simp only; omega)])
              go_wp2_with (go_at_call 55; refine (put_calls bo bm n _ (df, dt) (6, 2) _ HIN.out.1 HIN.out.2 (by have := HNI.out; unfold maxLen; omega) HVX.out.map HVX.out.out (fun e => HVX.out.oo e.symm)).mono ?_; rintro e w5 ⟨rfl, n', hn', hm', hg'⟩; have HV5 := Aside0.mk (HVX.out.put hm' hg'); have HN5 := Aside0.mk hn'; clear hm' hg' hn')
              go_roundg (bs.length - (i + 1))
              case measure => have := HK.out; omega
              case rel => exact ⟨i + 1, n', by go_num, by omega, ⟨by have := HN5.out; have := HNI.out; omega⟩, ⟨rfl⟩, ⟨by rw [HSN.out, show entB ds ⟨⟨df, dt⟩, dd⟩ = ((df, dt), (6, 2)) from HEN.out]; exact HV5.out⟩⟩
        · have hie : i = bs.length := by omega
          subst hie
          have HL2 := Aside0.mk (show ds.map entD ++ (bs.take bs.length).map (entB ds) = ents ds bs by rw [List.take_length]; rfl)
          rw [HL2.out] at HV
          have hsv := HV.out.out
          have o0 := blk_cell hsv 0
          have lo := blk_lt hsv
          simp at o0
          clear hsv HL2
          go_wp2_with fail
          go_ret
          exact ⟨bm, n, rfl, HV.out.map, HLO.out, HV.out.bel⟩
end Go.Proofs.YtobgkpnigjfhmaaDoor.H
