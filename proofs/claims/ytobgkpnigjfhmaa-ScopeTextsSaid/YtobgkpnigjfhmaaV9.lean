/- Texts of this claim, merged. -/
import Derived.Test.YtobgkpnigjfhmaaV8
import Derived.Defers
import Derived.Maps.RangeWalk
set_option maxRecDepth 100000
set_option maxHeartbeats 8000000
set_option linter.unusedVariables false
set_option linter.unusedSimpArgs false
namespace Go.Proofs.Ytobgkpnigjfhmaa.H
open Go.RowKit Go.Proofs.YtobgkpnigjfhmaaW.PrintWords Go.Proofs.YtobgkpnigjfhmaaW.PrintLast Go.Proofs.YtobgkpnigjfhmaaW.PrintMore
theorem omap_again {W W' : World} {b n m : Nat} {D : DataW Value} {kl : Lit} {d : DataW Value} (h : W.ownsMap Try.prog 9 rawE b n D) (h' : W'.ownsMap Try.prog 9 rawE b m (D.put kl d)) (hh : Maps.has D kl = true) : W'.ownsMap Try.prog 9 rawE b n (D.put kl d) := by
 obtain ⟨es, clock, h1, h2, h3, h4⟩ := h'; refine ⟨es, clock, h1, h2, ?_, h4⟩
 have hs := Maps.size_put (h.tidy klaw) (k := kl) d; rw [if_pos hh] at hs; have hn := h.size_le; rw [← hs, h4, Maps.size_eq, length_sorted] at hn
 simpa using hn
theorem str_at {W : World} {A : Option Addr} {l : List ByteArray} (h : Kd.C Kd.string W A l.length l) (i : Nat) (k : ByteArray) (hk : l[i]? = some k) : ∃ ad, A = some ad ∧ W.cell? (ad.add i) = some (.string k) := by
 have hi : i < l.length := (List.getElem?_eq_some_iff.1 hk).1; obtain ⟨ad, c, e, _, hK, hc0⟩ := Kd.C_get h default (i : Int) q9 q9
 obtain rfl : c = [.string (l.getD (i : Int).toNat default)] := hK; refine ⟨ad, e, ?_⟩
 have := hc0 0 _ rfl; rw [Int.toNat_natCast, List.getD_eq_getElem?_getD, hk] at this; rw [show (ad.add i) = (ad.add (i * Kd.string.sz + 0)) by simp [Kd.string, Kd.scalar], this]
 rfl
theorem cntU_take : ∀ (l : List ByteArray) (i : Nat) (u : ByteArray), l[i]? = some u → cntU u (l.take i) + 1 ≤ cntU u l
 | [], i, u, h => by simp at h
 | v :: r, 0, u, h => by
  simp at h; subst h; simp [cntU]
 | v :: r, i + 1, u, h => by
  have := cntU_take r i u (by simpa using h)
  simp only [List.take_succ_cons, cntU]; omega
theorem close_wp {s : ByteArray} {stop : Int} {n : Nat} {W : World} {g q : Nat} {ow : Nat → Ow} {hb : List Nat} {x : St} (h : FX s stop n W g ow (q :: hb) x) (hn : n ≤ 4000000000000) (hsl : s.size ≤ 1099511627776) (cc : Code) (hcc : Try.f51.body = some cc) :
  cc.wp Try.prog (bodyPost Try.prog Try.f51 fun e W' => e = .returned (.tuple #[]) ∧ FP s stop n W W' g ow hb (zbM x)) { tmps := #[.pointer (some ⟨g, 0, none⟩)] ++ Array.replicate (Try.f51.ntmps - #[Value.pointer (some ⟨g, 0, none⟩)].size) undef, defers := [] } W := by
 obtain ⟨hok, bm, D, vd, vb, vl, vs, ml, hM, hhb⟩ := h; cases ml with
 | nil => cases hhb
 | cons m r =>
 obtain ⟨v, q'⟩ := m; simp only [List.map_cons, List.cons.injEq] at hhb; obtain ⟨rfl, rfl⟩ := hhb; have hl := hM.lys; cases e : x.ls with
 | nil => rw [e] at hl; exact hl.elim
 | cons t ls' =>
 rw [e] at hl; obtain ⟨L, th⟩ := t; obtain ⟨lb, cl, hvl, hob, hcl, ⟨hc0, _⟩, _, hlb, hlg, _⟩ := hM.top; obtain ⟨A, c, hvs⟩ := Kd.za4 hl.1; simp only at hvs; have HCP := J (show zbM x = { x with kn := L.foldl pop1 x.kn, ls := ls' } by unfold zbM; rw [e])
 have HE := J e; have HOK := J hok; have HM := J hM; have HVL := J hvl; have HVS := J hvs; have HN := J hn; have HSL := J hsl; have HOB := J hob; have HLG := J hlg; have HCL := J hcl; obtain ⟨rl, hrl⟩ : ∃ rl, rl = r.length := ⟨_, rfl⟩; have HRL := J hrl; have p4 := zaf hM.blk 4; have l0 := zaN hM.blk; simp at p4; rw [hvl] at p4; rw [← hrl] at p4 hcl hc0; rw [hvs] at hc0; have hrn : rl ≤ 4000000000000 := by
  have h1 := LysOk.len _ _ hM.lys; have := hok.ll; simp only [List.length_cons] at h1; omega
 have hLn : L.length ≤ 4000000000000 := by have := hok.nl (L, th) Qa; simp only at this; omega
 have hus := Try.underlying82; have hul := Try.underlying123; clear hok hM hl hvl hob hvs hn hsl e hlg hrl; obtain rfl := Option.some.inj (show some _ = some cc from hcc)
 clear hcc; simp only [Try.ntmps51, List.size_toArray, List.length_cons, List.length_nil, Nat.reduceAdd, Nat.reduceSub, Array.replicate_succ, Array.replicate_zero, List.push_toArray, List.append_toArray, List.nil_append, List.cons_append]; go_wp2
 clear p4 hc0 l0; go_loopg [21] L.length (fun kq v21 wr => ∃ i : Nat, v21 = .int .i64 i ∧ i ≤ L.length ∧ zaa (kq = L.length - i) ∧ ∃ D' ow', zaa (FM s stop n wr g bm D' ow' vd vb vl vs ((v, q) :: r) { x with kn := (L.take i).foldl pop1 x.kn } ∧ Sub ow W ow' ∧ Fch ow W wr))
 case atStart => exact ⟨0, rfl, Nat.zero_le _, ⟨rfl⟩, D, ow, ⟨HM.out, Sub.refl, Fch.refl⟩⟩
 case round =>
  obtain ⟨i, rfl, hi, HKQ, D', ow', HR⟩ := hrel; have hMr := HR.out.1; by_cases hlt : i < L.length
  ·obtain ⟨u, hu⟩ : ∃ u, L[i]? = some u := ⟨_, List.getElem?_eq_getElem hlt⟩
   have HSB := J HR.out.2.1; have HFC := J HR.out.2.2; have HMR := J hMr; have hly := hMr.lys; simp only [HE.out] at hly; obtain ⟨A2, c2, e2, _, hCs⟩ := Kd.zbR hly.1; simp only at e2; obtain ⟨rfl, rfl⟩ : A = A2 ∧ c = c2 := by
    have h1 := HVS.out.symm.trans e2; injection h1 with h1 _ h2
    exact ⟨h1, h2⟩
   obtain ⟨ad, rfl, q0⟩ := str_at hCs i u hu; obtain ⟨kn', hkn⟩ : ∃ kn', kn' = (L.take i).foldl pop1 x.kn := ⟨_, rfl⟩; have hpos : 0 < (kn' u).length := by
    have h1 := HOK.out.cov u; rw [HE.out] at h1; simp only [cntLs] at h1; have h2 := cntU_take L i u hu; rw [hkn, popAll, List.length_take]; omega
   have HXN := J (show (L.take (i + 1)).foldl pop1 x.kn = upd kn' u (kn' u).dropLast by
    rw [List.take_add_one, hu, List.foldl_append, ← hkn]
    rfl)
   have hul : u.size ≤ maxLen := by
    have h1 : 0 < (x.kn u).length := by rw [hkn, popAll, List.length_take] at hpos; omega
    obtain ⟨z, hz⟩ : ∃ z, z ∈ x.kn u := by
     cases e : x.kn u with
     | nil => rw [e] at h1; cases h1
     | cons z _ => exact ⟨z, List.mem_cons_self⟩
    have h3 := HOK.out.nm u z hz; have h4 := HOK.out.kin u z hz; rw [← h3]; obtain ⟨d, hd⟩ : ∃ d, x.ds[z.toNat]? = some d := ⟨_, List.getElem?_eq_getElem q9⟩
    rw [nmK_some hd]; exact cutS_le s _ _ HSL.out
   have HUL := J hul; have hkl : (kn' u).length ≤ 4000000000000 := by
    have h1 := HOK.out.kl u; have h2 := HN.out; rw [hkn, popAll, List.length_take]; omega
   rw [← hkn] at hMr HMR; obtain ⟨Au, cu, hmu, hlu, hcu, _, hlkX⟩ := hMr.look u hul; have hRu := hMr.stk u; rw [hmu] at hRu; obtain ⟨m, hm⟩ : ∃ m, (kn' u).length = m + 1 := ⟨(kn' u).length - 1, q9⟩
   have HMM := J hm; simp only [hm] at hlkX hlu; rw [hm] at hRu; have hRt := Kd.R_take hRu (m := m) (by show m ≤ (kn' u).length; omega)
   obtain ⟨zb, hzb⟩ : ∃ zb, Au = some ⟨zb, 0, none⟩ := by
    obtain ⟨g', cap, hv, _⟩ := Kd.R_form hRu q9
    injection hv with h1 _ _
    exact ⟨g', h1⟩
   have HRT := J (show Kd.R (Kd.int .i64) 3 wr 0 (fun q => ow' q = .st u) (.slice Au m cu) (kn' u).dropLast by rw [List.dropLast_eq_take, hm]; exact hRt)
   have HZB := J (show ow' zb = .st u by rw [hzb] at hRu; exact hRu.1 zb rfl)
   have HHAS := J (show Maps.has D' (keyS u) = true by
    cases hh : Maps.has D' (keyS u) with
    | true => rfl
    | false =>
     have h1 : mval D' (keyS u) nilS = nilS := by unfold mval; rw [Maps.atKey_of_not_has hh]
     rw [hmu, hzb] at h1; cases h1)
   have hmc : m ≤ cu := by omega
   have hml : m ≤ 4000000000000 := by omega
   have hwm : IntKind.i64.wrap (m : Int) = m := IntWalk.i64_in _ ⟨q9, q9⟩
   have p3 := zaf hMr.blk 3; have l1 := zaN hMr.blk; simp at p3; have HLKA := J hlkX; subst hzb; clear hMr hly hCs hu hkn hpos hul hkl hmu hlu hcu hRu hm hRt e2; go_upto_region 5 with (fail)
   clear hlkX q0; obtain ⟨X, hX⟩ : ∃ X, X = wr.drew := ⟨_, rfl⟩; have bX : Below wr.heap.size wr X := by rw [hX]; exact (Below.refl _ _).drew
   have hMX := HMR.out.below bX; obtain ⟨W6, hrun6, hown6, hturn⟩ := omap_store (val := .slice (some ⟨zb, 0, none⟩) m cu) hMX.map klaw Try.underlying79 (show n < maxLen by have := HN.out; unfold maxLen; omega) (keyS_of u HUL.out)
   have hg6 := turned_grown hturn; have hzl : zb < X.heap.size := hMX.lt zb (by rw [HZB.out]; nofun)
   have hon : own ow' zb (.st u) = ow' := by
    funext y
    unfold own
    split
    ·rename_i h; rw [h, HZB.out]
    ·rfl
   have k1 : Mv ow' zb (.st u) g X X := ⟨.inl HZB.out, hzl, Nat.le_refl _, fun _ _ _ _ => rfl⟩
   have hM6 := hMX.setSt k1 rfl (by rw [hon]; exact Kd.zbx HRT.out bX) (fun y hy hne => hg6.block y hy (fun e => hne (Option.some.inj e))) hg6.size (omap_again hMX.map hown6 HHAS.out) (Nat.le_refl _)
   rw [hon] at hM6; have HM6 := J (show FM s stop n W6 g bm (D'.put (keyS u) (.held (.slice (some ⟨zb, 0, none⟩) m cu))) ow' vd vb vl vs ((v, q) :: r) { x with kn := (L.take (i + 1)).foldl pop1 x.kn } by rw [HXN.out]; exact hM6)
   have HF6 := J (show Fch ow W W6 from HFC.out.trans (ow' := ow') ((Fch.of_below bX).trans (ow' := ow') ⟨hg6.os, hg6.tape, hg6.output, hg6.size, fun y hy h0 => hg6.block y hy (fun e => by rw [Option.some.inj e, hMX.om] at h0; cases h0)⟩ Sub.refl) HSB.out)
   have HRUN6 := J hrun6; have HS0 := J (show X.cell? ⟨g, 3, none⟩ = some (.map (some bm)) ∧ g < X.heap.size from ⟨by have := zaf hMX.blk 3; simpa using this, zaN hMX.blk⟩)
   clear p3 l1 bX hMX hrun6 hown6 hturn hg6 hzl hon k1 hM6; refine wp_region_noPanic (zba [0, 1, 2, 3, 4, 5, 6, 7, 8, 9] (fun W' => W'.cell? ⟨g, 3, none⟩ = some (.map (some bm)) ∧ g < W'.heap.size) mixF ?_)
   rw [← hX]; clear hX; refine zah 0 rfl HS0.out (fun _ h => qo) ?_
   simp only [Act.put, zai]; refine zah 1 rfl HS0.out (fun _ h => qo) ?_
   simp only [Act.put, zai]; refine zah 2 rfl HS0.out (fun _ h => qo) ?_
   simp only [Act.put, zai]; refine zah 3 rfl HS0.out (fun _ h => qo) ?_
   simp only [Act.put, zai]; refine zah 4 rfl HS0.out (fun _ h => qo) ?_
   simp only [Act.put, zai]; refine zah 5 rfl HS0.out (fun _ h => qo) ?_
   simp only [Act.put, zai]; refine zah 6 rfl HS0.out (fun _ h => qo) ?_
   simp only [Act.put, zai]; refine zah 7 rfl HS0.out (fun _ h => qo) ?_
   simp only [Act.put, zai]; refine zah 8 rfl HS0.out (fun _ h => qo) ?_
   simp only [Act.put, zai]; refine zah 9 rfl HS0.out (fun _ h => qo) ?_
   simp only [Act.put, zai]; have hrun6 := HRUN6.out; refine zaI (i := 10) rfl qb (fun K hK => ?_)
   go_simp
   refine hK.out _ _ (fun h => Bool.noConfusion (show false = true from h)) (fun _ => ?_)
   clear hK K; try simp only [Act.put, zai]
   refine za3 qb (NoPanic.normal ?_) _
   clear hrun6; go_wp2
   go_roundg (L.length - (i + 1))
   case measure => have := HKQ.out; omega
   case rel => exact ⟨i + 1, qk, q9, ⟨rfl⟩, _, _, ⟨HM6.out, HSB.out, HF6.out⟩⟩
  ·obtain rfl : i = L.length := by omega
   rw [List.take_length] at HR; clear hMr; have hMr := HR.out.1; have HMR := J hMr; have HSB := J HR.out.2.1; have HFC := J HR.out.2.2; have p4 := zaf hMr.blk 4; have l1 := zaN hMr.blk; have f4 := zab hMr.blk 4; simp at p4; rw [HVL.out] at p4; rw [← HRL.out] at p4; have hcl1 : rl ≤ cl := by omega
   obtain ⟨Z, hZ⟩ : ∃ Z, Z = wr.setCell ⟨g, 4, none⟩ (.slice (some ⟨lb, 0, none⟩) rl cl) := ⟨_, rfl⟩; have hzo : ∀ z, z ≠ g → Z.heap[z]? = wr.heap[z]? := fun z hz => by rw [hZ]; exact Below.heap_setCell _ _ _ _ hz
   have hzs : Z.heap.size = wr.heap.size := by rw [hZ]; simp
   obtain ⟨lb2, cl2, hvl2, hob2, _, _, _, hlb2, _, _⟩ := hMr.top; obtain ⟨rfl, rfl⟩ : lb = lb2 ∧ cl = cl2 := by
    have h1 := HVL.out.symm.trans hvl2; injection h1 with h1 _ h2
    injection h1 with h1
    injection h1 with h1
    exact ⟨h1, h2⟩
   have k1 : Mv ow' lb .ly g wr Z := ⟨.inl hob2, by rw [hzs]; exact hlb2, by rw [hzs]; exact Nat.le_refl _, fun z hz h1 _ => hzo z h1⟩
   have hon : own ow' lb .ly = ow' := by
    funext y
    unfold own
    split
    ·rename_i h; rw [h, hob2]
    ·rfl
   have hblk : Z.heap[g]? = some (.cells #[.string s, vd, vb, .map (some bm), .slice (some ⟨lb, 0, none⟩) rl cl, .int .i64 stop, vs] 82 (0, 0)) := by rw [hZ]; simpa using zbe hMr.blk 4 (.slice (some ⟨lb, 0, none⟩) rl cl)
   have hly := hMr.lys; simp only [HE.out] at hly; have hRl := hMr.rl; rw [HVL.out, List.reverse_cons, List.map_append] at hRl; have hRt := Kd.R_take hRl (m := rl) (by rw [List.length_append, List.length_map, List.length_reverse, HRL.out]; omega)
   rw [List.take_append_of_le_length (by rw [List.length_map, List.length_reverse, HRL.out]; omega), List.take_of_length_le (by rw [List.length_map, List.length_reverse, HRL.out]; omega)] at hRt
   have hly2 := LysOk.mv k1 hMr.og (fun _ => ⟨nofun, nofun⟩) hMr.lt _ _ (fun j _ => ⟨nofun, nofun⟩) hly.2.2.2
   have hog : ∀ y, ow' y = .ly → y ≠ g := fun y hy e => by rw [e, hMr.og] at hy; cases hy
   have hRZ : Kd.R (Kd.raw 2) 123 Z 0 (fun q => own ow' lb .ly q = .ly) (.slice (some ⟨lb, 0, none⟩) rl cl) (r.reverse.map rawLy) := by
    rw [hon]; exact Kd.zbC hRt (fun y hy _ => hzo y (hog y hy))
   have hMZ := hMr.setLy (ml' := r) (ls := ls') k1 hblk hRZ hly2; have HMZ := J (show FM s stop n Z g bm D' ow' vd vb (.slice (some ⟨lb, 0, none⟩) rl cl) vs r (zbM x) by rw [HCP.out]; rw [hon] at hMZ; exact hMZ)
   have HFZ := J (show Fch ow W Z from HFC.out.trans (ow' := ow') ⟨by rw [hZ]; simp [World.setCell], by rw [hZ]; simp [World.setCell], by rw [hZ]; simp [World.setCell], by rw [hzs]; exact Nat.le_refl _, fun y _ h0 => hzo y (fun e => by rw [e, hMr.og] at h0; cases h0)⟩ HSB.out)
   clear hMr hzo hzs hvl2 hob2 hlb2 k1 hon hblk hly hRl hRt hly2 hog hRZ hMZ; go_wp2
   rw [← hZ]; exact ⟨rfl, .tuple #[], by simp [results, show Try.f51.results = #[] from rfl, go_sem], rfl, ow', ⟨HOK.out.close, bm, D', vd, vb, _, vs, r, HMZ.out, rfl⟩, HSB.out, HFZ.out⟩
theorem close_callsD {s : ByteArray} {stop : Int} {n : Nat} {W : World} {g q : Nat} {ow : Nat → Ow} {hb : List Nat} {x : St} (h : FX s stop n W g ow (q :: hb) x) (hn : n ≤ 4000000000000) (hsl : s.size ≤ 1099511627776) (u : FrameMode) :
  CallsD Try.prog 51 #[.pointer (some ⟨g, 0, none⟩)] u W fun e u' W' => u' = u ∧ e = .returned (.tuple #[]) ∧ FP s stop n W W' g ow hb (zbM x) := callsD_of_wp Try.func51 rfl (close_wp h hn hsl _ rfl)
theorem infoBool : (Try.prog.info? 4).map (fun i => (i.zero, i.size, i.bytes)) = some (some (.bool false), 1, 1) := by kernel_rfl
theorem bool_at {W : World} {A : Option Addr} {l : List Bool} (h : Kd.C Kd.bool W A l.length l) (i : Nat) (k : Bool) (hk : l[i]? = some k) : ∃ ad, A = some ad ∧ W.cell? (ad.add i) = some (.bool k) := by
 have hi : i < l.length := (List.getElem?_eq_some_iff.1 hk).1; obtain ⟨ad, c, e, _, hK, hc0⟩ := Kd.C_get h false (i : Int) q9 q9
 obtain rfl : c = [.bool (l.getD (i : Int).toNat false)] := hK; refine ⟨ad, e, ?_⟩
 have := hc0 0 _ rfl; rw [Int.toNat_natCast, List.getD_eq_getElem?_getD, hk] at this; rw [show (ad.add i) = (ad.add (i * Kd.bool.sz + 0)) by simp [Kd.bool, Kd.scalar], this]
 rfl
theorem keyOf_str_inv {key : Value} {kl : Lit} (h : keyOf Try.prog 9 key = some kl) : ∃ u : ByteArray, key = .string u := by
 cases key <;> simp [keyOf, Try.underlying9, mapKey] at h
 exact ⟨_, rfl⟩
theorem keyOf_str_size {u : ByteArray} {kl : Lit} (h : keyOf Try.prog 9 (.string u) = some kl) : u.size ≤ maxLen ∧ kl = keyS u := by
 by_cases hu : u.size ≤ maxLen
 ·exact ⟨hu, Option.some.inj (h.symm.trans (keyS_of u hu))⟩
 ·simp [keyOf, Try.underlying9, mapKey, hu] at h
def Told (kn : ByteArray → List Int) (D : DataW Value) (left : Lit → Bool) (bl : List Bool) : Prop := ∀ k, k < bl.length → (bl[k]? = some true ↔ ∃ u, Maps.has D (keyS u) = true ∧ left (keyS u) = false ∧ zbB kn u = (k : Int))
theorem sameKey_keyS (u v : ByteArray) : (keyS u).sameKey (keyS v) = decide (u = v) := by
 by_cases e : u = v
 ·subst e
  rw [decide_eq_true rfl]; exact WideAt.sameKey_self (keyS_lit u)
 ·rw [decide_eq_false e]
  cases h : (keyS u).sameKey (keyS v) with
  | false => rfl
  | true => exact absurd (keyS_inj (WideAt.sameKey_eq h)) e
theorem Told.start (kn : ByteArray → List Int) (D : DataW Value) (n : Nat) : Told kn D (Maps.has D) (List.replicate n false) := by
 intro k hk
 rw [List.length_replicate] at hk; constructor
 ·intro h; rw [List.getElem?_replicate] at h; simp [hk] at h
 ·rintro ⟨u, h1, h2, _⟩; rw [h1] at h2; cases h2
theorem Told.skip {kn : ByteArray → List Int} {D : DataW Value} {left : Lit → Bool} {bl : List Bool} (h : Told kn D left bl) (v : ByteArray) (hv : zbB kn v < 0) : Told kn D (fun z => left z && !z.sameKey (keyS v)) bl := by
 intro k hk
 rw [h k hk]; constructor
 ·rintro ⟨u, h1, h2, h3⟩; exact ⟨u, h1, by simp only [h2, Bool.false_and], h3⟩
 ·rintro ⟨u, h1, h2, h3⟩
  refine ⟨u, h1, ?_, h3⟩
  replace h2 : (left (keyS u) && !(keyS u).sameKey (keyS v)) = false := h2; rw [sameKey_keyS] at h2; have hne : u ≠ v := fun e => by subst e; omega
  rw [decide_eq_false hne] at h2
  simpa using h2
theorem Told.set {kn : ByteArray → List Int} {D : DataW Value} {left : Lit → Bool} {bl : List Bool} (h : Told kn D left bl) (v : ByteArray) (m : Nat) (hv : zbB kn v = (m : Int)) (hh : Maps.has D (keyS v) = true) : Told kn D (fun z => left z && !z.sameKey (keyS v)) (bl.set m true) := by
 intro k hk
 rw [List.length_set] at hk; have h0 := h k hk; by_cases e : k = m
 ·subst e
  rw [List.getElem?_set_self hk]; refine ⟨fun _ => ⟨v, hh, ?_, hv⟩, fun _ => rfl⟩
  show (left (keyS v) && !(keyS v).sameKey (keyS v)) = false
  rw [sameKey_keyS, decide_eq_true rfl]; simp
 ·rw [List.getElem?_set_ne (fun h => e h.symm), h0]
  constructor
  ·rintro ⟨u, h1, h2, h3⟩; exact ⟨u, h1, by simp only [h2, Bool.false_and], h3⟩
  ·rintro ⟨u, h1, h2, h3⟩
   refine ⟨u, h1, ?_, h3⟩
   replace h2 : (left (keyS u) && !(keyS u).sameKey (keyS v)) = false := h2; rw [sameKey_keyS] at h2; have hne : u ≠ v := fun e' => by subst e'; rw [hv] at h3; exact e (Int.ofNat.inj h3).symm
   rw [decide_eq_false hne] at h2
   simpa using h2
theorem Told.done {s : ByteArray} {stop : Int} {n : Nat} {W : World} {g bm : Nat} {D : DataW Value} {ow : Nat → Ow} {vd vb vl vs : Value} {ml : List (Value × Nat)} {x : St} (hM : FM s stop n W g bm D ow vd vb vl vs ml x) (hok : Ok s n x) {left : Lit → Bool} {bl : List Bool} (h : Told x.kn D left bl) (hl : ∀ z, left z = false) (hb : bl.length = x.ds.length) (k : Nat) (hk : k < x.ds.length) :
  bl[k]? = some (decide (zbB x.kn (nmK s x.ds k) = (k : Int))) := by
 have h0 := h k q9
 have hs : bl[k]? = some bl[k] := List.getElem?_eq_getElem q9
 have hiff : bl[k] = true ↔ zbB x.kn (nmK s x.ds k) = (k : Int) := by
  rw [hs] at h0; constructor
  ·intro hb'
   obtain ⟨u, _, _, h3⟩ := h0.1 (by rw [hb'])
   have hne : x.kn u ≠ [] := fun e => by rw [means_nil e] at h3; omega
   have hm := means_mem hne; rw [h3] at hm; rw [hok.nm u k hm, h3]
  ·intro hm
   have := h0.2 ⟨_, ?_, hl _, hm⟩
   ·injection this
   ·have hne : x.kn (nmK s x.ds k) ≠ [] := fun e => by rw [means_nil e] at hm; omega
    cases hh : Maps.has D (keyS (nmK s x.ds k)) with
    | true => rfl
    | false =>
     exfalso
     have h1 : mval D (keyS (nmK s x.ds k)) nilS = nilS := by unfold mval; rw [Maps.atKey_of_not_has hh]
     have hR := hM.stk (nmK s x.ds k); rw [h1] at hR; obtain ⟨A, c, e⟩ := Kd.za4 hR; injection e with _ e2 _
     exact hne (List.eq_nil_of_length_eq_zero e2.symm)
 rw [hs]
 congr 1
 rw [Bool.eq_iff_iff, hiff, decide_eq_true_iff]
theorem shownN_snoc (s : ByteArray) (stop : Int) (kn : ByteArray → List Int) (d : Dp) : ∀ (l : List Dp) (n : Nat), zbS s stop kn n (l ++ [d]) = zbS s stop kn n l ++ (if zbB kn (nmP s d) = ((n + l.length : Nat) : Int) ∧ d.f0.f1 ≤ stop then [d] else [])
 | [], n => by simp [zbS]
 | y :: r, n => by
  have := shownN_snoc s stop kn d r (n + 1); simp only [List.cons_append, zbS, this, List.length_cons, show n + 1 + r.length = n + (r.length + 1) by omega]
  split
  ·simp
  ·rfl
theorem FM.putSh {s : ByteArray} {stop : Int} {n : Nat} {W W' : World} {g bm : Nat} {D : DataW Value} {ow : Nat → Ow} {vd vb vl vs v : Value} {ml : List (Value × Nat)} {x : St} {sh : List Dp} (h : FM s stop n W g bm D ow vd vb vl vs ml x) (hs : W.heap.size ≤ W'.heap.size) (hk : ∀ q, q ≠ g → W'.heap[q]? = W.heap[q]?)
  (hb : W'.heap[g]? = some (.cells #[.string s, vd, vb, .map (some bm), vl, .int .i64 stop, v] 82 (0, 0))) (hR : Kd.R k62 62 W' 0 (fun q => ow q = .sh) v sh) : FM s stop n W' g bm D ow vd vb vl v ml { x with sh := sh } := by
 have hg : ∀ q t, ow q = t → t ≠ .fin → W'.heap[q]? = W.heap[q]? := fun q t hq ht => hk q (fun e => ht (by rw [← hq, e, h.og]))
 obtain ⟨es, clock, h1, h2⟩ := h.map; have hly : ∀ (ml' : List (Value × Nat)) (ls : List Lay), LysOk W ow n ml' ls → LysOk W' ow n ml' ls := by
  intro ml'
  induction ml' with
  | nil => intro ls hl; cases ls with | nil => trivial | cons a r => exact hl.elim
  | cons a r ih =>
   intro ls hl
   cases ls with
   | nil => exact hl.elim
   | cons y q' =>
    obtain ⟨k1, k2, k3, k4⟩ := hl; exact ⟨Kd.zbC k1 (fun q hq _ => hg q _ hq nofun), k2.keep (hg _ _ k3 nofun), k3, ih q' k4⟩
 exact ⟨hb, h.og, h.om, fun q hq => Nat.lt_of_lt_of_le (h.lt q hq) hs, ⟨es, clock, (hg bm _ h.om nofun).trans h1, h2⟩, Kd.zbC h.rd (fun q hq _ => hg q _ hq nofun), Kd.zbC h.rb (fun q hq _ => hg q _ hq nofun), hR, Kd.zbC h.rl (fun q hq _ => hg q _ hq nofun),
  fun u => Kd.zbC (h.stk u) (fun q hq _ => hg q _ hq nofun), hly _ _ h.lys⟩
theorem look_calls {s : ByteArray} {stop : Int} {n : Nat} {W : World} {g : Nat} {ow : Nat → Ow} {hb : List Nat} {x : St} (h : FX s stop n W g ow hb x) (hn : n ≤ 4000000000000) (a b : Int) :
  Calls Try.prog 69 #[.pointer (some ⟨g, 0, none⟩), .int .i64 a, .int .i64 b] W fun e W' => e = .returned (.tuple #[]) ∧ FP s stop n W W' g ow hb (lookP s stop a b x) := by
 have HFI := J h; obtain ⟨hok, bm, D, vd, vb, vl, vs, ml, hM, hhb⟩ := h; have p5 := zaf hM.blk 5; have l0 := zaN hM.blk; simp at p5; have hus := Try.underlying82; have hnm := Try.underlying47; have hud := Try.underlying62; have hup := Try.underlying60; by_cases h1 : stop < a
 ·have hlp : lookP s stop a b x = x := by unfold lookP; rw [if_pos (.inl h1)]
  clear hok hM hhb; go_enter Try.func69, Try.ntmps69
  go_wp2
  exact ⟨rfl, .tuple #[], by simp [results, show Try.f69.results = #[] from rfl, go_sem], rfl, ow, by first | exact HFI.out | (rw [hlp]; exact HFI.out), Sub.refl, Fch.refl⟩
 by_cases h2 : b ≤ stop
 ·have hlp : lookP s stop a b x = x := by unfold lookP; rw [if_pos (.inr h2)]
  clear hok hM hhb; go_enter Try.func69, Try.ntmps69
  go_wp2
  exact ⟨rfl, .tuple #[], by simp [results, show Try.f69.results = #[] from rfl, go_sem], rfl, ow, by first | exact HFI.out | (rw [hlp]; exact HFI.out), Sub.refl, Fch.refl⟩
 have HLP := J (show lookP s stop a b x = { x with sh := zbS s stop x.kn 0 x.ds } by unfold lookP; rw [if_neg q9])
 have HOK := J hok; have HM := J hM; have HHB := J hhb; have HN := J hn; obtain ⟨Ad, cd, hvd, hcd, _⟩ := Kd.zbR hM.rd; have HVD := J hvd; obtain ⟨nd, hnd⟩ : ∃ nd, nd = x.ds.length := ⟨_, rfl⟩; have HND := J hnd; have p1 := zaf hM.blk 1; have p3 := zaf hM.blk 3; simp at p1 p3; rw [hvd, ← hnd] at p1; have hndl : nd ≤ 4000000000000 := by have := hok.dl; omega
 have hmap := hM.map; have HMP := J hmap; clear hok hM hhb hn hvd hcd hnd hmap HFI; go_enter Try.func69, Try.ntmps69
 go_upto_region 2 with ((with_reducible refine za2 (N := 31) rfl ?_); refine Kd.R_make Kd.bool (w0 := W) W.heap.size 4 rfl (N := 31) rfl 131 (.tmp 30) (.tmp 30) rfl (nd : Int) ?hx ?hy Try.underlying131 (.bool false) 1 infoBool rfl qe qe false (ok := fun q => W.heap.size ≤ q) (okp := fun _ => False) rfl (fun _ h => h.elim) (Nat.le_refl _) q9 q9 (Below.refl _ _) (Nat.le_refl _) ?_; (case hx => first | (go_simp; done) | (go_simp; rfl)); (case hy => first | (go_simp; done) | (go_simp; rfl)); intro v1 w1 hR1 hb1 hg1 hn1)
 rw [Int.toNat_natCast] at hR1; obtain ⟨Av, cv, ev⟩ := Kd.za4 hR1; rw [List.length_replicate] at ev; subst ev; clear p1 p3 p5 l0; have hM1 := HM.out.below hb1; have p3 := zaf hM1.blk 3; have l0 := zaN hM1.blk; simp at p3; have hmap := hM1.map; have HB1 := J hb1; have HR1 := J hR1; clear hM1 hb1 hR1 hg1 hn1; go_wp2_with (first | (at_range; refine wpList_range_own _ rfl _ 79 rfl 9 106 klaw Try.underlying79 _ bm n D rfl hmap ?_; intro w0 hrg0 hg0 hs0) | go_in)
 clear p3 l0 hmap; have HB0 := J (show Below W.heap.size W w0 from zbL HB1.out ⟨hg0.os, hg0.tape, hg0.output, hg0.size, fun q hq => hg0.block q hq qf⟩ HB1.out.size)
 have HR0 := J (show Kd.R Kd.bool 4 w0 W.heap.size (fun q => W.heap.size ≤ q) (.slice Av nd cv) (List.replicate nd false) from Kd.R_grown HR1.out hg0 (fun _ _ => qf))
 obtain ⟨r, hr⟩ : ∃ r, r = w1.heap.size := ⟨_, rfl⟩; rw [← hr] at hrg0; rw [← hr]; have HRL := J (show ∀ k, (Value.slice Av nd cv).ownBlock = some k → k ≠ r from fun k hk e => by
  have := (Kd.R_bound HR1.out).1 k hk; omega)
 have HRW := J (show W.heap.size ≤ r by rw [hr]; exact HB1.out.size)
 have HBM := J (show bm < W.heap.size from HM.out.lt bm (by rw [HM.out.om]; nofun))
 have HRG0 := J hrg0; obtain ⟨cnt0, hcnt0⟩ : ∃ c, c = Maps.size D := ⟨_, rfl⟩; rw [← hcnt0] at HRG0; clear hr hrg0 hg0 hs0 hcnt0; go_loopg [] cnt0 (fun kq wr => ∃ (left : Lit → Bool) (cnt : Nat) (bl : List Bool), wr.ranges Try.prog 9 rawE bm r n D left cnt ∧ zaa (kq = cnt) ∧ zaa (bl.length = nd) ∧ zaa (Below W.heap.size W wr) ∧ zaa (Kd.R Kd.bool 4 wr W.heap.size (fun q => W.heap.size ≤ q) (.slice Av nd cv) bl) ∧ zaa (Told x.kn D left bl))
 case atStart => exact ⟨_, _, _, HRG0.out, ⟨rfl⟩, ⟨List.length_replicate⟩, HB0, HR0, ⟨Told.start _ _ _⟩⟩
 case round =>
  obtain ⟨left, cnt, bl, hrg, HKQ, HBL, HB, HR, HT⟩ := hrel; go_wp2_with (first | (at_next; refine wpList_next_ranges _ rfl _ rfl 9 klaw rawE Value.string (fun v => v) (fun _ _ h => keyOf_str_inv h) (fun v _ _ => ⟨v, rfl⟩) bm r n D left cnt rfl hrg ?_ ?_) | go_in)
  ·intro hc0 hl0
   have HL0 := J hl0; have HDN := J (fun k hk => Told.done HM.out HOK.out HT.out HL0.out (HBL.out.trans HND.out) k hk)
   have hMr := HM.out.below HB.out; have c6 := zaf hMr.blk 6; have f6 := zab hMr.blk 6; have l6 := zaN hMr.blk; simp at c6; have hHZ := zbe hMr.blk 6 nilS; obtain ⟨Z, hZ⟩ : ∃ Z, Z = wr.setCell ⟨g, 6, none⟩ nilS := ⟨_, rfl⟩; have hZo : ∀ q, q ≠ g → Z.heap[q]? = wr.heap[q]? := fun q hq => by rw [hZ]; exact Below.heap_setCell _ _ _ _ hq
   have hzs : Z.heap.size = wr.heap.size := by rw [hZ]; simp
   have hZb : Z.heap[g]? = some (.cells #[.string s, vd, vb, .map (some bm), vl, .int .i64 stop, nilS] 82 (0, 0)) := by rw [hZ]; simpa using hHZ
   have hMZ := hMr.putSh (sh := []) (by rw [hzs]; exact Nat.le_refl _) hZo hZb (Kd.R_nil _ _ _ _ _)
   have HMZ := J hMZ; have hno : ∀ k, (Value.slice Av nd cv).ownBlock = some k → ow k = .no := fun k hk => by
    have h1 := HR.out.1 k hk; cases e : ow k with
    | no => rfl
    | _ => have := HM.out.lt k qn; omega
   have HNO := J hno; have HRZ := J (show Kd.R Kd.bool 4 Z W.heap.size (fun q => W.heap.size ≤ q) (.slice Av nd cv) bl from Kd.zbC (Kd.R_tight rfl HR.out) (fun q hq _ => hZo q (fun e => by have := HNO.out q hq.symm; rw [e, HM.out.og] at this; cases this)) |> fun h => Kd.zbl h (fun q hq => HR.out.1 q hq.symm))
   have HFZ := J (show Fch ow W Z from (Fch.of_below HB.out).trans (ow' := ow) ⟨by rw [hZ]; simp [World.setCell], by rw [hZ]; simp [World.setCell], by rw [hZ]; simp [World.setCell], by rw [hzs]; exact Nat.le_refl _, fun q _ h0 => hZo q (fun e => by rw [e, HM.out.og] at h0; cases h0)⟩ Sub.refl)
   clear hrg HT hHZ hZo hzs hMr hMZ hno hl0 hc0 HKQ HRG0 HB0 HR0; go_upto_region 9 with (fail)
   change Code.wp Try.prog _ _ _ (wr.setCell ⟨g, 6, none⟩ nilS)
   rw [← hZ]; clear hZ c6 f6 l6; have p1 := zaf hZb 1; have lz := zaN hZb; simp at p1; rw [HVD.out, ← HND.out] at p1; clear hZb; go_wp2
   clear p1 lz; go_loopg [58] nd (fun kq v58 w' => ∃ i : Nat, v58 = .int .i64 i ∧ i ≤ nd ∧ zaa (kq = nd - i) ∧ ∃ ow' vs', zaa (FM s stop n w' g bm D ow' vd vb vl vs' ml { x with sh := zbS s stop x.kn 0 (x.ds.take i) } ∧ Sub ow W ow' ∧ Fch ow W w') ∧ zaa (Kd.R Kd.bool 4 w' W.heap.size (fun q => W.heap.size ≤ q) (.slice Av nd cv) bl) ∧ zaa (∀ k, (Value.slice Av nd cv).ownBlock = some k → ow' k = .no))
   case atStart => exact ⟨0, rfl, Nat.zero_le _, ⟨rfl⟩, ow, nilS, ⟨HMZ.out, Sub.refl, HFZ.out⟩, HRZ, HNO⟩
   case round =>
    obtain ⟨i, rfl, hi, HKI, ow', vs', HI, HRI, HNI⟩ := hrel; by_cases hlt : i < nd
    ·obtain ⟨d, hd⟩ : ∃ d, x.ds[i]? = some d := ⟨_, List.getElem?_eq_getElem (by have := HND.out; omega)⟩
     have HMI := J HI.out.1; have HSB := J HI.out.2.1; have HFC := J HI.out.2.2; obtain ⟨A2, c2, e2, _, hCd⟩ := Kd.zbR HMI.out.rd; have hdl : i < x.ds.length := by have := HND.out; omega
     obtain ⟨ad2, eA, c0, c1, c2_, c3⟩ := at_T62 hCd (i : Int) q9 qm
     obtain rfl : Ad = A2 := by
      have h1 := HVD.out.symm.trans e2; injection h1
     rw [eA]; simp only at c0 c1 c2_ c3; rw [dp_at _ _ _ hd, Int.toNat_natCast] at c0 c1 c2_ c3; have hbi := HDN.out i hdl; have HSN := J (show zbS s stop x.kn 0 (x.ds.take (i + 1)) = zbS s stop x.kn 0 (x.ds.take i) ++ (if zbB x.kn (nmK s x.ds i) = (i : Int) ∧ d.f0.f1 ≤ stop then [d] else []) by
      rw [List.take_add_one, hd, Option.toList_some, shownN_snoc, nmK_some (by rw [Int.toNat_natCast]; exact hd), List.length_take, Nat.min_eq_left q9, Nat.zero_add])
     obtain ⟨bi, hbv⟩ : ∃ bi, bi = decide (zbB x.kn (nmK s x.ds i) = (i : Int)) := ⟨_, rfl⟩; rw [← hbv] at hbi; have HBV := J hbv; obtain ⟨A3, c3_, e3, _, hCb⟩ := Kd.zbR HRI.out; obtain rfl : Av = A3 := by injection e3
     obtain ⟨ad3, eB, q0⟩ := bool_at hCb i bi hbi; subst eB; obtain ⟨⟨da, db⟩, dk, dg⟩ := d; simp only at c0 c1 c2_ c3; subst eA; clear e2 e3 hCd hCb hbi hbv hd hdl; go_upto_region 12 with (fail)
     obtain ⟨X1, hX1⟩ : ∃ X, X = wr.alloc (.cells #[.int .i64 da, .int .i64 db, .int .u8 dk, .bool dg] 62) := ⟨_, rfl⟩; change Code.wp Try.prog _ _ _ (wr.alloc (.cells #[.int .i64 da, .int .i64 db, .int .u8 dk, .bool dg] 62))
     have HB1 := J (show Below wr.heap.size wr X1 by rw [hX1]; exact zad (Below.refl _ _) _)
     obtain ⟨kb, hkb⟩ : ∃ kb, kb = wr.heap.size := ⟨_, rfl⟩; have HKW := J (show wr.heap.size ≤ kb by omega)
     have kx1 : X1.heap[kb]? = some (.cells #[.int .i64 da, .int .i64 db, .int .u8 dk, .bool dg] 62 (0, 0)) := by rw [hX1, hkb]; exact heap_alloc_new _ _
     rw [← hX1]; rw [show (⟨wr.heap.size, 0, none⟩ : Addr) = ⟨kb, 0, none⟩ by rw [hkb]]
     have q0' : X1.cell? (ad3.add i) = some (.bool bi) := by
      rw [← q0]; exact (pw_cell_below HB1.out q0).trans q0.symm
     have HKX := J kx1; have HMX1 := J (HMI.out.below HB1.out); have x1 := zaf kx1 1; have x2 := zaN kx1; have x3 := zaf HMX1.out.blk 5; have x4 := zaN HMX1.out.blk; simp at x1 x3; clear hX1 hkb kx1 q0 c0 c1 c2_ c3; cases bi with
     | false =>
      have HSF := J (show zbS s stop x.kn 0 (x.ds.take (i + 1)) = zbS s stop x.kn 0 (x.ds.take i) by rw [HSN.out, if_neg (fun h => by have := HBV.out; rw [decide_eq_true h.1] at this; cases this), List.append_nil])
      go_quiet (fail)
      clear x1 x2 x3 x4 q0'; have HBQ := J (show Below wr.heap.size wr (X1.drewN nq) from zak HB1.out ⟨rfl, rfl, rfl, Nat.le_refl _, fun _ _ => rfl⟩)
      go_wp2
      go_roundg (nd - (i + 1))
      case measure => have := HKI.out; omega
      case rel => exact ⟨i + 1, qk, q9, ⟨rfl⟩, ow', vs', ⟨by rw [HSF.out]; exact HMI.out.below HBQ.out, HSB.out, HFC.out.trans (Fch.of_below HBQ.out) HSB.out⟩, ⟨Kd.zbx HRI.out HBQ.out⟩, HNI⟩
     | true =>
      by_cases hst : db ≤ stop
      ·have HSF := J (show zbS s stop x.kn 0 (x.ds.take (i + 1)) = zbS s stop x.kn 0 (x.ds.take i) ++ [⟨⟨da, db⟩, dk, dg⟩] by rw [HSN.out, if_pos ⟨of_decide_eq_true HBV.out.symm, hst⟩])
       go_quiet (fail)
       clear x1 x2 x3 x4 q0'; go_upto_region 13 with (fail)
       obtain ⟨X, hX⟩ : ∃ X, X = (X1.drewN nq).drew := ⟨_, rfl⟩; have bX : Below X1.heap.size X1 X := by rw [hX]; exact ⟨rfl, rfl, rfl, Nat.le_refl _, fun _ _ => rfl⟩
       have hbX := zak HB1.out bX; have hMX := HMI.out.below hbX; have kx := zaG HKX.out bX; obtain ⟨sh, hsh⟩ : ∃ sh, sh = zbS s stop x.kn 0 (x.ds.take i) := ⟨_, rfl⟩; have hshl : sh.length ≤ 4000000000000 := by
        have h1 := shownN_len s stop x.kn 0 (x.ds.take i); rw [← hsh, List.length_take] at h1; omega
       rw [← hsh] at hMX HSF; obtain ⟨As, cs, es⟩ := Kd.za4 hMX.rs; simp only at es; obtain ⟨ns, hns⟩ : ∃ ns, ns = sh.length := ⟨_, rfl⟩; rw [← hns] at es hshl; subst es; obtain ⟨z, cap, w5, hrun, hzo, hzl, hsz5, hst5, hfc5, hR5⟩ := row_app (t := .sh) k62 62 44 rfl hMX.lt nofun hMX.rs Try.underlying44 infoDp rfl qe qe (by simp only; rw [← hns]; omega)
        ⟨⟨da, db⟩, dk, dg⟩ [.int .i64 da, .int .i64 db, .int .u8 dk, .bool dg] rfl (k62_mkM _ _ _ _) rfl Qs
       have hk5 : w5.heap[g]? = X.heap[g]? := hst5 g (zaN hMX.blk) (by rw [hMX.og]; nofun)
       have hc5 := hk5.trans hMX.blk; have hnob : ow' kb = .no := by
        cases e : ow' kb with
        | no => rfl
        | _ => have := HMI.out.lt kb qn; have := HKW.out; omega
       have kx5 := (hst5 kb (zaN kx) (by rw [hnob]; nofun)).trans kx
       obtain ⟨Z, hZ⟩ : ∃ Z, Z = w5.setCell ⟨g, 6, none⟩ (.slice (some ⟨z, 0, none⟩) (ns + 1) cap) := ⟨_, rfl⟩; have hzs : Z.heap.size = w5.heap.size := by rw [hZ]; simp
       have hzq : ∀ q, q ≠ g → Z.heap[q]? = w5.heap[q]? := fun q hq => by rw [hZ]; exact Below.heap_setCell _ _ _ _ hq
       have hzc : Z.heap[g]? = some (.cells #[.string s, vd, vb, .map (some bm), vl, .int .i64 stop, .slice (some ⟨z, 0, none⟩) (ns + 1) cap] 82 (0, 0)) := by rw [hZ]; simpa using zbe hc5 6 (.slice (some ⟨z, 0, none⟩) (ns + 1) cap)
       have k1 : Mv ow' z .sh g X Z := ⟨hzo, by rw [hzs]; exact hzl, by rw [hzs]; exact hsz5, fun q hq h1 h2 => (hzq q h1).trans (hst5 q hq h2)⟩
       have hMZ := hMX.setSh k1 hzc (Kd.zbC hR5 (fun y hy _ => hzq y (fun e => by rw [e, k1.old hMX.lt hMX.og nofun nofun] at hy; cases hy)))
       have HMZ2 := J (show FM s stop n Z g bm D (own ow' z .sh) vd vb vl (.slice (some ⟨z, 0, none⟩) (ns + 1) cap) ml { x with sh := zbS s stop x.kn 0 (x.ds.take (i + 1)) } by rw [HSF.out]; exact hMZ)
       have hF5 : Fch ow' wr Z := (Fch.trans (Fch.of_below hbX) (ow' := ow') ⟨by rw [hZ]; simpa [World.setCell] using hfc5.os, by rw [hZ]; simpa [World.setCell] using hfc5.tape, by rw [hZ]; simpa [World.setCell] using hfc5.output, by rw [hzs]; exact hsz5, fun q hq h0 => k1.st q hq (fun e => by rw [e, hMX.og] at h0; cases h0) (by rw [h0]; nofun)⟩ Sub.refl)
       have HSB2 := J (HSB.out.trans (Sub.own (t := .sh) (hzo.imp id (fun h => Nat.le_trans hbX.size h)) nofun) HFC.out.size)
       have HFC2 := J (HFC.out.trans hF5 HSB.out); have HRZ2 := J (show Kd.R Kd.bool 4 Z W.heap.size (fun q => W.heap.size ≤ q) (.slice (some ad3) nd cv) bl from Kd.zbl (Kd.zbC (Kd.R_tight rfl HRI.out) (fun q hq hql => hF5.block q hql (HNI.out q hq.symm))) (fun q hq => HRI.out.1 q hq.symm))
       have HNI2 := J (show ∀ k, (Value.slice (some ad3) nd cv).ownBlock = some k → own ow' z .sh k = .no from fun k hk => by
        have h1 := HNI.out k hk; unfold own
        rw [if_neg, h1]; intro e
        rcases hzo with h | h
        ·rw [← e, h1] at h; cases h
        ·have h2 := (Kd.R_bound HRI.out).1 k hk |>.2.2.1
         have := hbX.size; omega)
       have HSFF := J (show ∀ W' : World, W'.heap[g]? = some (.cells #[.string s, vd, vb, .map (some bm), vl, .int .i64 stop, .slice As ns cs] 82 (0, 0)) → W'.heap[kb]? = some (.cells #[.int .i64 da, .int .i64 db, .int .u8 dk, .bool dg] 62 (0, 0)) →
         (W'.cell? ⟨g, 6, none⟩ = some (.slice As ns cs) ∧ g < W'.heap.size) ∧ (W'.cell? ⟨kb, 0, none⟩ = some (.int .i64 da) ∧ W'.cell? ⟨kb, 1, none⟩ = some (.int .i64 db) ∧ W'.cell? ⟨kb, 2, none⟩ = some (.int .u8 dk) ∧ W'.cell? ⟨kb, 3, none⟩ = some (.bool dg) ∧ kb < W'.heap.size) from fun W' h1 h2 => by
        have e1 := zaf h1 6; have e2 := zaf h2 0; have e3 := zaf h2 1; have e4 := zaf h2 2; have e5 := zaf h2 3; simp at e1 e2 e3 e4 e5; exact ⟨⟨e1, zaN h1⟩, e2, e3, e4, e5, zaN h2⟩)
       have HS0 := J (HSFF.out X hMX.blk kx); have HSY := J (show ∀ Y, Y = X.alloc (.cells #[.int .i64 da, .int .i64 db, .int .u8 dk, .bool dg] 62) → _ from fun Y e => HSFF.out Y (by rw [e]; exact zaG hMX.blk (zad (Below.refl _ _) _)) (by rw [e]; exact zaG kx (zad (Below.refl _ _) _)))
       have HS5 := J (HSFF.out w5 hc5 kx5); have HRUN := J hrun; have HC5 := J hc5; have HZZ := J hZ; clear bX hbX hMX kx hsh hshl hns hrun hzo hzl hsz5 hst5 hfc5 hR5 hk5 hc5 hnob kx5 hzs hzq hzc k1 hMZ hF5 hst hZ; refine wp_region_noPanic (zba [0, 1, 2, 3, 4, 5, 6, 7, 8, 9] (fun W' => (W'.cell? ⟨g, 6, none⟩ = some (.slice As ns cs) ∧ g < W'.heap.size) ∧ (W'.cell? ⟨kb, 0, none⟩ = some (.int .i64 da) ∧ W'.cell? ⟨kb, 1, none⟩ = some (.int .i64 db) ∧ W'.cell? ⟨kb, 2, none⟩ = some (.int .u8 dk) ∧ W'.cell? ⟨kb, 3, none⟩ = some (.bool dg) ∧ kb < W'.heap.size)) mixF ?_)
       rw [← hX]; clear hX; refine zah 0 rfl HS0.out (fun _ h => Qh) ?_
       simp only [Act.put, zai]; refine zah 1 rfl HS0.out (fun _ h => Qh) ?_
       simp only [Act.put, zai]; refine zah 2 rfl HS0.out (fun _ h => Qh) ?_
       simp only [Act.put, zai]; refine zah 3 rfl HS0.out (fun _ h => Qh) ?_
       simp only [Act.put, zai]; refine zah 4 rfl HS0.out (fun _ h => Qh) ?_
       simp only [Act.put, zai]; refine zah 5 rfl HS0.out (fun _ h => Qh) ?_
       simp only [Act.put, zai]; refine zaI (i := 6) rfl qb (fun K hK => ?_)
       go_simp
       refine hK.out _ _ (fun _ => HSY.out _ rfl) (fun _ => ?_)
       clear hK K; try simp only [Act.put, zai]
       refine zaI (i := 7) rfl qb (fun K hK => ?_)
       refine wpF_app (by rfl) _ _ _ rfl HRUN.out ?_
       refine hK.out _ _ (fun _ => HS5.out) (fun _ => ?_)
       clear hK K; try simp only [Act.put, zai]
       have r0 := zaf HC5.out 6; have g0 := zab HC5.out 6; have lb := zaN HC5.out; simp at r0; refine zaI (i := 8) rfl qb (fun K hK => ?_)
       go_simp
       refine hK.out _ _ (fun _ => HS5.out) (fun _ => ?_)
       clear hK K; try simp only [Act.put, zai]
       refine zaI (i := 9) rfl qb (fun K hK => ?_)
       go_simp
       refine hK.out _ _ (fun _ => HS5.out) (fun _ => ?_)
       clear hK K; try simp only [Act.put, zai]
       refine zaI (i := 10) rfl qb (fun K hK => ?_)
       go_simp
       refine hK.out _ _ (fun h => Bool.noConfusion (show false = true from h)) (fun _ => ?_)
       clear hK K; try simp only [Act.put, zai]
       refine za3 qb (NoPanic.normal ?_) _
       clear r0 g0 lb; rw [show w5.setCell ⟨g, 6, none⟩ (.slice (some ⟨z, 0, none⟩) (ns + 1) cap) = Z from HZZ.out.symm]
       go_wp2
       go_roundg (nd - (i + 1))
       case measure => have := HKI.out; omega
       case rel => exact ⟨i + 1, qk, q9, ⟨rfl⟩, _, _, ⟨HMZ2.out, HSB2.out, HFC2.out⟩, HRZ2, HNI2⟩
      ·have HSF := J (show zbS s stop x.kn 0 (x.ds.take (i + 1)) = zbS s stop x.kn 0 (x.ds.take i) by rw [HSN.out, if_neg (fun h => hst h.2), List.append_nil])
       go_quiet (fail)
       clear x1 x2 x3 x4 q0'; have HBQ := J (show Below wr.heap.size wr (X1.drewN nq) from zak HB1.out ⟨rfl, rfl, rfl, Nat.le_refl _, fun _ _ => rfl⟩)
       go_wp2
       go_roundg (nd - (i + 1))
       case measure => have := HKI.out; omega
       case rel => exact ⟨i + 1, qk, q9, ⟨rfl⟩, ow', vs', ⟨by rw [HSF.out]; exact HMI.out.below HBQ.out, HSB.out, HFC.out.trans (Fch.of_below HBQ.out) HSB.out⟩, ⟨Kd.zbx HRI.out HBQ.out⟩, HNI⟩
    ·obtain rfl : i = nd := by omega
     have HFN := J (show FM s stop n wr g bm D ow' vd vb vl vs' ml (lookP s stop a b x) by rw [HLP.out]; have h := HI.out.1; rw [HND.out, List.take_length] at h; exact h)
     have HSB := J HI.out.2.1; have HFC := J HI.out.2.2; go_wp2
     exact ⟨rfl, .tuple #[], by simp [results, show Try.f69.results = #[] from rfl, go_sem], rfl, ow', ⟨HOK.out.look stop a b, bm, D, vd, vb, vl, vs', ml, HFN.out, HHB.out⟩, HSB.out, HFC.out⟩
  ·intro u c kl y1 y2 w1 cnt1 hkey hlx hRy hat hrg1 hlt hg1 hs1 hen
   obtain ⟨hu, rfl⟩ := keyOf_str_size hkey; have HHAS := J (show Maps.has D (keyS u) = true from Maps.has_true_of_atKey hat)
   have hB1 : Below W.heap.size W w1 := HB.out.grown hg1 HB.out.size (fun k hk => by injection hk with hk; rw [← hk]; exact HRW.out)
   have HBW := J hB1; have HR1 := J (show Kd.R Kd.bool 4 w1 W.heap.size (fun q => W.heap.size ≤ q) (.slice Av nd cv) bl from Kd.zbl (Kd.R_grown (Kd.R_tight rfl HR.out) hg1 (fun k hk e => HRL.out k hk.symm (Option.some.inj e))) (fun q hq => HR.out.1 q hq.symm))
   have HRG := J hrg1; have HLT := J hlt; have hcall := means_calls (HM.out.below hB1) u hu; obtain ⟨mv, hmv⟩ : ∃ mv, mv = zbB x.kn u := ⟨_, rfl⟩; have HMV := J hmv; rw [← hmv] at hcall; have hmb : -1 ≤ mv ∧ mv < nd := by have := HOK.out.means u; have := HND.out; omega
   have HMB := J hmb; clear hrg hkey hlx hRy hat hrg1 hlt hg1 hs1 hB1 hmv hmb HR; by_cases hm0 : mv < 0
   ·have HTN := J (HT.out.skip u (by rw [← HMV.out]; exact hm0))
    go_wp2_with (go_at_call 67; refine hcall.mono ?_; rintro e_ w_ ⟨rfl, rfl⟩; clear hcall)
    go_roundg cnt1
    case measure => have := HLT.out; have := HKQ.out; omega
    case rel => exact ⟨_, _, bl, HRG.out, ⟨rfl⟩, HBL, HBW, HR1, HTN⟩
   ·obtain ⟨m, rfl⟩ : ∃ m : Nat, mv = m := ⟨mv.toNat, q9⟩
    have hmn : m < nd := by have := HMB.out; omega
    have hRw := HR1.out; obtain ⟨zb, cap, hv, hzw, hzl, _, hzc⟩ := Kd.R_form hRw (by rw [HBL.out]; omega)
    have HRL2 := J (show zb ≠ r from HRL.out zb (by rw [hv]; rfl))
    rw [HBL.out] at hv; injection hv with hv1 _ hv3
    subst hv1; subst hv3; obtain ⟨ce, hcl, hMM, hcc, hfr⟩ := Kd.R_elem hRw false (m : Int) q9 q9
    have hseg := Kd.R_seg hRw (m : Int) q9 q9 (seg := [.bool true]) (j := 0) hcl hcc (show 0 + 1 ≤ 1 from qe) (x' := true) (okp := fun _ => False) (by rw [show ce = [.bool (bl.getD (m : Int).toNat false)] from hMM]; rfl) (fun _ h => h.elim)
    have q0 : w1.cell? ⟨zb, m, none⟩ = some (.bool (bl.getD (m : Int).toNat false)) := by have := hcc 0 _ (by rw [show ce = [.bool (bl.getD (m : Int).toNat false)] from hMM]; rfl); simpa [Kd.bool, Kd.scalar] using this
    have f0 : w1.frozen? ⟨zb, m, none⟩ = false := by have := hfr 0; simpa [Kd.bool, Kd.scalar] using this
    have HSG := J (show Kd.R Kd.bool 4 (w1.setCell ⟨zb, m, none⟩ (.bool true)) W.heap.size (fun q => W.heap.size ≤ q) (.slice (some ⟨zb, 0, none⟩) nd cv) (bl.set m true) ∧ w1.grownBy (w1.setCell ⟨zb, m, none⟩ (.bool true)) (some zb) by
     simpa [World.setCells, Kd.bool, Kd.scalar] using hseg)
    have HTN := J (HT.out.set u m HMV.out.symm HHAS.out); have HRN := J (HRG.out.kept HSG.out.2 (fun e => by have := HBM.out; rw [Option.some.inj e] at this; omega) (fun e => HRL2.out (Option.some.inj e).symm))
    have HBN := J (show Below W.heap.size W (w1.setCell ⟨zb, m, none⟩ (.bool true)) from HBW.out.setCell hzw _)
    clear hRw hcl hMM hcc hfr hseg hm0; go_wp2_with (go_at_call 67; refine hcall.mono ?_; rintro e_ w_ ⟨rfl, rfl⟩; clear hcall)
    go_roundg cnt1
    case measure => have := HLT.out; have := HKQ.out; omega
    case rel => exact ⟨_, _, bl.set m true, HRN.out, ⟨rfl⟩, ⟨by rw [List.length_set]; exact HBL.out⟩, HBN, ⟨HSG.out.1⟩, HTN⟩
def PV (W : World) (b : Nat) (rf : Nat → Prop) (l : List Int) : Prop := ∃ v, W.heap[b]? = some (.cells #[v] 106 (0, 0)) ∧ Kd.R (Kd.int .i64) 3 W 0 rf v l
def PSx (p : Option Nat) (W : World) (ow : Nat → Ow) (pf : Nat → Bool) (l : List Int) : Prop := (∀ q, pf q = true → ow q = .no ∧ q < W.heap.size) ∧ ∀ b, p = some b → ow b = .no ∧ pf b = false ∧ PV W b (fun q => pf q = true) l
structure Frx (p : Option Nat) (pf : Nat → Bool) (ow : Nat → Ow) (W W' : World) : Prop where
  os : W'.os = W.os
  tape : W'.tape = W.tape
  output : W'.output = W.output
  size : W.heap.size ≤ W'.heap.size
  block : ∀ q, q < W.heap.size → ow q = .no → pf q = false → p ≠ some q → W'.heap[q]? = W.heap[q]?
def KP (s : ByteArray) (stop : Int) (n : Nat) (W W' : World) (g : Nat) (ow : Nat → Ow) (hb : List Nat) (p : Option Nat) (pf : Nat → Bool) (l : List Int) (x : St) : Prop :=
  ∃ ow' pf', FX s stop n W' g ow' hb x ∧ Sub ow W ow' ∧ PSx p W' ow' pf' l ∧ (∀ q, pf' q = true → pf q = true ∨ W.heap.size ≤ q) ∧ Frx p pf ow W W'
def costB (T : AT) : Nat := 1000003 + 2000006 * nL T.kids
def KidsC (W0 : World) (s : ByteArray) (stop : Int) (g : Nat) (T : AT) : Prop := ∀ (f : Int) (n : Nat) (W : World) (ow : Nat → Ow) (q : Nat) (hb : List Nat) (x : St) (p : Option Nat) (pf : Nat → Bool) (l : List Int), Below W0.heap.size W0 W → (∀ z, ow z ≠ .no → W0.heap.size ≤ z) → (∀ z, p = some z → W0.heap.size ≤ z) → (∀ z, pf z = true → W0.heap.size ≤ z) →
  FX s stop n W g ow (q :: hb) x → PSx p W ow pf l → l.length ≤ 1000000 → 0 ≤ f → f + T.wd ≤ s.size → n + costB T ≤ 4000000000000 →
  Calls Try.prog 53 #[.pointer (some ⟨g, 0, none⟩), T.val, .int .i64 f, .pointer (p.map fun b => ⟨b, 0, none⟩)] W fun e W' => e = .returned (.tuple #[]) ∧ KP s stop (n + costB T) W W' g ow (q :: hb) p pf (l ++ (kidsT s stop T f x).2) (kidsT s stop T f x).1
theorem Fch.low {W0 W W' : World} {ow : Nat → Ow} (h : Fch ow W W') (hl : Below W0.heap.size W0 W) (ho : ∀ z, ow z ≠ .no → W0.heap.size ≤ z) : Below W0.heap.size W0 W' :=
  ⟨h.os.trans hl.os, h.tape.trans hl.tape, h.output.trans hl.output, Nat.le_trans hl.size h.size, fun q hq => (h.block q (Nat.lt_of_lt_of_le hq hl.size) (by
    cases e : ow q with
    | no => rfl
    | _ => have := ho q qn; omega)).trans (hl.block q hq)⟩
theorem FX.ne {s : ByteArray} {stop : Int} {n : Nat} {W : World} {g q : Nat} {ow : Nat → Ow} {hb : List Nat} {x : St} (h : FX s stop n W g ow (q :: hb) x) : x.ls ≠ [] := by
  obtain ⟨_, bm, D, vd, vb, vl, vs, ml, hM, hhb⟩ := h; have := LysOk.len _ _ hM.lys; intro e
  rw [e] at this; rw [List.eq_nil_of_length_eq_zero this] at hhb; cases hhb
theorem kidsC_none {W0 W : World} {s : ByteArray} {stop : Int} {g n q : Nat} {T : AT} {ow : Nat → Ow} {hb : List Nat} {x : St} {f : Int} (h : KidsC W0 s stop g T) (hl : Below W0.heap.size W0 W) (ho : ∀ z, ow z ≠ .no → W0.heap.size ≤ z) (hF : FX s stop n W g ow (q :: hb) x) (h0 : 0 ≤ f) (h1 : f + T.wd ≤ s.size) (hn : n + costB T ≤ 4000000000000) :
    Calls Try.prog 53 #[.pointer (some ⟨g, 0, none⟩), T.val, .int .i64 f, .pointer none] W fun e W' => e = .returned (.tuple #[]) ∧ FP s stop (n + costB T) W W' g ow (q :: hb) (kidsT s stop T f x).1 := by
  refine (h f n W ow q hb x none (fun _ => false) [] hl ho nofun nofun hF ⟨nofun, nofun⟩ (Nat.zero_le _) h0 h1 hn).mono ?_
  rintro e W' ⟨rfl, ow', pf', h1, h2, _, _, h5⟩
  exact ⟨rfl, ow', h1, h2, h5.os, h5.tape, h5.output, h5.size, fun z hz hz0 => h5.block z hz hz0 rfl nofun⟩
theorem F_fch {α : Type} {d : Kd α} {W W' : World} {ow ow' : Nat → Ow} {A : Option Addr} {m : Nat} {l : List α} (h : Kd.F d W (fun q => ow q = .no) A m l) (hf : Fch ow W W') (hs : Sub ow W ow') : Kd.F d W' (fun q => ow' q = .no) A m l :=
  Kd.F_mono (Kd.F_step (Kd.F_bound h) (fun q hq hl => hf.block q hl hq.1)) (fun q hq => by
    cases e : ow' q with
    | no => rfl
    | _ => rcases hs q qn with h | h
           · exact absurd hq.1 h
           · have := hq.2; omega)
theorem within_calls {W0 W : World} {s : ByteArray} {stop : Int} {g n : Nat} {T : AT} {ow : Nat → Ow} {hb : List Nat} {x : St} {f : Int} (h : KidsC W0 s stop g T) (hsl : s.size ≤ 1099511627776) (hl : Below W0.heap.size W0 W) (ho : ∀ z, ow z ≠ .no → W0.heap.size ≤ z) (hF : FX s stop n W g ow hb x) (A : Option Addr) (c : Nat) (l : List Int) (hlF : Kd.F (Kd.int .i64) W (fun q => ow q = .no) A l.length l) (hlr : ∀ k ∈ l, 0 ≤ k ∧ k < x.ds.length) (h0 : 0 ≤ f) (h1 : f + T.wd ≤ s.size) (hn : n + 1 + l.length + costB T ≤ 4000000000000) :
    Calls Try.prog 38 #[.pointer (some ⟨g, 0, none⟩), T.val, .int .i64 f, .slice A l.length c] W fun e W' => e = .returned (.tuple #[]) ∧ FP s stop (n + 1 + l.length + costB T) W W' g ow hb (zbM (kidsT s stop T f (countP s (openP x) l)).1) := by
  have HK := J h; have HSL := J hsl; have HN := J hn; have H0 := J (And.intro h0 h1); obtain ⟨X, hX⟩ : ∃ V, V = W.alloc (.cells #[.int .u8 T.k, .int .u8 T.w, .int .i64 T.wd, .slice T.A T.kids.length T.c] 24) := ⟨_, rfl⟩; have hbX : Below W.heap.size W X := by rw [hX]; exact zad (Below.refl _ _) _
  have kX : X.heap[W.heap.size]? = some (.cells #[.int .u8 T.k, .int .u8 T.w, .int .i64 T.wd, .slice T.A T.kids.length T.c] 24 (0, 0)) := by rw [hX]; exact heap_alloc_new _ _
  have hno : ow W.heap.size = .no := by
    cases e : ow W.heap.size with
    | no => rfl
    | _ => have := hF.lt W.heap.size qn; omega
  have HFX := J (hF.below hbX); have HLX := J (zbL hl hbX hl.size); have HO := J ho; have HNO := J hno; have HKX := J kX; have HBX := J hbX; have HLF := J (Kd.F_below hlF hbX); have HLR := J hlr; have hun := Try.underlying24; simp only [AT.val]; clear h hsl hn h0 h1 hl hF ho hno hbX kX hlF hlr
  go_enter_defers Try.func38, Try.ntmps38
  go_upto_region 1 with (fail)
  change Code.wp Try.prog _ _ _ (W.alloc (.cells #[.int .u8 T.k, .int .u8 T.w, .int .i64 T.wd, .slice T.A T.kids.length T.c] 24))
  rw [← hX]; clear hX; go_upto_region 3 with (go_at_call 50; refine (open_calls HFX.out (by have := HN.out; omega)).mono ?_; rintro e w2 ⟨rfl, q, ow2, hF2, hs2, hf2⟩; have HF2 := J hF2; have HS2 := J hs2; have HC2 := J hf2; clear hF2 hs2 hf2)
  have HLF2 := J (F_fch HLF.out HC2.out HS2.out); have HO2 := J (show ∀ z, ow2 z ≠ .no → W0.heap.size ≤ z from fun z hz => by
    rcases HS2.out z hz with h | h
    · exact HO.out z h
    · exact Nat.le_trans HLX.out.size h)
  go_upto_region 4 with (go_at_call 52; refine (fcount_calls HF2.out (by simp [openP]) l A c HLF2.out HLR.out (by have := HN.out; omega) HSL.out).mono ?_; rintro e w3 ⟨rfl, ow3, hF3, hs3, hf3⟩; have HF3 := J hF3; have HS3 := J hs3; have HC3 := J hf3; clear hF3 hs3 hf3)
  have HS23 := J (HS2.out.trans HS3.out HC2.out.size); have HC23 := J (HC2.out.trans HC3.out HS2.out); have HO3 := J (show ∀ z, ow3 z ≠ .no → W0.heap.size ≤ z from fun z hz => by
    rcases HS23.out z hz with h | h
    · exact HO.out z h
    · exact Nat.le_trans HLX.out.size h)
  have HL3 := J (HC23.out.low HLX.out HO.out); have hk3 := (HC23.out.block W.heap.size (zaN HKX.out) HNO.out).trans HKX.out; have p0 := zaf hk3 0; have p1 := zaf hk3 1; have p2 := zaf hk3 2; have p3 := zaf hk3 3; have l3 := zaN hk3; simp at p0 p1 p2 p3; have hcall := kidsC_none HK.out HL3.out HO3.out HF3.out H0.out.1 H0.out.2 HN.out; simp only [AT.val] at hcall; clear hk3; go_wp2_with (go_at_call 53; refine hcall.mono ?_; rintro e w4 ⟨rfl, ow4, hF4, hs4, hf4⟩; have HF4 := J hF4; have HS4 := J hs4; have HC4 := J hf4; clear hF4 hs4 hf4 hcall p0 p1 p2 p3 l3)
  refine leaves_cons (f := 51) (args := #[.pointer (some ⟨g, 0, none⟩)]) qf (by simp [go_sem]) ?_
  refine (close_callsD HF4.out HN.out HSL.out .returning).mono ?_
  rintro e u' w5 ⟨rfl, rfl, ow5, hF5, hs5, hf5⟩
  refine ⟨.tuple #[], by simp [results, show Try.f38.results = #[] from rfl, go_sem], rfl, ow5, hF5, ?_, ?_⟩
  · have h := (HS23.out.trans HS4.out HC23.out.size).trans hs5 (Nat.le_trans HC23.out.size HC4.out.size)
    exact fun z hz => (h z hz).imp id (fun h => Nat.le_trans HBX.out.size h)
  · have h := (HC23.out.trans HC4.out HS23.out).trans hf5 (HS23.out.trans HS4.out HC23.out.size)
    exact (Fch.of_below HBX.out).trans (ow' := ow) h Sub.refl
inductive Lw where
  | no | mine | gv | gr | pv | pr | ag
  deriving DecidableEq
def lown (lw : Nat → Lw) (b : Nat) (t : Lw) : Nat → Lw := fun q => if q = b then t else lw q
structure LO (W : World) (ow : Nat → Ow) (lw : Nat → Lw) (n : Nat) (pk : Int) (p : Option Nat) (bg bh : Nat) (vm : Value) (l0 : List Int) (x : LS) : Prop where
  dis : ∀ q, lw q ≠ .no → ow q = .no
  lt : ∀ q, lw q ≠ .no → q < W.heap.size
  mine : Kd.R (Kd.int .i64) 3 W 0 (fun q => lw q = .mine) vm x.mine
  bgl : lw bg = .gv
  gv : PV W bg (fun q => lw q = .gr) x.given
  pv : ∀ b, p = some b → lw b = .pv ∧ PV W b (fun q => lw q = .pr) (l0 ++ x.par)
  ag : pk = 55 → lw bh = .ag ∧ SM W bh n x.ag ∧ ∀ u, 0 ≤ x.ag u ∧ x.ag u ≤ n
structure Stp (ow : Nat → Ow) (lw : Nat → Lw) (W W' : World) : Prop where
  os : W'.os = W.os
  tape : W'.tape = W.tape
  output : W'.output = W.output
  size : W.heap.size ≤ W'.heap.size
  block : ∀ q, q < W.heap.size → ow q = .no → lw q = .no → W'.heap[q]? = W.heap[q]?
structure KI (W0 WS : World) (s : ByteArray) (stop : Int) (g : Nat) (q : Nat) (hb : List Nat) (owS : Nat → Ow) (pf : Nat → Bool) (pk : Int) (p : Option Nat) (bg bh kT : Nat) (nv : Array Value) (l0 : List Int) (n : Nat) (w : World) (ow : Nat → Ow) (lw : Nat → Lw) (vm : Value) (x : LS) : Prop where
  fi : FX s stop n w g ow (q :: hb) x.st
  lo : LO w ow lw n pk p bg bh vm l0 x
  ow0 : ∀ z, ow z ≠ .no → W0.heap.size ≤ z
  lw0 : ∀ z, lw z ≠ .no → W0.heap.size ≤ z
  sub : Sub owS WS ow
  low : Below W0.heap.size W0 w
  fr : Frx p pf owS WS w
  lsub : ∀ z, lw z ≠ .no → z < WS.heap.size → p = some z ∨ pf z = true
  lpr : ∀ z, lw z = .pr → z < WS.heap.size → pf z = true
  node : w.heap[kT]? = some (.cells nv 24 (0, 0))
  kno : ow kT = .no ∧ lw kT = .no
section
variable {W0 WS w w' : World} {s : ByteArray} {stop : Int} {g q : Nat} {hb : List Nat} {owS ow ow' : Nat → Ow} {lw lw' : Nat → Lw} {pf : Nat → Bool} {pk : Int} {p : Option Nat} {bg bh kT n m : Nat} {nv : Array Value} {l0 : List Int} {vm vm' : Value} {x y : LS}
theorem KI.step (h : KI W0 WS s stop g q hb owS pf pk p bg bh kT nv l0 n w ow lw vm x) (fi : FX s stop m w' g ow' (q :: hb) y.st) (lo : LO w' ow' lw' m pk p bg bh vm' l0 y) (hs : Sub ow w ow') (hl : ∀ z, lw' z ≠ .no → z < w.heap.size → lw z ≠ .no ∧ (lw' z = .pr → lw z = .pr)) (st : Stp ow lw w w') :
    KI W0 WS s stop g q hb owS pf pk p bg bh kT nv l0 m w' ow' lw' vm' y := by
  have hno : ∀ z, z < w.heap.size → ow z = .no → ow' z = .no := fun z hz h0 => by
    cases e : ow' z with
    | no => rfl
    | _ => rcases hs z qn with h1 | h1
           · exact absurd h0 h1
           · omega
  have hln : ∀ z, z < w.heap.size → lw z = .no → lw' z = .no := fun z hz h0 => by
    cases e : lw' z with
    | no => rfl
    | _ => exact absurd h0 (hl z qn hz).1
  refine ⟨fi, lo, fun z hz => ?_, fun z hz => ?_, h.sub.trans hs h.fr.size, ⟨st.os.trans h.low.os, st.tape.trans h.low.tape, st.output.trans h.low.output, Nat.le_trans h.low.size st.size, fun z hz => ?_⟩, ⟨st.os.trans h.fr.os, st.tape.trans h.fr.tape, st.output.trans h.fr.output, Nat.le_trans h.fr.size st.size, fun z hz h0 h1 h2 => ?_⟩, fun z hz hzs => ?_, fun z hz hzs => ?_, (st.block kT (zaN h.node) h.kno.1 h.kno.2).trans h.node, hno _ (zaN h.node) h.kno.1, hln _ (zaN h.node) h.kno.2⟩
  · rcases hs z hz with h1 | h1
    · exact h.ow0 z h1
    · exact Nat.le_trans h.low.size h1
  · by_cases hzs : z < w.heap.size
    · exact h.lw0 z (hl z hz hzs).1
    · have := h.low.size; omega
  · refine (st.block z (Nat.lt_of_lt_of_le hz h.low.size) ?_ ?_).trans (h.low.block z hz)
    · cases e : ow z with
      | no => rfl
      | _ => have := h.ow0 z qn; omega
    · cases e : lw z with
      | no => rfl
      | _ => have := h.lw0 z qn; omega
  · have hzw := Nat.lt_of_lt_of_le hz h.fr.size
    refine (st.block z hzw ?_ ?_).trans (h.fr.block z hz h0 h1 h2)
    · cases e : ow z with
      | no => rfl
      | _ => rcases h.sub z qn with h3 | h3
             · exact absurd h0 h3
             · omega
    · cases e : lw z with
      | no => rfl
      | _ => rcases h.lsub z qn hz with h3 | h3
             · exact absurd h3 h2
             · rw [h1] at h3; cases h3
  · exact h.lsub z (hl z hz (Nat.lt_of_lt_of_le hzs h.fr.size)).1 hzs
  · have := (hl z qv (Nat.lt_of_lt_of_le hzs h.fr.size)).2 hz
    exact h.lpr z this hzs
theorem PV.keep {b : Nat} {rf : Nat → Prop} {l : List Int} (h : PV w b rf l) (hk : ∀ z, (z = b ∨ rf z) → z < w.heap.size → w'.heap[z]? = w.heap[z]?) : PV w' b rf l := by
  obtain ⟨v, h1, h2⟩ := h; exact ⟨v, (hk b (.inl rfl) (zaN h1)).trans h1, Kd.zbC h2 (fun z hz hzl => hk z (.inr hz) hzl)⟩
theorem LO.fp {st : St} (h : LO w ow lw n pk p bg bh vm l0 x) (hs : Sub ow w ow') (hf : Fch ow w w') (hn : n ≤ m) : LO w' ow' lw m pk p bg bh vm l0 { x with st := st } := by
  have hk : ∀ z, lw z ≠ .no → w'.heap[z]? = w.heap[z]? := fun z hz => hf.block z (h.lt z hz) (h.dis z hz)
  refine ⟨fun z hz => ?_, fun z hz => Nat.lt_of_lt_of_le (h.lt z hz) hf.size, Kd.zbC h.mine (fun z hz _ => hk z qv), h.bgl, h.gv.keep (fun z hz _ => hk z ?_), fun b hb => ?_, fun h55 => ?_⟩
  · cases e : ow' z with
    | no => rfl
    | _ => rcases hs z qn with h1 | h1
           · exact absurd (h.dis z hz) h1
           · have := h.lt z hz; omega
  · rcases hz with rfl | hz
    · rw [h.bgl]; nofun
    · rw [hz]; nofun
  · obtain ⟨h1, h2⟩ := h.pv b hb
    refine ⟨h1, h2.keep (fun z hz _ => hk z ?_)⟩
    rcases hz with rfl | hz
    · rw [h1]; nofun
    · rw [hz]; nofun
  · obtain ⟨h1, h2, h3⟩ := h.ag h55
    exact ⟨h1, (h2.keep (hk bh qL)).mono hn, fun u => by have := h3 u; show 0 ≤ x.ag u ∧ x.ag u ≤ m; omega⟩
theorem KI.fp {st : St} (h : KI W0 WS s stop g q hb owS pf pk p bg bh kT nv l0 n w ow lw vm x) (hn : n ≤ m) (hp : FP s stop m w w' g ow (q :: hb) st) : ∃ ow', KI W0 WS s stop g q hb owS pf pk p bg bh kT nv l0 m w' ow' lw vm { x with st := st } := by
  obtain ⟨ow', h1, h2, h3⟩ := hp; exact ⟨ow', h.step h1 (h.lo.fp h2 h3 hn) h2 (fun z hz _ => ⟨hz, id⟩) ⟨h3.os, h3.tape, h3.output, h3.size, fun z hz h0 _ => h3.block z hz h0⟩⟩
theorem KI.up (h : KI W0 WS s stop g q hb owS pf pk p bg bh kT nv l0 n w ow lw vm x) (hn : n ≤ m) : KI W0 WS s stop g q hb owS pf pk p bg bh kT nv l0 m w ow lw vm x :=
  h.step (h.fi.up hn) (h.lo.fp Sub.refl Fch.refl hn) Sub.refl (fun z hz _ => ⟨hz, id⟩) ⟨rfl, rfl, rfl, Nat.le_refl _, fun _ _ _ _ => rfl⟩
theorem KI.below (h : KI W0 WS s stop g q hb owS pf pk p bg bh kT nv l0 n w ow lw vm x) (hb' : Below w.heap.size w w') : KI W0 WS s stop g q hb owS pf pk p bg bh kT nv l0 n w' ow lw vm x :=
  h.step (h.fi.below hb') (h.lo.fp Sub.refl (Fch.of_below hb') (Nat.le_refl _)) Sub.refl (fun z hz _ => ⟨hz, id⟩) ⟨hb'.os, hb'.tape, hb'.output, hb'.size, fun z hz _ _ => hb'.block z hz⟩
theorem irow_app {P : Nat → Prop} {cv nn : Nat} {Av : Option Addr} {L : List Int} {Y : World} (hR : Kd.R (Kd.int .i64) 3 w 0 P (.slice Av nn cv) L) (hl : L.length ≤ 4000000000000) (k : Int) (hY : Y = w.alloc (.cells #[.int .i64 k] 3)) :
    ∃ b cap w1, (Builtin.append_ #[106, 106] 106 #[.slice Av nn cv, .slice (some ⟨w.heap.size, 0, none⟩) 1 1]).run Try.prog Y = .ok (.slice (some ⟨b, 0, none⟩) (nn + 1) cap) w1 ∧ (P b ∨ w.heap.size ≤ b) ∧ b < w1.heap.size ∧ w.heap.size ≤ w1.heap.size ∧ (∀ q, q < w.heap.size → ¬ P q → w1.heap[q]? = w.heap[q]?) ∧ (w1.os = w.os ∧ w1.tape = w.tape ∧ w1.output = w.output) ∧
      Kd.R (Kd.int .i64) 3 w1 0 (fun q => q = b) (.slice (some ⟨b, 0, none⟩) (nn + 1) cap) (L ++ [k]) := by
  have hbY : Below w.heap.size w Y := by rw [hY]; exact zad (Below.refl _ _) _
  obtain ⟨b, cap, w1, hrun, hg, hgo, _, hnl, hR1⟩ := zbN (Kd.int .i64) 3 106 (Kd.zbl hR (ok' := fun q => P q ∨ w.heap.size ≤ q) (fun q hq => .inl hq)) (Nat.zero_le _) (fun q hq => .inr hq) Try.underlying106 infoInt rfl qe qe q9 hbY k [.int .i64 k] Q3 rfl rfl (by intro y hy; simp at hy; rw [hy]; rfl)
  refine ⟨b, cap, w1, hrun, hgo.imp (fun h => hR.1 b h) id, ?_, hg.size, fun q hq ho => hg.block q hq (fun e => ho (hR.1 q e.symm)), ⟨hg.os, hg.tape, hg.output⟩, Kd.R_reok rfl hR1 (fun q hq => ?_)⟩
  · exact (Kd.R_bound hR1).1 b qR |>.2.2.1
  · have : b = q := by simpa [Value.ownBlock] using hq
    exact this.symm
theorem KI.mine {Av : Option Addr} {nn cv : Nat} {Y : World} (h : KI W0 WS s stop g q hb owS pf pk p bg bh kT nv l0 n w ow lw (.slice Av nn cv) x) (hl : x.mine.length ≤ 4000000000000) (k : Int) (hY : Y = w.alloc (.cells #[.int .i64 k] 3)) :
    ∃ b cap w1, (Builtin.append_ #[106, 106] 106 #[.slice Av nn cv, .slice (some ⟨w.heap.size, 0, none⟩) 1 1]).run Try.prog Y = .ok (.slice (some ⟨b, 0, none⟩) (nn + 1) cap) w1 ∧ KI W0 WS s stop g q hb owS pf pk p bg bh kT nv l0 n w1 ow (lown lw b .mine) (.slice (some ⟨b, 0, none⟩) (nn + 1) cap) { x with mine := x.mine ++ [k] } := by
  obtain ⟨b, cap, w1, hrun, hbo, hbl, hsz, hst, ⟨o1, o2, o3⟩, hR⟩ := irow_app h.lo.mine hl k hY; have hold : ∀ {t : Lw} {z : Nat}, lw z = t → t ≠ .mine → t ≠ .no → lown lw b .mine z = t := fun {t z} hz h1 h2 => by
    unfold lown
    rw [if_neg, hz]; rintro rfl
    rcases hbo with e | e
    · exact h1 (hz.symm.trans e)
    · have := h.lo.lt z (by rw [hz]; exact h2); omega
  have hobn : ow b = .no := by
    rcases hbo with e | e
    · exact h.lo.dis b qn
    · cases e2 : ow b with
      | no => rfl
      | _ => have := h.fi.lt b (by rw [e2]; nofun); omega
  have hk : ∀ z, lw z ≠ .no → lw z ≠ .mine → w1.heap[z]? = w.heap[z]? := fun z h1 h2 => hst z (h.lo.lt z h1) h2
  have hlb : ∀ z, lown lw b .mine z ≠ .no → z = b ∨ lw z ≠ .no := fun z hz => by
    unfold lown at hz
    by_cases e : z = b
    · exact .inl e
    · rw [if_neg e] at hz; exact .inr hz
  refine ⟨b, cap, w1, hrun, h.step (y := { x with mine := x.mine ++ [k] }) (h.fi.keep hsz (fun z hz => hst z (h.fi.lt z hz) (fun e => by have := h.lo.dis z qn; exact hz this))) ⟨fun z hz => ?_, fun z hz => ?_, ?_, hold h.lo.bgl nofun nofun, ?_, fun c hc => ?_, fun h55 => ?_⟩ Sub.refl (fun z hz hzw => ?_) ⟨o1, o2, o3, hsz, fun z hz _ h1 => hst z hz qL⟩⟩
  · rcases hlb z hz with rfl | h1
    · exact hobn
    · exact h.lo.dis z h1
  · rcases hlb z hz with rfl | h1
    · exact hbl
    · exact Nat.lt_of_lt_of_le (h.lo.lt z h1) hsz
  · exact Kd.zbl hR (fun z hz => by rw [hz]; unfold lown; rw [if_pos rfl])
  · obtain ⟨v, h1, h2⟩ := h.lo.gv
    exact ⟨v, (hk bg (by rw [h.lo.bgl]; nofun) (by rw [h.lo.bgl]; nofun)).trans h1, Kd.zbl (Kd.zbC h2 (fun z hz _ => hk z qv qv)) (fun z hz => hold hz nofun nofun)⟩
  · obtain ⟨h0, v, h1, h2⟩ := h.lo.pv c hc
    exact ⟨hold h0 nofun nofun, v, (hk c (by rw [h0]; nofun) (by rw [h0]; nofun)).trans h1, Kd.zbl (Kd.zbC h2 (fun z hz _ => hk z qv qv)) (fun z hz => hold hz nofun nofun)⟩
  · obtain ⟨h1, h2, h3⟩ := h.lo.ag h55
    exact ⟨hold h1 nofun nofun, h2.keep (hk bh qL qL), h3⟩
  · rcases hlb z hz with rfl | h1
    · rcases hbo with e | e
      · refine ⟨qn, fun h2 => ?_⟩
        unfold lown at h2
        rw [if_pos rfl] at h2; cases h2
      · omega
    · refine ⟨h1, fun h2 => ?_⟩
      unfold lown at h2
      split at h2
      · cases h2
      · exact h2
theorem KI.decl {st : St} {hm : ByteArray → Int} (h : KI W0 WS s stop g q hb owS pf pk p bg bh kT nv l0 n w ow lw vm x) (hpk : pk = 55) (hS : SM w' bh m hm) (hm2 : ∀ u, 0 ≤ hm u ∧ hm u ≤ m) (hF : FX s stop m w' g ow' (q :: hb) st) (hs : Sub ow w ow') (hf : Fch (own ow bh .fin) w w') (par : List Int) (hpar : p = none ∨ par = x.par) :
    KI W0 WS s stop g q hb owS pf pk p bg bh kT nv l0 m w' ow' lw vm { x with st := st, ag := hm, par := par } := by
  obtain ⟨ha, _, _⟩ := h.lo.ag hpk; have hk : ∀ z, lw z ≠ .no → lw z ≠ .ag → w'.heap[z]? = w.heap[z]? := fun z h1 h2 => hf.block z (h.lo.lt z h1) (by unfold own; rw [if_neg (fun e => h2 (by rw [e]; exact ha))]; exact h.lo.dis z h1)
  refine h.step (y := { x with st := st, ag := hm, par := par }) hF ⟨fun z hz => ?_, fun z hz => Nat.lt_of_lt_of_le (h.lo.lt z hz) hf.size, Kd.zbC h.lo.mine (fun z hz _ => hk z qv qv), h.lo.bgl, h.lo.gv.keep (fun z hz _ => ?_), fun b hb => ?_, fun _ => ⟨ha, hS, hm2⟩⟩ hs (fun z hz _ => ⟨hz, id⟩) ⟨hf.os, hf.tape, hf.output, hf.size, fun z hz h0 h1 => hf.block z hz (by unfold own; rw [if_neg (fun e => by rw [e, ha] at h1; cases h1)]; exact h0)⟩
  · cases e : ow' z with
    | no => rfl
    | _ => rcases hs z qn with h1 | h1
           · exact absurd (h.lo.dis z hz) h1
           · have := h.lo.lt z hz; omega
  · rcases hz with rfl | hz
    · exact hk _ (by rw [h.lo.bgl]; nofun) (by rw [h.lo.bgl]; nofun)
    · exact hk _ qv qv
  · obtain ⟨h1, h2⟩ := h.lo.pv b hb
    rcases hpar with e | e
    · rw [e] at hb; cases hb
    · subst e
      refine ⟨h1, h2.keep (fun z hz _ => ?_)⟩
      rcases hz with rfl | hz
      · exact hk _ qL qL
      · exact hk _ qv qv
theorem KI.given_ {st : St} {l : List Int} (h : KI W0 WS s stop g q hb owS pf pk p bg bh kT nv l0 n w ow lw vm x) (hn : n ≤ m) (hp : KP s stop m w w' g ow (q :: hb) (some bg) (fun z => decide (lw z = .gr)) (x.given ++ l) st) :
    ∃ ow' lw', KI W0 WS s stop g q hb owS pf pk p bg bh kT nv l0 m w' ow' lw' vm { x with st := st, given := x.given ++ l } := by
  obtain ⟨ow', pf', hF, hs, hps, hpf, hfr⟩ := hp; obtain ⟨hb1, hb2, hb3⟩ := hps.2 bg rfl
  let lw' : Nat → Lw := fun z => if pf' z = true then .gr else if lw z = .gr then .no else lw z
  have hold : ∀ {t : Lw} {z : Nat}, lw z = t → t ≠ .gr → t ≠ .no → lw' z = t := fun {t z} hz h1 h2 => by
    show (if pf' z = true then Lw.gr else if lw z = .gr then .no else lw z) = t
    rw [if_neg, if_neg, hz]
    · rw [hz]; exact h1
    · intro e
      rcases hpf z e with e2 | e2
      · exact h1 (hz.symm.trans (of_decide_eq_true (show decide (lw z = .gr) = true from e2)))
      · have := h.lo.lt z (by rw [hz]; exact h2); omega
  have hcs : ∀ z, lw' z ≠ .no → pf' z = true ∨ (lw z ≠ .no ∧ lw' z = lw z) := fun z hz => by
    by_cases e : pf' z = true
    · exact .inl e
    · have h0 : lw' z = if lw z = .gr then .no else lw z := by show (if pf' z = true then Lw.gr else if lw z = .gr then .no else lw z) = _; rw [if_neg e]
      by_cases e2 : lw z = .gr
      · rw [h0, if_pos e2] at hz; exact absurd rfl hz
      · rw [if_neg e2] at h0; exact .inr ⟨by rw [← h0]; exact hz, h0⟩
  have hk : ∀ z, lw z ≠ .no → lw z ≠ .gr → z ≠ bg → w'.heap[z]? = w.heap[z]? := fun z h1 h2 h3 => hfr.block z (h.lo.lt z h1) (h.lo.dis z h1) (decide_eq_false h2) (fun e => h3 (Option.some.inj e).symm)
  have hbgn : ∀ {t : Lw} {z : Nat}, lw z = t → t ≠ .gv → z ≠ bg := fun {t z} hz h1 e => by rw [e, h.lo.bgl] at hz; exact h1 hz.symm
  refine ⟨ow', lw', h.step (y := { x with st := st, given := x.given ++ l }) hF ⟨fun z hz => ?_, fun z hz => ?_, ?_, hold h.lo.bgl nofun nofun, ?_, fun b hb => ?_, fun h55 => ?_⟩ hs (fun z hz hzw => ?_) ⟨hfr.os, hfr.tape, hfr.output, hfr.size, fun z hz h0 h1 => hfr.block z hz h0 (decide_eq_false qL) (fun e => by rw [← Option.some.inj e, h.lo.bgl] at h1; cases h1)⟩⟩
  · rcases hcs z hz with h1 | ⟨h1, _⟩
    · exact (hps.1 z h1).1
    · cases e : ow' z with
      | no => rfl
      | _ => rcases hs z qn with h2 | h2
             · exact absurd (h.lo.dis z h1) h2
             · have := h.lo.lt z h1; omega
  · rcases hcs z hz with h1 | ⟨h1, _⟩
    · exact (hps.1 z h1).2
    · exact Nat.lt_of_lt_of_le (h.lo.lt z h1) hfr.size
  · exact Kd.zbl (Kd.zbC h.lo.mine (fun z hz _ => hk z qv qv (hbgn hz nofun))) (fun z hz => hold hz nofun nofun)
  · obtain ⟨v, h1, h2⟩ := hb3
    refine ⟨v, h1, Kd.zbl h2 (fun z hz => ?_)⟩
    show (if pf' z = true then Lw.gr else if lw z = .gr then .no else lw z) = .gr
    rw [if_pos hz]
  · obtain ⟨h0, v, h1, h2⟩ := h.lo.pv b hb
    exact ⟨hold h0 nofun nofun, v, (hk b (by rw [h0]; nofun) (by rw [h0]; nofun) (hbgn h0 nofun)).trans h1, Kd.zbl (Kd.zbC h2 (fun z hz _ => hk z qv qv (hbgn hz nofun))) (fun z hz => hold hz nofun nofun)⟩
  · obtain ⟨h1, h2, h3⟩ := h.lo.ag h55
    exact ⟨hold h1 nofun nofun, (h2.keep (hk bh qL qL (hbgn h1 nofun))).mono hn, fun u => by have := h3 u; show 0 ≤ x.ag u ∧ x.ag u ≤ m; omega⟩
  · rcases hcs z hz with h1 | ⟨h1, h2⟩
    · rcases hpf z h1 with e | e
      · refine ⟨by rw [of_decide_eq_true e]; nofun, fun h2 => ?_⟩
        have : lw' z = .gr := by show (if pf' z = true then Lw.gr else if lw z = .gr then .no else lw z) = .gr; rw [if_pos h1]
        rw [this] at h2; cases h2
      · omega
    · exact ⟨h1, fun h3 => by rw [h2] at h3; exact h3⟩
theorem KI.par_ {b : Nat} {Y : World} (h : KI W0 WS s stop g q hb owS pf pk p bg bh kT nv l0 n w ow lw vm x) (hpb : p = some b) (hl : (l0 ++ x.par).length ≤ 4000000000000) (k : Int) (hY : Y = w.alloc (.cells #[.int .i64 k] 3)) :
    ∃ A nn c, w.heap[b]? = some (.cells #[.slice A nn c] 106 (0, 0)) ∧ ∃ z cap w1, (Builtin.append_ #[106, 106] 106 #[.slice A nn c, .slice (some ⟨w.heap.size, 0, none⟩) 1 1]).run Try.prog Y = .ok (.slice (some ⟨z, 0, none⟩) (nn + 1) cap) w1 ∧ w1.heap[b]? = some (.cells #[.slice A nn c] 106 (0, 0)) ∧
      ∃ lw', KI W0 WS s stop g q hb owS pf pk p bg bh kT nv l0 n (w1.setCell ⟨b, 0, none⟩ (.slice (some ⟨z, 0, none⟩) (nn + 1) cap)) ow lw' vm { x with par := x.par ++ [k] } := by
  obtain ⟨hlb, v, hv, hR⟩ := h.lo.pv b hpb; obtain ⟨A, c, e⟩ := Kd.za4 hR; obtain ⟨ln, hln⟩ : ∃ ln, ln = (l0 ++ x.par).length := ⟨_, rfl⟩; rw [← hln] at e hl; subst e; obtain ⟨z, cap, w1, hrun, hzo, hzl, hsz, hst, ⟨o1, o2, o3⟩, hR1⟩ := irow_app hR (by rw [← hln]; exact hl) k hY
  obtain ⟨Z, hZ⟩ : ∃ Z, Z = w1.setCell ⟨b, 0, none⟩ (.slice (some ⟨z, 0, none⟩) (ln + 1) cap) := ⟨_, rfl⟩; have hzs : Z.heap.size = w1.heap.size := by rw [hZ]; simp
  have hZo : ∀ y, y ≠ b → Z.heap[y]? = w1.heap[y]? := fun y hy => by rw [hZ]; exact Below.heap_setCell _ _ _ _ hy
  have hb1 : w1.heap[b]? = some (.cells #[.slice A ln c] 106 (0, 0)) := (hst b (zaN hv) (by rw [hlb]; nofun)).trans hv
  have hzb : z ≠ b := fun e => by
    rcases hzo with h1 | h1
    · rw [e, hlb] at h1; cases h1
    · have := zaN hv; omega
  have hold : ∀ {t : Lw} {y : Nat}, lw y = t → t ≠ .pr → t ≠ .no → lown lw z .pr y = t := fun {t y} hy h1 h2 => by
    unfold lown
    rw [if_neg, hy]; rintro rfl
    rcases hzo with e | e
    · exact h1 (hy.symm.trans e)
    · have := h.lo.lt y (by rw [hy]; exact h2); omega
  have hobn : ow z = .no := by
    rcases hzo with e | e
    · exact h.lo.dis z qn
    · cases e2 : ow z with
      | no => rfl
      | _ => have := h.fi.lt z (by rw [e2]; nofun); omega
  have hk : ∀ y, lw y ≠ .no → lw y ≠ .pr → y ≠ b → Z.heap[y]? = w.heap[y]? := fun y h1 h2 h3 => (hZo y h3).trans (hst y (h.lo.lt y h1) h2)
  have hbn : ∀ {t : Lw} {y : Nat}, lw y = t → t ≠ .pv → y ≠ b := fun {t y} hy h1 e => by rw [e, hlb] at hy; exact h1 hy.symm
  have hlbs : ∀ y, lown lw z .pr y ≠ .no → y = z ∨ lw y ≠ .no := fun y hy => by
    unfold lown at hy
    by_cases e : y = z
    · exact .inl e
    · rw [if_neg e] at hy; exact .inr hy
  refine ⟨A, _, c, hv, z, cap, w1, hrun, hb1, lown lw z .pr, ?_⟩
  rw [← hZ]; refine h.step (y := { x with par := x.par ++ [k] }) (h.fi.keep (by rw [hzs]; exact hsz) (fun y hy => ?_)) ⟨fun y hy => ?_, fun y hy => ?_, ?_, hold h.lo.bgl nofun nofun, ?_, fun c' hc => ?_, fun h55 => ?_⟩ Sub.refl (fun y hy hyw => ?_) ⟨?_, ?_, ?_, by rw [hzs]; exact hsz, fun y hy _ h1 => (hZo y (fun e => by rw [e, hlb] at h1; cases h1)).trans (hst y hy qL)⟩
  · have h1 : lw y = .no := by
      cases e : lw y with
      | no => rfl
      | _ => exact absurd (h.lo.dis y qn) hy
    exact (hZo y (fun e => by rw [e, hlb] at h1; cases h1)).trans (hst y (h.fi.lt y hy) qL)
  · rcases hlbs y hy with rfl | h1
    · exact hobn
    · exact h.lo.dis y h1
  · rw [hzs]
    rcases hlbs y hy with rfl | h1
    · exact hzl
    · exact Nat.lt_of_lt_of_le (h.lo.lt y h1) hsz
  · exact Kd.zbl (Kd.zbC h.lo.mine (fun y hy _ => hk y (by rw [hy]; nofun) (by rw [hy]; nofun) (hbn hy nofun))) (fun y hy => hold hy nofun nofun)
  · obtain ⟨v, h1, h2⟩ := h.lo.gv
    exact ⟨v, (hk bg (by rw [h.lo.bgl]; nofun) (by rw [h.lo.bgl]; nofun) (hbn h.lo.bgl nofun)).trans h1, Kd.zbl (Kd.zbC h2 (fun y hy _ => hk y (by rw [hy]; nofun) (by rw [hy]; nofun) (hbn hy nofun))) (fun y hy => hold hy nofun nofun)⟩
  · rw [hpb] at hc
    obtain rfl := Option.some.inj hc; refine ⟨hold hlb nofun nofun, _, by rw [hZ]; simpa using zbe hb1 0 (.slice (some ⟨z, 0, none⟩) (ln + 1) cap), ?_⟩
    rw [← List.append_assoc]; exact Kd.zbl (Kd.zbC hR1 (fun y hy _ => hZo y (by rw [hy]; exact hzb))) (fun y hy => by rw [hy]; unfold lown; rw [if_pos rfl])
  · obtain ⟨h1, h2, h3⟩ := h.lo.ag h55
    exact ⟨hold h1 nofun nofun, h2.keep (hk bh qL qL (hbn h1 nofun)), h3⟩
  · rcases hlbs y hy with rfl | h1
    · rcases hzo with e | e
      · exact ⟨qn, fun _ => e⟩
      · omega
    · refine ⟨h1, fun h2 => ?_⟩
      unfold lown at h2
      split at h2
      · rename_i e
        subst e; rcases hzo with e | e
        · exact e
        · omega
      · exact h2
  · rw [hZ]; simpa [World.setCell] using o1
  · rw [hZ]; simpa [World.setCell] using o2
  · rw [hZ]; simpa [World.setCell] using o3
def lwI (p : Option Nat) (pf : Nat → Bool) (bg : Nat) (ba : Option Nat) : Nat → Lw := fun z => if p = some z then .pv else if pf z = true then .pr else if z = bg then .gv else if ba = some z then .ag else .no
theorem KI.start {W : World} {st : St} {ba : Option Nat} (hlow : Below W0.heap.size W0 W) (ho : ∀ z, ow z ≠ .no → W0.heap.size ≤ z) (hp0 : ∀ z, p = some z → W0.heap.size ≤ z) (hpf0 : ∀ z, pf z = true → W0.heap.size ≤ z) (hF : FX s stop n W g ow (q :: hb) st) (hPS : PSx p W ow pf l0) (hb' : Below W.heap.size W w)
    (hbg : w.heap[bg]? = some (.cells #[.slice none 0 0] 106 (0, 0))) (hgl : W.heap.size ≤ bg) (hnd : w.heap[kT]? = some (.cells nv 24 (0, 0))) (hkl : W.heap.size ≤ kT) (hkg : kT ≠ bg) (hba : ∀ z, ba = some z → W.heap.size ≤ z ∧ z < w.heap.size ∧ z ≠ bg ∧ z ≠ kT) (h55 : pk = 55 → ba = some bh ∧ SM w bh n (fun _ => 0)) :
    KI W0 W s stop g q hb ow pf pk p bg bh kT nv l0 n w ow (lwI p pf bg ba) (.slice none 0 0) ⟨st, fun _ => 0, [], [], []⟩ := by
  have hpn : ∀ z, W.heap.size ≤ z → p ≠ some z ∧ pf z ≠ true := fun z hz => ⟨fun e => by
    obtain ⟨_, _, v, h1, _⟩ := hPS.2 z e; have := zaN h1; omega, fun e => by have := (hPS.1 z e).2; omega⟩
  have hon : ∀ z, W.heap.size ≤ z → ow z = .no := fun z hz => by
    cases e : ow z with
    | no => rfl
    | _ => have := hF.lt z qn; omega
  have hcs : ∀ z, lwI p pf bg ba z ≠ .no → p = some z ∨ pf z = true ∨ z = bg ∨ ba = some z := fun z hz => by
    unfold lwI at hz
    by_cases h1 : p = some z
    · exact .inl h1
    · by_cases h2 : pf z = true
      · exact .inr (.inl h2)
      · by_cases h3 : z = bg
        · exact .inr (.inr (.inl h3))
        · by_cases h4 : ba = some z
          · exact .inr (.inr (.inr h4))
          · rw [if_neg h1, if_neg h2, if_neg h3, if_neg h4] at hz; exact absurd rfl hz
  have hpv : ∀ z, p = some z → lwI p pf bg ba z = .pv := fun z hz => by unfold lwI; rw [if_pos hz]
  have hpr : ∀ z, pf z = true → lwI p pf bg ba z = .pr := fun z hz => by
    unfold lwI
    rw [if_neg, if_pos hz]; intro e
    rw [(hPS.2 z e).2.1] at hz; cases hz
  have hgv : lwI p pf bg ba bg = .gv := by
    unfold lwI
    rw [if_neg (hpn bg hgl).1, if_neg (hpn bg hgl).2, if_pos rfl]
  refine ⟨hF.below hb', ⟨fun z hz => ?_, fun z hz => ?_, Kd.R_nil _ _ _ _ _, hgv, ⟨_, hbg, Kd.R_nil _ _ _ _ _⟩, fun b hb => ?_, fun h => ?_⟩, ho, fun z hz => ?_, Sub.refl, zbL hlow hb' hlow.size, ⟨hb'.os, hb'.tape, hb'.output, hb'.size, fun z hz _ _ _ => hb'.block z hz⟩, fun z hz hzl => ?_, fun z hz hzl => ?_, hnd, hon kT hkl, ?_⟩
  · rcases hcs z hz with h | h | h | h
    · exact (hPS.2 z h).1
    · exact (hPS.1 z h).1
    · rw [h]; exact hon bg hgl
    · exact hon z (hba z h).1
  · rcases hcs z hz with h | h | h | h
    · obtain ⟨_, _, v, h1, _⟩ := hPS.2 z h
      exact Nat.lt_of_lt_of_le (zaN h1) hb'.size
    · exact Nat.lt_of_lt_of_le (hPS.1 z h).2 hb'.size
    · rw [h]; exact zaN hbg
    · exact (hba z h).2.1
  · obtain ⟨_, _, v, h1, h2⟩ := hPS.2 b hb
    refine ⟨hpv b hb, v, zaG h1 hb', ?_⟩
    rw [List.append_nil]; exact Kd.zbl (Kd.zbx h2 hb') (fun z hz => hpr z hz)
  · obtain ⟨h1, h2⟩ := h55 h
    obtain ⟨h3, _, h4, _⟩ := hba bh h1; refine ⟨?_, h2, fun u => qm⟩
    unfold lwI
    rw [if_neg (hpn bh h3).1, if_neg (hpn bh h3).2, if_neg h4, if_pos h1]
  · rcases hcs z hz with h | h | h | h
    · exact hp0 z h
    · exact hpf0 z h
    · rw [h]; exact Nat.le_trans hlow.size hgl
    · exact Nat.le_trans hlow.size (hba z h).1
  · rcases hcs z hz with h | h | h | h
    · exact .inl h
    · exact .inr h
    · omega
    · have := (hba z h).1; omega
  · rcases hcs z qv with h | h | h | h
    · rw [hpv z h] at hz; cases hz
    · exact h
    · omega
    · have := (hba z h).1; omega
  · cases e : lwI p pf bg ba kT with
    | no => rfl
    | _ => rcases hcs kT qn with h | h | h | h
           · exact absurd h (hpn kT hkl).1
           · exact absurd h (hpn kT hkl).2
           · exact absurd h hkg
           · exact absurd rfl (hba kT h).2.2.2
theorem KI.done {W : World} {st : St} (h : KI W0 W s stop g q hb owS pf pk p bg bh kT nv l0 n w ow lw vm x) (hn : n ≤ m) (hp : FP s stop m w w' g ow (q :: hb) st) : KP s stop m W w' g owS (q :: hb) p pf (l0 ++ x.par) st := by
  obtain ⟨ow', h1, h2, h3⟩ := hp; have k := h.step (y := { x with st := st }) h1 (h.lo.fp h2 h3 hn) h2 (fun z hz _ => ⟨hz, id⟩) ⟨h3.os, h3.tape, h3.output, h3.size, fun z hz h0 _ => h3.block z hz h0⟩
  refine ⟨ow', fun z => decide (lw z = .pr), k.fi, k.sub, ⟨fun z hz => ?_, fun b hb => ?_⟩, fun z hz => ?_, k.fr⟩
  · have := of_decide_eq_true hz
    exact ⟨k.lo.dis z (by rw [this]; nofun), k.lo.lt z (by rw [this]; nofun)⟩
  · obtain ⟨h4, v, h5, h6⟩ := k.lo.pv b hb
    exact ⟨k.lo.dis b (by rw [h4]; nofun), decide_eq_false (by rw [h4]; nofun), v, h5, Kd.zbl h6 (fun z hz => decide_eq_true hz)⟩
  · have := of_decide_eq_true hz
    by_cases hzl : z < W.heap.size
    · exact .inl (k.lpr z this hzl)
    · exact .inr q9
theorem infoBp : (Try.prog.info? 95).map (fun i => (i.zero, i.size, i.bytes)) = some (some (.agg #[.int .i64 0, .int .i64 0, .int .i64 0]), 3, 24) := by kernel_rfl
theorem FX.bind {st : St} {Y : World} (h : FX s stop n w g ow (q :: hb) st) (hn : n ≤ 4000000000000) (u : Bp) (hY : Y = w.alloc (.cells #[.int .i64 u.f0.f0, .int .i64 u.f0.f1, .int .i64 u.f1] 95)) :
    ∃ A nn c vd bm vl vs, w.heap[g]? = some (.cells #[.string s, vd, .slice A nn c, .map (some bm), vl, .int .i64 stop, vs] 82 (0, 0)) ∧ ∃ z cap w1, (Builtin.append_ #[45, 45] 45 #[.slice A nn c, .slice (some ⟨w.heap.size, 0, none⟩) 1 1]).run Try.prog Y = .ok (.slice (some ⟨z, 0, none⟩) (nn + 1) cap) w1 ∧
      (∀ y, y < w.heap.size → (ow y = .no ∨ y = g) → w1.heap[y]? = w.heap[y]?) ∧ FP s stop (n + 1) w (w1.setCell ⟨g, 2, none⟩ (.slice (some ⟨z, 0, none⟩) (nn + 1) cap)) g ow (q :: hb) { st with bs := st.bs ++ [u] } := by
  obtain ⟨hok, bm, D, vd, vb, vl, vs, ml, hM, hhb⟩ := h; obtain ⟨A, c, e⟩ := Kd.za4 hM.rb; obtain ⟨nn, hnn⟩ : ∃ nn, nn = st.bs.length := ⟨_, rfl⟩; rw [← hnn] at e; subst e; obtain ⟨z, cap, w5, hrun, hzo, hzl, hsz5, hst5, hfc5, hR5⟩ := row_app (t := .bs) k95 95 45 rfl hM.lt nofun hM.rb Try.underlying45 infoBp rfl qe qe (by have := hok.bl; omega)
    u [.int .i64 u.f0.f0, .int .i64 u.f0.f1, .int .i64 u.f1] hY (k95_mkM _ _ _ _) rfl Qr
  have hk5 : w5.heap[g]? = w.heap[g]? := hst5 g (zaN hM.blk) (by rw [hM.og]; nofun)
  have hc5 := hk5.trans hM.blk; obtain ⟨Z, hZ⟩ : ∃ Z, Z = w5.setCell ⟨g, 2, none⟩ (.slice (some ⟨z, 0, none⟩) (nn + 1) cap) := ⟨_, rfl⟩; have hzs : Z.heap.size = w5.heap.size := by rw [hZ]; simp
  have hzq : ∀ y, y ≠ g → Z.heap[y]? = w5.heap[y]? := fun y hy => by rw [hZ]; exact Below.heap_setCell _ _ _ _ hy
  have hzc : Z.heap[g]? = some (.cells #[.string s, vd, .slice (some ⟨z, 0, none⟩) (nn + 1) cap, .map (some bm), vl, .int .i64 stop, vs] 82 (0, 0)) := by rw [hZ]; simpa using zbe hc5 2 (.slice (some ⟨z, 0, none⟩) (nn + 1) cap)
  have k1 : Mv ow z .bs g w Z := ⟨hzo, by rw [hzs]; exact hzl, by rw [hzs]; exact hsz5, fun y hy h1 h2 => (hzq y h1).trans (hst5 y hy h2)⟩
  have hMZ := hM.setBs k1 hzc (Kd.zbC hR5 (fun y hy _ => hzq y (fun e => by rw [e, k1.old hM.lt hM.og nofun nofun] at hy; cases hy)))
  refine ⟨A, nn, c, vd, bm, vl, vs, hM.blk, z, cap, w5, hrun, fun y hy h1 => hst5 y hy (fun e => ?_), ?_⟩
  · rcases h1 with h1 | h1
    · rw [e] at h1; cases h1
    · rw [h1, hM.og] at e; cases e
  · rw [← hZ]
    exact ⟨own ow z .bs, ⟨hok.bind u, bm, D, vd, _, vl, vs, ml, hMZ.up (Nat.le_succ n), hhb⟩, Sub.own hzo nofun, by rw [hZ]; simpa [World.setCell] using hfc5.os, by rw [hZ]; simpa [World.setCell] using hfc5.tape, by rw [hZ]; simpa [World.setCell] using hfc5.output, by rw [hzs]; exact hsz5, fun y hy h0 => k1.st y hy (fun e => by rw [e, hM.og] at h0; cases h0) (by rw [h0]; nofun)⟩
end
theorem fch_blk {W W' : World} {ow : Nat → Ow} {b : Nat} {o : Obj} (h : Fch ow W W') (hb : W.heap[b]? = some o) (ho : ow b = .no) : W'.heap[b]? = some o := (h.block b (by
  by_cases e : b < W.heap.size
  · exact e
  · rw [Array.getElem?_eq_none q9] at hb; cases hb) ho).trans hb
theorem ow_no {s : ByteArray} {stop : Int} {n g : Nat} {w : World} {ow : Nat → Ow} {hb : List Nat} {x : St} {b : Nat} (h : FX s stop n w g ow hb x) (hb' : w.heap.size ≤ b) : ow b = .no := by
  cases e : ow b with
  | no => rfl
  | _ => have := h.lt b qn; omega
theorem FX.cell {s : ByteArray} {stop : Int} {n g : Nat} {w : World} {ow : Nat → Ow} {hb : List Nat} {x : St} (h : FX s stop n w g ow hb x) : w.cell? ⟨g, 0, none⟩ = some (.string s) ∧ g < w.heap.size := by
  obtain ⟨_, bm, D, vd, vb, vl, vs, ml, hM, _⟩ := h; have := zaf hM.blk 0; simp at this; exact ⟨this, zaN hM.blk⟩
theorem FX.means {s : ByteArray} {stop : Int} {n g : Nat} {w : World} {ow : Nat → Ow} {hb : List Nat} {x : St} (h : FX s stop n w g ow hb x) (u : ByteArray) (hu : u.size ≤ maxLen) :
    Calls Try.prog 67 #[.pointer (some ⟨g, 0, none⟩), .string u] w fun e w' => e = .returned (.int .i64 (zbB x.kn u)) ∧ w = w' := by
  obtain ⟨_, bm, D, vd, vb, vl, vs, ml, hM, _⟩ := h; exact means_calls hM u hu
theorem FX.top {s : ByteArray} {stop : Int} {n g q : Nat} {w : World} {ow : Nat → Ow} {hb : List Nat} {x : St} (h : FX s stop n w g ow (q :: hb) x) : ∃ lb rl cl, rl ≤ n ∧ rl + 1 ≤ cl ∧ ∀ w' : World, Below w.heap.size w w' → w'.cell? ⟨g, 4, none⟩ = some (.slice (some ⟨lb, 0, none⟩) (rl + 1) cl) ∧ w'.cell? ⟨lb, rl * 2 + 1, none⟩ = some (.map (some q)) ∧ g < w'.heap.size ∧ lb < w'.heap.size := by
  obtain ⟨hok, bm, D, vd, vb, vl, vs, ml, hM, hhb⟩ := h; cases ml with
  | nil => cases hhb
  | cons m r =>
    obtain ⟨v, q'⟩ := m; simp only [List.map_cons, List.cons.injEq] at hhb; obtain ⟨rfl, rfl⟩ := hhb; obtain ⟨lb, cl, hvl, _, hcl, ⟨_, hc1⟩, _, hlb, _, _⟩ := hM.top; have hll := LysOk.len _ _ hM.lys; refine ⟨lb, r.length, cl, by have := hok.ll; simp only [List.length_cons] at hll; omega, hcl, fun w' hb' => ?_⟩
    have h4 := zaf (zaG hM.blk hb') 4; simp at h4; rw [hvl] at h4; exact ⟨h4, pw_cell_below hb' hc1, Nat.lt_of_lt_of_le (zaN hM.blk) hb'.size, Nat.lt_of_lt_of_le hlb hb'.size⟩
theorem KI.fpF {W0 WS w w' : World} {s : ByteArray} {stop : Int} {g q : Nat} {hb : List Nat} {owS ow : Nat → Ow} {lw : Nat → Lw} {pf : Nat → Bool} {pk : Int} {p : Option Nat} {bg bh kT n m : Nat} {nv : Array Value} {l0 : List Int} {vm : Value} {x : LS} {st : St} (h : KI W0 WS s stop g q hb owS pf pk p bg bh kT nv l0 n w ow lw vm x) (hn : n ≤ m) (hp : FP s stop m w w' g ow (q :: hb) st) :
    ∃ ow', KI W0 WS s stop g q hb owS pf pk p bg bh kT nv l0 m w' ow' lw vm { x with st := st } ∧ Fch ow w w' ∧ ∀ b, b < w.heap.size → ow b = .no → ow' b = .no := by
  obtain ⟨ow', h1, h2, h3⟩ := hp; refine ⟨ow', h.step h1 (h.lo.fp h2 h3 hn) h2 (fun z hz _ => ⟨hz, id⟩) ⟨h3.os, h3.tape, h3.output, h3.size, fun z hz h0 _ => h3.block z hz h0⟩, h3, fun b hb h0 => ?_⟩
  cases e : ow' b with
  | no => rfl
  | _ => rcases h2 b qn with h4 | h4
         · exact absurd h0 h4
         · omega
theorem F_int1 {w : World} {ok : Nat → Prop} (h : ok w.heap.size) (k : Int) : Kd.F (Kd.int .i64) (w.alloc (.cells #[.int .i64 k] 3)) ok (some ⟨w.heap.size, 0, none⟩) [k].length [k] := by
  have hR : Kd.R (Kd.int .i64) 3 (w.alloc (.cells #[.int .i64 k] 3)) 0 (fun z => z = w.heap.size) (.slice (some ⟨w.heap.size, 0, none⟩) 1 1) [k] := by
    refine ⟨fun z hz => ?_, [.int .i64 k], ?_, ⟨rfl, fun j p hj => ?_⟩⟩
    · have : w.heap.size = z := by simpa [Value.ownBlock] using hz
      exact this.symm
    · exact ⟨rfl, .inr ⟨w.heap.size, 1, #[.int .i64 k], rfl, Nat.zero_le _, heap_alloc_new _ _, Nat.le_refl _, qe, rfl, rfl⟩⟩
    · cases j with
      | zero =>
        simp at hj; subst hj
        rfl
      | succ j => simp at hj
  exact Kd.F_mono (Kd.R_F hR) (fun z hz => by rw [hz]; exact h)
theorem kids_step {W0 : World} {s : ByteArray} {stop : Int} {g : Nat} (hsl : s.size ≤ 1099511627776) (z : Nat) (ih : ∀ T : AT, SizeOf.sizeOf T < z → AtT W0 T → goodT T.erase → nT T ≤ 1000000 → KidsC W0 s stop g T) : ∀ T : AT, SizeOf.sizeOf T < z + 1 → AtT W0 T → goodT T.erase → nT T ≤ 1000000 → KidsC W0 s stop g T := by
  rintro ⟨k, w1, wd, A, c, kids⟩ hz hT hgd hnT f n W ow q hb x p pf l hlow ho hp0 hpf0 hF hPS hll h0 h1 hn
  simp only [AT.val, AT.k, AT.w, AT.wd, AT.A, AT.c, AT.kids] at h1 ⊢; simp only [costB, AT.kids] at hn ⊢; simp only [nT] at hnT; obtain ⟨hwd, _, hpre, hkg⟩ := good_node hgd; have IH := J ih; have HZ := J hz; have HT := J hT; have HNT := J hnT; have HN := J hn; have HSL := J hsl; have HPRE := J hpre; have HKG := J hkg; have HFW := J (And.intro h0 h1); obtain ⟨pp, hpp⟩ : ∃ pp, pp = p.map (fun b => (⟨b, 0, none⟩ : Addr)) := ⟨_, rfl⟩
  rw [← hpp]; have HPP := J hpp; obtain ⟨X0, hX0⟩ : ∃ V, V = W.alloc (.cells #[.int .u8 k, .int .u8 w1, .int .i64 wd, .slice A kids.length c] 24) := ⟨_, rfl⟩; obtain ⟨X1, hX1⟩ : ∃ V, V = X0.alloc (.cells #[.slice none 0 0] 106) := ⟨_, rfl⟩; have b0 : Below W.heap.size W X0 := by rw [hX0]; exact zad (Below.refl _ _) _
  have b1 : Below X0.heap.size X0 X1 := by rw [hX1]; exact zad (Below.refl _ _) _
  have s0 : X0.heap.size = W.heap.size + 1 := by rw [hX0]; simp
  have s1 : X1.heap.size = W.heap.size + 2 := by rw [hX1]; simp [s0]
  have k0 : X0.heap[W.heap.size]? = some (.cells #[.int .u8 k, .int .u8 w1, .int .i64 wd, .slice A kids.length c] 24 (0, 0)) := by rw [hX0]; exact heap_alloc_new _ _
  have k1 : X1.heap[W.heap.size + 1]? = some (.cells #[.slice none 0 0] 106 (0, 0)) := by rw [hX1, ← s0]; exact heap_alloc_new _ _
  have HB1 := J (zak b0 b1); have HK0 := J (zaG k0 b1); have HK1 := J k1; have HS1 := J s1; have HLOW := J hlow; have HO := J ho; have HP0 := J hp0; have HPF := J hpf0; have HF := J hF; have HPS := J hPS; have HLL := J hll; obtain ⟨lb, rl, cl, hrl, hcl, htop⟩ := hF.top; have HTOP := J htop; have hrl2 : rl ≤ 4000000000000 := by omega
  have hun := Try.underlying24; have hup := Try.underlying60; have hus := Try.underlying82; have hul := Try.underlying123; have hunm := Try.underlying47; have hmm := @run_makeMap Try.prog; clear ih hz hT hgd hnT hn hsl hpre hkg hwd h0 h1 hpp hlow ho hp0 hpf0 hF hPS hll b0 b1 s0 s1 k0 k1 htop hrl; go_enter Try.func53, Try.ntmps53
  go_upto_region 3 with (fail)
  change Code.wp Try.prog _ _ _ ((W.alloc (.cells #[.int .u8 k, .int .u8 w1, .int .i64 wd, .slice A kids.length c] 24)).alloc (.cells #[.slice none 0 0] 106))
  rw [← hX0, ← hX1]; clear hX0 hX1; obtain ⟨kT, hkT⟩ : ∃ kT, kT = W.heap.size := ⟨_, rfl⟩; obtain ⟨bg, hbg⟩ : ∃ bg, bg = W.heap.size + 1 := ⟨_, rfl⟩; rw [← hkT] at HK0; rw [← hbg] at HK1; rw [show (⟨W.heap.size, 0, none⟩ : Addr) = ⟨kT, 0, none⟩ by rw [hkT], show (⟨W.heap.size + 1, 0, none⟩ : Addr) = ⟨bg, 0, none⟩ by rw [hbg]]
  have HKB := J (show W.heap.size ≤ kT ∧ W.heap.size ≤ bg ∧ kT ≠ bg by omega)
  obtain ⟨t4, t5, t6, t7⟩ := HTOP.out X1 HB1.out; clear hkT hbg
  go_quiet (fail)
  obtain ⟨X2, hX2⟩ : ∃ X, X = X1.drewN nq := ⟨_, rfl⟩; have bq : Below X1.heap.size X1 X2 := by rw [hX2]; exact ⟨rfl, rfl, rfl, Nat.le_refl _, fun _ _ => rfl⟩
  rw [← hX2]; have HB2 := J (zak HB1.out bq); have HK02 := J (zaG HK0.out bq); have HK12 := J (zaG HK1.out bq); have HS2 := J (show X2.heap.size = W.heap.size + 2 by rw [hX2]; exact HS1.out)
  clear hX2 bq t4 t5 t6 t7 hrl2 hcl HTOP; have HB2L := J (show ∀ z, (none : Option Nat) = some z → W.heap.size ≤ z ∧ z < X2.heap.size ∧ z ≠ bg ∧ z ≠ kT from nofun)
  have p0 := zaf HK02.out 0; have p3 := zaf HK02.out 3; have l0 := zaN HK02.out; simp at p0 p3; by_cases k55 : k = 55
  · subst k55
    go_upto_region 6 with (fail)
    obtain ⟨X3, hX3⟩ : ∃ X, X = X2.alloc (.map #[] 0) := ⟨_, rfl⟩; have b3 : Below X2.heap.size X2 X3 := by rw [hX3]; exact zad (Below.refl _ _) _
    obtain ⟨bh, hbh⟩ : ∃ bh, bh = X2.heap.size := ⟨_, rfl⟩; have hSM : SM X3 bh 0 (fun _ => 0) := by rw [hX3, hbh]; exact SM.start X2
    have s3 : X3.heap.size = X2.heap.size + 1 := by rw [hX3]; simp
    have HBA := J (show ∀ z, some bh = some z → W.heap.size ≤ z ∧ z < X3.heap.size ∧ z ≠ bg ∧ z ≠ kT from fun z e => by
      have := Option.some.inj e; have h1 := zaN HK02.out; have h2 := zaN HK12.out; have h3 := HB2.out.size; omega)
    have HKI0 := J (KI.start (nv := #[.int .u8 55, .int .u8 w1, .int .i64 wd, .slice A kids.length c]) (pk := 55) (bh := bh) (ba := some bh) HLOW.out HO.out HP0.out HPF.out HF.out HPS.out (zak HB2.out b3) (zaG HK12.out b3) HKB.out.2.1 (zaG HK02.out b3) HKB.out.1 HKB.out.2.2 HBA.out (fun _ => ⟨rfl, hSM.mono (Nat.zero_le n)⟩))
    change Code.wp Try.prog _ _ _ (X2.alloc (.map #[] 0))
    rw [← hX3, ← hbh]; clear p0 p3 l0; have hk3 := zaG HK02.out b3; have p0 := zaf hk3 0; have p3 := zaf hk3 3; have l0 := zaN hk3; simp at p0 p3; clear hX3 b3 hbh hSM s3 HBA hk3 hmm; go_wp2
    clear p0 p3 l0; go_loopg [2, 8, 36] kids.length (fun kq v2 v8 v36 w' => ∃ (i : Nat) (vm : Value), vm = v8 ∧ v2 = .int .i64 (f + wdL (kids.take i)) ∧ v36 = .int .i64 i ∧ i ≤ kids.length ∧ zaa (kq = kids.length - i) ∧ ∃ ow' lw', zaa (KI W0 W s stop g q hb ow pf 55 p bg bh kT #[.int .u8 55, .int .u8 w1, .int .i64 wd, .slice A kids.length c] l (n + 2000006 * nL (kids.take i)) w' ow' lw' v8 (loopL s stop 55 (kids.take i) f ⟨x, fun _ => 0, [], [], []⟩)))
    case atStart => exact ⟨0, _, rfl, by simp [wdL], rfl, Nat.zero_le _, ⟨rfl⟩, _, _, ⟨by simpa [nL, loopL] using HKI0.out⟩⟩
    case round =>
      obtain ⟨i, vm, rfl, rfl, rfl, hi, HKQ, ow', lw', HKI⟩ := hrel; obtain ⟨xi, hxi⟩ : ∃ xi, xi = loopL s stop 55 (kids.take i) f ⟨x, fun _ => 0, [], [], []⟩ := ⟨_, rfl⟩
      rw [← hxi] at HKI; have HGL := J (show GroL (nL (kids.take i)) ⟨x, fun _ => 0, [], [], []⟩ xi by rw [hxi]; exact loopL_gro s stop _ _ _ _ HF.out.ne)
      have HXI := J hxi; clear hxi; have hkn := HKI.out.node; have p0 := zaf hkn 0; have l0 := zaN hkn; simp at p0; clear hkn; by_cases hlt : i < kids.length
      · obtain ⟨adk, rfl, hw0, hTk⟩ := AtT.kid HT.out i hlt
        obtain ⟨T, hTe⟩ : ∃ T, T = kids[i] := ⟨_, rfl⟩; rw [← hTe] at hw0 hTk; have hie : kids[i]? = some T := by rw [hTe]; exact List.getElem?_eq_getElem hlt
        have HTG := J (HKG.out T (List.mem_of_getElem? hie)); have HSZ := J (show SizeOf.sizeOf T < z by have := List.sizeOf_lt_of_mem (List.mem_of_getElem? hie); have := HZ.out; simp at this; omega)
        have hs1 := nL_take kids i T hie; have hs2 := nL_mono kids (i + 1); have hwt := wdL_take kids i T hie; have hpr0 := HPRE.out i; have hpr1 := HPRE.out (i + 1); have htw := HTG.out.w; have hf2 : T.erase.f2 = T.wd := by cases T; rfl
        rw [hf2] at htw; have hfw := HFW.out; have hnt := HNT.out; have hnn := HN.out; have hssl := HSL.out; have HKC := J (IH.out T HSZ.out hTk HTG.out q9)
        obtain ⟨q0, q1, q2, q3⟩ := hw0.below HKI.out.low; obtain ⟨a, ha⟩ : ∃ a, a = f + wdL (kids.take i) := ⟨_, rfl⟩; have HNX := J (show loopL s stop 55 (kids.take (i + 1)) f ⟨x, fun _ => 0, [], [], []⟩ = stepW s stop 55 T.k a (a + T.wd) xi (fun y => kidsT s stop T a y) by rw [HXI.out, ha]; exact loopL_take s stop 55 kids i T f _ hie)
        have HWN := J (show f + wdL (kids.take (i + 1)) = a + T.wd by rw [hwt, ha, Int.add_assoc])
        have HNN := J (show nL (kids.take (i + 1)) = nL (kids.take i) + nT T from hs1)
        have HBD := J (show 0 ≤ a ∧ a ≤ a + T.wd ∧ a + T.wd ≤ s.size by omega)
        have hkl := nL_len kids; have hkll : kids.length ≤ 1000000 := by omega
        have HCO := J (show costB T + 1000003 = 2000006 * nT T by obtain ⟨_, _, _, _, _, kk⟩ := T; simp only [costB, nT, AT.kids]; omega)
        have HNI := J (show n + 2000006 * nL (kids.take i) + 2000006 * nT T ≤ 3999999000000 ∧ nL (kids.take i) + nT T ≤ 1000000 by
          have e : 2000006 * nL (kids.take i) + 2000006 * nT T ≤ 2000006 * nL kids := by rw [← Nat.mul_add, ← hs1]; exact Nat.mul_le_mul_left _ hs2
          omega)
        have HT1 := J (show 1 ≤ nT T by obtain ⟨_, _, _, _, _, kk⟩ := T; simp only [nT]; omega)
        rw [← ha]; have hwp : IntKind.i64.wrap (a + T.wd) = a + T.wd := IntWalk.i64_in _ ⟨q9, q9⟩
        obtain ⟨tk, htk⟩ : ∃ tk, tk = T.k := ⟨_, rfl⟩; obtain ⟨tw, htw'⟩ : ∃ tw, tw = T.w := ⟨_, rfl⟩; obtain ⟨twd, htwd⟩ : ∃ twd, twd = T.wd := ⟨_, rfl⟩; have HTV := J (show T.val = .agg #[.int .u8 tk, .int .u8 tw, .int .i64 twd, .slice T.A T.kids.length T.c] by rw [htk, htw', htwd]; rfl)
        rw [← htk] at q0 HNX; rw [← htw'] at q1; rw [← htwd] at q2 HNX HWN HBD hwp; have HTD := J htwd; clear hie hTe hw0 hTk hs1 hs2 hwt hpr0 hpr1 htw hf2 hfw hnt hnn hssl ha hkl htk htw' htwd; go_upto_region 12 with (fail)
        obtain ⟨Y1, hY1⟩ : ∃ X, X = wr.alloc (.cells #[.int .u8 tk, .int .u8 tw, .int .i64 twd, .slice T.A T.kids.length T.c] 24) := ⟨_, rfl⟩; obtain ⟨Y, hY⟩ : ∃ X, X = Y1.alloc (.cells #[.int .i64 a, .int .i64 (a + twd)] 60) := ⟨_, rfl⟩; have y1 : Below wr.heap.size wr Y1 := by rw [hY1]; exact zad (Below.refl _ _) _
        have y2 : Below Y1.heap.size Y1 Y := by rw [hY]; exact zad (Below.refl _ _) _
        have ys : Y1.heap.size = wr.heap.size + 1 := by rw [hY1]; simp
        have ka1 : Y1.heap[wr.heap.size]? = some (.cells #[.int .u8 tk, .int .u8 tw, .int .i64 twd, .slice T.A T.kids.length T.c] 24 (0, 0)) := by rw [hY1]; exact heap_alloc_new _ _
        have kp1 : Y.heap[wr.heap.size + 1]? = some (.cells #[.int .i64 a, .int .i64 (a + twd)] 60 (0, 0)) := by rw [hY, ← ys]; exact heap_alloc_new _ _
        change Code.wp Try.prog _ _ _ ((wr.alloc (.cells #[.int .u8 tk, .int .u8 tw, .int .i64 twd, .slice T.A T.kids.length T.c] 24)).alloc (.cells #[.int .i64 a, .int .i64 (a + twd)] 60))
        rw [← hY1, ← hY]; have HYB := J (zak y1 y2); obtain ⟨ka, hka⟩ : ∃ ka, ka = wr.heap.size := ⟨_, rfl⟩; obtain ⟨kp, hkp⟩ : ∃ kp, kp = wr.heap.size + 1 := ⟨_, rfl⟩; rw [← hka] at ka1; rw [← hkp] at kp1; have HKA := J (zaG ka1 y2); have HKP := J kp1; rw [show (⟨wr.heap.size, 0, none⟩ : Addr) = ⟨ka, 0, none⟩ by rw [hka], show (⟨wr.heap.size + 1, 0, none⟩ : Addr) = ⟨kp, 0, none⟩ by rw [hkp]]
        have HONA := J (show ow' ka = .no from ow_no HKI.out.fi q9)
        have HONP := J (show ow' kp = .no from ow_no HKI.out.fi q9)
        have HKY := J (HKI.out.below HYB.out); obtain ⟨b, hb_⟩ : ∃ b, b = a + twd := ⟨_, rfl⟩; rw [← hb_] at HNX HWN HBD HKP; rw [← hb_]; have HBE := J hb_; clear hY1 hY y1 y2 ys ka1 kp1 hka hkp p0 l0 q0 q1 q2 q3 hwp hb_; have hkn := HKY.out.node; have p0 := zaf hkn 0; have l0 := zaN hkn; have q0 := zaf HKA.out 0; have q1 := zaf HKA.out 1; have q2 := zaf HKA.out 2; have q3 := zaf HKA.out 3; have q4 := zaN HKA.out; have r0 := zaf HKP.out 0; have r1 := zaf HKP.out 1; have r2 := zaN HKP.out; simp at p0 q0 q1 q2 q3 r0 r1; clear hkn; have HML := J (show xi.mine.length ≤ 1000000 ∧ xi.given.length ≤ 1000000 ∧ xi.par.length ≤ 1000000 by
          obtain ⟨m1, e1, _, n1⟩ := HGL.out.mine; obtain ⟨m2, e2, _, n2⟩ := HGL.out.given; obtain ⟨m3, e3, _, n3⟩ := HGL.out.par; rw [e1, e2, e3]; simp only [List.nil_append]; have := HNI.out.2; omega)
        obtain ⟨Av, cv, ev⟩ := Kd.za4 HKI.out.lo.mine; obtain ⟨nm_, hnm_⟩ : ∃ nm_, nm_ = xi.mine.length := ⟨_, rfl⟩; rw [← hnm_] at ev; subst ev; clear hnm_; by_cases t6 : tk = 6
        · as_aux_lemma =>
            subst t6; have hcall := look_calls HKY.out.fi qQ a b
            go_upto_region 20 with (go_at_call 69; refine hcall.mono ?_; rintro e w3 ⟨rfl, hP⟩; have HP := J hP; clear hP hcall)
            clear p0 l0 q0 q1 q2 q3 q4 r0 r1 r2; obtain ⟨ow3, hK3, hf3, hn3⟩ := HKY.out.fpF (Nat.le_refl _) HP.out; have HK3 := J hK3; have HF3 := J hf3; clear hK3 hf3 hn3; have hk_ := fch_blk HF3.out HKP.out HONP.out; have r0 := zaf hk_ 0; have r1 := zaf hk_ 1; have r2 := zaN hk_; simp at r0 r1; clear hk_; obtain ⟨hag, hSM, hagb⟩ := HK3.out.lo.ag rfl; obtain ⟨nd, hnd⟩ : ∃ nd, nd = ((lookP s stop a b xi.st).ds.length : Int) := ⟨_, rfl⟩; have hcall := declD_calls HK3.out.fi qQ HSL.out a b 3 HBD.out.1 HBD.out.2.1 HBD.out.2.2 xi.ag hSM (fun u => by have := hagb u; have h9 := HNI.out.1; simp only at this; omega) (HK3.out.lo.dis bh (by rw [hag]; nofun))
            simp only at hcall; rw [← hnd] at hcall; have HND := J hnd; clear hnd; go_upto_region 21 with (go_at_call 68; refine hcall.mono ?_; rintro e w4 ⟨rfl, hS4, ow4, hF4, hs4, hf4⟩; have HS4 := J hS4; have HF4 := J hF4; have HB4 := J hs4; have HC4 := J hf4; clear hS4 hF4 hs4 hf4 hcall r0 r1 r2)
            have HAGB := J (fun u => bump_bound hagb (cutS s a b) u)
            clear hag hSM hagb; have hpp := HPP.out; cases p with
            | none =>
              simp only [Option.map_none] at hpp; subst hpp; have HK5 := J (HK3.out.decl rfl HS4.out HAGB.out HF4.out HB4.out HC4.out (xi.par ++ [nd]) (.inl rfl)); have HSE := J (show stepW s stop 55 6 a b xi (fun y => kidsT s stop T a y) = ⟨declD s a b 3 xi.ag (lookP s stop a b xi.st), bump xi.ag (cutS s a b), xi.mine, xi.given, xi.par ++ [nd]⟩ by unfold stepW; rw [if_neg qe, if_neg qe, if_pos ⟨rfl, rfl⟩, ← HND.out])
              go_wp2
              go_roundg (kids.length - (i + 1))
              case measure => have := HKQ.out; omega
              case rel => exact ⟨i + 1, _, rfl, qC, qk, q9, ⟨rfl⟩, _, _, ⟨qD⟩⟩
            | some b5 =>
              simp only [Option.map_some] at hpp; subst hpp; have hK4 := HK3.out.decl rfl HS4.out HAGB.out HF4.out HB4.out HC4.out xi.par (.inr rfl); obtain ⟨Ap, np, cp, hcp, z5, cap5, w5, hrun5, hcp5, lw5, hK5⟩ := hK4.par_ rfl (by have h8 := HML.out.2.2; have := HLL.out; simp only [List.length_append]; omega) nd rfl
              have HK5 := J hK5; have p0 := zaf hcp 0; have l0 := zaN hcp; have p1 := zaf hcp5 0; have f1 := zab hcp5 0; have l1 := zaN hcp5; simp at p0 p1; clear hK4 hK5 hcp hcp5; go_upto_region 34 with (at_builtin; refine wpL_app rfl _ _ _ rfl hrun5 ?_; clear hrun5)
              clear p0 l0 p1 f1 l1; have HSE := J (show stepW s stop 55 6 a b xi (fun y => kidsT s stop T a y) = ⟨declD s a b 3 xi.ag (lookP s stop a b xi.st), bump xi.ag (cutS s a b), xi.mine, xi.given, xi.par ++ [nd]⟩ by unfold stepW; rw [if_neg qe, if_neg qe, if_pos ⟨rfl, rfl⟩, ← HND.out])
              go_wp2
              go_roundg (kids.length - (i + 1))
              case measure => have := HKQ.out; omega
              case rel => exact ⟨i + 1, _, rfl, qC, qk, q9, ⟨rfl⟩, _, _, ⟨qD⟩⟩
        have e6 : (tk == 6) = false := by simp [t6]
        have HT6 := J t6; by_cases t50 : tk < 50
        · as_aux_lemma =>
            have HT50 := J t50; clear t6; have hcall := look_calls HKY.out.fi qQ a b
            go_upto_region 34 with (go_at_call 69; refine hcall.mono ?_; rintro e w3 ⟨rfl, hP⟩; have HP := J hP; clear hP hcall)
            clear p0 l0 q0 q1 q2 q3 q4 r0 r1 r2; obtain ⟨ow5, hK5⟩ := HKY.out.fp (Nat.le_refl _) HP.out; have HK5 := J hK5; clear hK5; have HSE := J (show stepW s stop 55 tk a b xi (fun y => kidsT s stop T a y) = ⟨lookP s stop a b xi.st, xi.ag, xi.mine, xi.given, xi.par⟩ by unfold stepW; rw [if_neg (fun h => HT6.out h.1), if_neg (fun h => HT6.out h.1), if_neg (fun h => HT6.out h.1), if_neg (fun h => HT6.out h.1), if_pos (by have := HT50.out; omega)])
            go_wp2
            go_roundg (kids.length - (i + 1))
            case measure => have := HKQ.out; omega
            case rel => exact ⟨i + 1, _, rfl, qC, qk, q9, ⟨rfl⟩, _, _, ⟨qD⟩⟩
        by_cases t52 : tk = 52
        · as_aux_lemma =>
            subst t52; clear t6 e6 t50; have hcall := within_calls HKC.out HSL.out HKY.out.low HKY.out.ow0 HKY.out.fi none 0 [] (Kd.F_nil _ _ _) (fun z hz => by cases hz) HBD.out.1 Q6 (by simp only [List.length_nil]; have := HNI.out.1; have := HCO.out; omega)
            rw [HTV.out] at hcall; simp only [List.length_nil] at hcall; go_upto_region 34 with (go_at_call 38; refine hcall.mono ?_; rintro e w3 ⟨rfl, hP⟩; have HP := J hP; clear hP hcall)
            clear p0 l0 q0 q1 q2 q3 q4 r0 r1 r2; obtain ⟨ow5, hK5⟩ := HKY.out.fp q9 HP.out
            have HK5 := J hK5; clear hK5; have HSE := J (show stepW s stop 55 52 a b xi (fun y => kidsT s stop T a y) = ⟨zbM (kidsT s stop T a (openP xi.st)).1, xi.ag, xi.mine, xi.given, xi.par⟩ by unfold stepW; rw [if_neg qe, if_neg qe, if_neg qe, if_neg qe, if_neg qe, if_neg qe, if_pos rfl])
            go_wp2
            go_roundg (kids.length - (i + 1))
            case measure => have := HKQ.out; omega
            case rel => exact ⟨i + 1, _, rfl, qC, qk, q9, ⟨rfl⟩, _, _, ⟨qD⟩⟩
        have e52 : (tk == 52) = false := by simp [t52]
        have HT52 := J t52; have HT50 := J t50; clear t6 t52; by_cases t55 : tk = 55
        · as_aux_lemma =>
            have e55 : (tk == 55) = true := by simp [t55]
            clear t55; have hcall := kidsC_none HKC.out HKY.out.low HKY.out.ow0 HKY.out.fi HBD.out.1 Q6 Ql
            rw [HTV.out] at hcall; go_upto_region 34 with (go_at_call 53; refine hcall.mono ?_; rintro e w3 ⟨rfl, hP⟩; have HP := J hP; clear hP hcall)
            clear p0 l0 q0 q1 q2 q3 q4 r0 r1 r2; obtain ⟨ow5, hK5⟩ := HKY.out.fp q9 HP.out
            have HK5 := J hK5; clear hK5; have HSE := J (show stepW s stop 55 tk a b xi (fun y => kidsT s stop T a y) = ⟨(kidsT s stop T a xi.st).1, xi.ag, xi.mine, xi.given, xi.par⟩ by unfold stepW; rw [if_neg (fun h => HT6.out h.1), if_neg (fun h => HT6.out h.1), if_neg (fun h => HT6.out h.1), if_neg (fun h => HT6.out h.1), if_neg (by have := HT50.out; omega), if_neg (fun h => HT52.out h.1), if_neg HT52.out, if_neg (fun h => absurd h.2 qe)])
            go_wp2
            go_roundg (kids.length - (i + 1))
            case measure => have := HKQ.out; omega
            case rel => exact ⟨i + 1, _, rfl, qC, qk, q9, ⟨rfl⟩, _, _, ⟨qD⟩⟩
        · as_aux_lemma =>
            have e55 : (tk == 55) = false := by simp [t55]
            clear t55; have hcall := kidsC_none HKC.out HKY.out.low HKY.out.ow0 HKY.out.fi HBD.out.1 Q6 Ql
            rw [HTV.out] at hcall; go_upto_region 34 with (go_at_call 53; refine hcall.mono ?_; rintro e w3 ⟨rfl, hP⟩; have HP := J hP; clear hP hcall)
            clear p0 l0 q0 q1 q2 q3 q4 r0 r1 r2; obtain ⟨ow5, hK5⟩ := HKY.out.fp q9 HP.out
            have HK5 := J hK5; clear hK5; have HSE := J (show stepW s stop 55 tk a b xi (fun y => kidsT s stop T a y) = ⟨(kidsT s stop T a xi.st).1, xi.ag, xi.mine, xi.given, xi.par⟩ by unfold stepW; rw [if_neg (fun h => HT6.out h.1), if_neg (fun h => HT6.out h.1), if_neg (fun h => HT6.out h.1), if_neg (fun h => HT6.out h.1), if_neg (by have := HT50.out; omega), if_neg (fun h => HT52.out h.1), if_neg HT52.out, if_neg (fun h => absurd h.2 qe)])
            go_wp2
            go_roundg (kids.length - (i + 1))
            case measure => have := HKQ.out; omega
            case rel => exact ⟨i + 1, _, rfl, qC, qk, q9, ⟨rfl⟩, _, _, ⟨qD⟩⟩
      · obtain rfl : i = kids.length := by omega
        rw [List.take_length] at *; have HKE := J (HKI.out.done (st := xi.st) (Nat.le_refl _) ⟨ow', HKI.out.fi, Sub.refl, Fch.refl⟩); go_wp2
        refine ⟨rfl, .tuple #[], by simp [results, show Try.f53.results = #[] from rfl, go_sem], rfl, ?_⟩
        obtain ⟨o1, o2, o3, o4, o5, o6⟩ := HKE.out; simp only [kidsT, ← HXI.out]; rw [if_neg qe]
        exact ⟨o1, o2, o3.up q9, o4, o5, o6⟩
  · have e55 : (k == 55) = false := by simp [k55]
    have HKI0 := J (KI.start (nv := #[.int .u8 k, .int .u8 w1, .int .i64 wd, .slice A kids.length c]) (pk := k) (bh := q) (ba := none) HLOW.out HO.out HP0.out HPF.out HF.out HPS.out HB2.out HK12.out HKB.out.2.1 HK02.out HKB.out.1 HKB.out.2.2 HB2L.out (fun h => absurd h k55))
    clear hmm; go_wp2
    clear p0 p3 l0; go_loopg [2, 8, 36] kids.length (fun kq v2 v8 v36 w' => ∃ (i : Nat) (vm : Value), vm = v8 ∧ v2 = .int .i64 (f + wdL (kids.take i)) ∧ v36 = .int .i64 i ∧ i ≤ kids.length ∧ zaa (kq = kids.length - i) ∧ ∃ ow' lw', zaa (KI W0 W s stop g q hb ow pf k p bg q kT #[.int .u8 k, .int .u8 w1, .int .i64 wd, .slice A kids.length c] l (n + 2000006 * nL (kids.take i)) w' ow' lw' v8 (loopL s stop k (kids.take i) f ⟨x, fun _ => 0, [], [], []⟩)))
    case atStart => exact ⟨0, _, rfl, by simp [wdL], rfl, Nat.zero_le _, ⟨rfl⟩, _, _, ⟨by simpa [nL, loopL] using HKI0.out⟩⟩
    case round =>
      obtain ⟨i, vm, rfl, rfl, rfl, hi, HKQ, ow', lw', HKI⟩ := hrel; obtain ⟨xi, hxi⟩ : ∃ xi, xi = loopL s stop k (kids.take i) f ⟨x, fun _ => 0, [], [], []⟩ := ⟨_, rfl⟩
      rw [← hxi] at HKI; have HGL := J (show GroL (nL (kids.take i)) ⟨x, fun _ => 0, [], [], []⟩ xi by rw [hxi]; exact loopL_gro s stop _ _ _ _ HF.out.ne)
      have HXI := J hxi; clear hxi; have hkn := HKI.out.node; have p0 := zaf hkn 0; have l0 := zaN hkn; simp at p0; clear hkn; by_cases hlt : i < kids.length
      · obtain ⟨adk, rfl, hw0, hTk⟩ := AtT.kid HT.out i hlt
        obtain ⟨T, hTe⟩ : ∃ T, T = kids[i] := ⟨_, rfl⟩; rw [← hTe] at hw0 hTk; have hie : kids[i]? = some T := by rw [hTe]; exact List.getElem?_eq_getElem hlt
        have HTG := J (HKG.out T (List.mem_of_getElem? hie)); have HSZ := J (show SizeOf.sizeOf T < z by have := List.sizeOf_lt_of_mem (List.mem_of_getElem? hie); have := HZ.out; simp at this; omega)
        have hs1 := nL_take kids i T hie; have hs2 := nL_mono kids (i + 1); have hwt := wdL_take kids i T hie; have hpr0 := HPRE.out i; have hpr1 := HPRE.out (i + 1); have htw := HTG.out.w; have hf2 : T.erase.f2 = T.wd := by cases T; rfl
        rw [hf2] at htw; have hfw := HFW.out; have hnt := HNT.out; have hnn := HN.out; have hssl := HSL.out; have HKC := J (IH.out T HSZ.out hTk HTG.out q9)
        obtain ⟨q0, q1, q2, q3⟩ := hw0.below HKI.out.low; obtain ⟨a, ha⟩ : ∃ a, a = f + wdL (kids.take i) := ⟨_, rfl⟩; have HNX := J (show loopL s stop k (kids.take (i + 1)) f ⟨x, fun _ => 0, [], [], []⟩ = stepW s stop k T.k a (a + T.wd) xi (fun y => kidsT s stop T a y) by rw [HXI.out, ha]; exact loopL_take s stop k kids i T f _ hie)
        have HWN := J (show f + wdL (kids.take (i + 1)) = a + T.wd by rw [hwt, ha, Int.add_assoc])
        have HNN := J (show nL (kids.take (i + 1)) = nL (kids.take i) + nT T from hs1)
        have HBD := J (show 0 ≤ a ∧ a ≤ a + T.wd ∧ a + T.wd ≤ s.size by omega)
        have hkl := nL_len kids; have hkll : kids.length ≤ 1000000 := by omega
        have HCO := J (show costB T + 1000003 = 2000006 * nT T by obtain ⟨_, _, _, _, _, kk⟩ := T; simp only [costB, nT, AT.kids]; omega)
        have HNI := J (show n + 2000006 * nL (kids.take i) + 2000006 * nT T ≤ 3999999000000 ∧ nL (kids.take i) + nT T ≤ 1000000 by
          have e : 2000006 * nL (kids.take i) + 2000006 * nT T ≤ 2000006 * nL kids := by rw [← Nat.mul_add, ← hs1]; exact Nat.mul_le_mul_left _ hs2
          omega)
        have HT1 := J (show 1 ≤ nT T by obtain ⟨_, _, _, _, _, kk⟩ := T; simp only [nT]; omega)
        rw [← ha]; have hwp : IntKind.i64.wrap (a + T.wd) = a + T.wd := IntWalk.i64_in _ ⟨q9, q9⟩
        obtain ⟨tk, htk⟩ : ∃ tk, tk = T.k := ⟨_, rfl⟩; obtain ⟨tw, htw'⟩ : ∃ tw, tw = T.w := ⟨_, rfl⟩; obtain ⟨twd, htwd⟩ : ∃ twd, twd = T.wd := ⟨_, rfl⟩; have HTV := J (show T.val = .agg #[.int .u8 tk, .int .u8 tw, .int .i64 twd, .slice T.A T.kids.length T.c] by rw [htk, htw', htwd]; rfl)
        rw [← htk] at q0 HNX; rw [← htw'] at q1; rw [← htwd] at q2 HNX HWN HBD hwp; have HTD := J htwd; clear hie hTe hw0 hTk hs1 hs2 hwt hpr0 hpr1 htw hf2 hfw hnt hnn hssl ha hkl htk htw' htwd; go_upto_region 12 with (fail)
        obtain ⟨Y1, hY1⟩ : ∃ X, X = wr.alloc (.cells #[.int .u8 tk, .int .u8 tw, .int .i64 twd, .slice T.A T.kids.length T.c] 24) := ⟨_, rfl⟩; obtain ⟨Y, hY⟩ : ∃ X, X = Y1.alloc (.cells #[.int .i64 a, .int .i64 (a + twd)] 60) := ⟨_, rfl⟩; have y1 : Below wr.heap.size wr Y1 := by rw [hY1]; exact zad (Below.refl _ _) _
        have y2 : Below Y1.heap.size Y1 Y := by rw [hY]; exact zad (Below.refl _ _) _
        have ys : Y1.heap.size = wr.heap.size + 1 := by rw [hY1]; simp
        have ka1 : Y1.heap[wr.heap.size]? = some (.cells #[.int .u8 tk, .int .u8 tw, .int .i64 twd, .slice T.A T.kids.length T.c] 24 (0, 0)) := by rw [hY1]; exact heap_alloc_new _ _
        have kp1 : Y.heap[wr.heap.size + 1]? = some (.cells #[.int .i64 a, .int .i64 (a + twd)] 60 (0, 0)) := by rw [hY, ← ys]; exact heap_alloc_new _ _
        change Code.wp Try.prog _ _ _ ((wr.alloc (.cells #[.int .u8 tk, .int .u8 tw, .int .i64 twd, .slice T.A T.kids.length T.c] 24)).alloc (.cells #[.int .i64 a, .int .i64 (a + twd)] 60))
        rw [← hY1, ← hY]; have HYB := J (zak y1 y2); obtain ⟨ka, hka⟩ : ∃ ka, ka = wr.heap.size := ⟨_, rfl⟩; obtain ⟨kp, hkp⟩ : ∃ kp, kp = wr.heap.size + 1 := ⟨_, rfl⟩; rw [← hka] at ka1; rw [← hkp] at kp1; have HKA := J (zaG ka1 y2); have HKP := J kp1; rw [show (⟨wr.heap.size, 0, none⟩ : Addr) = ⟨ka, 0, none⟩ by rw [hka], show (⟨wr.heap.size + 1, 0, none⟩ : Addr) = ⟨kp, 0, none⟩ by rw [hkp]]
        have HONA := J (show ow' ka = .no from ow_no HKI.out.fi q9)
        have HONP := J (show ow' kp = .no from ow_no HKI.out.fi q9)
        have HKY := J (HKI.out.below HYB.out); obtain ⟨b, hb_⟩ : ∃ b, b = a + twd := ⟨_, rfl⟩; rw [← hb_] at HNX HWN HBD HKP; rw [← hb_]; have HBE := J hb_; clear hY1 hY y1 y2 ys ka1 kp1 hka hkp p0 l0 q0 q1 q2 q3 hwp hb_; have hkn := HKY.out.node; have p0 := zaf hkn 0; have l0 := zaN hkn; have q0 := zaf HKA.out 0; have q1 := zaf HKA.out 1; have q2 := zaf HKA.out 2; have q3 := zaf HKA.out 3; have q4 := zaN HKA.out; have r0 := zaf HKP.out 0; have r1 := zaf HKP.out 1; have r2 := zaN HKP.out; simp at p0 q0 q1 q2 q3 r0 r1; clear hkn; have HML := J (show xi.mine.length ≤ 1000000 ∧ xi.given.length ≤ 1000000 ∧ xi.par.length ≤ 1000000 by
          obtain ⟨m1, e1, _, n1⟩ := HGL.out.mine; obtain ⟨m2, e2, _, n2⟩ := HGL.out.given; obtain ⟨m3, e3, _, n3⟩ := HGL.out.par; rw [e1, e2, e3]; simp only [List.nil_append]; have := HNI.out.2; omega)
        obtain ⟨Av, cv, ev⟩ := Kd.za4 HKI.out.lo.mine; obtain ⟨nm_, hnm_⟩ : ∃ nm_, nm_ = xi.mine.length := ⟨_, rfl⟩; rw [← hnm_] at ev; subst ev; clear hnm_; by_cases t6 : tk = 6
        · by_cases k53 : k = 53
          · as_aux_lemma =>
              subst t6; subst k53; obtain ⟨nd, hnd⟩ : ∃ nd, nd = (xi.st.ds.length : Int) := ⟨_, rfl⟩; have hcall := declT_calls HKY.out.fi qQ HSL.out a b 1 HBD.out.1 HBD.out.2.1 HBD.out.2.2
              rw [← hnd] at hcall; have HND := J hnd; clear hnd; go_upto_region 14 with (first | (go_at_call 68; refine hcall.mono ?_; rintro e w3 ⟨rfl, hP⟩; obtain ⟨ow3, hK3⟩ := HKY.out.fp (Nat.le_succ _) hP; obtain ⟨zb, cap, w4, hrun, hK4⟩ := hK3.mine (by have := HML.out.1; simp only; omega) nd rfl; have HK4 := J hK4; clear hP hcall hK3 hK4 p0 l0 q0 q1 q2 q3 q4 r0 r1 r2) | (at_builtin; refine wpL_app rfl _ _ _ rfl hrun ?_; clear hrun))
              have hcall := look_calls HK4.out.fi qQ a b
              go_upto_region 34 with (go_at_call 69; refine hcall.mono ?_; rintro e w5 ⟨rfl, hP⟩; have HP := J hP; clear hP hcall)
              obtain ⟨ow5, hK5⟩ := HK4.out.fp (Nat.le_refl _) HP.out; have HK5 := J hK5; clear hK5; have HSE := J (show stepW s stop 53 6 a b xi (fun y => kidsT s stop T a y) = ⟨lookP s stop a b (declT s a b 1 xi.st), xi.ag, xi.mine ++ [nd], xi.given, xi.par⟩ by unfold stepW; rw [if_pos ⟨rfl, rfl⟩, ← HND.out])
              go_wp2
              go_roundg (kids.length - (i + 1))
              case measure => have := HKQ.out; omega
              case rel => exact ⟨i + 1, _, rfl, qC, qk, q9, ⟨rfl⟩, _, _, ⟨qD⟩⟩
          by_cases k54 : k = 54
          · as_aux_lemma =>
              subst t6; subst k54; have hcall := look_calls HKY.out.fi qQ a b
              go_upto_region 17 with (go_at_call 69; refine hcall.mono ?_; rintro e w3 ⟨rfl, hP⟩; have HP := J hP; clear hP hcall)
              clear p0 l0 q0 q1 q2 q3 q4 r0 r1 r2; obtain ⟨ow3, hK3, hf3, hn3⟩ := HKY.out.fpF (Nat.le_refl _) HP.out; have HK3 := J hK3; have HF3 := J hf3; clear hK3 hf3 hn3; have hk_ := fch_blk HF3.out HKP.out HONP.out; have r0 := zaf hk_ 0; have r1 := zaf hk_ 1; have r2 := zaN hk_; simp at r0 r1; clear hk_; obtain ⟨nd, hnd⟩ : ∃ nd, nd = ((lookP s stop a b xi.st).ds.length : Int) := ⟨_, rfl⟩; have hcall := declT_calls HK3.out.fi qQ HSL.out a b 2 HBD.out.1 HBD.out.2.1 HBD.out.2.2
              simp only at hcall; rw [← hnd] at hcall; have HND := J hnd; clear hnd; go_upto_region 34 with (first | (go_at_call 68; refine hcall.mono ?_; rintro e w4 ⟨rfl, hP⟩; obtain ⟨ow4, hK4⟩ := HK3.out.fp (Nat.le_succ _) hP; have HK4 := J hK4; clear hP hcall hK4 r0 r1 r2) | (go_at_call 52; refine (fcount_calls (HK4.out.below (zad (Below.refl _ _) _)).fi HK4.out.fi.ne [nd] _ _ (F_int1 (ow_no HK4.out.fi (Nat.le_refl _)) nd) (fun z_ hz_ => by obtain rfl := List.mem_singleton.1 hz_; rw [HND.out]; simp only [declT, declD, List.length_append, List.length_singleton]; omega) (by simp only [List.length_singleton]; have := HNI.out.1; have := HT1.out; omega) HSL.out).mono ?_; rintro e w5 ⟨rfl, hP⟩; have HP5 := J hP; clear hP))
              obtain ⟨ow5, hK5⟩ := (HK4.out.below (zad (Below.refl _ _) _)).fp q9 HP5.out
              have HK5 := J hK5; clear hK5; have HSE := J (show stepW s stop 54 6 a b xi (fun y => kidsT s stop T a y) = ⟨countP s (declT s a b 2 (lookP s stop a b xi.st)) [nd], xi.ag, xi.mine, xi.given, xi.par⟩ by unfold stepW; rw [if_neg qe, if_pos ⟨rfl, rfl⟩, ← HND.out])
              go_wp2
              go_roundg (kids.length - (i + 1))
              case measure => have := HKQ.out; omega
              case rel => exact ⟨i + 1, _, rfl, qC, qk, q9, ⟨rfl⟩, _, _, ⟨qD⟩⟩
          by_cases k66 : k = 66
          · as_aux_lemma =>
              subst t6; subst k66; have hcall := look_calls HKY.out.fi qQ a b
              go_upto_region 25 with (go_at_call 69; refine hcall.mono ?_; rintro e w3 ⟨rfl, hP⟩; have HP := J hP; clear hP hcall)
              clear p0 l0 q0 q1 q2 q3 q4 r0 r1 r2; obtain ⟨ow3, hK3, hf3, hn3⟩ := HKY.out.fpF (Nat.le_refl _) HP.out; have HF3 := J hf3; obtain ⟨X, hX⟩ : ∃ X, X = w3.drew := ⟨_, rfl⟩; have bX : Below w3.heap.size w3 X := by rw [hX]; exact (Below.refl _ _).drew
              have hKX := hK3.below bX; have HKX := J hKX; obtain ⟨nu, hnu⟩ : ∃ u, u = s.extract a.toNat b.toNat := ⟨_, rfl⟩; have HNU := J (show cutS s a b = nu from hnu.symm)
              have HUL := J (show nu.size ≤ maxLen by rw [hnu]; exact cutS_le s a b HSL.out)
              have HNE := J hnu.symm; obtain ⟨mv, hmv⟩ : ∃ mv, mv = zbB (lookP s stop a b xi.st).kn nu := ⟨_, rfl⟩; have HMV := J hmv; obtain ⟨Ab, nb, cb, vd, bm, vl, vs, hgX, zb, cap, w5, hrun, hst5, hP5⟩ := hKX.fi.bind qQ ⟨⟨a, b⟩, mv⟩ rfl
              have hkX := zaG (fch_blk hf3 HKP.out HONP.out) bX; have honp : ow3 kp = .no := hn3 kp (zaN HKP.out) HONP.out; have hk5 := (hst5 kp (zaN hkX) (.inl honp)).trans hkX; have hg5 := (hst5 g (zaN hgX) (.inr rfl)).trans hgX; have HRUN := J hrun; have HP5 := J hP5; have HSF := J (show ∀ W' : World, W'.heap[g]? = some (.cells #[.string s, vd, .slice Ab nb cb, .map (some bm), vl, .int .i64 stop, vs] 82 (0, 0)) → W'.heap[kp]? = some (.cells #[.int .i64 a, .int .i64 b] 60 (0, 0)) →
                  (W'.cell? ⟨g, 2, none⟩ = some (.slice Ab nb cb) ∧ W'.cell? ⟨g, 0, none⟩ = some (.string s) ∧ g < W'.heap.size) ∧ W'.cell? ⟨kp, 0, none⟩ = some (.int .i64 a) ∧ W'.cell? ⟨kp, 1, none⟩ = some (.int .i64 b) ∧ kp < W'.heap.size from fun W' h1 h2 => by
                have e1 := zaf h1 2; have e2 := zaf h1 0; have e3 := zaf h2 0; have e4 := zaf h2 1; simp at e1 e2 e3 e4; exact ⟨⟨e1, e2, zaN h1⟩, e3, e4, zaN h2⟩)
              have HS0 := J (HSF.out X hgX hkX); have HSY := J (show ∀ V, V = X.alloc (.cells #[.int .i64 a, .int .i64 b, .int .i64 mv] 95) → _ from fun V e => HSF.out V (by rw [e]; exact zaG hgX (zad (Below.refl _ _) _)) (by rw [e]; exact zaG hkX (zad (Below.refl _ _) _)))
              have HS5 := J (HSF.out w5 hg5 hk5); have HG5 := J hg5; obtain ⟨ha, hab, hbs⟩ := HBD.out; clear hK3 hf3 hn3 bX hKX hnu hmv hgX hrun hst5 hP5 hkX honp hk5 hg5; refine wp_region_noPanic (zba [0, 1, 2, 3, 4, 5, 6, 7, 8, 9, 10, 11, 12, 13, 14, 15, 16, 17, 18, 19, 20, 21] (fun W' => (W'.cell? ⟨g, 2, none⟩ = some (.slice Ab nb cb) ∧ W'.cell? ⟨g, 0, none⟩ = some (.string s) ∧ g < W'.heap.size) ∧ W'.cell? ⟨kp, 0, none⟩ = some (.int .i64 a) ∧ W'.cell? ⟨kp, 1, none⟩ = some (.int .i64 b) ∧ kp < W'.heap.size) mixF ?_)
              rw [← hX]; clear hX; refine zah 0 rfl HS0.out (fun _ h => qF) ?_
              simp only [Act.put, zai]; refine zah 1 rfl HS0.out (fun _ h => qF) ?_
              simp only [Act.put, zai]; refine zah 2 rfl HS0.out (fun _ h => qF) ?_
              simp only [Act.put, zai]; refine zah 3 rfl HS0.out (fun _ h => qF) ?_
              simp only [Act.put, zai]; refine zah 4 rfl HS0.out (fun _ h => qF) ?_
              simp only [Act.put, zai]; refine zah 5 rfl HS0.out (fun _ h => qF) ?_
              simp only [Act.put, zai]; refine zah 6 rfl HS0.out (fun _ h => qF) ?_
              simp only [Act.put, zai]; refine zah 7 rfl HS0.out (fun _ h => qF) ?_
              simp only [Act.put, zai]; refine zah 8 rfl HS0.out (fun _ h => qF) ?_
              simp only [Act.put, zai]; refine zah 9 rfl HS0.out (fun _ h => qF) ?_
              simp only [Act.put, zai]; refine zah 10 rfl HS0.out (fun _ h => qF) ?_
              simp only [Act.put, zai]; refine zah 11 rfl HS0.out (fun _ h => qF) ?_
              simp only [Act.put, zai]; refine zah 12 rfl HS0.out (fun _ h => qF) ?_
              simp only [Act.put, zai]; refine zah 13 rfl HS0.out (fun _ h => qF) ?_
              simp only [Act.put, zai]; refine zah 14 rfl HS0.out (fun _ h => qF) ?_
              simp only [Act.put, zai]; rw [HNE.out]; have hcall := HKX.out.fi.means nu HUL.out; simp only at hcall; rw [← HMV.out] at hcall; refine zaI (i := 15) rfl qb (fun K hK => ?_)
              go_simp
              refine hcall.mono ?_
              rintro e_ w_ ⟨rfl, rfl⟩
              clear hcall; refine hK.out _ _ (fun _ => HS0.out) (fun _ => ?_)
              clear hK K; try simp only [Act.put, zai]
              refine zah 16 rfl HS0.out (fun _ h => qF) ?_
              simp only [Act.put, zai]; refine zaI (i := 17) rfl qb (fun K hK => ?_)
              go_simp
              refine hK.out _ _ (fun _ => HSY.out _ rfl) (fun _ => ?_)
              clear hK K; try simp only [Act.put, zai]
              refine zaI (i := 18) rfl qb (fun K hK => ?_)
              refine wpF_app (by rfl) _ _ _ rfl HRUN.out ?_
              refine hK.out _ _ (fun _ => HS5.out) (fun _ => ?_)
              clear hK K; try simp only [Act.put, zai]
              have t0 := zaf HG5.out 2; have g0 := zab HG5.out 2; have lb5 := zaN HG5.out; simp at t0; refine zaI (i := 19) rfl qb (fun K hK => ?_)
              go_simp
              refine hK.out _ _ (fun _ => HS5.out) (fun _ => ?_)
              clear hK K; try simp only [Act.put, zai]
              refine zaI (i := 20) rfl qb (fun K hK => ?_)
              go_simp
              refine hK.out _ _ (fun _ => HS5.out) (fun _ => ?_)
              clear hK K; try simp only [Act.put, zai]
              refine zaI (i := 21) rfl qb (fun K hK => ?_)
              go_simp
              refine hK.out _ _ (fun _ => HS5.out) (fun _ => ?_)
              clear hK K; try simp only [Act.put, zai]
              refine zaI (i := 22) rfl qb (fun K hK => ?_)
              go_simp
              refine hK.out _ _ (fun h => Bool.noConfusion (show false = true from h)) (fun _ => ?_)
              clear hK K; try simp only [Act.put, zai]
              refine za3 qb (NoPanic.normal ?_) _
              clear t0 g0 lb5 ha hab hbs; obtain ⟨ow5, hK5⟩ := HKX.out.fp (Nat.le_succ _) HP5.out; have HK5 := J hK5; clear hK5; have HSE := J (show stepW s stop 66 6 a b xi (fun y => kidsT s stop T a y) = ⟨{ lookP s stop a b xi.st with bs := (lookP s stop a b xi.st).bs ++ [⟨⟨a, b⟩, mv⟩] }, xi.ag, xi.mine, xi.given, xi.par⟩ by unfold stepW; rw [if_neg qe, if_neg qe, if_neg qe, if_pos ⟨rfl, rfl⟩, HNU.out, ← HMV.out])
              go_wp2
              go_roundg (kids.length - (i + 1))
              case measure => have := HKQ.out; omega
              case rel => exact ⟨i + 1, _, rfl, qC, qk, q9, ⟨rfl⟩, _, _, ⟨qD⟩⟩
          as_aux_lemma =>
            subst t6; have e53 : (k == 53) = false := by simp [k53]
            have e54 : (k == 54) = false := by simp [k54]
            have e66 : (k == 66) = false := by simp [k66]
            have HK_ := J (And.intro k53 (And.intro k54 (And.intro k55 k66))); clear k53 k54 k66; have hcall := look_calls HKY.out.fi qQ a b
            go_upto_region 34 with (go_at_call 69; refine hcall.mono ?_; rintro e w3 ⟨rfl, hP⟩; have HP := J hP; clear hP hcall)
            clear p0 l0 q0 q1 q2 q3 q4 r0 r1 r2; obtain ⟨ow5, hK5⟩ := HKY.out.fp (Nat.le_refl _) HP.out; have HK5 := J hK5; clear hK5; have HSE := J (show stepW s stop k 6 a b xi (fun y => kidsT s stop T a y) = ⟨lookP s stop a b xi.st, xi.ag, xi.mine, xi.given, xi.par⟩ by unfold stepW; rw [if_neg (fun h => HK_.out.1 h.2), if_neg (fun h => HK_.out.2.1 h.2), if_neg (fun h => HK_.out.2.2.1 h.2), if_neg (fun h => HK_.out.2.2.2 h.2), if_pos qe])
            go_wp2
            go_roundg (kids.length - (i + 1))
            case measure => have := HKQ.out; omega
            case rel => exact ⟨i + 1, _, rfl, qC, qk, q9, ⟨rfl⟩, _, _, ⟨qD⟩⟩
        have e6 : (tk == 6) = false := by simp [t6]
        have HT6 := J t6; by_cases t50 : tk < 50
        · as_aux_lemma =>
            have HT50 := J t50; clear t6; have hcall := look_calls HKY.out.fi qQ a b
            go_upto_region 34 with (go_at_call 69; refine hcall.mono ?_; rintro e w3 ⟨rfl, hP⟩; have HP := J hP; clear hP hcall)
            clear p0 l0 q0 q1 q2 q3 q4 r0 r1 r2; obtain ⟨ow5, hK5⟩ := HKY.out.fp (Nat.le_refl _) HP.out; have HK5 := J hK5; clear hK5; have HSE := J (show stepW s stop k tk a b xi (fun y => kidsT s stop T a y) = ⟨lookP s stop a b xi.st, xi.ag, xi.mine, xi.given, xi.par⟩ by unfold stepW; rw [if_neg (fun h => HT6.out h.1), if_neg (fun h => HT6.out h.1), if_neg (fun h => HT6.out h.1), if_neg (fun h => HT6.out h.1), if_pos (by have := HT50.out; omega)])
            go_wp2
            go_roundg (kids.length - (i + 1))
            case measure => have := HKQ.out; omega
            case rel => exact ⟨i + 1, _, rfl, qC, qk, q9, ⟨rfl⟩, _, _, ⟨qD⟩⟩
        by_cases t52 : tk = 52
        · by_cases k54 : k = 54
          · as_aux_lemma =>
              clear t6 e6 t50 HT6; subst t52; subst k54; obtain ⟨vg, hvg, hRg⟩ := HKY.out.lo.gv; obtain ⟨Ag, cg, eg⟩ := Kd.za4 hRg; subst eg; have hgF : Kd.F (Kd.int .i64) Y (fun z => ow' z = .no) Ag xi.given.length xi.given := Kd.F_mono (Kd.R_F hRg) (fun z hz => HKY.out.lo.dis z qv)
              have v0 := zaf hvg 0; have v1 := zaN hvg; simp at v0; have hcall := within_calls HKC.out HSL.out HKY.out.low HKY.out.ow0 HKY.out.fi Ag cg xi.given hgF (fun z hz => by
                obtain ⟨m1, e1, r1_, _⟩ := HGL.out.given; rw [e1, List.nil_append] at hz; have := r1_ z hz; omega) HBD.out.1 Q6 (by have := HNI.out.1; have := HCO.out; have := HML.out.2.1; omega)
              rw [HTV.out] at hcall; obtain ⟨ng, hng⟩ : ∃ ng, ng = xi.given.length := ⟨_, rfl⟩; rw [← hng] at v0 hcall; have HNG := J (show ng ≤ 1000000 by rw [hng]; exact HML.out.2.1)
              clear hvg hRg hgF hng; go_upto_region 34 with (go_at_call 38; refine hcall.mono ?_; rintro e w3 ⟨rfl, hP⟩; have HP := J hP; clear hP hcall)
              clear p0 l0 q0 q1 q2 q3 q4 r0 r1 r2; clear v0 v1; obtain ⟨ow5, hK5⟩ := HKY.out.fp q9 HP.out
              have HK5 := J hK5; clear hK5; have hng := HNG.out; have HSE := J (show stepW s stop 54 52 a b xi (fun y => kidsT s stop T a y) = ⟨zbM (kidsT s stop T a (countP s (openP xi.st) xi.given)).1, xi.ag, xi.mine, xi.given, xi.par⟩ by unfold stepW; rw [if_neg qe, if_neg qe, if_neg qe, if_neg qe, if_neg qe, if_pos ⟨rfl, rfl⟩])
              go_wp2
              go_roundg (kids.length - (i + 1))
              case measure => have := HKQ.out; omega
              case rel => exact ⟨i + 1, _, rfl, qC, qk, q9, ⟨rfl⟩, _, _, ⟨qD⟩⟩
          · as_aux_lemma =>
              subst t52; clear t6 e6 t50; have e54 : (k == 54) = false := by simp [k54]
              have HK_ := J k54; clear k54; have hcall := within_calls HKC.out HSL.out HKY.out.low HKY.out.ow0 HKY.out.fi none 0 [] (Kd.F_nil _ _ _) (fun z hz => by cases hz) HBD.out.1 Q6 (by simp only [List.length_nil]; have := HNI.out.1; have := HCO.out; omega)
              rw [HTV.out] at hcall; simp only [List.length_nil] at hcall; go_upto_region 34 with (go_at_call 38; refine hcall.mono ?_; rintro e w3 ⟨rfl, hP⟩; have HP := J hP; clear hP hcall)
              clear p0 l0 q0 q1 q2 q3 q4 r0 r1 r2; obtain ⟨ow5, hK5⟩ := HKY.out.fp q9 HP.out
              have HK5 := J hK5; clear hK5; have HSE := J (show stepW s stop k 52 a b xi (fun y => kidsT s stop T a y) = ⟨zbM (kidsT s stop T a (openP xi.st)).1, xi.ag, xi.mine, xi.given, xi.par⟩ by unfold stepW; rw [if_neg (fun h => absurd h.1 qe), if_neg (fun h => absurd h.1 qe), if_neg (fun h => absurd h.1 qe), if_neg (fun h => absurd h.1 qe), if_neg qe, if_neg (fun h => HK_.out h.2), if_pos rfl])
              go_wp2
              go_roundg (kids.length - (i + 1))
              case measure => have := HKQ.out; omega
              case rel => exact ⟨i + 1, _, rfl, qC, qk, q9, ⟨rfl⟩, _, _, ⟨qD⟩⟩
        by_cases t55 : tk = 55 ∧ k = 54
        · as_aux_lemma =>
            clear t6 e6 t50 t52 HT6; obtain ⟨t55, k54⟩ := t55; subst t55; subst k54; have hcall := HKC.out a _ Y ow' q hb xi.st (some bg) (fun z => decide (lw' z = .gr)) xi.given HKY.out.low HKY.out.ow0 (fun z hz => by rw [← Option.some.inj hz]; exact HKY.out.lw0 bg (by rw [HKY.out.lo.bgl]; nofun)) (fun z hz => HKY.out.lw0 z (by rw [of_decide_eq_true hz]; nofun)) HKY.out.fi
              ⟨fun z hz => ⟨HKY.out.lo.dis z (by rw [of_decide_eq_true hz]; nofun), HKY.out.lo.lt z (by rw [of_decide_eq_true hz]; nofun)⟩, fun z hz => by
                obtain rfl := Option.some.inj hz; refine ⟨HKY.out.lo.dis _ (by rw [HKY.out.lo.bgl]; nofun), decide_eq_false (by rw [HKY.out.lo.bgl]; nofun), ?_⟩
                obtain ⟨v, hv, hR⟩ := HKY.out.lo.gv; exact ⟨v, hv, Kd.zbl hR (fun y hy => decide_eq_true hy)⟩⟩ HML.out.2.1 HBD.out.1 Q6 Ql
            rw [HTV.out] at hcall; simp only [Option.map_some] at hcall; go_upto_region 34 with (go_at_call 53; refine hcall.mono ?_; rintro e w3 ⟨rfl, hP⟩; have HP := J hP; clear hP hcall)
            clear p0 l0 q0 q1 q2 q3 q4 r0 r1 r2; obtain ⟨ow5, lw5, hK5⟩ := HKY.out.given_ q9 HP.out
            have HK5 := J hK5; clear hK5; have HSE := J (show stepW s stop 54 55 a b xi (fun y => kidsT s stop T a y) = ⟨(kidsT s stop T a xi.st).1, xi.ag, xi.mine, xi.given ++ (kidsT s stop T a xi.st).2, xi.par⟩ by unfold stepW; rw [if_neg qe, if_neg qe, if_neg qe, if_neg qe, if_neg qe, if_neg qe, if_neg qe, if_pos ⟨rfl, rfl⟩])
            go_wp2
            go_roundg (kids.length - (i + 1))
            case measure => have := HKQ.out; omega
            case rel => exact ⟨i + 1, _, rfl, qC, qk, q9, ⟨rfl⟩, _, _, ⟨qD⟩⟩
        have e52 : (tk == 52) = false := by simp [t52]
        have HT52 := J t52; have HT50 := J t50; have HT55 := J t55; clear t6 t52; by_cases t5 : tk = 55
        · as_aux_lemma =>
            have e5 : (tk == 55) = true := by simp [t5]
            have e54 : (k == 54) = false := by have : k ≠ 54 := fun h => t55 ⟨t5, h⟩; simp [this]
            clear t5 t55; have hcall := kidsC_none HKC.out HKY.out.low HKY.out.ow0 HKY.out.fi HBD.out.1 Q6 Ql
            rw [HTV.out] at hcall; go_upto_region 34 with (go_at_call 53; refine hcall.mono ?_; rintro e w3 ⟨rfl, hP⟩; have HP := J hP; clear hP hcall)
            clear p0 l0 q0 q1 q2 q3 q4 r0 r1 r2; obtain ⟨ow5, hK5⟩ := HKY.out.fp q9 HP.out
            have HK5 := J hK5; clear hK5; have HSE := J (show stepW s stop k tk a b xi (fun y => kidsT s stop T a y) = ⟨(kidsT s stop T a xi.st).1, xi.ag, xi.mine, xi.given, xi.par⟩ by unfold stepW; rw [if_neg (fun h => HT6.out h.1), if_neg (fun h => HT6.out h.1), if_neg (fun h => HT6.out h.1), if_neg (fun h => HT6.out h.1), if_neg (by have := HT50.out; omega), if_neg (fun h => HT52.out h.1), if_neg HT52.out, if_neg HT55.out])
            go_wp2
            go_roundg (kids.length - (i + 1))
            case measure => have := HKQ.out; omega
            case rel => exact ⟨i + 1, _, rfl, qC, qk, q9, ⟨rfl⟩, _, _, ⟨qD⟩⟩
        · as_aux_lemma =>
            have e5 : (tk == 55) = false := by simp [t5]
            clear t5 t55; have hcall := kidsC_none HKC.out HKY.out.low HKY.out.ow0 HKY.out.fi HBD.out.1 Q6 Ql
            rw [HTV.out] at hcall; go_upto_region 34 with (go_at_call 53; refine hcall.mono ?_; rintro e w3 ⟨rfl, hP⟩; have HP := J hP; clear hP hcall)
            clear p0 l0 q0 q1 q2 q3 q4 r0 r1 r2; obtain ⟨ow5, hK5⟩ := HKY.out.fp q9 HP.out
            have HK5 := J hK5; clear hK5; have HSE := J (show stepW s stop k tk a b xi (fun y => kidsT s stop T a y) = ⟨(kidsT s stop T a xi.st).1, xi.ag, xi.mine, xi.given, xi.par⟩ by unfold stepW; rw [if_neg (fun h => HT6.out h.1), if_neg (fun h => HT6.out h.1), if_neg (fun h => HT6.out h.1), if_neg (fun h => HT6.out h.1), if_neg (by have := HT50.out; omega), if_neg (fun h => HT52.out h.1), if_neg HT52.out, if_neg HT55.out])
            go_wp2
            go_roundg (kids.length - (i + 1))
            case measure => have := HKQ.out; omega
            case rel => exact ⟨i + 1, _, rfl, qC, qk, q9, ⟨rfl⟩, _, _, ⟨qD⟩⟩
      · obtain rfl : i = kids.length := by omega
        rw [List.take_length] at *; obtain ⟨m1, em1, hr1, hn1⟩ := HGL.out.mine; simp only [List.nil_append] at em1 hr1; have hnt := HNT.out; have hnn := HN.out; by_cases k53 : k = 53
        · subst k53
          have hR := HKI.out.lo.mine; obtain ⟨Av, cv, ev⟩ := Kd.za4 hR; subst ev; have hmF : Kd.F (Kd.int .i64) wr (fun q => ow' q = .no) Av xi.mine.length xi.mine := Kd.F_mono (Kd.R_F hR) (fun z hz => HKI.out.lo.dis z qv)
          have hcall := fcount_calls HKI.out.fi HKI.out.fi.ne xi.mine Av cv hmF (fun z hz => by rw [em1] at hz; have := hr1 z hz; omega) (by rw [em1]; omega) HSL.out
          obtain ⟨nm_, hnm_⟩ : ∃ nm_, nm_ = xi.mine.length := ⟨_, rfl⟩; have HNM := J hnm_; rw [← hnm_] at hcall; rw [← hnm_]; have hnl : nm_ ≤ 1000000 := by rw [hnm_, em1]; omega
          have HNL := J hnl; clear hmF hR hnm_ em1 hr1 hn1 hnt hnn hnl; go_wp2_with (go_at_call 52; refine hcall.mono ?_; rintro e w5 ⟨rfl, hP⟩; have HP := J hP; clear hP hcall)
          refine ⟨rfl, .tuple #[], by simp [results, show Try.f53.results = #[] from rfl, go_sem], rfl, ?_⟩
          obtain ⟨o1, o2, o3, o4, o5, o6⟩ := HKI.out.done (Nat.le_add_right _ _) HP.out; simp only [kidsT, ← HXI.out, if_true]; exact ⟨o1, o2, o3.up (by have := HNL.out; omega), o4, o5, o6⟩
        · have e53 : (k == 53) = false := by simp [k53]
          have HKE := J (HKI.out.done (st := xi.st) (Nat.le_refl _) ⟨ow', HKI.out.fi, Sub.refl, Fch.refl⟩); have HK53 := J k53; clear k53 em1 hr1 hn1 hnt hnn; go_wp2
          refine ⟨rfl, .tuple #[], by simp [results, show Try.f53.results = #[] from rfl, go_sem], rfl, ?_⟩
          obtain ⟨o1, o2, o3, o4, o5, o6⟩ := HKE.out; simp only [kidsT, ← HXI.out]; rw [if_neg HK53.out]; exact ⟨o1, o2, o3.up q9, o4, o5, o6⟩
theorem kids_all {W0 : World} {s : ByteArray} {stop : Int} {g : Nat} (hsl : s.size ≤ 1099511627776) : ∀ (z : Nat) (T : AT), SizeOf.sizeOf T < z → AtT W0 T → goodT T.erase → nT T ≤ 1000000 → KidsC W0 s stop g T
 | 0, _, h => absurd h (Nat.not_lt_zero _)
 | z + 1, T, h => kids_step hsl z (kids_all hsl z) T h
theorem FX.start (W : World) (s : ByteArray) (stop : Int) : FX s stop 0 ((W.alloc (.map #[] 0)).alloc (.cells #[.string s, nilS, nilS, .map (some W.heap.size), nilS, .int .i64 stop, nilS] 82)) (W.heap.size + 1) (fun q => if q = W.heap.size + 1 then .fin else if q = W.heap.size then .km else .no) [] ⟨[], [], fun _ => [], [], []⟩ := by
 have e1 : (W.alloc (.map #[] 0)).heap.size = W.heap.size + 1 := by simp
 refine ⟨⟨Nat.le_refl _, Nat.le_refl _, Nat.le_refl _, Nat.le_refl _, fun u => Nat.le_refl _, fun t h => (by cases h), fun t h => (by cases h), fun u k h => (by cases h), fun d h => (by cases h), fun u k h => (by cases h), fun u => rfl⟩, W.heap.size, .map [], nilS, nilS, nilS, nilS, [], ?_, rfl⟩
 refine ⟨?_, if_pos rfl, ?_, fun q hq => ?_, ?_, Kd.R_nil _ _ _ _ _, Kd.R_nil _ _ _ _ _, Kd.R_nil _ _ _ _ _, Kd.R_nil _ _ _ _ _, fun u => ?_, trivial⟩
 ·rw [← e1]; exact heap_alloc_new _ _
 ·show (if W.heap.size = W.heap.size + 1 then Ow.fin else if W.heap.size = W.heap.size then .km else .no) = .km
  rw [if_neg q9, if_pos rfl]
 ·by_cases h1 : q = W.heap.size + 1
  ·simp [h1]
  ·by_cases h2 : q = W.heap.size
   ·simp [h2]; omega
   ·rw [if_neg h1, if_neg h2] at hq; exact absurd rfl hq
 ·exact (World.ownsMap_made W Try.prog 9 rawE).alloc _
 ·rw [mval_empty]; exact Kd.R_nil _ _ _ _ _
theorem find_all {W0 W : World} {s : ByteArray} {stop : Int} {T : AT} (hsl : s.size ≤ 1099511627776) (hT : AtT W0 T) (hg : goodT T.erase) (hn : nT T ≤ 1000000) (hw : T.wd = s.size) (hb : Below W0.heap.size W0 W) :
  Calls Try.prog 38 #[.pointer (some ⟨W.heap.size + 1, 0, none⟩), T.val, .int .i64 0, .slice none 0 0] ((W.alloc (.map #[] 0)).alloc (.cells #[.string s, nilS, nilS, .map (some W.heap.size), nilS, .int .i64 stop, nilS] 82)) fun e W' => e = .returned (.tuple #[]) ∧ Below W.heap.size W W' ∧
   ∃ vd vb vl vs bm x, x = zbM (kidsT s stop T 0 (countP s (openP ⟨[], [], fun _ => [], [], []⟩) [])).1 ∧ W'.heap[W.heap.size + 1]? = some (.cells #[.string s, vd, vb, .map (some bm), vl, .int .i64 stop, vs] 82 (0, 0)) ∧ Kd.R k62 62 W' 0 (fun q => W.heap.size ≤ q) vd x.ds ∧ Kd.R k95 95 W' 0 (fun q => W.heap.size ≤ q) vb x.bs ∧ Kd.R k62 62 W' 0 (fun q => W.heap.size ≤ q) vs x.sh := by
 obtain ⟨X, hX⟩ : ∃ X, X = (W.alloc (.map #[] 0)).alloc (.cells #[.string s, nilS, nilS, .map (some W.heap.size), nilS, .int .i64 stop, nilS] 82) := ⟨_, rfl⟩; have hF := FX.start W s stop; have b1 : Below W.heap.size W (W.alloc (.map #[] 0)) := zad (Below.refl _ _) _; have b2 : Below W.heap.size W X := by rw [hX]; exact zak b1 (zad (Below.refl _ _) _)
 rw [← hX] at hF ⊢; have ho : ∀ z, (fun q => if q = W.heap.size + 1 then Ow.fin else if q = W.heap.size then .km else .no) z ≠ .no → W.heap.size ≤ z := fun z hz => by
  simp only at hz; by_cases h1 : z = W.heap.size + 1
  ·omega
  ·by_cases h2 : z = W.heap.size
   ·omega
   ·rw [if_neg h1, if_neg h2] at hz; exact absurd rfl hz
 have hcost : costB T ≤ 2000007000000 := by
  obtain ⟨k, w, wd, A, c, kids⟩ := T; simp only [nT] at hn; simp only [costB, AT.kids]; have : 2000006 * nL kids ≤ 2000006 * 999999 := Nat.mul_le_mul_left _ q9
  omega
 have hsz := hb.size; have h := within_calls (T := T) (f := 0) (kids_all (stop := stop) (g := W.heap.size + 1) hsl (SizeOf.sizeOf T + 1) T (Nat.lt_succ_self _) hT hg hn) hsl (zbL hb b2 hb.size) (fun z hz => Nat.le_trans hsz (ho z hz)) hF none 0 [] (Kd.F_nil _ _ _) (fun k h => by cases h) (Int.le_refl _) q9 (by simp only [List.length_nil]; omega)
 simp only [List.length_nil] at h; refine h.mono ?_
 rintro e W' ⟨rfl, ow', ⟨hok, bm, D, vd, vb, vl, vs, ml, hM, _⟩, hs, hf⟩
 have hlo : ∀ q t, ow' q = t → t ≠ .no → W.heap.size ≤ q := fun q t hq ht => by
  rcases hs q (by rw [hq]; exact ht) with h1 | h1
  ·exact ho q h1
  ·exact Nat.le_trans b2.size h1
 refine ⟨rfl, hf.low b2 ho, vd, vb, vl, vs, bm, _, rfl, hM.blk, Kd.zbl hM.rd (fun q hq => hlo q _ hq nofun), Kd.zbl hM.rb (fun q hq => hlo q _ hq nofun), Kd.zbl hM.rs (fun q hq => hlo q _ hq nofun)⟩
theorem smay_calls (s : ByteArray) (T : AT) (W : World) (hT : AtT W T) (hby : byteT T.erase) :
  Calls Try.prog 37 #[.string s, T.val] W fun e W' => e = .returned (.bool (mayB s T.erase)) ∧ Below W.heap.size W W' := by
 obtain ⟨X, hX⟩ : ∃ V, V = W.alloc (.cells #[.int .u8 T.k, .int .u8 T.w, .int .i64 T.wd, .slice T.A T.kids.length T.c] 24) := ⟨_, rfl⟩; have hbX : Below W.heap.size W X := by rw [hX]; exact zad (Below.refl _ _) _
 have hk : X.heap[W.heap.size]? = some (.cells #[.int .u8 T.k, .int .u8 T.w, .int .i64 T.wd, .slice T.A T.kids.length T.c] 24 (0, 0)) := by rw [hX]; exact heap_alloc_new _ _
 have HBX := J hbX; have hC := Kd.za1 (C_of_AT _ T (Nat.lt_succ_self _) W hT) hbX; have hkc : T.kids.length ≤ T.c := by obtain ⟨k, w, wd, A, c, kids⟩ := T; simp only [AtT] at hT; exact hT.1
 have hel := zbj T.kids; have hcall := tree_Right.calls T.k T.w T.wd T.A T.c (zbr T.kids) (okB ⟨T.k, T.w, T.wd, zbr T.kids⟩) X (by rw [hel]; exact hC) (by rw [hel]; exact hkc) (right_prog _ _ _ _)
 rw [hel] at hcall; have p0 := zaf hk 0; have p1 := zaf hk 1; have p2 := zaf hk 2; have p3 := zaf hk 3; have l0 := zaN hk; simp at p0 p1 p2 p3; obtain ⟨ob, hob⟩ : ∃ ob, ob = okB ⟨T.k, T.w, T.wd, zbr T.kids⟩ := ⟨_, rfl⟩; rw [← hob] at hcall; have HM := J (show mayB s T.erase = (decide (T.k = 51) && decide (T.wd = s.size) && ob) by rw [hob, erase_f]; rfl)
 have hun := Try.underlying24; simp only [AT.val]; clear hT hby hbX hk hC hkc hel hob; go_enter Try.func37, Try.ntmps37
 go_upto_region 1 with (fail)
 change Code.wp Try.prog _ _ _ (W.alloc (.cells #[.int .u8 T.k, .int .u8 T.w, .int .i64 T.wd, .slice T.A T.kids.length T.c] 24))
 rw [← hX]; clear hX; by_cases c1 : T.k = 51
 ·by_cases c2 : T.wd = s.size
  ·have e1 : (T.k == 51) = true := by simp [c1]
   have e2 : (T.wd == (s.size : Int)) = true := by simp [c2]
   rw [decide_eq_true c1, decide_eq_true c2, Bool.true_and, Bool.true_and] at HM; clear c1 c2; go_wp2_with (go_at_call 49; refine hcall.mono ?_; rintro e w2 ⟨rfl, hb2⟩; have HB2 := J hb2; clear hb2 hcall)
   go_ret
   exact ⟨by rw [HM.out]; rfl, zak HBX.out HB2.out⟩
  ·have e1 : (T.k == 51) = true := by simp [c1]
   have e2 : (T.wd == (s.size : Int)) = false := by simp [c2]
   rw [decide_eq_true c1, decide_eq_false c2, Bool.true_and, Bool.false_and] at HM; clear c1 c2 hcall; go_wp2
   go_ret
   exact ⟨by rw [HM.out]; rfl, HBX.out⟩
 ·have e1 : (T.k == 51) = false := by simp [c1]
  rw [decide_eq_false c1, Bool.false_and, Bool.false_and] at HM; clear c1 hcall; go_wp2
  go_ret
  exact ⟨by rw [HM.out]; rfl, HBX.out⟩
theorem may_facts {s : ByteArray} {T : AT} (hby : byteT T.erase) (h : mayB s T.erase = true) : goodT T.erase ∧ tokT T.erase ∧ T.k = 51 ∧ T.wd = s.size := by
 unfold mayB at h
 simp only [Bool.and_eq_true, decide_eq_true_eq] at h; obtain ⟨⟨h1, h2⟩, h3⟩ := h; have e := erase_f T; rw [e] at h1 h2; exact ⟨ok_good _ hby h3, ok_tok _ hby h3, h1, h2⟩
theorem sof_calls (s : ByteArray) (T : AT) (W : World) (hT : AtT W T) (hby : byteT T.erase) (hn : nT T ≤ 1000000) (hs : s.size ≤ 1099511627776) :
  Calls Try.prog 13 #[.string s, T.val] W fun e W' => ∃ vd vb, e = .returned (.tuple #[.agg #[vd, vb], .int .i64 (of20 s T).2.2]) ∧ Below W.heap.size W W' ∧ Kd.R k62 62 W' 0 (fun q => W.heap.size ≤ q) vd (of20 s T).1 ∧ Kd.R k95 95 W' 0 (fun q => W.heap.size ≤ q) vb (of20 s T).2.1 := by
 obtain ⟨X1, hX1⟩ : ∃ V, V = W.alloc (.cells #[.int .u8 T.k, .int .u8 T.w, .int .i64 T.wd, .slice T.A T.kids.length T.c] 24) := ⟨_, rfl⟩; obtain ⟨X, hX⟩ : ∃ V, V = X1.alloc (.cells #[.slice none 0 0, .slice none 0 0] 47) := ⟨_, rfl⟩; have hs1 : X1.heap.size = W.heap.size + 1 := by rw [hX1]; simp
 have b1 : Below W.heap.size W X1 := by rw [hX1]; exact zad (Below.refl _ _) _
 have b2 : Below X1.heap.size X1 X := by rw [hX]; exact zad (Below.refl _ _) _
 have HBX := J (zak b1 b2); have HK1 := J (show X.heap[W.heap.size]? = some (.cells #[.int .u8 T.k, .int .u8 T.w, .int .i64 T.wd, .slice T.A T.kids.length T.c] 24 (0, 0)) from zaG (by rw [hX1]; exact heap_alloc_new _ _) b2)
 have HK4 := J (show X.heap[W.heap.size + 1]? = some (.cells #[.slice none 0 0, .slice none 0 0] 47 (0, 0)) by rw [hX, ← hs1]; exact heap_alloc_new _ _)
 have HT := J (AtT.below HBX.out T hT); have HNT := J hn; have HSS := J hs; have HBY := J hby; obtain ⟨bm, hbm⟩ : ∃ bm, bm = mayB s T.erase := ⟨_, rfl⟩; have hcall := smay_calls s T X HT.out hby; rw [← hbm] at hcall; have HBM := J hbm; have hun := Try.underlying24; have hum := Try.underlying47; have huf := Try.underlying82; have hmm := @run_makeMap Try.prog; simp only [AT.val] at hcall ⊢; clear hT hby hn hs hbm hs1 b1 b2; go_enter Try.func13, Try.ntmps13
 go_upto_region 1 with (fail)
 change Code.wp Try.prog _ _ _ ((W.alloc (.cells #[.int .u8 T.k, .int .u8 T.w, .int .i64 T.wd, .slice T.A T.kids.length T.c] 24)).alloc (.cells #[.slice none 0 0, .slice none 0 0] 47))
 rw [← hX1, ← hX]; clear hX hX1; have p0 := zaf HK1.out 0; have p1 := zaf HK1.out 1; have p2 := zaf HK1.out 2; have p3 := zaf HK1.out 3; simp at p0 p1 p2 p3; cases bm with
 | false =>
  have HOF := J (show of20 s T = ([], [], 150) by unfold of20; rw [← HBM.out]; rfl)
  go_upto_region 2 with (go_at_call 37; refine hcall.mono ?_; rintro e w2 ⟨rfl, hb2⟩; have HB2 := J hb2; have hk4 := zaG HK4.out hb2; have HC4 := J hk4; have r0 := zaf hk4 0; have r1 := zaf hk4 1; have g0 := zab hk4 0; have g1 := zab hk4 1; have lb := zaN hk4; simp at r0 r1; clear hb2 hcall p0 p1 p2 p3 hk4)
  go_wp2
  have hz := zbe (zbe HC4.out 0 (.slice none 0 0)) 1 (.slice none 0 0); simp at hz; refine bodyPost_ret (zbO rfl _ _ (W.heap.size + 1) 47 _ (0, 0) _ rfl hz Try.underlying47 rfl qb) rfl ?_
  have hb : W.heap.size ≤ W.heap.size + 1 := Nat.le_succ _; exact ⟨_, _, qS, ((zak HBX.out HB2.out).setCell hb _).setCell hb _, Q4, Q4⟩
 | true =>
  obtain ⟨hg, htk, hk51, hwd⟩ := may_facts HBY.out HBM.out.symm; have HLAW := J (scope_law s (-1) T hg htk hk51); have HGG := J hg; have HWD := J hwd; have HOF := J (show of20 s T = ((findS (seenT T 0 (-1) 0) s (seenT T 0 (-1) 0).length).1.map outD, (findS (seenT T 0 (-1) 0) s (seenT T 0 (-1) 0).length).2.map (outU (findS (seenT T 0 (-1) 0) s (seenT T 0 (-1) 0).length).1), 0) by unfold of20; rw [← HBM.out, if_pos rfl])
  clear hg htk hk51 hwd; go_upto_region 3 with (go_at_call 37; refine hcall.mono ?_; rintro e w2 ⟨rfl, hb2⟩; have HB2 := J hb2; clear hb2 hcall)
  have HK42 := J (zaG HK4.out HB2.out); have hk12 := zaG HK1.out HB2.out; have HT2 := J (AtT.below HB2.out T HT.out); have hfind := find_all (stop := -1) HSS.out HT2.out HGG.out HNT.out HWD.out (Below.refl w2.heap.size w2); simp only [AT.val] at hfind; obtain ⟨Y, hY⟩ : ∃ Y, Y = (w2.alloc (.map #[] 0)).alloc (.cells #[.string s, .slice none 0 0, .slice none 0 0, .map (some w2.heap.size), .slice none 0 0, .int .i64 (-1), .slice none 0 0] 82) := ⟨_, rfl⟩; have b2y : Below w2.heap.size w2 Y := by rw [hY]; exact zak (zad (Below.refl _ _) _) (zad (Below.refl _ _) _)
  have hky := zaG hk12 b2y; clear p0 p1 p2 p3 hk12; have p0 := zaf hky 0; have p1 := zaf hky 1; have p2 := zaf hky 2; have p3 := zaf hky 3; have l0 := zaN hky; simp at p0 p1 p2 p3; clear hky b2y; go_upto_region 4 with (fail)
  have hsz1 : (w2.alloc (.map #[] 0)).heap.size = w2.heap.size + 1 := by simp
  change Code.wp Try.prog _ _ _ ((w2.alloc (.map #[] 0)).alloc (.cells #[.string s, .slice none 0 0, .slice none 0 0, .map (some w2.heap.size), .slice none 0 0, .int .i64 (-1), .slice none 0 0] 82))
  rw [← hY]; rw [← hY] at hfind; clear hY hsz1 hmm; go_upto_region 5 with (go_at_call 38; refine hfind.mono ?_; rintro e w3 ⟨rfl, hb3, vd, vb, vl, vs, bmx, xx, hxx, hgx, hRd, hRb, hRs⟩; have HB3 := J hb3; have HGX := J hgx; have HXX := J hxx; have HRD := J hRd; have HRB := J hRb; clear hfind hb3 hgx hxx hRd hRb hRs p0 p1 p2 p3 l0)
  obtain ⟨A1, c1, e1⟩ := Kd.za4 HRD.out; obtain ⟨A2, c2, e2⟩ := Kd.za4 HRB.out; obtain ⟨n1, hn1⟩ : ∃ n1, n1 = xx.ds.length := ⟨_, rfl⟩; obtain ⟨n2, hn2⟩ : ∃ n2, n2 = xx.bs.length := ⟨_, rfl⟩; rw [← hn1] at e1; rw [← hn2] at e2; subst e1; subst e2; have hk43 := zaG HK42.out HB3.out; have HK43 := J hk43; have r0 := zaf hk43 0; have r1 := zaf hk43 1; have g0 := zab hk43 0; have g1 := zab hk43 1; have lb := zaN hk43; have t1 := zaf HGX.out 1; have t2 := zaf HGX.out 2; have l2 := zaN HGX.out; simp at r0 r1 t1 t2; clear hk43 hn1 hn2; go_wp2
  have hz := zbe (zbe HK43.out 0 (.slice A1 n1 c1)) 1 (.slice A2 n2 c2); simp at hz; have hb := zak HBX.out (zak HB2.out HB3.out); have hlt : W.heap.size + 1 < w2.heap.size := zaN HK42.out; have hds : xx.ds = (of20 s T).1 := by rw [HXX.out, HOF.out]; exact HLAW.out.1
  have hbs : xx.bs = (of20 s T).2.1 := by rw [HXX.out, HOF.out]; exact HLAW.out.2.1
  have hfar : ∀ {α : Type} {d : Kd α} {e : Nat} {v : Value} {l : List α} (V : World) (j : Nat) (u : Value), Kd.R d e V 0 (fun q => w2.heap.size ≤ q) v l → Kd.R d e (V.setCell ⟨W.heap.size + 1, j, none⟩ u) 0 (fun q => w2.heap.size ≤ q) v l := fun V j u h => Kd.R_far (p := ⟨W.heap.size + 1, j, none⟩) h (fun q hq => by show q ≠ W.heap.size + 1; omega) u
  refine bodyPost_ret (zbO rfl _ _ (W.heap.size + 1) 47 _ (0, 0) _ rfl hz Try.underlying47 rfl qb) rfl ?_
  have hb1 : W.heap.size ≤ W.heap.size + 1 := Nat.le_succ _; refine ⟨_, _, qS, (hb.setCell hb1 _).setCell hb1 _, ?_, ?_⟩
  ·rw [← hds]
   exact Kd.zbl (hfar _ _ _ (hfar _ _ _ HRD.out)) (fun q hq => q9)
  ·rw [← hbs]
   exact Kd.zbl (hfar _ _ _ (hfar _ _ _ HRB.out)) (fun q hq => q9)
def vis20 (s : ByteArray) (T : AT) (p : Int) : List S62 × Int := if mayB s T.erase then (if 0 ≤ p ∧ p < s.size then visP (seenT T 0 (-1) 0) s p else [], 0) else ([], 150)
theorem svis_calls (s : ByteArray) (T : AT) (p : Int) (W : World) (hT : AtT W T) (hby : byteT T.erase) (hn : nT T ≤ 1000000) (hs : s.size ≤ 1099511627776) :
  Calls Try.prog 15 #[.string s, T.val, .int .i64 p] W fun e W' => ∃ v, e = .returned (.tuple #[v, .int .i64 (vis20 s T p).2]) ∧ Below W.heap.size W W' ∧ Kd.R k62 62 W' 0 (fun q => W.heap.size ≤ q) v (vis20 s T p).1 := by
 obtain ⟨X, hX⟩ : ∃ V, V = W.alloc (.cells #[.int .u8 T.k, .int .u8 T.w, .int .i64 T.wd, .slice T.A T.kids.length T.c] 24) := ⟨_, rfl⟩; have HBX := J (show Below W.heap.size W X by rw [hX]; exact zad (Below.refl _ _) _)
 have HK1 := J (show X.heap[W.heap.size]? = some (.cells #[.int .u8 T.k, .int .u8 T.w, .int .i64 T.wd, .slice T.A T.kids.length T.c] 24 (0, 0)) by rw [hX]; exact heap_alloc_new _ _)
 have HT := J (AtT.below HBX.out T hT); have HNT := J hn; have HSS := J hs; have HBY := J hby; obtain ⟨bm, hbm⟩ : ∃ bm, bm = mayB s T.erase := ⟨_, rfl⟩; have hcall := smay_calls s T X HT.out hby; rw [← hbm] at hcall; have HBM := J hbm; have hun := Try.underlying24; have huf := Try.underlying82; have hmm := @run_makeMap Try.prog; simp only [AT.val] at hcall ⊢; clear hT hby hn hs hbm; go_enter Try.func15, Try.ntmps15
 go_upto_region 1 with (fail)
 change Code.wp Try.prog _ _ _ (W.alloc (.cells #[.int .u8 T.k, .int .u8 T.w, .int .i64 T.wd, .slice T.A T.kids.length T.c] 24))
 rw [← hX]; clear hX; have p0 := zaf HK1.out 0; have p1 := zaf HK1.out 1; have p2 := zaf HK1.out 2; have p3 := zaf HK1.out 3; simp at p0 p1 p2 p3; cases bm with
 | false =>
  have HOF := J (show vis20 s T p = ([], 150) by unfold vis20; rw [← HBM.out]; rfl)
  go_wp2_with (go_at_call 37; refine hcall.mono ?_; rintro e w2 ⟨rfl, hb2⟩; have HB2 := J hb2; clear hb2 hcall p0 p1 p2 p3)
  refine bodyPost_ret (results_tmp2 rfl _ _ _) rfl ?_
  exact ⟨_, qS, zak HBX.out HB2.out, Q4⟩
 | true =>
  obtain ⟨hg, htk, hk51, hwd⟩ := may_facts HBY.out HBM.out.symm; have HLAW := J (scope_law s p T hg htk hk51); have HGG := J hg; have HWD := J hwd; have HOF := J (show vis20 s T p = (if 0 ≤ p ∧ p < T.wd then visP (seenT T 0 (-1) 0) s p else [], 0) by unfold vis20; rw [← HBM.out, if_pos rfl, hwd])
  clear hg htk hk51 hwd; go_upto_region 3 with (go_at_call 37; refine hcall.mono ?_; rintro e w2 ⟨rfl, hb2⟩; have HB2 := J hb2; clear hb2 hcall)
  have hk12 := zaG HK1.out HB2.out; have HT2 := J (AtT.below HB2.out T HT.out); have hfind := find_all (stop := p) HSS.out HT2.out HGG.out HNT.out HWD.out (Below.refl w2.heap.size w2); simp only [AT.val] at hfind; obtain ⟨Y, hY⟩ : ∃ Y, Y = (w2.alloc (.map #[] 0)).alloc (.cells #[.string s, .slice none 0 0, .slice none 0 0, .map (some w2.heap.size), .slice none 0 0, .int .i64 p, .slice none 0 0] 82) := ⟨_, rfl⟩; have b2y : Below w2.heap.size w2 Y := by rw [hY]; exact zak (zad (Below.refl _ _) _) (zad (Below.refl _ _) _)
  have hky := zaG hk12 b2y; clear p0 p1 p2 p3 hk12; have p0 := zaf hky 0; have p1 := zaf hky 1; have p2 := zaf hky 2; have p3 := zaf hky 3; have l0 := zaN hky; simp at p0 p1 p2 p3; have HLB := J (show W.heap.size ≤ w2.heap.size from (zak HBX.out HB2.out).size)
  clear hky b2y; go_upto_region 4 with (fail)
  change Code.wp Try.prog _ _ _ ((w2.alloc (.map #[] 0)).alloc (.cells #[.string s, .slice none 0 0, .slice none 0 0, .map (some w2.heap.size), .slice none 0 0, .int .i64 p, .slice none 0 0] 82))
  rw [← hY]; rw [← hY] at hfind; clear hY hmm; go_upto_region 5 with (go_at_call 38; refine hfind.mono ?_; rintro e w3 ⟨rfl, hb3, vd, vb, vl, vs, bmx, xx, hxx, hgx, hRd, hRb, hRs⟩; have HB3 := J hb3; have HGX := J hgx; have HXX := J hxx; have HRS := J hRs; clear hfind hb3 hgx hxx hRd hRb hRs p0 p1 p2 p3 l0)
  obtain ⟨A1, c1, e1⟩ := Kd.za4 HRS.out; subst e1; have t6 := zaf HGX.out 6; have l2 := zaN HGX.out; simp at t6; go_wp2
  have hsh : xx.sh = (vis20 s T p).1 := by rw [HXX.out, HOF.out]; exact HLAW.out.2.2
  refine bodyPost_ret (results_tmp2 rfl _ _ _) rfl ?_
  refine ⟨_, qS, zak HBX.out (zak HB2.out HB3.out), ?_⟩
  rw [← hsh]; exact Kd.zbl HRS.out (fun q hq => Nat.le_trans HLB.out hq)
structure VsI (w3 w : World) (v : Value) (ds : List S62) : Prop where
 low : Below w3.heap.size w3 w
 rd : Kd.R k62 62 w w3.heap.size (fun q => w3.heap.size ≤ q) v ds
theorem VsI.below {w3 w w' : World} {v : Value} {ds : List S62} (h : VsI w3 w v ds) (hb : Below w.heap.size w w') : VsI w3 w' v ds :=
 ⟨zbL h.low hb h.low.size, Kd.zbx h.rd hb⟩
theorem VsI.app {w3 X Y : World} {n c : Nat} {A : Option Addr} {ds : List S62} (h : VsI w3 X (.slice A n c) ds) (hl : ds.length ≤ 1000000) (p : S62) (hY : Y = X.alloc (.cells #[.int .i64 p.f0.f0, .int .i64 p.f0.f1, .int .u8 p.f1, .bool p.f2] 62)) :
  ∃ (g cap : Nat) (w5 : World), (Builtin.append_ #[44, 44] 44 #[.slice A n c, .slice (some ⟨X.heap.size, 0, none⟩) 1 1]).run Try.prog Y = .ok (.slice (some ⟨g, 0, none⟩) (n + 1) cap) w5 ∧ VsI w3 w5 (.slice (some ⟨g, 0, none⟩) (n + 1) cap) (ds ++ [p]) := by
 have hsz := h.low.size; have hbY : Below X.heap.size X Y := by rw [hY]; exact zad (Below.refl _ _) _
 obtain ⟨g, cap, w5, hrun, hg5, hgo5, hbg5, hnl, hR5⟩ := zbN k62 62 44 h.rd hsz (fun q hq => q9) Try.underlying44 infoD72 rfl qe qe q9 hbY p [.int .i64 p.f0.f0, .int .i64 p.f0.f1, .int .u8 p.f1, .bool p.f2] Q3 (k62_mkM _ _ _ _) rfl Qs
 exact ⟨g, cap, w5, hrun, h.low.grown hg5 hsz (fun k hk => h.rd.1 k hk), hR5⟩
theorem visR_len (all : List Dc) (q : Int) : ∀ (l : List Dc) (m : Nat), (visR all q m l).length ≤ l.length
 | [], m => Nat.le_refl _
 | d :: r, m => by
  have := visR_len all q r (m + 1); simp only [visR]
  split
  ·simp only [List.length_cons]; omega
  ·simp only [List.length_cons]; omega
theorem rvis_calls (s : ByteArray) (T : AT) (p : Int) (W : World) (hT : AtT W T) (hby : byteT T.erase) (hn : nT T ≤ 1000000) (hs : s.size ≤ 1099511627776) :
  Calls Try.prog 16 #[.string s, T.val, .int .i64 p] W fun e W' => ∃ v, e = .returned (.tuple #[v, .int .i64 (vis20 s T p).2]) ∧ Below W.heap.size W W' ∧ Kd.R k62 62 W' 0 (fun q => W.heap.size ≤ q) v (vis20 s T p).1 := by
 obtain ⟨X, hX⟩ : ∃ V, V = W.alloc (.cells #[.int .u8 T.k, .int .u8 T.w, .int .i64 T.wd, .slice T.A T.kids.length T.c] 24) := ⟨_, rfl⟩; have HBX := J (show Below W.heap.size W X by rw [hX]; exact zad (Below.refl _ _) _)
 have HK1 := J (show X.heap[W.heap.size]? = some (.cells #[.int .u8 T.k, .int .u8 T.w, .int .i64 T.wd, .slice T.A T.kids.length T.c] 24 (0, 0)) by rw [hX]; exact heap_alloc_new _ _)
 have HT := J hT; have HNT := J hn; have HSS := J hs; have HBY := J hby; have hera : T.erase = ⟨T.k, T.w, T.wd, zbr T.kids⟩ := by cases T; rfl
 obtain ⟨km, hkm⟩ := may20_ev s T.k T.w T.wd (zbr T.kids) (by rw [← hera]; exact hby)
 obtain ⟨bm, hbm⟩ : ∃ bm, bm = mayB s ⟨T.k, T.w, T.wd, zbr T.kids⟩ := ⟨_, rfl⟩; have hmay := hkm km (Nat.le_refl _); rw [← hbm] at hmay; have hCk := C_of_AT _ T (Nat.lt_succ_self _) W hT; have hkc : T.kids.length ≤ T.c := by cases T; simp only [AtT] at hT; exact hT.1
 have hel := zbj T.kids; have hcall := zby.calls km s T.k T.w T.wd T.A T.c (zbr T.kids) bm X (by rw [hel]; exact Kd.za1 hCk HBX.out) (by rw [hel]; exact hkc) hmay
 rw [hel] at hcall; have HBM := J (show mayB s T.erase = bm by rw [hbm, hera])
 have hun := Try.underlying24; have hud := Try.underlying90; have huc := Try.underlying62; have hup := Try.underlying60; simp only [AT.val]; clear hT hby hn hs hera hkm hbm hmay hCk hkc hel; go_enter Try.func16, Try.ntmps16
 go_upto_region 1 with (fail)
 change Code.wp Try.prog _ _ _ (W.alloc (.cells #[.int .u8 T.k, .int .u8 T.w, .int .i64 T.wd, .slice T.A T.kids.length T.c] 24))
 rw [← hX]; clear hX; have p0 := zaf HK1.out 0; have p1 := zaf HK1.out 1; have p2 := zaf HK1.out 2; have p3 := zaf HK1.out 3; simp at p0 p1 p2 p3; cases bm with
 | false =>
  have HOF := J (show vis20 s T p = ([], 150) by unfold vis20; rw [HBM.out]; rfl)
  go_wp2_with (go_at_call 39; refine hcall.mono ?_; rintro e w2 ⟨rfl, hb2⟩; have HB2 := J hb2; clear hb2 hcall p0 p1 p2 p3)
  refine bodyPost_ret (results_tmp2 rfl _ _ _) rfl ?_
  exact ⟨_, qS, zak HBX.out HB2.out, Q4⟩
 | true =>
  have HMF := J (may_facts HBY.out HBM.out); go_upto_region 3 with (go_at_call 39; refine hcall.mono ?_; rintro e w2 ⟨rfl, hb2⟩; have HB2 := J hb2; clear hb2 hcall p0 p1 p2 p3)
  have hssl := HSS.out; by_cases hpl : p < 0
  ·have HOF := J (show vis20 s T p = ([], 0) by unfold vis20; rw [HBM.out, if_pos rfl, if_neg q9])
   go_wp2
   refine bodyPost_ret (results_tmp2 rfl _ _ _) rfl ?_
   exact ⟨_, qS, zak HBX.out HB2.out, Q4⟩
  by_cases hpr : (s.size : Int) ≤ p
  ·have HOF := J (show vis20 s T p = ([], 0) by unfold vis20; rw [HBM.out, if_pos rfl, if_neg q9])
   go_wp2
   refine bodyPost_ret (results_tmp2 rfl _ _ _) rfl ?_
   exact ⟨_, qS, zak HBX.out HB2.out, Q4⟩
  have hk12 := zaG HK1.out HB2.out; have p0 := zaf hk12 0; have p1 := zaf hk12 1; have p2 := zaf hk12 2; have p3 := zaf hk12 3; have l0 := zaN hk12; simp at p0 p1 p2 p3; have HBW2 := J (zak HBX.out HB2.out); obtain ⟨L, hL⟩ : ∃ L, L = seenT T 0 (-1) 0 := ⟨_, rfl⟩; obtain ⟨dl, hdl⟩ : ∃ dl, dl = (findS L s L.length).1 := ⟨_, rfl⟩; have hLn : L.length ≤ 1000000 := by rw [hL, zbK]; exact HNT.out
  have hdln : dl.length ≤ 1000000 := by
   have := findS_len L s L.length (Nat.le_refl _); rw [← hdl] at this; omega
  have HDL := J hdln; have HOF := J (show vis20 s T p = (visR dl p 0 dl, 0) by
   unfold vis20
   rw [HBM.out, if_pos rfl, if_pos q9, ← hL]
   unfold visP dsP
   rw [← hdl])
  obtain ⟨hg, htk, hk51, hwd⟩ := HMF.out; have hfc := find_calls s T w2 (AtT.below HBW2.out T HT.out) hg hk51 hwd HNT.out HSS.out; rw [← hL, ← hdl] at hfc; simp only [AT.val] at hfc; clear hg htk hk51 hwd hk12 hL hdl hLn hdln; go_upto_region 6 with (go_at_call 40; refine hfc.mono ?_; rintro e w3 ⟨vd, vu, m, us, rfl, hfi, hm, _⟩; have HF3 := J hfi; have HM := J hm; clear hfi hm hfc p0 p1 p2 p3 l0)
  obtain ⟨Ad, cd, ed⟩ := Kd.za4 HF3.out.rd; rw [List.length_map] at ed; subst ed; have HML := J (show m.length = dl.length by rw [← HM.out, List.length_map])
  have HRD := J (fun (w : World) (hw : Below w3.heap.size w3 w) => (Kd.zbk (HF3.out.below hw).rd).2.2)
  have hml : m.length ≤ 1000000 := by have := HML.out; have := HDL.out; omega
  have HBW3 := J (show Below W.heap.size W w3 from zak HBW2.out HF3.out.low)
  clear hssl; go_wp2
  go_loopg [10, 11] m.length (fun kq v10 v11 w' => ∃ (i : Nat) (v0 : Value) (o : List S62), v10 = v0 ∧ v11 = .int .i64 i ∧ i ≤ m.length ∧ zaa (kq = m.length - i) ∧ zaa (VsI w3 w' v0 o) ∧ zaa (o.length ≤ i) ∧ zaa (o ++ visR dl p i (dl.drop i) = visR dl p 0 dl))
  case atStart => exact ⟨0, _, [], rfl, rfl, Nat.zero_le _, ⟨rfl⟩, ⟨⟨Below.refl _ _, Kd.R_nil _ _ _ _ _⟩⟩, ⟨Nat.le_refl _⟩, ⟨by rw [List.drop_zero, List.nil_append]⟩⟩
  case round =>
   obtain ⟨i, v0, o, rfl, rfl, hi, HKQ, HVI, HOL, HOV⟩ := hrel; by_cases hlt : i < m.length
   ·obtain ⟨x, hx⟩ : ∃ x, m[i]? = some x := ⟨_, List.getElem?_eq_getElem hlt⟩
    have HXD := J (show dl[i]? = some x.1 by rw [← HM.out, List.getElem?_map, hx]; rfl)
    obtain ⟨adm, hA, q0, qq⟩ := decl_all (HRD.out wr HVI.out.low) i x hx; subst hA; obtain ⟨AC, cC, eC⟩ := Kd.za4 (HF3.out.rc x (List.mem_of_getElem? hx)); have HXI := J hx; have HRC := J (HF3.out.rc x (List.mem_of_getElem? hx)); clear hx; obtain ⟨⟨f, e, dk, ag, nm, ct, dh⟩, vC⟩ := x; simp only at eC; subst eC; have q1 := qq 1 _ qe rfl
    have q2 := qq 2 _ qe rfl
    have q3 := qq 3 _ qe rfl
    have q4 := qq 4 _ qe rfl
    have q5 := qq 5 _ qe rfl
    have q6 := qq 6 _ qe rfl
    simp only at q0 q1 q2 q3 q4 q5 q6; have hctl : ct.length ≤ 9223372036854775807 := (Kd.zbk HRC.out).2.2.2.1; have HCT := J hctl; have hcall := count_calls f e dk ag nm ct dh p AC cC wr (Kd.zbk (Kd.zbx HRC.out HVI.out.low)).2.2 hctl; obtain ⟨cb, hcb⟩ : ∃ cb, cb = countB ⟨f, e, dk, ag, nm, ct, dh⟩ p := ⟨_, rfl⟩; rw [← hcb] at hcall; have HCB := J hcb; obtain ⟨n0, c0, e0⟩ := Kd.za4 HVI.out.rd; obtain ⟨no, hno⟩ : ∃ no, no = o.length := ⟨_, rfl⟩; rw [← hno] at e0; subst e0; have HNO := J hno; clear qq hctl hcb hno; go_upto_region 11 with (go_at_call 41; refine hcall.mono ?_; rintro e_ w5 ⟨rfl, hb5⟩; have HB5 := J hb5; clear hb5 hcall q0 q1 q2 q3 q4 q5 q6)
    have HV5 := J (HVI.out.below HB5.out); obtain ⟨tg, htg⟩ : ∃ tg, tg = (cb && !((dl.drop (i + 1)).any fun d => decide (d.name = nm) && countB d p)) := ⟨_, rfl⟩
    have HTG := J htg; clear htg; go_wp2
    go_loopg [12, 13] (m.length - (i + 1)) (fun kq v12 v13 w' => ∃ (k : Nat) (lv : Bool), v12 = .bool lv ∧ v13 = .int .i64 k ∧ k ≤ m.length ∧ zaa (kq = m.length - k) ∧ zaa (Below w5.heap.size w5 w') ∧ zaa ((lv && !((dl.drop k).any fun d => decide (d.name = nm) && countB d p)) = tg))
    case atStart => exact ⟨i + 1, cb, rfl, qk, q9, ⟨rfl⟩, ⟨Below.refl _ _⟩, ⟨HTG.out.symm⟩⟩
    case round =>
     obtain ⟨k, lv, rfl, rfl, hk, HKK, HBK, HLV⟩ := hrel; have HV6 := J (HV5.out.below HBK.out); by_cases hkl : k < m.length
     ·obtain ⟨c, hc⟩ : ∃ c, m[k]? = some c := ⟨_, List.getElem?_eq_getElem hkl⟩
      have hdc : dl[k]? = some c.1 := by rw [← HM.out, List.getElem?_map, hc]; rfl
      have HDR := J (show dl.drop k = c.1 :: dl.drop (k + 1) by
       obtain ⟨h1, e1⟩ := List.getElem?_eq_some_iff.1 hdc; rw [List.drop_eq_getElem_cons h1, e1])
      obtain ⟨ad1, hA1, a0, aq⟩ := decl_all (HRD.out wr HV6.out.low) k c hc; obtain rfl := Option.some.inj hA1; obtain ⟨ad2, hA2, b0, bq⟩ := decl_all (HRD.out wr HV6.out.low) i _ HXI.out; obtain rfl := Option.some.inj hA2; obtain ⟨AK, cK_, eK⟩ := Kd.za4 (HF3.out.rc c (List.mem_of_getElem? hc)); have HCI := J hc; have HRK := J (HF3.out.rc c (List.mem_of_getElem? hc)); clear hc hdc hA1 hA2; obtain ⟨⟨kf, ke, kk, kag, knm, kct, kdh⟩, vK⟩ := c; simp only at eK; subst eK; have a4 := aq 4 _ qe rfl
      have b4 := bq 4 _ qe rfl
      simp only at a4 b4; clear aq bq a0 b0; by_cases n1 : knm = nm
      ·have e1 : (knm.toList == nm.toList) = true := by rw [n1]; simp
       obtain ⟨rb, hrb⟩ : ∃ rb, rb = countB ⟨kf, ke, kk, kag, knm, kct, kdh⟩ p := ⟨_, rfl⟩; have HLN := J (show (lv && !(rb || (dl.drop (k + 1)).any fun d => decide (d.name = nm) && countB d p)) = tg by
        have h := HLV.out; rw [HDR.out, List.any_cons] at h; simp only [n1, decide_true, Bool.true_and] at h; rw [hrb, n1]; exact h)
       have hctl : kct.length ≤ 9223372036854775807 := (Kd.zbk HRK.out).2.2.2.1; have HCF := J hrb; have HKL := J hctl; clear hrb hctl n1 a4 b4; go_upto_region 14 with (fail)
       obtain ⟨X2, hX2⟩ : ∃ X2 : World, X2 = wr.drew := ⟨_, rfl⟩; have HB2' := J (show Below wr.heap.size wr X2 by rw [hX2]; exact (Below.refl _ _).drew)
       have HV7 := J (HV6.out.below HB2'.out); have HSX := J (fun (w : World) (hw : Below w3.heap.size w3 w) => (show (w.cell? (adm.add (k * 7)) = some (.int .i64 kf) ∧ w.cell? ⟨(adm.add (k * 7)).block, (adm.add (k * 7)).off + 1, none⟩ = some (.int .i64 ke) ∧ w.cell? ⟨(adm.add (k * 7)).block, (adm.add (k * 7)).off + 2, none⟩ = some (.int .u8 kk) ∧ w.cell? ⟨(adm.add (k * 7)).block, (adm.add (k * 7)).off + 3, none⟩ = some (.bool kag) ∧ w.cell? ⟨(adm.add (k * 7)).block, (adm.add (k * 7)).off + 4, none⟩ = some (.string knm) ∧ w.cell? ⟨(adm.add (k * 7)).block, (adm.add (k * 7)).off + 5, none⟩ = some (.slice AK kct.length cK_) ∧ w.cell? ⟨(adm.add (k * 7)).block, (adm.add (k * 7)).off + 6, none⟩ = some (.int .i64 kdh)) ∧ w.cell? ⟨(adm.add (i * 7)).block, (adm.add (i * 7)).off + 4, none⟩ = some (.string nm) from by
        obtain ⟨ad2, e2, h0, hq⟩ := decl_all (HRD.out w hw) k _ HCI.out; obtain rfl := Option.some.inj e2; obtain ⟨ad3, e3, _, hq3⟩ := decl_all (HRD.out w hw) i _ HXI.out; obtain rfl := Option.some.inj e3; exact ⟨⟨h0, hq 1 _ qe rfl, hq 2 _ qe rfl, hq 3 _ qe rfl, hq 4 _ qe rfl, hq 5 _ qe rfl, hq 6 _ qe rfl⟩, hq3 4 _ qe rfl⟩))
       have HS0 := J (HSX.out X2 HV7.out.low); refine wp_region_noPanic (zba [0, 1, 2, 3, 4, 5, 6, 7, 8, 9, 10, 11, 12, 13, 14, 15, 16, 17, 18] (fun w => (w.cell? (adm.add (k * 7)) = some (.int .i64 kf) ∧ w.cell? ⟨(adm.add (k * 7)).block, (adm.add (k * 7)).off + 1, none⟩ = some (.int .i64 ke) ∧ w.cell? ⟨(adm.add (k * 7)).block, (adm.add (k * 7)).off + 2, none⟩ = some (.int .u8 kk) ∧ w.cell? ⟨(adm.add (k * 7)).block, (adm.add (k * 7)).off + 3, none⟩ = some (.bool kag) ∧ w.cell? ⟨(adm.add (k * 7)).block, (adm.add (k * 7)).off + 4, none⟩ = some (.string knm) ∧ w.cell? ⟨(adm.add (k * 7)).block, (adm.add (k * 7)).off + 5, none⟩ = some (.slice AK kct.length cK_) ∧ w.cell? ⟨(adm.add (k * 7)).block, (adm.add (k * 7)).off + 6, none⟩ = some (.int .i64 kdh)) ∧ w.cell? ⟨(adm.add (i * 7)).block, (adm.add (i * 7)).off + 4, none⟩ = some (.string nm)) mixD ?_)
       rw [← hX2]; clear hX2; refine zah 0 rfl HS0.out (fun _ h => qw) ?_
       simp only [Act.put, zai]; refine zah 1 rfl HS0.out (fun _ h => qw) ?_
       simp only [Act.put, zai]; refine zah 2 rfl HS0.out (fun _ h => qw) ?_
       simp only [Act.put, zai]; refine zah 3 rfl HS0.out (fun _ h => qw) ?_
       simp only [Act.put, zai]; refine zah 4 rfl HS0.out (fun _ h => qw) ?_
       simp only [Act.put, zai]; refine zah 5 rfl HS0.out (fun _ h => qw) ?_
       simp only [Act.put, zai]; refine zah 6 rfl HS0.out (fun _ h => qw) ?_
       simp only [Act.put, zai]; refine zah 7 rfl HS0.out (fun _ h => qw) ?_
       simp only [Act.put, zai]; refine zah 8 rfl HS0.out (fun _ h => qw) ?_
       simp only [Act.put, zai]; refine zah 9 rfl HS0.out (fun _ h => qw) ?_
       simp only [Act.put, zai]; refine zah 10 rfl HS0.out (fun _ h => qw) ?_
       simp only [Act.put, zai]; refine zah 11 rfl HS0.out (fun _ h => qw) ?_
       simp only [Act.put, zai]; refine zah 12 rfl HS0.out (fun _ h => qw) ?_
       simp only [Act.put, zai]; refine zah 13 rfl HS0.out (fun _ h => qw) ?_
       simp only [Act.put, zai]; refine zah 14 rfl HS0.out (fun _ h => qw) ?_
       simp only [Act.put, zai]; refine zah 15 rfl HS0.out (fun _ h => qw) ?_
       simp only [Act.put, zai]; refine zah 16 rfl HS0.out (fun _ h => qw) ?_
       simp only [Act.put, zai]; have hcl := Kd.zbk (Kd.zbx HRK.out HV7.out.low); have hcall := count_calls kf ke kk kag knm kct kdh p AK cK_ X2 hcl.2.2 HKL.out; rw [← HCF.out] at hcall; refine zaI (i := 17) rfl qb (fun K hK => ?_)
       go_simp
       refine hcall.mono ?_
       rintro e_ w7 ⟨rfl, hb7⟩
       have HB7 := J hb7; have HS5 := J (HSX.out w7 (HV7.out.below hb7).low); clear hcall hcl hb7; refine hK.out _ _ (fun _ => HS5.out) (fun _ => ?_)
       clear hK K; try simp only [Act.put, zai]
       cases rb with
       | false =>
        refine zah 18 rfl HS5.out (fun _ h => qw) ?_
        simp only [Act.put, zai]; refine za3 qb (NoPanic.normal ?_) _
        go_wp2
        go_roundg (m.length - (k + 1))
        case measure => have := HKK.out; omega
        case rel => exact ⟨k + 1, lv, rfl, qk, q9, ⟨rfl⟩, ⟨zak (zak HBK.out HB2'.out) HB7.out⟩, ⟨by have h := HLN.out; rw [Bool.false_or] at h; exact h⟩⟩
       | true =>
        refine zah 18 rfl HS5.out (fun _ h => qw) ?_
        simp only [Act.put, zai]; refine za3 qb (NoPanic.normal ?_) _
        go_wp2
        go_roundg (m.length - (k + 1))
        case measure => have := HKK.out; omega
        case rel => exact ⟨k + 1, false, rfl, qk, q9, ⟨rfl⟩, ⟨zak (zak HBK.out HB2'.out) HB7.out⟩, ⟨by have h := HLN.out; rw [Bool.true_or, Bool.not_true, Bool.and_false] at h; rw [Bool.false_and]; exact h⟩⟩
      ·have e1 : (knm.toList == nm.toList) = false := beq_eq_false_iff_ne.mpr (fun h => n1 (ba_inj h))
       have HLN := J (show (lv && !((dl.drop (k + 1)).any fun d => decide (d.name = nm) && countB d p)) = tg by
        have h := HLV.out; rw [HDR.out, List.any_cons] at h; simp only [n1, decide_false, Bool.false_and, Bool.false_or] at h; exact h)
       clear n1; go_upto_region 14 with (fail)
       go_quiet (fail)
       have HBQ := J (show Below wr.heap.size wr (wr.drewN nq) from ⟨rfl, rfl, rfl, Nat.le_refl _, fun _ _ => rfl⟩)
       go_wp2
       go_roundg (m.length - (k + 1))
       case measure => have := HKK.out; omega
       case rel => exact ⟨k + 1, lv, rfl, qk, q9, ⟨rfl⟩, ⟨zak HBK.out HBQ.out⟩, HLN⟩
     ·have hke : k = m.length := by omega
      have hlv : lv = tg := by
       have h := HLV.out; rw [hke, HML.out, List.drop_length] at h
       simpa using h
      have HDI := J (show dl.drop i = (⟨f, e, dk, ag, nm, ct, dh⟩ : Dc) :: dl.drop (i + 1) by
       obtain ⟨h1, e1⟩ := List.getElem?_eq_some_iff.1 HXD.out; rw [List.drop_eq_getElem_cons h1, e1])
      subst hlv; clear hke; cases lv with
      | false =>
       have HON := J (show o ++ visR dl p (i + 1) (dl.drop (i + 1)) = visR dl p 0 dl by
        have h := HOV.out; have h2 := HTG.out; rw [HDI.out] at h; simp only [visR] at h; rw [if_neg (fun h3 => by rw [HCB.out, h3.1, h3.2] at h2; cases h2)] at h
        exact h)
       go_wp2
       go_roundg (m.length - (i + 1))
       case measure => have := HKQ.out; omega
       case rel => exact ⟨i + 1, _, o, rfl, qk, q9, ⟨rfl⟩, HV6, ⟨by have := HOL.out; omega⟩, HON⟩
      | true =>
       have HON := J (show (o ++ [outD ⟨f, e, dk, ag, nm, ct, dh⟩]) ++ visR dl p (i + 1) (dl.drop (i + 1)) = visR dl p 0 dl by
        have h := HOV.out; have h2 := HTG.out.symm; rw [Bool.and_eq_true, Bool.not_eq_true'] at h2; rw [HDI.out] at h; simp only [visR] at h; rw [if_pos ⟨by rw [← HCB.out]; exact h2.1, h2.2⟩] at h
        rw [List.append_assoc]; exact h)
       obtain ⟨ad2, e2, h0_, hq⟩ := decl_all (HRD.out wr HV6.out.low) i _ HXI.out; obtain rfl := Option.some.inj e2; have q1 := hq 1 _ qe rfl
       have q2 := hq 2 _ qe rfl
       have q3 := hq 3 _ qe rfl
       simp only at h0_ q1 q2 q3; obtain ⟨z, cap, w7, hrun, hV7⟩ := HV6.out.app (by have := HOL.out; omega) (outD ⟨f, e, dk, ag, nm, ct, dh⟩) rfl
       have HV7 := J hV7; clear hq e2 hV7; go_wp2_with (at_builtin; refine wpL_app rfl _ _ _ rfl hrun ?_; clear hrun)
       go_roundg (m.length - (i + 1))
       case measure => have := HKQ.out; omega
       case rel => exact ⟨i + 1, _, _, rfl, qk, q9, ⟨rfl⟩, HV7, ⟨by rw [List.length_append, List.length_singleton]; have := HOL.out; omega⟩, HON⟩
   ·have hie : i = m.length := by omega
    have HOE := J (show o = (vis20 s T p).1 by
     have h := HOV.out; rw [hie, HML.out, List.drop_length] at h; simp only [visR, List.append_nil] at h; rw [HOF.out]; exact h)
    clear hie; go_wp2
    refine bodyPost_ret (results_tmp2 rfl _ _ _) rfl ?_
    refine ⟨_, qS, zak HBW3.out HVI.out.low, ?_⟩
    rw [← HOE.out]; exact Kd.zbz (Kd.zbl HVI.out.rd (fun q hq => Nat.le_trans HBW3.out.size hq)) (Nat.zero_le _)
theorem vis20_erase (s : ByteArray) (p : Int) {T T' : AT} (h : T.erase = T'.erase) : vis20 s T p = vis20 s T' p := by
 unfold vis20
 rw [h, visP_erase s p h]
theorem of20_len (s : ByteArray) (T : AT) : (of20 s T).1.length + (of20 s T).2.1.length ≤ nT T := by
 unfold of20
 split
 ·have h := findS_len (seenT T 0 (-1) 0) s _ (Nat.le_refl _)
  have h2 := zbK T 0 (-1) 0; simp only [List.length_map]; omega
 ·simp
theorem vis20_len (s : ByteArray) (T : AT) (p : Int) : (vis20 s T p).1.length ≤ nT T := by
 unfold vis20
 split
 ·dsimp only
  split
  ·have h := findS_len (seenT T 0 (-1) 0) s _ (Nat.le_refl _)
   have h2 := zbK T 0 (-1) 0; have h3 := visR_len (dsP (seenT T 0 (-1) 0) s (seenT T 0 (-1) 0).length) p (dsP (seenT T 0 (-1) 0) s (seenT T 0 (-1) 0).length) 0; unfold visP
   unfold dsP at h3 ⊢
   omega
  ·simp
 ·simp
def OfSaid (od : List S62 × List S95 × Int) (w : World) (e : Ending) (W' : World) : Prop := ∃ (Ad Ab : Option Addr) (cd cb : Nat), e = .returned (.tuple #[.agg #[.slice Ad od.1.length cd, .slice Ab od.2.1.length cb], .int .i64 od.2.2]) ∧ Below w.heap.size w W' ∧ Kd.C k62 W' Ad od.1.length od.1 ∧ Kd.C k95 W' Ab od.2.1.length od.2.1
def VisSaid (ov : List S62 × Int) (w : World) (e : Ending) (W' : World) : Prop := ∃ (Av : Option Addr) (cv : Nat), e = .returned (.tuple #[.slice Av ov.1.length cv, .int .i64 ov.2]) ∧ Below w.heap.size w W' ∧ Kd.C k62 W' Av ov.1.length ov.1
theorem ofs_said (s : ByteArray) (k w1 wd : Int) (l : List S24) (T : AT) (hTe : T.erase = ⟨k, w1, wd, l⟩) (hby : byteT ⟨k, w1, wd, l⟩) (hn : tsize ⟨k, w1, wd, l⟩ ≤ 1000000) (hs : s.size ≤ 1099511627776) (w : World) (A : Option Addr) (c : Nat) (hc : l.length ≤ c) (hC : Kd.C k24 w A l.length l) :
  Calls Try.prog 13 #[.string s, .agg #[.int .u8 k, .int .u8 w1, .int .i64 wd, .slice A l.length c]] w (OfSaid (of20 s T) w) ∧ Calls Try.prog 14 #[.string s, .agg #[.int .u8 k, .int .u8 w1, .int .i64 wd, .slice A l.length c]] w (OfSaid (of20 s T) w) := by
 obtain ⟨kids, hk, hT⟩ := exists_AT w _ (⟨k, w1, wd, l⟩ : S24) (Nat.lt_succ_self _) A c hc hC; have he : (AT.node k w1 wd A c kids).erase = ⟨k, w1, wd, l⟩ := by simp only [AT.erase]; rw [hk]
 have hl : kids.length = l.length := by rw [← zbj, hk]
 have e2 := of20_erase s (he.trans hTe.symm); have h1 := sof_calls s _ w hT (by rw [he]; exact hby) (by rw [nT_eq, he]; exact hn) hs
 have h2 := of20_calls s _ w hT (by rw [he]; exact hby) (by rw [nT_eq, he]; exact hn) hs
 rw [e2] at h1 h2; change Calls Try.prog 13 #[.string s, .agg #[.int .u8 k, .int .u8 w1, .int .i64 wd, .slice A kids.length c]] w _ at h1
 change Calls Try.prog 14 #[.string s, .agg #[.int .u8 k, .int .u8 w1, .int .i64 wd, .slice A kids.length c]] w _ at h2
 rw [hl] at h1 h2; refine ⟨h1.mono ?_, h2.mono ?_⟩
 ·rintro e W' ⟨vd, vb, rfl, hb, hd, hbn⟩
  obtain ⟨Ad, cd, rfl, _, hCd⟩ := Kd.zbR hd; obtain ⟨Ab, cb, rfl, _, hCb⟩ := Kd.zbR hbn; exact ⟨Ad, Ab, cd, cb, rfl, hb, hCd, hCb⟩
 ·rintro e W' ⟨vd, vb, rfl, hb, hd, hbn⟩
  obtain ⟨Ad, cd, rfl, _, hCd⟩ := Kd.zbR hd; obtain ⟨Ab, cb, rfl, _, hCb⟩ := Kd.zbR hbn; exact ⟨Ad, Ab, cd, cb, rfl, hb, hCd, hCb⟩
theorem vis_said (s : ByteArray) (p k w1 wd : Int) (l : List S24) (T : AT) (hTe : T.erase = ⟨k, w1, wd, l⟩) (hby : byteT ⟨k, w1, wd, l⟩) (hn : tsize ⟨k, w1, wd, l⟩ ≤ 1000000) (hs : s.size ≤ 1099511627776) (w : World) (A : Option Addr) (c : Nat) (hc : l.length ≤ c) (hC : Kd.C k24 w A l.length l) :
  Calls Try.prog 15 #[.string s, .agg #[.int .u8 k, .int .u8 w1, .int .i64 wd, .slice A l.length c], .int .i64 p] w (VisSaid (vis20 s T p) w) ∧ Calls Try.prog 16 #[.string s, .agg #[.int .u8 k, .int .u8 w1, .int .i64 wd, .slice A l.length c], .int .i64 p] w (VisSaid (vis20 s T p) w) := by
 obtain ⟨kids, hk, hT⟩ := exists_AT w _ (⟨k, w1, wd, l⟩ : S24) (Nat.lt_succ_self _) A c hc hC; have he : (AT.node k w1 wd A c kids).erase = ⟨k, w1, wd, l⟩ := by simp only [AT.erase]; rw [hk]
 have hl : kids.length = l.length := by rw [← zbj, hk]
 have e2 := vis20_erase s p (he.trans hTe.symm); have h1 := svis_calls s _ p w hT (by rw [he]; exact hby) (by rw [nT_eq, he]; exact hn) hs
 have h2 := rvis_calls s _ p w hT (by rw [he]; exact hby) (by rw [nT_eq, he]; exact hn) hs
 rw [e2] at h1 h2; change Calls Try.prog 15 #[.string s, .agg #[.int .u8 k, .int .u8 w1, .int .i64 wd, .slice A kids.length c], .int .i64 p] w _ at h1
 change Calls Try.prog 16 #[.string s, .agg #[.int .u8 k, .int .u8 w1, .int .i64 wd, .slice A kids.length c], .int .i64 p] w _ at h2
 rw [hl] at h1 h2; refine ⟨h1.mono ?_, h2.mono ?_⟩
 ·rintro e W' ⟨v, rfl, hb, hd⟩
  obtain ⟨Ad, cd, rfl, _, hCd⟩ := Kd.zbR hd; exact ⟨Ad, cd, rfl, hb, hCd⟩
 ·rintro e W' ⟨v, rfl, hb, hd⟩
  obtain ⟨Ad, cd, rfl, _, hCd⟩ := Kd.zbR hd; exact ⟨Ad, cd, rfl, hb, hCd⟩
theorem alike_calls (s : ByteArray) (p k w1 wd : Int) (A : Option Addr) (c : Nat) (l : List S24) (W : World) (hr : Kd.C k24 W A l.length l) (hc : l.length ≤ c) (hN : tsize ⟨k, w1, wd, l⟩ ≤ 1000000) (hby : byteT ⟨k, w1, wd, l⟩) (hs : s.size ≤ 1099511627776) :
  Calls Try.prog 7 #[.string s, .agg #[.int .u8 k, .int .u8 w1, .int .i64 wd, .slice A l.length c], .int .i64 p] W fun e W' => e = .returned (.bool true) ∧ Below W.heap.size W W' := by
 obtain ⟨X, hX⟩ : ∃ V, V = W.alloc (.cells #[.int .u8 k, .int .u8 w1, .int .i64 wd, .slice A l.length c] 24) := ⟨_, rfl⟩; have e1 : Below W.heap.size W X := by rw [hX]; exact zad (Below.refl _ _) _
 have HK1 := J (show X.heap[W.heap.size]? = some (.cells #[.int .u8 k, .int .u8 w1, .int .i64 wd, .slice A l.length c] 24 (0, 0)) by rw [hX]; exact heap_alloc_new _ _)
 have HBX := J e1; have HR := J (Kd.za1 hr e1); have HC := J hc; have HNN := J hN; obtain ⟨kids, hke, _⟩ := exists_AT X _ (⟨k, w1, wd, l⟩ : S24) (Nat.lt_succ_self _) A c hc HR.out; have hTe : (AT.node k w1 wd A c kids).erase = ⟨k, w1, wd, l⟩ := by simp only [AT.erase]; rw [hke]
 have HO := J (fun (w : World) (A' : Option Addr) (c' : Nat) (h1 : l.length ≤ c') (h2 : Kd.C k24 w A' l.length l) => ofs_said s k w1 wd l _ hTe hby hN hs w A' c' h1 h2)
 have HV := J (fun (w : World) (A' : Option Addr) (c' : Nat) (h1 : l.length ≤ c') (h2 : Kd.C k24 w A' l.length l) => vis_said s p k w1 wd l _ hTe hby hN hs w A' c' h1 h2)
 have hol := of20_len s (AT.node k w1 wd A c kids); have hvl := vis20_len s (AT.node k w1 wd A c kids) p; rw [nT_eq, hTe] at hol hvl; generalize of20 s (AT.node k w1 wd A c kids) = od at HO hol
 generalize vis20 s (AT.node k w1 wd A c kids) p = ov at HV hvl
 obtain ⟨ds, bs, er⟩ := od; obtain ⟨vs, ev⟩ := ov; have HOL := J (show ds.length + bs.length ≤ 1000000 from Nat.le_trans hol hN)
 have HVL := J (show vs.length ≤ 1000000 from Nat.le_trans hvl hN)
 obtain ⟨KT, hKT⟩ := twin_ev ⟨k, w1, wd, l⟩ q9
 have HTW := J (hKT KT (Nat.le_refl _)); clear hr hc hN hby hs hol hvl hTe hke e1 hKT; have hu := Try.underlying24; have hun := Try.underlying47; have hud := Try.underlying62; have hus := Try.underlying60; go_enter Try.func7, Try.ntmps7
 go_upto_region 1 with (fail)
 change Code.wp Try.prog _ _ _ (W.alloc (.cells #[.int .u8 k, .int .u8 w1, .int .i64 wd, .slice A l.length c] 24))
 rw [← hX]; clear hX; have p0 := zaf HK1.out 0; have p1 := zaf HK1.out 1; have p2 := zaf HK1.out 2; have p3 := zaf HK1.out 3; have l1 := zaN HK1.out; simp at p0 p1 p2 p3; go_upto_region 2 with (go_at_call 12; refine (zaQ.calls KT k w1 wd A c l k w1 wd l X HR.out HC.out HTW.out).mono ?_; rintro e w2 ⟨vt, rfl, hRt, hb2⟩; obtain ⟨At, ct, rfl, hct, hCt⟩ := Kd.zbR hRt; have HCT := J hCt; have HLT := J hct; have HB2 := J hb2; clear hRt hb2 hCt hct p0 p1 p2 p3 l1)
 obtain ⟨X3, hX3⟩ : ∃ V, V = w2.alloc (.cells #[.int .u8 k, .int .u8 w1, .int .i64 wd, .slice At l.length ct] 24) := ⟨_, rfl⟩; have HE3 := J (show Below w2.heap.size w2 X3 by rw [hX3]; exact zad (Below.refl _ _) _)
 have HK2 := J (show X3.heap[w2.heap.size]? = some (.cells #[.int .u8 k, .int .u8 w1, .int .i64 wd, .slice At l.length ct] 24 (0, 0)) by rw [hX3]; exact heap_alloc_new _ _)
 change Code.wp Try.prog _ _ _ (w2.alloc (.cells #[.int .u8 k, .int .u8 w1, .int .i64 wd, .slice At l.length ct] 24))
 rw [← hX3]; clear hX3; have HB3 := J (zak HB2.out HE3.out); have HNT := J (fun (w : World) (hw : Below X3.heap.size X3 w) => (show (w.cell? ⟨W.heap.size, 0, none⟩ = some (.int .u8 k) ∧ w.cell? ⟨W.heap.size, 1, none⟩ = some (.int .u8 w1) ∧ w.cell? ⟨W.heap.size, 2, none⟩ = some (.int .i64 wd) ∧ w.cell? ⟨W.heap.size, 3, none⟩ = some (.slice A l.length c)) ∧ (w.cell? ⟨w2.heap.size, 0, none⟩ = some (.int .u8 k) ∧ w.cell? ⟨w2.heap.size, 1, none⟩ = some (.int .u8 w1) ∧ w.cell? ⟨w2.heap.size, 2, none⟩ = some (.int .i64 wd) ∧ w.cell? ⟨w2.heap.size, 3, none⟩ = some (.slice At l.length ct)) from by
  have g1 := zaG HK1.out (zak HB3.out hw); have g3 := zaG HK2.out hw; have a0 := zaf g1 0; have a1 := zaf g1 1; have a2 := zaf g1 2; have a3 := zaf g1 3; have d0 := zaf g3 0; have d1 := zaf g3 1; have d2 := zaf g3 2; have d3 := zaf g3 3; simp at a0 a1 a2 a3 d0 d1 d2 d3; exact ⟨⟨a0, a1, a2, a3⟩, ⟨d0, d1, d2, d3⟩⟩))
 have HCN := J (fun (w : World) (hw : Below X3.heap.size X3 w) => (show Kd.C k24 w A l.length l ∧ Kd.C k24 w At l.length l from ⟨Kd.za1 HR.out (zak HB3.out hw), Kd.za1 HCT.out (zak HE3.out hw)⟩))
 have HWX := J (zak HBX.out HB3.out); clear HK1 HK2 HR HCT HE3 HB2 HB3 HBX HTW; obtain ⟨_, ⟨d0, d1, d2, d3⟩⟩ := HNT.out X3 (Below.refl _ _); go_upto_region 3 with (go_at_call 13; refine ((HO.out X3 At ct HLT.out (HCN.out X3 (Below.refl _ _)).2).1).mono ?_; rintro e w4 ⟨Ad, Ab, cd, cb, rfl, hb4, hCd, hCb⟩; have HB4 := J hb4; have HD1 := J hCd; have HB1 := J hCb; clear hb4 hCd hCb d0 d1 d2 d3)
 obtain ⟨X5, hX5⟩ : ∃ V, V = w4.alloc (.cells #[.slice Ad ds.length cd, .slice Ab bs.length cb] 47) := ⟨_, rfl⟩; have HE5 := J (show Below w4.heap.size w4 X5 by rw [hX5]; exact zad (Below.refl _ _) _)
 have HK8 := J (show X5.heap[w4.heap.size]? = some (.cells #[.slice Ad ds.length cd, .slice Ab bs.length cb] 47 (0, 0)) by rw [hX5]; exact heap_alloc_new _ _)
 change Code.wp Try.prog _ _ _ (w4.alloc (.cells #[.slice Ad ds.length cd, .slice Ab bs.length cb] 47))
 rw [← hX5]; clear hX5; have HW5 := J (zak HB4.out HE5.out); obtain ⟨⟨a0, a1, a2, a3⟩, _⟩ := HNT.out X5 HW5.out; go_upto_region 4 with (go_at_call 14; refine ((HO.out X5 A c HC.out (HCN.out X5 HW5.out).1).2).mono ?_; rintro e w6 ⟨Ad2, Ab2, cd2, cb2, rfl, hb6, hCd, hCb⟩; have HB6 := J hb6; have HD2 := J hCd; have HB2 := J hCb; clear hb6 hCd hCb a0 a1 a2 a3)
 obtain ⟨X7, hX7⟩ : ∃ V, V = w6.alloc (.cells #[.slice Ad2 ds.length cd2, .slice Ab2 bs.length cb2] 47) := ⟨_, rfl⟩; have HE7 := J (show Below w6.heap.size w6 X7 by rw [hX7]; exact zad (Below.refl _ _) _)
 have HK10 := J (show X7.heap[w6.heap.size]? = some (.cells #[.slice Ad2 ds.length cd2, .slice Ab2 bs.length cb2] 47 (0, 0)) by rw [hX7]; exact heap_alloc_new _ _)
 change Code.wp Try.prog _ _ _ (w6.alloc (.cells #[.slice Ad2 ds.length cd2, .slice Ab2 bs.length cb2] 47))
 rw [← hX7]; clear hX7; have HW7 := J (zak HW5.out (zak HB6.out HE7.out)); have HNM := J (fun (w : World) (hw : Below X7.heap.size X7 w) => (show (w.cell? ⟨w4.heap.size, 0, none⟩ = some (.slice Ad ds.length cd) ∧ w.cell? ⟨w4.heap.size, 1, none⟩ = some (.slice Ab bs.length cb)) ∧ (w.cell? ⟨w6.heap.size, 0, none⟩ = some (.slice Ad2 ds.length cd2) ∧ w.cell? ⟨w6.heap.size, 1, none⟩ = some (.slice Ab2 bs.length cb2)) from by
  have g1 := zaG HK8.out (zak HB6.out (zak HE7.out hw)); have g3 := zaG HK10.out hw; have a0 := zaf g1 0; have a1 := zaf g1 1; have d0 := zaf g3 0; have d1 := zaf g3 1; simp at a0 a1 d0 d1; exact ⟨⟨a0, a1⟩, ⟨d0, d1⟩⟩))
 have HDN := J (fun (w : World) (hw : Below X7.heap.size X7 w) => (show (Kd.C k62 w Ad ds.length ds ∧ Kd.C k95 w Ab bs.length bs) ∧ Kd.C k62 w Ad2 ds.length ds ∧ Kd.C k95 w Ab2 bs.length bs from
  have h6 := zak HE7.out hw; have h4 := zak HE5.out (zak HB6.out h6)
  ⟨⟨Kd.za1 HD1.out h4, Kd.za1 HB1.out h4⟩, Kd.za1 HD2.out h6, Kd.za1 HB2.out h6⟩))
 clear HK8 HK10 HD1 HB1 HD2 HB2 HE5 HE7 HB4 HB6 HW5 HO; obtain ⟨_, ⟨d0, d1, d2, d3⟩⟩ := HNT.out X7 HW7.out; go_upto_region 5 with (go_at_call 15; refine ((HV.out X7 At ct HLT.out (HCN.out X7 HW7.out).2).1).mono ?_; rintro e w8 ⟨Av, cv, rfl, hb8, hCv⟩; have HB8 := J hb8; have HV1 := J hCv; clear hb8 hCv d0 d1 d2 d3)
 have HW8 := J (zak HW7.out HB8.out); obtain ⟨⟨a0, a1, a2, a3⟩, _⟩ := HNT.out w8 HW8.out; go_upto_region 6 with (go_at_call 16; refine ((HV.out w8 A c HC.out (HCN.out w8 HW8.out).1).2).mono ?_; rintro e w9 ⟨Av2, cv2, rfl, hb9, hCv⟩; have HB9 := J hb9; have HV2 := J hCv; clear hb9 hCv a0 a1 a2 a3)
 have HW9 := J (zak HW8.out HB9.out); have HX9 := J (zak HB8.out HB9.out); have HV1' := J (Kd.za1 HV1.out HB9.out); clear HV1 HV HB8 HB9; obtain ⟨⟨a0, a1, a2, a3⟩, ⟨d0, d1, d2, d3⟩⟩ := HNT.out w9 HW9.out; obtain ⟨⟨n0, n1⟩, ⟨m0, m1⟩⟩ := HNM.out w9 HX9.out; have e1 : (er != er) = false := by simp
 have e2 : (ev != ev) = false := by simp
 have e3 : ((vs.length : Int) != (vs.length : Int)) = false := by simp
 go_upto_region 8 with (first | (go_at_call 17; refine (rnames_calls Ad Ab Ad2 Ab2 cd cb cd2 cb2 ds bs w9 (HDN.out w9 HX9.out).1.1 (HDN.out w9 HX9.out).1.2 (HDN.out w9 HX9.out).2.1 (HDN.out w9 HX9.out).2.2 HOL.out).mono ?_; rintro e w10 ⟨rfl, hd_⟩; have HB10 := J hd_; clear hd_ a0 a1 a2 a3 d0 d1 d2 d3 n0 n1 m0 m1; have HW10 := J (zak HW9.out HB10.out); obtain ⟨⟨a0, a1, a2, a3⟩, ⟨d0, d1, d2, d3⟩⟩ := HNT.out w10 HW10.out) | (go_at_call 18; refine (rself_calls _ (⟨k, w1, wd, l⟩ : S24) (Nat.lt_succ_self _) (by have := HNN.out; omega) At A ct c w10 HLT.out HC.out (HCN.out w10 HW10.out).2 (HCN.out w10 HW10.out).1).mono ?_; rintro e w11 ⟨rfl, hd_⟩; have HB11 := J hd_; clear hd_ a0 a1 a2 a3 d0 d1 d2 d3))
 have HB910 := J (zak HB10.out HB11.out); have HU1 := J (Kd.za1 HV1'.out HB910.out); have HU2 := J (Kd.za1 HV2.out HB910.out); have HWW := J (zak HWX.out (zak HW9.out HB910.out)); clear HV1' HV2 HB910 HB10 HB11 HW10 HW9 HX9 HW8 HW7 HNT HNM HCN HDN e1 e2 e3; go_wp2_with fail
 go_loopg [16] vs.length (fun kq v16 wr => ∃ i : Nat, v16 = .int .i64 i ∧ i ≤ vs.length ∧ zaa (kq = vs.length - i) ∧ zaa (Below w11.heap.size w11 wr))
 case atStart => exact ⟨0, rfl, Nat.zero_le _, ⟨rfl⟩, ⟨Below.refl _ _⟩⟩
 case round =>
  obtain ⟨i, rfl, hi, HK, HW⟩ := hrel; have hn := HVL.out; by_cases hlt : i < vs.length
  ·obtain ⟨ad, eA, p0, p1, p2, p3⟩ := at_T62 (Kd.za1 HU1.out HW.out) (i : Int) q9 q9
   obtain ⟨bd, eB, q0, q1, q2, q3⟩ := at_T62 (Kd.za1 HU2.out HW.out) (i : Int) q9 q9
   subst eA; subst eB; rw [Int.toNat_natCast] at p0 p1 p2 p3 q0 q1 q2 q3; obtain ⟨⟨⟨x0, x1⟩, x2, x3⟩, hx⟩ : ∃ x, x = rd_T62 vs (i : Int) := ⟨_, rfl⟩; rw [← hx] at p0 p1 p2 p3 q0 q1 q2 q3; clear hx; go_upto_region 11 with (fail)
   go_quiet (fail)
   go_wp2
   go_roundg (vs.length - (i + 1))
   case measure => have := HK.out; omega
   case rel => exact ⟨i + 1, qk, q9, ⟨rfl⟩, ⟨HW.out.trans ⟨rfl, rfl, rfl, Nat.le_refl _, fun _ _ => rfl⟩⟩⟩
  ·go_wp2
   go_ret
   exact ⟨rfl, zak HWW.out HW.out⟩
theorem rd_bounds {l : List S40} (h : ∀ t ∈ l, 0 ≤ t.f0 ∧ t.f0 ≤ 255) (i : Nat) (hi : i < l.length) : 0 ≤ (zbI l i).f0 ∧ (zbI l i).f0 ≤ 255 := by
 have e : zbI l (i : Int) = l[i] := by
  unfold zbI
  rw [Int.toNat_natCast, List.getD_eq_getElem?_getD, List.getElem?_eq_getElem hi]
  rfl
 rw [e]; exact h _ (List.getElem_mem hi)
theorem nv_tree {b : Nat} {ok : Nat → Prop} {W : World} {k w wd : Int} {v : Value} {l : List S24} {N : Nat} (h : NV b ok W k w wd v l N) : byteT ⟨k, w, wd, l⟩ ∧ tsize ⟨k, w, wd, l⟩ ≤ N := by
 refine ⟨by simp only [byteT]; exact ⟨h.kb, h.wb, h.lb⟩, ?_⟩
 have := h.size; simp only [tsize]; omega
theorem texts_law (s : ByteArray) (p : Int) (W : World) :
  Calls Try.prog 3 #[.string s, .int .i64 p] W fun e W' => e = .returned (.bool true) ∧ Below W.heap.size W W' := by
 have hu := Try.underlying24; by_cases hl : 3000 < s.size
 ·have hl' : (3000 : Int) < (s.size : Int) := by omega
  go_enter Try.func3, Try.ntmps3
  go_wp2
  go_ret
  exact ⟨rfl, Below.refl _ _⟩
 have hl' : ¬ (3000 : Int) < (s.size : Int) := by omega
 obtain ⟨K, lt, hK, hlen, hkinds⟩ := lex_all s q9
 have HLX := J hK; have HLN := J hlen; have HKI := J (rd_bounds hkinds); clear hK hlen hkinds; go_enter Try.func3, Try.ntmps3
 go_upto_region 4 with (first | (go_at_call 6; refine (zaZ.calls K s lt W HLX.out).mono ?_; rintro e w1 ⟨v1, rfl, hR, hB1⟩; obtain ⟨A1, c1, rfl, hc1, hC1⟩ := Kd.zbR hR; have HB1 := J hB1; have HC1 := J hC1; have HK1 := J hc1; clear hR hB1 hC1 hc1) | (go_at_call 5; refine (file_calls A1 c1 lt w1 HC1.out HK1.out HLN.out HKI.out).mono ?_; rintro e w2 ⟨v, er, rfl, k, w, wd, u, l, rfl, hN, hB⟩; obtain ⟨A2, c2, rfl, hc2, hC2⟩ := Kd.zaL hN.row; have HT := J (nv_tree hN); have HB := J (HB1.out.trans (hB.mono HB1.out.size)); have HC2 := J hC2; have HK2 := J hc2; clear hN hB hC2 hc2))
 have hb3 : Below w2.heap.size w2 (w2.alloc (nodeO k w wd (.slice A2 l.length c2))) := zad (Below.refl _ _) _; have HB3 := J (HB.out.trans (hb3.mono HB.out.size)); have HC3 := J (Kd.za1 HC2.out hb3); obtain ⟨b7, hb7⟩ : ∃ b7, b7 = w2.heap.size := ⟨_, rfl⟩; have HK7 := J (heap_alloc_new w2 (nodeO k w wd (.slice A2 l.length c2))); obtain ⟨Y, hY⟩ : ∃ Y, Y = w2.alloc (nodeO k w wd (.slice A2 l.length c2)) := ⟨_, rfl⟩; rw [← hY, ← hb7] at HK7; rw [← hY] at HB3 HC3; change Code.wp Try.prog _ _ _ (w2.alloc (nodeO k w wd (.slice A2 l.length c2)))
 rw [← hY, ← hb7]; clear hY hb3 hb7; obtain ⟨x0, x1, x2, x3⟩ := (zaB HK7.out).1; go_wp2_with (go_at_call 7; refine (alike_calls s p k w wd A2 c2 l Y HC3.out HK2.out (by have := HT.out.2; omega) HT.out.1 q9).mono ?_; rintro e w4 ⟨rfl, hb4⟩; have HB4 := J (zak HB3.out hb4); clear hb4)
 go_ret
 exact ⟨rfl, HB4.out⟩
end Go.Proofs.Ytobgkpnigjfhmaa.H
