import Derived.Test.YtcfeijdcanpflaaQHWalksLaw
import Derived.Test.YtcfeijdcanpflaaQPureTreeWalks
set_option linter.unusedVariables false
set_option linter.unusedSimpArgs false
namespace Go.Proofs.Ytcfeijdcanpflaa.H
open Go.RowKit Go.Proofs.YtcfeijdcanpflaaW.PrintWords Go.Proofs.YtcfeijdcanpflaaW.PrintLast Go.Proofs.YtcfeijdcanpflaaW.PrintMore
def WalksFacts (k : Nat) (l0 : List S62) (l1 : List S60) : Prop :=
  (∃ r1 r2 r3 r4, glossatorlaw15_Grow.f k l0 = some (r1, r2, r3, r4, false)) ∨ ∃ (t : S26) (b : Bool), glossatorlaw15_Grow.f k l0 = some (t.f0, t.f1, t.f2, t.f3, true) ∧ glossatorref15_Twin.f k t.f0 t.f1 t.f2 t.f3 = some (t.f0, t.f1, t.f2, t.f3) ∧
    glossatorref15_All.f k t.f0 t.f1 t.f2 t.f3 = some ((allT t).map seenS) ∧ tsize t ≤ 3000 ∧
    (∀ x ∈ allT t, glossatorref15_Same.f k x.1.f0 x.1.f1 x.1.f2 x.1.f3 x.1.f0 x.1.f1 x.1.f2 x.1.f3 = some true) ∧
    tree_Leaves.f t.f0 t.f1 t.f2 t.f3 = some (leavesS (allT t)) ∧ glossatorref15_Leaves.f k t.f0 t.f1 t.f2 t.f3 = some (leavesS (allT t)) ∧
    (∀ x ∈ leavesS (allT t), glossatorref15_Same.f k x.f0 x.f1 x.f2 x.f3 x.f0 x.f1 x.f2 x.f3 = some true) ∧
    tree_Fits.f k t.f0 t.f1 t.f2 t.f3 l1 = some b ∧ glossatorref15_Fits.f k t.f0 t.f1 t.f2 t.f3 l1 = some b ∧
    glossatorref15_Same.f k t.f0 t.f1 t.f2 t.f3 t.f0 t.f1 t.f2 t.f3 = some true
noncomputable def glossatorlaw15_TreeWalks.f (k : Nat) (l0 : List S62) (l1 : List S60) (a2 : Int) : Option Bool := @ite _ (WalksFacts k l0 l1) (Classical.propDecidable _) (some true) none
theorem glossatorlaw15_TreeWalks.calls (k : Nat) (A0 : Option Addr) (c0 : Nat) (l0 : List S62) (A1 : Option Addr) (c1 : Nat) (l1 : List S60) (a2 : Int) (r : Bool) (w : World)
    (hr0 : Kd.C k62 w A0 l0.length l0) (hc0 : l0.length ≤ c0) (hr1 : Kd.C k60 w A1 l1.length l1) (hc1 : l1.length ≤ c1) (h : glossatorlaw15_TreeWalks.f k l0 l1 a2 = some r) :
    Calls Try.prog 4 #[.slice A0 l0.length c0, .slice A1 l1.length c1, .int .i64 a2] w fun e w' => e = .returned (.bool r) ∧ Below w.heap.size w w' := by
  unfold glossatorlaw15_TreeWalks.f at h
  by_cases hf : WalksFacts k l0 l1
  case neg => rw [if_neg hf] at h; cases h
  rw [if_pos hf] at h
  cases h
  rcases hf with ⟨r1, r2, r3, r4, hG⟩ | ⟨t, b, hG, hT, hA, hsz, hS, hL, hL2, hSl, hF, hF2, hSt⟩
  · exact walks_no k A0 c0 l0 A1 c1 l1 a2 w hr0 hc0 r1 r2 r3 r4 hG
  · exact walks_yes k A0 c0 l0 A1 c1 l1 a2 w hr0 hc0 hr1 hc1 t b hG hT hA hsz hS hL hL2 hSl hF hF2 hSt
theorem leavesS_size {t : S26} {x : S26} (h : x ∈ leavesS (allT t)) : tsize x ≤ 1 := by
  unfold leavesS at h
  obtain ⟨y, _, rfl⟩ := List.mem_map.1 h
  simp [tsize, lsize]
theorem walks_facts (l0 : List S62) (l1 : List S60) (hr : ∀ r ∈ l0, rowOk r) (hl : l1.length ≤ 1000000000000000) : ∃ k, WalksFacts k l0 l1 := by
  rcases Grow_ev l0 hr with ⟨K, h⟩ | ⟨t, h, hb, ht⟩
  · exact ⟨K, .inl ⟨_, _, _, _, h K (Nat.le_refl _)⟩⟩
  · obtain ⟨K1, h1⟩ := h
    obtain ⟨K2, h2⟩ := twin_ev t (by omega)
    obtain ⟨K3, h3⟩ := all_ev t hb (by omega)
    obtain ⟨K4, h4⟩ := Ev.all (g := fun m (x : S26 × Int × Int) => glossatorref15_Same.f m x.1.f0 x.1.f1 x.1.f2 x.1.f3 x.1.f0 x.1.f1 x.1.f2 x.1.f3) (r := fun _ => true) (allT t) (fun x hx => same_refl x.1 (by have := (preT_mem t 0 0 x (allT_mem hx).2).1; omega))
    obtain ⟨K5, h5⟩ := rleaves_ev t hb (by omega)
    obtain ⟨K6, h6⟩ := Ev.all (g := fun m (x : S26) => glossatorref15_Same.f m x.f0 x.f1 x.f2 x.f3 x.f0 x.f1 x.f2 x.f3) (r := fun _ => true) (leavesS (allT t)) (fun x hx => same_refl x (by have := leavesS_size hx; omega))
    obtain ⟨K7, h7⟩ := fits_ev t l1 (by omega) hl
    obtain ⟨K8, h8⟩ := rfits_ev t l1 hb (by omega)
    obtain ⟨K9, h9⟩ := same_refl t (by omega)
    obtain ⟨K, e1, e2, e3, e4, e5, e6, e7, e8, e9⟩ : ∃ K, K1 ≤ K ∧ K2 ≤ K ∧ K3 ≤ K ∧ K4 ≤ K ∧ K5 ≤ K ∧ K6 ≤ K ∧ K7 ≤ K ∧ K8 ≤ K ∧ K9 ≤ K := ⟨K1 + K2 + K3 + K4 + K5 + K6 + K7 + K8 + K9, by omega, by omega, by omega, by omega, by omega, by omega, by omega, by omega, by omega⟩
    exact ⟨K, .inr ⟨t, fitsT t l1, h1 K e1, h2 K e2, h3 K e3, ht, h4 K e4, leaves_prog t (by omega), h5 K e5, h6 K e6, h7 K e7, h8 K e8, h9 K e9⟩⟩
end Go.Proofs.Ytcfeijdcanpflaa.H
namespace Go.Proofs.Ytcfeijdcanpflaa.Pure
open Go.RowKit Go.Proofs.Ytcfeijdcanpflaa.H Go.Proofs.YtcfeijdcanpflaaW.PrintWords Go.Proofs.YtcfeijdcanpflaaW.PrintLast Go.Proofs.YtcfeijdcanpflaaW.PrintMore
theorem TreeWalks (l0 : List S62) (l1 : List S60) (a2 : Int) (hb0 : l0.length * 24 ≤ 140737488351232) (hp0 : ∀ t ∈ l0, (Lit.int .i64 t.f0).wf = true ∧ (Lit.int .u8 t.f1).wf = true ∧ (Lit.int .u8 t.f2).wf = true ∧ (Lit.int .i64 t.f3).wf = true)
    (hb1 : l1.length * 24 ≤ 140737488351232) (hp1 : ∀ t ∈ l1, (Lit.int .u8 t.f0).wf = true ∧ (Lit.int .i64 t.f1).wf = true ∧ (Lit.int .i64 t.f2).wf = true) (h2 : (Lit.int .i64 a2).wf = true) :
    ∃ k, glossatorlaw15_TreeWalks.f k l0 l1 a2 = some true := by
  obtain ⟨K, hK⟩ := walks_facts l0 l1 (fun r hr => by
    have := hp0 r hr
    exact ⟨bounds_u8 this.2.1, bounds_u8 this.2.2.1⟩) (by omega)
  exact ⟨K, by unfold glossatorlaw15_TreeWalks.f; rw [if_pos hK]⟩
end Go.Proofs.Ytcfeijdcanpflaa.Pure
