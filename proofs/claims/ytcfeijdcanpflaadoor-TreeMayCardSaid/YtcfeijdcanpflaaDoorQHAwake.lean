/- The law's awake. -/
import Derived.Test.YtcfeijdcanpflaaDoorQHPrintC
import Derived.Test.YtcfeijdcanpflaaDoorQHExample
import Derived.Test.YtcfeijdcanpflaaDoorQHTreeGet
set_option linter.unusedVariables false
set_option linter.unusedSimpArgs false
namespace Go.Proofs.YtcfeijdcanpflaaDoor.H
open Go.RowKit Go.Proofs.YtcfeijdcanpflaaDoorW.PrintWords Go.Proofs.YtcfeijdcanpflaaDoorW.PrintLast Go.Proofs.YtcfeijdcanpflaaDoorW.PrintMore
def exT : S25 := ⟨51, 0, 7, [⟨53, 0, 7, [⟨10, 0, 3, []⟩, ⟨1, 0, 1, []⟩, ⟨6, 0, 1, []⟩, ⟨26, 0, 1, []⟩, ⟨50, 60, 0, []⟩, ⟨25, 0, 1, []⟩]⟩]⟩
theorem EX_erase (g h : Nat) : (EX g h).erase = exT := by simp [EX, AT.erase, eraseL, exT]
theorem ex_print : printT exT = (⟨#[70, 105, 108, 101, 32, 48, 45, 55, 10, 32, 76, 101, 116, 32, 48, 45, 55, 10, 32, 32, 108, 101, 116, 32, 48, 45, 51, 10, 32, 32, 98, 108, 97, 110, 107, 32, 51, 45, 52, 10, 32, 32, 110, 97, 109, 101, 32, 52, 45, 53, 10, 32, 32, 61, 32, 53, 45, 54, 10, 32, 32, 63, 69, 120, 112, 114, 32, 54, 45, 54, 10, 32, 32, 59, 32, 54, 45, 55, 10]⟩, 0) := by decide +kernel
theorem ex_get : getF exT [0, 4] = (50, 60, 0, [], 6, 6, true) := by
  unfold getF
  rw [if_pos (by decide +kernel)]
  kernel_rfl
theorem ex_byte : byteT exT := by simp [exT, byteT, byteL]
theorem ex_size : tsize exT ≤ 2000000 := by simp [exT, tsize, lsize]
theorem two_C {X : World} {b : Nat} {x y : Int} {t : TypeId} (h : X.heap[b]? = some (.cells #[.int .i64 x, .int .i64 y] t (0, 0))) : Kd.C (Kd.int .i64) X (some ⟨b, 0, none⟩) 2 [x, y] := by
  refine ⟨rfl, by decide, fun _ => ⟨_, rfl, fun j p hj => ?_⟩⟩
  match j, hj with
  | 0, hj => simp at hj; subst hj; exact ⟨[.int .i64 x], rfl, rfl, fun i u hu => by
      have hi : i = 0 := by have := (List.getElem?_eq_some_iff.1 hu).1; simpa using this
      subst hi
      simp at hu
      subst hu
      rw [show (⟨b, 0, none⟩ : Addr).add (0 * (Kd.int IntKind.i64).sz + 0) = ⟨b, 0, none⟩ from rfl, blk_cell h]
      rfl⟩
  | 1, hj => simp at hj; subst hj; exact ⟨[.int .i64 y], rfl, rfl, fun i u hu => by
      have hi : i = 0 := by have := (List.getElem?_eq_some_iff.1 hu).1; simpa using this
      subst hi
      simp at hu
      subst hu
      rw [show (⟨b, 0, none⟩ : Addr).add (1 * (Kd.int IntKind.i64).sz + 0) = ⟨b, 1, none⟩ from rfl, blk_cell h]
      rfl⟩
theorem ex_get_calls (g h : Nat) (X : World) (b : Nat) {t : TypeId} (hT : AtT X (EX g h)) (hb : X.heap[b]? = some (.cells #[.int .i64 0, .int .i64 4] t (0, 0))) :
    Calls Tryd.prog 11 #[(EX g h).val, .slice (some ⟨b, 0, none⟩) 2 2] X fun e w' => ∃ A c, e = .returned (.tuple #[.agg #[.int .u8 50, .int .u8 60, .int .i64 0, .slice A 0 c], .agg #[.int .i64 6, .int .i64 6], .bool true]) ∧ Below X.heap.size X w' := by
  obtain ⟨K, hK⟩ := get_ev exT [0, 4] (by decide) ex_size
  have h1 := hK K (Nat.le_refl _)
  rw [ex_get] at h1
  have hC := C_of_AT _ (EX g h) (Nat.lt_succ_self _) X hT
  have e3 : eraseL (EX g h).kids = exT.f3 := by simp [EX, AT.kids, AT.erase, eraseL, exT]
  rw [e3] at hC
  refine (tree_Get.calls K exT.f0 exT.f1 exT.f2 (fun k => k < X.heap.size) (some ⟨h, 0, none⟩) 1 exT.f3 (some ⟨b, 0, none⟩) 2 [0, 4] 50 60 0 [] 6 6 true X (Kd.V_mk (Nat.le_refl _) (Kd.C_F heap25 hC)) (two_C hb) (Nat.le_refl _) h1).mono ?_
  rintro e w' ⟨v, rfl, hv, hb⟩
  obtain ⟨A, c, rfl⟩ := Kd.V_slice hv
  exact ⟨A, c, rfl, hb⟩
theorem right_lone (k : Int) (X : World) : Calls Tryd.prog 10 #[.agg #[.int .u8 k, .int .u8 0, .int .i64 0, .slice none 0 0]] X fun e w' => e = .returned (.bool (okB ⟨k, 0, 0, []⟩)) ∧ Below X.heap.size X w' :=
  tree_Right.calls k 0 0 none 0 [] (okB ⟨k, 0, 0, []⟩) X (Kd.C_nil _ _) (Nat.le_refl _) (right_prog _ _ _ _)
theorem ok_name : okB ⟨6, 0, 0, []⟩ = false := by decide +kernel
theorem ok_block : okB ⟨52, 0, 0, []⟩ = true := by decide +kernel
set_option maxHeartbeats 8000000 in
set_option maxRecDepth 100000 in
theorem awake_calls (w : World) (htab : Tab w) : Calls Tryd.prog 7 #[] w fun e w' => e = .returned (.bool true) ∧ Below w.heap.size w w' := by
  have hu := Tryd.underlying25
  have hus := Tryd.underlying34
  have HTAB := Aside0.mk htab
  clear htab
  go_enter Tryd.func7, Tryd.ntmps7
  go_wp2_with (go_at_call 21; refine (example_calls _).mono ?_; rintro e w1 ⟨g, h, rfl, hT1, hb1⟩)
  have hp := print_in (EX g h) w1 hT1 (by rw [EX_erase]; exact ex_byte) (by rw [EX_erase]; exact ex_size) (HTAB.out.below hb1)
  rw [EX_erase, ex_print] at hp
  have HP := Aside0.mk hp
  clear hp hT1
  refine HP.out.mono ?_
  rintro e w2 ⟨rfl, hb2⟩
  clear HP
  go_wp2_with (go_at_call 21; refine (example_calls _).mono ?_; rintro e w3 ⟨g3, h3, rfl, hT3, hb3⟩)
  obtain ⟨X, hX⟩ : ∃ X, X = w3.alloc (.cells #[.int .i64 0, .int .i64 4] 3) := ⟨_, rfl⟩
  have hbX : Below w3.heap.size w3 X := by rw [hX]; exact below_alloc (Below.refl _ _) _
  rw [← hX]
  refine (ex_get_calls g3 h3 X w3.heap.size (AtT.below hbX _ hT3) (by rw [hX]; exact heap_alloc_new _ _)).mono ?_
  rintro e w4 ⟨A, c, rfl, hb4⟩
  have HB4 := Aside0.mk (below_step (below_step (below_step (below_step hb1 hb2) hb3) hbX) hb4)
  clear hb1 hb2 hb3 hbX hb4 hX hT3
  go_wp2_with (go_at_call 10; refine (right_lone _ _).mono ?_; rintro e w5 ⟨rfl, hb5⟩; first | (rw [ok_name]; have HA5 := Aside0.mk hb5; clear hb5) | rw [ok_block])
  go_ret
  refine ⟨rfl, below_step (below_step (below_step (below_step HB4.out (below_alloc (Below.refl _ _) _)) (below_alloc (Below.refl _ _) _)) HA5.out) hb5⟩
def glossatorlaw15_awake.f : Option Bool := some true
theorem glossatorlaw15_awake.calls (r : Bool) (w : World) (h : glossatorlaw15_awake.f = some r) (htab : Tab w) : Calls Tryd.prog 7 #[] w fun e w' => e = .returned (.bool r) ∧ Below w.heap.size w w' := by
  cases h
  exact awake_calls w htab
end Go.Proofs.YtcfeijdcanpflaaDoor.H
