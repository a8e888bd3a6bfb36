/- tree.Print's contract in the printer's own form (over the table of powers). -/
import Derived.Test.YtcfeijdcanpflaaDoorQHPrint
set_option linter.unusedVariables false
set_option linter.unusedSimpArgs false
namespace Go.Proofs.YtcfeijdcanpflaaDoor.H
open Go.RowKit Go.Proofs.YtcfeijdcanpflaaDoorW.PrintWords Go.Proofs.YtcfeijdcanpflaaDoorW.PrintLast Go.Proofs.YtcfeijdcanpflaaDoorW.PrintMore
open Classical in
noncomputable def tree_Print.f (a0_0 : Int) (a0_1 : Int) (a0_2 : Int) (l0_3 : List (S25)) : Option (ByteArray × Int) := if tsize ⟨a0_0, a0_1, a0_2, l0_3⟩ ≤ 2000000 ∧ byteT ⟨a0_0, a0_1, a0_2, l0_3⟩ then some (printT ⟨a0_0, a0_1, a0_2, l0_3⟩) else none
theorem tree_Print.calls (a0_0 : Int) (a0_1 : Int) (a0_2 : Int) (A0_3 : Option Addr) (c0_3 : Nat) (l0_3 : List (S25)) (r : ByteArray × Int) (w : World) (hr0_3 : Kd.C k25 w A0_3 l0_3.length l0_3) (hc0_3 : l0_3.length ≤ c0_3) (h : tree_Print.f a0_0 a0_1 a0_2 l0_3 = some r) (htab : Tab w) :
    Calls Tryd.prog 13 #[.agg #[.int .u8 a0_0, .int .u8 a0_1, .int .i64 a0_2, .slice A0_3 l0_3.length c0_3]] w fun e w' => e = .returned (.tuple #[.string r.1, .int .i64 r.2]) ∧ Below w.heap.size w w' := by
  unfold tree_Print.f at h
  by_cases hsz : tsize ⟨a0_0, a0_1, a0_2, l0_3⟩ ≤ 2000000 ∧ byteT ⟨a0_0, a0_1, a0_2, l0_3⟩
  case neg => rw [if_neg hsz] at h; cases h
  rw [if_pos hsz] at h
  cases h
  obtain ⟨kids, he, hT⟩ := exists_AT w _ ⟨a0_0, a0_1, a0_2, l0_3⟩ (Nat.lt_succ_self _) A0_3 c0_3 hc0_3 hr0_3
  simp only at he hT
  subst he
  have hL := print_in (.node a0_0 a0_1 a0_2 A0_3 c0_3 kids) w hT (by simpa only [AT.erase] using hsz.2) (by simpa only [AT.erase] using hsz.1) htab
  simp only [AT.k, AT.w, AT.wd, AT.A, AT.c, AT.kids, AT.erase] at hL
  rw [eraseL_length]
  exact hL
end Go.Proofs.YtcfeijdcanpflaaDoor.H
