/- Texts of this claim, merged. -/
import Derived.Test.YtceddikbmbadlaaZ3
set_option linter.unusedVariables false
set_option linter.unusedSimpArgs false
namespace Go.Proofs.Ytceddikbmbadlaa.H
open Go.RowKit Go.Proofs.YtceddikbmbadlaaW.PrintWords Go.Proofs.YtceddikbmbadlaaW.PrintLast Go.Proofs.YtceddikbmbadlaaW.PrintMore
def Tot {α : Type} (g : Nat → Option α) (p : α → Prop) : Prop := ∃ v, Ev g v ∧ p v
section
variable {α β : Type} {f g : Nat → Option α} {p q : α → Prop}
theorem Tot.some {v : α} (h : p v) : Tot (fun _ => some v) p := ⟨v, ⟨0, fun _ _ => rfl⟩, h⟩
theorem Tot.step (h : ∀ k, g (k + 1) = f k) (t : Tot f p) : Tot g p := by
 obtain ⟨v, hv, hp⟩ := t; exact ⟨v, Ev.step h hv, hp⟩
theorem Tot.ite {c : Prop} [Decidable c] (h : c → Tot f p) (h' : ¬ c → Tot g p) : Tot (fun k => if c then f k else g k) p := by
 by_cases hc : c
 ·simpa [hc] using h hc
 ·simpa [hc] using h' hc
theorem Tot.bind {u : Nat → Option β} {r : β → Prop} {g : Nat → β → Option α} (h : Tot u r) (h' : ∀ v, r v → Tot (fun k => g k v) p) : Tot (fun k => (u k).bind (g k)) p := by
 obtain ⟨v, hv, hr⟩ := h; obtain ⟨w, hw, hp⟩ := h' v hr; exact ⟨w, Ev.bind hv hw, hp⟩
theorem Tot.mono (h : Tot f p) (hq : ∀ v, p v → q v) : Tot f q := by
 obtain ⟨v, hv, hp⟩ := h; exact ⟨v, hv, hq v hp⟩
theorem Tot.const {o : Option α} {v : α} (h : o = Option.some v) (hp : p v) : Tot (fun _ => o) p := ⟨v, ⟨0, fun _ _ => h⟩, hp⟩
end
theorem zbm {x : Int} (h0 : -9223372036854775808 ≤ x) (h1 : x ≤ 9223372036854775807) : wrap64 x = x := by unfold wrap64; omega
theorem blank_tot (c : Int) : ∃ b, za6.f c = some b := by
 unfold za6.f
 repeat' split
 all_goals exact ⟨_, rfl⟩
theorem letter_tot (c : Int) : ∃ b, za1.f c = some b := by
 unfold za1.f
 repeat' split
 all_goals exact ⟨_, rfl⟩
theorem digit_tot (c : Int) : ∃ b, zaY.f c = some b := by
 unfold zaY.f
 repeat' split
 all_goals exact ⟨_, rfl⟩
def OneP (s : ByteArray) (at_ : Int) (v : Int × Int) : Prop := (0 ≤ v.1 ∧ v.1 ≤ 255) ∧ at_ < v.2 ∧ v.2 ≤ s.size
theorem one_l0 (s : ByteArray) (hs : (s.size : Int) ≤ 3000) (at_ : Int) (h0 : 0 ≤ at_) : ∀ (n : Nat) (i : Int), (s.size : Int) - i ≤ n → (at_ < i ∨ (i = at_ ∧ i < s.size ∧ za6.f (bt s i) = some true)) → i ≤ s.size → Tot (fun k => zao.l0 k s i) (OneP s at_)
 | n, i, hn, hi, hi2 => by
  apply Tot.step
  ·intro k; rw [zao.l0]
  refine Tot.ite (fun hc => ?_) (fun hc => Tot.some ⟨by constructor <;> simp, by simp only; omega, hi2⟩)
  refine Tot.ite (fun hc2 => ?_) (fun hc2 => absurd (show (0 : Int) ≤ i by omega) hc2)
  obtain ⟨b, hb⟩ := blank_tot (bt s i); refine Tot.bind (Tot.const hb (p := fun v => v = b) rfl) (fun v hv => ?_)
  refine Tot.ite (fun hc3 => ?_) (fun hc3 => Tot.some ⟨by constructor <;> simp, ?_, hi2⟩)
  rotate_left
  ·rcases hi with hi | ⟨rfl, _, hi⟩
   ·exact hi
   ·rw [hi] at hb; exact absurd (hv.trans (Option.some.inj hb).symm) hc3
  rw [zbm (x := i + 1) (by omega) (by omega)]
  match n, hn with
  | 0, hn => omega
  | n + 1, hn => exact one_l0 s hs at_ h0 n (i + 1) (by omega) (.inl (by omega)) (by omega)
theorem one_l2 (s : ByteArray) (hs : (s.size : Int) ≤ 3000) (at_ : Int) (h0 : 0 ≤ at_) : ∀ (n : Nat) (i : Int), (s.size : Int) - i ≤ n → (at_ < i ∨ (i = at_ ∧ i < s.size ∧ zaY.f (bt s i) = some true)) → i ≤ s.size → Tot (fun k => zao.l2 k s i) (OneP s at_)
 | n, i, hn, hi, hi2 => by
  apply Tot.step
  ·intro k; rw [zao.l2]
  refine Tot.ite (fun hc => ?_) (fun hc => Tot.some ⟨by constructor <;> simp, by simp only; omega, hi2⟩)
  refine Tot.ite (fun hc2 => ?_) (fun hc2 => absurd (show (0 : Int) ≤ i by omega) hc2)
  obtain ⟨b, hb⟩ := digit_tot (bt s i); refine Tot.bind (Tot.const hb (p := fun v => v = b) rfl) (fun v hv => ?_)
  refine Tot.ite (fun hc3 => ?_) (fun hc3 => Tot.some ⟨by constructor <;> simp, ?_, hi2⟩)
  rotate_left
  ·rcases hi with hi | ⟨rfl, _, hi⟩
   ·exact hi
   ·rw [hi] at hb; exact absurd (hv.trans (Option.some.inj hb).symm) hc3
  rw [zbm (x := i + 1) (by omega) (by omega)]
  match n, hn with
  | 0, hn => omega
  | n + 1, hn => exact one_l2 s hs at_ h0 n (i + 1) (by omega) (.inl (by omega)) (by omega)
theorem word_l0 (w : ByteArray) (l : List ByteArray) (hl : l.length = 8) : ∀ (n : Nat) (i : Int), 8 - i ≤ n → 0 ≤ i → i ≤ 8 → Tot (fun k => zaK.l0 k w l i) (fun v => 0 ≤ v ∧ v ≤ 255)
 | n, i, hn, hi, hi2 => by
  apply Tot.step
  ·intro k; rw [zaK.l0]
  refine Tot.ite (fun hc => ?_) (fun hc => Tot.some (by decide))
  refine Tot.ite (fun hc2 => ?_) (fun hc2 => absurd hi hc2)
  refine Tot.ite (fun hc3 => Tot.some (by omega)) (fun hc3 => ?_)
  rw [zbm (x := i + 1) (by omega) (by omega)]
  match n, hn with
  | 0, hn => omega
  | n + 1, hn => exact word_l0 w l hl n (i + 1) (by omega) (by omega) (by omega)
theorem word_tot (w : ByteArray) : Tot (fun k => zaK.f k w) (fun v => 0 ≤ v ∧ v ≤ 255) := word_l0 w _ rfl 8 0 (by omega) (by omega) (by omega)
theorem one_l1 (s : ByteArray) (hs : (s.size : Int) ≤ 3000) (at_ : Int) (h0 : 0 ≤ at_) : ∀ (n : Nat) (i : Int), (s.size : Int) - i ≤ n → (at_ < i ∨ (i = at_ ∧ i < s.size ∧ za1.f (bt s i) = some true)) → i ≤ s.size → Tot (fun k => zao.l1 k s at_ i) (OneP s at_)
 | n, i, hn, hi, hi2 => by
  have hw : at_ < i → ∀ (w : ByteArray), Tot (fun k => (zaK.f k w).bind fun t => some (t, i)) (OneP s at_) := fun hi w =>
   Tot.bind (g := fun _ t => some (t, i)) (word_tot w) (fun v hv => Tot.some ⟨hv, hi, hi2⟩)
  have hstep : Tot (fun k => zao.l1 k s at_ (wrap64 (i + 1))) (OneP s at_) ∨ ¬ i < (s.size : Int) := by
   by_cases hc : i < (s.size : Int)
   ·refine .inl ?_
    rw [zbm (x := i + 1) (by omega) (by omega)]
    match n, hn with
    | 0, hn => omega
    | n + 1, hn => exact one_l1 s hs at_ h0 n (i + 1) (by omega) (.inl (by omega)) (by omega)
   ·exact .inr hc
  apply Tot.step
  ·intro k; rw [zao.l1]
  refine Tot.ite (fun hc => ?_) (fun hc => ?_)
  ·have hst := hstep.resolve_right (fun h => h hc)
   refine Tot.ite (fun hc2 => ?_) (fun hc2 => absurd (show (0 : Int) ≤ i by omega) hc2)
   obtain ⟨b, hb⟩ := letter_tot (bt s i); refine Tot.bind (Tot.const hb (p := fun v => v = b) rfl) (fun v hv => ?_)
   refine Tot.ite (fun hc3 => hst) (fun hc3 => ?_)
   have hlt : at_ < i := by
    rcases hi with hi | ⟨rfl, _, hi⟩
    ·exact hi
    ·rw [hi] at hb; exact absurd (hv.trans (Option.some.inj hb).symm) hc3
   obtain ⟨b2, hb2⟩ := digit_tot (bt s i); refine Tot.bind (Tot.const hb2 (p := fun _ => True) trivial) (fun v _ => ?_)
   refine Tot.ite (fun hc3 => hst) (fun hc3 => ?_)
   refine Tot.ite (fun _ => ?_) (fun h => absurd h0 h)
   refine Tot.ite (fun _ => ?_) (fun h => absurd (show at_ ≤ i by omega) h)
   refine Tot.ite (fun _ => hw (by omega) _) (fun h => absurd hi2 h)
  ·refine Tot.ite (fun _ => ?_) (fun h => absurd h0 h)
   refine Tot.ite (fun _ => ?_) (fun h => absurd (show at_ ≤ i by omega) h)
   refine Tot.ite (fun _ => hw (by omega) _) (fun h => absurd hi2 h)
theorem slash_l0 (s : ByteArray) (hs : (s.size : Int) ≤ 3000) (at_ : Int) (h0 : 0 ≤ at_) (ha : at_ < s.size) : ∀ (n : Nat) (i : Int), (s.size : Int) - i ≤ n → (at_ < i ∨ (i = at_ ∧ bt s i = 47)) → i ≤ s.size → Tot (fun k => zal.l0 k s i) (OneP s at_)
 | n, i, hn, hi, hi2 => by
  apply Tot.step
  ·intro k; rw [zal.l0]
  refine Tot.ite (fun hc => ?_) (fun hc => Tot.some ⟨by constructor <;> simp, by simp only; omega, hi2⟩)
  refine Tot.ite (fun hc2 => ?_) (fun hc2 => absurd (show (0 : Int) ≤ i by omega) hc2)
  refine Tot.ite (fun hc3 => Tot.some ⟨by constructor <;> simp, by simp only; omega, hi2⟩) (fun hc3 => ?_)
  refine Tot.ite (fun hc4 => Tot.some ⟨by constructor <;> simp, by simp only; omega, hi2⟩) (fun hc4 => ?_)
  rw [zbm (x := i + 1) (by omega) (by omega)]
  match n, hn with
  | 0, hn => omega
  | n + 1, hn => exact slash_l0 s hs at_ h0 ha n (i + 1) (by omega) (.inl (by omega)) (by omega)
theorem slash_l1 (s : ByteArray) (hs : (s.size : Int) ≤ 3000) (at_ : Int) (h0 : 0 ≤ at_) (ha : at_ < s.size) : ∀ (n : Nat) (i : Int), (s.size : Int) + 3 - i ≤ n → at_ < i → i ≤ s.size + 2 → Tot (fun k => zal.l1 k s i) (OneP s at_)
 | n, i, hn, hi, hi2 => by
  apply Tot.step
  ·intro k; rw [zal.l1]
  rw [zbm (x := i + 1) (by omega) (by omega), zbm (x := i + 2) (by omega) (by omega)]
  refine Tot.ite (fun hc => ?_) (fun hc => Tot.some ⟨by constructor <;> simp, by simp only; omega, by simp only; omega⟩)
  have hst : Tot (fun k => zal.l1 k s (i + 1)) (OneP s at_) := by
   match n, hn with
   | 0, hn => omega
   | n + 1, hn => exact slash_l1 s hs at_ h0 ha n (i + 1) (by omega) (by omega) (by omega)
  refine Tot.ite (fun hc2 => ?_) (fun hc2 => absurd (show (0 : Int) ≤ i by omega) hc2)
  refine Tot.ite (fun hc2 => ?_) (fun hc2 => absurd (show i < (s.size : Int) by omega) hc2)
  refine Tot.ite (fun hc3 => ?_) (fun hc3 => hst)
  refine Tot.ite (fun hc4 => ?_) (fun hc4 => absurd (show (0 : Int) ≤ i + 1 by omega) hc4)
  exact Tot.ite (fun hc5 => Tot.some ⟨by constructor <;> simp, by simp only; omega, by simp only; omega⟩) (fun hc5 => hst)
theorem slash_tot (s : ByteArray) (hs : (s.size : Int) ≤ 3000) (at_ : Int) (h0 : 0 ≤ at_) (ha : at_ < s.size) (h47 : bt s at_ = 47) : Tot (fun k => zal.f k s at_) (OneP s at_) := by
 have hj2 : ∀ b, Tot (fun k => zal.j2 k s at_ b) (OneP s at_) := fun b => by
  apply Tot.step
  ·intro k; rw [zal.j2]
  refine Tot.ite (fun _ => ?_) (fun _ => ?_)
  ·rw [zbm (x := at_ + 2) (by omega) (by omega)]
   exact slash_l1 s hs at_ h0 ha ((s.size : Int) + 3).toNat (at_ + 2) (by omega) (by omega) (by omega)
  ·rw [zbm (x := at_ + 1) (by omega) (by omega)]
   exact Tot.some ⟨by constructor <;> simp, by simp only; omega, by simp only; omega⟩
 have hj0 : ∀ b, Tot (fun k => zal.j0 k s at_ b) (OneP s at_) := fun b => by
  apply Tot.step
  ·intro k; rw [zal.j0]
  rw [zbm (x := at_ + 1) (by omega) (by omega)]
  refine Tot.ite (fun _ => slash_l0 s hs at_ h0 ha (s.size : Int).toNat at_ (by omega) (.inr ⟨rfl, h47⟩) (by omega)) (fun _ => ?_)
  refine Tot.ite (fun _ => ?_) (fun _ => hj2 _)
  exact Tot.ite (fun _ => hj2 _) (fun h => absurd (show (0 : Int) ≤ at_ + 1 by omega) h)
 unfold zal.f
 rw [zbm (x := at_ + 1) (by omega) (by omega)]
 refine Tot.ite (fun _ => ?_) (fun _ => hj0 _)
 exact Tot.ite (fun _ => hj0 _) (fun h => absurd (show (0 : Int) ≤ at_ + 1 by omega) h)
def NextP (s : ByteArray) (i : Int) (v : Int × Int × Bool) : Prop := v.2.2 = true → 1 ≤ v.2.1 ∧ i + v.2.1 ≤ s.size
theorem next_no (s : ByteArray) (i a b : Int) : NextP s i (a, b, false) := fun h => by cases h
theorem next_l0 (s : ByteArray) (hs : (s.size : Int) ≤ 3000) (i : Int) (h0 : 0 ≤ i) (c : Int) (hc0 : 1 ≤ c) (hc1 : c ≤ 4) (hi : i + c ≤ s.size) : ∀ (n : Nat) (x j : Int), c - j ≤ n → 0 ≤ j → j ≤ c → Tot (fun k => zaj.l0 k s i c x j) (NextP s i)
 | n, x, j, hn, hj, hj2 => by
  apply Tot.step
  ·intro k; rw [zaj.l0]
  rw [zbm (x := i + j) (by omega) (by omega)]
  refine Tot.ite (fun hc => ?_) (fun hc => ?_)
  ·refine Tot.ite (fun _ => ?_) (fun h => absurd (show 0 ≤ i + j by omega) h)
   refine Tot.ite (fun _ => ?_) (fun h => absurd (show i + j < (s.size : Int) by omega) h)
   refine Tot.ite (fun _ => Tot.some (next_no s i _ _)) (fun _ => ?_)
   refine Tot.ite (fun _ => Tot.some (next_no s i _ _)) (fun _ => ?_)
   rw [zbm (x := j + 1) (by omega) (by omega)]
   match n, hn with
   | 0, hn => omega
   | n + 1, hn => exact next_l0 s hs i h0 c hc0 hc1 hi n _ (j + 1) (by omega) (by omega) (by omega)
  ·refine Tot.bind (g := fun _ y => if 0 ≤ c then if c < (y.length : Int) then _ else _ else _) (Tot.const rfl (p := fun y => y = [0, 0, 128, 2048, 65536]) rfl) (fun y hy => ?_)
   subst hy; refine Tot.ite (fun _ => ?_) (fun h => absurd (show 0 ≤ c by omega) h)
   refine Tot.ite (fun _ => ?_) (fun h => absurd (show c < (([0, 0, 128, 2048, 65536] : List Int).length : Int) by simp; omega) h)
   have hy : Tot (fun _ => some (wrap32 x, c, true)) (NextP s i) := Tot.some (fun _ => ⟨hc0, hi⟩)
   refine Tot.ite (fun _ => Tot.some (next_no s i _ _)) (fun _ => ?_)
   refine Tot.ite (fun _ => Tot.some (next_no s i _ _)) (fun _ => ?_)
   refine Tot.ite (fun _ => ?_) (fun _ => hy)
   exact Tot.ite (fun _ => Tot.some (next_no s i _ _)) (fun _ => hy)
theorem next_tot (s : ByteArray) (hs : (s.size : Int) ≤ 3000) (i : Int) (h0 : 0 ≤ i) (hi : i ≤ s.size) : Tot (fun k => zaj.f k s i) (NextP s i) := by
 have hj3 : ∀ c x : Int, 1 ≤ c → c ≤ 4 → Tot (fun k => zaj.j3 k s i c x) (NextP s i) := fun c x c0 c1 => by
  apply Tot.step
  ·intro k; rw [zaj.j3]
  rw [zbm (x := i + c) (by omega) (by omega)]
  exact Tot.ite (fun _ => Tot.some (next_no s i _ _)) (fun h => next_l0 s hs i h0 c c0 c1 (by omega) c.toNat x 1 (by omega) (by omega) (by omega))
 have hj2 : ∀ (x : Int) (b : Bool), Tot (fun k => zaj.j2 k s i x b) (NextP s i) := fun x b => by
  apply Tot.step
  ·intro k; rw [zaj.j2]
  refine Tot.ite (fun _ => hj3 _ _ (by omega) (by omega)) (fun _ => ?_)
  refine Tot.ite (fun _ => ?_) (fun _ => Tot.some (next_no s i _ _))
  exact Tot.ite (fun _ => hj3 _ _ (by omega) (by omega)) (fun _ => Tot.some (next_no s i _ _))
 have hj1 : ∀ (x : Int) (b : Bool), Tot (fun k => zaj.j1 k s i x b) (NextP s i) := fun x b => by
  apply Tot.step
  ·intro k; rw [zaj.j1]
  refine Tot.ite (fun _ => hj3 _ _ (by omega) (by omega)) (fun _ => ?_)
  exact Tot.ite (fun _ => hj2 _ _) (fun _ => hj2 _ _)
 have hj0 : ∀ (b : Bool), (b = false → i < s.size) → Tot (fun k => zaj.j0 k s i b) (NextP s i) := fun b hb => by
  apply Tot.step
  ·intro k; rw [zaj.j0]
  refine Tot.ite (fun _ => Tot.some (next_no s i _ _)) (fun hbn => ?_)
  have hlt := hb (by simpa using hbn)
  refine Tot.ite (fun _ => ?_) (fun h => absurd h0 h)
  refine Tot.ite (fun _ => ?_) (fun h => absurd hlt h)
  refine Tot.ite (fun _ => Tot.some (fun _ => ⟨by simp, by simp only; omega⟩)) (fun _ => ?_)
  exact Tot.ite (fun _ => hj1 _ _) (fun _ => hj1 _ _)
 unfold zaj.f
 refine Tot.ite (fun h => absurd h0 (by omega)) (fun _ => hj0 _ (fun h => ?_))
 have := of_decide_eq_false h; omega
theorem size_tot (s : ByteArray) (hs : (s.size : Int) ≤ 3000) (i : Int) (h0 : 0 ≤ i) (hi : i < s.size) : Tot (fun k => zaT.f k s i) (fun v => 1 ≤ v ∧ i + v ≤ s.size) := by
 unfold zaT.f
 refine Tot.bind (g := fun _ b => if b.2.2 = true then some b.2.1 else some 1) (next_tot s hs i h0 (by omega)) (fun v hv => ?_)
 exact Tot.ite (fun h => Tot.some (hv h)) (fun _ => Tot.some ⟨by omega, by omega⟩)
theorem quoted_tot (s : ByteArray) (hs : (s.size : Int) ≤ 3000) (at_ : Int) (h0 : 0 ≤ at_) : ∀ (n : Nat) (i : Int), (s.size : Int) - i ≤ n → at_ < i → i ≤ s.size → Tot (fun k => zat.l0 k s i) (OneP s at_)
 | n, i, hn, hi, hi2 => by
  have hj1 : ∀ b : Bool, (b = true → i < s.size) → Tot (fun k => zat.j1 k s i b) (OneP s at_) := fun b hb => by
   apply Tot.step
   ·intro k; rw [zat.j1]
   refine Tot.ite (fun hbt => ?_) (fun _ => Tot.some ⟨by constructor <;> simp, hi, hi2⟩)
   have hlt := hb hbt; have hsz : ∀ j : Int, i ≤ j → j < s.size → Tot (fun k => (zaT.f k s j).bind fun t => zat.l0 k s (wrap64 (j + t))) (OneP s at_) := fun j hj hj2 =>
    Tot.bind (g := fun k t => zat.l0 k s (wrap64 (j + t))) (size_tot s hs j (by omega) hj2) (fun v hv => by
     rw [zbm (x := j + v) (by omega) (by omega)]
     match n, hn with
     | 0, hn => omega
     | n + 1, hn => exact quoted_tot s hs at_ h0 n (j + v) (by omega) (by omega) (by omega))
   refine Tot.ite (fun _ => ?_) (fun h => absurd (show 0 ≤ i by omega) h)
   refine Tot.ite (fun _ => ?_) (fun h => absurd hlt h)
   rw [zbm (x := i + 1) (by omega) (by omega)]
   refine Tot.ite (fun _ => Tot.some ⟨by constructor <;> simp, by simp only; omega, by simp only; omega⟩) (fun _ => ?_)
   refine Tot.ite (fun _ => ?_) (fun _ => hsz i (by omega) hlt)
   refine Tot.ite (fun _ => Tot.some ⟨by constructor <;> simp, by simp only; omega, by simp only; omega⟩) (fun hne => ?_)
   refine Tot.ite (fun _ => ?_) (fun h => absurd (show 0 ≤ i + 1 by omega) h)
   refine Tot.ite (fun _ => ?_) (fun h => absurd (show i + 1 < (s.size : Int) by omega) h)
   refine Tot.ite (fun _ => Tot.some ⟨by constructor <;> simp, by simp only; omega, by simp only; omega⟩) (fun _ => ?_)
   refine Tot.ite (fun _ => Tot.some ⟨by constructor <;> simp, by simp only; omega, by simp only; omega⟩) (fun _ => ?_)
   exact hsz (i + 1) (by omega) (by omega)
  apply Tot.step
  ·intro k; rw [zat.l0]
  refine Tot.ite (fun hc => ?_) (fun hc => hj1 _ (fun h => by cases h))
  refine Tot.ite (fun _ => ?_) (fun h => absurd (show 0 ≤ i by omega) h)
  exact Tot.ite (fun _ => hj1 _ (fun h => by cases h)) (fun _ => hj1 _ (fun _ => hc))
theorem rd_byte (l : List Int) (h : ∀ x ∈ l, 0 ≤ x ∧ x ≤ 255) (i : Int) : 0 ≤ rd l i ∧ rd l i ≤ 255 := by
 unfold rd
 rw [List.getD_eq_getElem?_getD]; rcases Nat.lt_or_ge i.toNat l.length with hk | hk
 ·rw [List.getElem?_eq_getElem hk]
  exact h _ (List.getElem_mem hk)
 ·rw [List.getElem?_eq_none hk]
  exact ⟨by simp, by simp⟩
theorem sign_l1 (s : ByteArray) (hs : (s.size : Int) ≤ 3000) (at_ : Int) (h0 : 0 ≤ at_) (ha : at_ < s.size) (b : ByteArray) (l : List Int) (hb : b.size = 14) (hl : l.length = 14) (hk : ∀ x ∈ l, 0 ≤ x ∧ x ≤ 255) :
  ∀ (n : Nat) (i : Int), 14 - i ≤ n → 0 ≤ i → i ≤ 14 → Tot (fun k => zaz.l1 k s at_ b l i) (OneP s at_)
 | n, i, hn, hi, hi2 => by
  apply Tot.step
  ·intro k; rw [zaz.l1]
  refine Tot.ite (fun hc => ?_) (fun hc => ?_)
  ·refine Tot.ite (fun _ => ?_) (fun h => absurd h0 h)
   refine Tot.ite (fun _ => ?_) (fun h => absurd ha h)
   refine Tot.ite (fun _ => ?_) (fun h => absurd hi h)
   refine Tot.ite (fun _ => ?_) (fun _ => ?_)
   ·refine Tot.ite (fun _ => Tot.some ⟨rd_byte l hk i, ?_, ?_⟩) (fun h => absurd (show i < (l.length : Int) by omega) h)
    ·rw [zbm (x := at_ + 1) (by omega) (by omega)]; simp only; omega
    ·rw [zbm (x := at_ + 1) (by omega) (by omega)]; simp only; omega
   ·rw [zbm (x := i + 1) (by omega) (by omega)]
    match n, hn with
    | 0, hn => omega
    | n + 1, hn => exact sign_l1 s hs at_ h0 ha b l hb hl hk n (i + 1) (by omega) (by omega) (by omega)
  ·refine Tot.bind (g := fun _ t => some (5, wrap64 (at_ + t))) (size_tot s hs at_ h0 ha) (fun v hv => ?_)
   rw [zbm (x := at_ + v) (by omega) (by omega)]
   exact Tot.some ⟨by constructor <;> simp, by simp only; omega, by simp only; omega⟩
theorem sign_l0 (s : ByteArray) (hs : (s.size : Int) ≤ 3000) (at_ : Int) (h0 : 0 ≤ at_) (ha : at_ < s.size) (b : List ByteArray) (l : List Int) (hb : b.length = 6) (hl : l.length = 6) (hk : ∀ x ∈ l, 0 ≤ x ∧ x ≤ 255) :
  ∀ (n : Nat) (i : Int), 6 - i ≤ n → 0 ≤ i → i ≤ 6 → Tot (fun k => zaz.l0 k s at_ b l i) (OneP s at_)
 | n, i, hn, hi, hi2 => by
  apply Tot.step
  ·intro k; rw [zaz.l0]
  rw [zbm (x := at_ + 2) (by omega) (by omega)]
  have hst : i < (b.length : Int) → Tot (fun k => zaz.l0 k s at_ b l (wrap64 (i + 1))) (OneP s at_) := fun hlt => by
   rw [zbm (x := i + 1) (by omega) (by omega)]
   match n, hn with
   | 0, hn => omega
   | n + 1, hn => exact sign_l0 s hs at_ h0 ha b l hb hl hk n (i + 1) (by omega) (by omega) (by omega)
  refine Tot.ite (fun hc => ?_) (fun hc => ?_)
  ·refine Tot.ite (fun hc2 => ?_) (fun _ => hst hc)
   refine Tot.ite (fun _ => ?_) (fun h => absurd h0 h)
   refine Tot.ite (fun _ => ?_) (fun h => absurd (show at_ ≤ at_ + 2 by omega) h)
   refine Tot.ite (fun _ => ?_) (fun h => absurd hi h)
   refine Tot.ite (fun _ => ?_) (fun _ => hst hc)
   exact Tot.ite (fun _ => Tot.some ⟨rd_byte l hk i, by simp only; omega, by simp only; omega⟩) (fun h => absurd (show i < (l.length : Int) by omega) h)
  ·exact sign_l1 s hs at_ h0 ha _ _ rfl rfl (by decide) 14 0 (by omega) (by omega) (by omega)
theorem sign_tot (s : ByteArray) (hs : (s.size : Int) ≤ 3000) (at_ : Int) (h0 : 0 ≤ at_) (ha : at_ < s.size) : Tot (fun k => zaz.f k s at_) (OneP s at_) :=
 sign_l0 s hs at_ h0 ha _ _ rfl rfl (by decide) 6 0 (by omega) (by omega) (by omega)
theorem one_tot (s : ByteArray) (hs : (s.size : Int) ≤ 3000) (at_ : Int) (h0 : 0 ≤ at_) (ha : at_ < s.size) : Tot (fun k => zao.f k s at_) (OneP s at_) := by
 unfold zao.f
 refine Tot.ite (fun _ => ?_) (fun h => absurd h0 h)
 refine Tot.ite (fun _ => ?_) (fun h => absurd ha h)
 obtain ⟨b, hb⟩ := blank_tot (bt s at_); refine Tot.bind (Tot.const hb (p := fun v => v = b) rfl) (fun v hv => ?_)
 refine Tot.ite (fun hc => one_l0 s hs at_ h0 (s.size : Int).toNat at_ (by omega) (.inr ⟨rfl, ha, by rw [hb, ← hv, hc]⟩) (by omega)) (fun _ => ?_)
 have hpair : ∀ (g : Nat → Option (Int × Int)), Tot g (OneP s at_) → Tot (fun k => (g k).bind fun b => some (b.1, b.2)) (OneP s at_) := fun g hg =>
  Tot.bind (g := fun _ b => some (b.1, b.2)) hg (fun v hv => Tot.some hv)
 refine Tot.ite (fun h47 => hpair _ (slash_tot s hs at_ h0 ha h47)) (fun _ => ?_)
 obtain ⟨b2, hb2⟩ := letter_tot (bt s at_); refine Tot.bind (Tot.const hb2 (p := fun v => v = b2) rfl) (fun v hv => ?_)
 refine Tot.ite (fun hc => one_l1 s hs at_ h0 (s.size : Int).toNat at_ (by omega) (.inr ⟨rfl, ha, by rw [hb2, ← hv, hc]⟩) (by omega)) (fun _ => ?_)
 obtain ⟨b3, hb3⟩ := digit_tot (bt s at_); refine Tot.bind (Tot.const hb3 (p := fun v => v = b3) rfl) (fun v hv => ?_)
 refine Tot.ite (fun hc => one_l2 s hs at_ h0 (s.size : Int).toNat at_ (by omega) (.inr ⟨rfl, ha, by rw [hb3, ← hv, hc]⟩) (by omega)) (fun _ => ?_)
 refine Tot.ite (fun _ => hpair _ ?_) (fun _ => hpair _ (sign_tot s hs at_ h0 ha))
 unfold zat.f
 rw [zbm (x := at_ + 1) (by omega) (by omega)]
 exact quoted_tot s hs at_ h0 (s.size : Int).toNat (at_ + 1) (by omega) (by omega) (by omega)
theorem step_tot (x c : Int) : Tot (fun k => zam.f k x c) (fun _ => True) := by
 have hj2 : ∀ (y : Int) (b : Bool), Tot (fun k => zam.j2 k x c y b) (fun _ => True) := fun y b => by
  apply Tot.step
  ·intro k; rw [zam.j2]
  repeat' first | exact Tot.some trivial | refine Tot.ite (fun _ => ?_) (fun _ => ?_)
 have hj1 : ∀ (y : Int) (b : Bool), Tot (fun k => zam.j1 k x c y b) (fun _ => True) := fun y b => by
  apply Tot.step
  ·intro k; rw [zam.j1]
  repeat' first | exact Tot.some trivial | exact hj2 _ _ | refine Tot.ite (fun _ => ?_) (fun _ => ?_)
 have hj0 : ∀ (b : Bool), (b = false → 0 ≤ c ∧ c ≤ 23) → Tot (fun k => zam.j0 k x c b) (fun _ => True) := fun b hb => by
  apply Tot.step
  ·intro k; rw [zam.j0]
  refine Tot.ite (fun _ => Tot.some trivial) (fun hbn => ?_)
  have hr := hb (by simpa using hbn)
  refine Tot.ite (fun _ => ?_) (fun _ => ?_)
  ·refine Tot.bind (g := fun _ y => if 0 ≤ c then if c < (y.length : Int) then some (rd y c) else none else none) (Tot.const rfl (p := fun y => y = [34, 1, 1, 7, 8, 9, 34, 2, 32, 12, 14, 16, 18, 20, 22, 24, 25, 26, 27, 28, 29, 30, 31, 33]) rfl) (fun y hy => ?_)
   have hy : y.length = 24 := by rw [hy]; rfl
   refine Tot.ite (fun _ => ?_) (fun h => absurd hr.1 h)
   exact Tot.ite (fun _ => Tot.some trivial) (fun h => absurd (show c < (y.length : Int) by omega) h)
  ·repeat' first | exact Tot.some trivial | exact hj1 _ _ | refine Tot.ite (fun _ => ?_) (fun _ => ?_)
 unfold zam.f
 refine Tot.ite (fun _ => hj0 _ (fun h => by cases h)) (fun h => hj0 _ (fun h2 => ?_))
 have := of_decide_eq_false h2; omega
theorem class_tot (x : Int) : Tot (fun k => zah.f k x) (fun _ => True) := by
 have hj3 : ∀ (b : Bool), Tot (fun k => zah.j3 k x b) (fun _ => True) := fun b => by
  apply Tot.step
  ·intro k; rw [zah.j3]
  repeat' first | exact Tot.some trivial | refine Tot.ite (fun _ => ?_) (fun _ => ?_)
 have hj2 : ∀ (b : Bool), Tot (fun k => zah.j2 k x b) (fun _ => True) := fun b => by
  apply Tot.step
  ·intro k; rw [zah.j2]
  repeat' first | exact Tot.some trivial | exact hj3 _ | refine Tot.ite (fun _ => ?_) (fun _ => ?_)
 have hj1 : ∀ (b : Bool), Tot (fun k => zah.j1 k x b) (fun _ => True) := fun b => by
  apply Tot.step
  ·intro k; rw [zah.j1]
  repeat' first | exact Tot.some trivial | exact hj2 _ | refine Tot.ite (fun _ => ?_) (fun _ => ?_)
 have hl0 : ∀ (b : ByteArray) (hb : b.size = 19) (n : Nat) (i : Int), 19 - i ≤ n → 0 ≤ i → i ≤ 19 → Tot (fun k => zah.l0 k x b i) (fun _ => True) := by
  intro b hb n
  induction n with
  | zero =>
   intro i hn hi hi2
   apply Tot.step
   ·intro k; rw [zah.l0]
   refine Tot.ite (fun hc => absurd hc (by omega)) (fun _ => ?_)
   exact Tot.ite (fun _ => hj1 _) (fun _ => hj1 _)
  | succ n ih =>
   intro i hn hi hi2
   apply Tot.step
   ·intro k; rw [zah.l0]
   refine Tot.ite (fun hc => ?_) (fun _ => Tot.ite (fun _ => hj1 _) (fun _ => hj1 _))
   refine Tot.ite (fun _ => ?_) (fun h => absurd hi h)
   refine Tot.ite (fun _ => Tot.some trivial) (fun _ => ?_)
   rw [zbm (x := i + 1) (by omega) (by omega)]
   exact ih (i + 1) (by omega) (by omega) (by omega)
 exact hl0 _ rfl 19 0 (by omega) (by omega) (by omega)
theorem ends_tot (x : Int) : Tot (fun k => zaI.f k x) (fun _ => True) := by
 have hl0 : ∀ (n : Nat) (i : Int), 24 - i ≤ n → 0 ≤ i → i ≤ 24 → Tot (fun k => zaI.l0 k x i) (fun _ => True) := by
  intro n
  induction n with
  | zero =>
   intro i hn hi hi2
   apply Tot.step
   ·intro k; rw [zaI.l0]
   exact Tot.ite (fun hc => absurd hc (by omega)) (fun _ => Tot.some trivial)
  | succ n ih =>
   intro i hn hi hi2
   apply Tot.step
   ·intro k; rw [zaI.l0]
   refine Tot.ite (fun hc => ?_) (fun _ => Tot.some trivial)
   refine Tot.bind (g := fun k t => if t ≥ 0 then some false else zaI.l0 k x (wrap64 (i + 1))) (step_tot x i) (fun v _ => ?_)
   refine Tot.ite (fun _ => Tot.some trivial) (fun _ => ?_)
   rw [zbm (x := i + 1) (by omega) (by omega)]
   exact ih (i + 1) (by omega) (by omega) (by omega)
 exact hl0 24 0 (by omega) (by omega) (by omega)
theorem kind_tot (x : Int) : ∃ v, zbM.f x = some v := by
 unfold zbM.f
 rw [Option.bind_some]
 split
 ·exact ⟨_, rfl⟩
 ·split
  ·exact ⟨_, rfl⟩
  ·rw [if_pos (by omega), if_pos (by omega)]
   exact ⟨_, rfl⟩
theorem word11_tot (w : ByteArray) (hw : (w.size : Int) ≤ 3000) : Tot (fun k => zax.f k w) (fun _ => True) := by
 have hl1 : ∀ (l : List ByteArray) (hl : l.length = 8) (n : Nat) (i : Int), 8 - i ≤ n → 0 ≤ i → i ≤ 8 → Tot (fun k => zax.l1 k w l i) (fun _ => True) := by
  intro l hl n
  induction n with
  | zero =>
   intro i hn hi hi2
   apply Tot.step
   ·intro k; rw [zax.l1]
   exact Tot.ite (fun hc => absurd hc (by omega)) (fun _ => Tot.some trivial)
  | succ n ih =>
   intro i hn hi hi2
   apply Tot.step
   ·intro k; rw [zax.l1]
   refine Tot.ite (fun hc => ?_) (fun _ => Tot.some trivial)
   refine Tot.ite (fun _ => ?_) (fun h => absurd hi h)
   refine Tot.ite (fun _ => Tot.some trivial) (fun _ => ?_)
   rw [zbm (x := i + 1) (by omega) (by omega)]
   exact ih (i + 1) (by omega) (by omega) (by omega)
 have hl0 : ∀ (n : Nat) (i : Int), (w.size : Int) - i ≤ n → 0 ≤ i → i ≤ w.size → Tot (fun k => zax.l0 k w i) (fun _ => True) := by
  intro n
  induction n with
  | zero =>
   intro i hn hi hi2
   apply Tot.step
   ·intro k; rw [zax.l0]
   exact Tot.ite (fun hc => absurd hc (by omega)) (fun _ => hl1 _ rfl 8 0 (by omega) (by omega) (by omega))
  | succ n ih =>
   intro i hn hi hi2
   apply Tot.step
   ·intro k; rw [zax.l0]
   refine Tot.ite (fun hc => ?_) (fun _ => hl1 _ rfl 8 0 (by omega) (by omega) (by omega))
   refine Tot.ite (fun _ => ?_) (fun h => absurd hi h)
   rw [zbm (x := i + 1) (by omega) (by omega)]
   have hst := ih (i + 1) (by omega) (by omega) (by omega)
   refine Tot.bind (r := fun _ => True) (class_tot _) (fun v _ => ?_)
   repeat' first | exact Tot.some trivial | exact hst | refine Tot.ite (fun _ => ?_) (fun _ => ?_)
 unfold zax.f
 exact Tot.ite (fun _ => Tot.some trivial) (fun _ => hl0 (w.size : Int).toNat 0 (by omega) (by omega) (by omega))
theorem scan_tot (s : ByteArray) (hs : (s.size : Int) ≤ 3000) (at_ : Int) (h0 : 0 ≤ at_) (ha : at_ < s.size) : Tot (fun k => zak.f k s at_) (fun _ => True) := by
 have hj4 : ∀ (x i : Int) (b : Bool) (a1 a2 a3 : Int), Tot (fun k => zak.j4 k s x i b a1 a2 a3) (fun _ => True) := fun x i b a1 a2 a3 => by
  apply Tot.step
  ·intro k; rw [zak.j4]
  refine Tot.bind (r := fun _ => True) (ends_tot x) (fun v _ => ?_)
  repeat' first | exact Tot.some trivial | refine Tot.ite (fun _ => ?_) (fun _ => ?_)
 have hj3 : ∀ (x i : Int) (b : Bool), at_ ≤ i → i ≤ s.size → Tot (fun k => zak.j3 k s at_ x i b) (fun _ => True) := fun x i b hi hi2 => by
  apply Tot.step
  ·intro k; rw [zak.j3]
  obtain ⟨kd, hkd⟩ := kind_tot x; refine Tot.bind (Tot.const hkd (p := fun _ => True) trivial) (fun v _ => ?_)
  refine Tot.ite (fun _ => ?_) (fun _ => hj4 _ _ _ _ _ _)
  refine Tot.ite (fun _ => ?_) (fun h => absurd h0 h)
  refine Tot.ite (fun _ => ?_) (fun h => absurd hi h)
  refine Tot.ite (fun _ => ?_) (fun h => absurd hi2 h)
  refine Tot.bind (r := fun _ => True) (word11_tot _ (by rw [ByteArray.size_extract]; omega)) (fun v _ => hj4 _ _ _ _ _ _)
 have hl0 : ∀ (n : Nat) (x i : Int) (b : Bool), (s.size : Int) - i ≤ n → at_ ≤ i → i ≤ s.size → Tot (fun k => zak.l0 k s at_ x i b) (fun _ => True) := by
  intro n
  induction n with
  | zero =>
   intro x i b hn hi hi2
   apply Tot.step
   ·intro k; rw [zak.l0]
   exact Tot.ite (fun hc => absurd hc (by omega)) (fun _ => hj3 _ _ _ hi hi2)
  | succ n ih =>
   intro x i b hn hi hi2
   have hj2 : ∀ (c m : Int) (ok : Bool), 1 ≤ m → i + m ≤ s.size → Tot (fun k => zak.j2 k s at_ x i b c m ok) (fun _ => True) := fun c m ok hm hm2 => by
    apply Tot.step
    ·intro k; rw [zak.j2]
    refine Tot.bind (r := fun _ => True) (class_tot c) (fun v _ => ?_)
    refine Tot.bind (r := fun _ => True) (step_tot x v) (fun u _ => ?_)
    rw [zbm (x := i + m) (by omega) (by omega)]
    refine Tot.ite (fun _ => hj3 _ _ _ hi hi2) (fun _ => ?_)
    exact Tot.ite (fun _ => ih _ _ _ (by omega) (by omega) (by omega)) (fun _ => ih _ _ _ (by omega) (by omega) (by omega))
   apply Tot.step
   ·intro k; rw [zak.l0]
   refine Tot.ite (fun hc => ?_) (fun _ => hj3 _ _ _ hi hi2)
   refine Tot.bind (next_tot s hs i (by omega) hi2) (fun v hv => ?_)
   exact Tot.ite (fun h => hj2 _ _ _ (hv h).1 (hv h).2) (fun _ => hj2 _ _ _ (by omega) (by omega))
 have hj0 : ∀ (b : Bool), Tot (fun k => zak.j0 k s at_ b) (fun _ => True) := fun b => by
  apply Tot.step
  ·intro k; rw [zak.j0]
  exact Tot.ite (fun _ => Tot.some trivial) (fun _ => hl0 (s.size : Int).toNat 0 at_ false (by omega) (by omega) (by omega))
 unfold zak.f
 exact Tot.ite (fun _ => hj0 _) (fun _ => hj0 _)
def LexP (s : ByteArray) (l : List S50) : Prop := l.length ≤ s.size ∧ ∀ t ∈ l, 0 ≤ t.f0 ∧ t.f0 ≤ 255
theorem all_tot (s : ByteArray) (hs : (s.size : Int) ≤ 3000) : Tot (fun k => zaW.f k s) (LexP s) := by
 have hl0 : ∀ (n : Nat) (l : List S50) (i : Int), (s.size : Int) - i ≤ n → 0 ≤ i → i ≤ s.size → (l.length : Int) ≤ i → (∀ t ∈ l, 0 ≤ t.f0 ∧ t.f0 ≤ 255) → Tot (fun k => zaW.l0 k s l i) (LexP s) := by
  intro n
  induction n with
  | zero =>
   intro l i hn hi hi2 hl hk
   apply Tot.step
   ·intro k; rw [zaW.l0]
   exact Tot.ite (fun hc => absurd hc (by omega)) (fun _ => Tot.some ⟨by omega, hk⟩)
  | succ n ih =>
   intro l i hn hi hi2 hl hk
   apply Tot.step
   ·intro k; rw [zaW.l0]
   refine Tot.ite (fun hc => ?_) (fun _ => Tot.some ⟨by omega, hk⟩)
   refine Tot.bind (one_tot s hs i hi hc) (fun v hv => ?_)
   refine Tot.bind (r := fun _ => True) (scan_tot s hs i hi hc) (fun u _ => ?_)
   refine Tot.ite (fun _ => ?_) (fun h => absurd (show l.length < 5864062014805 by omega) h)
   obtain ⟨hv0, hv1, hv2⟩ := hv; refine ih _ v.2 (by omega) (by omega) hv2 (by rw [List.length_append, List.length_singleton]; omega) (fun t ht => ?_)
   rcases List.mem_append.1 ht with h | h
   ·exact hk t h
   ·rw [List.mem_singleton] at h
    subst h; exact hv0
 exact hl0 (s.size : Int).toNat [] 0 (by omega) (by omega) (by omega) (by simp) (by simp)
theorem lex_all (s : ByteArray) (hs : s.size ≤ 3000) : ∃ k l, zaW.f k s = some l ∧ l.length ≤ 3000 ∧ ∀ t ∈ l, 0 ≤ t.f0 ∧ t.f0 ≤ 255 := by
 obtain ⟨l, ⟨n, hn⟩, h1, h2⟩ := all_tot s (by omega)
 exact ⟨n, l, hn n (Nat.le_refl _), by omega, h2⟩
section
attribute [local go_sem] zbq zbo zbx zbw zbg zbf zbp zbn
def zaR.l0 : Nat → List (S50) → Int → Int → Option (Int)
 | 0, _, _, _ => none
 | k + 1, x0, x1, x5 => if x5 < (x0.length : Int) then (if x5 ≥ x1 then (if 0 ≤ x5 then ((za4.f ((zbP x0 x5).f0)).bind fun t296 => (if t296 = true then (some x5) else (zaR.l0 k x0 x1 (wrap64 (x5 + 1))))) else (none)) else (zaR.l0 k x0 x1 (wrap64 (x5 + 1)))) else (some (x0.length : Int))
def zaR.f (k : Nat) (l0 : List (S50)) (a1 : Int) : Option (Int) := zaR.l0 k l0 a1 0
theorem zaR.zbr : ∀ k, (∀ y0 y1 y2, LeO (zaR.l0 k y0 y1 y2) (zaR.l0 (k + 1) y0 y1 y2))
 | 0 => fun _ _ _ r h => by simp [zaR.l0] at h
 | k + 1 => by
  have ih0 := zaR.zbr k
  ·intro y0 y1 y2
   unfold zaR.l0
   repeat' first
   | (with_reducible exact ih0 _ _ _)
   | (with_reducible exact LeO.refl _)
   | (with_reducible exact LeO.none _)
   | (with_reducible refine LeO.ite ?_ ?_)
   | (with_reducible refine LeO.bind ?_ (fun _ => ?_))
theorem zaR.mono : ∀ a0 a1 k, LeO (zaR.f k a0 a1) (zaR.f (k + 1) a0 a1) := by
 intro a0 a1 k
 have ih0 := zaR.zbr k; unfold zaR.f
 repeat' first
   | (with_reducible exact ih0 _ _ _)
   | (with_reducible exact LeO.refl _)
   | (with_reducible exact LeO.none _)
   | (with_reducible refine LeO.ite ?_ ?_)
   | (with_reducible refine LeO.bind ?_ (fun _ => ?_))
set_option maxHeartbeats 8000000 in
set_option maxRecDepth 100000 in
theorem zaR.calls (k : Nat) (A0 : Option Addr) (c0 : Nat) (l0 : List (S50)) (a1 : Int) (r : Int) (w : World) (hr0 : Kd.C k50 w A0 l0.length l0) (hc0 : l0.length ≤ c0) (h : zaR.f k l0 a1 = some r) :
  Calls Try.prog 53 #[.slice A0 l0.length c0, .int .i64 a1] w fun e w' => e = .returned (.int .i64 r) ∧ zaC w w' := by
 have HR0 := zaa.mk hr0; have HC0 := zaa.mk hc0; clear hr0 hc0; have H : (zaR.l0 k l0 a1 0) = some r := h; clear h; have H' := zaa.mk H; clear H; go_enter Try.func53, Try.ntmps53
 go_wp2
 go_loopg [5] k (fun kq v5 w' => ∃ (x5_1 : Int), v5 = .int .i64 x5_1 ∧ zaa (zaR.l0 kq l0 a1 x5_1 = some r) ∧ zaa (kq ≤ k) ∧ zaC w w')
 case atStart => exact ⟨(0), (by first | rfl | (simp; done) | (simp [*]; done)), H', ⟨Nat.le_refl _⟩, by repeat (first | exact zaC.refl _ | apply zaC.step)⟩
 case round =>
  clear H'; try clear p2
  obtain ⟨x5_1, rfl, HA, HK1, ⟨m1, rfl⟩⟩ := hrel; cases gk with
  | zero => exact absurd HA.out (by simp [zaR.l0])
  | succ k1 =>
   have H := HA.out; clear HA; simp only [zaR.l0] at H; by_cases c3 : x5_1 < (l0.length : Int)
   ·rw [if_pos c3] at H
    have c3b0 : decide (x5_1 < (l0.length : Int)) = true := decide_eq_true c3; clear c3; by_cases c4 : x5_1 ≥ a1
    ·rw [if_pos c4] at H
     have c4b0 : decide (a1 ≤ x5_1) = true := decide_eq_true c4; clear c4; by_cases c5 : 0 ≤ x5_1
     ·rw [if_pos c5] at H
      have c5b0 : decide (0 ≤ x5_1) = true := decide_eq_true c5; clear c5; replace H := Option.bind_eq_some_iff.mp H; obtain ⟨t296, A60, H⟩ := H; replace H : (if t296 = true then (some x5_1) else (zaR.l0 k1 l0 a1 (wrap64 (x5_1 + 1)))) = some r := H
      have A6 := zaa.mk A60; clear A60; by_cases c7 : t296 = true
      ·subst c7
       have H1 : (some x5_1) = some r := by rw [if_pos rfl] at H; exact H
       clear H; have H := H1; clear H1; obtain rfl := Option.some.inj H; have p295 : 0 ≤ (x5_1 : Int) := of_decide_eq_true (by assumption)
       have q295 : x5_1 < (l0.length : Int) := of_decide_eq_true (by assumption)
       obtain ⟨ad295, e295, hx295_0, hx295_1, hx295_2⟩ := at_T50 HR0.out x5_1 p295 q295; cases e295; replace p295 := eq_true p295; replace q295 := eq_true q295; go_wp2_with (first | (go_at_call 64; (with_reducible refine (za4.calls ((zbP l0 x5_1).f0) true _ A6.out).mono ?_); rintro e w' ⟨rfl, ⟨nd, rfl⟩⟩))
       go_ret
       exact ⟨by first | rfl | (simp; done) | (simp [*]; done), by repeat (first | exact zaC.refl _ | apply zaC.step)⟩
      ·replace c7 := Bool.eq_false_iff.mpr c7
       subst c7; have H1 : (zaR.l0 k1 l0 a1 (wrap64 (x5_1 + 1))) = some r := by rw [if_neg (show ¬ (false = true) by decide)] at H; exact H
       clear H; have H := H1; clear H1; have H' := zaa.mk H; clear H; have p295 : 0 ≤ (x5_1 : Int) := of_decide_eq_true (by assumption)
       have q295 : x5_1 < (l0.length : Int) := of_decide_eq_true (by assumption)
       obtain ⟨ad295, e295, hx295_0, hx295_1, hx295_2⟩ := at_T50 HR0.out x5_1 p295 q295; cases e295; replace p295 := eq_true p295; replace q295 := eq_true q295; go_wp2_with (first | (go_at_call 64; (with_reducible refine (za4.calls ((zbP l0 x5_1).f0) false _ A6.out).mono ?_); rintro e w' ⟨rfl, ⟨nd, rfl⟩⟩))
       go_roundg k1
       case measure => have := HK1.out; omega
       case rel => exact ⟨(wrap64 (x5_1 + 1)), (by first | rfl | (simp; done) | (simp [*]; done)), H', ⟨by have := HK1.out; omega⟩, by repeat (first | exact zaC.refl _ | apply zaC.step)⟩
     ·rw [if_neg c5] at H
      exact absurd H (by simp)
    ·rw [if_neg c4] at H
     have c4b0 : decide (a1 ≤ x5_1) = false := decide_eq_false c4; clear c4; have H' := zaa.mk H; clear H; go_wp2
     go_roundg k1
     case measure => have := HK1.out; omega
     case rel => exact ⟨(wrap64 (x5_1 + 1)), (by first | rfl | (simp; done) | (simp [*]; done)), H', ⟨by have := HK1.out; omega⟩, by repeat (first | exact zaC.refl _ | apply zaC.step)⟩
   ·rw [if_neg c3] at H
    have c3b0 : decide (x5_1 < (l0.length : Int)) = false := decide_eq_false c3; clear c3; obtain rfl := Option.some.inj H; go_wp2
    go_ret
    exact ⟨by first | rfl | (simp; done) | (simp [*]; done), by repeat (first | exact zaC.refl _ | apply zaC.step)⟩
end
theorem token12_tot (x : Int) : ∃ b, zaZ.f x = some b := by
 unfold zaZ.f
 repeat' split
 all_goals exact ⟨_, rfl⟩
theorem counts12_tot (x : Int) : ∃ b, za4.f x = some b := by
 obtain ⟨b, hb⟩ := token12_tot x; unfold za4.f
 rw [hb]; repeat' split
 all_goals exact ⟨_, rfl⟩
theorem next12_tot (l : List S50) (hl : l.length ≤ 3000) : Tot (fun k => zaR.f k l 0) (fun i => 0 ≤ i ∧ i ≤ l.length) := by
 have hl0 : ∀ (n : Nat) (i : Int), (l.length : Int) - i ≤ n → 0 ≤ i → i ≤ l.length → Tot (fun k => zaR.l0 k l 0 i) (fun i => 0 ≤ i ∧ i ≤ l.length) := by
  intro n
  induction n with
  | zero =>
   intro i hn hi hi2
   apply Tot.step
   ·intro k; rw [zaR.l0]
   exact Tot.ite (fun hc => absurd hc (by omega)) (fun _ => Tot.some ⟨by omega, by omega⟩)
  | succ n ih =>
   intro i hn hi hi2
   apply Tot.step
   ·intro k; rw [zaR.l0]
   refine Tot.ite (fun hc => ?_) (fun _ => Tot.some ⟨by omega, by omega⟩)
   rw [zbm (x := i + 1) (by omega) (by omega)]
   have hst := ih (i + 1) (by omega) (by omega) (by omega)
   refine Tot.ite (fun _ => ?_) (fun _ => hst)
   refine Tot.ite (fun _ => ?_) (fun h => absurd hi h)
   obtain ⟨b, hb⟩ := counts12_tot ((zbP l i).f0); refine Tot.bind (Tot.const hb (p := fun _ => True) trivial) (fun v _ => ?_)
   exact Tot.ite (fun _ => Tot.some ⟨hi, hi2⟩) (fun _ => hst)
 exact hl0 l.length 0 (by omega) (by omega) (by omega)
section
attribute [local go_sem] zbq zbo zbx zbw zbg zbf zbp zbn
def zaN.f (a0 : Int) : Option (Bool) := if a0 = 6 then (some true) else (if a0 = 7 then (some true) else (if a0 = 8 then (some true) else (if a0 = 16 then (some true) else (if a0 = 17 then (some true) else (if a0 = 20 then (some true) else (if a0 = 34 then (some true) else (if a0 = 38 then (some true) else (some false))))))))
set_option maxHeartbeats 8000000 in
set_option maxRecDepth 100000 in
theorem zaN.calls (a0 : Int) (r : Bool) (w : World) (h : zaN.f a0 = some r) :
  Calls Try.prog 54 #[.int .u8 a0] w fun e w' => e = .returned (.bool r) ∧ zaC w w' := by
 have H : (if a0 = 6 then (some true) else (if a0 = 7 then (some true) else (if a0 = 8 then (some true) else (if a0 = 16 then (some true) else (if a0 = 17 then (some true) else (if a0 = 20 then (some true) else (if a0 = 34 then (some true) else (if a0 = 38 then (some true) else (some false))))))))) = some r := h
 clear h; by_cases c2 : a0 = 6
 ·rw [if_pos c2] at H
  have c2b0 : (a0 == 6) = true := beq_iff_eq.mpr c2; have c2b1 : (a0 != 6) = false := bne_eq_false_iff_eq.mpr c2; clear c2; obtain rfl := Option.some.inj H; go_enter Try.func54, Try.ntmps54
  go_wp2
  go_ret
  exact ⟨by first | rfl | (simp; done) | (simp [*]; done), by repeat (first | exact zaC.refl _ | apply zaC.step)⟩
 ·rw [if_neg c2] at H
  have c2b0 : (a0 == 6) = false := beq_eq_false_iff_ne.mpr c2; have c2b1 : (a0 != 6) = true := bne_iff_ne.mpr c2; by_cases c3 : a0 = 7
  ·rw [if_pos c3] at H
   have c3b0 : (a0 == 7) = true := beq_iff_eq.mpr c3; have c3b1 : (a0 != 7) = false := bne_eq_false_iff_eq.mpr c3; clear c3; obtain rfl := Option.some.inj H; go_enter Try.func54, Try.ntmps54
   go_wp2
   go_ret
   exact ⟨by first | rfl | (simp; done) | (simp [*]; done), by repeat (first | exact zaC.refl _ | apply zaC.step)⟩
  ·rw [if_neg c3] at H
   have c3b0 : (a0 == 7) = false := beq_eq_false_iff_ne.mpr c3; have c3b1 : (a0 != 7) = true := bne_iff_ne.mpr c3; by_cases c4 : a0 = 8
   ·rw [if_pos c4] at H
    have c4b0 : (a0 == 8) = true := beq_iff_eq.mpr c4; have c4b1 : (a0 != 8) = false := bne_eq_false_iff_eq.mpr c4; clear c4; obtain rfl := Option.some.inj H; go_enter Try.func54, Try.ntmps54
    go_wp2
    go_ret
    exact ⟨by first | rfl | (simp; done) | (simp [*]; done), by repeat (first | exact zaC.refl _ | apply zaC.step)⟩
   ·rw [if_neg c4] at H
    have c4b0 : (a0 == 8) = false := beq_eq_false_iff_ne.mpr c4; have c4b1 : (a0 != 8) = true := bne_iff_ne.mpr c4; by_cases c5 : a0 = 16
    ·rw [if_pos c5] at H
     have c5b0 : (a0 == 16) = true := beq_iff_eq.mpr c5; have c5b1 : (a0 != 16) = false := bne_eq_false_iff_eq.mpr c5; clear c5; obtain rfl := Option.some.inj H; go_enter Try.func54, Try.ntmps54
     go_wp2
     go_ret
     exact ⟨by first | rfl | (simp; done) | (simp [*]; done), by repeat (first | exact zaC.refl _ | apply zaC.step)⟩
    ·rw [if_neg c5] at H
     have c5b0 : (a0 == 16) = false := beq_eq_false_iff_ne.mpr c5; have c5b1 : (a0 != 16) = true := bne_iff_ne.mpr c5; by_cases c6 : a0 = 17
     ·rw [if_pos c6] at H
      have c6b0 : (a0 == 17) = true := beq_iff_eq.mpr c6; have c6b1 : (a0 != 17) = false := bne_eq_false_iff_eq.mpr c6; clear c6; obtain rfl := Option.some.inj H; go_enter Try.func54, Try.ntmps54
      go_wp2
      go_ret
      exact ⟨by first | rfl | (simp; done) | (simp [*]; done), by repeat (first | exact zaC.refl _ | apply zaC.step)⟩
     ·rw [if_neg c6] at H
      have c6b0 : (a0 == 17) = false := beq_eq_false_iff_ne.mpr c6; have c6b1 : (a0 != 17) = true := bne_iff_ne.mpr c6; by_cases c7 : a0 = 20
      ·rw [if_pos c7] at H
       have c7b0 : (a0 == 20) = true := beq_iff_eq.mpr c7; have c7b1 : (a0 != 20) = false := bne_eq_false_iff_eq.mpr c7; clear c7; obtain rfl := Option.some.inj H; go_enter Try.func54, Try.ntmps54
       go_wp2
       go_ret
       exact ⟨by first | rfl | (simp; done) | (simp [*]; done), by repeat (first | exact zaC.refl _ | apply zaC.step)⟩
      ·rw [if_neg c7] at H
       have c7b0 : (a0 == 20) = false := beq_eq_false_iff_ne.mpr c7; have c7b1 : (a0 != 20) = true := bne_iff_ne.mpr c7; by_cases c8 : a0 = 34
       ·rw [if_pos c8] at H
        have c8b0 : (a0 == 34) = true := beq_iff_eq.mpr c8; have c8b1 : (a0 != 34) = false := bne_eq_false_iff_eq.mpr c8; clear c8; obtain rfl := Option.some.inj H; go_enter Try.func54, Try.ntmps54
        go_wp2
        go_ret
        exact ⟨by first | rfl | (simp; done) | (simp [*]; done), by repeat (first | exact zaC.refl _ | apply zaC.step)⟩
       ·rw [if_neg c8] at H
        have c8b0 : (a0 == 34) = false := beq_eq_false_iff_ne.mpr c8; have c8b1 : (a0 != 34) = true := bne_iff_ne.mpr c8; by_cases c9 : a0 = 38
        ·rw [if_pos c9] at H
         have c9b0 : (a0 == 38) = true := beq_iff_eq.mpr c9; have c9b1 : (a0 != 38) = false := bne_eq_false_iff_eq.mpr c9; clear c9; obtain rfl := Option.some.inj H; go_enter Try.func54, Try.ntmps54
         go_wp2
         go_ret
         exact ⟨by first | rfl | (simp; done) | (simp [*]; done), by repeat (first | exact zaC.refl _ | apply zaC.step)⟩
        ·rw [if_neg c9] at H
         have c9b0 : (a0 == 38) = false := beq_eq_false_iff_ne.mpr c9; have c9b1 : (a0 != 38) = true := bne_iff_ne.mpr c9; obtain rfl := Option.some.inj H; go_enter Try.func54, Try.ntmps54
         go_wp2
         go_ret
         exact ⟨by first | rfl | (simp; done) | (simp [*]; done), by repeat (first | exact zaC.refl _ | apply zaC.step)⟩
def zaM.f (a0 : Int) : Option (Int) := if a0 = 10 then (some 53) else (if a0 = 11 then (some 54) else (if a0 = 12 then (some 56) else (if a0 = 14 then (some 57) else (if a0 = 15 then (some 58) else (if a0 = 22 then (some 52) else ((zaN.f a0).bind fun t297 => (if t297 = true then (some 59) else (some 0))))))))
set_option maxHeartbeats 8000000 in
set_option maxRecDepth 100000 in
theorem zaM.calls (a0 : Int) (r : Int) (w : World) (h : zaM.f a0 = some r) :
  Calls Try.prog 44 #[.int .u8 a0] w fun e w' => e = .returned (.int .u8 r) ∧ zaC w w' := by
 have H : (if a0 = 10 then (some 53) else (if a0 = 11 then (some 54) else (if a0 = 12 then (some 56) else (if a0 = 14 then (some 57) else (if a0 = 15 then (some 58) else (if a0 = 22 then (some 52) else ((zaN.f a0).bind fun t297 => (if t297 = true then (some 59) else (some 0))))))))) = some r := h
 clear h; by_cases c2 : a0 = 10
 ·rw [if_pos c2] at H
  have c2b0 : (a0 == 10) = true := beq_iff_eq.mpr c2; have c2b1 : (a0 != 10) = false := bne_eq_false_iff_eq.mpr c2; clear c2; obtain rfl := Option.some.inj H; go_enter Try.func44, Try.ntmps44
  go_wp2
  go_ret
  exact ⟨by first | rfl | (simp; done) | (simp [*]; done), by repeat (first | exact zaC.refl _ | apply zaC.step)⟩
 ·rw [if_neg c2] at H
  have c2b0 : (a0 == 10) = false := beq_eq_false_iff_ne.mpr c2; have c2b1 : (a0 != 10) = true := bne_iff_ne.mpr c2; by_cases c3 : a0 = 11
  ·rw [if_pos c3] at H
   have c3b0 : (a0 == 11) = true := beq_iff_eq.mpr c3; have c3b1 : (a0 != 11) = false := bne_eq_false_iff_eq.mpr c3; clear c3; obtain rfl := Option.some.inj H; go_enter Try.func44, Try.ntmps44
   go_wp2
   go_ret
   exact ⟨by first | rfl | (simp; done) | (simp [*]; done), by repeat (first | exact zaC.refl _ | apply zaC.step)⟩
  ·rw [if_neg c3] at H
   have c3b0 : (a0 == 11) = false := beq_eq_false_iff_ne.mpr c3; have c3b1 : (a0 != 11) = true := bne_iff_ne.mpr c3; by_cases c4 : a0 = 12
   ·rw [if_pos c4] at H
    have c4b0 : (a0 == 12) = true := beq_iff_eq.mpr c4; have c4b1 : (a0 != 12) = false := bne_eq_false_iff_eq.mpr c4; clear c4; obtain rfl := Option.some.inj H; go_enter Try.func44, Try.ntmps44
    go_wp2
    go_ret
    exact ⟨by first | rfl | (simp; done) | (simp [*]; done), by repeat (first | exact zaC.refl _ | apply zaC.step)⟩
   ·rw [if_neg c4] at H
    have c4b0 : (a0 == 12) = false := beq_eq_false_iff_ne.mpr c4; have c4b1 : (a0 != 12) = true := bne_iff_ne.mpr c4; by_cases c5 : a0 = 14
    ·rw [if_pos c5] at H
     have c5b0 : (a0 == 14) = true := beq_iff_eq.mpr c5; have c5b1 : (a0 != 14) = false := bne_eq_false_iff_eq.mpr c5; clear c5; obtain rfl := Option.some.inj H; go_enter Try.func44, Try.ntmps44
     go_wp2
     go_ret
     exact ⟨by first | rfl | (simp; done) | (simp [*]; done), by repeat (first | exact zaC.refl _ | apply zaC.step)⟩
    ·rw [if_neg c5] at H
     have c5b0 : (a0 == 14) = false := beq_eq_false_iff_ne.mpr c5; have c5b1 : (a0 != 14) = true := bne_iff_ne.mpr c5; by_cases c6 : a0 = 15
     ·rw [if_pos c6] at H
      have c6b0 : (a0 == 15) = true := beq_iff_eq.mpr c6; have c6b1 : (a0 != 15) = false := bne_eq_false_iff_eq.mpr c6; clear c6; obtain rfl := Option.some.inj H; go_enter Try.func44, Try.ntmps44
      go_wp2
      go_ret
      exact ⟨by first | rfl | (simp; done) | (simp [*]; done), by repeat (first | exact zaC.refl _ | apply zaC.step)⟩
     ·rw [if_neg c6] at H
      have c6b0 : (a0 == 15) = false := beq_eq_false_iff_ne.mpr c6; have c6b1 : (a0 != 15) = true := bne_iff_ne.mpr c6; by_cases c7 : a0 = 22
      ·rw [if_pos c7] at H
       have c7b0 : (a0 == 22) = true := beq_iff_eq.mpr c7; have c7b1 : (a0 != 22) = false := bne_eq_false_iff_eq.mpr c7; clear c7; obtain rfl := Option.some.inj H; go_enter Try.func44, Try.ntmps44
       go_wp2
       go_ret
       exact ⟨by first | rfl | (simp; done) | (simp [*]; done), by repeat (first | exact zaC.refl _ | apply zaC.step)⟩
      ·rw [if_neg c7] at H
       have c7b0 : (a0 == 22) = false := beq_eq_false_iff_ne.mpr c7; have c7b1 : (a0 != 22) = true := bne_iff_ne.mpr c7; replace H := Option.bind_eq_some_iff.mp H; obtain ⟨t297, A80, H⟩ := H; replace H : (if t297 = true then (some 59) else (some 0)) = some r := H
       have A8 := zaa.mk A80; clear A80; by_cases c9 : t297 = true
       ·subst c9
        have H1 : (some 59) = some r := by rw [if_pos rfl] at H; exact H
        clear H; have H := H1; clear H1; obtain rfl := Option.some.inj H; go_enter Try.func44, Try.ntmps44
        go_wp2_with (first | ((with_reducible refine zaS (f := 54) rfl ?_); refine zbj (some 17) rfl rfl Try.func54 (by kernel_rfl) rfl #[.int .u8 a0] rfl (by (try simp only [List.map_toArray, List.map_cons, List.map_nil]); first | done | rfl | (simp only [List.length_drop, List.length_take]; rfl)) ?_; (with_reducible refine (zaN.calls a0 true _ A8.out).mono ?_); rintro e w' ⟨rfl, ⟨nd, rfl⟩⟩; refine ⟨_, rfl, ?_⟩))
        go_ret
        exact ⟨by first | rfl | (simp; done) | (simp [*]; done), by repeat (first | exact zaC.refl _ | apply zaC.step)⟩
       ·replace c9 := Bool.eq_false_iff.mpr c9
        subst c9; have H1 : (some 0) = some r := by rw [if_neg (show ¬ (false = true) by decide)] at H; exact H
        clear H; have H := H1; clear H1; obtain rfl := Option.some.inj H; go_enter Try.func44, Try.ntmps44
        go_wp2_with (first | ((with_reducible refine zaS (f := 54) rfl ?_); refine zbj (some 17) rfl rfl Try.func54 (by kernel_rfl) rfl #[.int .u8 a0] rfl (by (try simp only [List.map_toArray, List.map_cons, List.map_nil]); first | done | rfl | (simp only [List.length_drop, List.length_take]; rfl)) ?_; (with_reducible refine (zaN.calls a0 false _ A8.out).mono ?_); rintro e w' ⟨rfl, ⟨nd, rfl⟩⟩; refine ⟨_, rfl, ?_⟩))
        go_ret
        exact ⟨by first | rfl | (simp; done) | (simp [*]; done), by repeat (first | exact zaC.refl _ | apply zaC.step)⟩
mutual
def zaA.j0 : Nat → Int → Bool → Option (Int)
 | 0, _, _ => none
 | k + 1, x3, x8 => if x8 = true then (some 3) else (if x3 = 33 then (zaA.j1 k x3 (x3 == 33)) else (zaA.j1 k x3 (x3 == 34)))
def zaA.j1 : Nat → Int → Bool → Option (Int)
 | 0, _, _ => none
 | k + 1, x3, x15 => if x15 = true then (some 4) else (if x3 = 35 then (some 5) else (if x3 = 36 then (some 5) else (if x3 = 37 then (some 5) else (some 0))))
end
def zaA.f (k : Nat) (a0 : Int) : Option (Int) := if a0 = 40 then (some 1) else (if a0 = 39 then (some 2) else (if a0 = 27 then (zaA.j0 k a0 (a0 == 27)) else (if a0 = 28 then (zaA.j0 k a0 (a0 == 28)) else (if a0 = 29 then (zaA.j0 k a0 (a0 == 29)) else (if a0 = 30 then (zaA.j0 k a0 (a0 == 30)) else (if a0 = 31 then (zaA.j0 k a0 (a0 == 31)) else (zaA.j0 k a0 (a0 == 32))))))))
theorem zaA.zbr : ∀ k, (∀ y0 y1, LeO (zaA.j0 k y0 y1) (zaA.j0 (k + 1) y0 y1)) ∧ (∀ y0 y1, LeO (zaA.j1 k y0 y1) (zaA.j1 (k + 1) y0 y1))
 | 0 => ⟨fun _ _ r h => by simp [zaA.j0] at h, fun _ _ r h => by simp [zaA.j1] at h⟩
 | k + 1 => by
  obtain ⟨ih0, ih1⟩ := zaA.zbr k; refine ⟨?_, ?_⟩
  ·intro y0 y1
   unfold zaA.j0
   repeat' first
   | (with_reducible exact ih0 _ _)
   | (with_reducible exact ih1 _ _)
   | (with_reducible exact LeO.refl _)
   | (with_reducible exact LeO.none _)
   | (with_reducible refine LeO.ite ?_ ?_)
   | (with_reducible refine LeO.bind ?_ (fun _ => ?_))
  ·intro y0 y1
   unfold zaA.j1
   repeat' first
   | (with_reducible exact ih0 _ _)
   | (with_reducible exact ih1 _ _)
   | (with_reducible exact LeO.refl _)
   | (with_reducible exact LeO.none _)
   | (with_reducible refine LeO.ite ?_ ?_)
   | (with_reducible refine LeO.bind ?_ (fun _ => ?_))
theorem zaA.mono : ∀ a0 k, LeO (zaA.f k a0) (zaA.f (k + 1) a0) := by
 intro a0 k
 obtain ⟨ih0, ih1⟩ := zaA.zbr k; unfold zaA.f
 repeat' first
   | (with_reducible exact ih0 _ _)
   | (with_reducible exact ih1 _ _)
   | (with_reducible exact LeO.refl _)
   | (with_reducible exact LeO.none _)
   | (with_reducible refine LeO.ite ?_ ?_)
   | (with_reducible refine LeO.bind ?_ (fun _ => ?_))
set_option maxHeartbeats 8000000 in
set_option maxRecDepth 100000 in
theorem zaA.calls (k : Nat) (a0 : Int) (r : Int) (w : World) (h : zaA.f k a0 = some r) :
  Calls Try.prog 70 #[.int .u8 a0] w fun e w' => e = .returned (.int .i64 r) ∧ zaC w w' := by
 have H : (if a0 = 40 then (some 1) else (if a0 = 39 then (some 2) else (if a0 = 27 then (zaA.j0 k a0 (a0 == 27)) else (if a0 = 28 then (zaA.j0 k a0 (a0 == 28)) else (if a0 = 29 then (zaA.j0 k a0 (a0 == 29)) else (if a0 = 30 then (zaA.j0 k a0 (a0 == 30)) else (if a0 = 31 then (zaA.j0 k a0 (a0 == 31)) else (zaA.j0 k a0 (a0 == 32))))))))) = some r := h
 clear h; by_cases c2 : a0 = 40
 ·rw [if_pos c2] at H
  have c2b0 : (a0 == 40) = true := beq_iff_eq.mpr c2; have c2b1 : (a0 != 40) = false := bne_eq_false_iff_eq.mpr c2; clear c2; obtain rfl := Option.some.inj H; go_enter Try.func70, Try.ntmps70
  go_wp2
  go_ret
  exact ⟨by first | rfl | (simp; done) | (simp [*]; done), by repeat (first | exact zaC.refl _ | apply zaC.step)⟩
 ·rw [if_neg c2] at H
  have c2b0 : (a0 == 40) = false := beq_eq_false_iff_ne.mpr c2; have c2b1 : (a0 != 40) = true := bne_iff_ne.mpr c2; by_cases c3 : a0 = 39
  ·rw [if_pos c3] at H
   have c3b0 : (a0 == 39) = true := beq_iff_eq.mpr c3; have c3b1 : (a0 != 39) = false := bne_eq_false_iff_eq.mpr c3; clear c3; obtain rfl := Option.some.inj H; go_enter Try.func70, Try.ntmps70
   go_wp2
   go_ret
   exact ⟨by first | rfl | (simp; done) | (simp [*]; done), by repeat (first | exact zaC.refl _ | apply zaC.step)⟩
  ·rw [if_neg c3] at H
   have c3b0 : (a0 == 39) = false := beq_eq_false_iff_ne.mpr c3; have c3b1 : (a0 != 39) = true := bne_iff_ne.mpr c3; have HC4 := zaa.mk H; clear H; go_enter Try.func70, Try.ntmps70
   go_upto_if 8 with (fail)
   go_cut [8] (fun v8 wc => ∃ (kq : Nat) (x8_3 : Bool), v8 = .bool x8_3 ∧ zaa (zaA.j0 kq a0 x8_3 = some r) ∧ zaa (kq ≤ k) ∧ zaC w wc)
   case first =>
    have H := HC4.out; clear HC4; by_cases c5 : a0 = 27
    ·rw [if_pos c5] at H
     have c5b0 : (a0 == 27) = true := beq_iff_eq.mpr c5; have c5b1 : (a0 != 27) = false := bne_eq_false_iff_eq.mpr c5; clear c5
     (first | rw [c5b0] | (simp only [i64_w, i32_w]; rw [c5b0]) | skip)
     have H' := zaa.mk H; clear H; go_wp2
     go_meet
     case rel => exact ⟨_, ((a0 == 27)), (by first | rfl | (simp; done) | (simp [*]; done)), H', ⟨by first | omega | exact Nat.le_refl _⟩, by repeat (first | exact zaC.refl _ | apply zaC.step)⟩
    ·rw [if_neg c5] at H
     have c5b0 : (a0 == 27) = false := beq_eq_false_iff_ne.mpr c5; have c5b1 : (a0 != 27) = true := bne_iff_ne.mpr c5
     (first | rw [c5b0] | (simp only [i64_w, i32_w]; rw [c5b0]) | skip)
     by_cases c6 : a0 = 28
     ·rw [if_pos c6] at H
      have c6b0 : (a0 == 28) = true := beq_iff_eq.mpr c6; have c6b1 : (a0 != 28) = false := bne_eq_false_iff_eq.mpr c6; clear c6; have H' := zaa.mk H; clear H; go_wp2
      go_meet
      case rel => exact ⟨_, ((a0 == 28)), (by first | rfl | (simp; done) | (simp [*]; done)), H', ⟨by first | omega | exact Nat.le_refl _⟩, by repeat (first | exact zaC.refl _ | apply zaC.step)⟩
     ·rw [if_neg c6] at H
      have c6b0 : (a0 == 28) = false := beq_eq_false_iff_ne.mpr c6; have c6b1 : (a0 != 28) = true := bne_iff_ne.mpr c6; by_cases c7 : a0 = 29
      ·rw [if_pos c7] at H
       have c7b0 : (a0 == 29) = true := beq_iff_eq.mpr c7; have c7b1 : (a0 != 29) = false := bne_eq_false_iff_eq.mpr c7; clear c7; have H' := zaa.mk H; clear H; go_wp2
       go_meet
       case rel => exact ⟨_, ((a0 == 29)), (by first | rfl | (simp; done) | (simp [*]; done)), H', ⟨by first | omega | exact Nat.le_refl _⟩, by repeat (first | exact zaC.refl _ | apply zaC.step)⟩
      ·rw [if_neg c7] at H
       have c7b0 : (a0 == 29) = false := beq_eq_false_iff_ne.mpr c7; have c7b1 : (a0 != 29) = true := bne_iff_ne.mpr c7; by_cases c8 : a0 = 30
       ·rw [if_pos c8] at H
        have c8b0 : (a0 == 30) = true := beq_iff_eq.mpr c8; have c8b1 : (a0 != 30) = false := bne_eq_false_iff_eq.mpr c8; clear c8; have H' := zaa.mk H; clear H; go_wp2
        go_meet
        case rel => exact ⟨_, ((a0 == 30)), (by first | rfl | (simp; done) | (simp [*]; done)), H', ⟨by first | omega | exact Nat.le_refl _⟩, by repeat (first | exact zaC.refl _ | apply zaC.step)⟩
       ·rw [if_neg c8] at H
        have c8b0 : (a0 == 30) = false := beq_eq_false_iff_ne.mpr c8; have c8b1 : (a0 != 30) = true := bne_iff_ne.mpr c8; by_cases c9 : a0 = 31
        ·rw [if_pos c9] at H
         have c9b0 : (a0 == 31) = true := beq_iff_eq.mpr c9; have c9b1 : (a0 != 31) = false := bne_eq_false_iff_eq.mpr c9; clear c9; have H' := zaa.mk H; clear H; go_wp2
         go_meet
         case rel => exact ⟨_, ((a0 == 31)), (by first | rfl | (simp; done) | (simp [*]; done)), H', ⟨by first | omega | exact Nat.le_refl _⟩, by repeat (first | exact zaC.refl _ | apply zaC.step)⟩
        ·rw [if_neg c9] at H
         have c9b0 : (a0 == 31) = false := beq_eq_false_iff_ne.mpr c9; have c9b1 : (a0 != 31) = true := bne_iff_ne.mpr c9; have H' := zaa.mk H; clear H; go_wp2
         go_meet
         case rel => exact ⟨_, ((a0 == 32)), (by first | rfl | (simp; done) | (simp [*]; done)), H', ⟨by first | omega | exact Nat.le_refl _⟩, by repeat (first | exact zaC.refl _ | apply zaC.step)⟩
   case rest =>
    clear HC4; try clear c2
    try clear c2b0
    try clear c2b1
    try clear p2
    try clear c3
    try clear c3b0
    try clear c3b1
    try clear c5
    try clear c5b0
    try clear c5b1
    try clear c6
    try clear c6b0
    try clear c6b1
    try clear c7
    try clear c7b0
    try clear c7b1
    try clear c8
    try clear c8b0
    try clear c8b1
    try clear c9
    try clear c9b0
    try clear c9b1
    obtain ⟨kq, x8_3, rfl, HA, HJ3, ⟨mc3, rfl⟩⟩ := hcut; cases kq with
    | zero => exact absurd HA.out (by simp [zaA.j0])
    | succ kj3 =>
     have H := HA.out; clear HA; simp only [zaA.j0] at H; by_cases c10 : x8_3 = true
     ·subst c10
      have H1 : (some 3) = some r := by rw [if_pos rfl] at H; exact H
      clear H; have H := H1; clear H1; obtain rfl := Option.some.inj H; go_wp2
      go_ret
      exact ⟨by first | rfl | (simp; done) | (simp [*]; done), by repeat (first | exact zaC.refl _ | apply zaC.step)⟩
     ·replace c10 := Bool.eq_false_iff.mpr c10
      subst c10; have H1 : (if a0 = 33 then (zaA.j1 kj3 a0 (a0 == 33)) else (zaA.j1 kj3 a0 (a0 == 34))) = some r := by rw [if_neg (show ¬ (false = true) by decide)] at H; exact H
      clear H; have H := H1; clear H1; have HC11 := zaa.mk H; clear H
      go_upto_if 15 with (fail)
      go_cut [15] (fun v15 wc => ∃ (kq : Nat) (x15_10 : Bool), v15 = .bool x15_10 ∧ zaa (zaA.j1 kq a0 x15_10 = some r) ∧ zaa (kq ≤ kj3) ∧ zaC w wc)
      case first =>
       have H := HC11.out; clear HC11; by_cases c12 : a0 = 33
       ·rw [if_pos c12] at H
        have c12b0 : (a0 == 33) = true := beq_iff_eq.mpr c12; have c12b1 : (a0 != 33) = false := bne_eq_false_iff_eq.mpr c12; clear c12
        (first | rw [c12b0] | (simp only [i64_w, i32_w]; rw [c12b0]) | skip)
        have H' := zaa.mk H; clear H; go_wp2
        go_meet
        case rel => exact ⟨_, ((a0 == 33)), (by first | rfl | (simp; done) | (simp [*]; done)), H', ⟨by have := HJ3.out; first | omega | exact Nat.le_refl _⟩, by repeat (first | exact zaC.refl _ | apply zaC.step)⟩
       ·rw [if_neg c12] at H
        have c12b0 : (a0 == 33) = false := beq_eq_false_iff_ne.mpr c12; have c12b1 : (a0 != 33) = true := bne_iff_ne.mpr c12
        (first | rw [c12b0] | (simp only [i64_w, i32_w]; rw [c12b0]) | skip)
        have H' := zaa.mk H; clear H; go_wp2
        go_meet
        case rel => exact ⟨_, ((a0 == 34)), (by first | rfl | (simp; done) | (simp [*]; done)), H', ⟨by have := HJ3.out; first | omega | exact Nat.le_refl _⟩, by repeat (first | exact zaC.refl _ | apply zaC.step)⟩
      case rest =>
       clear HC11; try clear c1
       try clear c2
       try clear c2b0
       try clear c2b1
       try clear p2
       try clear c3
       try clear c3b0
       try clear c3b1
       try clear c5
       try clear c5b0
       try clear c5b1
       try clear c6
       try clear c6b0
       try clear c6b1
       try clear c7
       try clear c7b0
       try clear c7b1
       try clear c8
       try clear c8b0
       try clear c8b1
       try clear c9
       try clear c9b0
       try clear c9b1
       try clear c10
       try clear c12
       try clear c12b0
       try clear c12b1
       try clear p2
       obtain ⟨kq, x15_10, rfl, HA, HJ10, ⟨mc10, rfl⟩⟩ := hcut; cases kq with
       | zero => exact absurd HA.out (by simp [zaA.j1])
       | succ kj10 =>
        have H := HA.out; clear HA; simp only [zaA.j1] at H; by_cases c13 : x15_10 = true
        ·subst c13
         have H1 : (some 4) = some r := by rw [if_pos rfl] at H; exact H
         clear H; have H := H1; clear H1; obtain rfl := Option.some.inj H; go_wp2
         go_ret
         exact ⟨by first | rfl | (simp; done) | (simp [*]; done), by repeat (first | exact zaC.refl _ | apply zaC.step)⟩
        ·replace c13 := Bool.eq_false_iff.mpr c13
         subst c13; have H1 : (if a0 = 35 then (some 5) else (if a0 = 36 then (some 5) else (if a0 = 37 then (some 5) else (some 0)))) = some r := by rw [if_neg (show ¬ (false = true) by decide)] at H; exact H
         clear H; have H := H1; clear H1; by_cases c14 : a0 = 35
         ·rw [if_pos c14] at H
          have c14b0 : (a0 == 35) = true := beq_iff_eq.mpr c14; have c14b1 : (a0 != 35) = false := bne_eq_false_iff_eq.mpr c14; clear c14; obtain rfl := Option.some.inj H; go_wp2
          go_ret
          exact ⟨by first | rfl | (simp; done) | (simp [*]; done), by repeat (first | exact zaC.refl _ | apply zaC.step)⟩
         ·rw [if_neg c14] at H
          have c14b0 : (a0 == 35) = false := beq_eq_false_iff_ne.mpr c14; have c14b1 : (a0 != 35) = true := bne_iff_ne.mpr c14; by_cases c15 : a0 = 36
          ·rw [if_pos c15] at H
           have c15b0 : (a0 == 36) = true := beq_iff_eq.mpr c15; have c15b1 : (a0 != 36) = false := bne_eq_false_iff_eq.mpr c15; clear c15; obtain rfl := Option.some.inj H; go_wp2
           go_ret
           exact ⟨by first | rfl | (simp; done) | (simp [*]; done), by repeat (first | exact zaC.refl _ | apply zaC.step)⟩
          ·rw [if_neg c15] at H
           have c15b0 : (a0 == 36) = false := beq_eq_false_iff_ne.mpr c15; have c15b1 : (a0 != 36) = true := bne_iff_ne.mpr c15; by_cases c16 : a0 = 37
           ·rw [if_pos c16] at H
            have c16b0 : (a0 == 37) = true := beq_iff_eq.mpr c16; have c16b1 : (a0 != 37) = false := bne_eq_false_iff_eq.mpr c16; clear c16; obtain rfl := Option.some.inj H; go_wp2
            go_ret
            exact ⟨by first | rfl | (simp; done) | (simp [*]; done), by repeat (first | exact zaC.refl _ | apply zaC.step)⟩
           ·rw [if_neg c16] at H
            have c16b0 : (a0 == 37) = false := beq_eq_false_iff_ne.mpr c16; have c16b1 : (a0 != 37) = true := bne_iff_ne.mpr c16; obtain rfl := Option.some.inj H; go_wp2
            go_ret
            exact ⟨by first | rfl | (simp; done) | (simp [*]; done), by repeat (first | exact zaC.refl _ | apply zaC.step)⟩
theorem eqA42 (d : Nat) (w : World) (x0 y0 : Int) (x1 y1 : Int) :
  (Op.equalIn (d + 2) 42 (.agg #[.int .i64 x0, .int .i64 x1]) (.agg #[.int .i64 y0, .int .i64 y1])).run Try.prog w = .ok (x0 == y0 && (x1 == y1)) w := by
 refine eqA_of Try.underlying42 (by kernel_rfl) ?_
 refine eqf_cons (by rfl) (by go_simp; rfl) (by go_simp; rfl) (by go_simp) ?_
 exact eqf_last (by rfl) (by go_simp; rfl) (by go_simp; rfl) (by go_simp)
theorem eqA44 (d : Nat) (w : World) (x0 y0 : Int) (x1 y1 : Int) (x2 y2 : Int) (x3 y3 : Int) :
  (Op.equalIn (d + 3) 44 (.agg #[.int .i64 x0, .int .i64 x1, .int .u8 x2, .int .u8 x3]) (.agg #[.int .i64 y0, .int .i64 y1, .int .u8 y2, .int .u8 y3])).run Try.prog w = .ok ((x0 == y0 && (x1 == y1)) && (x2 == y2 && (x3 == y3))) w := by
 refine eqA_of Try.underlying44 (by kernel_rfl) ?_
 refine eqf_cons (by rfl) (by go_simp) (by go_simp) (eqA42 (d + 0) w _ _ _ _) ?_
 refine eqf_cons (by rfl) (by go_simp; rfl) (by go_simp; rfl) (by go_simp) ?_
 exact eqf_last (by rfl) (by go_simp; rfl) (by go_simp; rfl) (by go_simp)
end
section
attribute [local go_sem] zbq zbo zbx zbw zbg zbf zbp zbn
attribute [local go_sem high] eqA44
def zaP.l0 : Nat → List (S44) → List (S44) → Int → Option (Bool)
 | 0, _, _, _ => none
 | k + 1, x0, x1, x5 => if x5 < (x0.length : Int) then (if 0 ≤ x5 then (if x5 < (x1.length : Int) then (if ((!(((zbD x0 x5).f0.f0) == ((zbD x1 x5).f0.f0)) || (!(((zbD x0 x5).f0.f1) == ((zbD x1 x5).f0.f1)))) || (!(((zbD x0 x5).f1) == ((zbD x1 x5).f1)) || (!(((zbD x0 x5).f2) == ((zbD x1 x5).f2))))) = true then (some false) else (zaP.l0 k x0 x1 (wrap64 (x5 + 1)))) else (none)) else (none)) else (some true)
def zaP.f (k : Nat) (l0 : List (S44)) (l1 : List (S44)) : Option (Bool) := if (l0.length : Int) = (l1.length : Int) then (zaP.l0 k l0 l1 0) else (some false)
theorem zaP.zbr : ∀ k, (∀ y0 y1 y2, LeO (zaP.l0 k y0 y1 y2) (zaP.l0 (k + 1) y0 y1 y2))
 | 0 => fun _ _ _ r h => by simp [zaP.l0] at h
 | k + 1 => by
  have ih0 := zaP.zbr k
  ·intro y0 y1 y2
   unfold zaP.l0
   repeat' first
   | (with_reducible exact ih0 _ _ _)
   | (with_reducible exact LeO.refl _)
   | (with_reducible exact LeO.none _)
   | (with_reducible refine LeO.ite ?_ ?_)
   | (with_reducible refine LeO.bind ?_ (fun _ => ?_))
theorem zaP.mono : ∀ a0 a1 k, LeO (zaP.f k a0 a1) (zaP.f (k + 1) a0 a1) := by
 intro a0 a1 k
 have ih0 := zaP.zbr k; unfold zaP.f
 repeat' first
   | (with_reducible exact ih0 _ _ _)
   | (with_reducible exact LeO.refl _)
   | (with_reducible exact LeO.none _)
   | (with_reducible refine LeO.ite ?_ ?_)
   | (with_reducible refine LeO.bind ?_ (fun _ => ?_))
set_option maxHeartbeats 8000000 in
set_option maxRecDepth 100000 in
theorem zaP.calls (k : Nat) (A0 : Option Addr) (c0 : Nat) (l0 : List (S44)) (A1 : Option Addr) (c1 : Nat) (l1 : List (S44)) (r : Bool) (w : World) (hr0 : Kd.C k44 w A0 l0.length l0) (hc0 : l0.length ≤ c0) (hr1 : Kd.C k44 w A1 l1.length l1) (hc1 : l1.length ≤ c1) (h : zaP.f k l0 l1 = some r) :
  Calls Try.prog 13 #[.slice A0 l0.length c0, .slice A1 l1.length c1] w fun e w' => e = .returned (.bool r) ∧ zaC w w' := by
 have hu44 := Try.underlying44; have HR0 := zaa.mk hr0; have HC0 := zaa.mk hc0; clear hr0 hc0; have HR1 := zaa.mk hr1; have HC1 := zaa.mk hc1; clear hr1 hc1; have H : (if (l0.length : Int) = (l1.length : Int) then (zaP.l0 k l0 l1 0) else (some false)) = some r := h
 clear h; by_cases c3 : (l0.length : Int) = (l1.length : Int)
 ·rw [if_pos c3] at H
  have c3b0 : ((l0.length : Int) == (l1.length : Int)) = true := beq_iff_eq.mpr c3; have c3b1 : ((l0.length : Int) != (l1.length : Int)) = false := bne_eq_false_iff_eq.mpr c3; have c3b2 : (l0.length == l1.length) = true := by first | simpa using c3 | (simp at c3 ⊢; omega)
  clear c3; have H' := zaa.mk H; clear H; go_enter Try.func13, Try.ntmps13
  go_wp2
  repeat (go_quiet (fail); try go_wp2)
  go_loopg [5] k (fun kq v5 w' => ∃ (x5_1 : Int), v5 = .int .i64 x5_1 ∧ zaa (zaP.l0 kq l0 l1 x5_1 = some r) ∧ zaa (kq ≤ k) ∧ zaC w w')
  case atStart => exact ⟨(0), (by first | rfl | (simp; done) | (simp [*]; done)), H', ⟨Nat.le_refl _⟩, by repeat (first | exact zaC.refl _ | apply zaC.step)⟩
  case round =>
   clear H'; try clear c1
   try clear p2
   try clear c3
   try clear c3b0
   try clear c3b1
   try clear c3b2
   obtain ⟨x5_1, rfl, HA, HK1, ⟨m1, rfl⟩⟩ := hrel; cases gk with
   | zero => exact absurd HA.out (by simp [zaP.l0])
   | succ k1 =>
    have H := HA.out; clear HA; simp only [zaP.l0] at H; by_cases c4 : x5_1 < (l0.length : Int)
    ·rw [if_pos c4] at H
     have c4b0 : decide (x5_1 < (l0.length : Int)) = true := decide_eq_true c4; clear c4; by_cases c5 : 0 ≤ x5_1
     ·rw [if_pos c5] at H
      have c5b0 : decide (0 ≤ x5_1) = true := decide_eq_true c5; clear c5; by_cases c6 : x5_1 < (l1.length : Int)
      ·rw [if_pos c6] at H
       have c6b0 : decide (x5_1 < (l1.length : Int)) = true := decide_eq_true c6; clear c6; by_cases c7 : ((!(((zbD l0 x5_1).f0.f0) == ((zbD l1 x5_1).f0.f0)) || (!(((zbD l0 x5_1).f0.f1) == ((zbD l1 x5_1).f0.f1)))) || (!(((zbD l0 x5_1).f1) == ((zbD l1 x5_1).f1)) || (!(((zbD l0 x5_1).f2) == ((zbD l1 x5_1).f2))))) = true
       ·rw [if_pos c7] at H
        have c7b0 : ((!(((zbD l0 x5_1).f0.f0) == ((zbD l1 x5_1).f0.f0)) || (!(((zbD l0 x5_1).f0.f1) == ((zbD l1 x5_1).f0.f1)))) || (!(((zbD l0 x5_1).f1) == ((zbD l1 x5_1).f1)) || (!(((zbD l0 x5_1).f2) == ((zbD l1 x5_1).f2))))) = true := c7; clear c7; obtain rfl := Option.some.inj H; have p182 : 0 ≤ (x5_1 : Int) := of_decide_eq_true (by assumption)
        have q182 : x5_1 < (l0.length : Int) := of_decide_eq_true (by assumption)
        obtain ⟨ad182, e182, hx182_0, hx182_1, hx182_2, hx182_3⟩ := at_T44 HR0.out x5_1 p182 q182; cases e182; replace p182 := eq_true p182; replace q182 := eq_true q182; have p183 : 0 ≤ (x5_1 : Int) := of_decide_eq_true (by assumption)
        have q183 : x5_1 < (l1.length : Int) := of_decide_eq_true (by assumption)
        obtain ⟨ad183, e183, hx183_0, hx183_1, hx183_2, hx183_3⟩ := at_T44 HR1.out x5_1 p183 q183; cases e183; replace p183 := eq_true p183; replace q183 := eq_true q183; go_wp2
        repeat (go_quiet (fail); try go_wp2)
        go_ret
        exact ⟨by first | rfl | (simp; done) | (simp [*]; done), by repeat (first | exact zaC.refl _ | apply zaC.step)⟩
       ·rw [if_neg c7] at H
        have c7b0 : ((!(((zbD l0 x5_1).f0.f0) == ((zbD l1 x5_1).f0.f0)) || (!(((zbD l0 x5_1).f0.f1) == ((zbD l1 x5_1).f0.f1)))) || (!(((zbD l0 x5_1).f1) == ((zbD l1 x5_1).f1)) || (!(((zbD l0 x5_1).f2) == ((zbD l1 x5_1).f2))))) = false := by simpa using c7
        clear c7; have H' := zaa.mk H; clear H; have p182 : 0 ≤ (x5_1 : Int) := of_decide_eq_true (by assumption)
        have q182 : x5_1 < (l0.length : Int) := of_decide_eq_true (by assumption)
        obtain ⟨ad182, e182, hx182_0, hx182_1, hx182_2, hx182_3⟩ := at_T44 HR0.out x5_1 p182 q182; cases e182; replace p182 := eq_true p182; replace q182 := eq_true q182; have p183 : 0 ≤ (x5_1 : Int) := of_decide_eq_true (by assumption)
        have q183 : x5_1 < (l1.length : Int) := of_decide_eq_true (by assumption)
        obtain ⟨ad183, e183, hx183_0, hx183_1, hx183_2, hx183_3⟩ := at_T44 HR1.out x5_1 p183 q183; cases e183; replace p183 := eq_true p183; replace q183 := eq_true q183; go_wp2
        repeat (go_quiet (fail); try go_wp2)
        go_roundg k1
        case measure => have := HK1.out; omega
        case rel => exact ⟨(wrap64 (x5_1 + 1)), (by first | rfl | (simp; done) | (simp [*]; done)), H', ⟨by have := HK1.out; omega⟩, by repeat (first | exact zaC.refl _ | apply zaC.step)⟩
      ·rw [if_neg c6] at H
       exact absurd H (by simp)
     ·rw [if_neg c5] at H
      exact absurd H (by simp)
    ·rw [if_neg c4] at H
     have c4b0 : decide (x5_1 < (l0.length : Int)) = false := decide_eq_false c4; clear c4; obtain rfl := Option.some.inj H; go_wp2
     repeat (go_quiet (fail); try go_wp2)
     go_ret
     exact ⟨by first | rfl | (simp; done) | (simp [*]; done), by repeat (first | exact zaC.refl _ | apply zaC.step)⟩
 ·rw [if_neg c3] at H
  have c3b0 : ((l0.length : Int) == (l1.length : Int)) = false := beq_eq_false_iff_ne.mpr c3; have c3b1 : ((l0.length : Int) != (l1.length : Int)) = true := bne_iff_ne.mpr c3; have c3b2 : (l0.length == l1.length) = false := by first | simpa using c3 | (simp at c3 ⊢; omega)
  obtain rfl := Option.some.inj H; go_enter Try.func13, Try.ntmps13
  go_wp2
  repeat (go_quiet (fail); try go_wp2)
  go_ret
  exact ⟨by first | rfl | (simp; done) | (simp [*]; done), by repeat (first | exact zaC.refl _ | apply zaC.step)⟩
end
end Go.Proofs.Ytceddikbmbadlaa.H
