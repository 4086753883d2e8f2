/- For every list the program's IsBalanced answers what the reference's answers, and leaves its argument alone. No conditions beyond the given statement. -/
import Derived.Test.YtdhefbmlkjhknaaPFnExactIsBalancedx5
import Derived.Test.YtdhefbmlkjhknaaWSized
import Derived.Test.YtdhefbmlkjhknaaWSized
set_option linter.unusedVariables false
set_option linter.unusedSimpArgs false
namespace Go.Proofs.Ytdhefbmlkjhknaa.Pure
open Go.RowKit Go.Proofs.Ytdhefbmlkjhknaa.PFnExactIsBalanced Go.Proofs.YtdhefbmlkjhknaaW.PrintWords Go.Proofs.YtdhefbmlkjhknaaW.PrintLast

theorem ev_succ {α : Type} {g : Nat → Option α} {r : α} (h : Ev (fun k => g (k + 1)) r) : Ev g r := Ev.step (fun _ => rfl) h
theorem ev_some {α : Type} {r r' : α} (h : r = r') : Ev (fun _ => some r) r' := by subst h; exact Ev.now r
theorem ev_pos {α : Type} {c : Prop} [Decidable c] {g f : Nat → Option α} {r : α} (hc : c) (h : Ev g r) : Ev (fun k => if c then g k else f k) r := by
  simp only [if_pos hc]; exact h
theorem ev_neg {α : Type} {c : Prop} [Decidable c] {g f : Nat → Option α} {r : α} (hc : ¬ c) (h : Ev f r) : Ev (fun k => if c then g k else f k) r := by
  simp only [if_neg hc]; exact h
theorem ev_ite {α : Type} {c : Prop} [Decidable c] {g f : Nat → Option α} {r : α} (h : c → Ev g r) (h' : ¬ c → Ev f r) : Ev (fun k => if c then g k else f k) r := by
  by_cases hc : c
  · exact ev_pos hc (h hc)
  · exact ev_neg hc (h' hc)
theorem ev_bind {α β : Type} {g : Nat → Option α} {f : Nat → α → Option β} {a : α} {r : β} (h : Ev g a) (k : Ev (fun n => f n a) r) : Ev (fun n => (g n).bind (f n)) r := Ev.bind h k
theorem ev_bind0 {α β : Type} {o : Option α} {f : Nat → α → Option β} {a : α} {r : β} (h : o = some a) (k : Ev (fun n => f n a) r) : Ev (fun n => o.bind (f n)) r := by
  subst h; exact k
theorem ev_eq {α : Type} {g : Nat → Option α} {r r' : α} (h : Ev g r) (e : r = r') : Ev g r' := e ▸ h
theorem ev_const {α : Type} {o : Option α} {r : α} (h : o = some r) : Ev (fun _ => o) r := by subst h; exact Ev.now r
theorem wr {n : Int} (h0 : -9223372036854775808 ≤ n) (h1 : n ≤ 9223372036854775807) : wrap64 n = n := by unfold wrap64; omega
theorem wr1 {i : Int} (h0 : 0 ≤ i) (h1 : i ≤ 4611686018427387904) : wrap64 (i + 1) = i + 1 := wr (by omega) (by omega)
theorem wr_nat {n : Nat} (h : n ≤ 4611686018427387904) : wrap64 (n : Int) = n := wr (by omega) (by omega)
theorem rd_nat (l : List Int) (i : Nat) : rd l (i : Int) = l.getD i 0 := by simp [rd]
theorem rd_get {l : List Int} {i : Nat} (h : i < l.length) : rd l (i : Int) = l[i] := by
  simp [rd, List.getD_eq_getElem?_getD, List.getElem?_eq_getElem h]
theorem drop_rd {l : List Int} {i : Nat} (h : i < l.length) : l.drop i = rd l (i : Int) :: l.drop (i + 1) := by
  rw [rd_get h]; exact List.drop_eq_getElem_cons h
theorem rd_mem {l : List Int} {i : Nat} (h : i < l.length) : rd l (i : Int) ∈ l := by rw [rd_get h]; exact List.getElem_mem h


theorem toIntS_l0 (l : List Int) (hn : l.length ≤ 4611686018427387904) (d : Nat) : ∀ (i : Nat) (x : List Int), i + d = l.length → x.length = l.length → (∀ j, j < i → x[j]? = l[j]?) →
    Ev (fun k => laws_toIntS.l0 k l x (i : Int)) l := by
  induction d with
  | zero =>
    intro i x hi hx hj
    refine ev_succ ?_
    simp only [laws_toIntS.l0]
    refine ev_neg (by omega) (ev_some ?_)
    apply List.ext_getElem?
    intro j
    by_cases h : j < i
    · exact hj j h
    · rw [List.getElem?_eq_none (by omega), List.getElem?_eq_none (by omega)]
  | succ d ih =>
    intro i x hi hx hj
    refine ev_succ ?_
    simp only [laws_toIntS.l0, wr1 (show (0 : Int) ≤ (i : Int) by omega) (by omega)]
    refine ev_pos (by omega) (ev_pos (by omega) (ev_pos (by omega) ?_))
    refine ih (i + 1) _ (by omega) (by simp [hx]) ?_
    intro j hj'
    rw [Int.toNat_natCast, rd_get (by omega), List.getElem?_set]
    by_cases e : i = j
    · subst e
      rw [if_pos rfl, if_pos (by omega), List.getElem?_eq_getElem (by omega)]
    · rw [if_neg e]; exact hj j (by omega)
theorem toIntS_ev (l : List Int) (hn : l.length ≤ 35184372088832) : Ev (fun k => laws_toIntS.f k l) l := by
  simp only [laws_toIntS.f]
  refine ev_pos (by omega) (ev_pos (by omega) ?_)
  exact toIntS_l0 l (by omega) l.length 0 _ (by omega) (by simp) (by intro j hj; omega)


theorem eqIntS_l0 (l : List Int) (hn : l.length ≤ 4611686018427387904) (d : Nat) : ∀ (i : Nat), i + d = l.length → Ev (fun k => laws_eqIntS.l0 k l l (i : Int)) true := by
  induction d with
  | zero =>
    intro i hi
    refine ev_succ ?_
    simp only [laws_eqIntS.l0]
    exact ev_neg (by omega) (ev_some rfl)
  | succ d ih =>
    intro i hi
    refine ev_succ ?_
    simp only [laws_eqIntS.l0, wr1 (show (0 : Int) ≤ (i : Int) by omega) (by omega)]
    exact ev_pos (by omega) (ev_pos (by omega) (ev_pos (by omega) (ev_pos trivial (ih (i + 1) (by omega)))))
theorem eqIntS_ev (l : List Int) (hn : l.length ≤ 4611686018427387904) : Ev (fun k => laws_eqIntS.f k l l) true := by
  simp only [laws_eqIntS.f]
  exact ev_pos trivial (eqIntS_l0 l hn l.length 0 (by omega))


theorem l1In_eq (a b c : Int) : spec_l1In.f a b c = some (decide (b ≤ a ∧ a ≤ c)) := by
  unfold spec_l1In.f
  by_cases h : a ≥ b
  · rw [if_pos h]; simp [show b ≤ a from h]
  · rw [if_neg h]; simp [show ¬ b ≤ a from h]


def areL (m : Int) (l : List Int) : Bool := l.all fun x => decide (0 ≤ x ∧ x < m)
theorem impl_areLetters_l0 (l : List Int) (m : Int) (hn : l.length ≤ 4611686018427387904) (d : Nat) : ∀ (i : Nat), i + d = l.length →
    Ev (fun k => impl_areLetters.l0 k m l (l.length : Int) (i : Int)) (areL m (l.drop i)) := by
  induction d with
  | zero =>
    intro i hi
    refine ev_succ ?_
    simp only [impl_areLetters.l0]
    refine ev_neg (by omega) (ev_some ?_)
    rw [List.drop_of_length_le (by omega)]; rfl
  | succ d ih =>
    intro i hi
    refine ev_succ ?_
    simp only [impl_areLetters.l0, wr1 (show (0 : Int) ≤ (i : Int) by omega) (by omega)]
    refine ev_pos (by omega) (ev_pos (by omega) (ev_pos (by omega) ?_))
    rw [drop_rd (by omega : i < l.length)]
    refine ev_ite (fun h => ev_some ?_) (fun h => ev_ite (fun h' => ev_some ?_) (fun h' => ev_eq (ih (i + 1) (by omega)) ?_))
    · simp only [areL, List.all_cons, decide_eq_false (show ¬ (0 ≤ rd l (i : Int) ∧ rd l (i : Int) < m) by omega), Bool.false_and]
    · simp only [areL, List.all_cons, decide_eq_false (show ¬ (0 ≤ rd l (i : Int) ∧ rd l (i : Int) < m) by omega), Bool.false_and]
    · simp only [areL, List.all_cons, decide_eq_true (show (0 ≤ rd l (i : Int) ∧ rd l (i : Int) < m) by omega), Bool.true_and]
theorem impl_areLetters_ev (l : List Int) (m : Int) (hn : l.length ≤ 4611686018427387904) : Ev (fun k => impl_areLetters.f k l m) (areL m l) := by
  simp only [impl_areLetters.f]
  exact impl_areLetters_l0 l m hn l.length 0 (by omega)


theorem spec_IsWord_l0 (l : List Int) (m : Int) (hn : l.length ≤ 4611686018427387904) (d : Nat) : ∀ (i : Nat), i + d = l.length →
    Ev (fun k => spec_IsWord.l0 k l m (i : Int)) (areL m (l.drop i) && decide (1 ≤ m ∧ m ≤ 16) && decide ((l.length : Int) ≤ 400)) := by
  induction d with
  | zero =>
    intro i hi
    refine ev_succ ?_
    simp only [spec_IsWord.l0, l1In_eq, Option.bind_some]
    refine ev_neg (by omega) ?_
    rw [List.drop_of_length_le (by omega)]
    refine ev_ite (fun h => ev_some ?_) (fun h => ev_some ?_)
    · rw [h]; rfl
    · rw [Bool.not_eq_true] at h; rw [h]; rfl
  | succ d ih =>
    intro i hi
    refine ev_succ ?_
    simp only [spec_IsWord.l0, wr1 (show (0 : Int) ≤ (i : Int) by omega) (by omega)]
    refine ev_pos (by omega) (ev_pos (by omega) ?_)
    rw [drop_rd (by omega : i < l.length)]
    refine ev_ite (fun h => ev_some ?_) (fun h => ev_ite (fun h' => ev_some ?_) (fun h' => ev_eq (ih (i + 1) (by omega)) ?_))
    · simp only [areL, List.all_cons, decide_eq_false (show ¬ (0 ≤ rd l (i : Int) ∧ rd l (i : Int) < m) by omega), Bool.false_and]
    · simp only [areL, List.all_cons, decide_eq_false (show ¬ (0 ≤ rd l (i : Int) ∧ rd l (i : Int) < m) by omega), Bool.false_and]
    · simp only [areL, List.all_cons, decide_eq_true (show (0 ≤ rd l (i : Int) ∧ rd l (i : Int) < m) by omega), Bool.true_and]
theorem spec_IsWord_ev (l : List Int) (m : Int) (hn : l.length ≤ 4611686018427387904) : Ev (fun k => spec_IsWord.f k l m) (areL m l && decide (1 ≤ m ∧ m ≤ 16) && decide ((l.length : Int) ≤ 400)) := by
  simp only [spec_IsWord.f]
  exact spec_IsWord_l0 l m hn l.length 0 (by omega)


def cnt (a : Int) : List Int → Int
  | [] => 0
  | x :: l => (if x = a then 1 else 0) + cnt a l
theorem cnt_bd (a : Int) (l : List Int) : 0 ≤ cnt a l ∧ cnt a l ≤ l.length := by
  induction l with
  | nil => exact ⟨by simp [cnt], by simp [cnt]⟩
  | cons x l ih =>
    simp only [cnt, List.length_cons]
    split <;> omega
theorem spec_CountLetters_l0 (l : List Int) (a : Int) (hn : l.length ≤ 4611686018427387904) (d : Nat) : ∀ (i : Nat) (s : Int), i + d = l.length → 0 ≤ s → s ≤ i →
    Ev (fun k => spec_CountLetters.l0 k l a s (i : Int)) (s + cnt a (l.drop i)) := by
  induction d with
  | zero =>
    intro i s hi h0 h1
    refine ev_succ ?_
    simp only [spec_CountLetters.l0]
    refine ev_neg (by omega) (ev_some ?_)
    rw [List.drop_of_length_le (by omega)]; simp [cnt]
  | succ d ih =>
    intro i s hi h0 h1
    refine ev_succ ?_
    simp only [spec_CountLetters.l0, wr1 (show (0 : Int) ≤ (i : Int) by omega) (by omega), wr1 h0 (by omega)]
    refine ev_pos (by omega) (ev_pos (by omega) ?_)
    rw [drop_rd (by omega : i < l.length)]
    refine ev_ite (fun h => ev_eq (ih (i + 1) (s + 1) (by omega) (by omega) (by omega)) ?_) (fun h => ev_eq (ih (i + 1) s (by omega) (by omega) (by omega)) ?_)
    · simp only [cnt, if_pos h]; omega
    · simp only [cnt, if_neg h]; omega
theorem spec_CountLetters_ev (l : List Int) (a : Int) (hn : l.length ≤ 4611686018427387904) : Ev (fun k => spec_CountLetters.f k l a) (cnt a l) := by
  simp only [spec_CountLetters.f]
  exact ev_eq (spec_CountLetters_l0 l a hn l.length 0 0 (by omega) (by omega) (by omega)) (by simp)
theorem oneIf_eq (b : Bool) : impl_oneIf.f b = some (if b = true then 1 else 0) := by
  unfold impl_oneIf.f
  cases b <;> rfl

/-- the ones in the first i letters -/
def pre1 (w : List Int) (i : Nat) : Int := cnt 1 (w.take i)
theorem cnt_append (a : Int) (u v : List Int) : cnt a (u ++ v) = cnt a u + cnt a v := by
  induction u with
  | nil => simp [cnt]
  | cons x u ih => simp only [List.cons_append, cnt, ih]; omega
theorem pre1_succ (w : List Int) (i : Nat) (h : i < w.length) : pre1 w (i + 1) = pre1 w i + (if rd w (i : Int) = 1 then 1 else 0) := by
  unfold pre1
  rw [List.take_succ_eq_append_getElem h, cnt_append, ← rd_get h]
  simp [cnt]
theorem pre1_bd (w : List Int) (i : Nat) : 0 ≤ pre1 w i ∧ pre1 w i ≤ i := by
  have := cnt_bd 1 (w.take i)
  have h2 : (w.take i).length ≤ i := List.length_take_le _ _
  unfold pre1
  omega
/-- how many more ones the part at i of length n has than the part at j -/
def dif (w : List Int) (n i j : Nat) : Int := pre1 w (i + n) - pre1 w i - pre1 w (j + n) + pre1 w j
def bad (w : List Int) (n i j : Nat) : Bool := decide (dif w n i j > 1 ∨ dif w n i j < -1)
def sJ (w : List Int) (n i : Nat) : Nat → Nat → Option (Nat × Nat × Nat)
  | 0, _ => none
  | r + 1, j => if bad w n i j = true then some (n, i, j) else sJ w n i r (j + 1)
def sI (w : List Int) (n : Nat) : Nat → Nat → Option (Nat × Nat × Nat)
  | 0, _ => none
  | r + 1, i => match sJ w n i (w.length - n - i) (i + 1) with
    | some t => some t
    | none => sI w n r (i + 1)
def sN (w : List Int) : Nat → Nat → Option (Nat × Nat × Nat)
  | 0, _ => none
  | r + 1, n => match sI w n (w.length - n + 1) 0 with
    | some t => some t
    | none => sN w r (n + 1)
def ubFind (w : List Int) : Option (Nat × Nat × Nat) := sN w (w.length - 1) 1
def ubTell : Option (Nat × Nat × Nat) → Int × Int × Int × Bool
  | none => (0, 0, 0, false)
  | some (n, i, j) => ((n : Int), (i : Int), (j : Int), true)
def sums (w : List Int) (m : Nat) : List Int := (List.range m).map fun (i : Nat) => pre1 w i
theorem sums_length (w : List Int) (m : Nat) : (sums w m).length = m := by simp [sums]
theorem sums_succ (w : List Int) (m : Nat) : sums w (m + 1) = sums w m ++ [pre1 w m] := by simp [sums, List.range_succ]
theorem sums_rd (w : List Int) (m i : Nat) (h : i < m) : rd (sums w m) (i : Int) = pre1 w i := by
  rw [rd_get (by rw [sums_length]; exact h)]; simp [sums]
theorem unb_l0 (w : List Int) (hn : w.length ≤ 1000000) (R : Int × Int × Int × Bool) (H : Ev (fun k => impl_unbalanced.l1 k w (sums w (w.length + 1)) 1) R) (d : Nat) : ∀ i : Nat, i + d = w.length →
    Ev (fun k => impl_unbalanced.l0 k w (sums w (i + 1)) w (w.length : Int) (i : Int)) R := by
  induction d with
  | zero =>
    intro i hi
    refine ev_succ ?_
    simp only [impl_unbalanced.l0]
    refine ev_neg (by omega) ?_
    rw [show i = w.length by omega]; exact H
  | succ d ih =>
    intro i hi
    have hb := pre1_bd w i
    refine ev_succ ?_
    simp only [impl_unbalanced.l0, oneIf_eq, Option.bind_some, beq_iff_eq, sums_length]
    rw [show (((i + 1 : Nat) : Int) - 1) = (i : Int) by omega, wr_nat (by omega), wr1 (by omega) (by omega), sums_rd w (i + 1) i (by omega)]
    refine ev_pos (by omega) (ev_pos (by omega) (ev_pos (by omega) (ev_pos (by omega) (ev_pos (by omega) (ev_pos (by omega) ?_)))))
    rw [wr (n := pre1 w i + _) (by split <;> omega) (by split <;> omega), ← pre1_succ w i (by omega), ← sums_succ]
    exact ih (i + 1) (by omega)
theorem unb_l3 (w : List Int) (n i : Nat) (hn : w.length ≤ 1000000) (h1 : 1 ≤ n) (hi : i + n ≤ w.length) (R : Int × Int × Int × Bool) (d : Nat) :
    ∀ j : Nat, j + n + d = w.length + 1 → (sJ w n i d j = none → Ev (fun k => impl_unbalanced.l2 k w (sums w (w.length + 1)) (n : Int) ((i + 1 : Nat) : Int)) R) → (∀ t, sJ w n i d j = some t → ubTell (some t) = R) →
    Ev (fun k => impl_unbalanced.l3 k w (sums w (w.length + 1)) (n : Int) (i : Int) (j : Int)) R := by
  induction d with
  | zero =>
    intro j hj H ht
    refine ev_succ ?_
    simp only [impl_unbalanced.l3]
    rw [wr (n := (j : Int) + n) (by omega) (by omega), wr1 (show (0 : Int) ≤ (i : Int) by omega) (by omega)]
    exact ev_neg (by omega) (H rfl)
  | succ d ih =>
    intro j hj H ht
    refine ev_succ ?_
    simp only [impl_unbalanced.l3, sums_length]
    have b1 := pre1_bd w (i + n)
    have b2 := pre1_bd w i
    have b3 := pre1_bd w (j + n)
    have b4 := pre1_bd w j
    rw [show (j : Int) + (n : Int) = ((j + n : Nat) : Int) by omega, show (i : Int) + (n : Int) = ((i + n : Nat) : Int) by omega, wr_nat (show j + n ≤ 4611686018427387904 by omega), wr_nat (show i + n ≤ 4611686018427387904 by omega)]
    refine ev_pos (by omega) (ev_pos (by omega) (ev_pos (by omega) (ev_pos (by omega) (ev_pos (by omega) (ev_pos (by omega) (ev_pos (by omega) (ev_pos (by omega) (ev_pos (by omega) ?_))))))))
    rw [sums_rd _ _ (i + n) (by omega), sums_rd _ _ i (by omega), sums_rd _ _ (j + n) (by omega), sums_rd _ _ j (by omega)]
    rw [wr (n := pre1 w (i + n) - pre1 w i) (by omega) (by omega), wr (n := pre1 w (i + n) - pre1 w i - pre1 w (j + n)) (by omega) (by omega), wr (n := pre1 w (i + n) - pre1 w i - pre1 w (j + n) + pre1 w j) (by omega) (by omega), wr1 (show (0 : Int) ≤ (j : Int) by omega) (by omega)]
    have hd : dif w n i j = pre1 w (i + n) - pre1 w i - pre1 w (j + n) + pre1 w j := rfl
    rw [← hd]
    simp only [sJ] at ht H
    refine ev_ite (fun h => ev_some ?_) (fun h => ev_ite (fun h' => ev_some ?_) (fun h' => ?_))
    · rw [if_pos (by simp [bad]; omega)] at ht
      exact ht _ rfl
    · rw [if_pos (by simp [bad]; omega)] at ht
      exact ht _ rfl
    · rw [if_neg (by simp [bad]; omega)] at ht H
      exact ih (j + 1) (by omega) H ht
theorem unb_l2 (w : List Int) (n : Nat) (hn : w.length ≤ 1000000) (h1 : 1 ≤ n) (R : Int × Int × Int × Bool) (d : Nat) :
    ∀ i : Nat, i + n + d = w.length + 1 → (sI w n d i = none → Ev (fun k => impl_unbalanced.l1 k w (sums w (w.length + 1)) ((n + 1 : Nat) : Int)) R) → (∀ t, sI w n d i = some t → ubTell (some t) = R) →
    Ev (fun k => impl_unbalanced.l2 k w (sums w (w.length + 1)) (n : Int) (i : Int)) R := by
  induction d with
  | zero =>
    intro i hi H ht
    refine ev_succ ?_
    simp only [impl_unbalanced.l2]
    rw [wr (n := (i : Int) + n) (by omega) (by omega), wr1 (show (0 : Int) ≤ (n : Int) by omega) (by omega)]
    exact ev_neg (by omega) (H rfl)
  | succ d ih =>
    intro i hi H ht
    refine ev_succ ?_
    simp only [impl_unbalanced.l2]
    rw [wr (n := (i : Int) + n) (by omega) (by omega), wr1 (show (0 : Int) ≤ (i : Int) by omega) (by omega)]
    refine ev_pos (by omega) ?_
    simp only [sI] at ht H
    refine unb_l3 w n i hn h1 (by omega) R (w.length - n - i) (i + 1) (by omega) (fun h => ?_) (fun t h => ?_)
    · rw [h] at ht H
      exact ih (i + 1) (by omega) H ht
    · rw [h] at ht
      exact ht _ rfl
theorem unb_l1 (w : List Int) (hn : w.length ≤ 1000000) (d : Nat) :
    ∀ n : Nat, 1 ≤ n → n + d = max w.length 1 → Ev (fun k => impl_unbalanced.l1 k w (sums w (w.length + 1)) (n : Int)) (ubTell (sN w d n)) := by
  induction d with
  | zero =>
    intro n h1 hd
    refine ev_succ ?_
    simp only [impl_unbalanced.l1]
    exact ev_neg (by omega) (ev_some rfl)
  | succ d ih =>
    intro n h1 hd
    refine ev_succ ?_
    simp only [impl_unbalanced.l1]
    refine ev_pos (by omega) ?_
    simp only [sN]
    have := ih (n + 1) (by omega) (by omega)
    refine unb_l2 w n hn h1 _ (w.length - n + 1) 0 (by omega) (fun h => ?_) (fun t h => ?_)
    · rw [h]; exact this
    · rw [h]
theorem impl_unbalanced_ev (w : List Int) (hn : w.length ≤ 1000000) : Ev (fun k => impl_unbalanced.f k w) (ubTell (ubFind w)) := by
  simp only [impl_unbalanced.f]
  refine unb_l0 w hn _ ?_ w.length 0 (by omega)
  exact unb_l1 w hn (w.length - 1) 1 (by omega) (by omega)


theorem cnt_part (w : List Int) (i n : Nat) : cnt 1 ((w.take (i + n)).drop i) = pre1 w (i + n) - pre1 w i := by
  have h : w.take (i + n) = w.take i ++ (w.take (i + n)).drop i := by
    conv => lhs; rw [← List.take_append_drop i (w.take (i + n))]
    rw [List.take_take, Nat.min_eq_left (by omega)]
  unfold pre1
  conv => rhs; rw [h]
  rw [cnt_append]; omega
def part (w : List Int) (i n : Nat) : List Int := (w.take (i + n)).drop i
def ubPair (w : List Int) : List Int × List Int × Bool := if w.length ≤ 64 then (match ubFind w with
  | none => ([], [], false)
  | some (n, i, j) => (part w i n, part w j n, true)) else ([], [], false)
theorem part_length (w : List Int) (i n : Nat) : (part w i n).length ≤ w.length := by
  simp only [part, List.length_drop, List.length_take]; omega
def ubOf (w : List Int) : Option (Nat × Nat × Nat) → List Int × List Int × Bool
  | none => ([], [], false)
  | some (n, i, j) => (part w i n, part w j n, true)
theorem spec_ub_l2 (w : List Int) (n i : Nat) (hn : w.length ≤ 64) (h1 : 1 ≤ n) (hi : i + n ≤ w.length) (R : List Int × List Int × Bool) (d : Nat) :
    ∀ j : Nat, j + n + d = w.length + 1 → (sJ w n i d j = none → Ev (fun k => spec_UnbalancedPair.l1 k w (n : Int) ((i + 1 : Nat) : Int)) R) → (∀ t, sJ w n i d j = some t → ubOf w (some t) = R) →
    Ev (fun k => spec_UnbalancedPair.l2 k w (n : Int) (i : Int) (j : Int)) R := by
  induction d with
  | zero =>
    intro j hj H ht
    refine ev_succ ?_
    simp only [spec_UnbalancedPair.l2]
    rw [wr (n := (j : Int) + n) (by omega) (by omega), wr1 (show (0 : Int) ≤ (i : Int) by omega) (by omega)]
    exact ev_neg (by omega) (H rfl)
  | succ d ih =>
    intro j hj H ht
    refine ev_succ ?_
    simp only [spec_UnbalancedPair.l2, Option.bind_some, List.nil_append, List.length_nil]
    have b1 := pre1_bd w (i + n)
    have b2 := pre1_bd w i
    have b3 := pre1_bd w (j + n)
    have b4 := pre1_bd w j
    rw [show (j : Int) + (n : Int) = ((j + n : Nat) : Int) by omega, show (i : Int) + (n : Int) = ((i + n : Nat) : Int) by omega, wr_nat (show j + n ≤ 4611686018427387904 by omega), wr_nat (show i + n ≤ 4611686018427387904 by omega)]
    simp only [Int.toNat_natCast]
    have l1 := part_length w i n
    have l2 := part_length w j n
    have c1 := cnt_part w i n
    have c2 := cnt_part w j n
    change cnt 1 (part w i n) = _ at c1
    change cnt 1 (part w j n) = _ at c2
    change Ev (fun k => if ((j + n : Nat) : Int) ≤ (w.length : Int) then (if 0 ≤ (i : Int) then (if (i : Int) ≤ ((i + n : Nat) : Int) then (if ((i + n : Nat) : Int) ≤ (w.length : Int) then ((spec_CountLetters.f k (part w i n) 1).bind fun t109 => (if 0 ≤ (j : Int) then (if (j : Int) ≤ ((j + n : Nat) : Int) then ((spec_CountLetters.f k (part w j n) 1).bind fun t111 => (if (wrap64 (t109 - t111)) > 1 then (if 0 + (part w i n).length < 17592186044416 then (if 0 + (part w j n).length < 17592186044416 then (some (part w i n, part w j n, true)) else (none)) else (none)) else (if (wrap64 (t111 - t109)) > 1 then (if 0 + (part w i n).length < 17592186044416 then (if 0 + (part w j n).length < 17592186044416 then (some (part w i n, part w j n, true)) else (none)) else (none)) else (spec_UnbalancedPair.l2 k w (n : Int) (i : Int) (wrap64 ((j : Int) + 1)))))) else (none)) else (none))) else (none)) else (none)) else (none)) else (spec_UnbalancedPair.l1 k w (n : Int) (wrap64 ((i : Int) + 1)))) R
    refine ev_pos (by omega) (ev_pos (by omega) (ev_pos (by omega) (ev_pos (by omega) (ev_bind (spec_CountLetters_ev (part w i n) 1 (by omega)) (ev_pos (by omega) (ev_pos (by omega) (ev_bind (spec_CountLetters_ev (part w j n) 1 (by omega)) ?_)))))))
    rw [c1, c2, wr (n := pre1 w (i + n) - pre1 w i - (pre1 w (j + n) - pre1 w j)) (by omega) (by omega), wr (n := pre1 w (j + n) - pre1 w j - (pre1 w (i + n) - pre1 w i)) (by omega) (by omega), wr1 (show (0 : Int) ≤ (j : Int) by omega) (by omega)]
    have hd : dif w n i j = pre1 w (i + n) - pre1 w i - pre1 w (j + n) + pre1 w j := rfl
    simp only [sJ] at ht H
    refine ev_ite (fun h => ?_) (fun h => ev_ite (fun h' => ?_) (fun h' => ?_))
    · refine ev_pos (by omega) (ev_pos (by omega) (ev_some ?_))
      rw [if_pos (by simp [bad]; omega)] at ht
      exact ht _ rfl
    · refine ev_pos (by omega) (ev_pos (by omega) (ev_some ?_))
      rw [if_pos (by simp [bad]; omega)] at ht
      exact ht _ rfl
    · rw [if_neg (by simp [bad]; omega)] at ht H
      exact ih (j + 1) (by omega) H ht
theorem spec_ub_l1 (w : List Int) (n : Nat) (hn : w.length ≤ 64) (h1 : 1 ≤ n) (R : List Int × List Int × Bool) (d : Nat) :
    ∀ i : Nat, i + n + d = w.length + 1 → (sI w n d i = none → Ev (fun k => spec_UnbalancedPair.l0 k w ((n + 1 : Nat) : Int)) R) → (∀ t, sI w n d i = some t → ubOf w (some t) = R) →
    Ev (fun k => spec_UnbalancedPair.l1 k w (n : Int) (i : Int)) R := by
  induction d with
  | zero =>
    intro i hi H ht
    refine ev_succ ?_
    simp only [spec_UnbalancedPair.l1]
    rw [wr (n := (i : Int) + n) (by omega) (by omega), wr1 (show (0 : Int) ≤ (n : Int) by omega) (by omega)]
    exact ev_neg (by omega) (H rfl)
  | succ d ih =>
    intro i hi H ht
    refine ev_succ ?_
    simp only [spec_UnbalancedPair.l1]
    rw [wr (n := (i : Int) + n) (by omega) (by omega), wr1 (show (0 : Int) ≤ (i : Int) by omega) (by omega)]
    refine ev_pos (by omega) ?_
    simp only [sI] at ht H
    refine spec_ub_l2 w n i hn h1 (by omega) R (w.length - n - i) (i + 1) (by omega) (fun h => ?_) (fun t h => ?_)
    · rw [h] at ht H
      exact ih (i + 1) (by omega) H ht
    · rw [h] at ht
      exact ht _ rfl
theorem spec_ub_l0 (w : List Int) (hn : w.length ≤ 64) (d : Nat) :
    ∀ n : Nat, 1 ≤ n → n + d = w.length + 1 → Ev (fun k => spec_UnbalancedPair.l0 k w (n : Int)) (ubOf w (sN w d n)) := by
  induction d with
  | zero =>
    intro n h1 hd
    refine ev_succ ?_
    simp only [spec_UnbalancedPair.l0]
    refine ev_neg (by omega) (ev_succ ?_)
    simp only [spec_UnbalancedPair.j1]
    exact ev_neg (by simp) (ev_some rfl)
  | succ d ih =>
    intro n h1 hd
    refine ev_succ ?_
    simp only [spec_UnbalancedPair.l0]
    refine ev_pos (by omega) (ev_succ ?_)
    simp only [spec_UnbalancedPair.j1]
    refine ev_pos (by simp; omega) ?_
    simp only [sN]
    have := ih (n + 1) (by omega) (by omega)
    refine spec_ub_l1 w n hn h1 _ (w.length - n + 1) 0 (by omega) (fun h => ?_) (fun t h => ?_)
    · rw [h]; exact this
    · rw [h]
theorem sN_last (w : List Int) (r : Nat) : ∀ n, n + r = w.length → 1 ≤ n → sN w (r + 1) n = sN w r n := by
  induction r with
  | zero =>
    intro n hn h1
    simp only [sN]
    rw [show w.length - n + 1 = 0 + 1 by omega]
    simp only [sI]
    rw [show w.length - n - 0 = 0 by omega]
    rfl
  | succ r ih =>
    intro n hn h1
    have := ih (n + 1) (by omega) (by omega)
    conv => lhs; unfold sN
    conv => rhs; unfold sN
    rw [this]
theorem ubFind_all (w : List Int) : sN w w.length 1 = ubFind w := by
  unfold ubFind
  cases hl : w.length with
  | zero => rfl
  | succ m =>
    rw [Nat.succ_sub_one]
    exact sN_last w m 1 (by omega) (by omega)
theorem ubPair_of (w : List Int) (h : w.length ≤ 64) : ubPair w = ubOf w (ubFind w) := by
  unfold ubPair
  rw [if_pos h]
  cases ubFind w <;> rfl
theorem spec_UnbalancedPair_ev (w : List Int) (hn : w.length ≤ 4611686018427387904) : Ev (fun k => spec_UnbalancedPair.f k w) (ubPair w) := by
  simp only [spec_UnbalancedPair.f]
  by_cases h : w.length ≤ 64
  · rw [ubPair_of w h, ← ubFind_all]
    exact spec_ub_l0 w h w.length 1 (by omega) (by omega)
  · unfold ubPair
    rw [if_neg h]
    refine ev_succ ?_
    simp only [spec_UnbalancedPair.l0]
    rw [decide_eq_false (by omega)]
    refine ev_pos (by omega) (ev_succ ?_)
    simp only [spec_UnbalancedPair.j1]
    exact ev_neg (by simp) (ev_some rfl)
theorem sJ_in (w : List Int) (n i : Nat) (r : Nat) : ∀ j t, j + n + r ≤ w.length + 1 → sJ w n i r j = some t → ∃ j', t = (n, i, j') ∧ j' + n ≤ w.length := by
  induction r with
  | zero => intro j t _ h; cases h
  | succ r ih =>
    intro j t hj h
    simp only [sJ] at h
    split at h
    · exact ⟨j, (Option.some.inj h).symm, by omega⟩
    · exact ih (j + 1) t (by omega) h
theorem sI_in (w : List Int) (n : Nat) (h1 : 1 ≤ n) (r : Nat) : ∀ i t, i + n + r ≤ w.length + 1 → sI w n r i = some t → ∃ i' j', t = (n, i', j') ∧ i' + n ≤ w.length ∧ j' + n ≤ w.length := by
  induction r with
  | zero => intro i t _ h; cases h
  | succ r ih =>
    intro i t hi h
    simp only [sI] at h
    split at h
    · rename_i t' ht
      obtain ⟨j', rfl, hj⟩ := sJ_in w n i _ _ _ (by omega) ht
      exact ⟨i, j', (Option.some.inj h).symm, by omega, hj⟩
    · exact ih (i + 1) t (by omega) h
theorem sN_in (w : List Int) (r : Nat) : ∀ n t, 1 ≤ n → n + r ≤ max w.length 1 → sN w r n = some t → ∃ n' i' j', t = (n', i', j') ∧ 1 ≤ n' ∧ i' + n' ≤ w.length ∧ j' + n' ≤ w.length := by
  induction r with
  | zero => intro n t _ _ h; cases h
  | succ r ih =>
    intro n t h1 hn h
    simp only [sN] at h
    split at h
    · rename_i t' ht
      obtain ⟨i', j', rfl, hi, hj⟩ := sI_in w n h1 _ _ _ (by omega) ht
      exact ⟨n, i', j', (Option.some.inj h).symm, h1, hi, hj⟩
    · exact ih (n + 1) t (by omega) (by omega) h
theorem ubFind_in (w : List Int) (t : Nat × Nat × Nat) (h : ubFind w = some t) : 1 ≤ t.1 ∧ t.2.1 + t.1 ≤ w.length ∧ t.2.2 + t.1 ≤ w.length := by
  obtain ⟨n, i, j, rfl, h1, h2, h3⟩ := sN_in w _ 1 t (by omega) (by omega) h
  exact ⟨h1, h2, h3⟩
theorem ubPair_length (w : List Int) (hn : w.length ≤ 1048576) : (ubPair w).1.length ≤ 1048576 ∧ (ubPair w).2.1.length ≤ 1048576 := by
  by_cases h : w.length ≤ 64
  · rw [ubPair_of w h]
    cases ubFind w with
    | none => simp [ubOf]
    | some t =>
      obtain ⟨n, i, j⟩ := t
      have l1 := part_length w i n
      have l2 := part_length w j n
      simp only [ubOf]; omega
  · unfold ubPair; rw [if_neg h]; simp


def isBal (w : List Int) : Bool := decide (w.length ≤ 64) && areL 2 w && (ubFind w).isNone
theorem ubTell_found (o : Option (Nat × Nat × Nat)) : (ubTell o).2.2.2 = o.isSome := by cases o <;> rfl
theorem impl_IsBalanced_ev (w : List Int) (hn : w.length ≤ 4611686018427387904) : Ev (fun k => impl_IsBalanced.f k w) (isBal w) := by
  simp only [impl_IsBalanced.f]
  unfold isBal
  refine ev_ite (fun h => ev_some ?_) (fun h => ?_)
  · rw [decide_eq_false (by omega)]; rfl
  · rw [decide_eq_true (by omega)]
    refine ev_bind (impl_areLetters_ev w 2 hn) (ev_ite (fun h' => ?_) (fun h' => ev_some ?_))
    · refine ev_bind (impl_unbalanced_ev w (by omega)) (ev_some ?_)
      rw [ubTell_found, h']
      cases ubFind w <;> rfl
    · rw [Bool.not_eq_true] at h'; rw [h']; rfl


theorem spec_IsBalanced_ev (w : List Int) (hn : w.length ≤ 4611686018427387904) : Ev (fun k => spec_IsBalanced.f k w) (isBal w) := by
  simp only [spec_IsBalanced.f]
  unfold isBal
  refine ev_bind (spec_UnbalancedPair_ev w hn) (ev_bind (spec_IsWord_ev w 2 hn) (ev_ite (fun h => ?_) (fun h => ev_some ?_)))
  · simp only [Bool.and_eq_true] at h
    refine ev_ite (fun h6 => ev_some ?_) (fun h6 => ev_some ?_)
    · rw [ubPair_of w (by omega), decide_eq_true (by omega), h.1.1]
      cases ubFind w <;> rfl
    · rw [decide_eq_false (by omega)]; rfl
  · by_cases h6 : w.length ≤ 64
    · rw [decide_eq_true (show (1 : Int) ≤ 2 ∧ (2 : Int) ≤ 16 by omega), decide_eq_true (show (w.length : Int) ≤ 400 by omega), Bool.and_true, Bool.and_true, Bool.not_eq_true] at h
      rw [h]; simp
    · rw [decide_eq_false (by omega)]; rfl


-- SAY: For every list the program's IsBalanced answers what the reference's answers, and leaves its argument alone. No conditions beyond the given statement.
theorem FnExactIsBalanced : laws_FnExactIsBalanced.Pure := by
  intro l hl0 hl1 hwf
  refine Ev.rounds (g := fun k => laws_FnExactIsBalanced.f k l) ?_
  simp only [laws_FnExactIsBalanced.f]
  refine ev_ite (fun h => ev_some rfl) (fun h => ?_)
  refine ev_bind (toIntS_ev l (by omega)) ?_
  refine ev_bind (spec_IsBalanced_ev l (by omega)) ?_
  refine ev_bind (toIntS_ev l (by omega)) ?_
  refine ev_bind (impl_IsBalanced_ev l (by omega)) ?_
  refine ev_neg (by simp) ?_
  refine ev_bind (toIntS_ev l (by omega)) ?_
  refine ev_bind (eqIntS_ev l (by omega)) ?_
  exact ev_pos rfl (ev_some rfl)


end Go.Proofs.Ytdhefbmlkjhknaa.Pure

/-! The row's word for a slice's size, under the name by which the row asks for it. -/
namespace Go.Proofs.Ytdhefbmlkjhknaa.PrintWords
open Go.ChangeShapes Go.WideShapes
theorem sized_ints {H : Type} {enc : TypeId × Value → H} {P : Program} {W : World} {base : Nat} {spare : Nat → Bool} {held : Bool} {t e : TypeId} {k : IntKind} {a : Option Addr} {len cap : Nat} {d : DataW H}
    {ps : List MemPlace} {ts : List TypeId} {ds : List (DataW H)} {j : Nat} (hsz : (DataW.weightsEach P ts ds).all (· ≤ reachBytes) = true) (ht : ts[j]? = some t) (hd : ds[j]? = some d) (hu : P.underlying t = some (.slice e))
    (he : P.underlying e = some (.int k)) (hc : P.cellsOf e = 1) {B : Nat} (hB : P.bytesOf e = B) (h : DataW.Trod enc P W base spare held t (.slice a len cap) d ps) : len * B ≤ 140737488351232 :=
  Go.Proofs.YtdhefbmlkjhknaaW.PrintWords.sized_ints hsz ht hd hu he hc hB h
end Go.Proofs.Ytdhefbmlkjhknaa.PrintWords
