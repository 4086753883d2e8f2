/- For every code the law of Sturmian words holds: standard words have the letters of the convergent, their middle is a palindrome, short ones are balanced; quotients and convergents belong together; mechanical words are balanced. No conditions beyond the given statement. -/
import Derived.Test.YtihbelkchcedpaaPFnSturmianx10
import Derived.Test.YtihbelkchcedpaaWSized
import Derived.Test.YtihbelkchcedpaaWSized
import Derived.Test.YtihbelkchcedpaaWSized
import Derived.Test.YtihbelkchcedpaaWSized
set_option linter.unusedVariables false
set_option linter.unusedSimpArgs false
namespace Go.Proofs.Ytihbelkchcedpaa.Pure
open Go.RowKit Go.Proofs.Ytihbelkchcedpaa.PFnSturmian Go.Proofs.YtihbelkchcedpaaW.PrintWords Go.Proofs.YtihbelkchcedpaaW.PrintLast

theorem ev_succ {α : Type} {g : Nat → Option α} {r : α} (h : Ev (fun k => g (k + 1)) r) : Ev g r := Ev.step (fun _ => rfl) h
theorem ev_some {α : Type} {r r' : α} (h : r = r') : Ev (fun _ => some r) r' := by subst h; exact Ev.now r
theorem ev_pos {α : Type} {c : Prop} [Decidable c] {g f : Nat → Option α} {r : α} (hc : c) (h : Ev g r) : Ev (fun k => if c then g k else f k) r := by
  simp only [if_pos hc]; exact h
theorem ev_neg {α : Type} {c : Prop} [Decidable c] {g f : Nat → Option α} {r : α} (hc : ¬ c) (h : Ev f r) : Ev (fun k => if c then g k else f k) r := by
  simp only [if_neg hc]; exact h
theorem ev_ite {α : Type} {c : Prop} [Decidable c] {g f : Nat → Option α} {r : α} (h : c → Ev g r) (h' : ¬ c → Ev f r) : Ev (fun k => if c then g k else f k) r := by
  by_cases hc : c
  · exact ev_pos hc (h hc)
  · exact ev_neg hc (h' hc)
theorem ev_bind {α β : Type} {g : Nat → Option α} {f : Nat → α → Option β} {a : α} {r : β} (h : Ev g a) (k : Ev (fun n => f n a) r) : Ev (fun n => (g n).bind (f n)) r := Ev.bind h k
theorem ev_bind0 {α β : Type} {o : Option α} {f : Nat → α → Option β} {a : α} {r : β} (h : o = some a) (k : Ev (fun n => f n a) r) : Ev (fun n => o.bind (f n)) r := by
  subst h; exact k
theorem ev_eq {α : Type} {g : Nat → Option α} {r r' : α} (h : Ev g r) (e : r = r') : Ev g r' := e ▸ h
theorem ev_const {α : Type} {o : Option α} {r : α} (h : o = some r) : Ev (fun _ => o) r := by subst h; exact Ev.now r
theorem wr {n : Int} (h0 : -9223372036854775808 ≤ n) (h1 : n ≤ 9223372036854775807) : wrap64 n = n := by unfold wrap64; omega
theorem wr1 {i : Int} (h0 : 0 ≤ i) (h1 : i ≤ 4611686018427387904) : wrap64 (i + 1) = i + 1 := wr (by omega) (by omega)
theorem wr_nat {n : Nat} (h : n ≤ 4611686018427387904) : wrap64 (n : Int) = n := wr (by omega) (by omega)
theorem rd_nat (l : List Int) (i : Nat) : rd l (i : Int) = l.getD i 0 := by simp [rd]
theorem rd_get {l : List Int} {i : Nat} (h : i < l.length) : rd l (i : Int) = l[i] := by
  simp [rd, List.getD_eq_getElem?_getD, List.getElem?_eq_getElem h]
theorem drop_rd {l : List Int} {i : Nat} (h : i < l.length) : l.drop i = rd l (i : Int) :: l.drop (i + 1) := by
  rw [rd_get h]; exact List.drop_eq_getElem_cons h
theorem rd_mem {l : List Int} {i : Nat} (h : i < l.length) : rd l (i : Int) ∈ l := by rw [rd_get h]; exact List.getElem_mem h


theorem big_eq (l : List Int) : laws_big.f l = some (decide ((l.length : Int) > 1048576)) := by simp only [laws_big.f]


theorem laws_sameInts_l0 (a b : List Int) (hl : a.length = b.length) (hn : a.length ≤ 4611686018427387904) (d : Nat) : ∀ (i : Nat), i + d = a.length → Ev (fun k => laws_sameInts.l0 k a b (i : Int)) (decide (a.drop i = b.drop i)) := by
  induction d with
  | zero =>
    intro i hi
    refine ev_succ ?_
    simp only [laws_sameInts.l0]
    refine ev_neg (by omega) (ev_some ?_)
    rw [List.drop_of_length_le (by omega), List.drop_of_length_le (by omega)]; rfl
  | succ d ih =>
    intro i hi
    refine ev_succ ?_
    simp only [laws_sameInts.l0, wr1 (show (0 : Int) ≤ (i : Int) by omega) (by omega)]
    rw [drop_rd (by omega : i < a.length), drop_rd (by omega : i < b.length)]
    refine ev_pos (by omega) (ev_pos (by omega) (ev_pos (by omega) (ev_ite (fun h => ev_eq (ih (i + 1) (by omega)) ?_) (fun h => ev_some ?_))))
    · rw [h]; simp
    · simp [h]
theorem laws_sameInts_ev (a b : List Int) (hn : a.length ≤ 4611686018427387904) : Ev (fun k => laws_sameInts.f k a b) (decide (a = b)) := by
  simp only [laws_sameInts.f]
  refine ev_ite (fun h => ev_eq (laws_sameInts_l0 a b (by omega) hn a.length 0 (by omega)) (by simp)) (fun h => ev_some ?_)
  symm
  simp only [decide_eq_false_iff_not]
  rintro rfl
  exact h rfl
theorem sameInts_refl (a : List Int) (hn : a.length ≤ 4611686018427387904) : Ev (fun k => laws_sameInts.f k a a) true := ev_eq (laws_sameInts_ev a a hn) (by simp)


def cnt (a : Int) : List Int → Int
  | [] => 0
  | x :: l => (if x = a then 1 else 0) + cnt a l
theorem cnt_bd (a : Int) (l : List Int) : 0 ≤ cnt a l ∧ cnt a l ≤ l.length := by
  induction l with
  | nil => exact ⟨by simp [cnt], by simp [cnt]⟩
  | cons x l ih =>
    simp only [cnt, List.length_cons]
    split <;> omega
theorem spec_CountLetters_l0 (l : List Int) (a : Int) (hn : l.length ≤ 4611686018427387904) (d : Nat) : ∀ (i : Nat) (s : Int), i + d = l.length → 0 ≤ s → s ≤ i →
    Ev (fun k => spec_CountLetters.l0 k l a s (i : Int)) (s + cnt a (l.drop i)) := by
  induction d with
  | zero =>
    intro i s hi h0 h1
    refine ev_succ ?_
    simp only [spec_CountLetters.l0]
    refine ev_neg (by omega) (ev_some ?_)
    rw [List.drop_of_length_le (by omega)]; simp [cnt]
  | succ d ih =>
    intro i s hi h0 h1
    refine ev_succ ?_
    simp only [spec_CountLetters.l0, wr1 (show (0 : Int) ≤ (i : Int) by omega) (by omega), wr1 h0 (by omega)]
    refine ev_pos (by omega) (ev_pos (by omega) ?_)
    rw [drop_rd (by omega : i < l.length)]
    refine ev_ite (fun h => ev_eq (ih (i + 1) (s + 1) (by omega) (by omega) (by omega)) ?_) (fun h => ev_eq (ih (i + 1) s (by omega) (by omega) (by omega)) ?_)
    · simp only [cnt, if_pos h]; omega
    · simp only [cnt, if_neg h]; omega
theorem spec_CountLetters_ev (l : List Int) (a : Int) (hn : l.length ≤ 4611686018427387904) : Ev (fun k => spec_CountLetters.f k l a) (cnt a l) := by
  simp only [spec_CountLetters.f]
  exact ev_eq (spec_CountLetters_l0 l a hn l.length 0 0 (by omega) (by omega) (by omega)) (by simp)
theorem oneIf_eq (b : Bool) : impl_oneIf.f b = some (if b = true then 1 else 0) := by
  unfold impl_oneIf.f
  cases b <;> rfl

theorem pal_rev (l : List Int) (h : ∀ t : Nat, t < l.length / 2 → l[t]? = l[l.length - 1 - t]?) : l.reverse = l := by
  apply List.ext_getElem?
  intro t
  by_cases ht : t < l.length
  · rw [List.getElem?_reverse ht]
    by_cases h1 : t < l.length / 2
    · exact (h t h1).symm
    · by_cases h2 : l.length - 1 - t < l.length / 2
      · rw [h _ h2, show l.length - 1 - (l.length - 1 - t) = t by omega]
      · rw [show l.length - 1 - t = t by omega]
  · rw [List.getElem?_eq_none (by simp; omega), List.getElem?_eq_none (by omega)]
theorem impl_IsPalindrome_l0 (l : List Int) (hn : l.length ≤ 4611686018427387904) (d : Nat) : ∀ (i : Nat), i + d = l.length / 2 → (∀ t : Nat, t < i → l[t]? = l[l.length - 1 - t]?) →
    Ev (fun k => impl_IsPalindrome.l0 k l ((l.length / 2 : Nat) : Int) (i : Int)) (decide (l.reverse = l)) := by
  induction d with
  | zero =>
    intro i hi h
    refine ev_succ ?_
    simp only [impl_IsPalindrome.l0]
    refine ev_neg (by omega) (ev_some ?_)
    rw [decide_eq_true (pal_rev l (fun t ht => h t (by omega)))]
  | succ d ih =>
    intro i hi h
    refine ev_succ ?_
    simp only [impl_IsPalindrome.l0]
    rw [wr (n := (l.length : Int) - 1) (by omega) (by omega), show (l.length : Int) - 1 - (i : Int) = ((l.length - 1 - i : Nat) : Int) by omega, wr_nat (by omega), wr1 (by omega) (by omega)]
    refine ev_pos (by omega) (ev_pos (by omega) (ev_pos (by omega) (ev_pos (by omega) (ev_pos (by omega) ?_))))
    rw [rd_get (show i < l.length by omega), rd_get (show l.length - 1 - i < l.length by omega)]
    refine ev_ite (fun he => ih (i + 1) (by omega) ?_) (fun he => ev_some ?_)
    · intro t ht
      by_cases e : t = i
      · subst e
        rw [List.getElem?_eq_getElem (by omega), List.getElem?_eq_getElem (by omega), he]
      · exact h t (by omega)
    · symm
      rw [decide_eq_false_iff_not]
      intro hr
      have h2 : l.reverse[i]? = l[i]? := by rw [hr]
      rw [List.getElem?_reverse (by omega), List.getElem?_eq_getElem (by omega), List.getElem?_eq_getElem (by omega)] at h2
      exact he (Option.some.inj h2).symm
theorem impl_IsPalindrome_ev (l : List Int) (hn : l.length ≤ 4611686018427387904) : Ev (fun k => impl_IsPalindrome.f k l) (decide (l.reverse = l)) := by
  simp only [impl_IsPalindrome.f]
  rw [show (l.length : Int) / 2 = ((l.length / 2 : Nat) : Int) by omega, wr_nat (by omega)]
  exact impl_IsPalindrome_l0 l hn (l.length / 2) 0 (by omega) (by intro t ht; omega)


def areL (m : Int) (l : List Int) : Bool := l.all fun x => decide (0 ≤ x ∧ x < m)
theorem impl_areLetters_l0 (l : List Int) (m : Int) (hn : l.length ≤ 4611686018427387904) (d : Nat) : ∀ (i : Nat), i + d = l.length →
    Ev (fun k => impl_areLetters.l0 k m l (l.length : Int) (i : Int)) (areL m (l.drop i)) := by
  induction d with
  | zero =>
    intro i hi
    refine ev_succ ?_
    simp only [impl_areLetters.l0]
    refine ev_neg (by omega) (ev_some ?_)
    rw [List.drop_of_length_le (by omega)]; rfl
  | succ d ih =>
    intro i hi
    refine ev_succ ?_
    simp only [impl_areLetters.l0, wr1 (show (0 : Int) ≤ (i : Int) by omega) (by omega)]
    refine ev_pos (by omega) (ev_pos (by omega) (ev_pos (by omega) ?_))
    rw [drop_rd (by omega : i < l.length)]
    refine ev_ite (fun h => ev_some ?_) (fun h => ev_ite (fun h' => ev_some ?_) (fun h' => ev_eq (ih (i + 1) (by omega)) ?_))
    · simp only [areL, List.all_cons, decide_eq_false (show ¬ (0 ≤ rd l (i : Int) ∧ rd l (i : Int) < m) by omega), Bool.false_and]
    · simp only [areL, List.all_cons, decide_eq_false (show ¬ (0 ≤ rd l (i : Int) ∧ rd l (i : Int) < m) by omega), Bool.false_and]
    · simp only [areL, List.all_cons, decide_eq_true (show (0 ≤ rd l (i : Int) ∧ rd l (i : Int) < m) by omega), Bool.true_and]
theorem impl_areLetters_ev (l : List Int) (m : Int) (hn : l.length ≤ 4611686018427387904) : Ev (fun k => impl_areLetters.f k l m) (areL m l) := by
  simp only [impl_areLetters.f]
  exact impl_areLetters_l0 l m hn l.length 0 (by omega)


/-- the ones in the first i letters -/
def pre1 (w : List Int) (i : Nat) : Int := cnt 1 (w.take i)
theorem cnt_append (a : Int) (u v : List Int) : cnt a (u ++ v) = cnt a u + cnt a v := by
  induction u with
  | nil => simp [cnt]
  | cons x u ih => simp only [List.cons_append, cnt, ih]; omega
theorem pre1_succ (w : List Int) (i : Nat) (h : i < w.length) : pre1 w (i + 1) = pre1 w i + (if rd w (i : Int) = 1 then 1 else 0) := by
  unfold pre1
  rw [List.take_succ_eq_append_getElem h, cnt_append, ← rd_get h]
  simp [cnt]
theorem pre1_bd (w : List Int) (i : Nat) : 0 ≤ pre1 w i ∧ pre1 w i ≤ i := by
  have := cnt_bd 1 (w.take i)
  have h2 : (w.take i).length ≤ i := List.length_take_le _ _
  unfold pre1
  omega
/-- how many more ones the part at i of length n has than the part at j -/
def dif (w : List Int) (n i j : Nat) : Int := pre1 w (i + n) - pre1 w i - pre1 w (j + n) + pre1 w j
def bad (w : List Int) (n i j : Nat) : Bool := decide (dif w n i j > 1 ∨ dif w n i j < -1)
def sJ (w : List Int) (n i : Nat) : Nat → Nat → Option (Nat × Nat × Nat)
  | 0, _ => none
  | r + 1, j => if bad w n i j = true then some (n, i, j) else sJ w n i r (j + 1)
def sI (w : List Int) (n : Nat) : Nat → Nat → Option (Nat × Nat × Nat)
  | 0, _ => none
  | r + 1, i => match sJ w n i (w.length - n - i) (i + 1) with
    | some t => some t
    | none => sI w n r (i + 1)
def sN (w : List Int) : Nat → Nat → Option (Nat × Nat × Nat)
  | 0, _ => none
  | r + 1, n => match sI w n (w.length - n + 1) 0 with
    | some t => some t
    | none => sN w r (n + 1)
def ubFind (w : List Int) : Option (Nat × Nat × Nat) := sN w (w.length - 1) 1
def ubTell : Option (Nat × Nat × Nat) → Int × Int × Int × Bool
  | none => (0, 0, 0, false)
  | some (n, i, j) => ((n : Int), (i : Int), (j : Int), true)
def sums (w : List Int) (m : Nat) : List Int := (List.range m).map fun (i : Nat) => pre1 w i
theorem sums_length (w : List Int) (m : Nat) : (sums w m).length = m := by simp [sums]
theorem sums_succ (w : List Int) (m : Nat) : sums w (m + 1) = sums w m ++ [pre1 w m] := by simp [sums, List.range_succ]
theorem sums_rd (w : List Int) (m i : Nat) (h : i < m) : rd (sums w m) (i : Int) = pre1 w i := by
  rw [rd_get (by rw [sums_length]; exact h)]; simp [sums]
theorem unb_l0 (w : List Int) (hn : w.length ≤ 1000000) (R : Int × Int × Int × Bool) (H : Ev (fun k => impl_unbalanced.l1 k w (sums w (w.length + 1)) 1) R) (d : Nat) : ∀ i : Nat, i + d = w.length →
    Ev (fun k => impl_unbalanced.l0 k w (sums w (i + 1)) w (w.length : Int) (i : Int)) R := by
  induction d with
  | zero =>
    intro i hi
    refine ev_succ ?_
    simp only [impl_unbalanced.l0]
    refine ev_neg (by omega) ?_
    rw [show i = w.length by omega]; exact H
  | succ d ih =>
    intro i hi
    have hb := pre1_bd w i
    refine ev_succ ?_
    simp only [impl_unbalanced.l0, oneIf_eq, Option.bind_some, beq_iff_eq, sums_length]
    rw [show (((i + 1 : Nat) : Int) - 1) = (i : Int) by omega, wr_nat (by omega), wr1 (by omega) (by omega), sums_rd w (i + 1) i (by omega)]
    refine ev_pos (by omega) (ev_pos (by omega) (ev_pos (by omega) (ev_pos (by omega) (ev_pos (by omega) (ev_pos (by omega) ?_)))))
    rw [wr (n := pre1 w i + _) (by split <;> omega) (by split <;> omega), ← pre1_succ w i (by omega), ← sums_succ]
    exact ih (i + 1) (by omega)
theorem unb_l3 (w : List Int) (n i : Nat) (hn : w.length ≤ 1000000) (h1 : 1 ≤ n) (hi : i + n ≤ w.length) (R : Int × Int × Int × Bool) (d : Nat) :
    ∀ j : Nat, j + n + d = w.length + 1 → (sJ w n i d j = none → Ev (fun k => impl_unbalanced.l2 k w (sums w (w.length + 1)) (n : Int) ((i + 1 : Nat) : Int)) R) → (∀ t, sJ w n i d j = some t → ubTell (some t) = R) →
    Ev (fun k => impl_unbalanced.l3 k w (sums w (w.length + 1)) (n : Int) (i : Int) (j : Int)) R := by
  induction d with
  | zero =>
    intro j hj H ht
    refine ev_succ ?_
    simp only [impl_unbalanced.l3]
    rw [wr (n := (j : Int) + n) (by omega) (by omega), wr1 (show (0 : Int) ≤ (i : Int) by omega) (by omega)]
    exact ev_neg (by omega) (H rfl)
  | succ d ih =>
    intro j hj H ht
    refine ev_succ ?_
    simp only [impl_unbalanced.l3, sums_length]
    have b1 := pre1_bd w (i + n)
    have b2 := pre1_bd w i
    have b3 := pre1_bd w (j + n)
    have b4 := pre1_bd w j
    rw [show (j : Int) + (n : Int) = ((j + n : Nat) : Int) by omega, show (i : Int) + (n : Int) = ((i + n : Nat) : Int) by omega, wr_nat (show j + n ≤ 4611686018427387904 by omega), wr_nat (show i + n ≤ 4611686018427387904 by omega)]
    refine ev_pos (by omega) (ev_pos (by omega) (ev_pos (by omega) (ev_pos (by omega) (ev_pos (by omega) (ev_pos (by omega) (ev_pos (by omega) (ev_pos (by omega) (ev_pos (by omega) ?_))))))))
    rw [sums_rd _ _ (i + n) (by omega), sums_rd _ _ i (by omega), sums_rd _ _ (j + n) (by omega), sums_rd _ _ j (by omega)]
    rw [wr (n := pre1 w (i + n) - pre1 w i) (by omega) (by omega), wr (n := pre1 w (i + n) - pre1 w i - pre1 w (j + n)) (by omega) (by omega), wr (n := pre1 w (i + n) - pre1 w i - pre1 w (j + n) + pre1 w j) (by omega) (by omega), wr1 (show (0 : Int) ≤ (j : Int) by omega) (by omega)]
    have hd : dif w n i j = pre1 w (i + n) - pre1 w i - pre1 w (j + n) + pre1 w j := rfl
    rw [← hd]
    simp only [sJ] at ht H
    refine ev_ite (fun h => ev_some ?_) (fun h => ev_ite (fun h' => ev_some ?_) (fun h' => ?_))
    · rw [if_pos (by simp [bad]; omega)] at ht
      exact ht _ rfl
    · rw [if_pos (by simp [bad]; omega)] at ht
      exact ht _ rfl
    · rw [if_neg (by simp [bad]; omega)] at ht H
      exact ih (j + 1) (by omega) H ht
theorem unb_l2 (w : List Int) (n : Nat) (hn : w.length ≤ 1000000) (h1 : 1 ≤ n) (R : Int × Int × Int × Bool) (d : Nat) :
    ∀ i : Nat, i + n + d = w.length + 1 → (sI w n d i = none → Ev (fun k => impl_unbalanced.l1 k w (sums w (w.length + 1)) ((n + 1 : Nat) : Int)) R) → (∀ t, sI w n d i = some t → ubTell (some t) = R) →
    Ev (fun k => impl_unbalanced.l2 k w (sums w (w.length + 1)) (n : Int) (i : Int)) R := by
  induction d with
  | zero =>
    intro i hi H ht
    refine ev_succ ?_
    simp only [impl_unbalanced.l2]
    rw [wr (n := (i : Int) + n) (by omega) (by omega), wr1 (show (0 : Int) ≤ (n : Int) by omega) (by omega)]
    exact ev_neg (by omega) (H rfl)
  | succ d ih =>
    intro i hi H ht
    refine ev_succ ?_
    simp only [impl_unbalanced.l2]
    rw [wr (n := (i : Int) + n) (by omega) (by omega), wr1 (show (0 : Int) ≤ (i : Int) by omega) (by omega)]
    refine ev_pos (by omega) ?_
    simp only [sI] at ht H
    refine unb_l3 w n i hn h1 (by omega) R (w.length - n - i) (i + 1) (by omega) (fun h => ?_) (fun t h => ?_)
    · rw [h] at ht H
      exact ih (i + 1) (by omega) H ht
    · rw [h] at ht
      exact ht _ rfl
theorem unb_l1 (w : List Int) (hn : w.length ≤ 1000000) (d : Nat) :
    ∀ n : Nat, 1 ≤ n → n + d = max w.length 1 → Ev (fun k => impl_unbalanced.l1 k w (sums w (w.length + 1)) (n : Int)) (ubTell (sN w d n)) := by
  induction d with
  | zero =>
    intro n h1 hd
    refine ev_succ ?_
    simp only [impl_unbalanced.l1]
    exact ev_neg (by omega) (ev_some rfl)
  | succ d ih =>
    intro n h1 hd
    refine ev_succ ?_
    simp only [impl_unbalanced.l1]
    refine ev_pos (by omega) ?_
    simp only [sN]
    have := ih (n + 1) (by omega) (by omega)
    refine unb_l2 w n hn h1 _ (w.length - n + 1) 0 (by omega) (fun h => ?_) (fun t h => ?_)
    · rw [h]; exact this
    · rw [h]
theorem impl_unbalanced_ev (w : List Int) (hn : w.length ≤ 1000000) : Ev (fun k => impl_unbalanced.f k w) (ubTell (ubFind w)) := by
  simp only [impl_unbalanced.f]
  refine unb_l0 w hn _ ?_ w.length 0 (by omega)
  exact unb_l1 w hn (w.length - 1) 1 (by omega) (by omega)


def isBal (w : List Int) : Bool := decide (w.length ≤ 64) && areL 2 w && (ubFind w).isNone
theorem ubTell_found (o : Option (Nat × Nat × Nat)) : (ubTell o).2.2.2 = o.isSome := by cases o <;> rfl
theorem impl_IsBalanced_ev (w : List Int) (hn : w.length ≤ 4611686018427387904) : Ev (fun k => impl_IsBalanced.f k w) (isBal w) := by
  simp only [impl_IsBalanced.f]
  unfold isBal
  refine ev_ite (fun h => ev_some ?_) (fun h => ?_)
  · rw [decide_eq_false (by omega)]; rfl
  · rw [decide_eq_true (by omega)]
    refine ev_bind (impl_areLetters_ev w 2 hn) (ev_ite (fun h' => ?_) (fun h' => ev_some ?_))
    · refine ev_bind (impl_unbalanced_ev w (by omega)) (ev_some ?_)
      rw [ubTell_found, h']
      cases ubFind w <;> rfl
    · rw [Bool.not_eq_true] at h'; rw [h']; rfl


theorem tmod_nat (a b : Nat) : Int.tmod (a : Int) (b : Int) = ((a % b : Nat) : Int) := by
  rw [Int.tmod_eq_emod_of_nonneg (by omega)]; exact (Int.natCast_emod a b).symm
theorem tdiv_nat (a b : Nat) : Int.tdiv (a : Int) (b : Int) = ((a / b : Nat) : Int) := by
  rw [Int.tdiv_eq_ediv_of_nonneg (by omega)]; exact (Int.natCast_ediv a b).symm
theorem gcd_step (a b : Nat) (h : b ≠ 0) : Nat.gcd a b = Nat.gcd b (a % b) := by
  rw [Nat.gcd_comm a b, Nat.gcd_rec b a, Nat.gcd_comm]
theorem impl_gcd_l0 (n : Nat) : ∀ (a b : Nat), b ≤ n → Ev (fun k => impl_gcd.l0 k (a : Int) (b : Int)) ((Nat.gcd a b : Nat) : Int) := by
  induction n with
  | zero =>
    intro a b h
    obtain rfl : b = 0 := by omega
    refine ev_succ ?_
    simp only [impl_gcd.l0]
    exact ev_pos (by omega) (ev_some (by simp))
  | succ n ih =>
    intro a b h
    refine ev_succ ?_
    simp only [impl_gcd.l0, tmod_nat]
    refine ev_ite (fun h0 => ev_some ?_) (fun h0 => ?_)
    · obtain rfl : b = 0 := by omega
      simp
    · rw [gcd_step a b (by omega)]
      exact ih b (a % b) (by have := Nat.mod_lt a (show b > 0 by omega); omega)
theorem impl_gcd_ev (a b : Nat) : Ev (fun k => impl_gcd.f k (a : Int) (b : Int)) ((Nat.gcd a b : Nat) : Int) := by
  simp only [impl_gcd.f]; exact impl_gcd_l0 b a b (Nat.le_refl _)


theorem laws_gcd_l0 (n : Nat) : ∀ (a b : Nat), b ≤ n → Ev (fun k => laws_gcd.l0 k (a : Int) (b : Int)) ((Nat.gcd a b : Nat) : Int) := by
  induction n with
  | zero =>
    intro a b h
    obtain rfl : b = 0 := by omega
    refine ev_succ ?_
    simp only [laws_gcd.l0]
    exact ev_neg (by omega) (ev_some (by simp))
  | succ n ih =>
    intro a b h
    refine ev_succ ?_
    simp only [laws_gcd.l0, tmod_nat]
    refine ev_ite (fun h0 => ?_) (fun h0 => ev_some ?_)
    · refine ev_neg (by omega) ?_
      rw [gcd_step a b (by omega)]
      exact ih b (a % b) (by have := Nat.mod_lt a (show b > 0 by omega); omega)
    · obtain rfl : b = 0 := by omega
      simp
theorem laws_gcd_ev (a b : Nat) : Ev (fun k => laws_gcd.f k (a : Int) (b : Int)) ((Nat.gcd a b : Nat) : Int) := by
  simp only [laws_gcd.f]; exact laws_gcd_l0 b a b (Nat.le_refl _)


/-- g tells some answer of which P is known -/
def Tot {α : Type} (g : Nat → Option α) (P : α → Prop) : Prop := ∃ r, Ev g r ∧ P r
theorem tot_of {α : Type} {g : Nat → Option α} {P : α → Prop} {r : α} (h : Ev g r) (hp : P r) : Tot g P := ⟨r, h, hp⟩
theorem tot_some {α : Type} {r : α} {P : α → Prop} (h : P r) : Tot (fun _ => some r) P := ⟨r, Ev.now r, h⟩
theorem tot_bind {α β : Type} {g : Nat → Option α} {f : Nat → α → Option β} {P : α → Prop} {Q : β → Prop} (h : Tot g P) (k : ∀ a, P a → Tot (fun n => f n a) Q) : Tot (fun n => (g n).bind (f n)) Q := by
  obtain ⟨a, ha, hp⟩ := h
  obtain ⟨r, hr, hq⟩ := k a hp
  exact ⟨r, Ev.bind ha hr, hq⟩
theorem tot_bind0 {α β : Type} {o : Option α} {f : Nat → α → Option β} {P : α → Prop} {Q : β → Prop} (h : ∃ a, o = some a ∧ P a) (k : ∀ a, P a → Tot (fun n => f n a) Q) : Tot (fun n => o.bind (f n)) Q := by
  obtain ⟨a, ha, hp⟩ := h
  subst ha
  exact k a hp
theorem tot_pos {α : Type} {c : Prop} [Decidable c] {g f : Nat → Option α} {P : α → Prop} (hc : c) (h : Tot g P) : Tot (fun k => if c then g k else f k) P := by
  simp only [if_pos hc]; exact h
theorem tot_neg {α : Type} {c : Prop} [Decidable c] {g f : Nat → Option α} {P : α → Prop} (hc : ¬ c) (h : Tot f P) : Tot (fun k => if c then g k else f k) P := by
  simp only [if_neg hc]; exact h
theorem tot_ite {α : Type} {c : Prop} [Decidable c] {g f : Nat → Option α} {P : α → Prop} (h : c → Tot g P) (h' : ¬ c → Tot f P) : Tot (fun k => if c then g k else f k) P := by
  by_cases hc : c
  · exact tot_pos hc (h hc)
  · exact tot_neg hc (h' hc)
theorem tot_succ {α : Type} {g : Nat → Option α} {P : α → Prop} (h : Tot (fun k => g (k + 1)) P) : Tot g P := by
  obtain ⟨r, hr, hp⟩ := h
  exact ⟨r, ev_succ hr, hp⟩
theorem tot_mono {α : Type} {g : Nat → Option α} {P Q : α → Prop} (h : Tot g P) (k : ∀ a, P a → Q a) : Tot g Q := by
  obtain ⟨r, hr, hp⟩ := h
  exact ⟨r, hr, k r hp⟩
theorem bits_and_le (x : Int) (m : Nat) (hm : m < 4611686018427387904) : 0 ≤ Go.bits .and .i64 x (m : Int) ∧ Go.bits .and .i64 x (m : Int) ≤ m := by
  have h : ∀ n : Nat, n ≤ m → IntKind.i64.wrap (n : Int) = n := by
    intro n hn
    simp only [IntKind.wrap, IntKind.bits, IntKind.signed, Bool.true_and, decide_eq_true_eq]
    split
    · rename_i h
      have e : (2 : Int) ^ (64 - 1) = 9223372036854775808 := by decide
      have h2 : (n : Int) % 2 ^ 64 ≥ 2 ^ (64 - 1) := of_decide_eq_true h
      rw [e] at h2
      omega
    · omega
  simp only [Go.bits]
  have hb : (BitVec.ofInt IntKind.i64.bits (m : Int)).toNat = m := by
    simp only [BitVec.ofInt_natCast, BitVec.toNat_ofNat, IntKind.bits]
    exact Nat.mod_eq_of_lt (by omega)
  have hle : ((BitVec.ofInt IntKind.i64.bits x) &&& (BitVec.ofInt IntKind.i64.bits (m : Int))).toNat ≤ m := by
    rw [BitVec.toNat_and, hb]; exact Nat.and_le_right
  rw [h _ hle]
  omega
/-- a cursor's place and hash: the place is no negative number -/
def curOk (b : List Int) (i : Int) : Prop := 0 ≤ i ∧ b.length ≤ 1048576
theorem l1Byte_tot (b : List Int) (i h : Int) (hc : curOk b i) : ∃ r, spec_l1Byte.f b i h = some r ∧ 0 ≤ r.1 ∧ r.1 ≤ 255 ∧ curOk b r.2.1 := by
  obtain ⟨h0, hb⟩ := hc
  unfold spec_l1Byte.f
  by_cases hi : i < (b.length : Int)
  · rw [if_pos hi, if_pos h0]
    have := bits_and_le ((wrap64 ((Go.bits .and .i64 (Go.bits .xor .i64 ((wrap64 ((wrap64 (h * 6364136223846793005)) + 1442695040888963407)) / 8589934592) ((wrap64 ((wrap64 (h * 6364136223846793005)) + 1442695040888963407)) / 35184372088832)) 255) + (wrap64 (rd b i))))) 255 (by omega)
    refine ⟨_, rfl, this.1, this.2, ?_, hb⟩
    simp only
    rw [wr1 h0 (by omega)]; omega
  · rw [if_neg hi]
    have := bits_and_le (Go.bits .xor .i64 ((wrap64 ((wrap64 (h * 6364136223846793005)) + 1442695040888963407)) / 8589934592) ((wrap64 ((wrap64 (h * 6364136223846793005)) + 1442695040888963407)) / 35184372088832)) 255 (by omega)
    exact ⟨_, rfl, this.1, this.2, h0, hb⟩
theorem l1Below_tot (b : List Int) (i h n : Int) (hc : curOk b i) (h1 : 1 ≤ n) (h2 : n ≤ 256) : ∃ r, spec_l1Below.f b i h n = some r ∧ (0 ≤ r.1 ∧ r.1 < n) ∧ curOk b r.2.1 := by
  unfold spec_l1Below.f
  rw [if_neg (by omega), if_pos h2]
  obtain ⟨⟨x, i', h'⟩, e, hx0, hx1, hc'⟩ := l1Byte_tot b i h hc
  rw [e]
  simp only [Option.bind_some] at *
  rw [if_neg (by omega)]
  refine ⟨_, rfl, ?_, hc'⟩
  simp only
  rw [Int.tmod_eq_emod_of_nonneg hx0]
  exact ⟨Int.emod_nonneg _ (by omega), Int.emod_lt_of_pos _ (by omega)⟩
theorem l1PickInt_tot (b : List Int) (i h : Int) (l : List Int) (hc : curOk b i) (h1 : 1 ≤ l.length) (h2 : l.length ≤ 256) : ∃ r, spec_l1PickInt.f b i h l = some r ∧ r.1 ∈ l ∧ curOk b r.2.1 := by
  unfold spec_l1PickInt.f
  obtain ⟨⟨x, i', h'⟩, e, ⟨hx0, hx1⟩, hc'⟩ := l1Below_tot b i h (l.length : Int) hc (by omega) (by omega)
  rw [e]
  simp only [Option.bind_some] at *
  rw [if_pos hx0, if_pos hx1]
  refine ⟨_, rfl, ?_, hc'⟩
  simp only
  obtain ⟨n, rfl⟩ := Int.eq_ofNat_of_zero_le hx0
  exact rd_mem (by omega)
theorem l1New_l0 (l : List Int) (hn : l.length ≤ 1048576) (d : Nat) : ∀ (i : Nat) (h : Int), i + d = l.length → Tot (fun k => spec_l1New.l0 k l h (i : Int)) (fun r => r.1 = l ∧ r.2.1 = 0) := by
  induction d with
  | zero =>
    intro i h hi
    refine tot_succ ?_
    simp only [spec_l1New.l0]
    exact tot_neg (by omega) (tot_some ⟨rfl, rfl⟩)
  | succ d ih =>
    intro i h hi
    refine tot_succ ?_
    simp only [spec_l1New.l0, wr1 (show (0 : Int) ≤ (i : Int) by omega) (by omega)]
    exact tot_pos (by omega) (tot_ite (fun _ => tot_pos (by omega) (ih (i + 1) _ (by omega))) (fun _ => tot_some ⟨rfl, rfl⟩))
theorem l1New_tot (l : List Int) (hn : l.length ≤ 1048576) : Tot (fun k => spec_l1New.f k l) (fun r => r.1 = l ∧ r.2.1 = 0) := by
  simp only [spec_l1New.f]
  exact l1New_l0 l hn l.length 0 _ (by omega)


def tails : Nat → List (List Int)
  | 0 => [[]]
  | n + 1 => (tails n).flatMap fun l => [1 :: l, 2 :: l, 3 :: l]
theorem tails_mem : ∀ (l : List Int), (∀ x ∈ l, 1 ≤ x ∧ x ≤ 3) → l ∈ tails l.length := by
  intro l
  induction l with
  | nil => intro _; simp [tails]
  | cons x l ih =>
    intro h
    have h1 := h x (by simp)
    have h2 := ih (fun y hy => h y (by simp [hy]))
    simp only [List.length_cons, tails, List.mem_flatMap]
    refine ⟨l, h2, ?_⟩
    simp only [List.mem_cons, List.cons.injEq, and_true, List.not_mem_nil, or_false]
    omega
/-- what the draws of quotients can be -/
def qDrawn (a : List Int) : Prop := a = [] ∨ ∃ v l, a = v :: l ∧ l.length ≤ 4 ∧ (∀ x ∈ l, 1 ≤ x ∧ x ≤ 3) ∧ (v = 0 ∨ v = 1 ∨ v = 2 ∨ v = 3 ∨ v = 9 ∨ v = 10)
theorem l23_l0 (b : List Int) (d : Nat) : ∀ (acc : List Int) (i h : Int), curOk b i → acc.length + d ≤ 5 → 1 ≤ acc.length + d → (∀ x ∈ acc, 1 ≤ x ∧ x ≤ 3) →
    Tot (fun k => spec_l23Quotients.l0 k acc (d : Int) b i h) (fun r => qDrawn r.1 ∧ curOk b r.2.1) := by
  induction d with
  | zero =>
    intro acc i h hc hl h1 ha
    refine tot_succ ?_
    simp only [spec_l23Quotients.l0]
    refine tot_neg (by omega) (tot_bind0 (l1Below_tot b i h 14 hc (by omega) (by omega)) (fun r hr => ?_))
    obtain ⟨v, l, rfl⟩ : ∃ v l, acc = v :: l := by
      cases acc with
      | nil => simp at h1
      | cons v l => exact ⟨v, l, rfl⟩
    simp only [List.length_cons] at hl
    refine tot_ite (fun _ => tot_bind0 (l1PickInt_tot b r.2.1 r.2.2 [0, 9, 10] hr.2 (by decide) (by decide)) (fun r2 hr2 => ?_)) (fun _ => tot_ite (fun _ => ?_) (fun _ => ?_))
    · refine tot_pos (by simp only [List.length_cons]; omega) (tot_some ⟨.inr ⟨r2.1, l, ?_, by omega, fun x hx => ha x (by simp [hx]), ?_⟩, hr2.2⟩)
      · simp
      · have := hr2.1
        simp only [List.mem_cons, List.not_mem_nil, or_false] at this
        omega
    · exact tot_pos (by omega) (tot_some ⟨.inl (by simp), hr.2⟩)
    · refine tot_some ⟨.inr ⟨v, l, rfl, by omega, fun x hx => ha x (by simp [hx]), ?_⟩, hr.2⟩
      have := ha v (by simp)
      omega
  | succ d ih =>
    intro acc i h hc hl h1 ha
    refine tot_succ ?_
    simp only [spec_l23Quotients.l0]
    refine tot_pos (by omega) (tot_bind0 (l1Below_tot b i h 3 hc (by omega) (by omega)) (fun r hr => ?_))
    rw [wr (n := 1 + r.1) (by omega) (by omega), show ((d + 1 : Nat) : Int) - 1 = (d : Int) by omega, wr_nat (by omega)]
    refine tot_pos (by omega) (ih _ _ _ hr.2 (by simp; omega) (by simp; omega) ?_)
    intro x hx
    simp only [List.mem_append, List.mem_cons, List.not_mem_nil, or_false] at hx
    rcases hx with hx | hx
    · exact ha x hx
    · omega
theorem l23_tot (b : List Int) (i h : Int) (hc : curOk b i) : Tot (fun k => spec_l23Quotients.f k b i h) (fun r => qDrawn r.1 ∧ curOk b r.2.1) := by
  simp only [spec_l23Quotients.f]
  refine tot_bind0 (l1Below_tot b i h 5 hc (by omega) (by omega)) (fun r hr => ?_)
  rw [wr (n := 1 + r.1) (by omega) (by omega)]
  obtain ⟨d, hd⟩ := Int.eq_ofNat_of_zero_le (show 0 ≤ 1 + r.1 by omega)
  rw [hd]
  exact l23_l0 b d [] _ _ hr.2 (by simp; omega) (by simp; omega) (by simp)


theorem l1In_eq (a b c : Int) : spec_l1In.f a b c = some (decide (b ≤ a ∧ a ≤ c)) := by
  unfold spec_l1In.f
  by_cases h : a ≥ b
  · rw [if_pos h]; simp [show b ≤ a from h]
  · rw [if_neg h]; simp [show ¬ b ≤ a from h]


def quo (x : Int) : Bool := decide (1 ≤ x ∧ x ≤ 9)
def areQ (l : List Int) : Bool := l.all quo && decide (1 ≤ (l.length : Int) ∧ (l.length : Int) ≤ 8)
theorem spec_AreQuotients_l0 (l : List Int) (hn : l.length ≤ 4611686018427387904) (d : Nat) : ∀ (i : Nat), i + d = l.length →
    Ev (fun k => spec_AreQuotients.l0 k l (i : Int)) ((l.drop i).all quo && decide (1 ≤ (l.length : Int) ∧ (l.length : Int) ≤ 8)) := by
  induction d with
  | zero =>
    intro i hi
    refine ev_succ ?_
    simp only [spec_AreQuotients.l0, l1In_eq]
    refine ev_neg (by omega) (ev_some ?_)
    rw [List.drop_of_length_le (by omega)]; rfl
  | succ d ih =>
    intro i hi
    refine ev_succ ?_
    simp only [spec_AreQuotients.l0, l1In_eq, wr1 (show (0 : Int) ≤ (i : Int) by omega) (by omega), Option.bind_some]
    refine ev_pos (by omega) (ev_pos (by omega) ?_)
    rw [drop_rd (by omega : i < l.length)]
    by_cases h : 1 ≤ rd l (i : Int) ∧ rd l (i : Int) ≤ 9
    · refine ev_pos (by simpa using h) (ev_eq (ih (i + 1) (by omega)) ?_)
      simp [quo, h]
    · refine ev_neg (by simpa using h) (ev_some ?_)
      simp only [List.all_cons, quo, decide_eq_false h, Bool.false_and]
theorem spec_AreQuotients_ev (l : List Int) (hn : l.length ≤ 4611686018427387904) : Ev (fun k => spec_AreQuotients.f k l) (areQ l) := by
  simp only [spec_AreQuotients.f]
  exact spec_AreQuotients_l0 l hn l.length 0 (by omega)
theorem impl_AreQuotients_l0 (l : List Int) (hn : l.length ≤ 4611686018427387904) (d : Nat) : ∀ (i : Nat), i + d = l.length →
    Ev (fun k => impl_AreQuotients.l0 k l (l.length : Int) (i : Int)) ((l.drop i).all quo) := by
  induction d with
  | zero =>
    intro i hi
    refine ev_succ ?_
    simp only [impl_AreQuotients.l0]
    refine ev_neg (by omega) (ev_some ?_)
    rw [List.drop_of_length_le (by omega)]; rfl
  | succ d ih =>
    intro i hi
    refine ev_succ ?_
    simp only [impl_AreQuotients.l0, wr1 (show (0 : Int) ≤ (i : Int) by omega) (by omega)]
    refine ev_pos (by omega) (ev_pos (by omega) (ev_pos (by omega) ?_))
    rw [drop_rd (by omega : i < l.length)]
    refine ev_ite (fun h => ev_some ?_) (fun h => ev_ite (fun h' => ev_some ?_) (fun h' => ev_eq (ih (i + 1) (by omega)) ?_))
    · simp only [List.all_cons, quo, decide_eq_false (show ¬ (1 ≤ rd l (i : Int) ∧ rd l (i : Int) ≤ 9) by omega), Bool.false_and]
    · simp only [List.all_cons, quo, decide_eq_false (show ¬ (1 ≤ rd l (i : Int) ∧ rd l (i : Int) ≤ 9) by omega), Bool.false_and]
    · simp only [List.all_cons, quo, decide_eq_true (show (1 ≤ rd l (i : Int) ∧ rd l (i : Int) ≤ 9) by omega), Bool.true_and]
theorem impl_AreQuotients_ev (l : List Int) (hn : l.length ≤ 4611686018427387904) : Ev (fun k => impl_AreQuotients.f k l) (areQ l) := by
  simp only [impl_AreQuotients.f]
  have no : ∀ (b : Bool), b = true → areQ l = false → Ev (fun k => impl_AreQuotients.j0 k l b) (areQ l) := by
    intro b hb h
    subst hb
    refine ev_succ ?_
    simp only [impl_AreQuotients.j0]
    exact ev_pos trivial (ev_some h.symm)
  refine ev_ite (fun h => no _ rfl ?_) (fun h => ?_)
  · simp only [areQ, decide_eq_false (show ¬ (1 ≤ (l.length : Int) ∧ (l.length : Int) ≤ 8) by omega), Bool.and_false]
  · by_cases h' : (l.length : Int) > 8
    · refine no _ (by simpa using h') ?_
      simp only [areQ, decide_eq_false (show ¬ (1 ≤ (l.length : Int) ∧ (l.length : Int) ≤ 8) by omega), Bool.and_false]
    · rw [decide_eq_false h']
      refine ev_succ ?_
      simp only [impl_AreQuotients.j0]
      refine ev_neg (by simp) (ev_eq (impl_AreQuotients_l0 l hn l.length 0 (by omega)) ?_)
      simp only [areQ, decide_eq_true (show (1 ≤ (l.length : Int) ∧ (l.length : Int) ≤ 8) by omega), Bool.and_true, List.drop_zero]


def convF (a : Int) (s : Int × Int) : Int × Int := (s.2, a * s.2 + s.1)
def convPQ (l : List Int) : Int × Int := l.foldr convF (0, 1)
def convRes (l : List Int) : Int × Int × Bool := if areQ l = true then ((convPQ l).1, (convPQ l).2, true) else (0, 0, false)
theorem areQ_mem {l : List Int} (h : areQ l = true) : ∀ x ∈ l, 1 ≤ x ∧ x ≤ 9 := by
  intro x hx
  simp only [areQ, Bool.and_eq_true, List.all_eq_true] at h
  have := h.1 x hx
  simpa [quo] using this
theorem areQ_len {l : List Int} (h : areQ l = true) : 1 ≤ l.length ∧ l.length ≤ 8 := by
  simp only [areQ, Bool.and_eq_true, decide_eq_true_eq] at h
  omega
theorem spec_ConvergentOf_l0 (l : List Int) (hq : ∀ x ∈ l, 1 ≤ x ∧ x ≤ 9) (hn : l.length ≤ 8) : ∀ (i : Nat) (p q : Int), i ≤ l.length → 0 ≤ p → 0 ≤ q → p ≤ 10 ^ (8 - i) → q ≤ 10 ^ (8 - i) →
    Ev (fun k => spec_ConvergentOf.l0 k l p q ((i : Int) - 1)) (((l.take i).foldr convF (p, q)).1, ((l.take i).foldr convF (p, q)).2, true) := by
  intro i
  induction i with
  | zero =>
    intro p q hi hp hq' hp1 hq1
    refine ev_succ ?_
    simp only [spec_ConvergentOf.l0]
    exact ev_neg (by omega) (ev_some (by simp))
  | succ i ih =>
    intro p q hi hp hq' hp1 hq1
    have hm := hq _ (rd_mem (show i < l.length by omega))
    have e : (10 : Int) ^ (8 - i) = 10 * 10 ^ (8 - (i + 1)) := by
      rw [show 8 - i = (8 - (i + 1)) + 1 by omega, Int.pow_succ]; omega
    have hb : (10 : Int) ^ (8 - (i + 1)) ≤ 10 ^ 8 := by
      have : (10 : Nat) ^ (8 - (i + 1)) ≤ 10 ^ 8 := Nat.pow_le_pow_right (by omega) (by omega)
      exact_mod_cast this
    have hprod : rd l (i : Int) * q ≤ 9 * q := Int.mul_le_mul_of_nonneg_right hm.2 hq'
    have hprod0 : 0 ≤ rd l (i : Int) * q := Int.mul_nonneg (by omega) hq'
    have e8 : (10 : Int) ^ 8 = 100000000 := by decide
    have := ih q (rd l (i : Int) * q + p) (by omega) hq' (by omega) (by omega) (by omega)
    refine ev_succ ?_
    simp only [spec_ConvergentOf.l0]
    rw [show ((i + 1 : Nat) : Int) - 1 = (i : Int) by omega]
    refine ev_pos (by omega) (ev_pos (by omega) (ev_pos (by omega) ?_))
    rw [wr (n := rd l (i : Int) * q) (by omega) (by omega), wr (n := rd l (i : Int) * q + p) (by omega) (by omega), wr (n := (i : Int) - 1) (by omega) (by omega)]
    refine ev_eq this ?_
    have ht : l.take (i + 1) = l.take i ++ [rd l (i : Int)] := by
      rw [rd_get (show i < l.length by omega)]; exact List.take_succ_eq_append_getElem (by omega)
    rw [ht, List.foldr_append]
    rfl
theorem impl_ConvergentOf_l0 (l : List Int) (hq : ∀ x ∈ l, 1 ≤ x ∧ x ≤ 9) (hn : l.length ≤ 8) : ∀ (i : Nat) (p q : Int), i ≤ l.length → 0 ≤ p → 0 ≤ q → p ≤ 10 ^ (8 - i) → q ≤ 10 ^ (8 - i) →
    Ev (fun k => impl_ConvergentOf.l0 k l p q ((i : Int) - 1)) (((l.take i).foldr convF (p, q)).1, ((l.take i).foldr convF (p, q)).2, true) := by
  intro i
  induction i with
  | zero =>
    intro p q hi hp hq' hp1 hq1
    refine ev_succ ?_
    simp only [impl_ConvergentOf.l0]
    exact ev_neg (by omega) (ev_some (by simp))
  | succ i ih =>
    intro p q hi hp hq' hp1 hq1
    have hm := hq _ (rd_mem (show i < l.length by omega))
    have e : (10 : Int) ^ (8 - i) = 10 * 10 ^ (8 - (i + 1)) := by
      rw [show 8 - i = (8 - (i + 1)) + 1 by omega, Int.pow_succ]; omega
    have hb : (10 : Int) ^ (8 - (i + 1)) ≤ 10 ^ 8 := by
      have : (10 : Nat) ^ (8 - (i + 1)) ≤ 10 ^ 8 := Nat.pow_le_pow_right (by omega) (by omega)
      exact_mod_cast this
    have hprod : rd l (i : Int) * q ≤ 9 * q := Int.mul_le_mul_of_nonneg_right hm.2 hq'
    have hprod0 : 0 ≤ rd l (i : Int) * q := Int.mul_nonneg (by omega) hq'
    have e8 : (10 : Int) ^ 8 = 100000000 := by decide
    have := ih q (rd l (i : Int) * q + p) (by omega) hq' (by omega) (by omega) (by omega)
    refine ev_succ ?_
    simp only [impl_ConvergentOf.l0]
    rw [show ((i + 1 : Nat) : Int) - 1 = (i : Int) by omega]
    refine ev_pos (by omega) (ev_pos (by omega) (ev_pos (by omega) ?_))
    rw [wr (n := rd l (i : Int) * q) (by omega) (by omega), wr (n := rd l (i : Int) * q + p) (by omega) (by omega), wr (n := (i : Int) - 1) (by omega) (by omega)]
    refine ev_eq this ?_
    have ht : l.take (i + 1) = l.take i ++ [rd l (i : Int)] := by
      rw [rd_get (show i < l.length by omega)]; exact List.take_succ_eq_append_getElem (by omega)
    rw [ht, List.foldr_append]
    rfl
theorem spec_ConvergentOf_ev (l : List Int) (hn : l.length ≤ 4611686018427387904) : Ev (fun k => spec_ConvergentOf.f k l) (convRes l) := by
  simp only [spec_ConvergentOf.f]
  refine ev_bind (spec_AreQuotients_ev l hn) ?_
  unfold convRes
  by_cases h : areQ l = true
  · have hl := areQ_len h
    have hm := areQ_mem h
    refine ev_pos h ?_
    rw [if_pos h, wr (n := (l.length : Int) - 1) (by omega) (by omega), wr (n := (l.length : Int) - 2) (by omega) (by omega)]
    refine ev_pos (by omega) (ev_pos (by omega) ?_)
    obtain ⟨i, hi⟩ : ∃ i, l.length = i + 1 := ⟨l.length - 1, by omega⟩
    rw [show (l.length : Int) - 2 = (i : Int) - 1 by omega, show (l.length : Int) - 1 = (i : Int) by omega]
    have hx := hm _ (rd_mem (show i < l.length by omega))
    have hb : (10 : Int) ^ 1 ≤ 10 ^ (8 - i) := by
      have : (10 : Nat) ^ 1 ≤ 10 ^ (8 - i) := Nat.pow_le_pow_right (by omega) (by omega)
      exact_mod_cast this
    have e1 : (10 : Int) ^ 1 = 10 := by decide
    refine ev_eq (spec_ConvergentOf_l0 l hm (by omega) i 1 (rd l (i : Int)) (by omega) (by omega) (by omega) (by omega) (by omega)) ?_
    have ht : l = l.take i ++ [rd l (i : Int)] := by
      rw [rd_get (show i < l.length by omega), ← List.take_succ_eq_append_getElem (by omega), List.take_of_length_le (by omega)]
    have : convPQ l = (l.take i).foldr convF (1, rd l (i : Int)) := by
      unfold convPQ
      conv => lhs; rw [ht]
      rw [List.foldr_append]
      simp [convF]
    rw [this]
  · refine ev_neg h (ev_some ?_)
    rw [if_neg h]
theorem impl_ConvergentOf_ev (l : List Int) (hn : l.length ≤ 4611686018427387904) : Ev (fun k => impl_ConvergentOf.f k l) (convRes l) := by
  simp only [impl_ConvergentOf.f]
  refine ev_bind (impl_AreQuotients_ev l hn) ?_
  unfold convRes
  by_cases h : areQ l = true
  · have hl := areQ_len h
    have hm := areQ_mem h
    refine ev_pos h ?_
    rw [if_pos h, wr (n := (l.length : Int) - 1) (by omega) (by omega)]
    have hb : (10 : Int) ^ 0 ≤ 10 ^ (8 - l.length) := by
      have : (10 : Nat) ^ 0 ≤ 10 ^ (8 - l.length) := Nat.pow_le_pow_right (by omega) (by omega)
      exact_mod_cast this
    have e1 : (10 : Int) ^ 0 = 1 := by decide
    refine ev_eq (impl_ConvergentOf_l0 l hm (by omega) l.length 0 1 (by omega) (by omega) (by omega) (by omega) (by omega)) ?_
    rw [List.take_length]; rfl
  · refine ev_neg h (ev_some ?_)
    rw [if_neg h]


theorem curOk0 {b : List Int} (h : b.length ≤ 1048576) : curOk b 0 := ⟨by omega, h⟩
theorem drawStandard_tot (l : List Int) (hn : l.length ≤ 1048576) : Tot (fun k => spec_DrawStandardWord.f k l) qDrawn := by
  simp only [spec_DrawStandardWord.f]
  refine tot_bind (l1New_tot l hn) (fun r hr => ?_)
  rw [hr.1, hr.2]
  exact tot_bind (l23_tot l 0 _ (curOk0 hn)) (fun r hr => tot_some hr.1)
theorem qDrawn_len {a : List Int} (h : qDrawn a) : a.length ≤ 5 := by
  rcases h with rfl | ⟨v, l, rfl, h, _⟩
  · simp
  · simp; omega
theorem drawQuotients_tot (l : List Int) (hn : l.length ≤ 1048576) : Tot (fun k => spec_DrawQuotientsOf.f k l) (fun _ => True) := by
  simp only [spec_DrawQuotientsOf.f]
  refine tot_bind (l1New_tot l hn) (fun r hr => ?_)
  rw [hr.1, hr.2]
  refine tot_bind (l23_tot l 0 _ (curOk0 hn)) (fun r2 hr2 => ?_)
  have hl := qDrawn_len hr2.1
  refine tot_bind (tot_of (spec_ConvergentOf_ev r2.1 (by omega)) trivial : Tot _ (fun _ => True)) (fun r3 _ => ?_)
  have key : ∀ (x y : Int) (f : Bool) (i h : Int), curOk l i → Tot (fun k => spec_DrawQuotientsOf.j0 k x y f l i h) (fun _ => True) := by
    intro x y f i h hc
    refine tot_succ ?_
    simp only [spec_DrawQuotientsOf.j0]
    refine tot_ite (fun _ => tot_some trivial) (fun _ => ?_)
    refine tot_bind0 (l1Below_tot l i h 20 hc (by omega) (by omega)) (fun r hr => ?_)
    refine tot_bind0 (l1PickInt_tot l r.2.1 r.2.2 [0, 1, 7, 12, 100000, 100001] hr.2 (by decide) (by decide)) (fun r hr => tot_some trivial)
  refine tot_ite (fun _ => ?_) (fun _ => key _ _ _ _ _ hr2.2)
  have : ∃ a, spec_l1Once.f l r2.2.1 r2.2.2 3 = some a ∧ curOk l a.2.1 := by
    unfold spec_l1Once.f
    obtain ⟨r, e, _, hc⟩ := l1Below_tot l r2.2.1 r2.2.2 3 hr2.2 (by omega) (by omega)
    rw [e]
    exact ⟨_, rfl, hc⟩
  exact tot_bind0 this (fun a ha => key _ _ _ _ _ ha)
theorem drawChar_tot (l : List Int) (hn : l.length ≤ 1048576) : Tot (fun k => spec_DrawCharacteristicPrefix.f k l) (fun r => r.1.length ≤ 5) := by
  simp only [spec_DrawCharacteristicPrefix.f]
  refine tot_bind (l1New_tot l hn) (fun r hr => ?_)
  rw [hr.1, hr.2]
  refine tot_bind (l23_tot l 0 _ (curOk0 hn)) (fun r2 hr2 => ?_)
  exact tot_bind0 (l1Below_tot l r2.2.1 r2.2.2 60 hr2.2 (by omega) (by omega)) (fun r hr => tot_some (qDrawn_len hr2.1))
theorem drawMech_tot (l : List Int) (hn : l.length ≤ 1048576) : Tot (fun k => spec_DrawMechanicalWord.f k l) (fun r => 1 ≤ r.2.1 ∧ r.2.1 ≤ 20) := by
  simp only [spec_DrawMechanicalWord.f]
  refine tot_bind (l1New_tot l hn) (fun r hr => ?_)
  rw [hr.1, hr.2]
  refine tot_bind0 (l1Below_tot l 0 r.2.2 20 (curOk0 hn) (by omega) (by omega)) (fun r1 hr1 => ?_)
  rw [wr (n := 1 + r1.1) (by omega) (by omega), wr (n := 1 + r1.1 + 2) (by omega) (by omega), wr (n := 1 + r1.1 + 1) (by omega) (by omega)]
  refine tot_bind0 (l1Below_tot l r1.2.1 r1.2.2 (1 + r1.1 + 2) hr1.2 (by omega) (by omega)) (fun r2 hr2 => ?_)
  refine tot_bind0 (l1Below_tot l r2.2.1 r2.2.2 (1 + r1.1 + 1) hr2.2 (by omega) (by omega)) (fun r3 hr3 => ?_)
  refine tot_bind0 (l1Below_tot l r3.2.1 r3.2.2 2 hr3.2 (by omega) (by omega)) (fun r4 hr4 => ?_)
  refine tot_bind0 (l1PickInt_tot l r4.2.1 r4.2.2 [-1, 0, 10, 40, 256, 257] hr4.2 (by decide) (by decide)) (fun r5 hr5 => tot_some ?_)
  simp only
  omega


theorem spec_l10Gcd_l0 (n : Nat) : ∀ (a b : Nat), b ≤ n → Ev (fun k => spec_l10Gcd.l0 k (a : Int) (b : Int)) ((Nat.gcd a b : Nat) : Int) := by
  induction n with
  | zero =>
    intro a b h
    obtain rfl : b = 0 := by omega
    refine ev_succ ?_
    simp only [spec_l10Gcd.l0]
    exact ev_neg (by omega) (ev_some (by simp))
  | succ n ih =>
    intro a b h
    refine ev_succ ?_
    simp only [spec_l10Gcd.l0, tmod_nat]
    refine ev_ite (fun h0 => ?_) (fun h0 => ev_some ?_)
    · refine ev_neg (by omega) ?_
      rw [gcd_step a b (by omega)]
      exact ih b (a % b) (by have := Nat.mod_lt a (show b > 0 by omega); omega)
    · obtain rfl : b = 0 := by omega
      simp
theorem spec_l10Gcd_ev (a b : Nat) : Ev (fun k => spec_l10Gcd.f k (a : Int) (b : Int)) ((Nat.gcd a b : Nat) : Int) := by
  simp only [spec_l10Gcd.f]; exact spec_l10Gcd_l0 b a b (Nat.le_refl _)


def quotL : Nat → Nat → Nat → List Int
  | 0, _, _ => []
  | n + 1, p, q => if p = 0 then [] else ((q / p : Nat) : Int) :: quotL n (q % p) p
theorem quotL_pos (n p q : Nat) (h : ¬ p = 0) : quotL (n + 1) p q = ((q / p : Nat) : Int) :: quotL n (q % p) p := by
  conv => lhs; unfold quotL
  rw [if_neg h]
def quotFin (l : List Int) : List Int × Bool := if areQ l = true then (l, true) else ([], false)
theorem spec_QuotientsOf_l0 (n : Nat) : ∀ (p q : Nat) (acc : List Int), p ≤ n → n ≤ 100000 → q ≤ 100000 → acc.length + n ≤ 100000 →
    Ev (fun k => spec_QuotientsOf.l0 k (p : Int) (q : Int) acc) (quotFin (acc ++ quotL (n + 1) p q)) := by
  induction n with
  | zero =>
    intro p q acc hp hn hq ha
    obtain rfl : p = 0 := by omega
    refine ev_succ ?_
    simp only [spec_QuotientsOf.l0]
    refine ev_neg (by omega) (ev_bind (spec_AreQuotients_ev acc (by omega)) ?_)
    simp only [quotL, if_true, List.append_nil, quotFin]
    refine ev_ite (fun h => ev_some (by rw [if_pos h])) (fun h => ev_some (by rw [if_neg h]))
  | succ n ih =>
    intro p q acc hp hn hq ha
    refine ev_succ ?_
    simp only [spec_QuotientsOf.l0, tmod_nat, tdiv_nat]
    by_cases h0 : p = 0
    · subst h0
      refine ev_neg (by omega) (ev_bind (spec_AreQuotients_ev acc (by omega)) ?_)
      simp only [quotL, if_true, List.append_nil, quotFin]
      refine ev_ite (fun h => ev_some (by rw [if_pos h])) (fun h => ev_some (by rw [if_neg h]))
    · have hlt := Nat.mod_lt q (show p > 0 by omega)
      have hd := Nat.div_le_self q p
      refine ev_pos (by omega) (ev_neg (by omega) (ev_pos (by omega) ?_))
      rw [wr_nat (show q / p ≤ 4611686018427387904 by omega)]
      refine ev_eq (ih (q % p) p (acc ++ [((q / p : Nat) : Int)]) (by omega) (by omega) (by omega) (by simp; omega)) ?_
      rw [quotL_pos (n + 1) p q h0]; simp
theorem impl_QuotientsOf_l0 (n : Nat) : ∀ (p q : Nat) (acc : List Int), p ≤ n → n ≤ 100000 → q ≤ 100000 → acc.length + n ≤ 100000 →
    Ev (fun k => impl_QuotientsOf.l0 k (p : Int) (q : Int) acc) (quotFin (acc ++ quotL (n + 1) p q)) := by
  induction n with
  | zero =>
    intro p q acc hp hn hq ha
    obtain rfl : p = 0 := by omega
    refine ev_succ ?_
    simp only [impl_QuotientsOf.l0]
    refine ev_neg (by omega) (ev_bind (impl_AreQuotients_ev acc (by omega)) ?_)
    simp only [quotL, if_true, List.append_nil, quotFin]
    refine ev_ite (fun h => ev_some (by rw [if_pos h])) (fun h => ev_some (by rw [if_neg h]))
  | succ n ih =>
    intro p q acc hp hn hq ha
    refine ev_succ ?_
    simp only [impl_QuotientsOf.l0, tmod_nat, tdiv_nat]
    by_cases h0 : p = 0
    · subst h0
      refine ev_neg (by omega) (ev_bind (impl_AreQuotients_ev acc (by omega)) ?_)
      simp only [quotL, if_true, List.append_nil, quotFin]
      refine ev_ite (fun h => ev_some (by rw [if_pos h])) (fun h => ev_some (by rw [if_neg h]))
    · have hlt := Nat.mod_lt q (show p > 0 by omega)
      have hd := Nat.div_le_self q p
      refine ev_pos (by omega) (ev_neg (by omega) (ev_pos (by omega) ?_))
      rw [wr_nat (show q / p ≤ 4611686018427387904 by omega)]
      refine ev_eq (ih (q % p) p (acc ++ [((q / p : Nat) : Int)]) (by omega) (by omega) (by omega) (by simp; omega)) ?_
      rw [quotL_pos (n + 1) p q h0]; simp
def quotOk (p q : Int) : Bool := decide ((1 ≤ q ∧ q ≤ 100000) ∧ (1 ≤ p ∧ p ≤ q)) && decide (Nat.gcd p.toNat q.toNat = 1)
def quotRes (p q : Int) : List Int × Bool := if quotOk p q = true then quotFin (quotL 100001 p.toNat q.toNat) else ([], false)
theorem quotL_more (n : Nat) : ∀ (m p q : Nat), p ≤ n → n ≤ m → quotL (n + 1) p q = quotL (m + 1) p q := by
  induction n with
  | zero => intro m p q hp hm; obtain rfl : p = 0 := by omega
            simp [quotL]
  | succ n ih =>
    intro m p q hp hm
    by_cases h0 : p = 0
    · subst h0; simp [quotL]
    · have hlt := Nat.mod_lt q (show p > 0 by omega)
      obtain ⟨m, rfl⟩ : ∃ m', m = m' + 1 := ⟨m - 1, by omega⟩
      have := ih m (q % p) p (by omega) (by omega)
      rw [quotL_pos _ _ _ h0, quotL_pos _ _ _ h0, this]
theorem quot_no (p q : Int) (h : ¬ ((1 ≤ q ∧ q ≤ 100000) ∧ (1 ≤ p ∧ p ≤ q))) : quotRes p q = ([], false) := by
  unfold quotRes quotOk
  rw [decide_eq_false h]; simp
theorem spec_QuotientsOf_ev (p q : Int) : Ev (fun k => spec_QuotientsOf.f k p q) (quotRes p q) := by
  simp only [spec_QuotientsOf.f, l1In_eq, Option.bind_some]
  have no : quotRes p q = ([], false) → Ev (fun k => spec_QuotientsOf.j0 k p q [] true) (quotRes p q) := by
    intro h
    refine ev_succ ?_
    simp only [spec_QuotientsOf.j0]
    exact ev_pos trivial (ev_some h.symm)
  by_cases h1 : 1 ≤ q ∧ q ≤ 100000
  · refine ev_pos (by simpa using h1) ?_
    by_cases h2 : 1 ≤ p ∧ p ≤ q
    · refine ev_pos (by simpa using h2) ?_
      obtain ⟨a, rfl⟩ := Int.eq_ofNat_of_zero_le (show 0 ≤ p by omega)
      obtain ⟨b, rfl⟩ := Int.eq_ofNat_of_zero_le (show 0 ≤ q by omega)
      refine ev_bind (spec_l10Gcd_ev a b) ?_
      by_cases h3 : Nat.gcd a b = 1
      · rw [h3]
        refine ev_succ ?_
        simp only [spec_QuotientsOf.j0]
        refine ev_neg (by simp) (ev_eq (spec_QuotientsOf_l0 a a b [] (by omega) (by omega) (by omega) (by simp; omega)) ?_)
        unfold quotRes quotOk
        rw [decide_eq_true ⟨h1, h2⟩, Int.toNat_natCast, Int.toNat_natCast, decide_eq_true h3]
        simp only [Bool.and_self, if_true, List.nil_append]
        rw [quotL_more a 100000 a b (by omega) (by omega)]
      · rw [show ((((Nat.gcd a b : Nat) : Int) != 1) = true) by simp; omega]
        refine no ?_
        unfold quotRes quotOk
        rw [Int.toNat_natCast, Int.toNat_natCast, decide_eq_false h3]; simp
    · exact ev_neg (by simpa using h2) (no (quot_no p q (by omega)))
  · exact ev_neg (by simpa using h1) (no (quot_no p q (by omega)))
theorem impl_QuotientsOf_ev (p q : Int) : Ev (fun k => impl_QuotientsOf.f k p q) (quotRes p q) := by
  simp only [impl_QuotientsOf.f]
  have no : quotRes p q = ([], false) → Ev (fun k => impl_QuotientsOf.j0 k p q true) (quotRes p q) := by
    intro h
    refine ev_succ ?_
    simp only [impl_QuotientsOf.j0]
    exact ev_pos trivial (ev_some h.symm)
  refine ev_ite (fun h => no (quot_no p q (by omega))) (fun h1 => ?_)
  refine ev_ite (fun h => no (quot_no p q (by omega))) (fun h2 => ?_)
  refine ev_ite (fun h => no (quot_no p q (by omega))) (fun h3 => ?_)
  refine ev_ite (fun h => no (quot_no p q (by omega))) (fun h4 => ?_)
  obtain ⟨a, rfl⟩ := Int.eq_ofNat_of_zero_le (show 0 ≤ p by omega)
  obtain ⟨b, rfl⟩ := Int.eq_ofNat_of_zero_le (show 0 ≤ q by omega)
  refine ev_bind (impl_gcd_ev a b) ?_
  by_cases h3 : Nat.gcd a b = 1
  · rw [h3]
    refine ev_succ ?_
    simp only [impl_QuotientsOf.j0]
    refine ev_neg (by simp) (ev_eq (impl_QuotientsOf_l0 a a b [] (by omega) (by omega) (by omega) (by simp; omega)) ?_)
    unfold quotRes quotOk
    rw [decide_eq_true ⟨⟨by omega, by omega⟩, ⟨by omega, by omega⟩⟩, Int.toNat_natCast, Int.toNat_natCast, decide_eq_true h3]
    simp only [Bool.and_self, if_true, List.nil_append]
    rw [quotL_more a 100000 a b (by omega) (by omega)]
  · rw [show ((((Nat.gcd a b : Nat) : Int) != 1) = true) by simp; omega]
    refine no ?_
    unfold quotRes quotOk
    rw [Int.toNat_natCast, Int.toNat_natCast, decide_eq_false h3]; simp
theorem quotRes_length (p q : Int) : (quotRes p q).1.length ≤ 8 := by
  unfold quotRes
  split
  · unfold quotFin
    split
    · rename_i h
      simp only [areQ, Bool.and_eq_true, decide_eq_true_eq] at h
      simp only; omega
    · simp
  · simp


def reps (w : List Int) : Nat → List Int
  | 0 => []
  | n + 1 => w ++ reps w n
theorem reps_length (w : List Int) (n : Nat) : (reps w n).length = n * w.length := by
  induction n with
  | zero => simp [reps]
  | succ n ih => simp only [reps, List.length_append, ih, Nat.succ_mul]; omega
theorem reps_snoc (w : List Int) (n : Nat) : reps w n ++ w = w ++ reps w n := by
  induction n with
  | zero => simp [reps]
  | succ n ih => simp only [reps, List.append_assoc, ih]
def stdGo : List Int → Bool → List Int → List Int → List Int × Bool
  | [], _, _, l => (l, true)
  | a :: qs, f, b, l => if ((reps l (if f = true then a - 1 else a).toNat ++ b).length : Int) > 400 then ([], false) else stdGo qs false l (reps l (if f = true then a - 1 else a).toNat ++ b)
def stdRes (l : List Int) : List Int × Bool := if areQ l = true then stdGo l true [1] [0] else ([], false)
theorem stdGo_length : ∀ (qs : List Int) (f : Bool) (b l : List Int), l.length ≤ 400 → (stdGo qs f b l).1.length ≤ 400 := by
  intro qs
  induction qs with
  | nil => intro f b l h; exact h
  | cons a qs ih =>
    intro f b l h
    unfold stdGo
    generalize (reps l (if f = true then a - 1 else a).toNat ++ b) = n
    split
    · simp
    · exact ih _ _ _ (by omega)
theorem stdRes_length (l : List Int) : (stdRes l).1.length ≤ 400 := by
  unfold stdRes
  split
  · exact stdGo_length _ _ _ _ (by decide)
  · simp
theorem stdArea {n m : Nat} (hn : n ≤ 9) (hm : m ≤ 400) : n * m ≤ 3600 := Nat.mul_le_mul hn hm
theorem spec_StandardWord_l1 (l b w : List Int) (i : Int) (t : Nat) (R : List Int × Bool) (hw : w.length ≤ 400) (ht : t ≤ 9)
    (H : Ev (fun k => if (reps w t).length + b.length < 17592186044416 then ((some (reps w t ++ b : List Int)).bind fun y137 => (if (y137.length : Int) > 400 then (some ((([] : List Int)), false)) else (spec_StandardWord.l0 k l w y137 (wrap64 (i + 1))))) else (none)) R) (d : Nat) :
    ∀ j : Nat, j + d = t → Ev (fun k => spec_StandardWord.l1 k l b w i (t : Int) (reps w j) (j : Int)) R := by
  induction d with
  | zero =>
    intro j hj
    obtain rfl : j = t := by omega
    refine ev_succ ?_
    simp only [spec_StandardWord.l1]
    exact ev_neg (by omega) H
  | succ d ih =>
    intro j hj
    refine ev_succ ?_
    simp only [spec_StandardWord.l1, wr1 (show (0 : Int) ≤ (j : Int) by omega) (by omega)]
    have ha := stdArea (show j ≤ 9 by omega) hw
    refine ev_pos (by omega) (ev_pos (by rw [reps_length]; omega) ?_)
    rw [reps_snoc]
    exact ih (j + 1) (by omega)
theorem impl_StandardWord_l1 (l b w : List Int) (i : Int) (t : Nat) (R : List Int × Bool) (hw : w.length ≤ 400) (ht : t ≤ 9)
    (H : Ev (fun k => if (reps w t).length + b.length < 17592186044416 then ((some (reps w t ++ b : List Int)).bind fun y137 => (if (y137.length : Int) > 400 then (some ((([] : List Int)), false)) else (impl_StandardWord.l0 k w y137 l (l.length : Int) (wrap64 (i + 1))))) else (none)) R) (d : Nat) :
    ∀ j : Nat, j + d = t → Ev (fun k => impl_StandardWord.l1 k b w (reps w j) l (l.length : Int) i (t : Int) (j : Int)) R := by
  induction d with
  | zero =>
    intro j hj
    obtain rfl : j = t := by omega
    refine ev_succ ?_
    simp only [impl_StandardWord.l1]
    exact ev_neg (by omega) H
  | succ d ih =>
    intro j hj
    refine ev_succ ?_
    simp only [impl_StandardWord.l1, wr1 (show (0 : Int) ≤ (j : Int) by omega) (by omega)]
    have ha := stdArea (show j ≤ 9 by omega) hw
    refine ev_pos (by omega) (ev_pos (by rw [reps_length]; omega) ?_)
    rw [reps_snoc]
    exact ih (j + 1) (by omega)
def isZero (i : Nat) : Bool := decide (i = 0)
theorem isZero_succ (i : Nat) : isZero (i + 1) = false := by simp [isZero]
theorem spec_StandardWord_l0 (l : List Int) (hq : ∀ x ∈ l, 1 ≤ x ∧ x ≤ 9) (hn : l.length ≤ 8) (d : Nat) : ∀ (i : Nat) (b w : List Int), i + d = l.length → b.length ≤ 400 → w.length ≤ 400 →
    Ev (fun k => spec_StandardWord.l0 k l b w (i : Int)) (stdGo (l.drop i) (isZero i) b w) := by
  induction d with
  | zero =>
    intro i b w hi hb hw
    refine ev_succ ?_
    simp only [spec_StandardWord.l0, Option.bind_some, List.nil_append]
    refine ev_neg (by omega) (ev_pos (by simp only [List.length_nil]; omega) (ev_some ?_))
    rw [List.drop_of_length_le (by omega)]; rfl
  | succ d ih =>
    intro i b w hi hb hw
    have hm := hq _ (rd_mem (show i < l.length by omega))
    have key : ∀ t : Nat, (t : Int) = (if isZero i = true then rd l (i : Int) - 1 else rd l (i : Int)) → Ev (fun k => spec_StandardWord.j1 k l b w (i : Int) (t : Int)) (stdGo (l.drop i) (isZero i) b w) := by
      intro t ht
      have ht9 : t ≤ 9 := by split at ht <;> omega
      rw [drop_rd (by omega : i < l.length)]
      unfold stdGo
      rw [← ht, Int.toNat_natCast]
      refine ev_succ ?_
      simp only [spec_StandardWord.j1]
      have ha := stdArea ht9 hw
      refine spec_StandardWord_l1 l b w (i : Int) t _ hw ht9 ?_ t 0 (by omega)
      simp only [Option.bind_some]
      refine ev_pos (by rw [reps_length]; omega) (ev_ite (fun h => ev_some (by rw [if_pos h])) (fun h => ?_))
      rw [if_neg h, wr1 (by omega) (by omega), ← isZero_succ i]
      exact ih (i + 1) _ _ (by omega) hw (by omega)
    refine ev_succ ?_
    simp only [spec_StandardWord.l0]
    refine ev_pos (by omega) (ev_pos (by omega) (ev_ite (fun h => ?_) (fun h => ?_)))
    · obtain rfl : i = 0 := by omega
      refine ev_pos (by omega) ?_
      have := key (rd l 0 - 1).toNat (by rw [if_pos (by rfl)]; simp only [Int.ofNat_zero] at hm ⊢; simp at hm ⊢; omega)
      rw [show (((rd l 0 - 1).toNat : Nat) : Int) = rd l 0 - 1 by simp at hm; omega] at this
      rw [wr (by simp at hm; omega) (by simp at hm; omega)]
      exact this
    · have := key (rd l (i : Int)).toNat (by rw [if_neg (by simp [isZero]; omega)]; omega)
      rw [show (((rd l (i : Int)).toNat : Nat) : Int) = rd l (i : Int) by omega] at this
      exact this
theorem impl_StandardWord_l0 (l : List Int) (hq : ∀ x ∈ l, 1 ≤ x ∧ x ≤ 9) (hn : l.length ≤ 8) (d : Nat) : ∀ (i : Nat) (b w : List Int), i + d = l.length → b.length ≤ 400 → w.length ≤ 400 →
    Ev (fun k => impl_StandardWord.l0 k b w l (l.length : Int) (i : Int)) (stdGo (l.drop i) (isZero i) b w) := by
  induction d with
  | zero =>
    intro i b w hi hb hw
    refine ev_succ ?_
    simp only [impl_StandardWord.l0]
    refine ev_neg (by omega) (ev_some ?_)
    rw [List.drop_of_length_le (by omega)]; rfl
  | succ d ih =>
    intro i b w hi hb hw
    have hm := hq _ (rd_mem (show i < l.length by omega))
    have key : ∀ t : Nat, (t : Int) = (if isZero i = true then rd l (i : Int) - 1 else rd l (i : Int)) → Ev (fun k => impl_StandardWord.j1 k b w (t : Int) l (l.length : Int) (i : Int)) (stdGo (l.drop i) (isZero i) b w) := by
      intro t ht
      have ht9 : t ≤ 9 := by split at ht <;> omega
      rw [drop_rd (by omega : i < l.length)]
      unfold stdGo
      rw [← ht, Int.toNat_natCast]
      refine ev_succ ?_
      simp only [impl_StandardWord.j1]
      have ha := stdArea ht9 hw
      refine impl_StandardWord_l1 l b w (i : Int) t _ hw ht9 ?_ t 0 (by omega)
      simp only [Option.bind_some]
      refine ev_pos (by rw [reps_length]; omega) (ev_ite (fun h => ev_some (by rw [if_pos h])) (fun h => ?_))
      rw [if_neg h, wr1 (by omega) (by omega), ← isZero_succ i]
      exact ih (i + 1) _ _ (by omega) hw (by omega)
    refine ev_succ ?_
    simp only [impl_StandardWord.l0]
    refine ev_pos (by omega) (ev_pos (by omega) (ev_pos (by omega) (ev_ite (fun h => ?_) (fun h => ?_))))
    · have := key (rd l (i : Int) - 1).toNat (by rw [if_pos (by simp [isZero]; omega)]; omega)
      rw [show (((rd l (i : Int) - 1).toNat : Nat) : Int) = rd l (i : Int) - 1 by omega] at this
      rw [wr (by omega) (by omega)]
      exact this
    · have := key (rd l (i : Int)).toNat (by rw [if_neg (by simp [isZero]; omega)]; omega)
      rw [show (((rd l (i : Int)).toNat : Nat) : Int) = rd l (i : Int) by omega] at this
      exact this
theorem stdQ {l : List Int} (h : areQ l = true) : (∀ x ∈ l, 1 ≤ x ∧ x ≤ 9) ∧ l.length ≤ 8 := by
  simp only [areQ, Bool.and_eq_true, List.all_eq_true, decide_eq_true_eq] at h
  refine ⟨fun x hx => ?_, by omega⟩
  have := h.1 x hx
  simpa [quo] using this
theorem spec_StandardWord_ev (l : List Int) (hn : l.length ≤ 4611686018427387904) : Ev (fun k => spec_StandardWord.f k l) (stdRes l) := by
  simp only [spec_StandardWord.f]
  unfold stdRes
  refine ev_bind (spec_AreQuotients_ev l hn) (ev_ite (fun h => ?_) (fun h => ev_some (by rw [if_neg h])))
  rw [if_pos h]
  exact spec_StandardWord_l0 l (stdQ h).1 (stdQ h).2 l.length 0 [1] [0] (by omega) (by decide) (by decide)
theorem impl_StandardWord_ev (l : List Int) (hn : l.length ≤ 4611686018427387904) : Ev (fun k => impl_StandardWord.f k l) (stdRes l) := by
  simp only [impl_StandardWord.f]
  unfold stdRes
  refine ev_bind (impl_AreQuotients_ev l hn) (ev_ite (fun h => ?_) (fun h => ev_some (by rw [if_neg h])))
  rw [if_pos h]
  exact impl_StandardWord_l0 l (stdQ h).1 (stdQ h).2 l.length 0 [1] [0] (by omega) (by decide) (by decide)


def cwRes (l : List Int) : List Int × Bool := if (stdRes l).2 = true ∧ 2 ≤ (stdRes l).1.length then ((stdRes l).1.take ((stdRes l).1.length - 2), true) else ([], false)
theorem cwRes_length (l : List Int) : (cwRes l).1.length ≤ 400 := by
  have := stdRes_length l
  unfold cwRes
  split
  · simp only [List.length_take]; omega
  · simp
theorem Clone_eq (l : List Int) (h : l.length ≤ 1000000) : slices_Clone_int_int.f l = some l := by
  simp only [slices_Clone_int_int.f, Option.bind_some, List.nil_append]
  rw [if_pos (by simp only [List.length_nil]; omega)]
theorem spec_CentralWord_ev (l : List Int) (hn : l.length ≤ 4611686018427387904) : Ev (fun k => spec_CentralWord.f k l) (cwRes l) := by
  have hl := stdRes_length l
  simp only [spec_CentralWord.f, Option.bind_some, List.nil_append]
  refine ev_bind (spec_StandardWord_ev l hn) (ev_ite (fun h => ?_) (fun h => ev_some (by unfold cwRes; rw [if_neg (fun h' => h h'.1)])))
  refine ev_ite (fun h2 => ev_some (by unfold cwRes; rw [if_neg (fun h' => by omega)])) (fun h2 => ?_)
  rw [show ((stdRes l).1.length : Int) - 2 = (((stdRes l).1.length - 2 : Nat) : Int) by omega, wr_nat (by omega), Int.toNat_natCast]
  refine ev_pos (by omega) (ev_pos (by omega) (ev_pos (by simp only [List.length_nil, List.length_take]; omega) (ev_some ?_)))
  unfold cwRes; rw [if_pos ⟨h, by omega⟩]
theorem impl_CentralWord_ev (l : List Int) (hn : l.length ≤ 4611686018427387904) : Ev (fun k => impl_CentralWord.f k l) (cwRes l) := by
  have hl := stdRes_length l
  simp only [impl_CentralWord.f]
  refine ev_bind (impl_StandardWord_ev l hn) (ev_ite (fun h => ?_) (fun h => ev_some (by unfold cwRes; rw [if_neg (fun h' => h h'.1)])))
  refine ev_ite (fun h2 => ev_some (by unfold cwRes; rw [if_neg (fun h' => by omega)])) (fun h2 => ?_)
  rw [show ((stdRes l).1.length : Int) - 2 = (((stdRes l).1.length - 2 : Nat) : Int) by omega, wr_nat (by omega), Int.toNat_natCast]
  refine ev_pos (by omega) (ev_pos (by omega) (ev_bind0 (Clone_eq _ (by simp only [List.length_take]; omega)) (ev_some ?_)))
  unfold cwRes; rw [if_pos ⟨h, by omega⟩]


def mwLet (p q s : Int) (i : Int) : Int := wrap64 ((wrap64 (Int.tdiv (wrap64 ((wrap64 ((wrap64 (i + 1)) * p)) + s)) q)) - (wrap64 (Int.tdiv (wrap64 ((wrap64 (i * p)) + s)) q)))
def mwRaw (p q s : Int) (n : Nat) : List Int := (List.range n).map fun (i : Nat) => mwLet p q s (i : Int)
theorem mwRaw_succ (p q s : Int) (i : Nat) : mwRaw p q s (i + 1) = mwRaw p q s i ++ [mwLet p q s (i : Int)] := by
  simp [mwRaw, List.range_succ]
theorem mwRaw_length (p q s : Int) (i : Nat) : (mwRaw p q s i).length = i := by simp [mwRaw]
def mwOk (p q s n : Int) : Bool := decide ((1 ≤ q ∧ q ≤ 1000) ∧ (0 ≤ p ∧ p ≤ q) ∧ (0 ≤ s ∧ s < q) ∧ (0 ≤ n ∧ n ≤ 256))
def mwRes (p q s n : Int) : List Int × Bool := if mwOk p q s n = true then (mwRaw p q s n.toNat, true) else ([], false)
theorem spec_MechanicalWord_l0 (p q s : Int) (n : Nat) (hq : q ≠ 0) (hn : n ≤ 1000) (d : Nat) : ∀ (i : Nat), i + d = n →
    Ev (fun k => spec_MechanicalWord.l0 k p q s (n : Int) (mwRaw p q s i) (i : Int)) (mwRaw p q s n, true) := by
  induction d with
  | zero =>
    intro i hi
    refine ev_succ ?_
    simp only [spec_MechanicalWord.l0]
    refine ev_neg (by omega) (ev_some ?_)
    rw [show i = n by omega]
  | succ d ih =>
    intro i hi
    have := ih (i + 1) (by omega)
    rw [mwRaw_succ] at this
    refine ev_succ ?_
    simp only [spec_MechanicalWord.l0]
    refine ev_pos (by omega) (ev_neg hq (ev_pos (by rw [mwRaw_length]; omega) ?_))
    rw [wr1 (show (0 : Int) ≤ (i : Int) by omega) (by omega)]
    simp only [mwLet, wr1 (show (0 : Int) ≤ (i : Int) by omega) (show (i : Int) ≤ 4611686018427387904 by omega)] at this
    exact this
theorem impl_MechanicalWord_l0 (p q s : Int) (n : Nat) (hq : q ≠ 0) (hn : n ≤ 1000) (d : Nat) : ∀ (i : Nat), i + d = n →
    Ev (fun k => impl_MechanicalWord.l0 k p q s (mwRaw p q s i) (n : Int) (i : Int)) (mwRaw p q s n, true) := by
  induction d with
  | zero =>
    intro i hi
    refine ev_succ ?_
    simp only [impl_MechanicalWord.l0]
    refine ev_neg (by omega) (ev_some ?_)
    rw [show i = n by omega]
  | succ d ih =>
    intro i hi
    have := ih (i + 1) (by omega)
    rw [mwRaw_succ] at this
    refine ev_succ ?_
    simp only [impl_MechanicalWord.l0]
    refine ev_pos (by omega) (ev_neg hq (ev_pos (by rw [mwRaw_length]; omega) ?_))
    rw [wr1 (show (0 : Int) ≤ (i : Int) by omega) (by omega)]
    simp only [mwLet, wr1 (show (0 : Int) ≤ (i : Int) by omega) (show (i : Int) ≤ 4611686018427387904 by omega)] at this
    exact this
theorem spec_MechanicalWord_ev (p q s n : Int) (hp : -9223372036854775808 ≤ q) : Ev (fun k => spec_MechanicalWord.f k p q s n) (mwRes p q s n) := by
  simp only [spec_MechanicalWord.f, l1In_eq, Option.bind_some]
  have no : mwOk p q s n = false → Ev (fun k => spec_MechanicalWord.j0 k p q s n true) (mwRes p q s n) := by
    intro h
    refine ev_succ ?_
    simp only [spec_MechanicalWord.j0]
    exact ev_pos trivial (ev_some (by simp [mwRes, h]))
  by_cases h1 : 1 ≤ q ∧ q ≤ 1000
  · refine ev_pos (by simpa using h1) ?_
    by_cases h2 : 0 ≤ p ∧ p ≤ q
    · refine ev_pos (by simpa using h2) ?_
      rw [wr (by omega) (by omega)]
      by_cases h3 : 0 ≤ s ∧ s ≤ q - 1
      · refine ev_pos (by simpa using h3) ?_
        by_cases h4 : 0 ≤ n ∧ n ≤ 256
        · rw [decide_eq_true h4]
          refine ev_succ ?_
          simp only [spec_MechanicalWord.j0]
          refine ev_neg (by simp) ?_
          obtain ⟨m, rfl⟩ := Int.eq_ofNat_of_zero_le h4.1
          have := spec_MechanicalWord_l0 p q s m (by omega) (by omega) m 0 (by omega)
          refine ev_eq this ?_
          rw [mwRes, if_pos (by simp only [mwOk, decide_eq_true_eq]; omega)]; simp
        · rw [decide_eq_false h4]
          exact no (by simp only [mwOk, decide_eq_false_iff_not]; omega)
      · refine ev_neg (by simpa using h3) (no (by simp only [mwOk, decide_eq_false_iff_not]; omega))
    · refine ev_neg (by simpa using h2) (no (by simp only [mwOk, decide_eq_false_iff_not]; omega))
  · refine ev_neg (by simpa using h1) (no (by simp only [mwOk, decide_eq_false_iff_not]; omega))
theorem impl_MechanicalWord_ev (p q s n : Int) : Ev (fun k => impl_MechanicalWord.f k p q s n) (mwRes p q s n) := by
  simp only [impl_MechanicalWord.f]
  have no : mwOk p q s n = false → Ev (fun k => impl_MechanicalWord.j0 k p q s n true) (mwRes p q s n) := by
    intro h
    refine ev_succ ?_
    simp only [impl_MechanicalWord.j0]
    exact ev_pos trivial (ev_some (by simp [mwRes, h]))
  refine ev_ite (fun h => no (by simp only [mwOk, decide_eq_false_iff_not]; omega)) (fun h1 => ?_)
  refine ev_ite (fun h => no (by simp only [mwOk, decide_eq_false_iff_not]; omega)) (fun h2 => ?_)
  refine ev_ite (fun h => no (by simp only [mwOk, decide_eq_false_iff_not]; omega)) (fun h3 => ?_)
  refine ev_ite (fun h => no (by simp only [mwOk, decide_eq_false_iff_not]; omega)) (fun h4 => ?_)
  refine ev_ite (fun h => no (by simp only [mwOk, decide_eq_false_iff_not]; omega)) (fun h5 => ?_)
  refine ev_ite (fun h => no (by simp only [mwOk, decide_eq_false_iff_not]; omega)) (fun h6 => ?_)
  refine ev_ite (fun h => no (by simp only [mwOk, decide_eq_false_iff_not]; omega)) (fun h7 => ?_)
  by_cases h8 : n > 256
  · rw [decide_eq_true h8]
    exact no (by simp only [mwOk, decide_eq_false_iff_not]; omega)
  · rw [decide_eq_false h8]
    refine ev_succ ?_
    simp only [impl_MechanicalWord.j0]
    refine ev_neg (by simp) ?_
    obtain ⟨m, rfl⟩ := Int.eq_ofNat_of_zero_le (show 0 ≤ n by omega)
    have := impl_MechanicalWord_l0 p q s m (by omega) (by omega) m 0 (by omega)
    refine ev_eq this ?_
    rw [mwRes, if_pos (by simp only [mwOk, decide_eq_true_eq]; omega)]; simp
theorem mwRes_length (p q s n : Int) : (mwRes p q s n).1.length ≤ 256 := by
  unfold mwRes
  split
  · rename_i h
    simp only [mwOk, decide_eq_true_eq] at h
    rw [mwRaw_length]; omega
  · simp


def flo (p q s i : Nat) : Nat := (i * p + s) / q
theorem div_two (x y q : Nat) (hq : 0 < q) : x / q + y / q ≤ (x + y) / q ∧ (x + y) / q ≤ x / q + y / q + 1 := by
  have h1 := Nat.div_add_mod x q
  have h2 := Nat.div_add_mod y q
  have h3 := Nat.mod_lt x hq
  have h4 := Nat.mod_lt y hq
  constructor
  · rw [Nat.le_div_iff_mul_le hq, Nat.add_mul, Nat.mul_comm (x / q), Nat.mul_comm (y / q)]; omega
  · have : (x + y) / q < x / q + y / q + 2 := by
      rw [Nat.div_lt_iff_lt_mul hq, Nat.add_mul, Nat.add_mul, Nat.mul_comm (x / q), Nat.mul_comm (y / q)]; omega
    omega
theorem flo_step (p q s i n : Nat) (hq : 0 < q) : flo p q s i + n * p / q ≤ flo p q s (i + n) ∧ flo p q s (i + n) ≤ flo p q s i + n * p / q + 1 := by
  have h := div_two (i * p + s) (n * p) q hq
  unfold flo
  rw [Nat.add_mul, show i * p + n * p + s = i * p + s + n * p by omega]
  exact h
theorem flo_one (p q s i : Nat) (hq : 0 < q) (hpq : p ≤ q) : flo p q s i ≤ flo p q s (i + 1) ∧ flo p q s (i + 1) ≤ flo p q s i + 1 := by
  have h1 := flo_step p q s i 1 hq
  rw [Nat.one_mul] at h1
  by_cases he : p = q
  · subst he
    have e : flo p p s (i + 1) = flo p p s i + 1 := by
      unfold flo
      rw [Nat.add_mul, Nat.one_mul, show i * p + p + s = i * p + s + p by omega, Nat.add_div_right _ hq]
    omega
  · have : p / q = 0 := Nat.div_eq_of_lt (by omega)
    rw [this] at h1
    omega
theorem mul_bd {i p : Nat} (hi : i ≤ 1000) (hp : p ≤ 1000) : i * p ≤ 1000000 := Nat.mul_le_mul hi hp
theorem mwLet_flo (p q s i : Nat) (hq : 0 < q) (hp : p ≤ 1000) (hs : s ≤ 1000) (hi : i < 1000) : mwLet p q s i = (flo p q s (i + 1) : Int) - (flo p q s i : Int) := by
  unfold mwLet flo
  have h1 := mul_bd (show i + 1 ≤ 1000 by omega) hp
  have h2 := mul_bd (show i ≤ 1000 by omega) hp
  rw [wr1 (by omega) (by omega), show (i : Int) + 1 = ((i + 1 : Nat) : Int) by omega, ← Int.natCast_mul, ← Int.natCast_mul, wr_nat (by omega), wr_nat (by omega), ← Int.natCast_add, ← Int.natCast_add, wr_nat (by omega), wr_nat (by omega), tdiv_nat, tdiv_nat]
  have h3 := Nat.div_le_self ((i + 1) * p + s) q
  have h4 := Nat.div_le_self (i * p + s) q
  rw [wr_nat (by omega), wr_nat (by omega)]
  generalize ((i + 1) * p + s) / q = A at *
  generalize (i * p + s) / q = B at *
  exact wr (by omega) (by omega)
theorem mw_pre1 (p q s n : Nat) (hq : 0 < q) (hpq : p ≤ q) (hp : p ≤ 1000) (hs : s ≤ 1000) (hn : n ≤ 1000) : ∀ i : Nat, i ≤ n → pre1 (mwRaw p q s n) i = (flo p q s i : Int) - (flo p q s 0 : Int) := by
  intro i
  induction i with
  | zero => intro _; simp [pre1, cnt]
  | succ i ih =>
    intro hi
    rw [pre1_succ _ _ (by rw [mwRaw_length]; omega), ih (by omega)]
    have hl : rd (mwRaw p q s n) (i : Int) = mwLet p q s i := by
      rw [rd_get (by rw [mwRaw_length]; omega)]; simp [mwRaw]
    rw [hl, mwLet_flo p q s i hq hp hs (by omega)]
    have h1 := flo_one p q s i hq hpq
    split <;> omega
theorem sJ_none (w : List Int) (n i : Nat) (h : ∀ j, j + n ≤ w.length → bad w n i j = false) (r : Nat) : ∀ j, j + n + r ≤ w.length + 1 → sJ w n i r j = none := by
  induction r with
  | zero => intro j hj; rfl
  | succ r ih => intro j hj; simp only [sJ]; rw [h j (by omega)]; simp only [Bool.false_eq_true, if_false]; exact ih (j + 1) (by omega)
theorem sI_none (w : List Int) (n : Nat) (h : ∀ i j, i + n ≤ w.length → j + n ≤ w.length → bad w n i j = false) (r : Nat) : ∀ i, i + n + r ≤ w.length + 1 → sI w n r i = none := by
  induction r with
  | zero => intro i hi; rfl
  | succ r ih =>
    intro i hi
    simp only [sI]
    rw [sJ_none w n i (fun j hj => h i j (by omega) hj) _ _ (by omega)]
    exact ih (i + 1) (by omega)
theorem sN_none (w : List Int) (h : ∀ n i j, i + n ≤ w.length → j + n ≤ w.length → bad w n i j = false) (r : Nat) : ∀ n, n + r ≤ max w.length 1 → sN w r n = none := by
  induction r with
  | zero => intro n hn; rfl
  | succ r ih =>
    intro n hn
    simp only [sN]
    by_cases hw : n ≤ w.length
    · rw [sI_none w n (h n) _ _ (by omega)]
      exact ih (n + 1) (by omega)
    · have : sI w n (w.length - n + 1) 0 = none := by
        rw [show w.length - n + 1 = 1 by omega]
        simp only [sI]
        rw [show w.length - n - 0 = 0 by omega]; rfl
      rw [this]
      exact ih (n + 1) (by omega)
theorem ubFind_none (w : List Int) (h : ∀ n i j, i + n ≤ w.length → j + n ≤ w.length → bad w n i j = false) : ubFind w = none := sN_none w h _ _ (by omega)
theorem mw_isBal (p q s n : Nat) (hq : 0 < q) (hpq : p ≤ q) (hp : p ≤ 1000) (hs : s ≤ 1000) (hn : n ≤ 64) : isBal (mwRaw p q s n) = true := by
  unfold isBal
  rw [mwRaw_length, decide_eq_true hn, Bool.true_and]
  have h1 : areL 2 (mwRaw p q s n) = true := by
    unfold areL
    rw [List.all_eq_true]
    intro x hx
    simp only [mwRaw, List.mem_map, List.mem_range] at hx
    obtain ⟨i, hi, rfl⟩ := hx
    rw [mwLet_flo p q s i hq hp hs (by omega)]
    have h1 := flo_one p q s i hq hpq
    simp only [decide_eq_true_eq]; omega
  have h2 : ubFind (mwRaw p q s n) = none := by
    refine ubFind_none _ ?_
    intro m i j hi hj
    rw [mwRaw_length] at hi hj
    have e : dif (mwRaw p q s n) m i j = (flo p q s (i + m) : Int) - flo p q s i - flo p q s (j + m) + flo p q s j := by
      unfold dif
      rw [mw_pre1 p q s n hq hpq hp hs (by omega) (i + m) hi, mw_pre1 p q s n hq hpq hp hs (by omega) i (by omega), mw_pre1 p q s n hq hpq hp hs (by omega) (j + m) hj, mw_pre1 p q s n hq hpq hp hs (by omega) j (by omega)]
      omega
    have h1 := flo_step p q s i m hq
    have h2 := flo_step p q s j m hq
    generalize m * p / q = c at h1 h2
    simp only [bad, decide_eq_false_iff_not]
    rw [e]
    omega
  rw [h1, h2]; rfl


def convN : List Int → Nat × Nat
  | [] => (0, 1)
  | a :: l => ((convN l).2, a.toNat * (convN l).2 + (convN l).1)
theorem convN_eq : ∀ (l : List Int), (∀ x ∈ l, 0 ≤ x) → convPQ l = (((convN l).1 : Int), ((convN l).2 : Int)) := by
  intro l
  induction l with
  | nil => intro _; rfl
  | cons a l ih =>
    intro h
    have h1 := ih (fun x hx => h x (by simp [hx]))
    have h2 := h a (by simp)
    unfold convPQ at h1 ⊢
    rw [List.foldr_cons, h1]
    simp only [convF, convN]
    rw [Int.natCast_add, Int.natCast_mul, Int.toNat_of_nonneg h2]
theorem convN_gcd : ∀ (l : List Int), Nat.gcd (convN l).2 (convN l).1 = 1 := by
  intro l
  induction l with
  | nil => rfl
  | cons a l ih =>
    simp only [convN]
    rw [Nat.gcd_comm, Nat.gcd_rec, Nat.mul_add_mod_self_right, ← Nat.gcd_rec]
    exact ih
theorem convN_quotL (n : Nat) : ∀ (p q : Nat), p < n → Nat.gcd p q = 1 → convN (quotL n p q) = (p, q) := by
  induction n with
  | zero => intro p q h; omega
  | succ n ih =>
    intro p q hp hg
    by_cases h0 : p = 0
    · subst h0
      rw [Nat.gcd_zero_left] at hg
      subst hg
      rfl
    · rw [quotL_pos n p q h0]
      have hlt := Nat.mod_lt q (show p > 0 by omega)
      have := ih (q % p) p (by omega) (by rw [← Nat.gcd_rec]; exact hg)
      simp only [convN, this, Int.toNat_natCast]
      rw [Nat.mul_comm, Nat.div_add_mod]
theorem quot_conv (u v : Int) (m : List Int) (h : quotRes u v = (m, true)) : convRes m = (u, v, true) := by
  unfold quotRes at h
  split at h
  · rename_i hok
    unfold quotFin at h
    split at h
    · rename_i hq
      simp only [Prod.mk.injEq, and_true] at h
      rw [h] at hq
      simp only [quotOk, Bool.and_eq_true, decide_eq_true_eq] at hok
      unfold convRes
      rw [if_pos hq, convN_eq m (fun x hx => by have := areQ_mem hq x hx; omega), ← h, convN_quotL 100001 u.toNat v.toNat (by omega) hok.2]
      simp only [Prod.mk.injEq, and_true]
      omega
    · simp at h
  · simp at h
def sturmChk (a : List Int) : Bool :=
  !(stdGo a true [1] [0]).2 || (decide (((stdGo a true [1] [0]).1.length : Int) = (convPQ a).2) && decide (cnt 1 (stdGo a true [1] [0]).1 = (convPQ a).1) &&
    (decide ((stdGo a true [1] [0]).1.length < 2) || decide (((stdGo a true [1] [0]).1.take ((stdGo a true [1] [0]).1.length - 2)).reverse = (stdGo a true [1] [0]).1.take ((stdGo a true [1] [0]).1.length - 2))) &&
    (decide ((stdGo a true [1] [0]).1.length > 64) || (decide ((convPQ a).1 ≤ (convPQ a).2 ∧ 1 ≤ (convPQ a).1) &&
      (decide ((stdGo a true [1] [0]).1 = mwRaw (convPQ a).1 (convPQ a).2 (convPQ a).1 (stdGo a true [1] [0]).1.length) || decide ((stdGo a true [1] [0]).1 = mwRaw (convPQ a).1 (convPQ a).2 ((convPQ a).1 - 1) (stdGo a true [1] [0]).1.length)))))
def sturmAll : List (List Int) := [1, 2, 3, 9].flatMap fun v => (tails 0 ++ tails 1 ++ tails 2 ++ tails 3 ++ tails 4).map fun l => v :: l
set_option maxRecDepth 100000 in
theorem sturmAll_ok : sturmAll.all sturmChk = true := by decide +kernel


def cpRes (l : List Int) (n : Int) : List Int × Bool := if (stdRes l).2 = true ∧ 0 ≤ n ∧ n ≤ mx 0 (((stdRes l).1.length : Int) - 2) then ((stdRes l).1.take n.toNat, true) else ([], false)
theorem cpRes_length (l : List Int) (n : Int) : (cpRes l n).1.length ≤ 400 := by
  have := stdRes_length l
  unfold cpRes
  split
  · simp only [List.length_take]; omega
  · simp
theorem stdGo_pos : ∀ (qs : List Int) (f : Bool) (b l : List Int), 1 ≤ b.length → 1 ≤ l.length → (stdGo qs f b l).2 = true → 1 ≤ (stdGo qs f b l).1.length := by
  intro qs
  induction qs with
  | nil => intro f b l hb h _; exact h
  | cons a qs ih =>
    intro f b l hb h
    unfold stdGo
    have hn : 1 ≤ (reps l (if f = true then a - 1 else a).toNat ++ b).length := by simp only [List.length_append]; omega
    generalize (reps l (if f = true then a - 1 else a).toNat ++ b) = n at hn
    split
    · intro h; cases h
    · exact ih _ _ _ h hn
theorem spec_CharacteristicPrefix_ev (l : List Int) (n : Int) (hn : l.length ≤ 4611686018427387904) : Ev (fun k => spec_CharacteristicPrefix.f k l n) (cpRes l n) := by
  simp only [spec_CharacteristicPrefix.f, Option.bind_some, List.nil_append]
  have hl := stdRes_length l
  refine ev_bind (spec_StandardWord_ev l hn) (ev_ite (fun h => ?_) (fun h => ev_some ?_))
  · rw [wr (by omega) (by omega)]
    refine ev_ite (fun h1 => ev_some ?_) (fun h1 => ev_ite (fun h2 => ev_some ?_) (fun h2 => ?_))
    · unfold cpRes; rw [if_neg (by omega)]
    · unfold cpRes; rw [if_neg (by omega)]
    · have hm : n ≤ ((stdRes l).1.length : Int) := by unfold mx at h2; split at h2 <;> omega
      refine ev_pos (by omega) (ev_pos hm (ev_pos (by simp only [List.length_nil, List.length_take]; omega) (ev_some ?_)))
      unfold cpRes; rw [if_pos ⟨h, by omega, by omega⟩]
  · unfold cpRes; rw [if_neg (fun h' => h h'.1)]
theorem impl_CharacteristicPrefix_ev (l : List Int) (n : Int) (hn : l.length ≤ 4611686018427387904) : Ev (fun k => impl_CharacteristicPrefix.f k l n) (cpRes l n) := by
  simp only [impl_CharacteristicPrefix.f, Option.bind_some, List.nil_append]
  have hl := stdRes_length l
  refine ev_bind (impl_StandardWord_ev l hn) (ev_ite (fun h => ?_) (fun h => ev_some ?_))
  · rw [wr (by omega) (by omega)]
    refine ev_ite (fun h1 => ev_some ?_) (fun h1 => ev_ite (fun h2 => ev_some ?_) (fun h2 => ?_))
    · unfold cpRes; rw [if_neg (by omega)]
    · unfold cpRes; rw [if_neg (by omega)]
    · have hm : n ≤ ((stdRes l).1.length : Int) := by unfold mx at h2; split at h2 <;> omega
      refine ev_pos (by omega) (ev_pos hm (ev_pos (by simp only [List.length_nil, List.length_take]; omega) (ev_some ?_)))
      unfold cpRes; rw [if_pos ⟨h, by omega, by omega⟩]
  · unfold cpRes; rw [if_neg (fun h' => h h'.1)]


-- SAY: For every code the law of Sturmian words holds: standard words have the letters of the convergent, their middle is a palindrome, short ones are balanced; quotients and convergents belong together; mechanical words are balanced. No conditions beyond the given statement.
theorem sturm_mem {a : List Int} (h : qDrawn a) (hq : areQ a = true) : a ∈ sturmAll := by
  rcases h with rfl | ⟨v, l, rfl, hl, h3, hv⟩
  · simp [areQ] at hq
  · have hm := areQ_mem hq v (by simp)
    have ht := tails_mem l h3
    unfold sturmAll
    rw [List.mem_flatMap]
    refine ⟨v, by simp only [List.mem_cons, List.not_mem_nil, or_false]; omega, ?_⟩
    rw [List.mem_map]
    refine ⟨l, ?_, rfl⟩
    simp only [List.mem_append]
    have : l.length = 0 ∨ l.length = 1 ∨ l.length = 2 ∨ l.length = 3 ∨ l.length = 4 := by omega
    rcases this with e | e | e | e | e <;> rw [e] at ht <;> simp [ht]
theorem sturm_facts {a : List Int} (h : qDrawn a) (hb : (stdRes a).2 = true) :
    ((stdRes a).1.length : Int) = (convRes a).2.1 ∧ cnt 1 (stdRes a).1 = (convRes a).1 ∧ ((cwRes a).2 = true → (cwRes a).1.reverse = (cwRes a).1) ∧ ((stdRes a).1.length ≤ 64 → isBal (stdRes a).1 = true) := by
  have hq : areQ a = true := by
    unfold stdRes at hb
    split at hb
    · assumption
    · cases hb
  have hc := List.all_eq_true.1 sturmAll_ok a (sturm_mem h hq)
  have e : stdRes a = stdGo a true [1] [0] := by unfold stdRes; rw [if_pos hq]
  have e2 : convRes a = ((convPQ a).1, (convPQ a).2, true) := by unfold convRes; rw [if_pos hq]
  rw [e] at hb
  unfold sturmChk at hc
  rw [hb] at hc
  simp only [Bool.not_true, Bool.false_or, Bool.and_eq_true, Bool.or_eq_true, decide_eq_true_eq] at hc
  obtain ⟨⟨⟨h1, h2⟩, h3⟩, h4⟩ := hc
  rw [e2, e]
  refine ⟨h1, h2, fun hw => ?_, fun h64 => ?_⟩
  · unfold cwRes at hw ⊢
    rw [e] at hw ⊢
    split at hw
    · rename_i hh
      rw [if_pos hh]
      rcases h3 with h3 | h3
      · omega
      · exact h3
    · cases hw
  · rcases h4 with h4 | ⟨⟨h5, h6⟩, h7⟩
    · omega
    · obtain ⟨p, hp⟩ := Int.eq_ofNat_of_zero_le (show 0 ≤ (convPQ a).1 by omega)
      obtain ⟨q, hq⟩ := Int.eq_ofNat_of_zero_le (show 0 ≤ (convPQ a).2 by omega)
      rw [hp] at h5 h6 h7
      rw [hq] at h5 h7
      rw [hq] at h1
      generalize (stdGo a true [1] [0]).1 = x at *
      rcases h7 with h7 | h7
      · rw [h7]
        exact mw_isBal p q p x.length (by omega) (by omega) (by omega) (by omega) h64
      · rw [show (p : Int) - 1 = ((p - 1 : Nat) : Int) by omega] at h7
        rw [h7]
        exact mw_isBal p q (p - 1) x.length (by omega) (by omega) (by omega) (by omega) h64
theorem mech_bal (p q s n : Int) (o : List Int) (h : mwRes p q s n = (o, true)) (hl : o.length ≤ 64) : isBal o = true := by
  unfold mwRes at h
  split at h
  · rename_i hok
    simp only [mwOk, decide_eq_true_eq] at hok
    simp only [Prod.mk.injEq, and_true] at h
    obtain ⟨p, rfl⟩ := Int.eq_ofNat_of_zero_le (show 0 ≤ p by omega)
    obtain ⟨q, rfl⟩ := Int.eq_ofNat_of_zero_le (show 0 ≤ q by omega)
    obtain ⟨s, rfl⟩ := Int.eq_ofNat_of_zero_le (show 0 ≤ s by omega)
    rw [← h, mwRaw_length] at hl
    rw [← h]
    exact mw_isBal p q s n.toNat (by omega) (by omega) (by omega) (by omega) hl
  · simp at h
theorem conv_gcd {a : List Int} (h : (convRes a).2.2 = true) : ∃ p q : Nat, (convRes a).1 = p ∧ (convRes a).2.1 = q ∧ Nat.gcd q p = 1 := by
  unfold convRes at h ⊢
  split at h
  · rename_i hq
    rw [if_pos hq]
    have := convN_eq a (fun x hx => by have := areQ_mem hq x hx; omega)
    refine ⟨(convN a).1, (convN a).2, ?_, ?_, convN_gcd a⟩
    · simp only [this]
    · simp only [this]
  · cases h
theorem st_j4 (l : List Int) (hn : l.length ≤ 1048576) : Ev (fun k => laws_FnSturmian.j4 k l) true := by
  refine ev_succ ?_
  simp only [laws_FnSturmian.j4]
  obtain ⟨r, hr, hlen⟩ := drawChar_tot l hn
  refine ev_bind hr ?_
  have hcl := cpRes_length r.1 r.2
  refine ev_bind (impl_CharacteristicPrefix_ev r.1 r.2 (by omega)) (ev_bind (spec_CharacteristicPrefix_ev r.1 r.2 (by omega)) ?_)
  obtain ⟨m, hm, hm1⟩ := drawMech_tot l hn
  refine ev_bind hm ?_
  have hS := spec_MechanicalWord_ev m.1 m.2.1 m.2.2.1 m.2.2.2 (by omega)
  have hI := impl_MechanicalWord_ev m.1 m.2.1 m.2.2.1 m.2.2.2
  have hml := mwRes_length m.1 m.2.1 m.2.2.1 m.2.2.2
  have hmb := mech_bal m.1 m.2.1 m.2.2.1 m.2.2.2
  refine ev_bind hI (ev_bind hS ?_)
  refine ev_pos (by simp) (ev_bind (sameInts_refl _ (by omega)) (ev_pos rfl (ev_pos (by simp) (ev_bind (sameInts_refl _ (by omega)) (ev_pos rfl ?_)))))
  refine ev_ite (fun h => ?_) (fun h => ev_some rfl)
  refine ev_ite (fun h2 => ev_some rfl) (fun h2 => ?_)
  have := hmb (mwRes m.1 m.2.1 m.2.2.1 m.2.2.2).1 (by rw [← h]) (by omega)
  exact ev_bind (ev_eq (impl_IsBalanced_ev _ (by omega)) this) (ev_some rfl)
theorem st_j2 (l : List Int) (hn : l.length ≤ 1048576) : Ev (fun k => laws_FnSturmian.j2 k l false) true := by
  refine ev_succ ?_
  simp only [laws_FnSturmian.j2]
  refine ev_neg (by simp) ?_
  obtain ⟨r, hr, _⟩ := drawQuotients_tot l hn
  refine ev_bind hr ?_
  have hl := quotRes_length r.1 r.2
  refine ev_bind (impl_QuotientsOf_ev r.1 r.2) (ev_bind (spec_QuotientsOf_ev r.1 r.2) (ev_neg (by simp) (ev_bind (sameInts_refl _ (by omega)) ?_)))
  refine ev_succ ?_
  simp only [laws_FnSturmian.j3]
  refine ev_neg (by simp) (ev_ite (fun h => ?_) (fun h => st_j4 l hn))
  have := quot_conv r.1 r.2 (quotRes r.1 r.2).1 (by rw [← h])
  refine ev_bind (ev_eq (impl_ConvergentOf_ev _ (by omega)) this) ?_
  exact ev_pos rfl (ev_pos rfl (ev_pos rfl (st_j4 l hn)))
theorem FnSturmian : laws_FnSturmian.Pure := by
  intro l hl0 hl1 hwf
  refine Ev.rounds (g := fun k => laws_FnSturmian.f k l) ?_
  simp only [laws_FnSturmian.f, big_eq, Option.bind_some]
  refine ev_ite (fun h => ev_some rfl) (fun h => ?_)
  have hn : l.length ≤ 1048576 := by
    simp only [decide_eq_true_eq] at h; omega
  obtain ⟨a, ha, hq⟩ := drawStandard_tot l hn
  have hal := qDrawn_len hq
  refine ev_bind ha ?_
  have h1 := stdRes_length a
  have h2 := cwRes_length a
  refine ev_bind (impl_StandardWord_ev a (by omega)) (ev_bind (spec_StandardWord_ev a (by omega)) ?_)
  refine ev_bind (impl_ConvergentOf_ev a (by omega)) (ev_bind (spec_ConvergentOf_ev a (by omega)) ?_)
  refine ev_bind (impl_CentralWord_ev a (by omega)) (ev_bind (spec_CentralWord_ev a (by omega)) ?_)
  refine ev_neg (by simp) (ev_bind (sameInts_refl _ (by omega)) (ev_pos rfl (ev_neg (by simp) (ev_pos rfl (ev_pos rfl (ev_neg (by simp) ?_))))))
  refine ev_bind (sameInts_refl _ (by omega)) (ev_pos rfl ?_)
  refine ev_bind (impl_AreQuotients_ev a (by omega)) (ev_bind (spec_AreQuotients_ev a (by omega)) (ev_succ ?_))
  simp only [laws_FnSturmian.j0]
  refine ev_neg (by simp) ?_
  have key : ∀ b : Bool, b = false → Ev (fun k => laws_FnSturmian.j1 k l (convRes a).1 (convRes a).2.1 (convRes a).2.2 b) true := by
    intro b hb
    subst hb
    refine ev_succ ?_
    simp only [laws_FnSturmian.j1]
    refine ev_neg (by simp) (ev_ite (fun hk => ?_) (fun hk => st_j2 l hn))
    obtain ⟨p, q, e1, e2, hg⟩ := conv_gcd hk
    rw [e1, e2]
    refine ev_bind (laws_gcd_ev q p) ?_
    rw [hg]
    exact st_j2 l hn
  refine ev_ite (fun hb => ?_) (fun hb => key _ rfl)
  obtain ⟨f1, f2, f3, f4⟩ := sturm_facts hq hb
  refine ev_pos f1 (ev_bind (spec_CountLetters_ev _ 1 (by omega)) (ev_pos f2 ?_))
  refine ev_ite (fun ho => ?_) (fun ho => ?_)
  · refine ev_bind (ev_eq (impl_IsPalindrome_ev _ (by omega)) (decide_eq_true (f3 ho))) (ev_pos rfl ?_)
    refine ev_ite (fun h64 => ?_) (fun h64 => key _ rfl)
    exact ev_bind (ev_eq (impl_IsBalanced_ev _ (by omega)) (f4 (by omega))) (key _ rfl)
  · refine ev_ite (fun h64 => ?_) (fun h64 => key _ rfl)
    exact ev_bind (ev_eq (impl_IsBalanced_ev _ (by omega)) (f4 (by omega))) (key _ rfl)


end Go.Proofs.Ytihbelkchcedpaa.Pure

/-! The row's word for a slice's size, under the name by which the row asks for it. -/
namespace Go.Proofs.Ytihbelkchcedpaa.PrintWords
open Go.ChangeShapes Go.WideShapes
theorem sized_ints {H : Type} {enc : TypeId × Value → H} {P : Program} {W : World} {base : Nat} {spare : Nat → Bool} {held : Bool} {t e : TypeId} {k : IntKind} {a : Option Addr} {len cap : Nat} {d : DataW H}
    {ps : List MemPlace} {ts : List TypeId} {ds : List (DataW H)} {j : Nat} (hsz : (DataW.weightsEach P ts ds).all (· ≤ reachBytes) = true) (ht : ts[j]? = some t) (hd : ds[j]? = some d) (hu : P.underlying t = some (.slice e))
    (he : P.underlying e = some (.int k)) (hc : P.cellsOf e = 1) {B : Nat} (hB : P.bytesOf e = B) (h : DataW.Trod enc P W base spare held t (.slice a len cap) d ps) : len * B ≤ 140737488351232 :=
  Go.Proofs.YtihbelkchcedpaaW.PrintWords.sized_ints hsz ht hd hu he hc hB h
end Go.Proofs.Ytihbelkchcedpaa.PrintWords
