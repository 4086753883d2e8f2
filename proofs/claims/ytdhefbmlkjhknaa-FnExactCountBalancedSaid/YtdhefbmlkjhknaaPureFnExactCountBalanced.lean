/- For every number the program's CountBalanced answers what the reference's answers. No conditions beyond the given statement. -/
import Derived.Test.YtdhefbmlkjhknaaPFnExactCountBalancedx5
set_option linter.unusedVariables false
set_option linter.unusedSimpArgs false
namespace Go.Proofs.Ytdhefbmlkjhknaa.Pure
open Go.RowKit Go.Proofs.Ytdhefbmlkjhknaa.PFnExactCountBalanced Go.Proofs.YtdhefbmlkjhknaaW.PrintWords Go.Proofs.YtdhefbmlkjhknaaW.PrintLast

theorem ev_succ {α : Type} {g : Nat → Option α} {r : α} (h : Ev (fun k => g (k + 1)) r) : Ev g r := Ev.step (fun _ => rfl) h
theorem ev_some {α : Type} {r r' : α} (h : r = r') : Ev (fun _ => some r) r' := by subst h; exact Ev.now r
theorem ev_pos {α : Type} {c : Prop} [Decidable c] {g f : Nat → Option α} {r : α} (hc : c) (h : Ev g r) : Ev (fun k => if c then g k else f k) r := by
  simp only [if_pos hc]; exact h
theorem ev_neg {α : Type} {c : Prop} [Decidable c] {g f : Nat → Option α} {r : α} (hc : ¬ c) (h : Ev f r) : Ev (fun k => if c then g k else f k) r := by
  simp only [if_neg hc]; exact h
theorem ev_ite {α : Type} {c : Prop} [Decidable c] {g f : Nat → Option α} {r : α} (h : c → Ev g r) (h' : ¬ c → Ev f r) : Ev (fun k => if c then g k else f k) r := by
  by_cases hc : c
  · exact ev_pos hc (h hc)
  · exact ev_neg hc (h' hc)
theorem ev_bind {α β : Type} {g : Nat → Option α} {f : Nat → α → Option β} {a : α} {r : β} (h : Ev g a) (k : Ev (fun n => f n a) r) : Ev (fun n => (g n).bind (f n)) r := Ev.bind h k
theorem ev_bind0 {α β : Type} {o : Option α} {f : Nat → α → Option β} {a : α} {r : β} (h : o = some a) (k : Ev (fun n => f n a) r) : Ev (fun n => o.bind (f n)) r := by
  subst h; exact k
theorem ev_eq {α : Type} {g : Nat → Option α} {r r' : α} (h : Ev g r) (e : r = r') : Ev g r' := e ▸ h
theorem ev_const {α : Type} {o : Option α} {r : α} (h : o = some r) : Ev (fun _ => o) r := by subst h; exact Ev.now r
theorem wr {n : Int} (h0 : -9223372036854775808 ≤ n) (h1 : n ≤ 9223372036854775807) : wrap64 n = n := by unfold wrap64; omega
theorem wr1 {i : Int} (h0 : 0 ≤ i) (h1 : i ≤ 4611686018427387904) : wrap64 (i + 1) = i + 1 := wr (by omega) (by omega)
theorem wr_nat {n : Nat} (h : n ≤ 4611686018427387904) : wrap64 (n : Int) = n := wr (by omega) (by omega)
theorem rd_nat (l : List Int) (i : Nat) : rd l (i : Int) = l.getD i 0 := by simp [rd]
theorem rd_get {l : List Int} {i : Nat} (h : i < l.length) : rd l (i : Int) = l[i] := by
  simp [rd, List.getD_eq_getElem?_getD, List.getElem?_eq_getElem h]
theorem drop_rd {l : List Int} {i : Nat} (h : i < l.length) : l.drop i = rd l (i : Int) :: l.drop (i + 1) := by
  rw [rd_get h]; exact List.drop_eq_getElem_cons h
theorem rd_mem {l : List Int} {i : Nat} (h : i < l.length) : rd l (i : Int) ∈ l := by rw [rd_get h]; exact List.getElem_mem h


theorem l1In_eq (a b c : Int) : spec_l1In.f a b c = some (decide (b ≤ a ∧ a ≤ c)) := by
  unfold spec_l1In.f
  by_cases h : a ≥ b
  · rw [if_pos h]; simp [show b ≤ a from h]
  · rw [if_neg h]; simp [show ¬ b ≤ a from h]


theorem tmod_nat (a b : Nat) : Int.tmod (a : Int) (b : Int) = ((a % b : Nat) : Int) := by
  rw [Int.tmod_eq_emod_of_nonneg (by omega)]; exact (Int.natCast_emod a b).symm
theorem tdiv_nat (a b : Nat) : Int.tdiv (a : Int) (b : Int) = ((a / b : Nat) : Int) := by
  rw [Int.tdiv_eq_ediv_of_nonneg (by omega)]; exact (Int.natCast_ediv a b).symm
theorem gcd_step (a b : Nat) (h : b ≠ 0) : Nat.gcd a b = Nat.gcd b (a % b) := by
  rw [Nat.gcd_comm a b, Nat.gcd_rec b a, Nat.gcd_comm]

def cnt (a : Int) : List Int → Int
  | [] => 0
  | x :: l => (if x = a then 1 else 0) + cnt a l
theorem cnt_bd (a : Int) (l : List Int) : 0 ≤ cnt a l ∧ cnt a l ≤ l.length := by
  induction l with
  | nil => exact ⟨by simp [cnt], by simp [cnt]⟩
  | cons x l ih =>
    simp only [cnt, List.length_cons]
    split <;> omega
theorem spec_CountLetters_l0 (l : List Int) (a : Int) (hn : l.length ≤ 4611686018427387904) (d : Nat) : ∀ (i : Nat) (s : Int), i + d = l.length → 0 ≤ s → s ≤ i →
    Ev (fun k => spec_CountLetters.l0 k l a s (i : Int)) (s + cnt a (l.drop i)) := by
  induction d with
  | zero =>
    intro i s hi h0 h1
    refine ev_succ ?_
    simp only [spec_CountLetters.l0]
    refine ev_neg (by omega) (ev_some ?_)
    rw [List.drop_of_length_le (by omega)]; simp [cnt]
  | succ d ih =>
    intro i s hi h0 h1
    refine ev_succ ?_
    simp only [spec_CountLetters.l0, wr1 (show (0 : Int) ≤ (i : Int) by omega) (by omega), wr1 h0 (by omega)]
    refine ev_pos (by omega) (ev_pos (by omega) ?_)
    rw [drop_rd (by omega : i < l.length)]
    refine ev_ite (fun h => ev_eq (ih (i + 1) (s + 1) (by omega) (by omega) (by omega)) ?_) (fun h => ev_eq (ih (i + 1) s (by omega) (by omega) (by omega)) ?_)
    · simp only [cnt, if_pos h]; omega
    · simp only [cnt, if_neg h]; omega
theorem spec_CountLetters_ev (l : List Int) (a : Int) (hn : l.length ≤ 4611686018427387904) : Ev (fun k => spec_CountLetters.f k l a) (cnt a l) := by
  simp only [spec_CountLetters.f]
  exact ev_eq (spec_CountLetters_l0 l a hn l.length 0 0 (by omega) (by omega) (by omega)) (by simp)
theorem oneIf_eq (b : Bool) : impl_oneIf.f b = some (if b = true then 1 else 0) := by
  unfold impl_oneIf.f
  cases b <;> rfl

def areL (m : Int) (l : List Int) : Bool := l.all fun x => decide (0 ≤ x ∧ x < m)
theorem impl_areLetters_l0 (l : List Int) (m : Int) (hn : l.length ≤ 4611686018427387904) (d : Nat) : ∀ (i : Nat), i + d = l.length →
    Ev (fun k => impl_areLetters.l0 k m l (l.length : Int) (i : Int)) (areL m (l.drop i)) := by
  induction d with
  | zero =>
    intro i hi
    refine ev_succ ?_
    simp only [impl_areLetters.l0]
    refine ev_neg (by omega) (ev_some ?_)
    rw [List.drop_of_length_le (by omega)]; rfl
  | succ d ih =>
    intro i hi
    refine ev_succ ?_
    simp only [impl_areLetters.l0, wr1 (show (0 : Int) ≤ (i : Int) by omega) (by omega)]
    refine ev_pos (by omega) (ev_pos (by omega) (ev_pos (by omega) ?_))
    rw [drop_rd (by omega : i < l.length)]
    refine ev_ite (fun h => ev_some ?_) (fun h => ev_ite (fun h' => ev_some ?_) (fun h' => ev_eq (ih (i + 1) (by omega)) ?_))
    · simp only [areL, List.all_cons, decide_eq_false (show ¬ (0 ≤ rd l (i : Int) ∧ rd l (i : Int) < m) by omega), Bool.false_and]
    · simp only [areL, List.all_cons, decide_eq_false (show ¬ (0 ≤ rd l (i : Int) ∧ rd l (i : Int) < m) by omega), Bool.false_and]
    · simp only [areL, List.all_cons, decide_eq_true (show (0 ≤ rd l (i : Int) ∧ rd l (i : Int) < m) by omega), Bool.true_and]
theorem impl_areLetters_ev (l : List Int) (m : Int) (hn : l.length ≤ 4611686018427387904) : Ev (fun k => impl_areLetters.f k l m) (areL m l) := by
  simp only [impl_areLetters.f]
  exact impl_areLetters_l0 l m hn l.length 0 (by omega)


/-- the ones in the first i letters -/
def pre1 (w : List Int) (i : Nat) : Int := cnt 1 (w.take i)
theorem cnt_append (a : Int) (u v : List Int) : cnt a (u ++ v) = cnt a u + cnt a v := by
  induction u with
  | nil => simp [cnt]
  | cons x u ih => simp only [List.cons_append, cnt, ih]; omega
theorem pre1_succ (w : List Int) (i : Nat) (h : i < w.length) : pre1 w (i + 1) = pre1 w i + (if rd w (i : Int) = 1 then 1 else 0) := by
  unfold pre1
  rw [List.take_succ_eq_append_getElem h, cnt_append, ← rd_get h]
  simp [cnt]
theorem pre1_bd (w : List Int) (i : Nat) : 0 ≤ pre1 w i ∧ pre1 w i ≤ i := by
  have := cnt_bd 1 (w.take i)
  have h2 : (w.take i).length ≤ i := List.length_take_le _ _
  unfold pre1
  omega
/-- how many more ones the part at i of length n has than the part at j -/
def dif (w : List Int) (n i j : Nat) : Int := pre1 w (i + n) - pre1 w i - pre1 w (j + n) + pre1 w j
def bad (w : List Int) (n i j : Nat) : Bool := decide (dif w n i j > 1 ∨ dif w n i j < -1)
def sJ (w : List Int) (n i : Nat) : Nat → Nat → Option (Nat × Nat × Nat)
  | 0, _ => none
  | r + 1, j => if bad w n i j = true then some (n, i, j) else sJ w n i r (j + 1)
def sI (w : List Int) (n : Nat) : Nat → Nat → Option (Nat × Nat × Nat)
  | 0, _ => none
  | r + 1, i => match sJ w n i (w.length - n - i) (i + 1) with
    | some t => some t
    | none => sI w n r (i + 1)
def sN (w : List Int) : Nat → Nat → Option (Nat × Nat × Nat)
  | 0, _ => none
  | r + 1, n => match sI w n (w.length - n + 1) 0 with
    | some t => some t
    | none => sN w r (n + 1)
def ubFind (w : List Int) : Option (Nat × Nat × Nat) := sN w (w.length - 1) 1
def ubTell : Option (Nat × Nat × Nat) → Int × Int × Int × Bool
  | none => (0, 0, 0, false)
  | some (n, i, j) => ((n : Int), (i : Int), (j : Int), true)
def sums (w : List Int) (m : Nat) : List Int := (List.range m).map fun (i : Nat) => pre1 w i
theorem sums_length (w : List Int) (m : Nat) : (sums w m).length = m := by simp [sums]
theorem sums_succ (w : List Int) (m : Nat) : sums w (m + 1) = sums w m ++ [pre1 w m] := by simp [sums, List.range_succ]
theorem sums_rd (w : List Int) (m i : Nat) (h : i < m) : rd (sums w m) (i : Int) = pre1 w i := by
  rw [rd_get (by rw [sums_length]; exact h)]; simp [sums]
theorem unb_l0 (w : List Int) (hn : w.length ≤ 1000000) (R : Int × Int × Int × Bool) (H : Ev (fun k => impl_unbalanced.l1 k w (sums w (w.length + 1)) 1) R) (d : Nat) : ∀ i : Nat, i + d = w.length →
    Ev (fun k => impl_unbalanced.l0 k w (sums w (i + 1)) w (w.length : Int) (i : Int)) R := by
  induction d with
  | zero =>
    intro i hi
    refine ev_succ ?_
    simp only [impl_unbalanced.l0]
    refine ev_neg (by omega) ?_
    rw [show i = w.length by omega]; exact H
  | succ d ih =>
    intro i hi
    have hb := pre1_bd w i
    refine ev_succ ?_
    simp only [impl_unbalanced.l0, oneIf_eq, Option.bind_some, beq_iff_eq, sums_length]
    rw [show (((i + 1 : Nat) : Int) - 1) = (i : Int) by omega, wr_nat (by omega), wr1 (by omega) (by omega), sums_rd w (i + 1) i (by omega)]
    refine ev_pos (by omega) (ev_pos (by omega) (ev_pos (by omega) (ev_pos (by omega) (ev_pos (by omega) (ev_pos (by omega) ?_)))))
    rw [wr (n := pre1 w i + _) (by split <;> omega) (by split <;> omega), ← pre1_succ w i (by omega), ← sums_succ]
    exact ih (i + 1) (by omega)
theorem unb_l3 (w : List Int) (n i : Nat) (hn : w.length ≤ 1000000) (h1 : 1 ≤ n) (hi : i + n ≤ w.length) (R : Int × Int × Int × Bool) (d : Nat) :
    ∀ j : Nat, j + n + d = w.length + 1 → (sJ w n i d j = none → Ev (fun k => impl_unbalanced.l2 k w (sums w (w.length + 1)) (n : Int) ((i + 1 : Nat) : Int)) R) → (∀ t, sJ w n i d j = some t → ubTell (some t) = R) →
    Ev (fun k => impl_unbalanced.l3 k w (sums w (w.length + 1)) (n : Int) (i : Int) (j : Int)) R := by
  induction d with
  | zero =>
    intro j hj H ht
    refine ev_succ ?_
    simp only [impl_unbalanced.l3]
    rw [wr (n := (j : Int) + n) (by omega) (by omega), wr1 (show (0 : Int) ≤ (i : Int) by omega) (by omega)]
    exact ev_neg (by omega) (H rfl)
  | succ d ih =>
    intro j hj H ht
    refine ev_succ ?_
    simp only [impl_unbalanced.l3, sums_length]
    have b1 := pre1_bd w (i + n)
    have b2 := pre1_bd w i
    have b3 := pre1_bd w (j + n)
    have b4 := pre1_bd w j
    rw [show (j : Int) + (n : Int) = ((j + n : Nat) : Int) by omega, show (i : Int) + (n : Int) = ((i + n : Nat) : Int) by omega, wr_nat (show j + n ≤ 4611686018427387904 by omega), wr_nat (show i + n ≤ 4611686018427387904 by omega)]
    refine ev_pos (by omega) (ev_pos (by omega) (ev_pos (by omega) (ev_pos (by omega) (ev_pos (by omega) (ev_pos (by omega) (ev_pos (by omega) (ev_pos (by omega) (ev_pos (by omega) ?_))))))))
    rw [sums_rd _ _ (i + n) (by omega), sums_rd _ _ i (by omega), sums_rd _ _ (j + n) (by omega), sums_rd _ _ j (by omega)]
    rw [wr (n := pre1 w (i + n) - pre1 w i) (by omega) (by omega), wr (n := pre1 w (i + n) - pre1 w i - pre1 w (j + n)) (by omega) (by omega), wr (n := pre1 w (i + n) - pre1 w i - pre1 w (j + n) + pre1 w j) (by omega) (by omega), wr1 (show (0 : Int) ≤ (j : Int) by omega) (by omega)]
    have hd : dif w n i j = pre1 w (i + n) - pre1 w i - pre1 w (j + n) + pre1 w j := rfl
    rw [← hd]
    simp only [sJ] at ht H
    refine ev_ite (fun h => ev_some ?_) (fun h => ev_ite (fun h' => ev_some ?_) (fun h' => ?_))
    · rw [if_pos (by simp [bad]; omega)] at ht
      exact ht _ rfl
    · rw [if_pos (by simp [bad]; omega)] at ht
      exact ht _ rfl
    · rw [if_neg (by simp [bad]; omega)] at ht H
      exact ih (j + 1) (by omega) H ht
theorem unb_l2 (w : List Int) (n : Nat) (hn : w.length ≤ 1000000) (h1 : 1 ≤ n) (R : Int × Int × Int × Bool) (d : Nat) :
    ∀ i : Nat, i + n + d = w.length + 1 → (sI w n d i = none → Ev (fun k => impl_unbalanced.l1 k w (sums w (w.length + 1)) ((n + 1 : Nat) : Int)) R) → (∀ t, sI w n d i = some t → ubTell (some t) = R) →
    Ev (fun k => impl_unbalanced.l2 k w (sums w (w.length + 1)) (n : Int) (i : Int)) R := by
  induction d with
  | zero =>
    intro i hi H ht
    refine ev_succ ?_
    simp only [impl_unbalanced.l2]
    rw [wr (n := (i : Int) + n) (by omega) (by omega), wr1 (show (0 : Int) ≤ (n : Int) by omega) (by omega)]
    exact ev_neg (by omega) (H rfl)
  | succ d ih =>
    intro i hi H ht
    refine ev_succ ?_
    simp only [impl_unbalanced.l2]
    rw [wr (n := (i : Int) + n) (by omega) (by omega), wr1 (show (0 : Int) ≤ (i : Int) by omega) (by omega)]
    refine ev_pos (by omega) ?_
    simp only [sI] at ht H
    refine unb_l3 w n i hn h1 (by omega) R (w.length - n - i) (i + 1) (by omega) (fun h => ?_) (fun t h => ?_)
    · rw [h] at ht H
      exact ih (i + 1) (by omega) H ht
    · rw [h] at ht
      exact ht _ rfl
theorem unb_l1 (w : List Int) (hn : w.length ≤ 1000000) (d : Nat) :
    ∀ n : Nat, 1 ≤ n → n + d = max w.length 1 → Ev (fun k => impl_unbalanced.l1 k w (sums w (w.length + 1)) (n : Int)) (ubTell (sN w d n)) := by
  induction d with
  | zero =>
    intro n h1 hd
    refine ev_succ ?_
    simp only [impl_unbalanced.l1]
    exact ev_neg (by omega) (ev_some rfl)
  | succ d ih =>
    intro n h1 hd
    refine ev_succ ?_
    simp only [impl_unbalanced.l1]
    refine ev_pos (by omega) ?_
    simp only [sN]
    have := ih (n + 1) (by omega) (by omega)
    refine unb_l2 w n hn h1 _ (w.length - n + 1) 0 (by omega) (fun h => ?_) (fun t h => ?_)
    · rw [h]; exact this
    · rw [h]
theorem impl_unbalanced_ev (w : List Int) (hn : w.length ≤ 1000000) : Ev (fun k => impl_unbalanced.f k w) (ubTell (ubFind w)) := by
  simp only [impl_unbalanced.f]
  refine unb_l0 w hn _ ?_ w.length 0 (by omega)
  exact unb_l1 w hn (w.length - 1) 1 (by omega) (by omega)


def isBal (w : List Int) : Bool := decide (w.length ≤ 64) && areL 2 w && (ubFind w).isNone
theorem ubTell_found (o : Option (Nat × Nat × Nat)) : (ubTell o).2.2.2 = o.isSome := by cases o <;> rfl
theorem impl_IsBalanced_ev (w : List Int) (hn : w.length ≤ 4611686018427387904) : Ev (fun k => impl_IsBalanced.f k w) (isBal w) := by
  simp only [impl_IsBalanced.f]
  unfold isBal
  refine ev_ite (fun h => ev_some ?_) (fun h => ?_)
  · rw [decide_eq_false (by omega)]; rfl
  · rw [decide_eq_true (by omega)]
    refine ev_bind (impl_areLetters_ev w 2 hn) (ev_ite (fun h' => ?_) (fun h' => ev_some ?_))
    · refine ev_bind (impl_unbalanced_ev w (by omega)) (ev_some ?_)
      rw [ubTell_found, h']
      cases ubFind w <;> rfl
    · rw [Bool.not_eq_true] at h'; rw [h']; rfl


theorem spec_IsWord_l0 (l : List Int) (m : Int) (hn : l.length ≤ 4611686018427387904) (d : Nat) : ∀ (i : Nat), i + d = l.length →
    Ev (fun k => spec_IsWord.l0 k l m (i : Int)) (areL m (l.drop i) && decide (1 ≤ m ∧ m ≤ 16) && decide ((l.length : Int) ≤ 400)) := by
  induction d with
  | zero =>
    intro i hi
    refine ev_succ ?_
    simp only [spec_IsWord.l0, l1In_eq, Option.bind_some]
    refine ev_neg (by omega) ?_
    rw [List.drop_of_length_le (by omega)]
    refine ev_ite (fun h => ev_some ?_) (fun h => ev_some ?_)
    · rw [h]; rfl
    · rw [Bool.not_eq_true] at h; rw [h]; rfl
  | succ d ih =>
    intro i hi
    refine ev_succ ?_
    simp only [spec_IsWord.l0, wr1 (show (0 : Int) ≤ (i : Int) by omega) (by omega)]
    refine ev_pos (by omega) (ev_pos (by omega) ?_)
    rw [drop_rd (by omega : i < l.length)]
    refine ev_ite (fun h => ev_some ?_) (fun h => ev_ite (fun h' => ev_some ?_) (fun h' => ev_eq (ih (i + 1) (by omega)) ?_))
    · simp only [areL, List.all_cons, decide_eq_false (show ¬ (0 ≤ rd l (i : Int) ∧ rd l (i : Int) < m) by omega), Bool.false_and]
    · simp only [areL, List.all_cons, decide_eq_false (show ¬ (0 ≤ rd l (i : Int) ∧ rd l (i : Int) < m) by omega), Bool.false_and]
    · simp only [areL, List.all_cons, decide_eq_true (show (0 ≤ rd l (i : Int) ∧ rd l (i : Int) < m) by omega), Bool.true_and]
theorem spec_IsWord_ev (l : List Int) (m : Int) (hn : l.length ≤ 4611686018427387904) : Ev (fun k => spec_IsWord.f k l m) (areL m l && decide (1 ≤ m ∧ m ≤ 16) && decide ((l.length : Int) ≤ 400)) := by
  simp only [spec_IsWord.f]
  exact spec_IsWord_l0 l m hn l.length 0 (by omega)


theorem cnt_part (w : List Int) (i n : Nat) : cnt 1 ((w.take (i + n)).drop i) = pre1 w (i + n) - pre1 w i := by
  have h : w.take (i + n) = w.take i ++ (w.take (i + n)).drop i := by
    conv => lhs; rw [← List.take_append_drop i (w.take (i + n))]
    rw [List.take_take, Nat.min_eq_left (by omega)]
  unfold pre1
  conv => rhs; rw [h]
  rw [cnt_append]; omega
def part (w : List Int) (i n : Nat) : List Int := (w.take (i + n)).drop i
def ubPair (w : List Int) : List Int × List Int × Bool := if w.length ≤ 64 then (match ubFind w with
  | none => ([], [], false)
  | some (n, i, j) => (part w i n, part w j n, true)) else ([], [], false)
theorem part_length (w : List Int) (i n : Nat) : (part w i n).length ≤ w.length := by
  simp only [part, List.length_drop, List.length_take]; omega
def ubOf (w : List Int) : Option (Nat × Nat × Nat) → List Int × List Int × Bool
  | none => ([], [], false)
  | some (n, i, j) => (part w i n, part w j n, true)
theorem spec_ub_l2 (w : List Int) (n i : Nat) (hn : w.length ≤ 64) (h1 : 1 ≤ n) (hi : i + n ≤ w.length) (R : List Int × List Int × Bool) (d : Nat) :
    ∀ j : Nat, j + n + d = w.length + 1 → (sJ w n i d j = none → Ev (fun k => spec_UnbalancedPair.l1 k w (n : Int) ((i + 1 : Nat) : Int)) R) → (∀ t, sJ w n i d j = some t → ubOf w (some t) = R) →
    Ev (fun k => spec_UnbalancedPair.l2 k w (n : Int) (i : Int) (j : Int)) R := by
  induction d with
  | zero =>
    intro j hj H ht
    refine ev_succ ?_
    simp only [spec_UnbalancedPair.l2]
    rw [wr (n := (j : Int) + n) (by omega) (by omega), wr1 (show (0 : Int) ≤ (i : Int) by omega) (by omega)]
    exact ev_neg (by omega) (H rfl)
  | succ d ih =>
    intro j hj H ht
    refine ev_succ ?_
    simp only [spec_UnbalancedPair.l2, Option.bind_some, List.nil_append, List.length_nil]
    have b1 := pre1_bd w (i + n)
    have b2 := pre1_bd w i
    have b3 := pre1_bd w (j + n)
    have b4 := pre1_bd w j
    rw [show (j : Int) + (n : Int) = ((j + n : Nat) : Int) by omega, show (i : Int) + (n : Int) = ((i + n : Nat) : Int) by omega, wr_nat (show j + n ≤ 4611686018427387904 by omega), wr_nat (show i + n ≤ 4611686018427387904 by omega)]
    simp only [Int.toNat_natCast]
    have l1 := part_length w i n
    have l2 := part_length w j n
    have c1 := cnt_part w i n
    have c2 := cnt_part w j n
    change cnt 1 (part w i n) = _ at c1
    change cnt 1 (part w j n) = _ at c2
    change Ev (fun k => if ((j + n : Nat) : Int) ≤ (w.length : Int) then (if 0 ≤ (i : Int) then (if (i : Int) ≤ ((i + n : Nat) : Int) then (if ((i + n : Nat) : Int) ≤ (w.length : Int) then ((spec_CountLetters.f k (part w i n) 1).bind fun t109 => (if 0 ≤ (j : Int) then (if (j : Int) ≤ ((j + n : Nat) : Int) then ((spec_CountLetters.f k (part w j n) 1).bind fun t111 => (if (wrap64 (t109 - t111)) > 1 then (if 0 + (part w i n).length < 17592186044416 then (if 0 + (part w j n).length < 17592186044416 then (some (part w i n, part w j n, true)) else (none)) else (none)) else (if (wrap64 (t111 - t109)) > 1 then (if 0 + (part w i n).length < 17592186044416 then (if 0 + (part w j n).length < 17592186044416 then (some (part w i n, part w j n, true)) else (none)) else (none)) else (spec_UnbalancedPair.l2 k w (n : Int) (i : Int) (wrap64 ((j : Int) + 1)))))) else (none)) else (none))) else (none)) else (none)) else (none)) else (spec_UnbalancedPair.l1 k w (n : Int) (wrap64 ((i : Int) + 1)))) R
    refine ev_pos (by omega) (ev_pos (by omega) (ev_pos (by omega) (ev_pos (by omega) (ev_bind (spec_CountLetters_ev (part w i n) 1 (by omega)) (ev_pos (by omega) (ev_pos (by omega) (ev_bind (spec_CountLetters_ev (part w j n) 1 (by omega)) ?_)))))))
    rw [c1, c2, wr (n := pre1 w (i + n) - pre1 w i - (pre1 w (j + n) - pre1 w j)) (by omega) (by omega), wr (n := pre1 w (j + n) - pre1 w j - (pre1 w (i + n) - pre1 w i)) (by omega) (by omega), wr1 (show (0 : Int) ≤ (j : Int) by omega) (by omega)]
    have hd : dif w n i j = pre1 w (i + n) - pre1 w i - pre1 w (j + n) + pre1 w j := rfl
    simp only [sJ] at ht H
    refine ev_ite (fun h => ?_) (fun h => ev_ite (fun h' => ?_) (fun h' => ?_))
    · refine ev_pos (by omega) (ev_pos (by omega) (ev_some ?_))
      rw [if_pos (by simp [bad]; omega)] at ht
      exact ht _ rfl
    · refine ev_pos (by omega) (ev_pos (by omega) (ev_some ?_))
      rw [if_pos (by simp [bad]; omega)] at ht
      exact ht _ rfl
    · rw [if_neg (by simp [bad]; omega)] at ht H
      exact ih (j + 1) (by omega) H ht
theorem spec_ub_l1 (w : List Int) (n : Nat) (hn : w.length ≤ 64) (h1 : 1 ≤ n) (R : List Int × List Int × Bool) (d : Nat) :
    ∀ i : Nat, i + n + d = w.length + 1 → (sI w n d i = none → Ev (fun k => spec_UnbalancedPair.l0 k w ((n + 1 : Nat) : Int)) R) → (∀ t, sI w n d i = some t → ubOf w (some t) = R) →
    Ev (fun k => spec_UnbalancedPair.l1 k w (n : Int) (i : Int)) R := by
  induction d with
  | zero =>
    intro i hi H ht
    refine ev_succ ?_
    simp only [spec_UnbalancedPair.l1]
    rw [wr (n := (i : Int) + n) (by omega) (by omega), wr1 (show (0 : Int) ≤ (n : Int) by omega) (by omega)]
    exact ev_neg (by omega) (H rfl)
  | succ d ih =>
    intro i hi H ht
    refine ev_succ ?_
    simp only [spec_UnbalancedPair.l1]
    rw [wr (n := (i : Int) + n) (by omega) (by omega), wr1 (show (0 : Int) ≤ (i : Int) by omega) (by omega)]
    refine ev_pos (by omega) ?_
    simp only [sI] at ht H
    refine spec_ub_l2 w n i hn h1 (by omega) R (w.length - n - i) (i + 1) (by omega) (fun h => ?_) (fun t h => ?_)
    · rw [h] at ht H
      exact ih (i + 1) (by omega) H ht
    · rw [h] at ht
      exact ht _ rfl
theorem spec_ub_l0 (w : List Int) (hn : w.length ≤ 64) (d : Nat) :
    ∀ n : Nat, 1 ≤ n → n + d = w.length + 1 → Ev (fun k => spec_UnbalancedPair.l0 k w (n : Int)) (ubOf w (sN w d n)) := by
  induction d with
  | zero =>
    intro n h1 hd
    refine ev_succ ?_
    simp only [spec_UnbalancedPair.l0]
    refine ev_neg (by omega) (ev_succ ?_)
    simp only [spec_UnbalancedPair.j1]
    exact ev_neg (by simp) (ev_some rfl)
  | succ d ih =>
    intro n h1 hd
    refine ev_succ ?_
    simp only [spec_UnbalancedPair.l0]
    refine ev_pos (by omega) (ev_succ ?_)
    simp only [spec_UnbalancedPair.j1]
    refine ev_pos (by simp; omega) ?_
    simp only [sN]
    have := ih (n + 1) (by omega) (by omega)
    refine spec_ub_l1 w n hn h1 _ (w.length - n + 1) 0 (by omega) (fun h => ?_) (fun t h => ?_)
    · rw [h]; exact this
    · rw [h]
theorem sN_last (w : List Int) (r : Nat) : ∀ n, n + r = w.length → 1 ≤ n → sN w (r + 1) n = sN w r n := by
  induction r with
  | zero =>
    intro n hn h1
    simp only [sN]
    rw [show w.length - n + 1 = 0 + 1 by omega]
    simp only [sI]
    rw [show w.length - n - 0 = 0 by omega]
    rfl
  | succ r ih =>
    intro n hn h1
    have := ih (n + 1) (by omega) (by omega)
    conv => lhs; unfold sN
    conv => rhs; unfold sN
    rw [this]
theorem ubFind_all (w : List Int) : sN w w.length 1 = ubFind w := by
  unfold ubFind
  cases hl : w.length with
  | zero => rfl
  | succ m =>
    rw [Nat.succ_sub_one]
    exact sN_last w m 1 (by omega) (by omega)
theorem ubPair_of (w : List Int) (h : w.length ≤ 64) : ubPair w = ubOf w (ubFind w) := by
  unfold ubPair
  rw [if_pos h]
  cases ubFind w <;> rfl
theorem spec_UnbalancedPair_ev (w : List Int) (hn : w.length ≤ 4611686018427387904) : Ev (fun k => spec_UnbalancedPair.f k w) (ubPair w) := by
  simp only [spec_UnbalancedPair.f]
  by_cases h : w.length ≤ 64
  · rw [ubPair_of w h, ← ubFind_all]
    exact spec_ub_l0 w h w.length 1 (by omega) (by omega)
  · unfold ubPair
    rw [if_neg h]
    refine ev_succ ?_
    simp only [spec_UnbalancedPair.l0]
    rw [decide_eq_false (by omega)]
    refine ev_pos (by omega) (ev_succ ?_)
    simp only [spec_UnbalancedPair.j1]
    exact ev_neg (by simp) (ev_some rfl)
theorem sJ_in (w : List Int) (n i : Nat) (r : Nat) : ∀ j t, j + n + r ≤ w.length + 1 → sJ w n i r j = some t → ∃ j', t = (n, i, j') ∧ j' + n ≤ w.length := by
  induction r with
  | zero => intro j t _ h; cases h
  | succ r ih =>
    intro j t hj h
    simp only [sJ] at h
    split at h
    · exact ⟨j, (Option.some.inj h).symm, by omega⟩
    · exact ih (j + 1) t (by omega) h
theorem sI_in (w : List Int) (n : Nat) (h1 : 1 ≤ n) (r : Nat) : ∀ i t, i + n + r ≤ w.length + 1 → sI w n r i = some t → ∃ i' j', t = (n, i', j') ∧ i' + n ≤ w.length ∧ j' + n ≤ w.length := by
  induction r with
  | zero => intro i t _ h; cases h
  | succ r ih =>
    intro i t hi h
    simp only [sI] at h
    split at h
    · rename_i t' ht
      obtain ⟨j', rfl, hj⟩ := sJ_in w n i _ _ _ (by omega) ht
      exact ⟨i, j', (Option.some.inj h).symm, by omega, hj⟩
    · exact ih (i + 1) t (by omega) h
theorem sN_in (w : List Int) (r : Nat) : ∀ n t, 1 ≤ n → n + r ≤ max w.length 1 → sN w r n = some t → ∃ n' i' j', t = (n', i', j') ∧ 1 ≤ n' ∧ i' + n' ≤ w.length ∧ j' + n' ≤ w.length := by
  induction r with
  | zero => intro n t _ _ h; cases h
  | succ r ih =>
    intro n t h1 hn h
    simp only [sN] at h
    split at h
    · rename_i t' ht
      obtain ⟨i', j', rfl, hi, hj⟩ := sI_in w n h1 _ _ _ (by omega) ht
      exact ⟨n, i', j', (Option.some.inj h).symm, h1, hi, hj⟩
    · exact ih (n + 1) t (by omega) (by omega) h
theorem ubFind_in (w : List Int) (t : Nat × Nat × Nat) (h : ubFind w = some t) : 1 ≤ t.1 ∧ t.2.1 + t.1 ≤ w.length ∧ t.2.2 + t.1 ≤ w.length := by
  obtain ⟨n, i, j, rfl, h1, h2, h3⟩ := sN_in w _ 1 t (by omega) (by omega) h
  exact ⟨h1, h2, h3⟩
theorem ubPair_length (w : List Int) (hn : w.length ≤ 1048576) : (ubPair w).1.length ≤ 1048576 ∧ (ubPair w).2.1.length ≤ 1048576 := by
  by_cases h : w.length ≤ 64
  · rw [ubPair_of w h]
    cases ubFind w with
    | none => simp [ubOf]
    | some t =>
      obtain ⟨n, i, j⟩ := t
      have l1 := part_length w i n
      have l2 := part_length w j n
      simp only [ubOf]; omega
  · unfold ubPair; rw [if_neg h]; simp


theorem spec_IsBalanced_ev (w : List Int) (hn : w.length ≤ 4611686018427387904) : Ev (fun k => spec_IsBalanced.f k w) (isBal w) := by
  simp only [spec_IsBalanced.f]
  unfold isBal
  refine ev_bind (spec_UnbalancedPair_ev w hn) (ev_bind (spec_IsWord_ev w 2 hn) (ev_ite (fun h => ?_) (fun h => ev_some ?_)))
  · simp only [Bool.and_eq_true] at h
    refine ev_ite (fun h6 => ev_some ?_) (fun h6 => ev_some ?_)
    · rw [ubPair_of w (by omega), decide_eq_true (by omega), h.1.1]
      cases ubFind w <;> rfl
    · rw [decide_eq_false (by omega)]; rfl
  · by_cases h6 : w.length ≤ 64
    · rw [decide_eq_true (show (1 : Int) ≤ 2 ∧ (2 : Int) ≤ 16 by omega), decide_eq_true (show (w.length : Int) ≤ 400 by omega), Bool.and_true, Bool.and_true, Bool.not_eq_true] at h
      rw [h]; simp
    · rw [decide_eq_false (by omega)]; rfl


def allW : Nat → List (List Int)
  | 0 => [[]]
  | n + 1 => (allW n).flatMap fun w => [w ++ [0], w ++ [1]]
theorem allW_len (n : Nat) : ∀ w ∈ allW n, w.length = n := by
  induction n with
  | zero => intro w h; simp only [allW, List.mem_cons, List.not_mem_nil, or_false] at h; subst h; rfl
  | succ n ih =>
    intro w h
    simp only [allW, List.mem_flatMap, List.mem_cons, List.not_mem_nil, or_false] at h
    obtain ⟨u, hu, hw⟩ := h
    have := ih u hu
    rcases hw with rfl | rfl <;> simp [this]
theorem flat2_len (l : List (List Int)) : (l.flatMap fun w => [w ++ [0], w ++ [1]]).length = 2 * l.length := by
  induction l with
  | nil => rfl
  | cons x l ih => rw [List.flatMap_cons, List.length_append, ih]; simp; omega
theorem allW_card (n : Nat) : (allW n).length = 2 ^ n := by
  induction n with
  | zero => rfl
  | succ n ih => rw [allW, flat2_len, ih, Nat.pow_succ]; omega
theorem rdLL_get {l : List (List Int)} {i : Nat} (h : i < l.length) : rd_L1 l (i : Int) = l[i] := by
  simp [rd_L1, List.getD_eq_getElem?_getD, List.getElem?_eq_getElem h]
theorem aw_l2 (acc : List (List Int)) (w : List Int) (a b : Int) (ws : List (List Int)) (i : Nat) (R : List (List Int)) (hw : w.length ≤ 100) (ha : acc.length ≤ 1000) (hi : i < 1000)
    (H : Ev (fun k => impl_allWords.l1 k 2 (acc ++ [w ++ [0], w ++ [1]]) a b ws (ws.length : Int) ((i + 1 : Nat) : Int)) R) : Ev (fun k => impl_allWords.l2 k 2 acc w a b ws (ws.length : Int) (i : Int) 2 0) R := by
  refine ev_succ ?_
  simp only [impl_allWords.l2, Option.bind_some, List.nil_append]
  refine ev_pos (by omega) (ev_pos (by simp only [List.length_nil]; omega) (ev_pos (by omega) (ev_pos (by omega) ?_)))
  rw [show wrap64 (0 + 1) = 1 by decide +kernel]
  refine ev_succ ?_
  simp only [impl_allWords.l2, Option.bind_some, List.nil_append]
  refine ev_pos (by omega) (ev_pos (by simp only [List.length_nil]; omega) (ev_pos (by omega) (ev_pos (by simp only [List.length_append, List.length_cons, List.length_nil]; omega) ?_)))
  rw [show wrap64 (1 + 1) = 2 by decide +kernel]
  refine ev_succ ?_
  simp only [impl_allWords.l2]
  rw [wr1 (show (0 : Int) ≤ (i : Int) by omega) (by omega)]
  refine ev_neg (by omega) ?_
  rw [List.append_assoc]
  exact H
theorem aw_l1 (a b : Int) (ws : List (List Int)) (hws : ws.length ≤ 256) (hl : ∀ w ∈ ws, w.length ≤ 100) (R : List (List Int))
    (H : Ev (fun k => impl_allWords.l0 k 2 (ws.flatMap fun w => [w ++ [0], w ++ [1]]) a (wrap64 (b + 1))) R) (d : Nat) : ∀ i : Nat, i + d = ws.length →
    Ev (fun k => impl_allWords.l1 k 2 ((ws.take i).flatMap fun w => [w ++ [0], w ++ [1]]) a b ws (ws.length : Int) (i : Int)) R := by
  induction d with
  | zero =>
    intro i hi
    refine ev_succ ?_
    simp only [impl_allWords.l1]
    refine ev_neg (by omega) ?_
    rw [List.take_of_length_le (by omega)]
    exact H
  | succ d ih =>
    intro i hi
    have := ih (i + 1) (by omega)
    refine ev_succ ?_
    simp only [impl_allWords.l1]
    refine ev_pos (by omega) (ev_pos (by omega) (ev_pos (by omega) ?_))
    have hb : (ws.take i).length ≤ 256 := Nat.le_trans (List.length_take_le _ _) (by omega)
    refine aw_l2 _ _ a b ws i R ?_ (by rw [flat2_len]; omega) (by omega) ?_
    · rw [rdLL_get (by omega)]; exact hl _ (List.getElem_mem _)
    · rw [List.take_succ_eq_append_getElem (by omega), List.flatMap_append, ← rdLL_get (by omega)] at this
      simpa using this
theorem aw_l0 (n : Nat) (hn : n ≤ 8) (d : Nat) : ∀ i : Nat, i + d = n → Ev (fun k => impl_allWords.l0 k 2 (allW i) (n : Int) (i : Int)) (allW n) := by
  induction d with
  | zero =>
    intro i hi
    refine ev_succ ?_
    simp only [impl_allWords.l0]
    exact ev_neg (by omega) (ev_some (by rw [show i = n by omega]))
  | succ d ih =>
    intro i hi
    have := ih (i + 1) (by omega)
    refine ev_succ ?_
    simp only [impl_allWords.l0]
    refine ev_pos (by omega) ?_
    have hc : (allW i).length ≤ 256 := by rw [allW_card]; exact Nat.pow_le_pow_right (n := 2) (by omega) (show i ≤ 8 by omega)
    refine aw_l1 _ _ (allW i) hc (fun w hw => by rw [allW_len i w hw]; omega) _ ?_ (allW i).length 0 (by omega)
    rw [wr1 (by omega) (by omega)]
    exact this
theorem impl_allWords_ev (n : Nat) (hn : n ≤ 8) : Ev (fun k => impl_allWords.f k 2 (n : Int)) (allW n) := by
  simp only [impl_allWords.f]
  exact aw_l0 n hn n 0 (by omega)
def cntBal : List (List Int) → Int
  | [] => 0
  | w :: l => (if isBal w = true then 1 else 0) + cntBal l
theorem impl_CountBalanced_l0 (ws : List (List Int)) (hws : ws.length ≤ 256) (hl : ∀ w ∈ ws, w.length ≤ 100) (d : Nat) : ∀ (i : Nat) (s : Int), i + d = ws.length → 0 ≤ s → s ≤ i →
    Ev (fun k => impl_CountBalanced.l0 k s ws (ws.length : Int) (i : Int)) (s + cntBal (ws.drop i)) := by
  induction d with
  | zero =>
    intro i s hi h0 h1
    refine ev_succ ?_
    simp only [impl_CountBalanced.l0]
    refine ev_neg (by omega) (ev_some ?_)
    rw [List.drop_of_length_le (by omega)]; simp [cntBal]
  | succ d ih =>
    intro i s hi h0 h1
    refine ev_succ ?_
    simp only [impl_CountBalanced.l0, oneIf_eq]
    rw [rdLL_get (by omega), wr1 (by omega) (by omega), List.drop_eq_getElem_cons (by omega)]
    have := hl _ (List.getElem_mem (show i < ws.length by omega))
    refine ev_pos (by omega) (ev_pos (by omega) (ev_pos (by omega) (ev_bind (impl_IsBalanced_ev _ (by omega)) ?_)))
    simp only [Option.bind_some, cntBal]
    rw [wr (n := s + _) (by split <;> omega) (by split <;> omega), ← Int.add_assoc]
    exact ih (i + 1) _ (by omega) (by split <;> omega) (by split <;> omega)
def cbRes (n : Int) : Int := if 0 ≤ n ∧ n ≤ 8 then cntBal (allW n.toNat) else -1
theorem impl_CountBalanced_ev (n : Int) : Ev (fun k => impl_CountBalanced.f k n) (cbRes n) := by
  simp only [impl_CountBalanced.f]
  unfold cbRes
  have no : ¬ (0 ≤ n ∧ n ≤ 8) → Ev (fun k => impl_CountBalanced.j0 k n true) (if 0 ≤ n ∧ n ≤ 8 then cntBal (allW n.toNat) else -1) := by
    intro h
    refine ev_succ ?_
    simp only [impl_CountBalanced.j0]
    exact ev_pos trivial (ev_some (by rw [if_neg h]))
  refine ev_ite (fun h => no (by omega)) (fun h => ?_)
  by_cases h8 : n > 8
  · rw [decide_eq_true h8]; exact no (by omega)
  · rw [decide_eq_false h8, if_pos (by omega)]
    obtain ⟨m, rfl⟩ := Int.eq_ofNat_of_zero_le (show 0 ≤ n by omega)
    rw [Int.toNat_natCast]
    refine ev_succ ?_
    simp only [impl_CountBalanced.j0]
    refine ev_neg (by simp) (ev_bind (impl_allWords_ev m (by omega)) ?_)
    have hc : (allW m).length ≤ 256 := by rw [allW_card]; exact Nat.pow_le_pow_right (n := 2) (by omega) (show m ≤ 8 by omega)
    exact ev_eq (impl_CountBalanced_l0 (allW m) hc (fun w hw => by rw [allW_len m w hw]; omega) (allW m).length 0 0 (by omega) (by omega) (by omega)) (by simp)
def wordOf : Nat → Nat → List Int
  | 0, _ => []
  | n + 1, c => wordOf n (c / 2) ++ [((c % 2 : Nat) : Int)]
theorem wordOf_len (n : Nat) : ∀ c, (wordOf n c).length = n := by
  induction n with
  | zero => intro c; rfl
  | succ n ih => intro c; simp [wordOf, ih]
theorem l11_l0 (n : Nat) (hn : n ≤ 8) : ∀ (i c : Nat) (suf : List Int), i + suf.length = n → c ≤ 1000 → Ev (fun k => spec_l11Word.l0 k 2 (c : Int) (List.replicate i 0 ++ suf) ((i : Int) - 1)) (wordOf i c ++ suf) := by
  intro i
  induction i with
  | zero =>
    intro c suf hi hc
    refine ev_succ ?_
    simp only [spec_l11Word.l0]
    exact ev_neg (by omega) (ev_some (by simp [wordOf]))
  | succ i ih =>
    intro c suf hi hc
    have := ih (c / 2) (((c % 2 : Nat) : Int) :: suf) (by simp; omega) (by omega)
    refine ev_succ ?_
    simp only [spec_l11Word.l0]
    rw [show ((i + 1 : Nat) : Int) - 1 = (i : Int) by omega, show (2 : Int) = ((2 : Nat) : Int) from rfl, tdiv_nat, tmod_nat, wr_nat (by omega), Int.toNat_natCast, wr (n := (i : Int) - 1) (by omega) (by omega)]
    refine ev_pos (by omega) (ev_neg (by omega) (ev_pos (by omega) (ev_pos (by simp; omega) ?_)))
    have e : (List.replicate (i + 1) (0 : Int) ++ suf).set i (((c % 2 : Nat) : Int)) = List.replicate i 0 ++ (((c % 2 : Nat) : Int)) :: suf := by
      rw [List.replicate_succ', List.append_assoc, List.set_append_right _ _ (by simp)]
      simp
    rw [e]
    simpa [wordOf] using this
theorem spec_l11Word_ev (n c : Nat) (hn : n ≤ 8) (hc : c ≤ 1000) : Ev (fun k => spec_l11Word.f k 2 (n : Int) (c : Int)) (wordOf n c) := by
  simp only [spec_l11Word.f]
  rw [Int.toNat_natCast, wr (n := (n : Int) - 1) (by omega) (by omega)]
  refine ev_pos (by omega) (ev_pos (by omega) ?_)
  have := l11_l0 n hn n c [] (by simp) hc
  simpa using this
theorem shl_pow (n : Nat) (hn : n ≤ 8) : shl .i64 1 (n : Int) = ((2 ^ n : Nat) : Int) := by
  have : n = 0 ∨ n = 1 ∨ n = 2 ∨ n = 3 ∨ n = 4 ∨ n = 5 ∨ n = 6 ∨ n = 7 ∨ n = 8 := by omega
  rcases this with rfl | rfl | rfl | rfl | rfl | rfl | rfl | rfl | rfl <;> decide
theorem spec_CountBalanced_l0 (n : Nat) (hn : n ≤ 8) (d : Nat) : ∀ (c : Nat) (s : Int), c + d = 2 ^ n → 0 ≤ s → s ≤ c →
    Ev (fun k => spec_CountBalanced.l0 k (n : Int) s (c : Int)) (s + cntBal ((List.range' c d).map (wordOf n))) := by
  have h2 : 2 ^ n ≤ 256 := Nat.pow_le_pow_right (n := 2) (by omega) (show n ≤ 8 by omega)
  induction d with
  | zero =>
    intro c s hc h0 h1
    refine ev_succ ?_
    simp only [spec_CountBalanced.l0, shl_pow n hn]
    exact ev_pos (by omega) (ev_neg (by omega) (ev_some (by simp [cntBal])))
  | succ d ih =>
    intro c s hc h0 h1
    refine ev_succ ?_
    simp only [spec_CountBalanced.l0, shl_pow n hn, wr1 (show (0 : Int) ≤ (c : Int) by omega) (by omega), wr1 h0 (by omega)]
    refine ev_pos (by omega) (ev_pos (by omega) (ev_bind (spec_l11Word_ev n c hn (by omega)) (ev_bind (spec_IsBalanced_ev _ (by rw [wordOf_len]; omega)) ?_)))
    rw [List.range'_succ, List.map_cons]
    simp only [cntBal]
    refine ev_ite (fun h => ev_eq (ih (c + 1) (s + 1) (by omega) (by omega) (by omega)) ?_) (fun h => ev_eq (ih (c + 1) s (by omega) (by omega) (by omega)) ?_)
    · rw [if_pos h]; omega
    · rw [if_neg h]; omega
set_option maxRecDepth 100000 in
theorem allW_words : ∀ n : Nat, n < 9 → (List.range' 0 (2 ^ n)).map (wordOf n) = allW n := by decide +kernel
theorem spec_CountBalanced_ev (n : Int) : Ev (fun k => spec_CountBalanced.f k n) (cbRes n) := by
  simp only [spec_CountBalanced.f, l1In_eq, Option.bind_some]
  unfold cbRes
  by_cases h : 0 ≤ n ∧ n ≤ 8
  · rw [if_pos h]
    obtain ⟨m, rfl⟩ := Int.eq_ofNat_of_zero_le h.1
    rw [Int.toNat_natCast, ← allW_words m (by omega)]
    refine ev_pos (by simpa using h) (ev_eq (spec_CountBalanced_l0 m (by omega) (2 ^ m) 0 0 (by omega) (by omega) (by omega)) (by simp))
  · rw [if_neg h]
    exact ev_neg (by simpa using h) (ev_some rfl)


-- SAY: For every number the program's CountBalanced answers what the reference's answers. No conditions beyond the given statement.
theorem FnExactCountBalanced : laws_FnExactCountBalanced.Pure := by
  intro n hn
  refine Ev.rounds (g := fun k => laws_FnExactCountBalanced.f k n) ?_
  simp only [laws_FnExactCountBalanced.f]
  exact ev_bind (spec_CountBalanced_ev n) (ev_bind (impl_CountBalanced_ev n) (ev_pos rfl (ev_some rfl)))


end Go.Proofs.Ytdhefbmlkjhknaa.Pure
