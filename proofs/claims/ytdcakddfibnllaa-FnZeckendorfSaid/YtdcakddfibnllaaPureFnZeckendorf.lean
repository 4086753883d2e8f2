/- For every code the law of Zeckendorf forms holds: each number has exactly one form, forms are ordered as their numbers, and sums of forms are forms of sums. No conditions beyond the given statement. -/
import Derived.Test.YtdcakddfibnllaaPFnZeckendorfx7
import Derived.Test.YtdcakddfibnllaaWSized
set_option linter.unusedVariables false
set_option linter.unusedSimpArgs false
namespace Go.Proofs.Ytdcakddfibnllaa.Pure
open Go.RowKit Go.Proofs.Ytdcakddfibnllaa.PFnZeckendorf Go.Proofs.YtdcakddfibnllaaW.PrintWords Go.Proofs.YtdcakddfibnllaaW.PrintLast

theorem ev_succ {α : Type} {g : Nat → Option α} {r : α} (h : Ev (fun k => g (k + 1)) r) : Ev g r := Ev.step (fun _ => rfl) h
theorem ev_some {α : Type} {r r' : α} (h : r = r') : Ev (fun _ => some r) r' := by subst h; exact Ev.now r
theorem ev_pos {α : Type} {c : Prop} [Decidable c] {g f : Nat → Option α} {r : α} (hc : c) (h : Ev g r) : Ev (fun k => if c then g k else f k) r := by
  simp only [if_pos hc]; exact h
theorem ev_neg {α : Type} {c : Prop} [Decidable c] {g f : Nat → Option α} {r : α} (hc : ¬ c) (h : Ev f r) : Ev (fun k => if c then g k else f k) r := by
  simp only [if_neg hc]; exact h
theorem ev_ite {α : Type} {c : Prop} [Decidable c] {g f : Nat → Option α} {r : α} (h : c → Ev g r) (h' : ¬ c → Ev f r) : Ev (fun k => if c then g k else f k) r := by
  by_cases hc : c
  · exact ev_pos hc (h hc)
  · exact ev_neg hc (h' hc)
theorem ev_bind {α β : Type} {g : Nat → Option α} {f : Nat → α → Option β} {a : α} {r : β} (h : Ev g a) (k : Ev (fun n => f n a) r) : Ev (fun n => (g n).bind (f n)) r := Ev.bind h k
theorem ev_bind0 {α β : Type} {o : Option α} {f : Nat → α → Option β} {a : α} {r : β} (h : o = some a) (k : Ev (fun n => f n a) r) : Ev (fun n => o.bind (f n)) r := by
  subst h; exact k
theorem ev_eq {α : Type} {g : Nat → Option α} {r r' : α} (h : Ev g r) (e : r = r') : Ev g r' := e ▸ h
theorem ev_const {α : Type} {o : Option α} {r : α} (h : o = some r) : Ev (fun _ => o) r := by subst h; exact Ev.now r
theorem wr {n : Int} (h0 : -9223372036854775808 ≤ n) (h1 : n ≤ 9223372036854775807) : wrap64 n = n := by unfold wrap64; omega
theorem wr1 {i : Int} (h0 : 0 ≤ i) (h1 : i ≤ 4611686018427387904) : wrap64 (i + 1) = i + 1 := wr (by omega) (by omega)
theorem wr_nat {n : Nat} (h : n ≤ 4611686018427387904) : wrap64 (n : Int) = n := wr (by omega) (by omega)
theorem rd_nat (l : List Int) (i : Nat) : rd l (i : Int) = l.getD i 0 := by simp [rd]
theorem rd_get {l : List Int} {i : Nat} (h : i < l.length) : rd l (i : Int) = l[i] := by
  simp [rd, List.getD_eq_getElem?_getD, List.getElem?_eq_getElem h]
theorem drop_rd {l : List Int} {i : Nat} (h : i < l.length) : l.drop i = rd l (i : Int) :: l.drop (i + 1) := by
  rw [rd_get h]; exact List.drop_eq_getElem_cons h
theorem rd_mem {l : List Int} {i : Nat} (h : i < l.length) : rd l (i : Int) ∈ l := by rw [rd_get h]; exact List.getElem_mem h


theorem big_eq (l : List Int) : laws_big.f l = some (decide ((l.length : Int) > 1048576)) := by simp only [laws_big.f]


theorem laws_sameInts_l0 (a b : List Int) (hl : a.length = b.length) (hn : a.length ≤ 4611686018427387904) (d : Nat) : ∀ (i : Nat), i + d = a.length → Ev (fun k => laws_sameInts.l0 k a b (i : Int)) (decide (a.drop i = b.drop i)) := by
  induction d with
  | zero =>
    intro i hi
    refine ev_succ ?_
    simp only [laws_sameInts.l0]
    refine ev_neg (by omega) (ev_some ?_)
    rw [List.drop_of_length_le (by omega), List.drop_of_length_le (by omega)]; rfl
  | succ d ih =>
    intro i hi
    refine ev_succ ?_
    simp only [laws_sameInts.l0, wr1 (show (0 : Int) ≤ (i : Int) by omega) (by omega)]
    rw [drop_rd (by omega : i < a.length), drop_rd (by omega : i < b.length)]
    refine ev_pos (by omega) (ev_pos (by omega) (ev_pos (by omega) (ev_ite (fun h => ev_eq (ih (i + 1) (by omega)) ?_) (fun h => ev_some ?_))))
    · rw [h]; simp
    · simp [h]
theorem laws_sameInts_ev (a b : List Int) (hn : a.length ≤ 4611686018427387904) : Ev (fun k => laws_sameInts.f k a b) (decide (a = b)) := by
  simp only [laws_sameInts.f]
  refine ev_ite (fun h => ev_eq (laws_sameInts_l0 a b (by omega) hn a.length 0 (by omega)) (by simp)) (fun h => ev_some ?_)
  symm
  simp only [decide_eq_false_iff_not]
  rintro rfl
  exact h rfl
theorem sameInts_refl (a : List Int) (hn : a.length ≤ 4611686018427387904) : Ev (fun k => laws_sameInts.f k a a) true := ev_eq (laws_sameInts_ev a a hn) (by simp)


theorem l1In_eq (a b c : Int) : spec_l1In.f a b c = some (decide (b ≤ a ∧ a ≤ c)) := by
  unfold spec_l1In.f
  by_cases h : a ≥ b
  · rw [if_pos h]; simp [show b ≤ a from h]
  · rw [if_neg h]; simp [show ¬ b ≤ a from h]


def fp : Nat → Int × Int
  | 0 => (1, 2)
  | n + 1 => ((fp n).2, (fp n).1 + (fp n).2)
def fibs : List Int := [1, 2, 3, 5, 8, 13, 21, 34, 55, 89, 144, 233, 377, 610, 987, 1597, 2584, 4181, 6765, 10946, 17711, 28657, 46368, 75025, 121393, 196418, 317811, 514229, 832040, 1346269, 2178309, 3524578, 5702887, 9227465, 14930352, 24157817, 39088169, 63245986, 102334155, 165580141, 267914296]
theorem fibs_all : ∀ k : Fin 41, rd fibs ((k.val : Nat) : Int) = (fp k.val).1 := by decide +kernel
theorem fibs_at {k : Nat} (h : k < 41) : rd fibs (k : Int) = (fp k).1 := fibs_all ⟨k, h⟩
theorem fp_all : ∀ k : Fin 41, 0 < (fp k.val).1 ∧ (fp k.val).1 < 1000000000 ∧ 0 < (fp k.val).2 ∧ (fp k.val).2 < 1000000000 := by decide +kernel
theorem fp_bound {k : Nat} (h : k < 41) : 0 < (fp k).1 ∧ (fp k).1 < 1000000000 ∧ 0 < (fp k).2 ∧ (fp k).2 < 1000000000 := fp_all ⟨k, h⟩
theorem fp_40 : (fp 40).1 = 267914296 := by decide +kernel
theorem spec_FibonacciNumber_l0 (k : Nat) (hk : k ≤ 40) (d : Nat) : ∀ (i : Nat), i + d = k → Ev (fun m => spec_FibonacciNumber.l0 m (k : Int) (fp i).1 (fp i).2 (i : Int)) (fp k).1 := by
  induction d with
  | zero =>
    intro i hi
    obtain rfl : i = k := by omega
    refine ev_succ ?_
    simp only [spec_FibonacciNumber.l0]
    exact ev_neg (by omega) (ev_some rfl)
  | succ d ih =>
    intro i hi
    have hb := fp_bound (k := i) (by omega)
    refine ev_succ ?_
    simp only [spec_FibonacciNumber.l0]
    rw [wr1 (by omega) (by omega), wr (show -9223372036854775808 ≤ (fp i).1 + (fp i).2 by omega) (by omega), show ((i : Int) + 1) = ((i + 1 : Nat) : Int) by omega]
    exact ev_pos (by omega) (ih (i + 1) (by omega))
theorem spec_FibonacciNumber_ev (k : Nat) (hk : k ≤ 40) : Ev (fun m => spec_FibonacciNumber.f m (k : Int)) (fp k).1 := by
  simp only [spec_FibonacciNumber.f, l1In_eq, Option.bind_some]
  exact ev_pos (by simp; omega) (spec_FibonacciNumber_l0 k hk k 0 (by omega))
def zk : Nat → Int → List Int → List Int
  | 0, _, acc => acc
  | j + 1, n, acc => if (fp j).1 ≤ n then zk j (n - (fp j).1) (acc ++ [1]) else if 0 < acc.length then zk j n (acc ++ [0]) else zk j n acc
theorem zk_bits : ∀ (j : Nat) (n : Int) (acc : List Int), (∀ x ∈ acc, x = 0 ∨ x = 1) → ∀ x ∈ zk j n acc, x = 0 ∨ x = 1
  | 0, _, _, h => h
  | j + 1, n, acc, h => by
    unfold zk
    split
    · exact zk_bits j _ _ (by intro x hx; rcases List.mem_append.1 hx with h1 | h1; exact h x h1; simp at h1; exact .inr h1)
    · split
      · exact zk_bits j _ _ (by intro x hx; rcases List.mem_append.1 hx with h1 | h1; exact h x h1; simp at h1; exact .inl h1)
      · exact zk_bits j _ _ h
theorem zk_length : ∀ (j : Nat) (n : Int) (acc : List Int), (zk j n acc).length ≤ acc.length + j
  | 0, _, _ => by simp [zk]
  | j + 1, n, acc => by
    unfold zk
    split
    · have := zk_length j (n - (fp j).1) (acc ++ [1]); simp at this; omega
    · split
      · have := zk_length j n (acc ++ [0]); simp at this; omega
      · have := zk_length j n acc; omega
theorem spec_ZeckendorfOf_l0 (j : Nat) : ∀ (n : Int) (acc : List Int), j ≤ 40 → 0 ≤ n → n ≤ 1000000000 → acc.length + j ≤ 100 → Ev (fun m => spec_ZeckendorfOf.l0 m n acc ((j : Int) - 1)) (zk j n acc) := by
  induction j with
  | zero =>
    intro n acc _ _ _ _
    refine ev_succ ?_
    simp only [spec_ZeckendorfOf.l0]
    exact ev_neg (by omega) (ev_some (by simp [zk]))
  | succ j ih =>
    intro n acc hj h0 h1 ha
    have hb := fp_bound (k := j) (by omega)
    have he : ((j + 1 : Nat) : Int) - 1 = (j : Int) := by omega
    have hw : wrap64 ((j : Int) - 1) = (j : Int) - 1 := wr (by omega) (by omega)
    refine ev_succ ?_
    simp only [spec_ZeckendorfOf.l0, he, hw]
    refine ev_pos (by omega) (ev_bind (spec_FibonacciNumber_ev j (by omega)) ?_)
    unfold zk
    by_cases h : (fp j).1 ≤ n
    · rw [if_pos h]
      refine ev_pos h (ev_bind (spec_FibonacciNumber_ev j (by omega)) (ev_pos (by omega) ?_))
      rw [wr (show -9223372036854775808 ≤ n - (fp j).1 by omega) (by omega)]
      exact ih _ _ (by omega) (by omega) (by omega) (by simp; omega)
    · rw [if_neg h]
      refine ev_neg h ?_
      by_cases h2 : 0 < acc.length
      · rw [if_pos h2]
        exact ev_pos (by omega) (ev_pos (by omega) (ih _ _ (by omega) h0 h1 (by simp; omega)))
      · rw [if_neg h2]
        exact ev_neg (by omega) (ih _ _ (by omega) h0 h1 (by omega))
theorem impl_ZeckendorfOf_l0 (j : Nat) : ∀ (n : Int) (acc : List Int), j ≤ 40 → 0 ≤ n → n ≤ 1000000000 → acc.length + j ≤ 100 → Ev (fun m => impl_ZeckendorfOf.l0 m n acc fibs ((j : Int) - 1)) (zk j n acc) := by
  have hfl : fibs.length = 41 := rfl
  induction j with
  | zero =>
    intro n acc _ _ _ _
    refine ev_succ ?_
    simp only [impl_ZeckendorfOf.l0]
    exact ev_neg (by omega) (ev_some (by simp [zk]))
  | succ j ih =>
    intro n acc hj h0 h1 ha
    have hb := fp_bound (k := j) (by omega)
    have he : ((j + 1 : Nat) : Int) - 1 = (j : Int) := by omega
    have hw : wrap64 ((j : Int) - 1) = (j : Int) - 1 := wr (by omega) (by omega)
    refine ev_succ ?_
    simp only [impl_ZeckendorfOf.l0, he, hw, fibs_at (show j < 41 by omega)]
    refine ev_pos (by omega) (ev_pos (by omega) (ev_pos (by omega) ?_))
    unfold zk
    by_cases h : (fp j).1 ≤ n
    · rw [if_pos h]
      refine ev_pos h (ev_pos (by omega) ?_)
      rw [wr (show -9223372036854775808 ≤ n - (fp j).1 by omega) (by omega)]
      exact ih _ _ (by omega) (by omega) (by omega) (by simp; omega)
    · rw [if_neg h]
      refine ev_neg h ?_
      by_cases h2 : 0 < acc.length
      · rw [if_pos h2]
        exact ev_pos (by omega) (ev_pos (by omega) (ih _ _ (by omega) h0 h1 (by simp; omega)))
      · rw [if_neg h2]
        exact ev_neg (by omega) (ih _ _ (by omega) h0 h1 (by omega))
def zeckRes (n : Int) : List Int := if 0 ≤ n ∧ n < 267914296 then zk 40 n [] else []
theorem impl_hasForm_eq (n : Int) : impl_hasForm.f n = some (decide (0 ≤ n ∧ n < 267914296)) := by
  unfold impl_hasForm.f
  by_cases h : n ≥ 0
  · rw [if_pos h, show impl_FibonacciNumber.f 40 = some 267914296 by decide +kernel]
    simp [show 0 ≤ n from h]
  · rw [if_neg h]; simp [show ¬ 0 ≤ n from h]
theorem spec_ZeckendorfOf_ev (n : Int) : Ev (fun m => spec_ZeckendorfOf.f m n) (zeckRes n) := by
  simp only [spec_ZeckendorfOf.f, Option.bind_some]
  have no : ¬ (0 ≤ n ∧ n < 267914296) → Ev (fun m => spec_ZeckendorfOf.j0 m n [] true) (zeckRes n) := by
    intro h
    refine ev_succ ?_
    simp only [spec_ZeckendorfOf.j0]
    exact ev_pos trivial (ev_some (by unfold zeckRes; rw [if_neg h]))
  refine ev_ite (fun h => no (by omega)) (fun h => ev_bind (spec_FibonacciNumber_ev 40 (by omega)) ?_)
  rw [fp_40]
  by_cases h2 : n ≥ 267914296
  · rw [decide_eq_true h2]; exact no (by omega)
  · rw [decide_eq_false h2]
    refine ev_succ ?_
    simp only [spec_ZeckendorfOf.j0]
    refine ev_neg (by simp) ?_
    unfold zeckRes
    rw [if_pos ⟨by omega, by omega⟩]
    exact spec_ZeckendorfOf_l0 40 n [] (by omega) (by omega) (by omega) (by simp)
theorem impl_ZeckendorfOf_ev (n : Int) : Ev (fun m => impl_ZeckendorfOf.f m n) (zeckRes n) := by
  simp only [impl_ZeckendorfOf.f, Option.bind_some, impl_hasForm_eq]
  unfold zeckRes
  by_cases h : 0 ≤ n ∧ n < 267914296
  · rw [if_pos h]
    refine ev_pos (by simpa using h) ?_
    exact impl_ZeckendorfOf_l0 40 n [] (by omega) (by omega) (by omega) (by simp)
  · rw [if_neg h]
    exact ev_neg (by simpa using h) (ev_some rfl)
theorem zeckRes_length (n : Int) : (zeckRes n).length ≤ 40 := by
  unfold zeckRes
  split
  · have := zk_length 40 n []; simpa using this
  · simp
theorem zeckRes_bits (n : Int) : ∀ x ∈ zeckRes n, x = 0 ∨ x = 1 := by
  unfold zeckRes
  split
  · exact zk_bits 40 n [] (by simp)
  · simp


def zG (l : List Int) : Nat → Nat → Bool
  | _, 0 => true
  | i, n + 1 => decide (0 ≤ rd l (i : Int) ∧ rd l (i : Int) ≤ 1) && (!(decide (0 < i) && decide (rd l (i : Int) = 1) && decide (rd l ((i - 1 : Nat) : Int) = 1)) && zG l (i + 1) n)
theorem impl_IsZeckendorf_l0 (l : List Int) (hl : l.length ≤ 4611686018427387904) (d : Nat) : ∀ (i : Nat), i + d = l.length → Ev (fun k => impl_IsZeckendorf.l0 k l l (l.length : Int) (i : Int)) (zG l i d) := by
  induction d with
  | zero =>
    intro i hi
    refine ev_succ ?_
    simp only [impl_IsZeckendorf.l0]
    exact ev_neg (by omega) (ev_some rfl)
  | succ d ih =>
    intro i hi
    have hn := ih (i + 1) (by omega)
    refine ev_succ ?_
    simp only [impl_IsZeckendorf.l0]
    rw [wr1 (by omega) (by omega), show ((i : Int) + 1) = ((i + 1 : Nat) : Int) by omega]
    refine ev_pos (by omega) (ev_pos (by omega) (ev_pos (by omega) ?_))
    unfold zG
    by_cases h1 : rd l (i : Int) < 0
    · exact ev_pos h1 (ev_some (by rw [decide_eq_false (by omega)]; rfl))
    · refine ev_neg h1 ?_
      by_cases h2 : rd l (i : Int) > 1
      · exact ev_pos h2 (ev_some (by rw [decide_eq_false (by omega)]; rfl))
      · refine ev_neg h2 ?_
        rw [decide_eq_true (show 0 ≤ rd l (i : Int) ∧ rd l (i : Int) ≤ 1 by omega), Bool.true_and]
        by_cases h3 : 0 < i
        · refine ev_pos (by omega) ?_
          rw [decide_eq_true h3, Bool.true_and]
          by_cases h4 : rd l (i : Int) = 1
          · refine ev_pos h4 ?_
            rw [decide_eq_true h4, Bool.true_and, show wrap64 ((i : Int) - 1) = ((i - 1 : Nat) : Int) by rw [wr (by omega) (by omega)]; omega]
            refine ev_pos (by omega) (ev_pos (by omega) ?_)
            by_cases h5 : rd l ((i - 1 : Nat) : Int) = 1
            · exact ev_pos h5 (ev_some (by rw [decide_eq_true h5]; rfl))
            · refine ev_neg h5 (ev_eq hn ?_)
              rw [decide_eq_false h5]; rfl
          · refine ev_neg h4 (ev_eq hn ?_)
            rw [decide_eq_false h4]; rfl
        · refine ev_neg (by omega) (ev_eq hn ?_)
          rw [decide_eq_false h3]; rfl
theorem spec_IsZeckendorf_l0 (l : List Int) (hl : l.length ≤ 4611686018427387904) (d : Nat) : ∀ (i : Nat), 0 < i → i + d = l.length → Ev (fun k => spec_IsZeckendorf.l0 k l (i : Int)) (zG l i d && decide ((l.length : Int) ≤ 40)) := by
  induction d with
  | zero =>
    intro i h0 hi
    refine ev_succ ?_
    simp only [spec_IsZeckendorf.l0]
    exact ev_neg (by omega) (ev_some (by simp [zG]))
  | succ d ih =>
    intro i h0 hi
    have hn := ih (i + 1) (by omega) (by omega)
    refine ev_succ ?_
    simp only [spec_IsZeckendorf.l0, l1In_eq, Option.bind_some]
    rw [wr1 (by omega) (by omega), show ((i : Int) + 1) = ((i + 1 : Nat) : Int) by omega]
    refine ev_pos (by omega) (ev_pos (by omega) ?_)
    unfold zG
    by_cases h1 : 0 ≤ rd l (i : Int) ∧ rd l (i : Int) ≤ 1
    · rw [decide_eq_true h1, Bool.true_and, decide_eq_true h0, Bool.true_and]
      refine ev_pos rfl (ev_pos (by omega) ?_)
      by_cases h4 : rd l (i : Int) = 1
      · refine ev_pos h4 ?_
        rw [decide_eq_true h4, Bool.true_and, show wrap64 ((i : Int) - 1) = ((i - 1 : Nat) : Int) by rw [wr (by omega) (by omega)]; omega]
        refine ev_pos (by omega) (ev_pos (by omega) ?_)
        by_cases h5 : rd l ((i - 1 : Nat) : Int) = 1
        · exact ev_pos h5 (ev_some (by rw [decide_eq_true h5]; rfl))
        · refine ev_neg h5 (ev_neg (by omega) (ev_eq hn ?_))
          rw [decide_eq_false h5]; rfl
      · refine ev_neg h4 (ev_neg (by omega) (ev_eq hn ?_))
        rw [decide_eq_false h4]; rfl
    · rw [decide_eq_false h1]
      exact ev_neg (by simp) (ev_some (by simp))
def isZ (l : List Int) : Bool := decide (l.length ≤ 40) && (decide (l.length = 0) || decide (rd l 0 = 1)) && zG l 0 l.length
theorem impl_IsZeckendorf_ev (l : List Int) (hl : l.length ≤ 4611686018427387904) : Ev (fun k => impl_IsZeckendorf.f k l) (isZ l) := by
  simp only [impl_IsZeckendorf.f]
  unfold isZ
  have no : Ev (fun k => impl_IsZeckendorf.j0 k l true) false := by
    refine ev_succ ?_
    simp only [impl_IsZeckendorf.j0]
    exact ev_pos trivial (ev_some rfl)
  have yes : Ev (fun k => impl_IsZeckendorf.j0 k l false) (zG l 0 l.length) := by
    refine ev_succ ?_
    simp only [impl_IsZeckendorf.j0]
    exact ev_neg (by simp) (impl_IsZeckendorf_l0 l hl l.length 0 (Nat.zero_add _))
  by_cases h1 : l.length ≤ 40
  · refine ev_neg (by omega) ?_
    rw [decide_eq_true h1, Bool.true_and]
    by_cases h2 : l.length = 0
    · exact ev_neg (by omega) (ev_eq yes (by rw [decide_eq_true h2]; rfl))
    · refine ev_pos (by omega) (ev_pos (by omega) ?_)
      rw [decide_eq_false h2, Bool.false_or]
      by_cases h3 : rd l 0 = 1
      · rw [show (rd l 0 != 1) = false by simp [h3]]
        exact ev_eq yes (by rw [decide_eq_true h3]; rfl)
      · rw [show (rd l 0 != 1) = true by simp [h3]]
        exact ev_eq no (by rw [decide_eq_false h3]; rfl)
  · exact ev_pos (by omega) (ev_eq no (by rw [decide_eq_false h1]; rfl))
theorem spec_IsZeckendorf_ev (l : List Int) (hl : l.length ≤ 4611686018427387904) : Ev (fun k => spec_IsZeckendorf.f k l) (isZ l) := by
  simp only [spec_IsZeckendorf.f]
  refine ev_succ ?_
  simp only [spec_IsZeckendorf.l0, l1In_eq, Option.bind_some]
  unfold isZ
  by_cases h0 : l.length = 0
  · exact ev_neg (by omega) (ev_some (by simp [h0, zG]))
  · obtain ⟨n, hn⟩ : ∃ n, l.length = n + 1 := ⟨l.length - 1, by omega⟩
    have hs := spec_IsZeckendorf_l0 l hl n 1 (by omega) (by omega)
    have hd : decide ((l.length : Int) ≤ 40) = decide (l.length ≤ 40) := by simp only [decide_eq_decide]; omega
    rw [hd] at hs
    have hz : zG l 0 l.length = (decide (0 ≤ rd l 0 ∧ rd l 0 ≤ 1) && zG l 1 n) := by
      rw [hn]
      show (decide (0 ≤ rd l ((0 : Nat) : Int) ∧ rd l ((0 : Nat) : Int) ≤ 1) && (!(decide (0 < 0) && decide (rd l ((0 : Nat) : Int) = 1) && decide (rd l ((0 - 1 : Nat) : Int) = 1)) && zG l (0 + 1) n)) = _
      simp
    rw [hz, decide_eq_false h0, Bool.false_or]
    refine ev_pos (by omega) (ev_pos (by omega) ?_)
    have hw : wrap64 (0 + 1) = ((1 : Nat) : Int) := by rw [wr (by omega) (by omega)]; rfl
    rw [hw]
    by_cases h1 : 0 ≤ rd l 0 ∧ rd l 0 ≤ 1
    · refine ev_pos (by simpa using h1) (ev_neg (by omega) (ev_pos trivial (ev_pos (by omega) ?_)))
      rw [decide_eq_true h1, Bool.true_and]
      by_cases h2 : rd l 0 = 0
      · exact ev_pos h2 (ev_some (by rw [decide_eq_false (show ¬ rd l 0 = 1 by omega)]; simp))
      · refine ev_neg h2 (ev_eq hs ?_)
        rw [decide_eq_true (show rd l 0 = 1 by omega), Bool.and_true, Bool.and_comm]
    · refine ev_neg (by simpa using h1) (ev_some ?_)
      rw [decide_eq_false h1]; simp
def zv (l : List Int) : Nat → Nat → Int → Int
  | _, 0, acc => acc
  | i, n + 1, acc => zv l (i + 1) n (acc + rd l (i : Int) * (fp (l.length - 1 - i)).1)
theorem zG_cons {l : List Int} {i n : Nat} (h : zG l i (n + 1) = true) : (0 ≤ rd l (i : Int) ∧ rd l (i : Int) ≤ 1) ∧ zG l (i + 1) n = true := by
  unfold zG at h
  simp only [Bool.and_eq_true, decide_eq_true_eq] at h
  exact ⟨h.1, h.2.2⟩
theorem zv_term {l : List Int} {i : Nat} (hl : l.length ≤ 40) (h : 0 ≤ rd l (i : Int) ∧ rd l (i : Int) ≤ 1) : 0 ≤ rd l (i : Int) * (fp (l.length - 1 - i)).1 ∧ rd l (i : Int) * (fp (l.length - 1 - i)).1 ≤ 1000000000 := by
  have hb := fp_bound (k := l.length - 1 - i) (by omega)
  rcases (show rd l (i : Int) = 0 ∨ rd l (i : Int) = 1 by omega) with e | e <;> rw [e] <;> omega
theorem spec_ZeckendorfValue_l0 (l : List Int) (hl : l.length ≤ 40) (d : Nat) : ∀ (i : Nat) (acc : Int), i + d = l.length → zG l i d = true → 0 ≤ acc → acc ≤ 1000000000 * i → Ev (fun k => spec_ZeckendorfValue.l0 k l acc (i : Int)) (zv l i d acc) ∧ 0 ≤ zv l i d acc ∧ zv l i d acc ≤ 1000000000 * 40 := by
  induction d with
  | zero =>
    intro i acc hi hz h0 h1
    refine ⟨ev_succ ?_, h0, by simp only [zv]; omega⟩
    simp only [spec_ZeckendorfValue.l0]
    exact ev_neg (by omega) (ev_some rfl)
  | succ d ih =>
    intro i acc hi hz h0 h1
    obtain ⟨hd, hz2⟩ := zG_cons hz
    have ht := zv_term (i := i) hl hd
    have hn := ih (i + 1) (acc + rd l (i : Int) * (fp (l.length - 1 - i)).1) (by omega) hz2 (by omega) (by omega)
    refine ⟨ev_succ ?_, hn.2.1, hn.2.2⟩
    simp only [spec_ZeckendorfValue.l0]
    rw [wr1 (by omega) (by omega), show ((i : Int) + 1) = ((i + 1 : Nat) : Int) by omega, show wrap64 (wrap64 ((l.length : Int) - 1) - (i : Int)) = ((l.length - 1 - i : Nat) : Int) by rw [wr (show -9223372036854775808 ≤ (l.length : Int) - 1 by omega) (by omega), wr (by omega) (by omega)]; omega]
    refine ev_pos (by omega) (ev_pos (by omega) (ev_bind (spec_FibonacciNumber_ev (l.length - 1 - i) (by omega)) ?_))
    rw [wr (show -9223372036854775808 ≤ rd l (i : Int) * (fp (l.length - 1 - i)).1 by omega) (by omega), wr (show -9223372036854775808 ≤ acc + rd l (i : Int) * (fp (l.length - 1 - i)).1 by omega) (by omega)]
    exact hn.1
theorem impl_ZeckendorfValue_l0 (l : List Int) (hl : l.length ≤ 40) (d : Nat) : ∀ (i : Nat) (acc : Int), i + d = l.length → zG l i d = true → 0 ≤ acc → acc ≤ 1000000000 * i → Ev (fun k => impl_ZeckendorfValue.l0 k l fibs acc l (l.length : Int) (i : Int)) (zv l i d acc) := by
  have hfl : fibs.length = 41 := rfl
  induction d with
  | zero =>
    intro i acc hi hz h0 h1
    refine ev_succ ?_
    simp only [impl_ZeckendorfValue.l0]
    exact ev_neg (by omega) (ev_some rfl)
  | succ d ih =>
    intro i acc hi hz h0 h1
    obtain ⟨hd, hz2⟩ := zG_cons hz
    have ht := zv_term (i := i) hl hd
    have hn := ih (i + 1) (acc + rd l (i : Int) * (fp (l.length - 1 - i)).1) (by omega) hz2 (by omega) (by omega)
    refine ev_succ ?_
    simp only [impl_ZeckendorfValue.l0]
    rw [wr1 (by omega) (by omega), show ((i : Int) + 1) = ((i + 1 : Nat) : Int) by omega, show wrap64 (wrap64 ((l.length : Int) - 1) - (i : Int)) = ((l.length - 1 - i : Nat) : Int) by rw [wr (show -9223372036854775808 ≤ (l.length : Int) - 1 by omega) (by omega), wr (by omega) (by omega)]; omega]
    rw [fibs_at (show l.length - 1 - i < 41 by omega)]
    refine ev_pos (by omega) (ev_pos (by omega) (ev_pos (by omega) (ev_pos (by omega) (ev_pos (by omega) ?_))))
    rw [wr (show -9223372036854775808 ≤ rd l (i : Int) * (fp (l.length - 1 - i)).1 by omega) (by omega), wr (show -9223372036854775808 ≤ acc + rd l (i : Int) * (fp (l.length - 1 - i)).1 by omega) (by omega)]
    exact hn
def zVal (l : List Int) : Int := if isZ l = true then zv l 0 l.length 0 else -1
theorem isZ_parts {l : List Int} (h : isZ l = true) : l.length ≤ 40 ∧ zG l 0 l.length = true := by
  unfold isZ at h
  simp only [Bool.and_eq_true, decide_eq_true_eq] at h
  exact ⟨h.1.1, h.2⟩
theorem zVal_bound {l : List Int} (h : isZ l = true) : 0 ≤ zVal l ∧ zVal l ≤ 1000000000 * 40 := by
  obtain ⟨h1, h2⟩ := isZ_parts h
  unfold zVal
  rw [if_pos h]
  exact (spec_ZeckendorfValue_l0 l h1 l.length 0 0 (Nat.zero_add _) h2 (by omega) (by omega)).2
theorem spec_ZeckendorfValue_ev (l : List Int) (hl : l.length ≤ 4611686018427387904) : Ev (fun k => spec_ZeckendorfValue.f k l) (zVal l) := by
  simp only [spec_ZeckendorfValue.f]
  refine ev_bind (spec_IsZeckendorf_ev l hl) ?_
  unfold zVal
  by_cases h : isZ l = true
  · obtain ⟨h1, h2⟩ := isZ_parts h
    rw [if_pos h]
    exact ev_pos h (spec_ZeckendorfValue_l0 l h1 l.length 0 0 (Nat.zero_add _) h2 (by omega) (by omega)).1
  · rw [if_neg h]
    exact ev_neg h (ev_some rfl)
theorem impl_ZeckendorfValue_ev (l : List Int) (hl : l.length ≤ 4611686018427387904) : Ev (fun k => impl_ZeckendorfValue.f k l) (zVal l) := by
  simp only [impl_ZeckendorfValue.f]
  refine ev_bind (impl_IsZeckendorf_ev l hl) ?_
  unfold zVal
  by_cases h : isZ l = true
  · obtain ⟨h1, h2⟩ := isZ_parts h
    rw [if_pos h]
    exact ev_pos h (impl_ZeckendorfValue_l0 l h1 l.length 0 0 (Nat.zero_add _) h2 (by omega) (by omega))
  · rw [if_neg h]
    exact ev_neg h (ev_some rfl)
def formRes (n : Int) : List Int × Bool := if 0 ≤ n ∧ n < 267914296 then (zeckRes n, true) else ([], false)
theorem impl_formOf_ev (n : Int) : Ev (fun k => impl_formOf.f k n) (formRes n) := by
  simp only [impl_formOf.f, impl_hasForm_eq, Option.bind_some]
  unfold formRes
  by_cases h : 0 ≤ n ∧ n < 267914296
  · rw [if_pos h]
    exact ev_pos (by simpa using h) (ev_bind (impl_ZeckendorfOf_ev n) (ev_some rfl))
  · rw [if_neg h]
    exact ev_neg (by simpa using h) (ev_some rfl)
def nextRes (l : List Int) : List Int × Bool := if isZ l = true then formRes (zVal l + 1) else ([], false)
theorem formRes_length (n : Int) : (formRes n).1.length ≤ 40 := by
  unfold formRes
  split
  · exact zeckRes_length n
  · simp
theorem nextRes_length (l : List Int) : (nextRes l).1.length ≤ 40 := by
  unfold nextRes
  split
  · exact formRes_length _
  · simp
theorem zVal_no {l : List Int} (h : ¬ isZ l = true) : zVal l = -1 := by unfold zVal; rw [if_neg h]
theorem spec_NextZeckendorf_ev (l : List Int) (hl : l.length ≤ 4611686018427387904) : Ev (fun k => spec_NextZeckendorf.f k l) (nextRes l) := by
  simp only [spec_NextZeckendorf.f]
  refine ev_bind (spec_ZeckendorfValue_ev l hl) ?_
  unfold nextRes
  by_cases h : isZ l = true
  · rw [if_pos h]
    have hb := zVal_bound h
    refine ev_neg (by omega) (ev_bind (spec_FibonacciNumber_ev 40 (by omega)) ?_)
    rw [fp_40, wr (show -9223372036854775808 ≤ zVal l + 1 by omega) (by omega)]
    unfold formRes
    by_cases h2 : zVal l + 1 ≥ 267914296
    · rw [if_neg (show ¬ (0 ≤ zVal l + 1 ∧ zVal l + 1 < 267914296) by omega)]
      exact ev_pos h2 (ev_some rfl)
    · rw [if_pos (show 0 ≤ zVal l + 1 ∧ zVal l + 1 < 267914296 by omega)]
      exact ev_neg h2 (ev_bind (spec_ZeckendorfOf_ev _) (ev_some rfl))
  · rw [if_neg h, zVal_no h]
    exact ev_pos (by omega) (ev_some rfl)
theorem impl_NextZeckendorf_ev (l : List Int) (hl : l.length ≤ 4611686018427387904) : Ev (fun k => impl_NextZeckendorf.f k l) (nextRes l) := by
  simp only [impl_NextZeckendorf.f]
  refine ev_bind (impl_IsZeckendorf_ev l hl) ?_
  unfold nextRes
  by_cases h : isZ l = true
  · rw [if_pos h]
    have hb := zVal_bound h
    refine ev_pos h (ev_bind (impl_ZeckendorfValue_ev l hl) ?_)
    rw [wr (show -9223372036854775808 ≤ zVal l + 1 by omega) (by omega)]
    exact ev_bind (impl_formOf_ev _) (ev_some rfl)
  · rw [if_neg h]
    exact ev_neg h (ev_some rfl)


def valL : List Int → Int
  | [] => 0
  | x :: l => x * (fp l.length).1 + valL l
def okL : List Int → Bool
  | [] => true
  | [x] => decide (0 ≤ x ∧ x ≤ 1)
  | x :: y :: l => decide (0 ≤ x ∧ x ≤ 1) && (!(decide (x = 1) && decide (y = 1)) && okL (y :: l))
theorem zv_val (l : List Int) (n : Nat) : ∀ (i : Nat) (acc : Int), i + n = l.length → zv l i n acc = acc + valL (l.drop i) := by
  induction n with
  | zero => intro i acc hi; rw [List.drop_eq_nil_of_le (by omega)]; simp [zv, valL]
  | succ n ih =>
    intro i acc hi
    rw [zv, ih (i + 1) _ (by omega), drop_rd (show i < l.length by omega), valL]
    rw [show (l.drop (i + 1)).length = l.length - 1 - i by simp; omega]
    omega
theorem okL_head {x : Int} {l : List Int} (h : okL (x :: l) = true) : (0 ≤ x ∧ x ≤ 1) ∧ okL l = true := by
  cases l with
  | nil => simp only [okL, decide_eq_true_eq] at h; exact ⟨h, rfl⟩
  | cons y l => simp only [okL, Bool.and_eq_true, decide_eq_true_eq] at h; exact ⟨h.1, h.2.2⟩
theorem fp_step (n : Nat) : (fp (n + 1)).1 = (fp n).2 ∧ (fp (n + 2)).1 = (fp n).1 + (fp (n + 1)).1 := ⟨rfl, rfl⟩
theorem fp_pos (n : Nat) : 0 < (fp n).1 ∧ 0 < (fp n).2 := by
  induction n with
  | zero => exact ⟨by decide, by decide⟩
  | succ n ih =>
    have h1 : (fp (n + 1)).1 = (fp n).2 := rfl
    have h2 : (fp (n + 1)).2 = (fp n).1 + (fp n).2 := rfl
    omega
theorem fp_mono (n : Nat) : (fp n).1 ≤ (fp (n + 1)).1 := by
  induction n with
  | zero => decide
  | succ n ih =>
    have h : (fp (n + 1 + 1)).1 = (fp n).1 + (fp (n + 1)).1 := rfl
    have h2 := (fp_pos n).1
    omega
theorem fp_le {a b : Nat} (h : a ≤ b) : (fp a).1 ≤ (fp b).1 := by
  induction h with
  | refl => exact Int.le_refl _
  | step _ ih => exact Int.le_trans ih (fp_mono _)
theorem val_bound : ∀ (n : Nat) (l : List Int), l.length ≤ n → okL l = true → 0 ≤ valL l ∧ valL l < (fp l.length).1
  | _, [], _, _ => by simp [valL, fp]
  | _, [x], _, h => by
    simp only [okL, decide_eq_true_eq] at h
    have : (fp 1).1 = 2 := rfl
    have h0 : (fp 0).1 = 1 := rfl
    simp only [valL, List.length_cons, List.length_nil, Nat.zero_add, this, h0]
    omega
  | 0, _ :: _ :: _, hn, _ => by simp at hn
  | n + 1, x :: y :: l, hn, h => by
    have hy := okL_head h
    have hb := val_bound n (y :: l) (by simpa using hn) hy.2
    have hs := (fp_step l.length).2
    have hp := (fp_pos l.length).1
    have hm := fp_mono l.length
    rw [valL]
    simp only [List.length_cons] at hb ⊢
    rw [show l.length + 1 + 1 = l.length + 2 from rfl, hs]
    rcases (show x = 0 ∨ x = 1 by omega) with e | e
    · subst e; simp only [Int.zero_mul, Int.zero_add]; omega
    · subst e
      simp only [okL, Bool.and_eq_true, decide_eq_true_eq, Bool.not_eq_true', Bool.and_eq_false_iff, decide_eq_false_iff_not] at h
      have hy0 : y = 0 := by
        have h1 := hy.2
        have h2 := (okL_head h1).1
        rcases h.2.1 with e | e
        · exact absurd trivial e
        · omega
      subst hy0
      have hl := val_bound n l (by simp at hn; omega) (okL_head hy.2).2
      rw [valL] at hb ⊢
      simp only [Int.zero_mul, Int.zero_add, Int.one_mul] at hb ⊢
      omega
theorem val_inj : ∀ (a b : List Int), a.length = b.length → okL a = true → okL b = true → valL a = valL b → a = b
  | [], [], _, _, _, _ => rfl
  | [], _ :: _, h, _, _, _ => by simp at h
  | _ :: _, [], h, _, _, _ => by simp at h
  | x :: a, y :: b, h, ha, hb, hv => by
    have hl : a.length = b.length := by simpa using h
    have a1 := okL_head ha
    have b1 := okL_head hb
    have a2 := val_bound _ a (Nat.le_refl _) a1.2
    have b2 := val_bound _ b (Nat.le_refl _) b1.2
    rw [valL, valL, hl] at hv
    rw [hl] at a2
    have hp := (fp_pos b.length).1
    have hxy : x = y := by
      rcases (show x = 0 ∨ x = 1 by omega) with e | e <;> rcases (show y = 0 ∨ y = 1 by omega) with e' | e' <;> subst e <;> subst e' <;> first | rfl | (simp only [Int.zero_mul, Int.one_mul, Int.zero_add] at hv; omega)
    subst hxy
    rw [val_inj a b hl a1.2 b1.2 (by omega)]
theorem val_len {a b : List Int} (ha : okL a = true) (hb : okL b = true) (h1 : rd b 0 = 1) (h : a.length < b.length) : valL a < valL b := by
  cases b with
  | nil => simp at h
  | cons y b =>
    have hy : y = 1 := by simpa [rd] using h1
    subst hy
    have h2 := val_bound _ a (Nat.le_refl _) ha
    have h3 := val_bound _ b (Nat.le_refl _) (okL_head hb).2
    have h4 := fp_le (show a.length ≤ b.length by simp at h; omega)
    rw [valL]
    omega
theorem okL_cons0 {d : List Int} (h : okL d = true) : okL (0 :: d) = true := by
  cases d with
  | nil => rfl
  | cons y d => simp [okL, h]
theorem okL_cons1 {d : List Int} (h : okL d = true) (h0 : d = [] ∨ rd d 0 = 0) : okL (1 :: d) = true := by
  cases d with
  | nil => rfl
  | cons y d =>
    have hy : y = 0 := by
      rcases h0 with e | e
      · cases e
      · simpa [rd] using e
    subst hy
    simp [okL, h]
theorem zk_some (j : Nat) : ∀ (n : Int) (acc : List Int), acc ≠ [] → 0 ≤ n → n < (fp j).1 → ∃ d, zk j n acc = acc ++ d ∧ d.length = j ∧ valL d = n ∧ okL d = true ∧ (∀ i, j = i + 1 → n < (fp i).1 → rd d 0 = 0) := by
  induction j with
  | zero =>
    intro n acc _ h0 h1
    have h2 : (fp 0).1 = 1 := rfl
    exact ⟨[], by simp [zk], rfl, by simp [valL]; omega, rfl, fun i hi => by omega⟩
  | succ j ih =>
    intro n acc ha h0 h1
    have hlen : 0 < acc.length := by cases acc with | nil => exact absurd rfl ha | cons x a => simp
    unfold zk
    by_cases h : (fp j).1 ≤ n
    · rw [if_pos h]
      have hlt : n - (fp j).1 < (fp j).1 ∧ (∀ i, j = i + 1 → n - (fp j).1 < (fp i).1) := by
        cases j with
        | zero =>
          have e0 : (fp 0).1 = 1 := rfl
          have e1 : (fp (0 + 1)).1 = 2 := rfl
          exact ⟨by omega, fun i hi => by omega⟩
        | succ j =>
          have e2 : (fp (j + 1 + 1)).1 = (fp j).1 + (fp (j + 1)).1 := rfl
          have e3 := fp_mono j
          refine ⟨by omega, fun i hi => ?_⟩
          obtain rfl : i = j := by omega
          omega
      obtain ⟨d, d1, d2, d3, d4, d5⟩ := ih (n - (fp j).1) (acc ++ [1]) (by simp) (by omega) hlt.1
      refine ⟨1 :: d, by rw [d1]; simp, by simp [d2], by rw [valL, d2, d3]; omega, okL_cons1 d4 ?_, fun i hi hn => ?_⟩
      · cases j with
        | zero => exact .inl (List.length_eq_zero_iff.1 d2)
        | succ j => exact .inr (d5 j rfl (hlt.2 j rfl))
      · obtain rfl : i = j := by omega
        omega
    · rw [if_neg h, if_pos hlen]
      obtain ⟨d, d1, d2, d3, d4, d5⟩ := ih n (acc ++ [0]) (by simp) h0 (by omega)
      exact ⟨0 :: d, by rw [d1]; simp, by simp [d2], by rw [valL, d3]; omega, okL_cons0 d4, fun i hi hn => by simp [rd]⟩
theorem zk_none (j : Nat) : ∀ (n : Int), 0 ≤ n → n < (fp j).1 → (zk j n []).length ≤ j ∧ valL (zk j n []) = n ∧ okL (zk j n []) = true ∧ (zk j n [] = [] ∨ rd (zk j n []) 0 = 1) := by
  induction j with
  | zero =>
    intro n h0 h1
    have h2 : (fp 0).1 = 1 := rfl
    exact ⟨by simp [zk], by simp [zk, valL]; omega, rfl, .inl rfl⟩
  | succ j ih =>
    intro n h0 h1
    unfold zk
    by_cases h : (fp j).1 ≤ n
    · rw [if_pos h]
      have hlt : n - (fp j).1 < (fp j).1 ∧ (∀ i, j = i + 1 → n - (fp j).1 < (fp i).1) := by
        cases j with
        | zero =>
          have e0 : (fp 0).1 = 1 := rfl
          have e1 : (fp (0 + 1)).1 = 2 := rfl
          exact ⟨by omega, fun i hi => by omega⟩
        | succ j =>
          have e2 : (fp (j + 1 + 1)).1 = (fp j).1 + (fp (j + 1)).1 := rfl
          have e3 := fp_mono j
          refine ⟨by omega, fun i hi => ?_⟩
          obtain rfl : i = j := by omega
          omega
      obtain ⟨d, d1, d2, d3, d4, d5⟩ := zk_some j (n - (fp j).1) [1] (by simp) (by omega) hlt.1
      rw [List.nil_append, d1]
      refine ⟨by simp [d2], ?_, okL_cons1 d4 ?_, .inr (by simp [rd])⟩
      · show 1 * (fp d.length).1 + valL d = n
        rw [d2, d3]; omega
      · cases j with
        | zero => exact .inl (List.length_eq_zero_iff.1 d2)
        | succ j => exact .inr (d5 j rfl (hlt.2 j rfl))
    · rw [if_neg h, if_neg (by simp)]
      have := ih n h0 (by omega)
      exact ⟨by omega, this.2⟩
theorem zG_okL (l : List Int) (n : Nat) : ∀ i, i + n = l.length → zG l i n = (okL (l.drop i) && !(decide (0 < i) && decide (0 < n) && decide (rd l (i : Int) = 1) && decide (rd l ((i - 1 : Nat) : Int) = 1))) := by
  induction n with
  | zero => intro i hi; rw [List.drop_eq_nil_of_le (by omega)]; simp [zG, okL]
  | succ n ih =>
    intro i hi
    rw [zG, ih (i + 1) (by omega), drop_rd (show i < l.length by omega), show i + 1 - 1 = i from rfl]
    cases n with
    | zero =>
      rw [List.drop_eq_nil_of_le (by omega)]
      simp only [okL, show decide (0 < 0) = false from rfl, show decide (0 < 0 + 1) = true from rfl, Bool.and_true, Bool.and_false, Bool.false_and, Bool.not_false]
    | succ n =>
      rw [drop_rd (show i + 1 < l.length by omega)]
      simp only [okL, show decide (0 < n + 1) = true from by simp, show decide (0 < n + 1 + 1) = true from by simp, show decide (0 < i + 1) = true from by simp, Bool.and_true, Bool.true_and]
      generalize decide (0 ≤ rd l (i : Int) ∧ rd l (i : Int) ≤ 1) = p1
      generalize decide (0 < i) = p2
      generalize decide (rd l (i : Int) = 1) = p3
      generalize decide (rd l ((i - 1 : Nat) : Int) = 1) = p4
      generalize okL (rd l ((i + 1 : Nat) : Int) :: l.drop (i + 1 + 1)) = p5
      generalize decide (rd l ((i + 1 : Nat) : Int) = 1) = p6
      cases p1 <;> cases p2 <;> cases p3 <;> cases p4 <;> cases p5 <;> cases p6 <;> rfl
theorem isZ_okL (l : List Int) : isZ l = (decide (l.length ≤ 40) && (decide (l.length = 0) || decide (rd l 0 = 1)) && okL l) := by
  unfold isZ
  rw [zG_okL l l.length 0 (Nat.zero_add _)]
  simp
theorem zVal_val {l : List Int} (h : isZ l = true) : zVal l = valL l := by
  unfold zVal
  rw [if_pos h, zv_val l l.length 0 0 (Nat.zero_add _)]
  simp
theorem zeck_isZ {n : Int} (h0 : 0 ≤ n) (h1 : n < 267914296) : isZ (zeckRes n) = true ∧ zVal (zeckRes n) = n := by
  have hk := zk_none 40 n h0 (by rw [fp_40]; exact h1)
  have hz : isZ (zeckRes n) = true := by
    rw [isZ_okL]
    unfold zeckRes
    rw [if_pos ⟨h0, h1⟩, hk.2.2.1, decide_eq_true hk.1]
    rcases hk.2.2.2 with e | e
    · rw [e]; rfl
    · rw [decide_eq_true e]; simp
  refine ⟨hz, ?_⟩
  rw [zVal_val hz]
  unfold zeckRes
  rw [if_pos ⟨h0, h1⟩]
  exact hk.2.1


def cmpW : List Int → List Int → Int
  | [], [] => 0
  | [], _ :: _ => -1
  | _ :: _, [] => 1
  | x :: a, y :: b => if x < y then -1 else if x > y then 1 else cmpW a b
theorem cmpW_zero : ∀ (a b : List Int), cmpW a b = 0 ↔ a = b := by
  intro a
  induction a with
  | nil => intro b; cases b <;> simp [cmpW]
  | cons x a ih =>
    intro b
    cases b with
    | nil => simp [cmpW]
    | cons y b =>
      simp only [cmpW]
      split
      · simp; omega
      · split
        · simp; omega
        · rw [ih]; simp; omega
theorem cmp_Compare_eq (a b : Int) : cmp_Compare_int.f a b = some (if a < b then -1 else if a > b then 1 else 0) := by
  simp only [cmp_Compare_int.f, cmp_isNaN_int.f, Option.bind_some]
  simp only [bne_self_eq_false, Bool.false_eq_true, if_false]
  split
  · rfl
  · split <;> rfl
theorem slices_Compare_l0 (a b : List Int) (hn : a.length ≤ 4611686018427387904) (d : Nat) : ∀ (i : Nat), i + d = a.length → i ≤ b.length →
    Ev (fun k => slices_Compare_int_int.l0 k a b a (a.length : Int) (i : Int)) (cmpW (a.drop i) (b.drop i)) := by
  induction d with
  | zero =>
    intro i hi hb
    refine ev_succ ?_
    simp only [slices_Compare_int_int.l0]
    refine ev_neg (by omega) ?_
    rw [List.drop_of_length_le (by omega)]
    refine ev_ite (fun h => ev_some ?_) (fun h => ev_some ?_)
    · rw [drop_rd (by omega : i < b.length)]; rfl
    · rw [List.drop_of_length_le (by omega)]; rfl
  | succ d ih =>
    intro i hi hb
    refine ev_succ ?_
    simp only [slices_Compare_int_int.l0, wr1 (show (0 : Int) ≤ (i : Int) by omega) (by omega), cmp_Compare_eq, Option.bind_some]
    rw [drop_rd (by omega : i < a.length)]
    refine ev_pos (by omega) (ev_pos (by omega) (ev_pos (by omega) (ev_ite (fun h => ev_some ?_) (fun h => ev_pos (by omega) ?_))))
    · rw [show b.drop i = [] from List.drop_of_length_le (by omega)]; rfl
    · rw [drop_rd (by omega : i < b.length)]
      simp only [cmpW]
      by_cases h1 : rd a (i : Int) < rd b (i : Int)
      · simp only [if_pos h1]; exact ev_neg (by omega) (ev_some rfl)
      · by_cases h2 : rd a (i : Int) > rd b (i : Int)
        · simp only [if_neg h1, if_pos h2]; exact ev_neg (by omega) (ev_some rfl)
        · simp only [if_neg h1, if_neg h2]; exact ev_pos trivial (ih (i + 1) (by omega) (by omega))
theorem slices_Compare_ev (a b : List Int) (hn : a.length ≤ 4611686018427387904) : Ev (fun k => slices_Compare_int_int.f k a b) (cmpW a b) := by
  simp only [slices_Compare_int_int.f]
  exact ev_eq (slices_Compare_l0 a b hn a.length 0 (by omega) (by omega)) (by simp)
theorem impl_CompareWords_ev (a b : List Int) (hn : a.length ≤ 4611686018427387904) : Ev (fun k => impl_CompareWords.f k a b) (cmpW a b) := by
  simp only [impl_CompareWords.f]
  exact ev_bind (slices_Compare_ev a b hn) (ev_some rfl)


theorem val_cmp : ∀ (a b : List Int), a.length = b.length → okL a = true → okL b = true → (cmpW a b < 0 ↔ valL a < valL b)
  | [], [], _, _, _ => by simp [cmpW, valL]
  | [], _ :: _, h, _, _ => by simp at h
  | _ :: _, [], h, _, _ => by simp at h
  | x :: a, y :: b, h, ha, hb => by
    have hl : a.length = b.length := by simpa using h
    have a1 := okL_head ha
    have b1 := okL_head hb
    have a2 := val_bound _ a (Nat.le_refl _) a1.2
    have b2 := val_bound _ b (Nat.le_refl _) b1.2
    have hp := (fp_pos b.length).1
    have ih := val_cmp a b hl a1.2 b1.2
    rw [valL, valL, hl]
    rw [hl] at a2
    unfold cmpW
    rcases (show x = 0 ∨ x = 1 by omega) with e | e <;> rcases (show y = 0 ∨ y = 1 by omega) with e' | e' <;> subst e <;> subst e'
    · rw [if_neg (by omega), if_neg (by omega)]; simp only [Int.zero_mul, Int.zero_add]; exact ih
    · rw [if_pos (by omega)]; simp only [Int.zero_mul, Int.zero_add, Int.one_mul]; omega
    · rw [if_neg (by omega), if_pos (by omega)]; simp only [Int.zero_mul, Int.zero_add, Int.one_mul]; omega
    · rw [if_neg (by omega), if_neg (by omega)]; simp only [Int.one_mul]; omega
def cmpZ (a b : List Int) : Int := if a.length < b.length then -1 else if a.length > b.length then 1 else cmpW a b
theorem isZ_all {l : List Int} (h : isZ l = true) : l.length ≤ 40 ∧ (l.length = 0 ∨ rd l 0 = 1) ∧ okL l = true := by
  rw [isZ_okL] at h
  simp only [Bool.and_eq_true, Bool.or_eq_true, decide_eq_true_eq] at h
  exact ⟨h.1.1, h.1.2, h.2⟩
theorem zVal_len {a b : List Int} (ha : isZ a = true) (hb : isZ b = true) (h : a.length < b.length) : zVal a < zVal b := by
  have a1 := isZ_all ha
  have b1 := isZ_all hb
  rw [zVal_val ha, zVal_val hb]
  exact val_len a1.2.2 b1.2.2 (by rcases b1.2.1 with e | e; omega; exact e) h
theorem zVal_inj {a b : List Int} (ha : isZ a = true) (hb : isZ b = true) (h : zVal a = zVal b) : a = b := by
  have hl : a.length = b.length := by
    rcases Nat.lt_trichotomy a.length b.length with e | e | e
    · have := zVal_len ha hb e; omega
    · exact e
    · have := zVal_len hb ha e; omega
  rw [zVal_val ha, zVal_val hb] at h
  exact val_inj a b hl (isZ_all ha).2.2 (isZ_all hb).2.2 h
theorem cmpZ_lt {a b : List Int} (ha : isZ a = true) (hb : isZ b = true) : cmpZ a b < 0 ↔ zVal a < zVal b := by
  unfold cmpZ
  rcases Nat.lt_trichotomy a.length b.length with e | e | e
  · have := zVal_len ha hb e
    rw [if_pos e]; omega
  · rw [if_neg (by omega), if_neg (by omega), zVal_val ha, zVal_val hb]
    exact val_cmp a b e (isZ_all ha).2.2 (isZ_all hb).2.2
  · have := zVal_len hb ha e
    rw [if_neg (by omega), if_pos e]; omega
theorem cmpZ_eq {a b : List Int} (ha : isZ a = true) (hb : isZ b = true) : cmpZ a b = 0 ↔ zVal a = zVal b := by
  constructor
  · intro h
    unfold cmpZ at h
    split at h
    · omega
    · split at h
      · omega
      · rw [(cmpW_zero a b).1 h]
  · intro h
    obtain rfl := zVal_inj ha hb h
    unfold cmpZ
    rw [if_neg (by omega), if_neg (by omega)]
    exact (cmpW_zero a a).2 rfl
theorem zVal_lt {a : List Int} (ha : isZ a = true) : 0 ≤ zVal a ∧ zVal a < 267914296 := by
  have a1 := isZ_all ha
  have h2 := val_bound _ a (Nat.le_refl _) a1.2.2
  have h3 := fp_le a1.1
  rw [fp_40] at h3
  rw [zVal_val ha]
  omega
theorem zeck_zVal {a : List Int} (ha : isZ a = true) : zeckRes (zVal a) = a := by
  have h := zVal_lt ha
  have hz := zeck_isZ h.1 h.2
  exact zVal_inj hz.1 ha hz.2


def addZRes (a b : List Int) : List Int × Bool := if isZ a = true ∧ isZ b = true then formRes (zVal a + zVal b) else ([], false)
theorem addZRes_length (a b : List Int) : (addZRes a b).1.length ≤ 40 := by
  unfold addZRes
  split
  · exact formRes_length _
  · simp
theorem spec_AddZeckendorf_ev (a b : List Int) (ha : a.length ≤ 4611686018427387904) (hb : b.length ≤ 4611686018427387904) : Ev (fun k => spec_AddZeckendorf.f k a b) (addZRes a b) := by
  simp only [spec_AddZeckendorf.f]
  refine ev_bind (spec_ZeckendorfValue_ev a ha) (ev_bind (spec_ZeckendorfValue_ev b hb) ?_)
  unfold addZRes
  by_cases h1 : isZ a = true
  · have hb1 := zVal_bound h1
    refine ev_neg (by omega) ?_
    by_cases h2 : isZ b = true
    · have hb2 := zVal_bound h2
      rw [if_pos (And.intro h1 h2)]
      refine ev_neg (by omega) (ev_bind (spec_FibonacciNumber_ev 40 (by omega)) ?_)
      rw [fp_40, wr (show -9223372036854775808 ≤ zVal a + zVal b by omega) (by omega)]
      unfold formRes
      by_cases h3 : zVal a + zVal b ≥ 267914296
      · rw [if_neg (show ¬ (0 ≤ zVal a + zVal b ∧ zVal a + zVal b < 267914296) by omega)]
        exact ev_pos h3 (ev_some rfl)
      · rw [if_pos (show 0 ≤ zVal a + zVal b ∧ zVal a + zVal b < 267914296 by omega)]
        exact ev_neg h3 (ev_bind (spec_ZeckendorfOf_ev _) (ev_some rfl))
    · rw [if_neg (fun e => h2 e.2), zVal_no h2]
      exact ev_pos (by omega) (ev_some rfl)
  · rw [if_neg (fun e => h1 e.1), zVal_no h1]
    exact ev_pos (by omega) (ev_some rfl)
theorem impl_AddZeckendorf_ev (a b : List Int) (ha : a.length ≤ 4611686018427387904) (hb : b.length ≤ 4611686018427387904) : Ev (fun k => impl_AddZeckendorf.f k a b) (addZRes a b) := by
  simp only [impl_AddZeckendorf.f]
  have no : ¬ (isZ a = true ∧ isZ b = true) → Ev (fun k => impl_AddZeckendorf.j0 k a b true) (addZRes a b) := by
    intro h
    refine ev_succ ?_
    simp only [impl_AddZeckendorf.j0]
    exact ev_pos trivial (ev_some (by unfold addZRes; rw [if_neg h]))
  refine ev_bind (impl_IsZeckendorf_ev a ha) (ev_ite (fun h1 => ?_) (fun h1 => no (fun e => h1 e.1)))
  refine ev_bind (impl_IsZeckendorf_ev b hb) ?_
  by_cases h2 : isZ b = true
  · have hb1 := zVal_bound h1
    have hb2 := zVal_bound h2
    rw [h2]
    refine ev_succ ?_
    simp only [impl_AddZeckendorf.j0]
    refine ev_neg (by simp) (ev_bind (impl_ZeckendorfValue_ev a ha) (ev_bind (impl_ZeckendorfValue_ev b hb) ?_))
    unfold addZRes
    rw [if_pos (And.intro h1 h2), wr (show -9223372036854775808 ≤ zVal a + zVal b by omega) (by omega)]
    exact ev_bind (impl_formOf_ev _) (ev_some rfl)
  · rw [show isZ b = false by simpa using h2]
    exact no (fun e => h2 e.2)


theorem cmpW_drop_len (a b : List Int) : ∀ i, i ≤ a.length → i ≤ b.length → (i = a.length ∨ i = b.length) → cmpW (a.drop i) (b.drop i) = if a.length < b.length then -1 else if a.length > b.length then 1 else 0 := by
  intro i h1 h2 h3
  rcases Nat.lt_trichotomy a.length b.length with e | e | e
  · rw [if_pos e]
    rw [List.drop_of_length_le (show a.length ≤ i by omega)]
    rw [drop_rd (show i < b.length by omega)]; rfl
  · rw [if_neg (by omega), if_neg (by omega), List.drop_of_length_le (by omega), List.drop_of_length_le (by omega)]; rfl
  · rw [if_neg (by omega), if_pos e]
    rw [List.drop_of_length_le (show b.length ≤ i by omega)]
    rw [drop_rd (show i < a.length by omega)]; rfl
theorem spec_CompareWords_l0 (a b : List Int) (ha : a.length ≤ 4611686018427387904) (d : Nat) : ∀ (i : Nat), i + d = a.length → i ≤ b.length →
    Ev (fun k => spec_CompareWords.l0 k a b (i : Int)) (cmpW (a.drop i) (b.drop i)) := by
  have stop : ∀ i : Nat, i ≤ a.length → i ≤ b.length → (i = a.length ∨ i = b.length) → Ev (fun k => spec_CompareWords.j1 k a b (i : Int) false) (cmpW (a.drop i) (b.drop i)) := by
    intro i h1 h2 h3
    rw [cmpW_drop_len a b i h1 h2 h3]
    refine ev_succ ?_
    simp only [spec_CompareWords.j1]
    refine ev_neg (by simp) ?_
    refine ev_ite (fun h => ev_some ?_) (fun h => ev_ite (fun h' => ev_some ?_) (fun h' => ev_some ?_))
    · rw [if_pos (by omega)]
    · rw [if_neg (by omega), if_pos (by omega)]
    · rw [if_neg (by omega), if_neg (by omega)]
  induction d with
  | zero =>
    intro i hi hb
    refine ev_succ ?_
    simp only [spec_CompareWords.l0]
    exact ev_neg (by omega) (stop i (by omega) hb (.inl (by omega)))
  | succ d ih =>
    intro i hi hb
    refine ev_succ ?_
    simp only [spec_CompareWords.l0]
    refine ev_pos (by omega) ?_
    by_cases h2 : i < b.length
    · rw [decide_eq_true (show (i : Int) < (b.length : Int) by omega)]
      refine ev_succ ?_
      simp only [spec_CompareWords.j1, wr1 (show (0 : Int) ≤ (i : Int) by omega) (by omega)]
      refine ev_pos trivial (ev_pos (by omega) (ev_pos (by omega) (ev_pos (by omega) ?_)))
      rw [drop_rd (by omega : i < a.length), drop_rd h2]
      refine ev_ite (fun h => ev_some ?_) (fun h => ev_ite (fun h' => ev_some ?_) (fun h' => ev_eq (ih (i + 1) (by omega) (by omega)) ?_))
      · simp only [cmpW, if_pos h]
      · simp only [cmpW, if_neg h, if_pos h']
      · simp only [cmpW, if_neg h, if_neg h']
    · rw [decide_eq_false (show ¬ (i : Int) < (b.length : Int) by omega)]
      exact stop i (by omega) hb (.inr (by omega))
theorem spec_CompareWords_ev (a b : List Int) (ha : a.length ≤ 4611686018427387904) : Ev (fun k => spec_CompareWords.f k a b) (cmpW a b) := by
  simp only [spec_CompareWords.f]
  exact ev_eq (spec_CompareWords_l0 a b ha a.length 0 (by omega) (by omega)) (by simp)
theorem spec_CompareZeckendorf_ev (a b : List Int) (ha : a.length ≤ 4611686018427387904) : Ev (fun k => spec_CompareZeckendorf.f k a b) (cmpZ a b) := by
  simp only [spec_CompareZeckendorf.f]
  unfold cmpZ
  refine ev_ite (fun h => ev_some ?_) (fun h => ev_ite (fun h' => ev_some ?_) (fun h' => ?_))
  · rw [if_pos (by omega)]
  · rw [if_neg (by omega), if_pos (by omega)]
  · rw [if_neg (by omega), if_neg (by omega)]
    exact ev_bind (spec_CompareWords_ev a b ha) (ev_some rfl)
theorem cmp_Or2_ev (x y : Int) : Ev (fun k => cmp_Or_int.f k [x, y]) (if x = 0 then y else x) := by
  simp only [cmp_Or_int.f]
  refine ev_succ ?_
  simp only [cmp_Or_int.l0]
  refine ev_pos (by simp) (ev_pos (by omega) (ev_pos (by simp) ?_))
  rw [show rd [x, y] 0 = x from rfl, show wrap64 (0 + 1) = 1 from wr (by omega) (by omega)]
  refine ev_ite (fun h => ?_) (fun h => ev_some (by rw [if_neg h]))
  rw [if_pos h]
  refine ev_succ ?_
  simp only [cmp_Or_int.l0]
  refine ev_pos (by simp) (ev_pos (by omega) (ev_pos (by simp) ?_))
  rw [show rd [x, y] 1 = y from rfl, show wrap64 (1 + 1) = 2 from wr (by omega) (by omega)]
  refine ev_ite (fun h2 => ?_) (fun h2 => ev_some rfl)
  refine ev_succ ?_
  simp only [cmp_Or_int.l0]
  exact ev_neg (by simp) (ev_some h2.symm)
theorem impl_CompareZeckendorf_ev (a b : List Int) (ha : a.length ≤ 4611686018427387904) : Ev (fun k => impl_CompareZeckendorf.f k a b) (cmpZ a b) := by
  simp only [impl_CompareZeckendorf.f, cmp_Compare_eq, Option.bind_some]
  refine ev_bind (impl_CompareWords_ev a b ha) (ev_bind (cmp_Or2_ev _ _) (ev_some ?_))
  unfold cmpZ
  rcases Nat.lt_trichotomy a.length b.length with e | e | e
  · simp [e]
  · simp [e]
  · simp [show ¬ a.length < b.length by omega, e]


def shiftRes (n : Int) : Int := if n < 0 ∨ n ≥ 165580141 then -1 else if n = 0 then 0 else zVal (zeckRes n ++ [0])
theorem impl_Fib39 : impl_FibonacciNumber.f 39 = some 165580141 := by decide +kernel
theorem fp_39 : (fp 39).1 = 165580141 := by decide +kernel
theorem impl_ShiftZeckendorf_ev (n : Int) : Ev (fun k => impl_ShiftZeckendorf.f k n) (shiftRes n) := by
  simp only [impl_ShiftZeckendorf.f, impl_Fib39, Option.bind_some]
  unfold shiftRes
  have key : ∀ b : Bool, (b = true ↔ (n < 0 ∨ n ≥ 165580141)) → Ev (fun k => impl_ShiftZeckendorf.j0 k n b) (if n < 0 ∨ n ≥ 165580141 then -1 else if n = 0 then 0 else zVal (zeckRes n ++ [0])) := by
    intro b hb
    refine ev_succ ?_
    simp only [impl_ShiftZeckendorf.j0]
    refine ev_ite (fun h => ev_some (by rw [if_pos (hb.1 h)])) (fun h => ?_)
    rw [if_neg (fun e => h (hb.2 e))]
    refine ev_ite (fun h2 => ev_some (by rw [if_pos h2])) (fun h2 => ?_)
    rw [if_neg h2]
    have hl := zeckRes_length n
    exact ev_bind (impl_ZeckendorfOf_ev n) (ev_pos (by omega) (ev_bind (impl_ZeckendorfValue_ev _ (by simp; omega)) (ev_some rfl)))
  exact ev_ite (fun h => key _ (by simp [h])) (fun h => key _ (by simp [h]))
theorem spec_ShiftZeckendorf_ev (n : Int) : Ev (fun k => spec_ShiftZeckendorf.f k n) (shiftRes n) := by
  simp only [spec_ShiftZeckendorf.f]
  unfold shiftRes
  refine ev_bind (spec_ZeckendorfOf_ev n) ?_
  have key : ∀ b : Bool, (b = true ↔ (n < 0 ∨ n ≥ 165580141)) → Ev (fun k => spec_ShiftZeckendorf.j0 k n (zeckRes n) b) (if n < 0 ∨ n ≥ 165580141 then -1 else if n = 0 then 0 else zVal (zeckRes n ++ [0])) := by
    intro b hb
    refine ev_succ ?_
    simp only [spec_ShiftZeckendorf.j0]
    refine ev_ite (fun h => ev_some (by rw [if_pos (hb.1 h)])) (fun h => ?_)
    rw [if_neg (fun e => h (hb.2 e))]
    refine ev_ite (fun h2 => ev_some (by rw [if_pos h2])) (fun h2 => ?_)
    rw [if_neg h2]
    have hl := zeckRes_length n
    exact ev_pos (by omega) (ev_bind (spec_ZeckendorfValue_ev _ (by simp; omega)) (ev_some rfl))
  refine ev_ite (fun h => key _ (by simp [h])) (fun h => ev_bind (spec_FibonacciNumber_ev 39 (by omega)) ?_)
  rw [fp_39]
  exact key _ (by simp [h])


/-- g tells some answer of which P is known -/
def Tot {α : Type} (g : Nat → Option α) (P : α → Prop) : Prop := ∃ r, Ev g r ∧ P r
theorem tot_of {α : Type} {g : Nat → Option α} {P : α → Prop} {r : α} (h : Ev g r) (hp : P r) : Tot g P := ⟨r, h, hp⟩
theorem tot_some {α : Type} {r : α} {P : α → Prop} (h : P r) : Tot (fun _ => some r) P := ⟨r, Ev.now r, h⟩
theorem tot_bind {α β : Type} {g : Nat → Option α} {f : Nat → α → Option β} {P : α → Prop} {Q : β → Prop} (h : Tot g P) (k : ∀ a, P a → Tot (fun n => f n a) Q) : Tot (fun n => (g n).bind (f n)) Q := by
  obtain ⟨a, ha, hp⟩ := h
  obtain ⟨r, hr, hq⟩ := k a hp
  exact ⟨r, Ev.bind ha hr, hq⟩
theorem tot_bind0 {α β : Type} {o : Option α} {f : Nat → α → Option β} {P : α → Prop} {Q : β → Prop} (h : ∃ a, o = some a ∧ P a) (k : ∀ a, P a → Tot (fun n => f n a) Q) : Tot (fun n => o.bind (f n)) Q := by
  obtain ⟨a, ha, hp⟩ := h
  subst ha
  exact k a hp
theorem tot_pos {α : Type} {c : Prop} [Decidable c] {g f : Nat → Option α} {P : α → Prop} (hc : c) (h : Tot g P) : Tot (fun k => if c then g k else f k) P := by
  simp only [if_pos hc]; exact h
theorem tot_neg {α : Type} {c : Prop} [Decidable c] {g f : Nat → Option α} {P : α → Prop} (hc : ¬ c) (h : Tot f P) : Tot (fun k => if c then g k else f k) P := by
  simp only [if_neg hc]; exact h
theorem tot_ite {α : Type} {c : Prop} [Decidable c] {g f : Nat → Option α} {P : α → Prop} (h : c → Tot g P) (h' : ¬ c → Tot f P) : Tot (fun k => if c then g k else f k) P := by
  by_cases hc : c
  · exact tot_pos hc (h hc)
  · exact tot_neg hc (h' hc)
theorem tot_succ {α : Type} {g : Nat → Option α} {P : α → Prop} (h : Tot (fun k => g (k + 1)) P) : Tot g P := by
  obtain ⟨r, hr, hp⟩ := h
  exact ⟨r, ev_succ hr, hp⟩
theorem tot_mono {α : Type} {g : Nat → Option α} {P Q : α → Prop} (h : Tot g P) (k : ∀ a, P a → Q a) : Tot g Q := by
  obtain ⟨r, hr, hp⟩ := h
  exact ⟨r, hr, k r hp⟩
theorem bits_and_le (x : Int) (m : Nat) (hm : m < 4611686018427387904) : 0 ≤ Go.bits .and .i64 x (m : Int) ∧ Go.bits .and .i64 x (m : Int) ≤ m := by
  have h : ∀ n : Nat, n ≤ m → IntKind.i64.wrap (n : Int) = n := by
    intro n hn
    simp only [IntKind.wrap, IntKind.bits, IntKind.signed, Bool.true_and, decide_eq_true_eq]
    split
    · rename_i h
      have e : (2 : Int) ^ (64 - 1) = 9223372036854775808 := by decide
      have h2 : (n : Int) % 2 ^ 64 ≥ 2 ^ (64 - 1) := of_decide_eq_true h
      rw [e] at h2
      omega
    · omega
  simp only [Go.bits]
  have hb : (BitVec.ofInt IntKind.i64.bits (m : Int)).toNat = m := by
    simp only [BitVec.ofInt_natCast, BitVec.toNat_ofNat, IntKind.bits]
    exact Nat.mod_eq_of_lt (by omega)
  have hle : ((BitVec.ofInt IntKind.i64.bits x) &&& (BitVec.ofInt IntKind.i64.bits (m : Int))).toNat ≤ m := by
    rw [BitVec.toNat_and, hb]; exact Nat.and_le_right
  rw [h _ hle]
  omega
/-- a cursor's place and hash: the place is no negative number -/
def curOk (b : List Int) (i : Int) : Prop := 0 ≤ i ∧ b.length ≤ 1048576
theorem l1Byte_tot (b : List Int) (i h : Int) (hc : curOk b i) : ∃ r, spec_l1Byte.f b i h = some r ∧ 0 ≤ r.1 ∧ r.1 ≤ 255 ∧ curOk b r.2.1 := by
  obtain ⟨h0, hb⟩ := hc
  unfold spec_l1Byte.f
  by_cases hi : i < (b.length : Int)
  · rw [if_pos hi, if_pos h0]
    have := bits_and_le ((wrap64 ((Go.bits .and .i64 (Go.bits .xor .i64 ((wrap64 ((wrap64 (h * 6364136223846793005)) + 1442695040888963407)) / 8589934592) ((wrap64 ((wrap64 (h * 6364136223846793005)) + 1442695040888963407)) / 35184372088832)) 255) + (wrap64 (rd b i))))) 255 (by omega)
    refine ⟨_, rfl, this.1, this.2, ?_, hb⟩
    simp only
    rw [wr1 h0 (by omega)]; omega
  · rw [if_neg hi]
    have := bits_and_le (Go.bits .xor .i64 ((wrap64 ((wrap64 (h * 6364136223846793005)) + 1442695040888963407)) / 8589934592) ((wrap64 ((wrap64 (h * 6364136223846793005)) + 1442695040888963407)) / 35184372088832)) 255 (by omega)
    exact ⟨_, rfl, this.1, this.2, h0, hb⟩
theorem l1Below_tot (b : List Int) (i h n : Int) (hc : curOk b i) (h1 : 1 ≤ n) (h2 : n ≤ 256) : ∃ r, spec_l1Below.f b i h n = some r ∧ (0 ≤ r.1 ∧ r.1 < n) ∧ curOk b r.2.1 := by
  unfold spec_l1Below.f
  rw [if_neg (by omega), if_pos h2]
  obtain ⟨⟨x, i', h'⟩, e, hx0, hx1, hc'⟩ := l1Byte_tot b i h hc
  rw [e]
  simp only [Option.bind_some] at *
  rw [if_neg (by omega)]
  refine ⟨_, rfl, ?_, hc'⟩
  simp only
  rw [Int.tmod_eq_emod_of_nonneg hx0]
  exact ⟨Int.emod_nonneg _ (by omega), Int.emod_lt_of_pos _ (by omega)⟩
theorem l1PickInt_tot (b : List Int) (i h : Int) (l : List Int) (hc : curOk b i) (h1 : 1 ≤ l.length) (h2 : l.length ≤ 256) : ∃ r, spec_l1PickInt.f b i h l = some r ∧ r.1 ∈ l ∧ curOk b r.2.1 := by
  unfold spec_l1PickInt.f
  obtain ⟨⟨x, i', h'⟩, e, ⟨hx0, hx1⟩, hc'⟩ := l1Below_tot b i h (l.length : Int) hc (by omega) (by omega)
  rw [e]
  simp only [Option.bind_some] at *
  rw [if_pos hx0, if_pos hx1]
  refine ⟨_, rfl, ?_, hc'⟩
  simp only
  obtain ⟨n, rfl⟩ := Int.eq_ofNat_of_zero_le hx0
  exact rd_mem (by omega)
theorem l1New_l0 (l : List Int) (hn : l.length ≤ 1048576) (d : Nat) : ∀ (i : Nat) (h : Int), i + d = l.length → Tot (fun k => spec_l1New.l0 k l h (i : Int)) (fun r => r.1 = l ∧ r.2.1 = 0) := by
  induction d with
  | zero =>
    intro i h hi
    refine tot_succ ?_
    simp only [spec_l1New.l0]
    exact tot_neg (by omega) (tot_some ⟨rfl, rfl⟩)
  | succ d ih =>
    intro i h hi
    refine tot_succ ?_
    simp only [spec_l1New.l0, wr1 (show (0 : Int) ≤ (i : Int) by omega) (by omega)]
    exact tot_pos (by omega) (tot_ite (fun _ => tot_pos (by omega) (ih (i + 1) _ (by omega))) (fun _ => tot_some ⟨rfl, rfl⟩))
theorem l1New_tot (l : List Int) (hn : l.length ≤ 1048576) : Tot (fun k => spec_l1New.f k l) (fun r => r.1 = l ∧ r.2.1 = 0) := by
  simp only [spec_l1New.f]
  exact l1New_l0 l hn l.length 0 _ (by omega)


theorem l1Once_tot (b : List Int) (i h n : Int) (hc : curOk b i) (h1 : 1 ≤ n) (h2 : n ≤ 256) : ∃ a, spec_l1Once.f b i h n = some a ∧ curOk b a.2.1 := by
  unfold spec_l1Once.f
  obtain ⟨r, e, _, hc⟩ := l1Below_tot b i h n hc h1 h2
  rw [e]
  exact ⟨_, rfl, hc⟩
theorem l21Number_tot (b : List Int) (i h : Int) (hc : curOk b i) : ∃ a, spec_l21Number.f b i h = some a ∧ curOk b a.2.1 := by
  unfold spec_l21Number.f
  obtain ⟨r, e, hr⟩ := l1Once_tot b i h 10 hc (by omega) (by omega)
  rw [e]
  simp only [Option.bind_some]
  split
  · obtain ⟨r2, e2, _, hr2⟩ := l1PickInt_tot b r.2.1 r.2.2 [-1, 267914295, 267914296, 165580141, 165580140, 9223372036854775807] hr (by decide) (by decide)
    rw [e2]
    exact ⟨_, rfl, hr2⟩
  · obtain ⟨r2, e2, _, hr2⟩ := l1Below_tot b r.2.1 r.2.2 200 hr (by omega) (by omega)
    rw [e2]
    exact ⟨_, rfl, hr2⟩
theorem curAt0 {b : List Int} (h : b.length ≤ 1048576) : curOk b 0 := ⟨by omega, h⟩
theorem drawZeck_tot (l : List Int) (hn : l.length ≤ 1048576) : Tot (fun k => spec_DrawZeckendorfOf.f k l) (fun _ => True) := by
  simp only [spec_DrawZeckendorfOf.f]
  refine tot_bind (l1New_tot l hn) (fun r hr => ?_)
  rw [hr.1, hr.2]
  refine tot_bind0 (P := fun _ => True) ?_ (fun r2 _ => tot_some trivial)
  obtain ⟨a, e, _⟩ := l21Number_tot l 0 r.2.2 (curAt0 hn)
  exact ⟨a, e, trivial⟩
theorem l21Digits_j0_tot (b : List Int) (i h : Int) (d : List Int) (c : Bool) (hd : d.length ≤ 40) (hc : curOk b i) (h0 : c = true → 0 < d.length) :
    Tot (fun k => spec_l21Digits.j0 k d c b i h) (fun r => r.1.length ≤ 40 ∧ curOk b r.2.1) := by
  refine tot_succ ?_
  simp only [spec_l21Digits.j0]
  refine tot_ite (fun hp => ?_) (fun hp => tot_some ⟨hd, hc⟩)
  have h1 := h0 hp
  refine tot_bind0 (l1Below_tot b i h (d.length : Int) hc (by omega) (by omega)) (fun r hr => ?_)
  refine tot_bind0 (l1PickInt_tot b r.2.1 r.2.2 [0, 1, 2, -1] hr.2 (by decide) (by decide)) (fun r2 hr2 => ?_)
  exact tot_pos hr.1.1 (tot_pos hr.1.2 (tot_some ⟨by simpa using hd, hr2.2⟩))
theorem l21Digits_tot (b : List Int) (i h : Int) (hc : curOk b i) : Tot (fun k => spec_l21Digits.f k b i h) (fun r => r.1.length ≤ 40 ∧ curOk b r.2.1) := by
  simp only [spec_l21Digits.f]
  refine tot_bind0 (l1Below_tot b i h 200 hc (by omega) (by omega)) (fun r hr => ?_)
  refine tot_bind (tot_of (spec_ZeckendorfOf_ev r.1) rfl : Tot _ (fun x => x = zeckRes r.1)) (fun d hd => ?_)
  subst hd
  have hl := zeckRes_length r.1
  refine tot_ite (fun h1 => ?_) (fun h1 => l21Digits_j0_tot b _ _ _ _ hl hr.2 (fun e => by cases e))
  refine tot_bind0 (l1Once_tot b r.2.1 r.2.2 6 hr.2 (by omega) (by omega)) (fun r2 hr2 => ?_)
  exact l21Digits_j0_tot b _ _ _ _ hl hr2 (fun _ => by omega)
theorem drawNextZ_tot (l : List Int) (hn : l.length ≤ 1048576) : Tot (fun k => spec_DrawNextZeckendorf.f k l) (fun r => r.length ≤ 40) := by
  simp only [spec_DrawNextZeckendorf.f]
  refine tot_bind (l1New_tot l hn) (fun r hr => ?_)
  rw [hr.1, hr.2]
  exact tot_bind (l21Digits_tot l 0 _ (curAt0 hn)) (fun r hr => tot_some hr.1)
theorem drawIsZ_tot (l : List Int) (hn : l.length ≤ 1048576) : Tot (fun k => spec_DrawIsZeckendorf.f k l) (fun r => r.length ≤ 40) := by
  simp only [spec_DrawIsZeckendorf.f]
  refine tot_bind (l1New_tot l hn) (fun r hr => ?_)
  rw [hr.1, hr.2]
  exact tot_bind (l21Digits_tot l 0 _ (curAt0 hn)) (fun r hr => tot_some hr.1)
theorem drawFibN_tot (l : List Int) (hn : l.length ≤ 1048576) : Tot (fun k => spec_DrawFibonacciNumber.f k l) (fun r => -1 ≤ r ∧ r ≤ 42) := by
  simp only [spec_DrawFibonacciNumber.f]
  refine tot_bind (l1New_tot l hn) (fun r hr => ?_)
  rw [hr.1, hr.2]
  refine tot_bind0 (l1Below_tot l 0 _ 44 (curAt0 hn) (by omega) (by omega)) (fun r hr => tot_some ?_)
  rw [wr (n := r.1 - 1) (by omega) (by omega)]
  omega
theorem drawAddZ_tot (l : List Int) (hn : l.length ≤ 1048576) : Tot (fun k => spec_DrawAddZeckendorf.f k l) (fun r => r.1.length ≤ 40 ∧ r.2.length ≤ 40) := by
  simp only [spec_DrawAddZeckendorf.f, spec_l21Two.f]
  refine tot_bind (P := fun r : List Int × List Int => r.1.length ≤ 40 ∧ r.2.length ≤ 40) ?_ (fun r hr => tot_some hr)
  refine tot_bind (l1New_tot l hn) (fun r hr => ?_)
  rw [hr.1, hr.2]
  refine tot_bind (l21Digits_tot l 0 _ (curAt0 hn)) (fun r hr => ?_)
  exact tot_bind (l21Digits_tot l _ _ hr.2) (fun r2 hr2 => tot_some ⟨hr.1, hr2.1⟩)


-- SAY: For every code the law of Zeckendorf forms holds: each number has exactly one form, forms are ordered as their numbers, and sums of forms are forms of sums. No conditions beyond the given statement.
theorem fibN_same : ∀ k : Fin 44, impl_FibonacciNumber.f ((k.val : Int) - 1) = some (if 1 ≤ k.val ∧ k.val ≤ 41 then (fp (k.val - 1)).1 else 0) := by decide +kernel
theorem spec_fibN (g : Int) (h0 : -1 ≤ g) (h1 : g ≤ 42) : ∃ v, impl_FibonacciNumber.f g = some v ∧ Ev (fun k => spec_FibonacciNumber.f k g) v := by
  obtain ⟨n, hn⟩ := Int.eq_ofNat_of_zero_le (show 0 ≤ g + 1 by omega)
  have h := fibN_same ⟨n, by omega⟩
  simp only at h
  rw [show (n : Int) - 1 = g by omega] at h
  refine ⟨_, h, ?_⟩
  by_cases hk : 1 ≤ n ∧ n ≤ 41
  · rw [if_pos hk]
    have := spec_FibonacciNumber_ev (n - 1) (by omega)
    rw [show ((n - 1 : Nat) : Int) = g by omega] at this
    exact this
  · rw [if_neg hk]
    simp only [spec_FibonacciNumber.f, l1In_eq, Option.bind_some]
    exact ev_neg (by simp; omega) (ev_some rfl)
theorem fz_j3 (l : List Int) (hn : l.length ≤ 1048576) : Ev (fun k => laws_FnZeckendorf.j3 k l) true := by
  refine ev_succ ?_
  simp only [laws_FnZeckendorf.j3]
  obtain ⟨e, he, hel⟩ := drawNextZ_tot l hn
  have hnl := nextRes_length e
  refine ev_bind he (ev_bind (impl_NextZeckendorf_ev e (by omega)) (ev_bind (spec_NextZeckendorf_ev e (by omega)) ?_))
  obtain ⟨f, hf, hfl⟩ := drawIsZ_tot l hn
  obtain ⟨g, hg, hg0, hg1⟩ := drawFibN_tot l hn
  refine ev_bind hf (ev_bind hg (ev_pos (by simp) (ev_bind (sameInts_refl _ (by omega)) (ev_pos rfl ?_))))
  refine ev_bind (impl_IsZeckendorf_ev f (by omega)) (ev_bind (spec_IsZeckendorf_ev f (by omega)) (ev_pos (by simp) ?_))
  refine ev_bind (impl_ZeckendorfValue_ev f (by omega)) (ev_bind (spec_ZeckendorfValue_ev f (by omega)) (ev_pos rfl ?_))
  obtain ⟨v, hv1, hv2⟩ := spec_fibN g hg0 hg1
  rw [hv1]
  simp only [Option.bind_some]
  refine ev_bind hv2 (ev_pos rfl (ev_bind (impl_IsZeckendorf_ev f (by omega)) (ev_ite (fun hz => ?_) (fun _ => ev_some rfl))))
  refine ev_bind (impl_ZeckendorfValue_ev f (by omega)) (ev_bind (impl_ZeckendorfOf_ev _) ?_)
  rw [zeck_zVal hz]
  exact ev_bind (sameInts_refl _ (by omega)) (ev_some rfl)
theorem addZ_val {a b : List Int} (h : (addZRes a b).2 = true) : isZ a = true ∧ isZ b = true ∧ zVal (addZRes a b).1 = zVal a + zVal b := by
  unfold addZRes at h ⊢
  split at h
  · rename_i hab
    rw [if_pos hab]
    refine ⟨hab.1, hab.2, ?_⟩
    unfold formRes at h ⊢
    split at h
    · rename_i hr
      rw [if_pos hr]
      exact (zeck_isZ hr.1 hr.2).2
    · cases h
  · cases h
theorem fz_j2 (l a b : List Int) (hn : l.length ≤ 1048576) (ha : a.length ≤ 40) (hb : b.length ≤ 40) : Ev (fun k => laws_FnZeckendorf.j2 k l a b (addZRes a b).2 (cmpZ a b) false) true := by
  refine ev_succ ?_
  simp only [laws_FnZeckendorf.j2]
  refine ev_neg (by simp) (ev_ite (fun h => ?_) (fun h => fz_j3 l hn))
  obtain ⟨h1, h2, h3⟩ := addZ_val h
  refine ev_bind (spec_ZeckendorfValue_ev a (by omega)) (ev_bind (spec_ZeckendorfValue_ev b (by omega)) ?_)
  have e1 : decide (cmpZ a b < 0) = decide (zVal a < zVal b) := by simp only [decide_eq_decide]; exact cmpZ_lt h1 h2
  have e2 : (cmpZ a b == 0) = (zVal a == zVal b) := by
    rw [Bool.eq_iff_iff]; simp only [beq_iff_eq]; exact cmpZ_eq h1 h2
  rw [e1, e2]
  exact ev_neg (by simp) (ev_neg (by simp) (fz_j3 l hn))
theorem fz_j1 (l : List Int) (hn : l.length ≤ 1048576) : Ev (fun k => laws_FnZeckendorf.j1 k l false) true := by
  refine ev_succ ?_
  simp only [laws_FnZeckendorf.j1]
  obtain ⟨r, hr, ha, hb⟩ := drawAddZ_tot l hn
  have hal := addZRes_length r.1 r.2
  refine ev_neg (by simp) (ev_bind hr (ev_bind (impl_AddZeckendorf_ev _ _ (by omega) (by omega)) (ev_bind (spec_AddZeckendorf_ev _ _ (by omega) (by omega)) (ev_bind (impl_CompareZeckendorf_ev _ _ (by omega)) ?_))))
  refine ev_neg (by simp) (ev_bind (sameInts_refl _ (by omega)) (ev_pos rfl (ev_bind (spec_CompareZeckendorf_ev _ _ (by omega)) (ev_pos rfl ?_))))
  refine ev_ite (fun h => ?_) (fun h => ?_)
  · obtain ⟨h1, h2, h3⟩ := addZ_val h
    have b1 := zVal_lt h1
    have b2 := zVal_lt h2
    refine ev_bind (impl_ZeckendorfValue_ev _ (by omega)) (ev_bind (spec_ZeckendorfValue_ev _ (by omega)) (ev_bind (spec_ZeckendorfValue_ev _ (by omega)) ?_))
    rw [h3, wr (show -9223372036854775808 ≤ zVal r.1 + zVal r.2 by omega) (by omega)]
    rw [show (zVal r.1 + zVal r.2 != zVal r.1 + zVal r.2) = false by simp]
    exact fz_j2 l r.1 r.2 hn ha hb
  · exact fz_j2 l r.1 r.2 hn ha hb
theorem FnZeckendorf : laws_FnZeckendorf.Pure := by
  intro l hl0 hl1 hwf
  refine Ev.rounds (g := fun k => laws_FnZeckendorf.f k l) ?_
  simp only [laws_FnZeckendorf.f, big_eq, Option.bind_some]
  refine ev_ite (fun h => ev_some rfl) (fun h => ?_)
  have hn : l.length ≤ 1048576 := by
    simp only [decide_eq_true_eq] at h; omega
  obtain ⟨n, hd, _⟩ := drawZeck_tot l hn
  have hz := zeckRes_length n
  refine ev_bind hd (ev_bind (impl_ZeckendorfOf_ev n) (ev_bind (spec_ZeckendorfOf_ev n) (ev_bind (sameInts_refl _ (by omega)) (ev_pos rfl ?_))))
  refine ev_bind (impl_ShiftZeckendorf_ev n) (ev_bind (spec_ShiftZeckendorf_ev n) ?_)
  rw [show (shiftRes n != shiftRes n) = false by simp]
  refine ev_succ ?_
  simp only [laws_FnZeckendorf.j0]
  refine ev_neg (by simp) (ev_ite (fun h0 => ?_) (fun h0 => fz_j1 l hn))
  refine ev_bind (spec_FibonacciNumber_ev 40 (by omega)) ?_
  rw [fp_40]
  refine ev_ite (fun h1 => ?_) (fun h1 => fz_j1 l hn)
  have hv := zeck_isZ h0 h1
  refine ev_bind (impl_IsZeckendorf_ev _ (by omega)) (ev_pos hv.1 (ev_bind (impl_ZeckendorfValue_ev _ (by omega)) ?_))
  rw [hv.2, show (n != n) = false by simp]
  exact fz_j1 l hn


end Go.Proofs.Ytdcakddfibnllaa.Pure

/-! The row's word for a slice's size, under the name by which the row asks for it. -/
namespace Go.Proofs.Ytdcakddfibnllaa.PrintWords
open Go.ChangeShapes Go.WideShapes
theorem sized_ints {H : Type} {enc : TypeId × Value → H} {P : Program} {W : World} {base : Nat} {spare : Nat → Bool} {held : Bool} {t e : TypeId} {k : IntKind} {a : Option Addr} {len cap : Nat} {d : DataW H}
    {ps : List MemPlace} {ts : List TypeId} {ds : List (DataW H)} {j : Nat} (hsz : (DataW.weightsEach P ts ds).all (· ≤ reachBytes) = true) (ht : ts[j]? = some t) (hd : ds[j]? = some d) (hu : P.underlying t = some (.slice e))
    (he : P.underlying e = some (.int k)) (hc : P.cellsOf e = 1) {B : Nat} (hB : P.bytesOf e = B) (h : DataW.Trod enc P W base spare held t (.slice a len cap) d ps) : len * B ≤ 140737488351232 :=
  Go.Proofs.YtdcakddfibnllaaW.PrintWords.sized_ints hsz ht hd hu he hc hB h
end Go.Proofs.Ytdcakddfibnllaa.PrintWords
