/- For every number the program's FibonacciLetter answers what the reference's answers. No conditions beyond the given statement. -/
import Derived.Test.YtdcakddfibnllaaPFnExactFibonacciLetterx2
set_option linter.unusedVariables false
set_option linter.unusedSimpArgs false
namespace Go.Proofs.Ytdcakddfibnllaa.Pure
open Go.RowKit Go.Proofs.Ytdcakddfibnllaa.PFnExactFibonacciLetter Go.Proofs.YtdcakddfibnllaaW.PrintWords Go.Proofs.YtdcakddfibnllaaW.PrintLast

theorem ev_succ {α : Type} {g : Nat → Option α} {r : α} (h : Ev (fun k => g (k + 1)) r) : Ev g r := Ev.step (fun _ => rfl) h
theorem ev_some {α : Type} {r r' : α} (h : r = r') : Ev (fun _ => some r) r' := by subst h; exact Ev.now r
theorem ev_pos {α : Type} {c : Prop} [Decidable c] {g f : Nat → Option α} {r : α} (hc : c) (h : Ev g r) : Ev (fun k => if c then g k else f k) r := by
  simp only [if_pos hc]; exact h
theorem ev_neg {α : Type} {c : Prop} [Decidable c] {g f : Nat → Option α} {r : α} (hc : ¬ c) (h : Ev f r) : Ev (fun k => if c then g k else f k) r := by
  simp only [if_neg hc]; exact h
theorem ev_ite {α : Type} {c : Prop} [Decidable c] {g f : Nat → Option α} {r : α} (h : c → Ev g r) (h' : ¬ c → Ev f r) : Ev (fun k => if c then g k else f k) r := by
  by_cases hc : c
  · exact ev_pos hc (h hc)
  · exact ev_neg hc (h' hc)
theorem ev_bind {α β : Type} {g : Nat → Option α} {f : Nat → α → Option β} {a : α} {r : β} (h : Ev g a) (k : Ev (fun n => f n a) r) : Ev (fun n => (g n).bind (f n)) r := Ev.bind h k
theorem ev_bind0 {α β : Type} {o : Option α} {f : Nat → α → Option β} {a : α} {r : β} (h : o = some a) (k : Ev (fun n => f n a) r) : Ev (fun n => o.bind (f n)) r := by
  subst h; exact k
theorem ev_eq {α : Type} {g : Nat → Option α} {r r' : α} (h : Ev g r) (e : r = r') : Ev g r' := e ▸ h
theorem ev_const {α : Type} {o : Option α} {r : α} (h : o = some r) : Ev (fun _ => o) r := by subst h; exact Ev.now r
theorem wr {n : Int} (h0 : -9223372036854775808 ≤ n) (h1 : n ≤ 9223372036854775807) : wrap64 n = n := by unfold wrap64; omega
theorem wr1 {i : Int} (h0 : 0 ≤ i) (h1 : i ≤ 4611686018427387904) : wrap64 (i + 1) = i + 1 := wr (by omega) (by omega)
theorem wr_nat {n : Nat} (h : n ≤ 4611686018427387904) : wrap64 (n : Int) = n := wr (by omega) (by omega)
theorem rd_nat (l : List Int) (i : Nat) : rd l (i : Int) = l.getD i 0 := by simp [rd]
theorem rd_get {l : List Int} {i : Nat} (h : i < l.length) : rd l (i : Int) = l[i] := by
  simp [rd, List.getD_eq_getElem?_getD, List.getElem?_eq_getElem h]
theorem drop_rd {l : List Int} {i : Nat} (h : i < l.length) : l.drop i = rd l (i : Int) :: l.drop (i + 1) := by
  rw [rd_get h]; exact List.drop_eq_getElem_cons h
theorem rd_mem {l : List Int} {i : Nat} (h : i < l.length) : rd l (i : Int) ∈ l := by rw [rd_get h]; exact List.getElem_mem h


theorem l1In_eq (a b c : Int) : spec_l1In.f a b c = some (decide (b ≤ a ∧ a ≤ c)) := by
  unfold spec_l1In.f
  by_cases h : a ≥ b
  · rw [if_pos h]; simp [show b ≤ a from h]
  · rw [if_neg h]; simp [show ¬ b ≤ a from h]


def fp : Nat → Int × Int
  | 0 => (1, 2)
  | n + 1 => ((fp n).2, (fp n).1 + (fp n).2)
def fibs : List Int := [1, 2, 3, 5, 8, 13, 21, 34, 55, 89, 144, 233, 377, 610, 987, 1597, 2584, 4181, 6765, 10946, 17711, 28657, 46368, 75025, 121393, 196418, 317811, 514229, 832040, 1346269, 2178309, 3524578, 5702887, 9227465, 14930352, 24157817, 39088169, 63245986, 102334155, 165580141, 267914296]
theorem fibs_all : ∀ k : Fin 41, rd fibs ((k.val : Nat) : Int) = (fp k.val).1 := by decide +kernel
theorem fibs_at {k : Nat} (h : k < 41) : rd fibs (k : Int) = (fp k).1 := fibs_all ⟨k, h⟩
theorem fp_all : ∀ k : Fin 41, 0 < (fp k.val).1 ∧ (fp k.val).1 < 1000000000 ∧ 0 < (fp k.val).2 ∧ (fp k.val).2 < 1000000000 := by decide +kernel
theorem fp_bound {k : Nat} (h : k < 41) : 0 < (fp k).1 ∧ (fp k).1 < 1000000000 ∧ 0 < (fp k).2 ∧ (fp k).2 < 1000000000 := fp_all ⟨k, h⟩
theorem fp_40 : (fp 40).1 = 267914296 := by decide +kernel
theorem spec_FibonacciNumber_l0 (k : Nat) (hk : k ≤ 40) (d : Nat) : ∀ (i : Nat), i + d = k → Ev (fun m => spec_FibonacciNumber.l0 m (k : Int) (fp i).1 (fp i).2 (i : Int)) (fp k).1 := by
  induction d with
  | zero =>
    intro i hi
    obtain rfl : i = k := by omega
    refine ev_succ ?_
    simp only [spec_FibonacciNumber.l0]
    exact ev_neg (by omega) (ev_some rfl)
  | succ d ih =>
    intro i hi
    have hb := fp_bound (k := i) (by omega)
    refine ev_succ ?_
    simp only [spec_FibonacciNumber.l0]
    rw [wr1 (by omega) (by omega), wr (show -9223372036854775808 ≤ (fp i).1 + (fp i).2 by omega) (by omega), show ((i : Int) + 1) = ((i + 1 : Nat) : Int) by omega]
    exact ev_pos (by omega) (ih (i + 1) (by omega))
theorem spec_FibonacciNumber_ev (k : Nat) (hk : k ≤ 40) : Ev (fun m => spec_FibonacciNumber.f m (k : Int)) (fp k).1 := by
  simp only [spec_FibonacciNumber.f, l1In_eq, Option.bind_some]
  exact ev_pos (by simp; omega) (spec_FibonacciNumber_l0 k hk k 0 (by omega))
def zk : Nat → Int → List Int → List Int
  | 0, _, acc => acc
  | j + 1, n, acc => if (fp j).1 ≤ n then zk j (n - (fp j).1) (acc ++ [1]) else if 0 < acc.length then zk j n (acc ++ [0]) else zk j n acc
theorem zk_bits : ∀ (j : Nat) (n : Int) (acc : List Int), (∀ x ∈ acc, x = 0 ∨ x = 1) → ∀ x ∈ zk j n acc, x = 0 ∨ x = 1
  | 0, _, _, h => h
  | j + 1, n, acc, h => by
    unfold zk
    split
    · exact zk_bits j _ _ (by intro x hx; rcases List.mem_append.1 hx with h1 | h1; exact h x h1; simp at h1; exact .inr h1)
    · split
      · exact zk_bits j _ _ (by intro x hx; rcases List.mem_append.1 hx with h1 | h1; exact h x h1; simp at h1; exact .inl h1)
      · exact zk_bits j _ _ h
theorem zk_length : ∀ (j : Nat) (n : Int) (acc : List Int), (zk j n acc).length ≤ acc.length + j
  | 0, _, _ => by simp [zk]
  | j + 1, n, acc => by
    unfold zk
    split
    · have := zk_length j (n - (fp j).1) (acc ++ [1]); simp at this; omega
    · split
      · have := zk_length j n (acc ++ [0]); simp at this; omega
      · have := zk_length j n acc; omega
theorem spec_ZeckendorfOf_l0 (j : Nat) : ∀ (n : Int) (acc : List Int), j ≤ 40 → 0 ≤ n → n ≤ 1000000000 → acc.length + j ≤ 100 → Ev (fun m => spec_ZeckendorfOf.l0 m n acc ((j : Int) - 1)) (zk j n acc) := by
  induction j with
  | zero =>
    intro n acc _ _ _ _
    refine ev_succ ?_
    simp only [spec_ZeckendorfOf.l0]
    exact ev_neg (by omega) (ev_some (by simp [zk]))
  | succ j ih =>
    intro n acc hj h0 h1 ha
    have hb := fp_bound (k := j) (by omega)
    have he : ((j + 1 : Nat) : Int) - 1 = (j : Int) := by omega
    have hw : wrap64 ((j : Int) - 1) = (j : Int) - 1 := wr (by omega) (by omega)
    refine ev_succ ?_
    simp only [spec_ZeckendorfOf.l0, he, hw]
    refine ev_pos (by omega) (ev_bind (spec_FibonacciNumber_ev j (by omega)) ?_)
    unfold zk
    by_cases h : (fp j).1 ≤ n
    · rw [if_pos h]
      refine ev_pos h (ev_bind (spec_FibonacciNumber_ev j (by omega)) (ev_pos (by omega) ?_))
      rw [wr (show -9223372036854775808 ≤ n - (fp j).1 by omega) (by omega)]
      exact ih _ _ (by omega) (by omega) (by omega) (by simp; omega)
    · rw [if_neg h]
      refine ev_neg h ?_
      by_cases h2 : 0 < acc.length
      · rw [if_pos h2]
        exact ev_pos (by omega) (ev_pos (by omega) (ih _ _ (by omega) h0 h1 (by simp; omega)))
      · rw [if_neg h2]
        exact ev_neg (by omega) (ih _ _ (by omega) h0 h1 (by omega))
theorem impl_ZeckendorfOf_l0 (j : Nat) : ∀ (n : Int) (acc : List Int), j ≤ 40 → 0 ≤ n → n ≤ 1000000000 → acc.length + j ≤ 100 → Ev (fun m => impl_ZeckendorfOf.l0 m n acc fibs ((j : Int) - 1)) (zk j n acc) := by
  have hfl : fibs.length = 41 := rfl
  induction j with
  | zero =>
    intro n acc _ _ _ _
    refine ev_succ ?_
    simp only [impl_ZeckendorfOf.l0]
    exact ev_neg (by omega) (ev_some (by simp [zk]))
  | succ j ih =>
    intro n acc hj h0 h1 ha
    have hb := fp_bound (k := j) (by omega)
    have he : ((j + 1 : Nat) : Int) - 1 = (j : Int) := by omega
    have hw : wrap64 ((j : Int) - 1) = (j : Int) - 1 := wr (by omega) (by omega)
    refine ev_succ ?_
    simp only [impl_ZeckendorfOf.l0, he, hw, fibs_at (show j < 41 by omega)]
    refine ev_pos (by omega) (ev_pos (by omega) (ev_pos (by omega) ?_))
    unfold zk
    by_cases h : (fp j).1 ≤ n
    · rw [if_pos h]
      refine ev_pos h (ev_pos (by omega) ?_)
      rw [wr (show -9223372036854775808 ≤ n - (fp j).1 by omega) (by omega)]
      exact ih _ _ (by omega) (by omega) (by omega) (by simp; omega)
    · rw [if_neg h]
      refine ev_neg h ?_
      by_cases h2 : 0 < acc.length
      · rw [if_pos h2]
        exact ev_pos (by omega) (ev_pos (by omega) (ih _ _ (by omega) h0 h1 (by simp; omega)))
      · rw [if_neg h2]
        exact ev_neg (by omega) (ih _ _ (by omega) h0 h1 (by omega))
def zeckRes (n : Int) : List Int := if 0 ≤ n ∧ n < 267914296 then zk 40 n [] else []
theorem impl_hasForm_eq (n : Int) : impl_hasForm.f n = some (decide (0 ≤ n ∧ n < 267914296)) := by
  unfold impl_hasForm.f
  by_cases h : n ≥ 0
  · rw [if_pos h, show impl_FibonacciNumber.f 40 = some 267914296 by decide +kernel]
    simp [show 0 ≤ n from h]
  · rw [if_neg h]; simp [show ¬ 0 ≤ n from h]
theorem spec_ZeckendorfOf_ev (n : Int) : Ev (fun m => spec_ZeckendorfOf.f m n) (zeckRes n) := by
  simp only [spec_ZeckendorfOf.f, Option.bind_some]
  have no : ¬ (0 ≤ n ∧ n < 267914296) → Ev (fun m => spec_ZeckendorfOf.j0 m n [] true) (zeckRes n) := by
    intro h
    refine ev_succ ?_
    simp only [spec_ZeckendorfOf.j0]
    exact ev_pos trivial (ev_some (by unfold zeckRes; rw [if_neg h]))
  refine ev_ite (fun h => no (by omega)) (fun h => ev_bind (spec_FibonacciNumber_ev 40 (by omega)) ?_)
  rw [fp_40]
  by_cases h2 : n ≥ 267914296
  · rw [decide_eq_true h2]; exact no (by omega)
  · rw [decide_eq_false h2]
    refine ev_succ ?_
    simp only [spec_ZeckendorfOf.j0]
    refine ev_neg (by simp) ?_
    unfold zeckRes
    rw [if_pos ⟨by omega, by omega⟩]
    exact spec_ZeckendorfOf_l0 40 n [] (by omega) (by omega) (by omega) (by simp)
theorem impl_ZeckendorfOf_ev (n : Int) : Ev (fun m => impl_ZeckendorfOf.f m n) (zeckRes n) := by
  simp only [impl_ZeckendorfOf.f, Option.bind_some, impl_hasForm_eq]
  unfold zeckRes
  by_cases h : 0 ≤ n ∧ n < 267914296
  · rw [if_pos h]
    refine ev_pos (by simpa using h) ?_
    exact impl_ZeckendorfOf_l0 40 n [] (by omega) (by omega) (by omega) (by simp)
  · rw [if_neg h]
    exact ev_neg (by simpa using h) (ev_some rfl)
theorem zeckRes_length (n : Int) : (zeckRes n).length ≤ 40 := by
  unfold zeckRes
  split
  · have := zk_length 40 n []; simpa using this
  · simp
theorem zeckRes_bits (n : Int) : ∀ x ∈ zeckRes n, x = 0 ∨ x = 1 := by
  unfold zeckRes
  split
  · exact zk_bits 40 n [] (by simp)
  · simp


-- SAY: For every number the program's FibonacciLetter answers what the reference's answers. No conditions beyond the given statement.
def fibLet (n : Int) : Int := if 0 ≤ n ∧ n < 267914296 then (if (zeckRes n).length = 0 then 0 else rd (zeckRes n) (((zeckRes n).length - 1 : Nat) : Int)) else -1
theorem spec_FibonacciLetter_ev (n : Int) : Ev (fun k => spec_FibonacciLetter.f k n) (fibLet n) := by
  simp only [spec_FibonacciLetter.f]
  have no : ¬ (0 ≤ n ∧ n < 267914296) → Ev (fun m => spec_FibonacciLetter.j0 m n true) (fibLet n) := by
    intro h
    refine ev_succ ?_
    simp only [spec_FibonacciLetter.j0]
    exact ev_pos trivial (ev_some (by unfold fibLet; rw [if_neg h]))
  refine ev_ite (fun h => no (by omega)) (fun h => ev_bind (spec_FibonacciNumber_ev 40 (by omega)) ?_)
  rw [fp_40]
  by_cases h2 : n ≥ 267914296
  · rw [decide_eq_true h2]; exact no (by omega)
  · rw [decide_eq_false h2]
    refine ev_succ ?_
    simp only [spec_FibonacciLetter.j0]
    refine ev_neg (by simp) (ev_bind (spec_ZeckendorfOf_ev n) ?_)
    have hl := zeckRes_length n
    unfold fibLet
    rw [if_pos (show 0 ≤ n ∧ n < 267914296 from ⟨by omega, by omega⟩)]
    by_cases h3 : (zeckRes n).length = 0
    · rw [if_pos h3]; exact ev_neg (by omega) (ev_some rfl)
    · rw [if_neg h3]
      have hw : wrap64 (((zeckRes n).length : Int) - 1) = (((zeckRes n).length - 1 : Nat) : Int) := by rw [wr (by omega) (by omega)]; omega
      rw [hw]
      have hbit := zeckRes_bits n _ (rd_mem (l := zeckRes n) (i := (zeckRes n).length - 1) (by omega))
      refine ev_pos (by omega) (ev_pos (by omega) (ev_pos (by omega) (ev_ite (fun h4 => ev_some h4.symm) (fun h4 => ev_some ?_))))
      rcases hbit with e | e
      · exact e.symm
      · exact absurd e h4
theorem impl_FibonacciLetter_ev (n : Int) : Ev (fun k => impl_FibonacciLetter.f k n) (fibLet n) := by
  simp only [impl_FibonacciLetter.f, impl_hasForm_eq, Option.bind_some]
  unfold fibLet
  by_cases h : 0 ≤ n ∧ n < 267914296
  · rw [if_pos h]
    have hl := zeckRes_length n
    refine ev_pos (by simpa using h) (ev_bind (impl_ZeckendorfOf_ev n) ?_)
    by_cases h3 : (zeckRes n).length = 0
    · rw [if_pos h3]; exact ev_pos (by omega) (ev_some rfl)
    · rw [if_neg h3]
      have hw : wrap64 (((zeckRes n).length : Int) - 1) = (((zeckRes n).length - 1 : Nat) : Int) := by rw [wr (by omega) (by omega)]; omega
      rw [hw]
      exact ev_neg (by omega) (ev_pos (by omega) (ev_pos (by omega) (ev_some rfl)))
  · rw [if_neg h]
    exact ev_neg (by simpa using h) (ev_some rfl)
theorem FnExactFibonacciLetter : laws_FnExactFibonacciLetter.Pure := by
  intro n _
  refine Ev.rounds (g := fun k => laws_FnExactFibonacciLetter.f k n) ?_
  simp only [laws_FnExactFibonacciLetter.f]
  exact ev_bind (spec_FibonacciLetter_ev n) (ev_bind (impl_FibonacciLetter_ev n) (ev_pos rfl (ev_some rfl)))


end Go.Proofs.Ytdcakddfibnllaa.Pure
