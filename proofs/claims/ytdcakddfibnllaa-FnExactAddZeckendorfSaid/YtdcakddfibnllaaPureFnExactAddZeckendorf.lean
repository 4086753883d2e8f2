/- For all digits the program's AddZeckendorf answers what the reference's answers, leaves its arguments as they were, and answers in memory of its own. No conditions beyond the given statement. -/
import Derived.Test.YtdcakddfibnllaaPFnExactAddZeckendorfx5
import Derived.Test.YtdcakddfibnllaaWSized
set_option linter.unusedVariables false
set_option linter.unusedSimpArgs false
namespace Go.Proofs.Ytdcakddfibnllaa.Pure
open Go.RowKit Go.Proofs.Ytdcakddfibnllaa.PFnExactAddZeckendorf Go.Proofs.YtdcakddfibnllaaW.PrintWords Go.Proofs.YtdcakddfibnllaaW.PrintLast

theorem ev_succ {α : Type} {g : Nat → Option α} {r : α} (h : Ev (fun k => g (k + 1)) r) : Ev g r := Ev.step (fun _ => rfl) h
theorem ev_some {α : Type} {r r' : α} (h : r = r') : Ev (fun _ => some r) r' := by subst h; exact Ev.now r
theorem ev_pos {α : Type} {c : Prop} [Decidable c] {g f : Nat → Option α} {r : α} (hc : c) (h : Ev g r) : Ev (fun k => if c then g k else f k) r := by
  simp only [if_pos hc]; exact h
theorem ev_neg {α : Type} {c : Prop} [Decidable c] {g f : Nat → Option α} {r : α} (hc : ¬ c) (h : Ev f r) : Ev (fun k => if c then g k else f k) r := by
  simp only [if_neg hc]; exact h
theorem ev_ite {α : Type} {c : Prop} [Decidable c] {g f : Nat → Option α} {r : α} (h : c → Ev g r) (h' : ¬ c → Ev f r) : Ev (fun k => if c then g k else f k) r := by
  by_cases hc : c
  · exact ev_pos hc (h hc)
  · exact ev_neg hc (h' hc)
theorem ev_bind {α β : Type} {g : Nat → Option α} {f : Nat → α → Option β} {a : α} {r : β} (h : Ev g a) (k : Ev (fun n => f n a) r) : Ev (fun n => (g n).bind (f n)) r := Ev.bind h k
theorem ev_bind0 {α β : Type} {o : Option α} {f : Nat → α → Option β} {a : α} {r : β} (h : o = some a) (k : Ev (fun n => f n a) r) : Ev (fun n => o.bind (f n)) r := by
  subst h; exact k
theorem ev_eq {α : Type} {g : Nat → Option α} {r r' : α} (h : Ev g r) (e : r = r') : Ev g r' := e ▸ h
theorem ev_const {α : Type} {o : Option α} {r : α} (h : o = some r) : Ev (fun _ => o) r := by subst h; exact Ev.now r
theorem wr {n : Int} (h0 : -9223372036854775808 ≤ n) (h1 : n ≤ 9223372036854775807) : wrap64 n = n := by unfold wrap64; omega
theorem wr1 {i : Int} (h0 : 0 ≤ i) (h1 : i ≤ 4611686018427387904) : wrap64 (i + 1) = i + 1 := wr (by omega) (by omega)
theorem wr_nat {n : Nat} (h : n ≤ 4611686018427387904) : wrap64 (n : Int) = n := wr (by omega) (by omega)
theorem rd_nat (l : List Int) (i : Nat) : rd l (i : Int) = l.getD i 0 := by simp [rd]
theorem rd_get {l : List Int} {i : Nat} (h : i < l.length) : rd l (i : Int) = l[i] := by
  simp [rd, List.getD_eq_getElem?_getD, List.getElem?_eq_getElem h]
theorem drop_rd {l : List Int} {i : Nat} (h : i < l.length) : l.drop i = rd l (i : Int) :: l.drop (i + 1) := by
  rw [rd_get h]; exact List.drop_eq_getElem_cons h
theorem rd_mem {l : List Int} {i : Nat} (h : i < l.length) : rd l (i : Int) ∈ l := by rw [rd_get h]; exact List.getElem_mem h


theorem toIntS_l0 (l : List Int) (hn : l.length ≤ 4611686018427387904) (d : Nat) : ∀ (i : Nat) (x : List Int), i + d = l.length → x.length = l.length → (∀ j, j < i → x[j]? = l[j]?) →
    Ev (fun k => laws_toIntS.l0 k l x (i : Int)) l := by
  induction d with
  | zero =>
    intro i x hi hx hj
    refine ev_succ ?_
    simp only [laws_toIntS.l0]
    refine ev_neg (by omega) (ev_some ?_)
    apply List.ext_getElem?
    intro j
    by_cases h : j < i
    · exact hj j h
    · rw [List.getElem?_eq_none (by omega), List.getElem?_eq_none (by omega)]
  | succ d ih =>
    intro i x hi hx hj
    refine ev_succ ?_
    simp only [laws_toIntS.l0, wr1 (show (0 : Int) ≤ (i : Int) by omega) (by omega)]
    refine ev_pos (by omega) (ev_pos (by omega) (ev_pos (by omega) ?_))
    refine ih (i + 1) _ (by omega) (by simp [hx]) ?_
    intro j hj'
    rw [Int.toNat_natCast, rd_get (by omega), List.getElem?_set]
    by_cases e : i = j
    · subst e
      rw [if_pos rfl, if_pos (by omega), List.getElem?_eq_getElem (by omega)]
    · rw [if_neg e]; exact hj j (by omega)
theorem toIntS_ev (l : List Int) (hn : l.length ≤ 35184372088832) : Ev (fun k => laws_toIntS.f k l) l := by
  simp only [laws_toIntS.f]
  refine ev_pos (by omega) (ev_pos (by omega) ?_)
  exact toIntS_l0 l (by omega) l.length 0 _ (by omega) (by simp) (by intro j hj; omega)


theorem eqIntS_l0 (l : List Int) (hn : l.length ≤ 4611686018427387904) (d : Nat) : ∀ (i : Nat), i + d = l.length → Ev (fun k => laws_eqIntS.l0 k l l (i : Int)) true := by
  induction d with
  | zero =>
    intro i hi
    refine ev_succ ?_
    simp only [laws_eqIntS.l0]
    exact ev_neg (by omega) (ev_some rfl)
  | succ d ih =>
    intro i hi
    refine ev_succ ?_
    simp only [laws_eqIntS.l0, wr1 (show (0 : Int) ≤ (i : Int) by omega) (by omega)]
    exact ev_pos (by omega) (ev_pos (by omega) (ev_pos (by omega) (ev_pos trivial (ih (i + 1) (by omega)))))
theorem eqIntS_ev (l : List Int) (hn : l.length ≤ 4611686018427387904) : Ev (fun k => laws_eqIntS.f k l l) true := by
  simp only [laws_eqIntS.f]
  exact ev_pos trivial (eqIntS_l0 l hn l.length 0 (by omega))


def marks (m : Int) : Nat → List Int
  | 0 => []
  | n + 1 => m :: marks (m + 1) n
theorem marks_length (n : Nat) : ∀ m, (marks m n).length = n := by
  induction n with
  | zero => intro m; rfl
  | succ n ih => intro m; simp [marks, ih]
theorem marks_get (n : Nat) : ∀ (m : Int) (i : Nat), i < n → (marks m n)[i]? = some (m + i) := by
  induction n with
  | zero => intro m i h; omega
  | succ n ih =>
    intro m i h
    cases i with
    | zero => simp [marks]
    | succ i => simp only [marks, List.getElem?_cons_succ]; rw [ih (m + 1) i (by omega)]; congr 1; omega
theorem markIntS_l0 (n : Nat) (m : Int) (h0 : 0 ≤ m) (hm : m + n ≤ 4611686018427387904) (d : Nat) : ∀ (i : Nat) (x : List Int), x.length = n → i + d = n → (∀ j, j < i → x[j]? = some (m + j)) →
    Ev (fun k => laws_markIntS.l0 k x (m + i) (i : Int)) (m + n, marks m n) := by
  induction d with
  | zero =>
    intro i x hx hi hj
    refine ev_succ ?_
    simp only [laws_markIntS.l0]
    refine ev_neg (by omega) (ev_some ?_)
    have : i = n := by omega
    subst this
    congr 1
    apply List.ext_getElem?
    intro j
    by_cases h : j < i
    · rw [hj j h, marks_get i m j h]
    · rw [List.getElem?_eq_none (by omega), List.getElem?_eq_none (by rw [marks_length]; omega)]
  | succ d ih =>
    intro i x hx hi hj
    refine ev_succ ?_
    simp only [laws_markIntS.l0, wr1 (show (0 : Int) ≤ (i : Int) by omega) (by omega), wr1 (show (0 : Int) ≤ m + (i : Int) by omega) (by omega)]
    refine ev_pos (by omega) (ev_pos (by omega) ?_)
    have := ih (i + 1) (x.set i (m + i)) (by simp [hx]) (by omega) (by
      intro j hj'
      rw [List.getElem?_set]
      by_cases e : i = j
      · subst e
        rw [if_pos rfl, if_pos (by omega)]
      · rw [if_neg e]; exact hj j (by omega))
    rw [Int.toNat_natCast, Int.add_assoc]
    exact this
theorem markIntS_ev (l : List Int) (m : Int) (h0 : 0 ≤ m) (hm : m + l.length ≤ 4611686018427387904) : Ev (fun k => laws_markIntS.f k l m) (m + l.length, marks m l.length) := by
  simp only [laws_markIntS.f]
  have := markIntS_l0 l.length m h0 hm l.length 0 l rfl (by omega) (by intro j hj; omega)
  simpa using this
theorem heldIntS_l0 (n : Nat) (m : Int) (h0 : 0 ≤ m) (hm : m + n ≤ 4611686018427387904) (d : Nat) : ∀ (i : Nat), i + d = n → 
    Ev (fun k => laws_heldIntS.l0 k (marks m n) (m + i) (i : Int)) (m + n) := by
  induction d with
  | zero =>
    intro i hi
    refine ev_succ ?_
    simp only [laws_heldIntS.l0, marks_length]
    refine ev_neg (by omega) (ev_some ?_)
    omega
  | succ d ih =>
    intro i hi
    refine ev_succ ?_
    simp only [laws_heldIntS.l0, marks_length, wr1 (show (0 : Int) ≤ (i : Int) by omega) (by omega), wr1 (show (0 : Int) ≤ m + (i : Int) by omega) (by omega)]
    refine ev_pos (by omega) (ev_pos (by omega) (ev_pos ?_ ?_))
    · have h := marks_get n m i (by omega)
      rw [rd_nat, List.getD_eq_getElem?_getD, h]; rfl
    · have := ih (i + 1) (by omega)
      rw [Int.add_assoc]
      exact this
theorem heldIntS_ev (m : Int) (n : Nat) (h0 : 0 ≤ m) (hm : m + n ≤ 4611686018427387904) : Ev (fun k => laws_heldIntS.f k (marks m n) m) (m + n) := by
  simp only [laws_heldIntS.f]
  have := heldIntS_l0 n m h0 hm n 0 (by omega)
  simpa using this


theorem l1In_eq (a b c : Int) : spec_l1In.f a b c = some (decide (b ≤ a ∧ a ≤ c)) := by
  unfold spec_l1In.f
  by_cases h : a ≥ b
  · rw [if_pos h]; simp [show b ≤ a from h]
  · rw [if_neg h]; simp [show ¬ b ≤ a from h]


def fp : Nat → Int × Int
  | 0 => (1, 2)
  | n + 1 => ((fp n).2, (fp n).1 + (fp n).2)
def fibs : List Int := [1, 2, 3, 5, 8, 13, 21, 34, 55, 89, 144, 233, 377, 610, 987, 1597, 2584, 4181, 6765, 10946, 17711, 28657, 46368, 75025, 121393, 196418, 317811, 514229, 832040, 1346269, 2178309, 3524578, 5702887, 9227465, 14930352, 24157817, 39088169, 63245986, 102334155, 165580141, 267914296]
theorem fibs_all : ∀ k : Fin 41, rd fibs ((k.val : Nat) : Int) = (fp k.val).1 := by decide +kernel
theorem fibs_at {k : Nat} (h : k < 41) : rd fibs (k : Int) = (fp k).1 := fibs_all ⟨k, h⟩
theorem fp_all : ∀ k : Fin 41, 0 < (fp k.val).1 ∧ (fp k.val).1 < 1000000000 ∧ 0 < (fp k.val).2 ∧ (fp k.val).2 < 1000000000 := by decide +kernel
theorem fp_bound {k : Nat} (h : k < 41) : 0 < (fp k).1 ∧ (fp k).1 < 1000000000 ∧ 0 < (fp k).2 ∧ (fp k).2 < 1000000000 := fp_all ⟨k, h⟩
theorem fp_40 : (fp 40).1 = 267914296 := by decide +kernel
theorem spec_FibonacciNumber_l0 (k : Nat) (hk : k ≤ 40) (d : Nat) : ∀ (i : Nat), i + d = k → Ev (fun m => spec_FibonacciNumber.l0 m (k : Int) (fp i).1 (fp i).2 (i : Int)) (fp k).1 := by
  induction d with
  | zero =>
    intro i hi
    obtain rfl : i = k := by omega
    refine ev_succ ?_
    simp only [spec_FibonacciNumber.l0]
    exact ev_neg (by omega) (ev_some rfl)
  | succ d ih =>
    intro i hi
    have hb := fp_bound (k := i) (by omega)
    refine ev_succ ?_
    simp only [spec_FibonacciNumber.l0]
    rw [wr1 (by omega) (by omega), wr (show -9223372036854775808 ≤ (fp i).1 + (fp i).2 by omega) (by omega), show ((i : Int) + 1) = ((i + 1 : Nat) : Int) by omega]
    exact ev_pos (by omega) (ih (i + 1) (by omega))
theorem spec_FibonacciNumber_ev (k : Nat) (hk : k ≤ 40) : Ev (fun m => spec_FibonacciNumber.f m (k : Int)) (fp k).1 := by
  simp only [spec_FibonacciNumber.f, l1In_eq, Option.bind_some]
  exact ev_pos (by simp; omega) (spec_FibonacciNumber_l0 k hk k 0 (by omega))
def zk : Nat → Int → List Int → List Int
  | 0, _, acc => acc
  | j + 1, n, acc => if (fp j).1 ≤ n then zk j (n - (fp j).1) (acc ++ [1]) else if 0 < acc.length then zk j n (acc ++ [0]) else zk j n acc
theorem zk_bits : ∀ (j : Nat) (n : Int) (acc : List Int), (∀ x ∈ acc, x = 0 ∨ x = 1) → ∀ x ∈ zk j n acc, x = 0 ∨ x = 1
  | 0, _, _, h => h
  | j + 1, n, acc, h => by
    unfold zk
    split
    · exact zk_bits j _ _ (by intro x hx; rcases List.mem_append.1 hx with h1 | h1; exact h x h1; simp at h1; exact .inr h1)
    · split
      · exact zk_bits j _ _ (by intro x hx; rcases List.mem_append.1 hx with h1 | h1; exact h x h1; simp at h1; exact .inl h1)
      · exact zk_bits j _ _ h
theorem zk_length : ∀ (j : Nat) (n : Int) (acc : List Int), (zk j n acc).length ≤ acc.length + j
  | 0, _, _ => by simp [zk]
  | j + 1, n, acc => by
    unfold zk
    split
    · have := zk_length j (n - (fp j).1) (acc ++ [1]); simp at this; omega
    · split
      · have := zk_length j n (acc ++ [0]); simp at this; omega
      · have := zk_length j n acc; omega
theorem spec_ZeckendorfOf_l0 (j : Nat) : ∀ (n : Int) (acc : List Int), j ≤ 40 → 0 ≤ n → n ≤ 1000000000 → acc.length + j ≤ 100 → Ev (fun m => spec_ZeckendorfOf.l0 m n acc ((j : Int) - 1)) (zk j n acc) := by
  induction j with
  | zero =>
    intro n acc _ _ _ _
    refine ev_succ ?_
    simp only [spec_ZeckendorfOf.l0]
    exact ev_neg (by omega) (ev_some (by simp [zk]))
  | succ j ih =>
    intro n acc hj h0 h1 ha
    have hb := fp_bound (k := j) (by omega)
    have he : ((j + 1 : Nat) : Int) - 1 = (j : Int) := by omega
    have hw : wrap64 ((j : Int) - 1) = (j : Int) - 1 := wr (by omega) (by omega)
    refine ev_succ ?_
    simp only [spec_ZeckendorfOf.l0, he, hw]
    refine ev_pos (by omega) (ev_bind (spec_FibonacciNumber_ev j (by omega)) ?_)
    unfold zk
    by_cases h : (fp j).1 ≤ n
    · rw [if_pos h]
      refine ev_pos h (ev_bind (spec_FibonacciNumber_ev j (by omega)) (ev_pos (by omega) ?_))
      rw [wr (show -9223372036854775808 ≤ n - (fp j).1 by omega) (by omega)]
      exact ih _ _ (by omega) (by omega) (by omega) (by simp; omega)
    · rw [if_neg h]
      refine ev_neg h ?_
      by_cases h2 : 0 < acc.length
      · rw [if_pos h2]
        exact ev_pos (by omega) (ev_pos (by omega) (ih _ _ (by omega) h0 h1 (by simp; omega)))
      · rw [if_neg h2]
        exact ev_neg (by omega) (ih _ _ (by omega) h0 h1 (by omega))
theorem impl_ZeckendorfOf_l0 (j : Nat) : ∀ (n : Int) (acc : List Int), j ≤ 40 → 0 ≤ n → n ≤ 1000000000 → acc.length + j ≤ 100 → Ev (fun m => impl_ZeckendorfOf.l0 m n acc fibs ((j : Int) - 1)) (zk j n acc) := by
  have hfl : fibs.length = 41 := rfl
  induction j with
  | zero =>
    intro n acc _ _ _ _
    refine ev_succ ?_
    simp only [impl_ZeckendorfOf.l0]
    exact ev_neg (by omega) (ev_some (by simp [zk]))
  | succ j ih =>
    intro n acc hj h0 h1 ha
    have hb := fp_bound (k := j) (by omega)
    have he : ((j + 1 : Nat) : Int) - 1 = (j : Int) := by omega
    have hw : wrap64 ((j : Int) - 1) = (j : Int) - 1 := wr (by omega) (by omega)
    refine ev_succ ?_
    simp only [impl_ZeckendorfOf.l0, he, hw, fibs_at (show j < 41 by omega)]
    refine ev_pos (by omega) (ev_pos (by omega) (ev_pos (by omega) ?_))
    unfold zk
    by_cases h : (fp j).1 ≤ n
    · rw [if_pos h]
      refine ev_pos h (ev_pos (by omega) ?_)
      rw [wr (show -9223372036854775808 ≤ n - (fp j).1 by omega) (by omega)]
      exact ih _ _ (by omega) (by omega) (by omega) (by simp; omega)
    · rw [if_neg h]
      refine ev_neg h ?_
      by_cases h2 : 0 < acc.length
      · rw [if_pos h2]
        exact ev_pos (by omega) (ev_pos (by omega) (ih _ _ (by omega) h0 h1 (by simp; omega)))
      · rw [if_neg h2]
        exact ev_neg (by omega) (ih _ _ (by omega) h0 h1 (by omega))
def zeckRes (n : Int) : List Int := if 0 ≤ n ∧ n < 267914296 then zk 40 n [] else []
theorem impl_hasForm_eq (n : Int) : impl_hasForm.f n = some (decide (0 ≤ n ∧ n < 267914296)) := by
  unfold impl_hasForm.f
  by_cases h : n ≥ 0
  · rw [if_pos h, show impl_FibonacciNumber.f 40 = some 267914296 by decide +kernel]
    simp [show 0 ≤ n from h]
  · rw [if_neg h]; simp [show ¬ 0 ≤ n from h]
theorem spec_ZeckendorfOf_ev (n : Int) : Ev (fun m => spec_ZeckendorfOf.f m n) (zeckRes n) := by
  simp only [spec_ZeckendorfOf.f, Option.bind_some]
  have no : ¬ (0 ≤ n ∧ n < 267914296) → Ev (fun m => spec_ZeckendorfOf.j0 m n [] true) (zeckRes n) := by
    intro h
    refine ev_succ ?_
    simp only [spec_ZeckendorfOf.j0]
    exact ev_pos trivial (ev_some (by unfold zeckRes; rw [if_neg h]))
  refine ev_ite (fun h => no (by omega)) (fun h => ev_bind (spec_FibonacciNumber_ev 40 (by omega)) ?_)
  rw [fp_40]
  by_cases h2 : n ≥ 267914296
  · rw [decide_eq_true h2]; exact no (by omega)
  · rw [decide_eq_false h2]
    refine ev_succ ?_
    simp only [spec_ZeckendorfOf.j0]
    refine ev_neg (by simp) ?_
    unfold zeckRes
    rw [if_pos ⟨by omega, by omega⟩]
    exact spec_ZeckendorfOf_l0 40 n [] (by omega) (by omega) (by omega) (by simp)
theorem impl_ZeckendorfOf_ev (n : Int) : Ev (fun m => impl_ZeckendorfOf.f m n) (zeckRes n) := by
  simp only [impl_ZeckendorfOf.f, Option.bind_some, impl_hasForm_eq]
  unfold zeckRes
  by_cases h : 0 ≤ n ∧ n < 267914296
  · rw [if_pos h]
    refine ev_pos (by simpa using h) ?_
    exact impl_ZeckendorfOf_l0 40 n [] (by omega) (by omega) (by omega) (by simp)
  · rw [if_neg h]
    exact ev_neg (by simpa using h) (ev_some rfl)
theorem zeckRes_length (n : Int) : (zeckRes n).length ≤ 40 := by
  unfold zeckRes
  split
  · have := zk_length 40 n []; simpa using this
  · simp
theorem zeckRes_bits (n : Int) : ∀ x ∈ zeckRes n, x = 0 ∨ x = 1 := by
  unfold zeckRes
  split
  · exact zk_bits 40 n [] (by simp)
  · simp


def zG (l : List Int) : Nat → Nat → Bool
  | _, 0 => true
  | i, n + 1 => decide (0 ≤ rd l (i : Int) ∧ rd l (i : Int) ≤ 1) && (!(decide (0 < i) && decide (rd l (i : Int) = 1) && decide (rd l ((i - 1 : Nat) : Int) = 1)) && zG l (i + 1) n)
theorem impl_IsZeckendorf_l0 (l : List Int) (hl : l.length ≤ 4611686018427387904) (d : Nat) : ∀ (i : Nat), i + d = l.length → Ev (fun k => impl_IsZeckendorf.l0 k l l (l.length : Int) (i : Int)) (zG l i d) := by
  induction d with
  | zero =>
    intro i hi
    refine ev_succ ?_
    simp only [impl_IsZeckendorf.l0]
    exact ev_neg (by omega) (ev_some rfl)
  | succ d ih =>
    intro i hi
    have hn := ih (i + 1) (by omega)
    refine ev_succ ?_
    simp only [impl_IsZeckendorf.l0]
    rw [wr1 (by omega) (by omega), show ((i : Int) + 1) = ((i + 1 : Nat) : Int) by omega]
    refine ev_pos (by omega) (ev_pos (by omega) (ev_pos (by omega) ?_))
    unfold zG
    by_cases h1 : rd l (i : Int) < 0
    · exact ev_pos h1 (ev_some (by rw [decide_eq_false (by omega)]; rfl))
    · refine ev_neg h1 ?_
      by_cases h2 : rd l (i : Int) > 1
      · exact ev_pos h2 (ev_some (by rw [decide_eq_false (by omega)]; rfl))
      · refine ev_neg h2 ?_
        rw [decide_eq_true (show 0 ≤ rd l (i : Int) ∧ rd l (i : Int) ≤ 1 by omega), Bool.true_and]
        by_cases h3 : 0 < i
        · refine ev_pos (by omega) ?_
          rw [decide_eq_true h3, Bool.true_and]
          by_cases h4 : rd l (i : Int) = 1
          · refine ev_pos h4 ?_
            rw [decide_eq_true h4, Bool.true_and, show wrap64 ((i : Int) - 1) = ((i - 1 : Nat) : Int) by rw [wr (by omega) (by omega)]; omega]
            refine ev_pos (by omega) (ev_pos (by omega) ?_)
            by_cases h5 : rd l ((i - 1 : Nat) : Int) = 1
            · exact ev_pos h5 (ev_some (by rw [decide_eq_true h5]; rfl))
            · refine ev_neg h5 (ev_eq hn ?_)
              rw [decide_eq_false h5]; rfl
          · refine ev_neg h4 (ev_eq hn ?_)
            rw [decide_eq_false h4]; rfl
        · refine ev_neg (by omega) (ev_eq hn ?_)
          rw [decide_eq_false h3]; rfl
theorem spec_IsZeckendorf_l0 (l : List Int) (hl : l.length ≤ 4611686018427387904) (d : Nat) : ∀ (i : Nat), 0 < i → i + d = l.length → Ev (fun k => spec_IsZeckendorf.l0 k l (i : Int)) (zG l i d && decide ((l.length : Int) ≤ 40)) := by
  induction d with
  | zero =>
    intro i h0 hi
    refine ev_succ ?_
    simp only [spec_IsZeckendorf.l0]
    exact ev_neg (by omega) (ev_some (by simp [zG]))
  | succ d ih =>
    intro i h0 hi
    have hn := ih (i + 1) (by omega) (by omega)
    refine ev_succ ?_
    simp only [spec_IsZeckendorf.l0, l1In_eq, Option.bind_some]
    rw [wr1 (by omega) (by omega), show ((i : Int) + 1) = ((i + 1 : Nat) : Int) by omega]
    refine ev_pos (by omega) (ev_pos (by omega) ?_)
    unfold zG
    by_cases h1 : 0 ≤ rd l (i : Int) ∧ rd l (i : Int) ≤ 1
    · rw [decide_eq_true h1, Bool.true_and, decide_eq_true h0, Bool.true_and]
      refine ev_pos rfl (ev_pos (by omega) ?_)
      by_cases h4 : rd l (i : Int) = 1
      · refine ev_pos h4 ?_
        rw [decide_eq_true h4, Bool.true_and, show wrap64 ((i : Int) - 1) = ((i - 1 : Nat) : Int) by rw [wr (by omega) (by omega)]; omega]
        refine ev_pos (by omega) (ev_pos (by omega) ?_)
        by_cases h5 : rd l ((i - 1 : Nat) : Int) = 1
        · exact ev_pos h5 (ev_some (by rw [decide_eq_true h5]; rfl))
        · refine ev_neg h5 (ev_neg (by omega) (ev_eq hn ?_))
          rw [decide_eq_false h5]; rfl
      · refine ev_neg h4 (ev_neg (by omega) (ev_eq hn ?_))
        rw [decide_eq_false h4]; rfl
    · rw [decide_eq_false h1]
      exact ev_neg (by simp) (ev_some (by simp))
def isZ (l : List Int) : Bool := decide (l.length ≤ 40) && (decide (l.length = 0) || decide (rd l 0 = 1)) && zG l 0 l.length
theorem impl_IsZeckendorf_ev (l : List Int) (hl : l.length ≤ 4611686018427387904) : Ev (fun k => impl_IsZeckendorf.f k l) (isZ l) := by
  simp only [impl_IsZeckendorf.f]
  unfold isZ
  have no : Ev (fun k => impl_IsZeckendorf.j0 k l true) false := by
    refine ev_succ ?_
    simp only [impl_IsZeckendorf.j0]
    exact ev_pos trivial (ev_some rfl)
  have yes : Ev (fun k => impl_IsZeckendorf.j0 k l false) (zG l 0 l.length) := by
    refine ev_succ ?_
    simp only [impl_IsZeckendorf.j0]
    exact ev_neg (by simp) (impl_IsZeckendorf_l0 l hl l.length 0 (Nat.zero_add _))
  by_cases h1 : l.length ≤ 40
  · refine ev_neg (by omega) ?_
    rw [decide_eq_true h1, Bool.true_and]
    by_cases h2 : l.length = 0
    · exact ev_neg (by omega) (ev_eq yes (by rw [decide_eq_true h2]; rfl))
    · refine ev_pos (by omega) (ev_pos (by omega) ?_)
      rw [decide_eq_false h2, Bool.false_or]
      by_cases h3 : rd l 0 = 1
      · rw [show (rd l 0 != 1) = false by simp [h3]]
        exact ev_eq yes (by rw [decide_eq_true h3]; rfl)
      · rw [show (rd l 0 != 1) = true by simp [h3]]
        exact ev_eq no (by rw [decide_eq_false h3]; rfl)
  · exact ev_pos (by omega) (ev_eq no (by rw [decide_eq_false h1]; rfl))
theorem spec_IsZeckendorf_ev (l : List Int) (hl : l.length ≤ 4611686018427387904) : Ev (fun k => spec_IsZeckendorf.f k l) (isZ l) := by
  simp only [spec_IsZeckendorf.f]
  refine ev_succ ?_
  simp only [spec_IsZeckendorf.l0, l1In_eq, Option.bind_some]
  unfold isZ
  by_cases h0 : l.length = 0
  · exact ev_neg (by omega) (ev_some (by simp [h0, zG]))
  · obtain ⟨n, hn⟩ : ∃ n, l.length = n + 1 := ⟨l.length - 1, by omega⟩
    have hs := spec_IsZeckendorf_l0 l hl n 1 (by omega) (by omega)
    have hd : decide ((l.length : Int) ≤ 40) = decide (l.length ≤ 40) := by simp only [decide_eq_decide]; omega
    rw [hd] at hs
    have hz : zG l 0 l.length = (decide (0 ≤ rd l 0 ∧ rd l 0 ≤ 1) && zG l 1 n) := by
      rw [hn]
      show (decide (0 ≤ rd l ((0 : Nat) : Int) ∧ rd l ((0 : Nat) : Int) ≤ 1) && (!(decide (0 < 0) && decide (rd l ((0 : Nat) : Int) = 1) && decide (rd l ((0 - 1 : Nat) : Int) = 1)) && zG l (0 + 1) n)) = _
      simp
    rw [hz, decide_eq_false h0, Bool.false_or]
    refine ev_pos (by omega) (ev_pos (by omega) ?_)
    have hw : wrap64 (0 + 1) = ((1 : Nat) : Int) := by rw [wr (by omega) (by omega)]; rfl
    rw [hw]
    by_cases h1 : 0 ≤ rd l 0 ∧ rd l 0 ≤ 1
    · refine ev_pos (by simpa using h1) (ev_neg (by omega) (ev_pos trivial (ev_pos (by omega) ?_)))
      rw [decide_eq_true h1, Bool.true_and]
      by_cases h2 : rd l 0 = 0
      · exact ev_pos h2 (ev_some (by rw [decide_eq_false (show ¬ rd l 0 = 1 by omega)]; simp))
      · refine ev_neg h2 (ev_eq hs ?_)
        rw [decide_eq_true (show rd l 0 = 1 by omega), Bool.and_true, Bool.and_comm]
    · refine ev_neg (by simpa using h1) (ev_some ?_)
      rw [decide_eq_false h1]; simp
def zv (l : List Int) : Nat → Nat → Int → Int
  | _, 0, acc => acc
  | i, n + 1, acc => zv l (i + 1) n (acc + rd l (i : Int) * (fp (l.length - 1 - i)).1)
theorem zG_cons {l : List Int} {i n : Nat} (h : zG l i (n + 1) = true) : (0 ≤ rd l (i : Int) ∧ rd l (i : Int) ≤ 1) ∧ zG l (i + 1) n = true := by
  unfold zG at h
  simp only [Bool.and_eq_true, decide_eq_true_eq] at h
  exact ⟨h.1, h.2.2⟩
theorem zv_term {l : List Int} {i : Nat} (hl : l.length ≤ 40) (h : 0 ≤ rd l (i : Int) ∧ rd l (i : Int) ≤ 1) : 0 ≤ rd l (i : Int) * (fp (l.length - 1 - i)).1 ∧ rd l (i : Int) * (fp (l.length - 1 - i)).1 ≤ 1000000000 := by
  have hb := fp_bound (k := l.length - 1 - i) (by omega)
  rcases (show rd l (i : Int) = 0 ∨ rd l (i : Int) = 1 by omega) with e | e <;> rw [e] <;> omega
theorem spec_ZeckendorfValue_l0 (l : List Int) (hl : l.length ≤ 40) (d : Nat) : ∀ (i : Nat) (acc : Int), i + d = l.length → zG l i d = true → 0 ≤ acc → acc ≤ 1000000000 * i → Ev (fun k => spec_ZeckendorfValue.l0 k l acc (i : Int)) (zv l i d acc) ∧ 0 ≤ zv l i d acc ∧ zv l i d acc ≤ 1000000000 * 40 := by
  induction d with
  | zero =>
    intro i acc hi hz h0 h1
    refine ⟨ev_succ ?_, h0, by simp only [zv]; omega⟩
    simp only [spec_ZeckendorfValue.l0]
    exact ev_neg (by omega) (ev_some rfl)
  | succ d ih =>
    intro i acc hi hz h0 h1
    obtain ⟨hd, hz2⟩ := zG_cons hz
    have ht := zv_term (i := i) hl hd
    have hn := ih (i + 1) (acc + rd l (i : Int) * (fp (l.length - 1 - i)).1) (by omega) hz2 (by omega) (by omega)
    refine ⟨ev_succ ?_, hn.2.1, hn.2.2⟩
    simp only [spec_ZeckendorfValue.l0]
    rw [wr1 (by omega) (by omega), show ((i : Int) + 1) = ((i + 1 : Nat) : Int) by omega, show wrap64 (wrap64 ((l.length : Int) - 1) - (i : Int)) = ((l.length - 1 - i : Nat) : Int) by rw [wr (show -9223372036854775808 ≤ (l.length : Int) - 1 by omega) (by omega), wr (by omega) (by omega)]; omega]
    refine ev_pos (by omega) (ev_pos (by omega) (ev_bind (spec_FibonacciNumber_ev (l.length - 1 - i) (by omega)) ?_))
    rw [wr (show -9223372036854775808 ≤ rd l (i : Int) * (fp (l.length - 1 - i)).1 by omega) (by omega), wr (show -9223372036854775808 ≤ acc + rd l (i : Int) * (fp (l.length - 1 - i)).1 by omega) (by omega)]
    exact hn.1
theorem impl_ZeckendorfValue_l0 (l : List Int) (hl : l.length ≤ 40) (d : Nat) : ∀ (i : Nat) (acc : Int), i + d = l.length → zG l i d = true → 0 ≤ acc → acc ≤ 1000000000 * i → Ev (fun k => impl_ZeckendorfValue.l0 k l fibs acc l (l.length : Int) (i : Int)) (zv l i d acc) := by
  have hfl : fibs.length = 41 := rfl
  induction d with
  | zero =>
    intro i acc hi hz h0 h1
    refine ev_succ ?_
    simp only [impl_ZeckendorfValue.l0]
    exact ev_neg (by omega) (ev_some rfl)
  | succ d ih =>
    intro i acc hi hz h0 h1
    obtain ⟨hd, hz2⟩ := zG_cons hz
    have ht := zv_term (i := i) hl hd
    have hn := ih (i + 1) (acc + rd l (i : Int) * (fp (l.length - 1 - i)).1) (by omega) hz2 (by omega) (by omega)
    refine ev_succ ?_
    simp only [impl_ZeckendorfValue.l0]
    rw [wr1 (by omega) (by omega), show ((i : Int) + 1) = ((i + 1 : Nat) : Int) by omega, show wrap64 (wrap64 ((l.length : Int) - 1) - (i : Int)) = ((l.length - 1 - i : Nat) : Int) by rw [wr (show -9223372036854775808 ≤ (l.length : Int) - 1 by omega) (by omega), wr (by omega) (by omega)]; omega]
    rw [fibs_at (show l.length - 1 - i < 41 by omega)]
    refine ev_pos (by omega) (ev_pos (by omega) (ev_pos (by omega) (ev_pos (by omega) (ev_pos (by omega) ?_))))
    rw [wr (show -9223372036854775808 ≤ rd l (i : Int) * (fp (l.length - 1 - i)).1 by omega) (by omega), wr (show -9223372036854775808 ≤ acc + rd l (i : Int) * (fp (l.length - 1 - i)).1 by omega) (by omega)]
    exact hn
def zVal (l : List Int) : Int := if isZ l = true then zv l 0 l.length 0 else -1
theorem isZ_parts {l : List Int} (h : isZ l = true) : l.length ≤ 40 ∧ zG l 0 l.length = true := by
  unfold isZ at h
  simp only [Bool.and_eq_true, decide_eq_true_eq] at h
  exact ⟨h.1.1, h.2⟩
theorem zVal_bound {l : List Int} (h : isZ l = true) : 0 ≤ zVal l ∧ zVal l ≤ 1000000000 * 40 := by
  obtain ⟨h1, h2⟩ := isZ_parts h
  unfold zVal
  rw [if_pos h]
  exact (spec_ZeckendorfValue_l0 l h1 l.length 0 0 (Nat.zero_add _) h2 (by omega) (by omega)).2
theorem spec_ZeckendorfValue_ev (l : List Int) (hl : l.length ≤ 4611686018427387904) : Ev (fun k => spec_ZeckendorfValue.f k l) (zVal l) := by
  simp only [spec_ZeckendorfValue.f]
  refine ev_bind (spec_IsZeckendorf_ev l hl) ?_
  unfold zVal
  by_cases h : isZ l = true
  · obtain ⟨h1, h2⟩ := isZ_parts h
    rw [if_pos h]
    exact ev_pos h (spec_ZeckendorfValue_l0 l h1 l.length 0 0 (Nat.zero_add _) h2 (by omega) (by omega)).1
  · rw [if_neg h]
    exact ev_neg h (ev_some rfl)
theorem impl_ZeckendorfValue_ev (l : List Int) (hl : l.length ≤ 4611686018427387904) : Ev (fun k => impl_ZeckendorfValue.f k l) (zVal l) := by
  simp only [impl_ZeckendorfValue.f]
  refine ev_bind (impl_IsZeckendorf_ev l hl) ?_
  unfold zVal
  by_cases h : isZ l = true
  · obtain ⟨h1, h2⟩ := isZ_parts h
    rw [if_pos h]
    exact ev_pos h (impl_ZeckendorfValue_l0 l h1 l.length 0 0 (Nat.zero_add _) h2 (by omega) (by omega))
  · rw [if_neg h]
    exact ev_neg h (ev_some rfl)
def formRes (n : Int) : List Int × Bool := if 0 ≤ n ∧ n < 267914296 then (zeckRes n, true) else ([], false)
theorem impl_formOf_ev (n : Int) : Ev (fun k => impl_formOf.f k n) (formRes n) := by
  simp only [impl_formOf.f, impl_hasForm_eq, Option.bind_some]
  unfold formRes
  by_cases h : 0 ≤ n ∧ n < 267914296
  · rw [if_pos h]
    exact ev_pos (by simpa using h) (ev_bind (impl_ZeckendorfOf_ev n) (ev_some rfl))
  · rw [if_neg h]
    exact ev_neg (by simpa using h) (ev_some rfl)
def nextRes (l : List Int) : List Int × Bool := if isZ l = true then formRes (zVal l + 1) else ([], false)
theorem formRes_length (n : Int) : (formRes n).1.length ≤ 40 := by
  unfold formRes
  split
  · exact zeckRes_length n
  · simp
theorem nextRes_length (l : List Int) : (nextRes l).1.length ≤ 40 := by
  unfold nextRes
  split
  · exact formRes_length _
  · simp
theorem zVal_no {l : List Int} (h : ¬ isZ l = true) : zVal l = -1 := by unfold zVal; rw [if_neg h]

-- SAY: For all digits the program's AddZeckendorf answers what the reference's answers, leaves its arguments as they were, and answers in memory of its own. No conditions beyond the given statement.
def addZRes (a b : List Int) : List Int × Bool := if isZ a = true ∧ isZ b = true then formRes (zVal a + zVal b) else ([], false)
theorem addZRes_length (a b : List Int) : (addZRes a b).1.length ≤ 40 := by
  unfold addZRes
  split
  · exact formRes_length _
  · simp
theorem spec_AddZeckendorf_ev (a b : List Int) (ha : a.length ≤ 4611686018427387904) (hb : b.length ≤ 4611686018427387904) : Ev (fun k => spec_AddZeckendorf.f k a b) (addZRes a b) := by
  simp only [spec_AddZeckendorf.f]
  refine ev_bind (spec_ZeckendorfValue_ev a ha) (ev_bind (spec_ZeckendorfValue_ev b hb) ?_)
  unfold addZRes
  by_cases h1 : isZ a = true
  · have hb1 := zVal_bound h1
    refine ev_neg (by omega) ?_
    by_cases h2 : isZ b = true
    · have hb2 := zVal_bound h2
      rw [if_pos (And.intro h1 h2)]
      refine ev_neg (by omega) (ev_bind (spec_FibonacciNumber_ev 40 (by omega)) ?_)
      rw [fp_40, wr (show -9223372036854775808 ≤ zVal a + zVal b by omega) (by omega)]
      unfold formRes
      by_cases h3 : zVal a + zVal b ≥ 267914296
      · rw [if_neg (show ¬ (0 ≤ zVal a + zVal b ∧ zVal a + zVal b < 267914296) by omega)]
        exact ev_pos h3 (ev_some rfl)
      · rw [if_pos (show 0 ≤ zVal a + zVal b ∧ zVal a + zVal b < 267914296 by omega)]
        exact ev_neg h3 (ev_bind (spec_ZeckendorfOf_ev _) (ev_some rfl))
    · rw [if_neg (fun e => h2 e.2), zVal_no h2]
      exact ev_pos (by omega) (ev_some rfl)
  · rw [if_neg (fun e => h1 e.1), zVal_no h1]
    exact ev_pos (by omega) (ev_some rfl)
theorem impl_AddZeckendorf_ev (a b : List Int) (ha : a.length ≤ 4611686018427387904) (hb : b.length ≤ 4611686018427387904) : Ev (fun k => impl_AddZeckendorf.f k a b) (addZRes a b) := by
  simp only [impl_AddZeckendorf.f]
  have no : ¬ (isZ a = true ∧ isZ b = true) → Ev (fun k => impl_AddZeckendorf.j0 k a b true) (addZRes a b) := by
    intro h
    refine ev_succ ?_
    simp only [impl_AddZeckendorf.j0]
    exact ev_pos trivial (ev_some (by unfold addZRes; rw [if_neg h]))
  refine ev_bind (impl_IsZeckendorf_ev a ha) (ev_ite (fun h1 => ?_) (fun h1 => no (fun e => h1 e.1)))
  refine ev_bind (impl_IsZeckendorf_ev b hb) ?_
  by_cases h2 : isZ b = true
  · have hb1 := zVal_bound h1
    have hb2 := zVal_bound h2
    rw [h2]
    refine ev_succ ?_
    simp only [impl_AddZeckendorf.j0]
    refine ev_neg (by simp) (ev_bind (impl_ZeckendorfValue_ev a ha) (ev_bind (impl_ZeckendorfValue_ev b hb) ?_))
    unfold addZRes
    rw [if_pos (And.intro h1 h2), wr (show -9223372036854775808 ≤ zVal a + zVal b by omega) (by omega)]
    exact ev_bind (impl_formOf_ev _) (ev_some rfl)
  · rw [show isZ b = false by simpa using h2]
    exact no (fun e => h2 e.2)
theorem FnExactAddZeckendorf : laws_FnExactAddZeckendorf.Pure := by
  intro a c ha0 ha1 hawf hc0 hc1 hcwf
  refine Ev.rounds (g := fun k => laws_FnExactAddZeckendorf.f k a c) ?_
  simp only [laws_FnExactAddZeckendorf.f]
  refine ev_ite (fun h => ev_some rfl) (fun hlen => ?_)
  refine ev_ite (fun h => ev_some rfl) (fun hlen2 => ?_)
  have hl := addZRes_length a c
  have hS := spec_AddZeckendorf_ev a c (by omega) (by omega)
  have hI := impl_AddZeckendorf_ev a c (by omega) (by omega)
  obtain ⟨l, b, hr⟩ : ∃ l b, addZRes a c = (l, b) := ⟨_, _, rfl⟩
  rw [hr] at hl hS hI
  simp only at hl
  refine ev_bind (toIntS_ev a (by omega)) (ev_bind (toIntS_ev c (by omega)) (ev_bind hS ?_))
  refine ev_bind (toIntS_ev a (by omega)) (ev_bind (toIntS_ev c (by omega)) (ev_bind hI ?_))
  refine ev_bind (eqIntS_ev l (by omega)) (ev_pos rfl (ev_succ ?_))
  simp only [laws_FnExactAddZeckendorf.j0]
  refine ev_neg (by simp) ?_
  refine ev_bind (toIntS_ev a (by omega)) (ev_bind (eqIntS_ev a (by omega)) (ev_pos rfl ?_))
  refine ev_bind (toIntS_ev c (by omega)) (ev_bind (eqIntS_ev c (by omega)) (ev_pos rfl ?_))
  refine ev_bind (markIntS_ev a 1 (by omega) (by omega)) ?_
  refine ev_bind (markIntS_ev c (1 + a.length) (by omega) (by omega)) (ev_neg (by simp only; omega) ?_)
  refine ev_bind (eqIntS_ev l (by omega)) (ev_pos rfl (ev_succ ?_))
  simp only [laws_FnExactAddZeckendorf.j1]
  refine ev_neg (by simp) ?_
  refine ev_bind (markIntS_ev l 1 (by omega) (by omega)) ?_
  refine ev_bind (heldIntS_ev 1 l.length (by omega) (by omega)) ?_
  refine ev_neg (by omega) (ev_pos rfl ?_)
  refine ev_bind (toIntS_ev a (by omega)) (ev_bind (toIntS_ev c (by omega)) (ev_bind hI ?_))
  refine ev_bind (eqIntS_ev l (by omega)) (ev_pos rfl (ev_succ ?_))
  simp only [laws_FnExactAddZeckendorf.j2]
  refine ev_neg (by simp) ?_
  refine ev_bind (heldIntS_ev 1 l.length (by omega) (by omega)) ?_
  exact ev_neg (by omega) (ev_pos rfl (ev_some rfl))


end Go.Proofs.Ytdcakddfibnllaa.Pure

/-! The row's word for a slice's size, under the name by which the row asks for it. -/
namespace Go.Proofs.Ytdcakddfibnllaa.PrintWords
open Go.ChangeShapes Go.WideShapes
theorem sized_ints {H : Type} {enc : TypeId × Value → H} {P : Program} {W : World} {base : Nat} {spare : Nat → Bool} {held : Bool} {t e : TypeId} {k : IntKind} {a : Option Addr} {len cap : Nat} {d : DataW H}
    {ps : List MemPlace} {ts : List TypeId} {ds : List (DataW H)} {j : Nat} (hsz : (DataW.weightsEach P ts ds).all (· ≤ reachBytes) = true) (ht : ts[j]? = some t) (hd : ds[j]? = some d) (hu : P.underlying t = some (.slice e))
    (he : P.underlying e = some (.int k)) (hc : P.cellsOf e = 1) {B : Nat} (hB : P.bytesOf e = B) (h : DataW.Trod enc P W base spare held t (.slice a len cap) d ps) : len * B ≤ 140737488351232 :=
  Go.Proofs.YtdcakddfibnllaaW.PrintWords.sized_ints hsz ht hd hu he hc hB h
end Go.Proofs.Ytdcakddfibnllaa.PrintWords
