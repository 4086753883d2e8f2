/- For every number the program's FibonacciWord answers what the reference's answers, in memory of its own. No conditions beyond the given statement. -/
import Derived.Test.YtcaloeiapmnoeaaPFnExactFibonacciWordx2
set_option linter.unusedVariables false
set_option linter.unusedSimpArgs false
namespace Go.Proofs.Ytcaloeiapmnoeaa.Pure
open Go.RowKit Go.Proofs.Ytcaloeiapmnoeaa.PFnExactFibonacciWord Go.Proofs.YtcaloeiapmnoeaaW.PrintWords Go.Proofs.YtcaloeiapmnoeaaW.PrintLast

theorem ev_succ {α : Type} {g : Nat → Option α} {r : α} (h : Ev (fun k => g (k + 1)) r) : Ev g r := Ev.step (fun _ => rfl) h
theorem ev_some {α : Type} {r r' : α} (h : r = r') : Ev (fun _ => some r) r' := by subst h; exact Ev.now r
theorem ev_pos {α : Type} {c : Prop} [Decidable c] {g f : Nat → Option α} {r : α} (hc : c) (h : Ev g r) : Ev (fun k => if c then g k else f k) r := by
  simp only [if_pos hc]; exact h
theorem ev_neg {α : Type} {c : Prop} [Decidable c] {g f : Nat → Option α} {r : α} (hc : ¬ c) (h : Ev f r) : Ev (fun k => if c then g k else f k) r := by
  simp only [if_neg hc]; exact h
theorem ev_ite {α : Type} {c : Prop} [Decidable c] {g f : Nat → Option α} {r : α} (h : c → Ev g r) (h' : ¬ c → Ev f r) : Ev (fun k => if c then g k else f k) r := by
  by_cases hc : c
  · exact ev_pos hc (h hc)
  · exact ev_neg hc (h' hc)
theorem ev_bind {α β : Type} {g : Nat → Option α} {f : Nat → α → Option β} {a : α} {r : β} (h : Ev g a) (k : Ev (fun n => f n a) r) : Ev (fun n => (g n).bind (f n)) r := Ev.bind h k
theorem ev_bind0 {α β : Type} {o : Option α} {f : Nat → α → Option β} {a : α} {r : β} (h : o = some a) (k : Ev (fun n => f n a) r) : Ev (fun n => o.bind (f n)) r := by
  subst h; exact k
theorem ev_eq {α : Type} {g : Nat → Option α} {r r' : α} (h : Ev g r) (e : r = r') : Ev g r' := e ▸ h
theorem ev_const {α : Type} {o : Option α} {r : α} (h : o = some r) : Ev (fun _ => o) r := by subst h; exact Ev.now r
theorem wr {n : Int} (h0 : -9223372036854775808 ≤ n) (h1 : n ≤ 9223372036854775807) : wrap64 n = n := by unfold wrap64; omega
theorem wr1 {i : Int} (h0 : 0 ≤ i) (h1 : i ≤ 4611686018427387904) : wrap64 (i + 1) = i + 1 := wr (by omega) (by omega)
theorem rd_nat (l : List Int) (i : Nat) : rd l (i : Int) = l.getD i 0 := by simp [rd]
theorem rd_get {l : List Int} {i : Nat} (h : i < l.length) : rd l (i : Int) = l[i] := by
  simp [rd, List.getD_eq_getElem?_getD, List.getElem?_eq_getElem h]
theorem drop_rd {l : List Int} {i : Nat} (h : i < l.length) : l.drop i = rd l (i : Int) :: l.drop (i + 1) := by
  rw [rd_get h]; exact List.drop_eq_getElem_cons h
theorem rd_mem {l : List Int} {i : Nat} (h : i < l.length) : rd l (i : Int) ∈ l := by rw [rd_get h]; exact List.getElem_mem h

theorem eqIntS_l0 (l : List Int) (hn : l.length ≤ 4611686018427387904) (d : Nat) : ∀ (i : Nat), i + d = l.length → Ev (fun k => laws_eqIntS.l0 k l l (i : Int)) true := by
  induction d with
  | zero =>
    intro i hi
    refine ev_succ ?_
    simp only [laws_eqIntS.l0]
    exact ev_neg (by omega) (ev_some rfl)
  | succ d ih =>
    intro i hi
    refine ev_succ ?_
    simp only [laws_eqIntS.l0, wr1 (show (0 : Int) ≤ (i : Int) by omega) (by omega)]
    exact ev_pos (by omega) (ev_pos (by omega) (ev_pos (by omega) (ev_pos trivial (ih (i + 1) (by omega)))))
theorem eqIntS_ev (l : List Int) (hn : l.length ≤ 4611686018427387904) : Ev (fun k => laws_eqIntS.f k l l) true := by
  simp only [laws_eqIntS.f]
  exact ev_pos trivial (eqIntS_l0 l hn l.length 0 (by omega))

def marks (m : Int) : Nat → List Int
  | 0 => []
  | n + 1 => m :: marks (m + 1) n
theorem marks_length (n : Nat) : ∀ m, (marks m n).length = n := by
  induction n with
  | zero => intro m; rfl
  | succ n ih => intro m; simp [marks, ih]
theorem marks_get (n : Nat) : ∀ (m : Int) (i : Nat), i < n → (marks m n)[i]? = some (m + i) := by
  induction n with
  | zero => intro m i h; omega
  | succ n ih =>
    intro m i h
    cases i with
    | zero => simp [marks]
    | succ i => simp only [marks, List.getElem?_cons_succ]; rw [ih (m + 1) i (by omega)]; congr 1; omega
theorem markIntS_l0 (n : Nat) (m : Int) (h0 : 0 ≤ m) (hm : m + n ≤ 4611686018427387904) (d : Nat) : ∀ (i : Nat) (x : List Int), x.length = n → i + d = n → (∀ j, j < i → x[j]? = some (m + j)) →
    Ev (fun k => laws_markIntS.l0 k x (m + i) (i : Int)) (m + n, marks m n) := by
  induction d with
  | zero =>
    intro i x hx hi hj
    refine ev_succ ?_
    simp only [laws_markIntS.l0]
    refine ev_neg (by omega) (ev_some ?_)
    have : i = n := by omega
    subst this
    congr 1
    apply List.ext_getElem?
    intro j
    by_cases h : j < i
    · rw [hj j h, marks_get i m j h]
    · rw [List.getElem?_eq_none (by omega), List.getElem?_eq_none (by rw [marks_length]; omega)]
  | succ d ih =>
    intro i x hx hi hj
    refine ev_succ ?_
    simp only [laws_markIntS.l0, wr1 (show (0 : Int) ≤ (i : Int) by omega) (by omega), wr1 (show (0 : Int) ≤ m + (i : Int) by omega) (by omega)]
    refine ev_pos (by omega) (ev_pos (by omega) ?_)
    have := ih (i + 1) (x.set i (m + i)) (by simp [hx]) (by omega) (by
      intro j hj'
      rw [List.getElem?_set]
      by_cases e : i = j
      · subst e
        rw [if_pos rfl, if_pos (by omega)]
      · rw [if_neg e]; exact hj j (by omega))
    rw [Int.toNat_natCast, Int.add_assoc]
    exact this
theorem markIntS_ev (l : List Int) (m : Int) (h0 : 0 ≤ m) (hm : m + l.length ≤ 4611686018427387904) : Ev (fun k => laws_markIntS.f k l m) (m + l.length, marks m l.length) := by
  simp only [laws_markIntS.f]
  have := markIntS_l0 l.length m h0 hm l.length 0 l rfl (by omega) (by intro j hj; omega)
  simpa using this
theorem heldIntS_l0 (n : Nat) (m : Int) (h0 : 0 ≤ m) (hm : m + n ≤ 4611686018427387904) (d : Nat) : ∀ (i : Nat), i + d = n → 
    Ev (fun k => laws_heldIntS.l0 k (marks m n) (m + i) (i : Int)) (m + n) := by
  induction d with
  | zero =>
    intro i hi
    refine ev_succ ?_
    simp only [laws_heldIntS.l0, marks_length]
    refine ev_neg (by omega) (ev_some ?_)
    omega
  | succ d ih =>
    intro i hi
    refine ev_succ ?_
    simp only [laws_heldIntS.l0, marks_length, wr1 (show (0 : Int) ≤ (i : Int) by omega) (by omega), wr1 (show (0 : Int) ≤ m + (i : Int) by omega) (by omega)]
    refine ev_pos (by omega) (ev_pos (by omega) (ev_pos ?_ ?_))
    · have h := marks_get n m i (by omega)
      rw [rd_nat, List.getD_eq_getElem?_getD, h]; rfl
    · have := ih (i + 1) (by omega)
      rw [Int.add_assoc]
      exact this
theorem heldIntS_ev (m : Int) (n : Nat) (h0 : 0 ≤ m) (hm : m + n ≤ 4611686018427387904) : Ev (fun k => laws_heldIntS.f k (marks m n) m) (m + n) := by
  simp only [laws_heldIntS.f]
  have := heldIntS_l0 n m h0 hm n 0 (by omega)
  simpa using this

theorem l1In_eq (a b c : Int) : spec_l1In.f a b c = some (decide (b ≤ a ∧ a ≤ c)) := by
  unfold spec_l1In.f
  by_cases h : a ≥ b
  · rw [if_pos h]; simp [show b ≤ a from h]
  · rw [if_neg h]; simp [show ¬ b ≤ a from h]

/-- the k-th word and the next one -/
def fibW : Nat → List Int × List Int
  | 0 => ([0], [0, 1])
  | k + 1 => ((fibW k).2, (fibW k).2 ++ (fibW k).1)
def fibA : Nat → List Int
  | 0 => [1]
  | k + 1 => (fibW k).1
theorem fibA_next (k : Nat) : (fibW k).2 = (fibW k).1 ++ fibA k := by
  cases k with
  | zero => rfl
  | succ k => rfl
theorem fibW_len (k : Nat) : (fibW k).1.length ≤ 2 ^ k ∧ (fibW k).2.length ≤ 2 ^ (k + 1) := by
  induction k with
  | zero => exact ⟨by decide, by decide⟩
  | succ k ih =>
    refine ⟨ih.2, ?_⟩
    simp only [fibW, List.length_append]
    have : 2 ^ (k + 1 + 1) = 2 ^ (k + 1) + 2 ^ (k + 1) := by rw [Nat.pow_succ]; omega
    have : 2 ^ (k + 1) = 2 ^ k + 2 ^ k := by rw [Nat.pow_succ]; omega
    omega
theorem fibW_len11 (k : Nat) (h : k ≤ 12) : (fibW k).1.length ≤ 4096 := Nat.le_trans (fibW_len k).1 (Nat.pow_le_pow_right (by omega) h : 2 ^ k ≤ 2 ^ 12)
theorem fibA_len11 (k : Nat) (h : k ≤ 12) : (fibA k).length ≤ 4096 := by
  cases k with
  | zero => decide
  | succ k => exact fibW_len11 k (by omega)
def fibRes (k : Int) : List Int × Bool := if 0 ≤ k ∧ k ≤ 11 then ((fibW k.toNat).1, true) else ([], false)
theorem spec_FibonacciWord_l0 (n : Nat) (hn : n ≤ 11) (d : Nat) : ∀ (i : Nat), i + d = n →
    Ev (fun k => spec_FibonacciWord.l0 k (n : Int) (fibA i) (fibW i).1 (i : Int)) ((fibW n).1, true) := by
  induction d with
  | zero =>
    intro i hi
    refine ev_succ ?_
    simp only [spec_FibonacciWord.l0, Option.bind_some]
    refine ev_neg (by omega) (ev_pos ?_ (ev_some ?_))
    · have := fibW_len11 i (by omega); simp only [List.length_nil]; omega
    · rw [show i = n by omega]; simp
  | succ d ih =>
    intro i hi
    have := ih (i + 1) (by omega)
    refine ev_succ ?_
    simp only [spec_FibonacciWord.l0, Option.bind_some, wr1 (show (0 : Int) ≤ (i : Int) by omega) (by omega), List.nil_append]
    have h1 := fibW_len11 i (by omega)
    have h2 := fibA_len11 i (by omega)
    refine ev_pos (by omega) (ev_pos (by simp only [List.length_nil]; omega) (ev_pos (by omega) ?_))
    rw [← fibA_next]
    exact this
theorem spec_FibonacciWord_ev (n : Int) : Ev (fun k => spec_FibonacciWord.f k n) (fibRes n) := by
  simp only [spec_FibonacciWord.f, l1In_eq, Option.bind_some]
  unfold fibRes
  by_cases h : 0 ≤ n ∧ n ≤ 11
  · refine ev_pos (by simpa using h) ?_
    rw [if_pos h]
    obtain ⟨m, rfl⟩ := Int.eq_ofNat_of_zero_le h.1
    exact spec_FibonacciWord_l0 m (by omega) m 0 (by omega)
  · refine ev_neg (by simpa using h) (ev_some ?_)
    rw [if_neg h]
theorem impl_FibonacciWord_l0 (n : Nat) (hn : n ≤ 11) (d : Nat) : ∀ (i : Nat), i + d = n →
    Ev (fun k => impl_FibonacciWord.l0 k (fibW i).1 (fibW i).2 (n : Int) (i : Int)) ((fibW n).1, true) := by
  induction d with
  | zero =>
    intro i hi
    refine ev_succ ?_
    simp only [impl_FibonacciWord.l0]
    refine ev_neg (by omega) (ev_some ?_)
    rw [show i = n by omega]
  | succ d ih =>
    intro i hi
    have := ih (i + 1) (by omega)
    refine ev_succ ?_
    simp only [impl_FibonacciWord.l0, Option.bind_some, wr1 (show (0 : Int) ≤ (i : Int) by omega) (by omega), List.nil_append]
    have h1 := fibW_len11 i (by omega)
    have h2 := fibW_len11 (i + 1) (by omega)
    simp only [fibW] at h2
    refine ev_pos (by omega) (ev_pos (by simp only [List.length_nil]; omega) (ev_pos (by omega) ?_))
    exact this
theorem impl_FibonacciWord_ev (n : Int) : Ev (fun k => impl_FibonacciWord.f k n) (fibRes n) := by
  simp only [impl_FibonacciWord.f]
  unfold fibRes
  have no : ¬ (0 ≤ n ∧ n ≤ 11) → Ev (fun k => impl_FibonacciWord.j0 k n true) (if 0 ≤ n ∧ n ≤ 11 then ((fibW n.toNat).1, true) else ([], false)) := by
    intro h
    refine ev_succ ?_
    simp only [impl_FibonacciWord.j0]
    exact ev_pos trivial (ev_some (by rw [if_neg h]))
  refine ev_ite (fun h => no (by omega)) (fun h => ?_)
  by_cases h2 : n > 11
  · rw [decide_eq_true h2]; exact no (by omega)
  · rw [decide_eq_false h2]
    refine ev_succ ?_
    simp only [impl_FibonacciWord.j0]
    refine ev_neg (by simp) ?_
    rw [if_pos (by omega)]
    obtain ⟨m, rfl⟩ := Int.eq_ofNat_of_zero_le (show 0 ≤ n by omega)
    exact impl_FibonacciWord_l0 m (by omega) m 0 (by omega)
theorem fibRes_length (n : Int) : (fibRes n).1.length ≤ 4096 := by
  unfold fibRes
  split
  · exact fibW_len11 _ (by omega)
  · simp

-- SAY: For every number the program's FibonacciWord answers what the reference's answers, in memory of its own. No conditions beyond the given statement.
theorem FnExactFibonacciWord : laws_FnExactFibonacciWord.Pure := by
  intro n hn
  refine Ev.rounds (g := fun k => laws_FnExactFibonacciWord.f k n) ?_
  have hl := fibRes_length n
  have hS := spec_FibonacciWord_ev n
  have hI := impl_FibonacciWord_ev n
  obtain ⟨l, b, hr⟩ : ∃ l b, fibRes n = (l, b) := ⟨_, _, rfl⟩
  rw [hr] at hl hS hI
  simp only at hl
  simp only [laws_FnExactFibonacciWord.f]
  refine ev_bind hS (ev_bind hI ?_)
  refine ev_bind (eqIntS_ev l (by omega)) (ev_pos rfl (ev_succ ?_))
  simp only [laws_FnExactFibonacciWord.j0]
  refine ev_neg (by simp) ?_
  refine ev_bind (markIntS_ev l 1 (by omega) (by omega)) ?_
  refine ev_bind (heldIntS_ev 1 l.length (by omega) (by omega)) ?_
  refine ev_neg (by omega) (ev_pos rfl ?_)
  refine ev_bind hI (ev_bind (eqIntS_ev l (by omega)) (ev_pos rfl (ev_succ ?_)))
  simp only [laws_FnExactFibonacciWord.j1]
  refine ev_neg (by simp) ?_
  refine ev_bind (heldIntS_ev 1 l.length (by omega) (by omega)) ?_
  exact ev_neg (by omega) (ev_pos rfl (ev_some rfl))

end Go.Proofs.Ytcaloeiapmnoeaa.Pure
