/- For every list the program's CentralWord answers what the reference's answers, leaves its argument alone, and its answer lies in memory of its own. No conditions beyond the given statement. -/
import Derived.Test.YtihbelkchcedpaaPFnExactCentralWordx4
import Derived.Test.YtihbelkchcedpaaWSized
import Derived.Test.YtihbelkchcedpaaWSized
set_option linter.unusedVariables false
set_option linter.unusedSimpArgs false
namespace Go.Proofs.Ytihbelkchcedpaa.Pure
open Go.RowKit Go.Proofs.Ytihbelkchcedpaa.PFnExactCentralWord Go.Proofs.YtihbelkchcedpaaW.PrintWords Go.Proofs.YtihbelkchcedpaaW.PrintLast

theorem ev_succ {α : Type} {g : Nat → Option α} {r : α} (h : Ev (fun k => g (k + 1)) r) : Ev g r := Ev.step (fun _ => rfl) h
theorem ev_some {α : Type} {r r' : α} (h : r = r') : Ev (fun _ => some r) r' := by subst h; exact Ev.now r
theorem ev_pos {α : Type} {c : Prop} [Decidable c] {g f : Nat → Option α} {r : α} (hc : c) (h : Ev g r) : Ev (fun k => if c then g k else f k) r := by
  simp only [if_pos hc]; exact h
theorem ev_neg {α : Type} {c : Prop} [Decidable c] {g f : Nat → Option α} {r : α} (hc : ¬ c) (h : Ev f r) : Ev (fun k => if c then g k else f k) r := by
  simp only [if_neg hc]; exact h
theorem ev_ite {α : Type} {c : Prop} [Decidable c] {g f : Nat → Option α} {r : α} (h : c → Ev g r) (h' : ¬ c → Ev f r) : Ev (fun k => if c then g k else f k) r := by
  by_cases hc : c
  · exact ev_pos hc (h hc)
  · exact ev_neg hc (h' hc)
theorem ev_bind {α β : Type} {g : Nat → Option α} {f : Nat → α → Option β} {a : α} {r : β} (h : Ev g a) (k : Ev (fun n => f n a) r) : Ev (fun n => (g n).bind (f n)) r := Ev.bind h k
theorem ev_bind0 {α β : Type} {o : Option α} {f : Nat → α → Option β} {a : α} {r : β} (h : o = some a) (k : Ev (fun n => f n a) r) : Ev (fun n => o.bind (f n)) r := by
  subst h; exact k
theorem ev_eq {α : Type} {g : Nat → Option α} {r r' : α} (h : Ev g r) (e : r = r') : Ev g r' := e ▸ h
theorem ev_const {α : Type} {o : Option α} {r : α} (h : o = some r) : Ev (fun _ => o) r := by subst h; exact Ev.now r
theorem wr {n : Int} (h0 : -9223372036854775808 ≤ n) (h1 : n ≤ 9223372036854775807) : wrap64 n = n := by unfold wrap64; omega
theorem wr1 {i : Int} (h0 : 0 ≤ i) (h1 : i ≤ 4611686018427387904) : wrap64 (i + 1) = i + 1 := wr (by omega) (by omega)
theorem wr_nat {n : Nat} (h : n ≤ 4611686018427387904) : wrap64 (n : Int) = n := wr (by omega) (by omega)
theorem rd_nat (l : List Int) (i : Nat) : rd l (i : Int) = l.getD i 0 := by simp [rd]
theorem rd_get {l : List Int} {i : Nat} (h : i < l.length) : rd l (i : Int) = l[i] := by
  simp [rd, List.getD_eq_getElem?_getD, List.getElem?_eq_getElem h]
theorem drop_rd {l : List Int} {i : Nat} (h : i < l.length) : l.drop i = rd l (i : Int) :: l.drop (i + 1) := by
  rw [rd_get h]; exact List.drop_eq_getElem_cons h
theorem rd_mem {l : List Int} {i : Nat} (h : i < l.length) : rd l (i : Int) ∈ l := by rw [rd_get h]; exact List.getElem_mem h

theorem toIntS_l0 (l : List Int) (hn : l.length ≤ 4611686018427387904) (d : Nat) : ∀ (i : Nat) (x : List Int), i + d = l.length → x.length = l.length → (∀ j, j < i → x[j]? = l[j]?) →
    Ev (fun k => laws_toIntS.l0 k l x (i : Int)) l := by
  induction d with
  | zero =>
    intro i x hi hx hj
    refine ev_succ ?_
    simp only [laws_toIntS.l0]
    refine ev_neg (by omega) (ev_some ?_)
    apply List.ext_getElem?
    intro j
    by_cases h : j < i
    · exact hj j h
    · rw [List.getElem?_eq_none (by omega), List.getElem?_eq_none (by omega)]
  | succ d ih =>
    intro i x hi hx hj
    refine ev_succ ?_
    simp only [laws_toIntS.l0, wr1 (show (0 : Int) ≤ (i : Int) by omega) (by omega)]
    refine ev_pos (by omega) (ev_pos (by omega) (ev_pos (by omega) ?_))
    refine ih (i + 1) _ (by omega) (by simp [hx]) ?_
    intro j hj'
    rw [Int.toNat_natCast, rd_get (by omega), List.getElem?_set]
    by_cases e : i = j
    · subst e
      rw [if_pos rfl, if_pos (by omega), List.getElem?_eq_getElem (by omega)]
    · rw [if_neg e]; exact hj j (by omega)
theorem toIntS_ev (l : List Int) (hn : l.length ≤ 35184372088832) : Ev (fun k => laws_toIntS.f k l) l := by
  simp only [laws_toIntS.f]
  refine ev_pos (by omega) (ev_pos (by omega) ?_)
  exact toIntS_l0 l (by omega) l.length 0 _ (by omega) (by simp) (by intro j hj; omega)

theorem eqIntS_l0 (l : List Int) (hn : l.length ≤ 4611686018427387904) (d : Nat) : ∀ (i : Nat), i + d = l.length → Ev (fun k => laws_eqIntS.l0 k l l (i : Int)) true := by
  induction d with
  | zero =>
    intro i hi
    refine ev_succ ?_
    simp only [laws_eqIntS.l0]
    exact ev_neg (by omega) (ev_some rfl)
  | succ d ih =>
    intro i hi
    refine ev_succ ?_
    simp only [laws_eqIntS.l0, wr1 (show (0 : Int) ≤ (i : Int) by omega) (by omega)]
    exact ev_pos (by omega) (ev_pos (by omega) (ev_pos (by omega) (ev_pos trivial (ih (i + 1) (by omega)))))
theorem eqIntS_ev (l : List Int) (hn : l.length ≤ 4611686018427387904) : Ev (fun k => laws_eqIntS.f k l l) true := by
  simp only [laws_eqIntS.f]
  exact ev_pos trivial (eqIntS_l0 l hn l.length 0 (by omega))

def marks (m : Int) : Nat → List Int
  | 0 => []
  | n + 1 => m :: marks (m + 1) n
theorem marks_length (n : Nat) : ∀ m, (marks m n).length = n := by
  induction n with
  | zero => intro m; rfl
  | succ n ih => intro m; simp [marks, ih]
theorem marks_get (n : Nat) : ∀ (m : Int) (i : Nat), i < n → (marks m n)[i]? = some (m + i) := by
  induction n with
  | zero => intro m i h; omega
  | succ n ih =>
    intro m i h
    cases i with
    | zero => simp [marks]
    | succ i => simp only [marks, List.getElem?_cons_succ]; rw [ih (m + 1) i (by omega)]; congr 1; omega
theorem markIntS_l0 (n : Nat) (m : Int) (h0 : 0 ≤ m) (hm : m + n ≤ 4611686018427387904) (d : Nat) : ∀ (i : Nat) (x : List Int), x.length = n → i + d = n → (∀ j, j < i → x[j]? = some (m + j)) →
    Ev (fun k => laws_markIntS.l0 k x (m + i) (i : Int)) (m + n, marks m n) := by
  induction d with
  | zero =>
    intro i x hx hi hj
    refine ev_succ ?_
    simp only [laws_markIntS.l0]
    refine ev_neg (by omega) (ev_some ?_)
    have : i = n := by omega
    subst this
    congr 1
    apply List.ext_getElem?
    intro j
    by_cases h : j < i
    · rw [hj j h, marks_get i m j h]
    · rw [List.getElem?_eq_none (by omega), List.getElem?_eq_none (by rw [marks_length]; omega)]
  | succ d ih =>
    intro i x hx hi hj
    refine ev_succ ?_
    simp only [laws_markIntS.l0, wr1 (show (0 : Int) ≤ (i : Int) by omega) (by omega), wr1 (show (0 : Int) ≤ m + (i : Int) by omega) (by omega)]
    refine ev_pos (by omega) (ev_pos (by omega) ?_)
    have := ih (i + 1) (x.set i (m + i)) (by simp [hx]) (by omega) (by
      intro j hj'
      rw [List.getElem?_set]
      by_cases e : i = j
      · subst e
        rw [if_pos rfl, if_pos (by omega)]
      · rw [if_neg e]; exact hj j (by omega))
    rw [Int.toNat_natCast, Int.add_assoc]
    exact this
theorem markIntS_ev (l : List Int) (m : Int) (h0 : 0 ≤ m) (hm : m + l.length ≤ 4611686018427387904) : Ev (fun k => laws_markIntS.f k l m) (m + l.length, marks m l.length) := by
  simp only [laws_markIntS.f]
  have := markIntS_l0 l.length m h0 hm l.length 0 l rfl (by omega) (by intro j hj; omega)
  simpa using this
theorem heldIntS_l0 (n : Nat) (m : Int) (h0 : 0 ≤ m) (hm : m + n ≤ 4611686018427387904) (d : Nat) : ∀ (i : Nat), i + d = n → 
    Ev (fun k => laws_heldIntS.l0 k (marks m n) (m + i) (i : Int)) (m + n) := by
  induction d with
  | zero =>
    intro i hi
    refine ev_succ ?_
    simp only [laws_heldIntS.l0, marks_length]
    refine ev_neg (by omega) (ev_some ?_)
    omega
  | succ d ih =>
    intro i hi
    refine ev_succ ?_
    simp only [laws_heldIntS.l0, marks_length, wr1 (show (0 : Int) ≤ (i : Int) by omega) (by omega), wr1 (show (0 : Int) ≤ m + (i : Int) by omega) (by omega)]
    refine ev_pos (by omega) (ev_pos (by omega) (ev_pos ?_ ?_))
    · have h := marks_get n m i (by omega)
      rw [rd_nat, List.getD_eq_getElem?_getD, h]; rfl
    · have := ih (i + 1) (by omega)
      rw [Int.add_assoc]
      exact this
theorem heldIntS_ev (m : Int) (n : Nat) (h0 : 0 ≤ m) (hm : m + n ≤ 4611686018427387904) : Ev (fun k => laws_heldIntS.f k (marks m n) m) (m + n) := by
  simp only [laws_heldIntS.f]
  have := heldIntS_l0 n m h0 hm n 0 (by omega)
  simpa using this

theorem l1In_eq (a b c : Int) : spec_l1In.f a b c = some (decide (b ≤ a ∧ a ≤ c)) := by
  unfold spec_l1In.f
  by_cases h : a ≥ b
  · rw [if_pos h]; simp [show b ≤ a from h]
  · rw [if_neg h]; simp [show ¬ b ≤ a from h]

def quo (x : Int) : Bool := decide (1 ≤ x ∧ x ≤ 9)
def areQ (l : List Int) : Bool := l.all quo && decide (1 ≤ (l.length : Int) ∧ (l.length : Int) ≤ 8)
theorem spec_AreQuotients_l0 (l : List Int) (hn : l.length ≤ 4611686018427387904) (d : Nat) : ∀ (i : Nat), i + d = l.length →
    Ev (fun k => spec_AreQuotients.l0 k l (i : Int)) ((l.drop i).all quo && decide (1 ≤ (l.length : Int) ∧ (l.length : Int) ≤ 8)) := by
  induction d with
  | zero =>
    intro i hi
    refine ev_succ ?_
    simp only [spec_AreQuotients.l0, l1In_eq]
    refine ev_neg (by omega) (ev_some ?_)
    rw [List.drop_of_length_le (by omega)]; rfl
  | succ d ih =>
    intro i hi
    refine ev_succ ?_
    simp only [spec_AreQuotients.l0, l1In_eq, wr1 (show (0 : Int) ≤ (i : Int) by omega) (by omega), Option.bind_some]
    refine ev_pos (by omega) (ev_pos (by omega) ?_)
    rw [drop_rd (by omega : i < l.length)]
    by_cases h : 1 ≤ rd l (i : Int) ∧ rd l (i : Int) ≤ 9
    · refine ev_pos (by simpa using h) (ev_eq (ih (i + 1) (by omega)) ?_)
      simp [quo, h]
    · refine ev_neg (by simpa using h) (ev_some ?_)
      simp only [List.all_cons, quo, decide_eq_false h, Bool.false_and]
theorem spec_AreQuotients_ev (l : List Int) (hn : l.length ≤ 4611686018427387904) : Ev (fun k => spec_AreQuotients.f k l) (areQ l) := by
  simp only [spec_AreQuotients.f]
  exact spec_AreQuotients_l0 l hn l.length 0 (by omega)
theorem impl_AreQuotients_l0 (l : List Int) (hn : l.length ≤ 4611686018427387904) (d : Nat) : ∀ (i : Nat), i + d = l.length →
    Ev (fun k => impl_AreQuotients.l0 k l (l.length : Int) (i : Int)) ((l.drop i).all quo) := by
  induction d with
  | zero =>
    intro i hi
    refine ev_succ ?_
    simp only [impl_AreQuotients.l0]
    refine ev_neg (by omega) (ev_some ?_)
    rw [List.drop_of_length_le (by omega)]; rfl
  | succ d ih =>
    intro i hi
    refine ev_succ ?_
    simp only [impl_AreQuotients.l0, wr1 (show (0 : Int) ≤ (i : Int) by omega) (by omega)]
    refine ev_pos (by omega) (ev_pos (by omega) (ev_pos (by omega) ?_))
    rw [drop_rd (by omega : i < l.length)]
    refine ev_ite (fun h => ev_some ?_) (fun h => ev_ite (fun h' => ev_some ?_) (fun h' => ev_eq (ih (i + 1) (by omega)) ?_))
    · simp only [List.all_cons, quo, decide_eq_false (show ¬ (1 ≤ rd l (i : Int) ∧ rd l (i : Int) ≤ 9) by omega), Bool.false_and]
    · simp only [List.all_cons, quo, decide_eq_false (show ¬ (1 ≤ rd l (i : Int) ∧ rd l (i : Int) ≤ 9) by omega), Bool.false_and]
    · simp only [List.all_cons, quo, decide_eq_true (show (1 ≤ rd l (i : Int) ∧ rd l (i : Int) ≤ 9) by omega), Bool.true_and]
theorem impl_AreQuotients_ev (l : List Int) (hn : l.length ≤ 4611686018427387904) : Ev (fun k => impl_AreQuotients.f k l) (areQ l) := by
  simp only [impl_AreQuotients.f]
  have no : ∀ (b : Bool), b = true → areQ l = false → Ev (fun k => impl_AreQuotients.j0 k l b) (areQ l) := by
    intro b hb h
    subst hb
    refine ev_succ ?_
    simp only [impl_AreQuotients.j0]
    exact ev_pos trivial (ev_some h.symm)
  refine ev_ite (fun h => no _ rfl ?_) (fun h => ?_)
  · simp only [areQ, decide_eq_false (show ¬ (1 ≤ (l.length : Int) ∧ (l.length : Int) ≤ 8) by omega), Bool.and_false]
  · by_cases h' : (l.length : Int) > 8
    · refine no _ (by simpa using h') ?_
      simp only [areQ, decide_eq_false (show ¬ (1 ≤ (l.length : Int) ∧ (l.length : Int) ≤ 8) by omega), Bool.and_false]
    · rw [decide_eq_false h']
      refine ev_succ ?_
      simp only [impl_AreQuotients.j0]
      refine ev_neg (by simp) (ev_eq (impl_AreQuotients_l0 l hn l.length 0 (by omega)) ?_)
      simp only [areQ, decide_eq_true (show (1 ≤ (l.length : Int) ∧ (l.length : Int) ≤ 8) by omega), Bool.and_true, List.drop_zero]

def reps (w : List Int) : Nat → List Int
  | 0 => []
  | n + 1 => w ++ reps w n
theorem reps_length (w : List Int) (n : Nat) : (reps w n).length = n * w.length := by
  induction n with
  | zero => simp [reps]
  | succ n ih => simp only [reps, List.length_append, ih, Nat.succ_mul]; omega
theorem reps_snoc (w : List Int) (n : Nat) : reps w n ++ w = w ++ reps w n := by
  induction n with
  | zero => simp [reps]
  | succ n ih => simp only [reps, List.append_assoc, ih]
def stdGo : List Int → Bool → List Int → List Int → List Int × Bool
  | [], _, _, l => (l, true)
  | a :: qs, f, b, l => if ((reps l (if f = true then a - 1 else a).toNat ++ b).length : Int) > 400 then ([], false) else stdGo qs false l (reps l (if f = true then a - 1 else a).toNat ++ b)
def stdRes (l : List Int) : List Int × Bool := if areQ l = true then stdGo l true [1] [0] else ([], false)
theorem stdGo_length : ∀ (qs : List Int) (f : Bool) (b l : List Int), l.length ≤ 400 → (stdGo qs f b l).1.length ≤ 400 := by
  intro qs
  induction qs with
  | nil => intro f b l h; exact h
  | cons a qs ih =>
    intro f b l h
    unfold stdGo
    generalize (reps l (if f = true then a - 1 else a).toNat ++ b) = n
    split
    · simp
    · exact ih _ _ _ (by omega)
theorem stdRes_length (l : List Int) : (stdRes l).1.length ≤ 400 := by
  unfold stdRes
  split
  · exact stdGo_length _ _ _ _ (by decide)
  · simp
theorem stdArea {n m : Nat} (hn : n ≤ 9) (hm : m ≤ 400) : n * m ≤ 3600 := Nat.mul_le_mul hn hm
theorem spec_StandardWord_l1 (l b w : List Int) (i : Int) (t : Nat) (R : List Int × Bool) (hw : w.length ≤ 400) (ht : t ≤ 9)
    (H : Ev (fun k => if (reps w t).length + b.length < 17592186044416 then ((some (reps w t ++ b : List Int)).bind fun y137 => (if (y137.length : Int) > 400 then (some ((([] : List Int)), false)) else (spec_StandardWord.l0 k l w y137 (wrap64 (i + 1))))) else (none)) R) (d : Nat) :
    ∀ j : Nat, j + d = t → Ev (fun k => spec_StandardWord.l1 k l b w i (t : Int) (reps w j) (j : Int)) R := by
  induction d with
  | zero =>
    intro j hj
    obtain rfl : j = t := by omega
    refine ev_succ ?_
    simp only [spec_StandardWord.l1]
    exact ev_neg (by omega) H
  | succ d ih =>
    intro j hj
    refine ev_succ ?_
    simp only [spec_StandardWord.l1, wr1 (show (0 : Int) ≤ (j : Int) by omega) (by omega)]
    have ha := stdArea (show j ≤ 9 by omega) hw
    refine ev_pos (by omega) (ev_pos (by rw [reps_length]; omega) ?_)
    rw [reps_snoc]
    exact ih (j + 1) (by omega)
theorem impl_StandardWord_l1 (l b w : List Int) (i : Int) (t : Nat) (R : List Int × Bool) (hw : w.length ≤ 400) (ht : t ≤ 9)
    (H : Ev (fun k => if (reps w t).length + b.length < 17592186044416 then ((some (reps w t ++ b : List Int)).bind fun y137 => (if (y137.length : Int) > 400 then (some ((([] : List Int)), false)) else (impl_StandardWord.l0 k w y137 l (l.length : Int) (wrap64 (i + 1))))) else (none)) R) (d : Nat) :
    ∀ j : Nat, j + d = t → Ev (fun k => impl_StandardWord.l1 k b w (reps w j) l (l.length : Int) i (t : Int) (j : Int)) R := by
  induction d with
  | zero =>
    intro j hj
    obtain rfl : j = t := by omega
    refine ev_succ ?_
    simp only [impl_StandardWord.l1]
    exact ev_neg (by omega) H
  | succ d ih =>
    intro j hj
    refine ev_succ ?_
    simp only [impl_StandardWord.l1, wr1 (show (0 : Int) ≤ (j : Int) by omega) (by omega)]
    have ha := stdArea (show j ≤ 9 by omega) hw
    refine ev_pos (by omega) (ev_pos (by rw [reps_length]; omega) ?_)
    rw [reps_snoc]
    exact ih (j + 1) (by omega)
def isZero (i : Nat) : Bool := decide (i = 0)
theorem isZero_succ (i : Nat) : isZero (i + 1) = false := by simp [isZero]
theorem spec_StandardWord_l0 (l : List Int) (hq : ∀ x ∈ l, 1 ≤ x ∧ x ≤ 9) (hn : l.length ≤ 8) (d : Nat) : ∀ (i : Nat) (b w : List Int), i + d = l.length → b.length ≤ 400 → w.length ≤ 400 →
    Ev (fun k => spec_StandardWord.l0 k l b w (i : Int)) (stdGo (l.drop i) (isZero i) b w) := by
  induction d with
  | zero =>
    intro i b w hi hb hw
    refine ev_succ ?_
    simp only [spec_StandardWord.l0, Option.bind_some, List.nil_append]
    refine ev_neg (by omega) (ev_pos (by simp only [List.length_nil]; omega) (ev_some ?_))
    rw [List.drop_of_length_le (by omega)]; rfl
  | succ d ih =>
    intro i b w hi hb hw
    have hm := hq _ (rd_mem (show i < l.length by omega))
    have key : ∀ t : Nat, (t : Int) = (if isZero i = true then rd l (i : Int) - 1 else rd l (i : Int)) → Ev (fun k => spec_StandardWord.j1 k l b w (i : Int) (t : Int)) (stdGo (l.drop i) (isZero i) b w) := by
      intro t ht
      have ht9 : t ≤ 9 := by split at ht <;> omega
      rw [drop_rd (by omega : i < l.length)]
      unfold stdGo
      rw [← ht, Int.toNat_natCast]
      refine ev_succ ?_
      simp only [spec_StandardWord.j1]
      have ha := stdArea ht9 hw
      refine spec_StandardWord_l1 l b w (i : Int) t _ hw ht9 ?_ t 0 (by omega)
      simp only [Option.bind_some]
      refine ev_pos (by rw [reps_length]; omega) (ev_ite (fun h => ev_some (by rw [if_pos h])) (fun h => ?_))
      rw [if_neg h, wr1 (by omega) (by omega), ← isZero_succ i]
      exact ih (i + 1) _ _ (by omega) hw (by omega)
    refine ev_succ ?_
    simp only [spec_StandardWord.l0]
    refine ev_pos (by omega) (ev_pos (by omega) (ev_ite (fun h => ?_) (fun h => ?_)))
    · obtain rfl : i = 0 := by omega
      refine ev_pos (by omega) ?_
      have := key (rd l 0 - 1).toNat (by rw [if_pos (by rfl)]; simp only [Int.ofNat_zero] at hm ⊢; simp at hm ⊢; omega)
      rw [show (((rd l 0 - 1).toNat : Nat) : Int) = rd l 0 - 1 by simp at hm; omega] at this
      rw [wr (by simp at hm; omega) (by simp at hm; omega)]
      exact this
    · have := key (rd l (i : Int)).toNat (by rw [if_neg (by simp [isZero]; omega)]; omega)
      rw [show (((rd l (i : Int)).toNat : Nat) : Int) = rd l (i : Int) by omega] at this
      exact this
theorem impl_StandardWord_l0 (l : List Int) (hq : ∀ x ∈ l, 1 ≤ x ∧ x ≤ 9) (hn : l.length ≤ 8) (d : Nat) : ∀ (i : Nat) (b w : List Int), i + d = l.length → b.length ≤ 400 → w.length ≤ 400 →
    Ev (fun k => impl_StandardWord.l0 k b w l (l.length : Int) (i : Int)) (stdGo (l.drop i) (isZero i) b w) := by
  induction d with
  | zero =>
    intro i b w hi hb hw
    refine ev_succ ?_
    simp only [impl_StandardWord.l0]
    refine ev_neg (by omega) (ev_some ?_)
    rw [List.drop_of_length_le (by omega)]; rfl
  | succ d ih =>
    intro i b w hi hb hw
    have hm := hq _ (rd_mem (show i < l.length by omega))
    have key : ∀ t : Nat, (t : Int) = (if isZero i = true then rd l (i : Int) - 1 else rd l (i : Int)) → Ev (fun k => impl_StandardWord.j1 k b w (t : Int) l (l.length : Int) (i : Int)) (stdGo (l.drop i) (isZero i) b w) := by
      intro t ht
      have ht9 : t ≤ 9 := by split at ht <;> omega
      rw [drop_rd (by omega : i < l.length)]
      unfold stdGo
      rw [← ht, Int.toNat_natCast]
      refine ev_succ ?_
      simp only [impl_StandardWord.j1]
      have ha := stdArea ht9 hw
      refine impl_StandardWord_l1 l b w (i : Int) t _ hw ht9 ?_ t 0 (by omega)
      simp only [Option.bind_some]
      refine ev_pos (by rw [reps_length]; omega) (ev_ite (fun h => ev_some (by rw [if_pos h])) (fun h => ?_))
      rw [if_neg h, wr1 (by omega) (by omega), ← isZero_succ i]
      exact ih (i + 1) _ _ (by omega) hw (by omega)
    refine ev_succ ?_
    simp only [impl_StandardWord.l0]
    refine ev_pos (by omega) (ev_pos (by omega) (ev_pos (by omega) (ev_ite (fun h => ?_) (fun h => ?_))))
    · have := key (rd l (i : Int) - 1).toNat (by rw [if_pos (by simp [isZero]; omega)]; omega)
      rw [show (((rd l (i : Int) - 1).toNat : Nat) : Int) = rd l (i : Int) - 1 by omega] at this
      rw [wr (by omega) (by omega)]
      exact this
    · have := key (rd l (i : Int)).toNat (by rw [if_neg (by simp [isZero]; omega)]; omega)
      rw [show (((rd l (i : Int)).toNat : Nat) : Int) = rd l (i : Int) by omega] at this
      exact this
theorem stdQ {l : List Int} (h : areQ l = true) : (∀ x ∈ l, 1 ≤ x ∧ x ≤ 9) ∧ l.length ≤ 8 := by
  simp only [areQ, Bool.and_eq_true, List.all_eq_true, decide_eq_true_eq] at h
  refine ⟨fun x hx => ?_, by omega⟩
  have := h.1 x hx
  simpa [quo] using this
theorem spec_StandardWord_ev (l : List Int) (hn : l.length ≤ 4611686018427387904) : Ev (fun k => spec_StandardWord.f k l) (stdRes l) := by
  simp only [spec_StandardWord.f]
  unfold stdRes
  refine ev_bind (spec_AreQuotients_ev l hn) (ev_ite (fun h => ?_) (fun h => ev_some (by rw [if_neg h])))
  rw [if_pos h]
  exact spec_StandardWord_l0 l (stdQ h).1 (stdQ h).2 l.length 0 [1] [0] (by omega) (by decide) (by decide)
theorem impl_StandardWord_ev (l : List Int) (hn : l.length ≤ 4611686018427387904) : Ev (fun k => impl_StandardWord.f k l) (stdRes l) := by
  simp only [impl_StandardWord.f]
  unfold stdRes
  refine ev_bind (impl_AreQuotients_ev l hn) (ev_ite (fun h => ?_) (fun h => ev_some (by rw [if_neg h])))
  rw [if_pos h]
  exact impl_StandardWord_l0 l (stdQ h).1 (stdQ h).2 l.length 0 [1] [0] (by omega) (by decide) (by decide)

def cwRes (l : List Int) : List Int × Bool := if (stdRes l).2 = true ∧ 2 ≤ (stdRes l).1.length then ((stdRes l).1.take ((stdRes l).1.length - 2), true) else ([], false)
theorem cwRes_length (l : List Int) : (cwRes l).1.length ≤ 400 := by
  have := stdRes_length l
  unfold cwRes
  split
  · simp only [List.length_take]; omega
  · simp
theorem Clone_eq (l : List Int) (h : l.length ≤ 1000000) : slices_Clone_int_int.f l = some l := by
  simp only [slices_Clone_int_int.f, Option.bind_some, List.nil_append]
  rw [if_pos (by simp only [List.length_nil]; omega)]
theorem spec_CentralWord_ev (l : List Int) (hn : l.length ≤ 4611686018427387904) : Ev (fun k => spec_CentralWord.f k l) (cwRes l) := by
  have hl := stdRes_length l
  simp only [spec_CentralWord.f, Option.bind_some, List.nil_append]
  refine ev_bind (spec_StandardWord_ev l hn) (ev_ite (fun h => ?_) (fun h => ev_some (by unfold cwRes; rw [if_neg (fun h' => h h'.1)])))
  refine ev_ite (fun h2 => ev_some (by unfold cwRes; rw [if_neg (fun h' => by omega)])) (fun h2 => ?_)
  rw [show ((stdRes l).1.length : Int) - 2 = (((stdRes l).1.length - 2 : Nat) : Int) by omega, wr_nat (by omega), Int.toNat_natCast]
  refine ev_pos (by omega) (ev_pos (by omega) (ev_pos (by simp only [List.length_nil, List.length_take]; omega) (ev_some ?_)))
  unfold cwRes; rw [if_pos ⟨h, by omega⟩]
theorem impl_CentralWord_ev (l : List Int) (hn : l.length ≤ 4611686018427387904) : Ev (fun k => impl_CentralWord.f k l) (cwRes l) := by
  have hl := stdRes_length l
  simp only [impl_CentralWord.f]
  refine ev_bind (impl_StandardWord_ev l hn) (ev_ite (fun h => ?_) (fun h => ev_some (by unfold cwRes; rw [if_neg (fun h' => h h'.1)])))
  refine ev_ite (fun h2 => ev_some (by unfold cwRes; rw [if_neg (fun h' => by omega)])) (fun h2 => ?_)
  rw [show ((stdRes l).1.length : Int) - 2 = (((stdRes l).1.length - 2 : Nat) : Int) by omega, wr_nat (by omega), Int.toNat_natCast]
  refine ev_pos (by omega) (ev_pos (by omega) (ev_bind0 (Clone_eq _ (by simp only [List.length_take]; omega)) (ev_some ?_)))
  unfold cwRes; rw [if_pos ⟨h, by omega⟩]

-- SAY: For every list the program's CentralWord answers what the reference's answers, leaves its argument alone, and its answer lies in memory of its own. No conditions beyond the given statement.
theorem FnExactCentralWord : laws_FnExactCentralWord.Pure := by
  intro a hl0 hl1 hwf
  refine Ev.rounds (g := fun k => laws_FnExactCentralWord.f k a) ?_
  simp only [laws_FnExactCentralWord.f]
  refine ev_ite (fun h => ev_some rfl) (fun hlen => ?_)
  have hl := cwRes_length a
  have hS := spec_CentralWord_ev a (by omega)
  have hI := impl_CentralWord_ev a (by omega)
  obtain ⟨l, b, hr⟩ : ∃ l b, cwRes a = (l, b) := ⟨_, _, rfl⟩
  rw [hr] at hl hS hI
  simp only at hl
  refine ev_bind (toIntS_ev a (by omega)) (ev_bind hS ?_)
  refine ev_bind (toIntS_ev a (by omega)) (ev_bind hI ?_)
  refine ev_bind (eqIntS_ev l (by omega)) (ev_pos rfl (ev_succ ?_))
  simp only [laws_FnExactCentralWord.j0]
  refine ev_neg (by simp) ?_
  refine ev_bind (toIntS_ev a (by omega)) (ev_bind (eqIntS_ev a (by omega)) (ev_pos rfl ?_))
  refine ev_bind (markIntS_ev a 1 (by omega) (by omega)) (ev_neg (by simp only; omega) ?_)
  refine ev_bind (eqIntS_ev l (by omega)) (ev_pos rfl (ev_succ ?_))
  simp only [laws_FnExactCentralWord.j1]
  refine ev_neg (by simp) ?_
  refine ev_bind (markIntS_ev l 1 (by omega) (by omega)) ?_
  refine ev_bind (heldIntS_ev 1 l.length (by omega) (by omega)) ?_
  refine ev_neg (by omega) (ev_pos rfl ?_)
  refine ev_bind (toIntS_ev a (by omega)) (ev_bind hI ?_)
  refine ev_bind (eqIntS_ev l (by omega)) (ev_pos rfl (ev_succ ?_))
  simp only [laws_FnExactCentralWord.j2]
  refine ev_neg (by simp) ?_
  refine ev_bind (heldIntS_ev 1 l.length (by omega) (by omega)) ?_
  exact ev_neg (by omega) (ev_pos rfl (ev_some rfl))

end Go.Proofs.Ytihbelkchcedpaa.Pure

/-! The row's word for a slice's size, under the name by which the row asks for it. -/
namespace Go.Proofs.Ytihbelkchcedpaa.PrintWords
open Go.ChangeShapes Go.WideShapes
theorem sized_ints {H : Type} {enc : TypeId × Value → H} {P : Program} {W : World} {base : Nat} {spare : Nat → Bool} {held : Bool} {t e : TypeId} {k : IntKind} {a : Option Addr} {len cap : Nat} {d : DataW H}
    {ps : List MemPlace} {ts : List TypeId} {ds : List (DataW H)} {j : Nat} (hsz : (DataW.weightsEach P ts ds).all (· ≤ reachBytes) = true) (ht : ts[j]? = some t) (hd : ds[j]? = some d) (hu : P.underlying t = some (.slice e))
    (he : P.underlying e = some (.int k)) (hc : P.cellsOf e = 1) {B : Nat} (hB : P.bytesOf e = B) (h : DataW.Trod enc P W base spare held t (.slice a len cap) d ps) : len * B ≤ 140737488351232 :=
  Go.Proofs.YtihbelkchcedpaaW.PrintWords.sized_ints hsz ht hd hu he hc hB h
end Go.Proofs.Ytihbelkchcedpaa.PrintWords
