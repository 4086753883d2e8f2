/- For all words and patterns the program's FindPattern answers what the reference's answers, leaves its arguments as they were, and answers in memory of its own. No conditions beyond the given statement. -/
import Derived.Test.YtfojmgcekceaoaaPFnExactFindPatternx6
import Derived.Test.YtfojmgcekceaoaaWSized
set_option linter.unusedVariables false
set_option linter.unusedSimpArgs false
namespace Go.Proofs.Ytfojmgcekceaoaa.Pure
open Go.RowKit Go.Proofs.Ytfojmgcekceaoaa.PFnExactFindPattern Go.Proofs.YtfojmgcekceaoaaW.PrintWords Go.Proofs.YtfojmgcekceaoaaW.PrintLast

theorem ev_succ {α : Type} {g : Nat → Option α} {r : α} (h : Ev (fun k => g (k + 1)) r) : Ev g r := Ev.step (fun _ => rfl) h
theorem ev_some {α : Type} {r r' : α} (h : r = r') : Ev (fun _ => some r) r' := by subst h; exact Ev.now r
theorem ev_pos {α : Type} {c : Prop} [Decidable c] {g f : Nat → Option α} {r : α} (hc : c) (h : Ev g r) : Ev (fun k => if c then g k else f k) r := by
  simp only [if_pos hc]; exact h
theorem ev_neg {α : Type} {c : Prop} [Decidable c] {g f : Nat → Option α} {r : α} (hc : ¬ c) (h : Ev f r) : Ev (fun k => if c then g k else f k) r := by
  simp only [if_neg hc]; exact h
theorem ev_ite {α : Type} {c : Prop} [Decidable c] {g f : Nat → Option α} {r : α} (h : c → Ev g r) (h' : ¬ c → Ev f r) : Ev (fun k => if c then g k else f k) r := by
  by_cases hc : c
  · exact ev_pos hc (h hc)
  · exact ev_neg hc (h' hc)
theorem ev_bind {α β : Type} {g : Nat → Option α} {f : Nat → α → Option β} {a : α} {r : β} (h : Ev g a) (k : Ev (fun n => f n a) r) : Ev (fun n => (g n).bind (f n)) r := Ev.bind h k
theorem ev_bind0 {α β : Type} {o : Option α} {f : Nat → α → Option β} {a : α} {r : β} (h : o = some a) (k : Ev (fun n => f n a) r) : Ev (fun n => o.bind (f n)) r := by
  subst h; exact k
theorem ev_eq {α : Type} {g : Nat → Option α} {r r' : α} (h : Ev g r) (e : r = r') : Ev g r' := e ▸ h
theorem ev_const {α : Type} {o : Option α} {r : α} (h : o = some r) : Ev (fun _ => o) r := by subst h; exact Ev.now r
theorem wr {n : Int} (h0 : -9223372036854775808 ≤ n) (h1 : n ≤ 9223372036854775807) : wrap64 n = n := by unfold wrap64; omega
theorem wr1 {i : Int} (h0 : 0 ≤ i) (h1 : i ≤ 4611686018427387904) : wrap64 (i + 1) = i + 1 := wr (by omega) (by omega)
theorem wr_nat {n : Nat} (h : n ≤ 4611686018427387904) : wrap64 (n : Int) = n := wr (by omega) (by omega)
theorem rd_nat (l : List Int) (i : Nat) : rd l (i : Int) = l.getD i 0 := by simp [rd]
theorem rd_get {l : List Int} {i : Nat} (h : i < l.length) : rd l (i : Int) = l[i] := by
  simp [rd, List.getD_eq_getElem?_getD, List.getElem?_eq_getElem h]
theorem drop_rd {l : List Int} {i : Nat} (h : i < l.length) : l.drop i = rd l (i : Int) :: l.drop (i + 1) := by
  rw [rd_get h]; exact List.drop_eq_getElem_cons h
theorem rd_mem {l : List Int} {i : Nat} (h : i < l.length) : rd l (i : Int) ∈ l := by rw [rd_get h]; exact List.getElem_mem h


theorem toIntS_l0 (l : List Int) (hn : l.length ≤ 4611686018427387904) (d : Nat) : ∀ (i : Nat) (x : List Int), i + d = l.length → x.length = l.length → (∀ j, j < i → x[j]? = l[j]?) →
    Ev (fun k => laws_toIntS.l0 k l x (i : Int)) l := by
  induction d with
  | zero =>
    intro i x hi hx hj
    refine ev_succ ?_
    simp only [laws_toIntS.l0]
    refine ev_neg (by omega) (ev_some ?_)
    apply List.ext_getElem?
    intro j
    by_cases h : j < i
    · exact hj j h
    · rw [List.getElem?_eq_none (by omega), List.getElem?_eq_none (by omega)]
  | succ d ih =>
    intro i x hi hx hj
    refine ev_succ ?_
    simp only [laws_toIntS.l0, wr1 (show (0 : Int) ≤ (i : Int) by omega) (by omega)]
    refine ev_pos (by omega) (ev_pos (by omega) (ev_pos (by omega) ?_))
    refine ih (i + 1) _ (by omega) (by simp [hx]) ?_
    intro j hj'
    rw [Int.toNat_natCast, rd_get (by omega), List.getElem?_set]
    by_cases e : i = j
    · subst e
      rw [if_pos rfl, if_pos (by omega), List.getElem?_eq_getElem (by omega)]
    · rw [if_neg e]; exact hj j (by omega)
theorem toIntS_ev (l : List Int) (hn : l.length ≤ 35184372088832) : Ev (fun k => laws_toIntS.f k l) l := by
  simp only [laws_toIntS.f]
  refine ev_pos (by omega) (ev_pos (by omega) ?_)
  exact toIntS_l0 l (by omega) l.length 0 _ (by omega) (by simp) (by intro j hj; omega)


theorem eqIntS_l0 (l : List Int) (hn : l.length ≤ 4611686018427387904) (d : Nat) : ∀ (i : Nat), i + d = l.length → Ev (fun k => laws_eqIntS.l0 k l l (i : Int)) true := by
  induction d with
  | zero =>
    intro i hi
    refine ev_succ ?_
    simp only [laws_eqIntS.l0]
    exact ev_neg (by omega) (ev_some rfl)
  | succ d ih =>
    intro i hi
    refine ev_succ ?_
    simp only [laws_eqIntS.l0, wr1 (show (0 : Int) ≤ (i : Int) by omega) (by omega)]
    exact ev_pos (by omega) (ev_pos (by omega) (ev_pos (by omega) (ev_pos trivial (ih (i + 1) (by omega)))))
theorem eqIntS_ev (l : List Int) (hn : l.length ≤ 4611686018427387904) : Ev (fun k => laws_eqIntS.f k l l) true := by
  simp only [laws_eqIntS.f]
  exact ev_pos trivial (eqIntS_l0 l hn l.length 0 (by omega))


def marks (m : Int) : Nat → List Int
  | 0 => []
  | n + 1 => m :: marks (m + 1) n
theorem marks_length (n : Nat) : ∀ m, (marks m n).length = n := by
  induction n with
  | zero => intro m; rfl
  | succ n ih => intro m; simp [marks, ih]
theorem marks_get (n : Nat) : ∀ (m : Int) (i : Nat), i < n → (marks m n)[i]? = some (m + i) := by
  induction n with
  | zero => intro m i h; omega
  | succ n ih =>
    intro m i h
    cases i with
    | zero => simp [marks]
    | succ i => simp only [marks, List.getElem?_cons_succ]; rw [ih (m + 1) i (by omega)]; congr 1; omega
theorem markIntS_l0 (n : Nat) (m : Int) (h0 : 0 ≤ m) (hm : m + n ≤ 4611686018427387904) (d : Nat) : ∀ (i : Nat) (x : List Int), x.length = n → i + d = n → (∀ j, j < i → x[j]? = some (m + j)) →
    Ev (fun k => laws_markIntS.l0 k x (m + i) (i : Int)) (m + n, marks m n) := by
  induction d with
  | zero =>
    intro i x hx hi hj
    refine ev_succ ?_
    simp only [laws_markIntS.l0]
    refine ev_neg (by omega) (ev_some ?_)
    have : i = n := by omega
    subst this
    congr 1
    apply List.ext_getElem?
    intro j
    by_cases h : j < i
    · rw [hj j h, marks_get i m j h]
    · rw [List.getElem?_eq_none (by omega), List.getElem?_eq_none (by rw [marks_length]; omega)]
  | succ d ih =>
    intro i x hx hi hj
    refine ev_succ ?_
    simp only [laws_markIntS.l0, wr1 (show (0 : Int) ≤ (i : Int) by omega) (by omega), wr1 (show (0 : Int) ≤ m + (i : Int) by omega) (by omega)]
    refine ev_pos (by omega) (ev_pos (by omega) ?_)
    have := ih (i + 1) (x.set i (m + i)) (by simp [hx]) (by omega) (by
      intro j hj'
      rw [List.getElem?_set]
      by_cases e : i = j
      · subst e
        rw [if_pos rfl, if_pos (by omega)]
      · rw [if_neg e]; exact hj j (by omega))
    rw [Int.toNat_natCast, Int.add_assoc]
    exact this
theorem markIntS_ev (l : List Int) (m : Int) (h0 : 0 ≤ m) (hm : m + l.length ≤ 4611686018427387904) : Ev (fun k => laws_markIntS.f k l m) (m + l.length, marks m l.length) := by
  simp only [laws_markIntS.f]
  have := markIntS_l0 l.length m h0 hm l.length 0 l rfl (by omega) (by intro j hj; omega)
  simpa using this
theorem heldIntS_l0 (n : Nat) (m : Int) (h0 : 0 ≤ m) (hm : m + n ≤ 4611686018427387904) (d : Nat) : ∀ (i : Nat), i + d = n → 
    Ev (fun k => laws_heldIntS.l0 k (marks m n) (m + i) (i : Int)) (m + n) := by
  induction d with
  | zero =>
    intro i hi
    refine ev_succ ?_
    simp only [laws_heldIntS.l0, marks_length]
    refine ev_neg (by omega) (ev_some ?_)
    omega
  | succ d ih =>
    intro i hi
    refine ev_succ ?_
    simp only [laws_heldIntS.l0, marks_length, wr1 (show (0 : Int) ≤ (i : Int) by omega) (by omega), wr1 (show (0 : Int) ≤ m + (i : Int) by omega) (by omega)]
    refine ev_pos (by omega) (ev_pos (by omega) (ev_pos ?_ ?_))
    · have h := marks_get n m i (by omega)
      rw [rd_nat, List.getD_eq_getElem?_getD, h]; rfl
    · have := ih (i + 1) (by omega)
      rw [Int.add_assoc]
      exact this
theorem heldIntS_ev (m : Int) (n : Nat) (h0 : 0 ≤ m) (hm : m + n ≤ 4611686018427387904) : Ev (fun k => laws_heldIntS.f k (marks m n) m) (m + n) := by
  simp only [laws_heldIntS.f]
  have := heldIntS_l0 n m h0 hm n 0 (by omega)
  simpa using this


theorem l1In_eq (a b c : Int) : spec_l1In.f a b c = some (decide (b ≤ a ∧ a ≤ c)) := by
  unfold spec_l1In.f
  by_cases h : a ≥ b
  · rw [if_pos h]; simp [show b ≤ a from h]
  · rw [if_neg h]; simp [show ¬ b ≤ a from h]


theorem spec_l3Same_l0 (a b : List Int) (hl : a.length = b.length) (hn : a.length ≤ 4611686018427387904) (d : Nat) : ∀ (i : Nat), i + d = a.length → Ev (fun k => spec_l3Same.l0 k a b (i : Int)) (decide (a.drop i = b.drop i)) := by
  induction d with
  | zero =>
    intro i hi
    refine ev_succ ?_
    simp only [spec_l3Same.l0]
    refine ev_neg (by omega) (ev_some ?_)
    rw [List.drop_of_length_le (by omega), List.drop_of_length_le (by omega)]; rfl
  | succ d ih =>
    intro i hi
    refine ev_succ ?_
    simp only [spec_l3Same.l0, wr1 (show (0 : Int) ≤ (i : Int) by omega) (by omega)]
    rw [drop_rd (by omega : i < a.length), drop_rd (by omega : i < b.length)]
    refine ev_pos (by omega) (ev_pos (by omega) (ev_pos (by omega) (ev_ite (fun h => ev_eq (ih (i + 1) (by omega)) ?_) (fun h => ev_some ?_))))
    · rw [h]; simp
    · simp [h]
theorem spec_l3Same_ev (a b : List Int) (hn : a.length ≤ 4611686018427387904) : Ev (fun k => spec_l3Same.f k a b) (decide (a = b)) := by
  simp only [spec_l3Same.f]
  refine ev_ite (fun h => ev_eq (spec_l3Same_l0 a b (by omega) hn a.length 0 (by omega)) (by simp)) (fun h => ev_some ?_)
  symm
  simp only [decide_eq_false_iff_not]
  rintro rfl
  exact h rfl


/-- the number of letters behind a pattern's letters, none if they are not numbered as they come -/
def patRun : List Int → Int → Option Int
  | [], m => some m
  | x :: l, m => if x < 0 then none else if x > m then none else if x = m then patRun l (m + 1) else patRun l m
theorem patRun_ge : ∀ (l : List Int) (m r : Int), patRun l m = some r → m ≤ r ∧ r ≤ m + l.length := by
  intro l
  induction l with
  | nil => intro m r h; simp only [patRun, Option.some.injEq] at h; simp; omega
  | cons x l ih =>
    intro m r h
    simp only [patRun] at h
    simp only [List.length_cons]
    split at h
    · cases h
    · split at h
      · cases h
      · split at h
        · have := ih _ _ h; omega
        · have := ih _ _ h; omega
/-- what patternLetters answers -/
def patL (l : List Int) : Int := match patRun l 0 with
  | none => 0
  | some m => if (l.length : Int) > 6 then 0 else if m > 3 then 0 else m
def isPat (l : List Int) : Bool := decide (patL l > 0)
def patFin (l : List Int) (r : Option Int) : Int := match r with
  | none => 0
  | some m => if (l.length : Int) > 6 then 0 else if m > 3 then 0 else m
theorem impl_patternLetters_l0 (l : List Int) (hn : l.length ≤ 4611686018427387904) (d : Nat) : ∀ (i : Nat) (m : Int), i + d = l.length → 0 ≤ m → m ≤ i →
    Ev (fun k => impl_patternLetters.l0 k l m l (l.length : Int) (i : Int)) (patFin l (patRun (l.drop i) m)) := by
  induction d with
  | zero =>
    intro i m hi h0 h1
    refine ev_succ ?_
    simp only [impl_patternLetters.l0]
    refine ev_neg (by omega) ?_
    rw [List.drop_of_length_le (by omega)]
    simp only [patRun, patFin]
    refine ev_ite (fun h => ev_some (by rw [if_pos h])) (fun h => ?_)
    refine ev_ite (fun h' => ev_some (by rw [if_neg h, if_pos h'])) (fun h' => ev_some (by rw [if_neg h, if_neg h']))
  | succ d ih =>
    intro i m hi h0 h1
    refine ev_succ ?_
    simp only [impl_patternLetters.l0]
    refine ev_pos (by omega) (ev_pos (by omega) (ev_pos (by omega) ?_))
    rw [drop_rd (by omega : i < l.length)]
    have no : ∀ b : Bool, b = true → (rd l (i : Int) < 0 ∨ rd l (i : Int) > m) → Ev (fun k => impl_patternLetters.j1 k l m (rd l (i : Int)) l (l.length : Int) (i : Int) b) (patFin l (patRun (rd l (i : Int) :: l.drop (i + 1)) m)) := by
      intro b hb h
      subst hb
      refine ev_succ ?_
      simp only [impl_patternLetters.j1]
      refine ev_pos trivial (ev_some ?_)
      simp only [patRun]
      by_cases h2 : rd l (i : Int) < 0
      · rw [if_pos h2]; rfl
      · rw [if_neg h2, if_pos (by omega)]; rfl
    refine ev_ite (fun h => no _ rfl (.inl h)) (fun h => ?_)
    by_cases h2 : rd l (i : Int) > m
    · rw [decide_eq_true h2]; exact no _ rfl (.inr h2)
    · rw [decide_eq_false h2]
      refine ev_succ ?_
      simp only [impl_patternLetters.j1, wr1 (show (0 : Int) ≤ (i : Int) by omega) (by omega), wr1 h0 (by omega)]
      refine ev_neg (by simp) ?_
      refine ev_ite (fun h3 => ev_eq (ih (i + 1) (m + 1) (by omega) (by omega) (by omega)) ?_) (fun h3 => ev_eq (ih (i + 1) m (by omega) (by omega) (by omega)) ?_)
      · simp only [patRun]; rw [if_neg h, if_neg h2, if_pos h3]
      · simp only [patRun]; rw [if_neg h, if_neg h2, if_neg h3]
theorem impl_patternLetters_ev (l : List Int) (hn : l.length ≤ 4611686018427387904) : Ev (fun k => impl_patternLetters.f k l) (patL l) := by
  simp only [impl_patternLetters.f]
  exact ev_eq (impl_patternLetters_l0 l hn l.length 0 0 (by omega) (by omega) (by omega)) (by simp [patL, patFin])
theorem impl_IsPattern_ev (l : List Int) (hn : l.length ≤ 4611686018427387904) : Ev (fun k => impl_IsPattern.f k l) (isPat l) := by
  simp only [impl_IsPattern.f]
  exact ev_bind (impl_patternLetters_ev l hn) (ev_some rfl)
/-- the reference's way: no letter above 2 -/
def patS (l : List Int) (r : Option Int) : Bool := match r with
  | none => false
  | some m => decide (m ≤ 3) && decide (1 ≤ (l.length : Int) ∧ (l.length : Int) ≤ 6)
theorem spec_IsPattern_l0 (l : List Int) (hn : l.length ≤ 4611686018427387904) (d : Nat) : ∀ (i : Nat) (m : Int), i + d = l.length → 0 ≤ m → m ≤ 3 →
    Ev (fun k => spec_IsPattern.l0 k l m (i : Int)) (patS l (patRun (l.drop i) m)) := by
  induction d with
  | zero =>
    intro i m hi h0 h1
    refine ev_succ ?_
    simp only [spec_IsPattern.l0, l1In_eq]
    refine ev_neg (by omega) (ev_some ?_)
    rw [List.drop_of_length_le (by omega)]
    simp only [patRun, patS, decide_eq_true h1, Bool.true_and]
  | succ d ih =>
    intro i m hi h0 h1
    refine ev_succ ?_
    simp only [spec_IsPattern.l0]
    refine ev_pos (by omega) (ev_pos (by omega) ?_)
    rw [drop_rd (by omega : i < l.length)]
    have no : ∀ b : Bool, b = true → (rd l (i : Int) < 0 ∨ rd l (i : Int) > m ∨ rd l (i : Int) > 2) → Ev (fun k => spec_IsPattern.j1 k l m (i : Int) b) (patS l (patRun (rd l (i : Int) :: l.drop (i + 1)) m)) := by
      intro b hb h
      subst hb
      refine ev_succ ?_
      simp only [spec_IsPattern.j1]
      refine ev_pos trivial (ev_some ?_)
      simp only [patRun]
      by_cases h2 : rd l (i : Int) < 0
      · rw [if_pos h2]; rfl
      · by_cases h3 : rd l (i : Int) > m
        · rw [if_neg h2, if_pos h3]; rfl
        · rw [if_neg h2, if_neg h3, if_pos (by omega)]
          cases hr : patRun (l.drop (i + 1)) (m + 1) with
          | none => rfl
          | some r =>
            have := (patRun_ge _ _ _ hr).1
            simp only [patS, decide_eq_false (show ¬ r ≤ 3 by omega), Bool.false_and]
    refine ev_ite (fun h => no _ rfl (.inl h)) (fun h => ?_)
    refine ev_ite (fun h2 => no _ rfl (.inr (.inl h2))) (fun h2 => ?_)
    by_cases h4 : rd l (i : Int) > 2
    · rw [decide_eq_true h4]; exact no _ rfl (.inr (.inr h4))
    · rw [decide_eq_false h4]
      refine ev_succ ?_
      simp only [spec_IsPattern.j1, wr1 (show (0 : Int) ≤ (i : Int) by omega) (by omega), wr1 h0 (by omega)]
      refine ev_neg (by simp) (ev_pos (by omega) (ev_pos (by omega) ?_))
      refine ev_ite (fun h3 => ev_eq (ih (i + 1) (m + 1) (by omega) (by omega) (by omega)) ?_) (fun h3 => ev_eq (ih (i + 1) m (by omega) (by omega) (by omega)) ?_)
      · simp only [patRun]; rw [if_neg h, if_neg h2, if_pos h3]
      · simp only [patRun]; rw [if_neg h, if_neg h2, if_neg h3]
theorem patS_eq (l : List Int) : patS l (patRun l 0) = isPat l := by
  unfold isPat patL
  cases hr : patRun l 0 with
  | none => simp [patS]
  | some m =>
    have h := patRun_ge _ _ _ hr
    simp only [patS]
    rw [Bool.eq_iff_iff]
    simp only [Bool.and_eq_true, decide_eq_true_eq]
    by_cases h0 : l = []
    · subst h0
      simp only [patRun, Option.some.injEq] at hr
      simp; omega
    · have hm : 1 ≤ m := by
        cases l with
        | nil => exact absurd rfl h0
        | cons x l =>
          simp only [patRun] at hr
          split at hr
          · cases hr
          · split at hr
            · cases hr
            · rw [if_pos (by omega)] at hr
              have := (patRun_ge _ _ _ hr).1
              omega
      have : 1 ≤ l.length := by cases l with
        | nil => exact absurd rfl h0
        | cons => simp
      by_cases h6 : (l.length : Int) > 6
      · rw [if_pos h6]; omega
      · rw [if_neg h6]
        by_cases h3 : m > 3
        · rw [if_pos h3]; omega
        · rw [if_neg h3]; omega
theorem spec_IsPattern_ev (l : List Int) (hn : l.length ≤ 4611686018427387904) : Ev (fun k => spec_IsPattern.f k l) (isPat l) := by
  simp only [spec_IsPattern.f]
  exact ev_eq (spec_IsPattern_l0 l hn l.length 0 0 (by omega) (by omega) (by omega)) (by rw [List.drop_zero]; exact patS_eq l)


def letS : List Int → Int → Int
  | [], m => m
  | x :: l, m => letS l (mx m (wrap64 (x + 1)))
theorem spec_l28Letters_l0 (l : List Int) (hn : l.length ≤ 4611686018427387904) (d : Nat) : ∀ (i : Nat) (m : Int), i + d = l.length →
    Ev (fun k => spec_l28Letters.l0 k l m (i : Int)) (letS (l.drop i) m) := by
  induction d with
  | zero =>
    intro i m hi
    refine ev_succ ?_
    simp only [spec_l28Letters.l0]
    refine ev_neg (by omega) (ev_some ?_)
    rw [List.drop_of_length_le (by omega)]; rfl
  | succ d ih =>
    intro i m hi
    refine ev_succ ?_
    simp only [spec_l28Letters.l0, wr1 (show (0 : Int) ≤ (i : Int) by omega) (by omega)]
    refine ev_pos (by omega) (ev_pos (by omega) ?_)
    rw [drop_rd (by omega : i < l.length)]
    exact ih (i + 1) _ (by omega)
theorem spec_l28Letters_ev (l : List Int) (hn : l.length ≤ 4611686018427387904) : Ev (fun k => spec_l28Letters.f k l) (letS l 0) := by
  simp only [spec_l28Letters.f]
  exact spec_l28Letters_l0 l hn l.length 0 0 (by omega)
theorem letS_pat : ∀ (l : List Int) (m r : Int), 0 ≤ m → patRun l m = some r → r ≤ 100 → letS l m = r := by
  intro l
  induction l with
  | nil => intro m r _ h _; simpa [patRun, letS] using h
  | cons x l ih =>
    intro m r h0 h hr
    simp only [patRun] at h
    simp only [letS]
    split at h
    · cases h
    · split at h
      · cases h
      · split at h
        · have := (patRun_ge _ _ _ h).1
          rw [wr (by omega) (by omega)]
          have e : mx m (x + 1) = m + 1 := by unfold mx; rw [if_pos (by omega)]; omega
          rw [e]
          exact ih _ _ (by omega) h hr
        · have := (patRun_ge _ _ _ h).1
          rw [wr (by omega) (by omega)]
          have e : mx m (x + 1) = m := by unfold mx; rw [if_neg (by omega)]
          rw [e]
          exact ih _ _ h0 h hr
theorem patRun_mem : ∀ (l : List Int) (m r : Int), 0 ≤ m → patRun l m = some r → ∀ x ∈ l, 0 ≤ x ∧ x < r := by
  intro l
  induction l with
  | nil => intro m r _ _ x hx; cases hx
  | cons y l ih =>
    intro m r h0 h x hx
    simp only [patRun] at h
    split at h
    · cases h
    · split at h
      · cases h
      · split at h
        · have h1 := (patRun_ge _ _ _ h).1
          have h2 := ih _ _ (by omega) h
          rcases List.mem_cons.1 hx with rfl | hx
          · omega
          · exact h2 x hx
        · have h1 := (patRun_ge _ _ _ h).1
          have h2 := ih _ _ h0 h
          rcases List.mem_cons.1 hx with rfl | hx
          · omega
          · exact h2 x hx
/-- what is known of a pattern -/
theorem isPat_facts {l : List Int} (h : isPat l = true) : patRun l 0 = some (patL l) ∧ 1 ≤ patL l ∧ patL l ≤ 3 ∧ l.length ≤ 6 := by
  unfold isPat at h
  rw [decide_eq_true_eq] at h
  unfold patL at h ⊢
  cases hr : patRun l 0 with
  | none => rw [hr] at h; simp at h
  | some m =>
    rw [hr] at h
    simp only at h ⊢
    split at h
    · omega
    · rename_i h6
      split at h
      · omega
      · rename_i h3
        rw [if_neg h6, if_neg h3]
        exact ⟨rfl, by omega, by omega, by omega⟩
theorem letS_isPat {l : List Int} (h : isPat l = true) : letS l 0 = patL l := by
  obtain ⟨h1, h2, h3, h4⟩ := isPat_facts h
  exact letS_pat l 0 _ (by omega) h1 (by omega)
theorem patL_no {l : List Int} (h : isPat l = false) : patL l ≤ 0 := by
  unfold isPat at h
  rw [decide_eq_false_iff_not] at h
  omega
theorem patL_nonneg (l : List Int) : 0 ≤ patL l := by
  unfold patL
  split
  · omega
  · rename_i m hr
    have := (patRun_ge _ _ _ hr).1
    split
    · omega
    · split <;> omega


def len40 (x : Int) : Bool := decide (1 ≤ x ∧ x ≤ 40)
def areLen (p n : List Int) : Bool := isPat p && decide ((n.length : Int) = patL p) && n.all len40
theorem spec_l28Lengths_l0 (p n : List Int) (hp : p.length ≤ 4611686018427387904) (hn : n.length ≤ 4611686018427387904) (d : Nat) : ∀ (i : Nat), i + d = n.length →
    Ev (fun k => spec_l28Lengths.l0 k p n (i : Int)) (isPat p && decide ((n.length : Int) = patL p) && (n.drop i).all len40) := by
  induction d with
  | zero =>
    intro i hi
    refine ev_succ ?_
    simp only [spec_l28Lengths.l0]
    refine ev_neg (by omega) ?_
    rw [show n.drop i = [] from List.drop_of_length_le (by omega)]
    refine ev_bind (spec_IsPattern_ev p hp) (ev_ite (fun h => ?_) (fun h => ev_some ?_))
    · refine ev_bind (spec_l28Letters_ev p hp) (ev_some ?_)
      rw [letS_isPat h, h]
      simp only [List.all_nil, Bool.and_true, Bool.true_and]
      rw [Bool.eq_iff_iff]; simp
    · rw [Bool.not_eq_true] at h; rw [h]; rfl
  | succ d ih =>
    intro i hi
    refine ev_succ ?_
    simp only [spec_l28Lengths.l0, l1In_eq, wr1 (show (0 : Int) ≤ (i : Int) by omega) (by omega), Option.bind_some]
    refine ev_pos (by omega) (ev_pos (by omega) ?_)
    rw [drop_rd (by omega : i < n.length)]
    refine ev_ite (fun h => ev_eq (ih (i + 1) (by omega)) ?_) (fun h => ev_some ?_)
    · simp only [List.all_cons, len40, h, Bool.true_and]
    · rw [Bool.not_eq_true] at h
      simp only [List.all_cons, len40, h, Bool.false_and, Bool.and_false]
theorem spec_l28Lengths_ev (p n : List Int) (hp : p.length ≤ 4611686018427387904) (hn : n.length ≤ 4611686018427387904) : Ev (fun k => spec_l28Lengths.f k p n) (areLen p n) := by
  simp only [spec_l28Lengths.f]
  exact spec_l28Lengths_l0 p n hp hn n.length 0 (by omega)
theorem impl_areLengths_l0 (n : List Int) (hn : n.length ≤ 4611686018427387904) (d : Nat) : ∀ (i : Nat), i + d = n.length →
    Ev (fun k => impl_areLengths.l0 k n (n.length : Int) (i : Int)) ((n.drop i).all len40) := by
  induction d with
  | zero =>
    intro i hi
    refine ev_succ ?_
    simp only [impl_areLengths.l0]
    refine ev_neg (by omega) (ev_some ?_)
    rw [List.drop_of_length_le (by omega)]; rfl
  | succ d ih =>
    intro i hi
    refine ev_succ ?_
    simp only [impl_areLengths.l0, wr1 (show (0 : Int) ≤ (i : Int) by omega) (by omega)]
    refine ev_pos (by omega) (ev_pos (by omega) (ev_pos (by omega) ?_))
    rw [drop_rd (by omega : i < n.length)]
    refine ev_ite (fun h => ev_some ?_) (fun h => ev_ite (fun h' => ev_some ?_) (fun h' => ev_eq (ih (i + 1) (by omega)) ?_))
    · simp only [List.all_cons, len40, decide_eq_false (show ¬ (1 ≤ rd n (i : Int) ∧ rd n (i : Int) ≤ 40) by omega), Bool.false_and]
    · simp only [List.all_cons, len40, decide_eq_false (show ¬ (1 ≤ rd n (i : Int) ∧ rd n (i : Int) ≤ 40) by omega), Bool.false_and]
    · simp only [List.all_cons, len40, decide_eq_true (show (1 ≤ rd n (i : Int) ∧ rd n (i : Int) ≤ 40) by omega), Bool.true_and]
theorem impl_areLengths_ev (p n : List Int) (hp : p.length ≤ 4611686018427387904) (hn : n.length ≤ 4611686018427387904) : Ev (fun k => impl_areLengths.f k p n) (areLen p n) := by
  simp only [impl_areLengths.f]
  have no : ∀ b : Bool, b = true → areLen p n = false → Ev (fun k => impl_areLengths.j0 k n b) (areLen p n) := by
    intro b hb h
    subst hb
    refine ev_succ ?_
    simp only [impl_areLengths.j0]
    exact ev_pos trivial (ev_some h.symm)
  refine ev_bind (impl_IsPattern_ev p hp) (ev_ite (fun h => ?_) (fun h => no _ rfl ?_))
  · refine ev_bind (impl_patternLetters_ev p hp) ?_
    by_cases he : (n.length : Int) = patL p
    · refine ev_succ ?_
      simp only [impl_areLengths.j0]
      refine ev_neg (by simp [he]) (ev_eq (impl_areLengths_l0 n hn n.length 0 (by omega)) ?_)
      unfold areLen
      rw [h, decide_eq_true he]; simp
    · refine no _ (by simpa using he) ?_
      unfold areLen
      rw [decide_eq_false he]; simp
  · unfold areLen
    rw [Bool.not_eq_true] at h
    rw [h]; rfl
def msum (n : List Int) : List Int → Int
  | [] => 0
  | x :: p => rd n x + msum n p
def mLen (p n : List Int) : Int := if areLen p n = true then msum n p else -1
theorem areLen_facts {p n : List Int} (h : areLen p n = true) : isPat p = true ∧ (n.length : Int) = patL p ∧ (∀ x ∈ n, 1 ≤ x ∧ x ≤ 40) ∧ (∀ x ∈ p, 0 ≤ x ∧ x < (n.length : Int)) ∧ p.length ≤ 6 ∧ n.length ≤ 3 := by
  unfold areLen at h
  simp only [Bool.and_eq_true, decide_eq_true_eq, List.all_eq_true] at h
  obtain ⟨⟨h1, h2⟩, h3⟩ := h
  obtain ⟨f1, f2, f3, f4⟩ := isPat_facts h1
  refine ⟨h1, h2, fun x hx => by simpa [len40] using h3 x hx, fun x hx => ?_, f4, by omega⟩
  rw [h2]
  exact patRun_mem p 0 _ (by omega) f1 x hx
theorem rd_len {p n : List Int} (h : areLen p n = true) {x : Int} (hx : x ∈ p) : 1 ≤ rd n x ∧ rd n x ≤ 40 := by
  obtain ⟨_, _, h3, h4, _, _⟩ := areLen_facts h
  have := h4 x hx
  obtain ⟨i, rfl⟩ := Int.eq_ofNat_of_zero_le this.1
  exact h3 _ (rd_mem (by omega))
theorem spec_MatchLength_l0 (p n : List Int) (h : areLen p n = true) (d : Nat) : ∀ (i : Nat) (s : Int), i + d = p.length → 0 ≤ s → s ≤ 40 * i →
    Ev (fun k => spec_MatchLength.l0 k p n s (i : Int)) (s + msum n (p.drop i)) := by
  obtain ⟨_, _, _, h4, h5, _⟩ := areLen_facts h
  induction d with
  | zero =>
    intro i s hi h0 h1
    refine ev_succ ?_
    simp only [spec_MatchLength.l0]
    refine ev_neg (by omega) (ev_some ?_)
    rw [List.drop_of_length_le (by omega)]; simp [msum]
  | succ d ih =>
    intro i s hi h0 h1
    have hm := rd_mem (show i < p.length by omega)
    have hb := h4 _ hm
    have hr := rd_len h hm
    refine ev_succ ?_
    simp only [spec_MatchLength.l0, wr1 (show (0 : Int) ≤ (i : Int) by omega) (by omega)]
    refine ev_pos (by omega) (ev_pos (by omega) (ev_pos hb.1 (ev_pos hb.2 ?_)))
    rw [wr (n := s + _) (by omega) (by omega), drop_rd (by omega : i < p.length)]
    refine ev_eq (ih (i + 1) _ (by omega) (by omega) (by omega)) ?_
    simp only [msum]; omega
theorem spec_MatchLength_ev (p n : List Int) (hp : p.length ≤ 4611686018427387904) (hn : n.length ≤ 4611686018427387904) : Ev (fun k => spec_MatchLength.f k p n) (mLen p n) := by
  simp only [spec_MatchLength.f]
  unfold mLen
  refine ev_bind (spec_l28Lengths_ev p n hp hn) (ev_ite (fun h => ?_) (fun h => ev_some (by rw [if_neg h])))
  rw [if_pos h]
  exact ev_eq (spec_MatchLength_l0 p n h p.length 0 0 (by omega) (by omega) (by omega)) (by simp)


theorem handCmp_zero : ∀ (a b : List Int), handCmp a b = 0 ↔ a = b := by
  intro a
  induction a with
  | nil => intro b; cases b <;> simp [handCmp]
  | cons x a ih =>
    intro b
    cases b with
    | nil => simp [handCmp]
    | cons y b =>
      simp only [handCmp]
      split
      · simp; omega
      · split
        · simp; omega
        · rw [ih]; simp; omega
theorem msum_ge {p n : List Int} (h : areLen p n = true) : ∀ q : List Int, (∀ x ∈ q, x ∈ p) → 0 ≤ msum n q ∧ msum n q ≤ 40 * (q.length : Int)
  | [], _ => by simp [msum]
  | x :: q, hq => by
    have h1 := rd_len h (hq x (by simp))
    have h2 := msum_ge h q (fun y hy => hq y (by simp [hy]))
    simp only [msum, List.length_cons]; omega
theorem maGo_over {w p n : List Int} (h : areLen p n = true) : ∀ (q : List Int) (a : Int) (ws : List (Option (List Int))), (∀ x ∈ q, x ∈ p) → a ≤ (w.length : Int) → a + msum n q > (w.length : Int) → maGo w n q a ws = false
  | [], a, ws, _, ha, ho => by simp [msum] at ho; omega
  | x :: q, a, ws, hq, ha, ho => by
    have h1 := rd_len h (hq x (by simp))
    have ih := fun (ws' : List (Option (List Int))) => maGo_over (w := w) h q (a + rd n x) ws' (fun y hy => hq y (by simp [hy]))
    simp only [msum] at ho
    unfold maGo
    by_cases hc : a + rd n x > (w.length : Int)
    · rw [if_pos hc]
    · rw [if_neg hc]
      split
      · exact ih _ (by omega) (by omega)
      · split
        · exact ih _ (by omega) (by omega)
        · rfl
def RelF (w n first : List Int) (ws : List (Option (List Int))) : Prop := first.length = 3 ∧ ws.length = n.length ∧ ∀ x : Nat, x < n.length → (rd first (x : Int) < 0 ∧ ws.getD x none = none) ∨ (0 ≤ rd first (x : Int) ∧ rd first (x : Int) + rd n (x : Int) ≤ (w.length : Int) ∧ ws.getD x none = some (handCut w (rd first (x : Int)) (rd n (x : Int))))
theorem rd_set_eq {l : List Int} {i : Nat} (v : Int) (h : i < l.length) : rd (l.set i v) (i : Int) = v := by
  rw [rd_nat]; simp [List.getD_eq_getElem?_getD, h]
theorem rd_set_ne {l : List Int} {i j : Nat} (v : Int) (h : i ≠ j) : rd (l.set i v) (j : Int) = rd l (j : Int) := by
  rw [rd_nat, rd_nat]; simp [List.getD_eq_getElem?_getD, List.getElem?_set, h]
theorem spec_MatchAt_l0 (w p n : List Int) (hw : w.length ≤ 1000000000000000) (h : areLen p n = true) (d : Nat) : ∀ (i : Nat) (a : Int) (first : List Int) (ws : List (Option (List Int))), i + d = p.length → 0 ≤ a → a + msum n (p.drop i) ≤ (w.length : Int) → RelF w n first ws →
    Ev (fun k => spec_MatchAt.l0 k w p n first a (i : Int)) (maGo w n (p.drop i) a ws) := by
  obtain ⟨_, _, _, h4, h5, h6⟩ := areLen_facts h
  induction d with
  | zero =>
    intro i a first ws hi h0 h1 hr
    refine ev_succ ?_
    simp only [spec_MatchAt.l0]
    rw [show p.drop i = [] from List.drop_of_length_le (by omega)]
    exact ev_neg (by omega) (ev_some rfl)
  | succ d ih =>
    intro i a first ws hi h0 h1 hr
    have hm := rd_mem (show i < p.length by omega)
    have hx := h4 _ hm
    have hl := rd_len h hm
    obtain ⟨x, hxe⟩ := Int.eq_ofNat_of_zero_le hx.1
    rw [drop_rd (show i < p.length by omega)] at h1 ⊢
    have hms := (msum_ge h (p.drop (i + 1)) (fun y hy => List.mem_of_mem_drop hy)).1
    simp only [msum] at h1
    rw [hxe] at hx hl h1
    refine ev_succ ?_
    simp only [spec_MatchAt.l0]
    rw [wr1 (by omega) (by omega), hxe, show ((i : Int) + 1) = ((i + 1 : Nat) : Int) by omega, wr (show -9223372036854775808 ≤ a + rd n (x : Int) by omega) (by omega)]
    have hxl : x < n.length := by omega
    have hf := hr.1
    refine ev_pos (by omega) (ev_pos (by omega) (ev_pos (by omega) (ev_pos hx.2 (ev_pos (by omega) ?_))))
    unfold maGo
    rw [if_neg (show ¬ a + rd n (x : Int) > (w.length : Int) by omega), Int.toNat_natCast]
    rcases hr.2.2 x hxl with ⟨e1, e2⟩ | ⟨e1, e2, e3⟩
    · rw [e2]
      refine ev_pos e1 (ih (i + 1) _ _ _ (by omega) (by omega) (by omega) ⟨by simpa using hf, by simpa using hr.2.1, fun y hy => ?_⟩)
      by_cases hyx : y = x
      · subst hyx
        right
        rw [rd_set_eq _ (by omega)]
        refine ⟨h0, by omega, ?_⟩
        simp [List.getD_eq_getElem?_getD, show y < ws.length by have := hr.2.1; omega]
      · rw [rd_set_ne _ (Ne.symm hyx)]
        have : (ws.set x (some (handCut w a (rd n (x : Int))))).getD y none = ws.getD y none := by simp [List.getD_eq_getElem?_getD, List.getElem?_set, Ne.symm hyx]
        rw [this]
        exact hr.2.2 y hy
    · rw [e3]
      show Ev _ (if handCmp (handCut w (rd first (x : Int)) (rd n (x : Int))) (handCut w a (rd n (x : Int))) = 0 then maGo w n (p.drop (i + 1)) (a + rd n (x : Int)) ws else false)
      rw [wr (show -9223372036854775808 ≤ rd first (x : Int) + rd n (x : Int) by omega) (by omega)]
      refine ev_neg (by omega) (ev_pos e1 (ev_pos (by omega) (ev_pos (by omega) (ev_pos h0 (ev_pos (by omega) (ev_pos (by omega) ?_))))))
      have hs := spec_l3Same_ev (handCut w (rd first (x : Int)) (rd n (x : Int))) (handCut w a (rd n (x : Int))) (by unfold handCut; rw [List.length_drop, List.length_take]; omega)
      refine ev_bind hs (ev_ite (fun he => ?_) (fun he => ev_some ?_))
      · simp only [decide_eq_true_eq] at he
        rw [if_pos ((handCmp_zero _ _).2 he)]
        exact ih (i + 1) _ _ _ (by omega) (by omega) (by omega) hr
      · simp only [decide_eq_true_eq] at he
        rw [if_neg (fun e => he ((handCmp_zero _ _).1 e))]
def matRes (w p : List Int) (a : Int) (n : List Int) : Bool := if areLen p n = true then (if a < 0 ∨ a > (w.length : Int) then false else maGo w n p a (List.replicate n.length none)) else false
theorem spec_MatchAt_ev (w p : List Int) (a : Int) (n : List Int) (hw : w.length ≤ 1000000000000000) (hp : p.length ≤ 4611686018427387904) (hn : n.length ≤ 4611686018427387904) : Ev (fun k => spec_MatchAt.f k w p a n) (matRes w p a n) := by
  simp only [spec_MatchAt.f]
  have no : ∀ b : Bool, b = true → matRes w p a n = false → Ev (fun k => spec_MatchAt.j0 k w p a n b) (matRes w p a n) := by
    intro b hb hm
    subst hb
    refine ev_succ ?_
    simp only [spec_MatchAt.j0]
    exact ev_pos trivial (ev_some hm.symm)
  refine ev_bind (spec_MatchLength_ev p n hp hn) ?_
  unfold mLen
  by_cases h : areLen p n = true
  · rw [if_pos h]
    have hm := msum_ge h p (fun x hx => hx)
    obtain ⟨_, _, _, _, h5, h6⟩ := areLen_facts h
    refine ev_neg (by omega) (ev_ite (fun h1 => no _ rfl ?_) (fun h1 => ev_ite (fun h2 => no _ rfl ?_) (fun h2 => ?_)))
    · unfold matRes; rw [if_pos h, if_pos (.inl h1)]
    · unfold matRes; rw [if_pos h, if_pos (.inr h2)]
    · rw [wr (show -9223372036854775808 ≤ a + msum n p by omega) (by omega)]
      by_cases h3 : a + msum n p > (w.length : Int)
      · refine no _ (decide_eq_true h3) ?_
        unfold matRes
        rw [if_pos h, if_neg (show ¬ (a < 0 ∨ a > (w.length : Int)) by omega)]
        exact maGo_over h p a _ (fun x hx => hx) (by omega) h3
      · rw [decide_eq_false h3]
        refine ev_succ ?_
        simp only [spec_MatchAt.j0]
        refine ev_neg (by simp) ?_
        unfold matRes
        rw [if_pos h, if_neg (show ¬ (a < 0 ∨ a > (w.length : Int)) by omega)]
        have := spec_MatchAt_l0 w p n hw h p.length 0 a [-1, -1, -1] (List.replicate n.length none) (by omega) (by omega) (by rw [List.drop_zero]; omega) ⟨rfl, by simp, fun x hx => .inl ⟨?_, by simp [List.getD_eq_getElem?_getD, hx]⟩⟩
        · rw [List.drop_zero] at this; exact this
        · rcases (show x = 0 ∨ x = 1 ∨ x = 2 by omega) with e | e | e <;> subst e <;> decide
  · rw [if_neg h]
    refine ev_pos (by omega) (no _ rfl ?_)
    unfold matRes; rw [if_neg h]
theorem maOk_of {w p n : List Int} (hw : w.length ≤ 1000000000000000) (h : areLen p n = true) : maOk w p n = true := by
  obtain ⟨_, _, h3, h4, h5, h6⟩ := areLen_facts h
  simp only [maOk, Bool.and_eq_true, decide_eq_true_eq, List.all_eq_true]
  exact ⟨⟨⟨⟨h4, h3⟩, h6⟩, hw⟩, h5⟩
theorem impl_MatchAt_ev (w p : List Int) (a : Int) (n : List Int) (hw : w.length ≤ 1000000000000000) (hp : p.length ≤ 4611686018427387904) (hn : n.length ≤ 4611686018427387904) : Ev (fun k => impl_MatchAt.f k w p a n) (matRes w p a n) := by
  simp only [impl_MatchAt.f]
  unfold matRes
  refine ev_bind (impl_areLengths_ev p n hp hn) (ev_ite (fun h => ?_) (fun h => ev_some (by rw [if_neg h])))
  rw [if_pos h]
  refine ev_ite (fun h1 => ev_some (by rw [if_pos (.inl h1)])) (fun h1 => ev_ite (fun h2 => ev_some (by rw [if_pos (.inr h2)])) (fun h2 => ?_))
  rw [if_neg (show ¬ (a < 0 ∨ a > (w.length : Int)) by omega)]
  exact ev_pos (maOk_of hw h) (ev_some rfl)


theorem patRun_all : ∀ (l : List Int) (m r : Int), patRun l m = some r → ∀ j, m ≤ j → j < r → j ∈ l
  | [], m, r, h, j, h1, h2 => by simp only [patRun, Option.some.injEq] at h; omega
  | x :: l, m, r, h, j, h1, h2 => by
    simp only [patRun] at h
    split at h
    · cases h
    · split at h
      · cases h
      · split at h
        · by_cases hj : j = m
          · simp; left; omega
          · exact List.mem_cons_of_mem _ (patRun_all l _ _ h j (by omega) h2)
        · exact List.mem_cons_of_mem _ (patRun_all l _ _ h j h1 h2)
theorem pat_mem {p : List Int} (h : isPat p = true) (j : Int) (h0 : 0 ≤ j) (h1 : j < patL p) : j ∈ p := by
  unfold patL at h1
  cases hr : patRun p 0 with
  | none => rw [hr] at h1; simp only at h1; omega
  | some r =>
    rw [hr] at h1
    simp only at h1
    refine patRun_all p 0 r hr j h0 ?_
    split at h1
    · omega
    · split at h1 <;> omega
theorem msum_one {p n : List Int} (h : areLen p n = true) : ∀ q : List Int, (∀ x ∈ q, x ∈ p) → ∀ x ∈ q, rd n x ≤ msum n q
  | [], _, x, hx => by simp at hx
  | y :: q, hq, x, hx => by
    have h1 := rd_len h (hq y (by simp))
    have h2 := (msum_ge h q (fun z hz => hq z (by simp [hz]))).1
    simp only [msum]
    rcases List.mem_cons.1 hx with e | e
    · subst e; omega
    · have := msum_one h q (fun z hz => hq z (by simp [hz])) x e; omega
theorem matRes_big (w p : List Int) (a : Int) (n : List Int) (x : Int) (hx : x ∈ n) (hb : x > (w.length : Int) - a) : matRes w p a n = false := by
  unfold matRes
  by_cases h : areLen p n = true
  · rw [if_pos h]
    obtain ⟨h1, h2, _, _, _, _⟩ := areLen_facts h
    by_cases h3 : a < 0 ∨ a > (w.length : Int)
    · rw [if_pos h3]
    · rw [if_neg h3]
      obtain ⟨j, hj, rfl⟩ := List.getElem_of_mem hx
      have hm := pat_mem h1 (j : Int) (by omega) (by omega)
      have := msum_one h p (fun z hz => hz) _ hm
      rw [rd_get hj] at this
      exact maGo_over h p a _ (fun z hz => hz) (by omega) (by omega)
  · rw [if_neg h]
def mLoop (g : Int → Option (List Int)) : Nat → Int → Option (List Int)
  | 0, _ => none
  | d + 1, a => match g a with
    | some x => some x
    | none => mLoop g d (a + 1)
def mF (f : List Int → Bool) (m : Nat) : Nat → List Int → Option (List Int)
  | 0, pre => if f pre = true then some pre else none
  | r + 1, pre => mLoop (fun a => mF f m r (pre ++ [a])) m 1
theorem mLoop_none {g : Int → Option (List Int)} : ∀ (d : Nat) (a : Int), (∀ b, a ≤ b → g b = none) → mLoop g d a = none
  | 0, _, _ => rfl
  | d + 1, a, h => by
    simp only [mLoop, h a (Int.le_refl _)]
    exact mLoop_none d (a + 1) (fun b hb => h b (by omega))
theorem mF_none {f : List Int → Bool} {m : Nat} {M : Nat} (hf : ∀ l x, x ∈ l → x > (m : Int) → f l = false) : ∀ (r : Nat) (pre : List Int) (x : Int), x ∈ pre → x > (m : Int) → mF f M r pre = none
  | 0, pre, x, hx, hb => by simp only [mF, hf pre x hx hb]; rfl
  | r + 1, pre, x, hx, hb => by
    simp only [mF]
    exact mLoop_none _ _ (fun b _ => mF_none hf r _ x (by simp [hx]) hb)
theorem mLoop_cut {g : Int → Option (List Int)} {m : Nat} (h : ∀ b, b > (m : Int) → g b = none) : ∀ (d e : Nat) (a : Int), a + d = m + 1 → mLoop g (d + e) a = mLoop g d a
  | 0, e, a, ha => by rw [Nat.zero_add]; exact mLoop_none _ _ (fun b hb => h b (by omega))
  | d + 1, e, a, ha => by
    rw [show d + 1 + e = (d + e) + 1 by omega]
    simp only [mLoop]
    rw [mLoop_cut h d e (a + 1) (by omega)]
theorem mLoop_congr {g g' : Int → Option (List Int)} (h : ∀ a, g a = g' a) : ∀ (d : Nat) (a : Int), mLoop g d a = mLoop g' d a
  | 0, _ => rfl
  | d + 1, a => by simp only [mLoop, h a, mLoop_congr h d]
theorem mF_cut {f : List Int → Bool} {m M : Nat} (hm : m ≤ M) (hf : ∀ l x, x ∈ l → x > (m : Int) → f l = false) : ∀ (r : Nat) (pre : List Int), mF f M r pre = mF f m r pre
  | 0, pre => rfl
  | r + 1, pre => by
    simp only [mF]
    rw [show M = m + (M - m) by omega, mLoop_cut (m := m) ?_ m (M - m) 1 (by omega)]
    · refine mLoop_congr (fun a => ?_) _ _
      have := mF_cut hm hf r (pre ++ [a])
      rwa [show m + (M - m) = M by omega]
    · intro b hb
      rw [show m + (M - m) = M by omega]
      exact mF_none hf r _ b (by simp) hb
def fpGo (h : Nat → Option (List Int)) : Nat → Nat → Int × List Int × Bool
  | 0, _ => (0, [], false)
  | d + 1, i => match h i with
    | some x => ((i : Int), x, true)
    | none => fpGo h d (i + 1)
theorem fpGo_congr {h h' : Nat → Option (List Int)} : ∀ (d i : Nat), (∀ j, i ≤ j → j < i + d → h j = h' j) → fpGo h d i = fpGo h' d i
  | 0, _, _ => rfl
  | d + 1, i, e => by simp only [fpGo, e i (Nat.le_refl _) (by omega), fpGo_congr d (i + 1) (fun j h1 h2 => e j (by omega) (by omega))]
def optR (i : Nat) (o : Option (List Int)) (R : Int × List Int × Bool) : Int × List Int × Bool := match o with
  | some x => ((i : Int), x, true)
  | none => R
theorem optR_loop (i : Nat) (g : Int → Option (List Int)) (d : Nat) (a : Int) (R : Int × List Int × Bool) : optR i (mLoop g (d + 1) a) R = optR i (g a) (optR i (mLoop g d (a + 1)) R) := by
  simp only [mLoop]
  cases g a <;> rfl
/-! the reference's odometer -/
theorem sp_carry0 (w p : List Int) (n : Int) (i : Nat) (x : List Int) (R : Int × List Int × Bool) (h : Ev (fun k => spec_FindPattern.l1 k w p n (i : Int) x) R) : Ev (fun k => spec_FindPattern.l2 k w p n (i : Int) x 0) R := by
  refine ev_succ ?_
  simp only [spec_FindPattern.l2]
  exact ev_neg (by omega) h
theorem sp_carry1 (w p : List Int) (n : Int) (i : Nat) (a b : Int) (R : Int × List Int × Bool) (ha : 0 ≤ a ∧ a ≤ 100) (h : b > (w.length : Int) → Ev (fun k => spec_FindPattern.l1 k w p n (i : Int) [a + 1, 1, 1]) R) (h' : ¬ b > (w.length : Int) → Ev (fun k => spec_FindPattern.l1 k w p n (i : Int) [a, b, 1]) R) :
    Ev (fun k => spec_FindPattern.l2 k w p n (i : Int) [a, b, 1] 1) R := by
  refine ev_succ ?_
  simp only [spec_FindPattern.l2]
  have e1 : rd [a, b, 1] 1 = b := rfl
  have e2 : wrap64 (1 - 1) = 0 := wr (by omega) (by omega)
  have e3 : ([a, b, 1].set (1 : Int).toNat 1 : List Int) = [a, 1, 1] := rfl
  rw [e1, e2, e3]
  refine ev_pos (by omega) (ev_pos (by omega) (ev_pos (by simp) (ev_ite (fun hb => ?_) (fun hb => h' hb))))
  refine ev_bind (ev_some rfl) (ev_pos (by omega) (ev_pos (by simp) ?_))
  have e4 : rd [a, 1, 1] 0 = a := rfl
  rw [e4, wr (show -9223372036854775808 ≤ a + 1 by omega) (by omega)]
  exact sp_carry0 w p n i _ R (h hb)
theorem sp_carry2 (w p : List Int) (n : Int) (i : Nat) (a b c : Int) (R : Int × List Int × Bool) (hb : 0 ≤ b ∧ b ≤ 100) (h : c > (w.length : Int) → Ev (fun k => spec_FindPattern.l2 k w p n (i : Int) [a, b + 1, 1] 1) R) (h' : ¬ c > (w.length : Int) → Ev (fun k => spec_FindPattern.l1 k w p n (i : Int) [a, b, c]) R) :
    Ev (fun k => spec_FindPattern.l2 k w p n (i : Int) [a, b, c] 2) R := by
  refine ev_succ ?_
  simp only [spec_FindPattern.l2]
  have e1 : rd [a, b, c] 2 = c := rfl
  have e2 : wrap64 (2 - 1) = 1 := wr (by omega) (by omega)
  have e3 : ([a, b, c].set (2 : Int).toNat 1 : List Int) = [a, b, 1] := rfl
  rw [e1, e2, e3]
  refine ev_pos (by omega) (ev_pos (by omega) (ev_pos (by simp) (ev_ite (fun hc => ?_) (fun hc => h' hc))))
  refine ev_bind (ev_some rfl) (ev_pos (by omega) (ev_pos (by simp) ?_))
  have e4 : rd [a, b, 1] 1 = b := rfl
  rw [e4, wr (show -9223372036854775808 ≤ b + 1 by omega) (by omega)]
  exact h hc
theorem sp_leaf (w p : List Int) (n : Nat) (i : Nat) (x : List Int) (R : Int × List Int × Bool) (hw : w.length ≤ 24) (hp : p.length ≤ 4611686018427387904) (hx : x.length = 3) (hn : 1 ≤ n ∧ n ≤ 3) (ha : rd x 0 ≤ (w.length : Int)) (hb : 0 ≤ rd x ((n - 1 : Nat) : Int) ∧ rd x ((n - 1 : Nat) : Int) ≤ 100)
    (h : matRes w p (i : Int) (x.take n) = false → Ev (fun k => spec_FindPattern.l2 k w p (n : Int) (i : Int) (x.set (n - 1) (rd x ((n - 1 : Nat) : Int) + 1)) ((n - 1 : Nat) : Int)) R) :
    Ev (fun k => spec_FindPattern.l1 k w p (n : Int) (i : Int) x) (if matRes w p (i : Int) (x.take n) = true then ((i : Int), x.take n, true) else R) := by
  refine ev_succ ?_
  simp only [spec_FindPattern.l1]
  have hm := spec_MatchAt_ev w p (i : Int) (x.take n) (by omega) hp (by simp; omega)
  rw [Int.toNat_natCast, wr (show -9223372036854775808 ≤ (n : Int) - 1 by omega) (by omega), show (n : Int) - 1 = ((n - 1 : Nat) : Int) by omega, Int.toNat_natCast, wr (show -9223372036854775808 ≤ rd x ((n - 1 : Nat) : Int) + 1 by omega) (by omega)]
  refine ev_pos (by omega) (ev_pos ha (ev_pos (by omega) (ev_pos (by omega) (ev_bind hm (ev_ite (fun h1 => ?_) (fun h1 => ?_))))))
  · rw [if_pos h1]
    exact ev_bind (ev_some rfl) (ev_bind (ev_some rfl) (ev_pos (by simp; omega) (ev_some (by simp))))
  · rw [if_neg h1]
    exact ev_pos (by omega) (ev_pos (by omega) (h (by simpa using h1)))


theorem sp_stop (w p : List Int) (n : Int) (i : Nat) (x : List Int) (R : Int × List Int × Bool) (hw : w.length ≤ 24) (hi : i < w.length) (hx : x.length = 3) (ha : rd x 0 > (w.length : Int)) (h : Ev (fun k => spec_FindPattern.l0 k w p n ((i + 1 : Nat) : Int)) R) : Ev (fun k => spec_FindPattern.l1 k w p n (i : Int) x) R := by
  refine ev_succ ?_
  simp only [spec_FindPattern.l1]
  rw [wr1 (show (0 : Int) ≤ (i : Int) by omega) (by omega), show ((i : Int) + 1) = ((i + 1 : Nat) : Int) by omega]
  exact ev_pos (by omega) (ev_neg (by omega) h)
theorem optR_if (i : Nat) (c : Bool) (x : List Int) (R : Int × List Int × Bool) : optR i (if c = true then some x else none) R = if c = true then ((i : Int), x, true) else R := by
  cases c <;> rfl
theorem sp_n1 (w p : List Int) (i : Nat) (R : Int × List Int × Bool) (hw : w.length ≤ 24) (hp : p.length ≤ 4611686018427387904) (hi : i < w.length) (h0 : Ev (fun k => spec_FindPattern.l0 k w p 1 ((i + 1 : Nat) : Int)) R) :
    ∀ (d : Nat) (a : Int), a + d = (w.length : Int) + 1 → 1 ≤ a → Ev (fun k => spec_FindPattern.l1 k w p 1 (i : Int) [a, 1, 1]) (optR i (mLoop (fun a => mF (matRes w p (i : Int)) w.length 0 ([] ++ [a])) d a) R)
  | 0, a, ha, _ => sp_stop w p 1 i _ _ hw hi rfl (by show a > _; omega) h0
  | d + 1, a, ha, h1 => by
    rw [optR_loop]
    have ih := sp_n1 w p i R hw hp hi h0 d (a + 1) (by omega) (by omega)
    have := sp_leaf w p 1 i [a, 1, 1] (optR i (mLoop (fun a => mF (matRes w p (i : Int)) w.length 0 ([] ++ [a])) d (a + 1)) R) hw hp rfl (by omega) (by show a ≤ _; omega) (by show 0 ≤ a ∧ a ≤ 100; omega) (fun _ => sp_carry0 w p 1 i _ _ ih)
    refine ev_eq this ?_
    exact (optR_if i (matRes w p (i : Int) [a]) [a] _).symm
theorem sp_n2b (w p : List Int) (i : Nat) (a : Int) (R : Int × List Int × Bool) (hw : w.length ≤ 24) (hp : p.length ≤ 4611686018427387904) (ha : 1 ≤ a ∧ a ≤ (w.length : Int)) (h0 : Ev (fun k => spec_FindPattern.l1 k w p 2 (i : Int) [a + 1, 1, 1]) R) :
    ∀ (d : Nat) (b : Int), b + d = (w.length : Int) → 1 ≤ b → Ev (fun k => spec_FindPattern.l1 k w p 2 (i : Int) [a, b, 1]) (optR i (mLoop (fun b => mF (matRes w p (i : Int)) w.length 0 ([a] ++ [b])) (d + 1) b) R)
  | d, b, hb, h1 => by
    rw [optR_loop]
    have := sp_leaf w p 2 i [a, b, 1] (optR i (mLoop (fun b => mF (matRes w p (i : Int)) w.length 0 ([a] ++ [b])) d (b + 1)) R) hw hp rfl (by omega) (by show a ≤ _; omega) (by show 0 ≤ b ∧ b ≤ 100; omega) (fun _ => sp_carry1 w p 2 i a (b + 1) _ (by omega) (fun hc => ?_) (fun hc => ?_))
    · refine ev_eq this ?_
      exact (optR_if i (matRes w p (i : Int) [a, b]) [a, b] _).symm
    · obtain rfl : d = 0 := by omega
      exact h0
    · obtain ⟨d', rfl⟩ : ∃ d', d = d' + 1 := ⟨d - 1, by omega⟩
      exact sp_n2b w p i a R hw hp ha h0 d' (b + 1) (by omega) (by omega)
theorem sp_n2 (w p : List Int) (i : Nat) (R : Int × List Int × Bool) (hw : w.length ≤ 24) (hp : p.length ≤ 4611686018427387904) (hi : i < w.length) (h0 : Ev (fun k => spec_FindPattern.l0 k w p 2 ((i + 1 : Nat) : Int)) R) :
    ∀ (d : Nat) (a : Int), a + d = (w.length : Int) + 1 → 1 ≤ a → Ev (fun k => spec_FindPattern.l1 k w p 2 (i : Int) [a, 1, 1]) (optR i (mLoop (fun a => mF (matRes w p (i : Int)) w.length 1 ([] ++ [a])) d a) R)
  | 0, a, ha, _ => sp_stop w p 2 i _ _ hw hi rfl (by show a > _; omega) h0
  | d + 1, a, ha, h1 => by
    rw [optR_loop]
    have ih := sp_n2 w p i R hw hp hi h0 d (a + 1) (by omega) (by omega)
    have := sp_n2b w p i a _ hw hp (by omega) ih (w.length - 1) 1 (by omega) (by omega)
    rw [show w.length - 1 + 1 = w.length by omega] at this
    exact this
theorem sp_n3c (w p : List Int) (i : Nat) (a b : Int) (R : Int × List Int × Bool) (hw : w.length ≤ 24) (hp : p.length ≤ 4611686018427387904) (ha : 1 ≤ a ∧ a ≤ (w.length : Int)) (hb : 1 ≤ b ∧ b ≤ (w.length : Int)) (h0 : Ev (fun k => spec_FindPattern.l2 k w p 3 (i : Int) [a, b + 1, 1] 1) R) :
    ∀ (d : Nat) (c : Int), c + d = (w.length : Int) → 1 ≤ c → Ev (fun k => spec_FindPattern.l1 k w p 3 (i : Int) [a, b, c]) (optR i (mLoop (fun c => mF (matRes w p (i : Int)) w.length 0 ([a, b] ++ [c])) (d + 1) c) R)
  | d, c, hc, h1 => by
    rw [optR_loop]
    have := sp_leaf w p 3 i [a, b, c] (optR i (mLoop (fun c => mF (matRes w p (i : Int)) w.length 0 ([a, b] ++ [c])) d (c + 1)) R) hw hp rfl (by omega) (by show a ≤ _; omega) (by show 0 ≤ c ∧ c ≤ 100; omega) (fun _ => sp_carry2 w p 3 i a b (c + 1) _ (by omega) (fun hd => ?_) (fun hd => ?_))
    · refine ev_eq this ?_
      exact (optR_if i (matRes w p (i : Int) [a, b, c]) [a, b, c] _).symm
    · obtain rfl : d = 0 := by omega
      exact h0
    · obtain ⟨d', rfl⟩ : ∃ d', d = d' + 1 := ⟨d - 1, by omega⟩
      exact sp_n3c w p i a b R hw hp ha hb h0 d' (c + 1) (by omega) (by omega)
theorem sp_n3b (w p : List Int) (i : Nat) (a : Int) (R : Int × List Int × Bool) (hw : w.length ≤ 24) (hp : p.length ≤ 4611686018427387904) (ha : 1 ≤ a ∧ a ≤ (w.length : Int)) (h0 : Ev (fun k => spec_FindPattern.l1 k w p 3 (i : Int) [a + 1, 1, 1]) R) :
    ∀ (d : Nat) (b : Int), b + d = (w.length : Int) → 1 ≤ b → Ev (fun k => spec_FindPattern.l1 k w p 3 (i : Int) [a, b, 1]) (optR i (mLoop (fun b => mF (matRes w p (i : Int)) w.length 1 ([a] ++ [b])) (d + 1) b) R)
  | d, b, hb, h1 => by
    rw [optR_loop]
    have hnext : Ev (fun k => spec_FindPattern.l2 k w p 3 (i : Int) [a, b + 1, 1] 1) (optR i (mLoop (fun b => mF (matRes w p (i : Int)) w.length 1 ([a] ++ [b])) d (b + 1)) R) := by
      refine sp_carry1 w p 3 i a (b + 1) _ (by omega) (fun hc => ?_) (fun hc => ?_)
      · obtain rfl : d = 0 := by omega
        exact h0
      · obtain ⟨d', rfl⟩ : ∃ d', d = d' + 1 := ⟨d - 1, by omega⟩
        exact sp_n3b w p i a R hw hp ha h0 d' (b + 1) (by omega) (by omega)
    have := sp_n3c w p i a b _ hw hp ha (by omega) hnext (w.length - 1) 1 (by omega) (by omega)
    rw [show w.length - 1 + 1 = w.length by omega] at this
    exact this
theorem sp_n3 (w p : List Int) (i : Nat) (R : Int × List Int × Bool) (hw : w.length ≤ 24) (hp : p.length ≤ 4611686018427387904) (hi : i < w.length) (h0 : Ev (fun k => spec_FindPattern.l0 k w p 3 ((i + 1 : Nat) : Int)) R) :
    ∀ (d : Nat) (a : Int), a + d = (w.length : Int) + 1 → 1 ≤ a → Ev (fun k => spec_FindPattern.l1 k w p 3 (i : Int) [a, 1, 1]) (optR i (mLoop (fun a => mF (matRes w p (i : Int)) w.length 2 ([] ++ [a])) d a) R)
  | 0, a, ha, _ => sp_stop w p 3 i _ _ hw hi rfl (by show a > _; omega) h0
  | d + 1, a, ha, h1 => by
    rw [optR_loop]
    have ih := sp_n3 w p i R hw hp hi h0 d (a + 1) (by omega) (by omega)
    have := sp_n3b w p i a _ hw hp (by omega) ih (w.length - 1) 1 (by omega) (by omega)
    rw [show w.length - 1 + 1 = w.length by omega] at this
    exact this
theorem spec_fp_l0 (w p : List Int) (hw : w.length ≤ 24) (hp : isPat p = true) (d : Nat) : ∀ (i : Nat), i + d = w.length →
    Ev (fun k => spec_FindPattern.l0 k w p (patL p) (i : Int)) (fpGo (fun j => mF (matRes w p (j : Int)) w.length (patL p).toNat []) d i) := by
  obtain ⟨f1, f2, f3, f4⟩ := isPat_facts hp
  induction d with
  | zero =>
    intro i hi
    refine ev_succ ?_
    simp only [spec_FindPattern.l0]
    exact ev_neg (by omega) (ev_some rfl)
  | succ d ih =>
    intro i hi
    have hn := ih (i + 1) (by omega)
    refine ev_succ ?_
    simp only [spec_FindPattern.l0]
    refine ev_pos (by omega) ?_
    have fin : ∀ (m : Nat), (patL p).toNat = m + 1 → Ev (fun k => spec_FindPattern.l1 k w p (patL p) (i : Int) [1, 1, 1]) (optR i (mLoop (fun a => mF (matRes w p (i : Int)) w.length m ([] ++ [a])) w.length 1) (fpGo (fun j => mF (matRes w p (j : Int)) w.length (patL p).toNat []) d (i + 1))) → Ev (fun k => spec_FindPattern.l1 k w p (patL p) (i : Int) [1, 1, 1]) (fpGo (fun j => mF (matRes w p (j : Int)) w.length (patL p).toNat []) (d + 1) i) := by
      intro m hm he
      refine ev_eq he ?_
      have e1 : mF (matRes w p (i : Int)) w.length (patL p).toNat [] = mLoop (fun a => mF (matRes w p (i : Int)) w.length m ([] ++ [a])) w.length 1 := by rw [hm]; rfl
      simp only [fpGo, e1]
      rfl
    rcases (show patL p = 1 ∨ patL p = 2 ∨ patL p = 3 by omega) with e | e | e
    · refine fin 0 (by omega) ?_
      rw [e] at hn ⊢
      exact sp_n1 w p i _ hw (by omega) (by omega) hn w.length 1 (by omega) (by omega)
    · refine fin 1 (by omega) ?_
      rw [e] at hn ⊢
      exact sp_n2 w p i _ hw (by omega) (by omega) hn w.length 1 (by omega) (by omega)
    · refine fin 2 (by omega) ?_
      rw [e] at hn ⊢
      exact sp_n3 w p i _ hw (by omega) (by omega) hn w.length 1 (by omega) (by omega)
def fpRes (w p : List Int) : Int × List Int × Bool := if isPat p = true ∧ w.length ≤ 24 then fpGo (fun j => mF (matRes w p (j : Int)) w.length (patL p).toNat []) w.length 0 else (0, [], false)
theorem spec_FindPattern_ev (w p : List Int) (hp : p.length ≤ 4611686018427387904) : Ev (fun k => spec_FindPattern.f k w p) (fpRes w p) := by
  simp only [spec_FindPattern.f]
  have no : ∀ b : Bool, b = true → ¬ (isPat p = true ∧ w.length ≤ 24) → Ev (fun k => spec_FindPattern.j0 k w p b) (fpRes w p) := by
    intro b hb h
    subst hb
    refine ev_succ ?_
    simp only [spec_FindPattern.j0]
    exact ev_pos trivial (ev_some (by unfold fpRes; rw [if_neg h]))
  refine ev_bind (spec_IsPattern_ev p hp) (ev_ite (fun h => ?_) (fun h => no _ rfl (fun e => h e.1)))
  by_cases h2 : (w.length : Int) > 24
  · rw [decide_eq_true h2]; exact no _ rfl (by omega)
  · rw [decide_eq_false h2]
    refine ev_succ ?_
    simp only [spec_FindPattern.j0]
    refine ev_neg (by simp) (ev_bind (spec_l28Letters_ev p hp) ?_)
    rw [letS_isPat h]
    unfold fpRes
    rw [if_pos (And.intro h (by omega))]
    exact spec_fp_l0 w p (by omega) h w.length 0 (by omega)
theorem clone_eq (l : List Int) (h : l.length ≤ 1000) : slices_Clone_int_int.f l = some l := by
  simp only [slices_Clone_int_int.f, Option.bind_some, List.nil_append]
  rw [if_pos (by simp; omega)]
def mlRes (f : List Int → Bool) (m r : Nat) (pre : List Int) : List Int × Bool := match r with
  | 0 => (pre, f pre)
  | r + 1 => match mF f m (r + 1) pre with
    | some x => (x, true)
    | none => ([], false)
theorem mlRes_mF (f : List Int → Bool) (m r : Nat) (pre : List Int) : (match mF f m r pre with | some x => (mlRes f m r pre).2 = true ∧ (mlRes f m r pre).1 = x | none => (mlRes f m r pre).2 = false) := by
  cases r with
  | zero =>
    simp only [mF, mlRes]
    cases f pre <;> simp
  | succ r =>
    cases h : mF f m (r + 1) pre <;> simp only [mlRes, h] <;> simp
theorem impl_ml_ev (w p : List Int) (i : Nat) (hw : w.length ≤ 24) (hi : i ≤ w.length) (hp : isPat p = true) (r : Nat) : ∀ (pre : List Int), (pre.length : Int) + r = patL p →
    Ev (fun k => impl_matchLengths.f k w p (i : Int) pre) (mlRes (matRes w p (i : Int)) (w.length - i) r pre) := by
  obtain ⟨f1, f2, f3, f4⟩ := isPat_facts hp
  induction r with
  | zero =>
    intro pre hr
    refine ev_succ ?_
    simp only [impl_matchLengths.f]
    refine ev_bind (impl_patternLetters_ev p (by omega)) (ev_pos (by omega) ?_)
    exact ev_bind (impl_MatchAt_ev w p (i : Int) pre (by omega) (by omega) (by omega)) (ev_some rfl)
  | succ r ih =>
    intro pre hr
    refine ev_succ ?_
    simp only [impl_matchLengths.f]
    refine ev_bind (impl_patternLetters_ev p (by omega)) (ev_neg (by omega) ?_)
    have loop : ∀ (d : Nat) (a : Int), (i : Int) + a + d = (w.length : Int) + 1 → 1 ≤ a → Ev (fun k => impl_matchLengths.l0 k w p (i : Int) pre a) (match mLoop (fun a => mF (matRes w p (i : Int)) (w.length - i) r (pre ++ [a])) d a with | some x => (x, true) | none => ([], false)) := by
      intro d
      induction d with
      | zero =>
        intro a ha h1
        refine ev_succ ?_
        simp only [impl_matchLengths.l0]
        rw [wr (show -9223372036854775808 ≤ (i : Int) + a by omega) (by omega)]
        exact ev_neg (by omega) (ev_some rfl)
      | succ d ihd =>
        intro a ha h1
        refine ev_succ ?_
        simp only [impl_matchLengths.l0]
        rw [wr (show -9223372036854775808 ≤ (i : Int) + a by omega) (by omega), wr (show -9223372036854775808 ≤ a + 1 by omega) (by omega), clone_eq pre (by omega)]
        have hrec := ih (pre ++ [a]) (by simp; omega)
        have hm := mlRes_mF (matRes w p (i : Int)) (w.length - i) r (pre ++ [a])
        refine ev_pos (by omega) (ev_bind (ev_some rfl) (ev_pos (by omega) (ev_bind hrec ?_)))
        simp only [mLoop]
        cases hc : mF (matRes w p (i : Int)) (w.length - i) r (pre ++ [a]) with
        | some x =>
          rw [hc] at hm
          simp only at hm
          rw [hm.1, hm.2]
          exact ev_pos rfl (ev_some rfl)
        | none =>
          rw [hc] at hm
          simp only at hm
          rw [hm]
          exact ev_neg (by simp) (ihd (a + 1) (by omega) (by omega))
    have := loop (w.length - i) 1 (by omega) (by omega)
    exact this
theorem impl_fp_l0 (w p : List Int) (hw : w.length ≤ 24) (hp : isPat p = true) (d : Nat) : ∀ (i : Nat), i + d = w.length →
    Ev (fun k => impl_FindPattern.l0 k w p (w.length : Int) (i : Int)) (fpGo (fun j => mF (matRes w p (j : Int)) (w.length - j) (patL p).toNat []) d i) := by
  obtain ⟨f1, f2, f3, f4⟩ := isPat_facts hp
  induction d with
  | zero =>
    intro i hi
    refine ev_succ ?_
    simp only [impl_FindPattern.l0]
    exact ev_neg (by omega) (ev_some rfl)
  | succ d ih =>
    intro i hi
    refine ev_succ ?_
    simp only [impl_FindPattern.l0]
    rw [wr1 (by omega) (by omega), show ((i : Int) + 1) = ((i + 1 : Nat) : Int) by omega]
    have h1 := impl_ml_ev w p i hw (by omega) hp (patL p).toNat [] (by simp; omega)
    have hm := mlRes_mF (matRes w p (i : Int)) (w.length - i) (patL p).toNat []
    refine ev_pos (by omega) (ev_bind h1 ?_)
    simp only [fpGo]
    cases hc : mF (matRes w p (i : Int)) (w.length - i) (patL p).toNat [] with
    | some x =>
      rw [hc] at hm
      simp only at hm
      rw [hm.1, hm.2]
      exact ev_pos rfl (ev_some rfl)
    | none =>
      rw [hc] at hm
      simp only at hm
      rw [hm]
      exact ev_neg (by simp) (ih (i + 1) (by omega))
theorem impl_FindPattern_ev (w p : List Int) (hp : p.length ≤ 4611686018427387904) : Ev (fun k => impl_FindPattern.f k w p) (fpRes w p) := by
  simp only [impl_FindPattern.f]
  have no : ∀ b : Bool, b = true → ¬ (isPat p = true ∧ w.length ≤ 24) → Ev (fun k => impl_FindPattern.j0 k w p b) (fpRes w p) := by
    intro b hb h
    subst hb
    refine ev_succ ?_
    simp only [impl_FindPattern.j0]
    exact ev_pos trivial (ev_some (by unfold fpRes; rw [if_neg h]))
  refine ev_bind (impl_IsPattern_ev p hp) (ev_ite (fun h => ?_) (fun h => no _ rfl (fun e => h e.1)))
  by_cases h2 : (w.length : Int) > 24
  · rw [decide_eq_true h2]; exact no _ rfl (by omega)
  · rw [decide_eq_false h2]
    refine ev_succ ?_
    simp only [impl_FindPattern.j0]
    refine ev_neg (by simp) ?_
    unfold fpRes
    rw [if_pos (And.intro h (by omega))]
    refine ev_eq (impl_fp_l0 w p (by omega) h w.length 0 (by omega)) (fpGo_congr _ _ (fun j h1 h2 => ?_))
    exact (mF_cut (by omega) (fun l x hx hb => matRes_big w p (j : Int) l x hx (by omega)) _ _).symm

-- SAY: For all words and patterns the program's FindPattern answers what the reference's answers, leaves its arguments as they were, and answers in memory of its own. No conditions beyond the given statement.
theorem mLoop_len {g : Int → Option (List Int)} {n : Nat} (h : ∀ a x, g a = some x → x.length = n) : ∀ (d : Nat) (a : Int) (x : List Int), mLoop g d a = some x → x.length = n
  | 0, a, x, e => by simp [mLoop] at e
  | d + 1, a, x, e => by
    simp only [mLoop] at e
    cases hg : g a with
    | some y => rw [hg] at e; simp only [Option.some.injEq] at e; subst e; exact h a _ hg
    | none => rw [hg] at e; exact mLoop_len h d (a + 1) x e
theorem mF_len {f : List Int → Bool} {m : Nat} : ∀ (r : Nat) (pre x : List Int), mF f m r pre = some x → x.length = pre.length + r
  | 0, pre, x, e => by
    simp only [mF] at e
    split at e
    · simp only [Option.some.injEq] at e; subst e; rfl
    · cases e
  | r + 1, pre, x, e => by
    simp only [mF] at e
    have := mLoop_len (n := pre.length + 1 + r) (fun a y hy => by have := mF_len r (pre ++ [a]) y hy; simpa using this) _ _ _ e
    omega
theorem fpGo_len {h : Nat → Option (List Int)} {n : Nat} (hh : ∀ i x, h i = some x → x.length ≤ n) : ∀ (d i : Nat), (fpGo h d i).2.1.length ≤ n
  | 0, i => by simp [fpGo]
  | d + 1, i => by
    simp only [fpGo]
    cases hg : h i with
    | some y => exact hh i y hg
    | none => exact fpGo_len hh d (i + 1)
theorem fpRes_len (w p : List Int) : (fpRes w p).2.1.length ≤ 3 := by
  unfold fpRes
  split
  · rename_i h
    obtain ⟨f1, f2, f3, f4⟩ := isPat_facts h.1
    refine fpGo_len (fun i x hx => ?_) _ _
    have := mF_len _ _ _ hx
    simp only [List.length_nil] at this
    omega
  · simp
theorem eqMatch_ev (a : Int) (l : List Int) (hl : l.length ≤ 1000) : Ev (fun k => laws_eqMatch.f k a l a l) true := by
  simp only [laws_eqMatch.f]
  exact ev_pos trivial (ev_bind (eqIntS_ev l (by omega)) (ev_pos rfl (ev_some rfl)))
theorem heldMatch_ev (a : Int) (n : Nat) (hl : n ≤ 1000) : Ev (fun k => laws_heldMatch.f k a (marks 1 n) 1) (1 + n) := by
  simp only [laws_heldMatch.f]
  exact ev_bind (heldIntS_ev 1 n (by omega) (by omega)) (ev_neg (by omega) (ev_some rfl))
theorem FnExactFindPattern : laws_FnExactFindPattern.Pure := by
  intro w p hw0 hw1 hwwf hp0 hp1 hpwf
  refine Ev.rounds (g := fun k => laws_FnExactFindPattern.f k w p) ?_
  simp only [laws_FnExactFindPattern.f]
  refine ev_ite (fun h => ev_some rfl) (fun h1 => ev_ite (fun h => ev_some rfl) (fun h2 => ?_))
  have hS := spec_FindPattern_ev w p (by omega)
  have hI := impl_FindPattern_ev w p (by omega)
  have hl := fpRes_len w p
  obtain ⟨a, l, b, hr⟩ : ∃ a l b, fpRes w p = (a, l, b) := ⟨_, _, _, rfl⟩
  rw [hr] at hl hS hI
  simp only at hl
  refine ev_bind (toIntS_ev w (by omega)) (ev_bind (toIntS_ev p (by omega)) (ev_bind hS ?_))
  refine ev_bind (toIntS_ev w (by omega)) (ev_bind (toIntS_ev p (by omega)) (ev_bind hI ?_))
  refine ev_bind (eqMatch_ev a l (by omega)) (ev_pos rfl (ev_succ ?_))
  simp only [laws_FnExactFindPattern.j0]
  refine ev_neg (by simp) ?_
  refine ev_bind (toIntS_ev w (by omega)) (ev_bind (eqIntS_ev w (by omega)) (ev_pos rfl ?_))
  refine ev_bind (toIntS_ev p (by omega)) (ev_bind (eqIntS_ev p (by omega)) (ev_pos rfl ?_))
  refine ev_bind (markIntS_ev w 1 (by omega) (by omega)) ?_
  refine ev_bind (markIntS_ev p (1 + w.length) (by omega) (by omega)) (ev_neg (by simp only; omega) ?_)
  refine ev_bind (eqMatch_ev a l (by omega)) (ev_pos rfl (ev_succ ?_))
  simp only [laws_FnExactFindPattern.j1, laws_markMatch.f]
  refine ev_neg (by simp) ?_
  refine ev_bind (ev_bind (markIntS_ev l 1 (by omega) (by omega)) (ev_some rfl)) ?_
  refine ev_bind (heldMatch_ev a l.length (by omega)) (ev_neg (by omega) (ev_pos rfl ?_))
  refine ev_bind (toIntS_ev w (by omega)) (ev_bind (toIntS_ev p (by omega)) (ev_bind hI ?_))
  refine ev_bind (eqMatch_ev a l (by omega)) (ev_pos rfl (ev_succ ?_))
  simp only [laws_FnExactFindPattern.j2]
  refine ev_neg (by simp) ?_
  exact ev_bind (heldMatch_ev a l.length (by omega)) (ev_neg (by omega) (ev_pos rfl (ev_some rfl)))


end Go.Proofs.Ytfojmgcekceaoaa.Pure

/-! The row's word for a slice's size, under the name by which the row asks for it. -/
namespace Go.Proofs.Ytfojmgcekceaoaa.PrintWords
open Go.ChangeShapes Go.WideShapes
theorem sized_ints {H : Type} {enc : TypeId × Value → H} {P : Program} {W : World} {base : Nat} {spare : Nat → Bool} {held : Bool} {t e : TypeId} {k : IntKind} {a : Option Addr} {len cap : Nat} {d : DataW H}
    {ps : List MemPlace} {ts : List TypeId} {ds : List (DataW H)} {j : Nat} (hsz : (DataW.weightsEach P ts ds).all (· ≤ reachBytes) = true) (ht : ts[j]? = some t) (hd : ds[j]? = some d) (hu : P.underlying t = some (.slice e))
    (he : P.underlying e = some (.int k)) (hc : P.cellsOf e = 1) {B : Nat} (hB : P.bytesOf e = B) (h : DataW.Trod enc P W base spare held t (.slice a len cap) d ps) : len * B ≤ 140737488351232 :=
  Go.Proofs.YtfojmgcekceaoaaW.PrintWords.sized_ints hsz ht hd hu he hc hB h
end Go.Proofs.Ytfojmgcekceaoaa.PrintWords
