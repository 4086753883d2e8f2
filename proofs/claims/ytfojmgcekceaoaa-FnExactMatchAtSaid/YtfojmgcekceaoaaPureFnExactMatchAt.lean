/- For all words, patterns, places and lengths the program's MatchAt answers what the reference's answers and leaves its arguments as they were. No conditions beyond the given statement. -/
import Derived.Test.YtfojmgcekceaoaaPFnExactMatchAtx4
import Derived.Test.YtfojmgcekceaoaaWSized
set_option linter.unusedVariables false
set_option linter.unusedSimpArgs false
namespace Go.Proofs.Ytfojmgcekceaoaa.Pure
open Go.RowKit Go.Proofs.Ytfojmgcekceaoaa.PFnExactMatchAt Go.Proofs.YtfojmgcekceaoaaW.PrintWords Go.Proofs.YtfojmgcekceaoaaW.PrintLast

theorem ev_succ {α : Type} {g : Nat → Option α} {r : α} (h : Ev (fun k => g (k + 1)) r) : Ev g r := Ev.step (fun _ => rfl) h
theorem ev_some {α : Type} {r r' : α} (h : r = r') : Ev (fun _ => some r) r' := by subst h; exact Ev.now r
theorem ev_pos {α : Type} {c : Prop} [Decidable c] {g f : Nat → Option α} {r : α} (hc : c) (h : Ev g r) : Ev (fun k => if c then g k else f k) r := by
  simp only [if_pos hc]; exact h
theorem ev_neg {α : Type} {c : Prop} [Decidable c] {g f : Nat → Option α} {r : α} (hc : ¬ c) (h : Ev f r) : Ev (fun k => if c then g k else f k) r := by
  simp only [if_neg hc]; exact h
theorem ev_ite {α : Type} {c : Prop} [Decidable c] {g f : Nat → Option α} {r : α} (h : c → Ev g r) (h' : ¬ c → Ev f r) : Ev (fun k => if c then g k else f k) r := by
  by_cases hc : c
  · exact ev_pos hc (h hc)
  · exact ev_neg hc (h' hc)
theorem ev_bind {α β : Type} {g : Nat → Option α} {f : Nat → α → Option β} {a : α} {r : β} (h : Ev g a) (k : Ev (fun n => f n a) r) : Ev (fun n => (g n).bind (f n)) r := Ev.bind h k
theorem ev_bind0 {α β : Type} {o : Option α} {f : Nat → α → Option β} {a : α} {r : β} (h : o = some a) (k : Ev (fun n => f n a) r) : Ev (fun n => o.bind (f n)) r := by
  subst h; exact k
theorem ev_eq {α : Type} {g : Nat → Option α} {r r' : α} (h : Ev g r) (e : r = r') : Ev g r' := e ▸ h
theorem ev_const {α : Type} {o : Option α} {r : α} (h : o = some r) : Ev (fun _ => o) r := by subst h; exact Ev.now r
theorem wr {n : Int} (h0 : -9223372036854775808 ≤ n) (h1 : n ≤ 9223372036854775807) : wrap64 n = n := by unfold wrap64; omega
theorem wr1 {i : Int} (h0 : 0 ≤ i) (h1 : i ≤ 4611686018427387904) : wrap64 (i + 1) = i + 1 := wr (by omega) (by omega)
theorem wr_nat {n : Nat} (h : n ≤ 4611686018427387904) : wrap64 (n : Int) = n := wr (by omega) (by omega)
theorem rd_nat (l : List Int) (i : Nat) : rd l (i : Int) = l.getD i 0 := by simp [rd]
theorem rd_get {l : List Int} {i : Nat} (h : i < l.length) : rd l (i : Int) = l[i] := by
  simp [rd, List.getD_eq_getElem?_getD, List.getElem?_eq_getElem h]
theorem drop_rd {l : List Int} {i : Nat} (h : i < l.length) : l.drop i = rd l (i : Int) :: l.drop (i + 1) := by
  rw [rd_get h]; exact List.drop_eq_getElem_cons h
theorem rd_mem {l : List Int} {i : Nat} (h : i < l.length) : rd l (i : Int) ∈ l := by rw [rd_get h]; exact List.getElem_mem h


theorem toIntS_l0 (l : List Int) (hn : l.length ≤ 4611686018427387904) (d : Nat) : ∀ (i : Nat) (x : List Int), i + d = l.length → x.length = l.length → (∀ j, j < i → x[j]? = l[j]?) →
    Ev (fun k => laws_toIntS.l0 k l x (i : Int)) l := by
  induction d with
  | zero =>
    intro i x hi hx hj
    refine ev_succ ?_
    simp only [laws_toIntS.l0]
    refine ev_neg (by omega) (ev_some ?_)
    apply List.ext_getElem?
    intro j
    by_cases h : j < i
    · exact hj j h
    · rw [List.getElem?_eq_none (by omega), List.getElem?_eq_none (by omega)]
  | succ d ih =>
    intro i x hi hx hj
    refine ev_succ ?_
    simp only [laws_toIntS.l0, wr1 (show (0 : Int) ≤ (i : Int) by omega) (by omega)]
    refine ev_pos (by omega) (ev_pos (by omega) (ev_pos (by omega) ?_))
    refine ih (i + 1) _ (by omega) (by simp [hx]) ?_
    intro j hj'
    rw [Int.toNat_natCast, rd_get (by omega), List.getElem?_set]
    by_cases e : i = j
    · subst e
      rw [if_pos rfl, if_pos (by omega), List.getElem?_eq_getElem (by omega)]
    · rw [if_neg e]; exact hj j (by omega)
theorem toIntS_ev (l : List Int) (hn : l.length ≤ 35184372088832) : Ev (fun k => laws_toIntS.f k l) l := by
  simp only [laws_toIntS.f]
  refine ev_pos (by omega) (ev_pos (by omega) ?_)
  exact toIntS_l0 l (by omega) l.length 0 _ (by omega) (by simp) (by intro j hj; omega)


theorem eqIntS_l0 (l : List Int) (hn : l.length ≤ 4611686018427387904) (d : Nat) : ∀ (i : Nat), i + d = l.length → Ev (fun k => laws_eqIntS.l0 k l l (i : Int)) true := by
  induction d with
  | zero =>
    intro i hi
    refine ev_succ ?_
    simp only [laws_eqIntS.l0]
    exact ev_neg (by omega) (ev_some rfl)
  | succ d ih =>
    intro i hi
    refine ev_succ ?_
    simp only [laws_eqIntS.l0, wr1 (show (0 : Int) ≤ (i : Int) by omega) (by omega)]
    exact ev_pos (by omega) (ev_pos (by omega) (ev_pos (by omega) (ev_pos trivial (ih (i + 1) (by omega)))))
theorem eqIntS_ev (l : List Int) (hn : l.length ≤ 4611686018427387904) : Ev (fun k => laws_eqIntS.f k l l) true := by
  simp only [laws_eqIntS.f]
  exact ev_pos trivial (eqIntS_l0 l hn l.length 0 (by omega))


theorem l1In_eq (a b c : Int) : spec_l1In.f a b c = some (decide (b ≤ a ∧ a ≤ c)) := by
  unfold spec_l1In.f
  by_cases h : a ≥ b
  · rw [if_pos h]; simp [show b ≤ a from h]
  · rw [if_neg h]; simp [show ¬ b ≤ a from h]


theorem spec_l3Same_l0 (a b : List Int) (hl : a.length = b.length) (hn : a.length ≤ 4611686018427387904) (d : Nat) : ∀ (i : Nat), i + d = a.length → Ev (fun k => spec_l3Same.l0 k a b (i : Int)) (decide (a.drop i = b.drop i)) := by
  induction d with
  | zero =>
    intro i hi
    refine ev_succ ?_
    simp only [spec_l3Same.l0]
    refine ev_neg (by omega) (ev_some ?_)
    rw [List.drop_of_length_le (by omega), List.drop_of_length_le (by omega)]; rfl
  | succ d ih =>
    intro i hi
    refine ev_succ ?_
    simp only [spec_l3Same.l0, wr1 (show (0 : Int) ≤ (i : Int) by omega) (by omega)]
    rw [drop_rd (by omega : i < a.length), drop_rd (by omega : i < b.length)]
    refine ev_pos (by omega) (ev_pos (by omega) (ev_pos (by omega) (ev_ite (fun h => ev_eq (ih (i + 1) (by omega)) ?_) (fun h => ev_some ?_))))
    · rw [h]; simp
    · simp [h]
theorem spec_l3Same_ev (a b : List Int) (hn : a.length ≤ 4611686018427387904) : Ev (fun k => spec_l3Same.f k a b) (decide (a = b)) := by
  simp only [spec_l3Same.f]
  refine ev_ite (fun h => ev_eq (spec_l3Same_l0 a b (by omega) hn a.length 0 (by omega)) (by simp)) (fun h => ev_some ?_)
  symm
  simp only [decide_eq_false_iff_not]
  rintro rfl
  exact h rfl


/-- the number of letters behind a pattern's letters, none if they are not numbered as they come -/
def patRun : List Int → Int → Option Int
  | [], m => some m
  | x :: l, m => if x < 0 then none else if x > m then none else if x = m then patRun l (m + 1) else patRun l m
theorem patRun_ge : ∀ (l : List Int) (m r : Int), patRun l m = some r → m ≤ r ∧ r ≤ m + l.length := by
  intro l
  induction l with
  | nil => intro m r h; simp only [patRun, Option.some.injEq] at h; simp; omega
  | cons x l ih =>
    intro m r h
    simp only [patRun] at h
    simp only [List.length_cons]
    split at h
    · cases h
    · split at h
      · cases h
      · split at h
        · have := ih _ _ h; omega
        · have := ih _ _ h; omega
/-- what patternLetters answers -/
def patL (l : List Int) : Int := match patRun l 0 with
  | none => 0
  | some m => if (l.length : Int) > 6 then 0 else if m > 3 then 0 else m
def isPat (l : List Int) : Bool := decide (patL l > 0)
def patFin (l : List Int) (r : Option Int) : Int := match r with
  | none => 0
  | some m => if (l.length : Int) > 6 then 0 else if m > 3 then 0 else m
theorem impl_patternLetters_l0 (l : List Int) (hn : l.length ≤ 4611686018427387904) (d : Nat) : ∀ (i : Nat) (m : Int), i + d = l.length → 0 ≤ m → m ≤ i →
    Ev (fun k => impl_patternLetters.l0 k l m l (l.length : Int) (i : Int)) (patFin l (patRun (l.drop i) m)) := by
  induction d with
  | zero =>
    intro i m hi h0 h1
    refine ev_succ ?_
    simp only [impl_patternLetters.l0]
    refine ev_neg (by omega) ?_
    rw [List.drop_of_length_le (by omega)]
    simp only [patRun, patFin]
    refine ev_ite (fun h => ev_some (by rw [if_pos h])) (fun h => ?_)
    refine ev_ite (fun h' => ev_some (by rw [if_neg h, if_pos h'])) (fun h' => ev_some (by rw [if_neg h, if_neg h']))
  | succ d ih =>
    intro i m hi h0 h1
    refine ev_succ ?_
    simp only [impl_patternLetters.l0]
    refine ev_pos (by omega) (ev_pos (by omega) (ev_pos (by omega) ?_))
    rw [drop_rd (by omega : i < l.length)]
    have no : ∀ b : Bool, b = true → (rd l (i : Int) < 0 ∨ rd l (i : Int) > m) → Ev (fun k => impl_patternLetters.j1 k l m (rd l (i : Int)) l (l.length : Int) (i : Int) b) (patFin l (patRun (rd l (i : Int) :: l.drop (i + 1)) m)) := by
      intro b hb h
      subst hb
      refine ev_succ ?_
      simp only [impl_patternLetters.j1]
      refine ev_pos trivial (ev_some ?_)
      simp only [patRun]
      by_cases h2 : rd l (i : Int) < 0
      · rw [if_pos h2]; rfl
      · rw [if_neg h2, if_pos (by omega)]; rfl
    refine ev_ite (fun h => no _ rfl (.inl h)) (fun h => ?_)
    by_cases h2 : rd l (i : Int) > m
    · rw [decide_eq_true h2]; exact no _ rfl (.inr h2)
    · rw [decide_eq_false h2]
      refine ev_succ ?_
      simp only [impl_patternLetters.j1, wr1 (show (0 : Int) ≤ (i : Int) by omega) (by omega), wr1 h0 (by omega)]
      refine ev_neg (by simp) ?_
      refine ev_ite (fun h3 => ev_eq (ih (i + 1) (m + 1) (by omega) (by omega) (by omega)) ?_) (fun h3 => ev_eq (ih (i + 1) m (by omega) (by omega) (by omega)) ?_)
      · simp only [patRun]; rw [if_neg h, if_neg h2, if_pos h3]
      · simp only [patRun]; rw [if_neg h, if_neg h2, if_neg h3]
theorem impl_patternLetters_ev (l : List Int) (hn : l.length ≤ 4611686018427387904) : Ev (fun k => impl_patternLetters.f k l) (patL l) := by
  simp only [impl_patternLetters.f]
  exact ev_eq (impl_patternLetters_l0 l hn l.length 0 0 (by omega) (by omega) (by omega)) (by simp [patL, patFin])
theorem impl_IsPattern_ev (l : List Int) (hn : l.length ≤ 4611686018427387904) : Ev (fun k => impl_IsPattern.f k l) (isPat l) := by
  simp only [impl_IsPattern.f]
  exact ev_bind (impl_patternLetters_ev l hn) (ev_some rfl)
/-- the reference's way: no letter above 2 -/
def patS (l : List Int) (r : Option Int) : Bool := match r with
  | none => false
  | some m => decide (m ≤ 3) && decide (1 ≤ (l.length : Int) ∧ (l.length : Int) ≤ 6)
theorem spec_IsPattern_l0 (l : List Int) (hn : l.length ≤ 4611686018427387904) (d : Nat) : ∀ (i : Nat) (m : Int), i + d = l.length → 0 ≤ m → m ≤ 3 →
    Ev (fun k => spec_IsPattern.l0 k l m (i : Int)) (patS l (patRun (l.drop i) m)) := by
  induction d with
  | zero =>
    intro i m hi h0 h1
    refine ev_succ ?_
    simp only [spec_IsPattern.l0, l1In_eq]
    refine ev_neg (by omega) (ev_some ?_)
    rw [List.drop_of_length_le (by omega)]
    simp only [patRun, patS, decide_eq_true h1, Bool.true_and]
  | succ d ih =>
    intro i m hi h0 h1
    refine ev_succ ?_
    simp only [spec_IsPattern.l0]
    refine ev_pos (by omega) (ev_pos (by omega) ?_)
    rw [drop_rd (by omega : i < l.length)]
    have no : ∀ b : Bool, b = true → (rd l (i : Int) < 0 ∨ rd l (i : Int) > m ∨ rd l (i : Int) > 2) → Ev (fun k => spec_IsPattern.j1 k l m (i : Int) b) (patS l (patRun (rd l (i : Int) :: l.drop (i + 1)) m)) := by
      intro b hb h
      subst hb
      refine ev_succ ?_
      simp only [spec_IsPattern.j1]
      refine ev_pos trivial (ev_some ?_)
      simp only [patRun]
      by_cases h2 : rd l (i : Int) < 0
      · rw [if_pos h2]; rfl
      · by_cases h3 : rd l (i : Int) > m
        · rw [if_neg h2, if_pos h3]; rfl
        · rw [if_neg h2, if_neg h3, if_pos (by omega)]
          cases hr : patRun (l.drop (i + 1)) (m + 1) with
          | none => rfl
          | some r =>
            have := (patRun_ge _ _ _ hr).1
            simp only [patS, decide_eq_false (show ¬ r ≤ 3 by omega), Bool.false_and]
    refine ev_ite (fun h => no _ rfl (.inl h)) (fun h => ?_)
    refine ev_ite (fun h2 => no _ rfl (.inr (.inl h2))) (fun h2 => ?_)
    by_cases h4 : rd l (i : Int) > 2
    · rw [decide_eq_true h4]; exact no _ rfl (.inr (.inr h4))
    · rw [decide_eq_false h4]
      refine ev_succ ?_
      simp only [spec_IsPattern.j1, wr1 (show (0 : Int) ≤ (i : Int) by omega) (by omega), wr1 h0 (by omega)]
      refine ev_neg (by simp) (ev_pos (by omega) (ev_pos (by omega) ?_))
      refine ev_ite (fun h3 => ev_eq (ih (i + 1) (m + 1) (by omega) (by omega) (by omega)) ?_) (fun h3 => ev_eq (ih (i + 1) m (by omega) (by omega) (by omega)) ?_)
      · simp only [patRun]; rw [if_neg h, if_neg h2, if_pos h3]
      · simp only [patRun]; rw [if_neg h, if_neg h2, if_neg h3]
theorem patS_eq (l : List Int) : patS l (patRun l 0) = isPat l := by
  unfold isPat patL
  cases hr : patRun l 0 with
  | none => simp [patS]
  | some m =>
    have h := patRun_ge _ _ _ hr
    simp only [patS]
    rw [Bool.eq_iff_iff]
    simp only [Bool.and_eq_true, decide_eq_true_eq]
    by_cases h0 : l = []
    · subst h0
      simp only [patRun, Option.some.injEq] at hr
      simp; omega
    · have hm : 1 ≤ m := by
        cases l with
        | nil => exact absurd rfl h0
        | cons x l =>
          simp only [patRun] at hr
          split at hr
          · cases hr
          · split at hr
            · cases hr
            · rw [if_pos (by omega)] at hr
              have := (patRun_ge _ _ _ hr).1
              omega
      have : 1 ≤ l.length := by cases l with
        | nil => exact absurd rfl h0
        | cons => simp
      by_cases h6 : (l.length : Int) > 6
      · rw [if_pos h6]; omega
      · rw [if_neg h6]
        by_cases h3 : m > 3
        · rw [if_pos h3]; omega
        · rw [if_neg h3]; omega
theorem spec_IsPattern_ev (l : List Int) (hn : l.length ≤ 4611686018427387904) : Ev (fun k => spec_IsPattern.f k l) (isPat l) := by
  simp only [spec_IsPattern.f]
  exact ev_eq (spec_IsPattern_l0 l hn l.length 0 0 (by omega) (by omega) (by omega)) (by rw [List.drop_zero]; exact patS_eq l)


def letS : List Int → Int → Int
  | [], m => m
  | x :: l, m => letS l (mx m (wrap64 (x + 1)))
theorem spec_l28Letters_l0 (l : List Int) (hn : l.length ≤ 4611686018427387904) (d : Nat) : ∀ (i : Nat) (m : Int), i + d = l.length →
    Ev (fun k => spec_l28Letters.l0 k l m (i : Int)) (letS (l.drop i) m) := by
  induction d with
  | zero =>
    intro i m hi
    refine ev_succ ?_
    simp only [spec_l28Letters.l0]
    refine ev_neg (by omega) (ev_some ?_)
    rw [List.drop_of_length_le (by omega)]; rfl
  | succ d ih =>
    intro i m hi
    refine ev_succ ?_
    simp only [spec_l28Letters.l0, wr1 (show (0 : Int) ≤ (i : Int) by omega) (by omega)]
    refine ev_pos (by omega) (ev_pos (by omega) ?_)
    rw [drop_rd (by omega : i < l.length)]
    exact ih (i + 1) _ (by omega)
theorem spec_l28Letters_ev (l : List Int) (hn : l.length ≤ 4611686018427387904) : Ev (fun k => spec_l28Letters.f k l) (letS l 0) := by
  simp only [spec_l28Letters.f]
  exact spec_l28Letters_l0 l hn l.length 0 0 (by omega)
theorem letS_pat : ∀ (l : List Int) (m r : Int), 0 ≤ m → patRun l m = some r → r ≤ 100 → letS l m = r := by
  intro l
  induction l with
  | nil => intro m r _ h _; simpa [patRun, letS] using h
  | cons x l ih =>
    intro m r h0 h hr
    simp only [patRun] at h
    simp only [letS]
    split at h
    · cases h
    · split at h
      · cases h
      · split at h
        · have := (patRun_ge _ _ _ h).1
          rw [wr (by omega) (by omega)]
          have e : mx m (x + 1) = m + 1 := by unfold mx; rw [if_pos (by omega)]; omega
          rw [e]
          exact ih _ _ (by omega) h hr
        · have := (patRun_ge _ _ _ h).1
          rw [wr (by omega) (by omega)]
          have e : mx m (x + 1) = m := by unfold mx; rw [if_neg (by omega)]
          rw [e]
          exact ih _ _ h0 h hr
theorem patRun_mem : ∀ (l : List Int) (m r : Int), 0 ≤ m → patRun l m = some r → ∀ x ∈ l, 0 ≤ x ∧ x < r := by
  intro l
  induction l with
  | nil => intro m r _ _ x hx; cases hx
  | cons y l ih =>
    intro m r h0 h x hx
    simp only [patRun] at h
    split at h
    · cases h
    · split at h
      · cases h
      · split at h
        · have h1 := (patRun_ge _ _ _ h).1
          have h2 := ih _ _ (by omega) h
          rcases List.mem_cons.1 hx with rfl | hx
          · omega
          · exact h2 x hx
        · have h1 := (patRun_ge _ _ _ h).1
          have h2 := ih _ _ h0 h
          rcases List.mem_cons.1 hx with rfl | hx
          · omega
          · exact h2 x hx
/-- what is known of a pattern -/
theorem isPat_facts {l : List Int} (h : isPat l = true) : patRun l 0 = some (patL l) ∧ 1 ≤ patL l ∧ patL l ≤ 3 ∧ l.length ≤ 6 := by
  unfold isPat at h
  rw [decide_eq_true_eq] at h
  unfold patL at h ⊢
  cases hr : patRun l 0 with
  | none => rw [hr] at h; simp at h
  | some m =>
    rw [hr] at h
    simp only at h ⊢
    split at h
    · omega
    · rename_i h6
      split at h
      · omega
      · rename_i h3
        rw [if_neg h6, if_neg h3]
        exact ⟨rfl, by omega, by omega, by omega⟩
theorem letS_isPat {l : List Int} (h : isPat l = true) : letS l 0 = patL l := by
  obtain ⟨h1, h2, h3, h4⟩ := isPat_facts h
  exact letS_pat l 0 _ (by omega) h1 (by omega)
theorem patL_no {l : List Int} (h : isPat l = false) : patL l ≤ 0 := by
  unfold isPat at h
  rw [decide_eq_false_iff_not] at h
  omega
theorem patL_nonneg (l : List Int) : 0 ≤ patL l := by
  unfold patL
  split
  · omega
  · rename_i m hr
    have := (patRun_ge _ _ _ hr).1
    split
    · omega
    · split <;> omega


def len40 (x : Int) : Bool := decide (1 ≤ x ∧ x ≤ 40)
def areLen (p n : List Int) : Bool := isPat p && decide ((n.length : Int) = patL p) && n.all len40
theorem spec_l28Lengths_l0 (p n : List Int) (hp : p.length ≤ 4611686018427387904) (hn : n.length ≤ 4611686018427387904) (d : Nat) : ∀ (i : Nat), i + d = n.length →
    Ev (fun k => spec_l28Lengths.l0 k p n (i : Int)) (isPat p && decide ((n.length : Int) = patL p) && (n.drop i).all len40) := by
  induction d with
  | zero =>
    intro i hi
    refine ev_succ ?_
    simp only [spec_l28Lengths.l0]
    refine ev_neg (by omega) ?_
    rw [show n.drop i = [] from List.drop_of_length_le (by omega)]
    refine ev_bind (spec_IsPattern_ev p hp) (ev_ite (fun h => ?_) (fun h => ev_some ?_))
    · refine ev_bind (spec_l28Letters_ev p hp) (ev_some ?_)
      rw [letS_isPat h, h]
      simp only [List.all_nil, Bool.and_true, Bool.true_and]
      rw [Bool.eq_iff_iff]; simp
    · rw [Bool.not_eq_true] at h; rw [h]; rfl
  | succ d ih =>
    intro i hi
    refine ev_succ ?_
    simp only [spec_l28Lengths.l0, l1In_eq, wr1 (show (0 : Int) ≤ (i : Int) by omega) (by omega), Option.bind_some]
    refine ev_pos (by omega) (ev_pos (by omega) ?_)
    rw [drop_rd (by omega : i < n.length)]
    refine ev_ite (fun h => ev_eq (ih (i + 1) (by omega)) ?_) (fun h => ev_some ?_)
    · simp only [List.all_cons, len40, h, Bool.true_and]
    · rw [Bool.not_eq_true] at h
      simp only [List.all_cons, len40, h, Bool.false_and, Bool.and_false]
theorem spec_l28Lengths_ev (p n : List Int) (hp : p.length ≤ 4611686018427387904) (hn : n.length ≤ 4611686018427387904) : Ev (fun k => spec_l28Lengths.f k p n) (areLen p n) := by
  simp only [spec_l28Lengths.f]
  exact spec_l28Lengths_l0 p n hp hn n.length 0 (by omega)
theorem impl_areLengths_l0 (n : List Int) (hn : n.length ≤ 4611686018427387904) (d : Nat) : ∀ (i : Nat), i + d = n.length →
    Ev (fun k => impl_areLengths.l0 k n (n.length : Int) (i : Int)) ((n.drop i).all len40) := by
  induction d with
  | zero =>
    intro i hi
    refine ev_succ ?_
    simp only [impl_areLengths.l0]
    refine ev_neg (by omega) (ev_some ?_)
    rw [List.drop_of_length_le (by omega)]; rfl
  | succ d ih =>
    intro i hi
    refine ev_succ ?_
    simp only [impl_areLengths.l0, wr1 (show (0 : Int) ≤ (i : Int) by omega) (by omega)]
    refine ev_pos (by omega) (ev_pos (by omega) (ev_pos (by omega) ?_))
    rw [drop_rd (by omega : i < n.length)]
    refine ev_ite (fun h => ev_some ?_) (fun h => ev_ite (fun h' => ev_some ?_) (fun h' => ev_eq (ih (i + 1) (by omega)) ?_))
    · simp only [List.all_cons, len40, decide_eq_false (show ¬ (1 ≤ rd n (i : Int) ∧ rd n (i : Int) ≤ 40) by omega), Bool.false_and]
    · simp only [List.all_cons, len40, decide_eq_false (show ¬ (1 ≤ rd n (i : Int) ∧ rd n (i : Int) ≤ 40) by omega), Bool.false_and]
    · simp only [List.all_cons, len40, decide_eq_true (show (1 ≤ rd n (i : Int) ∧ rd n (i : Int) ≤ 40) by omega), Bool.true_and]
theorem impl_areLengths_ev (p n : List Int) (hp : p.length ≤ 4611686018427387904) (hn : n.length ≤ 4611686018427387904) : Ev (fun k => impl_areLengths.f k p n) (areLen p n) := by
  simp only [impl_areLengths.f]
  have no : ∀ b : Bool, b = true → areLen p n = false → Ev (fun k => impl_areLengths.j0 k n b) (areLen p n) := by
    intro b hb h
    subst hb
    refine ev_succ ?_
    simp only [impl_areLengths.j0]
    exact ev_pos trivial (ev_some h.symm)
  refine ev_bind (impl_IsPattern_ev p hp) (ev_ite (fun h => ?_) (fun h => no _ rfl ?_))
  · refine ev_bind (impl_patternLetters_ev p hp) ?_
    by_cases he : (n.length : Int) = patL p
    · refine ev_succ ?_
      simp only [impl_areLengths.j0]
      refine ev_neg (by simp [he]) (ev_eq (impl_areLengths_l0 n hn n.length 0 (by omega)) ?_)
      unfold areLen
      rw [h, decide_eq_true he]; simp
    · refine no _ (by simpa using he) ?_
      unfold areLen
      rw [decide_eq_false he]; simp
  · unfold areLen
    rw [Bool.not_eq_true] at h
    rw [h]; rfl
def msum (n : List Int) : List Int → Int
  | [] => 0
  | x :: p => rd n x + msum n p
def mLen (p n : List Int) : Int := if areLen p n = true then msum n p else -1
theorem areLen_facts {p n : List Int} (h : areLen p n = true) : isPat p = true ∧ (n.length : Int) = patL p ∧ (∀ x ∈ n, 1 ≤ x ∧ x ≤ 40) ∧ (∀ x ∈ p, 0 ≤ x ∧ x < (n.length : Int)) ∧ p.length ≤ 6 ∧ n.length ≤ 3 := by
  unfold areLen at h
  simp only [Bool.and_eq_true, decide_eq_true_eq, List.all_eq_true] at h
  obtain ⟨⟨h1, h2⟩, h3⟩ := h
  obtain ⟨f1, f2, f3, f4⟩ := isPat_facts h1
  refine ⟨h1, h2, fun x hx => by simpa [len40] using h3 x hx, fun x hx => ?_, f4, by omega⟩
  rw [h2]
  exact patRun_mem p 0 _ (by omega) f1 x hx
theorem rd_len {p n : List Int} (h : areLen p n = true) {x : Int} (hx : x ∈ p) : 1 ≤ rd n x ∧ rd n x ≤ 40 := by
  obtain ⟨_, _, h3, h4, _, _⟩ := areLen_facts h
  have := h4 x hx
  obtain ⟨i, rfl⟩ := Int.eq_ofNat_of_zero_le this.1
  exact h3 _ (rd_mem (by omega))
theorem spec_MatchLength_l0 (p n : List Int) (h : areLen p n = true) (d : Nat) : ∀ (i : Nat) (s : Int), i + d = p.length → 0 ≤ s → s ≤ 40 * i →
    Ev (fun k => spec_MatchLength.l0 k p n s (i : Int)) (s + msum n (p.drop i)) := by
  obtain ⟨_, _, _, h4, h5, _⟩ := areLen_facts h
  induction d with
  | zero =>
    intro i s hi h0 h1
    refine ev_succ ?_
    simp only [spec_MatchLength.l0]
    refine ev_neg (by omega) (ev_some ?_)
    rw [List.drop_of_length_le (by omega)]; simp [msum]
  | succ d ih =>
    intro i s hi h0 h1
    have hm := rd_mem (show i < p.length by omega)
    have hb := h4 _ hm
    have hr := rd_len h hm
    refine ev_succ ?_
    simp only [spec_MatchLength.l0, wr1 (show (0 : Int) ≤ (i : Int) by omega) (by omega)]
    refine ev_pos (by omega) (ev_pos (by omega) (ev_pos hb.1 (ev_pos hb.2 ?_)))
    rw [wr (n := s + _) (by omega) (by omega), drop_rd (by omega : i < p.length)]
    refine ev_eq (ih (i + 1) _ (by omega) (by omega) (by omega)) ?_
    simp only [msum]; omega
theorem spec_MatchLength_ev (p n : List Int) (hp : p.length ≤ 4611686018427387904) (hn : n.length ≤ 4611686018427387904) : Ev (fun k => spec_MatchLength.f k p n) (mLen p n) := by
  simp only [spec_MatchLength.f]
  unfold mLen
  refine ev_bind (spec_l28Lengths_ev p n hp hn) (ev_ite (fun h => ?_) (fun h => ev_some (by rw [if_neg h])))
  rw [if_pos h]
  exact ev_eq (spec_MatchLength_l0 p n h p.length 0 0 (by omega) (by omega) (by omega)) (by simp)


theorem handCmp_zero : ∀ (a b : List Int), handCmp a b = 0 ↔ a = b := by
  intro a
  induction a with
  | nil => intro b; cases b <;> simp [handCmp]
  | cons x a ih =>
    intro b
    cases b with
    | nil => simp [handCmp]
    | cons y b =>
      simp only [handCmp]
      split
      · simp; omega
      · split
        · simp; omega
        · rw [ih]; simp; omega
theorem msum_ge {p n : List Int} (h : areLen p n = true) : ∀ q : List Int, (∀ x ∈ q, x ∈ p) → 0 ≤ msum n q ∧ msum n q ≤ 40 * (q.length : Int)
  | [], _ => by simp [msum]
  | x :: q, hq => by
    have h1 := rd_len h (hq x (by simp))
    have h2 := msum_ge h q (fun y hy => hq y (by simp [hy]))
    simp only [msum, List.length_cons]; omega
theorem maGo_over {w p n : List Int} (h : areLen p n = true) : ∀ (q : List Int) (a : Int) (ws : List (Option (List Int))), (∀ x ∈ q, x ∈ p) → a ≤ (w.length : Int) → a + msum n q > (w.length : Int) → maGo w n q a ws = false
  | [], a, ws, _, ha, ho => by simp [msum] at ho; omega
  | x :: q, a, ws, hq, ha, ho => by
    have h1 := rd_len h (hq x (by simp))
    have ih := fun (ws' : List (Option (List Int))) => maGo_over (w := w) h q (a + rd n x) ws' (fun y hy => hq y (by simp [hy]))
    simp only [msum] at ho
    unfold maGo
    by_cases hc : a + rd n x > (w.length : Int)
    · rw [if_pos hc]
    · rw [if_neg hc]
      split
      · exact ih _ (by omega) (by omega)
      · split
        · exact ih _ (by omega) (by omega)
        · rfl
def RelF (w n first : List Int) (ws : List (Option (List Int))) : Prop := first.length = 3 ∧ ws.length = n.length ∧ ∀ x : Nat, x < n.length → (rd first (x : Int) < 0 ∧ ws.getD x none = none) ∨ (0 ≤ rd first (x : Int) ∧ rd first (x : Int) + rd n (x : Int) ≤ (w.length : Int) ∧ ws.getD x none = some (handCut w (rd first (x : Int)) (rd n (x : Int))))
theorem rd_set_eq {l : List Int} {i : Nat} (v : Int) (h : i < l.length) : rd (l.set i v) (i : Int) = v := by
  rw [rd_nat]; simp [List.getD_eq_getElem?_getD, h]
theorem rd_set_ne {l : List Int} {i j : Nat} (v : Int) (h : i ≠ j) : rd (l.set i v) (j : Int) = rd l (j : Int) := by
  rw [rd_nat, rd_nat]; simp [List.getD_eq_getElem?_getD, List.getElem?_set, h]
theorem spec_MatchAt_l0 (w p n : List Int) (hw : w.length ≤ 1000000000000000) (h : areLen p n = true) (d : Nat) : ∀ (i : Nat) (a : Int) (first : List Int) (ws : List (Option (List Int))), i + d = p.length → 0 ≤ a → a + msum n (p.drop i) ≤ (w.length : Int) → RelF w n first ws →
    Ev (fun k => spec_MatchAt.l0 k w p n first a (i : Int)) (maGo w n (p.drop i) a ws) := by
  obtain ⟨_, _, _, h4, h5, h6⟩ := areLen_facts h
  induction d with
  | zero =>
    intro i a first ws hi h0 h1 hr
    refine ev_succ ?_
    simp only [spec_MatchAt.l0]
    rw [show p.drop i = [] from List.drop_of_length_le (by omega)]
    exact ev_neg (by omega) (ev_some rfl)
  | succ d ih =>
    intro i a first ws hi h0 h1 hr
    have hm := rd_mem (show i < p.length by omega)
    have hx := h4 _ hm
    have hl := rd_len h hm
    obtain ⟨x, hxe⟩ := Int.eq_ofNat_of_zero_le hx.1
    rw [drop_rd (show i < p.length by omega)] at h1 ⊢
    have hms := (msum_ge h (p.drop (i + 1)) (fun y hy => List.mem_of_mem_drop hy)).1
    simp only [msum] at h1
    rw [hxe] at hx hl h1
    refine ev_succ ?_
    simp only [spec_MatchAt.l0]
    rw [wr1 (by omega) (by omega), hxe, show ((i : Int) + 1) = ((i + 1 : Nat) : Int) by omega, wr (show -9223372036854775808 ≤ a + rd n (x : Int) by omega) (by omega)]
    have hxl : x < n.length := by omega
    have hf := hr.1
    refine ev_pos (by omega) (ev_pos (by omega) (ev_pos (by omega) (ev_pos hx.2 (ev_pos (by omega) ?_))))
    unfold maGo
    rw [if_neg (show ¬ a + rd n (x : Int) > (w.length : Int) by omega), Int.toNat_natCast]
    rcases hr.2.2 x hxl with ⟨e1, e2⟩ | ⟨e1, e2, e3⟩
    · rw [e2]
      refine ev_pos e1 (ih (i + 1) _ _ _ (by omega) (by omega) (by omega) ⟨by simpa using hf, by simpa using hr.2.1, fun y hy => ?_⟩)
      by_cases hyx : y = x
      · subst hyx
        right
        rw [rd_set_eq _ (by omega)]
        refine ⟨h0, by omega, ?_⟩
        simp [List.getD_eq_getElem?_getD, show y < ws.length by have := hr.2.1; omega]
      · rw [rd_set_ne _ (Ne.symm hyx)]
        have : (ws.set x (some (handCut w a (rd n (x : Int))))).getD y none = ws.getD y none := by simp [List.getD_eq_getElem?_getD, List.getElem?_set, Ne.symm hyx]
        rw [this]
        exact hr.2.2 y hy
    · rw [e3]
      show Ev _ (if handCmp (handCut w (rd first (x : Int)) (rd n (x : Int))) (handCut w a (rd n (x : Int))) = 0 then maGo w n (p.drop (i + 1)) (a + rd n (x : Int)) ws else false)
      rw [wr (show -9223372036854775808 ≤ rd first (x : Int) + rd n (x : Int) by omega) (by omega)]
      refine ev_neg (by omega) (ev_pos e1 (ev_pos (by omega) (ev_pos (by omega) (ev_pos h0 (ev_pos (by omega) (ev_pos (by omega) ?_))))))
      have hs := spec_l3Same_ev (handCut w (rd first (x : Int)) (rd n (x : Int))) (handCut w a (rd n (x : Int))) (by unfold handCut; rw [List.length_drop, List.length_take]; omega)
      refine ev_bind hs (ev_ite (fun he => ?_) (fun he => ev_some ?_))
      · simp only [decide_eq_true_eq] at he
        rw [if_pos ((handCmp_zero _ _).2 he)]
        exact ih (i + 1) _ _ _ (by omega) (by omega) (by omega) hr
      · simp only [decide_eq_true_eq] at he
        rw [if_neg (fun e => he ((handCmp_zero _ _).1 e))]
def matRes (w p : List Int) (a : Int) (n : List Int) : Bool := if areLen p n = true then (if a < 0 ∨ a > (w.length : Int) then false else maGo w n p a (List.replicate n.length none)) else false
theorem spec_MatchAt_ev (w p : List Int) (a : Int) (n : List Int) (hw : w.length ≤ 1000000000000000) (hp : p.length ≤ 4611686018427387904) (hn : n.length ≤ 4611686018427387904) : Ev (fun k => spec_MatchAt.f k w p a n) (matRes w p a n) := by
  simp only [spec_MatchAt.f]
  have no : ∀ b : Bool, b = true → matRes w p a n = false → Ev (fun k => spec_MatchAt.j0 k w p a n b) (matRes w p a n) := by
    intro b hb hm
    subst hb
    refine ev_succ ?_
    simp only [spec_MatchAt.j0]
    exact ev_pos trivial (ev_some hm.symm)
  refine ev_bind (spec_MatchLength_ev p n hp hn) ?_
  unfold mLen
  by_cases h : areLen p n = true
  · rw [if_pos h]
    have hm := msum_ge h p (fun x hx => hx)
    obtain ⟨_, _, _, _, h5, h6⟩ := areLen_facts h
    refine ev_neg (by omega) (ev_ite (fun h1 => no _ rfl ?_) (fun h1 => ev_ite (fun h2 => no _ rfl ?_) (fun h2 => ?_)))
    · unfold matRes; rw [if_pos h, if_pos (.inl h1)]
    · unfold matRes; rw [if_pos h, if_pos (.inr h2)]
    · rw [wr (show -9223372036854775808 ≤ a + msum n p by omega) (by omega)]
      by_cases h3 : a + msum n p > (w.length : Int)
      · refine no _ (decide_eq_true h3) ?_
        unfold matRes
        rw [if_pos h, if_neg (show ¬ (a < 0 ∨ a > (w.length : Int)) by omega)]
        exact maGo_over h p a _ (fun x hx => hx) (by omega) h3
      · rw [decide_eq_false h3]
        refine ev_succ ?_
        simp only [spec_MatchAt.j0]
        refine ev_neg (by simp) ?_
        unfold matRes
        rw [if_pos h, if_neg (show ¬ (a < 0 ∨ a > (w.length : Int)) by omega)]
        have := spec_MatchAt_l0 w p n hw h p.length 0 a [-1, -1, -1] (List.replicate n.length none) (by omega) (by omega) (by rw [List.drop_zero]; omega) ⟨rfl, by simp, fun x hx => .inl ⟨?_, by simp [List.getD_eq_getElem?_getD, hx]⟩⟩
        · rw [List.drop_zero] at this; exact this
        · rcases (show x = 0 ∨ x = 1 ∨ x = 2 by omega) with e | e | e <;> subst e <;> decide
  · rw [if_neg h]
    refine ev_pos (by omega) (no _ rfl ?_)
    unfold matRes; rw [if_neg h]
theorem maOk_of {w p n : List Int} (hw : w.length ≤ 1000000000000000) (h : areLen p n = true) : maOk w p n = true := by
  obtain ⟨_, _, h3, h4, h5, h6⟩ := areLen_facts h
  simp only [maOk, Bool.and_eq_true, decide_eq_true_eq, List.all_eq_true]
  exact ⟨⟨⟨⟨h4, h3⟩, h6⟩, hw⟩, h5⟩
theorem impl_MatchAt_ev (w p : List Int) (a : Int) (n : List Int) (hw : w.length ≤ 1000000000000000) (hp : p.length ≤ 4611686018427387904) (hn : n.length ≤ 4611686018427387904) : Ev (fun k => impl_MatchAt.f k w p a n) (matRes w p a n) := by
  simp only [impl_MatchAt.f]
  unfold matRes
  refine ev_bind (impl_areLengths_ev p n hp hn) (ev_ite (fun h => ?_) (fun h => ev_some (by rw [if_neg h])))
  rw [if_pos h]
  refine ev_ite (fun h1 => ev_some (by rw [if_pos (.inl h1)])) (fun h1 => ev_ite (fun h2 => ev_some (by rw [if_pos (.inr h2)])) (fun h2 => ?_))
  rw [if_neg (show ¬ (a < 0 ∨ a > (w.length : Int)) by omega)]
  exact ev_pos (maOk_of hw h) (ev_some rfl)


-- SAY: For all words, patterns, places and lengths the program's MatchAt answers what the reference's answers and leaves its arguments as they were. No conditions beyond the given statement.
theorem FnExactMatchAt : laws_FnExactMatchAt.Pure := by
  intro w p a n hw0 hw1 hwwf hp0 hp1 hpwf hawf hn0 hn1 hnwf
  refine Ev.rounds (g := fun k => laws_FnExactMatchAt.f k w p a n) ?_
  simp only [laws_FnExactMatchAt.f]
  refine ev_ite (fun h => ev_some rfl) (fun h1 => ev_ite (fun h => ev_some rfl) (fun h2 => ev_ite (fun h => ev_some rfl) (fun h3 => ?_)))
  have hS := spec_MatchAt_ev w p a n (by omega) (by omega) (by omega)
  have hI := impl_MatchAt_ev w p a n (by omega) (by omega) (by omega)
  refine ev_bind (toIntS_ev w (by omega)) (ev_bind (toIntS_ev p (by omega)) (ev_bind (toIntS_ev n (by omega)) (ev_bind hS ?_)))
  refine ev_bind (toIntS_ev w (by omega)) (ev_bind (toIntS_ev p (by omega)) (ev_bind (toIntS_ev n (by omega)) (ev_bind hI (ev_neg (by simp) ?_))))
  refine ev_bind (toIntS_ev w (by omega)) (ev_bind (eqIntS_ev w (by omega)) (ev_pos rfl ?_))
  refine ev_bind (toIntS_ev p (by omega)) (ev_bind (eqIntS_ev p (by omega)) (ev_pos rfl ?_))
  exact ev_bind (toIntS_ev n (by omega)) (ev_bind (eqIntS_ev n (by omega)) (ev_pos rfl (ev_some rfl)))


end Go.Proofs.Ytfojmgcekceaoaa.Pure

/-! The row's word for a slice's size, under the name by which the row asks for it. -/
namespace Go.Proofs.Ytfojmgcekceaoaa.PrintWords
open Go.ChangeShapes Go.WideShapes
theorem sized_ints {H : Type} {enc : TypeId × Value → H} {P : Program} {W : World} {base : Nat} {spare : Nat → Bool} {held : Bool} {t e : TypeId} {k : IntKind} {a : Option Addr} {len cap : Nat} {d : DataW H}
    {ps : List MemPlace} {ts : List TypeId} {ds : List (DataW H)} {j : Nat} (hsz : (DataW.weightsEach P ts ds).all (· ≤ reachBytes) = true) (ht : ts[j]? = some t) (hd : ds[j]? = some d) (hu : P.underlying t = some (.slice e))
    (he : P.underlying e = some (.int k)) (hc : P.cellsOf e = 1) {B : Nat} (hB : P.bytesOf e = B) (h : DataW.Trod enc P W base spare held t (.slice a len cap) d ps) : len * B ≤ 140737488351232 :=
  Go.Proofs.YtfojmgcekceaoaaW.PrintWords.sized_ints hsz ht hd hu he hc hB h
end Go.Proofs.Ytfojmgcekceaoaa.PrintWords
