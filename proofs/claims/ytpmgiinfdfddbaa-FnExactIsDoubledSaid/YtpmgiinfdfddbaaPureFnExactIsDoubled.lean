/- For every list the program's IsDoubled answers what the reference's answers, and leaves its argument alone. No conditions beyond the given statement. -/
import Derived.Test.YtpmgiinfdfddbaaPFnExactIsDoubledx2
import Derived.Test.YtpmgiinfdfddbaaWSized
import Derived.Test.YtpmgiinfdfddbaaWSized
import Derived.Test.YtpmgiinfdfddbaaWSized
set_option linter.unusedVariables false
set_option linter.unusedSimpArgs false
namespace Go.Proofs.Ytpmgiinfdfddbaa.Pure
open Go.RowKit Go.Proofs.Ytpmgiinfdfddbaa.PFnExactIsDoubled Go.Proofs.YtpmgiinfdfddbaaW.PrintWords Go.Proofs.YtpmgiinfdfddbaaW.PrintLast

theorem ev_succ {α : Type} {g : Nat → Option α} {r : α} (h : Ev (fun k => g (k + 1)) r) : Ev g r := Ev.step (fun _ => rfl) h
theorem ev_some {α : Type} {r r' : α} (h : r = r') : Ev (fun _ => some r) r' := by subst h; exact Ev.now r
theorem ev_pos {α : Type} {c : Prop} [Decidable c] {g f : Nat → Option α} {r : α} (hc : c) (h : Ev g r) : Ev (fun k => if c then g k else f k) r := by
  simp only [if_pos hc]; exact h
theorem ev_neg {α : Type} {c : Prop} [Decidable c] {g f : Nat → Option α} {r : α} (hc : ¬ c) (h : Ev f r) : Ev (fun k => if c then g k else f k) r := by
  simp only [if_neg hc]; exact h
theorem ev_ite {α : Type} {c : Prop} [Decidable c] {g f : Nat → Option α} {r : α} (h : c → Ev g r) (h' : ¬ c → Ev f r) : Ev (fun k => if c then g k else f k) r := by
  by_cases hc : c
  · exact ev_pos hc (h hc)
  · exact ev_neg hc (h' hc)
theorem ev_bind {α β : Type} {g : Nat → Option α} {f : Nat → α → Option β} {a : α} {r : β} (h : Ev g a) (k : Ev (fun n => f n a) r) : Ev (fun n => (g n).bind (f n)) r := Ev.bind h k
theorem ev_bind0 {α β : Type} {o : Option α} {f : Nat → α → Option β} {a : α} {r : β} (h : o = some a) (k : Ev (fun n => f n a) r) : Ev (fun n => o.bind (f n)) r := by
  subst h; exact k
theorem ev_eq {α : Type} {g : Nat → Option α} {r r' : α} (h : Ev g r) (e : r = r') : Ev g r' := e ▸ h
theorem ev_const {α : Type} {o : Option α} {r : α} (h : o = some r) : Ev (fun _ => o) r := by subst h; exact Ev.now r
theorem wr {n : Int} (h0 : -9223372036854775808 ≤ n) (h1 : n ≤ 9223372036854775807) : wrap64 n = n := by unfold wrap64; omega
theorem wr1 {i : Int} (h0 : 0 ≤ i) (h1 : i ≤ 4611686018427387904) : wrap64 (i + 1) = i + 1 := wr (by omega) (by omega)
theorem wr_nat {n : Nat} (h : n ≤ 4611686018427387904) : wrap64 (n : Int) = n := wr (by omega) (by omega)
theorem rd_nat (l : List Int) (i : Nat) : rd l (i : Int) = l.getD i 0 := by simp [rd]
theorem rd_get {l : List Int} {i : Nat} (h : i < l.length) : rd l (i : Int) = l[i] := by
  simp [rd, List.getD_eq_getElem?_getD, List.getElem?_eq_getElem h]
theorem drop_rd {l : List Int} {i : Nat} (h : i < l.length) : l.drop i = rd l (i : Int) :: l.drop (i + 1) := by
  rw [rd_get h]; exact List.drop_eq_getElem_cons h
theorem rd_mem {l : List Int} {i : Nat} (h : i < l.length) : rd l (i : Int) ∈ l := by rw [rd_get h]; exact List.getElem_mem h


theorem toIntS_l0 (l : List Int) (hn : l.length ≤ 4611686018427387904) (d : Nat) : ∀ (i : Nat) (x : List Int), i + d = l.length → x.length = l.length → (∀ j, j < i → x[j]? = l[j]?) →
    Ev (fun k => laws_toIntS.l0 k l x (i : Int)) l := by
  induction d with
  | zero =>
    intro i x hi hx hj
    refine ev_succ ?_
    simp only [laws_toIntS.l0]
    refine ev_neg (by omega) (ev_some ?_)
    apply List.ext_getElem?
    intro j
    by_cases h : j < i
    · exact hj j h
    · rw [List.getElem?_eq_none (by omega), List.getElem?_eq_none (by omega)]
  | succ d ih =>
    intro i x hi hx hj
    refine ev_succ ?_
    simp only [laws_toIntS.l0, wr1 (show (0 : Int) ≤ (i : Int) by omega) (by omega)]
    refine ev_pos (by omega) (ev_pos (by omega) (ev_pos (by omega) ?_))
    refine ih (i + 1) _ (by omega) (by simp [hx]) ?_
    intro j hj'
    rw [Int.toNat_natCast, rd_get (by omega), List.getElem?_set]
    by_cases e : i = j
    · subst e
      rw [if_pos rfl, if_pos (by omega), List.getElem?_eq_getElem (by omega)]
    · rw [if_neg e]; exact hj j (by omega)
theorem toIntS_ev (l : List Int) (hn : l.length ≤ 35184372088832) : Ev (fun k => laws_toIntS.f k l) l := by
  simp only [laws_toIntS.f]
  refine ev_pos (by omega) (ev_pos (by omega) ?_)
  exact toIntS_l0 l (by omega) l.length 0 _ (by omega) (by simp) (by intro j hj; omega)


theorem eqIntS_l0 (l : List Int) (hn : l.length ≤ 4611686018427387904) (d : Nat) : ∀ (i : Nat), i + d = l.length → Ev (fun k => laws_eqIntS.l0 k l l (i : Int)) true := by
  induction d with
  | zero =>
    intro i hi
    refine ev_succ ?_
    simp only [laws_eqIntS.l0]
    exact ev_neg (by omega) (ev_some rfl)
  | succ d ih =>
    intro i hi
    refine ev_succ ?_
    simp only [laws_eqIntS.l0, wr1 (show (0 : Int) ≤ (i : Int) by omega) (by omega)]
    exact ev_pos (by omega) (ev_pos (by omega) (ev_pos (by omega) (ev_pos trivial (ih (i + 1) (by omega)))))
theorem eqIntS_ev (l : List Int) (hn : l.length ≤ 4611686018427387904) : Ev (fun k => laws_eqIntS.f k l l) true := by
  simp only [laws_eqIntS.f]
  exact ev_pos trivial (eqIntS_l0 l hn l.length 0 (by omega))


theorem l1In_eq (a b c : Int) : spec_l1In.f a b c = some (decide (b ≤ a ∧ a ≤ c)) := by
  unfold spec_l1In.f
  by_cases h : a ≥ b
  · rw [if_pos h]; simp [show b ≤ a from h]
  · rw [if_neg h]; simp [show ¬ b ≤ a from h]


/-- the number of letters behind a pattern's letters, none if they are not numbered as they come -/
def patRun : List Int → Int → Option Int
  | [], m => some m
  | x :: l, m => if x < 0 then none else if x > m then none else if x = m then patRun l (m + 1) else patRun l m
theorem patRun_ge : ∀ (l : List Int) (m r : Int), patRun l m = some r → m ≤ r ∧ r ≤ m + l.length := by
  intro l
  induction l with
  | nil => intro m r h; simp only [patRun, Option.some.injEq] at h; simp; omega
  | cons x l ih =>
    intro m r h
    simp only [patRun] at h
    simp only [List.length_cons]
    split at h
    · cases h
    · split at h
      · cases h
      · split at h
        · have := ih _ _ h; omega
        · have := ih _ _ h; omega
/-- what patternLetters answers -/
def patL (l : List Int) : Int := match patRun l 0 with
  | none => 0
  | some m => if (l.length : Int) > 6 then 0 else if m > 3 then 0 else m
def isPat (l : List Int) : Bool := decide (patL l > 0)
def patFin (l : List Int) (r : Option Int) : Int := match r with
  | none => 0
  | some m => if (l.length : Int) > 6 then 0 else if m > 3 then 0 else m
theorem impl_patternLetters_l0 (l : List Int) (hn : l.length ≤ 4611686018427387904) (d : Nat) : ∀ (i : Nat) (m : Int), i + d = l.length → 0 ≤ m → m ≤ i →
    Ev (fun k => impl_patternLetters.l0 k l m l (l.length : Int) (i : Int)) (patFin l (patRun (l.drop i) m)) := by
  induction d with
  | zero =>
    intro i m hi h0 h1
    refine ev_succ ?_
    simp only [impl_patternLetters.l0]
    refine ev_neg (by omega) ?_
    rw [List.drop_of_length_le (by omega)]
    simp only [patRun, patFin]
    refine ev_ite (fun h => ev_some (by rw [if_pos h])) (fun h => ?_)
    refine ev_ite (fun h' => ev_some (by rw [if_neg h, if_pos h'])) (fun h' => ev_some (by rw [if_neg h, if_neg h']))
  | succ d ih =>
    intro i m hi h0 h1
    refine ev_succ ?_
    simp only [impl_patternLetters.l0]
    refine ev_pos (by omega) (ev_pos (by omega) (ev_pos (by omega) ?_))
    rw [drop_rd (by omega : i < l.length)]
    have no : ∀ b : Bool, b = true → (rd l (i : Int) < 0 ∨ rd l (i : Int) > m) → Ev (fun k => impl_patternLetters.j1 k l m (rd l (i : Int)) l (l.length : Int) (i : Int) b) (patFin l (patRun (rd l (i : Int) :: l.drop (i + 1)) m)) := by
      intro b hb h
      subst hb
      refine ev_succ ?_
      simp only [impl_patternLetters.j1]
      refine ev_pos trivial (ev_some ?_)
      simp only [patRun]
      by_cases h2 : rd l (i : Int) < 0
      · rw [if_pos h2]; rfl
      · rw [if_neg h2, if_pos (by omega)]; rfl
    refine ev_ite (fun h => no _ rfl (.inl h)) (fun h => ?_)
    by_cases h2 : rd l (i : Int) > m
    · rw [decide_eq_true h2]; exact no _ rfl (.inr h2)
    · rw [decide_eq_false h2]
      refine ev_succ ?_
      simp only [impl_patternLetters.j1, wr1 (show (0 : Int) ≤ (i : Int) by omega) (by omega), wr1 h0 (by omega)]
      refine ev_neg (by simp) ?_
      refine ev_ite (fun h3 => ev_eq (ih (i + 1) (m + 1) (by omega) (by omega) (by omega)) ?_) (fun h3 => ev_eq (ih (i + 1) m (by omega) (by omega) (by omega)) ?_)
      · simp only [patRun]; rw [if_neg h, if_neg h2, if_pos h3]
      · simp only [patRun]; rw [if_neg h, if_neg h2, if_neg h3]
theorem impl_patternLetters_ev (l : List Int) (hn : l.length ≤ 4611686018427387904) : Ev (fun k => impl_patternLetters.f k l) (patL l) := by
  simp only [impl_patternLetters.f]
  exact ev_eq (impl_patternLetters_l0 l hn l.length 0 0 (by omega) (by omega) (by omega)) (by simp [patL, patFin])
/-- the reference's way: no letter above 2 -/
def patS (l : List Int) (r : Option Int) : Bool := match r with
  | none => false
  | some m => decide (m ≤ 3) && decide (1 ≤ (l.length : Int) ∧ (l.length : Int) ≤ 6)
theorem spec_IsPattern_l0 (l : List Int) (hn : l.length ≤ 4611686018427387904) (d : Nat) : ∀ (i : Nat) (m : Int), i + d = l.length → 0 ≤ m → m ≤ 3 →
    Ev (fun k => spec_IsPattern.l0 k l m (i : Int)) (patS l (patRun (l.drop i) m)) := by
  induction d with
  | zero =>
    intro i m hi h0 h1
    refine ev_succ ?_
    simp only [spec_IsPattern.l0, l1In_eq]
    refine ev_neg (by omega) (ev_some ?_)
    rw [List.drop_of_length_le (by omega)]
    simp only [patRun, patS, decide_eq_true h1, Bool.true_and]
  | succ d ih =>
    intro i m hi h0 h1
    refine ev_succ ?_
    simp only [spec_IsPattern.l0]
    refine ev_pos (by omega) (ev_pos (by omega) ?_)
    rw [drop_rd (by omega : i < l.length)]
    have no : ∀ b : Bool, b = true → (rd l (i : Int) < 0 ∨ rd l (i : Int) > m ∨ rd l (i : Int) > 2) → Ev (fun k => spec_IsPattern.j1 k l m (i : Int) b) (patS l (patRun (rd l (i : Int) :: l.drop (i + 1)) m)) := by
      intro b hb h
      subst hb
      refine ev_succ ?_
      simp only [spec_IsPattern.j1]
      refine ev_pos trivial (ev_some ?_)
      simp only [patRun]
      by_cases h2 : rd l (i : Int) < 0
      · rw [if_pos h2]; rfl
      · by_cases h3 : rd l (i : Int) > m
        · rw [if_neg h2, if_pos h3]; rfl
        · rw [if_neg h2, if_neg h3, if_pos (by omega)]
          cases hr : patRun (l.drop (i + 1)) (m + 1) with
          | none => rfl
          | some r =>
            have := (patRun_ge _ _ _ hr).1
            simp only [patS, decide_eq_false (show ¬ r ≤ 3 by omega), Bool.false_and]
    refine ev_ite (fun h => no _ rfl (.inl h)) (fun h => ?_)
    refine ev_ite (fun h2 => no _ rfl (.inr (.inl h2))) (fun h2 => ?_)
    by_cases h4 : rd l (i : Int) > 2
    · rw [decide_eq_true h4]; exact no _ rfl (.inr (.inr h4))
    · rw [decide_eq_false h4]
      refine ev_succ ?_
      simp only [spec_IsPattern.j1, wr1 (show (0 : Int) ≤ (i : Int) by omega) (by omega), wr1 h0 (by omega)]
      refine ev_neg (by simp) (ev_pos (by omega) (ev_pos (by omega) ?_))
      refine ev_ite (fun h3 => ev_eq (ih (i + 1) (m + 1) (by omega) (by omega) (by omega)) ?_) (fun h3 => ev_eq (ih (i + 1) m (by omega) (by omega) (by omega)) ?_)
      · simp only [patRun]; rw [if_neg h, if_neg h2, if_pos h3]
      · simp only [patRun]; rw [if_neg h, if_neg h2, if_neg h3]
theorem patS_eq (l : List Int) : patS l (patRun l 0) = isPat l := by
  unfold isPat patL
  cases hr : patRun l 0 with
  | none => simp [patS]
  | some m =>
    have h := patRun_ge _ _ _ hr
    simp only [patS]
    rw [Bool.eq_iff_iff]
    simp only [Bool.and_eq_true, decide_eq_true_eq]
    by_cases h0 : l = []
    · subst h0
      simp only [patRun, Option.some.injEq] at hr
      simp; omega
    · have hm : 1 ≤ m := by
        cases l with
        | nil => exact absurd rfl h0
        | cons x l =>
          simp only [patRun] at hr
          split at hr
          · cases hr
          · split at hr
            · cases hr
            · rw [if_pos (by omega)] at hr
              have := (patRun_ge _ _ _ hr).1
              omega
      have : 1 ≤ l.length := by cases l with
        | nil => exact absurd rfl h0
        | cons => simp
      by_cases h6 : (l.length : Int) > 6
      · rw [if_pos h6]; omega
      · rw [if_neg h6]
        by_cases h3 : m > 3
        · rw [if_pos h3]; omega
        · rw [if_neg h3]; omega
theorem spec_IsPattern_ev (l : List Int) (hn : l.length ≤ 4611686018427387904) : Ev (fun k => spec_IsPattern.f k l) (isPat l) := by
  simp only [spec_IsPattern.f]
  exact ev_eq (spec_IsPattern_l0 l hn l.length 0 0 (by omega) (by omega) (by omega)) (by rw [List.drop_zero]; exact patS_eq l)


def letS : List Int → Int → Int
  | [], m => m
  | x :: l, m => letS l (mx m (wrap64 (x + 1)))
theorem spec_l28Letters_l0 (l : List Int) (hn : l.length ≤ 4611686018427387904) (d : Nat) : ∀ (i : Nat) (m : Int), i + d = l.length →
    Ev (fun k => spec_l28Letters.l0 k l m (i : Int)) (letS (l.drop i) m) := by
  induction d with
  | zero =>
    intro i m hi
    refine ev_succ ?_
    simp only [spec_l28Letters.l0]
    refine ev_neg (by omega) (ev_some ?_)
    rw [List.drop_of_length_le (by omega)]; rfl
  | succ d ih =>
    intro i m hi
    refine ev_succ ?_
    simp only [spec_l28Letters.l0, wr1 (show (0 : Int) ≤ (i : Int) by omega) (by omega)]
    refine ev_pos (by omega) (ev_pos (by omega) ?_)
    rw [drop_rd (by omega : i < l.length)]
    exact ih (i + 1) _ (by omega)
theorem spec_l28Letters_ev (l : List Int) (hn : l.length ≤ 4611686018427387904) : Ev (fun k => spec_l28Letters.f k l) (letS l 0) := by
  simp only [spec_l28Letters.f]
  exact spec_l28Letters_l0 l hn l.length 0 0 (by omega)
theorem letS_pat : ∀ (l : List Int) (m r : Int), 0 ≤ m → patRun l m = some r → r ≤ 100 → letS l m = r := by
  intro l
  induction l with
  | nil => intro m r _ h _; simpa [patRun, letS] using h
  | cons x l ih =>
    intro m r h0 h hr
    simp only [patRun] at h
    simp only [letS]
    split at h
    · cases h
    · split at h
      · cases h
      · split at h
        · have := (patRun_ge _ _ _ h).1
          rw [wr (by omega) (by omega)]
          have e : mx m (x + 1) = m + 1 := by unfold mx; rw [if_pos (by omega)]; omega
          rw [e]
          exact ih _ _ (by omega) h hr
        · have := (patRun_ge _ _ _ h).1
          rw [wr (by omega) (by omega)]
          have e : mx m (x + 1) = m := by unfold mx; rw [if_neg (by omega)]
          rw [e]
          exact ih _ _ h0 h hr
theorem patRun_mem : ∀ (l : List Int) (m r : Int), 0 ≤ m → patRun l m = some r → ∀ x ∈ l, 0 ≤ x ∧ x < r := by
  intro l
  induction l with
  | nil => intro m r _ _ x hx; cases hx
  | cons y l ih =>
    intro m r h0 h x hx
    simp only [patRun] at h
    split at h
    · cases h
    · split at h
      · cases h
      · split at h
        · have h1 := (patRun_ge _ _ _ h).1
          have h2 := ih _ _ (by omega) h
          rcases List.mem_cons.1 hx with rfl | hx
          · omega
          · exact h2 x hx
        · have h1 := (patRun_ge _ _ _ h).1
          have h2 := ih _ _ h0 h
          rcases List.mem_cons.1 hx with rfl | hx
          · omega
          · exact h2 x hx
/-- what is known of a pattern -/
theorem isPat_facts {l : List Int} (h : isPat l = true) : patRun l 0 = some (patL l) ∧ 1 ≤ patL l ∧ patL l ≤ 3 ∧ l.length ≤ 6 := by
  unfold isPat at h
  rw [decide_eq_true_eq] at h
  unfold patL at h ⊢
  cases hr : patRun l 0 with
  | none => rw [hr] at h; simp at h
  | some m =>
    rw [hr] at h
    simp only at h ⊢
    split at h
    · omega
    · rename_i h6
      split at h
      · omega
      · rename_i h3
        rw [if_neg h6, if_neg h3]
        exact ⟨rfl, by omega, by omega, by omega⟩
theorem letS_isPat {l : List Int} (h : isPat l = true) : letS l 0 = patL l := by
  obtain ⟨h1, h2, h3, h4⟩ := isPat_facts h
  exact letS_pat l 0 _ (by omega) h1 (by omega)
theorem patL_no {l : List Int} (h : isPat l = false) : patL l ≤ 0 := by
  unfold isPat at h
  rw [decide_eq_false_iff_not] at h
  omega
theorem patL_nonneg (l : List Int) : 0 ≤ patL l := by
  unfold patL
  split
  · omega
  · rename_i m hr
    have := (patRun_ge _ _ _ hr).1
    split
    · omega
    · split <;> omega


def cnt (a : Int) : List Int → Int
  | [] => 0
  | x :: l => (if x = a then 1 else 0) + cnt a l
theorem cnt_bd (a : Int) (l : List Int) : 0 ≤ cnt a l ∧ cnt a l ≤ l.length := by
  induction l with
  | nil => exact ⟨by simp [cnt], by simp [cnt]⟩
  | cons x l ih =>
    simp only [cnt, List.length_cons]
    split <;> omega
theorem spec_CountLetters_l0 (l : List Int) (a : Int) (hn : l.length ≤ 4611686018427387904) (d : Nat) : ∀ (i : Nat) (s : Int), i + d = l.length → 0 ≤ s → s ≤ i →
    Ev (fun k => spec_CountLetters.l0 k l a s (i : Int)) (s + cnt a (l.drop i)) := by
  induction d with
  | zero =>
    intro i s hi h0 h1
    refine ev_succ ?_
    simp only [spec_CountLetters.l0]
    refine ev_neg (by omega) (ev_some ?_)
    rw [List.drop_of_length_le (by omega)]; simp [cnt]
  | succ d ih =>
    intro i s hi h0 h1
    refine ev_succ ?_
    simp only [spec_CountLetters.l0, wr1 (show (0 : Int) ≤ (i : Int) by omega) (by omega), wr1 h0 (by omega)]
    refine ev_pos (by omega) (ev_pos (by omega) ?_)
    rw [drop_rd (by omega : i < l.length)]
    refine ev_ite (fun h => ev_eq (ih (i + 1) (s + 1) (by omega) (by omega) (by omega)) ?_) (fun h => ev_eq (ih (i + 1) s (by omega) (by omega) (by omega)) ?_)
    · simp only [cnt, if_pos h]; omega
    · simp only [cnt, if_neg h]; omega
theorem spec_CountLetters_ev (l : List Int) (a : Int) (hn : l.length ≤ 4611686018427387904) : Ev (fun k => spec_CountLetters.f k l a) (cnt a l) := by
  simp only [spec_CountLetters.f]
  exact ev_eq (spec_CountLetters_l0 l a hn l.length 0 0 (by omega) (by omega) (by omega)) (by simp)
theorem oneIf_eq (b : Bool) : impl_oneIf.f b = some (if b = true then 1 else 0) := by
  unfold impl_oneIf.f
  cases b <;> rfl
theorem impl_CountLetters_l0 (l : List Int) (a : Int) (hn : l.length ≤ 4611686018427387904) (d : Nat) : ∀ (i : Nat) (s : Int), i + d = l.length → 0 ≤ s → s ≤ i →
    Ev (fun k => impl_CountLetters.l0 k a s l (l.length : Int) (i : Int)) (s + cnt a (l.drop i)) := by
  induction d with
  | zero =>
    intro i s hi h0 h1
    refine ev_succ ?_
    simp only [impl_CountLetters.l0]
    refine ev_neg (by omega) (ev_some ?_)
    rw [List.drop_of_length_le (by omega)]; simp [cnt]
  | succ d ih =>
    intro i s hi h0 h1
    refine ev_succ ?_
    simp only [impl_CountLetters.l0, wr1 (show (0 : Int) ≤ (i : Int) by omega) (by omega), oneIf_eq, Option.bind_some, beq_iff_eq]
    refine ev_pos (by omega) (ev_pos (by omega) (ev_pos (by omega) ?_))
    rw [drop_rd (by omega : i < l.length)]
    by_cases h : rd l (i : Int) = a
    · simp only [if_pos h]
      rw [wr1 h0 (by omega)]
      refine ev_eq (ih (i + 1) (s + 1) (by omega) (by omega) (by omega)) ?_
      simp only [cnt, if_pos h]; omega
    · simp only [if_neg h]
      rw [wr (by omega) (by omega), Int.add_zero]
      refine ev_eq (ih (i + 1) s (by omega) (by omega) (by omega)) ?_
      simp only [cnt, if_neg h]; omega
theorem impl_CountLetters_ev (l : List Int) (a : Int) (hn : l.length ≤ 4611686018427387904) : Ev (fun k => impl_CountLetters.f k l a) (cnt a l) := by
  simp only [impl_CountLetters.f]
  exact ev_eq (impl_CountLetters_l0 l a hn l.length 0 0 (by omega) (by omega) (by omega)) (by simp)


def dblRun (l : List Int) : Nat → Int → Bool
  | 0, _ => true
  | d + 1, a => if cnt a l < 2 then false else dblRun l d (a + 1)
def isDbl (l : List Int) : Bool := isPat l && dblRun l (patL l).toNat 0
theorem impl_IsDoubled_l0 (l : List Int) (m : Nat) (hn : l.length ≤ 4611686018427387904) (hm : m ≤ 3) (d : Nat) : ∀ (i : Nat), i + d = m →
    Ev (fun k => impl_IsDoubled.l0 k l (m : Int) (m : Int) (i : Int)) (dblRun l d (i : Int) && decide ((m : Int) > 0)) := by
  induction d with
  | zero =>
    intro i hi
    refine ev_succ ?_
    simp only [impl_IsDoubled.l0]
    exact ev_neg (by omega) (ev_some (by simp [dblRun]))
  | succ d ih =>
    intro i hi
    refine ev_succ ?_
    simp only [impl_IsDoubled.l0, wr1 (show (0 : Int) ≤ (i : Int) by omega) (by omega)]
    refine ev_pos (by omega) (ev_bind (impl_CountLetters_ev l i hn) (ev_ite (fun h => ev_some ?_) (fun h => ev_eq (ih (i + 1) (by omega)) ?_)))
    · simp only [dblRun]; rw [if_pos h]; rfl
    · simp only [dblRun]; rw [if_neg h]; rfl
theorem impl_IsDoubled_ev (l : List Int) (hn : l.length ≤ 4611686018427387904) : Ev (fun k => impl_IsDoubled.f k l) (isDbl l) := by
  simp only [impl_IsDoubled.f]
  refine ev_bind (impl_patternLetters_ev l hn) ?_
  have h0 := patL_nonneg l
  have h3 : patL l ≤ 3 := by
    cases hp : isPat l with
    | false => have := patL_no hp; omega
    | true => exact (isPat_facts hp).2.2.1
  obtain ⟨m, hm⟩ := Int.eq_ofNat_of_zero_le h0
  unfold isDbl isPat
  rw [hm, Int.toNat_natCast, Bool.and_comm]
  exact impl_IsDoubled_l0 l m hn (by omega) m 0 (by omega)
theorem spec_IsDoubled_l0 (l : List Int) (hp : isPat l = true) (m : Nat) (hm : patL l = m) (hn : l.length ≤ 4611686018427387904) (hm3 : m ≤ 3) (d : Nat) : ∀ (i : Nat), i + d = m →
    Ev (fun k => spec_IsDoubled.l0 k l (i : Int)) (dblRun l d (i : Int)) := by
  induction d with
  | zero =>
    intro i hi
    refine ev_succ ?_
    simp only [spec_IsDoubled.l0]
    refine ev_bind (spec_l28Letters_ev l hn) ?_
    rw [letS_isPat hp, hm]
    refine ev_neg (by omega) (ev_succ ?_)
    simp only [spec_IsDoubled.j1]
    refine ev_neg (by simp) (ev_bind (spec_IsPattern_ev l hn) (ev_some ?_))
    rw [hp]; rfl
  | succ d ih =>
    intro i hi
    refine ev_succ ?_
    simp only [spec_IsDoubled.l0]
    refine ev_bind (spec_l28Letters_ev l hn) ?_
    rw [letS_isPat hp, hm]
    refine ev_pos (by omega) (ev_bind (spec_IsPattern_ev l hn) (ev_succ ?_))
    simp only [spec_IsDoubled.j1, wr1 (show (0 : Int) ≤ (i : Int) by omega) (by omega)]
    refine ev_pos hp (ev_bind (spec_CountLetters_ev l i hn) (ev_ite (fun h => ev_some ?_) (fun h => ev_eq (ih (i + 1) (by omega)) ?_)))
    · simp only [dblRun]; rw [if_pos h]
    · simp only [dblRun]; rw [if_neg h]; rfl
theorem spec_IsDoubled_ev (l : List Int) (hn : l.length ≤ 4611686018427387904) : Ev (fun k => spec_IsDoubled.f k l) (isDbl l) := by
  simp only [spec_IsDoubled.f]
  unfold isDbl
  cases hp : isPat l with
  | true =>
    obtain ⟨h1, h2, h3, h4⟩ := isPat_facts hp
    obtain ⟨m, hm⟩ := Int.eq_ofNat_of_zero_le (show 0 ≤ patL l by omega)
    rw [hm, Int.toNat_natCast, Bool.true_and]
    exact spec_IsDoubled_l0 l hp m hm hn (by omega) m 0 (by omega)
  | false =>
    rw [Bool.false_and]
    refine ev_succ ?_
    simp only [spec_IsDoubled.l0]
    have no : ∀ b : Bool, b = false → Ev (fun k => spec_IsDoubled.j1 k l 0 b) false := by
      intro b hb
      subst hb
      refine ev_succ ?_
      simp only [spec_IsDoubled.j1]
      refine ev_neg (by simp) (ev_bind (spec_IsPattern_ev l hn) (ev_some hp))
    refine ev_bind (spec_l28Letters_ev l hn) (ev_ite (fun h => ev_bind (spec_IsPattern_ev l hn) (no _ hp)) (fun h => no _ rfl))


-- SAY: For every list the program's IsDoubled answers what the reference's answers, and leaves its argument alone. No conditions beyond the given statement.
theorem FnExactIsDoubled : laws_FnExactIsDoubled.Pure := by
  intro l hl0 hl1 hwf
  refine Ev.rounds (g := fun k => laws_FnExactIsDoubled.f k l) ?_
  simp only [laws_FnExactIsDoubled.f]
  refine ev_ite (fun h => ev_some rfl) (fun h => ?_)
  refine ev_bind (toIntS_ev l (by omega)) ?_
  refine ev_bind (spec_IsDoubled_ev l (by omega)) ?_
  refine ev_bind (toIntS_ev l (by omega)) ?_
  refine ev_bind (impl_IsDoubled_ev l (by omega)) ?_
  refine ev_neg (by simp) ?_
  refine ev_bind (toIntS_ev l (by omega)) ?_
  refine ev_bind (eqIntS_ev l (by omega)) ?_
  exact ev_pos rfl (ev_some rfl)


end Go.Proofs.Ytpmgiinfdfddbaa.Pure

/-! The row's word for a slice's size, under the name by which the row asks for it. -/
namespace Go.Proofs.Ytpmgiinfdfddbaa.PrintWords
open Go.ChangeShapes Go.WideShapes
theorem sized_ints {H : Type} {enc : TypeId × Value → H} {P : Program} {W : World} {base : Nat} {spare : Nat → Bool} {held : Bool} {t e : TypeId} {k : IntKind} {a : Option Addr} {len cap : Nat} {d : DataW H}
    {ps : List MemPlace} {ts : List TypeId} {ds : List (DataW H)} {j : Nat} (hsz : (DataW.weightsEach P ts ds).all (· ≤ reachBytes) = true) (ht : ts[j]? = some t) (hd : ds[j]? = some d) (hu : P.underlying t = some (.slice e))
    (he : P.underlying e = some (.int k)) (hc : P.cellsOf e = 1) {B : Nat} (hB : P.bytesOf e = B) (h : DataW.Trod enc P W base spare held t (.slice a len cap) d ps) : len * B ≤ 140737488351232 :=
  Go.Proofs.YtpmgiinfdfddbaaW.PrintWords.sized_ints hsz ht hd hu he hc hB h
end Go.Proofs.Ytpmgiinfdfddbaa.PrintWords
