/- For every list the program's IsPattern answers what the reference's answers, and leaves its argument alone. No conditions beyond the given statement. -/
import Derived.Test.YtcaloeiapmnoeaaPFnExactIsPatternx2
import Derived.Test.YtcaloeiapmnoeaaWSized
import Derived.Test.YtcaloeiapmnoeaaWSized
set_option linter.unusedVariables false
set_option linter.unusedSimpArgs false
namespace Go.Proofs.Ytcaloeiapmnoeaa.Pure
open Go.RowKit Go.Proofs.Ytcaloeiapmnoeaa.PFnExactIsPattern Go.Proofs.YtcaloeiapmnoeaaW.PrintWords Go.Proofs.YtcaloeiapmnoeaaW.PrintLast

theorem ev_succ {α : Type} {g : Nat → Option α} {r : α} (h : Ev (fun k => g (k + 1)) r) : Ev g r := Ev.step (fun _ => rfl) h
theorem ev_some {α : Type} {r r' : α} (h : r = r') : Ev (fun _ => some r) r' := by subst h; exact Ev.now r
theorem ev_pos {α : Type} {c : Prop} [Decidable c] {g f : Nat → Option α} {r : α} (hc : c) (h : Ev g r) : Ev (fun k => if c then g k else f k) r := by
  simp only [if_pos hc]; exact h
theorem ev_neg {α : Type} {c : Prop} [Decidable c] {g f : Nat → Option α} {r : α} (hc : ¬ c) (h : Ev f r) : Ev (fun k => if c then g k else f k) r := by
  simp only [if_neg hc]; exact h
theorem ev_ite {α : Type} {c : Prop} [Decidable c] {g f : Nat → Option α} {r : α} (h : c → Ev g r) (h' : ¬ c → Ev f r) : Ev (fun k => if c then g k else f k) r := by
  by_cases hc : c
  · exact ev_pos hc (h hc)
  · exact ev_neg hc (h' hc)
theorem ev_bind {α β : Type} {g : Nat → Option α} {f : Nat → α → Option β} {a : α} {r : β} (h : Ev g a) (k : Ev (fun n => f n a) r) : Ev (fun n => (g n).bind (f n)) r := Ev.bind h k
theorem ev_bind0 {α β : Type} {o : Option α} {f : Nat → α → Option β} {a : α} {r : β} (h : o = some a) (k : Ev (fun n => f n a) r) : Ev (fun n => o.bind (f n)) r := by
  subst h; exact k
theorem ev_eq {α : Type} {g : Nat → Option α} {r r' : α} (h : Ev g r) (e : r = r') : Ev g r' := e ▸ h
theorem ev_const {α : Type} {o : Option α} {r : α} (h : o = some r) : Ev (fun _ => o) r := by subst h; exact Ev.now r
theorem wr {n : Int} (h0 : -9223372036854775808 ≤ n) (h1 : n ≤ 9223372036854775807) : wrap64 n = n := by unfold wrap64; omega
theorem wr1 {i : Int} (h0 : 0 ≤ i) (h1 : i ≤ 4611686018427387904) : wrap64 (i + 1) = i + 1 := wr (by omega) (by omega)
theorem rd_nat (l : List Int) (i : Nat) : rd l (i : Int) = l.getD i 0 := by simp [rd]
theorem rd_get {l : List Int} {i : Nat} (h : i < l.length) : rd l (i : Int) = l[i] := by
  simp [rd, List.getD_eq_getElem?_getD, List.getElem?_eq_getElem h]
theorem drop_rd {l : List Int} {i : Nat} (h : i < l.length) : l.drop i = rd l (i : Int) :: l.drop (i + 1) := by
  rw [rd_get h]; exact List.drop_eq_getElem_cons h
theorem rd_mem {l : List Int} {i : Nat} (h : i < l.length) : rd l (i : Int) ∈ l := by rw [rd_get h]; exact List.getElem_mem h

theorem toIntS_l0 (l : List Int) (hn : l.length ≤ 4611686018427387904) (d : Nat) : ∀ (i : Nat) (x : List Int), i + d = l.length → x.length = l.length → (∀ j, j < i → x[j]? = l[j]?) →
    Ev (fun k => laws_toIntS.l0 k l x (i : Int)) l := by
  induction d with
  | zero =>
    intro i x hi hx hj
    refine ev_succ ?_
    simp only [laws_toIntS.l0]
    refine ev_neg (by omega) (ev_some ?_)
    apply List.ext_getElem?
    intro j
    by_cases h : j < i
    · exact hj j h
    · rw [List.getElem?_eq_none (by omega), List.getElem?_eq_none (by omega)]
  | succ d ih =>
    intro i x hi hx hj
    refine ev_succ ?_
    simp only [laws_toIntS.l0, wr1 (show (0 : Int) ≤ (i : Int) by omega) (by omega)]
    refine ev_pos (by omega) (ev_pos (by omega) (ev_pos (by omega) ?_))
    refine ih (i + 1) _ (by omega) (by simp [hx]) ?_
    intro j hj'
    rw [Int.toNat_natCast, rd_get (by omega), List.getElem?_set]
    by_cases e : i = j
    · subst e
      rw [if_pos rfl, if_pos (by omega), List.getElem?_eq_getElem (by omega)]
    · rw [if_neg e]; exact hj j (by omega)
theorem toIntS_ev (l : List Int) (hn : l.length ≤ 35184372088832) : Ev (fun k => laws_toIntS.f k l) l := by
  simp only [laws_toIntS.f]
  refine ev_pos (by omega) (ev_pos (by omega) ?_)
  exact toIntS_l0 l (by omega) l.length 0 _ (by omega) (by simp) (by intro j hj; omega)

theorem eqIntS_l0 (l : List Int) (hn : l.length ≤ 4611686018427387904) (d : Nat) : ∀ (i : Nat), i + d = l.length → Ev (fun k => laws_eqIntS.l0 k l l (i : Int)) true := by
  induction d with
  | zero =>
    intro i hi
    refine ev_succ ?_
    simp only [laws_eqIntS.l0]
    exact ev_neg (by omega) (ev_some rfl)
  | succ d ih =>
    intro i hi
    refine ev_succ ?_
    simp only [laws_eqIntS.l0, wr1 (show (0 : Int) ≤ (i : Int) by omega) (by omega)]
    exact ev_pos (by omega) (ev_pos (by omega) (ev_pos (by omega) (ev_pos trivial (ih (i + 1) (by omega)))))
theorem eqIntS_ev (l : List Int) (hn : l.length ≤ 4611686018427387904) : Ev (fun k => laws_eqIntS.f k l l) true := by
  simp only [laws_eqIntS.f]
  exact ev_pos trivial (eqIntS_l0 l hn l.length 0 (by omega))

theorem l1In_eq (a b c : Int) : spec_l1In.f a b c = some (decide (b ≤ a ∧ a ≤ c)) := by
  unfold spec_l1In.f
  by_cases h : a ≥ b
  · rw [if_pos h]; simp [show b ≤ a from h]
  · rw [if_neg h]; simp [show ¬ b ≤ a from h]

/-- the number of letters behind a pattern's letters, none if they are not numbered as they come -/
def patRun : List Int → Int → Option Int
  | [], m => some m
  | x :: l, m => if x < 0 then none else if x > m then none else if x = m then patRun l (m + 1) else patRun l m
theorem patRun_ge : ∀ (l : List Int) (m r : Int), patRun l m = some r → m ≤ r ∧ r ≤ m + l.length := by
  intro l
  induction l with
  | nil => intro m r h; simp only [patRun, Option.some.injEq] at h; simp; omega
  | cons x l ih =>
    intro m r h
    simp only [patRun] at h
    simp only [List.length_cons]
    split at h
    · cases h
    · split at h
      · cases h
      · split at h
        · have := ih _ _ h; omega
        · have := ih _ _ h; omega
/-- what patternLetters answers -/
def patL (l : List Int) : Int := match patRun l 0 with
  | none => 0
  | some m => if (l.length : Int) > 6 then 0 else if m > 3 then 0 else m
def isPat (l : List Int) : Bool := decide (patL l > 0)
def patFin (l : List Int) (r : Option Int) : Int := match r with
  | none => 0
  | some m => if (l.length : Int) > 6 then 0 else if m > 3 then 0 else m
theorem impl_patternLetters_l0 (l : List Int) (hn : l.length ≤ 4611686018427387904) (d : Nat) : ∀ (i : Nat) (m : Int), i + d = l.length → 0 ≤ m → m ≤ i →
    Ev (fun k => impl_patternLetters.l0 k l m l (l.length : Int) (i : Int)) (patFin l (patRun (l.drop i) m)) := by
  induction d with
  | zero =>
    intro i m hi h0 h1
    refine ev_succ ?_
    simp only [impl_patternLetters.l0]
    refine ev_neg (by omega) ?_
    rw [List.drop_of_length_le (by omega)]
    simp only [patRun, patFin]
    refine ev_ite (fun h => ev_some (by rw [if_pos h])) (fun h => ?_)
    refine ev_ite (fun h' => ev_some (by rw [if_neg h, if_pos h'])) (fun h' => ev_some (by rw [if_neg h, if_neg h']))
  | succ d ih =>
    intro i m hi h0 h1
    refine ev_succ ?_
    simp only [impl_patternLetters.l0]
    refine ev_pos (by omega) (ev_pos (by omega) (ev_pos (by omega) ?_))
    rw [drop_rd (by omega : i < l.length)]
    have no : ∀ b : Bool, b = true → (rd l (i : Int) < 0 ∨ rd l (i : Int) > m) → Ev (fun k => impl_patternLetters.j1 k l m (rd l (i : Int)) l (l.length : Int) (i : Int) b) (patFin l (patRun (rd l (i : Int) :: l.drop (i + 1)) m)) := by
      intro b hb h
      subst hb
      refine ev_succ ?_
      simp only [impl_patternLetters.j1]
      refine ev_pos trivial (ev_some ?_)
      simp only [patRun]
      by_cases h2 : rd l (i : Int) < 0
      · rw [if_pos h2]; rfl
      · rw [if_neg h2, if_pos (by omega)]; rfl
    refine ev_ite (fun h => no _ rfl (.inl h)) (fun h => ?_)
    by_cases h2 : rd l (i : Int) > m
    · rw [decide_eq_true h2]; exact no _ rfl (.inr h2)
    · rw [decide_eq_false h2]
      refine ev_succ ?_
      simp only [impl_patternLetters.j1, wr1 (show (0 : Int) ≤ (i : Int) by omega) (by omega), wr1 h0 (by omega)]
      refine ev_neg (by simp) ?_
      refine ev_ite (fun h3 => ev_eq (ih (i + 1) (m + 1) (by omega) (by omega) (by omega)) ?_) (fun h3 => ev_eq (ih (i + 1) m (by omega) (by omega) (by omega)) ?_)
      · simp only [patRun]; rw [if_neg h, if_neg h2, if_pos h3]
      · simp only [patRun]; rw [if_neg h, if_neg h2, if_neg h3]
theorem impl_patternLetters_ev (l : List Int) (hn : l.length ≤ 4611686018427387904) : Ev (fun k => impl_patternLetters.f k l) (patL l) := by
  simp only [impl_patternLetters.f]
  exact ev_eq (impl_patternLetters_l0 l hn l.length 0 0 (by omega) (by omega) (by omega)) (by simp [patL, patFin])
theorem impl_IsPattern_ev (l : List Int) (hn : l.length ≤ 4611686018427387904) : Ev (fun k => impl_IsPattern.f k l) (isPat l) := by
  simp only [impl_IsPattern.f]
  exact ev_bind (impl_patternLetters_ev l hn) (ev_some rfl)
/-- the reference's way: no letter above 2 -/
def patS (l : List Int) (r : Option Int) : Bool := match r with
  | none => false
  | some m => decide (m ≤ 3) && decide (1 ≤ (l.length : Int) ∧ (l.length : Int) ≤ 6)
theorem spec_IsPattern_l0 (l : List Int) (hn : l.length ≤ 4611686018427387904) (d : Nat) : ∀ (i : Nat) (m : Int), i + d = l.length → 0 ≤ m → m ≤ 3 →
    Ev (fun k => spec_IsPattern.l0 k l m (i : Int)) (patS l (patRun (l.drop i) m)) := by
  induction d with
  | zero =>
    intro i m hi h0 h1
    refine ev_succ ?_
    simp only [spec_IsPattern.l0, l1In_eq]
    refine ev_neg (by omega) (ev_some ?_)
    rw [List.drop_of_length_le (by omega)]
    simp only [patRun, patS, decide_eq_true h1, Bool.true_and]
  | succ d ih =>
    intro i m hi h0 h1
    refine ev_succ ?_
    simp only [spec_IsPattern.l0]
    refine ev_pos (by omega) (ev_pos (by omega) ?_)
    rw [drop_rd (by omega : i < l.length)]
    have no : ∀ b : Bool, b = true → (rd l (i : Int) < 0 ∨ rd l (i : Int) > m ∨ rd l (i : Int) > 2) → Ev (fun k => spec_IsPattern.j1 k l m (i : Int) b) (patS l (patRun (rd l (i : Int) :: l.drop (i + 1)) m)) := by
      intro b hb h
      subst hb
      refine ev_succ ?_
      simp only [spec_IsPattern.j1]
      refine ev_pos trivial (ev_some ?_)
      simp only [patRun]
      by_cases h2 : rd l (i : Int) < 0
      · rw [if_pos h2]; rfl
      · by_cases h3 : rd l (i : Int) > m
        · rw [if_neg h2, if_pos h3]; rfl
        · rw [if_neg h2, if_neg h3, if_pos (by omega)]
          cases hr : patRun (l.drop (i + 1)) (m + 1) with
          | none => rfl
          | some r =>
            have := (patRun_ge _ _ _ hr).1
            simp only [patS, decide_eq_false (show ¬ r ≤ 3 by omega), Bool.false_and]
    refine ev_ite (fun h => no _ rfl (.inl h)) (fun h => ?_)
    refine ev_ite (fun h2 => no _ rfl (.inr (.inl h2))) (fun h2 => ?_)
    by_cases h4 : rd l (i : Int) > 2
    · rw [decide_eq_true h4]; exact no _ rfl (.inr (.inr h4))
    · rw [decide_eq_false h4]
      refine ev_succ ?_
      simp only [spec_IsPattern.j1, wr1 (show (0 : Int) ≤ (i : Int) by omega) (by omega), wr1 h0 (by omega)]
      refine ev_neg (by simp) (ev_pos (by omega) (ev_pos (by omega) ?_))
      refine ev_ite (fun h3 => ev_eq (ih (i + 1) (m + 1) (by omega) (by omega) (by omega)) ?_) (fun h3 => ev_eq (ih (i + 1) m (by omega) (by omega) (by omega)) ?_)
      · simp only [patRun]; rw [if_neg h, if_neg h2, if_pos h3]
      · simp only [patRun]; rw [if_neg h, if_neg h2, if_neg h3]
theorem patS_eq (l : List Int) : patS l (patRun l 0) = isPat l := by
  unfold isPat patL
  cases hr : patRun l 0 with
  | none => simp [patS]
  | some m =>
    have h := patRun_ge _ _ _ hr
    simp only [patS]
    rw [Bool.eq_iff_iff]
    simp only [Bool.and_eq_true, decide_eq_true_eq]
    by_cases h0 : l = []
    · subst h0
      simp only [patRun, Option.some.injEq] at hr
      simp; omega
    · have hm : 1 ≤ m := by
        cases l with
        | nil => exact absurd rfl h0
        | cons x l =>
          simp only [patRun] at hr
          split at hr
          · cases hr
          · split at hr
            · cases hr
            · rw [if_pos (by omega)] at hr
              have := (patRun_ge _ _ _ hr).1
              omega
      have : 1 ≤ l.length := by cases l with
        | nil => exact absurd rfl h0
        | cons => simp
      by_cases h6 : (l.length : Int) > 6
      · rw [if_pos h6]; omega
      · rw [if_neg h6]
        by_cases h3 : m > 3
        · rw [if_pos h3]; omega
        · rw [if_neg h3]; omega
theorem spec_IsPattern_ev (l : List Int) (hn : l.length ≤ 4611686018427387904) : Ev (fun k => spec_IsPattern.f k l) (isPat l) := by
  simp only [spec_IsPattern.f]
  exact ev_eq (spec_IsPattern_l0 l hn l.length 0 0 (by omega) (by omega) (by omega)) (by rw [List.drop_zero]; exact patS_eq l)

-- SAY: For every list the program's IsPattern answers what the reference's answers, and leaves its argument alone. No conditions beyond the given statement.
theorem FnExactIsPattern : laws_FnExactIsPattern.Pure := by
  intro l hl0 hl1 hwf
  refine Ev.rounds (g := fun k => laws_FnExactIsPattern.f k l) ?_
  simp only [laws_FnExactIsPattern.f]
  refine ev_ite (fun h => ev_some rfl) (fun h => ?_)
  refine ev_bind (toIntS_ev l (by omega)) ?_
  refine ev_bind (spec_IsPattern_ev l (by omega)) ?_
  refine ev_bind (toIntS_ev l (by omega)) ?_
  refine ev_bind (impl_IsPattern_ev l (by omega)) ?_
  refine ev_neg (by simp) ?_
  refine ev_bind (toIntS_ev l (by omega)) ?_
  refine ev_bind (eqIntS_ev l (by omega)) ?_
  exact ev_pos rfl (ev_some rfl)

end Go.Proofs.Ytcaloeiapmnoeaa.Pure

/-! The row's word for a slice's size, under the name by which the row asks for it. -/
namespace Go.Proofs.Ytcaloeiapmnoeaa.PrintWords
open Go.ChangeShapes Go.WideShapes
theorem sized_ints {H : Type} {enc : TypeId × Value → H} {P : Program} {W : World} {base : Nat} {spare : Nat → Bool} {held : Bool} {t e : TypeId} {k : IntKind} {a : Option Addr} {len cap : Nat} {d : DataW H}
    {ps : List MemPlace} {ts : List TypeId} {ds : List (DataW H)} {j : Nat} (hsz : (DataW.weightsEach P ts ds).all (· ≤ reachBytes) = true) (ht : ts[j]? = some t) (hd : ds[j]? = some d) (hu : P.underlying t = some (.slice e))
    (he : P.underlying e = some (.int k)) (hc : P.cellsOf e = 1) {B : Nat} (hB : P.bytesOf e = B) (h : DataW.Trod enc P W base spare held t (.slice a len cap) d ps) : len * B ≤ 140737488351232 :=
  Go.Proofs.YtcaloeiapmnoeaaW.PrintWords.sized_ints hsz ht hd hu he hc hB h
end Go.Proofs.Ytcaloeiapmnoeaa.PrintWords
