/- For every list and number the program's IsSturmianPrefix answers what the reference's answers, and leaves its argument alone. No conditions beyond the given statement. -/
import Derived.Test.YtfgjhhapocbhaaaPFnExactIsSturmianPrefixx5
import Derived.Test.YtfgjhhapocbhaaaWSized
set_option linter.unusedVariables false
set_option linter.unusedSimpArgs false
namespace Go.Proofs.Ytfgjhhapocbhaaa.Pure
open Go.RowKit Go.Proofs.Ytfgjhhapocbhaaa.PFnExactIsSturmianPrefix Go.Proofs.YtfgjhhapocbhaaaW.PrintWords Go.Proofs.YtfgjhhapocbhaaaW.PrintLast

theorem ev_succ {α : Type} {g : Nat → Option α} {r : α} (h : Ev (fun k => g (k + 1)) r) : Ev g r := Ev.step (fun _ => rfl) h
theorem ev_some {α : Type} {r r' : α} (h : r = r') : Ev (fun _ => some r) r' := by subst h; exact Ev.now r
theorem ev_pos {α : Type} {c : Prop} [Decidable c] {g f : Nat → Option α} {r : α} (hc : c) (h : Ev g r) : Ev (fun k => if c then g k else f k) r := by
  simp only [if_pos hc]; exact h
theorem ev_neg {α : Type} {c : Prop} [Decidable c] {g f : Nat → Option α} {r : α} (hc : ¬ c) (h : Ev f r) : Ev (fun k => if c then g k else f k) r := by
  simp only [if_neg hc]; exact h
theorem ev_ite {α : Type} {c : Prop} [Decidable c] {g f : Nat → Option α} {r : α} (h : c → Ev g r) (h' : ¬ c → Ev f r) : Ev (fun k => if c then g k else f k) r := by
  by_cases hc : c
  · exact ev_pos hc (h hc)
  · exact ev_neg hc (h' hc)
theorem ev_bind {α β : Type} {g : Nat → Option α} {f : Nat → α → Option β} {a : α} {r : β} (h : Ev g a) (k : Ev (fun n => f n a) r) : Ev (fun n => (g n).bind (f n)) r := Ev.bind h k
theorem ev_bind0 {α β : Type} {o : Option α} {f : Nat → α → Option β} {a : α} {r : β} (h : o = some a) (k : Ev (fun n => f n a) r) : Ev (fun n => o.bind (f n)) r := by
  subst h; exact k
theorem ev_eq {α : Type} {g : Nat → Option α} {r r' : α} (h : Ev g r) (e : r = r') : Ev g r' := e ▸ h
theorem ev_const {α : Type} {o : Option α} {r : α} (h : o = some r) : Ev (fun _ => o) r := by subst h; exact Ev.now r
theorem wr {n : Int} (h0 : -9223372036854775808 ≤ n) (h1 : n ≤ 9223372036854775807) : wrap64 n = n := by unfold wrap64; omega
theorem wr1 {i : Int} (h0 : 0 ≤ i) (h1 : i ≤ 4611686018427387904) : wrap64 (i + 1) = i + 1 := wr (by omega) (by omega)
theorem wr_nat {n : Nat} (h : n ≤ 4611686018427387904) : wrap64 (n : Int) = n := wr (by omega) (by omega)
theorem rd_nat (l : List Int) (i : Nat) : rd l (i : Int) = l.getD i 0 := by simp [rd]
theorem rd_get {l : List Int} {i : Nat} (h : i < l.length) : rd l (i : Int) = l[i] := by
  simp [rd, List.getD_eq_getElem?_getD, List.getElem?_eq_getElem h]
theorem drop_rd {l : List Int} {i : Nat} (h : i < l.length) : l.drop i = rd l (i : Int) :: l.drop (i + 1) := by
  rw [rd_get h]; exact List.drop_eq_getElem_cons h
theorem rd_mem {l : List Int} {i : Nat} (h : i < l.length) : rd l (i : Int) ∈ l := by rw [rd_get h]; exact List.getElem_mem h


theorem toIntS_l0 (l : List Int) (hn : l.length ≤ 4611686018427387904) (d : Nat) : ∀ (i : Nat) (x : List Int), i + d = l.length → x.length = l.length → (∀ j, j < i → x[j]? = l[j]?) →
    Ev (fun k => laws_toIntS.l0 k l x (i : Int)) l := by
  induction d with
  | zero =>
    intro i x hi hx hj
    refine ev_succ ?_
    simp only [laws_toIntS.l0]
    refine ev_neg (by omega) (ev_some ?_)
    apply List.ext_getElem?
    intro j
    by_cases h : j < i
    · exact hj j h
    · rw [List.getElem?_eq_none (by omega), List.getElem?_eq_none (by omega)]
  | succ d ih =>
    intro i x hi hx hj
    refine ev_succ ?_
    simp only [laws_toIntS.l0, wr1 (show (0 : Int) ≤ (i : Int) by omega) (by omega)]
    refine ev_pos (by omega) (ev_pos (by omega) (ev_pos (by omega) ?_))
    refine ih (i + 1) _ (by omega) (by simp [hx]) ?_
    intro j hj'
    rw [Int.toNat_natCast, rd_get (by omega), List.getElem?_set]
    by_cases e : i = j
    · subst e
      rw [if_pos rfl, if_pos (by omega), List.getElem?_eq_getElem (by omega)]
    · rw [if_neg e]; exact hj j (by omega)
theorem toIntS_ev (l : List Int) (hn : l.length ≤ 35184372088832) : Ev (fun k => laws_toIntS.f k l) l := by
  simp only [laws_toIntS.f]
  refine ev_pos (by omega) (ev_pos (by omega) ?_)
  exact toIntS_l0 l (by omega) l.length 0 _ (by omega) (by simp) (by intro j hj; omega)


theorem eqIntS_l0 (l : List Int) (hn : l.length ≤ 4611686018427387904) (d : Nat) : ∀ (i : Nat), i + d = l.length → Ev (fun k => laws_eqIntS.l0 k l l (i : Int)) true := by
  induction d with
  | zero =>
    intro i hi
    refine ev_succ ?_
    simp only [laws_eqIntS.l0]
    exact ev_neg (by omega) (ev_some rfl)
  | succ d ih =>
    intro i hi
    refine ev_succ ?_
    simp only [laws_eqIntS.l0, wr1 (show (0 : Int) ≤ (i : Int) by omega) (by omega)]
    exact ev_pos (by omega) (ev_pos (by omega) (ev_pos (by omega) (ev_pos trivial (ih (i + 1) (by omega)))))
theorem eqIntS_ev (l : List Int) (hn : l.length ≤ 4611686018427387904) : Ev (fun k => laws_eqIntS.f k l l) true := by
  simp only [laws_eqIntS.f]
  exact ev_pos trivial (eqIntS_l0 l hn l.length 0 (by omega))


theorem handCmp_drop_len (a b : List Int) : ∀ i, i ≤ a.length → i ≤ b.length → (i = a.length ∨ i = b.length) → handCmp (a.drop i) (b.drop i) = if a.length < b.length then -1 else if a.length > b.length then 1 else 0 := by
  intro i h1 h2 h3
  rcases Nat.lt_trichotomy a.length b.length with e | e | e
  · rw [if_pos e]
    rw [List.drop_of_length_le (show a.length ≤ i by omega)]
    rw [drop_rd (show i < b.length by omega)]; rfl
  · rw [if_neg (by omega), if_neg (by omega), List.drop_of_length_le (by omega), List.drop_of_length_le (by omega)]; rfl
  · rw [if_neg (by omega), if_pos e]
    rw [List.drop_of_length_le (show b.length ≤ i by omega)]
    rw [drop_rd (show i < a.length by omega)]; rfl
theorem spec_CompareWords_h0 (a b : List Int) (ha : a.length ≤ 4611686018427387904) (d : Nat) : ∀ (i : Nat), i + d = a.length → i ≤ b.length →
    Ev (fun k => spec_CompareWords.l0 k a b (i : Int)) (handCmp (a.drop i) (b.drop i)) := by
  have stop : ∀ i : Nat, i ≤ a.length → i ≤ b.length → (i = a.length ∨ i = b.length) → Ev (fun k => spec_CompareWords.j1 k a b (i : Int) false) (handCmp (a.drop i) (b.drop i)) := by
    intro i h1 h2 h3
    rw [handCmp_drop_len a b i h1 h2 h3]
    refine ev_succ ?_
    simp only [spec_CompareWords.j1]
    refine ev_neg (by simp) ?_
    refine ev_ite (fun h => ev_some ?_) (fun h => ev_ite (fun h' => ev_some ?_) (fun h' => ev_some ?_))
    · rw [if_pos (by omega)]
    · rw [if_neg (by omega), if_pos (by omega)]
    · rw [if_neg (by omega), if_neg (by omega)]
  induction d with
  | zero =>
    intro i hi hb
    refine ev_succ ?_
    simp only [spec_CompareWords.l0]
    exact ev_neg (by omega) (stop i (by omega) hb (.inl (by omega)))
  | succ d ih =>
    intro i hi hb
    refine ev_succ ?_
    simp only [spec_CompareWords.l0]
    refine ev_pos (by omega) ?_
    by_cases h2 : i < b.length
    · rw [decide_eq_true (show (i : Int) < (b.length : Int) by omega)]
      refine ev_succ ?_
      simp only [spec_CompareWords.j1, wr1 (show (0 : Int) ≤ (i : Int) by omega) (by omega)]
      refine ev_pos trivial (ev_pos (by omega) (ev_pos (by omega) (ev_pos (by omega) ?_)))
      rw [drop_rd (by omega : i < a.length), drop_rd h2]
      refine ev_ite (fun h => ev_some ?_) (fun h => ev_ite (fun h' => ev_some ?_) (fun h' => ev_eq (ih (i + 1) (by omega) (by omega)) ?_))
      · simp only [handCmp, if_pos h]
      · simp only [handCmp, if_neg h, if_pos h']
      · simp only [handCmp, if_neg h, if_neg h']
    · rw [decide_eq_false (show ¬ (i : Int) < (b.length : Int) by omega)]
      exact stop i (by omega) hb (.inr (by omega))
theorem spec_CompareWords_hev (a b : List Int) (ha : a.length ≤ 4611686018427387904) : Ev (fun k => spec_CompareWords.f k a b) (handCmp a b) := by
  simp only [spec_CompareWords.f]
  exact ev_eq (spec_CompareWords_h0 a b ha a.length 0 (by omega) (by omega)) (by simp)
def l8Go (w : List Int) : Bool → List (List Int) → List (List Int)
  | true, [] => []
  | false, [] => [w]
  | p, e :: l => if handCmp w e = 0 then e :: l8Go w true l else if handCmp w e < 0 then (if p = true then e :: l8Go w p l else w :: e :: l8Go w true l) else e :: l8Go w p l
theorem l8Go_true (w : List Int) : ∀ l, l8Go w true l = l
  | [] => rfl
  | e :: l => by simp [l8Go, l8Go_true w l]
theorem l8Go_false (w : List Int) : ∀ l, l8Go w false l = hins handCmp w l
  | [] => rfl
  | e :: l => by
    have h1 := l8Go_true w l
    have h2 := l8Go_false w l
    simp only [l8Go, hins, h1, h2]
    by_cases c : handCmp w e = 0
    · simp [c]
    · by_cases d : handCmp w e < 0
      · simp [d, c]
      · simp [d, c]
theorem rdLL_at_ {l : List (List Int)} {i : Nat} (h : i < l.length) : rd_L1 l (i : Int) = l[i] := by
  simp [rd_L1, List.getD_eq_getElem?_getD, List.getElem?_eq_getElem h]
theorem spec_l8Put_l0 (w : List Int) (l : List (List Int)) (hw : w.length ≤ 1000000) (hn : l.length ≤ 1000000) (d : Nat) : ∀ (i : Nat) (acc : List (List Int)) (p : Bool), i + d = l.length → acc.length ≤ 2 * i + 2 →
    Ev (fun k => spec_l8Put.l0 k l w acc p (i : Int)) (acc ++ l8Go w p (l.drop i)) := by
  induction d with
  | zero =>
    intro i acc p hi ha
    refine ev_succ ?_
    simp only [spec_l8Put.l0]
    refine ev_neg (by omega) ?_
    rw [List.drop_of_length_le (by omega)]
    cases p with
    | true => exact ev_pos rfl (ev_some (by simp [l8Go]))
    | false => exact ev_neg (by simp) (ev_bind0 rfl (ev_pos (by simp; omega) (ev_pos (by omega) (ev_some (by simp [l8Go])))))
  | succ d ih =>
    intro i acc p hi ha
    have hs : wrap64 ((i : Int) + 1) = ((i + 1 : Nat) : Int) := by rw [wr1 (by omega) (by omega)]; rfl
    have hd : l.drop i = l[i] :: l.drop (i + 1) := List.drop_eq_getElem_cons (by omega)
    refine ev_succ ?_
    simp only [spec_l8Put.l0, hs]
    refine ev_pos (by omega) (ev_pos (by omega) ?_)
    rw [rdLL_at_ (by omega : i < l.length)]
    refine ev_bind (spec_CompareWords_hev w l[i] (by omega)) ?_
    refine ev_ite (fun h => ?_) (fun h => ?_)
    · refine ev_neg (by omega) (ev_pos (by omega) ?_)
      refine ev_eq (ih (i + 1) _ true (by omega) (by simp; omega)) ?_
      rw [hd]; cases p <;> simp [l8Go, h]
    · refine ev_ite (fun h2 => ?_) (fun h2 => ?_)
      · cases p with
        | true =>
          refine ev_pos rfl (ev_pos (by omega) ?_)
          refine ev_eq (ih (i + 1) _ true (by omega) (by simp; omega)) ?_
          rw [hd]; simp [l8Go, h, h2]
        | false =>
          refine ev_neg (by simp) (ev_bind0 rfl (ev_pos (by simp; omega) (ev_pos (by omega) (ev_bind0 rfl (ev_pos (by simp; omega) ?_)))))
          refine ev_eq (ih (i + 1) _ true (by omega) (by simp; omega)) ?_
          rw [hd]; simp [l8Go, h, h2]
      · refine ev_pos (by omega) ?_
        refine ev_eq (ih (i + 1) _ p (by omega) (by simp; omega)) ?_
        rw [hd]; cases p <;> simp [l8Go, h, h2]
theorem spec_l8Put_ev (w : List Int) (l : List (List Int)) (hw : w.length ≤ 1000000) (hn : l.length ≤ 1000000) : Ev (fun k => spec_l8Put.f k l w) (hins handCmp w l) := by
  have h := spec_l8Put_l0 w l hw hn l.length 0 [] false (by omega) (by simp)
  refine ev_eq h ?_
  simp [l8Go_false]
theorem hins_len (c : List Int → List Int → Int) (x : List Int) : ∀ l, (hins c x l).length ≤ l.length + 1
  | [] => by simp [hins]
  | y :: l => by
    have := hins_len c x l
    unfold hins
    split
    · simp
    · split
      · simp
      · simp; omega
/-- the parts of n letters, from place i on, d of them -/
def partsFrom (w : List Int) (n : Nat) : Nat → Nat → List (List Int)
  | 0, _ => []
  | d + 1, i => ((w.take (i + n)).drop i) :: partsFrom w n d (i + 1)
theorem partsFrom_len (w : List Int) (n : Nat) : ∀ d i, (partsFrom w n d i).length = d
  | 0, _ => rfl
  | d + 1, i => by simp [partsFrom, partsFrom_len w n d (i + 1)]
theorem partsFrom_row (w : List Int) (n : Nat) : ∀ d i, ∀ x ∈ partsFrom w n d i, x.length ≤ w.length
  | 0, _, x, h => by simp [partsFrom] at h
  | d + 1, i, x, h => by
    rcases List.mem_cons.1 h with rfl | h
    · simp only [List.length_drop, List.length_take]; omega
    · exact partsFrom_row w n d (i + 1) x h
theorem foldl_strict {c : List Int → List Int → Int} (h : HOrd c) : ∀ (L acc : List (List Int)), acc.Pairwise (fun a b => c a b < 0) → (L.foldl (fun a x => hins c x a) acc).Pairwise (fun a b => c a b < 0) ∧ ∀ z, z ∈ L.foldl (fun a x => hins c x a) acc ↔ z ∈ L ∨ z ∈ acc
  | [], acc, ha => ⟨ha, fun z => by simp⟩
  | x :: L, acc, ha => by
    have ih := foldl_strict h L (hins c x acc) (hins_strict h x acc ha)
    refine ⟨ih.1, fun z => ?_⟩
    show z ∈ L.foldl _ (hins c x acc) ↔ _
    rw [ih.2 z, hins_mem h, List.mem_cons]
    constructor
    · rintro (h | h | h)
      · exact .inl (.inr h)
      · exact .inl (.inl h)
      · exact .inr h
    · rintro ((h | h) | h)
      · exact .inr (.inl h)
      · exact .inl h
      · exact .inr (.inr h)
theorem foldl_uniq {c : List Int → List Int → Int} (h : HOrd c) (L : List (List Int)) : L.foldl (fun a x => hins c x a) [] = huniq c L :=
  hstrict_ext h _ _ (foldl_strict h L [] (by simp)).1 (huniq_strict h L) (fun z => by rw [(foldl_strict h L [] (by simp)).2 z, huniq_mem h]; simp)


def areL (m : Int) (l : List Int) : Bool := l.all fun x => decide (0 ≤ x ∧ x < m)
theorem impl_areLetters_l0 (l : List Int) (m : Int) (hn : l.length ≤ 4611686018427387904) (d : Nat) : ∀ (i : Nat), i + d = l.length →
    Ev (fun k => impl_areLetters.l0 k m l (l.length : Int) (i : Int)) (areL m (l.drop i)) := by
  induction d with
  | zero =>
    intro i hi
    refine ev_succ ?_
    simp only [impl_areLetters.l0]
    refine ev_neg (by omega) (ev_some ?_)
    rw [List.drop_of_length_le (by omega)]; rfl
  | succ d ih =>
    intro i hi
    refine ev_succ ?_
    simp only [impl_areLetters.l0, wr1 (show (0 : Int) ≤ (i : Int) by omega) (by omega)]
    refine ev_pos (by omega) (ev_pos (by omega) (ev_pos (by omega) ?_))
    rw [drop_rd (by omega : i < l.length)]
    refine ev_ite (fun h => ev_some ?_) (fun h => ev_ite (fun h' => ev_some ?_) (fun h' => ev_eq (ih (i + 1) (by omega)) ?_))
    · simp only [areL, List.all_cons, decide_eq_false (show ¬ (0 ≤ rd l (i : Int) ∧ rd l (i : Int) < m) by omega), Bool.false_and]
    · simp only [areL, List.all_cons, decide_eq_false (show ¬ (0 ≤ rd l (i : Int) ∧ rd l (i : Int) < m) by omega), Bool.false_and]
    · simp only [areL, List.all_cons, decide_eq_true (show (0 ≤ rd l (i : Int) ∧ rd l (i : Int) < m) by omega), Bool.true_and]
theorem impl_areLetters_ev (l : List Int) (m : Int) (hn : l.length ≤ 4611686018427387904) : Ev (fun k => impl_areLetters.f k l m) (areL m l) := by
  simp only [impl_areLetters.f]
  exact impl_areLetters_l0 l m hn l.length 0 (by omega)


theorem l1In_eq (a b c : Int) : spec_l1In.f a b c = some (decide (b ≤ a ∧ a ≤ c)) := by
  unfold spec_l1In.f
  by_cases h : a ≥ b
  · rw [if_pos h]; simp [show b ≤ a from h]
  · rw [if_neg h]; simp [show ¬ b ≤ a from h]


theorem spec_IsWord_l0 (l : List Int) (m : Int) (hn : l.length ≤ 4611686018427387904) (d : Nat) : ∀ (i : Nat), i + d = l.length →
    Ev (fun k => spec_IsWord.l0 k l m (i : Int)) (areL m (l.drop i) && decide (1 ≤ m ∧ m ≤ 16) && decide ((l.length : Int) ≤ 400)) := by
  induction d with
  | zero =>
    intro i hi
    refine ev_succ ?_
    simp only [spec_IsWord.l0, l1In_eq, Option.bind_some]
    refine ev_neg (by omega) ?_
    rw [List.drop_of_length_le (by omega)]
    refine ev_ite (fun h => ev_some ?_) (fun h => ev_some ?_)
    · rw [h]; rfl
    · rw [Bool.not_eq_true] at h; rw [h]; rfl
  | succ d ih =>
    intro i hi
    refine ev_succ ?_
    simp only [spec_IsWord.l0, wr1 (show (0 : Int) ≤ (i : Int) by omega) (by omega)]
    refine ev_pos (by omega) (ev_pos (by omega) ?_)
    rw [drop_rd (by omega : i < l.length)]
    refine ev_ite (fun h => ev_some ?_) (fun h => ev_ite (fun h' => ev_some ?_) (fun h' => ev_eq (ih (i + 1) (by omega)) ?_))
    · simp only [areL, List.all_cons, decide_eq_false (show ¬ (0 ≤ rd l (i : Int) ∧ rd l (i : Int) < m) by omega), Bool.false_and]
    · simp only [areL, List.all_cons, decide_eq_false (show ¬ (0 ≤ rd l (i : Int) ∧ rd l (i : Int) < m) by omega), Bool.false_and]
    · simp only [areL, List.all_cons, decide_eq_true (show (0 ≤ rd l (i : Int) ∧ rd l (i : Int) < m) by omega), Bool.true_and]
theorem spec_IsWord_ev (l : List Int) (m : Int) (hn : l.length ≤ 4611686018427387904) : Ev (fun k => spec_IsWord.f k l m) (areL m l && decide (1 ≤ m ∧ m ≤ 16) && decide ((l.length : Int) ≤ 400)) := by
  simp only [spec_IsWord.f]
  exact spec_IsWord_l0 l m hn l.length 0 (by omega)


theorem cut_nat (w : List Int) (i n : Nat) (h : i + n ≤ w.length) (hw : w.length ≤ 1000000) : (w.take (wrap64 ((i : Int) + (n : Int))).toNat).drop ((i : Int)).toNat = (w.take (i + n)).drop i := by
  rw [wr (by omega) (by omega)]
  rw [show ((i : Int) + (n : Int)).toNat = i + n by omega, Int.toNat_natCast]
theorem spec_FactorsOf_l0 (w : List Int) (n : Nat) (hw : w.length ≤ 128) (hn : n ≤ 40) (d : Nat) : ∀ (i : Nat) (acc : List (List Int)), (i + d + n = w.length + 1 ∨ (d = 0 ∧ w.length < i + n ∧ i = 0)) → acc.length ≤ i → Ev (fun k => spec_FactorsOf.l0 k w (n : Int) acc (i : Int)) ((partsFrom w n d i).foldl (fun a x => hins handCmp x a) acc, true) := by
  induction d with
  | zero =>
    intro i acc hi ha
    refine ev_succ ?_
    simp only [spec_FactorsOf.l0]
    have e : wrap64 ((i : Int) + (n : Int)) = (i : Int) + (n : Int) := wr (by omega) (by omega)
    rw [e]
    exact ev_neg (by omega) (ev_some rfl)
  | succ d ih =>
    intro i acc hi ha
    have e : wrap64 ((i : Int) + (n : Int)) = (i : Int) + (n : Int) := wr (by omega) (by omega)
    have hs : wrap64 ((i : Int) + 1) = ((i + 1 : Nat) : Int) := by rw [wr1 (by omega) (by omega)]; rfl
    have hc := cut_nat w i n (by omega) (by omega)
    rw [e] at hc
    refine ev_succ ?_
    simp only [spec_FactorsOf.l0, e, hs]
    refine ev_pos (by omega) (ev_pos (by omega) (ev_pos (by omega) ?_))
    rw [hc]
    have hl := hins_len handCmp ((w.take (i + n)).drop i) acc
    exact ev_bind (spec_l8Put_ev _ acc (by simp only [List.length_drop, List.length_take]; omega) (by omega)) (ih (i + 1) _ (by omega) (by omega))
/-- how many different parts of n letters -/
def manyParts (w : List Int) (n : Nat) : Nat := (huniq handCmp (partsFrom w n (w.length + 1 - n) 0)).length
theorem spec_CountFactors_ev (w : List Int) (n : Nat) (hw : w.length ≤ 128) (hn : n ≤ 40) (hA : areL 16 w = true) : Ev (fun k => spec_CountFactors.f k w (n : Int)) ((manyParts w n : Nat) : Int) := by
  have h := spec_FactorsOf_l0 w n hw hn (w.length + 1 - n) 0 [] (by omega) (by simp)
  rw [foldl_uniq handCmp_ord] at h
  simp only [spec_CountFactors.f, spec_FactorsOf.f]
  refine ev_bind (a := (huniq handCmp (partsFrom w n (w.length + 1 - n) 0), true)) ?_ (ev_pos rfl (ev_some rfl))
  refine ev_bind0 rfl (ev_bind (spec_IsWord_ev w 16 (by omega)) ?_)
  refine ev_pos (by simp [hA]; omega) (ev_neg (by omega) (ev_bind0 (l1In_eq _ _ _) (ev_succ ?_)))
  simp only [spec_FactorsOf.j0]
  refine ev_neg (by simp; omega) ?_
  exact h
theorem impl_parts_l0 (w : List Int) (n : Nat) (hw : w.length ≤ 128) (hn : n ≤ 40) (d : Nat) : ∀ (i : Nat) (acc : List (List Int)), (i + d + n = w.length + 1 ∨ (d = 0 ∧ w.length < i + n ∧ i = 0)) → acc.length ≤ i → Ev (fun k => impl_parts.l0 k w (n : Int) acc (i : Int)) (acc ++ partsFrom w n d i) := by
  induction d with
  | zero =>
    intro i acc hi ha
    refine ev_succ ?_
    simp only [impl_parts.l0]
    have e : wrap64 ((i : Int) + (n : Int)) = (i : Int) + (n : Int) := wr (by omega) (by omega)
    rw [e]
    exact ev_neg (by omega) (ev_some (by simp [partsFrom]))
  | succ d ih =>
    intro i acc hi ha
    have e : wrap64 ((i : Int) + (n : Int)) = (i : Int) + (n : Int) := wr (by omega) (by omega)
    have hs : wrap64 ((i : Int) + 1) = ((i + 1 : Nat) : Int) := by rw [wr1 (by omega) (by omega)]; rfl
    have hc := cut_nat w i n (by omega) (by omega)
    rw [e] at hc
    refine ev_succ ?_
    simp only [impl_parts.l0, e, hs]
    refine ev_pos (by omega) (ev_bind0 rfl (ev_pos (by omega) (ev_pos (by omega) ?_)))
    rw [hc]
    have hl : ((w.take (i + n)).drop i).length ≤ 128 := by simp only [List.length_drop, List.length_take]; omega
    refine ev_pos (by simp only [List.length_nil]; omega) (ev_pos (by omega) ?_)
    refine ev_eq (ih (i + 1) _ (by omega) (by simp; omega)) ?_
    simp [partsFrom]
theorem impl_parts_ev (w : List Int) (n : Nat) (hw : w.length ≤ 128) (hn : n ≤ 40) : Ev (fun k => impl_parts.f k w (n : Int)) (huniq handCmp (partsFrom w n (w.length + 1 - n) 0)) := by
  have h := impl_parts_l0 w n hw hn (w.length + 1 - n) 0 [] (by omega) (by simp)
  simp only [impl_parts.f]
  refine ev_bind (by simpa using h) ?_
  unfold hwrap
  refine ev_pos ?_ (ev_some rfl)
  simp only [hok, Bool.and_eq_true, decide_eq_true_eq, List.all_eq_true]
  refine ⟨by rw [partsFrom_len]; omega, fun x hx => ?_⟩
  have := partsFrom_row _ _ _ _ x hx
  omega


theorem areL_mono {l : List Int} {a b : Int} (h : a ≤ b) (hl : areL a l = true) : areL b l = true := by
  simp only [areL, List.all_eq_true, decide_eq_true_eq] at hl ⊢
  intro x hx
  have := hl x hx
  omega
theorem impl_IsWord16_ev (l : List Int) (hl : l.length ≤ 400) : Ev (fun k => impl_IsWord.f k l 16) (areL 16 l) := by
  simp only [impl_IsWord.f]
  exact ev_pos (by omega) (ev_pos (by omega) (ev_pos (by omega) (ev_bind (impl_areLetters_ev l 16 (by omega)) (ev_some rfl))))
theorem impl_isShort_ev (l : List Int) (m : Int) (hl : l.length ≤ 400) (hm : (l.length : Int) ≤ m) : Ev (fun k => impl_isShort.f k l m) (areL 16 l) := by
  simp only [impl_isShort.f]
  exact ev_pos hm (ev_bind (impl_IsWord16_ev l hl) (ev_some rfl))


-- SAY: For every list and number the program's IsSturmianPrefix answers what the reference's answers, and leaves its argument alone. No conditions beyond the given statement.
def stG (w : List Int) : Nat → Nat → Bool
  | 0, _ => true
  | d + 1, i => if manyParts w i = i + 1 then stG w d (i + 1) else false
def cxL (w : List Int) : Nat → Nat → List Int
  | 0, _ => []
  | d + 1, i => ((manyParts w i : Nat) : Int) :: cxL w d (i + 1)
theorem cxL_len (w : List Int) : ∀ d i, (cxL w d i).length = d
  | 0, _ => rfl
  | d + 1, i => by simp [cxL, cxL_len w d (i + 1)]
theorem cxL_get (w : List Int) : ∀ d i j, j < d → (cxL w d i)[j]? = some ((manyParts w (i + j) : Nat) : Int)
  | d + 1, i, 0, _ => rfl
  | d + 1, i, j + 1, h => by
    have := cxL_get w d (i + 1) j (by omega)
    rw [show i + 1 + j = i + (j + 1) by omega] at this
    simpa [cxL] using this
theorem spec_IsSt_l0 (w : List Int) (n : Nat) (hw : w.length ≤ 128) (hn : n ≤ 20) (hA : areL 16 w = true) (d : Nat) : ∀ i : Nat, i + d = n + 1 → Ev (fun k => spec_IsSturmianPrefix.l0 k w (n : Int) (i : Int)) (stG w d i) := by
  induction d with
  | zero =>
    intro i hi
    refine ev_succ ?_
    simp only [spec_IsSturmianPrefix.l0]
    exact ev_neg (by omega) (ev_some rfl)
  | succ d ih =>
    intro i hi
    have hs : wrap64 ((i : Int) + 1) = ((i + 1 : Nat) : Int) := by rw [wr1 (by omega) (by omega)]; rfl
    refine ev_succ ?_
    simp only [spec_IsSturmianPrefix.l0, hs]
    refine ev_pos (by omega) (ev_bind (spec_CountFactors_ev w i hw (by omega) hA) ?_)
    refine ev_ite (fun h => ?_) (fun h => ?_)
    · refine ev_eq (ih (i + 1) (by omega)) ?_
      rw [stG, if_pos (by omega)]
    · refine ev_some ?_
      rw [stG, if_neg (by omega)]
theorem impl_Cx_l0 (w : List Int) (n : Nat) (hw : w.length ≤ 128) (hn : n ≤ 20) (d : Nat) : ∀ (i : Nat) (acc : List Int), i + d = n + 1 → acc.length = i → Ev (fun k => impl_ComplexityOf.l0 k w acc ((n + 1 : Nat) : Int) (i : Int)) (acc ++ cxL w d i) := by
  induction d with
  | zero =>
    intro i acc hi ha
    refine ev_succ ?_
    simp only [impl_ComplexityOf.l0]
    exact ev_neg (by omega) (ev_some (by simp [cxL]))
  | succ d ih =>
    intro i acc hi ha
    have hs : wrap64 ((i : Int) + 1) = ((i + 1 : Nat) : Int) := by rw [wr1 (by omega) (by omega)]; rfl
    refine ev_succ ?_
    simp only [impl_ComplexityOf.l0, hs]
    refine ev_pos (by omega) (ev_bind (impl_parts_ev w i hw (by omega)) (ev_pos (by omega) ?_))
    refine ev_eq (ih (i + 1) _ (by omega) (by simp; omega)) ?_
    simp [cxL, manyParts]
theorem impl_IsSt_l0 (w : List Int) (n : Nat) (hn : n ≤ 20) (d : Nat) : ∀ i : Nat, i + d = n + 1 → Ev (fun k => impl_IsSturmianPrefix.l0 k (cxL w (n + 1) 0) ((cxL w (n + 1) 0).length : Int) (i : Int)) (stG w d i) := by
  have hl := cxL_len w (n + 1) 0
  induction d with
  | zero =>
    intro i hi
    refine ev_succ ?_
    simp only [impl_IsSturmianPrefix.l0]
    exact ev_neg (by omega) (ev_some rfl)
  | succ d ih =>
    intro i hi
    have hs : wrap64 ((i : Int) + 1) = ((i + 1 : Nat) : Int) := by rw [wr1 (by omega) (by omega)]; rfl
    have hg := cxL_get w (n + 1) 0 i (by omega)
    have hr : rd (cxL w (n + 1) 0) (i : Int) = ((manyParts w i : Nat) : Int) := by
      rw [rd_nat, List.getD_eq_getElem?_getD, hg, Nat.zero_add]; rfl
    refine ev_succ ?_
    simp only [impl_IsSturmianPrefix.l0, hs, hr]
    refine ev_pos (by omega) (ev_pos (by omega) (ev_pos (by omega) ?_))
    refine ev_ite (fun h => ?_) (fun h => ?_)
    · refine ev_eq (ih (i + 1) (by omega)) ?_
      rw [stG, if_pos (by omega)]
    · refine ev_some ?_
      rw [stG, if_neg (by omega)]
def stR (w : List Int) (n : Int) : Bool := if areL 2 w = true ∧ 0 ≤ n ∧ n ≤ 20 ∧ w.length ≤ 128 then stG w (n.toNat + 1) 0 else false
theorem spec_IsSt_ev (w : List Int) (n : Int) (hw : w.length ≤ 1048576) : Ev (fun k => spec_IsSturmianPrefix.f k w n) (stR w n) := by
  simp only [spec_IsSturmianPrefix.f]
  refine ev_bind (spec_IsWord_ev w 2 (by omega)) ?_
  refine ev_ite (fun h => ?_) (fun h => ?_)
  · simp only [Bool.and_eq_true, decide_eq_true_eq] at h
    refine ev_bind0 (l1In_eq _ _ _) (ev_ite (fun h2 => ?_) (fun h2 => ?_))
    · simp only [decide_eq_true_eq] at h2
      refine ev_succ ?_
      simp only [spec_IsSturmianPrefix.j0]
      refine ev_ite (fun h3 => ev_some ?_) (fun h3 => ?_)
      · simp only [decide_eq_true_eq] at h3
        unfold stR
        rw [if_neg (by omega)]
      · simp only [decide_eq_true_eq] at h3
        obtain ⟨m, rfl⟩ := Int.eq_ofNat_of_zero_le h2.1
        refine ev_eq (spec_IsSt_l0 w m (by omega) (by omega) (areL_mono (by omega) h.1.1) (m + 1) 0 (by omega)) ?_
        unfold stR
        rw [if_pos ⟨h.1.1, h2.1, h2.2, by omega⟩]
        rfl
    · simp only [decide_eq_true_eq] at h2
      refine ev_succ ?_
      simp only [spec_IsSturmianPrefix.j0]
      refine ev_pos trivial (ev_some ?_)
      unfold stR
      rw [if_neg (by omega)]
  · simp only [Bool.and_eq_true, decide_eq_true_eq] at h
    refine ev_succ ?_
    simp only [spec_IsSturmianPrefix.j0]
    refine ev_pos trivial (ev_some ?_)
    unfold stR
    rw [if_neg (fun h4 => h ⟨⟨h4.1, by omega⟩, by omega⟩)]
theorem impl_IsSt_ev (w : List Int) (n : Int) (hw : w.length ≤ 1048576) : Ev (fun k => impl_IsSturmianPrefix.f k w n) (stR w n) := by
  have no : ¬ (areL 2 w = true ∧ 0 ≤ n ∧ n ≤ 20 ∧ w.length ≤ 128) → Ev (fun k => impl_IsSturmianPrefix.j0 k w n true) (stR w n) := by
    intro h
    refine ev_succ ?_
    simp only [impl_IsSturmianPrefix.j0]
    refine ev_pos trivial (ev_some ?_)
    unfold stR
    rw [if_neg h]
  simp only [impl_IsSturmianPrefix.f]
  refine ev_bind (impl_areLetters_ev w 2 (by omega)) ?_
  refine ev_ite (fun h => ?_) (fun h => no (fun h4 => h h4.1))
  refine ev_ite (fun h1 => no (by omega)) (fun h1 => ?_)
  refine ev_ite (fun h2 => no (by omega)) (fun h2 => ?_)
  by_cases h3 : n > 20
  · rw [decide_eq_true h3]
    exact no (by omega)
  · rw [decide_eq_false h3]
    obtain ⟨m, rfl⟩ := Int.eq_ofNat_of_zero_le (show 0 ≤ n by omega)
    refine ev_succ ?_
    simp only [impl_IsSturmianPrefix.j0]
    refine ev_neg (by simp) (ev_bind (a := cxL w (m + 1) 0) ?_ ?_)
    · simp only [impl_ComplexityOf.f]
      refine ev_bind0 rfl (ev_bind (impl_isShort_ev w 128 (by omega) (by omega)) (ev_pos (areL_mono (by omega) h) (ev_neg (by omega) ?_)))
      rw [decide_eq_false (show ¬ (m : Int) > 40 by omega)]
      refine ev_succ ?_
      simp only [impl_ComplexityOf.j0]
      refine ev_neg (by simp) ?_
      have hs : wrap64 ((m : Int) + 1) = ((m + 1 : Nat) : Int) := by rw [wr1 (by omega) (by omega)]; rfl
      rw [hs]
      refine ev_eq (impl_Cx_l0 w m (by omega) (by omega) (m + 1) 0 [] (by omega) rfl) (by simp)
    · refine ev_eq (impl_IsSt_l0 w m (by omega) (m + 1) 0 (by omega)) ?_
      unfold stR
      rw [if_pos ⟨h, by omega, by omega, by omega⟩]
      rfl
theorem FnExactIsSturmianPrefix : laws_FnExactIsSturmianPrefix.Pure := by
  intro l a hl0 hl1 hwf _
  refine Ev.rounds (g := fun k => laws_FnExactIsSturmianPrefix.f k l a) ?_
  simp only [laws_FnExactIsSturmianPrefix.f]
  refine ev_ite (fun h => ev_some rfl) (fun h => ?_)
  refine ev_bind (toIntS_ev l (by omega)) ?_
  refine ev_bind (spec_IsSt_ev l a (by omega)) ?_
  refine ev_bind (toIntS_ev l (by omega)) ?_
  refine ev_bind (impl_IsSt_ev l a (by omega)) ?_
  refine ev_neg (by simp) ?_
  refine ev_bind (toIntS_ev l (by omega)) ?_
  refine ev_bind (eqIntS_ev l (by omega)) ?_
  exact ev_pos rfl (ev_some rfl)


end Go.Proofs.Ytfgjhhapocbhaaa.Pure

/-! The row's word for a slice's size, under the name by which the row asks for it. -/
namespace Go.Proofs.Ytfgjhhapocbhaaa.PrintWords
open Go.ChangeShapes Go.WideShapes
theorem sized_ints {H : Type} {enc : TypeId × Value → H} {P : Program} {W : World} {base : Nat} {spare : Nat → Bool} {held : Bool} {t e : TypeId} {k : IntKind} {a : Option Addr} {len cap : Nat} {d : DataW H}
    {ps : List MemPlace} {ts : List TypeId} {ds : List (DataW H)} {j : Nat} (hsz : (DataW.weightsEach P ts ds).all (· ≤ reachBytes) = true) (ht : ts[j]? = some t) (hd : ds[j]? = some d) (hu : P.underlying t = some (.slice e))
    (he : P.underlying e = some (.int k)) (hc : P.cellsOf e = 1) {B : Nat} (hB : P.bytesOf e = B) (h : DataW.Trod enc P W base spare held t (.slice a len cap) d ps) : len * B ≤ 140737488351232 :=
  Go.Proofs.YtfgjhhapocbhaaaW.PrintWords.sized_ints hsz ht hd hu he hc hB h
end Go.Proofs.Ytfgjhhapocbhaaa.PrintWords
