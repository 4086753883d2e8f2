/- For every list the program's IsRich answers what the reference's answers, and leaves its argument alone. No conditions beyond the given statement. -/
import Derived.Test.YtfgjhhapocbhaaaPFnExactIsRichx6
import Derived.Test.YtfgjhhapocbhaaaWSized
set_option linter.unusedVariables false
set_option linter.unusedSimpArgs false
namespace Go.Proofs.Ytfgjhhapocbhaaa.Pure
open Go.RowKit Go.Proofs.Ytfgjhhapocbhaaa.PFnExactIsRich Go.Proofs.YtfgjhhapocbhaaaW.PrintWords Go.Proofs.YtfgjhhapocbhaaaW.PrintLast

theorem ev_succ {α : Type} {g : Nat → Option α} {r : α} (h : Ev (fun k => g (k + 1)) r) : Ev g r := Ev.step (fun _ => rfl) h
theorem ev_some {α : Type} {r r' : α} (h : r = r') : Ev (fun _ => some r) r' := by subst h; exact Ev.now r
theorem ev_pos {α : Type} {c : Prop} [Decidable c] {g f : Nat → Option α} {r : α} (hc : c) (h : Ev g r) : Ev (fun k => if c then g k else f k) r := by
  simp only [if_pos hc]; exact h
theorem ev_neg {α : Type} {c : Prop} [Decidable c] {g f : Nat → Option α} {r : α} (hc : ¬ c) (h : Ev f r) : Ev (fun k => if c then g k else f k) r := by
  simp only [if_neg hc]; exact h
theorem ev_ite {α : Type} {c : Prop} [Decidable c] {g f : Nat → Option α} {r : α} (h : c → Ev g r) (h' : ¬ c → Ev f r) : Ev (fun k => if c then g k else f k) r := by
  by_cases hc : c
  · exact ev_pos hc (h hc)
  · exact ev_neg hc (h' hc)
theorem ev_bind {α β : Type} {g : Nat → Option α} {f : Nat → α → Option β} {a : α} {r : β} (h : Ev g a) (k : Ev (fun n => f n a) r) : Ev (fun n => (g n).bind (f n)) r := Ev.bind h k
theorem ev_bind0 {α β : Type} {o : Option α} {f : Nat → α → Option β} {a : α} {r : β} (h : o = some a) (k : Ev (fun n => f n a) r) : Ev (fun n => o.bind (f n)) r := by
  subst h; exact k
theorem ev_eq {α : Type} {g : Nat → Option α} {r r' : α} (h : Ev g r) (e : r = r') : Ev g r' := e ▸ h
theorem ev_const {α : Type} {o : Option α} {r : α} (h : o = some r) : Ev (fun _ => o) r := by subst h; exact Ev.now r
theorem wr {n : Int} (h0 : -9223372036854775808 ≤ n) (h1 : n ≤ 9223372036854775807) : wrap64 n = n := by unfold wrap64; omega
theorem wr1 {i : Int} (h0 : 0 ≤ i) (h1 : i ≤ 4611686018427387904) : wrap64 (i + 1) = i + 1 := wr (by omega) (by omega)
theorem wr_nat {n : Nat} (h : n ≤ 4611686018427387904) : wrap64 (n : Int) = n := wr (by omega) (by omega)
theorem rd_nat (l : List Int) (i : Nat) : rd l (i : Int) = l.getD i 0 := by simp [rd]
theorem rd_get {l : List Int} {i : Nat} (h : i < l.length) : rd l (i : Int) = l[i] := by
  simp [rd, List.getD_eq_getElem?_getD, List.getElem?_eq_getElem h]
theorem drop_rd {l : List Int} {i : Nat} (h : i < l.length) : l.drop i = rd l (i : Int) :: l.drop (i + 1) := by
  rw [rd_get h]; exact List.drop_eq_getElem_cons h
theorem rd_mem {l : List Int} {i : Nat} (h : i < l.length) : rd l (i : Int) ∈ l := by rw [rd_get h]; exact List.getElem_mem h


theorem toIntS_l0 (l : List Int) (hn : l.length ≤ 4611686018427387904) (d : Nat) : ∀ (i : Nat) (x : List Int), i + d = l.length → x.length = l.length → (∀ j, j < i → x[j]? = l[j]?) →
    Ev (fun k => laws_toIntS.l0 k l x (i : Int)) l := by
  induction d with
  | zero =>
    intro i x hi hx hj
    refine ev_succ ?_
    simp only [laws_toIntS.l0]
    refine ev_neg (by omega) (ev_some ?_)
    apply List.ext_getElem?
    intro j
    by_cases h : j < i
    · exact hj j h
    · rw [List.getElem?_eq_none (by omega), List.getElem?_eq_none (by omega)]
  | succ d ih =>
    intro i x hi hx hj
    refine ev_succ ?_
    simp only [laws_toIntS.l0, wr1 (show (0 : Int) ≤ (i : Int) by omega) (by omega)]
    refine ev_pos (by omega) (ev_pos (by omega) (ev_pos (by omega) ?_))
    refine ih (i + 1) _ (by omega) (by simp [hx]) ?_
    intro j hj'
    rw [Int.toNat_natCast, rd_get (by omega), List.getElem?_set]
    by_cases e : i = j
    · subst e
      rw [if_pos rfl, if_pos (by omega), List.getElem?_eq_getElem (by omega)]
    · rw [if_neg e]; exact hj j (by omega)
theorem toIntS_ev (l : List Int) (hn : l.length ≤ 35184372088832) : Ev (fun k => laws_toIntS.f k l) l := by
  simp only [laws_toIntS.f]
  refine ev_pos (by omega) (ev_pos (by omega) ?_)
  exact toIntS_l0 l (by omega) l.length 0 _ (by omega) (by simp) (by intro j hj; omega)


theorem eqIntS_l0 (l : List Int) (hn : l.length ≤ 4611686018427387904) (d : Nat) : ∀ (i : Nat), i + d = l.length → Ev (fun k => laws_eqIntS.l0 k l l (i : Int)) true := by
  induction d with
  | zero =>
    intro i hi
    refine ev_succ ?_
    simp only [laws_eqIntS.l0]
    exact ev_neg (by omega) (ev_some rfl)
  | succ d ih =>
    intro i hi
    refine ev_succ ?_
    simp only [laws_eqIntS.l0, wr1 (show (0 : Int) ≤ (i : Int) by omega) (by omega)]
    exact ev_pos (by omega) (ev_pos (by omega) (ev_pos (by omega) (ev_pos trivial (ih (i + 1) (by omega)))))
theorem eqIntS_ev (l : List Int) (hn : l.length ≤ 4611686018427387904) : Ev (fun k => laws_eqIntS.f k l l) true := by
  simp only [laws_eqIntS.f]
  exact ev_pos trivial (eqIntS_l0 l hn l.length 0 (by omega))


theorem handCmp_drop_len (a b : List Int) : ∀ i, i ≤ a.length → i ≤ b.length → (i = a.length ∨ i = b.length) → handCmp (a.drop i) (b.drop i) = if a.length < b.length then -1 else if a.length > b.length then 1 else 0 := by
  intro i h1 h2 h3
  rcases Nat.lt_trichotomy a.length b.length with e | e | e
  · rw [if_pos e]
    rw [List.drop_of_length_le (show a.length ≤ i by omega)]
    rw [drop_rd (show i < b.length by omega)]; rfl
  · rw [if_neg (by omega), if_neg (by omega), List.drop_of_length_le (by omega), List.drop_of_length_le (by omega)]; rfl
  · rw [if_neg (by omega), if_pos e]
    rw [List.drop_of_length_le (show b.length ≤ i by omega)]
    rw [drop_rd (show i < a.length by omega)]; rfl
theorem spec_CompareWords_h0 (a b : List Int) (ha : a.length ≤ 4611686018427387904) (d : Nat) : ∀ (i : Nat), i + d = a.length → i ≤ b.length →
    Ev (fun k => spec_CompareWords.l0 k a b (i : Int)) (handCmp (a.drop i) (b.drop i)) := by
  have stop : ∀ i : Nat, i ≤ a.length → i ≤ b.length → (i = a.length ∨ i = b.length) → Ev (fun k => spec_CompareWords.j1 k a b (i : Int) false) (handCmp (a.drop i) (b.drop i)) := by
    intro i h1 h2 h3
    rw [handCmp_drop_len a b i h1 h2 h3]
    refine ev_succ ?_
    simp only [spec_CompareWords.j1]
    refine ev_neg (by simp) ?_
    refine ev_ite (fun h => ev_some ?_) (fun h => ev_ite (fun h' => ev_some ?_) (fun h' => ev_some ?_))
    · rw [if_pos (by omega)]
    · rw [if_neg (by omega), if_pos (by omega)]
    · rw [if_neg (by omega), if_neg (by omega)]
  induction d with
  | zero =>
    intro i hi hb
    refine ev_succ ?_
    simp only [spec_CompareWords.l0]
    exact ev_neg (by omega) (stop i (by omega) hb (.inl (by omega)))
  | succ d ih =>
    intro i hi hb
    refine ev_succ ?_
    simp only [spec_CompareWords.l0]
    refine ev_pos (by omega) ?_
    by_cases h2 : i < b.length
    · rw [decide_eq_true (show (i : Int) < (b.length : Int) by omega)]
      refine ev_succ ?_
      simp only [spec_CompareWords.j1, wr1 (show (0 : Int) ≤ (i : Int) by omega) (by omega)]
      refine ev_pos trivial (ev_pos (by omega) (ev_pos (by omega) (ev_pos (by omega) ?_)))
      rw [drop_rd (by omega : i < a.length), drop_rd h2]
      refine ev_ite (fun h => ev_some ?_) (fun h => ev_ite (fun h' => ev_some ?_) (fun h' => ev_eq (ih (i + 1) (by omega) (by omega)) ?_))
      · simp only [handCmp, if_pos h]
      · simp only [handCmp, if_neg h, if_pos h']
      · simp only [handCmp, if_neg h, if_neg h']
    · rw [decide_eq_false (show ¬ (i : Int) < (b.length : Int) by omega)]
      exact stop i (by omega) hb (.inr (by omega))
theorem spec_CompareWords_hev (a b : List Int) (ha : a.length ≤ 4611686018427387904) : Ev (fun k => spec_CompareWords.f k a b) (handCmp a b) := by
  simp only [spec_CompareWords.f]
  exact ev_eq (spec_CompareWords_h0 a b ha a.length 0 (by omega) (by omega)) (by simp)
def l8Go (w : List Int) : Bool → List (List Int) → List (List Int)
  | true, [] => []
  | false, [] => [w]
  | p, e :: l => if handCmp w e = 0 then e :: l8Go w true l else if handCmp w e < 0 then (if p = true then e :: l8Go w p l else w :: e :: l8Go w true l) else e :: l8Go w p l
theorem l8Go_true (w : List Int) : ∀ l, l8Go w true l = l
  | [] => rfl
  | e :: l => by simp [l8Go, l8Go_true w l]
theorem l8Go_false (w : List Int) : ∀ l, l8Go w false l = hins handCmp w l
  | [] => rfl
  | e :: l => by
    have h1 := l8Go_true w l
    have h2 := l8Go_false w l
    simp only [l8Go, hins, h1, h2]
    by_cases c : handCmp w e = 0
    · simp [c]
    · by_cases d : handCmp w e < 0
      · simp [d, c]
      · simp [d, c]
theorem rdLL_at_ {l : List (List Int)} {i : Nat} (h : i < l.length) : rd_L1 l (i : Int) = l[i] := by
  simp [rd_L1, List.getD_eq_getElem?_getD, List.getElem?_eq_getElem h]
theorem spec_l8Put_l0 (w : List Int) (l : List (List Int)) (hw : w.length ≤ 1000000) (hn : l.length ≤ 1000000) (d : Nat) : ∀ (i : Nat) (acc : List (List Int)) (p : Bool), i + d = l.length → acc.length ≤ 2 * i + 2 →
    Ev (fun k => spec_l8Put.l0 k l w acc p (i : Int)) (acc ++ l8Go w p (l.drop i)) := by
  induction d with
  | zero =>
    intro i acc p hi ha
    refine ev_succ ?_
    simp only [spec_l8Put.l0]
    refine ev_neg (by omega) ?_
    rw [List.drop_of_length_le (by omega)]
    cases p with
    | true => exact ev_pos rfl (ev_some (by simp [l8Go]))
    | false => exact ev_neg (by simp) (ev_bind0 rfl (ev_pos (by simp; omega) (ev_pos (by omega) (ev_some (by simp [l8Go])))))
  | succ d ih =>
    intro i acc p hi ha
    have hs : wrap64 ((i : Int) + 1) = ((i + 1 : Nat) : Int) := by rw [wr1 (by omega) (by omega)]; rfl
    have hd : l.drop i = l[i] :: l.drop (i + 1) := List.drop_eq_getElem_cons (by omega)
    refine ev_succ ?_
    simp only [spec_l8Put.l0, hs]
    refine ev_pos (by omega) (ev_pos (by omega) ?_)
    rw [rdLL_at_ (by omega : i < l.length)]
    refine ev_bind (spec_CompareWords_hev w l[i] (by omega)) ?_
    refine ev_ite (fun h => ?_) (fun h => ?_)
    · refine ev_neg (by omega) (ev_pos (by omega) ?_)
      refine ev_eq (ih (i + 1) _ true (by omega) (by simp; omega)) ?_
      rw [hd]; cases p <;> simp [l8Go, h]
    · refine ev_ite (fun h2 => ?_) (fun h2 => ?_)
      · cases p with
        | true =>
          refine ev_pos rfl (ev_pos (by omega) ?_)
          refine ev_eq (ih (i + 1) _ true (by omega) (by simp; omega)) ?_
          rw [hd]; simp [l8Go, h, h2]
        | false =>
          refine ev_neg (by simp) (ev_bind0 rfl (ev_pos (by simp; omega) (ev_pos (by omega) (ev_bind0 rfl (ev_pos (by simp; omega) ?_)))))
          refine ev_eq (ih (i + 1) _ true (by omega) (by simp; omega)) ?_
          rw [hd]; simp [l8Go, h, h2]
      · refine ev_pos (by omega) ?_
        refine ev_eq (ih (i + 1) _ p (by omega) (by simp; omega)) ?_
        rw [hd]; cases p <;> simp [l8Go, h, h2]
theorem spec_l8Put_ev (w : List Int) (l : List (List Int)) (hw : w.length ≤ 1000000) (hn : l.length ≤ 1000000) : Ev (fun k => spec_l8Put.f k l w) (hins handCmp w l) := by
  have h := spec_l8Put_l0 w l hw hn l.length 0 [] false (by omega) (by simp)
  refine ev_eq h ?_
  simp [l8Go_false]
theorem hins_len (c : List Int → List Int → Int) (x : List Int) : ∀ l, (hins c x l).length ≤ l.length + 1
  | [] => by simp [hins]
  | y :: l => by
    have := hins_len c x l
    unfold hins
    split
    · simp
    · split
      · simp
      · simp; omega
/-- the parts of n letters, from place i on, d of them -/
def partsFrom (w : List Int) (n : Nat) : Nat → Nat → List (List Int)
  | 0, _ => []
  | d + 1, i => ((w.take (i + n)).drop i) :: partsFrom w n d (i + 1)
theorem partsFrom_len (w : List Int) (n : Nat) : ∀ d i, (partsFrom w n d i).length = d
  | 0, _ => rfl
  | d + 1, i => by simp [partsFrom, partsFrom_len w n d (i + 1)]
theorem partsFrom_row (w : List Int) (n : Nat) : ∀ d i, ∀ x ∈ partsFrom w n d i, x.length ≤ w.length
  | 0, _, x, h => by simp [partsFrom] at h
  | d + 1, i, x, h => by
    rcases List.mem_cons.1 h with rfl | h
    · simp only [List.length_drop, List.length_take]; omega
    · exact partsFrom_row w n d (i + 1) x h
theorem foldl_strict {c : List Int → List Int → Int} (h : HOrd c) : ∀ (L acc : List (List Int)), acc.Pairwise (fun a b => c a b < 0) → (L.foldl (fun a x => hins c x a) acc).Pairwise (fun a b => c a b < 0) ∧ ∀ z, z ∈ L.foldl (fun a x => hins c x a) acc ↔ z ∈ L ∨ z ∈ acc
  | [], acc, ha => ⟨ha, fun z => by simp⟩
  | x :: L, acc, ha => by
    have ih := foldl_strict h L (hins c x acc) (hins_strict h x acc ha)
    refine ⟨ih.1, fun z => ?_⟩
    show z ∈ L.foldl _ (hins c x acc) ↔ _
    rw [ih.2 z, hins_mem h, List.mem_cons]
    constructor
    · rintro (h | h | h)
      · exact .inl (.inr h)
      · exact .inl (.inl h)
      · exact .inr h
    · rintro ((h | h) | h)
      · exact .inr (.inl h)
      · exact .inl h
      · exact .inr (.inr h)
theorem foldl_uniq {c : List Int → List Int → Int} (h : HOrd c) (L : List (List Int)) : L.foldl (fun a x => hins c x a) [] = huniq c L :=
  hstrict_ext h _ _ (foldl_strict h L [] (by simp)).1 (huniq_strict h L) (fun z => by rw [(foldl_strict h L [] (by simp)).2 z, huniq_mem h]; simp)


def areL (m : Int) (l : List Int) : Bool := l.all fun x => decide (0 ≤ x ∧ x < m)
theorem impl_areLetters_l0 (l : List Int) (m : Int) (hn : l.length ≤ 4611686018427387904) (d : Nat) : ∀ (i : Nat), i + d = l.length →
    Ev (fun k => impl_areLetters.l0 k m l (l.length : Int) (i : Int)) (areL m (l.drop i)) := by
  induction d with
  | zero =>
    intro i hi
    refine ev_succ ?_
    simp only [impl_areLetters.l0]
    refine ev_neg (by omega) (ev_some ?_)
    rw [List.drop_of_length_le (by omega)]; rfl
  | succ d ih =>
    intro i hi
    refine ev_succ ?_
    simp only [impl_areLetters.l0, wr1 (show (0 : Int) ≤ (i : Int) by omega) (by omega)]
    refine ev_pos (by omega) (ev_pos (by omega) (ev_pos (by omega) ?_))
    rw [drop_rd (by omega : i < l.length)]
    refine ev_ite (fun h => ev_some ?_) (fun h => ev_ite (fun h' => ev_some ?_) (fun h' => ev_eq (ih (i + 1) (by omega)) ?_))
    · simp only [areL, List.all_cons, decide_eq_false (show ¬ (0 ≤ rd l (i : Int) ∧ rd l (i : Int) < m) by omega), Bool.false_and]
    · simp only [areL, List.all_cons, decide_eq_false (show ¬ (0 ≤ rd l (i : Int) ∧ rd l (i : Int) < m) by omega), Bool.false_and]
    · simp only [areL, List.all_cons, decide_eq_true (show (0 ≤ rd l (i : Int) ∧ rd l (i : Int) < m) by omega), Bool.true_and]
theorem impl_areLetters_ev (l : List Int) (m : Int) (hn : l.length ≤ 4611686018427387904) : Ev (fun k => impl_areLetters.f k l m) (areL m l) := by
  simp only [impl_areLetters.f]
  exact impl_areLetters_l0 l m hn l.length 0 (by omega)


theorem areL_mono {l : List Int} {a b : Int} (h : a ≤ b) (hl : areL a l = true) : areL b l = true := by
  simp only [areL, List.all_eq_true, decide_eq_true_eq] at hl ⊢
  intro x hx
  have := hl x hx
  omega
theorem impl_IsWord16_ev (l : List Int) (hl : l.length ≤ 400) : Ev (fun k => impl_IsWord.f k l 16) (areL 16 l) := by
  simp only [impl_IsWord.f]
  exact ev_pos (by omega) (ev_pos (by omega) (ev_pos (by omega) (ev_bind (impl_areLetters_ev l 16 (by omega)) (ev_some rfl))))
theorem impl_isShort_ev (l : List Int) (m : Int) (hl : l.length ≤ 400) (hm : (l.length : Int) ≤ m) : Ev (fun k => impl_isShort.f k l m) (areL 16 l) := by
  simp only [impl_isShort.f]
  exact ev_pos hm (ev_bind (impl_IsWord16_ev l hl) (ev_some rfl))


theorem l1In_eq (a b c : Int) : spec_l1In.f a b c = some (decide (b ≤ a ∧ a ≤ c)) := by
  unfold spec_l1In.f
  by_cases h : a ≥ b
  · rw [if_pos h]; simp [show b ≤ a from h]
  · rw [if_neg h]; simp [show ¬ b ≤ a from h]


theorem spec_IsWord_l0 (l : List Int) (m : Int) (hn : l.length ≤ 4611686018427387904) (d : Nat) : ∀ (i : Nat), i + d = l.length →
    Ev (fun k => spec_IsWord.l0 k l m (i : Int)) (areL m (l.drop i) && decide (1 ≤ m ∧ m ≤ 16) && decide ((l.length : Int) ≤ 400)) := by
  induction d with
  | zero =>
    intro i hi
    refine ev_succ ?_
    simp only [spec_IsWord.l0, l1In_eq, Option.bind_some]
    refine ev_neg (by omega) ?_
    rw [List.drop_of_length_le (by omega)]
    refine ev_ite (fun h => ev_some ?_) (fun h => ev_some ?_)
    · rw [h]; rfl
    · rw [Bool.not_eq_true] at h; rw [h]; rfl
  | succ d ih =>
    intro i hi
    refine ev_succ ?_
    simp only [spec_IsWord.l0, wr1 (show (0 : Int) ≤ (i : Int) by omega) (by omega)]
    refine ev_pos (by omega) (ev_pos (by omega) ?_)
    rw [drop_rd (by omega : i < l.length)]
    refine ev_ite (fun h => ev_some ?_) (fun h => ev_ite (fun h' => ev_some ?_) (fun h' => ev_eq (ih (i + 1) (by omega)) ?_))
    · simp only [areL, List.all_cons, decide_eq_false (show ¬ (0 ≤ rd l (i : Int) ∧ rd l (i : Int) < m) by omega), Bool.false_and]
    · simp only [areL, List.all_cons, decide_eq_false (show ¬ (0 ≤ rd l (i : Int) ∧ rd l (i : Int) < m) by omega), Bool.false_and]
    · simp only [areL, List.all_cons, decide_eq_true (show (0 ≤ rd l (i : Int) ∧ rd l (i : Int) < m) by omega), Bool.true_and]
theorem spec_IsWord_ev (l : List Int) (m : Int) (hn : l.length ≤ 4611686018427387904) : Ev (fun k => spec_IsWord.f k l m) (areL m l && decide (1 ≤ m ∧ m ≤ 16) && decide ((l.length : Int) ≤ 400)) := by
  simp only [spec_IsWord.f]
  exact spec_IsWord_l0 l m hn l.length 0 (by omega)


theorem pal_rev (l : List Int) (h : ∀ t : Nat, t < l.length / 2 → l[t]? = l[l.length - 1 - t]?) : l.reverse = l := by
  apply List.ext_getElem?
  intro t
  by_cases ht : t < l.length
  · rw [List.getElem?_reverse ht]
    by_cases h1 : t < l.length / 2
    · exact (h t h1).symm
    · by_cases h2 : l.length - 1 - t < l.length / 2
      · rw [h _ h2, show l.length - 1 - (l.length - 1 - t) = t by omega]
      · rw [show l.length - 1 - t = t by omega]
  · rw [List.getElem?_eq_none (by simp; omega), List.getElem?_eq_none (by omega)]
theorem impl_IsPalindrome_l0 (l : List Int) (hn : l.length ≤ 4611686018427387904) (d : Nat) : ∀ (i : Nat), i + d = l.length / 2 → (∀ t : Nat, t < i → l[t]? = l[l.length - 1 - t]?) →
    Ev (fun k => impl_IsPalindrome.l0 k l ((l.length / 2 : Nat) : Int) (i : Int)) (decide (l.reverse = l)) := by
  induction d with
  | zero =>
    intro i hi h
    refine ev_succ ?_
    simp only [impl_IsPalindrome.l0]
    refine ev_neg (by omega) (ev_some ?_)
    rw [decide_eq_true (pal_rev l (fun t ht => h t (by omega)))]
  | succ d ih =>
    intro i hi h
    refine ev_succ ?_
    simp only [impl_IsPalindrome.l0]
    rw [wr (n := (l.length : Int) - 1) (by omega) (by omega), show (l.length : Int) - 1 - (i : Int) = ((l.length - 1 - i : Nat) : Int) by omega, wr_nat (by omega), wr1 (by omega) (by omega)]
    refine ev_pos (by omega) (ev_pos (by omega) (ev_pos (by omega) (ev_pos (by omega) (ev_pos (by omega) ?_))))
    rw [rd_get (show i < l.length by omega), rd_get (show l.length - 1 - i < l.length by omega)]
    refine ev_ite (fun he => ih (i + 1) (by omega) ?_) (fun he => ev_some ?_)
    · intro t ht
      by_cases e : t = i
      · subst e
        rw [List.getElem?_eq_getElem (by omega), List.getElem?_eq_getElem (by omega), he]
      · exact h t (by omega)
    · symm
      rw [decide_eq_false_iff_not]
      intro hr
      have h2 : l.reverse[i]? = l[i]? := by rw [hr]
      rw [List.getElem?_reverse (by omega), List.getElem?_eq_getElem (by omega), List.getElem?_eq_getElem (by omega)] at h2
      exact he (Option.some.inj h2).symm
theorem impl_IsPalindrome_ev (l : List Int) (hn : l.length ≤ 4611686018427387904) : Ev (fun k => impl_IsPalindrome.f k l) (decide (l.reverse = l)) := by
  simp only [impl_IsPalindrome.f]
  rw [show (l.length : Int) / 2 = ((l.length / 2 : Nat) : Int) by omega, wr_nat (by omega)]
  exact impl_IsPalindrome_l0 l hn (l.length / 2) 0 (by omega) (by intro t ht; omega)


theorem spec_ReverseDigits_l0 (l : List Int) (hn : l.length ≤ 10000000) : ∀ (i : Nat) (acc : List Int), i ≤ l.length → acc.length + i ≤ 10000000 →
    Ev (fun k => spec_ReverseDigits.l0 k l acc ((i : Int) - 1)) (acc ++ (l.take i).reverse) := by
  intro i
  induction i with
  | zero =>
    intro acc hi ha
    refine ev_succ ?_
    simp only [spec_ReverseDigits.l0]
    exact ev_neg (by omega) (ev_some (by simp))
  | succ i ih =>
    intro acc hi ha
    refine ev_succ ?_
    simp only [spec_ReverseDigits.l0]
    rw [show ((i + 1 : Nat) : Int) - 1 = (i : Int) by omega]
    refine ev_pos (by omega) (ev_pos (by omega) (ev_pos (by omega) (ev_pos (by omega) ?_)))
    rw [wr (n := (i : Int) - 1) (by omega) (by omega)]
    refine ev_eq (ih (acc ++ [rd l (i : Int)]) (by omega) (by simp; omega)) ?_
    have ht : l.take (i + 1) = l.take i ++ [rd l (i : Int)] := by
      rw [rd_get (show i < l.length by omega)]; exact List.take_succ_eq_append_getElem (by omega)
    rw [ht]; simp
theorem spec_ReverseDigits_ev (l : List Int) (hn : l.length ≤ 10000000) : Ev (fun k => spec_ReverseDigits.f k l) l.reverse := by
  simp only [spec_ReverseDigits.f]
  rw [wr (n := (l.length : Int) - 1) (by omega) (by omega)]
  exact ev_eq (spec_ReverseDigits_l0 l hn l.length [] (by omega) (by simp; omega)) (by simp)


theorem spec_l3Same_l0 (a b : List Int) (hl : a.length = b.length) (hn : a.length ≤ 4611686018427387904) (d : Nat) : ∀ (i : Nat), i + d = a.length → Ev (fun k => spec_l3Same.l0 k a b (i : Int)) (decide (a.drop i = b.drop i)) := by
  induction d with
  | zero =>
    intro i hi
    refine ev_succ ?_
    simp only [spec_l3Same.l0]
    refine ev_neg (by omega) (ev_some ?_)
    rw [List.drop_of_length_le (by omega), List.drop_of_length_le (by omega)]; rfl
  | succ d ih =>
    intro i hi
    refine ev_succ ?_
    simp only [spec_l3Same.l0, wr1 (show (0 : Int) ≤ (i : Int) by omega) (by omega)]
    rw [drop_rd (by omega : i < a.length), drop_rd (by omega : i < b.length)]
    refine ev_pos (by omega) (ev_pos (by omega) (ev_pos (by omega) (ev_ite (fun h => ev_eq (ih (i + 1) (by omega)) ?_) (fun h => ev_some ?_))))
    · rw [h]; simp
    · simp [h]
theorem spec_l3Same_ev (a b : List Int) (hn : a.length ≤ 4611686018427387904) : Ev (fun k => spec_l3Same.f k a b) (decide (a = b)) := by
  simp only [spec_l3Same.f]
  refine ev_ite (fun h => ev_eq (spec_l3Same_l0 a b (by omega) hn a.length 0 (by omega)) (by simp)) (fun h => ev_some ?_)
  symm
  simp only [decide_eq_false_iff_not]
  rintro rfl
  exact h rfl


theorem spec_IsPal_ev (l : List Int) (hn : l.length ≤ 10000000) : Ev (fun k => spec_IsPalindrome.f k l) (decide (l.reverse = l)) := by
  simp only [spec_IsPalindrome.f]
  refine ev_bind (spec_ReverseDigits_ev l hn) (ev_bind (spec_l3Same_ev l l.reverse (by omega)) (ev_some ?_))
  by_cases h : l.reverse = l
  · simp [h]
  · have : ¬ l = l.reverse := fun e => h e.symm
    simp [h, this]
def cutW (w : List Int) (i j : Nat) : List Int := (w.take j).drop i
theorem cutW_len (w : List Int) (i j : Nat) (hj : j ≤ w.length) : (cutW w i j).length = j - i := by
  simp only [cutW, List.length_drop, List.length_take]; omega
/-- the palindromes of n letters from place i on -/
def palN (w : List Int) (n : Nat) : Nat → Nat → List (List Int)
  | 0, _ => []
  | d + 1, i => (if (cutW w i (i + n)).reverse = cutW w i (i + n) then [cutW w i (i + n)] else []) ++ palN w n d (i + 1)
def spN (w : List Int) : Nat → Nat → List (List Int)
  | 0, _ => []
  | d + 1, n => huniq handCmp (palN w n (w.length + 1 - n) 0) ++ spN w d (n + 1)
def palJ (w : List Int) (i : Nat) : Nat → Nat → List (List Int)
  | 0, _ => []
  | d + 1, j => (if (cutW w i j).reverse = cutW w i j then [cutW w i j] else []) ++ palJ w i d (j + 1)
def palI (w : List Int) : Nat → Nat → List (List Int)
  | 0, _ => []
  | d + 1, i => palJ w i (w.length - i) (i + 1) ++ palI w d (i + 1)
theorem palN_mem (w : List Int) (n : Nat) (z : List Int) : ∀ d i, z ∈ palN w n d i ↔ ∃ t, i ≤ t ∧ t < i + d ∧ z = cutW w t (t + n) ∧ z.reverse = z
  | 0, i => by simp only [palN, List.not_mem_nil, false_iff]; rintro ⟨t, h1, h2, _⟩; omega
  | d + 1, i => by
    have ih := palN_mem w n z d (i + 1)
    rw [palN, List.mem_append, ih]
    constructor
    · rintro (h | ⟨t, h1, h2, h3⟩)
      · split at h
        · rename_i hp
          have := List.mem_singleton.1 h
          subst this
          exact ⟨i, by omega, by omega, rfl, hp⟩
        · simp at h
      · exact ⟨t, by omega, by omega, h3⟩
    · rintro ⟨t, h1, h2, h3, h4⟩
      by_cases e : t = i
      · subst e
        left
        rw [← h3, if_pos h4]
        simp
      · exact .inr ⟨t, by omega, by omega, h3, h4⟩
theorem palJ_mem (w : List Int) (i : Nat) (z : List Int) : ∀ d j, z ∈ palJ w i d j ↔ ∃ t, j ≤ t ∧ t < j + d ∧ z = cutW w i t ∧ z.reverse = z
  | 0, j => by simp only [palJ, List.not_mem_nil, false_iff]; rintro ⟨t, h1, h2, _⟩; omega
  | d + 1, j => by
    have ih := palJ_mem w i z d (j + 1)
    rw [palJ, List.mem_append, ih]
    constructor
    · rintro (h | ⟨t, h1, h2, h3⟩)
      · split at h
        · rename_i hp
          have := List.mem_singleton.1 h
          subst this
          exact ⟨j, by omega, by omega, rfl, hp⟩
        · simp at h
      · exact ⟨t, by omega, by omega, h3⟩
    · rintro ⟨t, h1, h2, h3, h4⟩
      by_cases e : t = j
      · subst e
        left
        rw [← h3, if_pos h4]
        simp
      · exact .inr ⟨t, by omega, by omega, h3, h4⟩
theorem palI_mem (w : List Int) (z : List Int) : ∀ d i, i + d = w.length → (z ∈ palI w d i ↔ ∃ s t, i ≤ s ∧ s < t ∧ t ≤ w.length ∧ z = cutW w s t ∧ z.reverse = z)
  | 0, i, hi => by simp only [palI, List.not_mem_nil, false_iff]; rintro ⟨s, t, h1, h2, h3, _⟩; omega
  | d + 1, i, hi => by
    have ih := palI_mem w z d (i + 1) (by omega)
    rw [palI, List.mem_append, ih, palJ_mem]
    constructor
    · rintro (⟨t, h1, h2, h3⟩ | ⟨s, t, h1, h2, h3⟩)
      · exact ⟨i, t, by omega, by omega, by omega, h3⟩
      · exact ⟨s, t, by omega, by omega, h3⟩
    · rintro ⟨s, t, h1, h2, h3, h4⟩
      by_cases e : s = i
      · subst e
        exact .inl ⟨t, by omega, by omega, h4⟩
      · exact .inr ⟨s, t, by omega, by omega, h3, h4⟩
theorem spN_mem (w : List Int) (z : List Int) : ∀ d n, n + d = w.length + 1 → (z ∈ spN w d n ↔ ∃ m t, n ≤ m ∧ m ≤ w.length ∧ t + m ≤ w.length ∧ z = cutW w t (t + m) ∧ z.reverse = z)
  | 0, n, hn => by simp only [spN, List.not_mem_nil, false_iff]; rintro ⟨m, t, h1, h2, _⟩; omega
  | d + 1, n, hn => by
    have ih := spN_mem w z d (n + 1) (by omega)
    rw [spN, List.mem_append, ih, huniq_mem handCmp_ord, palN_mem]
    constructor
    · rintro (⟨t, h1, h2, h3⟩ | ⟨m, t, h1, h2, h3⟩)
      · exact ⟨n, t, by omega, by omega, by omega, h3⟩
      · exact ⟨m, t, by omega, by omega, h3⟩
    · rintro ⟨m, t, h1, h2, h3, h4⟩
      by_cases e : m = n
      · subst e
        exact .inl ⟨t, by omega, by omega, h4⟩
      · exact .inr ⟨m, t, by omega, by omega, h3, h4⟩
theorem spN_len (w : List Int) (d n : Nat) (h : n + d = w.length + 1) : ∀ z ∈ spN w d n, n ≤ z.length := by
  intro z hz
  obtain ⟨m, t, h1, h2, h3, h4, _⟩ := (spN_mem w z d n h).1 hz
  rw [h4, cutW_len w t (t + m) h3]
  omega
theorem spN_strict (w : List Int) : ∀ d n, n + d = w.length + 1 → (spN w d n).Pairwise (fun a b => handCmpL a b < 0)
  | 0, _, _ => by simp [spN]
  | d + 1, n, hn => by
    have ih := spN_strict w d (n + 1) (by omega)
    have hl : ∀ z ∈ huniq handCmp (palN w n (w.length + 1 - n) 0), z.length = n := by
      intro z hz
      rw [huniq_mem handCmp_ord, palN_mem] at hz
      obtain ⟨t, h1, h2, h3, _⟩ := hz
      rw [h3, cutW_len w t (t + n) (by omega)]
      omega
    rw [spN, List.pairwise_append]
    refine ⟨?_, ih, fun a ha b hb => ?_⟩
    · refine List.Pairwise.imp_of_mem ?_ (huniq_strict handCmp_ord (palN w n (w.length + 1 - n) 0))
      intro a b ha hb hab
      have h1 := hl a ha
      have h2 := hl b hb
      unfold handCmpL
      rw [if_neg (by omega), if_neg (by omega)]
      exact hab
    · have h1 := hl a ha
      have h2 := spN_len w d (n + 1) (by omega) b hb
      unfold handCmpL
      rw [if_pos (by omega)]
      omega
theorem spN_palI (w : List Int) : spN w w.length 1 = huniq handCmpL (palI w w.length 0) := by
  refine hstrict_ext handCmpL_ord _ _ (spN_strict w w.length 1 (by omega)) (huniq_strict handCmpL_ord _) (fun z => ?_)
  rw [huniq_mem handCmpL_ord, spN_mem w z w.length 1 (by omega), palI_mem w z w.length 0 (by omega)]
  constructor
  · rintro ⟨m, t, h1, h2, h3, h4⟩
    exact ⟨t, t + m, by omega, by omega, h3, h4⟩
  · rintro ⟨s, t, h1, h2, h3, h4, h5⟩
    refine ⟨t - s, s, by omega, by omega, by omega, ?_, h5⟩
    rw [show s + (t - s) = t by omega]
    exact h4
theorem palN_len (w : List Int) (n : Nat) : ∀ d i, (palN w n d i).length ≤ d
  | 0, _ => by simp [palN]
  | d + 1, i => by
    have := palN_len w n d (i + 1)
    rw [palN, List.length_append]
    split <;> simp <;> omega
theorem huniq_len (c : List Int → List Int → Int) : ∀ L, (huniq c L).length ≤ L.length
  | [] => by simp [huniq]
  | x :: L => by
    have h1 := huniq_len c L
    have h2 := hins_len c x (huniq c L)
    show (hins c x (huniq c L)).length ≤ L.length + 1
    omega
theorem palJ_len (w : List Int) (i : Nat) : ∀ d j, (palJ w i d j).length ≤ d
  | 0, _ => by simp [palJ]
  | d + 1, j => by
    have := palJ_len w i d (j + 1)
    rw [palJ, List.length_append]
    split <;> simp <;> omega
theorem palI_len (w : List Int) : ∀ d i, (palI w d i).length ≤ d * w.length
  | 0, _ => by simp [palI]
  | d + 1, i => by
    have h1 := palI_len w d (i + 1)
    have h2 := palJ_len w i (w.length - i) (i + 1)
    rw [palI, List.length_append, Nat.succ_mul]
    omega
theorem spec_Pal_l1 (w : List Int) (n : Nat) (hw : w.length ≤ 64) (hn0 : 1 ≤ n) (hn : n ≤ 65) (out : List (List Int)) (r : List (List Int)) (hout : out.length ≤ 10000) (d : Nat) : ∀ (i : Nat) (acc : List (List Int)), (i + d + n = w.length + 1) → acc.length ≤ i →
    (Ev (fun k => spec_PalindromesOf.l0 k w (out ++ (palN w n d i).foldl (fun a x => hins handCmp x a) acc) ((n + 1 : Nat) : Int)) r) →
    Ev (fun k => spec_PalindromesOf.l1 k w out (n : Int) acc (i : Int)) r := by
  induction d with
  | zero =>
    intro i acc hi ha hk
    have e : wrap64 ((i : Int) + (n : Int)) = (i : Int) + (n : Int) := wr (by omega) (by omega)
    have hs : wrap64 ((n : Int) + 1) = ((n + 1 : Nat) : Int) := by rw [wr1 (by omega) (by omega)]; rfl
    refine ev_succ ?_
    simp only [spec_PalindromesOf.l1, e, hs]
    refine ev_neg (by omega) (ev_pos (by omega) ?_)
    exact hk
  | succ d ih =>
    intro i acc hi ha hk
    have e : wrap64 ((i : Int) + (n : Int)) = (i : Int) + (n : Int) := wr (by omega) (by omega)
    have hs : wrap64 ((i : Int) + 1) = ((i + 1 : Nat) : Int) := by rw [wr1 (by omega) (by omega)]; rfl
    have hc : (w.take ((i : Int) + (n : Int)).toNat).drop ((i : Int)).toNat = cutW w i (i + n) := by
      rw [show ((i : Int) + (n : Int)).toNat = i + n by omega, Int.toNat_natCast]; rfl
    have hcl := cutW_len w i (i + n) (by omega)
    refine ev_succ ?_
    simp only [spec_PalindromesOf.l1, e, hs]
    refine ev_pos (by omega) (ev_pos (by omega) (ev_pos (by omega) ?_))
    rw [hc]
    refine ev_bind (spec_IsPal_ev _ (by omega)) (ev_ite (fun h => ?_) (fun h => ?_))
    · simp only [decide_eq_true_eq] at h
      have hl := hins_len handCmp (cutW w i (i + n)) acc
      refine ev_bind (spec_l8Put_ev _ acc (by omega) (by omega)) (ih (i + 1) _ (by omega) (by omega) ?_)
      rw [palN, if_pos h] at hk
      exact hk
    · simp only [decide_eq_true_eq] at h
      refine ih (i + 1) _ (by omega) (by omega) ?_
      rw [palN, if_neg h] at hk
      exact hk
theorem spec_Pal_l0 (w : List Int) (hw : w.length ≤ 64) (d : Nat) : ∀ (n : Nat) (out : List (List Int)), n + d = w.length + 1 → 1 ≤ n → out.length ≤ 65 * (n - 1) → Ev (fun k => spec_PalindromesOf.l0 k w out (n : Int)) (out ++ spN w d n) := by
  induction d with
  | zero =>
    intro n out hn h1 ho
    refine ev_succ ?_
    simp only [spec_PalindromesOf.l0]
    exact ev_neg (by omega) (ev_some (by simp [spN]))
  | succ d ih =>
    intro n out hn h1 ho
    refine ev_succ ?_
    simp only [spec_PalindromesOf.l0]
    refine ev_pos (by omega) ?_
    have hl1 := huniq_len handCmp (palN w n (w.length + 1 - n) 0)
    have hl2 := palN_len w n (w.length + 1 - n) 0
    refine spec_Pal_l1 w n hw h1 (by omega) out _ (by omega) (w.length + 1 - n) 0 [] (by omega) (by simp) ?_
    rw [foldl_uniq handCmp_ord]
    refine ev_eq (ih (n + 1) _ (by omega) (by omega) (by rw [List.length_append]; omega)) ?_
    simp [spN]
/-- the palindromes that the reference tells -/
def palR (w : List Int) : List (List Int) := if areL 16 w = true ∧ w.length ≤ 64 then spN w w.length 1 else []
theorem spec_Pal_ev (w : List Int) (hw : w.length ≤ 1048576) : Ev (fun k => spec_PalindromesOf.f k w) (palR w) := by
  simp only [spec_PalindromesOf.f]
  refine ev_bind0 rfl (ev_bind (spec_IsWord_ev w 16 (by omega)) ?_)
  refine ev_ite (fun h => ?_) (fun h => ?_)
  · simp only [Bool.and_eq_true, decide_eq_true_eq] at h
    refine ev_succ ?_
    simp only [spec_PalindromesOf.j0]
    refine ev_ite (fun h2 => ev_some ?_) (fun h2 => ?_)
    · simp only [decide_eq_true_eq] at h2
      unfold palR
      rw [if_neg (by omega)]
    · simp only [decide_eq_true_eq] at h2
      refine ev_eq (spec_Pal_l0 w (by omega) w.length 1 [] (by omega) (by omega) (by simp)) ?_
      unfold palR
      rw [if_pos ⟨h.1.1, by omega⟩]
      rfl
  · simp only [Bool.and_eq_true, decide_eq_true_eq] at h
    refine ev_succ ?_
    simp only [spec_PalindromesOf.j0]
    refine ev_pos trivial (ev_some ?_)
    unfold palR
    rw [if_neg (fun h4 => h ⟨⟨h4.1, by omega⟩, by omega⟩)]
theorem impl_Pal_l1 (w : List Int) (i : Nat) (hw : w.length ≤ 64) (hi : i < w.length) (r : List (List Int)) (d : Nat) : ∀ (j : Nat) (acc : List (List Int)), j + d = w.length + 1 → i < j → acc.length + d ≤ 10000 →
    Ev (fun k => impl_PalindromesOf.l0 k w (acc ++ palJ w i d j) (w.length : Int) ((i + 1 : Nat) : Int)) r →
    Ev (fun k => impl_PalindromesOf.l1 k w acc (i : Int) (j : Int) (w.length : Int) (i : Int)) r := by
  induction d with
  | zero =>
    intro j acc hj hij ha hk
    have hs : wrap64 ((i : Int) + 1) = ((i + 1 : Nat) : Int) := by rw [wr1 (by omega) (by omega)]; rfl
    refine ev_succ ?_
    simp only [impl_PalindromesOf.l1, hs]
    refine ev_neg (by omega) ?_
    rw [palJ, List.append_nil] at hk
    exact hk
  | succ d ih =>
    intro j acc hj hij ha hk
    have hs : wrap64 ((j : Int) + 1) = ((j + 1 : Nat) : Int) := by rw [wr1 (by omega) (by omega)]; rfl
    have hc : (w.take ((j : Int)).toNat).drop ((i : Int)).toNat = cutW w i j := by rw [Int.toNat_natCast, Int.toNat_natCast]; rfl
    have hcl := cutW_len w i j (by omega)
    refine ev_succ ?_
    simp only [impl_PalindromesOf.l1, hs]
    refine ev_pos (by omega) (ev_pos (by omega) (ev_pos (by omega) ?_))
    rw [hc]
    refine ev_bind (impl_IsPalindrome_ev _ (by omega)) (ev_ite (fun h => ?_) (fun h => ?_))
    · simp only [decide_eq_true_eq] at h
      refine ev_bind0 rfl (ev_pos (by simp only [List.length_nil]; omega) (ev_pos (by omega) ?_))
      refine ih (j + 1) _ (by omega) (by omega) (by simp; omega) ?_
      rw [palJ, if_pos h] at hk
      simpa using hk
    · simp only [decide_eq_true_eq] at h
      refine ih (j + 1) _ (by omega) (by omega) (by omega) ?_
      rw [palJ, if_neg h] at hk
      exact hk
theorem impl_Pal_l0 (w : List Int) (hw : w.length ≤ 64) (d : Nat) : ∀ (i : Nat) (acc : List (List Int)), i + d = w.length → acc.length ≤ 65 * i → Ev (fun k => impl_PalindromesOf.l0 k w acc (w.length : Int) (i : Int)) (acc ++ palI w d i) := by
  induction d with
  | zero =>
    intro i acc hi ha
    refine ev_succ ?_
    simp only [impl_PalindromesOf.l0]
    exact ev_neg (by omega) (ev_some (by simp [palI]))
  | succ d ih =>
    intro i acc hi ha
    have hs : wrap64 ((i : Int) + 1) = ((i + 1 : Nat) : Int) := by rw [wr1 (by omega) (by omega)]; rfl
    refine ev_succ ?_
    simp only [impl_PalindromesOf.l0, hs]
    refine ev_pos (by omega) ?_
    have hl := palJ_len w i (w.length - i) (i + 1)
    refine impl_Pal_l1 w i hw (by omega) _ (w.length - i) (i + 1) acc (by omega) (by omega) (by omega) ?_
    refine ev_eq (ih (i + 1) _ (by omega) (by rw [List.length_append]; omega)) ?_
    simp [palI]
theorem impl_isShort_far (l : List Int) (m : Int) (hm : ¬ (l.length : Int) ≤ m) : Ev (fun k => impl_isShort.f k l m) false := by
  simp only [impl_isShort.f]
  exact ev_neg hm (ev_some rfl)
theorem impl_Pal_ev (w : List Int) (hw : w.length ≤ 1048576) : Ev (fun k => impl_PalindromesOf.f k w) (palR w) := by
  simp only [impl_PalindromesOf.f]
  by_cases h : w.length ≤ 64
  · by_cases hA : areL 16 w = true
    · refine ev_bind (a := palI w w.length 0) ?_ ?_
      · refine ev_bind0 rfl (ev_bind (impl_isShort_ev w 64 (by omega) (by omega)) (ev_pos hA ?_))
        exact ev_eq (impl_Pal_l0 w h w.length 0 [] (by omega) (by simp)) (by simp)
      · unfold hwrap
        refine ev_pos ?_ (ev_some ?_)
        · simp only [hok, Bool.and_eq_true, decide_eq_true_eq, List.all_eq_true]
          have hl := palI_len w w.length 0
          have h3 : w.length * w.length ≤ 64 * 64 := Nat.mul_le_mul h h
          refine ⟨by omega, fun z hz => ?_⟩
          obtain ⟨s, t, h1, h2, h3, h4, _⟩ := (palI_mem w z w.length 0 (by omega)).1 hz
          rw [h4, cutW_len w s t h3]
          omega
        · unfold palR
          rw [if_pos ⟨hA, h⟩]
          exact (spN_palI w).symm
    · refine ev_bind (a := []) ?_ ?_
      · refine ev_bind0 rfl (ev_bind (impl_isShort_ev w 64 (by omega) (by omega)) (ev_neg hA (ev_some rfl)))
      · unfold hwrap
        refine ev_pos (by simp [hok]) (ev_some ?_)
        unfold palR
        rw [if_neg (fun h4 => hA h4.1)]
        rfl
  · refine ev_bind (a := []) ?_ ?_
    · refine ev_bind0 rfl (ev_bind (impl_isShort_far w 64 (by omega)) (ev_neg (by simp) (ev_some rfl)))
    · unfold hwrap
      refine ev_pos (by simp [hok]) (ev_some ?_)
      unfold palR
      rw [if_neg (by omega)]
      rfl
theorem spec_Rich_ev (w : List Int) (hw : w.length ≤ 1048576) : Ev (fun k => spec_RichnessOf.f k w) (((palR w).length : Nat) : Int) := by
  simp only [spec_RichnessOf.f]
  exact ev_bind (spec_Pal_ev w hw) (ev_some rfl)
theorem impl_Rich_ev (w : List Int) (hw : w.length ≤ 1048576) : Ev (fun k => impl_RichnessOf.f k w) (((palR w).length : Nat) : Int) := by
  simp only [impl_RichnessOf.f]
  exact ev_bind (impl_Pal_ev w hw) (ev_some rfl)


-- SAY: For every list the program's IsRich answers what the reference's answers, and leaves its argument alone. No conditions beyond the given statement.
def richR (w : List Int) : Bool := if areL 16 w = true ∧ w.length ≤ 64 then (((palR w).length : Nat) : Int) == (w.length : Int) else false
theorem spec_IsRich_ev (w : List Int) (hw : w.length ≤ 1048576) : Ev (fun k => spec_IsRich.f k w) (richR w) := by
  simp only [spec_IsRich.f]
  refine ev_bind (spec_IsWord_ev w 16 (by omega)) ?_
  refine ev_ite (fun h => ?_) (fun h => ev_some ?_)
  · simp only [Bool.and_eq_true, decide_eq_true_eq] at h
    refine ev_ite (fun h2 => ev_bind (spec_Rich_ev w hw) (ev_some ?_)) (fun h2 => ev_some ?_)
    · unfold richR
      rw [if_pos ⟨h.1.1, by omega⟩]
    · unfold richR
      rw [if_neg (by omega)]
  · simp only [Bool.and_eq_true, decide_eq_true_eq] at h
    unfold richR
    rw [if_neg (fun h4 => h ⟨⟨h4.1, by omega⟩, by omega⟩)]
theorem impl_IsRich_ev (w : List Int) (hw : w.length ≤ 1048576) : Ev (fun k => impl_IsRich.f k w) (richR w) := by
  simp only [impl_IsRich.f]
  by_cases h : w.length ≤ 64
  · refine ev_bind (impl_isShort_ev w 64 (by omega) (by omega)) (ev_ite (fun hA => ev_bind (impl_Rich_ev w hw) (ev_some ?_)) (fun hA => ev_some ?_))
    · unfold richR
      rw [if_pos ⟨hA, h⟩]
    · unfold richR
      rw [if_neg (fun h4 => hA h4.1)]
  · refine ev_bind (impl_isShort_far w 64 (by omega)) (ev_neg (by simp) (ev_some ?_))
    unfold richR
    rw [if_neg (by omega)]
theorem FnExactIsRich : laws_FnExactIsRich.Pure := by
  intro l hl0 hl1 hwf
  refine Ev.rounds (g := fun k => laws_FnExactIsRich.f k l) ?_
  simp only [laws_FnExactIsRich.f]
  refine ev_ite (fun h => ev_some rfl) (fun h => ?_)
  refine ev_bind (toIntS_ev l (by omega)) ?_
  refine ev_bind (spec_IsRich_ev l (by omega)) ?_
  refine ev_bind (toIntS_ev l (by omega)) ?_
  refine ev_bind (impl_IsRich_ev l (by omega)) ?_
  refine ev_neg (by simp) ?_
  refine ev_bind (toIntS_ev l (by omega)) ?_
  refine ev_bind (eqIntS_ev l (by omega)) ?_
  exact ev_pos rfl (ev_some rfl)


end Go.Proofs.Ytfgjhhapocbhaaa.Pure

/-! The row's word for a slice's size, under the name by which the row asks for it. -/
namespace Go.Proofs.Ytfgjhhapocbhaaa.PrintWords
open Go.ChangeShapes Go.WideShapes
theorem sized_ints {H : Type} {enc : TypeId × Value → H} {P : Program} {W : World} {base : Nat} {spare : Nat → Bool} {held : Bool} {t e : TypeId} {k : IntKind} {a : Option Addr} {len cap : Nat} {d : DataW H}
    {ps : List MemPlace} {ts : List TypeId} {ds : List (DataW H)} {j : Nat} (hsz : (DataW.weightsEach P ts ds).all (· ≤ reachBytes) = true) (ht : ts[j]? = some t) (hd : ds[j]? = some d) (hu : P.underlying t = some (.slice e))
    (he : P.underlying e = some (.int k)) (hc : P.cellsOf e = 1) {B : Nat} (hB : P.bytesOf e = B) (h : DataW.Trod enc P W base spare held t (.slice a len cap) d ps) : len * B ≤ 140737488351232 :=
  Go.Proofs.YtfgjhhapocbhaaaW.PrintWords.sized_ints hsz ht hd hu he hc hB h
end Go.Proofs.Ytfgjhhapocbhaaa.PrintWords
