/- For every sequence and letter the program's CountingForm answers what the reference's answers, leaves its arguments alone, and hands back memory that it shares with nothing. No conditions beyond the given statement. -/
import Derived.Test.YtgmfjcckmapkbaaPFnExactCountingFormx20
set_option linter.unusedVariables false
set_option linter.unusedSimpArgs false
namespace Go.Proofs.Ytgmfjcckmapkbaa.Pure
open Go.RowKit Go.Proofs.Ytgmfjcckmapkbaa.PFnExactCountingForm Go.Proofs.YtgmfjcckmapkbaaW.PrintWords Go.Proofs.YtgmfjcckmapkbaaW.PrintLast
theorem ev_succ {α : Type} {g : Nat → Option α} {r : α} (h : Ev (fun k => g (k + 1)) r) : Ev g r := Ev.step (fun _ => rfl) h
theorem ev_some {α : Type} {r r' : α} (h : r = r') : Ev (fun _ => some r) r' := by subst h; exact Ev.now r
theorem ev_pos {α : Type} {c : Prop} [Decidable c] {g f : Nat → Option α} {r : α} (hc : c) (h : Ev g r) : Ev (fun k => if c then g k else f k) r := by
 simp only [if_pos hc]; exact h
theorem ev_neg {α : Type} {c : Prop} [Decidable c] {g f : Nat → Option α} {r : α} (hc : ¬ c) (h : Ev f r) : Ev (fun k => if c then g k else f k) r := by
 simp only [if_neg hc]; exact h
theorem ev_ite {α : Type} {c : Prop} [Decidable c] {g f : Nat → Option α} {r : α} (h : c → Ev g r) (h' : ¬ c → Ev f r) : Ev (fun k => if c then g k else f k) r := by
 by_cases hc : c
 ·exact ev_pos hc (h hc)
 ·exact ev_neg hc (h' hc)
theorem ev_bind {α β : Type} {g : Nat → Option α} {f : Nat → α → Option β} {a : α} {r : β} (h : Ev g a) (k : Ev (fun n => f n a) r) : Ev (fun n => (g n).bind (f n)) r := Ev.bind h k
theorem ev_eq {α : Type} {g : Nat → Option α} {r r' : α} (h : Ev g r) (e : r = r') : Ev g r' := e ▸ h
theorem wr {n : Int} (h0 : -9223372036854775808 ≤ n) (h1 : n ≤ 9223372036854775807) : wrap64 n = n := by unfold wrap64; omega
theorem wr1 {i : Int} (h0 : 0 ≤ i) (h1 : i ≤ 4611686018427387904) : wrap64 (i + 1) = i + 1 := wr (by omega) (by omega)
theorem rd_nat (l : List Int) (i : Nat) : rd l (i : Int) = l.getD i 0 := by simp [rd]
theorem rd_get {l : List Int} {i : Nat} (h : i < l.length) : rd l (i : Int) = l[i] := by
 simp [rd, List.getD_eq_getElem?_getD, List.getElem?_eq_getElem h]
theorem drop_rd {l : List Int} {i : Nat} (h : i < l.length) : l.drop i = rd l (i : Int) :: l.drop (i + 1) := by
 rw [rd_get h]; exact List.drop_eq_getElem_cons h
theorem rd_mem {l : List Int} {i : Nat} (h : i < l.length) : rd l (i : Int) ∈ l := by rw [rd_get h]; exact List.getElem_mem h
def Tot {α : Type} (g : Nat → Option α) (P : α → Prop) : Prop := ∃ r, Ev g r ∧ P r
theorem tot_some {α : Type} {r : α} {P : α → Prop} (h : P r) : Tot (fun _ => some r) P := ⟨r, Ev.now r, h⟩
theorem tot_bind {α β : Type} {g : Nat → Option α} {f : Nat → α → Option β} {P : α → Prop} {Q : β → Prop} (h : Tot g P) (k : ∀ a, P a → Tot (fun n => f n a) Q) : Tot (fun n => (g n).bind (f n)) Q := by
 obtain ⟨a, ha, hp⟩ := h
 obtain ⟨r, hr, hq⟩ := k a hp
 exact ⟨r, Ev.bind ha hr, hq⟩
theorem tot_bind0 {α β : Type} {o : Option α} {f : Nat → α → Option β} {P : α → Prop} {Q : β → Prop} (h : ∃ a, o = some a ∧ P a) (k : ∀ a, P a → Tot (fun n => f n a) Q) : Tot (fun n => o.bind (f n)) Q := by
 obtain ⟨a, ha, hp⟩ := h
 subst ha
 exact k a hp
theorem tot_pos {α : Type} {c : Prop} [Decidable c] {g f : Nat → Option α} {P : α → Prop} (hc : c) (h : Tot g P) : Tot (fun k => if c then g k else f k) P := by
 simp only [if_pos hc]; exact h
theorem tot_neg {α : Type} {c : Prop} [Decidable c] {g f : Nat → Option α} {P : α → Prop} (hc : ¬ c) (h : Tot f P) : Tot (fun k => if c then g k else f k) P := by
 simp only [if_neg hc]; exact h
theorem tot_ite {α : Type} {c : Prop} [Decidable c] {g f : Nat → Option α} {P : α → Prop} (h : c → Tot g P) (h' : ¬ c → Tot f P) : Tot (fun k => if c then g k else f k) P := by
 by_cases hc : c
 ·exact tot_pos hc (h hc)
 ·exact tot_neg hc (h' hc)
theorem tot_succ {α : Type} {g : Nat → Option α} {P : α → Prop} (h : Tot (fun k => g (k + 1)) P) : Tot g P := by
 obtain ⟨r, hr, hp⟩ := h
 exact ⟨r, ev_succ hr, hp⟩
theorem toIntS_l0 (l : List Int) (hn : l.length ≤ 4611686018427387904) (d : Nat) : ∀ (i : Nat) (x : List Int), i + d = l.length → x.length = l.length → (∀ j, j < i → x[j]? = l[j]?) →
  Ev (fun k => laws_toIntS.l0 k l x (i : Int)) l := by
 induction d with
 | zero =>
  intro i x hi hx hj
  refine ev_succ ?_
  simp only [laws_toIntS.l0]
  refine ev_neg (by omega) (ev_some ?_)
  apply List.ext_getElem?
  intro j
  by_cases h : j < i
  ·exact hj j h
  ·rw [List.getElem?_eq_none (by omega), List.getElem?_eq_none (by omega)]
 | succ d ih =>
  intro i x hi hx hj
  refine ev_succ ?_
  simp only [laws_toIntS.l0, wr1 (show (0 : Int) ≤ (i : Int) by omega) (by omega)]
  refine ev_pos (by omega) (ev_pos (by omega) (ev_pos (by omega) ?_))
  refine ih (i + 1) _ (by omega) (by simp [hx]) ?_
  intro j hj'
  rw [Int.toNat_natCast, rd_get (by omega), List.getElem?_set]
  by_cases e : i = j
  ·subst e
   rw [if_pos rfl, if_pos (by omega), List.getElem?_eq_getElem (by omega)]
  ·rw [if_neg e]; exact hj j (by omega)
theorem toIntS_ev (l : List Int) (hn : l.length ≤ 35184372088832) : Ev (fun k => laws_toIntS.f k l) l := by
 simp only [laws_toIntS.f]
 refine ev_pos (by omega) (ev_pos (by omega) ?_)
 exact toIntS_l0 l (by omega) l.length 0 _ (by omega) (by simp) (by intro j hj; omega)
theorem eqIntS_l0 (l : List Int) (hn : l.length ≤ 4611686018427387904) (d : Nat) : ∀ (i : Nat), i + d = l.length → Ev (fun k => laws_eqIntS.l0 k l l (i : Int)) true := by
 induction d with
 | zero =>
  intro i hi
  refine ev_succ ?_
  simp only [laws_eqIntS.l0]
  exact ev_neg (by omega) (ev_some rfl)
 | succ d ih =>
  intro i hi
  refine ev_succ ?_
  simp only [laws_eqIntS.l0, wr1 (show (0 : Int) ≤ (i : Int) by omega) (by omega)]
  exact ev_pos (by omega) (ev_pos (by omega) (ev_pos (by omega) (ev_pos trivial (ih (i + 1) (by omega)))))
theorem eqIntS_ev (l : List Int) (hn : l.length ≤ 4611686018427387904) : Ev (fun k => laws_eqIntS.f k l l) true := by
 simp only [laws_eqIntS.f]
 exact ev_pos trivial (eqIntS_l0 l hn l.length 0 (by omega))
theorem rdLL_at {l : List (List Int)} {i : Nat} (h : i < l.length) : rd_L1 l (i : Int) = l[i] := by
 simp [rd_L1, List.getD_eq_getElem?_getD, List.getElem?_eq_getElem h]
theorem rdLL_mem {l : List (List Int)} {i : Nat} (h : i < l.length) : rd_L1 l (i : Int) ∈ l := by rw [rdLL_at h]; exact List.getElem_mem h
theorem rdLLL_at {l : List (List (List Int))} {i : Nat} (h : i < l.length) : rd_L2 l (i : Int) = l[i] := by
 simp [rd_L2, List.getD_eq_getElem?_getD, List.getElem?_eq_getElem h]
theorem rdLLL_mem {l : List (List (List Int))} {i : Nat} (h : i < l.length) : rd_L2 l (i : Int) ∈ l := by rw [rdLLL_at h]; exact List.getElem_mem h
def fit1 (l : List Int) : Prop := l.length ≤ 1048576
def fit2 (l : List (List Int)) : Prop := l.length ≤ 1048576 ∧ ∀ r ∈ l, fit1 r
def fit3 (l : List (List (List Int))) : Prop := l.length ≤ 1048576 ∧ ∀ m ∈ l, fit2 m
theorem toIntSS_l0 (l : List (List Int)) (hf : fit2 l) (d : Nat) : ∀ (i : Nat) (x : List (List Int)), i + d = l.length → x.length = l.length → (∀ j, j < i → x[j]? = l[j]?) →
  Ev (fun k => laws_toIntSS.l0 k l x (i : Int)) l := by
 have hn := hf.1
 induction d with
 | zero =>
  intro i x hi hx hj
  refine ev_succ ?_
  simp only [laws_toIntSS.l0]
  refine ev_neg (by omega) (ev_some ?_)
  apply List.ext_getElem?
  intro j
  by_cases h : j < i
  ·exact hj j h
  ·rw [List.getElem?_eq_none (by omega), List.getElem?_eq_none (by omega)]
 | succ d ih =>
  intro i x hi hx hj
  refine ev_succ ?_
  simp only [laws_toIntSS.l0, wr1 (show (0 : Int) ≤ (i : Int) by omega) (by omega)]
  have hr := hf.2 _ (rdLL_mem (show i < l.length by omega))
  unfold fit1 at hr
  refine ev_pos (by omega) (ev_pos (by omega) (ev_bind (toIntS_ev _ (by omega)) (ev_pos (by omega) ?_)))
  refine ih (i + 1) _ (by omega) (by simp [hx]) ?_
  intro j hj'
  rw [Int.toNat_natCast, rdLL_at (by omega), List.getElem?_set]
  by_cases e : i = j
  ·subst e
   rw [if_pos rfl, if_pos (by omega), List.getElem?_eq_getElem (by omega)]
  ·rw [if_neg e]; exact hj j (by omega)
theorem toIntSS_ev (l : List (List Int)) (hf : fit2 l) : Ev (fun k => laws_toIntSS.f k l) l := by
 have hn := hf.1
 simp only [laws_toIntSS.f]
 refine ev_pos (by omega) (ev_pos (by omega) ?_)
 exact toIntSS_l0 l hf l.length 0 _ (by omega) (by simp) (by intro j hj; omega)
theorem eqIntSS_l0 (l : List (List Int)) (hf : fit2 l) (d : Nat) : ∀ (i : Nat), i + d = l.length → Ev (fun k => laws_eqIntSS.l0 k l l (i : Int)) true := by
 have hn := hf.1
 induction d with
 | zero =>
  intro i hi
  refine ev_succ ?_
  simp only [laws_eqIntSS.l0]
  exact ev_neg (by omega) (ev_some rfl)
 | succ d ih =>
  intro i hi
  have hr := hf.2 _ (rdLL_mem (show i < l.length by omega))
  unfold fit1 at hr
  refine ev_succ ?_
  simp only [laws_eqIntSS.l0, wr1 (show (0 : Int) ≤ (i : Int) by omega) (by omega)]
  exact ev_pos (by omega) (ev_pos (by omega) (ev_pos (by omega) (ev_bind (eqIntS_ev _ (by omega)) (ev_pos rfl (ih (i + 1) (by omega))))))
theorem eqIntSS_ev (l : List (List Int)) (hf : fit2 l) : Ev (fun k => laws_eqIntSS.f k l l) true := by
 simp only [laws_eqIntSS.f]
 exact ev_pos trivial (eqIntSS_l0 l hf l.length 0 (by omega))
theorem eqIntSSS_l0 (l : List (List (List Int))) (hf : fit3 l) (d : Nat) : ∀ (i : Nat), i + d = l.length → Ev (fun k => laws_eqIntSSS.l0 k l l (i : Int)) true := by
 have hn := hf.1
 induction d with
 | zero =>
  intro i hi
  refine ev_succ ?_
  simp only [laws_eqIntSSS.l0]
  exact ev_neg (by omega) (ev_some rfl)
 | succ d ih =>
  intro i hi
  have hr := hf.2 _ (rdLLL_mem (show i < l.length by omega))
  refine ev_succ ?_
  simp only [laws_eqIntSSS.l0, wr1 (show (0 : Int) ≤ (i : Int) by omega) (by omega)]
  exact ev_pos (by omega) (ev_pos (by omega) (ev_pos (by omega) (ev_bind (eqIntSS_ev _ hr) (ev_pos rfl (ih (i + 1) (by omega))))))
theorem eqIntSSS_ev (l : List (List (List Int))) (hf : fit3 l) : Ev (fun k => laws_eqIntSSS.f k l l) true := by
 simp only [laws_eqIntSSS.f]
 exact ev_pos trivial (eqIntSSS_l0 l hf l.length 0 (by omega))
theorem szIntS_tot (l : List Int) (hl : l.length ≤ 9223372036854775807) (n : Int) (h0 : 0 ≤ n) (h1 : n ≤ 1048576) : ∃ r, laws_szIntS.f l n = some r ∧ r ≤ 1048576 ∧ (0 ≤ r → fit1 l) := by
 unfold laws_szIntS.f
 rw [wr (by omega) (by omega)]
 split
 ·exact ⟨_, rfl, by omega, fun h => absurd h (by omega)⟩
 ·exact ⟨_, rfl, by omega, fun _ => by unfold fit1; omega⟩
theorem szIntSS_l0 (l : List (List Int)) (hn : l.length ≤ 1048576) (hl : ∀ r ∈ l, r.length ≤ 9223372036854775807) (d : Nat) : ∀ (i : Nat) (n : Int), i + d = l.length → 0 ≤ n → n ≤ 1048576 → (∀ r ∈ l.take i, fit1 r) →
  Tot (fun k => laws_szIntSS.l0 k l n (i : Int)) (fun r => r ≤ 1048576 ∧ (0 ≤ r → fit2 l)) := by
 induction d with
 | zero =>
  intro i n hi h0 h1 hf
  refine tot_succ ?_
  simp only [laws_szIntSS.l0]
  rw [List.take_of_length_le (by omega)] at hf
  exact tot_neg (by omega) (tot_some ⟨h1, fun _ => ⟨hn, hf⟩⟩)
 | succ d ih =>
  intro i n hi h0 h1 hf
  refine tot_succ ?_
  simp only [laws_szIntSS.l0, wr1 (show (0 : Int) ≤ (i : Int) by omega) (by omega)]
  refine tot_pos (by omega) (tot_pos (by omega) (tot_bind0 (szIntS_tot _ (hl _ (rdLL_mem (show i < l.length by omega))) n h0 h1) (fun r hr => ?_)))
  refine tot_ite (fun h => tot_some ⟨by omega, fun h => absurd h (by omega)⟩) (fun h => ih (i + 1) r (by omega) (by omega) hr.1 ?_)
  intro x hx
  rw [List.take_succ_eq_append_getElem (by omega), ← rdLL_at (by omega), List.mem_append] at hx
  rcases hx with hx | hx
  ·exact hf x hx
  ·simp only [List.mem_cons, List.not_mem_nil, or_false] at hx
   rw [hx]; exact hr.2 (by omega)
theorem szIntSS_tot (l : List (List Int)) (hn : l.length ≤ 9223372036854775807) (hl : ∀ r ∈ l, r.length ≤ 9223372036854775807) (n : Int) (h0 : 0 ≤ n) (h1 : n ≤ 1048576) :
  Tot (fun k => laws_szIntSS.f k l n) (fun r => r ≤ 1048576 ∧ (0 ≤ r → fit2 l)) := by
 simp only [laws_szIntSS.f]
 rw [wr (by omega) (by omega)]
 refine tot_ite (fun h => tot_some ⟨by omega, fun h => absurd h (by omega)⟩) (fun h => ?_)
 exact szIntSS_l0 l (by omega) hl l.length 0 _ (by omega) (by omega) (by omega) (by simp)
theorem szSequence_tot (b : Int) (next : List (List Int)) (out : List Int) (h2 : next.length ≤ 9223372036854775807) (h3 : ∀ r ∈ next, r.length ≤ 9223372036854775807) (h4 : out.length ≤ 9223372036854775807)
  (n : Int) (h0 : 0 ≤ n) (hn : n ≤ 1048576) : Tot (fun k => laws_szSequence.f k b next out n) (fun r => r ≤ 1048576 ∧ (0 ≤ r → fit2 next ∧ fit1 out)) := by
 simp only [laws_szSequence.f]
 refine tot_bind (szIntSS_tot next h2 h3 n h0 hn) (fun r2 hr2 => tot_ite (fun h => tot_some ⟨by omega, fun h => absurd h (by omega)⟩) (fun h => ?_))
 refine tot_bind0 (szIntS_tot out h4 r2 (by omega) hr2.1) (fun r3 hr3 => tot_ite (fun h => tot_some ⟨by omega, fun h => absurd h (by omega)⟩) (fun h => ?_))
 exact tot_some ⟨hr3.1, fun h => ⟨hr2.2 (by omega), hr3.2 (by omega)⟩⟩
theorem toSequence_ev (b : Int) (next : List (List Int)) (out : List Int) (h2 : fit2 next) (h3 : fit1 out) : Ev (fun k => laws_toSequence.f k b next out) (b, next, out) := by
 unfold fit1 at h3
 simp only [laws_toSequence.f]
 exact ev_bind (toIntSS_ev next h2) (ev_bind (toIntS_ev out (by omega)) (ev_some rfl))
theorem eqSequence_ev (b : Int) (next : List (List Int)) (out : List Int) (h2 : fit2 next) (h3 : fit1 out) : Ev (fun k => laws_eqSequence.f k b next out b next out) true := by
 unfold fit1 at h3
 simp only [laws_eqSequence.f]
 exact ev_pos trivial (ev_bind (eqIntSS_ev next h2) (ev_pos rfl (ev_bind (eqIntS_ev out (by omega)) (ev_pos rfl (ev_some rfl)))))
theorem eqLinear_ev (b : Int) (row : List Int) (mats : List (List (List Int))) (col : List Int) (h1 : fit1 row) (h2 : fit3 mats) (h3 : fit1 col) : Ev (fun k => laws_eqLinear.f k b row mats col b row mats col) true := by
 unfold fit1 at h1 h3
 simp only [laws_eqLinear.f]
 exact ev_pos trivial (ev_bind (eqIntS_ev row (by omega)) (ev_pos rfl (ev_bind (eqIntSSS_ev mats h2) (ev_pos rfl (ev_bind (eqIntS_ev col (by omega)) (ev_pos rfl (ev_some rfl)))))))
def marks (m : Int) : Nat → List Int
 | 0 => []
 | n + 1 => m :: marks (m + 1) n
theorem marks_length (n : Nat) : ∀ m, (marks m n).length = n := by
 induction n with
 | zero => intro m; rfl
 | succ n ih => intro m; simp [marks, ih]
theorem marks_get (n : Nat) : ∀ (m : Int) (i : Nat), i < n → (marks m n)[i]? = some (m + i) := by
 induction n with
 | zero => intro m i h; omega
 | succ n ih =>
  intro m i h
  cases i with
  | zero => simp [marks]
  | succ i => simp only [marks, List.getElem?_cons_succ]; rw [ih (m + 1) i (by omega)]; congr 1; omega
theorem heldIntS_l0 (n : Nat) (m : Int) (h0 : 0 ≤ m) (hm : m + n ≤ 4611686018427387904) (d : Nat) : ∀ (i : Nat), i + d = n → 
  Ev (fun k => laws_heldIntS.l0 k (marks m n) (m + i) (i : Int)) (m + n) := by
 induction d with
 | zero =>
  intro i hi
  refine ev_succ ?_
  simp only [laws_heldIntS.l0, marks_length]
  refine ev_neg (by omega) (ev_some ?_)
  omega
 | succ d ih =>
  intro i hi
  refine ev_succ ?_
  simp only [laws_heldIntS.l0, marks_length, wr1 (show (0 : Int) ≤ (i : Int) by omega) (by omega), wr1 (show (0 : Int) ≤ m + (i : Int) by omega) (by omega)]
  refine ev_pos (by omega) (ev_pos (by omega) (ev_pos ?_ ?_))
  ·have h := marks_get n m i (by omega)
   rw [rd_nat, List.getD_eq_getElem?_getD, h]; rfl
  ·have := ih (i + 1) (by omega)
   rw [Int.add_assoc]
   exact this
theorem heldIntS_ev (m : Int) (n : Nat) (h0 : 0 ≤ m) (hm : m + n ≤ 4611686018427387904) : Ev (fun k => laws_heldIntS.f k (marks m n) m) (m + n) := by
 simp only [laws_heldIntS.f]
 have := heldIntS_l0 n m h0 hm n 0 (by omega)
 simpa using this
theorem mks1_eq (n : Nat) : ∀ m, mks1 m n = marks m n := by
 induction n with
 | zero => intro m; rfl
 | succ n ih => intro m; simp [mks1, marks, ih]
theorem mks2_length (xs : List (List Int)) : ∀ m, (mks2 m xs).length = xs.length := by
 induction xs with
 | nil => intro m; rfl
 | cons x xs ih => intro m; simp [mks2, ih]
theorem mks3_length (xs : List (List (List Int))) : ∀ m, (mks3 m xs).length = xs.length := by
 induction xs with
 | nil => intro m; rfl
 | cons x xs ih => intro m; simp [mks3, ih]
theorem mtot2_b (xs : List (List Int)) : ∀ m, (∀ r ∈ xs, fit1 r) → m ≤ mtot2 m xs ∧ mtot2 m xs ≤ m + 1048576 * (xs.length : Int) := by
 induction xs with
 | nil => intro m _; simp [mtot2]
 | cons x xs ih =>
  intro m h
  have h1 := ih (m + (x.length : Int)) (fun r hr => h r (List.mem_cons_of_mem _ hr))
  have h2 := h x List.mem_cons_self
  unfold fit1 at h2
  simp only [mtot2, List.length_cons]
  omega
theorem mtot3_b (xs : List (List (List Int))) : ∀ m, (∀ r ∈ xs, fit2 r) → m ≤ mtot3 m xs ∧ mtot3 m xs ≤ m + 1099511627776 * (xs.length : Int) := by
 induction xs with
 | nil => intro m _; simp [mtot3]
 | cons x xs ih =>
  intro m h
  have h1 := ih (mtot2 m x) (fun r hr => h r (List.mem_cons_of_mem _ hr))
  have h2 := h x List.mem_cons_self
  have h3 := mtot2_b x m h2.2
  have h4 := h2.1
  simp only [mtot3, List.length_cons]
  omega
theorem mks2_get (xs : List (List Int)) : ∀ (m : Int) (i : Nat) (hi : i < xs.length), (mks2 m xs)[i]? = some (mks1 (mtot2 m (xs.take i)) xs[i].length) ∧ mtot2 m (xs.take (i + 1)) = mtot2 m (xs.take i) + (xs[i].length : Int) := by
 induction xs with
 | nil => intro m i hi; simp at hi
 | cons x xs ih =>
  intro m i hi
  cases i with
  | zero => simp [mks2, mtot2]
  | succ i =>
   have h := ih (m + (x.length : Int)) i (by simpa using hi)
   simp only [mks2, List.getElem?_cons_succ, List.take_succ_cons, mtot2, List.getElem_cons_succ]
   exact h
theorem mks3_get (xs : List (List (List Int))) : ∀ (m : Int) (i : Nat) (hi : i < xs.length), (mks3 m xs)[i]? = some (mks2 (mtot3 m (xs.take i)) xs[i]) ∧ mtot3 m (xs.take (i + 1)) = mtot2 (mtot3 m (xs.take i)) xs[i] := by
 induction xs with
 | nil => intro m i hi; simp at hi
 | cons x xs ih =>
  intro m i hi
  cases i with
  | zero => simp [mks3, mtot3]
  | succ i =>
   have h := ih (mtot2 m x) i (by simpa using hi)
   simp only [mks3, List.getElem?_cons_succ, List.take_succ_cons, mtot3, List.getElem_cons_succ]
   exact h
theorem heldIntSS_l0 (xs : List (List Int)) (hf : fit2 xs) (m : Int) (h0 : 0 ≤ m) (hm : m ≤ 1152921504606846976) (d : Nat) : ∀ i : Nat, i + d = xs.length →
  Ev (fun k => laws_heldIntSS.l0 k (mks2 m xs) (mtot2 m (xs.take i)) (i : Int)) (mtot2 m xs) := by
 have hl := hf.1
 induction d with
 | zero =>
  intro i hi
  refine ev_succ ?_
  simp only [laws_heldIntSS.l0, mks2_length]
  refine ev_neg (by omega) (ev_some ?_)
  rw [List.take_of_length_le (by omega)]
 | succ d ih =>
  intro i hi
  have hil : i < xs.length := by omega
  have h := mks2_get xs m i hil
  have hb := mtot2_b (xs.take i) m (fun r hr => hf.2 r (List.mem_of_mem_take hr))
  rw [List.length_take] at hb
  have hx := hf.2 _ (List.getElem_mem hil)
  unfold fit1 at hx
  have e : rd_L1 (mks2 m xs) (i : Int) = marks (mtot2 m (xs.take i)) xs[i].length := by
   rw [rdLL_at (by rw [mks2_length]; omega), ← mks1_eq]
   exact Option.some.inj ((List.getElem?_eq_getElem _).symm.trans h.1)
  have hi' := ih (i + 1) (by omega)
  rw [h.2] at hi'
  refine ev_succ ?_
  simp only [laws_heldIntSS.l0, mks2_length, wr1 (show (0 : Int) ≤ (i : Int) by omega) (by omega)]
  rw [e]
  exact ev_pos (by omega) (ev_pos (by omega) (ev_bind (heldIntS_ev _ _ (by omega) (by omega)) (ev_neg (by omega) hi')))
theorem heldIntSS_ev (xs : List (List Int)) (hf : fit2 xs) (m : Int) (h0 : 0 ≤ m) (hm : m ≤ 1152921504606846976) : Ev (fun k => laws_heldIntSS.f k (mks2 m xs) m) (mtot2 m xs) := by
 simp only [laws_heldIntSS.f]
 exact heldIntSS_l0 xs hf m h0 hm xs.length 0 (by omega)
theorem heldIntSSS_l0 (xs : List (List (List Int))) (hl : xs.length ≤ 1024) (hf : ∀ r ∈ xs, fit2 r) (m : Int) (h0 : 0 ≤ m) (hm : m ≤ 4611686018427387) (d : Nat) : ∀ i : Nat, i + d = xs.length →
  Ev (fun k => laws_heldIntSSS.l0 k (mks3 m xs) (mtot3 m (xs.take i)) (i : Int)) (mtot3 m xs) := by
 induction d with
 | zero =>
  intro i hi
  refine ev_succ ?_
  simp only [laws_heldIntSSS.l0, mks3_length]
  refine ev_neg (by omega) (ev_some ?_)
  rw [List.take_of_length_le (by omega)]
 | succ d ih =>
  intro i hi
  have hil : i < xs.length := by omega
  have h := mks3_get xs m i hil
  have hb := mtot3_b (xs.take i) m (fun r hr => hf r (List.mem_of_mem_take hr))
  rw [List.length_take] at hb
  have hx := hf _ (List.getElem_mem hil)
  have hb2 := mtot2_b xs[i] (mtot3 m (xs.take i)) hx.2
  have e : rd_L2 (mks3 m xs) (i : Int) = mks2 (mtot3 m (xs.take i)) xs[i] := by
   rw [rdLLL_at (by rw [mks3_length]; omega)]
   exact Option.some.inj ((List.getElem?_eq_getElem _).symm.trans h.1)
  have hi' := ih (i + 1) (by omega)
  rw [h.2] at hi'
  refine ev_succ ?_
  simp only [laws_heldIntSSS.l0, mks3_length, wr1 (show (0 : Int) ≤ (i : Int) by omega) (by omega)]
  rw [e]
  exact ev_pos (by omega) (ev_pos (by omega) (ev_bind (heldIntSS_ev _ hx _ (by omega) (by omega)) (ev_neg (by omega) hi')))
theorem heldIntSSS_ev (xs : List (List (List Int))) (hl : xs.length ≤ 1024) (hf : ∀ r ∈ xs, fit2 r) (m : Int) (h0 : 0 ≤ m) (hm : m ≤ 4611686018427387) : Ev (fun k => laws_heldIntSSS.f k (mks3 m xs) m) (mtot3 m xs) := by
 simp only [laws_heldIntSSS.f]
 exact heldIntSSS_l0 xs hl hf m h0 hm xs.length 0 (by omega)
theorem heldLinear_ev (b : Int) (row : List Int) (mats : List (List (List Int))) (col : List Int) (h1 : fit1 row) (hl : mats.length ≤ 1024) (hf : ∀ r ∈ mats, fit2 r) (h3 : fit1 col) :
  Ev (fun k => laws_heldLinear.f k b (mks1 1 row.length) (mks3 (1 + (row.length : Int)) mats) (mks1 (mtot3 (1 + (row.length : Int)) mats) col.length) 1) (mtot3 (1 + (row.length : Int)) mats + (col.length : Int)) := by
 unfold fit1 at h1 h3
 have hb := mtot3_b mats (1 + (row.length : Int)) hf
 simp only [laws_heldLinear.f, mks1_eq]
 refine ev_bind (heldIntS_ev 1 row.length (by omega) (by omega)) (ev_neg (by omega) ?_)
 refine ev_bind (heldIntSSS_ev mats hl hf _ (by omega) (by omega)) ?_
 refine ev_neg (by omega) ?_
 refine ev_bind (heldIntS_ev _ _ (by omega) (by omega)) ?_
 exact ev_neg (by omega) (ev_some rfl)
theorem mlim1b_of {l : List Int} (h : fit1 l) : mlim1b l = true := decide_eq_true h
theorem mlim2b_of {l : List (List Int)} (h : fit2 l) : mlim2b l = true := by
 unfold mlim2b
 rw [Bool.and_eq_true, List.all_eq_true]
 exact ⟨decide_eq_true h.1, fun r hr => mlim1b_of (h.2 r hr)⟩
theorem mlim3b_of {l : List (List (List Int))} (hl : l.length ≤ 1024) (hf : ∀ r ∈ l, fit2 r) : mlim3b l = true := by
 unfold mlim3b
 rw [Bool.and_eq_true, List.all_eq_true]
 exact ⟨decide_eq_true hl, fun r hr => mlim2b_of (hf r hr)⟩
theorem l1In_eq (a b c : Int) : spec_l1In.f a b c = some (decide (b ≤ a ∧ a ≤ c)) := by
 unfold spec_l1In.f
 by_cases h : a ≥ b
 ·rw [if_pos h]; simp [show b ≤ a from h]
 ·rw [if_neg h]; simp [show ¬ b ≤ a from h]
theorem tmod_nat (a b : Nat) : Int.tmod (a : Int) (b : Int) = ((a % b : Nat) : Int) := by
 rw [Int.tmod_eq_emod_of_nonneg (by omega)]; exact (Int.natCast_emod a b).symm
theorem isBase_eq (b : Int) : impl_isBase.f b = some (decide (2 ≤ b ∧ b ≤ 4)) := by
 unfold impl_isBase.f
 by_cases h : b ≥ 2
 ·rw [if_pos h]; simp [show 2 ≤ b from h]
 ·rw [if_neg h]; simp [show ¬ 2 ≤ b from h]
theorem all_rd_true {p : Int → Bool} {l : List Int} (h : l.all p = true) {i : Nat} (hi : i < l.length) : p (rd l (i : Int)) = true := List.all_eq_true.1 h _ (rd_mem hi)
def inR (m x : Int) : Bool := decide (0 ≤ x ∧ x < m)
def seqRow (b m : Int) (r : List Int) : Bool := decide ((r.length : Int) = b) && r.all (inR m)
def outOk (x : Int) : Bool := decide (0 ≤ x ∧ x ≤ 3)
def isSeq (b : Int) (next : List (List Int)) (out : List Int) : Bool :=
 decide (2 ≤ b ∧ b ≤ 4) && decide (1 ≤ next.length ∧ next.length ≤ 16) && decide (out.length = next.length) && next.all (seqRow b next.length) && out.all outOk
theorem spec_seq_l2 (b : Int) (next : List (List Int)) (out : List Int) (h2 : fit1 out) (hr : next.all (seqRow b next.length) = true) (d : Nat) : ∀ i : Nat, i + d = out.length → (out.take i).all outOk = true →
  Ev (fun k => spec_IsSequence.l2 k (i : Int) b next out) (isSeq b next out) := by
 unfold fit1 at h2
 induction d with
 | zero =>
  intro i hi ht
  refine ev_succ ?_
  simp only [spec_IsSequence.l2, l1In_eq, Option.bind_some]
  rw [List.take_of_length_le (by omega)] at ht
  refine ev_neg (by omega) ?_
  unfold isSeq
  rw [hr, ht]
  by_cases hb : 2 ≤ b ∧ b ≤ 4
  ·rw [decide_eq_true hb]
   refine ev_pos (by simp) ?_
   by_cases hm : 1 ≤ next.length ∧ next.length ≤ 16
   ·rw [decide_eq_true hm]
    refine ev_pos (by simp; omega) (ev_some ?_)
    simp only [Bool.true_and, Bool.and_true]
    rw [Bool.eq_iff_iff]; simp; omega
   ·rw [decide_eq_false hm]
    exact ev_neg (by simp; omega) (ev_some (by simp))
  ·rw [decide_eq_false hb]
   exact ev_neg (by simp) (ev_some (by simp))
 | succ d ih =>
  intro i hi ht
  refine ev_succ ?_
  simp only [spec_IsSequence.l2, l1In_eq, Option.bind_some, wr1 (show (0 : Int) ≤ (i : Int) by omega) (by omega)]
  refine ev_pos (by omega) (ev_pos (by omega) (ev_ite (fun h => ih (i + 1) (by omega) ?_) (fun h => ev_some ?_)))
  ·rw [List.take_succ_eq_append_getElem (by omega), ← rd_get (by omega), List.all_append, ht]; simpa [outOk] using h
  ·symm
   unfold isSeq
   have : out.all outOk = false := by
    rw [Bool.eq_false_iff]
    intro hall
    exact h (by simpa [outOk] using all_rd_true hall (show i < out.length by omega))
   rw [this]; simp
theorem spec_seq_l1 (b : Int) (next : List (List Int)) (out : List Int) (hf : fit2 next) (a : Nat) (ha : a < next.length) (r : List Int) (hr : r = rd_L1 next (a : Int)) (R : Bool)
  (H : r.all (inR next.length) = true → Ev (fun k => spec_IsSequence.l0 k ((a + 1 : Nat) : Int) b next out) R) (H2 : r.all (inR next.length) = false → R = false) (d : Nat) : ∀ j : Nat, j + d = r.length → (r.take j).all (inR next.length) = true →
  Ev (fun k => spec_IsSequence.l1 k (a : Int) (j : Int) b next out) R := by
 have h1 := hf.1
 have h2 := hf.2 _ (rdLL_mem ha)
 rw [← hr] at h2
 unfold fit1 at h2
 induction d with
 | zero =>
  intro j hj ht
  refine ev_succ ?_
  simp only [spec_IsSequence.l1]
  rw [← hr, wr1 (show (0 : Int) ≤ (a : Int) by omega) (by omega)]
  rw [List.take_of_length_le (by omega)] at ht
  exact ev_pos (by omega) (ev_pos (by omega) (ev_neg (by omega) (H ht)))
 | succ d ih =>
  intro j hj ht
  refine ev_succ ?_
  simp only [spec_IsSequence.l1, wr1 (show (0 : Int) ≤ (j : Int) by omega) (by omega)]
  rw [← hr]
  have nope : ¬ (0 ≤ rd r (j : Int) ∧ rd r (j : Int) < (next.length : Int)) → R = false := by
   intro h
   refine H2 ?_
   rw [Bool.eq_false_iff]
   intro hall
   have := all_rd_true hall (show j < r.length by omega)
   simp only [inR, decide_eq_true_eq] at this
   exact h this
  refine ev_pos (by omega) (ev_pos (by omega) (ev_pos (by omega) (ev_pos (by omega) (ev_ite (fun h => ev_some (nope (by omega)).symm) (fun h => ev_ite (fun h' => ev_some (nope (by omega)).symm) (fun h' => ih (j + 1) (by omega) ?_))))))
  rw [List.take_succ_eq_append_getElem (by omega), ← rd_get (by omega), List.all_append, ht]
  simp only [List.all_cons, List.all_nil, inR, decide_eq_true (show 0 ≤ rd r (j : Int) ∧ rd r (j : Int) < (next.length : Int) by omega), Bool.and_self]
theorem spec_seq_l0 (b : Int) (next : List (List Int)) (out : List Int) (hf : fit2 next) (h2 : fit1 out) (d : Nat) : ∀ a : Nat, a + d = next.length → (next.take a).all (seqRow b next.length) = true →
  Ev (fun k => spec_IsSequence.l0 k (a : Int) b next out) (isSeq b next out) := by
 have h1 := hf.1
 induction d with
 | zero =>
  intro a hi ht
  refine ev_succ ?_
  simp only [spec_IsSequence.l0]
  rw [List.take_of_length_le (by omega)] at ht
  exact ev_neg (by omega) (spec_seq_l2 b next out h2 ht out.length 0 (by omega) (by simp))
 | succ d ih =>
  intro a hi ht
  refine ev_succ ?_
  simp only [spec_IsSequence.l0]
  have nope : seqRow b next.length (rd_L1 next (a : Int)) = false → isSeq b next out = false := by
   intro h
   have : next.all (seqRow b next.length) = false := by
    rw [Bool.eq_false_iff]
    intro hall
    rw [List.all_eq_true.1 hall _ (rdLL_mem (show a < next.length by omega))] at h
    cases h
   unfold isSeq
   rw [this]; simp
  refine ev_pos (by omega) (ev_pos (by omega) (ev_ite (fun h => ?_) (fun h => ev_some (nope ?_).symm)))
  ·refine spec_seq_l1 b next out hf a (by omega) _ rfl _ (fun hall => ih (a + 1) (by omega) ?_) (fun hall => nope ?_) (rd_L1 next (a : Int)).length 0 (by omega) (by simp)
   ·rw [List.take_succ_eq_append_getElem (by omega), ← rdLL_at (by omega), List.all_append, ht]
    simp only [List.all_cons, List.all_nil, seqRow, hall, decide_eq_true h, Bool.and_self]
   ·simp only [seqRow, hall, Bool.and_false]
  ·simp only [seqRow, decide_eq_false h, Bool.false_and]
theorem spec_IsSequence_ev (b : Int) (next : List (List Int)) (out : List Int) (h1 : fit2 next) (h2 : fit1 out) : Ev (fun k => spec_IsSequence.f k b next out) (isSeq b next out) := by
 simp only [spec_IsSequence.f]
 exact spec_seq_l0 b next out h1 h2 next.length 0 (by omega) (by simp)
theorem impl_seq_l1 (b : Int) (next : List (List Int)) (out : List Int) (hf : fit2 next) (a : Nat) (ha : a < next.length) (r : List Int) (hrl : r.length ≤ 1048576) (R : Bool)
  (H : r.all (inR next.length) = true → Ev (fun k => impl_IsSequence.l0 k (next.length : Int) next (next.length : Int) ((a + 1 : Nat) : Int) b next out) R) (H2 : r.all (inR next.length) = false → R = false) (d : Nat) : ∀ j : Nat, j + d = r.length → (r.take j).all (inR next.length) = true →
  Ev (fun k => impl_IsSequence.l1 k (next.length : Int) next (next.length : Int) (a : Int) r (r.length : Int) (j : Int) b next out) R := by
 have h1 := hf.1
 induction d with
 | zero =>
  intro j hj ht
  refine ev_succ ?_
  simp only [impl_IsSequence.l1]
  rw [wr1 (show (0 : Int) ≤ (a : Int) by omega) (by omega)]
  rw [List.take_of_length_le (by omega)] at ht
  exact ev_neg (by omega) (H ht)
 | succ d ih =>
  intro j hj ht
  refine ev_succ ?_
  simp only [impl_IsSequence.l1, wr1 (show (0 : Int) ≤ (j : Int) by omega) (by omega)]
  have nope : ¬ (0 ≤ rd r (j : Int) ∧ rd r (j : Int) < (next.length : Int)) → R = false := by
   intro h
   refine H2 ?_
   rw [Bool.eq_false_iff]
   intro hall
   have := all_rd_true hall (show j < r.length by omega)
   simp only [inR, decide_eq_true_eq] at this
   exact h this
  refine ev_pos (by omega) (ev_pos (by omega) (ev_pos (by omega) (ev_ite (fun h => ev_some (nope (by omega)).symm) (fun h => ev_ite (fun h' => ev_some (nope (by omega)).symm) (fun h' => ih (j + 1) (by omega) ?_)))))
  rw [List.take_succ_eq_append_getElem (by omega), ← rd_get (by omega), List.all_append, ht]
  simp only [List.all_cons, List.all_nil, inR, decide_eq_true (show 0 ≤ rd r (j : Int) ∧ rd r (j : Int) < (next.length : Int) by omega), Bool.and_self]
theorem impl_seq_l0 (b : Int) (next : List (List Int)) (out : List Int) (hb : 2 ≤ b ∧ b ≤ 4) (hn : 1 ≤ next.length ∧ next.length ≤ 16) (ho : out.length = next.length) (hf : fit2 next) (d : Nat) : ∀ a : Nat, a + d = next.length → (next.take a).all (seqRow b next.length) = true → (out.take a).all outOk = true →
  Ev (fun k => impl_IsSequence.l0 k (next.length : Int) next (next.length : Int) (a : Int) b next out) (isSeq b next out) := by
 induction d with
 | zero =>
  intro a hi ht hu
  refine ev_succ ?_
  simp only [impl_IsSequence.l0]
  rw [List.take_of_length_le (by omega)] at ht hu
  refine ev_neg (by omega) (ev_some ?_)
  unfold isSeq
  rw [ht, hu, decide_eq_true hb, decide_eq_true hn, decide_eq_true ho]; rfl
 | succ d ih =>
  intro a hi ht hu
  refine ev_succ ?_
  simp only [impl_IsSequence.l0]
  have nope1 : seqRow b next.length (rd_L1 next (a : Int)) = false → isSeq b next out = false := by
   intro h
   have : next.all (seqRow b next.length) = false := by
    rw [Bool.eq_false_iff]
    intro hall
    rw [List.all_eq_true.1 hall _ (rdLL_mem (show a < next.length by omega))] at h
    cases h
   unfold isSeq
   rw [this]; simp
  have nope2 : outOk (rd out (a : Int)) = false → isSeq b next out = false := by
   intro h
   have : out.all outOk = false := by
    rw [Bool.eq_false_iff]
    intro hall
    rw [all_rd_true hall (show a < out.length by omega)] at h
    cases h
   unfold isSeq
   rw [this]; simp
  have hr := hf.2 _ (rdLL_mem (show a < next.length by omega))
  unfold fit1 at hr
  have bad : ∀ f : Bool, f = true → isSeq b next out = false → Ev (fun k => impl_IsSequence.j2 k (next.length : Int) (rd_L1 next (a : Int)) next (next.length : Int) (a : Int) f b next out) (isSeq b next out) := by
   intro f hf h
   subst hf
   refine ev_succ ?_
   simp only [impl_IsSequence.j2]
   exact ev_pos trivial (ev_some h.symm)
  refine ev_pos (by omega) (ev_pos (by omega) (ev_pos (by omega) (ev_ite (fun h => ev_pos (by omega) (ev_ite (fun h2 => bad _ rfl (nope2 ?_)) (fun h2 => ?_))) (fun h => bad _ rfl (nope1 ?_)))))
  ·simp only [outOk, decide_eq_false (show ¬ (0 ≤ rd out (a : Int) ∧ rd out (a : Int) ≤ 3) by omega)]
  ·by_cases h3 : rd out (a : Int) > 3
   ·refine bad _ (by simpa using h3) (nope2 ?_)
    simp only [outOk, decide_eq_false (show ¬ (0 ≤ rd out (a : Int) ∧ rd out (a : Int) ≤ 3) by omega)]
   ·rw [decide_eq_false h3]
    refine ev_succ ?_
    simp only [impl_IsSequence.j2]
    refine ev_neg (by simp) ?_
    refine impl_seq_l1 b next out hf a (by omega) _ hr _ (fun hall => ih (a + 1) (by omega) ?_ ?_) (fun hall => nope1 ?_) (rd_L1 next (a : Int)).length 0 (by omega) (by simp)
    ·rw [List.take_succ_eq_append_getElem (by omega), ← rdLL_at (by omega), List.all_append, ht]
     simp only [List.all_cons, List.all_nil, seqRow, hall, decide_eq_true h, Bool.and_self]
    ·rw [List.take_succ_eq_append_getElem (by omega), ← rd_get (by omega), List.all_append, hu]
     simp only [List.all_cons, List.all_nil, outOk, decide_eq_true (show 0 ≤ rd out (a : Int) ∧ rd out (a : Int) ≤ 3 by omega), Bool.and_self]
    ·simp only [seqRow, hall, Bool.and_false]
  ·simp only [seqRow, decide_eq_false h, Bool.false_and]
theorem impl_IsSequence_ev (b : Int) (next : List (List Int)) (out : List Int) (h1 : fit2 next) (h2 : fit1 out) : Ev (fun k => impl_IsSequence.f k b next out) (isSeq b next out) := by
 unfold fit1 at h2
 simp only [impl_IsSequence.f, isBase_eq, Option.bind_some]
 have no : ∀ f : Bool, f = true → isSeq b next out = false → Ev (fun k => impl_IsSequence.j0 k (next.length : Int) f b next out) (isSeq b next out) := by
  intro f hf h
  subst hf
  refine ev_succ ?_
  simp only [impl_IsSequence.j0]
  exact ev_pos trivial (ev_some h.symm)
 by_cases hb : 2 ≤ b ∧ b ≤ 4
 ·refine ev_pos (by simpa using hb) (ev_ite (fun h => no _ rfl ?_) (fun h => ev_ite (fun h' => no _ rfl ?_) (fun h' => ?_)))
  ·unfold isSeq; rw [decide_eq_false (show ¬ (1 ≤ next.length ∧ next.length ≤ 16) by omega)]; simp
  ·unfold isSeq; rw [decide_eq_false (show ¬ (1 ≤ next.length ∧ next.length ≤ 16) by omega)]; simp
  ·by_cases ho : out.length = next.length
   ·refine ev_succ ?_
    simp only [impl_IsSequence.j0]
    exact ev_neg (by simp [ho]) (impl_seq_l0 b next out hb (by omega) ho h1 next.length 0 (by omega) (by simp) (by simp))
   ·refine no _ (by simp; omega) ?_
    unfold isSeq; rw [decide_eq_false ho]; simp
 ·refine ev_neg (by simpa using hb) (no _ rfl ?_)
  unfold isSeq; rw [decide_eq_false hb]; simp
theorem oneIf_eq (b : Bool) : impl_oneIf.f b = some (if b = true then 1 else 0) := by
 unfold impl_oneIf.f
 cases b <;> rfl
theorem isSeq_facts {b : Int} {next : List (List Int)} {out : List Int} (h : isSeq b next out = true) : (2 ≤ b ∧ b ≤ 4) ∧ (1 ≤ next.length ∧ next.length ≤ 16) ∧ out.length = next.length ∧
  (∀ r ∈ next, (r.length : Int) = b ∧ ∀ x ∈ r, 0 ≤ x ∧ x < (next.length : Int)) ∧ ∀ x ∈ out, 0 ≤ x ∧ x ≤ 3 := by
 unfold isSeq at h
 simp only [Bool.and_eq_true, decide_eq_true_eq, List.all_eq_true] at h
 obtain ⟨⟨⟨⟨h1, h2⟩, h3⟩, h4⟩, h5⟩ := h
 refine ⟨h1, h2, h3, fun r hr => ?_, fun x hx => by simpa [outOk] using h5 x hx⟩
 have := h4 r hr
 simp only [seqRow, Bool.and_eq_true, decide_eq_true_eq, List.all_eq_true] at this
 exact ⟨this.1, fun x hx => by simpa [inR] using this.2 x hx⟩
theorem Clone_eq (l : List Int) (h : l.length ≤ 1000000) : slices_Clone_int_int.f l = some l := by
 simp only [slices_Clone_int_int.f, Option.bind_some, List.nil_append]
 rw [if_pos (by simp only [List.length_nil]; omega)]
def mkV (n : Nat) (f : Nat → Int) : List Int := (List.range n).map f
theorem mkV_length (n : Nat) (f : Nat → Int) : (mkV n f).length = n := by simp [mkV]
theorem mkV_rd (n : Nat) (f : Nat → Int) (i : Nat) (h : i < n) : rd (mkV n f) (i : Int) = f i := by
 rw [rd_get (by rw [mkV_length]; exact h)]; simp [mkV]
theorem mkV_set (n : Nat) (f : Nat → Int) (i : Nat) (v : Int) : (mkV n f).set i v = mkV n (fun t => if t = i then v else f t) := by
 apply List.ext_getElem?
 intro t
 rw [List.getElem?_set]
 by_cases ht : t < n
 ·have e : ∀ g : Nat → Int, (mkV n g)[t]? = some (g t) := by intro g; simp [mkV, ht]
  rw [e, e]
  by_cases h : i = t
  ·subst h
   rw [if_pos rfl, if_pos (by rw [mkV_length]; exact ht), if_pos rfl]
  ·rw [if_neg h, if_neg (fun h' => h h'.symm)]
 ·rw [List.getElem?_eq_none (by rw [mkV_length]; omega), List.getElem?_eq_none (by rw [mkV_length]; omega)]
  split
  ·rw [if_neg (by rw [mkV_length]; omega)]
  ·rfl
theorem mkV_congr (n : Nat) (f g : Nat → Int) (h : ∀ t, t < n → f t = g t) : mkV n f = mkV n g := by
 unfold mkV
 exact List.map_congr_left (fun t ht => h t (List.mem_range.1 ht))
theorem mkV_zero (n : Nat) : List.replicate n (0 : Int) = mkV n (fun _ => 0) := by
 unfold mkV
 rw [List.map_const', List.length_range]
section
variable {b : Int} {row : List Int} {mats : List (List (List Int))} {col : List Int}
end
namespace Numb
variable {α β : Type} [DecidableEq α] [DecidableEq β]
def find (key : α) : List α → Nat → Option Nat
 | [], _ => none
 | x :: xs, n => if x = key then some n else find key xs (n + 1)
def go : List α → List α → List Nat
 | [], _ => []
 | k :: ks, seen => match find k seen 0 with
  | some i => i :: go ks seen
  | none => seen.length :: go ks (seen ++ [k])
def fin : List α → List α → List α
 | [], seen => seen
 | k :: ks, seen => match find k seen 0 with
  | some _ => fin ks seen
  | none => fin ks (seen ++ [k])
def num (ks : List α) : List Nat := go ks []
def many (ks : List α) : Nat := (fin ks []).length
theorem find_none {key : α} : ∀ {l : List α} {n}, find key l n = none ↔ key ∉ l
 | [], n => by simp [find]
 | x :: xs, n => by
  unfold find; split
  ·rename_i h; simp [h]
  ·rename_i h; rw [find_none]; simp; intro _ e; exact h e.symm
theorem find_some {key : α} : ∀ {l : List α} {n i}, find key l n = some i → n ≤ i ∧ l[i - n]? = some key ∧ ∀ j, j < i - n → l[j]? ≠ some key
 | [], n, i, h => by simp [find] at h
 | x :: xs, n, i, h => by
  unfold find at h; split at h
  ·rename_i e; cases h; simp [e]
  ·rename_i e
   obtain ⟨h1, h2, h3⟩ := find_some h
   refine ⟨by omega, ?_, fun j hj => ?_⟩
   ·rw [show i - n = (i - (n + 1)) + 1 from by omega]; simpa using h2
   ·cases j with
    | zero => simpa using e
    | succ j => simpa using h3 j (by omega)
theorem find_at {key : α} {l : List α} (hn : l.Nodup) {i : Nat} (h : l[i]? = some key) : find key l 0 = some i := by
 cases e : find key l 0 with
 | none => rw [find_none] at e; exact absurd (List.mem_of_getElem? h) e
 | some j =>
  obtain ⟨-, h2, -⟩ := find_some e
  simp only [Nat.sub_zero] at h2
  obtain ⟨hi, e1⟩ := List.getElem?_eq_some_iff.1 h
  obtain ⟨hj, e2⟩ := List.getElem?_eq_some_iff.1 h2
  have := (List.getElem_inj hn).1 (e1.trans e2.symm)
  rw [this]
theorem length_go : ∀ {ks seen : List α}, (go ks seen).length = ks.length
 | [], seen => rfl
 | k :: ks, seen => by
  unfold go; split <;> simp [length_go]
theorem fin_nodup : ∀ {ks seen : List α}, seen.Nodup → (fin ks seen).Nodup
 | [], seen, h => h
 | k :: ks, seen, h => by
  unfold fin; split
  ·exact fin_nodup h
  ·rename_i e
   exact fin_nodup (by rw [List.nodup_append]; refine ⟨h, by simp, fun a ha b hb => ?_⟩; simp at hb; subst hb; rintro rfl; exact (find_none.1 e) ha)
theorem fin_mem : ∀ {ks seen : List α} {x : α}, x ∈ fin ks seen ↔ x ∈ seen ∨ x ∈ ks
 | [], seen, x => by simp [fin]
 | k :: ks, seen, x => by
  unfold fin; split
  ·rename_i i e
   rw [fin_mem]
   have := find_some e
   have hk : k ∈ seen := List.mem_of_getElem? this.2.1
   simp; constructor
   ·rintro (h | h); exact .inl h; exact .inr (.inr h)
   ·rintro (h | rfl | h); exact .inl h; exact .inl hk; exact .inr h
  ·rw [fin_mem]; simp [or_assoc]
theorem fin_prefix : ∀ {ks seen : List α} {i : Nat} {x : α}, seen[i]? = some x → (fin ks seen)[i]? = some x
 | [], seen, i, x, h => h
 | k :: ks, seen, i, x, h => by
  unfold fin; split
  ·exact fin_prefix h
  ·exact fin_prefix (by rw [List.getElem?_append_left (List.getElem?_eq_some_iff.1 h).1]; exact h)
theorem go_at : ∀ {ks seen : List α}, seen.Nodup → go ks seen = ks.map fun k => (find k (fin ks seen) 0).getD 0
 | [], seen, _ => rfl
 | k :: ks, seen, h => by
  unfold go fin
  split
  ·rename_i i e
   have h2 := (find_some e).2.1
   simp only [Nat.sub_zero] at h2
   simp only [List.map_cons]
   rw [go_at h, find_at (fin_nodup h) (fin_prefix h2)]; rfl
  ·rename_i e
   have h' : (seen ++ [k]).Nodup := by
    rw [List.nodup_append]; refine ⟨h, by simp, fun a ha b hb => ?_⟩; simp at hb; subst hb; rintro rfl; exact (find_none.1 e) ha
   simp only [List.map_cons]
   rw [go_at h', find_at (fin_nodup h') (fin_prefix (i := seen.length) (by simp))]; rfl
theorem num_eq {ks : List α} : num ks = ks.map fun k => (find k (fin ks []) 0).getD 0 := go_at List.nodup_nil
theorem find_lt {ks : List α} {k : α} (h : k ∈ ks) : ∃ i, find k (fin ks []) 0 = some i ∧ i < many ks := by
 have hm : k ∈ fin ks [] := fin_mem.2 (.inr h)
 cases e : find k (fin ks []) 0 with
 | none => exact absurd hm (find_none.1 e)
 | some i => exact ⟨i, rfl, (List.getElem?_eq_some_iff.1 ((find_some e).2.1)).1⟩
theorem num_inj {ks : List α} {a b : α} (ha : a ∈ ks) (hb : b ∈ ks) (h : (find a (fin ks []) 0).getD 0 = (find b (fin ks []) 0).getD 0) : a = b := by
 obtain ⟨i, e1, -⟩ := find_lt ha
 obtain ⟨j, e2, -⟩ := find_lt hb
 rw [e1, e2] at h; simp at h; subst h
 have h1 := (find_some e1).2.1
 have h2 := (find_some e2).2.1
 exact Option.some.inj (h1.symm.trans h2)
theorem num_inj' {ks : List α} {i j : Nat} (hi : i < ks.length) (hj : j < ks.length) (h : (num ks)[i]? = (num ks)[j]?) : ks[i] = ks[j] := by
 rw [num_eq] at h; simp [hi, hj] at h
 exact num_inj (by simp) (by simp) h
theorem go_same : ∀ (zs sn : List (α × β)), (∀ p ∈ sn ++ zs, ∀ q ∈ sn ++ zs, (p.1 = q.1 ↔ p.2 = q.2)) → go (zs.map (·.1)) (sn.map (·.1)) = go (zs.map (·.2)) (sn.map (·.2)) ∧ (fin (zs.map (·.1)) (sn.map (·.1))).length = (fin (zs.map (·.2)) (sn.map (·.2))).length
 | [], sn, _ => by simp [go, fin]
 | z :: zs, sn, h => by
  have hf : ∀ (l : List (α × β)) (n : Nat), (∀ p ∈ l, p ∈ sn) → find z.1 (l.map (·.1)) n = find z.2 (l.map (·.2)) n := by
   intro l
   induction l with
   | nil => intro n _; rfl
   | cons p l ih =>
    intro n hl
    simp only [List.map_cons, find]
    have := h p (by simp [hl p (by simp)]) z (by simp)
    by_cases e : p.1 = z.1
    ·rw [if_pos e, if_pos (this.1 e)]
    ·rw [if_neg e, if_neg (fun x => e (this.2 x))]; exact ih _ (fun q hq => hl q (by simp [hq]))
  have h1 := go_same zs sn (fun p hp q hq => h p (by simp at hp ⊢; grind) q (by simp at hq ⊢; grind))
  have h2 := go_same zs (sn ++ [z]) (fun p hp q hq => h p (by simp at hp ⊢; grind) q (by simp at hq ⊢; grind))
  simp only [List.map_cons, go, fin]
  rw [hf sn 0 (fun _ hp => hp)]
  cases find z.2 (sn.map (·.2)) 0 with
  | some i => exact ⟨by simp [h1.1], h1.2⟩
  | none => simp only [List.map_append, List.map_cons, List.map_nil] at h2; exact ⟨by simp [h2.1], h2.2⟩
theorem nodup_le {α : Type} [DecidableEq α] : ∀ {l m : List α}, l.Nodup → (∀ x ∈ l, x ∈ m) → l.length ≤ m.length
 | [], m, _, _ => by simp
 | x :: l, m, hn, h => by
  have hx := h x (by simp)
  have h1 := List.nodup_cons.1 hn
  have := nodup_le (l := l) (m := m.erase x) h1.2 (fun y hy => (List.mem_erase_of_ne (fun (e : y = x) => h1.1 (e ▸ hy))).2 (h y (by simp [hy])))
  rw [List.length_erase_of_mem hx] at this
  have := List.length_pos_of_mem hx
  simp; omega
theorem same_of_many {zs : List (α × β)} (hr : ∀ p ∈ zs, ∀ q ∈ zs, p.2 = q.2 → p.1 = q.1) (hm : many (zs.map (·.2)) ≤ many (zs.map (·.1))) : ∀ p ∈ zs, ∀ q ∈ zs, (p.1 = q.1 ↔ p.2 = q.2) := by
 intro p hp q hq
 refine ⟨fun e => ?_, hr p hp q hq⟩
 apply Classical.byContradiction
 intro hne
 let f : β → α := fun b => ((zs.find? (fun z => decide (z.2 = b))).map (·.1)).getD p.1
 have hf : ∀ z ∈ zs, f z.2 = z.1 := by
  intro z hz
  show ((zs.find? (fun y => decide (y.2 = z.2))).map (·.1)).getD p.1 = z.1
  cases h : zs.find? (fun y => decide (y.2 = z.2)) with
  | none => have := List.find?_eq_none.1 h z hz; simp at this
  | some y =>
   have h1 := List.find?_some h
   have h2 := List.mem_of_find?_eq_some h
   simp at h1
   exact hr y h2 z hz h1
 have hq2 : q.2 ∈ fin (zs.map (·.2)) [] := fin_mem.2 (.inr (List.mem_map.2 ⟨q, hq, rfl⟩))
 have key := nodup_le (l := fin (zs.map (·.1)) []) (m := ((fin (zs.map (·.2)) []).erase q.2).map f) (fin_nodup List.nodup_nil) (by
  intro a ha
  rcases fin_mem.1 ha with h | h
  ·simp at h
  ·obtain ⟨z, hz, rfl⟩ := List.mem_map.1 h
   by_cases e2 : z.2 = q.2
   ·refine List.mem_map.2 ⟨p.2, (List.mem_erase_of_ne hne).2 (fin_mem.2 (.inr (List.mem_map.2 ⟨p, hp, rfl⟩))), ?_⟩
    rw [hf p hp, e]; exact hr q hq z hz e2.symm
   ·exact List.mem_map.2 ⟨z.2, (List.mem_erase_of_ne e2).2 (fin_mem.2 (.inr (List.mem_map.2 ⟨z, hz, rfl⟩))), hf z hz⟩)
 rw [List.length_map, List.length_erase_of_mem hq2] at key
 have := List.length_pos_of_mem hq2
 unfold many at hm
 omega
theorem num_of_many {zs : List (α × β)} (hr : ∀ p ∈ zs, ∀ q ∈ zs, p.2 = q.2 → p.1 = q.1) (hm : many (zs.map (·.2)) ≤ many (zs.map (·.1))) : num (zs.map (·.1)) = num (zs.map (·.2)) :=
 (go_same zs [] (by simpa using same_of_many hr hm)).1
theorem num_of_same {zs : List (α × β)} (h : ∀ p ∈ zs, ∀ q ∈ zs, (p.1 = q.1 ↔ p.2 = q.2)) : num (zs.map (·.1)) = num (zs.map (·.2)) ∧ many (zs.map (·.1)) = many (zs.map (·.2)) := go_same zs [] (by simpa using h)
theorem many_le {ks : List α} : many ks ≤ ks.length := nodup_le (fin_nodup List.nodup_nil) (fun x hx => by simpa using fin_mem.1 hx)
theorem many_pos {ks : List α} (h : ks ≠ []) : 1 ≤ many ks := by
 cases ks with
 | nil => exact absurd rfl h
 | cons k ks => exact List.length_pos_of_mem (fin_mem.2 (.inr (by simp : k ∈ k :: ks)))
theorem zip_mem_num {ks : List α} {p : α × Nat} (hp : p ∈ ks.zip (num ks)) : p.1 ∈ ks ∧ p.2 = (find p.1 (fin ks []) 0).getD 0 := by
 rw [num_eq, List.zip_map_right] at hp
 obtain ⟨q, hq, rfl⟩ := List.mem_map.1 hp
 have h2 : q.1 = q.2 := by
  obtain ⟨i, hi, e⟩ := List.getElem_of_mem hq
  rw [List.getElem_zip] at e; rw [← e]
 exact ⟨(List.of_mem_zip hq).1, by simp [h2]⟩
theorem num_same_zip {ks : List α} : ∀ p ∈ ks.zip (num ks), ∀ q ∈ ks.zip (num ks), (p.1 = q.1 ↔ p.2 = q.2) := by
 intro p hp q hq
 obtain ⟨h1, e1⟩ := zip_mem_num hp
 obtain ⟨h2, e2⟩ := zip_mem_num hq
 exact ⟨fun e => by rw [e1, e2, e], fun e => num_inj h1 h2 (by rw [← e1, ← e2, e])⟩
theorem length_num {ks : List α} : (num ks).length = ks.length := length_go
theorem zip_at {α β : Type} {l : List α} {m : List β} {p : α × β} (h : p ∈ l.zip m) : ∃ i : Nat, l[i]? = some p.1 ∧ m[i]? = some p.2 := by
 obtain ⟨i, hi, e⟩ := List.getElem_of_mem h
 refine ⟨i, ?_⟩
 have : (l.zip m)[i]? = some p := by rw [List.getElem?_eq_getElem hi, e]
 exact List.getElem?_zip_eq_some.1 this
end Numb
namespace Numb
variable {α β : Type} [DecidableEq α] [DecidableEq β]
theorem many_mono {zs : List (α × β)} (hr : ∀ p ∈ zs, ∀ q ∈ zs, p.2 = q.2 → p.1 = q.1) : many (zs.map (·.1)) ≤ many (zs.map (·.2)) := by
 cases zs with
 | nil => simp [many, fin]
 | cons z0 zs' =>
  generalize hz : z0 :: zs' = zs at hr
  let f : β → α := fun b => ((zs.find? (fun z => decide (z.2 = b))).map (·.1)).getD z0.1
  have hf : ∀ z ∈ zs, f z.2 = z.1 := by
   intro z hz
   show ((zs.find? (fun y => decide (y.2 = z.2))).map (·.1)).getD z0.1 = z.1
   cases h : zs.find? (fun y => decide (y.2 = z.2)) with
   | none => have := List.find?_eq_none.1 h z hz; simp at this
   | some y =>
    have h1 := List.find?_some h
    have h2 := List.mem_of_find?_eq_some h
    simp at h1
    exact hr y h2 z hz h1
  have key := nodup_le (l := fin (zs.map (·.1)) []) (m := (fin (zs.map (·.2)) []).map f) (fin_nodup List.nodup_nil) (by
   intro a ha
   rcases fin_mem.1 ha with h | h
   ·simp at h
   ·obtain ⟨z, hz, rfl⟩ := List.mem_map.1 h
    exact List.mem_map.2 ⟨z.2, fin_mem.2 (.inr (List.mem_map.2 ⟨z, hz, rfl⟩)), hf z hz⟩)
  rw [List.length_map] at key
  exact key
def numJ (ks : List α) : List Int := (num ks).map fun n : Nat => (n : Int)
theorem length_numJ {ks : List α} : (numJ ks).length = ks.length := by simp [numJ, length_num]
theorem numJ_get {ks : List α} (i : Nat) (h : i < ks.length) : rd (numJ ks) (i : Int) = (((num ks)[i]'(by rw [length_num]; exact h) : Nat) : Int) := by
 rw [rd_get (by rw [length_numJ]; exact h)]; simp [numJ]
theorem zipJ {ks : List α} : ∀ p ∈ ks.zip (numJ ks), ∀ q ∈ ks.zip (numJ ks), (p.1 = q.1 ↔ p.2 = q.2) := by
 intro p hp q hq
 unfold numJ at hp hq
 rw [List.zip_map_right] at hp hq
 obtain ⟨p', hp', rfl⟩ := List.mem_map.1 hp
 obtain ⟨q', hq', rfl⟩ := List.mem_map.1 hq
 have := num_same_zip p' hp' q' hq'
 simp only [Prod.map_fst, id_eq, Prod.map_snd]
 rw [this]
 omega
theorem numJ_idem {ks : List α} : numJ (numJ ks) = numJ ks ∧ many (numJ ks) = many ks := by
 have h := num_of_same (zs := ks.zip (numJ ks)) zipJ
 have h1 : (ks.zip (numJ ks)).map (·.1) = ks := List.map_fst_zip (Nat.le_of_eq length_numJ.symm)
 have h2 : (ks.zip (numJ ks)).map (·.2) = numJ ks := List.map_snd_zip (Nat.le_of_eq length_numJ)
 rw [h1, h2] at h
 refine ⟨?_, h.2.symm⟩
 show (num (numJ ks)).map _ = (num ks).map _
 rw [← h.1]
theorem numJ_inj {ks : List α} {i j : Nat} (hi : i < ks.length) (hj : j < ks.length) (h : rd (numJ ks) (i : Int) = rd (numJ ks) (j : Int)) : ks[i] = ks[j] := by
 rw [numJ_get i hi, numJ_get j hj] at h
 refine num_inj' hi hj ?_
 rw [List.getElem?_eq_getElem (by rw [length_num]; exact hi), List.getElem?_eq_getElem (by rw [length_num]; exact hj)]
 congr 1
 omega
theorem numJ_bd {ks : List α} : ∀ x ∈ numJ ks, 0 ≤ x ∧ x < (many ks : Int) := by
 intro x hx
 unfold numJ at hx
 rw [num_eq, List.map_map] at hx
 obtain ⟨k, hk, rfl⟩ := List.mem_map.1 hx
 obtain ⟨i, e, hi⟩ := find_lt hk
 simp only [Function.comp_apply, e, Option.getD_some]
 omega
theorem numJ_surj {ks : List α} {v : Nat} (hv : v < many ks) : (v : Int) ∈ numJ ks := by
 unfold numJ
 rw [num_eq, List.map_map]
 have hk : (fin ks [])[v]? = some ((fin ks [])[v]'hv) := List.getElem?_eq_getElem hv
 have hm : (fin ks [])[v]'hv ∈ ks := by
  rcases fin_mem.1 (List.getElem_mem hv) with h | h
  ·simp at h
  ·exact h
 refine List.mem_map.2 ⟨_, hm, ?_⟩
 simp only [Function.comp_apply]
 rw [find_at (fin_nodup List.nodup_nil) hk]; rfl
theorem numJ_zero {ks : List α} (h : 0 < ks.length) : rd (numJ ks) 0 = 0 := by
 cases ks with
 | nil => simp at h
 | cons k ks => simp [numJ, num, go, find, rd]
end Numb
def keysI (next : List (List Int)) (c : List Int) : List (List Int) := (next.zip c).map fun p => p.2 :: p.1.map (fun t => rd c t)
def stepI (next : List (List Int)) (c : List Int) : List Int := Numb.numJ (keysI next c)
theorem length_keysI {next : List (List Int)} {c : List Int} (h : c.length = next.length) : (keysI next c).length = next.length := by simp [keysI, h]
theorem keysI_get {next : List (List Int)} {c : List Int} (h : c.length = next.length) (i : Nat) (hi : i < next.length) : (keysI next c)[i]'(by rw [length_keysI h]; exact hi) = rd c (i : Int) :: (rd_L1 next (i : Int)).map (fun t => rd c t) := by
 rw [rd_get (by omega), rdLL_at hi]; simp [keysI]
theorem length_stepI {next : List (List Int)} {c : List Int} (h : c.length = next.length) : (stepI next c).length = next.length := Numb.length_numJ.trans (length_keysI h)
theorem keysI_refines {next : List (List Int)} {c : List Int} (h : c.length = next.length) : ∀ p ∈ c.zip (keysI next c), ∀ q ∈ c.zip (keysI next c), p.2 = q.2 → p.1 = q.1 := by
 have hd : ∀ p ∈ c.zip (keysI next c), p.2[0]? = some p.1 := by
  intro p hp
  obtain ⟨i, h1, h2⟩ := Numb.zip_at hp
  obtain ⟨hi, e1⟩ := List.getElem?_eq_some_iff.1 h1
  obtain ⟨hj, e2⟩ := List.getElem?_eq_some_iff.1 h2
  rw [keysI_get h i (by omega)] at e2
  rw [← e2, ← e1, rd_get hi]; rfl
 intro p hp q hq e
 have a := hd p hp
 have b := hd q hq
 rw [e, b] at a
 exact (Option.some.inj a).symm
theorem zipI {next : List (List Int)} {c : List Int} (h : c.length = next.length) : (c.zip (keysI next c)).map (·.1) = c ∧ (c.zip (keysI next c)).map (·.2) = keysI next c :=
 ⟨List.map_fst_zip (by rw [length_keysI h]; omega), List.map_snd_zip (by rw [length_keysI h]; omega)⟩
theorem stepI_fix {next : List (List Int)} {c : List Int} (h : c.length = next.length) (hc : Numb.numJ c = c) (hm : Numb.many (keysI next c) ≤ Numb.many c) : stepI next c = c := by
 obtain ⟨h1, h2⟩ := zipI h
 have := Numb.num_of_many (zs := c.zip (keysI next c)) (keysI_refines h) (by rw [h1, h2]; exact hm)
 rw [h1, h2] at this
 unfold stepI Numb.numJ
 rw [← this]; exact hc
theorem stepI_many {next : List (List Int)} {c : List Int} (h : c.length = next.length) : Numb.many c ≤ Numb.many (keysI next c) := by
 obtain ⟨h1, h2⟩ := zipI h
 have := Numb.many_mono (zs := c.zip (keysI next c)) (keysI_refines h)
 rwa [h1, h2] at this
theorem stepI_refines {next : List (List Int)} {c : List Int} (h : c.length = next.length) {i j : Nat} (hi : i < next.length) (hj : j < next.length) (e : rd (stepI next c) (i : Int) = rd (stepI next c) (j : Int)) :
  rd c (i : Int) = rd c (j : Int) ∧ (rd_L1 next (i : Int)).map (fun t => rd c t) = (rd_L1 next (j : Int)).map (fun t => rd c t) := by
 have := Numb.numJ_inj (ks := keysI next c) (by rw [length_keysI h]; exact hi) (by rw [length_keysI h]; exact hj) e
 rw [keysI_get h i hi, keysI_get h j hj] at this
 injection this with h1 h2
 exact ⟨h1, h2⟩
def itI (next : List (List Int)) : Nat → List Int → List Int
 | 0, c => c
 | n + 1, c => itI next n (stepI next c)
theorem itI_fix {next : List (List Int)} {c : List Int} (h : stepI next c = c) : ∀ n, itI next n c = c
 | 0 => rfl
 | n + 1 => by rw [itI, h]; exact itI_fix h n
theorem length_itI {next : List (List Int)} : ∀ (n : Nat) {c : List Int}, c.length = next.length → (itI next n c).length = next.length
 | 0, _, h => h
 | n + 1, _, h => length_itI n (length_stepI h)
theorem itI_canon {next : List (List Int)} : ∀ (n : Nat) {c : List Int}, Numb.numJ c = c → Numb.numJ (itI next n c) = itI next n c
 | 0, _, h => h
 | n + 1, _, _ => itI_canon n Numb.numJ_idem.1
theorem itI_end {next : List (List Int)} : ∀ (N : Nat) {c : List Int}, c.length = next.length → Numb.numJ c = c → next.length ≤ N + Numb.many c → stepI next (itI next N c) = itI next N c
 | 0, c, h, hc, hn => by
  show stepI next c = c
  exact stepI_fix h hc (by have := Numb.many_le (ks := keysI next c); rw [length_keysI h] at this; omega)
 | N + 1, c, h, hc, hn => by
  by_cases hm : Numb.many (keysI next c) ≤ Numb.many c
  ·have := stepI_fix h hc hm
   rw [itI_fix this]; exact this
  ·refine itI_end N (length_stepI h) Numb.numJ_idem.1 ?_
   have : Numb.many (stepI next c) = Numb.many (keysI next c) := Numb.numJ_idem.2
   omega
theorem itI_refines {next : List (List Int)} : ∀ (N : Nat) {c : List Int}, c.length = next.length → ∀ {i j : Nat}, i < next.length → j < next.length → rd (itI next N c) (i : Int) = rd (itI next N c) (j : Int) → rd c (i : Int) = rd c (j : Int)
 | 0, _, _, _, _, _, _, e => e
 | N + 1, _, h, _, _, hi, hj, e => (stepI_refines h hi hj (itI_refines N (length_stepI h) hi hj e)).1
def c0I (out : List Int) : List Int := Numb.numJ (out.map fun x => [x])
def clsI (next : List (List Int)) (out : List Int) : List Int := itI next next.length (c0I out)
theorem spec_l3Same_l0 (a b : List Int) (hl : a.length = b.length) (hn : a.length ≤ 4611686018427387904) (d : Nat) : ∀ (i : Nat), i + d = a.length → Ev (fun k => spec_l3Same.l0 k a b (i : Int)) (decide (a.drop i = b.drop i)) := by
 induction d with
 | zero =>
  intro i hi
  refine ev_succ ?_
  simp only [spec_l3Same.l0]
  refine ev_neg (by omega) (ev_some ?_)
  rw [List.drop_of_length_le (by omega), List.drop_of_length_le (by omega)]; rfl
 | succ d ih =>
  intro i hi
  refine ev_succ ?_
  simp only [spec_l3Same.l0, wr1 (show (0 : Int) ≤ (i : Int) by omega) (by omega)]
  rw [drop_rd (by omega : i < a.length), drop_rd (by omega : i < b.length)]
  refine ev_pos (by omega) (ev_pos (by omega) (ev_pos (by omega) (ev_ite (fun h => ev_eq (ih (i + 1) (by omega)) ?_) (fun h => ev_some ?_))))
  ·rw [h]; simp
  ·simp [h]
theorem spec_l3Same_ev (a b : List Int) (hn : a.length ≤ 4611686018427387904) : Ev (fun k => spec_l3Same.f k a b) (decide (a = b)) := by
 simp only [spec_l3Same.f]
 refine ev_ite (fun h => ev_eq (spec_l3Same_l0 a b (by omega) hn a.length 0 (by omega)) (by simp)) (fun h => ev_some ?_)
 symm
 simp only [decide_eq_false_iff_not]
 rintro rfl
 exact h rfl
namespace Numb
variable {α : Type} [DecidableEq α]
theorem go_snoc (k : α) : ∀ (ks seen : List α), go (ks ++ [k]) seen = go ks seen ++ [match find k (fin ks seen) 0 with | some i => i | none => (fin ks seen).length] ∧ fin (ks ++ [k]) seen = (match find k (fin ks seen) 0 with | some _ => fin ks seen | none => fin ks seen ++ [k])
 | [], seen => by
  simp only [List.nil_append, go, fin]
  cases find k seen 0 <;> simp
 | x :: ks, seen => by
  simp only [List.cons_append, go, fin]
  cases find x seen 0 with
  | some i => have := go_snoc k ks seen; simp [this]
  | none => have := go_snoc k ks (seen ++ [x]); simp [this]
theorem num_snoc_old {ks : List α} {k : α} (h : k ∈ ks) : ∃ i, find k (fin ks []) 0 = some i ∧ num (ks ++ [k]) = num ks ++ [i] ∧ fin (ks ++ [k]) [] = fin ks [] := by
 obtain ⟨i, hi, _⟩ := find_lt h
 have := go_snoc k ks []
 rw [hi] at this
 exact ⟨i, hi, this.1, this.2⟩
theorem num_snoc_new {ks : List α} {k : α} (h : k ∉ ks) : num (ks ++ [k]) = num ks ++ [many ks] ∧ many (ks ++ [k]) = many ks + 1 := by
 have hn : find k (fin ks []) 0 = none := find_none.2 (fun hm => by rcases fin_mem.1 hm with h' | h'; simp at h'; exact h h')
 have := go_snoc k ks []
 rw [hn] at this
 exact ⟨this.1, by unfold many; rw [this.2]; simp⟩
end Numb
theorem posr_at {k : List UInt8} : ∀ {S : List (List UInt8)} {i : Nat}, posr k S = some i → S.reverse[i]? = some k
 | [], i, h => by simp [posr] at h
 | x :: S, i, h => by
  unfold posr at h
  rw [List.reverse_cons]
  split at h
  ·rename_i e
   cases h
   subst e
   rw [List.getElem?_append_right (by simp)]; simp
  ·have := posr_at h
   rw [List.getElem?_append_left (List.getElem?_eq_some_iff.1 this).1]; exact this
theorem posr_no {k : List UInt8} : ∀ {S : List (List UInt8)}, posr k S = none → k ∉ S
 | [], _ => by simp
 | x :: S, h => by
  unfold posr at h
  split at h
  ·cases h
  ·rename_i e; have := posr_no h; simp [Ne.symm e, this]
theorem posr_find {k : List UInt8} {S : List (List UInt8)} (h : S.reverse.Nodup) : posr k S = Numb.find k S.reverse 0 := by
 cases e : posr k S with
 | none => symm; rw [Numb.find_none]; have := posr_no e; simpa using this
 | some i => symm; exact Numb.find_at h (posr_at e)
theorem nfold_go : ∀ (ks : List (List UInt8)) (acc : List Int × List (List UInt8)), acc.2.reverse.Nodup → (ks.foldl nstep acc).1 = acc.1 ++ (Numb.go ks acc.2.reverse).map (fun n : Nat => (n : Int)) ∧ (ks.foldl nstep acc).2.length = (Numb.fin ks acc.2.reverse).length
 | [], acc, _ => by simp [Numb.go, Numb.fin]
 | k :: ks, acc, h => by
  simp only [List.foldl_cons, Numb.go, Numb.fin]
  have e := posr_find (k := k) h
  cases hf : Numb.find k acc.2.reverse 0 with
  | some i =>
   rw [hf] at e
   have hs : nstep acc k = (acc.1 ++ [(i : Int)], acc.2) := by unfold nstep; rw [e]
   rw [hs]
   have := nfold_go ks (acc.1 ++ [(i : Int)], acc.2) h
   simpa using this
  | none =>
   rw [hf] at e
   have hs : nstep acc k = (acc.1 ++ [(acc.2.length : Int)], k :: acc.2) := by unfold nstep; rw [e]
   rw [hs]
   have h' : (k :: acc.2).reverse.Nodup := by
    rw [List.reverse_cons, List.nodup_append]
    refine ⟨h, by simp, fun a ha b hb => ?_⟩
    simp at hb; subst hb
    rintro rfl
    exact Numb.find_none.1 hf ha
   have := nfold_go ks (acc.1 ++ [(acc.2.length : Int)], k :: acc.2) h'
   simpa using this
theorem nfold_num (ks : List (List UInt8)) : (nfold ks).1 = Numb.numJ ks ∧ (nfold ks).2.length = Numb.many ks := by
 have := nfold_go ks ([], []) (by simp)
 simpa [nfold, Numb.numJ, Numb.num, Numb.many] using this
theorem u8_inj {x y : Int} (hx : 0 ≤ x ∧ x < 256) (hy : 0 ≤ y ∧ y < 256) (h : UInt8.ofNat x.toNat = UInt8.ofNat y.toNat) : x = y := by
 have := congrArg UInt8.toNat h
 simp only [UInt8.toNat_ofNat'] at this
 omega
theorem keyL_inj : ∀ (r s : List Int), (∀ x ∈ r, 0 ≤ x ∧ x < 65536) → (∀ x ∈ s, 0 ≤ x ∧ x < 65536) → keyL r = keyL s → r = s
 | [], [], _, _, _ => rfl
 | [], y :: s, _, _, h => by simp [keyL, txtL] at h
 | x :: r, [], _, _, h => by simp [keyL, txtL] at h
 | x :: r, y :: s, hr, hs, h => by
  simp only [keyL, txtL, List.map_cons, List.cons.injEq] at h
  obtain ⟨h1, h2, h3⟩ := h
  have e1 := u8_inj (by omega) (by omega) h1
  have e2 := u8_inj (by omega) (by omega) h2
  have hx := hr x (by simp)
  have hy := hs y (by simp)
  have := keyL_inj r s (fun z hz => hr z (by simp [hz])) (fun z hz => hs z (by simp [hz])) h3
  rw [this, show x = y by omega]
theorem numbered_eq (l : List (List Int)) (h1 : l.length ≤ 64) (h2 : ∀ r ∈ l, r.length ≤ 64) (h3 : ∀ r ∈ l, ∀ x ∈ r, 0 ≤ x ∧ x < 65536) : impl_numbered.f l = some (Numb.numJ l, (Numb.many l : Int)) := by
 unfold impl_numbered.f
 rw [if_pos ⟨h1, h2⟩]
 obtain ⟨e1, e2⟩ := nfold_num (l.map keyL)
 have h := Numb.num_of_same (zs := l.map (fun r => (r, keyL r))) (by
  intro p hp q hq
  obtain ⟨r, hr, rfl⟩ := List.mem_map.1 hp
  obtain ⟨s, hs, rfl⟩ := List.mem_map.1 hq
  exact ⟨fun e => by simp only at e ⊢; rw [e], fun e => keyL_inj r s (h3 r hr) (h3 s hs) e⟩)
 rw [List.map_map, List.map_map] at h
 have a1 : l.map ((fun p => p.1) ∘ fun r => (r, keyL r)) = l := by simp [Function.comp_def]
 have a2 : l.map ((fun p => p.2) ∘ fun r => (r, keyL r)) = l.map keyL := by simp [Function.comp_def]
 rw [a1, a2] at h
 rw [e1, e2]
 unfold Numb.numJ
 rw [h.1, h.2]
theorem l4_l1 (keys : List (List Int)) (hl : keys.length ≤ 64) (hr : ∀ r ∈ keys, r.length ≤ 64) (i : Nat) (hi : i < keys.length) (R : List Int)
  (Hold : ∀ j : Nat, Numb.find keys[i] (Numb.fin (keys.take i) []) 0 = some j → Ev (fun k => spec_l4Number.l0 k keys (Numb.numJ (keys.take i) ++ [(j : Int)]) (Numb.many (keys.take i) : Int) ((i + 1 : Nat) : Int)) R)
  (Hnew : keys[i] ∉ keys.take i → Ev (fun k => spec_l4Number.l0 k keys (Numb.numJ (keys.take i) ++ [(Numb.many (keys.take i) : Int)]) ((Numb.many (keys.take i) + 1 : Nat) : Int) ((i + 1 : Nat) : Int)) R) (d : Nat) :
  ∀ n : Nat, ∀ hn : n + d = i, (∀ m, ∀ hm : m < n, keys[m]'(by omega) ≠ keys[i]) → Ev (fun k => spec_l4Number.l1 k keys (Numb.numJ (keys.take i)) (Numb.many (keys.take i) : Int) (i : Int) (-1) (n : Int)) R := by
 have hlen : (Numb.numJ (keys.take i)).length = i := by rw [Numb.length_numJ, List.length_take]; omega
 have hmy := Numb.many_le (ks := keys.take i)
 rw [List.length_take] at hmy
 induction d with
 | zero =>
  intro n hn hno
  refine ev_succ ?_
  simp only [spec_l4Number.l1]
  refine ev_neg (by omega) (ev_succ ?_)
  simp only [spec_l4Number.j2]
  refine ev_neg (by simp) (ev_pos (by omega) (ev_pos (by omega) ?_))
  rw [wr1 (by omega) (by omega), wr1 (by omega) (by omega)]
  refine Hnew (fun hm => ?_)
  obtain ⟨m, hm, e⟩ := List.getElem_of_mem hm
  rw [List.length_take] at hm
  rw [List.getElem_take] at e
  exact hno m (by omega) e
 | succ d ih =>
  intro n hn hno
  have hk := hr _ (List.getElem_mem (show n < keys.length by omega))
  refine ev_succ ?_
  simp only [spec_l4Number.l1]
  refine ev_pos (by omega) (ev_succ ?_)
  simp only [spec_l4Number.j2]
  rw [rdLL_at (show n < keys.length by omega), rdLL_at hi, wr1 (show (0 : Int) ≤ (n : Int) by omega) (by omega)]
  refine ev_pos (by simp) (ev_pos (by omega) (ev_pos (by omega) (ev_pos (by omega) (ev_pos (by omega) (ev_bind (spec_l3Same_ev _ _ (by omega)) ?_)))))
  by_cases e : keys[n] = keys[i]
  ·refine ev_pos (by simpa using e) (ev_pos (by omega) ?_)
   have hmem : keys[i] ∈ keys.take i := by
    rw [← e]
    have : (keys.take i)[n]'(by rw [List.length_take]; omega) = keys[n] := List.getElem_take
    rw [← this]; exact List.getElem_mem _
   obtain ⟨j, hj, _⟩ := Numb.find_lt hmem
   have hval : rd (Numb.numJ (keys.take i)) (n : Int) = (j : Int) := by
    rw [Numb.numJ_get n (by rw [List.length_take]; omega)]
    simp only [Numb.num_eq, List.getElem_map, List.getElem_take, e, hj, Option.getD_some]
   rw [hval]
   refine ev_succ ?_
   simp only [spec_l4Number.l1]
   have fin_ : Ev (fun k => spec_l4Number.j2 k keys (Numb.numJ (keys.take i)) (Numb.many (keys.take i) : Int) (i : Int) (j : Int) ((n : Int) + 1) false) R := by
    refine ev_succ ?_
    simp only [spec_l4Number.j2]
    refine ev_neg (by simp) (ev_neg (by omega) (ev_pos (by omega) ?_))
    rw [wr1 (by omega) (by omega)]
    exact Hold j hj
   refine ev_ite (fun _ => ?_) (fun _ => fin_)
   rw [decide_eq_false (by omega)]; exact fin_
  ·refine ev_neg (by simpa using e) ?_
   exact ih (n + 1) (by omega) (fun m hm => by
    by_cases h' : m = n
    ·subst h'; exact e
    ·exact hno m (by omega))
theorem l4_l0 (keys : List (List Int)) (hl : keys.length ≤ 64) (hr : ∀ r ∈ keys, r.length ≤ 64) (d : Nat) : ∀ i : Nat, i + d = keys.length → Ev (fun k => spec_l4Number.l0 k keys (Numb.numJ (keys.take i)) (Numb.many (keys.take i) : Int) (i : Int)) (Numb.numJ keys) := by
 induction d with
 | zero =>
  intro i hi
  refine ev_succ ?_
  simp only [spec_l4Number.l0]
  refine ev_neg (by omega) (ev_some ?_)
  rw [List.take_of_length_le (by omega)]
 | succ d ih =>
  intro i hi
  refine ev_succ ?_
  simp only [spec_l4Number.l0]
  have htk : keys.take (i + 1) = keys.take i ++ [keys[i]'(by omega)] := List.take_succ_eq_append_getElem (by omega)
  have hn := ih (i + 1) (by omega)
  rw [htk] at hn
  refine ev_pos (by omega) (l4_l1 keys hl hr i (by omega) _ (fun j hj => ?_) (fun hm => ?_) i 0 (by omega) (fun m hm => by omega))
  ·have hmem : keys[i]'(by omega) ∈ keys.take i := by
    have : keys[i]'(by omega) ∈ Numb.fin (keys.take i) [] := by
     cases hf : Numb.find (keys[i]'(by omega)) (Numb.fin (keys.take i) []) 0 with
     | none => rw [hf] at hj; cases hj
     | some j' => exact List.mem_of_getElem? (Numb.find_some hf).2.1
    rcases Numb.fin_mem.1 this with h' | h'
    ·simp at h'
    ·exact h'
   obtain ⟨j', hj', e1, e2⟩ := Numb.num_snoc_old hmem
   rw [hj] at hj'
   cases hj'
   have a : Numb.numJ (keys.take i ++ [keys[i]'(by omega)]) = Numb.numJ (keys.take i) ++ [(j : Int)] := by unfold Numb.numJ; rw [e1]; simp
   have b : Numb.many (keys.take i ++ [keys[i]'(by omega)]) = Numb.many (keys.take i) := by unfold Numb.many; rw [e2]
   rw [a, b] at hn; exact hn
  ·obtain ⟨e1, e2⟩ := Numb.num_snoc_new hm
   have a : Numb.numJ (keys.take i ++ [keys[i]'(by omega)]) = Numb.numJ (keys.take i) ++ [(Numb.many (keys.take i) : Int)] := by unfold Numb.numJ; rw [e1]; simp
   rw [a, e2] at hn; exact hn
theorem l4Number_ev (keys : List (List Int)) (hl : keys.length ≤ 64) (hr : ∀ r ∈ keys, r.length ≤ 64) : Ev (fun k => spec_l4Number.f k keys) (Numb.numJ keys) := by
 simp only [spec_l4Number.f]
 exact l4_l0 keys hl hr keys.length 0 (by omega)
theorem keysI_take {next : List (List Int)} {c : List Int} (h : c.length = next.length) (i : Nat) (hi : i < next.length) : (keysI next c).take (i + 1) = (keysI next c).take i ++ [rd c (i : Int) :: (rd_L1 next (i : Int)).map (fun t => rd c t)] := by
 rw [List.take_succ_eq_append_getElem (by rw [length_keysI h]; exact hi), keysI_get h i hi]
theorem map_take_rd (f : Int → Int) (l : List Int) (i : Nat) (hi : i < l.length) : (l.take (i + 1)).map f = (l.take i).map f ++ [f (rd l (i : Int))] := by
 rw [List.take_succ_eq_append_getElem hi, List.map_append, rd_get hi]; rfl
theorem single_take (l : List Int) (i : Nat) (hi : i < l.length) : (l.take (i + 1)).map (fun x => [x]) = (l.take i).map (fun x => [x]) ++ [[rd l (i : Int)]] := by
 rw [List.take_succ_eq_append_getElem hi, List.map_append, rd_get hi]; rfl
section
variable {b : Int} {next : List (List Int)} {out : List Int}
theorem keysI_rows (h : isSeq b next out = true) {c : List Int} (hc : c.length = next.length) : (keysI next c).length ≤ 64 ∧ ∀ r ∈ keysI next c, r.length ≤ 64 := by
 obtain ⟨h1, h2, h3, h4, h5⟩ := isSeq_facts h
 refine ⟨by rw [length_keysI hc]; omega, fun r hr => ?_⟩
 obtain ⟨i, hi, e⟩ := List.getElem_of_mem hr
 rw [length_keysI hc] at hi
 rw [keysI_get hc i hi] at e
 have := (h4 _ (rdLL_mem hi)).1
 rw [← e]; simp; omega
theorem spec_SC_l3 (h : isSeq b next out = true) (c : List Int) (hc : c.length = next.length) (j : Int) (i : Nat) (hi : i < next.length) (R : List Int)
  (H : Ev (fun k => spec_StateClasses.l2 k ((keysI next c).take (i + 1)) c j ((i + 1 : Nat) : Int) b next out) R) (d : Nat) : ∀ n : Nat, ((n + d : Nat) : Int) = b →
  Ev (fun k => spec_StateClasses.l3 k ((keysI next c).take i) c j (i : Int) (rd c (i : Int) :: ((rd_L1 next (i : Int)).take n).map (fun t => rd c t)) (n : Int) b next out) R := by
 obtain ⟨h1, h2, h3, h4, h5⟩ := isSeq_facts h
 have hr := h4 _ (rdLL_mem hi)
 induction d with
 | zero =>
  intro n hn
  refine ev_succ ?_
  simp only [spec_StateClasses.l3]
  refine ev_neg (by omega) (ev_pos (by rw [List.length_take]; omega) ?_)
  rw [List.take_of_length_le (show (rd_L1 next (i : Int)).length ≤ n by omega), wr1 (by omega) (by omega)]
  rw [keysI_take hc i hi] at H
  exact H
 | succ d ih =>
  intro n hn
  have hx := hr.2 _ (rd_mem (show n < (rd_L1 next (i : Int)).length by omega))
  refine ev_succ ?_
  simp only [spec_StateClasses.l3]
  have := ih (n + 1) (by omega)
  rw [map_take_rd _ _ n (by omega)] at this
  rw [wr1 (show (0 : Int) ≤ (n : Int) by omega) (by omega)]
  exact ev_pos (by omega) (ev_pos (by omega) (ev_pos (by omega) (ev_pos (by omega) (ev_pos (by omega) (ev_pos (by omega) (ev_pos (by omega) (ev_pos (by simp; omega) this)))))))
theorem spec_SC_l2 (h : isSeq b next out = true) (c : List Int) (hc : c.length = next.length) (j : Nat) (hj : j < 64) (R : List Int) (H : Ev (fun k => spec_StateClasses.l1 k (stepI next c) ((j + 1 : Nat) : Int) b next out) R) (d : Nat) : ∀ i : Nat, i + d = next.length →
  Ev (fun k => spec_StateClasses.l2 k ((keysI next c).take i) c (j : Int) (i : Int) b next out) R := by
 obtain ⟨h1, h2, h3, h4, h5⟩ := isSeq_facts h
 obtain ⟨k1, k2⟩ := keysI_rows h hc
 induction d with
 | zero =>
  intro i hi
  refine ev_succ ?_
  simp only [spec_StateClasses.l2]
  rw [List.take_of_length_le (by rw [length_keysI hc]; omega), wr1 (show (0 : Int) ≤ (j : Int) by omega) (by omega)]
  exact ev_neg (by omega) (ev_bind (l4Number_ev _ k1 k2) H)
 | succ d ih =>
  intro i hi
  refine ev_succ ?_
  simp only [spec_StateClasses.l2]
  refine ev_pos (by omega) (ev_pos (by omega) (ev_pos (by omega) ?_))
  exact spec_SC_l3 h c hc j i (by omega) R (ih (i + 1) (by omega)) b.toNat 0 (by omega)
theorem spec_SC_l1 (h : isSeq b next out = true) (d : Nat) : ∀ (j : Nat) (c : List Int), c.length = next.length → j + d = next.length → Ev (fun k => spec_StateClasses.l1 k c (j : Int) b next out) (itI next d c) := by
 obtain ⟨h1, h2, h3, h4, h5⟩ := isSeq_facts h
 induction d with
 | zero =>
  intro j c hc hj
  refine ev_succ ?_
  simp only [spec_StateClasses.l1]
  exact ev_neg (by omega) (ev_some rfl)
 | succ d ih =>
  intro j c hc hj
  refine ev_succ ?_
  simp only [spec_StateClasses.l1]
  exact ev_pos (by omega) (spec_SC_l2 h c hc j (by omega) _ (ih (j + 1) _ (length_stepI hc) (by omega)) next.length 0 (by omega))
theorem singles (h : isSeq b next out = true) : (out.map fun x => [x]).length ≤ 64 ∧ (∀ r ∈ out.map (fun x => [x]), r.length ≤ 64) ∧ (c0I out).length = next.length := by
 obtain ⟨h1, h2, h3, h4, h5⟩ := isSeq_facts h
 refine ⟨by simp; omega, fun r hr => ?_, by unfold c0I; rw [Numb.length_numJ]; simp; omega⟩
 obtain ⟨x, _, rfl⟩ := List.mem_map.1 hr
 simp
theorem spec_SC_l0 (h : isSeq b next out = true) (d : Nat) : ∀ i : Nat, i + d = out.length → Ev (fun k => spec_StateClasses.l0 k ((out.take i).map (fun x => [x])) (i : Int) b next out) (clsI next out) := by
 obtain ⟨h1, h2, h3, h4, h5⟩ := isSeq_facts h
 obtain ⟨k1, k2, k3⟩ := singles h
 induction d with
 | zero =>
  intro i hi
  refine ev_succ ?_
  simp only [spec_StateClasses.l0]
  rw [List.take_of_length_le (by omega)]
  exact ev_neg (by omega) (ev_bind (l4Number_ev _ k1 k2) (spec_SC_l1 h next.length 0 _ k3 (by omega)))
 | succ d ih =>
  intro i hi
  refine ev_succ ?_
  simp only [spec_StateClasses.l0]
  have := ih (i + 1) (by omega)
  rw [single_take _ i (by omega)] at this
  rw [wr1 (show (0 : Int) ≤ (i : Int) by omega) (by omega)]
  exact ev_pos (by omega) (ev_pos (by omega) (ev_pos (by simp; omega) this))
theorem isSeq_fit (h : isSeq b next out = true) : fit2 next ∧ fit1 out := by
 obtain ⟨h1, h2, h3, h4, h5⟩ := isSeq_facts h
 refine ⟨⟨by omega, fun r hr => ?_⟩, by unfold fit1; omega⟩
 have := (h4 r hr).1
 unfold fit1; omega
theorem spec_StateClasses_ev (h : isSeq b next out = true) : Ev (fun k => spec_StateClasses.f k b next out) (clsI next out) := by
 obtain ⟨f1, f2⟩ := isSeq_fit h
 simp only [spec_StateClasses.f]
 exact ev_bind (spec_IsSequence_ev b next out f1 f2) (ev_pos h (spec_SC_l0 h out.length 0 (by omega)))
theorem keysI_small (h : isSeq b next out = true) {c : List Int} (hc : c.length = next.length) (hb : ∀ x ∈ c, 0 ≤ x ∧ x < 64) : ∀ r ∈ keysI next c, ∀ x ∈ r, 0 ≤ x ∧ x < 65536 := by
 obtain ⟨h1, h2, h3, h4, h5⟩ := isSeq_facts h
 intro r hr x hx
 obtain ⟨i, hi, e⟩ := List.getElem_of_mem hr
 rw [length_keysI hc] at hi
 rw [keysI_get hc i hi] at e
 rw [← e] at hx
 rcases List.mem_cons.1 hx with rfl | hx
 ·have := hb _ (rd_mem (show i < c.length by omega)); omega
 ·obtain ⟨t, ht, rfl⟩ := List.mem_map.1 hx
  have ht' := (h4 _ (rdLL_mem hi)).2 t ht
  obtain ⟨t, rfl⟩ := Int.eq_ofNat_of_zero_le ht'.1
  have := hb _ (rd_mem (show t < c.length by omega)); omega
theorem stepI_small (h : isSeq b next out = true) {c : List Int} (hc : c.length = next.length) : ∀ x ∈ stepI next c, 0 ≤ x ∧ x < 64 := by
 obtain ⟨h1, h2, h3, h4, h5⟩ := isSeq_facts h
 intro x hx
 have := Numb.numJ_bd x hx
 have h' := Numb.many_le (ks := keysI next c)
 rw [length_keysI hc] at h'
 omega
theorem impl_C_l3 (h : isSeq b next out = true) (c : List Int) (hc : c.length = next.length) (m : Int) (i : Nat) (hi : i < next.length) (R : List Int)
  (H : Ev (fun k => impl_classes.l2 k next ((keysI next c).take (i + 1)) c m next (next.length : Int) ((i + 1 : Nat) : Int)) R) (d : Nat) : ∀ n : Nat, n + d = (rd_L1 next (i : Int)).length →
  Ev (fun k => impl_classes.l3 k next ((keysI next c).take i) c m (rd c (i : Int) :: ((rd_L1 next (i : Int)).take n).map (fun t => rd c t)) next (next.length : Int) (i : Int) (rd_L1 next (i : Int)) ((rd_L1 next (i : Int)).length : Int) (n : Int)) R := by
 obtain ⟨h1, h2, h3, h4, h5⟩ := isSeq_facts h
 have hr := h4 _ (rdLL_mem hi)
 induction d with
 | zero =>
  intro n hn
  refine ev_succ ?_
  simp only [impl_classes.l3]
  refine ev_neg (by omega) (ev_pos (by rw [List.length_take]; omega) ?_)
  rw [List.take_of_length_le (show (rd_L1 next (i : Int)).length ≤ n by omega), wr1 (by omega) (by omega)]
  rw [keysI_take hc i hi] at H
  exact H
 | succ d ih =>
  intro n hn
  have hx := hr.2 _ (rd_mem (show n < (rd_L1 next (i : Int)).length by omega))
  refine ev_succ ?_
  simp only [impl_classes.l3]
  have := ih (n + 1) (by omega)
  rw [map_take_rd _ _ n (by omega)] at this
  rw [wr1 (show (0 : Int) ≤ (n : Int) by omega) (by omega)]
  exact ev_pos (by omega) (ev_pos (by omega) (ev_pos (by omega) (ev_pos (by omega) (ev_pos (by omega) (ev_pos (by simp; omega) this)))))
theorem impl_C_l2 (h : isSeq b next out = true) (c : List Int) (hc : c.length = next.length) (hb : ∀ x ∈ c, 0 ≤ x ∧ x < 64) (m : Int) (R : List Int)
  (H1 : (Numb.many (keysI next c) : Int) = m → stepI next c = R) (H2 : (Numb.many (keysI next c) : Int) ≠ m → Ev (fun k => impl_classes.l1 k next (keysI next c) (stepI next c) (Numb.many (keysI next c) : Int)) R) (d : Nat) : ∀ i : Nat, i + d = next.length →
  Ev (fun k => impl_classes.l2 k next ((keysI next c).take i) c m next (next.length : Int) (i : Int)) R := by
 obtain ⟨h1, h2, h3, h4, h5⟩ := isSeq_facts h
 obtain ⟨k1, k2⟩ := keysI_rows h hc
 induction d with
 | zero =>
  intro i hi
  refine ev_succ ?_
  simp only [impl_classes.l2]
  rw [List.take_of_length_le (by rw [length_keysI hc]; omega), numbered_eq _ k1 k2 (keysI_small h hc hb)]
  simp only [Option.bind_some]
  exact ev_neg (by omega) (ev_ite (fun e => ev_some (H1 e)) (fun e => H2 e))
 | succ d ih =>
  intro i hi
  refine ev_succ ?_
  simp only [impl_classes.l2]
  refine ev_pos (by omega) (ev_pos (by omega) (ev_pos (by omega) (ev_pos (by omega) ?_)))
  exact impl_C_l3 h c hc m i (by omega) R (ih (i + 1) (by omega)) (rd_L1 next (i : Int)).length 0 (by omega)
theorem impl_C_l1 (h : isSeq b next out = true) (e : Nat) : ∀ (N : Nat) (c : List Int) (ks : List (List Int)), c.length = next.length → (∀ x ∈ c, 0 ≤ x ∧ x < 64) → Numb.numJ c = c → next.length ≤ e + Numb.many c → next.length ≤ N + Numb.many c →
  Ev (fun k => impl_classes.l1 k next ks c (Numb.many c : Int)) (itI next N c) := by
 obtain ⟨h1, h2, h3, h4, h5⟩ := isSeq_facts h
 induction e with
 | zero =>
  intro N c ks hc hb hcc he hN
  have hm := Numb.many_le (ks := keysI next c)
  rw [length_keysI hc] at hm
  have hf := stepI_fix hc hcc (by omega)
  have hg := stepI_many hc
  refine ev_succ ?_
  simp only [impl_classes.l1]
  refine ev_pos (by omega) ?_
  refine impl_C_l2 h c hc hb _ _ (fun _ => by rw [itI_fix hf, hf]) (fun e => absurd (show (Numb.many (keysI next c) : Int) = _ by omega) e) next.length 0 (by omega)
 | succ e ih =>
  intro N c ks hc hb hcc he hN
  have hg := stepI_many hc
  have hm := Numb.many_le (ks := keysI next c)
  rw [length_keysI hc] at hm
  refine ev_succ ?_
  simp only [impl_classes.l1]
  refine ev_pos (by omega) ?_
  refine impl_C_l2 h c hc hb _ _ (fun e' => ?_) (fun e' => ?_) next.length 0 (by omega)
  ·have hf := stepI_fix hc hcc (by omega)
   rw [itI_fix hf, hf]
  ·have hs : Numb.many (stepI next c) = Numb.many (keysI next c) := Numb.numJ_idem.2
   obtain ⟨N', rfl⟩ : ∃ N', N = N' + 1 := ⟨N - 1, by omega⟩
   have := ih N' (stepI next c) (keysI next c) (length_stepI hc) (stepI_small h hc) Numb.numJ_idem.1 (by omega) (by omega)
   rw [hs] at this
   exact this
theorem impl_C_l0 (h : isSeq b next out = true) (d : Nat) : ∀ i : Nat, i + d = out.length → Ev (fun k => impl_classes.l0 k next ((out.take i).map (fun x => [x])) out (out.length : Int) (i : Int)) (clsI next out) := by
 obtain ⟨h1, h2, h3, h4, h5⟩ := isSeq_facts h
 obtain ⟨k1, k2, k3⟩ := singles h
 have hm : 1 ≤ Numb.many (out.map fun x => [x]) := Numb.many_pos (by intro e; have := congrArg List.length e; simp at this; subst this; simp at h3; omega)
 have hc0 : Numb.many (c0I out) = Numb.many (out.map fun x => [x]) := Numb.numJ_idem.2
 induction d with
 | zero =>
  intro i hi
  refine ev_succ ?_
  simp only [impl_classes.l0]
  rw [List.take_of_length_le (by omega), numbered_eq _ k1 k2 (by
   intro r hr x hx
   obtain ⟨y, hy, rfl⟩ := List.mem_map.1 hr
   have := h5 y hy
   simp at hx; omega)]
  simp only [Option.bind_some]
  refine ev_neg (by omega) ?_
  have := impl_C_l1 h next.length next.length (c0I out) (out.map fun x => [x]) k3 (by
   intro x hx
   have a := Numb.numJ_bd x hx
   have b := Numb.many_le (ks := out.map fun x => [x])
   simp at b
   omega) Numb.numJ_idem.1 (by omega) (by omega)
  rw [hc0] at this
  exact this
 | succ d ih =>
  intro i hi
  refine ev_succ ?_
  simp only [impl_classes.l0]
  have := ih (i + 1) (by omega)
  rw [single_take _ i (by omega)] at this
  rw [wr1 (show (0 : Int) ≤ (i : Int) by omega) (by omega)]
  exact ev_pos (by omega) (ev_pos (by omega) (ev_pos (by omega) (ev_pos (by simp; omega) this)))
theorem impl_classes_ev (h : isSeq b next out = true) : Ev (fun k => impl_classes.f k next out) (clsI next out) := by
 simp only [impl_classes.f]
 exact impl_C_l0 h out.length 0 (by omega)
end
def up1 (r : List Int) : List Int := r.map fun x => x + 1
def stN (next : List (List Int)) : List (List Int) := (0 :: up1 ((rd_L1 next 0).drop 1)) :: next.map up1
def stRes (b : Int) (next : List (List Int)) (out : List Int) : Int × (List (List Int)) × List Int × Bool :=
 if isSeq b next out = true then (if rd (rd_L1 next 0) 0 = 0 then (b, next, out, true) else if next.length = 16 then (0, [], [], false) else (b, stN next, rd out 0 :: out, true)) else (0, [], [], false)
theorem isSeq_mk {b : Int} {next : List (List Int)} {out : List Int} (h1 : 2 ≤ b ∧ b ≤ 4) (h2 : 1 ≤ next.length ∧ next.length ≤ 16) (h3 : out.length = next.length) (h4 : ∀ r ∈ next, (r.length : Int) = b ∧ ∀ x ∈ r, 0 ≤ x ∧ x < (next.length : Int)) (h5 : ∀ x ∈ out, 0 ≤ x ∧ x ≤ 3) : isSeq b next out = true := by
 unfold isSeq
 simp only [Bool.and_eq_true, decide_eq_true_eq, List.all_eq_true]
 refine ⟨⟨⟨⟨h1, h2⟩, h3⟩, fun r hr => ?_⟩, fun x hx => by simpa [outOk] using h5 x hx⟩
 have := h4 r hr
 simp only [seqRow, Bool.and_eq_true, decide_eq_true_eq, List.all_eq_true]
 exact ⟨this.1, fun x hx => by simpa [inR] using this.2 x hx⟩
section
variable {b : Int} {next : List (List Int)} {out : List Int}
theorem stRes_seq {b' : Int} {n' : List (List Int)} {o' : List Int} (h : stRes b next out = (b', n', o', true)) : isSeq b next out = true ∧ b' = b ∧ isSeq b n' o' = true := by
 unfold stRes at h
 split at h
 ·rename_i hs
  split at h
  ·injection h with e1 h; injection h with e2 h; injection h with e3 _
   subst e1; subst e2; subst e3
   exact ⟨hs, rfl, hs⟩
  ·split at h
   ·injection h with _ h; injection h with _ h; injection h with _ h; cases h
   ·rename_i h16
    injection h with e1 h; injection h with e2 h; injection h with e3 _
    obtain ⟨h1, h2, h3, h4, h5⟩ := isSeq_facts hs
    have hr0 := h4 _ (rdLL_mem (show 0 < next.length by omega))
    refine ⟨hs, e1.symm, ?_⟩
    rw [← e2, ← e3]
    have hl : (stN next).length = next.length + 1 := by simp [stN]
    refine isSeq_mk h1 (by rw [hl]; omega) (by rw [hl]; simp; omega) (fun r hr => ?_) (fun x hx => ?_)
    ·rw [hl]
     rcases List.mem_cons.1 hr with rfl | hr
     ·refine ⟨by have := hr0.1; simp [up1] at *; omega, fun x hx => ?_⟩
      rcases List.mem_cons.1 hx with rfl | hx
      ·omega
      ·obtain ⟨y, hy, rfl⟩ := List.mem_map.1 hx
       have := hr0.2 y (List.mem_of_mem_drop hy); omega
     ·obtain ⟨r', hr', rfl⟩ := List.mem_map.1 hr
      have := h4 r' hr'
      refine ⟨by simp [up1]; exact this.1, fun x hx => ?_⟩
      obtain ⟨y, hy, rfl⟩ := List.mem_map.1 hx
      have := this.2 y hy; omega
    ·rcases List.mem_cons.1 hx with rfl | hx
     ·exact h5 _ (rd_mem (show 0 < out.length by omega))
     ·exact h5 x hx
 ·injection h with _ h; injection h with _ h; injection h with _ h; cases h
theorem stRes_no {b' : Int} {n' : List (List Int)} {o' : List Int} (h : stRes b next out = (b', n', o', false)) : stRes b next out = (0, [], [], false) := by
 unfold stRes at h ⊢
 split at h
 ·rename_i hs
  rw [if_pos hs]
  split at h
  ·injection h with _ h; injection h with _ h; injection h with _ h; cases h
  ·rename_i h0
   rw [if_neg h0]
   split at h
   ·rename_i h1; rw [if_pos h1]
   ·injection h with _ h; injection h with _ h; injection h with _ h; cases h
 ·rename_i hs; rw [if_neg hs]
theorem impl_own_l0 (h : isSeq b next out = true) (d : Nat) : ∀ i : Nat, i + d = next.length → Ev (fun k => impl_Sequence_own.l0 k next (next.length : Int) (i : Int) b (next.take i) out) (b, next, out) := by
 obtain ⟨h1, h2, h3, h4, h5⟩ := isSeq_facts h
 induction d with
 | zero =>
  intro i hi
  refine ev_succ ?_
  simp only [impl_Sequence_own.l0]
  rw [List.take_of_length_le (by omega)]
  exact ev_neg (by omega) (ev_some rfl)
 | succ d ih =>
  intro i hi
  have hr := h4 _ (rdLL_mem (show i < next.length by omega))
  refine ev_succ ?_
  simp only [impl_Sequence_own.l0]
  have := ih (i + 1) (by omega)
  rw [List.take_succ_eq_append_getElem (by omega), ← rdLL_at (by omega)] at this
  rw [wr1 (show (0 : Int) ≤ (i : Int) by omega) (by omega), Clone_eq _ (by omega)]
  simp only [Option.bind_some]
  exact ev_pos (by omega) (ev_pos (by omega) (ev_pos (by omega) (ev_pos (by rw [List.length_take]; omega) this)))
theorem impl_own_ev (h : isSeq b next out = true) : Ev (fun k => impl_Sequence_own.f k b next out) (b, next, out) := by
 obtain ⟨h1, h2, h3, h4, h5⟩ := isSeq_facts h
 simp only [impl_Sequence_own.f]
 rw [Clone_eq _ (by omega)]
 simp only [Option.bind_some]
 exact impl_own_l0 h next.length 0 (by omega)
theorem spec_copy_l0 (h : isSeq b next out = true) (d : Nat) : ∀ i : Nat, i + d = next.length → Ev (fun k => spec_l3Copy.l0 k (i : Int) b next out b (next.take i) out) (b, next, out) := by
 obtain ⟨h1, h2, h3, h4, h5⟩ := isSeq_facts h
 induction d with
 | zero =>
  intro i hi
  refine ev_succ ?_
  simp only [spec_l3Copy.l0]
  rw [List.take_of_length_le (by omega)]
  exact ev_neg (by omega) (ev_some rfl)
 | succ d ih =>
  intro i hi
  have hr := h4 _ (rdLL_mem (show i < next.length by omega))
  refine ev_succ ?_
  simp only [spec_l3Copy.l0, Option.bind_some, List.nil_append]
  have := ih (i + 1) (by omega)
  rw [List.take_succ_eq_append_getElem (by omega), ← rdLL_at (by omega)] at this
  rw [wr1 (show (0 : Int) ≤ (i : Int) by omega) (by omega)]
  exact ev_pos (by omega) (ev_pos (by omega) (ev_pos (by simp only [List.length_nil]; omega) (ev_pos (by rw [List.length_take]; omega) this)))
theorem spec_copy_ev (h : isSeq b next out = true) : Ev (fun k => spec_l3Copy.f k b next out) (b, next, out) := by
 obtain ⟨h1, h2, h3, h4, h5⟩ := isSeq_facts h
 simp only [spec_l3Copy.f, Option.bind_some, List.nil_append]
 exact ev_pos (by simp only [List.length_nil]; omega) (spec_copy_l0 h next.length 0 (by omega))
theorem steady_head (h : isSeq b next out = true) : 0 < next.length ∧ 0 < (rd_L1 next 0).length := by
 obtain ⟨h1, h2, h3, h4, h5⟩ := isSeq_facts h
 have hr0 := h4 _ (rdLL_mem (show 0 < next.length by omega))
 have := hr0.1
 exact ⟨by omega, by simp at this; omega⟩
theorem impl_IsSteady_ev (h : isSeq b next out = true) : Ev (fun k => impl_IsSteady.f k b next out) (rd (rd_L1 next 0) 0 == 0) := by
 obtain ⟨f1, f2⟩ := isSeq_fit h
 have := steady_head h
 simp only [impl_IsSteady.f]
 exact ev_bind (impl_IsSequence_ev b next out f1 f2) (ev_pos h (ev_pos (by omega) (ev_pos (by omega) (ev_some rfl))))
theorem spec_IsSteady_ev (h : isSeq b next out = true) : Ev (fun k => spec_IsSteady.f k b next out) (rd (rd_L1 next 0) 0 == 0) := by
 obtain ⟨f1, f2⟩ := isSeq_fit h
 have := steady_head h
 simp only [spec_IsSteady.f]
 exact ev_bind (spec_IsSequence_ev b next out f1 f2) (ev_pos h (ev_pos (by omega) (ev_pos (by omega) (ev_some rfl))))
theorem up1_take (r : List Int) (n : Nat) (hn : n < r.length) : up1 (r.take (n + 1)) = up1 (r.take n) ++ [rd r (n : Int) + 1] := map_take_rd _ r n hn
theorem impl_St_l1 (Y : List (List Int)) (hY : Y.length ≤ 64) (hr : ∀ r ∈ Y, r.length ≤ 64 ∧ ∀ x ∈ r, 0 ≤ x ∧ x < 64) (o : List Int) (i : Nat) (hi : i < Y.length) (R : Int × (List (List Int)) × List Int × Bool)
  (H : Ev (fun k => impl_SteadyForm.l0 k Y (Y.length : Int) ((i + 1 : Nat) : Int) b ((Y.map up1).take (i + 1)) o) R) (d : Nat) : ∀ n : Nat, n + d = (rd_L1 Y (i : Int)).length →
  Ev (fun k => impl_SteadyForm.l1 k (up1 ((rd_L1 Y (i : Int)).take n)) Y (Y.length : Int) (i : Int) (rd_L1 Y (i : Int)) ((rd_L1 Y (i : Int)).length : Int) (n : Int) b ((Y.map up1).take i) o) R := by
 have hri := hr _ (rdLL_mem hi)
 induction d with
 | zero =>
  intro n hn
  refine ev_succ ?_
  simp only [impl_SteadyForm.l1]
  refine ev_neg (by omega) (ev_pos (by rw [List.length_take]; omega) ?_)
  rw [List.take_of_length_le (show (rd_L1 Y (i : Int)).length ≤ n by omega), wr1 (by omega) (by omega)]
  rw [List.take_succ_eq_append_getElem (by simp; omega), List.getElem_map, ← rdLL_at hi] at H
  exact H
 | succ d ih =>
  intro n hn
  have hx := hri.2 _ (rd_mem (show n < (rd_L1 Y (i : Int)).length by omega))
  refine ev_succ ?_
  simp only [impl_SteadyForm.l1]
  have := ih (n + 1) (by omega)
  rw [up1_take _ n (by omega)] at this
  rw [wr1 (show (0 : Int) ≤ (n : Int) by omega) (by omega), wr1 (show (0 : Int) ≤ rd (rd_L1 Y (i : Int)) (n : Int) by omega) (by omega)]
  exact ev_pos (by omega) (ev_pos (by omega) (ev_pos (by omega) (ev_pos (by simp [up1]; omega) this)))
theorem impl_St_l0 (Y : List (List Int)) (hY : Y.length ≤ 64 ∧ 0 < Y.length ∧ 0 < (rd_L1 Y 0).length) (hr : ∀ r ∈ Y, r.length ≤ 64 ∧ ∀ x ∈ r, 0 ≤ x ∧ x < 64) (o : List Int) (d : Nat) : ∀ i : Nat, i + d = Y.length →
  Ev (fun k => impl_SteadyForm.l0 k Y (Y.length : Int) (i : Int) b ((Y.map up1).take i) o) (b, (Y.map up1).set 0 (((Y.map up1).getD 0 []).set 0 0), o, true) := by
 induction d with
 | zero =>
  intro i hi
  refine ev_succ ?_
  simp only [impl_SteadyForm.l0]
  rw [List.take_of_length_le (by simp; omega)]
  have h0 : (Y.map up1).getD 0 [] = up1 (rd_L1 Y 0) := by
   have := rdLL_at (show 0 < Y.length by omega)
   simp only [Int.natCast_zero] at this
   rw [this]
   simp [List.getD_eq_getElem?_getD, List.getElem?_eq_getElem (show 0 < Y.length by omega)]
  refine ev_neg (by omega) (ev_pos (by simp; omega) (ev_pos (by rw [h0]; simp [up1]; omega) (ev_some rfl)))
 | succ d ih =>
  intro i hi
  refine ev_succ ?_
  simp only [impl_SteadyForm.l0]
  refine ev_pos (by omega) (ev_pos (by omega) (ev_pos (by omega) ?_))
  exact impl_St_l1 Y hY.1 hr o i (by omega) _ (ih (i + 1) (by omega)) (rd_L1 Y (i : Int)).length 0 (by omega)
theorem stN_eq (h : isSeq b next out = true) : ((([rd_L1 next 0] : List (List Int)) ++ next).map up1).set 0 (((([rd_L1 next 0] ++ next).map up1).getD 0 []).set 0 0) = stN next := by
 obtain ⟨e, e2⟩ := steady_head h
 obtain ⟨x, l, hx⟩ : ∃ x l, rd_L1 next 0 = x :: l := by
  cases hh : rd_L1 next 0 with
  | nil => rw [hh] at e2; simp at e2
  | cons x l => exact ⟨x, l, rfl⟩
 simp [stN, hx, up1]
theorem rows_small (h : isSeq b next out = true) : ∀ r ∈ ([rd_L1 next 0] : List (List Int)) ++ next, r.length ≤ 64 ∧ ∀ x ∈ r, 0 ≤ x ∧ x < 64 := by
 obtain ⟨h1, h2, h3, h4, h5⟩ := isSeq_facts h
 have hr : ∀ r ∈ next, r.length ≤ 64 ∧ ∀ x ∈ r, 0 ≤ x ∧ x < 64 := fun r hr => by
  have := h4 r hr
  exact ⟨by omega, fun x hx => by have := this.2 x hx; omega⟩
 intro r hr'
 rcases List.mem_append.1 hr' with h' | h'
 ·rw [List.mem_singleton.1 h']; exact hr _ (rdLL_mem (show 0 < next.length by omega))
 ·exact hr r h'
theorem impl_SteadyForm_ev (b : Int) (next : List (List Int)) (out : List Int) (f1 : fit2 next) (f2 : fit1 out) : Ev (fun k => impl_SteadyForm.f k b next out) (stRes b next out) := by
 simp only [impl_SteadyForm.f]
 refine ev_bind (impl_IsSequence_ev b next out f1 f2) (ev_ite (fun h => ?_) (fun h => ev_some (by unfold stRes; rw [if_neg h])))
 obtain ⟨h1, h2, h3, h4, h5⟩ := isSeq_facts h
 have hh := steady_head h
 refine ev_bind (impl_IsSteady_ev h) (ev_ite (fun h0 => ?_) (fun h0 => ?_))
 ·refine ev_bind (impl_own_ev h) (ev_some ?_)
  unfold stRes
  rw [if_pos h, if_pos (by simpa using h0)]
 ·have e0 : ¬ rd (rd_L1 next 0) 0 = 0 := by simpa using h0
  refine ev_ite (fun h16 => ev_some ?_) (fun h16 => ?_)
  ·unfold stRes
   rw [if_pos h, if_neg e0, if_pos (by omega)]
  ·have hR : stRes b next out = (b, stN next, rd out 0 :: out, true) := by
    unfold stRes
    rw [if_pos h, if_neg e0, if_neg (by omega)]
   rw [hR]
   simp only [Option.bind_some]
   refine ev_pos (by omega) (ev_pos (by simp only [List.length_cons, List.length_nil]; omega) (ev_pos (by omega) (ev_pos (by simp only [List.length_cons, List.length_nil]; omega) ?_)))
   have := impl_St_l0 (b := b) ([rd_L1 next 0] ++ next) ⟨by simp; omega, by simp, hh.2⟩ (rows_small h) ([rd out 0] ++ out) ([rd_L1 next 0] ++ next).length 0 (by omega)
   rw [stN_eq h] at this
   exact this
theorem spec_St_l2 (h : isSeq b next out = true) (o : List Int) (A : List (List Int)) (hA : A.length ≤ 64) (i : Nat) (hi : i < next.length) (R : Int × (List (List Int)) × List Int × Bool)
  (H : Ev (fun k => spec_SteadyForm.l1 k ((i + 1 : Nat) : Int) b next out b (A ++ [up1 (rd_L1 next (i : Int))]) o) R) (d : Nat) : ∀ n : Nat, ((n + d : Nat) : Int) = b →
  Ev (fun k => spec_SteadyForm.l2 k (i : Int) (up1 ((rd_L1 next (i : Int)).take n)) (n : Int) b next out b A o) R := by
 obtain ⟨h1, h2, h3, h4, h5⟩ := isSeq_facts h
 have hr := h4 _ (rdLL_mem hi)
 induction d with
 | zero =>
  intro n hn
  refine ev_succ ?_
  simp only [spec_SteadyForm.l2]
  refine ev_neg (by omega) (ev_pos (by omega) ?_)
  rw [List.take_of_length_le (show (rd_L1 next (i : Int)).length ≤ n by omega), wr1 (by omega) (by omega)]
  exact H
 | succ d ih =>
  intro n hn
  have hx := hr.2 _ (rd_mem (show n < (rd_L1 next (i : Int)).length by omega))
  refine ev_succ ?_
  simp only [spec_SteadyForm.l2]
  have := ih (n + 1) (by omega)
  rw [up1_take _ n (by omega)] at this
  rw [wr1 (show (0 : Int) ≤ (n : Int) by omega) (by omega), wr1 (show (0 : Int) ≤ rd (rd_L1 next (i : Int)) (n : Int) by omega) (by omega)]
  exact ev_pos (by omega) (ev_pos (by omega) (ev_pos (by omega) (ev_pos (by omega) (ev_pos (by omega) (ev_pos (by simp [up1]; omega) this)))))
theorem spec_St_l1 (h : isSeq b next out = true) (o r0 : List Int) (d : Nat) : ∀ i : Nat, i + d = next.length → Ev (fun k => spec_SteadyForm.l1 k (i : Int) b next out b (r0 :: (next.map up1).take i) o) (b, r0 :: next.map up1, o, true) := by
 obtain ⟨h1, h2, h3, h4, h5⟩ := isSeq_facts h
 induction d with
 | zero =>
  intro i hi
  refine ev_succ ?_
  simp only [spec_SteadyForm.l1]
  rw [List.take_of_length_le (by simp; omega)]
  exact ev_neg (by omega) (ev_some rfl)
 | succ d ih =>
  intro i hi
  refine ev_succ ?_
  simp only [spec_SteadyForm.l1]
  have := ih (i + 1) (by omega)
  rw [List.take_succ_eq_append_getElem (by simp; omega), List.getElem_map, ← rdLL_at (by omega)] at this
  exact ev_pos (by omega) (spec_St_l2 h o _ (by rw [List.length_cons, List.length_take]; omega) i (by omega) _ this b.toNat 0 (by omega))
theorem spec_St_l0 (h : isSeq b next out = true) (o : List Int) (d : Nat) : ∀ n : Nat, 1 ≤ n → ((n + d : Nat) : Int) = b → Ev (fun k => spec_SteadyForm.l0 k (0 :: up1 (((rd_L1 next 0).take n).drop 1)) (n : Int) b next out b o) (b, stN next, o, true) := by
 obtain ⟨h1, h2, h3, h4, h5⟩ := isSeq_facts h
 have hr := h4 _ (rdLL_mem (show 0 < next.length by omega))
 rw [show ((0 : Nat) : Int) = 0 from rfl] at hr
 induction d with
 | zero =>
  intro n hn0 hn
  refine ev_succ ?_
  simp only [spec_SteadyForm.l0]
  rw [List.take_of_length_le (show (rd_L1 next 0).length ≤ n by omega)]
  exact ev_neg (by omega) (ev_pos (by simp) (spec_St_l1 h o _ next.length 0 (by omega)))
 | succ d ih =>
  intro n hn0 hn
  have hx := hr.2 _ (rd_mem (show n < (rd_L1 next 0).length by omega))
  refine ev_succ ?_
  simp only [spec_SteadyForm.l0]
  have := ih (n + 1) (by omega) (by omega)
  rw [List.take_succ_eq_append_getElem (by omega), ← rd_get (by omega), List.drop_append_of_le_length (by rw [List.length_take]; omega)] at this
  have e : up1 (((rd_L1 next 0).take n).drop 1 ++ [rd (rd_L1 next 0) (n : Int)]) = up1 (((rd_L1 next 0).take n).drop 1) ++ [rd (rd_L1 next 0) (n : Int) + 1] := by simp [up1]
  rw [e] at this
  rw [wr1 (show (0 : Int) ≤ (n : Int) by omega) (by omega), wr1 (show (0 : Int) ≤ rd (rd_L1 next 0) (n : Int) by omega) (by omega)]
  exact ev_pos (by omega) (ev_pos (by omega) (ev_pos (by omega) (ev_pos (by omega) (ev_pos (by simp [up1]; omega) this))))
theorem spec_SteadyForm_ev (b : Int) (next : List (List Int)) (out : List Int) (f1 : fit2 next) (f2 : fit1 out) : Ev (fun k => spec_SteadyForm.f k b next out) (stRes b next out) := by
 simp only [spec_SteadyForm.f]
 have no : ∀ f : Bool, f = true → stRes b next out = (0, [], [], false) → Ev (fun k => spec_SteadyForm.j0 k f b next out) (stRes b next out) := by
  intro f hf e
  subst hf
  refine ev_succ ?_
  simp only [spec_SteadyForm.j0]
  exact ev_pos trivial (ev_some e.symm)
 refine ev_bind (spec_IsSequence_ev b next out f1 f2) (ev_ite (fun h => ?_) (fun h => no _ rfl (by unfold stRes; rw [if_neg h])))
 obtain ⟨h1, h2, h3, h4, h5⟩ := isSeq_facts h
 have hh := steady_head h
 have go_ : (next.length = 16 → rd (rd_L1 next 0) 0 = 0) → Ev (fun k => spec_SteadyForm.j0 k false b next out) (stRes b next out) := by
  intro h16
  refine ev_succ ?_
  simp only [spec_SteadyForm.j0]
  refine ev_neg (by simp) (ev_bind (spec_IsSteady_ev h) (ev_ite (fun h0 => ?_) (fun h0 => ?_)))
  ·refine ev_bind (spec_copy_ev h) (ev_some ?_)
   unfold stRes
   rw [if_pos h, if_pos (by simpa using h0)]
  ·have e0 : ¬ rd (rd_L1 next 0) 0 = 0 := by simpa using h0
   have hR : stRes b next out = (b, stN next, rd out 0 :: out, true) := by
    unfold stRes
    rw [if_pos h, if_neg e0, if_neg (fun e => e0 (h16 e))]
   rw [hR]
   simp only [Option.bind_some]
   refine ev_pos (by omega) (ev_pos (by simp only [List.length_cons, List.length_nil]; omega) ?_)
   have := spec_St_l0 h ([rd out 0] ++ out) (b.toNat - 1) 1 (Nat.le_refl _) (by omega)
   obtain ⟨x, l, hx⟩ : ∃ x l, rd_L1 next 0 = x :: l := by
    cases e : rd_L1 next 0 with
    | nil => rw [e] at hh; simp at hh
    | cons x l => exact ⟨x, l, rfl⟩
   rw [hx] at this
   simpa [up1] using this
 refine ev_ite (fun h16 => ev_bind (spec_IsSteady_ev h) ?_) (fun h16 => go_ (fun e => by omega))
 by_cases h0 : rd (rd_L1 next 0) 0 = 0
 ·have : (!(rd (rd_L1 next 0) 0 == 0)) = false := by simp [h0]
  rw [this]
  exact go_ (fun _ => h0)
 ·refine no _ (by simp [h0]) ?_
  unfold stRes
  rw [if_pos h, if_neg h0, if_pos (by omega)]
end
def insI (o : List Int) : List Int → List Int
 | [] => o
 | t :: l => insI (if t ∈ o then o else o ++ [t]) l
def bfsI (Mf : Int → List Int) : Nat → Nat → List Int → List Int
 | 0, _, o => o
 | f + 1, i, o => if i < o.length then bfsI Mf f (i + 1) (insI o (Mf (rd o (i : Int)))) else o
def posI (o : List Int) (t : Int) : Int := (o.idxOf t : Int)
def GoodI (m : Nat) (o : List Int) : Prop := o.Nodup ∧ ∀ v ∈ o, 0 ≤ v ∧ v < (m : Int)
theorem GoodI.len {m : Nat} {o : List Int} (h : GoodI m o) : o.length ≤ m := by
 have := Numb.nodup_le (l := o) (m := (List.range m).map fun i : Nat => (i : Int)) h.1 (fun x hx => by
  have := h.2 x hx
  exact List.mem_map.2 ⟨x.toNat, List.mem_range.2 (by omega), by omega⟩)
 simpa using this
theorem GoodI.snoc {m : Nat} {o : List Int} {t : Int} (h : GoodI m o) (ht : t ∉ o) (hb : 0 ≤ t ∧ t < (m : Int)) : GoodI m (o ++ [t]) := by
 refine ⟨?_, fun v hv => ?_⟩
 ·rw [List.nodup_append]
  refine ⟨h.1, by simp, fun a ha b hb' => ?_⟩
  simp at hb'; subst hb'
  rintro rfl
  exact ht ha
 ·rcases List.mem_append.1 hv with h' | h'
  ·exact h.2 v h'
  ·simp at h'; subst h'; exact hb
theorem insI_snoc : ∀ (l o : List Int) (t : Int), insI o (l ++ [t]) = if t ∈ insI o l then insI o l else insI o l ++ [t]
 | [], o, t => rfl
 | x :: l, o, t => by
  show insI _ (l ++ [t]) = _
  rw [insI_snoc l]; rfl
theorem insI_pre : ∀ (l o : List Int), ∃ e, insI o l = o ++ e
 | [], o => ⟨[], by simp [insI]⟩
 | x :: l, o => by
  obtain ⟨e, he⟩ := insI_pre l (if x ∈ o then o else o ++ [x])
  show ∃ e, insI _ l = _
  rw [he]
  split
  ·exact ⟨e, rfl⟩
  ·exact ⟨[x] ++ e, by simp⟩
theorem insI_mem : ∀ (l o : List Int) (t : Int), t ∈ l → t ∈ insI o l
 | [], _, t, h => by simp at h
 | x :: l, o, t, h => by
  show t ∈ insI _ l
  rcases List.mem_cons.1 h with rfl | h
  ·obtain ⟨e, he⟩ := insI_pre l (if t ∈ o then o else o ++ [t])
   rw [he]
   split
   ·rename_i h'; exact List.mem_append.2 (.inl h')
   ·exact List.mem_append.2 (.inl (by simp))
  ·exact insI_mem l _ t h
theorem insI_good {m : Nat} : ∀ (l o : List Int), GoodI m o → (∀ t ∈ l, 0 ≤ t ∧ t < (m : Int)) → GoodI m (insI o l)
 | [], _, h, _ => h
 | x :: l, o, h, hl => by
  refine insI_good l _ ?_ (fun t ht => hl t (by simp [ht]))
  split
  ·exact h
  ·rename_i hx; exact h.snoc hx (hl x (by simp))
theorem posI_ext {o e : List Int} {t : Int} (h : t ∈ o) : posI (o ++ e) t = posI o t := by unfold posI; rw [List.idxOf_append, if_pos h]
theorem posI_at {o : List Int} (h : o.Nodup) {k : Nat} (hk : k < o.length) : posI o (rd o (k : Int)) = (k : Int) := by
 unfold posI; rw [rd_get hk, List.Nodup.idxOf_getElem h]
def RowsI (Mf : Int → List Int) (o : List Int) (i : Nat) : List (List Int) := (o.take i).map fun v => (Mf v).map (posI o)
def ClosedI (Mf : Int → List Int) (o : List Int) (i : Nat) : Prop := ∀ v ∈ o.take i, ∀ t ∈ Mf v, t ∈ o
theorem RowsI_ext {Mf : Int → List Int} {o e : List Int} {i : Nat} (hi : i ≤ o.length) (h : ClosedI Mf o i) : RowsI Mf (o ++ e) i = RowsI Mf o i := by
 unfold RowsI
 rw [List.take_append_of_le_length hi]
 refine List.map_congr_left fun v hv => List.map_congr_left fun t ht => posI_ext (h v hv t ht)
theorem ClosedI_step {Mf : Int → List Int} {o : List Int} {i : Nat} (hi : i < o.length) (h : ClosedI Mf o i) : ClosedI Mf (insI o (Mf (rd o (i : Int)))) (i + 1) := by
 obtain ⟨e, he⟩ := insI_pre (Mf (rd o (i : Int))) o
 intro v hv t ht
 rw [he, List.take_append_of_le_length (by omega), List.take_succ_eq_append_getElem hi] at hv
 rcases List.mem_append.1 hv with h' | h'
 ·rw [he]; exact List.mem_append.2 (.inl (h v h' t ht))
 ·simp at h'
  rw [← rd_get hi] at h'
  subst h'
  exact insI_mem _ _ t ht
theorem RowsI_step {Mf : Int → List Int} {o : List Int} {i : Nat} (hi : i < o.length) (h : ClosedI Mf o i) : RowsI Mf (insI o (Mf (rd o (i : Int)))) (i + 1) = RowsI Mf o i ++ [(Mf (rd o (i : Int))).map (posI (insI o (Mf (rd o (i : Int)))))] := by
 obtain ⟨e, he⟩ := insI_pre (Mf (rd o (i : Int))) o
 rw [he, ← RowsI_ext (e := e) (by omega) h]
 unfold RowsI
 rw [List.take_append_of_le_length (by omega), List.take_append_of_le_length (by omega), List.take_succ_eq_append_getElem hi, List.map_append, rd_get hi]; rfl
theorem bfsI_end {Mf : Int → List Int} {m : Nat} (hM : ∀ v, 0 ≤ v → v < (m : Int) → ∀ t ∈ Mf v, 0 ≤ t ∧ t < (m : Int)) : ∀ (f i : Nat) (o : List Int), GoodI m o → i ≤ o.length → m ≤ f + i → ClosedI Mf o i →
  GoodI m (bfsI Mf f i o) ∧ ClosedI Mf (bfsI Mf f i o) (bfsI Mf f i o).length ∧ (∃ e, bfsI Mf f i o = o ++ e)
 | 0, i, o, h, hi, hf, hc => by
  have := h.len
  have e : i = o.length := by omega
  exact ⟨h, by subst e; exact hc, [], by simp [bfsI]⟩
 | f + 1, i, o, h, hi, hf, hc => by
  unfold bfsI
  split
  ·rename_i hlt
   have hv := h.2 _ (rd_mem hlt)
   obtain ⟨e, he⟩ := insI_pre (Mf (rd o (i : Int))) o
   have hl : i + 1 ≤ (insI o (Mf (rd o (i : Int)))).length := by rw [he, List.length_append]; omega
   obtain ⟨h1, h2, e2, h3⟩ := bfsI_end hM f (i + 1) (insI o (Mf (rd o (i : Int)))) (insI_good _ _ h (hM _ hv.1 hv.2)) hl (by omega) (ClosedI_step hlt hc)
   exact ⟨h1, h2, e ++ e2, by rw [h3, he, List.append_assoc]⟩
  ·have e : i = o.length := by omega
   exact ⟨h, by subst e; exact hc, [], by simp⟩
theorem firstI_spec (k : Int) : ∀ (l : List Int) (n : Nat), k ∈ l → ∃ i, ∃ hi : i < l.length, firstI k l n = ((n + i : Nat) : Int) ∧ l[i] = k
 | [], _, h => by simp at h
 | x :: l, n, h => by
  unfold firstI
  by_cases e : x = k
  ·exact ⟨0, by simp, by rw [if_pos e]; rfl, by simpa using e⟩
  ·rw [if_neg e]
   rcases List.mem_cons.1 h with rfl | h
   ·exact absurd rfl e
   ·obtain ⟨i, hi, h1, h2⟩ := firstI_spec k l (n + 1) h
    exact ⟨i + 1, by simp; omega, by rw [h1]; congr 1; omega, by simpa using h2⟩
def ddI : List Int → List Int
 | [] => []
 | x :: l => if x ∈ l then ddI l else x :: ddI l
theorem ddI_mem : ∀ (l : List Int) (x : Int), x ∈ ddI l ↔ x ∈ l
 | [], x => by simp [ddI]
 | y :: l, x => by
  unfold ddI
  split
  ·rename_i h; rw [ddI_mem l]; simp; intro e; rw [e]; exact h
  ·simp [ddI_mem l]
theorem ddI_nodup : ∀ l : List Int, (ddI l).Nodup
 | [] => List.nodup_nil
 | y :: l => by
  unfold ddI
  split
  ·exact ddI_nodup l
  ·rename_i h; exact List.nodup_cons.2 ⟨fun h' => h ((ddI_mem l y).1 h'), ddI_nodup l⟩
theorem manyI_dd : ∀ l : List Int, manyI l = (ddI l).length
 | [] => rfl
 | y :: l => by
  unfold manyI ddI
  split
  ·exact manyI_dd l
  ·rw [manyI_dd l]; rfl
theorem manyI_eq (l : List Int) : manyI l = Numb.many l := by
 rw [manyI_dd]
 refine Nat.le_antisymm (Numb.nodup_le (ddI_nodup l) (fun x hx => Numb.fin_mem.2 (.inr ((ddI_mem l x).1 hx)))) (Numb.nodup_le (Numb.fin_nodup List.nodup_nil) (fun x hx => ?_))
 rcases Numb.fin_mem.1 hx with h | h
 ·simp at h
 ·exact (ddI_mem l x).2 h
section
variable {b : Int} {next : List (List Int)} {out : List Int}
structure Cls (next : List (List Int)) (out c : List Int) (m : Nat) : Prop where
 len : c.length = next.length
 many : Numb.many c = m
 bd : ∀ x ∈ c, 0 ≤ x ∧ x < (m : Int)
 surj : ∀ v : Nat, v < m → (v : Int) ∈ c
 row : ∀ i j : Nat, i < next.length → j < next.length → rd c (i : Int) = rd c (j : Int) → (rd_L1 next (i : Int)).map (fun t => rd c t) = (rd_L1 next (j : Int)).map (fun t => rd c t)
 val : ∀ i j : Nat, i < next.length → j < next.length → rd c (i : Int) = rd c (j : Int) → rd out (i : Int) = rd out (j : Int)
 zero : rd c 0 = 0
 pos : 0 < m ∧ m ≤ next.length
theorem clsI_cls (h : isSeq b next out = true) : ∃ m, Cls next out (clsI next out) m := by
 obtain ⟨h1, h2, h3, h4, h5⟩ := isSeq_facts h
 obtain ⟨k1, k2, k3⟩ := singles h
 have hl : (clsI next out).length = next.length := length_itI _ k3
 have hcan : Numb.numJ (clsI next out) = clsI next out := itI_canon _ Numb.numJ_idem.1
 have hfix : stepI next (clsI next out) = clsI next out := itI_end _ k3 Numb.numJ_idem.1 (by omega)
 have hne : clsI next out ≠ [] := by intro e; rw [e] at hl; simp at hl; omega
 refine ⟨_, hl, rfl, ?_, ?_, ?_, ?_, ?_, Numb.many_pos hne, by have := Numb.many_le (ks := clsI next out); omega⟩
 ·intro x hx
  have : x ∈ Numb.numJ (clsI next out) := by rw [hcan]; exact hx
  exact Numb.numJ_bd x this
 ·intro v hv
  have := Numb.numJ_surj (ks := clsI next out) hv
  rwa [hcan] at this
 ·intro i j hi hj e
  refine (stepI_refines hl hi hj ?_).2
  rw [hfix]; exact e
 ·intro i j hi hj e
  have e0 := itI_refines next.length k3 hi hj e
  have := Numb.numJ_inj (ks := out.map fun x => [x]) (by simp; omega) (by simp; omega) e0
  rw [List.getElem_map, List.getElem_map] at this
  injection this with this
  rw [rd_get (by omega), rd_get (by omega), this]
 ·rw [← hfix]
  exact Numb.numJ_zero (by rw [length_keysI hl]; omega)
def mrgI (next : List (List Int)) (c : List Int) (m : Nat) : List (List Int) := (List.range m).map fun v : Nat => (rd_L1 next (firstI (v : Int) c 0)).map (fun t => rd c t)
def trmI (out c : List Int) (m : Nat) : List Int := (List.range m).map fun v : Nat => rd out (firstI (v : Int) c 0)
section
variable {c : List Int} {m : Nat}
theorem Cls.first (hC : Cls next out c m) {v : Nat} (hv : v < m) : ∃ i : Nat, i < next.length ∧ firstI (v : Int) c 0 = (i : Int) ∧ rd c (i : Int) = (v : Int) := by
 obtain ⟨i, hi, e1, e2⟩ := firstI_spec (v : Int) c 0 (hC.surj v hv)
 exact ⟨i, by rw [← hC.len]; exact hi, by rw [e1]; simp, by rw [rd_get hi]; exact e2⟩
theorem mrg_len : (mrgI next c m).length = m := by simp [mrgI]
theorem trm_len : (trmI out c m).length = m := by simp [trmI]
theorem Cls.mrg (hC : Cls next out c m) {s : Nat} (hs : s < next.length) : rd_L1 (mrgI next c m) (rd c (s : Int)) = (rd_L1 next (s : Int)).map (fun t => rd c t) := by
 have hb := hC.bd _ (rd_mem (show s < c.length by rw [hC.len]; exact hs))
 obtain ⟨v, hv⟩ := Int.eq_ofNat_of_zero_le hb.1
 have hvm : v < m := by omega
 obtain ⟨i, hi, e1, e2⟩ := hC.first hvm
 rw [hv, rdLL_at (by rw [mrg_len]; exact hvm)]
 simp only [mrgI, List.getElem_map, List.getElem_range]
 rw [e1]
 exact hC.row i s hi hs (by rw [e2, hv])
theorem Cls.trm (hC : Cls next out c m) {s : Nat} (hs : s < next.length) : rd (trmI out c m) (rd c (s : Int)) = rd out (s : Int) := by
 have hb := hC.bd _ (rd_mem (show s < c.length by rw [hC.len]; exact hs))
 obtain ⟨v, hv⟩ := Int.eq_ofNat_of_zero_le hb.1
 have hvm : v < m := by omega
 obtain ⟨i, hi, e1, e2⟩ := hC.first hvm
 rw [hv, rd_get (by rw [trm_len]; exact hvm)]
 simp only [trmI, List.getElem_map, List.getElem_range]
 rw [e1]
 exact hC.val i s hi hs (by rw [e2, hv])
theorem Cls.mrg_row (h : isSeq b next out = true) (hC : Cls next out c m) (v : Int) (h0 : 0 ≤ v) (hv : v < (m : Int)) : ((rd_L1 (mrgI next c m) v).length : Int) = b ∧ ∀ t ∈ rd_L1 (mrgI next c m) v, 0 ≤ t ∧ t < (m : Int) := by
 obtain ⟨h1, h2, h3, h4, h5⟩ := isSeq_facts h
 obtain ⟨v, rfl⟩ := Int.eq_ofNat_of_zero_le h0
 obtain ⟨i, hi, e1, e2⟩ := hC.first (show v < m by omega)
 have := hC.mrg hi
 rw [e2] at this
 rw [this]
 have hr := h4 _ (rdLL_mem hi)
 refine ⟨by simp; exact hr.1, fun t ht => ?_⟩
 obtain ⟨s, hs, rfl⟩ := List.mem_map.1 ht
 have hs' := hr.2 s hs
 obtain ⟨s, rfl⟩ := Int.eq_ofNat_of_zero_le hs'.1
 exact hC.bd _ (rd_mem (show s < c.length by rw [hC.len]; omega))
theorem impl_m2_l1 (h : isSeq b next out = true) (hC : Cls next out c m) (v i : Nat) (hv : v < m) (hi : i < next.length) (hf : firstI (v : Int) c 0 = (i : Int)) (R : (List (List Int)) × List Int)
  (H : Ev (fun k => impl_minimal2.l0 k next out c ((mrgI next c m).take (v + 1)) ((trmI out c m).take (v + 1)) (m : Int) ((v + 1 : Nat) : Int)) R) (d : Nat) : ∀ n : Nat, n + d = (rd_L1 next (i : Int)).length →
  Ev (fun k => impl_minimal2.l1 k next out c ((mrgI next c m).take v) ((trmI out c m).take v) (v : Int) (((rd_L1 next (i : Int)).take n).map (fun t => rd c t)) (m : Int) (v : Int) (rd_L1 next (i : Int)) ((rd_L1 next (i : Int)).length : Int) (n : Int)) R := by
 obtain ⟨h1, h2, h3, h4, h5⟩ := isSeq_facts h
 have hr := h4 _ (rdLL_mem hi)
 have hl := hC.len
 have hp := hC.pos
 induction d with
 | zero =>
  intro n hn
  refine ev_succ ?_
  simp only [impl_minimal2.l1]
  have e1 : (mrgI next c m).take (v + 1) = (mrgI next c m).take v ++ [(rd_L1 next (i : Int)).map (fun t => rd c t)] := by
   rw [List.take_succ_eq_append_getElem (by rw [mrg_len]; exact hv)]
   simp only [mrgI, List.getElem_map, List.getElem_range, hf]
  have e2 : (trmI out c m).take (v + 1) = (trmI out c m).take v ++ [rd out (i : Int)] := by
   rw [List.take_succ_eq_append_getElem (by rw [trm_len]; exact hv)]
   simp only [trmI, List.getElem_map, List.getElem_range, hf]
  rw [e1, e2] at H
  rw [List.take_of_length_le (show (rd_L1 next (i : Int)).length ≤ n by omega), wr1 (show (0 : Int) ≤ (v : Int) by omega) (by omega)]
  refine ev_neg (by omega) (ev_pos (by rw [List.length_take]; omega) ?_)
  simp only [impl_firstIn.f, hf]
  rw [if_pos ⟨by omega, by omega⟩]
  simp only [Option.bind_some]
  exact ev_pos (by omega) (ev_pos (by omega) (ev_pos (by rw [List.length_take]; omega) H))
 | succ d ih =>
  intro n hn
  have hx := hr.2 _ (rd_mem (show n < (rd_L1 next (i : Int)).length by omega))
  refine ev_succ ?_
  simp only [impl_minimal2.l1]
  have := ih (n + 1) (by omega)
  rw [map_take_rd _ _ n (by omega)] at this
  rw [wr1 (show (0 : Int) ≤ (n : Int) by omega) (by omega)]
  exact ev_pos (by omega) (ev_pos (by omega) (ev_pos (by omega) (ev_pos (by omega) (ev_pos (by omega) (ev_pos (by simp; omega) this)))))
theorem impl_m2_l0 (h : isSeq b next out = true) (hC : Cls next out c m) (d : Nat) : ∀ v : Nat, v + d = m →
  Ev (fun k => impl_minimal2.l0 k next out c ((mrgI next c m).take v) ((trmI out c m).take v) (m : Int) (v : Int)) (mrgI next c m, trmI out c m) := by
 obtain ⟨h1, h2, h3, h4, h5⟩ := isSeq_facts h
 have hp := hC.pos
 induction d with
 | zero =>
  intro v hv
  refine ev_succ ?_
  simp only [impl_minimal2.l0]
  rw [List.take_of_length_le (by rw [mrg_len]; omega), List.take_of_length_le (by rw [trm_len]; omega)]
  exact ev_neg (by omega) (ev_some rfl)
 | succ d ih =>
  intro v hv
  obtain ⟨i, hi, hf, hci⟩ := hC.first (show v < m by omega)
  refine ev_succ ?_
  simp only [impl_minimal2.l0, impl_firstIn.f, hf]
  rw [if_pos ⟨by omega, by omega⟩]
  simp only [Option.bind_some]
  exact ev_pos (by omega) (ev_pos (by omega) (ev_pos (by omega) (impl_m2_l1 h hC v i (by omega) hi hf _ (ih (v + 1) (by omega)) (rd_L1 next (i : Int)).length 0 (by omega))))
theorem impl_m2_ev (h : isSeq b next out = true) (hC : Cls next out c m) : Ev (fun k => impl_minimal2.f k next out c) (mrgI next c m, trmI out c m) := by
 simp only [impl_minimal2.f, impl_manyIn.f, Option.bind_some]
 rw [manyI_eq, hC.many]
 exact impl_m2_l0 h hC m 0 (by omega)
end
end
section
variable {b : Int} {m : Nat} {M : List (List Int)} {T : List Int}
structure MOk (b : Int) (m : Nat) (M : List (List Int)) (T : List Int) : Prop where
 len : M.length = m
 tlen : T.length = m
 small : m ≤ 16
 base : 2 ≤ b ∧ b ≤ 4
 row : ∀ v, 0 ≤ v → v < (m : Int) → ((rd_L1 M v).length : Int) = b ∧ ∀ t ∈ rd_L1 M v, 0 ≤ t ∧ t < (m : Int)
def SeenOk (m : Nat) (seen : List Bool) (o : List Int) : Prop := seen.length = m ∧ ∀ v : Nat, v < m → rdOf false seen (v : Int) = decide ((v : Int) ∈ o)
theorem SeenOk.set {seen : List Bool} {o : List Int} {t : Nat} (h : SeenOk m seen o) (ht : t < m) : SeenOk m (seen.set t true) (o ++ [(t : Int)]) := by
 refine ⟨by simp [h.1], fun v hv => ?_⟩
 have := h.2 v hv
 simp only [rdOf, Int.toNat_natCast, List.getD_eq_getElem?_getD] at this ⊢
 rw [List.getElem?_set]
 by_cases e : t = v
 ·subst e
  rw [if_pos rfl, if_pos (by rw [h.1]; exact hv)]
  simp
 ·rw [if_neg e, this]
  have : (v : Int) ≠ (t : Int) := by omega
  simp [this]
theorem impl_re_l1 (hM : MOk b m M T) (i : Nat) (row : List Int) (hrow : ∀ t ∈ row, 0 ≤ t ∧ t < (m : Int)) (hrl : row.length ≤ 64) (hi : i < 64) (o : List Int) (hg : GoodI m o) (R : List Int)
  (H : ∀ seen, SeenOk m seen (insI o row) → Ev (fun k => impl_reached.l0 k M seen (insI o row) ((i + 1 : Nat) : Int)) R) (d : Nat) : ∀ (n : Nat) (seen : List Bool), n + d = row.length → SeenOk m seen (insI o (row.take n)) →
  Ev (fun k => impl_reached.l1 k M seen (insI o (row.take n)) (i : Int) row (row.length : Int) (n : Int)) R := by
 have hs := hM.small
 induction d with
 | zero =>
  intro n seen hn hse
  refine ev_succ ?_
  simp only [impl_reached.l1]
  rw [List.take_of_length_le (show row.length ≤ n by omega)] at hse ⊢
  rw [wr1 (show (0 : Int) ≤ (i : Int) by omega) (by omega)]
  exact ev_neg (by omega) (H seen hse)
 | succ d ih =>
  intro n seen hn hse
  have hx := hrow _ (rd_mem (show n < row.length by omega))
  have hgn := insI_good (row.take n) o hg (fun t ht => hrow t (List.mem_of_mem_take ht))
  have hgl := hgn.len
  have hsl := hse.1
  obtain ⟨t, ht⟩ := Int.eq_ofNat_of_zero_le hx.1
  have hst := hse.2 t (by omega)
  have htk : insI o (row.take (n + 1)) = if rd row (n : Int) ∈ insI o (row.take n) then insI o (row.take n) else insI o (row.take n) ++ [rd row (n : Int)] := by
   rw [List.take_succ_eq_append_getElem (by omega), ← rd_get (by omega), insI_snoc]
  refine ev_succ ?_
  simp only [impl_reached.l1]
  rw [wr1 (show (0 : Int) ≤ (n : Int) by omega) (by omega)]
  refine ev_pos (by omega) (ev_pos (by omega) (ev_pos (by omega) (ev_pos (by omega) (ev_pos (by omega) (ev_ite (fun e => ?_) (fun e => ?_))))))
  ·rw [ht] at e
   rw [hst, decide_eq_true_eq, ← ht] at e
   rw [if_pos e] at htk
   have := ih (n + 1) seen (by omega) (by rw [htk]; exact hse)
   rw [htk] at this
   exact this
  ·rw [ht] at e
   rw [hst, decide_eq_true_eq, ← ht] at e
   rw [if_neg e] at htk
   refine ev_pos (by omega) ?_
   have := ih (n + 1) (seen.set t true) (by omega) (by rw [htk, ht]; exact hse.set (by omega))
   rw [htk] at this
   rw [show ((rd row (n : Int)) : Int).toNat = t by omega]
   exact this
theorem impl_re_l0 (hM : MOk b m M T) (f : Nat) : ∀ (i : Nat) (o : List Int) (seen : List Bool), GoodI m o → i ≤ o.length → m ≤ f + i → SeenOk m seen o → Ev (fun k => impl_reached.l0 k M seen o (i : Int)) (bfsI (rd_L1 M) f i o) := by
 have hs := hM.small
 have hMl := hM.len
 have hb := hM.base
 induction f with
 | zero =>
  intro i o seen hg hi hf hse
  have := hg.len
  refine ev_succ ?_
  simp only [impl_reached.l0]
  exact ev_neg (by omega) (ev_some rfl)
 | succ f ih =>
  intro i o seen hg hi hf hse
  have hol := hg.len
  refine ev_succ ?_
  simp only [impl_reached.l0]
  unfold bfsI
  by_cases hlt : i < o.length
  ·rw [if_pos hlt]
   have hv := hg.2 _ (rd_mem hlt)
   have hr := hM.row _ hv.1 hv.2
   refine ev_pos (by omega) (ev_pos (by omega) (ev_pos (by omega) (ev_pos (by omega) ?_)))
   have := impl_re_l1 hM i (rd_L1 M (rd o (i : Int))) hr.2 (by omega) (by omega) o hg (bfsI (rd_L1 M) f (i + 1) (insI o (rd_L1 M (rd o (i : Int))))) (fun seen' hs' => by
    obtain ⟨e, he⟩ := insI_pre (rd_L1 M (rd o (i : Int))) o
    exact ih (i + 1) _ seen' (insI_good _ _ hg hr.2) (by rw [he, List.length_append]; omega) (by omega) hs') (rd_L1 M (rd o (i : Int))).length 0 seen (by omega) (by simpa [insI] using hse)
   simpa [insI] using this
  ·rw [if_neg hlt]
   exact ev_neg (by omega) (ev_some rfl)
def orderI (M : List (List Int)) (m : Nat) : List Int := bfsI (rd_L1 M) m 0 [0]
theorem good0 (h : 0 < m) : GoodI m [0] := ⟨by simp, by simp; omega⟩
theorem impl_reached_ev (hM : MOk b m M T) (h0 : 0 < m) : Ev (fun k => impl_reached.f k M) (orderI M m) := by
 have hs := hM.small
 have hMl := hM.len
 simp only [impl_reached.f, Option.bind_some]
 refine ev_pos (by omega) (ev_pos (by omega) (ev_pos (by simp; omega) ?_))
 have := impl_re_l0 hM m 0 [0] ((List.replicate m false).set 0 true) (good0 h0) (by simp) (by omega) (by
  have : SeenOk m (List.replicate m false) [] := ⟨by simp, fun v hv => by simp [rdOf, List.getD_eq_getElem?_getD, List.getElem?_replicate, hv]⟩
  simpa using this.set (t := 0) h0)
 rw [← hMl]
 rw [← hMl] at this
 exact this
end
section
variable {b : Int} {m : Nat} {M : List (List Int)} {T : List Int}
theorem order_facts (hM : MOk b m M T) (h0 : 0 < m) : GoodI m (orderI M m) ∧ ClosedI (rd_L1 M) (orderI M m) (orderI M m).length ∧ (∃ e, orderI M m = [0] ++ e) :=
 bfsI_end (fun v a c => (hM.row v a c).2) m 0 [0] (good0 h0) (by simp) (by omega) (fun v hv => by simp at hv)
def NmOk (m : Nat) (O names : List Int) (j : Nat) : Prop := names.length = m ∧ ∀ k : Nat, k < j → rd names (rd O (k : Int)) = (k : Int)
theorem NmOk.set {O names : List Int} {j : Nat} (hO : GoodI m O) (h : NmOk m O names j) (hj : j < O.length) : NmOk m O (names.set (rd O (j : Int)).toNat (j : Int)) (j + 1) := by
 have hv := hO.2 _ (rd_mem hj)
 obtain ⟨v, hv'⟩ := Int.eq_ofNat_of_zero_le hv.1
 refine ⟨by simp [h.1], fun k hk => ?_⟩
 have hl := h.1
 by_cases e : k = j
 ·subst e
  rw [hv', Int.toNat_natCast, rd_get (by simp; omega)]
  simp
 ·have hk' : k < j := by omega
  have hw := hO.2 _ (rd_mem (show k < O.length by omega))
  obtain ⟨u, hu⟩ := Int.eq_ofNat_of_zero_le hw.1
  have hne : u ≠ v := by
   intro e'
   have : rd O (k : Int) = rd O (j : Int) := by omega
   rw [rd_get (by omega), rd_get (by omega)] at this
   exact e ((List.getElem_inj hO.1).1 this)
  have := h.2 k hk'
  rw [hu, rd_get (by omega)] at this
  rw [hu, hv', Int.toNat_natCast, rd_get (by simp; omega), List.getElem_set]
  rw [if_neg (fun e => hne e.symm)]; exact this
theorem NmOk.pos {O names : List Int} (hO : GoodI m O) (h : NmOk m O names O.length) {t : Int} (ht : t ∈ O) : rd names t = posI O t := by
 obtain ⟨k, hk, e⟩ := List.getElem_of_mem ht
 have := h.2 k hk
 have e2 := posI_at hO.1 hk
 rw [rd_get hk, e] at this e2
 rw [this, e2]
theorem impl_m3_l2 (hM : MOk b m M T) (O names : List Int) (hO : GoodI m O) (hC : ClosedI (rd_L1 M) O O.length) (hN : NmOk m O names O.length) (i : Nat) (hi : i < O.length) (R : (List (List Int)) × List Int)
  (H : Ev (fun k => impl_minimal3.l1 k M T names (RowsI (rd_L1 M) O (i + 1)) ((O.take (i + 1)).map (fun v => rd T v)) O (O.length : Int) ((i + 1 : Nat) : Int)) R) (d : Nat) : ∀ n : Nat, n + d = (rd_L1 M (rd O (i : Int))).length →
  Ev (fun k => impl_minimal3.l2 k M T names (RowsI (rd_L1 M) O i) ((O.take i).map (fun v => rd T v)) (rd O (i : Int)) (((rd_L1 M (rd O (i : Int))).take n).map (posI O)) O (O.length : Int) (i : Int) (rd_L1 M (rd O (i : Int))) ((rd_L1 M (rd O (i : Int))).length : Int) (n : Int)) R := by
 have hv := hO.2 _ (rd_mem hi)
 have hr := hM.row _ hv.1 hv.2
 have hs := hM.small
 have hb := hM.base
 have hol := hO.len
 have htl := hM.tlen
 have hnl := hN.1
 induction d with
 | zero =>
  intro n hn
  refine ev_succ ?_
  simp only [impl_minimal3.l2]
  have e1 : RowsI (rd_L1 M) O (i + 1) = RowsI (rd_L1 M) O i ++ [(rd_L1 M (rd O (i : Int))).map (posI O)] := by
   unfold RowsI; rw [List.take_succ_eq_append_getElem hi, List.map_append, ← rd_get hi]; rfl
  rw [e1, map_take_rd _ _ i hi] at H
  rw [List.take_of_length_le (show (rd_L1 M (rd O (i : Int))).length ≤ n by omega), wr1 (show (0 : Int) ≤ (i : Int) by omega) (by omega)]
  exact ev_neg (by omega) (ev_pos (by simp [RowsI]; omega) (ev_pos (by omega) (ev_pos (by omega) (ev_pos (by simp; omega) H))))
 | succ d ih =>
  intro n hn
  have hx := hr.2 _ (rd_mem (show n < (rd_L1 M (rd O (i : Int))).length by omega))
  have hmem : rd (rd_L1 M (rd O (i : Int))) (n : Int) ∈ O := hC (rd O (i : Int)) (by rw [List.take_length]; exact rd_mem hi) _ (rd_mem (by omega))
  refine ev_succ ?_
  simp only [impl_minimal3.l2]
  have := ih (n + 1) (by omega)
  rw [map_take_rd _ _ n (by omega), ← hN.pos hO hmem] at this
  rw [wr1 (show (0 : Int) ≤ (n : Int) by omega) (by omega)]
  exact ev_pos (by omega) (ev_pos (by omega) (ev_pos (by omega) (ev_pos (by omega) (ev_pos (by omega) (ev_pos (by simp; omega) this)))))
theorem impl_m3_l1 (hM : MOk b m M T) (O names : List Int) (hO : GoodI m O) (hC : ClosedI (rd_L1 M) O O.length) (hN : NmOk m O names O.length) (d : Nat) : ∀ i : Nat, i + d = O.length →
  Ev (fun k => impl_minimal3.l1 k M T names (RowsI (rd_L1 M) O i) ((O.take i).map (fun v => rd T v)) O (O.length : Int) (i : Int)) (RowsI (rd_L1 M) O O.length, O.map (fun v => rd T v)) := by
 have hol := hO.len
 have hs := hM.small
 have hMl := hM.len
 induction d with
 | zero =>
  intro i hi
  refine ev_succ ?_
  simp only [impl_minimal3.l1]
  obtain rfl : i = O.length := by omega
  rw [List.take_length]
  exact ev_neg (by omega) (ev_some rfl)
 | succ d ih =>
  intro i hi
  have hv := hO.2 _ (rd_mem (show i < O.length by omega))
  refine ev_succ ?_
  simp only [impl_minimal3.l1]
  refine ev_pos (by omega) (ev_pos (by omega) (ev_pos (by omega) (ev_pos (by omega) (ev_pos (by omega) ?_))))
  exact impl_m3_l2 hM O names hO hC hN i (by omega) _ (ih (i + 1) (by omega)) (rd_L1 M (rd O (i : Int))).length 0 (by omega)
theorem impl_m3_l0 (hM : MOk b m M T) (O : List Int) (hO : GoodI m O) (hC : ClosedI (rd_L1 M) O O.length) (d : Nat) : ∀ (j : Nat) (names : List Int), j + d = O.length → NmOk m O names j →
  Ev (fun k => impl_minimal3.l0 k M T O names O (O.length : Int) (j : Int)) (RowsI (rd_L1 M) O O.length, O.map (fun v => rd T v)) := by
 have hol := hO.len
 have hs := hM.small
 induction d with
 | zero =>
  intro j names hj hN
  obtain rfl : j = O.length := by omega
  refine ev_succ ?_
  simp only [impl_minimal3.l0]
  have := impl_m3_l1 hM O names hO hC hN O.length 0 (by omega)
  exact ev_neg (by omega) (by simpa [RowsI] using this)
 | succ d ih =>
  intro j names hj hN
  have hv := hO.2 _ (rd_mem (show j < O.length by omega))
  have hl := hN.1
  refine ev_succ ?_
  simp only [impl_minimal3.l0]
  rw [wr1 (show (0 : Int) ≤ (j : Int) by omega) (by omega)]
  exact ev_pos (by omega) (ev_pos (by omega) (ev_pos (by omega) (ev_pos (by omega) (ev_pos (by omega) (ih (j + 1) _ (by omega) (hN.set hO (by omega)))))))
theorem impl_m3_ev (hM : MOk b m M T) (h0 : 0 < m) : Ev (fun k => impl_minimal3.f k M T) (RowsI (rd_L1 M) (orderI M m) (orderI M m).length, (orderI M m).map (fun v => rd T v)) := by
 obtain ⟨g1, g2, g3⟩ := order_facts hM h0
 have hs := hM.small
 have hMl := hM.len
 simp only [impl_minimal3.f]
 refine ev_bind (impl_reached_ev hM h0) (ev_pos (by omega) (ev_pos (by omega) ?_))
 exact impl_m3_l0 hM _ g1 g2 (orderI M m).length 0 _ (by omega) ⟨by simp [hMl], fun k hk => by omega⟩
end
section
variable {b : Int} {next : List (List Int)} {out c : List Int} {m : Nat}
theorem rd_map (f : Int → Int) (l : List Int) (i : Nat) (h : i < l.length) : rd (l.map f) (i : Int) = f (rd l (i : Int)) := by
 rw [rd_get (by simpa using h), rd_get h]; simp
theorem spec_mf_l2 (hC : Cls next out c m) (hnl : next.length ≤ 16) (so : List Int) (hso : ∀ x ∈ so, 0 ≤ x ∧ x < (next.length : Int)) (hg : GoodI m (so.map fun s => rd c s)) (i : Int) (row : List Int) (hrow : row.length ≤ 64) (n : Int) (tt : Nat) (hto : tt < next.length)
  (rows : List (List Int)) (vals : List Int) (R : Int × (List (List Int)) × List Int × Bool)
  (Hold : rd c (tt : Int) ∈ so.map (fun s => rd c s) → Ev (fun k => spec_MinimalForm.l1 k c so i (row ++ [posI (so.map fun s => rd c s) (rd c (tt : Int))]) (wrap64 (n + 1)) b next out b rows vals) R)
  (Hnew : rd c (tt : Int) ∉ so.map (fun s => rd c s) → Ev (fun k => spec_MinimalForm.l1 k c (so ++ [(tt : Int)]) i (row ++ [(so.length : Int)]) (wrap64 (n + 1)) b next out b rows vals) R) (d : Nat) :
  ∀ p : Nat, p + d = so.length → (∀ q : Nat, q < p → rd c (rd so (q : Int)) ≠ rd c (tt : Int)) → Ev (fun k => spec_MinimalForm.l2 k c so i row n (tt : Int) (-1) (p : Int) b next out b rows vals) R := by
 have hl := hC.len
 have hp := hC.pos
 have hgl := hg.len
 simp only [List.length_map] at hgl
 induction d with
 | zero =>
  intro p hpd hno
  refine ev_succ ?_
  simp only [spec_MinimalForm.l2]
  refine ev_neg (by omega) (ev_succ ?_)
  simp only [spec_MinimalForm.j3]
  refine ev_neg (by simp) (ev_pos (by omega) (ev_pos (by omega) (ev_pos (by omega) (Hnew (fun hm => ?_)))))
  obtain ⟨x, hx, e⟩ := List.mem_map.1 hm
  obtain ⟨q, hq, rfl⟩ := List.getElem_of_mem hx
  exact hno q (by omega) (by rw [rd_get hq]; exact e)
 | succ d ih =>
  intro p hpd hno
  have hx := hso _ (rd_mem (show p < so.length by omega))
  refine ev_succ ?_
  simp only [spec_MinimalForm.l2]
  refine ev_pos (by omega) (ev_succ ?_)
  simp only [spec_MinimalForm.j3]
  rw [wr1 (show (0 : Int) ≤ (p : Int) by omega) (by omega)]
  refine ev_pos (by simp) (ev_pos (by omega) (ev_pos (by omega) (ev_pos (by omega) (ev_pos (by omega) (ev_pos (by omega) (ev_pos (by omega) (ev_ite (fun e => ?_) (fun e => ?_))))))))
  ·have hmem : rd c (tt : Int) ∈ so.map (fun s => rd c s) := by rw [← e]; exact List.mem_map.2 ⟨_, rd_mem (by omega), rfl⟩
   have hpos : posI (so.map fun s => rd c s) (rd c (tt : Int)) = (p : Int) := by
    have := posI_at hg.1 (k := p) (by simp; omega)
    rw [rd_map _ _ p (by omega), e] at this
    exact this
   have H := Hold hmem
   rw [hpos] at H
   refine ev_succ ?_
   simp only [spec_MinimalForm.l2]
   have fin_ : Ev (fun k => spec_MinimalForm.j3 k c so i row n (tt : Int) (p : Int) ((p : Int) + 1) false b next out b rows vals) R := by
    refine ev_succ ?_
    simp only [spec_MinimalForm.j3]
    exact ev_neg (by simp) (ev_neg (by omega) (ev_pos (by omega) H))
   refine ev_ite (fun _ => ?_) (fun _ => fin_)
   rw [decide_eq_false (by omega)]; exact fin_
  ·exact ih (p + 1) (by omega) (fun q hq => by
    by_cases h' : q = p
    ·subst h'; exact e
    ·exact hno q (by omega))
theorem spec_mf_l1 (h : isSeq b next out = true) (hC : Cls next out c m) (o0 : List Int) (hg0 : GoodI m o0) (i s : Nat) (hs : s < next.length) (hi : i < o0.length) (rows : List (List Int)) (vals : List Int) (hrv : rows.length ≤ 64 ∧ vals.length ≤ 64) (R : Int × (List (List Int)) × List Int × Bool)
  (H : ∀ so, (∀ x ∈ so, 0 ≤ x ∧ x < (next.length : Int)) → so.map (fun s => rd c s) = insI o0 ((rd_L1 next (s : Int)).map (fun t => rd c t)) → rd so (i : Int) = (s : Int) →
   Ev (fun k => spec_MinimalForm.l0 k c so ((i + 1 : Nat) : Int) b next out b (rows ++ [((rd_L1 next (s : Int)).map (fun t => rd c t)).map (posI (so.map fun s => rd c s))]) (vals ++ [rd out (s : Int)])) R) (d : Nat) :
  ∀ (n : Nat) (so : List Int), ((n + d : Nat) : Int) = b → (∀ x ∈ so, 0 ≤ x ∧ x < (next.length : Int)) → so.map (fun s => rd c s) = insI o0 (((rd_L1 next (s : Int)).map (fun t => rd c t)).take n) → rd so (i : Int) = (s : Int) →
   Ev (fun k => spec_MinimalForm.l1 k c so (i : Int) ((((rd_L1 next (s : Int)).map (fun t => rd c t)).take n).map (posI (so.map fun s => rd c s))) (n : Int) b next out b rows vals) R := by
 obtain ⟨h1, h2, h3, h4, h5⟩ := isSeq_facts h
 have hr := h4 _ (rdLL_mem hs)
 have hp := hC.pos
 have hcl := hC.len
 have hrow : ∀ t ∈ (rd_L1 next (s : Int)).map (fun t => rd c t), 0 ≤ t ∧ t < (m : Int) := by
  intro t ht
  obtain ⟨x, hx, rfl⟩ := List.mem_map.1 ht
  have hx' := hr.2 x hx
  obtain ⟨x, rfl⟩ := Int.eq_ofNat_of_zero_le hx'.1
  exact hC.bd _ (rd_mem (show x < c.length by omega))
 induction d with
 | zero =>
  intro n so hn hso hmap hsi
  have hgn := insI_good (((rd_L1 next (s : Int)).map (fun t => rd c t)).take n) o0 hg0 (fun t ht => hrow t (List.mem_of_mem_take ht))
  have hgl := hgn.len
  rw [← hmap, List.length_map] at hgl
  obtain ⟨e, he⟩ := insI_pre (((rd_L1 next (s : Int)).map (fun t => rd c t)).take n) o0
  have hil : i < so.length := by
   have := congrArg List.length hmap
   rw [he, List.length_map, List.length_append] at this
   omega
  refine ev_succ ?_
  simp only [spec_MinimalForm.l1]
  rw [List.take_of_length_le (by simp; omega)] at hmap ⊢
  rw [hsi, wr1 (show (0 : Int) ≤ (i : Int) by omega) (by omega)]
  exact ev_neg (by omega) (ev_pos (by omega) (ev_pos (by omega) (ev_pos (by omega) (ev_pos (by omega) (ev_pos (by omega) (ev_pos (by omega) (H so hso hmap hsi)))))))
 | succ d ih =>
  intro n so hn hso hmap hsi
  have hgn := insI_good (((rd_L1 next (s : Int)).map (fun t => rd c t)).take n) o0 hg0 (fun t ht => hrow t (List.mem_of_mem_take ht))
  rw [← hmap] at hgn
  have hgl := hgn.len
  rw [List.length_map] at hgl
  obtain ⟨e, he⟩ := insI_pre (((rd_L1 next (s : Int)).map (fun t => rd c t)).take n) o0
  have hil : i < so.length := by
   have := congrArg List.length hmap
   rw [he, List.length_map, List.length_append] at this
   omega
  have hnr : n < (rd_L1 next (s : Int)).length := by omega
  have hx := hr.2 _ (rd_mem hnr)
  obtain ⟨tt, hto⟩ := Int.eq_ofNat_of_zero_le hx.1
  have hrn : rd ((rd_L1 next (s : Int)).map (fun t => rd c t)) (n : Int) = rd c (tt : Int) := by rw [rd_map _ _ n hnr, hto]
  have htk : ((rd_L1 next (s : Int)).map (fun t => rd c t)).take (n + 1) = ((rd_L1 next (s : Int)).map (fun t => rd c t)).take n ++ [rd c (tt : Int)] := by
   rw [List.take_succ_eq_append_getElem (by simpa using hnr), ← rd_get (by simpa using hnr), hrn]
  have hin : insI o0 (((rd_L1 next (s : Int)).map (fun t => rd c t)).take (n + 1)) = if rd c (tt : Int) ∈ so.map (fun s => rd c s) then so.map (fun s => rd c s) else so.map (fun s => rd c s) ++ [rd c (tt : Int)] := by
   rw [htk, insI_snoc, ← hmap]
  refine ev_succ ?_
  simp only [spec_MinimalForm.l1]
  rw [hsi, hto]
  refine ev_pos (by omega) (ev_pos (by omega) (ev_pos (by omega) (ev_pos (by omega) (ev_pos (by omega) (ev_pos (by omega) (ev_pos (by omega) ?_))))))
  refine spec_mf_l2 hC (by omega) so hso hgn (i : Int) _ (by simp; omega) (n : Int) tt (by omega) rows vals R (fun hm => ?_) (fun hm => ?_) so.length 0 (by omega) (fun q hq => by omega)
  ·rw [if_pos hm] at hin
   have := ih (n + 1) so (by omega) hso hin.symm hsi
   rw [htk, List.map_append] at this
   rw [wr1 (show (0 : Int) ≤ (n : Int) by omega) (by omega)]
   exact this
  ·rw [if_neg hm] at hin
   have := ih (n + 1) (so ++ [(tt : Int)]) (by omega) (fun x hx => by
    rcases List.mem_append.1 hx with h' | h'
    ·exact hso x h'
    ·simp at h'; omega) (by rw [hin, List.map_append]; rfl) (by
    rw [rd_get (by simp; omega), List.getElem_append_left hil, ← rd_get hil]; exact hsi)
   rw [htk, List.map_append] at this
   rw [wr1 (show (0 : Int) ≤ (n : Int) by omega) (by omega)]
   have e1 : (((rd_L1 next (s : Int)).map (fun t => rd c t)).take n).map (posI ((so ++ [(tt : Int)]).map fun s => rd c s)) = (((rd_L1 next (s : Int)).map (fun t => rd c t)).take n).map (posI (so.map fun s => rd c s)) := by
    refine List.map_congr_left fun t ht => ?_
    rw [List.map_append]
    exact posI_ext (by rw [hmap]; exact insI_mem _ _ t ht)
   have e2 : posI ((so ++ [(tt : Int)]).map fun s => rd c s) (rd c (tt : Int)) = (so.length : Int) := by
    have hnd : ((so ++ [(tt : Int)]).map fun s => rd c s).Nodup := by
     rw [List.map_append]; exact (hgn.snoc hm (hC.bd _ (rd_mem (by omega)))).1
    have := posI_at hnd (k := so.length) (by simp)
    rw [rd_map _ _ so.length (by simp), rd_get (by simp)] at this
    simpa using this
   rw [e1] at this
   simp only [List.map_cons, List.map_nil, e2] at this
   exact this
theorem spec_mf_l0 (h : isSeq b next out = true) (hC : Cls next out c m) (f : Nat) : ∀ (i : Nat) (so : List Int), (∀ x ∈ so, 0 ≤ x ∧ x < (next.length : Int)) → GoodI m (so.map fun s => rd c s) → i ≤ so.length → m ≤ f + i → ClosedI (rd_L1 (mrgI next c m)) (so.map fun s => rd c s) i →
  Ev (fun k => spec_MinimalForm.l0 k c so (i : Int) b next out b (RowsI (rd_L1 (mrgI next c m)) (so.map fun s => rd c s) i) (((so.map fun s => rd c s).take i).map (fun v => rd (trmI out c m) v)))
   (b, RowsI (rd_L1 (mrgI next c m)) (bfsI (rd_L1 (mrgI next c m)) f i (so.map fun s => rd c s)) (bfsI (rd_L1 (mrgI next c m)) f i (so.map fun s => rd c s)).length, (bfsI (rd_L1 (mrgI next c m)) f i (so.map fun s => rd c s)).map (fun v => rd (trmI out c m) v), true) := by
 obtain ⟨h1, h2, h3, h4, h5⟩ := isSeq_facts h
 have hp := hC.pos
 have hcl := hC.len
 induction f with
 | zero =>
  intro i so hso hg hi hf hcl'
  have hgl := hg.len
  rw [List.length_map] at hgl
  have e : i = so.length := by omega
  refine ev_succ ?_
  simp only [spec_MinimalForm.l0]
  refine ev_neg (by omega) (ev_some ?_)
  subst e
  have e3 : (so.map fun s => rd c s).take so.length = so.map fun s => rd c s := List.take_of_length_le (by simp)
  simp only [bfsI, List.length_map, e3]
 | succ f ih =>
  intro i so hso hg hi hf hcl'
  have hgl := hg.len
  rw [List.length_map] at hgl
  refine ev_succ ?_
  simp only [spec_MinimalForm.l0]
  unfold bfsI
  by_cases hlt : i < so.length
  ·rw [if_pos (by simpa using hlt)]
   have hx := hso _ (rd_mem hlt)
   obtain ⟨s, hs⟩ := Int.eq_ofNat_of_zero_le hx.1
   have hs' : s < next.length := by omega
   have hrdo : rd (so.map fun s => rd c s) (i : Int) = rd c (s : Int) := by rw [rd_map _ _ i hlt, hs]
   have hM := hC.mrg hs'
   rw [hrdo, hM]
   refine ev_pos (by omega) ?_
   have hrow : ∀ t ∈ (rd_L1 next (s : Int)).map (fun t => rd c t), 0 ≤ t ∧ t < (m : Int) := by
    intro t ht
    obtain ⟨x, hx, rfl⟩ := List.mem_map.1 ht
    have hx' := (h4 _ (rdLL_mem hs')).2 x hx
    obtain ⟨x, rfl⟩ := Int.eq_ofNat_of_zero_le hx'.1
    exact hC.bd _ (rd_mem (show x < c.length by omega))
   have := spec_mf_l1 h hC (so.map fun s => rd c s) hg i s hs' (by simpa using hlt) (RowsI (rd_L1 (mrgI next c m)) (so.map fun s => rd c s) i) (((so.map fun s => rd c s).take i).map (fun v => rd (trmI out c m) v)) ⟨by simp [RowsI]; omega, by simp; omega⟩
    (b, RowsI (rd_L1 (mrgI next c m)) (bfsI (rd_L1 (mrgI next c m)) f (i + 1) (insI (so.map fun s => rd c s) ((rd_L1 next (s : Int)).map (fun t => rd c t)))) (bfsI (rd_L1 (mrgI next c m)) f (i + 1) (insI (so.map fun s => rd c s) ((rd_L1 next (s : Int)).map (fun t => rd c t)))).length, (bfsI (rd_L1 (mrgI next c m)) f (i + 1) (insI (so.map fun s => rd c s) ((rd_L1 next (s : Int)).map (fun t => rd c t)))).map (fun v => rd (trmI out c m) v), true)
    (fun so' hso' hmap' hsi' => ?_) b.toNat 0 so (by omega) hso (by simp [insI]) hs
   ·simpa using this
   ·obtain ⟨e, he⟩ := insI_pre ((rd_L1 next (s : Int)).map (fun t => rd c t)) (so.map fun s => rd c s)
    have hlen' : so'.length = so.length + e.length := by
     have := congrArg List.length hmap'
     rw [he, List.length_map, List.length_append, List.length_map] at this
     exact this
    have hcs := ClosedI_step (Mf := rd_L1 (mrgI next c m)) (o := so.map fun s => rd c s) (i := i) (by simpa using hlt) hcl'
    have hrs := RowsI_step (Mf := rd_L1 (mrgI next c m)) (o := so.map fun s => rd c s) (i := i) (by simpa using hlt) hcl'
    rw [hrdo, hM] at hcs hrs
    have hih := ih (i + 1) so' hso' (by rw [hmap']; exact insI_good _ _ hg hrow) (by omega) (by omega) (by rw [hmap']; exact hcs)
    rw [hmap', hrs] at hih
    have ev2 : ((insI (so.map fun s => rd c s) ((rd_L1 next (s : Int)).map (fun t => rd c t))).take (i + 1)).map (fun v => rd (trmI out c m) v) = ((so.map fun s => rd c s).take i).map (fun v => rd (trmI out c m) v) ++ [rd out (s : Int)] := by
     rw [he, List.take_append_of_le_length (by simp; omega), List.take_succ_eq_append_getElem (by simpa using hlt), List.map_append, ← rd_get (by simpa using hlt), hrdo]
     simp only [List.map_cons, List.map_nil, hC.trm hs']
    rw [ev2] at hih
    rw [hmap']
    exact hih
  ·rw [if_neg (by simpa using hlt)]
   refine ev_neg (by omega) (ev_some ?_)
   have e : i = so.length := by omega
   subst e
   have e3 : (so.map fun s => rd c s).take so.length = so.map fun s => rd c s := List.take_of_length_le (by simp)
   simp only [List.length_map, e3]
end
def mfOrd (next : List (List Int)) (out : List Int) : List Int := orderI (mrgI next (clsI next out) (Numb.many (clsI next out))) (Numb.many (clsI next out))
def mfN (next : List (List Int)) (out : List Int) : List (List Int) := RowsI (rd_L1 (mrgI next (clsI next out) (Numb.many (clsI next out)))) (mfOrd next out) (mfOrd next out).length
def mfO (next : List (List Int)) (out : List Int) : List Int := (mfOrd next out).map (fun v => rd (trmI out (clsI next out) (Numb.many (clsI next out))) v)
section
variable {b : Int} {next : List (List Int)} {out : List Int}
theorem clsI_cls' (h : isSeq b next out = true) : Cls next out (clsI next out) (Numb.many (clsI next out)) := by
 obtain ⟨m, hm⟩ := clsI_cls h
 have := hm.many
 subst this
 exact hm
theorem mok (h : isSeq b next out = true) : MOk b (Numb.many (clsI next out)) (mrgI next (clsI next out) (Numb.many (clsI next out))) (trmI out (clsI next out) (Numb.many (clsI next out))) := by
 have hC := clsI_cls' h
 obtain ⟨h1, h2, h3, h4, h5⟩ := isSeq_facts h
 exact ⟨mrg_len, trm_len, by have := hC.pos; omega, h1, hC.mrg_row h⟩
theorem impl_minimal_ev (h : isSeq b next out = true) : Ev (fun k => impl_minimal.f k next out) (mfN next out, mfO next out) := by
 have hC := clsI_cls' h
 obtain ⟨h1, h2, h3, h4, h5⟩ := isSeq_facts h
 have hl := hC.len
 have hp := hC.pos
 simp only [impl_minimal.f]
 refine ev_bind (impl_classes_ev h) (ev_pos ⟨by omega, by omega, fun x hx => by have := hC.bd x hx; omega⟩ ?_)
 exact ev_bind (impl_m2_ev h hC) (impl_m3_ev (mok h) hp.1)
theorem spec_mf_ev (h : isSeq b next out = true) : Ev (fun k => spec_MinimalForm.l0 k (clsI next out) [0] 0 b next out b [] []) (b, mfN next out, mfO next out, true) := by
 have hC := clsI_cls' h
 obtain ⟨h1, h2, h3, h4, h5⟩ := isSeq_facts h
 have hp := hC.pos
 have hz := hC.zero
 have e : ([0] : List Int).map (fun s => rd (clsI next out) s) = [0] := by simp [hz]
 have := spec_mf_l0 h hC (Numb.many (clsI next out)) 0 [0] (fun x hx => by simp at hx; subst hx; omega) (by rw [e]; exact good0 hp.1) (by simp) (by omega) (fun v hv => by simp at hv)
 rw [e] at this
 exact this
structure MF (b : Int) (N : List (List Int)) (O : List Int) : Prop where
 base : 2 ≤ b ∧ b ≤ 4
 len : O.length = N.length
 size : 1 ≤ N.length ∧ N.length ≤ 16
 row : ∀ r ∈ N, (r.length : Int) = b ∧ ∀ x ∈ r, 0 ≤ x ∧ x < (N.length : Int)
theorem mf_MF (h : isSeq b next out = true) : MF b (mfN next out) (mfO next out) := by
 have hC := clsI_cls' h
 have hM := mok h
 have hp := hC.pos
 obtain ⟨h1, h2, h3, h4, h5⟩ := isSeq_facts h
 obtain ⟨g1, g2, e, g3⟩ := order_facts hM hp.1
 have hl : (mfN next out).length = (mfOrd next out).length := by simp [mfN, RowsI]
 have ho : (mfOrd next out).length ≤ Numb.many (clsI next out) := g1.len
 have h0 : 1 ≤ (mfOrd next out).length := by
  have := congrArg List.length g3
  unfold mfOrd
  rw [this]; simp
 refine ⟨h1, by rw [hl]; simp [mfO], by omega, fun r hr => ?_⟩
 rw [hl]
 unfold mfN RowsI at hr
 rw [List.take_length] at hr
 obtain ⟨v, hv, rfl⟩ := List.mem_map.1 hr
 have hv' := g1.2 v hv
 have hr' := hM.row v hv'.1 hv'.2
 refine ⟨by simp; exact hr'.1, fun x hx => ?_⟩
 obtain ⟨t, ht, rfl⟩ := List.mem_map.1 hx
 have hm : t ∈ mfOrd next out := g2 v (by rw [List.take_length]; exact hv) t ht
 have := List.idxOf_lt_length_of_mem hm
 unfold posI
 omega
end
def mfRes (b : Int) (next : List (List Int)) (out : List Int) : Int × (List (List Int)) × List Int × Bool :=
 if (stRes b next out).2.2.2 = true then (b, mfN (stRes b next out).2.1 (stRes b next out).2.2.1, mfO (stRes b next out).2.1 (stRes b next out).2.2.1, true) else (0, [], [], false)
theorem stRes_split (b : Int) (next : List (List Int)) (out : List Int) : (∃ n o, stRes b next out = (b, n, o, true) ∧ isSeq b n o = true ∧ isSeq b next out = true) ∨ stRes b next out = (0, [], [], false) := by
 obtain ⟨b', n', o', t, e⟩ : ∃ b' n' o' t, stRes b next out = (b', n', o', t) := ⟨_, _, _, _, rfl⟩
 cases t with
 | true =>
  obtain ⟨h0, h1, h2⟩ := stRes_seq e
  subst h1
  exact .inl ⟨n', o', e, h2, h0⟩
 | false => exact .inr (stRes_no e)
theorem impl_MinimalForm_ev (b : Int) (next : List (List Int)) (out : List Int) (f1 : fit2 next) (f2 : fit1 out) : Ev (fun k => impl_MinimalForm.f k b next out) (mfRes b next out) := by
 simp only [impl_MinimalForm.f]
 refine ev_bind (impl_SteadyForm_ev b next out f1 f2) ?_
 unfold mfRes
 rcases stRes_split b next out with ⟨n, o, e, hs, _⟩ | e
 ·rw [e]
  refine ev_pos rfl ?_
  rw [if_pos rfl]
  exact ev_bind (impl_minimal_ev hs) (ev_some rfl)
 ·rw [e]
  exact ev_neg (by simp) (ev_some (by simp))
theorem spec_MinimalForm_ev (b : Int) (next : List (List Int)) (out : List Int) (f1 : fit2 next) (f2 : fit1 out) : Ev (fun k => spec_MinimalForm.f k b next out) (mfRes b next out) := by
 simp only [spec_MinimalForm.f]
 refine ev_bind (spec_SteadyForm_ev b next out f1 f2) ?_
 unfold mfRes
 rcases stRes_split b next out with ⟨n, o, e, hs, _⟩ | e
 ·rw [e]
  refine ev_pos rfl ?_
  rw [if_pos rfl]
  exact ev_bind (spec_StateClasses_ev hs) (spec_mf_ev hs)
 ·rw [e]
  exact ev_neg (by simp) (ev_some (by simp))
theorem mfRes_split (b : Int) (next : List (List Int)) (out : List Int) : (∃ N O, mfRes b next out = (b, N, O, true) ∧ MF b N O ∧ isSeq b next out = true) ∨ mfRes b next out = (0, [], [], false) := by
 unfold mfRes
 rcases stRes_split b next out with ⟨n, o, e, hs, h0⟩ | e
 ·rw [e, if_pos rfl]
  exact .inl ⟨_, _, rfl, mf_MF hs, h0⟩
 ·rw [e, if_neg (by simp)]
  exact .inr rfl
def cNI (r : List Int) (m t : Nat) : Nat → Int
 | 0 => 0
 | j + 1 => cNI r m t j + (if (m : Int) + rd r (j : Int) = (t : Int) then 1 else 0)
theorem cNI_bd (r : List Int) (m t : Nat) : ∀ j : Nat, 0 ≤ cNI r m t j ∧ cNI r m t j ≤ j
 | 0 => by simp [cNI]
 | j + 1 => by have := cNI_bd r m t j; unfold cNI; split <;> omega
def rowU (r : List Int) (m d e : Nat) : List Int := mkV (2 * m) (fun t => (if d < e ∧ rd r (d : Int) = (t : Int) then 1 else 0) + cNI r m t (min e d))
def rowL (r : List Int) (m e : Nat) : List Int := mkV (2 * m) (fun t => cNI r m t e)
theorem mkV_inc (n : Nat) (f g : Nat → Int) (i : Nat) (hi : i < n) (hb : 0 ≤ f i ∧ f i ≤ 1000) (hg : ∀ t, t < n → g t = if t = i then f i + 1 else f t) : (mkV n f).set i (wrap64 (rd (mkV n f) (i : Int) + 1)) = mkV n g := by
 rw [mkV_rd n f i hi, mkV_set, wr1 hb.1 (by omega)]
 exact mkV_congr n _ _ (fun t ht => (hg t ht).symm)
theorem rowU_at (r : List Int) (m d t0 : Nat) (ht : t0 < 2 * m) (hd : d < 100) (h : rd r (d : Int) = (t0 : Int)) : (rowU r m d d).set t0 (wrap64 (rd (rowU r m d d) (t0 : Int) + 1)) = rowU r m d (d + 1) := by
 have hb := cNI_bd r m t0 d
 refine mkV_inc _ _ _ t0 ht ?_ (fun t _ => ?_)
 ·rw [if_neg (by omega), Nat.min_self]; omega
 ·show (if d < d + 1 ∧ rd r (d : Int) = (t : Int) then 1 else 0) + cNI r m t (min (d + 1) d) = if t = t0 then (if d < d ∧ rd r (d : Int) = (t0 : Int) then 1 else 0) + cNI r m t0 (min d d) + 1 else (if d < d ∧ rd r (d : Int) = (t : Int) then 1 else 0) + cNI r m t (min d d)
  rw [Nat.min_self, show min (d + 1) d = d by omega, if_neg (show ¬ (d < d ∧ rd r (d : Int) = (t0 : Int)) by omega), if_neg (show ¬ (d < d ∧ rd r (d : Int) = (t : Int)) by omega)]
  by_cases e : t = t0
  ·subst e; rw [if_pos rfl, if_pos ⟨by omega, h⟩]; omega
  ·rw [if_neg e, if_neg (by rintro ⟨_, h'⟩; omega)]
theorem rowU_lt (r : List Int) (m d k t0 : Nat) (ht : t0 < m) (hk : k < d) (hd : d < 100) (h : rd r (k : Int) = (t0 : Int)) : (rowU r m d k).set (m + t0) (wrap64 (rd (rowU r m d k) ((m + t0 : Nat) : Int) + 1)) = rowU r m d (k + 1) := by
 have hb := cNI_bd r m (m + t0) k
 refine mkV_inc _ _ _ (m + t0) (by omega) ?_ (fun t _ => ?_)
 ·rw [if_neg (by omega), show min k d = k by omega]; omega
 ·show (if d < k + 1 ∧ rd r (d : Int) = (t : Int) then 1 else 0) + cNI r m t (min (k + 1) d) = if t = m + t0 then (if d < k ∧ rd r (d : Int) = ((m + t0 : Nat) : Int) then 1 else 0) + cNI r m (m + t0) (min k d) + 1 else (if d < k ∧ rd r (d : Int) = (t : Int) then 1 else 0) + cNI r m t (min k d)
  rw [show min k d = k by omega, show min (k + 1) d = k + 1 by omega, if_neg (show ¬ (d < k + 1 ∧ rd r (d : Int) = (t : Int)) by omega), if_neg (show ¬ (d < k ∧ rd r (d : Int) = ((m + t0 : Nat) : Int)) by omega), if_neg (show ¬ (d < k ∧ rd r (d : Int) = (t : Int)) by omega)]
  rw [show cNI r m t (k + 1) = cNI r m t k + (if (m : Int) + rd r (k : Int) = (t : Int) then 1 else 0) from rfl, h]
  by_cases e : t = m + t0
  ·subst e; rw [if_pos (by omega), if_pos rfl]; omega
  ·rw [if_neg (by omega), if_neg e]; omega
theorem rowU_gt (r : List Int) (m d k : Nat) (hk : d < k) : rowU r m d k = rowU r m d (k + 1) := by
 refine mkV_congr _ _ _ (fun t _ => ?_)
 rw [show min k d = d by omega, show min (k + 1) d = d by omega]
 congr 1
 by_cases e : rd r (d : Int) = (t : Int)
 ·rw [if_pos ⟨hk, e⟩, if_pos ⟨by omega, e⟩]
 ·rw [if_neg (fun h => e h.2), if_neg (fun h => e h.2)]
theorem rowL_inc (r : List Int) (m k t0 : Nat) (ht : t0 < m) (hk : k < 100) (h : rd r (k : Int) = (t0 : Int)) : (rowL r m k).set (m + t0) (wrap64 (rd (rowL r m k) ((m + t0 : Nat) : Int) + 1)) = rowL r m (k + 1) := by
 have hb := cNI_bd r m (m + t0) k
 refine mkV_inc _ _ _ (m + t0) (by omega) (by omega) (fun t _ => ?_)
 rw [show cNI r m t (k + 1) = cNI r m t k + (if (m : Int) + rd r (k : Int) = (t : Int) then 1 else 0) from rfl, h]
 by_cases e : t = m + t0
 ·subst e; rw [if_pos (by omega), if_pos rfl]
 ·rw [if_neg (by omega), if_neg e]; omega
def mkR {α : Type} (n : Nat) (F : Nat → α) : List α := (List.range n).map F
theorem mkR_length {α : Type} (n : Nat) (F : Nat → α) : (mkR n F).length = n := by simp [mkR]
theorem mkR_take {α : Type} (n : Nat) (F : Nat → α) (i : Nat) (h : i < n) : (mkR n F).take (i + 1) = (mkR n F).take i ++ [F i] := by
 rw [List.take_succ_eq_append_getElem (by rw [mkR_length]; exact h)]; simp [mkR]
theorem mkR_congr {α : Type} (n : Nat) (F G : Nat → α) (h : ∀ t, t < n → F t = G t) : mkR n F = mkR n G := List.map_congr_left (fun t ht => h t (List.mem_range.1 ht))
theorem mkR_set {α : Type} (n : Nat) (F : Nat → α) (i : Nat) (v : α) : (mkR n F).set i v = mkR n (fun t => if t = i then v else F t) := by
 apply List.ext_getElem?
 intro t
 rw [List.getElem?_set]
 by_cases ht : t < n
 ·have e : ∀ G : Nat → α, (mkR n G)[t]? = some (G t) := by intro G; simp [mkR, ht]
  rw [e, e]
  by_cases h : i = t
  ·subst h
   rw [if_pos rfl, if_pos (by rw [mkR_length]; exact ht), if_pos rfl]
  ·rw [if_neg h, if_neg (fun h' => h h'.symm)]
 ·rw [List.getElem?_eq_none (by rw [mkR_length]; omega), List.getElem?_eq_none (by rw [mkR_length]; omega)]
  split
  ·rw [if_neg (by rw [mkR_length]; omega)]
  ·rfl
theorem mkR_rd (n : Nat) (F : Nat → List Int) (i : Nat) (h : i < n) : rd_L1 (mkR n F) (i : Int) = F i := by
 rw [rdLL_at (by rw [mkR_length]; exact h)]; simp [mkR]
def matD (N : List (List Int)) (m b d : Nat) : List (List Int) := mkR (2 * m) (fun t => if t < m then rowU (rd_L1 N (t : Int)) m d b else rowL (rd_L1 N ((t - m : Nat) : Int)) m b)
def matsI (N : List (List Int)) (m b : Nat) : List (List (List Int)) := mkR b (fun d => matD N m b d)
def colI (O : List Int) (v : Int) (m i : Nat) : List Int := mkV (2 * m) (fun t => if m ≤ t ∧ t < m + i then (if rd O ((t - m : Nat) : Int) = v then 1 else 0) else 0)
def row0 (m : Nat) : List Int := (List.replicate (2 * m) 0).set 0 1
theorem colI_step (O : List Int) (v : Int) (m i : Nat) (hi : i < m) : (colI O v m i).set (m + i) (if rd O (i : Int) = v then 1 else 0) = colI O v m (i + 1) := by
 unfold colI
 rw [mkV_set]
 refine mkV_congr _ _ _ (fun t _ => ?_)
 by_cases e : t = m + i
 ·subst e
  rw [if_pos rfl, if_pos (show m ≤ m + i ∧ m + i < m + (i + 1) by omega), show m + i - m = i by omega]
 ·rw [if_neg e]
  by_cases h : m ≤ t ∧ t < m + i
  ·rw [if_pos h, if_pos (show m ≤ t ∧ t < m + (i + 1) by omega)]
  ·rw [if_neg h, if_neg (by omega)]
theorem colI_skip (O : List Int) (v : Int) (m i : Nat) (h0 : ¬ rd O (i : Int) = v) : colI O v m i = colI O v m (i + 1) := by
 refine mkV_congr _ _ _ (fun t _ => ?_)
 by_cases e : t = m + i
 ·subst e
  rw [if_neg (by omega), if_pos (show m ≤ m + i ∧ m + i < m + (i + 1) by omega), show m + i - m = i by omega, if_neg h0]
 ·by_cases h : m ≤ t ∧ t < m + i
  ·rw [if_pos h, if_pos (show m ≤ t ∧ t < m + (i + 1) by omega)]
  ·rw [if_neg h, if_neg (by omega)]
theorem wr_add (m t : Nat) (h : m + t ≤ 1000) : wrap64 ((m : Int) + (t : Int)) = ((m + t : Nat) : Int) := by rw [wr (by omega) (by omega)]; omega
theorem wr_dbl (m : Nat) (h : m ≤ 1000) : wrap64 (2 * (m : Int)) = ((2 * m : Nat) : Int) := by rw [wr (by omega) (by omega)]; omega
section
variable {b : Nat} {N : List (List Int)} {O : List Int}
theorem MF.get (h : MF (b : Int) N O) {i k : Nat} (hi : i < N.length) (hk : k < b) : k < (rd_L1 N (i : Int)).length ∧ ∃ t0 : Nat, rd (rd_L1 N (i : Int)) (k : Int) = (t0 : Int) ∧ t0 < N.length := by
 have hr := h.row _ (rdLL_mem hi)
 have hx := hr.2 _ (rd_mem (show k < (rd_L1 N (i : Int)).length by omega))
 obtain ⟨t0, ht⟩ := Int.eq_ofNat_of_zero_le hx.1
 exact ⟨by omega, t0, ht, by omega⟩
theorem spec_cf_up (h : MF (b : Int) N O) (d : Nat) (hd : d < b) (A : List (List Int)) (hA : A.length ≤ 64) (i : Nat) (hi : i < N.length) (row col : List Int) (Ms : List (List (List Int))) (R : Int × List Int × (List (List (List Int))) × List Int × Bool)
  (H : Ev (fun k => spec_CountingForm.l2 k (N.length : Int) (d : Int) (A ++ [rowU (rd_L1 N (i : Int)) N.length d b]) ((i + 1 : Nat) : Int) (b : Int) N O (b : Int) row Ms col) R) (e : Nat) : ∀ k : Nat, k + e = b →
  Ev (fun kk => spec_CountingForm.l3 kk (N.length : Int) (d : Int) A (i : Int) (rowU (rd_L1 N (i : Int)) N.length d k) (k : Int) (b : Int) N O (b : Int) row Ms col) R := by
 have hs := h.size
 have hN0 : ¬ ((N.length : Int) = 0) := by omega
 have hb := h.base
 induction e with
 | zero =>
  intro k hk
  refine ev_succ ?_
  simp only [spec_CountingForm.l3]
  obtain rfl : k = b := by omega
  rw [wr1 (show (0 : Int) ≤ (i : Int) by omega) (by omega)]
  exact ev_neg (by omega) (ev_pos (by omega) H)
 | succ e ih =>
  intro k hk
  obtain ⟨g1, t0, g2, g3⟩ := h.get hi (show k < b by omega)
  have hi' := ih (k + 1) (by omega)
  have hl : (rowU (rd_L1 N (i : Int)) N.length d k).length = 2 * N.length := mkV_length _ _
  refine ev_succ ?_
  simp only [spec_CountingForm.l3, tmod_nat, Nat.mod_eq_of_lt hi, g2]
  refine ev_pos (by omega) (ev_neg hN0 (ev_pos (by omega) (ev_pos (by omega) (ev_pos (by omega) (ev_pos (by omega) (ev_pos (by omega) (ev_succ ?_)))))))
  simp only [spec_CountingForm.j5, wr_add N.length t0 (by omega), hl, Int.toNat_natCast]
  rw [wr1 (show (0 : Int) ≤ (k : Int) by omega) (by omega)]
  by_cases e1 : k = d
  ·subst e1
   refine ev_pos (by simp) (ev_pos (by omega) (ev_pos (by omega) ?_))
   simp only [Option.bind_some]
   rw [rowU_at _ _ _ t0 (by omega) (by omega) g2]
   exact ev_pos (by omega) (ev_neg (by omega) (ev_neg (by omega) hi'))
  ·refine ev_neg (by simp; omega) (ev_pos (by omega) ?_)
   by_cases e2 : k < d
   ·refine ev_pos (by omega) (ev_pos (by omega) (ev_pos (by omega) ?_))
    rw [rowU_lt _ _ _ _ t0 g3 e2 (by omega) g2]
    exact hi'
   ·rw [← rowU_gt _ _ _ _ (by omega)] at hi'
    exact ev_neg (by omega) (ev_neg (by omega) hi')
theorem spec_cf_low (h : MF (b : Int) N O) (d : Nat) (hd : d < b) (A : List (List Int)) (hA : A.length ≤ 64) (i : Nat) (hi : i < N.length) (row col : List Int) (Ms : List (List (List Int))) (R : Int × List Int × (List (List (List Int))) × List Int × Bool)
  (H : Ev (fun k => spec_CountingForm.l2 k (N.length : Int) (d : Int) (A ++ [rowL (rd_L1 N (i : Int)) N.length b]) ((N.length + i + 1 : Nat) : Int) (b : Int) N O (b : Int) row Ms col) R) (e : Nat) : ∀ k : Nat, k + e = b →
  Ev (fun kk => spec_CountingForm.l3 kk (N.length : Int) (d : Int) A ((N.length + i : Nat) : Int) (rowL (rd_L1 N (i : Int)) N.length k) (k : Int) (b : Int) N O (b : Int) row Ms col) R := by
 have hs := h.size
 have hN0 : ¬ ((N.length : Int) = 0) := by omega
 have hb := h.base
 induction e with
 | zero =>
  intro k hk
  refine ev_succ ?_
  simp only [spec_CountingForm.l3]
  obtain rfl : k = b := by omega
  rw [wr1 (show (0 : Int) ≤ ((N.length + i : Nat) : Int) by omega) (by omega)]
  exact ev_neg (by omega) (ev_pos (by omega) H)
 | succ e ih =>
  intro k hk
  obtain ⟨g1, t0, g2, g3⟩ := h.get hi (show k < b by omega)
  have hi' := ih (k + 1) (by omega)
  have hl : (rowL (rd_L1 N (i : Int)) N.length k).length = 2 * N.length := mkV_length _ _
  have hmod : (N.length + i) % N.length = i := by rw [Nat.add_mod_left, Nat.mod_eq_of_lt hi]
  refine ev_succ ?_
  simp only [spec_CountingForm.l3, tmod_nat, hmod, g2]
  refine ev_pos (by omega) (ev_neg hN0 (ev_pos (by omega) (ev_pos (by omega) (ev_pos (by omega) (ev_pos (by omega) (ev_neg (by omega) (ev_succ ?_)))))))
  simp only [spec_CountingForm.j5, wr_add N.length t0 (by omega), hl, Int.toNat_natCast]
  rw [wr1 (show (0 : Int) ≤ (k : Int) by omega) (by omega)]
  refine ev_neg (by simp) (ev_neg (by omega) (ev_pos (by omega) (ev_pos (by omega) (ev_pos (by omega) ?_))))
  rw [rowL_inc _ _ _ t0 g3 (by omega) g2]
  exact hi'
theorem rowU_zero (r : List Int) (m d : Nat) : List.replicate (2 * m) (0 : Int) = rowU r m d 0 := by
 rw [mkV_zero]
 refine mkV_congr _ _ _ (fun t _ => ?_)
 rw [if_neg (by omega), Nat.zero_min]; rfl
theorem rowL_zero (r : List Int) (m : Nat) : List.replicate (2 * m) (0 : Int) = rowL r m 0 := by
 rw [mkV_zero]
 exact mkV_congr _ _ _ (fun t _ => rfl)
theorem spec_cf_l2 (h : MF (b : Int) N O) (d : Nat) (hd : d < b) (row col : List Int) (Ms : List (List (List Int))) (hMs : Ms.length ≤ 64) (R : Int × List Int × (List (List (List Int))) × List Int × Bool)
  (H : Ev (fun k => spec_CountingForm.l1 k (N.length : Int) ((d + 1 : Nat) : Int) (b : Int) N O (b : Int) row (Ms ++ [matD N N.length b d]) col) R) (e : Nat) : ∀ i : Nat, i + e = 2 * N.length →
  Ev (fun kk => spec_CountingForm.l2 kk (N.length : Int) (d : Int) ((matD N N.length b d).take i) (i : Int) (b : Int) N O (b : Int) row Ms col) R := by
 have hs := h.size
 have hb := h.base
 induction e with
 | zero =>
  intro i hi
  refine ev_succ ?_
  simp only [spec_CountingForm.l2, wr_dbl N.length (by omega)]
  rw [List.take_of_length_le (by unfold matD; rw [mkR_length]; omega), wr1 (show (0 : Int) ≤ (d : Int) by omega) (by omega)]
  exact ev_neg (by omega) (ev_pos (by omega) H)
 | succ e ih =>
  intro i hi
  have hi' := ih (i + 1) (by omega)
  have htk : (matD N N.length b d).take (i + 1) = (matD N N.length b d).take i ++ [if i < N.length then rowU (rd_L1 N (i : Int)) N.length d b else rowL (rd_L1 N ((i - N.length : Nat) : Int)) N.length b] := mkR_take _ _ i (by omega)
  have hA : ((matD N N.length b d).take i).length ≤ 64 := by rw [List.length_take]; omega
  rw [htk] at hi'
  refine ev_succ ?_
  simp only [spec_CountingForm.l2, wr_dbl N.length (by omega), Int.toNat_natCast]
  refine ev_pos (by omega) (ev_pos (by omega) (ev_pos (by omega) ?_))
  by_cases hlt : i < N.length
  ·rw [if_pos hlt] at hi'
   rw [rowU_zero (rd_L1 N (i : Int)) N.length d]
   exact spec_cf_up h d hd _ hA i hlt row col Ms R hi' b 0 (by omega)
  ·rw [if_neg hlt] at hi'
   obtain ⟨i', rfl⟩ : ∃ i', i = N.length + i' := ⟨i - N.length, by omega⟩
   rw [show N.length + i' - N.length = i' by omega] at hi'
   rw [rowL_zero (rd_L1 N (i' : Int)) N.length]
   exact spec_cf_low h d hd _ hA i' (by omega) row col Ms R hi' b 0 (by omega)
theorem spec_cf_l1 (h : MF (b : Int) N O) (row col : List Int) (e : Nat) : ∀ d : Nat, d + e = b → Ev (fun kk => spec_CountingForm.l1 kk (N.length : Int) (d : Int) (b : Int) N O (b : Int) row ((matsI N N.length b).take d) col) ((b : Int), row, matsI N N.length b, col, true) := by
 have hb := h.base
 induction e with
 | zero =>
  intro d hd
  refine ev_succ ?_
  simp only [spec_CountingForm.l1]
  rw [List.take_of_length_le (by unfold matsI; rw [mkR_length]; omega)]
  exact ev_neg (by omega) (ev_some rfl)
 | succ e ih =>
  intro d hd
  have hi' := ih (d + 1) (by omega)
  have htk : (matsI N N.length b).take (d + 1) = (matsI N N.length b).take d ++ [matD N N.length b d] := mkR_take _ _ d (by omega)
  rw [htk] at hi'
  refine ev_succ ?_
  simp only [spec_CountingForm.l1]
  refine ev_pos (by omega) ?_
  exact spec_cf_l2 h d (by omega) row col _ (by rw [List.length_take]; omega) _ hi' (2 * N.length) 0 (by omega)
theorem spec_cf_l0 (h : MF (b : Int) N O) (v : Int) (row : List Int) (e : Nat) : ∀ i : Nat, i + e = N.length → Ev (fun kk => spec_CountingForm.l0 kk v (N.length : Int) (i : Int) (b : Int) N O (b : Int) row (colI O v N.length i)) ((b : Int), row, matsI N N.length b, colI O v N.length N.length, true) := by
 have hs := h.size
 have hol := h.len
 induction e with
 | zero =>
  intro i hi
  obtain rfl : i = N.length := by omega
  refine ev_succ ?_
  simp only [spec_CountingForm.l0]
  exact ev_neg (by omega) (spec_cf_l1 h row _ b 0 (by omega))
 | succ e ih =>
  intro i hi
  have hi' := ih (i + 1) (by omega)
  have hl : (colI O v N.length i).length = 2 * N.length := mkV_length _ _
  refine ev_succ ?_
  simp only [spec_CountingForm.l0, wr_add N.length i (by omega), hl, Int.toNat_natCast]
  rw [wr1 (show (0 : Int) ≤ (i : Int) by omega) (by omega)]
  refine ev_pos (by omega) (ev_pos (by omega) (ev_pos (by omega) (ev_ite (fun e1 => ?_) (fun e1 => ?_))))
  ·refine ev_pos (by omega) (ev_pos (by omega) ?_)
   have := colI_step O v N.length i (by omega)
   rw [if_pos e1] at this
   rw [this]; exact hi'
  ·rw [colI_skip O v N.length i e1]; exact hi'
theorem colI_zero (O : List Int) (v : Int) (m : Nat) : List.replicate (2 * m) (0 : Int) = colI O v m 0 := by
 rw [mkV_zero]
 exact mkV_congr _ _ _ (fun t _ => (if_neg (by omega)).symm)
end
def rowV (r : List Int) (m d e : Nat) : List Int := mkV (2 * m) (fun t => (if rd r (d : Int) = (t : Int) then 1 else 0) + cNI r m t (min e d))
theorem rowV_zero (r : List Int) (m d t0 : Nat) (ht : t0 < 2 * m) (h : rd r (d : Int) = (t0 : Int)) : (List.replicate (2 * m) (0 : Int)).set t0 (wrap64 (rd (List.replicate (2 * m) (0 : Int)) (t0 : Int) + 1)) = rowV r m d 0 := by
 rw [mkV_zero]
 refine mkV_inc _ _ _ t0 ht (by omega) (fun t _ => ?_)
 show (if rd r (d : Int) = (t : Int) then 1 else 0) + cNI r m t (min 0 d) = if t = t0 then 0 + 1 else 0
 rw [Nat.zero_min, show cNI r m t 0 = 0 from rfl, h]
 by_cases e : t = t0
 ·subst e; rw [if_pos rfl, if_pos rfl]; omega
 ·rw [if_neg (by omega), if_neg e]; omega
theorem rowV_lt (r : List Int) (m d k t0 : Nat) (ht : t0 < m) (hk : k < d) (hd : d < 100) (h : rd r (k : Int) = (t0 : Int)) : (rowV r m d k).set (m + t0) (wrap64 (rd (rowV r m d k) ((m + t0 : Nat) : Int) + 1)) = rowV r m d (k + 1) := by
 have hb := cNI_bd r m (m + t0) k
 refine mkV_inc _ _ _ (m + t0) (by omega) ?_ (fun t _ => ?_)
 ·rw [show min k d = k by omega]; split <;> omega
 ·show (if rd r (d : Int) = (t : Int) then 1 else 0) + cNI r m t (min (k + 1) d) = if t = m + t0 then (if rd r (d : Int) = ((m + t0 : Nat) : Int) then 1 else 0) + cNI r m (m + t0) (min k d) + 1 else (if rd r (d : Int) = (t : Int) then 1 else 0) + cNI r m t (min k d)
  rw [show min k d = k by omega, show min (k + 1) d = k + 1 by omega]
  rw [show cNI r m t (k + 1) = cNI r m t k + (if (m : Int) + rd r (k : Int) = (t : Int) then 1 else 0) from rfl, h]
  by_cases e : t = m + t0
  ·subst e; rw [if_pos (show (m : Int) + (t0 : Int) = ((m + t0 : Nat) : Int) by omega), if_pos (show m + t0 = m + t0 from rfl)]; omega
  ·rw [if_neg (show ¬ (m : Int) + (t0 : Int) = (t : Int) by omega), if_neg e]; omega
theorem rowV_ge (r : List Int) (m d k : Nat) (hk : d ≤ k) : rowV r m d k = rowV r m d (k + 1) := by
 unfold rowV
 rw [show min k d = d by omega, show min (k + 1) d = d by omega]
theorem rowV_end (r : List Int) (m d b : Nat) (hd : d < b) : rowV r m d b = rowU r m d b := by
 refine mkV_congr _ _ _ (fun t _ => ?_)
 congr 1
 by_cases e : rd r (d : Int) = (t : Int)
 ·rw [if_pos e, if_pos ⟨hd, e⟩]
 ·rw [if_neg e, if_neg (fun h => e h.2)]
def zer (m : Nat) : List Int := List.replicate (2 * m) 0
def Gd (N : List (List Int)) (m b d i : Nat) : Nat → List Int := fun t => if t < i then rowU (rd_L1 N (t : Int)) m d b else if m ≤ t ∧ t < m + i then rowL (rd_L1 N ((t - m : Nat) : Int)) m b else zer m
def Hd_ (N : List (List Int)) (m b d i e : Nat) : Nat → List Int := fun t => if t = i then rowV (rd_L1 N (i : Int)) m d e else if t = m + i then rowL (rd_L1 N (i : Int)) m e else Gd N m b d i t
theorem Gd_len (N : List (List Int)) (m b d i t : Nat) : (Gd N m b d i t).length = 2 * m := by
 unfold Gd
 split
 ·exact mkV_length _ _
 ·split
  ·exact mkV_length _ _
  ·simp [zer]
theorem square_l0 (n : Nat) (hn : n ≤ 1000) (d : Nat) : ∀ i : Nat, i + d = n → Ev (fun k => impl_square.l0 k (n : Int) ((mkR n (fun _ => List.replicate n (0 : Int))).take i) (n : Int) (i : Int)) (mkR n (fun _ => List.replicate n (0 : Int))) := by
 induction d with
 | zero =>
  intro i hi
  refine ev_succ ?_
  simp only [impl_square.l0]
  rw [List.take_of_length_le (by rw [mkR_length]; omega)]
  exact ev_neg (by omega) (ev_some rfl)
 | succ d ih =>
  intro i hi
  have hi' := ih (i + 1) (by omega)
  rw [mkR_take n _ i (by omega)] at hi'
  have hl : ((mkR n (fun _ => List.replicate n (0 : Int))).take i).length ≤ n := by rw [List.length_take]; omega
  refine ev_succ ?_
  simp only [impl_square.l0, Int.toNat_natCast]
  rw [wr1 (show (0 : Int) ≤ (i : Int) by omega) (by omega)]
  exact ev_pos (by omega) (ev_pos (by omega) (ev_pos (by omega) (ev_pos (by omega) hi')))
section
variable {b : Nat} {N : List (List Int)} {O : List Int}
theorem Hd_start (i d : Nat) (hi : i < N.length) (t0 : Nat) (ht : t0 < N.length) (h : rd (rd_L1 N (i : Int)) (d : Int) = (t0 : Int)) :
  (mkR (2 * N.length) (Gd N N.length b d i)).set i ((rd_L1 (mkR (2 * N.length) (Gd N N.length b d i)) (i : Int)).set t0 (wrap64 (rd (rd_L1 (mkR (2 * N.length) (Gd N N.length b d i)) (i : Int)) (t0 : Int) + 1))) = mkR (2 * N.length) (Hd_ N N.length b d i 0) := by
 rw [mkR_rd _ _ i (by omega)]
 have e : Gd N N.length b d i i = zer N.length := by unfold Gd; rw [if_neg (by omega), if_neg (by omega)]
 rw [e, mkR_set]
 refine mkR_congr _ _ _ (fun t _ => ?_)
 unfold Hd_
 by_cases e1 : t = i
 ·rw [if_pos e1, if_pos e1]
  exact rowV_zero _ _ _ t0 (by omega) h
 ·rw [if_neg e1, if_neg e1]
  by_cases e2 : t = N.length + i
  ·rw [if_pos e2]
   subst e2
   unfold Gd
   rw [if_neg (by omega), if_neg (by omega)]
   exact rowL_zero _ _
  ·rw [if_neg e2]
theorem Hd_end (i d : Nat) (hi : i < N.length) (hd : d < b) : mkR (2 * N.length) (Hd_ N N.length b d i b) = mkR (2 * N.length) (Gd N N.length b d (i + 1)) := by
 refine mkR_congr _ _ _ (fun t _ => ?_)
 unfold Hd_ Gd
 by_cases e1 : t = i
 ·subst e1
  rw [if_pos rfl, if_pos (by omega)]
  exact rowV_end _ _ _ _ hd
 ·rw [if_neg e1]
  by_cases e2 : t = N.length + i
  ·subst e2
   rw [if_pos rfl, if_neg (by omega), if_pos ⟨by omega, by omega⟩, show N.length + i - N.length = i by omega]
  ·rw [if_neg e2]
   by_cases e3 : t < i
   ·rw [if_pos e3, if_pos (by omega)]
   ·rw [if_neg e3, if_neg (show ¬ t < i + 1 by omega)]
    by_cases e4 : N.length ≤ t ∧ t < N.length + i
    ·rw [if_pos e4, if_pos (show N.length ≤ t ∧ t < N.length + (i + 1) by omega)]
    ·rw [if_neg e4, if_neg (show ¬ (N.length ≤ t ∧ t < N.length + (i + 1)) by omega)]
theorem Hd_up (i d e : Nat) (hi : i < N.length) (t0 : Nat) (ht : t0 < N.length) (h : rd (rd_L1 N (i : Int)) (e : Int) = (t0 : Int)) (he : e < d) (hd : d < 100) :
  (mkR (2 * N.length) (Hd_ N N.length b d i e)).set i ((rd_L1 (mkR (2 * N.length) (Hd_ N N.length b d i e)) (i : Int)).set (N.length + t0) (wrap64 (rd (rd_L1 (mkR (2 * N.length) (Hd_ N N.length b d i e)) (i : Int)) ((N.length + t0 : Nat) : Int) + 1)))
   = mkR (2 * N.length) (fun t => if t = i then rowV (rd_L1 N (i : Int)) N.length d (e + 1) else if t = N.length + i then rowL (rd_L1 N (i : Int)) N.length e else Gd N N.length b d i t) := by
 rw [mkR_rd _ _ i (by omega)]
 have e0 : Hd_ N N.length b d i e i = rowV (rd_L1 N (i : Int)) N.length d e := by unfold Hd_; rw [if_pos rfl]
 rw [e0, rowV_lt _ _ _ _ t0 ht he hd h, mkR_set]
 refine mkR_congr _ _ _ (fun t _ => ?_)
 by_cases e1 : t = i
 ·rw [if_pos e1, if_pos e1]
 ·rw [if_neg e1, if_neg e1]; unfold Hd_; rw [if_neg e1]
theorem Hd_low (F : List Int) (i d e : Nat) (hi : i < N.length) (t0 : Nat) (ht : t0 < N.length) (h : rd (rd_L1 N (i : Int)) (e : Int) = (t0 : Int)) (he : e < 100) :
  (mkR (2 * N.length) (fun t => if t = i then F else if t = N.length + i then rowL (rd_L1 N (i : Int)) N.length e else Gd N N.length b d i t)).set (N.length + i)
   ((rd_L1 (mkR (2 * N.length) (fun t => if t = i then F else if t = N.length + i then rowL (rd_L1 N (i : Int)) N.length e else Gd N N.length b d i t)) ((N.length + i : Nat) : Int)).set (N.length + t0) (wrap64 (rd (rd_L1 (mkR (2 * N.length) (fun t => if t = i then F else if t = N.length + i then rowL (rd_L1 N (i : Int)) N.length e else Gd N N.length b d i t)) ((N.length + i : Nat) : Int)) ((N.length + t0 : Nat) : Int) + 1)))
   = mkR (2 * N.length) (fun t => if t = i then F else if t = N.length + i then rowL (rd_L1 N (i : Int)) N.length (e + 1) else Gd N N.length b d i t) := by
 rw [mkR_rd _ _ (N.length + i) (by omega)]
 rw [if_neg (show ¬ (N.length + i = i) by omega), if_pos (show N.length + i = N.length + i from rfl), rowL_inc _ _ _ t0 ht he h, mkR_set]
 refine mkR_congr _ _ _ (fun t _ => ?_)
 by_cases e1 : t = N.length + i
 ·subst e1; rw [if_pos rfl, if_neg (show ¬ (N.length + i = i) by omega), if_pos rfl]
 ·rw [if_neg e1]
  by_cases e2 : t = i
  ·rw [if_pos e2, if_pos e2]
  ·rw [if_neg e2, if_neg e2, if_neg e1, if_neg e1]
theorem dm_l1 (h : MF (b : Int) N O) (d : Nat) (hd : d < b) (i : Nat) (hi : i < N.length) (R : List (List Int))
  (H : Ev (fun k => impl_digitMatrix.l0 k (N.length : Int) (d : Int) (mkR (2 * N.length) (Gd N N.length b d (i + 1))) N (N.length : Int) ((i + 1 : Nat) : Int)) R) (c : Nat) : ∀ e : Nat, e + c = b →
  Ev (fun k => impl_digitMatrix.l1 k (N.length : Int) (d : Int) (mkR (2 * N.length) (Hd_ N N.length b d i e)) (i : Int) N (N.length : Int) (i : Int) (rd_L1 N (i : Int)) ((rd_L1 N (i : Int)).length : Int) (e : Int)) R := by
 have hs := h.size
 have hb := h.base
 have hrl := (h.row _ (rdLL_mem hi)).1
 induction c with
 | zero =>
  intro e he
  refine ev_succ ?_
  simp only [impl_digitMatrix.l1]
  obtain rfl : e = b := by omega
  rw [wr1 (show (0 : Int) ≤ (i : Int) by omega) (by omega), Hd_end i d hi hd]
  exact ev_neg (by omega) H
 | succ c ih =>
  intro e he
  obtain ⟨g1, t0, g2, g3⟩ := h.get hi (show e < b by omega)
  have hi' := ih (e + 1) (by omega)
  have hl : (mkR (2 * N.length) (Hd_ N N.length b d i e)).length = 2 * N.length := mkR_length _ _
  have hV : ∀ x y z w : _, (rowV x y z w).length = 2 * y := fun x y z w => mkV_length _ _
  have hL : ∀ x y z : _, (rowL x y z).length = 2 * y := fun x y z => mkV_length _ _
  refine ev_succ ?_
  simp only [impl_digitMatrix.l1, g2, wr_add N.length t0 (by omega), wr_add N.length i (by omega), Int.toNat_natCast, hl]
  rw [wr1 (show (0 : Int) ≤ (e : Int) by omega) (by omega)]
  refine ev_pos (by omega) (ev_pos (by omega) (ev_pos (by omega) ?_))
  by_cases e1 : e < d
  ·rw [Hd_up i d e hi t0 g3 g2 e1 (by omega), mkR_rd _ _ i (by omega)]
   have e0 : (Hd_ N N.length b d i e i).length = 2 * N.length := by unfold Hd_; rw [if_pos rfl]; exact hV _ _ _ _
   rw [e0]
   refine ev_pos (by omega) (ev_pos (by omega) (ev_pos (by omega) (ev_pos (by omega) (ev_pos (by omega) ?_))))
   simp only [Option.bind_some]
   rw [Hd_low _ i d e hi t0 g3 g2 (by omega), mkR_rd _ _ (N.length + i) (by omega)]
   rw [if_neg (show ¬ (N.length + i = i) by omega), if_pos (show N.length + i = N.length + i from rfl), hL]
   exact ev_pos (by omega) (ev_pos (by omega) (ev_pos (by omega) hi'))
  ·have e0 : Hd_ N N.length b d i e = (fun t => if t = i then rowV (rd_L1 N (i : Int)) N.length d e else if t = N.length + i then rowL (rd_L1 N (i : Int)) N.length e else Gd N N.length b d i t) := rfl
   have e2 : Hd_ N N.length b d i (e + 1) = (fun t => if t = i then rowV (rd_L1 N (i : Int)) N.length d e else if t = N.length + i then rowL (rd_L1 N (i : Int)) N.length (e + 1) else Gd N N.length b d i t) := by unfold Hd_; rw [← rowV_ge _ _ _ _ (by omega)]
   rw [e2] at hi'
   rw [e0, Hd_low _ i d e hi t0 g3 g2 (by omega), mkR_rd _ _ (N.length + i) (by omega)]
   rw [if_neg (show ¬ (N.length + i = i) by omega), if_pos (show N.length + i = N.length + i from rfl), hL]
   exact ev_neg (by omega) (ev_pos (by omega) (ev_pos (by omega) (ev_pos (by omega) (ev_pos (by omega) hi'))))
theorem dm_l0 (h : MF (b : Int) N O) (d : Nat) (hd : d < b) (c : Nat) : ∀ i : Nat, i + c = N.length →
  Ev (fun k => impl_digitMatrix.l0 k (N.length : Int) (d : Int) (mkR (2 * N.length) (Gd N N.length b d i)) N (N.length : Int) (i : Int)) (matD N N.length b d) := by
 have hs := h.size
 have hb := h.base
 induction c with
 | zero =>
  intro i hi
  refine ev_succ ?_
  simp only [impl_digitMatrix.l0]
  refine ev_neg (by omega) (ev_some ?_)
  refine mkR_congr _ _ _ (fun t ht => ?_)
  unfold Gd
  obtain rfl : i = N.length := by omega
  by_cases e : t < N.length
  ·rw [if_pos e, if_pos e]
  ·rw [if_neg e, if_neg e, if_pos (show N.length ≤ t ∧ t < N.length + N.length by omega)]
 | succ c ih =>
  intro i hi
  have hil : i < N.length := by omega
  obtain ⟨g1, t0, g2, g3⟩ := h.get hil hd
  have hi' := dm_l1 h d hd i hil _ (ih (i + 1) (by omega)) b 0 (by omega)
  have hl : (mkR (2 * N.length) (Gd N N.length b d i)).length = 2 * N.length := mkR_length _ _
  have e0 : (rd_L1 (mkR (2 * N.length) (Gd N N.length b d i)) (i : Int)).length = 2 * N.length := by rw [mkR_rd _ _ i (by omega)]; exact Gd_len _ _ _ _ _ _
  refine ev_succ ?_
  simp only [impl_digitMatrix.l0, g2, Int.toNat_natCast, hl, e0]
  rw [Hd_start i d hil t0 g3 g2]
  exact ev_pos (by omega) (ev_pos (by omega) (ev_pos (by omega) (ev_pos (by omega) (ev_pos (by omega) (ev_pos (by omega) (ev_pos (by omega) (ev_pos (by omega) hi')))))))
theorem dm_ev (h : MF (b : Int) N O) (d : Nat) (hd : d < b) : Ev (fun k => impl_digitMatrix.f k N (N.length : Int) (d : Int)) (matD N N.length b d) := by
 have hs := h.size
 simp only [impl_digitMatrix.f, impl_square.f, wr_dbl N.length (by omega)]
 refine ev_bind (square_l0 (2 * N.length) (by omega) (2 * N.length) 0 (by omega)) ?_
 have := dm_l0 h d hd N.length 0 (by omega)
 have e : mkR (2 * N.length) (fun _ => List.replicate (2 * N.length) (0 : Int)) = mkR (2 * N.length) (Gd N N.length b d 0) := by
  refine mkR_congr _ _ _ (fun t _ => ?_)
  unfold Gd
  rw [if_neg (by omega), if_neg (by omega)]; rfl
 rw [e]
 exact this
theorem impl_cf_l1 (h : MF (b : Int) N O) (row col : List Int) (e : Nat) : ∀ d : Nat, d + e = b → Ev (fun kk => impl_CountingForm2.l1 kk (N.length : Int) (b : Int) (d : Int) (b : Int) N O (b : Int) row ((matsI N N.length b).take d) col) ((b : Int), row, matsI N N.length b, col, true) := by
 have hb := h.base
 induction e with
 | zero =>
  intro d hd
  refine ev_succ ?_
  simp only [impl_CountingForm2.l1]
  rw [List.take_of_length_le (by unfold matsI; rw [mkR_length]; omega)]
  exact ev_neg (by omega) (ev_some rfl)
 | succ e ih =>
  intro d hd
  have hi' := ih (d + 1) (by omega)
  have htk : (matsI N N.length b).take (d + 1) = (matsI N N.length b).take d ++ [matD N N.length b d] := mkR_take _ _ d (by omega)
  rw [htk] at hi'
  have hl : ((matsI N N.length b).take d).length ≤ d := by rw [List.length_take]; omega
  refine ev_succ ?_
  simp only [impl_CountingForm2.l1]
  rw [wr1 (show (0 : Int) ≤ (d : Int) by omega) (by omega)]
  exact ev_pos (by omega) (ev_bind (dm_ev h d (by omega)) (ev_pos (by omega) hi'))
theorem impl_cf_l0 (h : MF (b : Int) N O) (v : Int) (row : List Int) (e : Nat) : ∀ i : Nat, i + e = O.length → Ev (fun kk => impl_CountingForm2.l0 kk v (N.length : Int) O (O.length : Int) (i : Int) (b : Int) N O (b : Int) row (colI O v N.length i)) ((b : Int), row, matsI N N.length b, colI O v N.length N.length, true) := by
 have hs := h.size
 have hol := h.len
 induction e with
 | zero =>
  intro i hi
  obtain rfl : i = N.length := by omega
  refine ev_succ ?_
  simp only [impl_CountingForm2.l0]
  exact ev_neg (by omega) (impl_cf_l1 h row _ b 0 (by omega))
 | succ e ih =>
  intro i hi
  have hi' := ih (i + 1) (by omega)
  have hl : (colI O v N.length i).length = 2 * N.length := mkV_length _ _
  rw [← colI_step O v N.length i (by omega)] at hi'
  refine ev_succ ?_
  simp only [impl_CountingForm2.l0, wr_add N.length i (by omega), hl, Int.toNat_natCast, oneIf_eq, beq_iff_eq, Option.bind_some]
  rw [wr1 (show (0 : Int) ≤ (i : Int) by omega) (by omega)]
  exact ev_pos (by omega) (ev_pos (by omega) (ev_pos (by omega) (ev_pos (by omega) (ev_pos (by omega) hi'))))
def cfRes (b : Int) (next : List (List Int)) (out : List Int) (v : Int) : Int × List Int × (List (List (List Int))) × List Int × Bool :=
 if (mfRes b next out).2.2.2 = true ∧ 0 ≤ v ∧ v ≤ 3 then (b, row0 (mfRes b next out).2.1.length, matsI (mfRes b next out).2.1 (mfRes b next out).2.1.length b.toNat, colI (mfRes b next out).2.2.1 v (mfRes b next out).2.1.length (mfRes b next out).2.1.length, true) else (0, [], [], [], false)
theorem isTerm_eq (v : Int) : impl_isTerm.f v = some (decide (0 ≤ v ∧ v ≤ 3)) := by
 unfold impl_isTerm.f
 by_cases h : v ≥ 0
 ·rw [if_pos h]; simp [show 0 ≤ v from h]
 ·rw [if_neg h]; simp [show ¬ 0 ≤ v from h]
theorem impl_CountingForm_ev (b : Int) (next : List (List Int)) (out : List Int) (v : Int) (f1 : fit2 next) (f2 : fit1 out) : Ev (fun k => impl_CountingForm.f k b next out v) (cfRes b next out v) := by
 simp only [impl_CountingForm.f]
 refine ev_bind (impl_MinimalForm_ev b next out f1 f2) ?_
 unfold cfRes
 rcases mfRes_split b next out with ⟨N, O, e, hM, _⟩ | e
 ·rw [e]
  simp only [impl_CountingForm2.f, isTerm_eq, Option.bind_some, true_and]
  refine ev_pos trivial ?_
  obtain ⟨c, rfl⟩ := Int.eq_ofNat_of_zero_le (show 0 ≤ b by have := hM.base; omega)
  have hs := hM.size
  by_cases hv : 0 ≤ v ∧ v ≤ 3
  ·rw [if_pos hv, decide_eq_true hv]
   refine ev_succ ?_
   simp only [impl_CountingForm2.j0, wr_dbl N.length (by omega), Int.toNat_natCast, Option.bind_some]
   have := impl_cf_l0 hM v (row0 N.length) O.length 0 (by omega)
   rw [← colI_zero] at this
   exact ev_neg (by simp) (ev_pos (by omega) (ev_pos (by omega) (ev_pos (by simp; omega) this)))
  ·rw [if_neg hv, decide_eq_false hv]
   refine ev_succ ?_
   simp only [impl_CountingForm2.j0]
   exact ev_pos (by simp) (ev_some rfl)
 ·rw [e]
  simp only [impl_CountingForm2.f]
  rw [if_neg (by simp)]
  refine ev_neg (by simp) (ev_succ ?_)
  simp only [impl_CountingForm2.j0]
  exact ev_pos trivial (ev_some rfl)
theorem spec_CountingForm_ev (b : Int) (next : List (List Int)) (out : List Int) (v : Int) (f1 : fit2 next) (f2 : fit1 out) : Ev (fun k => spec_CountingForm.f k b next out v) (cfRes b next out v) := by
 simp only [spec_CountingForm.f]
 refine ev_bind (spec_MinimalForm_ev b next out f1 f2) ?_
 unfold cfRes
 rcases mfRes_split b next out with ⟨N, O, e, hM, _⟩ | e
 ·rw [e]
  simp only [l1In_eq, Option.bind_some, true_and]
  refine ev_pos trivial ?_
  obtain ⟨c, rfl⟩ := Int.eq_ofNat_of_zero_le (show 0 ≤ b by have := hM.base; omega)
  have hs := hM.size
  by_cases hv : 0 ≤ v ∧ v ≤ 3
  ·rw [if_pos hv, decide_eq_true hv]
   refine ev_succ ?_
   simp only [spec_CountingForm.j0, wr_dbl N.length (by omega), Int.toNat_natCast, Option.bind_some]
   have := spec_cf_l0 hM v (row0 N.length) N.length 0 (by omega)
   rw [← colI_zero] at this
   exact ev_neg (by simp) (ev_pos (by omega) (ev_pos (by omega) (ev_pos (by simp; omega) this)))
  ·rw [if_neg hv, decide_eq_false hv]
   refine ev_succ ?_
   simp only [spec_CountingForm.j0]
   exact ev_pos (by simp) (ev_some rfl)
 ·rw [e]
  rw [if_neg (by simp)]
  refine ev_neg (by simp) (ev_succ ?_)
  simp only [spec_CountingForm.j0]
  exact ev_pos trivial (ev_some rfl)
end
-- SAY: For every sequence and letter the program's CountingForm answers what the reference's answers, leaves its arguments alone, and hands back memory that it shares with nothing. No conditions beyond the given statement.
theorem matsI_fit (N : List (List Int)) (m b : Nat) (hm : m ≤ 16) (hb : b ≤ 4) : (matsI N m b).length ≤ 1024 ∧ ∀ r ∈ matsI N m b, fit2 r := by
 refine ⟨by unfold matsI; rw [mkR_length]; omega, fun r hr => ?_⟩
 unfold matsI mkR at hr
 obtain ⟨d, _, rfl⟩ := List.mem_map.1 hr
 refine ⟨by unfold matD; rw [mkR_length]; omega, fun s hs => ?_⟩
 unfold matD mkR at hs
 obtain ⟨t, _, rfl⟩ := List.mem_map.1 hs
 unfold fit1
 split
 ·unfold rowU; rw [mkV_length]; omega
 ·unfold rowL; rw [mkV_length]; omega
theorem cfRes_fit (b : Int) (next : List (List Int)) (out : List Int) (v : Int) : fit1 (cfRes b next out v).2.1 ∧ ((cfRes b next out v).2.2.1.length ≤ 1024 ∧ ∀ r ∈ (cfRes b next out v).2.2.1, fit2 r) ∧ fit1 (cfRes b next out v).2.2.2.1 := by
 unfold cfRes
 split
 ·next h =>
  rcases mfRes_split b next out with ⟨N, O, e, hM, _⟩ | e
  ·rw [e]
   have hs := hM.size
   have hb := hM.base
   dsimp only
   refine ⟨?_, matsI_fit _ _ _ (by omega) (by omega), ?_⟩
   ·unfold fit1 row0; simp only [List.length_set, List.length_replicate]; omega
   ·unfold fit1 colI; simp only [mkV_length]; omega
  ·rw [e] at h; simp at h
 ·exact ⟨by simp [fit1], ⟨by simp, by simp⟩, by simp [fit1]⟩
theorem FnExactCountingForm : ∀ (b : Int) (next : List (List Int)) (out : List Int) (v : Int), next.length ≤ 9223372036854775807 → (∀ r ∈ next, r.length ≤ 9223372036854775807) → out.length ≤ 9223372036854775807 →
  ∃ k, laws_FnExactCountingForm.f k b next out v = some true := by
 intro b next out v h2 h3 h4
 refine Ev.rounds (g := fun k => laws_FnExactCountingForm.f k b next out v) ?_
 simp only [laws_FnExactCountingForm.f]
 obtain ⟨m, hm, hm1, hm2⟩ := szSequence_tot b next out h2 h3 h4 1048576 (by omega) (by omega)
 refine ev_bind hm (ev_ite (fun h => ev_some rfl) (fun h => ?_))
 obtain ⟨f2, f3⟩ := hm2 (by omega)
 refine ev_bind (toSequence_ev b next out f2 f3) (ev_bind (spec_CountingForm_ev b next out v f2 f3) (ev_bind (impl_CountingForm_ev b next out v f2 f3) ?_))
 obtain ⟨g1, g2, g3⟩ := cfRes_fit b next out v
 generalize cfRes b next out v = g at g1 g2 g3 ⊢
 obtain ⟨t1, t2, t3, t4, t5⟩ := g
 dsimp only at g1 g2 g3 ⊢
 refine ev_bind (eqLinear_ev t1 t2 t3 t4 g1 ⟨by omega, g2.2⟩ g3) (ev_bind (eqSequence_ev b next out f2 f3) ?_)
 refine ev_bind (heldLinear_ev t1 t2 t3 t4 g1 g2.1 g2.2 g3) (ev_pos ?_ (ev_some rfl))
 exact ⟨rfl, rfl, rfl, rfl, rfl, ⟨mlim2b_of f2, mlim1b_of f3⟩, mlim1b_of g1, mlim3b_of g2.1 g2.2, mlim1b_of g3⟩
end Go.Proofs.Ytgmfjcckmapkbaa.Pure
