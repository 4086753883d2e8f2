/- For every sequence and number the program's PrefixSum answers what the reference's answers, and leaves its arguments alone. No conditions beyond the given statement. -/
import Derived.Test.YtgmfjcckmapkbaaPFnExactPrefixSumx23
set_option linter.unusedVariables false
set_option linter.unusedSimpArgs false
namespace Go.Proofs.Ytgmfjcckmapkbaa.Pure
open Go.RowKit Go.Proofs.Ytgmfjcckmapkbaa.PFnExactPrefixSum Go.Proofs.YtgmfjcckmapkbaaW.PrintWords Go.Proofs.YtgmfjcckmapkbaaW.PrintLast
theorem ab {α : Type} {g : Nat → Option α} {r : α} (h : Ev (fun k => g (k + 1)) r) : Ev g r := Ev.step (fun _ => rfl) h
theorem ad {α : Type} {r r' : α} (h : r = r') : Ev (fun _ => some r) r' := by subst h; exact Ev.now r
theorem aa {α : Type} {c : Prop} [Decidable c] {g f : Nat → Option α} {r : α} (hc : c) (h : Ev g r) : Ev (fun k => if c then g k else f k) r := by
 simp only [if_pos hc]; exact h
theorem ac {α : Type} {c : Prop} [Decidable c] {g f : Nat → Option α} {r : α} (hc : ¬ c) (h : Ev f r) : Ev (fun k => if c then g k else f k) r := by
 simp only [if_neg hc]; exact h
theorem ai {α : Type} {c : Prop} [Decidable c] {g f : Nat → Option α} {r : α} (h : c → Ev g r) (h' : ¬ c → Ev f r) : Ev (fun k => if c then g k else f k) r := by
 by_cases hc : c
 ·exact aa hc (h hc)
 ·exact ac hc (h' hc)
theorem af {α β : Type} {g : Nat → Option α} {f : Nat → α → Option β} {a : α} {r : β} (h : Ev g a) (k : Ev (fun n => f n a) r) : Ev (fun n => (g n).bind (f n)) r := Ev.bind h k
theorem eM {α β : Type} {o : Option α} {f : Nat → α → Option β} {a : α} {r : β} (h : o = some a) (k : Ev (fun n => f n a) r) : Ev (fun n => o.bind (f n)) r := by
 subst h; exact k
theorem bg {α : Type} {g : Nat → Option α} {r r' : α} (h : Ev g r) (e : r = r') : Ev g r' := e ▸ h
theorem wr {n : Int} (h0 : -9223372036854775808 ≤ n) (h1 : n ≤ 9223372036854775807) : wrap64 n = n := by unfold wrap64; omega
theorem wr1 {i : Int} (h0 : 0 ≤ i) (h1 : i ≤ 4611686018427387904) : wrap64 (i + 1) = i + 1 := wr (by omega) (by omega)
theorem ct {n : Nat} (h : n ≤ 4611686018427387904) : wrap64 (n : Int) = n := wr (by omega) (by omega)
theorem eq (l : List Int) (i : Nat) : rd l (i : Int) = l.getD i 0 := by simp [rd]
theorem ah {l : List Int} {i : Nat} (h : i < l.length) : rd l (i : Int) = l[i] := by
 simp [rd, List.getD_eq_getElem?_getD, List.getElem?_eq_getElem h]
theorem b2 {l : List Int} {i : Nat} (h : i < l.length) : l.drop i = rd l (i : Int) :: l.drop (i + 1) := by
 rw [ah h]; exact List.drop_eq_getElem_cons h
theorem al {l : List Int} {i : Nat} (h : i < l.length) : rd l (i : Int) ∈ l := by rw [ah h]; exact List.getElem_mem h
def Tot {α : Type} (g : Nat → Option α) (P : α → Prop) : Prop := ∃ r, Ev g r ∧ P r
theorem ba {α : Type} {r : α} {P : α → Prop} (h : P r) : Tot (fun _ => some r) P := ⟨r, Ev.now r, h⟩
theorem eG {α β : Type} {g : Nat → Option α} {f : Nat → α → Option β} {P : α → Prop} {Q : β → Prop} (h : Tot g P) (k : ∀ a, P a → Tot (fun n => f n a) Q) : Tot (fun n => (g n).bind (f n)) Q := by
 obtain ⟨a, ha, hp⟩ := h
 obtain ⟨r, hr, hq⟩ := k a hp
 exact ⟨r, Ev.bind ha hr, hq⟩
theorem cZ {α β : Type} {o : Option α} {f : Nat → α → Option β} {P : α → Prop} {Q : β → Prop} (h : ∃ a, o = some a ∧ P a) (k : ∀ a, P a → Tot (fun n => f n a) Q) : Tot (fun n => o.bind (f n)) Q := by
 obtain ⟨a, ha, hp⟩ := h
 subst ha
 exact k a hp
theorem cI {α : Type} {c : Prop} [Decidable c] {g f : Nat → Option α} {P : α → Prop} (hc : c) (h : Tot g P) : Tot (fun k => if c then g k else f k) P := by
 simp only [if_pos hc]; exact h
theorem dA {α : Type} {c : Prop} [Decidable c] {g f : Nat → Option α} {P : α → Prop} (hc : ¬ c) (h : Tot f P) : Tot (fun k => if c then g k else f k) P := by
 simp only [if_neg hc]; exact h
theorem bZ {α : Type} {c : Prop} [Decidable c] {g f : Nat → Option α} {P : α → Prop} (h : c → Tot g P) (h' : ¬ c → Tot f P) : Tot (fun k => if c then g k else f k) P := by
 by_cases hc : c
 ·exact cI hc (h hc)
 ·exact dA hc (h' hc)
theorem c4 {α : Type} {g : Nat → Option α} {P : α → Prop} (h : Tot (fun k => g (k + 1)) P) : Tot g P := by
 obtain ⟨r, hr, hp⟩ := h
 exact ⟨r, ab hr, hp⟩
theorem eE (l : List Int) (hn : l.length ≤ 4611686018427387904) (d : Nat) : ∀ (i : Nat) (x : List Int), i + d = l.length → x.length = l.length → (∀ j, j < i → x[j]? = l[j]?) →
  Ev (fun k => laws_toIntS.l0 k l x (i : Int)) l := by
 induction d with
 | zero =>
  intro i x hi hx hj
  refine ab ?_
  simp only [laws_toIntS.l0]
  refine ac (by omega) (ad ?_)
  apply List.ext_getElem?
  intro j
  by_cases h : j < i
  ·exact hj j h
  ·rw [List.getElem?_eq_none (by omega), List.getElem?_eq_none (by omega)]
 | succ d ih =>
  intro i x hi hx hj
  refine ab ?_
  simp only [laws_toIntS.l0, wr1 (show (0 : Int) ≤ (i : Int) by omega) (by omega)]
  refine aa (by omega) (aa (by omega) (aa (by omega) ?_))
  refine ih (i + 1) _ (by omega) (by simp [hx]) ?_
  intro j hj'
  rw [Int.toNat_natCast, ah (by omega), List.getElem?_set]
  by_cases e : i = j
  ·subst e
   rw [if_pos rfl, if_pos (by omega), List.getElem?_eq_getElem (by omega)]
  ·rw [if_neg e]; exact hj j (by omega)
theorem cU (l : List Int) (hn : l.length ≤ 35184372088832) : Ev (fun k => laws_toIntS.f k l) l := by
 simp only [laws_toIntS.f]
 refine aa (by omega) (aa (by omega) ?_)
 exact eE l (by omega) l.length 0 _ (by omega) (by simp) (by intro j hj; omega)
theorem ez (l : List Int) (hn : l.length ≤ 4611686018427387904) (d : Nat) : ∀ (i : Nat), i + d = l.length → Ev (fun k => laws_eqIntS.l0 k l l (i : Int)) true := by
 induction d with
 | zero =>
  intro i hi
  refine ab ?_
  simp only [laws_eqIntS.l0]
  exact ac (by omega) (ad rfl)
 | succ d ih =>
  intro i hi
  refine ab ?_
  simp only [laws_eqIntS.l0, wr1 (show (0 : Int) ≤ (i : Int) by omega) (by omega)]
  exact aa (by omega) (aa (by omega) (aa (by omega) (aa trivial (ih (i + 1) (by omega)))))
theorem cV (l : List Int) (hn : l.length ≤ 4611686018427387904) : Ev (fun k => laws_eqIntS.f k l l) true := by
 simp only [laws_eqIntS.f]
 exact aa trivial (ez l hn l.length 0 (by omega))
theorem aB {l : List (List Int)} {i : Nat} (h : i < l.length) : rd_L1 l (i : Int) = l[i] := by
 simp [rd_L1, List.getD_eq_getElem?_getD, List.getElem?_eq_getElem h]
theorem aj {l : List (List Int)} {i : Nat} (h : i < l.length) : rd_L1 l (i : Int) ∈ l := by rw [aB h]; exact List.getElem_mem h
theorem da {l : List (List (List Int))} {i : Nat} (h : i < l.length) : rd_L2 l (i : Int) = l[i] := by
 simp [rd_L2, List.getD_eq_getElem?_getD, List.getElem?_eq_getElem h]
theorem ec {l : List (List (List Int))} {i : Nat} (h : i < l.length) : l.drop i = rd_L2 l (i : Int) :: l.drop (i + 1) := by
 rw [da h]; exact List.drop_eq_getElem_cons h
theorem cS {l : List (List (List Int))} {i : Nat} (h : i < l.length) : rd_L2 l (i : Int) ∈ l := by rw [da h]; exact List.getElem_mem h
def ao (l : List Int) : Prop := l.length ≤ 1048576
def aA (l : List (List Int)) : Prop := l.length ≤ 1048576 ∧ ∀ r ∈ l, ao r
def cE (l : List (List (List Int))) : Prop := l.length ≤ 1048576 ∧ ∀ m ∈ l, aA m
theorem el (l : List (List Int)) (hf : aA l) (d : Nat) : ∀ (i : Nat) (x : List (List Int)), i + d = l.length → x.length = l.length → (∀ j, j < i → x[j]? = l[j]?) →
  Ev (fun k => laws_toIntSS.l0 k l x (i : Int)) l := by
 have hn := hf.1
 induction d with
 | zero =>
  intro i x hi hx hj
  refine ab ?_
  simp only [laws_toIntSS.l0]
  refine ac (by omega) (ad ?_)
  apply List.ext_getElem?
  intro j
  by_cases h : j < i
  ·exact hj j h
  ·rw [List.getElem?_eq_none (by omega), List.getElem?_eq_none (by omega)]
 | succ d ih =>
  intro i x hi hx hj
  refine ab ?_
  simp only [laws_toIntSS.l0, wr1 (show (0 : Int) ≤ (i : Int) by omega) (by omega)]
  have hr := hf.2 _ (aj (show i < l.length by omega))
  unfold ao at hr
  refine aa (by omega) (aa (by omega) (af (cU _ (by omega)) (aa (by omega) ?_)))
  refine ih (i + 1) _ (by omega) (by simp [hx]) ?_
  intro j hj'
  rw [Int.toNat_natCast, aB (by omega), List.getElem?_set]
  by_cases e : i = j
  ·subst e
   rw [if_pos rfl, if_pos (by omega), List.getElem?_eq_getElem (by omega)]
  ·rw [if_neg e]; exact hj j (by omega)
theorem dI (l : List (List Int)) (hf : aA l) : Ev (fun k => laws_toIntSS.f k l) l := by
 have hn := hf.1
 simp only [laws_toIntSS.f]
 refine aa (by omega) (aa (by omega) ?_)
 exact el l hf l.length 0 _ (by omega) (by simp) (by intro j hj; omega)
theorem dH (l : List (List Int)) (hf : aA l) (d : Nat) : ∀ (i : Nat), i + d = l.length → Ev (fun k => laws_eqIntSS.l0 k l l (i : Int)) true := by
 have hn := hf.1
 induction d with
 | zero =>
  intro i hi
  refine ab ?_
  simp only [laws_eqIntSS.l0]
  exact ac (by omega) (ad rfl)
 | succ d ih =>
  intro i hi
  have hr := hf.2 _ (aj (show i < l.length by omega))
  unfold ao at hr
  refine ab ?_
  simp only [laws_eqIntSS.l0, wr1 (show (0 : Int) ≤ (i : Int) by omega) (by omega)]
  exact aa (by omega) (aa (by omega) (aa (by omega) (af (cV _ (by omega)) (aa rfl (ih (i + 1) (by omega))))))
theorem dN (l : List (List Int)) (hf : aA l) : Ev (fun k => laws_eqIntSS.f k l l) true := by
 simp only [laws_eqIntSS.f]
 exact aa trivial (dH l hf l.length 0 (by omega))
theorem cy (l : List Int) (hl : l.length ≤ 9223372036854775807) (n : Int) (h0 : 0 ≤ n) (h1 : n ≤ 1048576) : ∃ r, laws_szIntS.f l n = some r ∧ r ≤ 1048576 ∧ (0 ≤ r → ao l) := by
 unfold laws_szIntS.f
 rw [wr (by omega) (by omega)]
 split
 ·exact ⟨_, rfl, by omega, fun h => absurd h (by omega)⟩
 ·exact ⟨_, rfl, by omega, fun _ => by unfold ao; omega⟩
theorem dP (l : List (List Int)) (hn : l.length ≤ 1048576) (hl : ∀ r ∈ l, r.length ≤ 9223372036854775807) (d : Nat) : ∀ (i : Nat) (n : Int), i + d = l.length → 0 ≤ n → n ≤ 1048576 → (∀ r ∈ l.take i, ao r) →
  Tot (fun k => laws_szIntSS.l0 k l n (i : Int)) (fun r => r ≤ 1048576 ∧ (0 ≤ r → aA l)) := by
 induction d with
 | zero =>
  intro i n hi h0 h1 hf
  refine c4 ?_
  simp only [laws_szIntSS.l0]
  rw [List.take_of_length_le (by omega)] at hf
  exact dA (by omega) (ba ⟨h1, fun _ => ⟨hn, hf⟩⟩)
 | succ d ih =>
  intro i n hi h0 h1 hf
  refine c4 ?_
  simp only [laws_szIntSS.l0, wr1 (show (0 : Int) ≤ (i : Int) by omega) (by omega)]
  refine cI (by omega) (cI (by omega) (cZ (cy _ (hl _ (aj (show i < l.length by omega))) n h0 h1) (fun r hr => ?_)))
  refine bZ (fun h => ba ⟨by omega, fun h => absurd h (by omega)⟩) (fun h => ih (i + 1) r (by omega) (by omega) hr.1 ?_)
  intro x hx
  rw [List.take_succ_eq_append_getElem (by omega), ← aB (by omega), List.mem_append] at hx
  rcases hx with hx | hx
  ·exact hf x hx
  ·simp only [List.mem_cons, List.not_mem_nil, or_false] at hx
   rw [hx]; exact hr.2 (by omega)
theorem dv (l : List (List Int)) (hn : l.length ≤ 9223372036854775807) (hl : ∀ r ∈ l, r.length ≤ 9223372036854775807) (n : Int) (h0 : 0 ≤ n) (h1 : n ≤ 1048576) :
  Tot (fun k => laws_szIntSS.f k l n) (fun r => r ≤ 1048576 ∧ (0 ≤ r → aA l)) := by
 simp only [laws_szIntSS.f]
 rw [wr (by omega) (by omega)]
 refine bZ (fun h => ba ⟨by omega, fun h => absurd h (by omega)⟩) (fun h => ?_)
 exact dP l (by omega) hl l.length 0 _ (by omega) (by omega) (by omega) (by simp)
theorem cG (b : Int) (next : List (List Int)) (out : List Int) (h2 : next.length ≤ 9223372036854775807) (h3 : ∀ r ∈ next, r.length ≤ 9223372036854775807) (h4 : out.length ≤ 9223372036854775807)
  (n : Int) (h0 : 0 ≤ n) (hn : n ≤ 1048576) : Tot (fun k => laws_szSequence.f k b next out n) (fun r => r ≤ 1048576 ∧ (0 ≤ r → aA next ∧ ao out)) := by
 simp only [laws_szSequence.f]
 refine eG (dv next h2 h3 n h0 hn) (fun r2 hr2 => bZ (fun h => ba ⟨by omega, fun h => absurd h (by omega)⟩) (fun h => ?_))
 refine cZ (cy out h4 r2 (by omega) hr2.1) (fun r3 hr3 => bZ (fun h => ba ⟨by omega, fun h => absurd h (by omega)⟩) (fun h => ?_))
 exact ba ⟨hr3.1, fun h => ⟨hr2.2 (by omega), hr3.2 (by omega)⟩⟩
theorem be (b : Int) (next : List (List Int)) (out : List Int) (h2 : aA next) (h3 : ao out) : Ev (fun k => laws_toSequence.f k b next out) (b, next, out) := by
 unfold ao at h3
 simp only [laws_toSequence.f]
 exact af (dI next h2) (af (cU out (by omega)) (ad rfl))
theorem c0 (b : Int) (next : List (List Int)) (out : List Int) (h2 : aA next) (h3 : ao out) : Ev (fun k => laws_eqSequence.f k b next out b next out) true := by
 unfold ao at h3
 simp only [laws_eqSequence.f]
 exact aa trivial (af (dN next h2) (aa rfl (af (cV out (by omega)) (aa rfl (ad rfl)))))
theorem a3 (a b c : Int) : spec_l1In.f a b c = some (decide (b ≤ a ∧ a ≤ c)) := by
 unfold spec_l1In.f
 by_cases h : a ≥ b
 ·rw [if_pos h]; simp [show b ≤ a from h]
 ·rw [if_neg h]; simp [show ¬ b ≤ a from h]
theorem bH (a b : Nat) : Int.tmod (a : Int) (b : Int) = ((a % b : Nat) : Int) := by
 rw [Int.tmod_eq_emod_of_nonneg (by omega)]; exact (Int.natCast_emod a b).symm
theorem c3 (a b : Nat) : Int.tdiv (a : Int) (b : Int) = ((a / b : Nat) : Int) := by
 rw [Int.tdiv_eq_ediv_of_nonneg (by omega)]; exact (Int.natCast_ediv a b).symm
def aD (x : Int) : Bool := decide (-9 ≤ x ∧ x ≤ 9)
def aI (n : Nat) (r : List Int) : Bool := decide (r.length = n) && r.all aD
def bi (n : Nat) (m : List (List Int)) : Bool := decide (m.length = n) && m.all (aI n)
def aw (b : Int) (row : List Int) (mats : List (List (List Int))) (col : List Int) : Bool :=
 decide (2 ≤ b ∧ b ≤ 4) && decide (1 ≤ row.length ∧ row.length ≤ 40) && aI row.length row && aI row.length col && decide ((mats.length : Int) = b) && mats.all (bi row.length)
theorem eF (b : Int) : impl_isBase.f b = some (decide (2 ≤ b ∧ b ≤ 4)) := by
 unfold impl_isBase.f
 by_cases h : b ≥ 2
 ·rw [if_pos h]; simp [show 2 ≤ b from h]
 ·rw [if_neg h]; simp [show ¬ 2 ≤ b from h]
theorem aH {p : Int → Bool} {l : List Int} (h : l.all p = true) {i : Nat} (hi : i < l.length) : p (rd l (i : Int)) = true := List.all_eq_true.1 h _ (al hi)
theorem dj (n : Nat) (b : Int) (row col : List Int) (mats : List (List (List Int))) (a i : Nat) (ha : a < mats.length) (hi : i < (rd_L2 mats (a : Int)).length) (r : List Int) (hr : r = rd_L1 (rd_L2 mats (a : Int)) (i : Int)) (hl : r.length = n) (hn : n ≤ 40) (hn2 : mats.length ≤ 1048576 ∧ (rd_L2 mats (a : Int)).length ≤ 1048576) (R : Bool)
  (H : r.all aD = true → Ev (fun k => spec_IsLinear.l2 k (n : Int) (a : Int) ((i + 1 : Nat) : Int) b row mats col) R) (H2 : r.all aD = false → R = false) (d : Nat) : ∀ j : Nat, j + d = n → (r.take j).all aD = true →
  Ev (fun k => spec_IsLinear.l3 k (n : Int) (a : Int) (i : Int) (j : Int) b row mats col) R := by
 induction d with
 | zero =>
  intro j hj ht
  refine ab ?_
  simp only [spec_IsLinear.l3]
  rw [List.take_of_length_le (by omega)] at ht
  rw [wr1 (show (0 : Int) ≤ (i : Int) by omega) (by omega)]
  exact ac (by omega) (H ht)
 | succ d ih =>
  intro j hj ht
  refine ab ?_
  simp only [spec_IsLinear.l3, a3, Option.bind_some, wr1 (show (0 : Int) ≤ (j : Int) by omega) (by omega)]
  rw [← hr]
  refine aa (by omega) (aa (by omega) (aa (by omega) (aa (by omega) (aa (by omega) (aa (by omega) (aa (by omega) (ai (fun h => ih (j + 1) (by omega) ?_) (fun h => ad ?_))))))))
  ·rw [List.take_succ_eq_append_getElem (by omega), ← ah (by omega), List.all_append, ht]; simpa [aD] using h
  ·symm
   refine H2 ?_
   rw [Bool.eq_false_iff]
   intro hall
   exact h (by simpa [aD] using aH hall (show j < r.length by omega))
theorem di (n : Nat) (b : Int) (row col : List Int) (mats : List (List (List Int))) (hf : cE mats) (a : Nat) (ha : a < mats.length) (m : List (List Int)) (hm : m = rd_L2 mats (a : Int)) (hl : m.length = n) (hn : n ≤ 40) (R : Bool)
  (H : m.all (aI n) = true → Ev (fun k => spec_IsLinear.l1 k (n : Int) ((a + 1 : Nat) : Int) b row mats col) R) (H2 : m.all (aI n) = false → R = false) (d : Nat) : ∀ i : Nat, i + d = n → (m.take i).all (aI n) = true →
  Ev (fun k => spec_IsLinear.l2 k (n : Int) (a : Int) (i : Int) b row mats col) R := by
 have hf1 := hf.1
 have hf2 := hf.2 _ (cS ha)
 have hf3 := hf2.1
 induction d with
 | zero =>
  intro i hi ht
  refine ab ?_
  simp only [spec_IsLinear.l2]
  rw [List.take_of_length_le (by omega)] at ht
  rw [wr1 (show (0 : Int) ≤ (a : Int) by omega) (by omega)]
  exact ac (by omega) (H ht)
 | succ d ih =>
  intro i hi ht
  refine ab ?_
  simp only [spec_IsLinear.l2]
  rw [← hm]
  have nope : aI n (rd_L1 m (i : Int)) = false → R = false := by
   intro h
   refine H2 ?_
   rw [Bool.eq_false_iff]
   intro hall
   rw [List.all_eq_true.1 hall _ (aj (by omega))] at h
   cases h
  refine aa (by omega) (aa (by omega) (aa (by omega) (aa (by omega) (aa (by omega) (ai (fun h => ?_) (fun h => ad ?_))))))
  ·refine dj n b row col mats a i ha (by rw [← hm]; omega) _ rfl (by rw [← hm]; omega) hn ⟨hf1, hf3⟩ R (fun hall => ih (i + 1) (by omega) ?_) (fun hall => nope ?_) n 0 (by omega) (by simp)
   ·rw [← hm] at hall
    rw [List.take_succ_eq_append_getElem (by omega), ← aB (by omega), List.all_append, ht]
    simp only [List.all_cons, List.all_nil, aI, hall, decide_eq_true (show (rd_L1 m (i : Int)).length = n by omega), Bool.and_self]
   ·rw [← hm] at hall
    simp only [aI, hall, Bool.and_false]
  ·symm
   refine nope ?_
   simp only [aI, decide_eq_false (show ¬ (rd_L1 m (i : Int)).length = n by omega), Bool.false_and]
theorem dw (n : Nat) (hn : n ≤ 40) (row col : List Int) (mats : List (List (List Int))) (hf : cE mats) (d : Nat) : ∀ a : Nat, a + d = mats.length →
  Ev (fun k => spec_IsLinear.l1 k (n : Int) (a : Int) (mats.length : Int) row mats col) ((mats.drop a).all (bi n)) := by
 have hf1 := hf.1
 induction d with
 | zero =>
  intro a hi
  refine ab ?_
  simp only [spec_IsLinear.l1]
  refine ac (by omega) (ad ?_)
  rw [List.drop_of_length_le (by omega)]; rfl
 | succ d ih =>
  intro a hi
  refine ab ?_
  simp only [spec_IsLinear.l1]
  refine aa (by omega) (aa (by omega) (aa (by omega) ?_))
  rw [ec (show a < mats.length by omega), List.all_cons]
  refine ai (fun h => ?_) (fun h => ad ?_)
  ·refine di n _ row col mats hf a (by omega) _ rfl (by omega) hn _ (fun hall => ?_) (fun hall => ?_) n 0 (by omega) (by simp)
   ·refine bg (ih (a + 1) (by omega)) ?_
    simp only [bi, hall, decide_eq_true (show (rd_L2 mats (a : Int)).length = n by omega), Bool.and_self, Bool.true_and]
   ·simp only [bi, hall, Bool.and_false, Bool.false_and]
  ·simp only [bi, decide_eq_false (show ¬ (rd_L2 mats (a : Int)).length = n by omega), Bool.false_and]
theorem dk (n : Nat) (hn : n ≤ 40) (row col : List Int) (mats : List (List (List Int))) (hf : cE mats) (h1 : row.length = n) (h2 : col.length = n) (d : Nat) : ∀ i : Nat, i + d = n → (row.take i).all aD = true → (col.take i).all aD = true →
  Ev (fun k => spec_IsLinear.l0 k (n : Int) (i : Int) (mats.length : Int) row mats col) (row.all aD && col.all aD && mats.all (bi n)) := by
 induction d with
 | zero =>
  intro i hi hr hc
  refine ab ?_
  simp only [spec_IsLinear.l0]
  rw [List.take_of_length_le (by omega)] at hr hc
  refine ac (by omega) (bg (dw n hn row col mats hf mats.length 0 (by omega)) ?_)
  rw [hr, hc]; simp
 | succ d ih =>
  intro i hi hr hc
  refine ab ?_
  simp only [spec_IsLinear.l0, a3, Option.bind_some, wr1 (show (0 : Int) ≤ (i : Int) by omega) (by omega)]
  refine aa (by omega) (aa (by omega) (aa (by omega) (ai (fun h => aa (by omega) (ai (fun h' => ih (i + 1) (by omega) ?_ ?_) (fun h' => ad ?_))) (fun h => ad ?_))))
  ·rw [List.take_succ_eq_append_getElem (by omega), ← ah (by omega), List.all_append, hr]; simpa [aD] using h
  ·rw [List.take_succ_eq_append_getElem (by omega), ← ah (by omega), List.all_append, hc]; simpa [aD] using h'
  ·symm
   have : col.all aD = false := by
    rw [Bool.eq_false_iff]
    intro hall
    exact h' (by simpa [aD] using aH hall (show i < col.length by omega))
   rw [this]; simp
  ·symm
   have : row.all aD = false := by
    rw [Bool.eq_false_iff]
    intro hall
    exact h (by simpa [aD] using aH hall (show i < row.length by omega))
   rw [this]; simp
theorem ck (b : Int) (row : List Int) (mats : List (List (List Int))) (col : List Int) (h1 : ao row) (h2 : cE mats) (h3 : ao col) : Ev (fun k => spec_IsLinear.f k b row mats col) (aw b row mats col) := by
 unfold ao at h1 h3
 simp only [spec_IsLinear.f, a3, Option.bind_some]
 have no : ∀ f : Bool, f = true → aw b row mats col = false → Ev (fun k => spec_IsLinear.j0 k (row.length : Int) f b row mats col) (aw b row mats col) := by
  intro f hf h
  subst hf
  refine ab ?_
  simp only [spec_IsLinear.j0]
  exact aa trivial (ad h.symm)
 by_cases hn : 1 ≤ row.length ∧ row.length ≤ 40
 ·refine aa (by simp; omega) (ai (fun hc => ?_) (fun hc => no _ rfl ?_))
  ·by_cases hb : 2 ≤ b ∧ b ≤ 4
   ·refine aa (by simpa using hb) ?_
    by_cases h6 : (mats.length : Int) = b
    ·refine ab ?_
     simp only [spec_IsLinear.j0]
     have := dk row.length (by omega) row col mats h2 rfl (by omega) row.length 0 (by omega) (by simp) (by simp)
     rw [h6] at this
     refine ac (by simp [h6]) (bg this ?_)
     unfold aw aI
     rw [decide_eq_true hb, decide_eq_true hn, decide_eq_true rfl, decide_eq_true (show col.length = row.length by omega), decide_eq_true h6]; simp
    ·refine no _ (by simpa using h6) ?_
     unfold aw; rw [decide_eq_false h6]; simp
   ·refine ac (by simpa using hb) (no _ rfl ?_)
    unfold aw; rw [decide_eq_false hb]; simp
  ·unfold aw aI; rw [decide_eq_false (show ¬ col.length = row.length by omega)]; simp
 ·refine ac (by simp; omega) (no _ rfl ?_)
  unfold aw; rw [decide_eq_false hn]; simp
def inR (m x : Int) : Bool := decide (0 ≤ x ∧ x < m)
def aE (b m : Int) (r : List Int) : Bool := decide ((r.length : Int) = b) && r.all (inR m)
def aV (x : Int) : Bool := decide (0 ≤ x ∧ x ≤ 3)
def ag (b : Int) (next : List (List Int)) (out : List Int) : Bool :=
 decide (2 ≤ b ∧ b ≤ 4) && decide (1 ≤ next.length ∧ next.length ≤ 16) && decide (out.length = next.length) && next.all (aE b next.length) && out.all aV
theorem dp (b : Int) (next : List (List Int)) (out : List Int) (h2 : ao out) (hr : next.all (aE b next.length) = true) (d : Nat) : ∀ i : Nat, i + d = out.length → (out.take i).all aV = true →
  Ev (fun k => spec_IsSequence.l2 k (i : Int) b next out) (ag b next out) := by
 unfold ao at h2
 induction d with
 | zero =>
  intro i hi ht
  refine ab ?_
  simp only [spec_IsSequence.l2, a3, Option.bind_some]
  rw [List.take_of_length_le (by omega)] at ht
  refine ac (by omega) ?_
  unfold ag
  rw [hr, ht]
  by_cases hb : 2 ≤ b ∧ b ≤ 4
  ·rw [decide_eq_true hb]
   refine aa (by simp) ?_
   by_cases hm : 1 ≤ next.length ∧ next.length ≤ 16
   ·rw [decide_eq_true hm]
    refine aa (by simp; omega) (ad ?_)
    simp only [Bool.true_and, Bool.and_true]
    rw [Bool.eq_iff_iff]; simp; omega
   ·rw [decide_eq_false hm]
    exact ac (by simp; omega) (ad (by simp))
  ·rw [decide_eq_false hb]
   exact ac (by simp) (ad (by simp))
 | succ d ih =>
  intro i hi ht
  refine ab ?_
  simp only [spec_IsSequence.l2, a3, Option.bind_some, wr1 (show (0 : Int) ≤ (i : Int) by omega) (by omega)]
  refine aa (by omega) (aa (by omega) (ai (fun h => ih (i + 1) (by omega) ?_) (fun h => ad ?_)))
  ·rw [List.take_succ_eq_append_getElem (by omega), ← ah (by omega), List.all_append, ht]; simpa [aV] using h
  ·symm
   unfold ag
   have : out.all aV = false := by
    rw [Bool.eq_false_iff]
    intro hall
    exact h (by simpa [aV] using aH hall (show i < out.length by omega))
   rw [this]; simp
theorem dq (b : Int) (next : List (List Int)) (out : List Int) (hf : aA next) (a : Nat) (ha : a < next.length) (r : List Int) (hr : r = rd_L1 next (a : Int)) (R : Bool)
  (H : r.all (inR next.length) = true → Ev (fun k => spec_IsSequence.l0 k ((a + 1 : Nat) : Int) b next out) R) (H2 : r.all (inR next.length) = false → R = false) (d : Nat) : ∀ j : Nat, j + d = r.length → (r.take j).all (inR next.length) = true →
  Ev (fun k => spec_IsSequence.l1 k (a : Int) (j : Int) b next out) R := by
 have h1 := hf.1
 have h2 := hf.2 _ (aj ha)
 rw [← hr] at h2
 unfold ao at h2
 induction d with
 | zero =>
  intro j hj ht
  refine ab ?_
  simp only [spec_IsSequence.l1]
  rw [← hr, wr1 (show (0 : Int) ≤ (a : Int) by omega) (by omega)]
  rw [List.take_of_length_le (by omega)] at ht
  exact aa (by omega) (aa (by omega) (ac (by omega) (H ht)))
 | succ d ih =>
  intro j hj ht
  refine ab ?_
  simp only [spec_IsSequence.l1, wr1 (show (0 : Int) ≤ (j : Int) by omega) (by omega)]
  rw [← hr]
  have nope : ¬ (0 ≤ rd r (j : Int) ∧ rd r (j : Int) < (next.length : Int)) → R = false := by
   intro h
   refine H2 ?_
   rw [Bool.eq_false_iff]
   intro hall
   have := aH hall (show j < r.length by omega)
   simp only [inR, decide_eq_true_eq] at this
   exact h this
  refine aa (by omega) (aa (by omega) (aa (by omega) (aa (by omega) (ai (fun h => ad (nope (by omega)).symm) (fun h => ai (fun h' => ad (nope (by omega)).symm) (fun h' => ih (j + 1) (by omega) ?_))))))
  rw [List.take_succ_eq_append_getElem (by omega), ← ah (by omega), List.all_append, ht]
  simp only [List.all_cons, List.all_nil, inR, decide_eq_true (show 0 ≤ rd r (j : Int) ∧ rd r (j : Int) < (next.length : Int) by omega), Bool.and_self]
theorem dh (b : Int) (next : List (List Int)) (out : List Int) (hf : aA next) (h2 : ao out) (d : Nat) : ∀ a : Nat, a + d = next.length → (next.take a).all (aE b next.length) = true →
  Ev (fun k => spec_IsSequence.l0 k (a : Int) b next out) (ag b next out) := by
 have h1 := hf.1
 induction d with
 | zero =>
  intro a hi ht
  refine ab ?_
  simp only [spec_IsSequence.l0]
  rw [List.take_of_length_le (by omega)] at ht
  exact ac (by omega) (dp b next out h2 ht out.length 0 (by omega) (by simp))
 | succ d ih =>
  intro a hi ht
  refine ab ?_
  simp only [spec_IsSequence.l0]
  have nope : aE b next.length (rd_L1 next (a : Int)) = false → ag b next out = false := by
   intro h
   have : next.all (aE b next.length) = false := by
    rw [Bool.eq_false_iff]
    intro hall
    rw [List.all_eq_true.1 hall _ (aj (show a < next.length by omega))] at h
    cases h
   unfold ag
   rw [this]; simp
  refine aa (by omega) (aa (by omega) (ai (fun h => ?_) (fun h => ad (nope ?_).symm)))
  ·refine dq b next out hf a (by omega) _ rfl _ (fun hall => ih (a + 1) (by omega) ?_) (fun hall => nope ?_) (rd_L1 next (a : Int)).length 0 (by omega) (by simp)
   ·rw [List.take_succ_eq_append_getElem (by omega), ← aB (by omega), List.all_append, ht]
    simp only [List.all_cons, List.all_nil, aE, hall, decide_eq_true h, Bool.and_self]
   ·simp only [aE, hall, Bool.and_false]
  ·simp only [aE, decide_eq_false h, Bool.false_and]
theorem aS (b : Int) (next : List (List Int)) (out : List Int) (h1 : aA next) (h2 : ao out) : Ev (fun k => spec_IsSequence.f k b next out) (ag b next out) := by
 simp only [spec_IsSequence.f]
 exact dh b next out h1 h2 next.length 0 (by omega) (by simp)
theorem dg (b : Int) (next : List (List Int)) (out : List Int) (hf : aA next) (a : Nat) (ha : a < next.length) (r : List Int) (hrl : r.length ≤ 1048576) (R : Bool)
  (H : r.all (inR next.length) = true → Ev (fun k => impl_IsSequence.l0 k (next.length : Int) next (next.length : Int) ((a + 1 : Nat) : Int) b next out) R) (H2 : r.all (inR next.length) = false → R = false) (d : Nat) : ∀ j : Nat, j + d = r.length → (r.take j).all (inR next.length) = true →
  Ev (fun k => impl_IsSequence.l1 k (next.length : Int) next (next.length : Int) (a : Int) r (r.length : Int) (j : Int) b next out) R := by
 have h1 := hf.1
 induction d with
 | zero =>
  intro j hj ht
  refine ab ?_
  simp only [impl_IsSequence.l1]
  rw [wr1 (show (0 : Int) ≤ (a : Int) by omega) (by omega)]
  rw [List.take_of_length_le (by omega)] at ht
  exact ac (by omega) (H ht)
 | succ d ih =>
  intro j hj ht
  refine ab ?_
  simp only [impl_IsSequence.l1, wr1 (show (0 : Int) ≤ (j : Int) by omega) (by omega)]
  have nope : ¬ (0 ≤ rd r (j : Int) ∧ rd r (j : Int) < (next.length : Int)) → R = false := by
   intro h
   refine H2 ?_
   rw [Bool.eq_false_iff]
   intro hall
   have := aH hall (show j < r.length by omega)
   simp only [inR, decide_eq_true_eq] at this
   exact h this
  refine aa (by omega) (aa (by omega) (aa (by omega) (ai (fun h => ad (nope (by omega)).symm) (fun h => ai (fun h' => ad (nope (by omega)).symm) (fun h' => ih (j + 1) (by omega) ?_)))))
  rw [List.take_succ_eq_append_getElem (by omega), ← ah (by omega), List.all_append, ht]
  simp only [List.all_cons, List.all_nil, inR, decide_eq_true (show 0 ≤ rd r (j : Int) ∧ rd r (j : Int) < (next.length : Int) by omega), Bool.and_self]
theorem dt (b : Int) (next : List (List Int)) (out : List Int) (hb : 2 ≤ b ∧ b ≤ 4) (hn : 1 ≤ next.length ∧ next.length ≤ 16) (ho : out.length = next.length) (hf : aA next) (d : Nat) : ∀ a : Nat, a + d = next.length → (next.take a).all (aE b next.length) = true → (out.take a).all aV = true →
  Ev (fun k => impl_IsSequence.l0 k (next.length : Int) next (next.length : Int) (a : Int) b next out) (ag b next out) := by
 induction d with
 | zero =>
  intro a hi ht hu
  refine ab ?_
  simp only [impl_IsSequence.l0]
  rw [List.take_of_length_le (by omega)] at ht hu
  refine ac (by omega) (ad ?_)
  unfold ag
  rw [ht, hu, decide_eq_true hb, decide_eq_true hn, decide_eq_true ho]; rfl
 | succ d ih =>
  intro a hi ht hu
  refine ab ?_
  simp only [impl_IsSequence.l0]
  have nope1 : aE b next.length (rd_L1 next (a : Int)) = false → ag b next out = false := by
   intro h
   have : next.all (aE b next.length) = false := by
    rw [Bool.eq_false_iff]
    intro hall
    rw [List.all_eq_true.1 hall _ (aj (show a < next.length by omega))] at h
    cases h
   unfold ag
   rw [this]; simp
  have nope2 : aV (rd out (a : Int)) = false → ag b next out = false := by
   intro h
   have : out.all aV = false := by
    rw [Bool.eq_false_iff]
    intro hall
    rw [aH hall (show a < out.length by omega)] at h
    cases h
   unfold ag
   rw [this]; simp
  have hr := hf.2 _ (aj (show a < next.length by omega))
  unfold ao at hr
  have bad : ∀ f : Bool, f = true → ag b next out = false → Ev (fun k => impl_IsSequence.j2 k (next.length : Int) (rd_L1 next (a : Int)) next (next.length : Int) (a : Int) f b next out) (ag b next out) := by
   intro f hf h
   subst hf
   refine ab ?_
   simp only [impl_IsSequence.j2]
   exact aa trivial (ad h.symm)
  refine aa (by omega) (aa (by omega) (aa (by omega) (ai (fun h => aa (by omega) (ai (fun h2 => bad _ rfl (nope2 ?_)) (fun h2 => ?_))) (fun h => bad _ rfl (nope1 ?_)))))
  ·simp only [aV, decide_eq_false (show ¬ (0 ≤ rd out (a : Int) ∧ rd out (a : Int) ≤ 3) by omega)]
  ·by_cases h3 : rd out (a : Int) > 3
   ·refine bad _ (by simpa using h3) (nope2 ?_)
    simp only [aV, decide_eq_false (show ¬ (0 ≤ rd out (a : Int) ∧ rd out (a : Int) ≤ 3) by omega)]
   ·rw [decide_eq_false h3]
    refine ab ?_
    simp only [impl_IsSequence.j2]
    refine ac (by simp) ?_
    refine dg b next out hf a (by omega) _ hr _ (fun hall => ih (a + 1) (by omega) ?_ ?_) (fun hall => nope1 ?_) (rd_L1 next (a : Int)).length 0 (by omega) (by simp)
    ·rw [List.take_succ_eq_append_getElem (by omega), ← aB (by omega), List.all_append, ht]
     simp only [List.all_cons, List.all_nil, aE, hall, decide_eq_true h, Bool.and_self]
    ·rw [List.take_succ_eq_append_getElem (by omega), ← ah (by omega), List.all_append, hu]
     simp only [List.all_cons, List.all_nil, aV, decide_eq_true (show 0 ≤ rd out (a : Int) ∧ rd out (a : Int) ≤ 3 by omega), Bool.and_self]
    ·simp only [aE, hall, Bool.and_false]
  ·simp only [aE, decide_eq_false h, Bool.false_and]
theorem bc (b : Int) (next : List (List Int)) (out : List Int) (h1 : aA next) (h2 : ao out) : Ev (fun k => impl_IsSequence.f k b next out) (ag b next out) := by
 unfold ao at h2
 simp only [impl_IsSequence.f, eF, Option.bind_some]
 have no : ∀ f : Bool, f = true → ag b next out = false → Ev (fun k => impl_IsSequence.j0 k (next.length : Int) f b next out) (ag b next out) := by
  intro f hf h
  subst hf
  refine ab ?_
  simp only [impl_IsSequence.j0]
  exact aa trivial (ad h.symm)
 by_cases hb : 2 ≤ b ∧ b ≤ 4
 ·refine aa (by simpa using hb) (ai (fun h => no _ rfl ?_) (fun h => ai (fun h' => no _ rfl ?_) (fun h' => ?_)))
  ·unfold ag; rw [decide_eq_false (show ¬ (1 ≤ next.length ∧ next.length ≤ 16) by omega)]; simp
  ·unfold ag; rw [decide_eq_false (show ¬ (1 ≤ next.length ∧ next.length ≤ 16) by omega)]; simp
  ·by_cases ho : out.length = next.length
   ·refine ab ?_
    simp only [impl_IsSequence.j0]
    exact ac (by simp [ho]) (dt b next out hb (by omega) ho h1 next.length 0 (by omega) (by simp) (by simp))
   ·refine no _ (by simp; omega) ?_
    unfold ag; rw [decide_eq_false ho]; simp
 ·refine ac (by simpa using hb) (no _ rfl ?_)
  unfold ag; rw [decide_eq_false hb]; simp
theorem eL (b : Bool) : impl_oneIf.f b = some (if b = true then 1 else 0) := by
 unfold impl_oneIf.f
 cases b <;> rfl
theorem b_ (l : List Int) (hn : l.length ≤ 4611686018427387904) (d : Nat) : ∀ (i : Nat) (x : List Int), l.length ≤ 2 * i + 2 * d → 2 * i ≤ l.length + 1 → x.length = l.length →
  (∀ t, t < l.length → x[t]? = if t < i ∨ l.length ≤ t + i then l[l.length - 1 - t]? else l[t]?) →
  Ev (fun k => slices_Reverse_int_int.l0 k x (i : Int) ((l.length : Int) - 1 - i)) l.reverse := by
 induction d with
 | zero =>
  intro i x hd hi hx hh
  refine ab ?_
  simp only [slices_Reverse_int_int.l0]
  refine ac (by omega) (ad ?_)
  apply List.ext_getElem?
  intro t
  by_cases ht : t < l.length
  ·rw [List.getElem?_reverse ht, hh t ht]
   split
   ·rfl
   ·omega
  ·rw [List.getElem?_eq_none (by omega), List.getElem?_eq_none (by simp; omega)]
 | succ d ih =>
  intro i x hd hi hx hh
  by_cases hlt : 2 * i < l.length - 1
  ·refine ab ?_
   simp only [slices_Reverse_int_int.l0]
   refine aa (by omega) (aa (by omega) (aa (by omega) (aa (by omega) (aa (by omega) ?_))))
   obtain ⟨j, hj⟩ : ∃ j : Nat, (l.length : Int) - 1 - i = (j : Int) := ⟨l.length - 1 - i, by omega⟩
   rw [hj, wr1 (by omega) (by omega), wr (n := (j : Int) - 1) (by omega) (by omega), Int.toNat_natCast, Int.toNat_natCast]
   rw [show (j : Int) - 1 = (l.length : Int) - 1 - ((i + 1 : Nat) : Int) by omega]
   refine ih (i + 1) _ (by omega) (by omega) (by simp [hx]) ?_
   intro t ht
   have hij : i < j := by omega
   have hjl : j < l.length := by omega
   have hxi := hh i (by omega)
   have hxj := hh j (by omega)
   rw [if_neg (by omega)] at hxi hxj
   have hri : rd x (i : Int) = l[i] := by rw [eq, List.getD_eq_getElem?_getD, hxi, List.getElem?_eq_getElem (by omega)]; rfl
   have hrj : rd x (j : Int) = l[j] := by rw [eq, List.getD_eq_getElem?_getD, hxj, List.getElem?_eq_getElem (by omega)]; rfl
   rw [hri, hrj, List.getElem?_set, List.length_set, List.getElem?_set]
   by_cases e1 : j = t
   ·subst e1
    rw [if_pos rfl, if_pos (by omega), if_pos (by omega), show l.length - 1 - j = i by omega, List.getElem?_eq_getElem]
   ·rw [if_neg e1]
    by_cases e2 : i = t
    ·subst e2
     rw [if_pos rfl, if_pos (by omega), if_pos (by omega), List.getElem?_eq_getElem (show l.length - 1 - i < l.length by omega)]
     congr 2; omega
    ·rw [if_neg e2, hh t ht]
     by_cases e3 : t < i ∨ l.length ≤ t + i
     ·rw [if_pos e3, if_pos (by omega)]
     ·rw [if_neg e3, if_neg (by omega)]
  ·refine ab ?_
   simp only [slices_Reverse_int_int.l0]
   refine ac (by omega) (ad ?_)
   apply List.ext_getElem?
   intro t
   by_cases ht : t < l.length
   ·rw [List.getElem?_reverse ht, hh t ht]
    split
    ·rfl
    ·congr 1; omega
   ·rw [List.getElem?_eq_none (by omega), List.getElem?_eq_none (by simp; omega)]
theorem bf (l : List Int) (hn : l.length ≤ 4611686018427387904) : Ev (fun k => slices_Reverse_int_int.f k l) l.reverse := by
 simp only [slices_Reverse_int_int.f]
 rw [wr (n := (l.length : Int) - 1) (by omega) (by omega)]
 have := b_ l hn l.length 0 l (by omega) (by omega) rfl (by intro t ht; rw [if_neg (by omega)])
 simpa using this
def bG : Nat → Nat → Nat → List Int
 | 0, _, _ => []
 | f + 1, n, b => if n = 0 then [] else bG f (n / b) b ++ [((n % b : Nat) : Int)]
theorem eh (f : Nat) : ∀ (g n b : Nat), 2 ≤ b → n ≤ f → f ≤ g → bG f n b = bG g n b := by
 induction f with
 | zero =>
  intro g n b hb hn hg
  obtain rfl : n = 0 := by omega
  cases g with
  | zero => rfl
  | succ g => simp [bG]
 | succ f ih =>
  intro g n b hb hn hg
  obtain ⟨g, rfl⟩ : ∃ g', g = g' + 1 := ⟨g - 1, by omega⟩
  simp only [bG]
  by_cases h0 : n = 0
  ·rw [if_pos h0, if_pos h0]
  ·rw [if_neg h0, if_neg h0]
   have : n / b < n := Nat.div_lt_self (by omega) (by omega)
   rw [ih g (n / b) b hb (by omega) (by omega)]
def a_ (n b : Nat) : List Int := bG n n b
theorem bB (n b : Nat) (hb : 2 ≤ b) (h : n ≠ 0) : a_ n b = a_ (n / b) b ++ [((n % b : Nat) : Int)] := by
 unfold a_
 obtain ⟨m, rfl⟩ : ∃ m, n = m + 1 := ⟨n - 1, by omega⟩
 conv => lhs; unfold bG
 rw [if_neg h]
 have : (m + 1) / b < m + 1 := Nat.div_lt_self (by omega) (by omega)
 rw [eh ((m + 1) / b) m ((m + 1) / b) b hb (Nat.le_refl _) (by omega)]
theorem a4 (b : Nat) : a_ 0 b = [] := rfl
theorem dc (b : Nat) (hb : 2 ≤ b) (f : Nat) : ∀ n, n ≤ f → ∀ x ∈ a_ n b, 0 ≤ x ∧ x < (b : Int) := by
 induction f with
 | zero =>
  intro n hn x hx; obtain rfl : n = 0 := by omega
  cases hx
 | succ f ih =>
  intro n hn x hx
  by_cases h0 : n = 0
  ·subst h0; cases hx
  ·rw [bB n b hb h0] at hx
   have : n / b < n := Nat.div_lt_self (by omega) (by omega)
   rcases List.mem_append.1 hx with hx | hx
   ·exact ih (n / b) (by omega) x hx
   ·simp only [List.mem_cons, List.not_mem_nil, or_false] at hx
    have := Nat.mod_lt n (show b > 0 by omega)
    omega
theorem db (b : Nat) (hb : 2 ≤ b) (e : Nat) : ∀ n, n < b ^ e → (a_ n b).length ≤ e := by
 induction e with
 | zero => intro n hn; simp at hn; subst hn; simp [a4]
 | succ e ih =>
  intro n hn
  by_cases h0 : n = 0
  ·subst h0; simp [a4]
  ·rw [bB n b hb h0]
   have : n / b < b ^ e := by
    rw [Nat.div_lt_iff_lt_mul (by omega)]
    rw [Nat.pow_succ] at hn; exact hn
   have := ih _ this
   simp; omega
theorem cD (b : Nat) (hb : 2 ≤ b) (hb2 : b ≤ 4) (f : Nat) : ∀ (n : Nat) (acc : List Int), n ≤ f → n ≤ 4294967296 → acc.length + f ≤ 8589934592 →
  Ev (fun k => impl_digits.l0 k (n : Int) (b : Int) acc) (a_ n b ++ acc.reverse) := by
 induction f with
 | zero =>
  intro n acc hn hn2 ha
  obtain rfl : n = 0 := by omega
  refine ab ?_
  simp only [impl_digits.l0]
  refine ac (by omega) (af (bf acc (by omega)) (ad ?_))
  simp [a4]
 | succ f ih =>
  intro n acc hn hn2 ha
  refine ab ?_
  simp only [impl_digits.l0, c3, bH]
  by_cases h0 : n = 0
  ·subst h0
   refine ac (by omega) (af (bf acc (by omega)) (ad ?_))
   simp [a4]
  ·have hlt : n / b < n := Nat.div_lt_self (by omega) (by omega)
   rw [ct (show n / b ≤ 4611686018427387904 by omega)]
   refine aa (by omega) (ac (by omega) (aa (by omega) (bg (ih (n / b) _ (by omega) (by omega) (by simp; omega)) ?_)))
   rw [bB n b hb h0]; simp
theorem cJ (n b : Nat) (hb : 2 ≤ b) (hb2 : b ≤ 4) (hn : n ≤ 4294967296) : Ev (fun k => impl_digits.f k (n : Int) (b : Int)) (a_ n b) := by
 simp only [impl_digits.f]
 exact bg (cD b hb hb2 n n [] (Nat.le_refl _) hn (by simp; omega)) (by simp)
theorem ae {b : Int} {next : List (List Int)} {out : List Int} (h : ag b next out = true) : (2 ≤ b ∧ b ≤ 4) ∧ (1 ≤ next.length ∧ next.length ≤ 16) ∧ out.length = next.length ∧
  (∀ r ∈ next, (r.length : Int) = b ∧ ∀ x ∈ r, 0 ≤ x ∧ x < (next.length : Int)) ∧ ∀ x ∈ out, 0 ≤ x ∧ x ≤ 3 := by
 unfold ag at h
 simp only [Bool.and_eq_true, decide_eq_true_eq, List.all_eq_true] at h
 obtain ⟨⟨⟨⟨h1, h2⟩, h3⟩, h4⟩, h5⟩ := h
 refine ⟨h1, h2, h3, fun r hr => ?_, fun x hx => by simpa [aV] using h5 x hx⟩
 have := h4 r hr
 simp only [aE, Bool.and_eq_true, decide_eq_true_eq, List.all_eq_true] at this
 exact ⟨this.1, fun x hx => by simpa [inR] using this.2 x hx⟩
theorem bU {b e : Nat} (hb : b ≤ 4) (he : e ≤ 16) : b ^ e ≤ 4294967296 := by
 refine Nat.le_trans (Nat.pow_le_pow_left hb e) (Nat.le_trans (Nat.pow_le_pow_right (by omega) he) ?_)
 decide
theorem cA (b e : Nat) (hb : b ≤ 4) (he : e ≤ 16) (d : Nat) : ∀ i : Nat, i + d = e → Ev (fun k => spec_PowerOf.l0 k (b : Int) (e : Int) ((b ^ i : Nat) : Int) (i : Int)) ((b ^ e : Nat) : Int) := by
 induction d with
 | zero =>
  intro i hi
  refine ab ?_
  simp only [spec_PowerOf.l0]
  exact ac (by omega) (ad (by rw [show i = e by omega]))
 | succ d ih =>
  intro i hi
  have := ih (i + 1) (by omega)
  have h1 := bU hb (show i + 1 ≤ 16 by omega)
  refine ab ?_
  simp only [spec_PowerOf.l0]
  rw [← Int.natCast_mul, ← Nat.pow_succ, ct (show b ^ (i + 1) ≤ 4611686018427387904 by omega), wr1 (by omega) (by omega)]
  exact aa (by omega) this
theorem aW (b : Nat) (hb1 : 2 ≤ b) (hb : b ≤ 4) : Ev (fun k => spec_PowerOf.f k (b : Int) 16) ((b ^ 16 : Nat) : Int) := by
 simp only [spec_PowerOf.f, a3, Option.bind_some]
 refine aa (by simp; omega) (ab ?_)
 simp only [spec_PowerOf.j0]
 refine ac (by decide) ?_
 exact cA b 16 hb (Nat.le_refl _) 16 0 (by omega)
theorem cr (b : Nat) (hb : 2 ≤ b) (hb2 : b ≤ 4) (f : Nat) : ∀ (n : Nat) (acc : List Int), n ≤ f → n ≤ 4294967296 → acc.length + f ≤ 8589934592 →
  Ev (fun k => spec_DigitsOf.l0 k (n : Int) (b : Int) acc) (a_ n b ++ acc) := by
 induction f with
 | zero =>
  intro n acc hn hn2 ha
  obtain rfl : n = 0 := by omega
  refine ab ?_
  simp only [spec_DigitsOf.l0]
  exact ac (by omega) (ad (by simp [a4]))
 | succ f ih =>
  intro n acc hn hn2 ha
  refine ab ?_
  simp only [spec_DigitsOf.l0, c3, bH, Option.bind_some]
  by_cases h0 : n = 0
  ·subst h0
   exact ac (by omega) (ad (by simp [a4]))
  ·have hlt : n / b < n := Nat.div_lt_self (by omega) (by omega)
   rw [ct (show n / b ≤ 4611686018427387904 by omega)]
   refine aa (by omega) (ac (by omega) (aa (by simp only [List.length_cons, List.length_nil]; omega) (bg (ih (n / b) _ (by omega) (by omega) (by simp; omega)) ?_)))
   rw [bB n b hb h0]; simp
theorem cl (n b : Nat) (hb : 2 ≤ b) (hb2 : b ≤ 4) (hn : n < b ^ 16) : Ev (fun k => spec_DigitsOf.f k (n : Int) (b : Int)) (a_ n b) := by
 have hp := bU hb2 (show 16 ≤ 16 by omega)
 simp only [spec_DigitsOf.f, a3, Option.bind_some]
 refine ac (by omega) (aa (by simp; omega) (af (aW b hb hb2) ?_))
 rw [decide_eq_false (by omega)]
 refine ab ?_
 simp only [spec_DigitsOf.j0]
 exact ac (by simp) (bg (cr b hb hb2 n n [] (Nat.le_refl _) (by omega) (by simp; omega)) (by simp))
theorem cn (l : List Int) (h : l.length ≤ 1000000) : slices_Clone_int_int.f l = some l := by
 simp only [slices_Clone_int_int.f, Option.bind_some, List.nil_append]
 rw [if_pos (by simp only [List.length_nil]; omega)]
def mkV (n : Nat) (f : Nat → Int) : List Int := (List.range n).map f
theorem am (n : Nat) (f : Nat → Int) : (mkV n f).length = n := by simp [mkV]
theorem de (n : Nat) (f : Nat → Int) (i : Nat) (h : i < n) : rd (mkV n f) (i : Int) = f i := by
 rw [ah (by rw [am]; exact h)]; simp [mkV]
theorem bY (n : Nat) (f : Nat → Int) (i : Nat) (v : Int) : (mkV n f).set i v = mkV n (fun t => if t = i then v else f t) := by
 apply List.ext_getElem?
 intro t
 rw [List.getElem?_set]
 by_cases ht : t < n
 ·have e : ∀ g : Nat → Int, (mkV n g)[t]? = some (g t) := by intro g; simp [mkV, ht]
  rw [e, e]
  by_cases h : i = t
  ·subst h
   rw [if_pos rfl, if_pos (by rw [am]; exact ht), if_pos rfl]
  ·rw [if_neg h, if_neg (fun h' => h h'.symm)]
 ·rw [List.getElem?_eq_none (by rw [am]; omega), List.getElem?_eq_none (by rw [am]; omega)]
  split
  ·rw [if_neg (by rw [am]; omega)]
  ·rfl
theorem aq (n : Nat) (f g : Nat → Int) (h : ∀ t, t < n → f t = g t) : mkV n f = mkV n g := by
 unfold mkV
 exact List.map_congr_left (fun t ht => h t (List.mem_range.1 ht))
theorem a9 (n : Nat) : List.replicate n (0 : Int) = mkV n (fun _ => 0) := by
 unfold mkV
 rw [List.map_const', List.length_range]
def aF (v : List Int) (M : List (List Int)) (k : Nat) : Nat → Int
 | 0 => 0
 | j + 1 => wrap64 (aF v M k j + wrap64 (rd v (j : Int) * rd (rd_L1 M (j : Int)) (k : Int)))
def dD (M : List (List Int)) (n : Nat) (v : List Int) : List Int := mkV n (fun k => aF v M k n)
def bO (v c : List Int) : Nat → Int
 | 0 => 0
 | j + 1 => wrap64 (bO v c j + wrap64 (rd v (j : Int) * rd c (j : Int)))
def evV (mats : List (List (List Int))) (n : Nat) (v : List Int) : List Int → List Int
 | [] => v
 | d :: l => evV mats n (dD (rd_L2 mats d) n v) l
theorem ap {b : Int} {row : List Int} {mats : List (List (List Int))} {col : List Int} (h : aw b row mats col = true) : (2 ≤ b ∧ b ≤ 4) ∧ (1 ≤ row.length ∧ row.length ≤ 40) ∧ col.length = row.length ∧ (mats.length : Int) = b ∧
  ∀ m ∈ mats, m.length = row.length ∧ ∀ r ∈ m, r.length = row.length := by
 unfold aw at h
 simp only [Bool.and_eq_true, decide_eq_true_eq, List.all_eq_true] at h
 obtain ⟨⟨⟨⟨⟨h1, h2⟩, h3⟩, h4⟩, h5⟩, h6⟩ := h
 simp only [aI, Bool.and_eq_true, decide_eq_true_eq] at h3 h4
 refine ⟨h1, h2, h4.1, h5, fun m hm => ?_⟩
 have := h6 m hm
 simp only [bi, Bool.and_eq_true, decide_eq_true_eq, List.all_eq_true] at this
 refine ⟨this.1, fun r hr => ?_⟩
 have := this.2 r hr
 simp only [aI, Bool.and_eq_true, decide_eq_true_eq] at this
 exact this.1
section
variable {b : Int} {row : List Int} {mats : List (List (List Int))} {col : List Int}
theorem cF (h : aw b row mats col = true) {d : Int} (hd : 0 ≤ d ∧ d < b) : (rd_L2 mats d).length = row.length ∧ d < (mats.length : Int) ∧ ∀ j : Nat, j < row.length → (rd_L1 (rd_L2 mats d) (j : Int)).length = row.length := by
 obtain ⟨h1, h2, h3, h4, h5⟩ := ap h
 obtain ⟨e, rfl⟩ := Int.eq_ofNat_of_zero_le hd.1
 have hm := h5 _ (cS (show e < mats.length by omega))
 exact ⟨hm.1, by omega, fun j hj => hm.2 _ (aj (by omega))⟩
theorem dX (h : aw b row mats col = true) (d : Int) (hd : 0 ≤ d ∧ d < b) (v ds : List Int) (a i : Nat) (hv : v.length = row.length) (hi : i < row.length) (R : Int)
  (H : Ev (fun k => impl_Linear_evaluate.l1 k d (mkV row.length (fun t => aF v (rd_L2 mats d) t (i + 1))) ds (ds.length : Int) (a : Int) v (v.length : Int) ((i + 1 : Nat) : Int) b row mats col) R) (e : Nat) : ∀ j : Nat, j + e = row.length →
  Ev (fun k => impl_Linear_evaluate.l2 k d (mkV row.length (fun t => if t < j then aF v (rd_L2 mats d) t (i + 1) else aF v (rd_L2 mats d) t i)) (rd v (i : Int)) ds (ds.length : Int) (a : Int) v (v.length : Int) (i : Int) (rd_L1 (rd_L2 mats d) (i : Int)) ((rd_L1 (rd_L2 mats d) (i : Int)).length : Int) (j : Int) b row mats col) R := by
 obtain ⟨l1, l2, l3⟩ := cF h hd
 have l4 := l3 i hi
 have hb := (ap h).2.1
 induction e with
 | zero =>
  intro j hj
  refine ab ?_
  simp only [impl_Linear_evaluate.l2]
  rw [wr1 (show (0 : Int) ≤ (i : Int) by omega) (by omega)]
  refine ac (by omega) ?_
  rw [aq row.length _ (fun t => aF v (rd_L2 mats d) t (i + 1)) (fun t ht => if_pos (by omega))]
  exact H
 | succ e ih =>
  intro j hj
  refine ab ?_
  simp only [impl_Linear_evaluate.l2, am, wr1 (show (0 : Int) ≤ (j : Int) by omega) (by omega)]
  refine aa (by omega) (aa (by omega) (aa (by omega) (aa (by omega) ?_)))
  have := ih (j + 1) (by omega)
  rw [Int.toNat_natCast, bY, de _ _ j (by omega), if_neg (by omega)]
  rw [aq row.length _ (fun t => if t < j + 1 then aF v (rd_L2 mats d) t (i + 1) else aF v (rd_L2 mats d) t i) ?_]
  ·exact this
  ·intro t ht
   by_cases h1 : t = j
   ·subst h1
    rw [if_pos rfl, if_pos (by omega)]; rfl
   ·rw [if_neg h1]
    by_cases h2 : t < j
    ·rw [if_pos h2, if_pos (by omega)]
    ·rw [if_neg h2, if_neg (by omega)]
theorem dY (h : aw b row mats col = true) (d : Int) (hd : 0 ≤ d ∧ d < b) (v ds : List Int) (a : Nat) (ha : a < 1000) (hv : v.length = row.length) (R : Int)
  (H : Ev (fun k => impl_Linear_evaluate.l0 k (dD (rd_L2 mats d) row.length v) ds (ds.length : Int) ((a + 1 : Nat) : Int) b row mats col) R) (e : Nat) : ∀ i : Nat, i + e = row.length →
  Ev (fun k => impl_Linear_evaluate.l1 k d (mkV row.length (fun t => aF v (rd_L2 mats d) t i)) ds (ds.length : Int) (a : Int) v (v.length : Int) (i : Int) b row mats col) R := by
 obtain ⟨l1, l2, l3⟩ := cF h hd
 have hb := (ap h).2.1
 induction e with
 | zero =>
  intro i hi
  refine ab ?_
  simp only [impl_Linear_evaluate.l1]
  rw [wr1 (show (0 : Int) ≤ (a : Int) by omega) (by omega)]
  refine ac (by omega) ?_
  rw [show i = row.length by omega]
  exact H
 | succ e ih =>
  intro i hi
  refine ab ?_
  simp only [impl_Linear_evaluate.l1]
  refine aa (by omega) (aa (by omega) (aa (by omega) (aa hd.1 (aa l2 (aa (by omega) ?_)))))
  have := dX h d hd v ds a i hv (by omega) R (ih (i + 1) (by omega)) row.length 0 (by omega)
  rw [aq row.length (fun t => if t < 0 then aF v (rd_L2 mats d) t (i + 1) else aF v (rd_L2 mats d) t i) (fun t => aF v (rd_L2 mats d) t i) (fun t ht => if_neg (by omega))] at this
  exact this
theorem d4 (h : aw b row mats col = true) (v : List Int) (hv : v.length = row.length) (e : Nat) : ∀ j : Nat, j + e = row.length → Ev (fun k => impl_Linear_evaluate.l3 k (bO v col j) v (v.length : Int) (j : Int) b row mats col) (bO v col row.length) := by
 obtain ⟨_, hb, hc, _, _⟩ := ap h
 induction e with
 | zero =>
  intro j hj
  refine ab ?_
  simp only [impl_Linear_evaluate.l3]
  exact ac (by omega) (ad (by rw [show j = row.length by omega]))
 | succ e ih =>
  intro j hj
  refine ab ?_
  simp only [impl_Linear_evaluate.l3, wr1 (show (0 : Int) ≤ (j : Int) by omega) (by omega)]
  exact aa (by omega) (aa (by omega) (aa (by omega) (aa (by omega) (ih (j + 1) (by omega)))))
theorem dF (h : aw b row mats col = true) (ds : List Int) (hl : ds.length ≤ 100) (hd : ∀ x ∈ ds, 0 ≤ x ∧ x < b) (e : Nat) : ∀ (a : Nat) (v : List Int), a + e = ds.length → v.length = row.length →
  Ev (fun k => impl_Linear_evaluate.l0 k v ds (ds.length : Int) (a : Int) b row mats col) (bO (evV mats row.length v (ds.drop a)) col row.length) := by
 have hb := (ap h).2.1
 induction e with
 | zero =>
  intro a v ha hv
  refine ab ?_
  simp only [impl_Linear_evaluate.l0]
  rw [List.drop_of_length_le (by omega)]
  exact ac (by omega) (d4 h v hv row.length 0 (by omega))
 | succ e ih =>
  intro a v ha hv
  refine ab ?_
  simp only [impl_Linear_evaluate.l0]
  rw [b2 (show a < ds.length by omega), Int.toNat_natCast]
  refine aa (by omega) (aa (by omega) (aa (by omega) (aa (by omega) (aa (by omega) ?_))))
  rw [hv, a9]
  have := dY h (rd ds (a : Int)) (hd _ (al (by omega))) v ds a (by omega) hv _ (ih (a + 1) _ (by omega) (am _ _)) row.length 0 (by omega)
  rw [hv] at this
  exact this
theorem d2 (h : aw b row mats col = true) (v ds : List Int) (a : Nat) (ha : a < ds.length) (hd : 0 ≤ rd ds (a : Int) ∧ rd ds (a : Int) < b) (hl : ds.length ≤ 100) (hv : v.length = row.length) (t0 : Nat) (ht0 : t0 < row.length) (R : Int)
  (H : Ev (fun k => spec_EvaluateLinear.l1 k v ds (a : Int) (mkV row.length (fun t => if t < t0 + 1 then aF v (rd_L2 mats (rd ds (a : Int))) t row.length else 0)) ((t0 + 1 : Nat) : Int) b row mats col) R) (e : Nat) : ∀ j : Nat, j + e = row.length →
  Ev (fun k => spec_EvaluateLinear.l2 k v ds (a : Int) (mkV row.length (fun t => if t < t0 then aF v (rd_L2 mats (rd ds (a : Int))) t row.length else if t = t0 then aF v (rd_L2 mats (rd ds (a : Int))) t j else 0)) (t0 : Int) (j : Int) b row mats col) R := by
 obtain ⟨l1, l2, l3⟩ := cF h hd
 have hb := (ap h).2.1
 induction e with
 | zero =>
  intro j hj
  refine ab ?_
  simp only [spec_EvaluateLinear.l2]
  rw [wr1 (show (0 : Int) ≤ (t0 : Int) by omega) (by omega)]
  refine ac (by omega) ?_
  rw [aq row.length _ (fun t => if t < t0 + 1 then aF v (rd_L2 mats (rd ds (a : Int))) t row.length else 0) ?_]
  ·exact H
  ·intro t ht
   by_cases h1 : t < t0
   ·rw [if_pos h1, if_pos (by omega)]
   ·rw [if_neg h1]
    by_cases h2 : t = t0
    ·rw [if_pos h2, if_pos (by omega), show j = row.length by omega]
    ·rw [if_neg h2, if_neg (by omega)]
 | succ e ih =>
  intro j hj
  have l4 := l3 j (by omega)
  refine ab ?_
  simp only [spec_EvaluateLinear.l2, am, wr1 (show (0 : Int) ≤ (j : Int) by omega) (by omega)]
  refine aa (by omega) (aa (by omega) (aa (by omega) (aa (by omega) (aa (by omega) (aa (by omega) (aa hd.1 (aa l2 (aa (by omega) (aa (by omega) ?_)))))))))
  have := ih (j + 1) (by omega)
  rw [Int.toNat_natCast, bY, de _ _ t0 ht0, if_neg (by omega), if_pos rfl]
  rw [aq row.length _ (fun t => if t < t0 then aF v (rd_L2 mats (rd ds (a : Int))) t row.length else if t = t0 then aF v (rd_L2 mats (rd ds (a : Int))) t (j + 1) else 0) ?_]
  ·exact this
  ·intro t ht
   by_cases h1 : t = t0
   ·subst h1
    rw [if_pos rfl, if_neg (by omega), if_pos rfl]; rfl
   ·rw [if_neg h1]
    by_cases h2 : t < t0
    ·rw [if_pos h2, if_pos h2]
    ·rw [if_neg h2, if_neg h1, if_neg h2, if_neg h1]
theorem dS (h : aw b row mats col = true) (v ds : List Int) (a : Nat) (ha : a < ds.length) (hd : 0 ≤ rd ds (a : Int) ∧ rd ds (a : Int) < b) (hl : ds.length ≤ 100) (hv : v.length = row.length) (R : Int)
  (H : Ev (fun k => spec_EvaluateLinear.l0 k (dD (rd_L2 mats (rd ds (a : Int))) row.length v) ds ((a + 1 : Nat) : Int) b row mats col) R) (e : Nat) : ∀ t0 : Nat, t0 + e = row.length →
  Ev (fun k => spec_EvaluateLinear.l1 k v ds (a : Int) (mkV row.length (fun t => if t < t0 then aF v (rd_L2 mats (rd ds (a : Int))) t row.length else 0)) (t0 : Int) b row mats col) R := by
 have hb := (ap h).2.1
 induction e with
 | zero =>
  intro t0 ht
  refine ab ?_
  simp only [spec_EvaluateLinear.l1]
  rw [wr1 (show (0 : Int) ≤ (a : Int) by omega) (by omega)]
  refine ac (by omega) ?_
  rw [aq row.length _ (fun t => aF v (rd_L2 mats (rd ds (a : Int))) t row.length) (fun t ht => if_pos (by omega))]
  exact H
 | succ e ih =>
  intro t0 ht
  refine ab ?_
  simp only [spec_EvaluateLinear.l1]
  refine aa (by omega) ?_
  have := d2 h v ds a ha hd hl hv t0 (by omega) R (ih (t0 + 1) (by omega)) row.length 0 (by omega)
  rw [aq row.length (fun t => if t < t0 then aF v (rd_L2 mats (rd ds (a : Int))) t row.length else if t = t0 then aF v (rd_L2 mats (rd ds (a : Int))) t 0 else 0) (fun t => if t < t0 then aF v (rd_L2 mats (rd ds (a : Int))) t row.length else 0) ?_] at this
  ·exact this
  ·intro t ht
   by_cases h1 : t < t0
   ·rw [if_pos h1, if_pos h1]
   ·rw [if_neg h1, if_neg h1]
    split
    ·rfl
    ·rfl
theorem d7 (h : aw b row mats col = true) (v : List Int) (hv : v.length = row.length) (e : Nat) : ∀ j : Nat, j + e = row.length → Ev (fun k => spec_EvaluateLinear.l3 k v (bO v col j) (j : Int) b row mats col) (bO v col row.length) := by
 obtain ⟨_, hb, hc, _, _⟩ := ap h
 induction e with
 | zero =>
  intro j hj
  refine ab ?_
  simp only [spec_EvaluateLinear.l3]
  exact ac (by omega) (ad (by rw [show j = row.length by omega]))
 | succ e ih =>
  intro j hj
  refine ab ?_
  simp only [spec_EvaluateLinear.l3, wr1 (show (0 : Int) ≤ (j : Int) by omega) (by omega)]
  exact aa (by omega) (aa (by omega) (aa (by omega) (ih (j + 1) (by omega))))
theorem d8 (h : aw b row mats col = true) (ds : List Int) (hl : ds.length ≤ 100) (hd : ∀ x ∈ ds, 0 ≤ x ∧ x < b) (e : Nat) : ∀ (a : Nat) (v : List Int), a + e = ds.length → v.length = row.length →
  Ev (fun k => spec_EvaluateLinear.l0 k v ds (a : Int) b row mats col) (bO (evV mats row.length v (ds.drop a)) col row.length) := by
 have hb := (ap h).2.1
 induction e with
 | zero =>
  intro a v ha hv
  refine ab ?_
  simp only [spec_EvaluateLinear.l0]
  rw [List.drop_of_length_le (by omega)]
  exact ac (by omega) (d7 h v hv row.length 0 (by omega))
 | succ e ih =>
  intro a v ha hv
  refine ab ?_
  simp only [spec_EvaluateLinear.l0]
  rw [b2 (show a < ds.length by omega), Int.toNat_natCast]
  refine aa (by omega) (aa (by omega) (aa (by omega) ?_))
  rw [hv, a9]
  have := dS h v ds a (by omega) (hd _ (al (by omega))) hl hv _ (ih (a + 1) _ (by omega) (am _ _)) row.length 0 (by omega)
  rw [aq row.length (fun t => if t < 0 then aF v (rd_L2 mats (rd ds (a : Int))) t row.length else 0) (fun _ => 0) (fun t ht => if_neg (by omega))] at this
  exact this
end
def bz (b : Int) (row : List Int) (mats : List (List (List Int))) (col : List Int) (n : Int) : Int :=
 if aw b row mats col = true ∧ 0 ≤ n ∧ n < ((b.toNat ^ 16 : Nat) : Int) then bO (evV mats row.length row (a_ n.toNat b.toNat)) col row.length else 0
theorem c1 (b e : Nat) (hb : b ≤ 4) (he : e ≤ 16) (d : Nat) : ∀ i : Nat, i + d = e → Ev (fun k => impl_power.l0 k (b : Int) ((b ^ i : Nat) : Int) (e : Int) (i : Int)) ((b ^ e : Nat) : Int) := by
 induction d with
 | zero =>
  intro i hi
  refine ab ?_
  simp only [impl_power.l0]
  exact ac (by omega) (ad (by rw [show i = e by omega]))
 | succ d ih =>
  intro i hi
  have := ih (i + 1) (by omega)
  have h1 := bU hb (show i + 1 ≤ 16 by omega)
  refine ab ?_
  simp only [impl_power.l0]
  rw [← Int.natCast_mul, ← Nat.pow_succ, ct (show b ^ (i + 1) ≤ 4611686018427387904 by omega), wr1 (by omega) (by omega)]
  exact aa (by omega) this
theorem cp (n : Int) (b : Nat) (hb : b ≤ 4) : Ev (fun k => impl_isNumber.f k n (b : Int)) (decide (0 ≤ n ∧ n < ((b ^ 16 : Nat) : Int))) := by
 simp only [impl_isNumber.f, impl_power.f]
 refine ai (fun h => af (c1 b 16 hb (Nat.le_refl _) 16 0 (by omega)) (ad ?_)) (fun h => ad ?_)
 ·rw [Bool.eq_iff_iff]; simp only [decide_eq_true_eq]; omega
 ·rw [decide_eq_false (by omega)]
theorem bs (b : Int) (row : List Int) (mats : List (List (List Int))) (col : List Int) (n : Int) (h1 : ao row) (h2 : cE mats) (h3 : ao col) : Ev (fun k => spec_EvaluateLinear.f k b row mats col n) (bz b row mats col n) := by
 simp only [spec_EvaluateLinear.f]
 have no : ∀ f : Bool, f = true → ¬ (aw b row mats col = true ∧ 0 ≤ n ∧ n < ((b.toNat ^ 16 : Nat) : Int)) → Ev (fun k => spec_EvaluateLinear.j0 k n f b row mats col) (bz b row mats col n) := by
  intro f hf h
  subst hf
  refine ab ?_
  simp only [spec_EvaluateLinear.j0]
  exact aa trivial (ad (by unfold bz; rw [if_neg h]))
 refine af (ck b row mats col h1 h2 h3) (ai (fun h => ?_) (fun h => no _ rfl (fun h' => h h'.1)))
 obtain ⟨g1, g2, g3, g4, g5⟩ := ap h
 obtain ⟨c, rfl⟩ := Int.eq_ofNat_of_zero_le (show 0 ≤ b by omega)
 refine ai (fun h0 => no _ rfl (by omega)) (fun h0 => af (aW c (by omega) (by omega)) ?_)
 by_cases hn : n ≥ ((c ^ 16 : Nat) : Int)
 ·refine no _ (by simpa using hn) (fun h' => ?_)
  have := h'.2.2
  rw [Int.toNat_natCast] at this
  omega
 ·rw [decide_eq_false hn]
  refine ab ?_
  simp only [spec_EvaluateLinear.j0, Option.bind_some, List.nil_append]
  unfold bz
  rw [Int.toNat_natCast, if_pos ⟨h, by omega, by omega⟩]
  obtain ⟨m, rfl⟩ := Int.eq_ofNat_of_zero_le (show 0 ≤ n by omega)
  have hp := bU (show c ≤ 4 by omega) (show 16 ≤ 16 by omega)
  have hm := dc c (by omega) m m (Nat.le_refl _)
  have hl := db c (by omega) 16 m (by omega)
  refine ac (by simp) (aa (by simp only [List.length_nil]; omega) (af (cl m c (by omega) (by omega) (by omega)) ?_))
  exact d8 h _ (by omega) hm (a_ m c).length 0 row (by omega) rfl
namespace Numb
variable {α β : Type} [DecidableEq α] [DecidableEq β]
def find (key : α) : List α → Nat → Option Nat
 | [], _ => none
 | x :: xs, n => if x = key then some n else find key xs (n + 1)
def go : List α → List α → List Nat
 | [], _ => []
 | k :: ks, seen => match find k seen 0 with
  | some i => i :: go ks seen
  | none => seen.length :: go ks (seen ++ [k])
def fin : List α → List α → List α
 | [], seen => seen
 | k :: ks, seen => match find k seen 0 with
  | some _ => fin ks seen
  | none => fin ks (seen ++ [k])
def num (ks : List α) : List Nat := go ks []
def many (ks : List α) : Nat := (fin ks []).length
theorem find_none {key : α} : ∀ {l : List α} {n}, find key l n = none ↔ key ∉ l
 | [], n => by simp [find]
 | x :: xs, n => by
  unfold find; split
  ·rename_i h; simp [h]
  ·rename_i h; rw [find_none]; simp; intro _ e; exact h e.symm
theorem find_some {key : α} : ∀ {l : List α} {n i}, find key l n = some i → n ≤ i ∧ l[i - n]? = some key ∧ ∀ j, j < i - n → l[j]? ≠ some key
 | [], n, i, h => by simp [find] at h
 | x :: xs, n, i, h => by
  unfold find at h; split at h
  ·rename_i e; cases h; simp [e]
  ·rename_i e
   obtain ⟨h1, h2, h3⟩ := find_some h
   refine ⟨by omega, ?_, fun j hj => ?_⟩
   ·rw [show i - n = (i - (n + 1)) + 1 from by omega]; simpa using h2
   ·cases j with
    | zero => simpa using e
    | succ j => simpa using h3 j (by omega)
theorem find_at {key : α} {l : List α} (hn : l.Nodup) {i : Nat} (h : l[i]? = some key) : find key l 0 = some i := by
 cases e : find key l 0 with
 | none => rw [find_none] at e; exact absurd (List.mem_of_getElem? h) e
 | some j =>
  obtain ⟨-, h2, -⟩ := find_some e
  simp only [Nat.sub_zero] at h2
  obtain ⟨hi, e1⟩ := List.getElem?_eq_some_iff.1 h
  obtain ⟨hj, e2⟩ := List.getElem?_eq_some_iff.1 h2
  have := (List.getElem_inj hn).1 (e1.trans e2.symm)
  rw [this]
theorem cX : ∀ {ks seen : List α}, (go ks seen).length = ks.length
 | [], seen => rfl
 | k :: ks, seen => by
  unfold go; split <;> simp [cX]
theorem fin_nodup : ∀ {ks seen : List α}, seen.Nodup → (fin ks seen).Nodup
 | [], seen, h => h
 | k :: ks, seen, h => by
  unfold fin; split
  ·exact fin_nodup h
  ·rename_i e
   exact fin_nodup (by rw [List.nodup_append]; refine ⟨h, by simp, fun a ha b hb => ?_⟩; simp at hb; subst hb; rintro rfl; exact (find_none.1 e) ha)
theorem fin_mem : ∀ {ks seen : List α} {x : α}, x ∈ fin ks seen ↔ x ∈ seen ∨ x ∈ ks
 | [], seen, x => by simp [fin]
 | k :: ks, seen, x => by
  unfold fin; split
  ·rename_i i e
   rw [fin_mem]
   have := find_some e
   have hk : k ∈ seen := List.mem_of_getElem? this.2.1
   simp; constructor
   ·rintro (h | h); exact .inl h; exact .inr (.inr h)
   ·rintro (h | rfl | h); exact .inl h; exact .inl hk; exact .inr h
  ·rw [fin_mem]; simp [or_assoc]
theorem bh : ∀ {ks seen : List α} {i : Nat} {x : α}, seen[i]? = some x → (fin ks seen)[i]? = some x
 | [], seen, i, x, h => h
 | k :: ks, seen, i, x, h => by
  unfold fin; split
  ·exact bh h
  ·exact bh (by rw [List.getElem?_append_left (List.getElem?_eq_some_iff.1 h).1]; exact h)
theorem ee : ∀ {ks seen : List α}, seen.Nodup → go ks seen = ks.map fun k => (find k (fin ks seen) 0).getD 0
 | [], seen, _ => rfl
 | k :: ks, seen, h => by
  unfold go fin
  split
  ·rename_i i e
   have h2 := (find_some e).2.1
   simp only [Nat.sub_zero] at h2
   simp only [List.map_cons]
   rw [ee h, find_at (fin_nodup h) (bh h2)]; rfl
  ·rename_i e
   have h' : (seen ++ [k]).Nodup := by
    rw [List.nodup_append]; refine ⟨h, by simp, fun a ha b hb => ?_⟩; simp at hb; subst hb; rintro rfl; exact (find_none.1 e) ha
   simp only [List.map_cons]
   rw [ee h', find_at (fin_nodup h') (bh (i := seen.length) (by simp))]; rfl
theorem num_eq {ks : List α} : num ks = ks.map fun k => (find k (fin ks []) 0).getD 0 := ee List.nodup_nil
theorem find_lt {ks : List α} {k : α} (h : k ∈ ks) : ∃ i, find k (fin ks []) 0 = some i ∧ i < many ks := by
 have hm : k ∈ fin ks [] := fin_mem.2 (.inr h)
 cases e : find k (fin ks []) 0 with
 | none => exact absurd hm (find_none.1 e)
 | some i => exact ⟨i, rfl, (List.getElem?_eq_some_iff.1 ((find_some e).2.1)).1⟩
theorem dB {ks : List α} {a b : α} (ha : a ∈ ks) (hb : b ∈ ks) (h : (find a (fin ks []) 0).getD 0 = (find b (fin ks []) 0).getD 0) : a = b := by
 obtain ⟨i, e1, -⟩ := find_lt ha
 obtain ⟨j, e2, -⟩ := find_lt hb
 rw [e1, e2] at h; simp at h; subst h
 have h1 := (find_some e1).2.1
 have h2 := (find_some e2).2.1
 exact Option.some.inj (h1.symm.trans h2)
theorem eH {ks : List α} {i j : Nat} (hi : i < ks.length) (hj : j < ks.length) (h : (num ks)[i]? = (num ks)[j]?) : ks[i] = ks[j] := by
 rw [num_eq] at h; simp [hi, hj] at h
 exact dB (by simp) (by simp) h
theorem b5 : ∀ (zs sn : List (α × β)), (∀ p ∈ sn ++ zs, ∀ q ∈ sn ++ zs, (p.1 = q.1 ↔ p.2 = q.2)) → go (zs.map (·.1)) (sn.map (·.1)) = go (zs.map (·.2)) (sn.map (·.2)) ∧ (fin (zs.map (·.1)) (sn.map (·.1))).length = (fin (zs.map (·.2)) (sn.map (·.2))).length
 | [], sn, _ => by simp [go, fin]
 | z :: zs, sn, h => by
  have hf : ∀ (l : List (α × β)) (n : Nat), (∀ p ∈ l, p ∈ sn) → find z.1 (l.map (·.1)) n = find z.2 (l.map (·.2)) n := by
   intro l
   induction l with
   | nil => intro n _; rfl
   | cons p l ih =>
    intro n hl
    simp only [List.map_cons, find]
    have := h p (by simp [hl p (by simp)]) z (by simp)
    by_cases e : p.1 = z.1
    ·rw [if_pos e, if_pos (this.1 e)]
    ·rw [if_neg e, if_neg (fun x => e (this.2 x))]; exact ih _ (fun q hq => hl q (by simp [hq]))
  have h1 := b5 zs sn (fun p hp q hq => h p (by simp at hp ⊢; grind) q (by simp at hq ⊢; grind))
  have h2 := b5 zs (sn ++ [z]) (fun p hp q hq => h p (by simp at hp ⊢; grind) q (by simp at hq ⊢; grind))
  simp only [List.map_cons, go, fin]
  rw [hf sn 0 (fun _ hp => hp)]
  cases find z.2 (sn.map (·.2)) 0 with
  | some i => exact ⟨by simp [h1.1], h1.2⟩
  | none => simp only [List.map_append, List.map_cons, List.map_nil] at h2; exact ⟨by simp [h2.1], h2.2⟩
theorem nodup_le {α : Type} [DecidableEq α] : ∀ {l m : List α}, l.Nodup → (∀ x ∈ l, x ∈ m) → l.length ≤ m.length
 | [], m, _, _ => by simp
 | x :: l, m, hn, h => by
  have hx := h x (by simp)
  have h1 := List.nodup_cons.1 hn
  have := nodup_le (l := l) (m := m.erase x) h1.2 (fun y hy => (List.mem_erase_of_ne (fun (e : y = x) => h1.1 (e ▸ hy))).2 (h y (by simp [hy])))
  rw [List.length_erase_of_mem hx] at this
  have := List.length_pos_of_mem hx
  simp; omega
theorem c5 {zs : List (α × β)} (hr : ∀ p ∈ zs, ∀ q ∈ zs, p.2 = q.2 → p.1 = q.1) (hm : many (zs.map (·.2)) ≤ many (zs.map (·.1))) : ∀ p ∈ zs, ∀ q ∈ zs, (p.1 = q.1 ↔ p.2 = q.2) := by
 intro p hp q hq
 refine ⟨fun e => ?_, hr p hp q hq⟩
 apply Classical.byContradiction
 intro hne
 let f : β → α := fun b => ((zs.find? (fun z => decide (z.2 = b))).map (·.1)).getD p.1
 have hf : ∀ z ∈ zs, f z.2 = z.1 := by
  intro z hz
  show ((zs.find? (fun y => decide (y.2 = z.2))).map (·.1)).getD p.1 = z.1
  cases h : zs.find? (fun y => decide (y.2 = z.2)) with
  | none => have := List.find?_eq_none.1 h z hz; simp at this
  | some y =>
   have h1 := List.find?_some h
   have h2 := List.mem_of_find?_eq_some h
   simp at h1
   exact hr y h2 z hz h1
 have hq2 : q.2 ∈ fin (zs.map (·.2)) [] := fin_mem.2 (.inr (List.mem_map.2 ⟨q, hq, rfl⟩))
 have key := nodup_le (l := fin (zs.map (·.1)) []) (m := ((fin (zs.map (·.2)) []).erase q.2).map f) (fin_nodup List.nodup_nil) (by
  intro a ha
  rcases fin_mem.1 ha with h | h
  ·simp at h
  ·obtain ⟨z, hz, rfl⟩ := List.mem_map.1 h
   by_cases e2 : z.2 = q.2
   ·refine List.mem_map.2 ⟨p.2, (List.mem_erase_of_ne hne).2 (fin_mem.2 (.inr (List.mem_map.2 ⟨p, hp, rfl⟩))), ?_⟩
    rw [hf p hp, e]; exact hr q hq z hz e2.symm
   ·exact List.mem_map.2 ⟨z.2, (List.mem_erase_of_ne e2).2 (fin_mem.2 (.inr (List.mem_map.2 ⟨z, hz, rfl⟩))), hf z hz⟩)
 rw [List.length_map, List.length_erase_of_mem hq2] at key
 have := List.length_pos_of_mem hq2
 unfold many at hm
 omega
theorem num_of_many {zs : List (α × β)} (hr : ∀ p ∈ zs, ∀ q ∈ zs, p.2 = q.2 → p.1 = q.1) (hm : many (zs.map (·.2)) ≤ many (zs.map (·.1))) : num (zs.map (·.1)) = num (zs.map (·.2)) :=
 (b5 zs [] (by simpa using c5 hr hm)).1
theorem num_of_same {zs : List (α × β)} (h : ∀ p ∈ zs, ∀ q ∈ zs, (p.1 = q.1 ↔ p.2 = q.2)) : num (zs.map (·.1)) = num (zs.map (·.2)) ∧ many (zs.map (·.1)) = many (zs.map (·.2)) := b5 zs [] (by simpa using h)
theorem many_le {ks : List α} : many ks ≤ ks.length := nodup_le (fin_nodup List.nodup_nil) (fun x hx => by simpa using fin_mem.1 hx)
theorem many_pos {ks : List α} (h : ks ≠ []) : 1 ≤ many ks := by
 cases ks with
 | nil => exact absurd rfl h
 | cons k ks => exact List.length_pos_of_mem (fin_mem.2 (.inr (by simp : k ∈ k :: ks)))
theorem ch {ks : List α} {p : α × Nat} (hp : p ∈ ks.zip (num ks)) : p.1 ∈ ks ∧ p.2 = (find p.1 (fin ks []) 0).getD 0 := by
 rw [num_eq, List.zip_map_right] at hp
 obtain ⟨q, hq, rfl⟩ := List.mem_map.1 hp
 have h2 : q.1 = q.2 := by
  obtain ⟨i, hi, e⟩ := List.getElem_of_mem hq
  rw [List.getElem_zip] at e; rw [← e]
 exact ⟨(List.of_mem_zip hq).1, by simp [h2]⟩
theorem c2 {ks : List α} : ∀ p ∈ ks.zip (num ks), ∀ q ∈ ks.zip (num ks), (p.1 = q.1 ↔ p.2 = q.2) := by
 intro p hp q hq
 obtain ⟨h1, e1⟩ := ch hp
 obtain ⟨h2, e2⟩ := ch hq
 exact ⟨fun e => by rw [e1, e2, e], fun e => dB h1 h2 (by rw [← e1, ← e2, e])⟩
theorem bj {ks : List α} : (num ks).length = ks.length := cX
theorem zip_at {α β : Type} {l : List α} {m : List β} {p : α × β} (h : p ∈ l.zip m) : ∃ i : Nat, l[i]? = some p.1 ∧ m[i]? = some p.2 := by
 obtain ⟨i, hi, e⟩ := List.getElem_of_mem h
 refine ⟨i, ?_⟩
 have : (l.zip m)[i]? = some p := by rw [List.getElem?_eq_getElem hi, e]
 exact List.getElem?_zip_eq_some.1 this
end Numb
namespace Numb
variable {α β : Type} [DecidableEq α] [DecidableEq β]
theorem many_mono {zs : List (α × β)} (hr : ∀ p ∈ zs, ∀ q ∈ zs, p.2 = q.2 → p.1 = q.1) : many (zs.map (·.1)) ≤ many (zs.map (·.2)) := by
 cases zs with
 | nil => simp [many, fin]
 | cons z0 zs' =>
  generalize hz : z0 :: zs' = zs at hr
  let f : β → α := fun b => ((zs.find? (fun z => decide (z.2 = b))).map (·.1)).getD z0.1
  have hf : ∀ z ∈ zs, f z.2 = z.1 := by
   intro z hz
   show ((zs.find? (fun y => decide (y.2 = z.2))).map (·.1)).getD z0.1 = z.1
   cases h : zs.find? (fun y => decide (y.2 = z.2)) with
   | none => have := List.find?_eq_none.1 h z hz; simp at this
   | some y =>
    have h1 := List.find?_some h
    have h2 := List.mem_of_find?_eq_some h
    simp at h1
    exact hr y h2 z hz h1
  have key := nodup_le (l := fin (zs.map (·.1)) []) (m := (fin (zs.map (·.2)) []).map f) (fin_nodup List.nodup_nil) (by
   intro a ha
   rcases fin_mem.1 ha with h | h
   ·simp at h
   ·obtain ⟨z, hz, rfl⟩ := List.mem_map.1 h
    exact List.mem_map.2 ⟨z.2, fin_mem.2 (.inr (List.mem_map.2 ⟨z, hz, rfl⟩)), hf z hz⟩)
  rw [List.length_map] at key
  exact key
def numJ (ks : List α) : List Int := (num ks).map fun n : Nat => (n : Int)
theorem length_numJ {ks : List α} : (numJ ks).length = ks.length := by simp [numJ, bj]
theorem numJ_get {ks : List α} (i : Nat) (h : i < ks.length) : rd (numJ ks) (i : Int) = (((num ks)[i]'(by rw [bj]; exact h) : Nat) : Int) := by
 rw [ah (by rw [length_numJ]; exact h)]; simp [numJ]
theorem fc {ks : List α} : ∀ p ∈ ks.zip (numJ ks), ∀ q ∈ ks.zip (numJ ks), (p.1 = q.1 ↔ p.2 = q.2) := by
 intro p hp q hq
 unfold numJ at hp hq
 rw [List.zip_map_right] at hp hq
 obtain ⟨p', hp', rfl⟩ := List.mem_map.1 hp
 obtain ⟨q', hq', rfl⟩ := List.mem_map.1 hq
 have := c2 p' hp' q' hq'
 simp only [Prod.map_fst, id_eq, Prod.map_snd]
 rw [this]
 omega
theorem numJ_idem {ks : List α} : numJ (numJ ks) = numJ ks ∧ many (numJ ks) = many ks := by
 have h := num_of_same (zs := ks.zip (numJ ks)) fc
 have h1 : (ks.zip (numJ ks)).map (·.1) = ks := List.map_fst_zip (Nat.le_of_eq length_numJ.symm)
 have h2 : (ks.zip (numJ ks)).map (·.2) = numJ ks := List.map_snd_zip (Nat.le_of_eq length_numJ)
 rw [h1, h2] at h
 refine ⟨?_, h.2.symm⟩
 show (num (numJ ks)).map _ = (num ks).map _
 rw [← h.1]
theorem numJ_inj {ks : List α} {i j : Nat} (hi : i < ks.length) (hj : j < ks.length) (h : rd (numJ ks) (i : Int) = rd (numJ ks) (j : Int)) : ks[i] = ks[j] := by
 rw [numJ_get i hi, numJ_get j hj] at h
 refine eH hi hj ?_
 rw [List.getElem?_eq_getElem (by rw [bj]; exact hi), List.getElem?_eq_getElem (by rw [bj]; exact hj)]
 congr 1
 omega
theorem numJ_bd {ks : List α} : ∀ x ∈ numJ ks, 0 ≤ x ∧ x < (many ks : Int) := by
 intro x hx
 unfold numJ at hx
 rw [num_eq, List.map_map] at hx
 obtain ⟨k, hk, rfl⟩ := List.mem_map.1 hx
 obtain ⟨i, e, hi⟩ := find_lt hk
 simp only [Function.comp_apply, e, Option.getD_some]
 omega
theorem numJ_surj {ks : List α} {v : Nat} (hv : v < many ks) : (v : Int) ∈ numJ ks := by
 unfold numJ
 rw [num_eq, List.map_map]
 have hk : (fin ks [])[v]? = some ((fin ks [])[v]'hv) := List.getElem?_eq_getElem hv
 have hm : (fin ks [])[v]'hv ∈ ks := by
  rcases fin_mem.1 (List.getElem_mem hv) with h | h
  ·simp at h
  ·exact h
 refine List.mem_map.2 ⟨_, hm, ?_⟩
 simp only [Function.comp_apply]
 rw [find_at (fin_nodup List.nodup_nil) hk]; rfl
theorem numJ_zero {ks : List α} (h : 0 < ks.length) : rd (numJ ks) 0 = 0 := by
 cases ks with
 | nil => simp at h
 | cons k ks => simp [numJ, num, go, find, rd]
end Numb
def an (next : List (List Int)) (c : List Int) : List (List Int) := (next.zip c).map fun p => p.2 :: p.1.map (fun t => rd c t)
def aG (next : List (List Int)) (c : List Int) : List Int := Numb.numJ (an next c)
theorem ak {next : List (List Int)} {c : List Int} (h : c.length = next.length) : (an next c).length = next.length := by simp [an, h]
theorem a0 {next : List (List Int)} {c : List Int} (h : c.length = next.length) (i : Nat) (hi : i < next.length) : (an next c)[i]'(by rw [ak h]; exact hi) = rd c (i : Int) :: (rd_L1 next (i : Int)).map (fun t => rd c t) := by
 rw [ah (by omega), aB hi]; simp [an]
theorem aU {next : List (List Int)} {c : List Int} (h : c.length = next.length) : (aG next c).length = next.length := Numb.length_numJ.trans (ak h)
theorem bJ {next : List (List Int)} {c : List Int} (h : c.length = next.length) : ∀ p ∈ c.zip (an next c), ∀ q ∈ c.zip (an next c), p.2 = q.2 → p.1 = q.1 := by
 have hd : ∀ p ∈ c.zip (an next c), p.2[0]? = some p.1 := by
  intro p hp
  obtain ⟨i, h1, h2⟩ := Numb.zip_at hp
  obtain ⟨hi, e1⟩ := List.getElem?_eq_some_iff.1 h1
  obtain ⟨hj, e2⟩ := List.getElem?_eq_some_iff.1 h2
  rw [a0 h i (by omega)] at e2
  rw [← e2, ← e1, ah hi]; rfl
 intro p hp q hq e
 have a := hd p hp
 have b := hd q hq
 rw [e, b] at a
 exact (Option.some.inj a).symm
theorem eY {next : List (List Int)} {c : List Int} (h : c.length = next.length) : (c.zip (an next c)).map (·.1) = c ∧ (c.zip (an next c)).map (·.2) = an next c :=
 ⟨List.map_fst_zip (by rw [ak h]; omega), List.map_snd_zip (by rw [ak h]; omega)⟩
theorem bq {next : List (List Int)} {c : List Int} (h : c.length = next.length) (hc : Numb.numJ c = c) (hm : Numb.many (an next c) ≤ Numb.many c) : aG next c = c := by
 obtain ⟨h1, h2⟩ := eY h
 have := Numb.num_of_many (zs := c.zip (an next c)) (bJ h) (by rw [h1, h2]; exact hm)
 rw [h1, h2] at this
 unfold aG Numb.numJ
 rw [← this]; exact hc
theorem cz {next : List (List Int)} {c : List Int} (h : c.length = next.length) : Numb.many c ≤ Numb.many (an next c) := by
 obtain ⟨h1, h2⟩ := eY h
 have := Numb.many_mono (zs := c.zip (an next c)) (bJ h)
 rwa [h1, h2] at this
theorem bI {next : List (List Int)} {c : List Int} (h : c.length = next.length) {i j : Nat} (hi : i < next.length) (hj : j < next.length) (e : rd (aG next c) (i : Int) = rd (aG next c) (j : Int)) :
  rd c (i : Int) = rd c (j : Int) ∧ (rd_L1 next (i : Int)).map (fun t => rd c t) = (rd_L1 next (j : Int)).map (fun t => rd c t) := by
 have := Numb.numJ_inj (ks := an next c) (by rw [ak h]; exact hi) (by rw [ak h]; exact hj) e
 rw [a0 h i hi, a0 h j hj] at this
 injection this with h1 h2
 exact ⟨h1, h2⟩
def itI (next : List (List Int)) : Nat → List Int → List Int
 | 0, c => c
 | n + 1, c => itI next n (aG next c)
theorem b0 {next : List (List Int)} {c : List Int} (h : aG next c = c) : ∀ n, itI next n c = c
 | 0 => rfl
 | n + 1 => by rw [itI, h]; exact b0 h n
theorem cw {next : List (List Int)} : ∀ (n : Nat) {c : List Int}, c.length = next.length → (itI next n c).length = next.length
 | 0, _, h => h
 | n + 1, _, h => cw n (aU h)
theorem cY {next : List (List Int)} : ∀ (n : Nat) {c : List Int}, Numb.numJ c = c → Numb.numJ (itI next n c) = itI next n c
 | 0, _, h => h
 | n + 1, _, _ => cY n Numb.numJ_idem.1
theorem dy {next : List (List Int)} : ∀ (N : Nat) {c : List Int}, c.length = next.length → Numb.numJ c = c → next.length ≤ N + Numb.many c → aG next (itI next N c) = itI next N c
 | 0, c, h, hc, hn => by
  show aG next c = c
  exact bq h hc (by have := Numb.many_le (ks := an next c); rw [ak h] at this; omega)
 | N + 1, c, h, hc, hn => by
  by_cases hm : Numb.many (an next c) ≤ Numb.many c
  ·have := bq h hc hm
   rw [b0 this]; exact this
  ·refine dy N (aU h) Numb.numJ_idem.1 ?_
   have : Numb.many (aG next c) = Numb.many (an next c) := Numb.numJ_idem.2
   omega
theorem cc {next : List (List Int)} : ∀ (N : Nat) {c : List Int}, c.length = next.length → ∀ {i j : Nat}, i < next.length → j < next.length → rd (itI next N c) (i : Int) = rd (itI next N c) (j : Int) → rd c (i : Int) = rd c (j : Int)
 | 0, _, _, _, _, _, _, e => e
 | N + 1, _, h, _, _, hi, hj, e => (bI h hi hj (cc N (aU h) hi hj e)).1
def c0I (out : List Int) : List Int := Numb.numJ (out.map fun x => [x])
def ax (next : List (List Int)) (out : List Int) : List Int := itI next next.length (c0I out)
theorem cH (a b : List Int) (hl : a.length = b.length) (hn : a.length ≤ 4611686018427387904) (d : Nat) : ∀ (i : Nat), i + d = a.length → Ev (fun k => spec_l3Same.l0 k a b (i : Int)) (decide (a.drop i = b.drop i)) := by
 induction d with
 | zero =>
  intro i hi
  refine ab ?_
  simp only [spec_l3Same.l0]
  refine ac (by omega) (ad ?_)
  rw [List.drop_of_length_le (by omega), List.drop_of_length_le (by omega)]; rfl
 | succ d ih =>
  intro i hi
  refine ab ?_
  simp only [spec_l3Same.l0, wr1 (show (0 : Int) ≤ (i : Int) by omega) (by omega)]
  rw [b2 (by omega : i < a.length), b2 (by omega : i < b.length)]
  refine aa (by omega) (aa (by omega) (aa (by omega) (ai (fun h => bg (ih (i + 1) (by omega)) ?_) (fun h => ad ?_))))
  ·rw [h]; simp
  ·simp [h]
theorem cL (a b : List Int) (hn : a.length ≤ 4611686018427387904) : Ev (fun k => spec_l3Same.f k a b) (decide (a = b)) := by
 simp only [spec_l3Same.f]
 refine ai (fun h => bg (cH a b (by omega) hn a.length 0 (by omega)) (by simp)) (fun h => ad ?_)
 symm
 simp only [decide_eq_false_iff_not]
 rintro rfl
 exact h rfl
namespace Numb
variable {α : Type} [DecidableEq α]
theorem b4 (k : α) : ∀ (ks seen : List α), go (ks ++ [k]) seen = go ks seen ++ [match find k (fin ks seen) 0 with | some i => i | none => (fin ks seen).length] ∧ fin (ks ++ [k]) seen = (match find k (fin ks seen) 0 with | some _ => fin ks seen | none => fin ks seen ++ [k])
 | [], seen => by
  simp only [List.nil_append, go, fin]
  cases find k seen 0 <;> simp
 | x :: ks, seen => by
  simp only [List.cons_append, go, fin]
  cases find x seen 0 with
  | some i => have := b4 k ks seen; simp [this]
  | none => have := b4 k ks (seen ++ [x]); simp [this]
theorem num_snoc_old {ks : List α} {k : α} (h : k ∈ ks) : ∃ i, find k (fin ks []) 0 = some i ∧ num (ks ++ [k]) = num ks ++ [i] ∧ fin (ks ++ [k]) [] = fin ks [] := by
 obtain ⟨i, hi, _⟩ := find_lt h
 have := b4 k ks []
 rw [hi] at this
 exact ⟨i, hi, this.1, this.2⟩
theorem num_snoc_new {ks : List α} {k : α} (h : k ∉ ks) : num (ks ++ [k]) = num ks ++ [many ks] ∧ many (ks ++ [k]) = many ks + 1 := by
 have hn : find k (fin ks []) 0 = none := find_none.2 (fun hm => by rcases fin_mem.1 hm with h' | h'; simp at h'; exact h h')
 have := b4 k ks []
 rw [hn] at this
 exact ⟨this.1, by unfold many; rw [this.2]; simp⟩
end Numb
theorem dx {k : List UInt8} : ∀ {S : List (List UInt8)} {i : Nat}, posr k S = some i → S.reverse[i]? = some k
 | [], i, h => by simp [posr] at h
 | x :: S, i, h => by
  unfold posr at h
  rw [List.reverse_cons]
  split at h
  ·rename_i e
   cases h
   subst e
   rw [List.getElem?_append_right (by simp)]; simp
  ·have := dx h
   rw [List.getElem?_append_left (List.getElem?_eq_some_iff.1 this).1]; exact this
theorem dz {k : List UInt8} : ∀ {S : List (List UInt8)}, posr k S = none → k ∉ S
 | [], _ => by simp
 | x :: S, h => by
  unfold posr at h
  split at h
  ·cases h
  ·rename_i e; have := dz h; simp [Ne.symm e, this]
theorem ey {k : List UInt8} {S : List (List UInt8)} (h : S.reverse.Nodup) : posr k S = Numb.find k S.reverse 0 := by
 cases e : posr k S with
 | none => symm; rw [Numb.find_none]; have := dz e; simpa using this
 | some i => symm; exact Numb.find_at h (dx e)
theorem cm : ∀ (ks : List (List UInt8)) (acc : List Int × List (List UInt8)), acc.2.reverse.Nodup → (ks.foldl nstep acc).1 = acc.1 ++ (Numb.go ks acc.2.reverse).map (fun n : Nat => (n : Int)) ∧ (ks.foldl nstep acc).2.length = (Numb.fin ks acc.2.reverse).length
 | [], acc, _ => by simp [Numb.go, Numb.fin]
 | k :: ks, acc, h => by
  simp only [List.foldl_cons, Numb.go, Numb.fin]
  have e := ey (k := k) h
  cases hf : Numb.find k acc.2.reverse 0 with
  | some i =>
   rw [hf] at e
   have hs : nstep acc k = (acc.1 ++ [(i : Int)], acc.2) := by unfold nstep; rw [e]
   rw [hs]
   have := cm ks (acc.1 ++ [(i : Int)], acc.2) h
   simpa using this
  | none =>
   rw [hf] at e
   have hs : nstep acc k = (acc.1 ++ [(acc.2.length : Int)], k :: acc.2) := by unfold nstep; rw [e]
   rw [hs]
   have h' : (k :: acc.2).reverse.Nodup := by
    rw [List.reverse_cons, List.nodup_append]
    refine ⟨h, by simp, fun a ha b hb => ?_⟩
    simp at hb; subst hb
    rintro rfl
    exact Numb.find_none.1 hf ha
   have := cm ks (acc.1 ++ [(acc.2.length : Int)], k :: acc.2) h'
   simpa using this
theorem et (ks : List (List UInt8)) : (nfold ks).1 = Numb.numJ ks ∧ (nfold ks).2.length = Numb.many ks := by
 have := cm ks ([], []) (by simp)
 simpa [nfold, Numb.numJ, Numb.num, Numb.many] using this
theorem en {x y : Int} (hx : 0 ≤ x ∧ x < 256) (hy : 0 ≤ y ∧ y < 256) (h : UInt8.ofNat x.toNat = UInt8.ofNat y.toNat) : x = y := by
 have := congrArg UInt8.toNat h
 simp only [UInt8.toNat_ofNat'] at this
 omega
theorem dd : ∀ (r s : List Int), (∀ x ∈ r, 0 ≤ x ∧ x < 65536) → (∀ x ∈ s, 0 ≤ x ∧ x < 65536) → keyL r = keyL s → r = s
 | [], [], _, _, _ => rfl
 | [], y :: s, _, _, h => by simp [keyL, txtL] at h
 | x :: r, [], _, _, h => by simp [keyL, txtL] at h
 | x :: r, y :: s, hr, hs, h => by
  simp only [keyL, txtL, List.map_cons, List.cons.injEq] at h
  obtain ⟨h1, h2, h3⟩ := h
  have e1 := en (by omega) (by omega) h1
  have e2 := en (by omega) (by omega) h2
  have hx := hr x (by simp)
  have hy := hs y (by simp)
  have := dd r s (fun z hz => hr z (by simp [hz])) (fun z hz => hs z (by simp [hz])) h3
  rw [this, show x = y by omega]
theorem cg (l : List (List Int)) (h1 : l.length ≤ 64) (h2 : ∀ r ∈ l, r.length ≤ 64) (h3 : ∀ r ∈ l, ∀ x ∈ r, 0 ≤ x ∧ x < 65536) : impl_numbered.f l = some (Numb.numJ l, (Numb.many l : Int)) := by
 unfold impl_numbered.f
 rw [if_pos ⟨h1, h2⟩]
 obtain ⟨e1, e2⟩ := et (l.map keyL)
 have h := Numb.num_of_same (zs := l.map (fun r => (r, keyL r))) (by
  intro p hp q hq
  obtain ⟨r, hr, rfl⟩ := List.mem_map.1 hp
  obtain ⟨s, hs, rfl⟩ := List.mem_map.1 hq
  exact ⟨fun e => by simp only at e ⊢; rw [e], fun e => dd r s (h3 r hr) (h3 s hs) e⟩)
 rw [List.map_map, List.map_map] at h
 have a1 : l.map ((fun p => p.1) ∘ fun r => (r, keyL r)) = l := by simp [Function.comp_def]
 have a2 : l.map ((fun p => p.2) ∘ fun r => (r, keyL r)) = l.map keyL := by simp [Function.comp_def]
 rw [a1, a2] at h
 rw [e1, e2]
 unfold Numb.numJ
 rw [h.1, h.2]
theorem e7 (keys : List (List Int)) (hl : keys.length ≤ 64) (hr : ∀ r ∈ keys, r.length ≤ 64) (i : Nat) (hi : i < keys.length) (R : List Int)
  (Hold : ∀ j : Nat, Numb.find keys[i] (Numb.fin (keys.take i) []) 0 = some j → Ev (fun k => spec_l4Number.l0 k keys (Numb.numJ (keys.take i) ++ [(j : Int)]) (Numb.many (keys.take i) : Int) ((i + 1 : Nat) : Int)) R)
  (Hnew : keys[i] ∉ keys.take i → Ev (fun k => spec_l4Number.l0 k keys (Numb.numJ (keys.take i) ++ [(Numb.many (keys.take i) : Int)]) ((Numb.many (keys.take i) + 1 : Nat) : Int) ((i + 1 : Nat) : Int)) R) (d : Nat) :
  ∀ n : Nat, ∀ hn : n + d = i, (∀ m, ∀ hm : m < n, keys[m]'(by omega) ≠ keys[i]) → Ev (fun k => spec_l4Number.l1 k keys (Numb.numJ (keys.take i)) (Numb.many (keys.take i) : Int) (i : Int) (-1) (n : Int)) R := by
 have hlen : (Numb.numJ (keys.take i)).length = i := by rw [Numb.length_numJ, List.length_take]; omega
 have hmy := Numb.many_le (ks := keys.take i)
 rw [List.length_take] at hmy
 induction d with
 | zero =>
  intro n hn hno
  refine ab ?_
  simp only [spec_l4Number.l1]
  refine ac (by omega) (ab ?_)
  simp only [spec_l4Number.j2]
  refine ac (by simp) (aa (by omega) (aa (by omega) ?_))
  rw [wr1 (by omega) (by omega), wr1 (by omega) (by omega)]
  refine Hnew (fun hm => ?_)
  obtain ⟨m, hm, e⟩ := List.getElem_of_mem hm
  rw [List.length_take] at hm
  rw [List.getElem_take] at e
  exact hno m (by omega) e
 | succ d ih =>
  intro n hn hno
  have hk := hr _ (List.getElem_mem (show n < keys.length by omega))
  refine ab ?_
  simp only [spec_l4Number.l1]
  refine aa (by omega) (ab ?_)
  simp only [spec_l4Number.j2]
  rw [aB (show n < keys.length by omega), aB hi, wr1 (show (0 : Int) ≤ (n : Int) by omega) (by omega)]
  refine aa (by simp) (aa (by omega) (aa (by omega) (aa (by omega) (aa (by omega) (af (cL _ _ (by omega)) ?_)))))
  by_cases e : keys[n] = keys[i]
  ·refine aa (by simpa using e) (aa (by omega) ?_)
   have hmem : keys[i] ∈ keys.take i := by
    rw [← e]
    have : (keys.take i)[n]'(by rw [List.length_take]; omega) = keys[n] := List.getElem_take
    rw [← this]; exact List.getElem_mem _
   obtain ⟨j, hj, _⟩ := Numb.find_lt hmem
   have hval : rd (Numb.numJ (keys.take i)) (n : Int) = (j : Int) := by
    rw [Numb.numJ_get n (by rw [List.length_take]; omega)]
    simp only [Numb.num_eq, List.getElem_map, List.getElem_take, e, hj, Option.getD_some]
   rw [hval]
   refine ab ?_
   simp only [spec_l4Number.l1]
   have fin_ : Ev (fun k => spec_l4Number.j2 k keys (Numb.numJ (keys.take i)) (Numb.many (keys.take i) : Int) (i : Int) (j : Int) ((n : Int) + 1) false) R := by
    refine ab ?_
    simp only [spec_l4Number.j2]
    refine ac (by simp) (ac (by omega) (aa (by omega) ?_))
    rw [wr1 (by omega) (by omega)]
    exact Hold j hj
   refine ai (fun _ => ?_) (fun _ => fin_)
   rw [decide_eq_false (by omega)]; exact fin_
  ·refine ac (by simpa using e) ?_
   exact ih (n + 1) (by omega) (fun m hm => by
    by_cases h' : m = n
    ·subst h'; exact e
    ·exact hno m (by omega))
theorem fb (keys : List (List Int)) (hl : keys.length ≤ 64) (hr : ∀ r ∈ keys, r.length ≤ 64) (d : Nat) : ∀ i : Nat, i + d = keys.length → Ev (fun k => spec_l4Number.l0 k keys (Numb.numJ (keys.take i)) (Numb.many (keys.take i) : Int) (i : Int)) (Numb.numJ keys) := by
 induction d with
 | zero =>
  intro i hi
  refine ab ?_
  simp only [spec_l4Number.l0]
  refine ac (by omega) (ad ?_)
  rw [List.take_of_length_le (by omega)]
 | succ d ih =>
  intro i hi
  refine ab ?_
  simp only [spec_l4Number.l0]
  have htk : keys.take (i + 1) = keys.take i ++ [keys[i]'(by omega)] := List.take_succ_eq_append_getElem (by omega)
  have hn := ih (i + 1) (by omega)
  rw [htk] at hn
  refine aa (by omega) (e7 keys hl hr i (by omega) _ (fun j hj => ?_) (fun hm => ?_) i 0 (by omega) (fun m hm => by omega))
  ·have hmem : keys[i]'(by omega) ∈ keys.take i := by
    have : keys[i]'(by omega) ∈ Numb.fin (keys.take i) [] := by
     cases hf : Numb.find (keys[i]'(by omega)) (Numb.fin (keys.take i) []) 0 with
     | none => rw [hf] at hj; cases hj
     | some j' => exact List.mem_of_getElem? (Numb.find_some hf).2.1
    rcases Numb.fin_mem.1 this with h' | h'
    ·simp at h'
    ·exact h'
   obtain ⟨j', hj', e1, e2⟩ := Numb.num_snoc_old hmem
   rw [hj] at hj'
   cases hj'
   have a : Numb.numJ (keys.take i ++ [keys[i]'(by omega)]) = Numb.numJ (keys.take i) ++ [(j : Int)] := by unfold Numb.numJ; rw [e1]; simp
   have b : Numb.many (keys.take i ++ [keys[i]'(by omega)]) = Numb.many (keys.take i) := by unfold Numb.many; rw [e2]
   rw [a, b] at hn; exact hn
  ·obtain ⟨e1, e2⟩ := Numb.num_snoc_new hm
   have a : Numb.numJ (keys.take i ++ [keys[i]'(by omega)]) = Numb.numJ (keys.take i) ++ [(Numb.many (keys.take i) : Int)] := by unfold Numb.numJ; rw [e1]; simp
   rw [a, e2] at hn; exact hn
theorem ca (keys : List (List Int)) (hl : keys.length ≤ 64) (hr : ∀ r ∈ keys, r.length ≤ 64) : Ev (fun k => spec_l4Number.f k keys) (Numb.numJ keys) := by
 simp only [spec_l4Number.f]
 exact fb keys hl hr keys.length 0 (by omega)
theorem cB {next : List (List Int)} {c : List Int} (h : c.length = next.length) (i : Nat) (hi : i < next.length) : (an next c).take (i + 1) = (an next c).take i ++ [rd c (i : Int) :: (rd_L1 next (i : Int)).map (fun t => rd c t)] := by
 rw [List.take_succ_eq_append_getElem (by rw [ak h]; exact hi), a0 h i hi]
theorem aP (f : Int → Int) (l : List Int) (i : Nat) (hi : i < l.length) : (l.take (i + 1)).map f = (l.take i).map f ++ [f (rd l (i : Int))] := by
 rw [List.take_succ_eq_append_getElem hi, List.map_append, ah hi]; rfl
theorem cf (l : List Int) (i : Nat) (hi : i < l.length) : (l.take (i + 1)).map (fun x => [x]) = (l.take i).map (fun x => [x]) ++ [[rd l (i : Int)]] := by
 rw [List.take_succ_eq_append_getElem hi, List.map_append, ah hi]; rfl
section
variable {b : Int} {next : List (List Int)} {out : List Int}
theorem cv (h : ag b next out = true) {c : List Int} (hc : c.length = next.length) : (an next c).length ≤ 64 ∧ ∀ r ∈ an next c, r.length ≤ 64 := by
 obtain ⟨h1, h2, h3, h4, h5⟩ := ae h
 refine ⟨by rw [ak hc]; omega, fun r hr => ?_⟩
 obtain ⟨i, hi, e⟩ := List.getElem_of_mem hr
 rw [ak hc] at hi
 rw [a0 hc i hi] at e
 have := (h4 _ (aj hi)).1
 rw [← e]; simp; omega
theorem dW (h : ag b next out = true) (c : List Int) (hc : c.length = next.length) (j : Int) (i : Nat) (hi : i < next.length) (R : List Int)
  (H : Ev (fun k => spec_StateClasses.l2 k ((an next c).take (i + 1)) c j ((i + 1 : Nat) : Int) b next out) R) (d : Nat) : ∀ n : Nat, ((n + d : Nat) : Int) = b →
  Ev (fun k => spec_StateClasses.l3 k ((an next c).take i) c j (i : Int) (rd c (i : Int) :: ((rd_L1 next (i : Int)).take n).map (fun t => rd c t)) (n : Int) b next out) R := by
 obtain ⟨h1, h2, h3, h4, h5⟩ := ae h
 have hr := h4 _ (aj hi)
 induction d with
 | zero =>
  intro n hn
  refine ab ?_
  simp only [spec_StateClasses.l3]
  refine ac (by omega) (aa (by rw [List.length_take]; omega) ?_)
  rw [List.take_of_length_le (show (rd_L1 next (i : Int)).length ≤ n by omega), wr1 (by omega) (by omega)]
  rw [cB hc i hi] at H
  exact H
 | succ d ih =>
  intro n hn
  have hx := hr.2 _ (al (show n < (rd_L1 next (i : Int)).length by omega))
  refine ab ?_
  simp only [spec_StateClasses.l3]
  have := ih (n + 1) (by omega)
  rw [aP _ _ n (by omega)] at this
  rw [wr1 (show (0 : Int) ≤ (n : Int) by omega) (by omega)]
  exact aa (by omega) (aa (by omega) (aa (by omega) (aa (by omega) (aa (by omega) (aa (by omega) (aa (by omega) (aa (by simp; omega) this)))))))
theorem d9 (h : ag b next out = true) (c : List Int) (hc : c.length = next.length) (j : Nat) (hj : j < 64) (R : List Int) (H : Ev (fun k => spec_StateClasses.l1 k (aG next c) ((j + 1 : Nat) : Int) b next out) R) (d : Nat) : ∀ i : Nat, i + d = next.length →
  Ev (fun k => spec_StateClasses.l2 k ((an next c).take i) c (j : Int) (i : Int) b next out) R := by
 obtain ⟨h1, h2, h3, h4, h5⟩ := ae h
 obtain ⟨k1, k2⟩ := cv h hc
 induction d with
 | zero =>
  intro i hi
  refine ab ?_
  simp only [spec_StateClasses.l2]
  rw [List.take_of_length_le (by rw [ak hc]; omega), wr1 (show (0 : Int) ≤ (j : Int) by omega) (by omega)]
  exact ac (by omega) (af (ca _ k1 k2) H)
 | succ d ih =>
  intro i hi
  refine ab ?_
  simp only [spec_StateClasses.l2]
  refine aa (by omega) (aa (by omega) (aa (by omega) ?_))
  exact dW h c hc j i (by omega) R (ih (i + 1) (by omega)) b.toNat 0 (by omega)
theorem dJ (h : ag b next out = true) (d : Nat) : ∀ (j : Nat) (c : List Int), c.length = next.length → j + d = next.length → Ev (fun k => spec_StateClasses.l1 k c (j : Int) b next out) (itI next d c) := by
 obtain ⟨h1, h2, h3, h4, h5⟩ := ae h
 induction d with
 | zero =>
  intro j c hc hj
  refine ab ?_
  simp only [spec_StateClasses.l1]
  exact ac (by omega) (ad rfl)
 | succ d ih =>
  intro j c hc hj
  refine ab ?_
  simp only [spec_StateClasses.l1]
  exact aa (by omega) (d9 h c hc j (by omega) _ (ih (j + 1) _ (aU hc) (by omega)) next.length 0 (by omega))
theorem cN (h : ag b next out = true) : (out.map fun x => [x]).length ≤ 64 ∧ (∀ r ∈ out.map (fun x => [x]), r.length ≤ 64) ∧ (c0I out).length = next.length := by
 obtain ⟨h1, h2, h3, h4, h5⟩ := ae h
 refine ⟨by simp; omega, fun r hr => ?_, by unfold c0I; rw [Numb.length_numJ]; simp; omega⟩
 obtain ⟨x, _, rfl⟩ := List.mem_map.1 hr
 simp
theorem dV (h : ag b next out = true) (d : Nat) : ∀ i : Nat, i + d = out.length → Ev (fun k => spec_StateClasses.l0 k ((out.take i).map (fun x => [x])) (i : Int) b next out) (ax next out) := by
 obtain ⟨h1, h2, h3, h4, h5⟩ := ae h
 obtain ⟨k1, k2, k3⟩ := cN h
 induction d with
 | zero =>
  intro i hi
  refine ab ?_
  simp only [spec_StateClasses.l0]
  rw [List.take_of_length_le (by omega)]
  exact ac (by omega) (af (ca _ k1 k2) (dJ h next.length 0 _ k3 (by omega)))
 | succ d ih =>
  intro i hi
  refine ab ?_
  simp only [spec_StateClasses.l0]
  have := ih (i + 1) (by omega)
  rw [cf _ i (by omega)] at this
  rw [wr1 (show (0 : Int) ≤ (i : Int) by omega) (by omega)]
  exact aa (by omega) (aa (by omega) (aa (by simp; omega) this))
theorem bP (h : ag b next out = true) : aA next ∧ ao out := by
 obtain ⟨h1, h2, h3, h4, h5⟩ := ae h
 refine ⟨⟨by omega, fun r hr => ?_⟩, by unfold ao; omega⟩
 have := (h4 r hr).1
 unfold ao; omega
theorem bA (h : ag b next out = true) : Ev (fun k => spec_StateClasses.f k b next out) (ax next out) := by
 obtain ⟨f1, f2⟩ := bP h
 simp only [spec_StateClasses.f]
 exact af (aS b next out f1 f2) (aa h (dV h out.length 0 (by omega)))
theorem dl (h : ag b next out = true) {c : List Int} (hc : c.length = next.length) (hb : ∀ x ∈ c, 0 ≤ x ∧ x < 64) : ∀ r ∈ an next c, ∀ x ∈ r, 0 ≤ x ∧ x < 65536 := by
 obtain ⟨h1, h2, h3, h4, h5⟩ := ae h
 intro r hr x hx
 obtain ⟨i, hi, e⟩ := List.getElem_of_mem hr
 rw [ak hc] at hi
 rw [a0 hc i hi] at e
 rw [← e] at hx
 rcases List.mem_cons.1 hx with rfl | hx
 ·have := hb _ (al (show i < c.length by omega)); omega
 ·obtain ⟨t, ht, rfl⟩ := List.mem_map.1 hx
  have ht' := (h4 _ (aj hi)).2 t ht
  obtain ⟨t, rfl⟩ := Int.eq_ofNat_of_zero_le ht'.1
  have := hb _ (al (show t < c.length by omega)); omega
theorem dm (h : ag b next out = true) {c : List Int} (hc : c.length = next.length) : ∀ x ∈ aG next c, 0 ≤ x ∧ x < 64 := by
 obtain ⟨h1, h2, h3, h4, h5⟩ := ae h
 intro x hx
 have := Numb.numJ_bd x hx
 have h' := Numb.many_le (ks := an next c)
 rw [ak hc] at h'
 omega
theorem es (h : ag b next out = true) (c : List Int) (hc : c.length = next.length) (m : Int) (i : Nat) (hi : i < next.length) (R : List Int)
  (H : Ev (fun k => impl_classes.l2 k next ((an next c).take (i + 1)) c m next (next.length : Int) ((i + 1 : Nat) : Int)) R) (d : Nat) : ∀ n : Nat, n + d = (rd_L1 next (i : Int)).length →
  Ev (fun k => impl_classes.l3 k next ((an next c).take i) c m (rd c (i : Int) :: ((rd_L1 next (i : Int)).take n).map (fun t => rd c t)) next (next.length : Int) (i : Int) (rd_L1 next (i : Int)) ((rd_L1 next (i : Int)).length : Int) (n : Int)) R := by
 obtain ⟨h1, h2, h3, h4, h5⟩ := ae h
 have hr := h4 _ (aj hi)
 induction d with
 | zero =>
  intro n hn
  refine ab ?_
  simp only [impl_classes.l3]
  refine ac (by omega) (aa (by rw [List.length_take]; omega) ?_)
  rw [List.take_of_length_le (show (rd_L1 next (i : Int)).length ≤ n by omega), wr1 (by omega) (by omega)]
  rw [cB hc i hi] at H
  exact H
 | succ d ih =>
  intro n hn
  have hx := hr.2 _ (al (show n < (rd_L1 next (i : Int)).length by omega))
  refine ab ?_
  simp only [impl_classes.l3]
  have := ih (n + 1) (by omega)
  rw [aP _ _ n (by omega)] at this
  rw [wr1 (show (0 : Int) ≤ (n : Int) by omega) (by omega)]
  exact aa (by omega) (aa (by omega) (aa (by omega) (aa (by omega) (aa (by omega) (aa (by simp; omega) this)))))
theorem cT (h : ag b next out = true) (c : List Int) (hc : c.length = next.length) (hb : ∀ x ∈ c, 0 ≤ x ∧ x < 64) (m : Int) (R : List Int)
  (H1 : (Numb.many (an next c) : Int) = m → aG next c = R) (H2 : (Numb.many (an next c) : Int) ≠ m → Ev (fun k => impl_classes.l1 k next (an next c) (aG next c) (Numb.many (an next c) : Int)) R) (d : Nat) : ∀ i : Nat, i + d = next.length →
  Ev (fun k => impl_classes.l2 k next ((an next c).take i) c m next (next.length : Int) (i : Int)) R := by
 obtain ⟨h1, h2, h3, h4, h5⟩ := ae h
 obtain ⟨k1, k2⟩ := cv h hc
 induction d with
 | zero =>
  intro i hi
  refine ab ?_
  simp only [impl_classes.l2]
  rw [List.take_of_length_le (by rw [ak hc]; omega), cg _ k1 k2 (dl h hc hb)]
  simp only [Option.bind_some]
  exact ac (by omega) (ai (fun e => ad (H1 e)) (fun e => H2 e))
 | succ d ih =>
  intro i hi
  refine ab ?_
  simp only [impl_classes.l2]
  refine aa (by omega) (aa (by omega) (aa (by omega) (aa (by omega) ?_)))
  exact es h c hc m i (by omega) R (ih (i + 1) (by omega)) (rd_L1 next (i : Int)).length 0 (by omega)
theorem ew (h : ag b next out = true) (e : Nat) : ∀ (N : Nat) (c : List Int) (ks : List (List Int)), c.length = next.length → (∀ x ∈ c, 0 ≤ x ∧ x < 64) → Numb.numJ c = c → next.length ≤ e + Numb.many c → next.length ≤ N + Numb.many c →
  Ev (fun k => impl_classes.l1 k next ks c (Numb.many c : Int)) (itI next N c) := by
 obtain ⟨h1, h2, h3, h4, h5⟩ := ae h
 induction e with
 | zero =>
  intro N c ks hc hb hcc he hN
  have hm := Numb.many_le (ks := an next c)
  rw [ak hc] at hm
  have hf := bq hc hcc (by omega)
  have hg := cz hc
  refine ab ?_
  simp only [impl_classes.l1]
  refine aa (by omega) ?_
  refine cT h c hc hb _ _ (fun _ => by rw [b0 hf, hf]) (fun e => absurd (show (Numb.many (an next c) : Int) = _ by omega) e) next.length 0 (by omega)
 | succ e ih =>
  intro N c ks hc hb hcc he hN
  have hg := cz hc
  have hm := Numb.many_le (ks := an next c)
  rw [ak hc] at hm
  refine ab ?_
  simp only [impl_classes.l1]
  refine aa (by omega) ?_
  refine cT h c hc hb _ _ (fun e' => ?_) (fun e' => ?_) next.length 0 (by omega)
  ·have hf := bq hc hcc (by omega)
   rw [b0 hf, hf]
  ·have hs : Numb.many (aG next c) = Numb.many (an next c) := Numb.numJ_idem.2
   obtain ⟨N', rfl⟩ : ∃ N', N = N' + 1 := ⟨N - 1, by omega⟩
   have := ih N' (aG next c) (an next c) (aU hc) (dm h hc) Numb.numJ_idem.1 (by omega) (by omega)
   rw [hs] at this
   exact this
theorem eC (h : ag b next out = true) (d : Nat) : ∀ i : Nat, i + d = out.length → Ev (fun k => impl_classes.l0 k next ((out.take i).map (fun x => [x])) out (out.length : Int) (i : Int)) (ax next out) := by
 obtain ⟨h1, h2, h3, h4, h5⟩ := ae h
 obtain ⟨k1, k2, k3⟩ := cN h
 have hm : 1 ≤ Numb.many (out.map fun x => [x]) := Numb.many_pos (by intro e; have := congrArg List.length e; simp at this; subst this; simp at h3; omega)
 have hc0 : Numb.many (c0I out) = Numb.many (out.map fun x => [x]) := Numb.numJ_idem.2
 induction d with
 | zero =>
  intro i hi
  refine ab ?_
  simp only [impl_classes.l0]
  rw [List.take_of_length_le (by omega), cg _ k1 k2 (by
   intro r hr x hx
   obtain ⟨y, hy, rfl⟩ := List.mem_map.1 hr
   have := h5 y hy
   simp at hx; omega)]
  simp only [Option.bind_some]
  refine ac (by omega) ?_
  have := ew h next.length next.length (c0I out) (out.map fun x => [x]) k3 (by
   intro x hx
   have a := Numb.numJ_bd x hx
   have b := Numb.many_le (ks := out.map fun x => [x])
   simp at b
   omega) Numb.numJ_idem.1 (by omega) (by omega)
  rw [hc0] at this
  exact this
 | succ d ih =>
  intro i hi
  refine ab ?_
  simp only [impl_classes.l0]
  have := ih (i + 1) (by omega)
  rw [cf _ i (by omega)] at this
  rw [wr1 (show (0 : Int) ≤ (i : Int) by omega) (by omega)]
  exact aa (by omega) (aa (by omega) (aa (by omega) (aa (by simp; omega) this)))
theorem cC (h : ag b next out = true) : Ev (fun k => impl_classes.f k next out) (ax next out) := by
 simp only [impl_classes.f]
 exact eC h out.length 0 (by omega)
end
def up1 (r : List Int) : List Int := r.map fun x => x + 1
def stN (next : List (List Int)) : List (List Int) := (0 :: up1 ((rd_L1 next 0).drop 1)) :: next.map up1
def av (b : Int) (next : List (List Int)) (out : List Int) : Int × (List (List Int)) × List Int × Bool :=
 if ag b next out = true then (if rd (rd_L1 next 0) 0 = 0 then (b, next, out, true) else if next.length = 16 then (0, [], [], false) else (b, stN next, rd out 0 :: out, true)) else (0, [], [], false)
theorem eP {b : Int} {next : List (List Int)} {out : List Int} (h1 : 2 ≤ b ∧ b ≤ 4) (h2 : 1 ≤ next.length ∧ next.length ≤ 16) (h3 : out.length = next.length) (h4 : ∀ r ∈ next, (r.length : Int) = b ∧ ∀ x ∈ r, 0 ≤ x ∧ x < (next.length : Int)) (h5 : ∀ x ∈ out, 0 ≤ x ∧ x ≤ 3) : ag b next out = true := by
 unfold ag
 simp only [Bool.and_eq_true, decide_eq_true_eq, List.all_eq_true]
 refine ⟨⟨⟨⟨h1, h2⟩, h3⟩, fun r hr => ?_⟩, fun x hx => by simpa [aV] using h5 x hx⟩
 have := h4 r hr
 simp only [aE, Bool.and_eq_true, decide_eq_true_eq, List.all_eq_true]
 exact ⟨this.1, fun x hx => by simpa [inR] using this.2 x hx⟩
section
variable {b : Int} {next : List (List Int)} {out : List Int}
theorem eu {b' : Int} {n' : List (List Int)} {o' : List Int} (h : av b next out = (b', n', o', true)) : ag b next out = true ∧ b' = b ∧ ag b n' o' = true := by
 unfold av at h
 split at h
 ·rename_i hs
  split at h
  ·injection h with e1 h; injection h with e2 h; injection h with e3 _
   subst e1; subst e2; subst e3
   exact ⟨hs, rfl, hs⟩
  ·split at h
   ·injection h with _ h; injection h with _ h; injection h with _ h; cases h
   ·rename_i h16
    injection h with e1 h; injection h with e2 h; injection h with e3 _
    obtain ⟨h1, h2, h3, h4, h5⟩ := ae hs
    have hr0 := h4 _ (aj (show 0 < next.length by omega))
    refine ⟨hs, e1.symm, ?_⟩
    rw [← e2, ← e3]
    have hl : (stN next).length = next.length + 1 := by simp [stN]
    refine eP h1 (by rw [hl]; omega) (by rw [hl]; simp; omega) (fun r hr => ?_) (fun x hx => ?_)
    ·rw [hl]
     rcases List.mem_cons.1 hr with rfl | hr
     ·refine ⟨by have := hr0.1; simp [up1] at *; omega, fun x hx => ?_⟩
      rcases List.mem_cons.1 hx with rfl | hx
      ·omega
      ·obtain ⟨y, hy, rfl⟩ := List.mem_map.1 hx
       have := hr0.2 y (List.mem_of_mem_drop hy); omega
     ·obtain ⟨r', hr', rfl⟩ := List.mem_map.1 hr
      have := h4 r' hr'
      refine ⟨by simp [up1]; exact this.1, fun x hx => ?_⟩
      obtain ⟨y, hy, rfl⟩ := List.mem_map.1 hx
      have := this.2 y hy; omega
    ·rcases List.mem_cons.1 hx with rfl | hx
     ·exact h5 _ (al (show 0 < out.length by omega))
     ·exact h5 x hx
 ·injection h with _ h; injection h with _ h; injection h with _ h; cases h
theorem eJ {b' : Int} {n' : List (List Int)} {o' : List Int} (h : av b next out = (b', n', o', false)) : av b next out = (0, [], [], false) := by
 unfold av at h ⊢
 split at h
 ·rename_i hs
  rw [if_pos hs]
  split at h
  ·injection h with _ h; injection h with _ h; injection h with _ h; cases h
  ·rename_i h0
   rw [if_neg h0]
   split at h
   ·rename_i h1; rw [if_pos h1]
   ·injection h with _ h; injection h with _ h; injection h with _ h; cases h
 ·rename_i hs; rw [if_neg hs]
theorem du (h : ag b next out = true) (d : Nat) : ∀ i : Nat, i + d = next.length → Ev (fun k => impl_Sequence_own.l0 k next (next.length : Int) (i : Int) b (next.take i) out) (b, next, out) := by
 obtain ⟨h1, h2, h3, h4, h5⟩ := ae h
 induction d with
 | zero =>
  intro i hi
  refine ab ?_
  simp only [impl_Sequence_own.l0]
  rw [List.take_of_length_le (by omega)]
  exact ac (by omega) (ad rfl)
 | succ d ih =>
  intro i hi
  have hr := h4 _ (aj (show i < next.length by omega))
  refine ab ?_
  simp only [impl_Sequence_own.l0]
  have := ih (i + 1) (by omega)
  rw [List.take_succ_eq_append_getElem (by omega), ← aB (by omega)] at this
  rw [wr1 (show (0 : Int) ≤ (i : Int) by omega) (by omega), cn _ (by omega)]
  simp only [Option.bind_some]
  exact aa (by omega) (aa (by omega) (aa (by omega) (aa (by rw [List.length_take]; omega) this)))
theorem dr (h : ag b next out = true) : Ev (fun k => impl_Sequence_own.f k b next out) (b, next, out) := by
 obtain ⟨h1, h2, h3, h4, h5⟩ := ae h
 simp only [impl_Sequence_own.f]
 rw [cn _ (by omega)]
 simp only [Option.bind_some]
 exact du h next.length 0 (by omega)
theorem c9 (h : ag b next out = true) (d : Nat) : ∀ i : Nat, i + d = next.length → Ev (fun k => spec_l3Copy.l0 k (i : Int) b next out b (next.take i) out) (b, next, out) := by
 obtain ⟨h1, h2, h3, h4, h5⟩ := ae h
 induction d with
 | zero =>
  intro i hi
  refine ab ?_
  simp only [spec_l3Copy.l0]
  rw [List.take_of_length_le (by omega)]
  exact ac (by omega) (ad rfl)
 | succ d ih =>
  intro i hi
  have hr := h4 _ (aj (show i < next.length by omega))
  refine ab ?_
  simp only [spec_l3Copy.l0, Option.bind_some, List.nil_append]
  have := ih (i + 1) (by omega)
  rw [List.take_succ_eq_append_getElem (by omega), ← aB (by omega)] at this
  rw [wr1 (show (0 : Int) ≤ (i : Int) by omega) (by omega)]
  exact aa (by omega) (aa (by omega) (aa (by simp only [List.length_nil]; omega) (aa (by rw [List.length_take]; omega) this)))
theorem c_ (h : ag b next out = true) : Ev (fun k => spec_l3Copy.f k b next out) (b, next, out) := by
 obtain ⟨h1, h2, h3, h4, h5⟩ := ae h
 simp only [spec_l3Copy.f, Option.bind_some, List.nil_append]
 exact aa (by simp only [List.length_nil]; omega) (c9 h next.length 0 (by omega))
theorem aY (h : ag b next out = true) : 0 < next.length ∧ 0 < (rd_L1 next 0).length := by
 obtain ⟨h1, h2, h3, h4, h5⟩ := ae h
 have hr0 := h4 _ (aj (show 0 < next.length by omega))
 have := hr0.1
 exact ⟨by omega, by simp at this; omega⟩
theorem ci (h : ag b next out = true) : Ev (fun k => impl_IsSteady.f k b next out) (rd (rd_L1 next 0) 0 == 0) := by
 obtain ⟨f1, f2⟩ := bP h
 have := aY h
 simp only [impl_IsSteady.f]
 exact af (bc b next out f1 f2) (aa h (aa (by omega) (aa (by omega) (ad rfl))))
theorem bl (h : ag b next out = true) : Ev (fun k => spec_IsSteady.f k b next out) (rd (rd_L1 next 0) 0 == 0) := by
 obtain ⟨f1, f2⟩ := bP h
 have := aY h
 simp only [spec_IsSteady.f]
 exact af (aS b next out f1 f2) (aa h (aa (by omega) (aa (by omega) (ad rfl))))
theorem df (r : List Int) (n : Nat) (hn : n < r.length) : up1 (r.take (n + 1)) = up1 (r.take n) ++ [rd r (n : Int) + 1] := aP _ r n hn
theorem dG (Y : List (List Int)) (hY : Y.length ≤ 64) (hr : ∀ r ∈ Y, r.length ≤ 64 ∧ ∀ x ∈ r, 0 ≤ x ∧ x < 64) (o : List Int) (i : Nat) (hi : i < Y.length) (R : Int × (List (List Int)) × List Int × Bool)
  (H : Ev (fun k => impl_SteadyForm.l0 k Y (Y.length : Int) ((i + 1 : Nat) : Int) b ((Y.map up1).take (i + 1)) o) R) (d : Nat) : ∀ n : Nat, n + d = (rd_L1 Y (i : Int)).length →
  Ev (fun k => impl_SteadyForm.l1 k (up1 ((rd_L1 Y (i : Int)).take n)) Y (Y.length : Int) (i : Int) (rd_L1 Y (i : Int)) ((rd_L1 Y (i : Int)).length : Int) (n : Int) b ((Y.map up1).take i) o) R := by
 have hri := hr _ (aj hi)
 induction d with
 | zero =>
  intro n hn
  refine ab ?_
  simp only [impl_SteadyForm.l1]
  refine ac (by omega) (aa (by rw [List.length_take]; omega) ?_)
  rw [List.take_of_length_le (show (rd_L1 Y (i : Int)).length ≤ n by omega), wr1 (by omega) (by omega)]
  rw [List.take_succ_eq_append_getElem (by simp; omega), List.getElem_map, ← aB hi] at H
  exact H
 | succ d ih =>
  intro n hn
  have hx := hri.2 _ (al (show n < (rd_L1 Y (i : Int)).length by omega))
  refine ab ?_
  simp only [impl_SteadyForm.l1]
  have := ih (n + 1) (by omega)
  rw [df _ n (by omega)] at this
  rw [wr1 (show (0 : Int) ≤ (n : Int) by omega) (by omega), wr1 (show (0 : Int) ≤ rd (rd_L1 Y (i : Int)) (n : Int) by omega) (by omega)]
  exact aa (by omega) (aa (by omega) (aa (by omega) (aa (by simp [up1]; omega) this)))
theorem d0 (Y : List (List Int)) (hY : Y.length ≤ 64 ∧ 0 < Y.length ∧ 0 < (rd_L1 Y 0).length) (hr : ∀ r ∈ Y, r.length ≤ 64 ∧ ∀ x ∈ r, 0 ≤ x ∧ x < 64) (o : List Int) (d : Nat) : ∀ i : Nat, i + d = Y.length →
  Ev (fun k => impl_SteadyForm.l0 k Y (Y.length : Int) (i : Int) b ((Y.map up1).take i) o) (b, (Y.map up1).set 0 (((Y.map up1).getD 0 []).set 0 0), o, true) := by
 induction d with
 | zero =>
  intro i hi
  refine ab ?_
  simp only [impl_SteadyForm.l0]
  rw [List.take_of_length_le (by simp; omega)]
  have h0 : (Y.map up1).getD 0 [] = up1 (rd_L1 Y 0) := by
   have := aB (show 0 < Y.length by omega)
   simp only [Int.natCast_zero] at this
   rw [this]
   simp [List.getD_eq_getElem?_getD, List.getElem?_eq_getElem (show 0 < Y.length by omega)]
  refine ac (by omega) (aa (by simp; omega) (aa (by rw [h0]; simp [up1]; omega) (ad rfl)))
 | succ d ih =>
  intro i hi
  refine ab ?_
  simp only [impl_SteadyForm.l0]
  refine aa (by omega) (aa (by omega) (aa (by omega) ?_))
  exact dG Y hY.1 hr o i (by omega) _ (ih (i + 1) (by omega)) (rd_L1 Y (i : Int)).length 0 (by omega)
theorem eX (h : ag b next out = true) : ((([rd_L1 next 0] : List (List Int)) ++ next).map up1).set 0 (((([rd_L1 next 0] ++ next).map up1).getD 0 []).set 0 0) = stN next := by
 obtain ⟨e, e2⟩ := aY h
 obtain ⟨x, l, hx⟩ : ∃ x l, rd_L1 next 0 = x :: l := by
  cases hh : rd_L1 next 0 with
  | nil => rw [hh] at e2; simp at e2
  | cons x l => exact ⟨x, l, rfl⟩
 simp [stN, hx, up1]
theorem ef (h : ag b next out = true) : ∀ r ∈ ([rd_L1 next 0] : List (List Int)) ++ next, r.length ≤ 64 ∧ ∀ x ∈ r, 0 ≤ x ∧ x < 64 := by
 obtain ⟨h1, h2, h3, h4, h5⟩ := ae h
 have hr : ∀ r ∈ next, r.length ≤ 64 ∧ ∀ x ∈ r, 0 ≤ x ∧ x < 64 := fun r hr => by
  have := h4 r hr
  exact ⟨by omega, fun x hx => by have := this.2 x hx; omega⟩
 intro r hr'
 rcases List.mem_append.1 hr' with h' | h'
 ·rw [List.mem_singleton.1 h']; exact hr _ (aj (show 0 < next.length by omega))
 ·exact hr r h'
theorem bV (b : Int) (next : List (List Int)) (out : List Int) (f1 : aA next) (f2 : ao out) : Ev (fun k => impl_SteadyForm.f k b next out) (av b next out) := by
 simp only [impl_SteadyForm.f]
 refine af (bc b next out f1 f2) (ai (fun h => ?_) (fun h => ad (by unfold av; rw [if_neg h])))
 obtain ⟨h1, h2, h3, h4, h5⟩ := ae h
 have hh := aY h
 refine af (ci h) (ai (fun h0 => ?_) (fun h0 => ?_))
 ·refine af (dr h) (ad ?_)
  unfold av
  rw [if_pos h, if_pos (by simpa using h0)]
 ·have e0 : ¬ rd (rd_L1 next 0) 0 = 0 := by simpa using h0
  refine ai (fun h16 => ad ?_) (fun h16 => ?_)
  ·unfold av
   rw [if_pos h, if_neg e0, if_pos (by omega)]
  ·have hR : av b next out = (b, stN next, rd out 0 :: out, true) := by
    unfold av
    rw [if_pos h, if_neg e0, if_neg (by omega)]
   rw [hR]
   simp only [Option.bind_some]
   refine aa (by omega) (aa (by simp only [List.length_cons, List.length_nil]; omega) (aa (by omega) (aa (by simp only [List.length_cons, List.length_nil]; omega) ?_)))
   have := d0 (b := b) ([rd_L1 next 0] ++ next) ⟨by simp; omega, by simp, hh.2⟩ (ef h) ([rd out 0] ++ out) ([rd_L1 next 0] ++ next).length 0 (by omega)
   rw [eX h] at this
   exact this
theorem eb (h : ag b next out = true) (o : List Int) (A : List (List Int)) (hA : A.length ≤ 64) (i : Nat) (hi : i < next.length) (R : Int × (List (List Int)) × List Int × Bool)
  (H : Ev (fun k => spec_SteadyForm.l1 k ((i + 1 : Nat) : Int) b next out b (A ++ [up1 (rd_L1 next (i : Int))]) o) R) (d : Nat) : ∀ n : Nat, ((n + d : Nat) : Int) = b →
  Ev (fun k => spec_SteadyForm.l2 k (i : Int) (up1 ((rd_L1 next (i : Int)).take n)) (n : Int) b next out b A o) R := by
 obtain ⟨h1, h2, h3, h4, h5⟩ := ae h
 have hr := h4 _ (aj hi)
 induction d with
 | zero =>
  intro n hn
  refine ab ?_
  simp only [spec_SteadyForm.l2]
  refine ac (by omega) (aa (by omega) ?_)
  rw [List.take_of_length_le (show (rd_L1 next (i : Int)).length ≤ n by omega), wr1 (by omega) (by omega)]
  exact H
 | succ d ih =>
  intro n hn
  have hx := hr.2 _ (al (show n < (rd_L1 next (i : Int)).length by omega))
  refine ab ?_
  simp only [spec_SteadyForm.l2]
  have := ih (n + 1) (by omega)
  rw [df _ n (by omega)] at this
  rw [wr1 (show (0 : Int) ≤ (n : Int) by omega) (by omega), wr1 (show (0 : Int) ≤ rd (rd_L1 next (i : Int)) (n : Int) by omega) (by omega)]
  exact aa (by omega) (aa (by omega) (aa (by omega) (aa (by omega) (aa (by omega) (aa (by simp [up1]; omega) this)))))
theorem ea (h : ag b next out = true) (o r0 : List Int) (d : Nat) : ∀ i : Nat, i + d = next.length → Ev (fun k => spec_SteadyForm.l1 k (i : Int) b next out b (r0 :: (next.map up1).take i) o) (b, r0 :: next.map up1, o, true) := by
 obtain ⟨h1, h2, h3, h4, h5⟩ := ae h
 induction d with
 | zero =>
  intro i hi
  refine ab ?_
  simp only [spec_SteadyForm.l1]
  rw [List.take_of_length_le (by simp; omega)]
  exact ac (by omega) (ad rfl)
 | succ d ih =>
  intro i hi
  refine ab ?_
  simp only [spec_SteadyForm.l1]
  have := ih (i + 1) (by omega)
  rw [List.take_succ_eq_append_getElem (by simp; omega), List.getElem_map, ← aB (by omega)] at this
  exact aa (by omega) (eb h o _ (by rw [List.length_cons, List.length_take]; omega) i (by omega) _ this b.toNat 0 (by omega))
theorem dT (h : ag b next out = true) (o : List Int) (d : Nat) : ∀ n : Nat, 1 ≤ n → ((n + d : Nat) : Int) = b → Ev (fun k => spec_SteadyForm.l0 k (0 :: up1 (((rd_L1 next 0).take n).drop 1)) (n : Int) b next out b o) (b, stN next, o, true) := by
 obtain ⟨h1, h2, h3, h4, h5⟩ := ae h
 have hr := h4 _ (aj (show 0 < next.length by omega))
 rw [show ((0 : Nat) : Int) = 0 from rfl] at hr
 induction d with
 | zero =>
  intro n hn0 hn
  refine ab ?_
  simp only [spec_SteadyForm.l0]
  rw [List.take_of_length_le (show (rd_L1 next 0).length ≤ n by omega)]
  exact ac (by omega) (aa (by simp) (ea h o _ next.length 0 (by omega)))
 | succ d ih =>
  intro n hn0 hn
  have hx := hr.2 _ (al (show n < (rd_L1 next 0).length by omega))
  refine ab ?_
  simp only [spec_SteadyForm.l0]
  have := ih (n + 1) (by omega) (by omega)
  rw [List.take_succ_eq_append_getElem (by omega), ← ah (by omega), List.drop_append_of_le_length (by rw [List.length_take]; omega)] at this
  have e : up1 (((rd_L1 next 0).take n).drop 1 ++ [rd (rd_L1 next 0) (n : Int)]) = up1 (((rd_L1 next 0).take n).drop 1) ++ [rd (rd_L1 next 0) (n : Int) + 1] := by simp [up1]
  rw [e] at this
  rw [wr1 (show (0 : Int) ≤ (n : Int) by omega) (by omega), wr1 (show (0 : Int) ≤ rd (rd_L1 next 0) (n : Int) by omega) (by omega)]
  exact aa (by omega) (aa (by omega) (aa (by omega) (aa (by omega) (aa (by simp [up1]; omega) this))))
theorem bR (b : Int) (next : List (List Int)) (out : List Int) (f1 : aA next) (f2 : ao out) : Ev (fun k => spec_SteadyForm.f k b next out) (av b next out) := by
 simp only [spec_SteadyForm.f]
 have no : ∀ f : Bool, f = true → av b next out = (0, [], [], false) → Ev (fun k => spec_SteadyForm.j0 k f b next out) (av b next out) := by
  intro f hf e
  subst hf
  refine ab ?_
  simp only [spec_SteadyForm.j0]
  exact aa trivial (ad e.symm)
 refine af (aS b next out f1 f2) (ai (fun h => ?_) (fun h => no _ rfl (by unfold av; rw [if_neg h])))
 obtain ⟨h1, h2, h3, h4, h5⟩ := ae h
 have hh := aY h
 have go_ : (next.length = 16 → rd (rd_L1 next 0) 0 = 0) → Ev (fun k => spec_SteadyForm.j0 k false b next out) (av b next out) := by
  intro h16
  refine ab ?_
  simp only [spec_SteadyForm.j0]
  refine ac (by simp) (af (bl h) (ai (fun h0 => ?_) (fun h0 => ?_)))
  ·refine af (c_ h) (ad ?_)
   unfold av
   rw [if_pos h, if_pos (by simpa using h0)]
  ·have e0 : ¬ rd (rd_L1 next 0) 0 = 0 := by simpa using h0
   have hR : av b next out = (b, stN next, rd out 0 :: out, true) := by
    unfold av
    rw [if_pos h, if_neg e0, if_neg (fun e => e0 (h16 e))]
   rw [hR]
   simp only [Option.bind_some]
   refine aa (by omega) (aa (by simp only [List.length_cons, List.length_nil]; omega) ?_)
   have := dT h ([rd out 0] ++ out) (b.toNat - 1) 1 (Nat.le_refl _) (by omega)
   obtain ⟨x, l, hx⟩ : ∃ x l, rd_L1 next 0 = x :: l := by
    cases e : rd_L1 next 0 with
    | nil => rw [e] at hh; simp at hh
    | cons x l => exact ⟨x, l, rfl⟩
   rw [hx] at this
   simpa [up1] using this
 refine ai (fun h16 => af (bl h) ?_) (fun h16 => go_ (fun e => by omega))
 by_cases h0 : rd (rd_L1 next 0) 0 = 0
 ·have : (!(rd (rd_L1 next 0) 0 == 0)) = false := by simp [h0]
  rw [this]
  exact go_ (fun _ => h0)
 ·refine no _ (by simp [h0]) ?_
  unfold av
  rw [if_pos h, if_neg h0, if_pos (by omega)]
end
def ar (o : List Int) : List Int → List Int
 | [] => o
 | t :: l => ar (if t ∈ o then o else o ++ [t]) l
def aO (Mf : Int → List Int) : Nat → Nat → List Int → List Int
 | 0, _, o => o
 | f + 1, i, o => if i < o.length then aO Mf f (i + 1) (ar o (Mf (rd o (i : Int)))) else o
def aQ (o : List Int) (t : Int) : Int := (o.idxOf t : Int)
def aC (m : Nat) (o : List Int) : Prop := o.Nodup ∧ ∀ v ∈ o, 0 ≤ v ∧ v < (m : Int)
theorem aC.len {m : Nat} {o : List Int} (h : aC m o) : o.length ≤ m := by
 have := Numb.nodup_le (l := o) (m := (List.range m).map fun i : Nat => (i : Int)) h.1 (fun x hx => by
  have := h.2 x hx
  exact List.mem_map.2 ⟨x.toNat, List.mem_range.2 (by omega), by omega⟩)
 simpa using this
theorem aC.snoc {m : Nat} {o : List Int} {t : Int} (h : aC m o) (ht : t ∉ o) (hb : 0 ≤ t ∧ t < (m : Int)) : aC m (o ++ [t]) := by
 refine ⟨?_, fun v hv => ?_⟩
 ·rw [List.nodup_append]
  refine ⟨h.1, by simp, fun a ha b hb' => ?_⟩
  simp at hb'; subst hb'
  rintro rfl
  exact ht ha
 ·rcases List.mem_append.1 hv with h' | h'
  ·exact h.2 v h'
  ·simp at h'; subst h'; exact hb
theorem bT : ∀ (l o : List Int) (t : Int), ar o (l ++ [t]) = if t ∈ ar o l then ar o l else ar o l ++ [t]
 | [], o, t => rfl
 | x :: l, o, t => by
  show ar _ (l ++ [t]) = _
  rw [bT l]; rfl
theorem aM : ∀ (l o : List Int), ∃ e, ar o l = o ++ e
 | [], o => ⟨[], by simp [ar]⟩
 | x :: l, o => by
  obtain ⟨e, he⟩ := aM l (if x ∈ o then o else o ++ [x])
  show ∃ e, ar _ l = _
  rw [he]
  split
  ·exact ⟨e, rfl⟩
  ·exact ⟨[x] ++ e, by simp⟩
theorem co : ∀ (l o : List Int) (t : Int), t ∈ l → t ∈ ar o l
 | [], _, t, h => by simp at h
 | x :: l, o, t, h => by
  show t ∈ ar _ l
  rcases List.mem_cons.1 h with rfl | h
  ·obtain ⟨e, he⟩ := aM l (if t ∈ o then o else o ++ [t])
   rw [he]
   split
   ·rename_i h'; exact List.mem_append.2 (.inl h')
   ·exact List.mem_append.2 (.inl (by simp))
  ·exact co l _ t h
theorem aT {m : Nat} : ∀ (l o : List Int), aC m o → (∀ t ∈ l, 0 ≤ t ∧ t < (m : Int)) → aC m (ar o l)
 | [], _, h, _ => h
 | x :: l, o, h, hl => by
  refine aT l _ ?_ (fun t ht => hl t (by simp [ht]))
  split
  ·exact h
  ·rename_i hx; exact h.snoc hx (hl x (by simp))
theorem c7 {o e : List Int} {t : Int} (h : t ∈ o) : aQ (o ++ e) t = aQ o t := by unfold aQ; rw [List.idxOf_append, if_pos h]
theorem cP {o : List Int} (h : o.Nodup) {k : Nat} (hk : k < o.length) : aQ o (rd o (k : Int)) = (k : Int) := by
 unfold aQ; rw [ah hk, List.Nodup.idxOf_getElem h]
def ay (Mf : Int → List Int) (o : List Int) (i : Nat) : List (List Int) := (o.take i).map fun v => (Mf v).map (aQ o)
def aK (Mf : Int → List Int) (o : List Int) (i : Nat) : Prop := ∀ v ∈ o.take i, ∀ t ∈ Mf v, t ∈ o
theorem eD {Mf : Int → List Int} {o e : List Int} {i : Nat} (hi : i ≤ o.length) (h : aK Mf o i) : ay Mf (o ++ e) i = ay Mf o i := by
 unfold ay
 rw [List.take_append_of_le_length hi]
 refine List.map_congr_left fun v hv => List.map_congr_left fun t ht => c7 (h v hv t ht)
theorem bQ {Mf : Int → List Int} {o : List Int} {i : Nat} (hi : i < o.length) (h : aK Mf o i) : aK Mf (ar o (Mf (rd o (i : Int)))) (i + 1) := by
 obtain ⟨e, he⟩ := aM (Mf (rd o (i : Int))) o
 intro v hv t ht
 rw [he, List.take_append_of_le_length (by omega), List.take_succ_eq_append_getElem hi] at hv
 rcases List.mem_append.1 hv with h' | h'
 ·rw [he]; exact List.mem_append.2 (.inl (h v h' t ht))
 ·simp at h'
  rw [← ah hi] at h'
  subst h'
  exact co _ _ t ht
theorem dU {Mf : Int → List Int} {o : List Int} {i : Nat} (hi : i < o.length) (h : aK Mf o i) : ay Mf (ar o (Mf (rd o (i : Int)))) (i + 1) = ay Mf o i ++ [(Mf (rd o (i : Int))).map (aQ (ar o (Mf (rd o (i : Int)))))] := by
 obtain ⟨e, he⟩ := aM (Mf (rd o (i : Int))) o
 rw [he, ← eD (e := e) (by omega) h]
 unfold ay
 rw [List.take_append_of_le_length (by omega), List.take_append_of_le_length (by omega), List.take_succ_eq_append_getElem hi, List.map_append, ah hi]; rfl
theorem c6 {Mf : Int → List Int} {m : Nat} (hM : ∀ v, 0 ≤ v → v < (m : Int) → ∀ t ∈ Mf v, 0 ≤ t ∧ t < (m : Int)) : ∀ (f i : Nat) (o : List Int), aC m o → i ≤ o.length → m ≤ f + i → aK Mf o i →
  aC m (aO Mf f i o) ∧ aK Mf (aO Mf f i o) (aO Mf f i o).length ∧ (∃ e, aO Mf f i o = o ++ e)
 | 0, i, o, h, hi, hf, hc => by
  have := h.len
  have e : i = o.length := by omega
  exact ⟨h, by subst e; exact hc, [], by simp [aO]⟩
 | f + 1, i, o, h, hi, hf, hc => by
  unfold aO
  split
  ·rename_i hlt
   have hv := h.2 _ (al hlt)
   obtain ⟨e, he⟩ := aM (Mf (rd o (i : Int))) o
   have hl : i + 1 ≤ (ar o (Mf (rd o (i : Int)))).length := by rw [he, List.length_append]; omega
   obtain ⟨h1, h2, e2, h3⟩ := c6 hM f (i + 1) (ar o (Mf (rd o (i : Int)))) (aT _ _ h (hM _ hv.1 hv.2)) hl (by omega) (bQ hlt hc)
   exact ⟨h1, h2, e ++ e2, by rw [h3, he, List.append_assoc]⟩
  ·have e : i = o.length := by omega
   exact ⟨h, by subst e; exact hc, [], by simp⟩
theorem ce (k : Int) : ∀ (l : List Int) (n : Nat), k ∈ l → ∃ i, ∃ hi : i < l.length, firstI k l n = ((n + i : Nat) : Int) ∧ l[i] = k
 | [], _, h => by simp at h
 | x :: l, n, h => by
  unfold firstI
  by_cases e : x = k
  ·exact ⟨0, by simp, by rw [if_pos e]; rfl, by simpa using e⟩
  ·rw [if_neg e]
   rcases List.mem_cons.1 h with rfl | h
   ·exact absurd rfl e
   ·obtain ⟨i, hi, h1, h2⟩ := ce k l (n + 1) h
    exact ⟨i + 1, by simp; omega, by rw [h1]; congr 1; omega, by simpa using h2⟩
def ddI : List Int → List Int
 | [] => []
 | x :: l => if x ∈ l then ddI l else x :: ddI l
theorem bx : ∀ (l : List Int) (x : Int), x ∈ ddI l ↔ x ∈ l
 | [], x => by simp [ddI]
 | y :: l, x => by
  unfold ddI
  split
  ·rename_i h; rw [bx l]; simp; intro e; rw [e]; exact h
  ·simp [bx l]
theorem bW : ∀ l : List Int, (ddI l).Nodup
 | [] => List.nodup_nil
 | y :: l => by
  unfold ddI
  split
  ·exact bW l
  ·rename_i h; exact List.nodup_cons.2 ⟨fun h' => h ((bx l y).1 h'), bW l⟩
theorem cj : ∀ l : List Int, manyI l = (ddI l).length
 | [] => rfl
 | y :: l => by
  unfold manyI ddI
  split
  ·exact cj l
  ·rw [cj l]; rfl
theorem eO (l : List Int) : manyI l = Numb.many l := by
 rw [cj]
 refine Nat.le_antisymm (Numb.nodup_le (bW l) (fun x hx => Numb.fin_mem.2 (.inr ((bx l x).1 hx)))) (Numb.nodup_le (Numb.fin_nodup List.nodup_nil) (fun x hx => ?_))
 rcases Numb.fin_mem.1 hx with h | h
 ·simp at h
 ·exact (bx l x).2 h
section
variable {b : Int} {next : List (List Int)} {out : List Int}
structure Cls (next : List (List Int)) (out c : List Int) (m : Nat) : Prop where
 len : c.length = next.length
 many : Numb.many c = m
 bd : ∀ x ∈ c, 0 ≤ x ∧ x < (m : Int)
 surj : ∀ v : Nat, v < m → (v : Int) ∈ c
 row : ∀ i j : Nat, i < next.length → j < next.length → rd c (i : Int) = rd c (j : Int) → (rd_L1 next (i : Int)).map (fun t => rd c t) = (rd_L1 next (j : Int)).map (fun t => rd c t)
 val : ∀ i j : Nat, i < next.length → j < next.length → rd c (i : Int) = rd c (j : Int) → rd out (i : Int) = rd out (j : Int)
 zero : rd c 0 = 0
 pos : 0 < m ∧ m ≤ next.length
theorem eK (h : ag b next out = true) : ∃ m, Cls next out (ax next out) m := by
 obtain ⟨h1, h2, h3, h4, h5⟩ := ae h
 obtain ⟨k1, k2, k3⟩ := cN h
 have hl : (ax next out).length = next.length := cw _ k3
 have hcan : Numb.numJ (ax next out) = ax next out := cY _ Numb.numJ_idem.1
 have hfix : aG next (ax next out) = ax next out := dy _ k3 Numb.numJ_idem.1 (by omega)
 have hne : ax next out ≠ [] := by intro e; rw [e] at hl; simp at hl; omega
 refine ⟨_, hl, rfl, ?_, ?_, ?_, ?_, ?_, Numb.many_pos hne, by have := Numb.many_le (ks := ax next out); omega⟩
 ·intro x hx
  have : x ∈ Numb.numJ (ax next out) := by rw [hcan]; exact hx
  exact Numb.numJ_bd x this
 ·intro v hv
  have := Numb.numJ_surj (ks := ax next out) hv
  rwa [hcan] at this
 ·intro i j hi hj e
  refine (bI hl hi hj ?_).2
  rw [hfix]; exact e
 ·intro i j hi hj e
  have e0 := cc next.length k3 hi hj e
  have := Numb.numJ_inj (ks := out.map fun x => [x]) (by simp; omega) (by simp; omega) e0
  rw [List.getElem_map, List.getElem_map] at this
  injection this with this
  rw [ah (by omega), ah (by omega), this]
 ·rw [← hfix]
  exact Numb.numJ_zero (by rw [ak hl]; omega)
def az (next : List (List Int)) (c : List Int) (m : Nat) : List (List Int) := (List.range m).map fun v : Nat => (rd_L1 next (firstI (v : Int) c 0)).map (fun t => rd c t)
def aL (out c : List Int) (m : Nat) : List Int := (List.range m).map fun v : Nat => rd out (firstI (v : Int) c 0)
section
variable {c : List Int} {m : Nat}
theorem Cls.first (hC : Cls next out c m) {v : Nat} (hv : v < m) : ∃ i : Nat, i < next.length ∧ firstI (v : Int) c 0 = (i : Int) ∧ rd c (i : Int) = (v : Int) := by
 obtain ⟨i, hi, e1, e2⟩ := ce (v : Int) c 0 (hC.surj v hv)
 exact ⟨i, by rw [← hC.len]; exact hi, by rw [e1]; simp, by rw [ah hi]; exact e2⟩
theorem b1 : (az next c m).length = m := by simp [az]
theorem b3 : (aL out c m).length = m := by simp [aL]
theorem Cls.mrg (hC : Cls next out c m) {s : Nat} (hs : s < next.length) : rd_L1 (az next c m) (rd c (s : Int)) = (rd_L1 next (s : Int)).map (fun t => rd c t) := by
 have hb := hC.bd _ (al (show s < c.length by rw [hC.len]; exact hs))
 obtain ⟨v, hv⟩ := Int.eq_ofNat_of_zero_le hb.1
 have hvm : v < m := by omega
 obtain ⟨i, hi, e1, e2⟩ := hC.first hvm
 rw [hv, aB (by rw [b1]; exact hvm)]
 simp only [az, List.getElem_map, List.getElem_range]
 rw [e1]
 exact hC.row i s hi hs (by rw [e2, hv])
theorem Cls.trm (hC : Cls next out c m) {s : Nat} (hs : s < next.length) : rd (aL out c m) (rd c (s : Int)) = rd out (s : Int) := by
 have hb := hC.bd _ (al (show s < c.length by rw [hC.len]; exact hs))
 obtain ⟨v, hv⟩ := Int.eq_ofNat_of_zero_le hb.1
 have hvm : v < m := by omega
 obtain ⟨i, hi, e1, e2⟩ := hC.first hvm
 rw [hv, ah (by rw [b3]; exact hvm)]
 simp only [aL, List.getElem_map, List.getElem_range]
 rw [e1]
 exact hC.val i s hi hs (by rw [e2, hv])
theorem Cls.mrg_row (h : ag b next out = true) (hC : Cls next out c m) (v : Int) (h0 : 0 ≤ v) (hv : v < (m : Int)) : ((rd_L1 (az next c m) v).length : Int) = b ∧ ∀ t ∈ rd_L1 (az next c m) v, 0 ≤ t ∧ t < (m : Int) := by
 obtain ⟨h1, h2, h3, h4, h5⟩ := ae h
 obtain ⟨v, rfl⟩ := Int.eq_ofNat_of_zero_le h0
 obtain ⟨i, hi, e1, e2⟩ := hC.first (show v < m by omega)
 have := hC.mrg hi
 rw [e2] at this
 rw [this]
 have hr := h4 _ (aj hi)
 refine ⟨by simp; exact hr.1, fun t ht => ?_⟩
 obtain ⟨s, hs, rfl⟩ := List.mem_map.1 ht
 have hs' := hr.2 s hs
 obtain ⟨s, rfl⟩ := Int.eq_ofNat_of_zero_le hs'.1
 exact hC.bd _ (al (show s < c.length by rw [hC.len]; omega))
theorem d5 (h : ag b next out = true) (hC : Cls next out c m) (v i : Nat) (hv : v < m) (hi : i < next.length) (hf : firstI (v : Int) c 0 = (i : Int)) (R : (List (List Int)) × List Int)
  (H : Ev (fun k => impl_minimal2.l0 k next out c ((az next c m).take (v + 1)) ((aL out c m).take (v + 1)) (m : Int) ((v + 1 : Nat) : Int)) R) (d : Nat) : ∀ n : Nat, n + d = (rd_L1 next (i : Int)).length →
  Ev (fun k => impl_minimal2.l1 k next out c ((az next c m).take v) ((aL out c m).take v) (v : Int) (((rd_L1 next (i : Int)).take n).map (fun t => rd c t)) (m : Int) (v : Int) (rd_L1 next (i : Int)) ((rd_L1 next (i : Int)).length : Int) (n : Int)) R := by
 obtain ⟨h1, h2, h3, h4, h5⟩ := ae h
 have hr := h4 _ (aj hi)
 have hl := hC.len
 have hp := hC.pos
 induction d with
 | zero =>
  intro n hn
  refine ab ?_
  simp only [impl_minimal2.l1]
  have e1 : (az next c m).take (v + 1) = (az next c m).take v ++ [(rd_L1 next (i : Int)).map (fun t => rd c t)] := by
   rw [List.take_succ_eq_append_getElem (by rw [b1]; exact hv)]
   simp only [az, List.getElem_map, List.getElem_range, hf]
  have e2 : (aL out c m).take (v + 1) = (aL out c m).take v ++ [rd out (i : Int)] := by
   rw [List.take_succ_eq_append_getElem (by rw [b3]; exact hv)]
   simp only [aL, List.getElem_map, List.getElem_range, hf]
  rw [e1, e2] at H
  rw [List.take_of_length_le (show (rd_L1 next (i : Int)).length ≤ n by omega), wr1 (show (0 : Int) ≤ (v : Int) by omega) (by omega)]
  refine ac (by omega) (aa (by rw [List.length_take]; omega) ?_)
  simp only [impl_firstIn.f, hf]
  rw [if_pos ⟨by omega, by omega⟩]
  simp only [Option.bind_some]
  exact aa (by omega) (aa (by omega) (aa (by rw [List.length_take]; omega) H))
 | succ d ih =>
  intro n hn
  have hx := hr.2 _ (al (show n < (rd_L1 next (i : Int)).length by omega))
  refine ab ?_
  simp only [impl_minimal2.l1]
  have := ih (n + 1) (by omega)
  rw [aP _ _ n (by omega)] at this
  rw [wr1 (show (0 : Int) ≤ (n : Int) by omega) (by omega)]
  exact aa (by omega) (aa (by omega) (aa (by omega) (aa (by omega) (aa (by omega) (aa (by simp; omega) this)))))
theorem dE (h : ag b next out = true) (hC : Cls next out c m) (d : Nat) : ∀ v : Nat, v + d = m →
  Ev (fun k => impl_minimal2.l0 k next out c ((az next c m).take v) ((aL out c m).take v) (m : Int) (v : Int)) (az next c m, aL out c m) := by
 obtain ⟨h1, h2, h3, h4, h5⟩ := ae h
 have hp := hC.pos
 induction d with
 | zero =>
  intro v hv
  refine ab ?_
  simp only [impl_minimal2.l0]
  rw [List.take_of_length_le (by rw [b1]; omega), List.take_of_length_le (by rw [b3]; omega)]
  exact ac (by omega) (ad rfl)
 | succ d ih =>
  intro v hv
  obtain ⟨i, hi, hf, hci⟩ := hC.first (show v < m by omega)
  refine ab ?_
  simp only [impl_minimal2.l0, impl_firstIn.f, hf]
  rw [if_pos ⟨by omega, by omega⟩]
  simp only [Option.bind_some]
  exact aa (by omega) (aa (by omega) (aa (by omega) (d5 h hC v i (by omega) hi hf _ (ih (v + 1) (by omega)) (rd_L1 next (i : Int)).length 0 (by omega))))
theorem ei (h : ag b next out = true) (hC : Cls next out c m) : Ev (fun k => impl_minimal2.f k next out c) (az next c m, aL out c m) := by
 simp only [impl_minimal2.f, impl_manyIn.f, Option.bind_some]
 rw [eO, hC.many]
 exact dE h hC m 0 (by omega)
end
end
section
variable {b : Int} {m : Nat} {M : List (List Int)} {T : List Int}
structure MOk (b : Int) (m : Nat) (M : List (List Int)) (T : List Int) : Prop where
 len : M.length = m
 tlen : T.length = m
 small : m ≤ 16
 base : 2 ≤ b ∧ b ≤ 4
 row : ∀ v, 0 ≤ v → v < (m : Int) → ((rd_L1 M v).length : Int) = b ∧ ∀ t ∈ rd_L1 M v, 0 ≤ t ∧ t < (m : Int)
def bm (m : Nat) (seen : List Bool) (o : List Int) : Prop := seen.length = m ∧ ∀ v : Nat, v < m → rdOf false seen (v : Int) = decide ((v : Int) ∈ o)
theorem bm.set {seen : List Bool} {o : List Int} {t : Nat} (h : bm m seen o) (ht : t < m) : bm m (seen.set t true) (o ++ [(t : Int)]) := by
 refine ⟨by simp [h.1], fun v hv => ?_⟩
 have := h.2 v hv
 simp only [rdOf, Int.toNat_natCast, List.getD_eq_getElem?_getD] at this ⊢
 rw [List.getElem?_set]
 by_cases e : t = v
 ·subst e
  rw [if_pos rfl, if_pos (by rw [h.1]; exact hv)]
  simp
 ·rw [if_neg e, this]
  have : (v : Int) ≠ (t : Int) := by omega
  simp [this]
theorem ed (hM : MOk b m M T) (i : Nat) (row : List Int) (hrow : ∀ t ∈ row, 0 ≤ t ∧ t < (m : Int)) (hrl : row.length ≤ 64) (hi : i < 64) (o : List Int) (hg : aC m o) (R : List Int)
  (H : ∀ seen, bm m seen (ar o row) → Ev (fun k => impl_reached.l0 k M seen (ar o row) ((i + 1 : Nat) : Int)) R) (d : Nat) : ∀ (n : Nat) (seen : List Bool), n + d = row.length → bm m seen (ar o (row.take n)) →
  Ev (fun k => impl_reached.l1 k M seen (ar o (row.take n)) (i : Int) row (row.length : Int) (n : Int)) R := by
 have hs := hM.small
 induction d with
 | zero =>
  intro n seen hn hse
  refine ab ?_
  simp only [impl_reached.l1]
  rw [List.take_of_length_le (show row.length ≤ n by omega)] at hse ⊢
  rw [wr1 (show (0 : Int) ≤ (i : Int) by omega) (by omega)]
  exact ac (by omega) (H seen hse)
 | succ d ih =>
  intro n seen hn hse
  have hx := hrow _ (al (show n < row.length by omega))
  have hgn := aT (row.take n) o hg (fun t ht => hrow t (List.mem_of_mem_take ht))
  have hgl := hgn.len
  have hsl := hse.1
  obtain ⟨t, ht⟩ := Int.eq_ofNat_of_zero_le hx.1
  have hst := hse.2 t (by omega)
  have htk : ar o (row.take (n + 1)) = if rd row (n : Int) ∈ ar o (row.take n) then ar o (row.take n) else ar o (row.take n) ++ [rd row (n : Int)] := by
   rw [List.take_succ_eq_append_getElem (by omega), ← ah (by omega), bT]
  refine ab ?_
  simp only [impl_reached.l1]
  rw [wr1 (show (0 : Int) ≤ (n : Int) by omega) (by omega)]
  refine aa (by omega) (aa (by omega) (aa (by omega) (aa (by omega) (aa (by omega) (ai (fun e => ?_) (fun e => ?_))))))
  ·rw [ht] at e
   rw [hst, decide_eq_true_eq, ← ht] at e
   rw [if_pos e] at htk
   have := ih (n + 1) seen (by omega) (by rw [htk]; exact hse)
   rw [htk] at this
   exact this
  ·rw [ht] at e
   rw [hst, decide_eq_true_eq, ← ht] at e
   rw [if_neg e] at htk
   refine aa (by omega) ?_
   have := ih (n + 1) (seen.set t true) (by omega) (by rw [htk, ht]; exact hse.set (by omega))
   rw [htk] at this
   rw [show ((rd row (n : Int)) : Int).toNat = t by omega]
   exact this
theorem d6 (hM : MOk b m M T) (f : Nat) : ∀ (i : Nat) (o : List Int) (seen : List Bool), aC m o → i ≤ o.length → m ≤ f + i → bm m seen o → Ev (fun k => impl_reached.l0 k M seen o (i : Int)) (aO (rd_L1 M) f i o) := by
 have hs := hM.small
 have hMl := hM.len
 have hb := hM.base
 induction f with
 | zero =>
  intro i o seen hg hi hf hse
  have := hg.len
  refine ab ?_
  simp only [impl_reached.l0]
  exact ac (by omega) (ad rfl)
 | succ f ih =>
  intro i o seen hg hi hf hse
  have hol := hg.len
  refine ab ?_
  simp only [impl_reached.l0]
  unfold aO
  by_cases hlt : i < o.length
  ·rw [if_pos hlt]
   have hv := hg.2 _ (al hlt)
   have hr := hM.row _ hv.1 hv.2
   refine aa (by omega) (aa (by omega) (aa (by omega) (aa (by omega) ?_)))
   have := ed hM i (rd_L1 M (rd o (i : Int))) hr.2 (by omega) (by omega) o hg (aO (rd_L1 M) f (i + 1) (ar o (rd_L1 M (rd o (i : Int))))) (fun seen' hs' => by
    obtain ⟨e, he⟩ := aM (rd_L1 M (rd o (i : Int))) o
    exact ih (i + 1) _ seen' (aT _ _ hg hr.2) (by rw [he, List.length_append]; omega) (by omega) hs') (rd_L1 M (rd o (i : Int))).length 0 seen (by omega) (by simpa [ar] using hse)
   simpa [ar] using this
  ·rw [if_neg hlt]
   exact ac (by omega) (ad rfl)
def aZ (M : List (List Int)) (m : Nat) : List Int := aO (rd_L1 M) m 0 [0]
theorem d1 (h : 0 < m) : aC m [0] := ⟨by simp, by simp; omega⟩
theorem cx (hM : MOk b m M T) (h0 : 0 < m) : Ev (fun k => impl_reached.f k M) (aZ M m) := by
 have hs := hM.small
 have hMl := hM.len
 simp only [impl_reached.f, Option.bind_some]
 refine aa (by omega) (aa (by omega) (aa (by simp; omega) ?_))
 have := d6 hM m 0 [0] ((List.replicate m false).set 0 true) (d1 h0) (by simp) (by omega) (by
  have : bm m (List.replicate m false) [] := ⟨by simp, fun v hv => by simp [rdOf, List.getD_eq_getElem?_getD, List.getElem?_replicate, hv]⟩
  simpa using this.set (t := 0) h0)
 rw [← hMl]
 rw [← hMl] at this
 exact this
end
section
variable {b : Int} {m : Nat} {M : List (List Int)} {T : List Int}
theorem cb (hM : MOk b m M T) (h0 : 0 < m) : aC m (aZ M m) ∧ aK (rd_L1 M) (aZ M m) (aZ M m).length ∧ (∃ e, aZ M m = [0] ++ e) :=
 c6 (fun v a c => (hM.row v a c).2) m 0 [0] (d1 h0) (by simp) (by omega) (fun v hv => by simp at hv)
def bX (m : Nat) (O names : List Int) (j : Nat) : Prop := names.length = m ∧ ∀ k : Nat, k < j → rd names (rd O (k : Int)) = (k : Int)
theorem bX.set {O names : List Int} {j : Nat} (hO : aC m O) (h : bX m O names j) (hj : j < O.length) : bX m O (names.set (rd O (j : Int)).toNat (j : Int)) (j + 1) := by
 have hv := hO.2 _ (al hj)
 obtain ⟨v, hv'⟩ := Int.eq_ofNat_of_zero_le hv.1
 refine ⟨by simp [h.1], fun k hk => ?_⟩
 have hl := h.1
 by_cases e : k = j
 ·subst e
  rw [hv', Int.toNat_natCast, ah (by simp; omega)]
  simp
 ·have hk' : k < j := by omega
  have hw := hO.2 _ (al (show k < O.length by omega))
  obtain ⟨u, hu⟩ := Int.eq_ofNat_of_zero_le hw.1
  have hne : u ≠ v := by
   intro e'
   have : rd O (k : Int) = rd O (j : Int) := by omega
   rw [ah (by omega), ah (by omega)] at this
   exact e ((List.getElem_inj hO.1).1 this)
  have := h.2 k hk'
  rw [hu, ah (by omega)] at this
  rw [hu, hv', Int.toNat_natCast, ah (by simp; omega), List.getElem_set]
  rw [if_neg (fun e => hne e.symm)]; exact this
theorem bX.pos {O names : List Int} (hO : aC m O) (h : bX m O names O.length) {t : Int} (ht : t ∈ O) : rd names t = aQ O t := by
 obtain ⟨k, hk, e⟩ := List.getElem_of_mem ht
 have := h.2 k hk
 have e2 := cP hO.1 hk
 rw [ah hk, e] at this e2
 rw [this, e2]
theorem dK (hM : MOk b m M T) (O names : List Int) (hO : aC m O) (hC : aK (rd_L1 M) O O.length) (hN : bX m O names O.length) (i : Nat) (hi : i < O.length) (R : (List (List Int)) × List Int)
  (H : Ev (fun k => impl_minimal3.l1 k M T names (ay (rd_L1 M) O (i + 1)) ((O.take (i + 1)).map (fun v => rd T v)) O (O.length : Int) ((i + 1 : Nat) : Int)) R) (d : Nat) : ∀ n : Nat, n + d = (rd_L1 M (rd O (i : Int))).length →
  Ev (fun k => impl_minimal3.l2 k M T names (ay (rd_L1 M) O i) ((O.take i).map (fun v => rd T v)) (rd O (i : Int)) (((rd_L1 M (rd O (i : Int))).take n).map (aQ O)) O (O.length : Int) (i : Int) (rd_L1 M (rd O (i : Int))) ((rd_L1 M (rd O (i : Int))).length : Int) (n : Int)) R := by
 have hv := hO.2 _ (al hi)
 have hr := hM.row _ hv.1 hv.2
 have hs := hM.small
 have hb := hM.base
 have hol := hO.len
 have htl := hM.tlen
 have hnl := hN.1
 induction d with
 | zero =>
  intro n hn
  refine ab ?_
  simp only [impl_minimal3.l2]
  have e1 : ay (rd_L1 M) O (i + 1) = ay (rd_L1 M) O i ++ [(rd_L1 M (rd O (i : Int))).map (aQ O)] := by
   unfold ay; rw [List.take_succ_eq_append_getElem hi, List.map_append, ← ah hi]; rfl
  rw [e1, aP _ _ i hi] at H
  rw [List.take_of_length_le (show (rd_L1 M (rd O (i : Int))).length ≤ n by omega), wr1 (show (0 : Int) ≤ (i : Int) by omega) (by omega)]
  exact ac (by omega) (aa (by simp [ay]; omega) (aa (by omega) (aa (by omega) (aa (by simp; omega) H))))
 | succ d ih =>
  intro n hn
  have hx := hr.2 _ (al (show n < (rd_L1 M (rd O (i : Int))).length by omega))
  have hmem : rd (rd_L1 M (rd O (i : Int))) (n : Int) ∈ O := hC (rd O (i : Int)) (by rw [List.take_length]; exact al hi) _ (al (by omega))
  refine ab ?_
  simp only [impl_minimal3.l2]
  have := ih (n + 1) (by omega)
  rw [aP _ _ n (by omega), ← hN.pos hO hmem] at this
  rw [wr1 (show (0 : Int) ≤ (n : Int) by omega) (by omega)]
  exact aa (by omega) (aa (by omega) (aa (by omega) (aa (by omega) (aa (by omega) (aa (by simp; omega) this)))))
theorem dR (hM : MOk b m M T) (O names : List Int) (hO : aC m O) (hC : aK (rd_L1 M) O O.length) (hN : bX m O names O.length) (d : Nat) : ∀ i : Nat, i + d = O.length →
  Ev (fun k => impl_minimal3.l1 k M T names (ay (rd_L1 M) O i) ((O.take i).map (fun v => rd T v)) O (O.length : Int) (i : Int)) (ay (rd_L1 M) O O.length, O.map (fun v => rd T v)) := by
 have hol := hO.len
 have hs := hM.small
 have hMl := hM.len
 induction d with
 | zero =>
  intro i hi
  refine ab ?_
  simp only [impl_minimal3.l1]
  obtain rfl : i = O.length := by omega
  rw [List.take_length]
  exact ac (by omega) (ad rfl)
 | succ d ih =>
  intro i hi
  have hv := hO.2 _ (al (show i < O.length by omega))
  refine ab ?_
  simp only [impl_minimal3.l1]
  refine aa (by omega) (aa (by omega) (aa (by omega) (aa (by omega) (aa (by omega) ?_))))
  exact dK hM O names hO hC hN i (by omega) _ (ih (i + 1) (by omega)) (rd_L1 M (rd O (i : Int))).length 0 (by omega)
theorem dM (hM : MOk b m M T) (O : List Int) (hO : aC m O) (hC : aK (rd_L1 M) O O.length) (d : Nat) : ∀ (j : Nat) (names : List Int), j + d = O.length → bX m O names j →
  Ev (fun k => impl_minimal3.l0 k M T O names O (O.length : Int) (j : Int)) (ay (rd_L1 M) O O.length, O.map (fun v => rd T v)) := by
 have hol := hO.len
 have hs := hM.small
 induction d with
 | zero =>
  intro j names hj hN
  obtain rfl : j = O.length := by omega
  refine ab ?_
  simp only [impl_minimal3.l0]
  have := dR hM O names hO hC hN O.length 0 (by omega)
  exact ac (by omega) (by simpa [ay] using this)
 | succ d ih =>
  intro j names hj hN
  have hv := hO.2 _ (al (show j < O.length by omega))
  have hl := hN.1
  refine ab ?_
  simp only [impl_minimal3.l0]
  rw [wr1 (show (0 : Int) ≤ (j : Int) by omega) (by omega)]
  exact aa (by omega) (aa (by omega) (aa (by omega) (aa (by omega) (aa (by omega) (ih (j + 1) _ (by omega) (hN.set hO (by omega)))))))
theorem dZ (hM : MOk b m M T) (h0 : 0 < m) : Ev (fun k => impl_minimal3.f k M T) (ay (rd_L1 M) (aZ M m) (aZ M m).length, (aZ M m).map (fun v => rd T v)) := by
 obtain ⟨g1, g2, g3⟩ := cb hM h0
 have hs := hM.small
 have hMl := hM.len
 simp only [impl_minimal3.f]
 refine af (cx hM h0) (aa (by omega) (aa (by omega) ?_))
 exact dM hM _ g1 g2 (aZ M m).length 0 _ (by omega) ⟨by simp [hMl], fun k hk => by omega⟩
end
section
variable {b : Int} {next : List (List Int)} {out c : List Int} {m : Nat}
theorem cs (f : Int → Int) (l : List Int) (i : Nat) (h : i < l.length) : rd (l.map f) (i : Int) = f (rd l (i : Int)) := by
 rw [ah (by simpa using h), ah h]; simp
theorem eg (hC : Cls next out c m) (hnl : next.length ≤ 16) (so : List Int) (hso : ∀ x ∈ so, 0 ≤ x ∧ x < (next.length : Int)) (hg : aC m (so.map fun s => rd c s)) (i : Int) (row : List Int) (hrow : row.length ≤ 64) (n : Int) (tt : Nat) (hto : tt < next.length)
  (rows : List (List Int)) (vals : List Int) (R : Int × (List (List Int)) × List Int × Bool)
  (Hold : rd c (tt : Int) ∈ so.map (fun s => rd c s) → Ev (fun k => spec_MinimalForm.l1 k c so i (row ++ [aQ (so.map fun s => rd c s) (rd c (tt : Int))]) (wrap64 (n + 1)) b next out b rows vals) R)
  (Hnew : rd c (tt : Int) ∉ so.map (fun s => rd c s) → Ev (fun k => spec_MinimalForm.l1 k c (so ++ [(tt : Int)]) i (row ++ [(so.length : Int)]) (wrap64 (n + 1)) b next out b rows vals) R) (d : Nat) :
  ∀ p : Nat, p + d = so.length → (∀ q : Nat, q < p → rd c (rd so (q : Int)) ≠ rd c (tt : Int)) → Ev (fun k => spec_MinimalForm.l2 k c so i row n (tt : Int) (-1) (p : Int) b next out b rows vals) R := by
 have hl := hC.len
 have hp := hC.pos
 have hgl := hg.len
 simp only [List.length_map] at hgl
 induction d with
 | zero =>
  intro p hpd hno
  refine ab ?_
  simp only [spec_MinimalForm.l2]
  refine ac (by omega) (ab ?_)
  simp only [spec_MinimalForm.j3]
  refine ac (by simp) (aa (by omega) (aa (by omega) (aa (by omega) (Hnew (fun hm => ?_)))))
  obtain ⟨x, hx, e⟩ := List.mem_map.1 hm
  obtain ⟨q, hq, rfl⟩ := List.getElem_of_mem hx
  exact hno q (by omega) (by rw [ah hq]; exact e)
 | succ d ih =>
  intro p hpd hno
  have hx := hso _ (al (show p < so.length by omega))
  refine ab ?_
  simp only [spec_MinimalForm.l2]
  refine aa (by omega) (ab ?_)
  simp only [spec_MinimalForm.j3]
  rw [wr1 (show (0 : Int) ≤ (p : Int) by omega) (by omega)]
  refine aa (by simp) (aa (by omega) (aa (by omega) (aa (by omega) (aa (by omega) (aa (by omega) (aa (by omega) (ai (fun e => ?_) (fun e => ?_))))))))
  ·have hmem : rd c (tt : Int) ∈ so.map (fun s => rd c s) := by rw [← e]; exact List.mem_map.2 ⟨_, al (by omega), rfl⟩
   have hpos : aQ (so.map fun s => rd c s) (rd c (tt : Int)) = (p : Int) := by
    have := cP hg.1 (k := p) (by simp; omega)
    rw [cs _ _ p (by omega), e] at this
    exact this
   have H := Hold hmem
   rw [hpos] at H
   refine ab ?_
   simp only [spec_MinimalForm.l2]
   have fin_ : Ev (fun k => spec_MinimalForm.j3 k c so i row n (tt : Int) (p : Int) ((p : Int) + 1) false b next out b rows vals) R := by
    refine ab ?_
    simp only [spec_MinimalForm.j3]
    exact ac (by simp) (ac (by omega) (aa (by omega) H))
   refine ai (fun _ => ?_) (fun _ => fin_)
   rw [decide_eq_false (by omega)]; exact fin_
  ·exact ih (p + 1) (by omega) (fun q hq => by
    by_cases h' : q = p
    ·subst h'; exact e
    ·exact hno q (by omega))
theorem d3 (h : ag b next out = true) (hC : Cls next out c m) (o0 : List Int) (hg0 : aC m o0) (i s : Nat) (hs : s < next.length) (hi : i < o0.length) (rows : List (List Int)) (vals : List Int) (hrv : rows.length ≤ 64 ∧ vals.length ≤ 64) (R : Int × (List (List Int)) × List Int × Bool)
  (H : ∀ so, (∀ x ∈ so, 0 ≤ x ∧ x < (next.length : Int)) → so.map (fun s => rd c s) = ar o0 ((rd_L1 next (s : Int)).map (fun t => rd c t)) → rd so (i : Int) = (s : Int) →
   Ev (fun k => spec_MinimalForm.l0 k c so ((i + 1 : Nat) : Int) b next out b (rows ++ [((rd_L1 next (s : Int)).map (fun t => rd c t)).map (aQ (so.map fun s => rd c s))]) (vals ++ [rd out (s : Int)])) R) (d : Nat) :
  ∀ (n : Nat) (so : List Int), ((n + d : Nat) : Int) = b → (∀ x ∈ so, 0 ≤ x ∧ x < (next.length : Int)) → so.map (fun s => rd c s) = ar o0 (((rd_L1 next (s : Int)).map (fun t => rd c t)).take n) → rd so (i : Int) = (s : Int) →
   Ev (fun k => spec_MinimalForm.l1 k c so (i : Int) ((((rd_L1 next (s : Int)).map (fun t => rd c t)).take n).map (aQ (so.map fun s => rd c s))) (n : Int) b next out b rows vals) R := by
 obtain ⟨h1, h2, h3, h4, h5⟩ := ae h
 have hr := h4 _ (aj hs)
 have hp := hC.pos
 have hcl := hC.len
 have hrow : ∀ t ∈ (rd_L1 next (s : Int)).map (fun t => rd c t), 0 ≤ t ∧ t < (m : Int) := by
  intro t ht
  obtain ⟨x, hx, rfl⟩ := List.mem_map.1 ht
  have hx' := hr.2 x hx
  obtain ⟨x, rfl⟩ := Int.eq_ofNat_of_zero_le hx'.1
  exact hC.bd _ (al (show x < c.length by omega))
 induction d with
 | zero =>
  intro n so hn hso hmap hsi
  have hgn := aT (((rd_L1 next (s : Int)).map (fun t => rd c t)).take n) o0 hg0 (fun t ht => hrow t (List.mem_of_mem_take ht))
  have hgl := hgn.len
  rw [← hmap, List.length_map] at hgl
  obtain ⟨e, he⟩ := aM (((rd_L1 next (s : Int)).map (fun t => rd c t)).take n) o0
  have hil : i < so.length := by
   have := congrArg List.length hmap
   rw [he, List.length_map, List.length_append] at this
   omega
  refine ab ?_
  simp only [spec_MinimalForm.l1]
  rw [List.take_of_length_le (by simp; omega)] at hmap ⊢
  rw [hsi, wr1 (show (0 : Int) ≤ (i : Int) by omega) (by omega)]
  exact ac (by omega) (aa (by omega) (aa (by omega) (aa (by omega) (aa (by omega) (aa (by omega) (aa (by omega) (H so hso hmap hsi)))))))
 | succ d ih =>
  intro n so hn hso hmap hsi
  have hgn := aT (((rd_L1 next (s : Int)).map (fun t => rd c t)).take n) o0 hg0 (fun t ht => hrow t (List.mem_of_mem_take ht))
  rw [← hmap] at hgn
  have hgl := hgn.len
  rw [List.length_map] at hgl
  obtain ⟨e, he⟩ := aM (((rd_L1 next (s : Int)).map (fun t => rd c t)).take n) o0
  have hil : i < so.length := by
   have := congrArg List.length hmap
   rw [he, List.length_map, List.length_append] at this
   omega
  have hnr : n < (rd_L1 next (s : Int)).length := by omega
  have hx := hr.2 _ (al hnr)
  obtain ⟨tt, hto⟩ := Int.eq_ofNat_of_zero_le hx.1
  have hrn : rd ((rd_L1 next (s : Int)).map (fun t => rd c t)) (n : Int) = rd c (tt : Int) := by rw [cs _ _ n hnr, hto]
  have htk : ((rd_L1 next (s : Int)).map (fun t => rd c t)).take (n + 1) = ((rd_L1 next (s : Int)).map (fun t => rd c t)).take n ++ [rd c (tt : Int)] := by
   rw [List.take_succ_eq_append_getElem (by simpa using hnr), ← ah (by simpa using hnr), hrn]
  have hin : ar o0 (((rd_L1 next (s : Int)).map (fun t => rd c t)).take (n + 1)) = if rd c (tt : Int) ∈ so.map (fun s => rd c s) then so.map (fun s => rd c s) else so.map (fun s => rd c s) ++ [rd c (tt : Int)] := by
   rw [htk, bT, ← hmap]
  refine ab ?_
  simp only [spec_MinimalForm.l1]
  rw [hsi, hto]
  refine aa (by omega) (aa (by omega) (aa (by omega) (aa (by omega) (aa (by omega) (aa (by omega) (aa (by omega) ?_))))))
  refine eg hC (by omega) so hso hgn (i : Int) _ (by simp; omega) (n : Int) tt (by omega) rows vals R (fun hm => ?_) (fun hm => ?_) so.length 0 (by omega) (fun q hq => by omega)
  ·rw [if_pos hm] at hin
   have := ih (n + 1) so (by omega) hso hin.symm hsi
   rw [htk, List.map_append] at this
   rw [wr1 (show (0 : Int) ≤ (n : Int) by omega) (by omega)]
   exact this
  ·rw [if_neg hm] at hin
   have := ih (n + 1) (so ++ [(tt : Int)]) (by omega) (fun x hx => by
    rcases List.mem_append.1 hx with h' | h'
    ·exact hso x h'
    ·simp at h'; omega) (by rw [hin, List.map_append]; rfl) (by
    rw [ah (by simp; omega), List.getElem_append_left hil, ← ah hil]; exact hsi)
   rw [htk, List.map_append] at this
   rw [wr1 (show (0 : Int) ≤ (n : Int) by omega) (by omega)]
   have e1 : (((rd_L1 next (s : Int)).map (fun t => rd c t)).take n).map (aQ ((so ++ [(tt : Int)]).map fun s => rd c s)) = (((rd_L1 next (s : Int)).map (fun t => rd c t)).take n).map (aQ (so.map fun s => rd c s)) := by
    refine List.map_congr_left fun t ht => ?_
    rw [List.map_append]
    exact c7 (by rw [hmap]; exact co _ _ t ht)
   have e2 : aQ ((so ++ [(tt : Int)]).map fun s => rd c s) (rd c (tt : Int)) = (so.length : Int) := by
    have hnd : ((so ++ [(tt : Int)]).map fun s => rd c s).Nodup := by
     rw [List.map_append]; exact (hgn.snoc hm (hC.bd _ (al (by omega)))).1
    have := cP hnd (k := so.length) (by simp)
    rw [cs _ _ so.length (by simp), ah (by simp)] at this
    simpa using this
   rw [e1] at this
   simp only [List.map_cons, List.map_nil, e2] at this
   exact this
theorem d_ (h : ag b next out = true) (hC : Cls next out c m) (f : Nat) : ∀ (i : Nat) (so : List Int), (∀ x ∈ so, 0 ≤ x ∧ x < (next.length : Int)) → aC m (so.map fun s => rd c s) → i ≤ so.length → m ≤ f + i → aK (rd_L1 (az next c m)) (so.map fun s => rd c s) i →
  Ev (fun k => spec_MinimalForm.l0 k c so (i : Int) b next out b (ay (rd_L1 (az next c m)) (so.map fun s => rd c s) i) (((so.map fun s => rd c s).take i).map (fun v => rd (aL out c m) v)))
   (b, ay (rd_L1 (az next c m)) (aO (rd_L1 (az next c m)) f i (so.map fun s => rd c s)) (aO (rd_L1 (az next c m)) f i (so.map fun s => rd c s)).length, (aO (rd_L1 (az next c m)) f i (so.map fun s => rd c s)).map (fun v => rd (aL out c m) v), true) := by
 obtain ⟨h1, h2, h3, h4, h5⟩ := ae h
 have hp := hC.pos
 have hcl := hC.len
 induction f with
 | zero =>
  intro i so hso hg hi hf hcl'
  have hgl := hg.len
  rw [List.length_map] at hgl
  have e : i = so.length := by omega
  refine ab ?_
  simp only [spec_MinimalForm.l0]
  refine ac (by omega) (ad ?_)
  subst e
  have e3 : (so.map fun s => rd c s).take so.length = so.map fun s => rd c s := List.take_of_length_le (by simp)
  simp only [aO, List.length_map, e3]
 | succ f ih =>
  intro i so hso hg hi hf hcl'
  have hgl := hg.len
  rw [List.length_map] at hgl
  refine ab ?_
  simp only [spec_MinimalForm.l0]
  unfold aO
  by_cases hlt : i < so.length
  ·rw [if_pos (by simpa using hlt)]
   have hx := hso _ (al hlt)
   obtain ⟨s, hs⟩ := Int.eq_ofNat_of_zero_le hx.1
   have hs' : s < next.length := by omega
   have hrdo : rd (so.map fun s => rd c s) (i : Int) = rd c (s : Int) := by rw [cs _ _ i hlt, hs]
   have hM := hC.mrg hs'
   rw [hrdo, hM]
   refine aa (by omega) ?_
   have hrow : ∀ t ∈ (rd_L1 next (s : Int)).map (fun t => rd c t), 0 ≤ t ∧ t < (m : Int) := by
    intro t ht
    obtain ⟨x, hx, rfl⟩ := List.mem_map.1 ht
    have hx' := (h4 _ (aj hs')).2 x hx
    obtain ⟨x, rfl⟩ := Int.eq_ofNat_of_zero_le hx'.1
    exact hC.bd _ (al (show x < c.length by omega))
   have := d3 h hC (so.map fun s => rd c s) hg i s hs' (by simpa using hlt) (ay (rd_L1 (az next c m)) (so.map fun s => rd c s) i) (((so.map fun s => rd c s).take i).map (fun v => rd (aL out c m) v)) ⟨by simp [ay]; omega, by simp; omega⟩
    (b, ay (rd_L1 (az next c m)) (aO (rd_L1 (az next c m)) f (i + 1) (ar (so.map fun s => rd c s) ((rd_L1 next (s : Int)).map (fun t => rd c t)))) (aO (rd_L1 (az next c m)) f (i + 1) (ar (so.map fun s => rd c s) ((rd_L1 next (s : Int)).map (fun t => rd c t)))).length, (aO (rd_L1 (az next c m)) f (i + 1) (ar (so.map fun s => rd c s) ((rd_L1 next (s : Int)).map (fun t => rd c t)))).map (fun v => rd (aL out c m) v), true)
    (fun so' hso' hmap' hsi' => ?_) b.toNat 0 so (by omega) hso (by simp [ar]) hs
   ·simpa using this
   ·obtain ⟨e, he⟩ := aM ((rd_L1 next (s : Int)).map (fun t => rd c t)) (so.map fun s => rd c s)
    have hlen' : so'.length = so.length + e.length := by
     have := congrArg List.length hmap'
     rw [he, List.length_map, List.length_append, List.length_map] at this
     exact this
    have hcs := bQ (Mf := rd_L1 (az next c m)) (o := so.map fun s => rd c s) (i := i) (by simpa using hlt) hcl'
    have hrs := dU (Mf := rd_L1 (az next c m)) (o := so.map fun s => rd c s) (i := i) (by simpa using hlt) hcl'
    rw [hrdo, hM] at hcs hrs
    have hih := ih (i + 1) so' hso' (by rw [hmap']; exact aT _ _ hg hrow) (by omega) (by omega) (by rw [hmap']; exact hcs)
    rw [hmap', hrs] at hih
    have ev2 : ((ar (so.map fun s => rd c s) ((rd_L1 next (s : Int)).map (fun t => rd c t))).take (i + 1)).map (fun v => rd (aL out c m) v) = ((so.map fun s => rd c s).take i).map (fun v => rd (aL out c m) v) ++ [rd out (s : Int)] := by
     rw [he, List.take_append_of_le_length (by simp; omega), List.take_succ_eq_append_getElem (by simpa using hlt), List.map_append, ← ah (by simpa using hlt), hrdo]
     simp only [List.map_cons, List.map_nil, hC.trm hs']
    rw [ev2] at hih
    rw [hmap']
    exact hih
  ·rw [if_neg (by simpa using hlt)]
   refine ac (by omega) (ad ?_)
   have e : i = so.length := by omega
   subst e
   have e3 : (so.map fun s => rd c s).take so.length = so.map fun s => rd c s := List.take_of_length_le (by simp)
   simp only [List.length_map, e3]
end
def bp (next : List (List Int)) (out : List Int) : List Int := aZ (az next (ax next out) (Numb.many (ax next out))) (Numb.many (ax next out))
def mfN (next : List (List Int)) (out : List Int) : List (List Int) := ay (rd_L1 (az next (ax next out) (Numb.many (ax next out)))) (bp next out) (bp next out).length
def mfO (next : List (List Int)) (out : List Int) : List Int := (bp next out).map (fun v => rd (aL out (ax next out) (Numb.many (ax next out))) v)
section
variable {b : Int} {next : List (List Int)} {out : List Int}
theorem br (h : ag b next out = true) : Cls next out (ax next out) (Numb.many (ax next out)) := by
 obtain ⟨m, hm⟩ := eK h
 have := hm.many
 subst this
 exact hm
theorem mok (h : ag b next out = true) : MOk b (Numb.many (ax next out)) (az next (ax next out) (Numb.many (ax next out))) (aL out (ax next out) (Numb.many (ax next out))) := by
 have hC := br h
 obtain ⟨h1, h2, h3, h4, h5⟩ := ae h
 exact ⟨b1, b3, by have := hC.pos; omega, h1, hC.mrg_row h⟩
theorem cu (h : ag b next out = true) : Ev (fun k => impl_minimal.f k next out) (mfN next out, mfO next out) := by
 have hC := br h
 obtain ⟨h1, h2, h3, h4, h5⟩ := ae h
 have hl := hC.len
 have hp := hC.pos
 simp only [impl_minimal.f]
 refine af (cC h) (aa ⟨by omega, by omega, fun x hx => by have := hC.bd x hx; omega⟩ ?_)
 exact af (ei h hC) (dZ (mok h) hp.1)
theorem dC (h : ag b next out = true) : Ev (fun k => spec_MinimalForm.l0 k (ax next out) [0] 0 b next out b [] []) (b, mfN next out, mfO next out, true) := by
 have hC := br h
 obtain ⟨h1, h2, h3, h4, h5⟩ := ae h
 have hp := hC.pos
 have hz := hC.zero
 have e : ([0] : List Int).map (fun s => rd (ax next out) s) = [0] := by simp [hz]
 have := d_ h hC (Numb.many (ax next out)) 0 [0] (fun x hx => by simp at hx; subst hx; omega) (by rw [e]; exact d1 hp.1) (by simp) (by omega) (fun v hv => by simp at hv)
 rw [e] at this
 exact this
structure MF (b : Int) (N : List (List Int)) (O : List Int) : Prop where
 base : 2 ≤ b ∧ b ≤ 4
 len : O.length = N.length
 size : 1 ≤ N.length ∧ N.length ≤ 16
 row : ∀ r ∈ N, (r.length : Int) = b ∧ ∀ x ∈ r, 0 ≤ x ∧ x < (N.length : Int)
theorem e6 (h : ag b next out = true) : MF b (mfN next out) (mfO next out) := by
 have hC := br h
 have hM := mok h
 have hp := hC.pos
 obtain ⟨h1, h2, h3, h4, h5⟩ := ae h
 obtain ⟨g1, g2, e, g3⟩ := cb hM hp.1
 have hl : (mfN next out).length = (bp next out).length := by simp [mfN, ay]
 have ho : (bp next out).length ≤ Numb.many (ax next out) := g1.len
 have h0 : 1 ≤ (bp next out).length := by
  have := congrArg List.length g3
  unfold bp
  rw [this]; simp
 refine ⟨h1, by rw [hl]; simp [mfO], by omega, fun r hr => ?_⟩
 rw [hl]
 unfold mfN ay at hr
 rw [List.take_length] at hr
 obtain ⟨v, hv, rfl⟩ := List.mem_map.1 hr
 have hv' := g1.2 v hv
 have hr' := hM.row v hv'.1 hv'.2
 refine ⟨by simp; exact hr'.1, fun x hx => ?_⟩
 obtain ⟨t, ht, rfl⟩ := List.mem_map.1 hx
 have hm : t ∈ bp next out := g2 v (by rw [List.take_length]; exact hv) t ht
 have := List.idxOf_lt_length_of_mem hm
 unfold aQ
 omega
end
def aR (b : Int) (next : List (List Int)) (out : List Int) : Int × (List (List Int)) × List Int × Bool :=
 if (av b next out).2.2.2 = true then (b, mfN (av b next out).2.1 (av b next out).2.2.1, mfO (av b next out).2.1 (av b next out).2.2.1, true) else (0, [], [], false)
theorem bu (b : Int) (next : List (List Int)) (out : List Int) : (∃ n o, av b next out = (b, n, o, true) ∧ ag b n o = true ∧ ag b next out = true) ∨ av b next out = (0, [], [], false) := by
 obtain ⟨b', n', o', t, e⟩ : ∃ b' n' o' t, av b next out = (b', n', o', t) := ⟨_, _, _, _, rfl⟩
 cases t with
 | true =>
  obtain ⟨h0, h1, h2⟩ := eu e
  subst h1
  exact .inl ⟨n', o', e, h2, h0⟩
 | false => exact .inr (eJ e)
theorem bM (b : Int) (next : List (List Int)) (out : List Int) (f1 : aA next) (f2 : ao out) : Ev (fun k => impl_MinimalForm.f k b next out) (aR b next out) := by
 simp only [impl_MinimalForm.f]
 refine af (bV b next out f1 f2) ?_
 unfold aR
 rcases bu b next out with ⟨n, o, e, hs, _⟩ | e
 ·rw [e]
  refine aa rfl ?_
  rw [if_pos rfl]
  exact af (cu hs) (ad rfl)
 ·rw [e]
  exact ac (by simp) (ad (by simp))
theorem bL (b : Int) (next : List (List Int)) (out : List Int) (f1 : aA next) (f2 : ao out) : Ev (fun k => spec_MinimalForm.f k b next out) (aR b next out) := by
 simp only [spec_MinimalForm.f]
 refine af (bR b next out f1 f2) ?_
 unfold aR
 rcases bu b next out with ⟨n, o, e, hs, _⟩ | e
 ·rw [e]
  refine aa rfl ?_
  rw [if_pos rfl]
  exact af (bA hs) (dC hs)
 ·rw [e]
  exact ac (by simp) (ad (by simp))
theorem bt (b : Int) (next : List (List Int)) (out : List Int) : (∃ N O, aR b next out = (b, N, O, true) ∧ MF b N O ∧ ag b next out = true) ∨ aR b next out = (0, [], [], false) := by
 unfold aR
 rcases bu b next out with ⟨n, o, e, hs, h0⟩ | e
 ·rw [e, if_pos rfl]
  exact .inl ⟨_, _, rfl, e6 hs, h0⟩
 ·rw [e, if_neg (by simp)]
  exact .inr rfl
def cNI (r : List Int) (m t : Nat) : Nat → Int
 | 0 => 0
 | j + 1 => cNI r m t j + (if (m : Int) + rd r (j : Int) = (t : Int) then 1 else 0)
theorem bk (r : List Int) (m t : Nat) : ∀ j : Nat, 0 ≤ cNI r m t j ∧ cNI r m t j ≤ j
 | 0 => by simp [cNI]
 | j + 1 => by have := bk r m t j; unfold cNI; split <;> omega
def aX (r : List Int) (m d e : Nat) : List Int := mkV (2 * m) (fun t => (if d < e ∧ rd r (d : Int) = (t : Int) then 1 else 0) + cNI r m t (min e d))
def aN (r : List Int) (m e : Nat) : List Int := mkV (2 * m) (fun t => cNI r m t e)
theorem bw (n : Nat) (f g : Nat → Int) (i : Nat) (hi : i < n) (hb : 0 ≤ f i ∧ f i ≤ 1000) (hg : ∀ t, t < n → g t = if t = i then f i + 1 else f t) : (mkV n f).set i (wrap64 (rd (mkV n f) (i : Int) + 1)) = mkV n g := by
 rw [de n f i hi, bY, wr1 hb.1 (by omega)]
 exact aq n _ _ (fun t ht => (hg t ht).symm)
theorem eW (r : List Int) (m d t0 : Nat) (ht : t0 < 2 * m) (hd : d < 100) (h : rd r (d : Int) = (t0 : Int)) : (aX r m d d).set t0 (wrap64 (rd (aX r m d d) (t0 : Int) + 1)) = aX r m d (d + 1) := by
 have hb := bk r m t0 d
 refine bw _ _ _ t0 ht ?_ (fun t _ => ?_)
 ·rw [if_neg (by omega), Nat.min_self]; omega
 ·show (if d < d + 1 ∧ rd r (d : Int) = (t : Int) then 1 else 0) + cNI r m t (min (d + 1) d) = if t = t0 then (if d < d ∧ rd r (d : Int) = (t0 : Int) then 1 else 0) + cNI r m t0 (min d d) + 1 else (if d < d ∧ rd r (d : Int) = (t : Int) then 1 else 0) + cNI r m t (min d d)
  rw [Nat.min_self, show min (d + 1) d = d by omega, if_neg (show ¬ (d < d ∧ rd r (d : Int) = (t0 : Int)) by omega), if_neg (show ¬ (d < d ∧ rd r (d : Int) = (t : Int)) by omega)]
  by_cases e : t = t0
  ·subst e; rw [if_pos rfl, if_pos ⟨by omega, h⟩]; omega
  ·rw [if_neg e, if_neg (by rintro ⟨_, h'⟩; omega)]
theorem eS (r : List Int) (m d k t0 : Nat) (ht : t0 < m) (hk : k < d) (hd : d < 100) (h : rd r (k : Int) = (t0 : Int)) : (aX r m d k).set (m + t0) (wrap64 (rd (aX r m d k) ((m + t0 : Nat) : Int) + 1)) = aX r m d (k + 1) := by
 have hb := bk r m (m + t0) k
 refine bw _ _ _ (m + t0) (by omega) ?_ (fun t _ => ?_)
 ·rw [if_neg (by omega), show min k d = k by omega]; omega
 ·show (if d < k + 1 ∧ rd r (d : Int) = (t : Int) then 1 else 0) + cNI r m t (min (k + 1) d) = if t = m + t0 then (if d < k ∧ rd r (d : Int) = ((m + t0 : Nat) : Int) then 1 else 0) + cNI r m (m + t0) (min k d) + 1 else (if d < k ∧ rd r (d : Int) = (t : Int) then 1 else 0) + cNI r m t (min k d)
  rw [show min k d = k by omega, show min (k + 1) d = k + 1 by omega, if_neg (show ¬ (d < k + 1 ∧ rd r (d : Int) = (t : Int)) by omega), if_neg (show ¬ (d < k ∧ rd r (d : Int) = ((m + t0 : Nat) : Int)) by omega), if_neg (show ¬ (d < k ∧ rd r (d : Int) = (t : Int)) by omega)]
  rw [show cNI r m t (k + 1) = cNI r m t k + (if (m : Int) + rd r (k : Int) = (t : Int) then 1 else 0) from rfl, h]
  by_cases e : t = m + t0
  ·subst e; rw [if_pos (by omega), if_pos rfl]; omega
  ·rw [if_neg (by omega), if_neg e]; omega
theorem eU (r : List Int) (m d k : Nat) (hk : d < k) : aX r m d k = aX r m d (k + 1) := by
 refine aq _ _ _ (fun t _ => ?_)
 rw [show min k d = d by omega, show min (k + 1) d = d by omega]
 congr 1
 by_cases e : rd r (d : Int) = (t : Int)
 ·rw [if_pos ⟨hk, e⟩, if_pos ⟨by omega, e⟩]
 ·rw [if_neg (fun h => e h.2), if_neg (fun h => e h.2)]
theorem c8 (r : List Int) (m k t0 : Nat) (ht : t0 < m) (hk : k < 100) (h : rd r (k : Int) = (t0 : Int)) : (aN r m k).set (m + t0) (wrap64 (rd (aN r m k) ((m + t0 : Nat) : Int) + 1)) = aN r m (k + 1) := by
 have hb := bk r m (m + t0) k
 refine bw _ _ _ (m + t0) (by omega) (by omega) (fun t _ => ?_)
 rw [show cNI r m t (k + 1) = cNI r m t k + (if (m : Int) + rd r (k : Int) = (t : Int) then 1 else 0) from rfl, h]
 by_cases e : t = m + t0
 ·subst e; rw [if_pos (by omega), if_pos rfl]
 ·rw [if_neg (by omega), if_neg e]; omega
def mkR {α : Type} (n : Nat) (F : Nat → α) : List α := (List.range n).map F
theorem au {α : Type} (n : Nat) (F : Nat → α) : (mkR n F).length = n := by simp [mkR]
theorem bE {α : Type} (n : Nat) (F : Nat → α) (i : Nat) (h : i < n) : (mkR n F).take (i + 1) = (mkR n F).take i ++ [F i] := by
 rw [List.take_succ_eq_append_getElem (by rw [au]; exact h)]; simp [mkR]
theorem a5 {α : Type} (n : Nat) (F G : Nat → α) (h : ∀ t, t < n → F t = G t) : mkR n F = mkR n G := List.map_congr_left (fun t ht => h t (List.mem_range.1 ht))
theorem cK {α : Type} (n : Nat) (F : Nat → α) (i : Nat) (v : α) : (mkR n F).set i v = mkR n (fun t => if t = i then v else F t) := by
 apply List.ext_getElem?
 intro t
 rw [List.getElem?_set]
 by_cases ht : t < n
 ·have e : ∀ G : Nat → α, (mkR n G)[t]? = some (G t) := by intro G; simp [mkR, ht]
  rw [e, e]
  by_cases h : i = t
  ·subst h
   rw [if_pos rfl, if_pos (by rw [au]; exact ht), if_pos rfl]
  ·rw [if_neg h, if_neg (fun h' => h h'.symm)]
 ·rw [List.getElem?_eq_none (by rw [au]; omega), List.getElem?_eq_none (by rw [au]; omega)]
  split
  ·rw [if_neg (by rw [au]; omega)]
  ·rfl
theorem bn (n : Nat) (F : Nat → List Int) (i : Nat) (h : i < n) : rd_L1 (mkR n F) (i : Int) = F i := by
 rw [aB (by rw [au]; exact h)]; simp [mkR]
def bb (N : List (List Int)) (m b d : Nat) : List (List Int) := mkR (2 * m) (fun t => if t < m then aX (rd_L1 N (t : Int)) m d b else aN (rd_L1 N ((t - m : Nat) : Int)) m b)
def aJ (N : List (List Int)) (m b : Nat) : List (List (List Int)) := mkR b (fun d => bb N m b d)
def a7 (O : List Int) (v : Int) (m i : Nat) : List Int := mkV (2 * m) (fun t => if m ≤ t ∧ t < m + i then (if rd O ((t - m : Nat) : Int) = v then 1 else 0) else 0)
def cO (m : Nat) : List Int := (List.replicate (2 * m) 0).set 0 1
theorem cQ (O : List Int) (v : Int) (m i : Nat) (hi : i < m) : (a7 O v m i).set (m + i) (if rd O (i : Int) = v then 1 else 0) = a7 O v m (i + 1) := by
 unfold a7
 rw [bY]
 refine aq _ _ _ (fun t _ => ?_)
 by_cases e : t = m + i
 ·subst e
  rw [if_pos rfl, if_pos (show m ≤ m + i ∧ m + i < m + (i + 1) by omega), show m + i - m = i by omega]
 ·rw [if_neg e]
  by_cases h : m ≤ t ∧ t < m + i
  ·rw [if_pos h, if_pos (show m ≤ t ∧ t < m + (i + 1) by omega)]
  ·rw [if_neg h, if_neg (by omega)]
theorem eA (O : List Int) (v : Int) (m i : Nat) (h0 : ¬ rd O (i : Int) = v) : a7 O v m i = a7 O v m (i + 1) := by
 refine aq _ _ _ (fun t _ => ?_)
 by_cases e : t = m + i
 ·subst e
  rw [if_neg (by omega), if_pos (show m ≤ m + i ∧ m + i < m + (i + 1) by omega), show m + i - m = i by omega, if_neg h0]
 ·by_cases h : m ≤ t ∧ t < m + i
  ·rw [if_pos h, if_pos (show m ≤ t ∧ t < m + (i + 1) by omega)]
  ·rw [if_neg h, if_neg (by omega)]
theorem bv (m t : Nat) (h : m + t ≤ 1000) : wrap64 ((m : Int) + (t : Int)) = ((m + t : Nat) : Int) := by rw [wr (by omega) (by omega)]; omega
theorem bS (m : Nat) (h : m ≤ 1000) : wrap64 (2 * (m : Int)) = ((2 * m : Nat) : Int) := by rw [wr (by omega) (by omega)]; omega
section
variable {b : Nat} {N : List (List Int)} {O : List Int}
theorem MF.get (h : MF (b : Int) N O) {i k : Nat} (hi : i < N.length) (hk : k < b) : k < (rd_L1 N (i : Int)).length ∧ ∃ t0 : Nat, rd (rd_L1 N (i : Int)) (k : Int) = (t0 : Int) ∧ t0 < N.length := by
 have hr := h.row _ (aj hi)
 have hx := hr.2 _ (al (show k < (rd_L1 N (i : Int)).length by omega))
 obtain ⟨t0, ht⟩ := Int.eq_ofNat_of_zero_le hx.1
 exact ⟨by omega, t0, ht, by omega⟩
theorem ej (h : MF (b : Int) N O) (d : Nat) (hd : d < b) (A : List (List Int)) (hA : A.length ≤ 64) (i : Nat) (hi : i < N.length) (row col : List Int) (Ms : List (List (List Int))) (R : Int × List Int × (List (List (List Int))) × List Int × Bool)
  (H : Ev (fun k => spec_CountingForm.l2 k (N.length : Int) (d : Int) (A ++ [aX (rd_L1 N (i : Int)) N.length d b]) ((i + 1 : Nat) : Int) (b : Int) N O (b : Int) row Ms col) R) (e : Nat) : ∀ k : Nat, k + e = b →
  Ev (fun kk => spec_CountingForm.l3 kk (N.length : Int) (d : Int) A (i : Int) (aX (rd_L1 N (i : Int)) N.length d k) (k : Int) (b : Int) N O (b : Int) row Ms col) R := by
 have hs := h.size
 have hN0 : ¬ ((N.length : Int) = 0) := by omega
 have hb := h.base
 induction e with
 | zero =>
  intro k hk
  refine ab ?_
  simp only [spec_CountingForm.l3]
  obtain rfl : k = b := by omega
  rw [wr1 (show (0 : Int) ≤ (i : Int) by omega) (by omega)]
  exact ac (by omega) (aa (by omega) H)
 | succ e ih =>
  intro k hk
  obtain ⟨g1, t0, g2, g3⟩ := h.get hi (show k < b by omega)
  have hi' := ih (k + 1) (by omega)
  have hl : (aX (rd_L1 N (i : Int)) N.length d k).length = 2 * N.length := am _ _
  refine ab ?_
  simp only [spec_CountingForm.l3, bH, Nat.mod_eq_of_lt hi, g2]
  refine aa (by omega) (ac hN0 (aa (by omega) (aa (by omega) (aa (by omega) (aa (by omega) (aa (by omega) (ab ?_)))))))
  simp only [spec_CountingForm.j5, bv N.length t0 (by omega), hl, Int.toNat_natCast]
  rw [wr1 (show (0 : Int) ≤ (k : Int) by omega) (by omega)]
  by_cases e1 : k = d
  ·subst e1
   refine aa (by simp) (aa (by omega) (aa (by omega) ?_))
   simp only [Option.bind_some]
   rw [eW _ _ _ t0 (by omega) (by omega) g2]
   exact aa (by omega) (ac (by omega) (ac (by omega) hi'))
  ·refine ac (by simp; omega) (aa (by omega) ?_)
   by_cases e2 : k < d
   ·refine aa (by omega) (aa (by omega) (aa (by omega) ?_))
    rw [eS _ _ _ _ t0 g3 e2 (by omega) g2]
    exact hi'
   ·rw [← eU _ _ _ _ (by omega)] at hi'
    exact ac (by omega) (ac (by omega) hi')
theorem dn (h : MF (b : Int) N O) (d : Nat) (hd : d < b) (A : List (List Int)) (hA : A.length ≤ 64) (i : Nat) (hi : i < N.length) (row col : List Int) (Ms : List (List (List Int))) (R : Int × List Int × (List (List (List Int))) × List Int × Bool)
  (H : Ev (fun k => spec_CountingForm.l2 k (N.length : Int) (d : Int) (A ++ [aN (rd_L1 N (i : Int)) N.length b]) ((N.length + i + 1 : Nat) : Int) (b : Int) N O (b : Int) row Ms col) R) (e : Nat) : ∀ k : Nat, k + e = b →
  Ev (fun kk => spec_CountingForm.l3 kk (N.length : Int) (d : Int) A ((N.length + i : Nat) : Int) (aN (rd_L1 N (i : Int)) N.length k) (k : Int) (b : Int) N O (b : Int) row Ms col) R := by
 have hs := h.size
 have hN0 : ¬ ((N.length : Int) = 0) := by omega
 have hb := h.base
 induction e with
 | zero =>
  intro k hk
  refine ab ?_
  simp only [spec_CountingForm.l3]
  obtain rfl : k = b := by omega
  rw [wr1 (show (0 : Int) ≤ ((N.length + i : Nat) : Int) by omega) (by omega)]
  exact ac (by omega) (aa (by omega) H)
 | succ e ih =>
  intro k hk
  obtain ⟨g1, t0, g2, g3⟩ := h.get hi (show k < b by omega)
  have hi' := ih (k + 1) (by omega)
  have hl : (aN (rd_L1 N (i : Int)) N.length k).length = 2 * N.length := am _ _
  have hmod : (N.length + i) % N.length = i := by rw [Nat.add_mod_left, Nat.mod_eq_of_lt hi]
  refine ab ?_
  simp only [spec_CountingForm.l3, bH, hmod, g2]
  refine aa (by omega) (ac hN0 (aa (by omega) (aa (by omega) (aa (by omega) (aa (by omega) (ac (by omega) (ab ?_)))))))
  simp only [spec_CountingForm.j5, bv N.length t0 (by omega), hl, Int.toNat_natCast]
  rw [wr1 (show (0 : Int) ≤ (k : Int) by omega) (by omega)]
  refine ac (by simp) (ac (by omega) (aa (by omega) (aa (by omega) (aa (by omega) ?_))))
  rw [c8 _ _ _ t0 g3 (by omega) g2]
  exact hi'
theorem ev (r : List Int) (m d : Nat) : List.replicate (2 * m) (0 : Int) = aX r m d 0 := by
 rw [a9]
 refine aq _ _ _ (fun t _ => ?_)
 rw [if_neg (by omega), Nat.zero_min]; rfl
theorem cW (r : List Int) (m : Nat) : List.replicate (2 * m) (0 : Int) = aN r m 0 := by
 rw [a9]
 exact aq _ _ _ (fun t _ => rfl)
theorem dL (h : MF (b : Int) N O) (d : Nat) (hd : d < b) (row col : List Int) (Ms : List (List (List Int))) (hMs : Ms.length ≤ 64) (R : Int × List Int × (List (List (List Int))) × List Int × Bool)
  (H : Ev (fun k => spec_CountingForm.l1 k (N.length : Int) ((d + 1 : Nat) : Int) (b : Int) N O (b : Int) row (Ms ++ [bb N N.length b d]) col) R) (e : Nat) : ∀ i : Nat, i + e = 2 * N.length →
  Ev (fun kk => spec_CountingForm.l2 kk (N.length : Int) (d : Int) ((bb N N.length b d).take i) (i : Int) (b : Int) N O (b : Int) row Ms col) R := by
 have hs := h.size
 have hb := h.base
 induction e with
 | zero =>
  intro i hi
  refine ab ?_
  simp only [spec_CountingForm.l2, bS N.length (by omega)]
  rw [List.take_of_length_le (by unfold bb; rw [au]; omega), wr1 (show (0 : Int) ≤ (d : Int) by omega) (by omega)]
  exact ac (by omega) (aa (by omega) H)
 | succ e ih =>
  intro i hi
  have hi' := ih (i + 1) (by omega)
  have htk : (bb N N.length b d).take (i + 1) = (bb N N.length b d).take i ++ [if i < N.length then aX (rd_L1 N (i : Int)) N.length d b else aN (rd_L1 N ((i - N.length : Nat) : Int)) N.length b] := bE _ _ i (by omega)
  have hA : ((bb N N.length b d).take i).length ≤ 64 := by rw [List.length_take]; omega
  rw [htk] at hi'
  refine ab ?_
  simp only [spec_CountingForm.l2, bS N.length (by omega), Int.toNat_natCast]
  refine aa (by omega) (aa (by omega) (aa (by omega) ?_))
  by_cases hlt : i < N.length
  ·rw [if_pos hlt] at hi'
   rw [ev (rd_L1 N (i : Int)) N.length d]
   exact ej h d hd _ hA i hlt row col Ms R hi' b 0 (by omega)
  ·rw [if_neg hlt] at hi'
   obtain ⟨i', rfl⟩ : ∃ i', i = N.length + i' := ⟨i - N.length, by omega⟩
   rw [show N.length + i' - N.length = i' by omega] at hi'
   rw [cW (rd_L1 N (i' : Int)) N.length]
   exact dn h d hd _ hA i' (by omega) row col Ms R hi' b 0 (by omega)
theorem dO (h : MF (b : Int) N O) (row col : List Int) (e : Nat) : ∀ d : Nat, d + e = b → Ev (fun kk => spec_CountingForm.l1 kk (N.length : Int) (d : Int) (b : Int) N O (b : Int) row ((aJ N N.length b).take d) col) ((b : Int), row, aJ N N.length b, col, true) := by
 have hb := h.base
 induction e with
 | zero =>
  intro d hd
  refine ab ?_
  simp only [spec_CountingForm.l1]
  rw [List.take_of_length_le (by unfold aJ; rw [au]; omega)]
  exact ac (by omega) (ad rfl)
 | succ e ih =>
  intro d hd
  have hi' := ih (d + 1) (by omega)
  have htk : (aJ N N.length b).take (d + 1) = (aJ N N.length b).take d ++ [bb N N.length b d] := bE _ _ d (by omega)
  rw [htk] at hi'
  refine ab ?_
  simp only [spec_CountingForm.l1]
  refine aa (by omega) ?_
  exact dL h d (by omega) row col _ (by rw [List.length_take]; omega) _ hi' (2 * N.length) 0 (by omega)
theorem em (h : MF (b : Int) N O) (v : Int) (row : List Int) (e : Nat) : ∀ i : Nat, i + e = N.length → Ev (fun kk => spec_CountingForm.l0 kk v (N.length : Int) (i : Int) (b : Int) N O (b : Int) row (a7 O v N.length i)) ((b : Int), row, aJ N N.length b, a7 O v N.length N.length, true) := by
 have hs := h.size
 have hol := h.len
 induction e with
 | zero =>
  intro i hi
  obtain rfl : i = N.length := by omega
  refine ab ?_
  simp only [spec_CountingForm.l0]
  exact ac (by omega) (dO h row _ b 0 (by omega))
 | succ e ih =>
  intro i hi
  have hi' := ih (i + 1) (by omega)
  have hl : (a7 O v N.length i).length = 2 * N.length := am _ _
  refine ab ?_
  simp only [spec_CountingForm.l0, bv N.length i (by omega), hl, Int.toNat_natCast]
  rw [wr1 (show (0 : Int) ≤ (i : Int) by omega) (by omega)]
  refine aa (by omega) (aa (by omega) (aa (by omega) (ai (fun e1 => ?_) (fun e1 => ?_))))
  ·refine aa (by omega) (aa (by omega) ?_)
   have := cQ O v N.length i (by omega)
   rw [if_pos e1] at this
   rw [this]; exact hi'
  ·rw [eA O v N.length i e1]; exact hi'
theorem cR (O : List Int) (v : Int) (m : Nat) : List.replicate (2 * m) (0 : Int) = a7 O v m 0 := by
 rw [a9]
 exact aq _ _ _ (fun t _ => (if_neg (by omega)).symm)
end
def a8 (r : List Int) (m d e : Nat) : List Int := mkV (2 * m) (fun t => (if rd r (d : Int) = (t : Int) then 1 else 0) + cNI r m t (min e d))
theorem eB (r : List Int) (m d t0 : Nat) (ht : t0 < 2 * m) (h : rd r (d : Int) = (t0 : Int)) : (List.replicate (2 * m) (0 : Int)).set t0 (wrap64 (rd (List.replicate (2 * m) (0 : Int)) (t0 : Int) + 1)) = a8 r m d 0 := by
 rw [a9]
 refine bw _ _ _ t0 ht (by omega) (fun t _ => ?_)
 show (if rd r (d : Int) = (t : Int) then 1 else 0) + cNI r m t (min 0 d) = if t = t0 then 0 + 1 else 0
 rw [Nat.zero_min, show cNI r m t 0 = 0 from rfl, h]
 by_cases e : t = t0
 ·subst e; rw [if_pos rfl, if_pos rfl]; omega
 ·rw [if_neg (by omega), if_neg e]; omega
theorem eR (r : List Int) (m d k t0 : Nat) (ht : t0 < m) (hk : k < d) (hd : d < 100) (h : rd r (k : Int) = (t0 : Int)) : (a8 r m d k).set (m + t0) (wrap64 (rd (a8 r m d k) ((m + t0 : Nat) : Int) + 1)) = a8 r m d (k + 1) := by
 have hb := bk r m (m + t0) k
 refine bw _ _ _ (m + t0) (by omega) ?_ (fun t _ => ?_)
 ·rw [show min k d = k by omega]; split <;> omega
 ·show (if rd r (d : Int) = (t : Int) then 1 else 0) + cNI r m t (min (k + 1) d) = if t = m + t0 then (if rd r (d : Int) = ((m + t0 : Nat) : Int) then 1 else 0) + cNI r m (m + t0) (min k d) + 1 else (if rd r (d : Int) = (t : Int) then 1 else 0) + cNI r m t (min k d)
  rw [show min k d = k by omega, show min (k + 1) d = k + 1 by omega]
  rw [show cNI r m t (k + 1) = cNI r m t k + (if (m : Int) + rd r (k : Int) = (t : Int) then 1 else 0) from rfl, h]
  by_cases e : t = m + t0
  ·subst e; rw [if_pos (show (m : Int) + (t0 : Int) = ((m + t0 : Nat) : Int) by omega), if_pos (show m + t0 = m + t0 from rfl)]; omega
  ·rw [if_neg (show ¬ (m : Int) + (t0 : Int) = (t : Int) by omega), if_neg e]; omega
theorem eT (r : List Int) (m d k : Nat) (hk : d ≤ k) : a8 r m d k = a8 r m d (k + 1) := by
 unfold a8
 rw [show min k d = d by omega, show min (k + 1) d = d by omega]
theorem eN (r : List Int) (m d b : Nat) (hd : d < b) : a8 r m d b = aX r m d b := by
 refine aq _ _ _ (fun t _ => ?_)
 congr 1
 by_cases e : rd r (d : Int) = (t : Int)
 ·rw [if_pos e, if_pos ⟨hd, e⟩]
 ·rw [if_neg e, if_neg (fun h => e h.2)]
def zer (m : Nat) : List Int := List.replicate (2 * m) 0
def Gd (N : List (List Int)) (m b d i : Nat) : Nat → List Int := fun t => if t < i then aX (rd_L1 N (t : Int)) m d b else if m ≤ t ∧ t < m + i then aN (rd_L1 N ((t - m : Nat) : Int)) m b else zer m
def Hd_ (N : List (List Int)) (m b d i e : Nat) : Nat → List Int := fun t => if t = i then a8 (rd_L1 N (i : Int)) m d e else if t = m + i then aN (rd_L1 N (i : Int)) m e else Gd N m b d i t
theorem eZ (N : List (List Int)) (m b d i t : Nat) : (Gd N m b d i t).length = 2 * m := by
 unfold Gd
 split
 ·exact am _ _
 ·split
  ·exact am _ _
  ·simp [zer]
theorem er (n : Nat) (hn : n ≤ 1000) (d : Nat) : ∀ i : Nat, i + d = n → Ev (fun k => impl_square.l0 k (n : Int) ((mkR n (fun _ => List.replicate n (0 : Int))).take i) (n : Int) (i : Int)) (mkR n (fun _ => List.replicate n (0 : Int))) := by
 induction d with
 | zero =>
  intro i hi
  refine ab ?_
  simp only [impl_square.l0]
  rw [List.take_of_length_le (by rw [au]; omega)]
  exact ac (by omega) (ad rfl)
 | succ d ih =>
  intro i hi
  have hi' := ih (i + 1) (by omega)
  rw [bE n _ i (by omega)] at hi'
  have hl : ((mkR n (fun _ => List.replicate n (0 : Int))).take i).length ≤ n := by rw [List.length_take]; omega
  refine ab ?_
  simp only [impl_square.l0, Int.toNat_natCast]
  rw [wr1 (show (0 : Int) ≤ (i : Int) by omega) (by omega)]
  exact aa (by omega) (aa (by omega) (aa (by omega) (aa (by omega) hi')))
section
variable {b : Nat} {N : List (List Int)} {O : List Int}
theorem eQ (i d : Nat) (hi : i < N.length) (t0 : Nat) (ht : t0 < N.length) (h : rd (rd_L1 N (i : Int)) (d : Int) = (t0 : Int)) :
  (mkR (2 * N.length) (Gd N N.length b d i)).set i ((rd_L1 (mkR (2 * N.length) (Gd N N.length b d i)) (i : Int)).set t0 (wrap64 (rd (rd_L1 (mkR (2 * N.length) (Gd N N.length b d i)) (i : Int)) (t0 : Int) + 1))) = mkR (2 * N.length) (Hd_ N N.length b d i 0) := by
 rw [bn _ _ i (by omega)]
 have e : Gd N N.length b d i i = zer N.length := by unfold Gd; rw [if_neg (by omega), if_neg (by omega)]
 rw [e, cK]
 refine a5 _ _ _ (fun t _ => ?_)
 unfold Hd_
 by_cases e1 : t = i
 ·rw [if_pos e1, if_pos e1]
  exact eB _ _ _ t0 (by omega) h
 ·rw [if_neg e1, if_neg e1]
  by_cases e2 : t = N.length + i
  ·rw [if_pos e2]
   subst e2
   unfold Gd
   rw [if_neg (by omega), if_neg (by omega)]
   exact cW _ _
  ·rw [if_neg e2]
theorem e5 (i d : Nat) (hi : i < N.length) (hd : d < b) : mkR (2 * N.length) (Hd_ N N.length b d i b) = mkR (2 * N.length) (Gd N N.length b d (i + 1)) := by
 refine a5 _ _ _ (fun t _ => ?_)
 unfold Hd_ Gd
 by_cases e1 : t = i
 ·subst e1
  rw [if_pos rfl, if_pos (by omega)]
  exact eN _ _ _ _ hd
 ·rw [if_neg e1]
  by_cases e2 : t = N.length + i
  ·subst e2
   rw [if_pos rfl, if_neg (by omega), if_pos ⟨by omega, by omega⟩, show N.length + i - N.length = i by omega]
  ·rw [if_neg e2]
   by_cases e3 : t < i
   ·rw [if_pos e3, if_pos (by omega)]
   ·rw [if_neg e3, if_neg (show ¬ t < i + 1 by omega)]
    by_cases e4 : N.length ≤ t ∧ t < N.length + i
    ·rw [if_pos e4, if_pos (show N.length ≤ t ∧ t < N.length + (i + 1) by omega)]
    ·rw [if_neg e4, if_neg (show ¬ (N.length ≤ t ∧ t < N.length + (i + 1)) by omega)]
theorem e8 (i d e : Nat) (hi : i < N.length) (t0 : Nat) (ht : t0 < N.length) (h : rd (rd_L1 N (i : Int)) (e : Int) = (t0 : Int)) (he : e < d) (hd : d < 100) :
  (mkR (2 * N.length) (Hd_ N N.length b d i e)).set i ((rd_L1 (mkR (2 * N.length) (Hd_ N N.length b d i e)) (i : Int)).set (N.length + t0) (wrap64 (rd (rd_L1 (mkR (2 * N.length) (Hd_ N N.length b d i e)) (i : Int)) ((N.length + t0 : Nat) : Int) + 1)))
   = mkR (2 * N.length) (fun t => if t = i then a8 (rd_L1 N (i : Int)) N.length d (e + 1) else if t = N.length + i then aN (rd_L1 N (i : Int)) N.length e else Gd N N.length b d i t) := by
 rw [bn _ _ i (by omega)]
 have e0 : Hd_ N N.length b d i e i = a8 (rd_L1 N (i : Int)) N.length d e := by unfold Hd_; rw [if_pos rfl]
 rw [e0, eR _ _ _ _ t0 ht he hd h, cK]
 refine a5 _ _ _ (fun t _ => ?_)
 by_cases e1 : t = i
 ·rw [if_pos e1, if_pos e1]
 ·rw [if_neg e1, if_neg e1]; unfold Hd_; rw [if_neg e1]
theorem eo (F : List Int) (i d e : Nat) (hi : i < N.length) (t0 : Nat) (ht : t0 < N.length) (h : rd (rd_L1 N (i : Int)) (e : Int) = (t0 : Int)) (he : e < 100) :
  (mkR (2 * N.length) (fun t => if t = i then F else if t = N.length + i then aN (rd_L1 N (i : Int)) N.length e else Gd N N.length b d i t)).set (N.length + i)
   ((rd_L1 (mkR (2 * N.length) (fun t => if t = i then F else if t = N.length + i then aN (rd_L1 N (i : Int)) N.length e else Gd N N.length b d i t)) ((N.length + i : Nat) : Int)).set (N.length + t0) (wrap64 (rd (rd_L1 (mkR (2 * N.length) (fun t => if t = i then F else if t = N.length + i then aN (rd_L1 N (i : Int)) N.length e else Gd N N.length b d i t)) ((N.length + i : Nat) : Int)) ((N.length + t0 : Nat) : Int) + 1)))
   = mkR (2 * N.length) (fun t => if t = i then F else if t = N.length + i then aN (rd_L1 N (i : Int)) N.length (e + 1) else Gd N N.length b d i t) := by
 rw [bn _ _ (N.length + i) (by omega)]
 rw [if_neg (show ¬ (N.length + i = i) by omega), if_pos (show N.length + i = N.length + i from rfl), c8 _ _ _ t0 ht he h, cK]
 refine a5 _ _ _ (fun t _ => ?_)
 by_cases e1 : t = N.length + i
 ·subst e1; rw [if_pos rfl, if_neg (show ¬ (N.length + i = i) by omega), if_pos rfl]
 ·rw [if_neg e1]
  by_cases e2 : t = i
  ·rw [if_pos e2, if_pos e2]
  ·rw [if_neg e2, if_neg e2, if_neg e1, if_neg e1]
theorem fa (h : MF (b : Int) N O) (d : Nat) (hd : d < b) (i : Nat) (hi : i < N.length) (R : List (List Int))
  (H : Ev (fun k => impl_digitMatrix.l0 k (N.length : Int) (d : Int) (mkR (2 * N.length) (Gd N N.length b d (i + 1))) N (N.length : Int) ((i + 1 : Nat) : Int)) R) (c : Nat) : ∀ e : Nat, e + c = b →
  Ev (fun k => impl_digitMatrix.l1 k (N.length : Int) (d : Int) (mkR (2 * N.length) (Hd_ N N.length b d i e)) (i : Int) N (N.length : Int) (i : Int) (rd_L1 N (i : Int)) ((rd_L1 N (i : Int)).length : Int) (e : Int)) R := by
 have hs := h.size
 have hb := h.base
 have hrl := (h.row _ (aj hi)).1
 induction c with
 | zero =>
  intro e he
  refine ab ?_
  simp only [impl_digitMatrix.l1]
  obtain rfl : e = b := by omega
  rw [wr1 (show (0 : Int) ≤ (i : Int) by omega) (by omega), e5 i d hi hd]
  exact ac (by omega) H
 | succ c ih =>
  intro e he
  obtain ⟨g1, t0, g2, g3⟩ := h.get hi (show e < b by omega)
  have hi' := ih (e + 1) (by omega)
  have hl : (mkR (2 * N.length) (Hd_ N N.length b d i e)).length = 2 * N.length := au _ _
  have hV : ∀ x y z w : _, (a8 x y z w).length = 2 * y := fun x y z w => am _ _
  have hL : ∀ x y z : _, (aN x y z).length = 2 * y := fun x y z => am _ _
  refine ab ?_
  simp only [impl_digitMatrix.l1, g2, bv N.length t0 (by omega), bv N.length i (by omega), Int.toNat_natCast, hl]
  rw [wr1 (show (0 : Int) ≤ (e : Int) by omega) (by omega)]
  refine aa (by omega) (aa (by omega) (aa (by omega) ?_))
  by_cases e1 : e < d
  ·rw [e8 i d e hi t0 g3 g2 e1 (by omega), bn _ _ i (by omega)]
   have e0 : (Hd_ N N.length b d i e i).length = 2 * N.length := by unfold Hd_; rw [if_pos rfl]; exact hV _ _ _ _
   rw [e0]
   refine aa (by omega) (aa (by omega) (aa (by omega) (aa (by omega) (aa (by omega) ?_))))
   simp only [Option.bind_some]
   rw [eo _ i d e hi t0 g3 g2 (by omega), bn _ _ (N.length + i) (by omega)]
   rw [if_neg (show ¬ (N.length + i = i) by omega), if_pos (show N.length + i = N.length + i from rfl), hL]
   exact aa (by omega) (aa (by omega) (aa (by omega) hi'))
  ·have e0 : Hd_ N N.length b d i e = (fun t => if t = i then a8 (rd_L1 N (i : Int)) N.length d e else if t = N.length + i then aN (rd_L1 N (i : Int)) N.length e else Gd N N.length b d i t) := rfl
   have e2 : Hd_ N N.length b d i (e + 1) = (fun t => if t = i then a8 (rd_L1 N (i : Int)) N.length d e else if t = N.length + i then aN (rd_L1 N (i : Int)) N.length (e + 1) else Gd N N.length b d i t) := by unfold Hd_; rw [← eT _ _ _ _ (by omega)]
   rw [e2] at hi'
   rw [e0, eo _ i d e hi t0 g3 g2 (by omega), bn _ _ (N.length + i) (by omega)]
   rw [if_neg (show ¬ (N.length + i = i) by omega), if_pos (show N.length + i = N.length + i from rfl), hL]
   exact ac (by omega) (aa (by omega) (aa (by omega) (aa (by omega) (aa (by omega) hi'))))
theorem e_ (h : MF (b : Int) N O) (d : Nat) (hd : d < b) (c : Nat) : ∀ i : Nat, i + c = N.length →
  Ev (fun k => impl_digitMatrix.l0 k (N.length : Int) (d : Int) (mkR (2 * N.length) (Gd N N.length b d i)) N (N.length : Int) (i : Int)) (bb N N.length b d) := by
 have hs := h.size
 have hb := h.base
 induction c with
 | zero =>
  intro i hi
  refine ab ?_
  simp only [impl_digitMatrix.l0]
  refine ac (by omega) (ad ?_)
  refine a5 _ _ _ (fun t ht => ?_)
  unfold Gd
  obtain rfl : i = N.length := by omega
  by_cases e : t < N.length
  ·rw [if_pos e, if_pos e]
  ·rw [if_neg e, if_neg e, if_pos (show N.length ≤ t ∧ t < N.length + N.length by omega)]
 | succ c ih =>
  intro i hi
  have hil : i < N.length := by omega
  obtain ⟨g1, t0, g2, g3⟩ := h.get hil hd
  have hi' := fa h d hd i hil _ (ih (i + 1) (by omega)) b 0 (by omega)
  have hl : (mkR (2 * N.length) (Gd N N.length b d i)).length = 2 * N.length := au _ _
  have e0 : (rd_L1 (mkR (2 * N.length) (Gd N N.length b d i)) (i : Int)).length = 2 * N.length := by rw [bn _ _ i (by omega)]; exact eZ _ _ _ _ _ _
  refine ab ?_
  simp only [impl_digitMatrix.l0, g2, Int.toNat_natCast, hl, e0]
  rw [eQ i d hil t0 g3 g2]
  exact aa (by omega) (aa (by omega) (aa (by omega) (aa (by omega) (aa (by omega) (aa (by omega) (aa (by omega) (aa (by omega) hi')))))))
theorem e9 (h : MF (b : Int) N O) (d : Nat) (hd : d < b) : Ev (fun k => impl_digitMatrix.f k N (N.length : Int) (d : Int)) (bb N N.length b d) := by
 have hs := h.size
 simp only [impl_digitMatrix.f, impl_square.f, bS N.length (by omega)]
 refine af (er (2 * N.length) (by omega) (2 * N.length) 0 (by omega)) ?_
 have := e_ h d hd N.length 0 (by omega)
 have e : mkR (2 * N.length) (fun _ => List.replicate (2 * N.length) (0 : Int)) = mkR (2 * N.length) (Gd N N.length b d 0) := by
  refine a5 _ _ _ (fun t _ => ?_)
  unfold Gd
  rw [if_neg (by omega), if_neg (by omega)]; rfl
 rw [e]
 exact this
theorem dQ (h : MF (b : Int) N O) (row col : List Int) (e : Nat) : ∀ d : Nat, d + e = b → Ev (fun kk => impl_CountingForm2.l1 kk (N.length : Int) (b : Int) (d : Int) (b : Int) N O (b : Int) row ((aJ N N.length b).take d) col) ((b : Int), row, aJ N N.length b, col, true) := by
 have hb := h.base
 induction e with
 | zero =>
  intro d hd
  refine ab ?_
  simp only [impl_CountingForm2.l1]
  rw [List.take_of_length_le (by unfold aJ; rw [au]; omega)]
  exact ac (by omega) (ad rfl)
 | succ e ih =>
  intro d hd
  have hi' := ih (d + 1) (by omega)
  have htk : (aJ N N.length b).take (d + 1) = (aJ N N.length b).take d ++ [bb N N.length b d] := bE _ _ d (by omega)
  rw [htk] at hi'
  have hl : ((aJ N N.length b).take d).length ≤ d := by rw [List.length_take]; omega
  refine ab ?_
  simp only [impl_CountingForm2.l1]
  rw [wr1 (show (0 : Int) ≤ (d : Int) by omega) (by omega)]
  exact aa (by omega) (af (e9 h d (by omega)) (aa (by omega) hi'))
theorem ek (h : MF (b : Int) N O) (v : Int) (row : List Int) (e : Nat) : ∀ i : Nat, i + e = O.length → Ev (fun kk => impl_CountingForm2.l0 kk v (N.length : Int) O (O.length : Int) (i : Int) (b : Int) N O (b : Int) row (a7 O v N.length i)) ((b : Int), row, aJ N N.length b, a7 O v N.length N.length, true) := by
 have hs := h.size
 have hol := h.len
 induction e with
 | zero =>
  intro i hi
  obtain rfl : i = N.length := by omega
  refine ab ?_
  simp only [impl_CountingForm2.l0]
  exact ac (by omega) (dQ h row _ b 0 (by omega))
 | succ e ih =>
  intro i hi
  have hi' := ih (i + 1) (by omega)
  have hl : (a7 O v N.length i).length = 2 * N.length := am _ _
  rw [← cQ O v N.length i (by omega)] at hi'
  refine ab ?_
  simp only [impl_CountingForm2.l0, bv N.length i (by omega), hl, Int.toNat_natCast, eL, beq_iff_eq, Option.bind_some]
  rw [wr1 (show (0 : Int) ≤ (i : Int) by omega) (by omega)]
  exact aa (by omega) (aa (by omega) (aa (by omega) (aa (by omega) (aa (by omega) hi'))))
def a6 (b : Int) (next : List (List Int)) (out : List Int) (v : Int) : Int × List Int × (List (List (List Int))) × List Int × Bool :=
 if (aR b next out).2.2.2 = true ∧ 0 ≤ v ∧ v ≤ 3 then (b, cO (aR b next out).2.1.length, aJ (aR b next out).2.1 (aR b next out).2.1.length b.toNat, a7 (aR b next out).2.2.1 v (aR b next out).2.1.length (aR b next out).2.1.length, true) else (0, [], [], [], false)
theorem ex (v : Int) : impl_isTerm.f v = some (decide (0 ≤ v ∧ v ≤ 3)) := by
 unfold impl_isTerm.f
 by_cases h : v ≥ 0
 ·rw [if_pos h]; simp [show 0 ≤ v from h]
 ·rw [if_neg h]; simp [show ¬ 0 ≤ v from h]
theorem bD (b : Int) (next : List (List Int)) (out : List Int) (v : Int) (f1 : aA next) (f2 : ao out) : Ev (fun k => impl_CountingForm.f k b next out v) (a6 b next out v) := by
 simp only [impl_CountingForm.f]
 refine af (bM b next out f1 f2) ?_
 unfold a6
 rcases bt b next out with ⟨N, O, e, hM, _⟩ | e
 ·rw [e]
  simp only [impl_CountingForm2.f, ex, Option.bind_some, true_and]
  refine aa trivial ?_
  obtain ⟨c, rfl⟩ := Int.eq_ofNat_of_zero_le (show 0 ≤ b by have := hM.base; omega)
  have hs := hM.size
  by_cases hv : 0 ≤ v ∧ v ≤ 3
  ·rw [if_pos hv, decide_eq_true hv]
   refine ab ?_
   simp only [impl_CountingForm2.j0, bS N.length (by omega), Int.toNat_natCast, Option.bind_some]
   have := ek hM v (cO N.length) O.length 0 (by omega)
   rw [← cR] at this
   exact ac (by simp) (aa (by omega) (aa (by omega) (aa (by simp; omega) this)))
  ·rw [if_neg hv, decide_eq_false hv]
   refine ab ?_
   simp only [impl_CountingForm2.j0]
   exact aa (by simp) (ad rfl)
 ·rw [e]
  simp only [impl_CountingForm2.f]
  rw [if_neg (by simp)]
  refine ac (by simp) (ab ?_)
  simp only [impl_CountingForm2.j0]
  exact aa trivial (ad rfl)
theorem bF (b : Int) (next : List (List Int)) (out : List Int) (v : Int) (f1 : aA next) (f2 : ao out) : Ev (fun k => spec_CountingForm.f k b next out v) (a6 b next out v) := by
 simp only [spec_CountingForm.f]
 refine af (bL b next out f1 f2) ?_
 unfold a6
 rcases bt b next out with ⟨N, O, e, hM, _⟩ | e
 ·rw [e]
  simp only [a3, Option.bind_some, true_and]
  refine aa trivial ?_
  obtain ⟨c, rfl⟩ := Int.eq_ofNat_of_zero_le (show 0 ≤ b by have := hM.base; omega)
  have hs := hM.size
  by_cases hv : 0 ≤ v ∧ v ≤ 3
  ·rw [if_pos hv, decide_eq_true hv]
   refine ab ?_
   simp only [spec_CountingForm.j0, bS N.length (by omega), Int.toNat_natCast, Option.bind_some]
   have := em hM v (cO N.length) N.length 0 (by omega)
   rw [← cR] at this
   exact ac (by simp) (aa (by omega) (aa (by omega) (aa (by simp; omega) this)))
  ·rw [if_neg hv, decide_eq_false hv]
   refine ab ?_
   simp only [spec_CountingForm.j0]
   exact aa (by simp) (ad rfl)
 ·rw [e]
  rw [if_neg (by simp)]
  refine ac (by simp) (ab ?_)
  simp only [spec_CountingForm.j0]
  exact aa trivial (ad rfl)
end
theorem cM {n : Nat} {f : Nat → Int} {x : Int} (h : x ∈ mkV n f) : ∃ t, t < n ∧ x = f t := by
 unfold mkV at h
 obtain ⟨t, ht, rfl⟩ := List.mem_map.1 h
 exact ⟨t, List.mem_range.1 ht, rfl⟩
theorem bC {n : Nat} {r : List Int} (h : r.length = n) (hs : ∀ x ∈ r, -9 ≤ x ∧ x ≤ 9) : aI n r = true := by
 unfold aI
 simp only [Bool.and_eq_true, decide_eq_true_eq, List.all_eq_true]
 exact ⟨h, fun x hx => by simpa [aD] using hs x hx⟩
theorem eV {b : Nat} {N : List (List Int)} {m d : Nat} (hb : b ≤ 4) (hd : d < b) : bi (2 * m) (bb N m b d) = true := by
 unfold bi bb
 simp only [Bool.and_eq_true, decide_eq_true_eq, List.all_eq_true]
 refine ⟨au _ _, fun r hr => ?_⟩
 obtain ⟨t, ht, rfl⟩ := List.mem_map.1 hr
 split
 ·refine bC (am _ _) (fun x hx => ?_)
  obtain ⟨t', ht', rfl⟩ := cM hx
  have := bk (rd_L1 N (t : Int)) m t' (min b d)
  split <;> omega
 ·refine bC (am _ _) (fun x hx => ?_)
  obtain ⟨t', ht', rfl⟩ := cM hx
  have := bk (rd_L1 N ((t - m : Nat) : Int)) m t' b
  omega
theorem eI {b : Nat} {N : List (List Int)} {O : List Int} (h : MF (b : Int) N O) (v : Int) : aw (b : Int) (cO N.length) (aJ N N.length b) (a7 O v N.length N.length) = true := by
 have hs := h.size
 have hb := h.base
 have hr : (cO N.length).length = 2 * N.length := by simp [cO]
 unfold aw
 simp only [Bool.and_eq_true, decide_eq_true_eq, List.all_eq_true]
 refine ⟨⟨⟨⟨⟨hb, by omega⟩, bC rfl (fun x hx => ?_)⟩, ?_⟩, by unfold aJ; rw [au]⟩, fun M hM => ?_⟩
 ·rcases List.mem_or_eq_of_mem_set hx with h' | rfl
  ·have := List.eq_of_mem_replicate h'; omega
  ·omega
 ·rw [hr]
  refine bC (am _ _) (fun x hx => ?_)
  obtain ⟨t, ht, rfl⟩ := cM hx
  split
  ·split <;> omega
  ·omega
 ·rw [hr]
  obtain ⟨d, hd, rfl⟩ := List.mem_map.1 hM
  exact eV (by omega) (List.mem_range.1 hd)
theorem ep {b : Int} {row : List Int} {mats : List (List (List Int))} {col : List Int} (h : aw b row mats col = true) : ao row ∧ cE mats ∧ ao col := by
 obtain ⟨h1, h2, h3, h4, h5⟩ := ap h
 refine ⟨by unfold ao; omega, ⟨by omega, fun m hm => ⟨by have := (h5 m hm).1; omega, fun r hr => by have := (h5 m hm).2 r hr; unfold ao; omega⟩⟩, by unfold ao; omega⟩
theorem cq {b : Nat} {row : List Int} {mats : List (List (List Int))} {col : List Int} (h : aw (b : Int) row mats col = true) (n : Int) (hn : 0 ≤ n ∧ n < ((b ^ 16 : Nat) : Int)) : Ev (fun k => impl_Linear_evaluate.f k (b : Int) row mats col n) (bz (b : Int) row mats col n) := by
 obtain ⟨g1, g2, g3, g4, g5⟩ := ap h
 unfold bz
 rw [if_pos ⟨h, hn⟩]
 obtain ⟨m, rfl⟩ := Int.eq_ofNat_of_zero_le hn.1
 have hp := bU (show b ≤ 4 by omega) (show 16 ≤ 16 by omega)
 have hm := dc b (by omega) m m (Nat.le_refl _)
 have hl := db b (by omega) 16 m (by omega)
 simp only [impl_Linear_evaluate.f]
 refine eM (cn row (by omega)) (af (cJ m b (by omega) (by omega) (by omega)) ?_)
 exact dF h _ (by omega) hm (a_ m b).length 0 row (by omega) rfl
def bo (b : Int) (next : List (List Int)) (out : List Int) (v n : Int) : Int :=
 if (a6 b next out v).2.2.2.2 = true ∧ 0 ≤ n ∧ n < ((b.toNat ^ 16 : Nat) : Int) then bz b (a6 b next out v).2.1 (a6 b next out v).2.2.1 (a6 b next out v).2.2.2.1 n else -1
theorem cd (b : Int) (next : List (List Int)) (out : List Int) (v : Int) : (∃ (c : Nat) (r : List Int) (M : List (List (List Int))) (l : List Int), b = (c : Int) ∧ a6 b next out v = (b, r, M, l, true) ∧ aw b r M l = true) ∨ a6 b next out v = (0, [], [], [], false) := by
 unfold a6
 rcases bt b next out with ⟨N, O, e, hM, _⟩ | e
 ·rw [e]
  by_cases hv : 0 ≤ v ∧ v ≤ 3
  ·rw [if_pos ⟨rfl, hv⟩]
   obtain ⟨c, rfl⟩ := Int.eq_ofNat_of_zero_le (show 0 ≤ b by have := hM.base; omega)
   exact .inl ⟨c, _, _, _, rfl, rfl, eI hM v⟩
  ·rw [if_neg (fun h => hv h.2)]
   exact .inr rfl
 ·rw [e, if_neg (by simp)]
  exact .inr rfl
theorem bK (b : Int) (next : List (List Int)) (out : List Int) (v n : Int) (f1 : aA next) (f2 : ao out) : Ev (fun k => impl_CountByForm.f k b next out v n) (bo b next out v n) := by
 simp only [impl_CountByForm.f]
 refine af (bD b next out v f1 f2) ?_
 unfold bo
 rcases cd b next out v with ⟨c, r, M, l, rfl, e, hl⟩ | e
 ·rw [e]
  obtain ⟨g1, g2, g3, g4, g5⟩ := ap hl
  refine aa rfl (af (cp n c (by omega)) (ai (fun hn => ?_) (fun hn => ad ?_)))
  ·rw [decide_eq_true_eq] at hn
   rw [if_pos ⟨rfl, hn⟩]
   exact af (cq hl n hn) (ad rfl)
  ·rw [decide_eq_true_eq] at hn
   rw [if_neg (fun h => hn h.2)]
 ·rw [e]
  exact ac (by simp) (ad (by simp))
theorem bN (b : Int) (next : List (List Int)) (out : List Int) (v n : Int) (f1 : aA next) (f2 : ao out) : Ev (fun k => spec_CountByForm.f k b next out v n) (bo b next out v n) := by
 simp only [spec_CountByForm.f]
 refine af (bF b next out v f1 f2) ?_
 unfold bo
 rcases cd b next out v with ⟨c, r, M, l, rfl, e, hl⟩ | e
 ·rw [e]
  obtain ⟨g1, g2, g3, g4, g5⟩ := ap hl
  obtain ⟨f3, f4, f5⟩ := ep hl
  refine aa rfl (ai (fun h0 => ad (by rw [if_neg (by omega)])) (fun h0 => af (aW c (by omega) (by omega)) (ai (fun hn => ad ?_) (fun hn => ?_))))
  ·rw [if_neg (fun h => by have := h.2.2; rw [Int.toNat_natCast] at this; omega)]
  ·rw [if_pos ⟨rfl, by omega, by rw [Int.toNat_natCast]; omega⟩]
   exact af (bs _ r M l n f3 f4 f5) (ad rfl)
 ·rw [e]
  exact ac (by simp) (ad (by simp))
def psF (b : Int) (next : List (List Int)) (out : List Int) (n : Int) : Nat → Nat → Int → Int
 | 0, _, s => s
 | d + 1, v, s => if bo b next out (v : Int) n < 0 then -1 else psF b next out n d (v + 1) (wrap64 (s + wrap64 ((v : Int) * bo b next out (v : Int) n)))
theorem b8 (b : Int) (next : List (List Int)) (out : List Int) (n : Int) (f1 : aA next) (f2 : ao out) (d : Nat) : ∀ (v : Nat) (s : Int), v + d = 4 → Ev (fun k => impl_PrefixSum.l0 k n s (v : Int) b next out) (psF b next out n d v s) := by
 induction d with
 | zero =>
  intro v s hv
  refine ab ?_
  simp only [impl_PrefixSum.l0]
  exact ac (by omega) (ad rfl)
 | succ d ih =>
  intro v s hv
  refine ab ?_
  simp only [impl_PrefixSum.l0]
  unfold psF
  refine aa (by omega) (af (bK b next out (v : Int) n f1 f2) ?_)
  rw [wr1 (show (0 : Int) ≤ (v : Int) by omega) (by omega)]
  by_cases h : bo b next out (v : Int) n < 0
  ·rw [if_pos h]; exact aa h (ad rfl)
  ·rw [if_neg h]; exact ac h (ih (v + 1) _ (by omega))
theorem b7 (b : Int) (next : List (List Int)) (out : List Int) (n : Int) (f1 : aA next) (f2 : ao out) : Ev (fun k => impl_PrefixSum.f k b next out n) (psF b next out n 3 1 0) := by
 simp only [impl_PrefixSum.f]
 exact b8 b next out n f1 f2 3 1 0 (by omega)
theorem b6 (b : Int) (next : List (List Int)) (out : List Int) (n : Int) (f1 : aA next) (f2 : ao out) (d : Nat) : ∀ (v : Nat) (s : Int), v + d = 4 → Ev (fun k => spec_PrefixSum.l0 k n s (v : Int) b next out) (psF b next out n d v s) := by
 induction d with
 | zero =>
  intro v s hv
  refine ab ?_
  simp only [spec_PrefixSum.l0]
  exact ac (by omega) (ad rfl)
 | succ d ih =>
  intro v s hv
  refine ab ?_
  simp only [spec_PrefixSum.l0]
  unfold psF
  refine aa (by omega) (af (bN b next out (v : Int) n f1 f2) ?_)
  rw [wr1 (show (0 : Int) ≤ (v : Int) by omega) (by omega)]
  by_cases h : bo b next out (v : Int) n < 0
  ·rw [if_pos h]; exact aa h (ad rfl)
  ·rw [if_neg h]; exact ac h (ih (v + 1) _ (by omega))
theorem b9 (b : Int) (next : List (List Int)) (out : List Int) (n : Int) (f1 : aA next) (f2 : ao out) : Ev (fun k => spec_PrefixSum.f k b next out n) (psF b next out n 3 1 0) := by
 simp only [spec_PrefixSum.f]
 exact b6 b next out n f1 f2 3 1 0 (by omega)
theorem FnExactPrefixSum : ∀ (b : Int) (next : List (List Int)) (out : List Int) (n : Int), next.length ≤ 9223372036854775807 → (∀ r ∈ next, r.length ≤ 9223372036854775807) → out.length ≤ 9223372036854775807 →
  ∃ k, laws_FnExactPrefixSum.f k b next out n = some true := by
 intro b next out n h2 h3 h4
 refine Ev.rounds (g := fun k => laws_FnExactPrefixSum.f k b next out n) ?_
 simp only [laws_FnExactPrefixSum.f]
 obtain ⟨m, hm, hm1, hm2⟩ := cG b next out h2 h3 h4 1048576 (by omega) (by omega)
 refine af hm (ai (fun h => ad rfl) (fun h => ?_))
 obtain ⟨f2, f3⟩ := hm2 (by omega)
 refine af (be b next out f2 f3) (af (b9 b next out n f2 f3) ?_)
 refine af (be b next out f2 f3) (af (b7 b next out n f2 f3) (aa rfl ?_))
 exact af (be b next out f2 f3) (af (c0 b next out f2 f3) (aa rfl (ad rfl)))
end Go.Proofs.Ytgmfjcckmapkbaa.Pure
