/- For all numbers the program's GapLengths answers what the reference's answers, in memory of its own. No conditions beyond the given statement. -/
import Derived.Test.YtjdnbakmeieknaaPFnExactGapLengthsx4
set_option linter.unusedVariables false
set_option linter.unusedSimpArgs false
namespace Go.Proofs.Ytjdnbakmeieknaa.Pure
open Go.RowKit Go.Proofs.Ytjdnbakmeieknaa.PFnExactGapLengths Go.Proofs.YtjdnbakmeieknaaW.PrintWords Go.Proofs.YtjdnbakmeieknaaW.PrintLast

theorem ev_succ {α : Type} {g : Nat → Option α} {r : α} (h : Ev (fun k => g (k + 1)) r) : Ev g r := Ev.step (fun _ => rfl) h
theorem ev_some {α : Type} {r r' : α} (h : r = r') : Ev (fun _ => some r) r' := by subst h; exact Ev.now r
theorem ev_pos {α : Type} {c : Prop} [Decidable c] {g f : Nat → Option α} {r : α} (hc : c) (h : Ev g r) : Ev (fun k => if c then g k else f k) r := by
  simp only [if_pos hc]; exact h
theorem ev_neg {α : Type} {c : Prop} [Decidable c] {g f : Nat → Option α} {r : α} (hc : ¬ c) (h : Ev f r) : Ev (fun k => if c then g k else f k) r := by
  simp only [if_neg hc]; exact h
theorem ev_ite {α : Type} {c : Prop} [Decidable c] {g f : Nat → Option α} {r : α} (h : c → Ev g r) (h' : ¬ c → Ev f r) : Ev (fun k => if c then g k else f k) r := by
  by_cases hc : c
  · exact ev_pos hc (h hc)
  · exact ev_neg hc (h' hc)
theorem ev_bind {α β : Type} {g : Nat → Option α} {f : Nat → α → Option β} {a : α} {r : β} (h : Ev g a) (k : Ev (fun n => f n a) r) : Ev (fun n => (g n).bind (f n)) r := Ev.bind h k
theorem ev_bind0 {α β : Type} {o : Option α} {f : Nat → α → Option β} {a : α} {r : β} (h : o = some a) (k : Ev (fun n => f n a) r) : Ev (fun n => o.bind (f n)) r := by
  subst h; exact k
theorem ev_eq {α : Type} {g : Nat → Option α} {r r' : α} (h : Ev g r) (e : r = r') : Ev g r' := e ▸ h
theorem ev_const {α : Type} {o : Option α} {r : α} (h : o = some r) : Ev (fun _ => o) r := by subst h; exact Ev.now r
theorem wr {n : Int} (h0 : -9223372036854775808 ≤ n) (h1 : n ≤ 9223372036854775807) : wrap64 n = n := by unfold wrap64; omega
theorem wr1 {i : Int} (h0 : 0 ≤ i) (h1 : i ≤ 4611686018427387904) : wrap64 (i + 1) = i + 1 := wr (by omega) (by omega)
theorem wr_nat {n : Nat} (h : n ≤ 4611686018427387904) : wrap64 (n : Int) = n := wr (by omega) (by omega)
theorem rd_nat (l : List Int) (i : Nat) : rd l (i : Int) = l.getD i 0 := by simp [rd]
theorem rd_get {l : List Int} {i : Nat} (h : i < l.length) : rd l (i : Int) = l[i] := by
  simp [rd, List.getD_eq_getElem?_getD, List.getElem?_eq_getElem h]
theorem drop_rd {l : List Int} {i : Nat} (h : i < l.length) : l.drop i = rd l (i : Int) :: l.drop (i + 1) := by
  rw [rd_get h]; exact List.drop_eq_getElem_cons h
theorem rd_mem {l : List Int} {i : Nat} (h : i < l.length) : rd l (i : Int) ∈ l := by rw [rd_get h]; exact List.getElem_mem h


theorem eqIntS_l0 (l : List Int) (hn : l.length ≤ 4611686018427387904) (d : Nat) : ∀ (i : Nat), i + d = l.length → Ev (fun k => laws_eqIntS.l0 k l l (i : Int)) true := by
  induction d with
  | zero =>
    intro i hi
    refine ev_succ ?_
    simp only [laws_eqIntS.l0]
    exact ev_neg (by omega) (ev_some rfl)
  | succ d ih =>
    intro i hi
    refine ev_succ ?_
    simp only [laws_eqIntS.l0, wr1 (show (0 : Int) ≤ (i : Int) by omega) (by omega)]
    exact ev_pos (by omega) (ev_pos (by omega) (ev_pos (by omega) (ev_pos trivial (ih (i + 1) (by omega)))))
theorem eqIntS_ev (l : List Int) (hn : l.length ≤ 4611686018427387904) : Ev (fun k => laws_eqIntS.f k l l) true := by
  simp only [laws_eqIntS.f]
  exact ev_pos trivial (eqIntS_l0 l hn l.length 0 (by omega))


def marks (m : Int) : Nat → List Int
  | 0 => []
  | n + 1 => m :: marks (m + 1) n
theorem marks_length (n : Nat) : ∀ m, (marks m n).length = n := by
  induction n with
  | zero => intro m; rfl
  | succ n ih => intro m; simp [marks, ih]
theorem marks_get (n : Nat) : ∀ (m : Int) (i : Nat), i < n → (marks m n)[i]? = some (m + i) := by
  induction n with
  | zero => intro m i h; omega
  | succ n ih =>
    intro m i h
    cases i with
    | zero => simp [marks]
    | succ i => simp only [marks, List.getElem?_cons_succ]; rw [ih (m + 1) i (by omega)]; congr 1; omega
theorem markIntS_l0 (n : Nat) (m : Int) (h0 : 0 ≤ m) (hm : m + n ≤ 4611686018427387904) (d : Nat) : ∀ (i : Nat) (x : List Int), x.length = n → i + d = n → (∀ j, j < i → x[j]? = some (m + j)) →
    Ev (fun k => laws_markIntS.l0 k x (m + i) (i : Int)) (m + n, marks m n) := by
  induction d with
  | zero =>
    intro i x hx hi hj
    refine ev_succ ?_
    simp only [laws_markIntS.l0]
    refine ev_neg (by omega) (ev_some ?_)
    have : i = n := by omega
    subst this
    congr 1
    apply List.ext_getElem?
    intro j
    by_cases h : j < i
    · rw [hj j h, marks_get i m j h]
    · rw [List.getElem?_eq_none (by omega), List.getElem?_eq_none (by rw [marks_length]; omega)]
  | succ d ih =>
    intro i x hx hi hj
    refine ev_succ ?_
    simp only [laws_markIntS.l0, wr1 (show (0 : Int) ≤ (i : Int) by omega) (by omega), wr1 (show (0 : Int) ≤ m + (i : Int) by omega) (by omega)]
    refine ev_pos (by omega) (ev_pos (by omega) ?_)
    have := ih (i + 1) (x.set i (m + i)) (by simp [hx]) (by omega) (by
      intro j hj'
      rw [List.getElem?_set]
      by_cases e : i = j
      · subst e
        rw [if_pos rfl, if_pos (by omega)]
      · rw [if_neg e]; exact hj j (by omega))
    rw [Int.toNat_natCast, Int.add_assoc]
    exact this
theorem markIntS_ev (l : List Int) (m : Int) (h0 : 0 ≤ m) (hm : m + l.length ≤ 4611686018427387904) : Ev (fun k => laws_markIntS.f k l m) (m + l.length, marks m l.length) := by
  simp only [laws_markIntS.f]
  have := markIntS_l0 l.length m h0 hm l.length 0 l rfl (by omega) (by intro j hj; omega)
  simpa using this
theorem heldIntS_l0 (n : Nat) (m : Int) (h0 : 0 ≤ m) (hm : m + n ≤ 4611686018427387904) (d : Nat) : ∀ (i : Nat), i + d = n → 
    Ev (fun k => laws_heldIntS.l0 k (marks m n) (m + i) (i : Int)) (m + n) := by
  induction d with
  | zero =>
    intro i hi
    refine ev_succ ?_
    simp only [laws_heldIntS.l0, marks_length]
    refine ev_neg (by omega) (ev_some ?_)
    omega
  | succ d ih =>
    intro i hi
    refine ev_succ ?_
    simp only [laws_heldIntS.l0, marks_length, wr1 (show (0 : Int) ≤ (i : Int) by omega) (by omega), wr1 (show (0 : Int) ≤ m + (i : Int) by omega) (by omega)]
    refine ev_pos (by omega) (ev_pos (by omega) (ev_pos ?_ ?_))
    · have h := marks_get n m i (by omega)
      rw [rd_nat, List.getD_eq_getElem?_getD, h]; rfl
    · have := ih (i + 1) (by omega)
      rw [Int.add_assoc]
      exact this
theorem heldIntS_ev (m : Int) (n : Nat) (h0 : 0 ≤ m) (hm : m + n ≤ 4611686018427387904) : Ev (fun k => laws_heldIntS.f k (marks m n) m) (m + n) := by
  simp only [laws_heldIntS.f]
  have := heldIntS_l0 n m h0 hm n 0 (by omega)
  simpa using this


theorem tmod_nat (a b : Nat) : Int.tmod (a : Int) (b : Int) = ((a % b : Nat) : Int) := by
  rw [Int.tmod_eq_emod_of_nonneg (by omega)]; exact (Int.natCast_emod a b).symm
theorem tdiv_nat (a b : Nat) : Int.tdiv (a : Int) (b : Int) = ((a / b : Nat) : Int) := by
  rw [Int.tdiv_eq_ediv_of_nonneg (by omega)]; exact (Int.natCast_ediv a b).symm
theorem gcd_step (a b : Nat) (h : b ≠ 0) : Nat.gcd a b = Nat.gcd b (a % b) := by
  rw [Nat.gcd_comm a b, Nat.gcd_rec b a, Nat.gcd_comm]
theorem impl_gcd_l0 (n : Nat) : ∀ (a b : Nat), b ≤ n → Ev (fun k => impl_gcd.l0 k (a : Int) (b : Int)) ((Nat.gcd a b : Nat) : Int) := by
  induction n with
  | zero =>
    intro a b h
    obtain rfl : b = 0 := by omega
    refine ev_succ ?_
    simp only [impl_gcd.l0]
    exact ev_pos (by omega) (ev_some (by simp))
  | succ n ih =>
    intro a b h
    refine ev_succ ?_
    simp only [impl_gcd.l0, tmod_nat]
    refine ev_ite (fun h0 => ev_some ?_) (fun h0 => ?_)
    · obtain rfl : b = 0 := by omega
      simp
    · rw [gcd_step a b (by omega)]
      exact ih b (a % b) (by have := Nat.mod_lt a (show b > 0 by omega); omega)
theorem impl_gcd_ev (a b : Nat) : Ev (fun k => impl_gcd.f k (a : Int) (b : Int)) ((Nat.gcd a b : Nat) : Int) := by
  simp only [impl_gcd.f]; exact impl_gcd_l0 b a b (Nat.le_refl _)


theorem spec_l10Gcd_l0 (n : Nat) : ∀ (a b : Nat), b ≤ n → Ev (fun k => spec_l10Gcd.l0 k (a : Int) (b : Int)) ((Nat.gcd a b : Nat) : Int) := by
  induction n with
  | zero =>
    intro a b h
    obtain rfl : b = 0 := by omega
    refine ev_succ ?_
    simp only [spec_l10Gcd.l0]
    exact ev_neg (by omega) (ev_some (by simp))
  | succ n ih =>
    intro a b h
    refine ev_succ ?_
    simp only [spec_l10Gcd.l0, tmod_nat]
    refine ev_ite (fun h0 => ?_) (fun h0 => ev_some ?_)
    · refine ev_neg (by omega) ?_
      rw [gcd_step a b (by omega)]
      exact ih b (a % b) (by have := Nat.mod_lt a (show b > 0 by omega); omega)
    · obtain rfl : b = 0 := by omega
      simp
theorem spec_l10Gcd_ev (a b : Nat) : Ev (fun k => spec_l10Gcd.f k (a : Int) (b : Int)) ((Nat.gcd a b : Nat) : Int) := by
  simp only [spec_l10Gcd.f]; exact spec_l10Gcd_l0 b a b (Nat.le_refl _)


theorem l1In_eq (a b c : Int) : spec_l1In.f a b c = some (decide (b ≤ a ∧ a ≤ c)) := by
  unfold spec_l1In.f
  by_cases h : a ≥ b
  · rw [if_pos h]; simp [show b ≤ a from h]
  · rw [if_neg h]; simp [show ¬ b ≤ a from h]


theorem pt_split (L : List Nat) (f : Nat → Nat) (q : Nat) : ((L.filter (fun i => decide (f i < q + 1))).map f).Perm (((L.filter (fun i => decide (f i < q))).map f) ++ ((L.filter (fun i => decide (f i = q))).map fun _ => q)) := by
  induction L with
  | nil => simp
  | cons i L ih =>
    by_cases h1 : f i < q
    · simp [List.filter_cons, h1, show f i < q + 1 by omega, show ¬ f i = q by omega]
      simpa using ih
    · by_cases h2 : f i = q
      · simp only [List.filter_cons, h2, show ¬ q < q by omega, show q < q + 1 by omega, decide_true, if_true, decide_false, Bool.false_eq_true, if_false, List.map_cons]
        exact (List.Perm.cons q ih).trans (List.perm_middle.symm)
      · simp [List.filter_cons, h1, h2, show ¬ f i < q + 1 by omega]
        simpa using ih
def ptRow (L : List Nat) (f : Nat → Nat) (x : Nat) : List Nat := (L.filter (fun i => decide (f i = x))).map fun _ => x
theorem pt_perm (L : List Nat) (f : Nat → Nat) (q : Nat) : ((List.range q).flatMap (ptRow L f)).Perm ((L.filter (fun i => decide (f i < q))).map f) := by
  induction q with
  | zero => simp
  | succ q ih =>
    rw [List.range_succ, List.flatMap_append]
    refine List.Perm.trans ?_ (pt_split L f q).symm
    simp only [List.flatMap_cons, List.flatMap_nil, List.append_nil]
    exact ih.append_right _
def ptF (p q i : Nat) : Nat := i * p % q
def ptN (p q n : Nat) : List Nat := (List.range q).flatMap (ptRow (List.range n) (ptF p q))
def ptL (p q n : Nat) : List Int := (ptN p q n).map fun x : Nat => (x : Int)
def ptM (p q n : Nat) : List Int := (List.range n).map fun i => ((ptF p q i : Nat) : Int)
theorem ptN_sorted (p q n : Nat) : (ptN p q n).Pairwise (fun a b => a ≤ b) := by
  unfold ptN
  rw [List.pairwise_flatMap]
  refine ⟨fun a _ => ?_, List.pairwise_le_range.imp ?_⟩
  · unfold ptRow
    rw [List.pairwise_map]
    exact List.pairwise_of_forall (fun _ _ => Nat.le_refl _)
  · intro a b hab x hx y hy
    simp only [ptRow, List.mem_map] at hx hy
    obtain ⟨_, _, rfl⟩ := hx
    obtain ⟨_, _, rfl⟩ := hy
    exact hab
theorem pt_sort (p q n : Nat) (hq : 0 < q) : ((ptM p q n).mergeSort fun x y => decide (x ≤ y)) = ptL p q n := by
  refine List.Perm.eq_of_pairwise (le := fun a b : Int => a ≤ b) (fun a b _ _ h h' => by omega) ?_ ?_ ?_
  · exact (List.pairwise_mergeSort (le := fun x y : Int => decide (x ≤ y)) (fun a b c h h' => by simp at *; omega) (fun a b => by simp; omega) _).imp (fun h => by simpa using h)
  · unfold ptL
    rw [List.pairwise_map]
    exact (ptN_sorted p q n).imp (fun h => by omega)
  · refine (List.mergeSort_perm _ _).trans ?_
    have h := pt_perm (List.range n) (ptF p q) q
    rw [List.filter_eq_self.2 (fun i _ => by simp [ptF, Nat.mod_lt _ hq])] at h
    have h2 := (h.map (fun x : Nat => (x : Int))).symm
    rw [List.map_map] at h2
    exact h2
theorem ptL_length (p q n : Nat) (hq : 0 < q) : (ptL p q n).length = n := by
  rw [← pt_sort p q n hq]; simp [ptM]
def ptOk (p q n : Int) : Bool := decide ((1 ≤ q ∧ q ≤ 200) ∧ (0 ≤ p ∧ p ≤ q - 1) ∧ (1 ≤ n ∧ n ≤ q)) && decide (Nat.gcd p.toNat q.toNat = 1)
def ptRes (p q n : Int) : List Int × Bool := if ptOk p q n = true then (ptL p.toNat q.toNat n.toNat, true) else ([], false)
theorem pt_mul {i p q : Nat} (hq : q ≤ 200) (hp : p < q) (hi : i ≤ 200) : wrap64 ((i : Int) * (p : Int)) = ((i * p : Nat) : Int) := by
  have : i * p ≤ 200 * 200 := Nat.mul_le_mul hi (by omega)
  rw [← Int.natCast_mul, wr_nat (by omega)]
def ptSome (p q x i d : Nat) : List Int := ((List.range' i d).filter (fun i => decide (ptF p q i = x))).map fun _ => (x : Int)
theorem ptSome_hit {p q x i d : Nat} (h : ptF p q i = x) : ptSome p q x i (d + 1) = (x : Int) :: ptSome p q x (i + 1) d := by
  simp [ptSome, List.range'_succ, List.filter_cons, h]
theorem ptSome_miss {p q x i d : Nat} (h : ¬ ptF p q i = x) : ptSome p q x i (d + 1) = ptSome p q x (i + 1) d := by
  simp [ptSome, List.range'_succ, List.filter_cons, h]
theorem ptSome_length (p q x i d : Nat) : (ptSome p q x i d).length ≤ d := by
  unfold ptSome
  rw [List.length_map]
  exact Nat.le_trans (List.length_filter_le _ _) (by simp)
theorem spec_PointsOf_l1 (p q n x : Nat) (hq : q ≤ 200) (hp : p < q) (hn : n ≤ q) (hx : x < q) (r : List Int × Bool) (d : Nat) : ∀ (i : Nat) (acc : List Int), i + d = n → acc.length ≤ 200 * x + i →
    Ev (fun k => spec_PointsOf.l0 k (p : Int) (q : Int) (n : Int) (acc ++ ptSome p q x i d) ((x + 1 : Nat) : Int)) r →
    Ev (fun k => spec_PointsOf.l1 k (p : Int) (q : Int) (n : Int) acc (x : Int) (i : Int)) r := by
  induction d with
  | zero =>
    intro i acc hi ha hE
    refine ev_succ ?_
    simp only [spec_PointsOf.l1]
    refine ev_neg (by omega) ?_
    rw [wr1 (by omega) (by omega)]
    simpa [ptSome] using hE
  | succ d ih =>
    intro i acc hi ha hE
    refine ev_succ ?_
    simp only [spec_PointsOf.l1]
    rw [pt_mul hq hp (by omega), tmod_nat, wr1 (by omega) (by omega)]
    refine ev_pos (by omega) (ev_neg (by omega) ?_)
    by_cases h : ptF p q i = x
    · rw [ptSome_hit h] at hE
      refine ev_pos (by unfold ptF at h; omega) (ev_pos (by omega) ?_)
      exact ih (i + 1) (acc ++ [(x : Int)]) (by omega) (by simp; omega) (by simpa using hE)
    · rw [ptSome_miss h] at hE
      refine ev_neg (by unfold ptF at h; omega) ?_
      exact ih (i + 1) acc (by omega) (by omega) hE
theorem ptRow_eq (p q n x : Nat) : ptSome p q x 0 n = (ptRow (List.range n) (ptF p q) x).map fun x : Nat => (x : Int) := by
  simp [ptSome, ptRow, List.range_eq_range']
theorem spec_PointsOf_l0 (p q n : Nat) (hq : q ≤ 200) (hp : p < q) (hn : n ≤ q) (d : Nat) : ∀ (x : Nat) (acc : List Int), x + d = q → acc.length ≤ 200 * x →
    Ev (fun k => spec_PointsOf.l0 k (p : Int) (q : Int) (n : Int) acc (x : Int)) (acc ++ ((List.range' x d).flatMap (ptRow (List.range n) (ptF p q))).map (fun x : Nat => (x : Int)), true) := by
  induction d with
  | zero =>
    intro x acc hx ha
    refine ev_succ ?_
    simp only [spec_PointsOf.l0]
    exact ev_neg (by omega) (ev_some (by simp))
  | succ d ih =>
    intro x acc hx ha
    refine ev_succ ?_
    simp only [spec_PointsOf.l0]
    refine ev_pos (by omega) ?_
    have hl := ptSome_length p q x 0 n
    refine spec_PointsOf_l1 p q n x hq hp hn (by omega) _ n 0 acc (by omega) (by omega) (ev_eq (ih (x + 1) (acc ++ ptSome p q x 0 n) (by omega) (by simp; omega)) ?_)
    rw [ptRow_eq]
    simp [List.range'_succ, List.flatMap_cons]
theorem pt_no (p q n : Int) (h : ¬ ((1 ≤ q ∧ q ≤ 200) ∧ (0 ≤ p ∧ p ≤ q - 1) ∧ (1 ≤ n ∧ n ≤ q))) : ptRes p q n = ([], false) := by
  unfold ptRes ptOk
  rw [decide_eq_false h]; simp
theorem pt_yes (p q n : Nat) (h : (1 ≤ q ∧ q ≤ 200) ∧ p < q ∧ (1 ≤ n ∧ n ≤ q)) (hg : Nat.gcd p q = 1) : ptRes p q n = (ptL p q n, true) := by
  unfold ptRes ptOk
  rw [decide_eq_true ⟨⟨by omega, by omega⟩, ⟨by omega, by omega⟩, ⟨by omega, by omega⟩⟩, Int.toNat_natCast, Int.toNat_natCast, Int.toNat_natCast, decide_eq_true hg]
  simp
theorem pt_gcd (p q n : Nat) (hg : ¬ Nat.gcd p q = 1) : ptRes p q n = ([], false) := by
  unfold ptRes ptOk
  rw [Int.toNat_natCast, Int.toNat_natCast, decide_eq_false hg]; simp
theorem spec_l25Fine_ev (p q n : Int) : Ev (fun k => spec_l25Fine.f k p q n) (ptOk p q n) := by
  simp only [spec_l25Fine.f, l1In_eq, Option.bind_some]
  by_cases h1 : 1 ≤ q ∧ q ≤ 200
  · refine ev_pos (by simpa using h1) ?_
    rw [wr (show -9223372036854775808 ≤ q - 1 by omega) (by omega)]
    by_cases h2 : 0 ≤ p ∧ p ≤ q - 1
    · refine ev_pos (by simpa using h2) ?_
      obtain ⟨a, rfl⟩ := Int.eq_ofNat_of_zero_le (show 0 ≤ p by omega)
      obtain ⟨b, rfl⟩ := Int.eq_ofNat_of_zero_le (show 0 ≤ q by omega)
      refine ev_bind (spec_l10Gcd_ev b a) ?_
      unfold ptOk
      rw [Int.toNat_natCast, Int.toNat_natCast]
      have hc := Nat.gcd_comm a b
      by_cases h3 : Nat.gcd a b = 1
      · refine ev_pos (by omega) (ev_some ?_)
        rw [decide_eq_true h3, Bool.and_true]
        simp only [decide_eq_decide]; omega
      · refine ev_neg (by omega) (ev_some ?_)
        rw [decide_eq_false h3, Bool.and_false]
    · refine ev_neg (by simpa using h2) (ev_some ?_)
      unfold ptOk; rw [decide_eq_false (by omega), Bool.false_and]
  · refine ev_neg (by simpa using h1) (ev_some ?_)
    unfold ptOk; rw [decide_eq_false (by omega), Bool.false_and]
theorem ptOk_nat {p q n : Int} (h : ptOk p q n = true) : ∃ a b m : Nat, p = a ∧ q = b ∧ n = m ∧ ((1 ≤ b ∧ b ≤ 200) ∧ a < b ∧ (1 ≤ m ∧ m ≤ b)) ∧ Nat.gcd a b = 1 := by
  unfold ptOk at h
  simp only [Bool.and_eq_true, decide_eq_true_eq] at h
  exact ⟨p.toNat, q.toNat, n.toNat, by omega, by omega, by omega, ⟨⟨by omega, by omega⟩, by omega, by omega, by omega⟩, h.2⟩
theorem spec_PointsOf_ev (p q n : Int) : Ev (fun k => spec_PointsOf.f k p q n) (ptRes p q n) := by
  simp only [spec_PointsOf.f, Option.bind_some]
  refine ev_bind (spec_l25Fine_ev p q n) ?_
  by_cases h : ptOk p q n = true
  · obtain ⟨a, b, m, rfl, rfl, rfl, hb, hg⟩ := ptOk_nat h
    refine ev_pos h ?_
    rw [pt_yes a b m hb hg]
    refine ev_eq (spec_PointsOf_l0 a b m (by omega) (by omega) (by omega) b 0 [] (by omega) (by simp)) ?_
    simp [ptL, ptN, List.range_eq_range']
  · refine ev_neg h (ev_some ?_)
    unfold ptRes; rw [if_neg h]
theorem impl_points_l0 (p q n : Nat) (hq : 0 < q ∧ q ≤ 200) (hp : p < q) (hn : n ≤ q) (d : Nat) : ∀ (i : Nat) (acc : List Int), i + d = n → acc.length ≤ 200 + i →
    Ev (fun k => impl_points.l0 k (p : Int) (q : Int) acc (n : Int) (i : Int)) ((acc ++ ((List.range' i d).map fun i => ((ptF p q i : Nat) : Int))).mergeSort (fun x y => decide (x ≤ y)), true) := by
  induction d with
  | zero =>
    intro i acc hi ha
    refine ev_succ ?_
    simp only [impl_points.l0]
    refine ev_neg (by omega) ?_
    simp only [slices_Sort_int_int.f]
    refine ev_bind (ev_pos (by omega) (ev_some rfl)) (ev_some ?_)
    simp
  | succ d ih =>
    intro i acc hi ha
    refine ev_succ ?_
    simp only [impl_points.l0]
    rw [pt_mul hq.2 hp (by omega), tmod_nat, wr1 (by omega) (by omega)]
    refine ev_pos (by omega) (ev_neg (by omega) (ev_pos (by omega) ?_))
    refine ev_eq (ih (i + 1) (acc ++ [((ptF p q i : Nat) : Int)]) (by omega) (by simp; omega)) ?_
    simp [List.range'_succ]
theorem impl_points_ev (p q n : Int) : Ev (fun k => impl_points.f k p q n) (ptRes p q n) := by
  simp only [impl_points.f]
  have no : ptRes p q n = ([], false) → Ev (fun k => impl_points.j0 k p q n true) (ptRes p q n) := by
    intro h
    refine ev_succ ?_
    simp only [impl_points.j0]
    exact ev_pos trivial (ev_some h.symm)
  refine ev_ite (fun h => no (pt_no p q n (by omega))) (fun h1 => ?_)
  refine ev_ite (fun h => no (pt_no p q n (by omega))) (fun h2 => ?_)
  refine ev_ite (fun h => no (pt_no p q n (by omega))) (fun h3 => ?_)
  refine ev_ite (fun h => no (pt_no p q n (by omega))) (fun h4 => ?_)
  obtain ⟨a, rfl⟩ := Int.eq_ofNat_of_zero_le (show 0 ≤ p by omega)
  obtain ⟨b, rfl⟩ := Int.eq_ofNat_of_zero_le (show 0 ≤ q by omega)
  refine ev_bind (impl_gcd_ev a b) ?_
  have hg : 0 < Nat.gcd a b := Nat.gcd_pos_of_pos_right _ (by omega)
  refine ev_ite (fun h => ?_) (fun h5 => ?_)
  · by_cases hn : 0 ≤ n
    · obtain ⟨m, rfl⟩ := Int.eq_ofNat_of_zero_le hn
      exact no (pt_gcd a b m (by omega))
    · exact no (pt_no _ _ _ (by omega))
  refine ev_ite (fun h => no (pt_no _ _ _ (by omega))) (fun h6 => ?_)
  by_cases h7 : n > b
  · rw [decide_eq_true h7]; exact no (pt_no _ _ _ (by omega))
  · rw [decide_eq_false h7]
    obtain ⟨m, rfl⟩ := Int.eq_ofNat_of_zero_le (show 0 ≤ n by omega)
    refine ev_succ ?_
    simp only [impl_points.j0]
    refine ev_neg (by simp) ?_
    rw [pt_yes a b m ⟨⟨by omega, by omega⟩, by omega, by omega, by omega⟩ (by omega), ← pt_sort a b m (by omega)]
    refine ev_eq (impl_points_l0 a b m ⟨by omega, by omega⟩ (by omega) (by omega) m 0 [] (by omega) (by simp)) ?_
    simp [ptM, List.range_eq_range']
theorem ptRes_length (p q n : Int) : (ptRes p q n).1.length ≤ 200 := by
  by_cases h : ptOk p q n = true
  · obtain ⟨a, b, m, rfl, rfl, rfl, hb, hg⟩ := ptOk_nat h
    rw [pt_yes a b m hb hg]; simp only; rw [ptL_length a b m (by omega)]; omega
  · unfold ptRes; rw [if_neg h]; simp


theorem ptL_bound {p q n : Nat} {x : Int} (hx : x ∈ ptL p q n) : 0 ≤ x ∧ x < q := by
  simp only [ptL, ptN, List.mem_map, List.mem_flatMap, List.mem_range, ptRow] at hx
  obtain ⟨_, ⟨y, hy, _, _, rfl⟩, rfl⟩ := hx
  omega
def gapL (q : Int) : List Int → List Int
  | [] => []
  | [a] => [q - a]
  | a :: b :: l => (b - a) :: gapL q (b :: l)
theorem gapL_length (q : Int) : ∀ (l : List Int), (gapL q l).length = l.length
  | [] => rfl
  | [_] => rfl
  | _ :: b :: l => by simp only [gapL, List.length_cons]; rw [gapL_length q (b :: l)]; rfl
theorem gapL_next (q : Int) (l : List Int) (i : Nat) (h : i + 1 < l.length) : gapL q (l.drop i) = (rd l ((i + 1 : Nat) : Int) - rd l (i : Int)) :: gapL q (l.drop (i + 1)) := by
  rw [drop_rd (show i < l.length by omega), drop_rd h, gapL]
theorem gapL_last (q : Int) (l : List Int) (i : Nat) (h : i + 1 = l.length) : gapL q (l.drop i) = [q - rd l (i : Int)] := by
  rw [drop_rd (show i < l.length by omega), List.drop_eq_nil_of_le (by omega), gapL]
theorem spec_GapsOf_l0 (q : Nat) (hq : q ≤ 200) (l : List Int) (hl : l.length ≤ 200) (hb : ∀ x ∈ l, 0 ≤ x ∧ x < (q : Int)) (d : Nat) : ∀ (i : Nat) (acc : List Int), i + d = l.length → acc.length ≤ i →
    Ev (fun k => spec_GapsOf.l0 k (q : Int) l true acc (i : Int)) (acc ++ gapL q (l.drop i), true) := by
  induction d with
  | zero =>
    intro i acc hi ha
    refine ev_succ ?_
    simp only [spec_GapsOf.l0]
    refine ev_neg (by omega) (ev_succ ?_)
    simp only [spec_GapsOf.j1]
    exact ev_neg (by simp) (ev_some (by rw [List.drop_eq_nil_of_le (by omega)]; simp [gapL]))
  | succ d ih =>
    intro i acc hi ha
    refine ev_succ ?_
    simp only [spec_GapsOf.l0]
    refine ev_pos (by omega) (ev_succ ?_)
    simp only [spec_GapsOf.j1]
    have h1 := hb _ (rd_mem (l := l) (i := i) (by omega))
    refine ev_pos trivial ?_
    rw [wr1 (by omega) (by omega)]
    by_cases h : i + 1 < l.length
    · have h2 := hb _ (rd_mem (l := l) (i := i + 1) (by omega))
      rw [gapL_next _ _ _ h, show ((i : Int) + 1) = ((i + 1 : Nat) : Int) by omega]
      refine ev_pos (by omega) (ev_pos (by omega) (ev_pos (by omega) (ev_pos (by omega) (ev_pos (by omega) ?_))))
      rw [wr (show -9223372036854775808 ≤ rd l ((i + 1 : Nat) : Int) - rd l (i : Int) by omega) (by omega)]
      exact ev_eq (ih (i + 1) _ (by omega) (by simp; omega)) (by simp)
    · rw [gapL_last _ _ _ (by omega), show ((i : Int) + 1) = ((i + 1 : Nat) : Int) by omega]
      refine ev_neg (by omega) (ev_pos (by omega) (ev_pos (by omega) (ev_pos (by omega) ?_)))
      rw [wr (show -9223372036854775808 ≤ (q : Int) - rd l (i : Int) by omega) (by omega)]
      exact ev_eq (ih (i + 1) _ (by omega) (by simp; omega)) (by rw [List.drop_eq_nil_of_le (by omega)]; simp [gapL])
theorem impl_GapsOf_l0 (q : Nat) (hq : q ≤ 200) (l : List Int) (hl : l.length ≤ 200) (hb : ∀ x ∈ l, 0 ≤ x ∧ x < (q : Int)) (is : Bool) (d : Nat) : ∀ (i : Nat) (acc : List Int), i + d = l.length → acc.length ≤ i →
    Ev (fun k => impl_GapsOf.l0 k (q : Int) l is acc l (l.length : Int) (i : Int)) (acc ++ gapL q (l.drop i), is) := by
  induction d with
  | zero =>
    intro i acc hi ha
    refine ev_succ ?_
    simp only [impl_GapsOf.l0]
    exact ev_neg (by omega) (ev_some (by rw [List.drop_eq_nil_of_le (by omega)]; simp [gapL]))
  | succ d ih =>
    intro i acc hi ha
    refine ev_succ ?_
    simp only [impl_GapsOf.l0]
    have h1 := hb _ (rd_mem (l := l) (i := i) (by omega))
    refine ev_pos (by omega) (ev_pos (by omega) (ev_pos (by omega) ?_))
    rw [wr1 (by omega) (by omega)]
    by_cases h : i + 1 < l.length
    · have h2 := hb _ (rd_mem (l := l) (i := i + 1) (by omega))
      rw [gapL_next _ _ _ h, show ((i : Int) + 1) = ((i + 1 : Nat) : Int) by omega]
      refine ev_pos (by omega) (ev_pos (by omega) (ev_pos (by omega) ?_))
      rw [wr (show -9223372036854775808 ≤ rd l ((i + 1 : Nat) : Int) - rd l (i : Int) by omega) (by omega)]
      exact ev_eq (ih (i + 1) _ (by omega) (by simp; omega)) (by simp)
    · rw [gapL_last _ _ _ (by omega), show ((i : Int) + 1) = ((i + 1 : Nat) : Int) by omega]
      refine ev_neg (by omega) (ev_pos (by omega) ?_)
      rw [wr (show -9223372036854775808 ≤ (q : Int) - rd l (i : Int) by omega) (by omega)]
      exact ev_eq (ih (i + 1) _ (by omega) (by simp; omega)) (by rw [List.drop_eq_nil_of_le (by omega)]; simp [gapL])
def gapRes (p q n : Int) : List Int × Bool := (gapL q (ptRes p q n).1, (ptRes p q n).2)
theorem gap_nil (p q n : Int) (h : ¬ ptOk p q n = true) : ptRes p q n = ([], false) := by unfold ptRes; rw [if_neg h]
theorem spec_GapsOf_ev (p q n : Int) : Ev (fun k => spec_GapsOf.f k p q n) (gapRes p q n) := by
  simp only [spec_GapsOf.f]
  refine ev_bind (spec_PointsOf_ev p q n) ?_
  by_cases h : ptOk p q n = true
  · obtain ⟨a, b, m, rfl, rfl, rfl, hb, hg⟩ := ptOk_nat h
    have hl := ptRes_length a b m
    unfold gapRes
    rw [pt_yes a b m hb hg] at hl ⊢
    exact ev_eq (spec_GapsOf_l0 b (by omega) _ hl (fun x hx => ptL_bound hx) _ 0 [] (Nat.zero_add _) (by simp)) (by simp)
  · unfold gapRes
    rw [gap_nil p q n h]
    refine ev_succ ?_
    simp only [spec_GapsOf.l0]
    refine ev_neg (by simp) (ev_succ ?_)
    simp only [spec_GapsOf.j1]
    exact ev_neg (by simp) (ev_some (by simp [gapL]))
theorem impl_GapsOf_ev (p q n : Int) : Ev (fun k => impl_GapsOf.f k p q n) (gapRes p q n) := by
  simp only [impl_GapsOf.f]
  refine ev_bind (impl_points_ev p q n) ?_
  by_cases h : ptOk p q n = true
  · obtain ⟨a, b, m, rfl, rfl, rfl, hb, hg⟩ := ptOk_nat h
    have hl := ptRes_length a b m
    unfold gapRes
    rw [pt_yes a b m hb hg] at hl ⊢
    exact ev_eq (impl_GapsOf_l0 b (by omega) _ hl (fun x hx => ptL_bound hx) true _ 0 [] (Nat.zero_add _) (by simp)) (by simp)
  · unfold gapRes
    rw [gap_nil p q n h]
    refine ev_succ ?_
    simp only [impl_GapsOf.l0]
    exact ev_neg (by simp) (ev_some (by simp [gapL]))
theorem gapRes_length (p q n : Int) : (gapRes p q n).1.length ≤ 200 := by
  have := ptRes_length p q n
  unfold gapRes
  rw [gapL_length]; exact this


theorem pt_inj {p q n i j : Nat} (hg : Nat.gcd p q = 1) (hn : n ≤ q) (hi : i < n) (hj : j < n) (h : ptF p q i = ptF p q j) : i = j := by
  have key : ∀ a b : Nat, a < n → b < n → a ≤ b → ptF p q a = ptF p q b → a = b := by
    intro a b ha hb hab he
    have h1 : (b * p - a * p) % q = 0 := Nat.sub_mod_eq_zero_of_mod_eq he.symm
    rw [← Nat.mul_sub_right_distrib] at h1
    have h2 : q ∣ (b - a) * p := Nat.dvd_of_mod_eq_zero h1
    have h3 : q ∣ (b - a) := Nat.Coprime.dvd_of_dvd_mul_right (by unfold Nat.Coprime; rw [Nat.gcd_comm]; exact hg) h2
    by_cases h5 : b - a = 0
    · omega
    · have := Nat.le_of_dvd (by omega) h3
      omega
  rcases Nat.le_total i j with h1 | h1
  · exact key i j hi hj h1 h
  · exact (key j i hj hi h1 h.symm).symm
theorem ptM_mem {p q n : Nat} {x : Int} : x ∈ ptM p q n ↔ ∃ i, i < n ∧ x = (ptF p q i : Nat) := by
  simp only [ptM, List.mem_map, List.mem_range]
  exact ⟨fun ⟨i, h, e⟩ => ⟨i, h, e.symm⟩, fun ⟨i, h, e⟩ => ⟨i, h, e.symm⟩⟩
theorem ptL_perm (p q n : Nat) (hq : 0 < q) : (ptL p q n).Perm (ptM p q n) := by
  rw [← pt_sort p q n hq]; exact List.mergeSort_perm _ _
theorem ptL_mem {p q n : Nat} (hq : 0 < q) {x : Int} : x ∈ ptL p q n ↔ ∃ i, i < n ∧ x = (ptF p q i : Nat) := by
  rw [(ptL_perm p q n hq).mem_iff]; exact ptM_mem
theorem ptM_nodup {p q n : Nat} (hg : Nat.gcd p q = 1) (hn : n ≤ q) : (ptM p q n).Nodup := by
  unfold ptM
  rw [List.nodup_iff_pairwise_ne, List.pairwise_map, List.pairwise_iff_getElem]
  intro i j hi hj hij e
  simp only [List.length_range] at hi hj
  simp only [List.getElem_range] at e
  have := pt_inj hg hn hi hj (by omega)
  omega
theorem ptL_strict {p q n : Nat} (hg : Nat.gcd p q = 1) (hq : 0 < q) (hn : n ≤ q) : (ptL p q n).Pairwise (fun a b => a < b) := by
  have h1 : (ptL p q n).Pairwise (fun a b => a ≤ b) := by
    unfold ptL
    rw [List.pairwise_map]
    exact (ptN_sorted p q n).imp (fun h => by omega)
  have h2 : (ptL p q n).Nodup := (ptL_perm p q n hq).nodup_iff.2 (ptM_nodup hg hn)
  rw [List.nodup_iff_pairwise_ne] at h2
  exact (h1.and h2).imp (fun h => by omega)
def ptD (q a x : Nat) : Nat := if a ≤ x then x - a else x + q - a
theorem tmod_round (z q : Int) (hq : 0 < q) : Int.tmod (Int.tmod z q + q) q = z % q := by
  have h1 : -q < Int.tmod z q := Int.lt_tmod_of_pos z hq
  rw [Int.tmod_eq_emod_of_nonneg (by omega), Int.add_emod_right]
  have h2 := Int.tmod_add_tdiv_mul z q
  have h3 : Int.tmod z q = z - Int.tdiv z q * q := by omega
  rw [h3, Int.sub_mul_emod_self_right]
theorem ptD_eq (p q i k : Nat) (hq : 0 < q) : Int.tmod (Int.tmod (((k * p : Nat) : Int) - ((i * p : Nat) : Int)) (q : Int) + (q : Int)) (q : Int) = ((ptD q (ptF p q i) (ptF p q k) : Nat) : Int) := by
  rw [tmod_round _ _ (by omega), Int.sub_emod]
  have h1 : (((k * p : Nat) : Int) % (q : Int)) = ((ptF p q k : Nat) : Int) := by unfold ptF; omega
  have h2 : (((i * p : Nat) : Int) % (q : Int)) = ((ptF p q i : Nat) : Int) := by unfold ptF; omega
  rw [h1, h2]
  have h3 : ptF p q k < q := Nat.mod_lt _ hq
  have h4 : ptF p q i < q := Nat.mod_lt _ hq
  unfold ptD
  split
  · rw [Int.emod_eq_of_lt (by omega) (by omega)]; omega
  · rw [← Int.add_emod_right, Int.emod_eq_of_lt (by omega) (by omega)]; omega
def isNb (p q n i j : Nat) : Prop := j < n ∧ ∀ k, k < n → k ≠ i → j ≠ i ∧ ptD q (ptF p q i) (ptF p q j) ≤ ptD q (ptF p q i) (ptF p q k)
theorem ptD_inj {q a x y : Nat} (ha : a < q) (hx : x < q) (hy : y < q) (h : ptD q a x = ptD q a y) : x = y := by
  unfold ptD at h
  split at h <;> split at h <;> omega
theorem isNb_uniq {p q n i j j' : Nat} (hg : Nat.gcd p q = 1) (hq : 0 < q) (hn : n ≤ q) (hi : i < n) (h : isNb p q n i j) (h' : isNb p q n i j') : j = j' := by
  by_cases h1 : n = 1
  · have := h.1; have := h'.1; omega
  · have hf : ∀ x, ptF p q x < q := fun x => Nat.mod_lt _ hq
    obtain ⟨k, hk, hki⟩ : ∃ k, k < n ∧ k ≠ i := by
      by_cases h2 : i = 0
      · exact ⟨1, by omega, by omega⟩
      · exact ⟨0, by omega, by omega⟩
    have a1 := (h.2 k hk hki).1
    have a2 := (h'.2 k hk hki).1
    have b1 := (h.2 j' h'.1 a2).2
    have b2 := (h'.2 j h.1 a1).2
    exact pt_inj hg hn h.1 h'.1 (ptD_inj (hf i) (hf j) (hf j') (by omega))
theorem pt_next (p q n i t : Nat) (hq : 0 < q ∧ q ≤ 200) (hg : Nat.gcd p q = 1) (hn : n ≤ q) (hi : i < n) (ht : t < n) (he : rd (ptL p q n) (t : Int) = (ptF p q i : Nat)) :
    ∃ j, isNb p q n i j ∧ rd (ptL p q n) (((t + 1) % n : Nat) : Int) = (ptF p q j : Nat) := by
  have hlen := ptL_length p q n hq.1
  have hst := ptL_strict hg hq.1 hn
  have hf : ∀ x, ptF p q x < q := fun x => Nat.mod_lt _ hq.1
  have hs : (t + 1) % n < n := Nat.mod_lt _ (by omega)
  obtain ⟨j, hj, hje⟩ := (ptL_mem hq.1).1 (rd_mem (l := ptL p q n) (i := (t + 1) % n) (by omega))
  refine ⟨j, ⟨hj, fun k hk hki => ?_⟩, hje⟩
  obtain ⟨s, hs1, hs2⟩ := List.getElem_of_mem ((ptL_mem (n := n) hq.1).2 ⟨k, hk, rfl⟩)
  have hmono : ∀ a b, a < b → b < n → rd (ptL p q n) (a : Int) < rd (ptL p q n) (b : Int) := by
    intro a b hab hb
    rw [rd_get (by omega), rd_get (by omega)]
    exact (List.pairwise_iff_getElem.1 hst) a b (by omega) (by omega) hab
  have hs3 : rd (ptL p q n) (s : Int) = (ptF p q k : Nat) := by rw [rd_get hs1, hs2]
  rw [hlen] at hs1
  have hne : s ≠ t := by
    rintro rfl
    rw [he] at hs3
    exact hki (pt_inj hg hn hk hi (by omega))
  have f1 := hf i
  have f2 := hf j
  have f3 := hf k
  by_cases h1 : t + 1 < n
  · rw [Nat.mod_eq_of_lt h1] at hje
    have g1 := hmono t (t + 1) (by omega) h1
    refine ⟨fun e => ?_, ?_⟩
    · subst e; omega
    · unfold ptD
      rw [if_pos (by omega)]
      by_cases h2 : s < t
      · have := hmono s t h2 ht
        rw [if_neg (by omega)]; omega
      · have : s = t + 1 ∨ t + 1 < s := by omega
        rcases this with e | e
        · subst e; rw [if_pos (by omega)]; omega
        · have := hmono (t + 1) s e hs1
          rw [if_pos (by omega)]; omega
  · have h0 : t + 1 = n := by omega
    rw [h0, Nat.mod_self] at hje
    have g1 := hmono s t (by omega) ht
    have g2 : rd (ptL p q n) ((0 : Nat) : Int) ≤ rd (ptL p q n) (s : Int) := by
      by_cases e : s = 0
      · rw [e]; omega
      · have := hmono 0 s (by omega) hs1; omega
    refine ⟨fun e => ?_, ?_⟩
    · subst e; omega
    · unfold ptD
      rw [if_neg (by omega), if_neg (by omega)]; omega
def nbOk (p q n i : Int) : Prop := ptOk p q n = true ∧ 0 ≤ i ∧ i < n

theorem gapL_bound (q : Int) : ∀ (l : List Int), (∀ x ∈ l, 0 ≤ x ∧ x < q) → l.Pairwise (fun a b => a < b) → ∀ g ∈ gapL q l, 1 ≤ g ∧ g ≤ q
  | [], _, _, g, hg => by simp [gapL] at hg
  | [a], hb, _, g, hg => by
    have := hb a (by simp)
    simp only [gapL, List.mem_singleton] at hg
    omega
  | a :: b :: l, hb, hs, g, hg => by
    simp only [gapL, List.mem_cons] at hg
    have h1 := hb a (by simp)
    have h2 := hb b (by simp)
    have h3 := (List.pairwise_cons.1 hs).1 b (by simp)
    rcases hg with rfl | hg
    · omega
    · exact gapL_bound q (b :: l) (fun x hx => hb x (List.mem_cons_of_mem _ hx)) (List.pairwise_cons.1 hs).2 g hg
theorem compact_mem (zs : List Int) (x : Int) : x ∈ Lib.compact zs ↔ x ∈ zs := by
  unfold Lib.compact Lib.compactUpTo
  simp only [List.mem_map, List.mem_filter, List.mem_range]
  constructor
  · rintro ⟨i, ⟨h1, _⟩, rfl⟩
    rw [getElem!_pos _ i (by simpa using h1)]
    simp
  · intro hx
    obtain ⟨i, hi, rfl⟩ := List.getElem_of_mem hx
    induction i with
    | zero => exact ⟨0, ⟨hi, by simp [Lib.keeps]⟩, by rw [getElem!_pos _ 0 (by simpa using hi)]; simp⟩
    | succ i ih =>
      by_cases h : zs[i] = zs[i + 1]
      · obtain ⟨j, hj, he⟩ := ih (by omega) (List.getElem_mem _)
        exact ⟨j, hj, by rw [he, h]⟩
      · refine ⟨i + 1, ⟨hi, Lib.keeps_pos ?_⟩, by rw [getElem!_pos _ (i + 1) (by simpa using hi)]; simp⟩
        rw [getElem!_pos _ (i + 1) (by simpa using hi), getElem!_pos _ (i + 1 - 1) (by simp; omega)]
        simpa using fun e => h e.symm
theorem compact_strict (zs : List Int) (hs : zs.Pairwise (fun a b => a ≤ b)) : (Lib.compact zs).Pairwise (fun a b => a < b) := by
  have hle : ∀ i j, i ≤ j → (hj : j < zs.length) → (hi : i < zs.length) → zs[i] ≤ zs[j] := by
    intro i j hij hj hi
    by_cases e : i = j
    · subst e; exact Int.le_refl _
    · exact (List.pairwise_iff_getElem.1 hs) i j hi hj (by omega)
  unfold Lib.compact Lib.compactUpTo
  rw [List.pairwise_map, List.pairwise_filter]
  refine (List.pairwise_iff_getElem.2 ?_)
  intro i j hi hj hij
  simp only [List.length_range] at hi hj
  simp only [List.getElem_range]
  intro _ hk
  rw [getElem!_pos _ i (by simpa using hi), getElem!_pos _ j (by simpa using hj)]
  simp only [List.getElem_toArray]
  simp only [Lib.keeps, decide_eq_true_eq] at hk
  have hk2 := hk.resolve_left (by omega)
  rw [getElem!_pos _ j (by simpa using hj), getElem!_pos _ (j - 1) (by simp; omega)] at hk2
  simp only [List.getElem_toArray] at hk2
  have h1 := hle i (j - 1) (by omega) (by omega) hi
  have h2 := hle (j - 1) j (by omega) hj (by omega)
  omega
def lenL (q : Nat) (l : List Int) : List Int := ((List.range' 1 q).map (fun x : Nat => (x : Int))).filter (fun x => decide (x ∈ l))
theorem lenL_strict (q : Nat) (l : List Int) : (lenL q l).Pairwise (fun a b => a < b) := by
  unfold lenL
  refine List.Pairwise.filter _ ?_
  rw [List.pairwise_map]
  exact (List.pairwise_lt_range' (s := 1) (n := q) (step := 1)).imp (fun h => by omega)
theorem lenL_eq (q : Nat) (l : List Int) (h : ∀ g ∈ l, 1 ≤ g ∧ g ≤ q) : Lib.compact (l.mergeSort fun x y => decide (x ≤ y)) = lenL q l := by
  have hs : (l.mergeSort fun x y => decide (x ≤ y)).Pairwise (fun a b => a ≤ b) :=
    (List.pairwise_mergeSort (le := fun x y : Int => decide (x ≤ y)) (fun a b c h h' => by simp at *; omega) (fun a b => by simp; omega) _).imp (fun h => by simpa using h)
  have h1 := compact_strict _ hs
  have h2 := lenL_strict q l
  refine List.Perm.eq_of_pairwise (le := fun a b : Int => a < b) (fun a b _ _ h h' => by omega) h1 h2 ?_
  refine (List.perm_ext_iff_of_nodup (h1.imp (fun h => by omega)) (h2.imp (fun h => by omega))).2 (fun x => ?_)
  rw [compact_mem, (List.mergeSort_perm _ _).mem_iff]
  unfold lenL
  simp only [List.mem_filter, List.mem_map, List.mem_range', decide_eq_true_eq]
  refine ⟨fun hx => ⟨⟨x.toNat, ⟨x.toNat - 1, ?_, ?_⟩, ?_⟩, hx⟩, fun hx => hx.2⟩ <;> have := h x hx <;> omega
theorem spec_l4Has_l0 (l : List Int) (x : Int) (hl : l.length ≤ 4611686018427387904) (d : Nat) : ∀ (i : Nat), i + d = l.length → Ev (fun k => spec_l4Has.l0 k l x (i : Int)) (decide (x ∈ l.drop i)) := by
  induction d with
  | zero =>
    intro i hi
    refine ev_succ ?_
    simp only [spec_l4Has.l0]
    exact ev_neg (by omega) (ev_some (by rw [List.drop_eq_nil_of_le (by omega)]; simp))
  | succ d ih =>
    intro i hi
    refine ev_succ ?_
    simp only [spec_l4Has.l0]
    rw [wr1 (by omega) (by omega), show ((i : Int) + 1) = ((i + 1 : Nat) : Int) by omega]
    refine ev_pos (by omega) (ev_pos (by omega) (ev_ite (fun h => ev_some ?_) (fun h => ev_eq (ih (i + 1) (by omega)) ?_)))
    · rw [drop_rd (show i < l.length by omega), h]; simp
    · rw [drop_rd (show i < l.length by omega)]
      have : x ≠ rd l (i : Int) := fun e => h e.symm
      simp [this]
theorem spec_l4Has_ev (l : List Int) (x : Int) (hl : l.length ≤ 4611686018427387904) : Ev (fun k => spec_l4Has.f k l x) (decide (x ∈ l)) := by
  simp only [spec_l4Has.f]
  exact ev_eq (spec_l4Has_l0 l x hl _ 0 (Nat.zero_add _)) (by simp)
theorem spec_GapLengths_l0 (q : Nat) (hq : q ≤ 200) (l : List Int) (hl : l.length ≤ 200) (d : Nat) : ∀ (x : Nat) (acc : List Int), x + d = q + 1 → acc.length ≤ x →
    Ev (fun k => spec_GapLengths.l0 k (q : Int) l true acc (x : Int)) (acc ++ ((List.range' x d).map (fun x : Nat => (x : Int))).filter (fun x => decide (x ∈ l)), true) := by
  induction d with
  | zero =>
    intro x acc hx ha
    refine ev_succ ?_
    simp only [spec_GapLengths.l0]
    refine ev_neg (by omega) (ev_succ ?_)
    simp only [spec_GapLengths.j1]
    exact ev_neg (by simp) (ev_some (by simp))
  | succ d ih =>
    intro x acc hx ha
    refine ev_succ ?_
    simp only [spec_GapLengths.l0]
    refine ev_pos (by omega) (ev_succ ?_)
    simp only [spec_GapLengths.j1]
    rw [wr1 (by omega) (by omega), show ((x : Int) + 1) = ((x + 1 : Nat) : Int) by omega]
    refine ev_pos trivial (ev_bind (spec_l4Has_ev l x (by omega)) ?_)
    by_cases h : (x : Int) ∈ l
    · rw [decide_eq_true h]
      refine ev_pos rfl (ev_pos (by omega) (ev_eq (ih (x + 1) (acc ++ [(x : Int)]) (by omega) (by simp; omega)) ?_))
      simp [List.range'_succ, List.filter_cons, h]
    · rw [decide_eq_false h]
      refine ev_neg (by simp) (ev_eq (ih (x + 1) acc (by omega) (by omega)) ?_)
      simp [List.range'_succ, List.filter_cons, h]
def gapLenRes (p q n : Int) : List Int × Bool := (lenL q.toNat (gapRes p q n).1, (gapRes p q n).2)
theorem lenL_nil (q : Nat) : lenL q [] = [] := by simp [lenL]
theorem gapRes_no (p q n : Int) (h : ¬ ptOk p q n = true) : gapRes p q n = ([], false) := by unfold gapRes; rw [gap_nil p q n h]; rfl
theorem spec_GapLengths_ev (p q n : Int) : Ev (fun k => spec_GapLengths.f k p q n) (gapLenRes p q n) := by
  simp only [spec_GapLengths.f]
  refine ev_bind (spec_GapsOf_ev p q n) ?_
  by_cases h : ptOk p q n = true
  · have hl := gapRes_length p q n
    have h2 : (gapRes p q n).2 = true := by unfold gapRes ptRes; rw [if_pos h]
    obtain ⟨a, b, m, rfl, rfl, rfl, hb, hg⟩ := ptOk_nat h
    unfold gapLenRes
    rw [h2]
    exact ev_eq (spec_GapLengths_l0 b (by omega) _ hl b 1 [] (by omega) (by simp)) (by simp [lenL])
  · unfold gapLenRes
    rw [gapRes_no p q n h]
    simp only [lenL_nil]
    refine ev_succ ?_
    simp only [spec_GapLengths.l0]
    have no : Ev (fun k => spec_GapLengths.j1 k q [] false [] 1 false) ([], false) := by
      refine ev_succ ?_
      simp only [spec_GapLengths.j1]
      exact ev_neg (by simp) (ev_some rfl)
    exact ev_ite (fun _ => no) (fun _ => no)
theorem impl_GapLengths_ev (p q n : Int) : Ev (fun k => impl_GapLengths.f k p q n) (gapLenRes p q n) := by
  simp only [impl_GapLengths.f]
  have hl := gapRes_length p q n
  refine ev_bind (impl_GapsOf_ev p q n) ?_
  simp only [slices_Sort_int_int.f, slices_Compact_int_int.f]
  refine ev_bind (ev_pos (by omega) (ev_some rfl)) (ev_bind (ev_pos (by simp; omega) (ev_some rfl)) (ev_some ?_))
  unfold gapLenRes
  by_cases h : ptOk p q n = true
  · obtain ⟨a, b, m, rfl, rfl, rfl, hb, hg⟩ := ptOk_nat h
    rw [lenL_eq b]
    · simp
    · intro g hgm
      unfold gapRes at hgm
      rw [pt_yes a b m hb hg] at hgm
      exact gapL_bound b _ (fun x hx => ptL_bound hx) (ptL_strict hg (by omega) (by omega)) g hgm
  · rw [gapRes_no p q n h]
    simp [lenL_nil, Lib.compact, Lib.compactUpTo]
theorem gapLenRes_length (p q n : Int) : (gapLenRes p q n).1.length ≤ 200 := by
  by_cases h : ptOk p q n = true
  · obtain ⟨a, b, m, rfl, rfl, rfl, hb, hg⟩ := ptOk_nat h
    unfold gapLenRes lenL
    refine Nat.le_trans (List.length_filter_le _ _) ?_
    simp; omega
  · unfold gapLenRes
    rw [gapRes_no p q n h]
    simp [lenL_nil]


-- SAY: For all numbers the program's GapLengths answers what the reference's answers, in memory of its own. No conditions beyond the given statement.
theorem FnExactGapLengths : laws_FnExactGapLengths.Pure := by
  intro p q n hp hq hn
  refine Ev.rounds (g := fun k => laws_FnExactGapLengths.f k p q n) ?_
  have hl := gapLenRes_length p q n
  have hS := spec_GapLengths_ev p q n
  have hI := impl_GapLengths_ev p q n
  obtain ⟨l, b, hr⟩ : ∃ l b, gapLenRes p q n = (l, b) := ⟨_, _, rfl⟩
  rw [hr] at hl hS hI
  simp only at hl
  simp only [laws_FnExactGapLengths.f]
  refine ev_bind hS (ev_bind hI ?_)
  refine ev_bind (eqIntS_ev l (by omega)) (ev_pos rfl (ev_succ ?_))
  simp only [laws_FnExactGapLengths.j0]
  refine ev_neg (by simp) ?_
  refine ev_bind (markIntS_ev l 1 (by omega) (by omega)) ?_
  refine ev_bind (heldIntS_ev 1 l.length (by omega) (by omega)) ?_
  refine ev_neg (by omega) (ev_pos rfl ?_)
  refine ev_bind hI (ev_bind (eqIntS_ev l (by omega)) (ev_pos rfl (ev_succ ?_)))
  simp only [laws_FnExactGapLengths.j1]
  refine ev_neg (by simp) ?_
  refine ev_bind (heldIntS_ev 1 l.length (by omega) (by omega)) ?_
  exact ev_neg (by omega) (ev_pos rfl (ev_some rfl))


end Go.Proofs.Ytjdnbakmeieknaa.Pure
