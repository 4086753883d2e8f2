/- For every two forms the program's SumForms answers what the reference's answers, leaves its arguments alone, and hands back memory that it shares with nothing. No conditions beyond the given statement. -/
import Derived.Test.YtlcepacbbfekoaaPFnExactSumFormsx10
set_option linter.unusedVariables false
set_option linter.unusedSimpArgs false
namespace Go.Proofs.Ytlcepacbbfekoaa.Pure
open Go.RowKit Go.Proofs.Ytlcepacbbfekoaa.PFnExactSumForms Go.Proofs.YtlcepacbbfekoaaW.PrintWords Go.Proofs.YtlcepacbbfekoaaW.PrintLast

theorem ev_succ {α : Type} {g : Nat → Option α} {r : α} (h : Ev (fun k => g (k + 1)) r) : Ev g r := Ev.step (fun _ => rfl) h
theorem ev_some {α : Type} {r r' : α} (h : r = r') : Ev (fun _ => some r) r' := by subst h; exact Ev.now r
theorem ev_pos {α : Type} {c : Prop} [Decidable c] {g f : Nat → Option α} {r : α} (hc : c) (h : Ev g r) : Ev (fun k => if c then g k else f k) r := by
  simp only [if_pos hc]; exact h
theorem ev_neg {α : Type} {c : Prop} [Decidable c] {g f : Nat → Option α} {r : α} (hc : ¬ c) (h : Ev f r) : Ev (fun k => if c then g k else f k) r := by
  simp only [if_neg hc]; exact h
theorem ev_ite {α : Type} {c : Prop} [Decidable c] {g f : Nat → Option α} {r : α} (h : c → Ev g r) (h' : ¬ c → Ev f r) : Ev (fun k => if c then g k else f k) r := by
  by_cases hc : c
  · exact ev_pos hc (h hc)
  · exact ev_neg hc (h' hc)
theorem ev_bind {α β : Type} {g : Nat → Option α} {f : Nat → α → Option β} {a : α} {r : β} (h : Ev g a) (k : Ev (fun n => f n a) r) : Ev (fun n => (g n).bind (f n)) r := Ev.bind h k
theorem ev_bind0 {α β : Type} {o : Option α} {f : Nat → α → Option β} {a : α} {r : β} (h : o = some a) (k : Ev (fun n => f n a) r) : Ev (fun n => o.bind (f n)) r := by
  subst h; exact k
theorem ev_eq {α : Type} {g : Nat → Option α} {r r' : α} (h : Ev g r) (e : r = r') : Ev g r' := e ▸ h
theorem wr {n : Int} (h0 : -9223372036854775808 ≤ n) (h1 : n ≤ 9223372036854775807) : wrap64 n = n := by unfold wrap64; omega
theorem wr1 {i : Int} (h0 : 0 ≤ i) (h1 : i ≤ 4611686018427387904) : wrap64 (i + 1) = i + 1 := wr (by omega) (by omega)
theorem rd_nat (l : List Int) (i : Nat) : rd l (i : Int) = l.getD i 0 := by simp [rd]
theorem rd_get {l : List Int} {i : Nat} (h : i < l.length) : rd l (i : Int) = l[i] := by
  simp [rd, List.getD_eq_getElem?_getD, List.getElem?_eq_getElem h]
theorem drop_rd {l : List Int} {i : Nat} (h : i < l.length) : l.drop i = rd l (i : Int) :: l.drop (i + 1) := by
  rw [rd_get h]; exact List.drop_eq_getElem_cons h
theorem rd_mem {l : List Int} {i : Nat} (h : i < l.length) : rd l (i : Int) ∈ l := by rw [rd_get h]; exact List.getElem_mem h


theorem toIntS_l0 (l : List Int) (hn : l.length ≤ 4611686018427387904) (d : Nat) : ∀ (i : Nat) (x : List Int), i + d = l.length → x.length = l.length → (∀ j, j < i → x[j]? = l[j]?) →
    Ev (fun k => laws_toIntS.l0 k l x (i : Int)) l := by
  induction d with
  | zero =>
    intro i x hi hx hj
    refine ev_succ ?_
    simp only [laws_toIntS.l0]
    refine ev_neg (by omega) (ev_some ?_)
    apply List.ext_getElem?
    intro j
    by_cases h : j < i
    · exact hj j h
    · rw [List.getElem?_eq_none (by omega), List.getElem?_eq_none (by omega)]
  | succ d ih =>
    intro i x hi hx hj
    refine ev_succ ?_
    simp only [laws_toIntS.l0, wr1 (show (0 : Int) ≤ (i : Int) by omega) (by omega)]
    refine ev_pos (by omega) (ev_pos (by omega) (ev_pos (by omega) ?_))
    refine ih (i + 1) _ (by omega) (by simp [hx]) ?_
    intro j hj'
    rw [Int.toNat_natCast, rd_get (by omega), List.getElem?_set]
    by_cases e : i = j
    · subst e
      rw [if_pos rfl, if_pos (by omega), List.getElem?_eq_getElem (by omega)]
    · rw [if_neg e]; exact hj j (by omega)
theorem toIntS_ev (l : List Int) (hn : l.length ≤ 35184372088832) : Ev (fun k => laws_toIntS.f k l) l := by
  simp only [laws_toIntS.f]
  refine ev_pos (by omega) (ev_pos (by omega) ?_)
  exact toIntS_l0 l (by omega) l.length 0 _ (by omega) (by simp) (by intro j hj; omega)


theorem eqIntS_l0 (l : List Int) (hn : l.length ≤ 4611686018427387904) (d : Nat) : ∀ (i : Nat), i + d = l.length → Ev (fun k => laws_eqIntS.l0 k l l (i : Int)) true := by
  induction d with
  | zero =>
    intro i hi
    refine ev_succ ?_
    simp only [laws_eqIntS.l0]
    exact ev_neg (by omega) (ev_some rfl)
  | succ d ih =>
    intro i hi
    refine ev_succ ?_
    simp only [laws_eqIntS.l0, wr1 (show (0 : Int) ≤ (i : Int) by omega) (by omega)]
    exact ev_pos (by omega) (ev_pos (by omega) (ev_pos (by omega) (ev_pos trivial (ih (i + 1) (by omega)))))
theorem eqIntS_ev (l : List Int) (hn : l.length ≤ 4611686018427387904) : Ev (fun k => laws_eqIntS.f k l l) true := by
  simp only [laws_eqIntS.f]
  exact ev_pos trivial (eqIntS_l0 l hn l.length 0 (by omega))


theorem rdLL_at {l : List (List Int)} {i : Nat} (h : i < l.length) : rd_L1 l (i : Int) = l[i] := by
  simp [rd_L1, List.getD_eq_getElem?_getD, List.getElem?_eq_getElem h]
theorem rdLL_mem {l : List (List Int)} {i : Nat} (h : i < l.length) : rd_L1 l (i : Int) ∈ l := by rw [rdLL_at h]; exact List.getElem_mem h
theorem rdLLL_at {l : List (List (List Int))} {i : Nat} (h : i < l.length) : rd_L2 l (i : Int) = l[i] := by
  simp [rd_L2, List.getD_eq_getElem?_getD, List.getElem?_eq_getElem h]
theorem drop_rdLLL {l : List (List (List Int))} {i : Nat} (h : i < l.length) : l.drop i = rd_L2 l (i : Int) :: l.drop (i + 1) := by
  rw [rdLLL_at h]; exact List.drop_eq_getElem_cons h
theorem rdLLL_mem {l : List (List (List Int))} {i : Nat} (h : i < l.length) : rd_L2 l (i : Int) ∈ l := by rw [rdLLL_at h]; exact List.getElem_mem h
/-- all rows are short -/
def fit1 (l : List Int) : Prop := l.length ≤ 1048576
def fit2 (l : List (List Int)) : Prop := l.length ≤ 1048576 ∧ ∀ r ∈ l, fit1 r
def fit3 (l : List (List (List Int))) : Prop := l.length ≤ 1048576 ∧ ∀ m ∈ l, fit2 m
theorem toIntSS_l0 (l : List (List Int)) (hf : fit2 l) (d : Nat) : ∀ (i : Nat) (x : List (List Int)), i + d = l.length → x.length = l.length → (∀ j, j < i → x[j]? = l[j]?) →
    Ev (fun k => laws_toIntSS.l0 k l x (i : Int)) l := by
  have hn := hf.1
  induction d with
  | zero =>
    intro i x hi hx hj
    refine ev_succ ?_
    simp only [laws_toIntSS.l0]
    refine ev_neg (by omega) (ev_some ?_)
    apply List.ext_getElem?
    intro j
    by_cases h : j < i
    · exact hj j h
    · rw [List.getElem?_eq_none (by omega), List.getElem?_eq_none (by omega)]
  | succ d ih =>
    intro i x hi hx hj
    refine ev_succ ?_
    simp only [laws_toIntSS.l0, wr1 (show (0 : Int) ≤ (i : Int) by omega) (by omega)]
    have hr := hf.2 _ (rdLL_mem (show i < l.length by omega))
    unfold fit1 at hr
    refine ev_pos (by omega) (ev_pos (by omega) (ev_bind (toIntS_ev _ (by omega)) (ev_pos (by omega) ?_)))
    refine ih (i + 1) _ (by omega) (by simp [hx]) ?_
    intro j hj'
    rw [Int.toNat_natCast, rdLL_at (by omega), List.getElem?_set]
    by_cases e : i = j
    · subst e
      rw [if_pos rfl, if_pos (by omega), List.getElem?_eq_getElem (by omega)]
    · rw [if_neg e]; exact hj j (by omega)
theorem toIntSS_ev (l : List (List Int)) (hf : fit2 l) : Ev (fun k => laws_toIntSS.f k l) l := by
  have hn := hf.1
  simp only [laws_toIntSS.f]
  refine ev_pos (by omega) (ev_pos (by omega) ?_)
  exact toIntSS_l0 l hf l.length 0 _ (by omega) (by simp) (by intro j hj; omega)
theorem toIntSSS_l0 (l : List (List (List Int))) (hf : fit3 l) (d : Nat) : ∀ (i : Nat) (x : List (List (List Int))), i + d = l.length → x.length = l.length → (∀ j, j < i → x[j]? = l[j]?) →
    Ev (fun k => laws_toIntSSS.l0 k l x (i : Int)) l := by
  have hn := hf.1
  induction d with
  | zero =>
    intro i x hi hx hj
    refine ev_succ ?_
    simp only [laws_toIntSSS.l0]
    refine ev_neg (by omega) (ev_some ?_)
    apply List.ext_getElem?
    intro j
    by_cases h : j < i
    · exact hj j h
    · rw [List.getElem?_eq_none (by omega), List.getElem?_eq_none (by omega)]
  | succ d ih =>
    intro i x hi hx hj
    refine ev_succ ?_
    simp only [laws_toIntSSS.l0, wr1 (show (0 : Int) ≤ (i : Int) by omega) (by omega)]
    have hr := hf.2 _ (rdLLL_mem (show i < l.length by omega))
    refine ev_pos (by omega) (ev_pos (by omega) (ev_bind (toIntSS_ev _ hr) (ev_pos (by omega) ?_)))
    refine ih (i + 1) _ (by omega) (by simp [hx]) ?_
    intro j hj'
    rw [Int.toNat_natCast, rdLLL_at (by omega), List.getElem?_set]
    by_cases e : i = j
    · subst e
      rw [if_pos rfl, if_pos (by omega), List.getElem?_eq_getElem (by omega)]
    · rw [if_neg e]; exact hj j (by omega)
theorem toIntSSS_ev (l : List (List (List Int))) (hf : fit3 l) : Ev (fun k => laws_toIntSSS.f k l) l := by
  have hn := hf.1
  simp only [laws_toIntSSS.f]
  refine ev_pos (by omega) (ev_pos (by omega) ?_)
  exact toIntSSS_l0 l hf l.length 0 _ (by omega) (by simp) (by intro j hj; omega)
theorem eqIntSS_l0 (l : List (List Int)) (hf : fit2 l) (d : Nat) : ∀ (i : Nat), i + d = l.length → Ev (fun k => laws_eqIntSS.l0 k l l (i : Int)) true := by
  have hn := hf.1
  induction d with
  | zero =>
    intro i hi
    refine ev_succ ?_
    simp only [laws_eqIntSS.l0]
    exact ev_neg (by omega) (ev_some rfl)
  | succ d ih =>
    intro i hi
    have hr := hf.2 _ (rdLL_mem (show i < l.length by omega))
    unfold fit1 at hr
    refine ev_succ ?_
    simp only [laws_eqIntSS.l0, wr1 (show (0 : Int) ≤ (i : Int) by omega) (by omega)]
    exact ev_pos (by omega) (ev_pos (by omega) (ev_pos (by omega) (ev_bind (eqIntS_ev _ (by omega)) (ev_pos rfl (ih (i + 1) (by omega))))))
theorem eqIntSS_ev (l : List (List Int)) (hf : fit2 l) : Ev (fun k => laws_eqIntSS.f k l l) true := by
  simp only [laws_eqIntSS.f]
  exact ev_pos trivial (eqIntSS_l0 l hf l.length 0 (by omega))
theorem eqIntSSS_l0 (l : List (List (List Int))) (hf : fit3 l) (d : Nat) : ∀ (i : Nat), i + d = l.length → Ev (fun k => laws_eqIntSSS.l0 k l l (i : Int)) true := by
  have hn := hf.1
  induction d with
  | zero =>
    intro i hi
    refine ev_succ ?_
    simp only [laws_eqIntSSS.l0]
    exact ev_neg (by omega) (ev_some rfl)
  | succ d ih =>
    intro i hi
    have hr := hf.2 _ (rdLLL_mem (show i < l.length by omega))
    refine ev_succ ?_
    simp only [laws_eqIntSSS.l0, wr1 (show (0 : Int) ≤ (i : Int) by omega) (by omega)]
    exact ev_pos (by omega) (ev_pos (by omega) (ev_pos (by omega) (ev_bind (eqIntSS_ev _ hr) (ev_pos rfl (ih (i + 1) (by omega))))))
theorem eqIntSSS_ev (l : List (List (List Int))) (hf : fit3 l) : Ev (fun k => laws_eqIntSSS.f k l l) true := by
  simp only [laws_eqIntSSS.f]
  exact ev_pos trivial (eqIntSSS_l0 l hf l.length 0 (by omega))


/-- g tells some answer of which P is known -/
def Tot {α : Type} (g : Nat → Option α) (P : α → Prop) : Prop := ∃ r, Ev g r ∧ P r
theorem tot_some {α : Type} {r : α} {P : α → Prop} (h : P r) : Tot (fun _ => some r) P := ⟨r, Ev.now r, h⟩
theorem tot_bind {α β : Type} {g : Nat → Option α} {f : Nat → α → Option β} {P : α → Prop} {Q : β → Prop} (h : Tot g P) (k : ∀ a, P a → Tot (fun n => f n a) Q) : Tot (fun n => (g n).bind (f n)) Q := by
  obtain ⟨a, ha, hp⟩ := h
  obtain ⟨r, hr, hq⟩ := k a hp
  exact ⟨r, Ev.bind ha hr, hq⟩
theorem tot_bind0 {α β : Type} {o : Option α} {f : Nat → α → Option β} {P : α → Prop} {Q : β → Prop} (h : ∃ a, o = some a ∧ P a) (k : ∀ a, P a → Tot (fun n => f n a) Q) : Tot (fun n => o.bind (f n)) Q := by
  obtain ⟨a, ha, hp⟩ := h
  subst ha
  exact k a hp
theorem tot_pos {α : Type} {c : Prop} [Decidable c] {g f : Nat → Option α} {P : α → Prop} (hc : c) (h : Tot g P) : Tot (fun k => if c then g k else f k) P := by
  simp only [if_pos hc]; exact h
theorem tot_neg {α : Type} {c : Prop} [Decidable c] {g f : Nat → Option α} {P : α → Prop} (hc : ¬ c) (h : Tot f P) : Tot (fun k => if c then g k else f k) P := by
  simp only [if_neg hc]; exact h
theorem tot_ite {α : Type} {c : Prop} [Decidable c] {g f : Nat → Option α} {P : α → Prop} (h : c → Tot g P) (h' : ¬ c → Tot f P) : Tot (fun k => if c then g k else f k) P := by
  by_cases hc : c
  · exact tot_pos hc (h hc)
  · exact tot_neg hc (h' hc)
theorem tot_succ {α : Type} {g : Nat → Option α} {P : α → Prop} (h : Tot (fun k => g (k + 1)) P) : Tot g P := by
  obtain ⟨r, hr, hp⟩ := h
  exact ⟨r, ev_succ hr, hp⟩
/-- what the size's count tells: either it is used up, or what was counted fits -/
theorem szIntS_tot (l : List Int) (hl : l.length ≤ 9223372036854775807) (n : Int) (h0 : 0 ≤ n) (h1 : n ≤ 1048576) : ∃ r, laws_szIntS.f l n = some r ∧ r ≤ 1048576 ∧ (0 ≤ r → fit1 l) := by
  unfold laws_szIntS.f
  rw [wr (by omega) (by omega)]
  split
  · exact ⟨_, rfl, by omega, fun h => absurd h (by omega)⟩
  · exact ⟨_, rfl, by omega, fun _ => by unfold fit1; omega⟩
theorem szIntSS_l0 (l : List (List Int)) (hn : l.length ≤ 1048576) (hl : ∀ r ∈ l, r.length ≤ 9223372036854775807) (d : Nat) : ∀ (i : Nat) (n : Int), i + d = l.length → 0 ≤ n → n ≤ 1048576 → (∀ r ∈ l.take i, fit1 r) →
    Tot (fun k => laws_szIntSS.l0 k l n (i : Int)) (fun r => r ≤ 1048576 ∧ (0 ≤ r → fit2 l)) := by
  induction d with
  | zero =>
    intro i n hi h0 h1 hf
    refine tot_succ ?_
    simp only [laws_szIntSS.l0]
    rw [List.take_of_length_le (by omega)] at hf
    exact tot_neg (by omega) (tot_some ⟨h1, fun _ => ⟨hn, hf⟩⟩)
  | succ d ih =>
    intro i n hi h0 h1 hf
    refine tot_succ ?_
    simp only [laws_szIntSS.l0, wr1 (show (0 : Int) ≤ (i : Int) by omega) (by omega)]
    refine tot_pos (by omega) (tot_pos (by omega) (tot_bind0 (szIntS_tot _ (hl _ (rdLL_mem (show i < l.length by omega))) n h0 h1) (fun r hr => ?_)))
    refine tot_ite (fun h => tot_some ⟨by omega, fun h => absurd h (by omega)⟩) (fun h => ih (i + 1) r (by omega) (by omega) hr.1 ?_)
    intro x hx
    rw [List.take_succ_eq_append_getElem (by omega), ← rdLL_at (by omega), List.mem_append] at hx
    rcases hx with hx | hx
    · exact hf x hx
    · simp only [List.mem_cons, List.not_mem_nil, or_false] at hx
      rw [hx]; exact hr.2 (by omega)
theorem szIntSS_tot (l : List (List Int)) (hn : l.length ≤ 9223372036854775807) (hl : ∀ r ∈ l, r.length ≤ 9223372036854775807) (n : Int) (h0 : 0 ≤ n) (h1 : n ≤ 1048576) :
    Tot (fun k => laws_szIntSS.f k l n) (fun r => r ≤ 1048576 ∧ (0 ≤ r → fit2 l)) := by
  simp only [laws_szIntSS.f]
  rw [wr (by omega) (by omega)]
  refine tot_ite (fun h => tot_some ⟨by omega, fun h => absurd h (by omega)⟩) (fun h => ?_)
  exact szIntSS_l0 l (by omega) hl l.length 0 _ (by omega) (by omega) (by omega) (by simp)
theorem szIntSSS_l0 (l : List (List (List Int))) (hn : l.length ≤ 1048576) (hl : ∀ m ∈ l, m.length ≤ 9223372036854775807 ∧ ∀ r ∈ m, r.length ≤ 9223372036854775807) (d : Nat) : ∀ (i : Nat) (n : Int), i + d = l.length → 0 ≤ n → n ≤ 1048576 → (∀ r ∈ l.take i, fit2 r) →
    Tot (fun k => laws_szIntSSS.l0 k l n (i : Int)) (fun r => r ≤ 1048576 ∧ (0 ≤ r → fit3 l)) := by
  induction d with
  | zero =>
    intro i n hi h0 h1 hf
    refine tot_succ ?_
    simp only [laws_szIntSSS.l0]
    rw [List.take_of_length_le (by omega)] at hf
    exact tot_neg (by omega) (tot_some ⟨h1, fun _ => ⟨hn, hf⟩⟩)
  | succ d ih =>
    intro i n hi h0 h1 hf
    refine tot_succ ?_
    simp only [laws_szIntSSS.l0, wr1 (show (0 : Int) ≤ (i : Int) by omega) (by omega)]
    have hm := hl _ (rdLLL_mem (show i < l.length by omega))
    refine tot_pos (by omega) (tot_pos (by omega) (tot_bind (szIntSS_tot _ hm.1 hm.2 n h0 h1) (fun r hr => ?_)))
    refine tot_ite (fun h => tot_some ⟨by omega, fun h => absurd h (by omega)⟩) (fun h => ih (i + 1) r (by omega) (by omega) hr.1 ?_)
    intro x hx
    rw [List.take_succ_eq_append_getElem (by omega), ← rdLLL_at (by omega), List.mem_append] at hx
    rcases hx with hx | hx
    · exact hf x hx
    · simp only [List.mem_cons, List.not_mem_nil, or_false] at hx
      rw [hx]; exact hr.2 (by omega)
theorem szIntSSS_tot (l : List (List (List Int))) (hn : l.length ≤ 9223372036854775807) (hl : ∀ m ∈ l, m.length ≤ 9223372036854775807 ∧ ∀ r ∈ m, r.length ≤ 9223372036854775807) (n : Int) (h0 : 0 ≤ n) (h1 : n ≤ 1048576) :
    Tot (fun k => laws_szIntSSS.f k l n) (fun r => r ≤ 1048576 ∧ (0 ≤ r → fit3 l)) := by
  simp only [laws_szIntSSS.f]
  rw [wr (by omega) (by omega)]
  refine tot_ite (fun h => tot_some ⟨by omega, fun h => absurd h (by omega)⟩) (fun h => ?_)
  exact szIntSSS_l0 l (by omega) hl l.length 0 _ (by omega) (by omega) (by omega) (by simp)
theorem szLinear_tot (b : Int) (row : List Int) (mats : List (List (List Int))) (col : List Int) (h1 : row.length ≤ 9223372036854775807) (h2 : mats.length ≤ 9223372036854775807) (h3 : ∀ m ∈ mats, m.length ≤ 9223372036854775807 ∧ ∀ r ∈ m, r.length ≤ 9223372036854775807) (h4 : col.length ≤ 9223372036854775807)
    (n : Int) (h0 : 0 ≤ n) (hn : n ≤ 1048576) : Tot (fun k => laws_szLinear.f k b row mats col n) (fun r => r ≤ 1048576 ∧ (0 ≤ r → fit1 row ∧ fit3 mats ∧ fit1 col)) := by
  simp only [laws_szLinear.f]
  refine tot_bind0 (szIntS_tot row h1 n h0 hn) (fun r1 hr1 => tot_ite (fun h => tot_some ⟨by omega, fun h => absurd h (by omega)⟩) (fun h => ?_))
  refine tot_bind (szIntSSS_tot mats h2 h3 r1 (by omega) hr1.1) (fun r2 hr2 => tot_ite (fun h => tot_some ⟨by omega, fun h => absurd h (by omega)⟩) (fun h => ?_))
  refine tot_bind0 (szIntS_tot col h4 r2 (by omega) hr2.1) (fun r3 hr3 => tot_ite (fun h => tot_some ⟨by omega, fun h => absurd h (by omega)⟩) (fun h => ?_))
  exact tot_some ⟨hr3.1, fun h => ⟨hr1.2 (by omega), hr2.2 (by omega), hr3.2 (by omega)⟩⟩


theorem toLinear_ev (b : Int) (row : List Int) (mats : List (List (List Int))) (col : List Int) (h1 : fit1 row) (h2 : fit3 mats) (h3 : fit1 col) : Ev (fun k => laws_toLinear.f k b row mats col) (b, row, mats, col) := by
  unfold fit1 at h1 h3
  simp only [laws_toLinear.f]
  exact ev_bind (toIntS_ev row (by omega)) (ev_bind (toIntSSS_ev mats h2) (ev_bind (toIntS_ev col (by omega)) (ev_some rfl)))
theorem eqLinear_ev (b : Int) (row : List Int) (mats : List (List (List Int))) (col : List Int) (h1 : fit1 row) (h2 : fit3 mats) (h3 : fit1 col) : Ev (fun k => laws_eqLinear.f k b row mats col b row mats col) true := by
  unfold fit1 at h1 h3
  simp only [laws_eqLinear.f]
  exact ev_pos trivial (ev_bind (eqIntS_ev row (by omega)) (ev_pos rfl (ev_bind (eqIntSSS_ev mats h2) (ev_pos rfl (ev_bind (eqIntS_ev col (by omega)) (ev_pos rfl (ev_some rfl)))))))


def marks (m : Int) : Nat → List Int
  | 0 => []
  | n + 1 => m :: marks (m + 1) n
theorem marks_length (n : Nat) : ∀ m, (marks m n).length = n := by
  induction n with
  | zero => intro m; rfl
  | succ n ih => intro m; simp [marks, ih]
theorem marks_get (n : Nat) : ∀ (m : Int) (i : Nat), i < n → (marks m n)[i]? = some (m + i) := by
  induction n with
  | zero => intro m i h; omega
  | succ n ih =>
    intro m i h
    cases i with
    | zero => simp [marks]
    | succ i => simp only [marks, List.getElem?_cons_succ]; rw [ih (m + 1) i (by omega)]; congr 1; omega
theorem heldIntS_l0 (n : Nat) (m : Int) (h0 : 0 ≤ m) (hm : m + n ≤ 4611686018427387904) (d : Nat) : ∀ (i : Nat), i + d = n → 
    Ev (fun k => laws_heldIntS.l0 k (marks m n) (m + i) (i : Int)) (m + n) := by
  induction d with
  | zero =>
    intro i hi
    refine ev_succ ?_
    simp only [laws_heldIntS.l0, marks_length]
    refine ev_neg (by omega) (ev_some ?_)
    omega
  | succ d ih =>
    intro i hi
    refine ev_succ ?_
    simp only [laws_heldIntS.l0, marks_length, wr1 (show (0 : Int) ≤ (i : Int) by omega) (by omega), wr1 (show (0 : Int) ≤ m + (i : Int) by omega) (by omega)]
    refine ev_pos (by omega) (ev_pos (by omega) (ev_pos ?_ ?_))
    · have h := marks_get n m i (by omega)
      rw [rd_nat, List.getD_eq_getElem?_getD, h]; rfl
    · have := ih (i + 1) (by omega)
      rw [Int.add_assoc]
      exact this
theorem heldIntS_ev (m : Int) (n : Nat) (h0 : 0 ≤ m) (hm : m + n ≤ 4611686018427387904) : Ev (fun k => laws_heldIntS.f k (marks m n) m) (m + n) := by
  simp only [laws_heldIntS.f]
  have := heldIntS_l0 n m h0 hm n 0 (by omega)
  simpa using this


theorem mks1_eq (n : Nat) : ∀ m, mks1 m n = marks m n := by
  induction n with
  | zero => intro m; rfl
  | succ n ih => intro m; simp [mks1, marks, ih]
theorem mks2_length (xs : List (List Int)) : ∀ m, (mks2 m xs).length = xs.length := by
  induction xs with
  | nil => intro m; rfl
  | cons x xs ih => intro m; simp [mks2, ih]
theorem mks3_length (xs : List (List (List Int))) : ∀ m, (mks3 m xs).length = xs.length := by
  induction xs with
  | nil => intro m; rfl
  | cons x xs ih => intro m; simp [mks3, ih]
theorem mtot2_b (xs : List (List Int)) : ∀ m, (∀ r ∈ xs, fit1 r) → m ≤ mtot2 m xs ∧ mtot2 m xs ≤ m + 1048576 * (xs.length : Int) := by
  induction xs with
  | nil => intro m _; simp [mtot2]
  | cons x xs ih =>
    intro m h
    have h1 := ih (m + (x.length : Int)) (fun r hr => h r (List.mem_cons_of_mem _ hr))
    have h2 := h x List.mem_cons_self
    unfold fit1 at h2
    simp only [mtot2, List.length_cons]
    omega
theorem mtot3_b (xs : List (List (List Int))) : ∀ m, (∀ r ∈ xs, fit2 r) → m ≤ mtot3 m xs ∧ mtot3 m xs ≤ m + 1099511627776 * (xs.length : Int) := by
  induction xs with
  | nil => intro m _; simp [mtot3]
  | cons x xs ih =>
    intro m h
    have h1 := ih (mtot2 m x) (fun r hr => h r (List.mem_cons_of_mem _ hr))
    have h2 := h x List.mem_cons_self
    have h3 := mtot2_b x m h2.2
    have h4 := h2.1
    simp only [mtot3, List.length_cons]
    omega
theorem mks2_get (xs : List (List Int)) : ∀ (m : Int) (i : Nat) (hi : i < xs.length), (mks2 m xs)[i]? = some (mks1 (mtot2 m (xs.take i)) xs[i].length) ∧ mtot2 m (xs.take (i + 1)) = mtot2 m (xs.take i) + (xs[i].length : Int) := by
  induction xs with
  | nil => intro m i hi; simp at hi
  | cons x xs ih =>
    intro m i hi
    cases i with
    | zero => simp [mks2, mtot2]
    | succ i =>
      have h := ih (m + (x.length : Int)) i (by simpa using hi)
      simp only [mks2, List.getElem?_cons_succ, List.take_succ_cons, mtot2, List.getElem_cons_succ]
      exact h
theorem mks3_get (xs : List (List (List Int))) : ∀ (m : Int) (i : Nat) (hi : i < xs.length), (mks3 m xs)[i]? = some (mks2 (mtot3 m (xs.take i)) xs[i]) ∧ mtot3 m (xs.take (i + 1)) = mtot2 (mtot3 m (xs.take i)) xs[i] := by
  induction xs with
  | nil => intro m i hi; simp at hi
  | cons x xs ih =>
    intro m i hi
    cases i with
    | zero => simp [mks3, mtot3]
    | succ i =>
      have h := ih (mtot2 m x) i (by simpa using hi)
      simp only [mks3, List.getElem?_cons_succ, List.take_succ_cons, mtot3, List.getElem_cons_succ]
      exact h
theorem heldIntSS_l0 (xs : List (List Int)) (hf : fit2 xs) (m : Int) (h0 : 0 ≤ m) (hm : m ≤ 1152921504606846976) (d : Nat) : ∀ i : Nat, i + d = xs.length →
    Ev (fun k => laws_heldIntSS.l0 k (mks2 m xs) (mtot2 m (xs.take i)) (i : Int)) (mtot2 m xs) := by
  have hl := hf.1
  induction d with
  | zero =>
    intro i hi
    refine ev_succ ?_
    simp only [laws_heldIntSS.l0, mks2_length]
    refine ev_neg (by omega) (ev_some ?_)
    rw [List.take_of_length_le (by omega)]
  | succ d ih =>
    intro i hi
    have hil : i < xs.length := by omega
    have h := mks2_get xs m i hil
    have hb := mtot2_b (xs.take i) m (fun r hr => hf.2 r (List.mem_of_mem_take hr))
    rw [List.length_take] at hb
    have hx := hf.2 _ (List.getElem_mem hil)
    unfold fit1 at hx
    have e : rd_L1 (mks2 m xs) (i : Int) = marks (mtot2 m (xs.take i)) xs[i].length := by
      rw [rdLL_at (by rw [mks2_length]; omega), ← mks1_eq]
      exact Option.some.inj ((List.getElem?_eq_getElem _).symm.trans h.1)
    have hi' := ih (i + 1) (by omega)
    rw [h.2] at hi'
    refine ev_succ ?_
    simp only [laws_heldIntSS.l0, mks2_length, wr1 (show (0 : Int) ≤ (i : Int) by omega) (by omega)]
    rw [e]
    exact ev_pos (by omega) (ev_pos (by omega) (ev_bind (heldIntS_ev _ _ (by omega) (by omega)) (ev_neg (by omega) hi')))
theorem heldIntSS_ev (xs : List (List Int)) (hf : fit2 xs) (m : Int) (h0 : 0 ≤ m) (hm : m ≤ 1152921504606846976) : Ev (fun k => laws_heldIntSS.f k (mks2 m xs) m) (mtot2 m xs) := by
  simp only [laws_heldIntSS.f]
  exact heldIntSS_l0 xs hf m h0 hm xs.length 0 (by omega)
theorem heldIntSSS_l0 (xs : List (List (List Int))) (hl : xs.length ≤ 1024) (hf : ∀ r ∈ xs, fit2 r) (m : Int) (h0 : 0 ≤ m) (hm : m ≤ 4611686018427387) (d : Nat) : ∀ i : Nat, i + d = xs.length →
    Ev (fun k => laws_heldIntSSS.l0 k (mks3 m xs) (mtot3 m (xs.take i)) (i : Int)) (mtot3 m xs) := by
  induction d with
  | zero =>
    intro i hi
    refine ev_succ ?_
    simp only [laws_heldIntSSS.l0, mks3_length]
    refine ev_neg (by omega) (ev_some ?_)
    rw [List.take_of_length_le (by omega)]
  | succ d ih =>
    intro i hi
    have hil : i < xs.length := by omega
    have h := mks3_get xs m i hil
    have hb := mtot3_b (xs.take i) m (fun r hr => hf r (List.mem_of_mem_take hr))
    rw [List.length_take] at hb
    have hx := hf _ (List.getElem_mem hil)
    have hb2 := mtot2_b xs[i] (mtot3 m (xs.take i)) hx.2
    have e : rd_L2 (mks3 m xs) (i : Int) = mks2 (mtot3 m (xs.take i)) xs[i] := by
      rw [rdLLL_at (by rw [mks3_length]; omega)]
      exact Option.some.inj ((List.getElem?_eq_getElem _).symm.trans h.1)
    have hi' := ih (i + 1) (by omega)
    rw [h.2] at hi'
    refine ev_succ ?_
    simp only [laws_heldIntSSS.l0, mks3_length, wr1 (show (0 : Int) ≤ (i : Int) by omega) (by omega)]
    rw [e]
    exact ev_pos (by omega) (ev_pos (by omega) (ev_bind (heldIntSS_ev _ hx _ (by omega) (by omega)) (ev_neg (by omega) hi')))
theorem heldIntSSS_ev (xs : List (List (List Int))) (hl : xs.length ≤ 1024) (hf : ∀ r ∈ xs, fit2 r) (m : Int) (h0 : 0 ≤ m) (hm : m ≤ 4611686018427387) : Ev (fun k => laws_heldIntSSS.f k (mks3 m xs) m) (mtot3 m xs) := by
  simp only [laws_heldIntSSS.f]
  exact heldIntSSS_l0 xs hl hf m h0 hm xs.length 0 (by omega)
theorem heldLinear_ev (b : Int) (row : List Int) (mats : List (List (List Int))) (col : List Int) (h1 : fit1 row) (hl : mats.length ≤ 1024) (hf : ∀ r ∈ mats, fit2 r) (h3 : fit1 col) :
    Ev (fun k => laws_heldLinear.f k b (mks1 1 row.length) (mks3 (1 + (row.length : Int)) mats) (mks1 (mtot3 (1 + (row.length : Int)) mats) col.length) 1) (mtot3 (1 + (row.length : Int)) mats + (col.length : Int)) := by
  unfold fit1 at h1 h3
  have hb := mtot3_b mats (1 + (row.length : Int)) hf
  simp only [laws_heldLinear.f, mks1_eq]
  refine ev_bind (heldIntS_ev 1 row.length (by omega) (by omega)) (ev_neg (by omega) ?_)
  refine ev_bind (heldIntSSS_ev mats hl hf _ (by omega) (by omega)) ?_
  refine ev_neg (by omega) ?_
  refine ev_bind (heldIntS_ev _ _ (by omega) (by omega)) ?_
  exact ev_neg (by omega) (ev_some rfl)
theorem mlim1b_of {l : List Int} (h : fit1 l) : mlim1b l = true := decide_eq_true h
theorem mlim2b_of {l : List (List Int)} (h : fit2 l) : mlim2b l = true := by
  unfold mlim2b
  rw [Bool.and_eq_true, List.all_eq_true]
  exact ⟨decide_eq_true h.1, fun r hr => mlim1b_of (h.2 r hr)⟩
theorem l1In_eq (a b c : Int) : spec_l1In.f a b c = some (decide (b ≤ a ∧ a ≤ c)) := by
  unfold spec_l1In.f
  by_cases h : a ≥ b
  · rw [if_pos h]; simp [show b ≤ a from h]
  · rw [if_neg h]; simp [show ¬ b ≤ a from h]


def small9 (x : Int) : Bool := decide (-9 ≤ x ∧ x ≤ 9)
def rowOk (n : Nat) (r : List Int) : Bool := decide (r.length = n) && r.all small9
def matOk (n : Nat) (m : List (List Int)) : Bool := decide (m.length = n) && m.all (rowOk n)
def isLin (b : Int) (row : List Int) (mats : List (List (List Int))) (col : List Int) : Bool :=
  decide (2 ≤ b ∧ b ≤ 4) && decide (1 ≤ row.length ∧ row.length ≤ 40) && rowOk row.length row && rowOk row.length col && decide ((mats.length : Int) = b) && mats.all (matOk row.length)
theorem isBase_eq (b : Int) : impl_isBase.f b = some (decide (2 ≤ b ∧ b ≤ 4)) := by
  unfold impl_isBase.f
  by_cases h : b ≥ 2
  · rw [if_pos h]; simp [show 2 ≤ b from h]
  · rw [if_neg h]; simp [show ¬ 2 ≤ b from h]
theorem impl_areSmall_l0 (l : List Int) (hn : l.length ≤ 4611686018427387904) (d : Nat) : ∀ (i : Nat), i + d = l.length →
    Ev (fun k => impl_areSmall.l0 k l (l.length : Int) (i : Int)) ((l.drop i).all small9) := by
  induction d with
  | zero =>
    intro i hi
    refine ev_succ ?_
    simp only [impl_areSmall.l0]
    refine ev_neg (by omega) (ev_some ?_)
    rw [List.drop_of_length_le (by omega)]; rfl
  | succ d ih =>
    intro i hi
    refine ev_succ ?_
    simp only [impl_areSmall.l0, wr1 (show (0 : Int) ≤ (i : Int) by omega) (by omega)]
    refine ev_pos (by omega) (ev_pos (by omega) (ev_pos (by omega) ?_))
    rw [drop_rd (by omega : i < l.length)]
    refine ev_ite (fun h => ev_some ?_) (fun h => ev_ite (fun h' => ev_some ?_) (fun h' => ev_eq (ih (i + 1) (by omega)) ?_))
    · simp only [List.all_cons, small9, decide_eq_false (show ¬ (-9 ≤ rd l (i : Int) ∧ rd l (i : Int) ≤ 9) by omega), Bool.false_and]
    · simp only [List.all_cons, small9, decide_eq_false (show ¬ (-9 ≤ rd l (i : Int) ∧ rd l (i : Int) ≤ 9) by omega), Bool.false_and]
    · simp only [List.all_cons, small9, decide_eq_true (show (-9 ≤ rd l (i : Int) ∧ rd l (i : Int) ≤ 9) by omega), Bool.true_and]
theorem impl_areSmall_ev (l : List Int) (n : Nat) (hn : l.length ≤ 4611686018427387904) : Ev (fun k => impl_areSmall.f k l (n : Int)) (rowOk n l) := by
  simp only [impl_areSmall.f]
  unfold rowOk
  refine ev_ite (fun h => ev_eq (impl_areSmall_l0 l hn l.length 0 (by omega)) ?_) (fun h => ev_some ?_)
  · rw [decide_eq_true (by omega)]; simp
  · rw [decide_eq_false (by omega)]; rfl
theorem impl_lin_l1 (n : Nat) (mats : List (List (List Int))) (a : Int) (m : List (List Int)) (hm : fit2 m) (R : Bool) (H : m.all (rowOk n) = true → Ev (fun k => impl_IsLinear.l0 k (n : Int) mats (mats.length : Int) (wrap64 (a + 1))) R) (H2 : m.all (rowOk n) = false → R = false) (d : Nat) : ∀ i : Nat, i + d = m.length → (m.take i).all (rowOk n) = true →
    Ev (fun k => impl_IsLinear.l1 k (n : Int) mats (mats.length : Int) a m (m.length : Int) (i : Int)) R := by
  have hl := hm.1
  induction d with
  | zero =>
    intro i hi ht
    refine ev_succ ?_
    simp only [impl_IsLinear.l1]
    rw [List.take_of_length_le (by omega)] at ht
    exact ev_neg (by omega) (H ht)
  | succ d ih =>
    intro i hi ht
    have hr := hm.2 _ (rdLL_mem (show i < m.length by omega))
    unfold fit1 at hr
    refine ev_succ ?_
    simp only [impl_IsLinear.l1, wr1 (show (0 : Int) ≤ (i : Int) by omega) (by omega)]
    refine ev_pos (by omega) (ev_pos (by omega) (ev_pos (by omega) (ev_bind (impl_areSmall_ev _ n (by omega)) (ev_ite (fun h => ih (i + 1) (by omega) ?_) (fun h => ev_some ?_)))))
    · rw [List.take_succ_eq_append_getElem (by omega), ← rdLL_at (by omega), List.all_append, ht]; simp [h]
    · symm
      refine H2 ?_
      rw [Bool.eq_false_iff]
      intro hall
      rw [List.all_eq_true] at hall
      exact h (hall _ (rdLL_mem (by omega)))
theorem impl_lin_l0 (n : Nat) (mats : List (List (List Int))) (hf : fit3 mats) (d : Nat) : ∀ i : Nat, i + d = mats.length → Ev (fun k => impl_IsLinear.l0 k (n : Int) mats (mats.length : Int) (i : Int)) ((mats.drop i).all (matOk n)) := by
  have hl := hf.1
  induction d with
  | zero =>
    intro i hi
    refine ev_succ ?_
    simp only [impl_IsLinear.l0]
    refine ev_neg (by omega) (ev_some ?_)
    rw [List.drop_of_length_le (by omega)]; rfl
  | succ d ih =>
    intro i hi
    have hm := hf.2 _ (rdLLL_mem (show i < mats.length by omega))
    refine ev_succ ?_
    simp only [impl_IsLinear.l0]
    refine ev_pos (by omega) (ev_pos (by omega) (ev_pos (by omega) ?_))
    rw [drop_rdLLL (show i < mats.length by omega), List.all_cons]
    refine ev_ite (fun h => ?_) (fun h => ev_some ?_)
    · refine impl_lin_l1 n mats (i : Int) _ hm _ (fun hall => ?_) (fun hall => ?_) (rd_L2 mats (i : Int)).length 0 (by omega) (by simp)
      · rw [wr1 (by omega) (by omega)]
        refine ev_eq (ih (i + 1) (by omega)) ?_
        simp only [matOk, hall, decide_eq_true (show (rd_L2 mats (i : Int)).length = n by omega), Bool.and_self, Bool.true_and]
      · simp only [matOk, hall, Bool.and_false, Bool.false_and]
    · simp only [matOk, decide_eq_false (show ¬ (rd_L2 mats (i : Int)).length = n by omega), Bool.false_and]
theorem impl_IsLinear_ev (b : Int) (row : List Int) (mats : List (List (List Int))) (col : List Int) (h1 : fit1 row) (h2 : fit3 mats) (h3 : fit1 col) : Ev (fun k => impl_IsLinear.f k b row mats col) (isLin b row mats col) := by
  unfold fit1 at h1 h3
  simp only [impl_IsLinear.f, isBase_eq, Option.bind_some]
  have no : ∀ f : Bool, f = true → isLin b row mats col = false → Ev (fun k => impl_IsLinear.j0 k (row.length : Int) f b row mats col) (isLin b row mats col) := by
    intro f hf h
    subst hf
    refine ev_succ ?_
    simp only [impl_IsLinear.j0]
    exact ev_pos trivial (ev_some h.symm)
  refine ev_ite (fun hb => ?_) (fun hb => no _ rfl ?_)
  · refine ev_ite (fun h => no _ rfl ?_) (fun h => ev_ite (fun h' => no _ rfl ?_) (fun h' => ?_))
    · unfold isLin; rw [decide_eq_false (show ¬ (1 ≤ row.length ∧ row.length ≤ 40) by omega)]; simp
    · unfold isLin; rw [decide_eq_false (show ¬ (1 ≤ row.length ∧ row.length ≤ 40) by omega)]; simp
    · refine ev_bind (impl_areSmall_ev row row.length (by omega)) (ev_ite (fun h4 => ?_) (fun h4 => no _ rfl ?_))
      · refine ev_bind (impl_areSmall_ev col row.length (by omega)) (ev_ite (fun h5 => ?_) (fun h5 => no _ rfl ?_))
        · by_cases h6 : (mats.length : Int) = b
          · refine ev_succ ?_
            simp only [impl_IsLinear.j0]
            refine ev_neg (by simp [h6]) (ev_eq (impl_lin_l0 row.length mats h2 mats.length 0 (by omega)) ?_)
            unfold isLin
            rw [hb, decide_eq_true (show (1 ≤ row.length ∧ row.length ≤ 40) by omega), h4, h5, decide_eq_true h6]; simp
          · refine no _ (by simpa using h6) ?_
            unfold isLin; rw [decide_eq_false h6]; simp
        · unfold isLin; rw [Bool.not_eq_true] at h5; rw [h5]; simp
      · unfold isLin; rw [Bool.not_eq_true] at h4; rw [h4]; simp
  · unfold isLin; rw [Bool.not_eq_true] at hb; rw [hb]; simp
theorem all_rd_true {p : Int → Bool} {l : List Int} (h : l.all p = true) {i : Nat} (hi : i < l.length) : p (rd l (i : Int)) = true := List.all_eq_true.1 h _ (rd_mem hi)
theorem spec_lin_l3 (n : Nat) (b : Int) (row col : List Int) (mats : List (List (List Int))) (a i : Nat) (ha : a < mats.length) (hi : i < (rd_L2 mats (a : Int)).length) (r : List Int) (hr : r = rd_L1 (rd_L2 mats (a : Int)) (i : Int)) (hl : r.length = n) (hn : n ≤ 40) (hn2 : mats.length ≤ 1048576 ∧ (rd_L2 mats (a : Int)).length ≤ 1048576) (R : Bool)
    (H : r.all small9 = true → Ev (fun k => spec_IsLinear.l2 k (n : Int) (a : Int) ((i + 1 : Nat) : Int) b row mats col) R) (H2 : r.all small9 = false → R = false) (d : Nat) : ∀ j : Nat, j + d = n → (r.take j).all small9 = true →
    Ev (fun k => spec_IsLinear.l3 k (n : Int) (a : Int) (i : Int) (j : Int) b row mats col) R := by
  induction d with
  | zero =>
    intro j hj ht
    refine ev_succ ?_
    simp only [spec_IsLinear.l3]
    rw [List.take_of_length_le (by omega)] at ht
    rw [wr1 (show (0 : Int) ≤ (i : Int) by omega) (by omega)]
    exact ev_neg (by omega) (H ht)
  | succ d ih =>
    intro j hj ht
    refine ev_succ ?_
    simp only [spec_IsLinear.l3, l1In_eq, Option.bind_some, wr1 (show (0 : Int) ≤ (j : Int) by omega) (by omega)]
    rw [← hr]
    refine ev_pos (by omega) (ev_pos (by omega) (ev_pos (by omega) (ev_pos (by omega) (ev_pos (by omega) (ev_pos (by omega) (ev_pos (by omega) (ev_ite (fun h => ih (j + 1) (by omega) ?_) (fun h => ev_some ?_))))))))
    · rw [List.take_succ_eq_append_getElem (by omega), ← rd_get (by omega), List.all_append, ht]; simpa [small9] using h
    · symm
      refine H2 ?_
      rw [Bool.eq_false_iff]
      intro hall
      exact h (by simpa [small9] using all_rd_true hall (show j < r.length by omega))
theorem spec_lin_l2 (n : Nat) (b : Int) (row col : List Int) (mats : List (List (List Int))) (hf : fit3 mats) (a : Nat) (ha : a < mats.length) (m : List (List Int)) (hm : m = rd_L2 mats (a : Int)) (hl : m.length = n) (hn : n ≤ 40) (R : Bool)
    (H : m.all (rowOk n) = true → Ev (fun k => spec_IsLinear.l1 k (n : Int) ((a + 1 : Nat) : Int) b row mats col) R) (H2 : m.all (rowOk n) = false → R = false) (d : Nat) : ∀ i : Nat, i + d = n → (m.take i).all (rowOk n) = true →
    Ev (fun k => spec_IsLinear.l2 k (n : Int) (a : Int) (i : Int) b row mats col) R := by
  have hf1 := hf.1
  have hf2 := hf.2 _ (rdLLL_mem ha)
  have hf3 := hf2.1
  induction d with
  | zero =>
    intro i hi ht
    refine ev_succ ?_
    simp only [spec_IsLinear.l2]
    rw [List.take_of_length_le (by omega)] at ht
    rw [wr1 (show (0 : Int) ≤ (a : Int) by omega) (by omega)]
    exact ev_neg (by omega) (H ht)
  | succ d ih =>
    intro i hi ht
    refine ev_succ ?_
    simp only [spec_IsLinear.l2]
    rw [← hm]
    have nope : rowOk n (rd_L1 m (i : Int)) = false → R = false := by
      intro h
      refine H2 ?_
      rw [Bool.eq_false_iff]
      intro hall
      rw [List.all_eq_true.1 hall _ (rdLL_mem (by omega))] at h
      cases h
    refine ev_pos (by omega) (ev_pos (by omega) (ev_pos (by omega) (ev_pos (by omega) (ev_pos (by omega) (ev_ite (fun h => ?_) (fun h => ev_some ?_))))))
    · refine spec_lin_l3 n b row col mats a i ha (by rw [← hm]; omega) _ rfl (by rw [← hm]; omega) hn ⟨hf1, hf3⟩ R (fun hall => ih (i + 1) (by omega) ?_) (fun hall => nope ?_) n 0 (by omega) (by simp)
      · rw [← hm] at hall
        rw [List.take_succ_eq_append_getElem (by omega), ← rdLL_at (by omega), List.all_append, ht]
        simp only [List.all_cons, List.all_nil, rowOk, hall, decide_eq_true (show (rd_L1 m (i : Int)).length = n by omega), Bool.and_self]
      · rw [← hm] at hall
        simp only [rowOk, hall, Bool.and_false]
    · symm
      refine nope ?_
      simp only [rowOk, decide_eq_false (show ¬ (rd_L1 m (i : Int)).length = n by omega), Bool.false_and]
theorem spec_lin_l1 (n : Nat) (hn : n ≤ 40) (row col : List Int) (mats : List (List (List Int))) (hf : fit3 mats) (d : Nat) : ∀ a : Nat, a + d = mats.length →
    Ev (fun k => spec_IsLinear.l1 k (n : Int) (a : Int) (mats.length : Int) row mats col) ((mats.drop a).all (matOk n)) := by
  have hf1 := hf.1
  induction d with
  | zero =>
    intro a hi
    refine ev_succ ?_
    simp only [spec_IsLinear.l1]
    refine ev_neg (by omega) (ev_some ?_)
    rw [List.drop_of_length_le (by omega)]; rfl
  | succ d ih =>
    intro a hi
    refine ev_succ ?_
    simp only [spec_IsLinear.l1]
    refine ev_pos (by omega) (ev_pos (by omega) (ev_pos (by omega) ?_))
    rw [drop_rdLLL (show a < mats.length by omega), List.all_cons]
    refine ev_ite (fun h => ?_) (fun h => ev_some ?_)
    · refine spec_lin_l2 n _ row col mats hf a (by omega) _ rfl (by omega) hn _ (fun hall => ?_) (fun hall => ?_) n 0 (by omega) (by simp)
      · refine ev_eq (ih (a + 1) (by omega)) ?_
        simp only [matOk, hall, decide_eq_true (show (rd_L2 mats (a : Int)).length = n by omega), Bool.and_self, Bool.true_and]
      · simp only [matOk, hall, Bool.and_false, Bool.false_and]
    · simp only [matOk, decide_eq_false (show ¬ (rd_L2 mats (a : Int)).length = n by omega), Bool.false_and]
theorem spec_lin_l0 (n : Nat) (hn : n ≤ 40) (row col : List Int) (mats : List (List (List Int))) (hf : fit3 mats) (h1 : row.length = n) (h2 : col.length = n) (d : Nat) : ∀ i : Nat, i + d = n → (row.take i).all small9 = true → (col.take i).all small9 = true →
    Ev (fun k => spec_IsLinear.l0 k (n : Int) (i : Int) (mats.length : Int) row mats col) (row.all small9 && col.all small9 && mats.all (matOk n)) := by
  induction d with
  | zero =>
    intro i hi hr hc
    refine ev_succ ?_
    simp only [spec_IsLinear.l0]
    rw [List.take_of_length_le (by omega)] at hr hc
    refine ev_neg (by omega) (ev_eq (spec_lin_l1 n hn row col mats hf mats.length 0 (by omega)) ?_)
    rw [hr, hc]; simp
  | succ d ih =>
    intro i hi hr hc
    refine ev_succ ?_
    simp only [spec_IsLinear.l0, l1In_eq, Option.bind_some, wr1 (show (0 : Int) ≤ (i : Int) by omega) (by omega)]
    refine ev_pos (by omega) (ev_pos (by omega) (ev_pos (by omega) (ev_ite (fun h => ev_pos (by omega) (ev_ite (fun h' => ih (i + 1) (by omega) ?_ ?_) (fun h' => ev_some ?_))) (fun h => ev_some ?_))))
    · rw [List.take_succ_eq_append_getElem (by omega), ← rd_get (by omega), List.all_append, hr]; simpa [small9] using h
    · rw [List.take_succ_eq_append_getElem (by omega), ← rd_get (by omega), List.all_append, hc]; simpa [small9] using h'
    · symm
      have : col.all small9 = false := by
        rw [Bool.eq_false_iff]
        intro hall
        exact h' (by simpa [small9] using all_rd_true hall (show i < col.length by omega))
      rw [this]; simp
    · symm
      have : row.all small9 = false := by
        rw [Bool.eq_false_iff]
        intro hall
        exact h (by simpa [small9] using all_rd_true hall (show i < row.length by omega))
      rw [this]; simp
theorem spec_IsLinear_ev (b : Int) (row : List Int) (mats : List (List (List Int))) (col : List Int) (h1 : fit1 row) (h2 : fit3 mats) (h3 : fit1 col) : Ev (fun k => spec_IsLinear.f k b row mats col) (isLin b row mats col) := by
  unfold fit1 at h1 h3
  simp only [spec_IsLinear.f, l1In_eq, Option.bind_some]
  have no : ∀ f : Bool, f = true → isLin b row mats col = false → Ev (fun k => spec_IsLinear.j0 k (row.length : Int) f b row mats col) (isLin b row mats col) := by
    intro f hf h
    subst hf
    refine ev_succ ?_
    simp only [spec_IsLinear.j0]
    exact ev_pos trivial (ev_some h.symm)
  by_cases hn : 1 ≤ row.length ∧ row.length ≤ 40
  · refine ev_pos (by simp; omega) (ev_ite (fun hc => ?_) (fun hc => no _ rfl ?_))
    · by_cases hb : 2 ≤ b ∧ b ≤ 4
      · refine ev_pos (by simpa using hb) ?_
        by_cases h6 : (mats.length : Int) = b
        · refine ev_succ ?_
          simp only [spec_IsLinear.j0]
          have := spec_lin_l0 row.length (by omega) row col mats h2 rfl (by omega) row.length 0 (by omega) (by simp) (by simp)
          rw [h6] at this
          refine ev_neg (by simp [h6]) (ev_eq this ?_)
          unfold isLin rowOk
          rw [decide_eq_true hb, decide_eq_true hn, decide_eq_true rfl, decide_eq_true (show col.length = row.length by omega), decide_eq_true h6]; simp
        · refine no _ (by simpa using h6) ?_
          unfold isLin; rw [decide_eq_false h6]; simp
      · refine ev_neg (by simpa using hb) (no _ rfl ?_)
        unfold isLin; rw [decide_eq_false hb]; simp
    · unfold isLin rowOk; rw [decide_eq_false (show ¬ col.length = row.length by omega)]; simp
  · refine ev_neg (by simp; omega) (no _ rfl ?_)
    unfold isLin; rw [decide_eq_false hn]; simp


theorem isLin_shape {b : Int} {row : List Int} {mats : List (List (List Int))} {col : List Int} (h : isLin b row mats col = true) : (2 ≤ b ∧ b ≤ 4) ∧ (1 ≤ row.length ∧ row.length ≤ 40) ∧ col.length = row.length ∧ (mats.length : Int) = b ∧ ∀ m ∈ mats, m.length = row.length ∧ ∀ r ∈ m, r.length = row.length := by
  unfold isLin at h
  simp only [Bool.and_eq_true, decide_eq_true_eq, List.all_eq_true] at h
  obtain ⟨⟨⟨⟨⟨h1, h2⟩, h3⟩, h4⟩, h5⟩, h6⟩ := h
  refine ⟨h1, h2, ?_, h5, fun m hm => ?_⟩
  · unfold rowOk at h4
    simp only [Bool.and_eq_true, decide_eq_true_eq] at h4
    exact h4.1
  · have := h6 m hm
    unfold matOk at this
    simp only [Bool.and_eq_true, decide_eq_true_eq, List.all_eq_true] at this
    refine ⟨this.1, fun r hr => ?_⟩
    have h7 := this.2 r hr
    unfold rowOk at h7
    simp only [Bool.and_eq_true, decide_eq_true_eq] at h7
    exact h7.1
theorem shpB_of {n : Nat} {l : List (List (List Int))} (h : ∀ m ∈ l, m.length = n ∧ ∀ r ∈ m, r.length = n) : shpB n l = true := by
  unfold shpB
  rw [List.all_eq_true]
  intro m hm
  rw [Bool.and_eq_true, List.all_eq_true]
  exact ⟨decide_eq_true (h m hm).1, fun r hr => decide_eq_true ((h m hm).2 r hr)⟩
theorem concat_ev (x y : List Int) (hx : x.length ≤ 1000) (hy : y.length ≤ 1000) : Ev (fun k => slices_Concat_int_int.f k [x, y]) (x ++ y) := by
  have e0 : rd_L1 [x, y] 0 = x := rfl
  have e1 : rd_L1 [x, y] 1 = y := rfl
  have l2 : (([x, y] : List (List Int)).length : Int) = 2 := rfl
  have w1 : wrap64 (0 + 1) = 1 := wr (by omega) (by omega)
  have w2 : wrap64 (1 + 1) = 2 := wr (by omega) (by omega)
  simp only [slices_Concat_int_int.f, l2]
  refine ev_succ ?_
  simp only [slices_Concat_int_int.l0, e0, l2, w1]
  rw [show wrap64 (0 + (x.length : Int)) = (x.length : Int) by rw [wr (by omega) (by omega)]; omega]
  refine ev_pos (by omega) (ev_pos (by omega) (ev_pos (by omega) (ev_neg (by omega) (ev_succ ?_))))
  simp only [slices_Concat_int_int.l0, e1, l2, w2]
  rw [wr (show -9223372036854775808 ≤ (x.length : Int) + (y.length : Int) by omega) (by omega)]
  refine ev_pos (by omega) (ev_pos (by omega) (ev_pos (by omega) (ev_neg (by omega) (ev_succ ?_))))
  simp only [slices_Concat_int_int.l0, l2]
  refine ev_neg (by omega) ?_
  have hg : slices_Grow0.f ((x.length : Int) + (y.length : Int)) = some [] := by
    unfold slices_Grow0.f
    rw [if_pos (by omega), if_pos (by omega)]
  refine ev_bind0 hg (ev_succ ?_)
  simp only [slices_Concat_int_int.l1, e0, l2, w1]
  refine ev_pos (by omega) (ev_pos (by omega) (ev_pos (by omega) (ev_pos (by simp; omega) (ev_succ ?_))))
  simp only [slices_Concat_int_int.l1, e1, l2, w2]
  refine ev_pos (by omega) (ev_pos (by omega) (ev_pos (by omega) (ev_pos (by simp; omega) (ev_succ ?_))))
  simp only [slices_Concat_int_int.l1]
  exact ev_neg (by omega) (ev_some (by simp))
theorem squareZ_l0 (n : Nat) (hn : n ≤ 1000) (d : Nat) : ∀ i : Nat, i + d = n → Ev (fun k => impl_square.l0 k (n : Int) (List.replicate i (List.replicate n (0 : Int))) (n : Int) (i : Int)) (zer2 n n) := by
  induction d with
  | zero =>
    intro i hi
    obtain rfl : i = n := by omega
    refine ev_succ ?_
    simp only [impl_square.l0]
    exact ev_neg (by omega) (ev_some rfl)
  | succ d ih =>
    intro i hi
    have hi' := ih (i + 1) (by omega)
    rw [List.replicate_succ'] at hi'
    refine ev_succ ?_
    simp only [impl_square.l0, Int.toNat_natCast, List.length_replicate]
    rw [wr1 (show (0 : Int) ≤ (i : Int) by omega) (by omega)]
    exact ev_pos (by omega) (ev_pos (by omega) (ev_pos (by omega) (ev_pos (by omega) hi')))
theorem squareZ_ev (n : Nat) (hn : n ≤ 1000) : Ev (fun k => impl_square.f k (n : Int)) (zer2 n n) := by
  simp only [impl_square.f]
  have := squareZ_l0 n hn n 0 (by omega)
  simpa using this
def sumNo : Int × List Int × (List (List (List Int))) × List Int × Bool := (0, [], [], [], false)
def sumRes (a : Int) (r : List Int) (m : List (List (List Int))) (c : List Int) (a' : Int) (r' : List Int) (m' : List (List (List Int))) (c' : List Int) : Int × List Int × (List (List (List Int))) × List Int × Bool :=
  if isLin a r m c = true ∧ isLin a' r' m' c' = true ∧ a = a' then (if isLin a (r ++ r') (sumMats r.length r'.length m m') (c ++ c') = true then (a, r ++ r', sumMats r.length r'.length m m', c ++ c', true) else sumNo) else sumNo
section
variable {a a' : Int} {r r' c c' : List Int} {m m' : List (List (List Int))}
theorem sum_fit (h : isLin a r m c = true) (h' : isLin a' r' m' c' = true) : fit1 (r ++ r') ∧ (sumMats r.length r'.length m m').length ≤ 4 ∧ (∀ x ∈ sumMats r.length r'.length m m', fit2 x) ∧ fit1 (c ++ c') := by
  obtain ⟨s1, s2, s3, s4, s5⟩ := isLin_shape h
  obtain ⟨t1, t2, t3, t4, t5⟩ := isLin_shape h'
  refine ⟨by unfold fit1; rw [List.length_append]; omega, by unfold sumMats; rw [List.length_zipWith]; omega, fun x hx => ?_, by unfold fit1; rw [List.length_append]; omega⟩
  unfold sumMats at hx
  obtain ⟨i, hi, rfl⟩ := List.mem_iff_getElem.1 hx
  rw [List.length_zipWith] at hi
  rw [List.getElem_zipWith]
  have q1 := s5 _ (List.getElem_mem (show i < m.length by omega))
  have q2 := t5 _ (List.getElem_mem (show i < m'.length by omega))
  refine ⟨by unfold sumMat; rw [List.length_append, List.length_map, List.length_map]; omega, fun y hy => ?_⟩
  unfold sumMat at hy
  unfold fit1
  rcases List.mem_append.1 hy with hy | hy
  · obtain ⟨z, hz, rfl⟩ := List.mem_map.1 hy
    have := q1.2 z hz
    rw [List.length_append, List.length_replicate]; omega
  · obtain ⟨z, hz, rfl⟩ := List.mem_map.1 hy
    have := q2.2 z hz
    rw [List.length_append, List.length_replicate]; omega
theorem impl_SumForms_ev (f1 : fit1 r) (f2 : fit3 m) (f3 : fit1 c) (f1' : fit1 r') (f2' : fit3 m') (f3' : fit1 c') : Ev (fun k => impl_SumForms.f k a r m c a' r' m' c') (sumRes a r m c a' r' m' c') := by
  simp only [impl_SumForms.f]
  refine ev_bind (impl_IsLinear_ev a r m c f1 f2 f3) (ev_ite (fun h => ?_) (fun h => ev_some ?_))
  · refine ev_bind (impl_IsLinear_ev a' r' m' c' f1' f2' f3') (ev_ite (fun h' => ?_) (fun h' => ev_some ?_))
    · refine ev_ite (fun e => ?_) (fun e => ev_some ?_)
      · subst e
        obtain ⟨s1, s2, s3, s4, s5⟩ := isLin_shape h
        obtain ⟨t1, t2, t3, t4, t5⟩ := isLin_shape h'
        obtain ⟨g1, g2, g3, g4⟩ := sum_fit h h'
        refine ev_bind (concat_ev r r' (by omega) (by omega)) (ev_bind (concat_ev c c' (by omega) (by omega)) (ev_bind (squareZ_ev (r.length + r'.length) (by omega)) (ev_pos ⟨rfl, rfl, rfl, ?_⟩ ?_)))
        · unfold sumOk
          rw [decide_eq_true (by omega), shpB_of s5, shpB_of t5]
          rfl
        · unfold sumRes
          rw [if_pos ⟨h, h', rfl⟩]
          refine ev_bind (impl_IsLinear_ev _ _ _ _ g1 ⟨by omega, g3⟩ g4) (ev_ite (fun h2 => ev_some ?_) (fun h2 => ev_some ?_))
          · rw [if_pos h2]
          · rw [if_neg h2]; rfl
      · unfold sumRes; rw [if_neg (fun q => e q.2.2)]; rfl
    · unfold sumRes; rw [if_neg (fun q => h' q.2.1)]; rfl
  · unfold sumRes; rw [if_neg (fun q => h q.1)]; rfl
end


def addR (m : Nat) (r : List Int) : List Int := r ++ List.replicate m 0
def addL (n : Nat) (r : List Int) : List Int := List.replicate n 0 ++ r
section
variable {a : Int} {r r' c c' : List Int} {m m' : List (List (List Int))}
theorem map_take_step {F : List Int → List Int} {A : List (List Int)} {i : Nat} (h : i < A.length) : (A.take (i + 1)).map F = (A.take i).map F ++ [F (rd_L1 A (i : Int))] := by
  rw [List.take_succ_eq_append_getElem h, List.map_append, rdLL_at h]; rfl
theorem spec_sum_l2 (h : isLin a r m c = true) (h' : isLin a r' m' c' = true) (d : Nat) (hd : d < m.length) (x1 x3 : List Int) (Ms : List (List (List Int))) (hMs : Ms.length ≤ 4) (R : Int × List Int × (List (List (List Int))) × List Int × Bool)
    (H : Ev (fun k => spec_SumForms.l0 k (r.length : Int) (r'.length : Int) ((d + 1 : Nat) : Int) a r m c a r' m' c' a x1 (Ms ++ [sumMat r.length r'.length (rd_L2 m (d : Int)) (rd_L2 m' (d : Int))]) x3) R) (e : Nat) : ∀ i : Nat, i + e = r'.length →
    Ev (fun k => spec_SumForms.l2 k (r.length : Int) (r'.length : Int) (d : Int) ((rd_L2 m (d : Int)).map (addR r'.length) ++ ((rd_L2 m' (d : Int)).take i).map (addL r.length)) (i : Int) a r m c a r' m' c' a x1 Ms x3) R := by
  obtain ⟨s1, s2, s3, s4, s5⟩ := isLin_shape h
  obtain ⟨t1, t2, t3, t4, t5⟩ := isLin_shape h'
  have q1 := s5 _ (rdLLL_mem (show d < m.length by omega))
  have q2 := t5 _ (rdLLL_mem (show d < m'.length by omega))
  induction e with
  | zero =>
    intro i hi
    refine ev_succ ?_
    simp only [spec_SumForms.l2]
    rw [wr1 (show (0 : Int) ≤ (d : Int) by omega) (by omega)]
    refine ev_neg (by omega) (ev_pos (by omega) (ev_eq H rfl |> fun z => ?_))
    have e1 : (rd_L2 m (d : Int)).map (addR r'.length) ++ ((rd_L2 m' (d : Int)).take i).map (addL r.length) = sumMat r.length r'.length (rd_L2 m (d : Int)) (rd_L2 m' (d : Int)) := by
      rw [List.take_of_length_le (by omega)]; rfl
    rw [e1]
    exact z
  | succ e ih =>
    intro i hi
    have hi' := ih (i + 1) (by omega)
    rw [map_take_step (show i < (rd_L2 m' (d : Int)).length by omega), ← List.append_assoc] at hi'
    have q3 := q2.2 _ (rdLL_mem (show i < (rd_L2 m' (d : Int)).length by omega))
    have hl : ((rd_L2 m (d : Int)).map (addR r'.length) ++ ((rd_L2 m' (d : Int)).take i).map (addL r.length)).length ≤ 1000 := by
      rw [List.length_append, List.length_map, List.length_map, List.length_take]; omega
    refine ev_succ ?_
    simp only [spec_SumForms.l2, Int.toNat_natCast, Option.bind_some, List.length_replicate]
    rw [wr1 (show (0 : Int) ≤ (i : Int) by omega) (by omega)]
    exact ev_pos (by omega) (ev_pos (by omega) (ev_pos (by omega) (ev_pos (by omega) (ev_pos (by omega) (ev_pos (by omega) (ev_pos (by omega) (ev_pos (by omega) (ev_pos (by omega) hi'))))))))
theorem spec_sum_l1 (h : isLin a r m c = true) (h' : isLin a r' m' c' = true) (d : Nat) (hd : d < m.length) (x1 x3 : List Int) (Ms : List (List (List Int))) (hMs : Ms.length ≤ 4) (R : Int × List Int × (List (List (List Int))) × List Int × Bool)
    (H : Ev (fun k => spec_SumForms.l0 k (r.length : Int) (r'.length : Int) ((d + 1 : Nat) : Int) a r m c a r' m' c' a x1 (Ms ++ [sumMat r.length r'.length (rd_L2 m (d : Int)) (rd_L2 m' (d : Int))]) x3) R) (e : Nat) : ∀ i : Nat, i + e = r.length →
    Ev (fun k => spec_SumForms.l1 k (r.length : Int) (r'.length : Int) (d : Int) (((rd_L2 m (d : Int)).take i).map (addR r'.length)) (i : Int) a r m c a r' m' c' a x1 Ms x3) R := by
  obtain ⟨s1, s2, s3, s4, s5⟩ := isLin_shape h
  obtain ⟨t1, t2, t3, t4, t5⟩ := isLin_shape h'
  have q1 := s5 _ (rdLLL_mem (show d < m.length by omega))
  induction e with
  | zero =>
    intro i hi
    refine ev_succ ?_
    simp only [spec_SumForms.l1]
    refine ev_neg (by omega) ?_
    rw [List.take_of_length_le (by omega)]
    have := spec_sum_l2 h h' d hd x1 x3 Ms hMs R H r'.length 0 (by omega)
    simpa using this
  | succ e ih =>
    intro i hi
    have hi' := ih (i + 1) (by omega)
    rw [map_take_step (show i < (rd_L2 m (d : Int)).length by omega)] at hi'
    have q3 := q1.2 _ (rdLL_mem (show i < (rd_L2 m (d : Int)).length by omega))
    have hl : (((rd_L2 m (d : Int)).take i).map (addR r'.length)).length ≤ 1000 := by
      rw [List.length_map, List.length_take]; omega
    refine ev_succ ?_
    simp only [spec_SumForms.l1, Int.toNat_natCast, Option.bind_some, List.length_nil, List.nil_append]
    rw [wr1 (show (0 : Int) ≤ (i : Int) by omega) (by omega)]
    exact ev_pos (by omega) (ev_pos (by omega) (ev_pos (by omega) (ev_pos (by omega) (ev_pos (by omega) (ev_pos (by omega) (ev_pos (by omega) (ev_pos (by omega) (ev_pos (by omega) hi'))))))))
theorem sumMats_take {n n' : Nat} {A B : List (List (List Int))} {i : Nat} (ha : i < A.length) (hb : i < B.length) : (sumMats n n' A B).take (i + 1) = (sumMats n n' A B).take i ++ [sumMat n n' (rd_L2 A (i : Int)) (rd_L2 B (i : Int))] := by
  have hl : i < (sumMats n n' A B).length := by simp [sumMats]; omega
  rw [List.take_succ_eq_append_getElem hl, rdLLL_at ha, rdLLL_at hb]
  simp [sumMats]
theorem spec_sum_l0 (h : isLin a r m c = true) (h' : isLin a r' m' c' = true) (e : Nat) : ∀ d : Nat, d + e = m.length →
    Ev (fun k => spec_SumForms.l0 k (r.length : Int) (r'.length : Int) (d : Int) a r m c a r' m' c' a (r ++ r') ((sumMats r.length r'.length m m').take d) (c ++ c')) (sumRes a r m c a r' m' c') := by
  obtain ⟨s1, s2, s3, s4, s5⟩ := isLin_shape h
  obtain ⟨t1, t2, t3, t4, t5⟩ := isLin_shape h'
  obtain ⟨g1, g2, g3, g4⟩ := sum_fit h h'
  induction e with
  | zero =>
    intro d hd
    refine ev_succ ?_
    simp only [spec_SumForms.l0]
    rw [List.take_of_length_le (by unfold sumMats; rw [List.length_zipWith]; omega)]
    unfold sumRes
    rw [if_pos ⟨h, h', rfl⟩]
    refine ev_neg (by omega) (ev_bind (spec_IsLinear_ev _ _ _ _ g1 ⟨by omega, g3⟩ g4) (ev_ite (fun h2 => ev_some ?_) (fun h2 => ev_some ?_)))
    · rw [if_pos h2]
    · rw [if_neg h2]; rfl
  | succ e ih =>
    intro d hd
    have hi' := ih (d + 1) (by omega)
    rw [sumMats_take (by omega) (by omega)] at hi'
    refine ev_succ ?_
    simp only [spec_SumForms.l0]
    refine ev_pos (by omega) ?_
    have := spec_sum_l1 h h' d (by omega) (r ++ r') (c ++ c') ((sumMats r.length r'.length m m').take d) (by rw [List.length_take]; omega) _ hi' r.length 0 (by omega)
    simpa using this
end
theorem spec_SumForms_ev {a a' : Int} {r r' c c' : List Int} {m m' : List (List (List Int))} (f1 : fit1 r) (f2 : fit3 m) (f3 : fit1 c) (f1' : fit1 r') (f2' : fit3 m') (f3' : fit1 c') : Ev (fun k => spec_SumForms.f k a r m c a' r' m' c') (sumRes a r m c a' r' m' c') := by
  have no : ∀ f : Bool, f = true → sumRes a r m c a' r' m' c' = sumNo → Ev (fun k => spec_SumForms.j0 k f a r m c a' r' m' c') (sumRes a r m c a' r' m' c') := by
    intro f hf h
    subst hf
    refine ev_succ ?_
    simp only [spec_SumForms.j0]
    exact ev_pos trivial (ev_some h.symm)
  simp only [spec_SumForms.f]
  refine ev_bind (spec_IsLinear_ev a r m c f1 f2 f3) (ev_ite (fun h => ?_) (fun h => no _ rfl ?_))
  · refine ev_bind (spec_IsLinear_ev a' r' m' c' f1' f2' f3') (ev_ite (fun h' => ?_) (fun h' => no _ rfl ?_))
    · by_cases e : a = a'
      · subst e
        obtain ⟨s1, s2, s3, s4, s5⟩ := isLin_shape h
        obtain ⟨t1, t2, t3, t4, t5⟩ := isLin_shape h'
        refine ev_succ ?_
        simp only [spec_SumForms.j0, Option.bind_some, List.length_nil, List.nil_append]
        have := spec_sum_l0 h h' m.length 0 (by omega)
        exact ev_neg (by simp) (ev_pos (by omega) (ev_pos (by omega) (ev_pos (by omega) (ev_pos (by omega) (by simpa using this)))))
      · refine no _ (by simpa using e) ?_
        unfold sumRes; rw [if_neg (fun q => e q.2.2)]
    · unfold sumRes; rw [if_neg (fun q => h' q.2.1)]
  · unfold sumRes; rw [if_neg (fun q => h q.1)]


-- SAY: For every two forms the program's SumForms answers what the reference's answers, leaves its arguments alone, and hands back memory that it shares with nothing. No conditions beyond the given statement.
theorem ev_when {α : Type} {c : Nat → Prop} [∀ k, Decidable (c k)] {g f : Nat → Option α} {r : α} (hc : ∃ K, ∀ k, K ≤ k → c k) (h : Ev g r) : Ev (fun k => if c k then g k else f k) r := by
  obtain ⟨K1, h1⟩ := hc
  obtain ⟨K2, h2⟩ := h
  exact ⟨max K1 K2, fun k hk => by
    have e : (if c k then g k else f k) = g k := if_pos (h1 k (by omega))
    exact e.trans (h2 k (by omega))⟩
theorem all_toSS (l : List (List (List Int))) (h : ∀ m ∈ l, fit2 m) : ∃ K, ∀ k, K ≤ k → ∀ m ∈ l, laws_toIntSS.f k m = some m := by
  induction l with
  | nil => exact ⟨0, fun _ _ m hm => by cases hm⟩
  | cons x l ih =>
    obtain ⟨K1, h1⟩ := ih (fun m hm => h m (List.mem_cons_of_mem _ hm))
    obtain ⟨K2, h2⟩ := toIntSS_ev x (h x List.mem_cons_self)
    refine ⟨max K1 K2, fun k hk m hm => ?_⟩
    rcases List.mem_cons.1 hm with rfl | hm
    · exact h2 k (by omega)
    · exact h1 k (by omega) m hm
theorem toOk_ev (l1 : List Int) (l2 : List (List (List Int))) (l3 : List Int) (f1 : fit1 l1) (f2 : fit3 l2) (f3 : fit1 l3) : ∃ K, ∀ k, K ≤ k → toOk k l1 l2 l3 = true := by
  unfold fit1 at f1 f3
  obtain ⟨K1, h1⟩ := toIntS_ev l1 (by omega)
  obtain ⟨K2, h2⟩ := all_toSS l2 f2.2
  obtain ⟨K3, h3⟩ := toIntS_ev l3 (by omega)
  refine ⟨max K1 (max K2 K3), fun k hk => ?_⟩
  unfold toOk
  rw [Bool.and_eq_true, Bool.and_eq_true, List.all_eq_true]
  exact ⟨⟨decide_eq_true (h1 k (by omega)), fun m hm => decide_eq_true (h2 k (by omega) m hm)⟩, decide_eq_true (h3 k (by omega))⟩
theorem limOk_of {l1 : List Int} {l2 : List (List (List Int))} {l3 : List Int} (f1 : fit1 l1) (f2 : fit3 l2) (f3 : fit1 l3) : limOk l1 l2 l3 = true := by
  have h : mlim3b l2 = true := by
    unfold mlim3b
    rw [Bool.and_eq_true, List.all_eq_true]
    exact ⟨decide_eq_true f2.1, fun r hr => mlim2b_of (f2.2 r hr)⟩
  unfold limOk
  rw [mlim1b_of f1, h, mlim1b_of f3]; rfl
theorem sumRes_fit {a a' : Int} {r r' c c' : List Int} {m m' : List (List (List Int))} : fit1 (sumRes a r m c a' r' m' c').2.1 ∧ ((sumRes a r m c a' r' m' c').2.2.1.length ≤ 1024 ∧ ∀ x ∈ (sumRes a r m c a' r' m' c').2.2.1, fit2 x) ∧ fit1 (sumRes a r m c a' r' m' c').2.2.2.1 := by
  have no : fit1 sumNo.2.1 ∧ (sumNo.2.2.1.length ≤ 1024 ∧ ∀ x ∈ sumNo.2.2.1, fit2 x) ∧ fit1 sumNo.2.2.2.1 := ⟨by simp [fit1, sumNo], ⟨by simp [sumNo], by simp [sumNo]⟩, by simp [fit1, sumNo]⟩
  unfold sumRes
  split
  · next h =>
    split
    · obtain ⟨g1, g2, g3, g4⟩ := sum_fit h.1 h.2.1
      exact ⟨g1, ⟨by dsimp only; omega, g3⟩, g4⟩
    · exact no
  · exact no
theorem FnExactSumForms : ∀ (a : Int) (r : List Int) (m : List (List (List Int))) (c : List Int) (a' : Int) (r' : List Int) (m' : List (List (List Int))) (c' : List Int), r.length ≤ 9223372036854775807 → m.length ≤ 9223372036854775807 → (∀ x ∈ m, x.length ≤ 9223372036854775807 ∧ ∀ y ∈ x, y.length ≤ 9223372036854775807) → c.length ≤ 9223372036854775807 → r'.length ≤ 9223372036854775807 → m'.length ≤ 9223372036854775807 → (∀ x ∈ m', x.length ≤ 9223372036854775807 ∧ ∀ y ∈ x, y.length ≤ 9223372036854775807) → c'.length ≤ 9223372036854775807 →
    ∃ k, laws_FnExactSumForms.f k a r m c a' r' m' c' = some true := by
  intro a r m c a' r' m' c' h1 h2 h3 h4 h1' h2' h3' h4'
  refine Ev.rounds (g := fun k => laws_FnExactSumForms.f k a r m c a' r' m' c') ?_
  simp only [laws_FnExactSumForms.f]
  obtain ⟨z, hz, hz1, hz2⟩ := szLinear_tot a r m c h1 h2 h3 h4 1048576 (by omega) (by omega)
  refine ev_bind hz (ev_ite (fun h => ev_some rfl) (fun h => ?_))
  obtain ⟨f1, f2, f3⟩ := hz2 (by omega)
  obtain ⟨y, hy, hy1, hy2⟩ := szLinear_tot a' r' m' c' h1' h2' h3' h4' z (by omega) (by omega)
  refine ev_bind hy (ev_ite (fun h => ev_some rfl) (fun h => ?_))
  obtain ⟨f1', f2', f3'⟩ := hy2 (by omega)
  refine ev_bind (toLinear_ev a r m c f1 f2 f3) (ev_bind (toLinear_ev a' r' m' c' f1' f2' f3') ?_)
  refine ev_bind (spec_SumForms_ev f1 f2 f3 f1' f2' f3') (ev_bind (impl_SumForms_ev f1 f2 f3 f1' f2' f3') ?_)
  obtain ⟨g1, g2, g3⟩ := sumRes_fit (a := a) (a' := a') (r := r) (r' := r') (c := c) (c' := c') (m := m) (m' := m')
  generalize sumRes a r m c a' r' m' c' = g at g1 g2 g3 ⊢
  obtain ⟨t1, t2, t3, t4, t5⟩ := g
  dsimp only at g1 g2 g3 ⊢
  have g2' : fit3 t3 := ⟨by omega, g2.2⟩
  refine ev_bind (eqLinear_ev t1 t2 t3 t4 g1 g2' g3) (ev_bind (eqLinear_ev a r m c f1 f2 f3) (ev_bind (eqLinear_ev a' r' m' c' f1' f2' f3') ?_))
  refine ev_bind (heldLinear_ev t1 t2 t3 t4 g1 g2.1 g2.2 g3) (ev_pos ⟨rfl, rfl, rfl⟩ (ev_when ?_ (ev_some rfl)))
  obtain ⟨K1, k1⟩ := toOk_ev r m c f1 f2 f3
  obtain ⟨K2, k2⟩ := toOk_ev r' m' c' f1' f2' f3'
  exact ⟨max K1 K2, fun k hk => ⟨⟨rfl, rfl, rfl⟩, rfl, ⟨k1 k (by omega), k2 k (by omega)⟩, limOk_of f1 f2 f3, limOk_of f1' f2' f3', limOk_of g1 g2' g3⟩⟩



end Go.Proofs.Ytlcepacbbfekoaa.Pure
