/- Walks of the functions that the law reaches. -/
import Derived.Test.YtlcepacbbfekoaaPFnExactSumFormsx5
import Derived.Test.YtlcepacbbfekoaaPFnExactSumFormsx6
namespace Go.Proofs.Ytlcepacbbfekoaa.PFnExactSumForms
open Go.RowKit Go.Proofs.YtlcepacbbfekoaaW.PrintWords Go.Proofs.YtlcepacbbfekoaaW.PrintLast Go.Proofs.YtlcepacbbfekoaaW.PrintMore
attribute [local go_sem] max2_int min2_int max_two min_two max_three min_three max_four min_four
set_option linter.unusedVariables false
set_option maxHeartbeats 8000000
set_option maxRecDepth 100000
set_option linter.unusedSimpArgs false

section
variable {P : Program} {ops : Array Oper} {Q : Exit → Act → World → Prop} {md : Region.Mode} {S : World → Prop} {ds : List Nat}
def waits (md : Region.Mode) (ops : Array Oper) (i : Nat) : List Nat := match ops[i]? with
 | some o => (o.after.toList.filter (Region.binds md)).map (·.on)
 | none => []
theorem waits_mem {i j : Nat} {o : Oper} (ho : ops[i]? = some o) : j ∈ waits md ops i ↔ ∃ e ∈ o.after, Region.binds md e = true ∧ e.on = j := by
 unfold waits; rw [ho]; simp only [List.mem_map, List.mem_filter, Array.mem_toList_iff]; exact ⟨fun ⟨e, ⟨h1, h2⟩, h3⟩ => ⟨e, h1, h2, h3⟩, fun ⟨e, h1, h2, h3⟩ => ⟨e, ⟨h1, h2⟩, h3⟩⟩
theorem ready_iff {l : Array Bool} {i : Nat} {o : Oper} (ho : ops[i]? = some o) : i ∈ Region.ready md ops l ↔ l.getD i true = false ∧ ∀ j ∈ waits md ops i, l.getD j false = true := by
 rw [mem_ready]
 constructor
 · rintro ⟨h, o', ho', h2⟩
   obtain rfl := Option.some.inj (ho.symm.trans ho'); refine ⟨h, fun j hj => ?_⟩; obtain ⟨e, h3, h4, rfl⟩ := (waits_mem ho).1 hj; exact h2 e h3 h4
 · rintro ⟨h, h2⟩
   exact ⟨h, o, ho, fun e h3 h4 => h2 _ ((waits_mem ho).2 ⟨e, h3, h4, rfl⟩)⟩
structure Rw where
 i : Nat
 N : Option Tmp
 D : List Nat
 G : (Nat → Value) → World → Prop
def anyChk (md : Region.Mode) (ops : Array Oper) (l l' : Array Bool) (n : Nat) (X : List Rw) : Bool :=
 l.size == ops.size && Region.closedB md ops l && (X.foldl (fun m x => m.setIfInBounds x.i true) l == l') &&
 X.all (fun x => ((ops[x.i]?).map (·.dst) == some x.N) && !l.getD x.i true && (waits md ops x.i).all (fun j => decide (j < x.i) && (l.getD j false || X.any (·.i == j))) && x.D.all (fun j => (waits md ops x.i).contains j) && (match x.N with | some t => decide (t < n) | none => true)) &&
 (X.map (·.i)).Nodup && (X.filterMap (·.N)).Nodup &&
 (List.range ops.size).all (fun i => l.getD i true || X.any (·.i == i) || X.all (fun x => (waits md ops i).contains x.i))
theorem getD_set {l : Array Bool} {i j : Nat} {d : Bool} (hj : j < l.size) : (l.setIfInBounds i true).getD j d = (if i = j then true else l.getD j d) := by
 simp only [Array.getD_eq_getD_getElem?, Array.getElem?_setIfInBounds]
 split
 · rename_i h; subst h; simp [hj]
 · rfl
structure AnyI (a0 : Act) (w0 : World) (X : List Rw) (md : Region.Mode) (ops : Array Oper) (S : World → Prop) (l0 l : Array Bool) (a : Act) (w : World) (vs : Nat → Value) : Prop where
 size : l.size = l0.size
 base : ∀ j, l0.getD j false = true → l.getD j false = true
 only : ∀ j, l.getD j false = true → l0.getD j false = true ∨ ∃ x ∈ X, x.i = j
 closed : ListedClosed md ops l
 hS : S w
 hB : Below w0.heap.size w0 w
 defers : a.defers = a0.defers
 tsize : a.tmps.size = a0.tmps.size
 val : ∀ x ∈ X, l.getD x.i false = true → ∀ t, x.N = some t → a.eval (.tmp t) = vs x.i
 oth : ∀ t, (∀ x ∈ X, l.getD x.i false = true → x.N ≠ some t) → a.eval (.tmp t) = a0.eval (.tmp t)
 fact : ∀ x ∈ X, l.getD x.i false = true → x.G vs w
theorem putAll_defers (L : List (Tmp × Value)) : ∀ a : Act, (putAll a L).defers = a.defers ∧ (putAll a L).tmps.size = a.tmps.size := by
 induction L with
 | nil => intro a; exact ⟨rfl, rfl⟩
 | cons x L ih => intro a; obtain ⟨h1, h2⟩ := ih (a.put (some x.1) x.2); exact ⟨h1, h2.trans (by simp [Act.put])⟩
theorem putAll_eval (L : List (Tmp × Value)) : ∀ (a : Act) (t : Tmp), (L.map (·.1)).Nodup → (∀ x ∈ L, x.1 = t → t < a.tmps.size → (putAll a L).eval (.tmp t) = x.2) ∧ ((∀ x ∈ L, x.1 ≠ t) → (putAll a L).eval (.tmp t) = a.eval (.tmp t)) := by
 induction L with
 | nil => intro a t _; exact ⟨fun x hx => (by cases hx), fun _ => rfl⟩
 | cons x L ih =>
  intro a t hn; simp only [mB, List.nodup_cons] at hn; obtain ⟨h1, h2⟩ := ih (a.put (some x.1) x.2) t hn.2; refine ⟨fun y hy hyt ht => ?_, fun h => ?_⟩
  · rcases List.mem_cons.1 hy with rfl | hy
    · show (putAll (a.put (some y.1) y.2) L).eval (.tmp t) = y.2
      rw [h2 (fun z hz e => hn.1 (List.mem_map.2 ⟨z, hz, e.trans hyt.symm⟩))]; subst hyt
      simp [Act.put, Act.eval, Array.getD_eq_getD_getElem?, ht]
    · exact h1 y hy hyt (by simpa [Act.put] using ht)
  · show (putAll (a.put (some x.1) x.2) L).eval (.tmp t) = a.eval (.tmp t)
    rw [h2 (fun z hz => h z (List.mem_cons_of_mem _ hz))]; exact Act.eval_put (fun d hd e => h x List.mem_cons_self (by injection hd with hd; injection e with e; exact hd.trans e.symm))
theorem act_ext {a b : Act} (hd : a.defers = b.defers) (hs : a.tmps.size = b.tmps.size) (h : ∀ t, a.eval (.tmp t) = b.eval (.tmp t)) : a = b := by
 obtain ⟨at_, ad⟩ := a; obtain ⟨bt, bd⟩ := b
 simp only at hd hs
 subst hd
 congr 1
 apply Array.ext hs
 intro i h1 h2; have h3 := h i
 simpa [Act.eval, Array.getD_eq_getD_getElem?, h1, h2] using h3
theorem foldl_set (X : List Rw) : ∀ (l : Array Bool), (X.foldl (fun m x => m.setIfInBounds x.i true) l).size = l.size ∧ ∀ (j : Nat) (d : Bool), j < l.size → (X.foldl (fun m x => m.setIfInBounds x.i true) l).getD j d = (l.getD j d || X.any (·.i == j)) := by
 induction X with
 | nil => intro l; exact ⟨rfl, fun j d _ => by simp⟩
 | cons x X ih =>
  intro l; obtain ⟨h1, h2⟩ := ih (l.setIfInBounds x.i true); simp only [Array.size_setIfInBounds] at h1 h2; refine ⟨h1, fun j d hj => ?_⟩; rw [List.foldl_cons, h2 j d hj, getD_set hj, List.any_cons]
  by_cases e : x.i = j
  · subst e; simp
  · rw [if_neg e]
    have : (x.i == j) = false := by simpa using e
    rw [this, Bool.false_or]
theorem inj_nd {α β : Type} {f : α → β} {L : List α} (h : (L.map f).Nodup) {x y : α} (hx : x ∈ L) (hy : y ∈ L) (e : f x = f y) : x = y := by
 induction L with
 | nil => cases hx
 | cons z L ih =>
  simp only [mB, List.nodup_cons] at h
  rcases List.mem_cons.1 hx with h1 | h1 <;> rcases List.mem_cons.1 hy with h2 | h2
  · rw [h1, h2]
  · subst h1; exact absurd (List.mem_map.2 ⟨y, h2, e.symm⟩) h.1
  · subst h2; exact absurd (List.mem_map.2 ⟨x, h1, e⟩) h.1
  · exact ih h.2 h1 h2
theorem getD_tf {l : Array Bool} {j : Nat} (h : j < l.size) : l.getD j true = l.getD j false := by simp [Array.getD_eq_getD_getElem?, h]
def puts (X : List Rw) (vs : Nat → Value) : List (Tmp × Value) := X.filterMap fun x => x.N.map fun t => (t, vs x.i)
theorem puts_map (X : List Rw) (vs : Nat → Value) : (puts X vs).map (·.1) = X.filterMap (·.N) := by
 induction X with
 | nil => rfl
 | cons x X ih =>
  unfold puts at ih ⊢; rw [List.filterMap_cons, List.filterMap_cons]
  cases x.N <;> simp [ih]
theorem inj_nf {X : List Rw} (h : (X.filterMap (·.N)).Nodup) {x y : Rw} {t : Tmp} (hx : x ∈ X) (hy : y ∈ X) (e1 : x.N = some t) (e2 : y.N = some t) : x = y := by
 induction X with
 | nil => cases hx
 | cons z X ih =>
  have mem : ∀ w ∈ X, w.N = some t → t ∈ X.filterMap (·.N) := fun w hw e => List.mem_filterMap.2 ⟨w, hw, e⟩
  rw [List.filterMap_cons] at h
  rcases List.mem_cons.1 hx with h1 | h1 <;> rcases List.mem_cons.1 hy with h2 | h2
  · rw [h1, h2]
  · subst h1; rw [e1] at h; exact absurd (mem y h2 e2) (List.nodup_cons.1 h).1
  · subst h2; rw [e2] at h; exact absurd (mem x h1 e1) (List.nodup_cons.1 h).1
  · refine ih ?_ h1 h2
    cases hz : z.N with
    | none => rw [hz] at h; exact h
    | some q => rw [hz] at h; exact (List.nodup_cons.1 h).2
def StepAt (P : Program) (ops : Array Oper) (md : Region.Mode) (Q : Exit → Act → World → Prop) (S : World → Prop) (X : List Rw) (a0 : Act) (w0 : World) (x : Rw) (o : Oper) : Prop :=
 ∀ vs a w, S w → Below w0.heap.size w0 w → (∀ y ∈ X, (waits md ops x.i).contains y.i = true → (∀ t, y.N = some t → a.eval (.tmp t) = vs y.i) ∧ y.G vs w) → (∀ t, (X.map (·.N)).contains (some t) = false → a.eval (.tmp t) = a0.eval (.tmp t)) →
  ∀ K : Act → World → Prop, (∀ v w', S w' → Below w0.heap.size w0 w' → (∀ y ∈ X, y.i ≠ x.i → x.i ∉ y.D → y.G vs w → y.G (fun j => if j = x.i then v else vs j) w') → x.G (fun j => if j = x.i then v else vs j) w' → K (a.put o.dst v) w') → if Region.wanted o (yielded ops a.tmps) = true then Oper.wp P o a w K Q else K (a.put o.dst undef) w
def StepB (P : Program) (ops : Array Oper) (md : Region.Mode) (Q : Exit → Act → World → Prop) (S : World → Prop) (X : List Rw) (a0 : Act) (w0 : World) (x : Rw) (o : Oper) : Prop :=
 ∀ vs a w, S w → Below w0.heap.size w0 w → (∀ y ∈ X, (waits md ops x.i).contains y.i = true → (∀ t, y.N = some t → a.eval (.tmp t) = vs y.i) ∧ y.G vs w) → (∀ t, (X.map (·.N)).contains (some t) = false → a.eval (.tmp t) = a0.eval (.tmp t)) →
  ∀ K : Act → World → Prop, (∀ v w', Below w.heap.size w w' → x.G (fun j => if j = x.i then v else vs j) w' → K (a.put o.dst v) w') → if Region.wanted o (yielded ops a.tmps) = true then Oper.wp P o a w K Q else K (a.put o.dst undef) w
def Still (x : Rw) : Prop := ∀ vs vs' w w', (∀ k, (k = x.i ∨ k ∈ x.D) → vs k = vs' k) → Below w.heap.size w w' → x.G vs w → x.G vs' w'
open Classical in
theorem any0 {fuel : Nat} {l : Array Bool} {a0 : Act} {w0 : World} (l' : Array Bool) (X : List Rw)
  (hc : anyChk md ops l l' a0.tmps.size X = true)
  (step : ∀ x ∈ X, ∀ o, ops[x.i]? = some o → StepAt P ops md Q S X a0 w0 x o)
  (h0 : S w0) (cont : ∀ vs w, S w → Below w0.heap.size w0 w → (∀ x ∈ X, x.G vs w) → wpAnyLast P md ops Q S ds fuel l' (putAll a0 (puts X vs)) w) :
  wpAnyLast P md ops Q S ds (X.length + fuel) l a0 w0 := by
 simp only [anyChk, Bool.and_eq_true, beq_iff_eq, List.all_eq_true, decide_eq_true_eq, Bool.or_eq_true, List.any_eq_true, Bool.not_eq_true', List.contains_iff_mem] at hc; obtain ⟨⟨⟨⟨⟨⟨c1, c2⟩, c3⟩, c4⟩, c5⟩, c6⟩, c7⟩ := hc
 have key : ∀ (c : Nat) (l1 : Array Bool) (a : Act) (w : World) (vs : Nat → Value), (X.filter (fun x => !l1.getD x.i false)).length = c → AnyI a0 w0 X md ops S l l1 a w vs → wpAnyLast P md ops Q S ds (c + fuel) l1 a w := by
  intro c
  induction c with
  | zero =>
   intro l1 a w vs hn hI
   have hall : ∀ x ∈ X, l1.getD x.i false = true := by
    intro x hx
    cases h : l1.getD x.i false with
    | true => rfl
    | false =>
     have : x ∈ X.filter (fun x => !l1.getD x.i false) := List.mem_filter.2 ⟨hx, by simp [h]⟩
     rw [List.eq_nil_of_length_eq_zero hn] at this
     cases this
   obtain ⟨f1, f2⟩ := foldl_set X l
   have e1 : l1 = l' := by
    rw [← c3]
    apply Array.ext (by rw [f1, hI.size])
    intro i h1 h2
    have hi : i < l.size := by rw [← hI.size]; exact h1
    have h3 := f2 i false hi
    have h4 : l1.getD i false = (l.getD i false || X.any (·.i == i)) := by
     rw [Bool.eq_iff_iff, Bool.or_eq_true, List.any_eq_true]
     constructor
     · intro h
       rcases hI.only i h with h | ⟨x, hx, rfl⟩
       · exact .inl h
       · exact .inr ⟨x, hx, by simp⟩
     · rintro (h | ⟨x, hx, h⟩)
       · exact hI.base i h
       · simp only [beq_iff_eq] at h; subst h; exact hall x hx
    have h5 : l1.getD i false = l1[i] := by simp [Array.getD_eq_getD_getElem?, h1]
    have h6 : (X.foldl (fun m x => m.setIfInBounds x.i true) l).getD i false = (X.foldl (fun m x => m.setIfInBounds x.i true) l)[i] := by simp [Array.getD_eq_getD_getElem?, h2]
    rw [← h5, h4, ← h3, h6]
   have e2 : a = putAll a0 (puts X vs) := by
    obtain ⟨p1, p2⟩ := putAll_defers (puts X vs) a0; refine act_ext (hI.defers.trans p1.symm) (hI.tsize.trans p2.symm) (fun t => ?_); obtain ⟨q1, q2⟩ := putAll_eval (puts X vs) a0 t (by rw [puts_map]; exact c6)
    by_cases ht : ∃ x ∈ X, x.N = some t
    · obtain ⟨x, hx, e⟩ := ht
      have hlt := (c4 x hx).2; rw [e] at hlt; rw [q1 (t, vs x.i) (List.mem_filterMap.2 ⟨x, hx, by rw [e]; rfl⟩) rfl (by simpa using hlt)]; exact hI.val x hx (hall x hx) t e
    · rw [q2 (fun y hy e => by
       obtain ⟨x, hx, hxy⟩ := List.mem_filterMap.1 hy; obtain ⟨t', e1, e2⟩ := Option.map_eq_some_iff.1 hxy; subst e2; exact ht ⟨x, hx, by rw [e1]; exact congrArg some e⟩)]
      exact hI.oth t (fun x hx _ e => ht ⟨x, hx, e⟩)
   subst e1; rw [e2, Nat.zero_add]; exact cont vs w hI.hS hI.hB (fun x hx => hI.fact x hx (hall x hx))
  | succ c ih =>
   intro l1 a w vs hn hI
   have hsz : ∀ x ∈ X, x.i < l1.size := by
    intro x hx; rw [hI.size, c1]; obtain ⟨o, ho, _⟩ := Option.map_eq_some_iff.1 (c4 x hx).1.1.1.1; exact (Array.getElem?_eq_some_iff.1 ho).1
   have hex : ∃ x ∈ X, l1.getD x.i false = false := by
    cases hf : X.filter (fun x => !l1.getD x.i false) with
    | nil => rw [hf] at hn; cases hn
    | cons x r =>
     have hx : x ∈ X.filter (fun x => !l1.getD x.i false) := by rw [hf]; exact List.mem_cons_self
     obtain ⟨h1, h2⟩ := List.mem_filter.1 hx; exact ⟨x, h1, by simpa using h2⟩
   have hmin : ∀ n : Nat, ∀ x ∈ X, x.i < n → l1.getD x.i false = false → ∃ y ∈ X, l1.getD y.i false = false ∧ ∀ j ∈ waits md ops y.i, l1.getD j false = true := by
    intro n
    induction n with
    | zero => intro x _ h; omega
    | succ n ihn =>
     intro x hx hxn hxl
     by_cases hw : ∀ j ∈ waits md ops x.i, l1.getD j false = true
     · exact ⟨x, hx, hxl, hw⟩
     · obtain ⟨j, hj, hj2⟩ : ∃ j, j ∈ waits md ops x.i ∧ ¬ l1.getD j false = true := Classical.byContradiction (fun hn => hw (fun j hj => Classical.byContradiction (fun h => hn ⟨j, hj, h⟩)))
       obtain ⟨h1, h2⟩ := (c4 x hx).1.1.2 j hj
       rcases h2 with h2 | ⟨y, hy, h2⟩
       · exact absurd (hI.base j h2) hj2
       · subst h2
         exact ihn y hy (by omega) (by simpa using hj2)
   rw [show c + 1 + fuel = (c + fuel) + 1 by omega]; refine wpAnyLast_all (rs := Region.ready md ops l1) rfl ?_ ?_
   · obtain ⟨x, hx, hxl⟩ := hex
     obtain ⟨y, hy, hyl, hyw⟩ := hmin (x.i + 1) x hx (by omega) hxl; obtain ⟨o, ho, _⟩ := Option.map_eq_some_iff.1 (c4 y hy).1.1.1.1; intro h
     have := (ready_iff (md := md) (l := l1) ho).2 ⟨by rw [getD_tf (hsz y hy)]; exact hyl, hyw⟩
     rw [h] at this
     cases this
   · intro i hi
     obtain ⟨hil, o, ho, _⟩ := mem_ready.1 hi; have hiw := ((ready_iff (md := md) (l := l1) ho).1 hi).2
     have his : i < ops.size := (Array.getElem?_eq_some_iff.1 ho).1
     have hil1 : i < l1.size := by rw [hI.size, c1]; exact his
     have hil0 : l1.getD i false = false := by rw [← getD_tf hil1]; exact hil
     have hiX : ∃ x ∈ X, x.i = i := by
      rcases c7 i (List.mem_range.2 his) with (h | ⟨x, hx, h⟩) | h
      · have : l1.getD i false = true := hI.base i (by rw [← getD_tf (by rw [c1]; exact his)]; exact h)
        rw [this] at hil0; cases hil0
      · exact ⟨x, hx, by simpa using h⟩
      · obtain ⟨x, hx, hxl⟩ := hex
        have := hiw _ (h x hx)
        rw [hxl] at this; cases this
     obtain ⟨x, hx, rfl⟩ := hiX
     have hdst : o.dst = x.N := by
      have := (c4 x hx).1.1.1.1
      rw [ho] at this; exact Option.some.inj this
     refine wpOp_step ho (fun K hK => ?_)
     have hneed : ∀ y ∈ X, (waits md ops x.i).contains y.i = true → (∀ t, y.N = some t → a.eval (.tmp t) = vs y.i) ∧ y.G vs w := fun y hy hyw => ⟨hI.val y hy (hiw _ (List.contains_iff_mem.1 hyw)), hI.fact y hy (hiw _ (List.contains_iff_mem.1 hyw))⟩
     refine step x hx o ho vs a w hI.hS hI.hB hneed (fun t ht => hI.oth t (fun y hy _ e => by have := List.contains_iff_mem.2 (List.mem_map.2 ⟨y, hy, e⟩); rw [ht] at this; cases this)) K (fun v w' hSn hBn hpres hg => hK _ _ ⟨fun _ _ => hSn, ?_⟩)
     have hinj : ∀ y ∈ X, y.i = x.i → y = x := fun y hy e => inj_nd c5 hy hx e
     refine ih _ _ _ (fun j => if j = x.i then v else vs j) ?_ ?_
     · -- the count
       have hgen : ∀ (Y : List Rw), (∀ y ∈ Y, y ∈ X) → (Y.map (·.1)).Nodup → (Y.filter (fun y => !(l1.setIfInBounds x.i true).getD y.i false)).length + (if x ∈ Y then 1 else 0) = (Y.filter (fun y => !l1.getD y.i false)).length := by
        intro Y
        induction Y with
        | nil => intro _ _; rfl
        | cons y Y ihY =>
         intro hY hnd; simp only [mB, List.nodup_cons] at hnd; have h1 := ihY (fun z hz => hY z (List.mem_cons_of_mem _ hz)) hnd.2; have hy := hY y List.mem_cons_self
         by_cases e : y = x
         · subst e
           have hnot : y ∉ Y := fun h => hnd.1 (List.mem_map.2 ⟨y, h, rfl⟩)
           rw [if_neg hnot] at h1; rw [if_pos List.mem_cons_self, List.filter_cons, List.filter_cons, getD_set hil1, if_pos rfl, hil0]; simp only [Bool.not_true, Bool.not_false, if_true, Bool.false_eq_true, if_false, List.length_cons]
           omega
         · have hne : y.i ≠ x.i := fun h => e (hinj y hy h)
           have hiff : (x ∈ y :: Y) ↔ x ∈ Y := ⟨fun h => (List.mem_cons.1 h).elim (fun h => absurd h.symm e) id, List.mem_cons_of_mem _⟩
           rw [List.filter_cons, List.filter_cons, getD_set (hsz y hy), if_neg (Ne.symm hne)]; simp only [hiff]
           split
           · simp only [List.length_cons]; omega
           · exact h1
       have h2 := hgen X (fun _ h => h) c5; rw [if_pos hx] at h2
       omega
     · have hset : ∀ j, j < l1.size → (l1.setIfInBounds x.i true).getD j false = (if x.i = j then true else l1.getD j false) := fun j hj => getD_set hj
       have hout : ∀ j, ¬ j < l1.size → (l1.setIfInBounds x.i true).getD j false = false ∧ l1.getD j false = false := fun j hj => by simp [Array.getD_eq_getD_getElem?, hj]
       have hold : ∀ j, (l1.setIfInBounds x.i true).getD j false = true → j = x.i ∨ l1.getD j false = true := by
        intro j hj
        by_cases h : j < l1.size
        · by_cases e : x.i = j
          · exact .inl e.symm
          · rw [hset j h, if_neg e] at hj; exact .inr hj
        · rw [(hout j h).1] at hj; cases hj
       have hnew : ∀ j, l1.getD j false = true → (l1.setIfInBounds x.i true).getD j false = true := by
        intro j hj
        by_cases h : j < l1.size
        · rw [hset j h]
          by_cases e : x.i = j
          · rw [if_pos e]
          · rw [if_neg e]; exact hj
        · rw [(hout j h).2] at hj; cases hj
       have hput : ∀ t, x.N = some t → (a.put o.dst v).eval (.tmp t) = v := by
        intro t e; have hlt := (c4 x hx).2; rw [e] at hlt
        have htn : t < a.tmps.size := by rw [hI.tsize]; simpa using hlt
        rw [hdst, e]; simp [Act.put, Act.eval, Array.getD_eq_getD_getElem?, htn]
       have hput2 : ∀ t, x.N ≠ some t → (a.put o.dst v).eval (.tmp t) = a.eval (.tmp t) := by
        intro t ht; rw [hdst]; exact Act.eval_put (fun d hd e => ht (by injection e with e; rw [hd, e]))
       exact {
        size := by simpa using hI.size
        base := fun j hj => hnew j (hI.base j hj)
        only := fun j hj => (hold j hj).elim (fun e => .inr ⟨x, hx, e.symm⟩) (hI.only j)
        closed := hI.closed.set hi
        hS := hSn
        hB := hBn
        defers := by rw [hdst]; cases x.N <;> exact hI.defers
        tsize := by rw [hdst]; cases x.N <;> simpa [Act.put] using hI.tsize
        val := by
         intro y hy hyl t et
         by_cases e : y = x
         · subst e; rw [hput t et, if_pos rfl]
         · have hne : y.i ≠ x.i := fun h => e (hinj y hy h)
           rw [if_neg hne, hput2 _ (fun h => e (inj_nf c6 hy hx et h))]; exact hI.val y hy ((hold _ hyl).resolve_left hne) t et
        oth := by
         intro t ht; rw [hput2 t (ht x hx (by rw [hset _ hil1, if_pos rfl]))]; exact hI.oth t (fun y hy hyl => ht y hy (hnew _ hyl))
        fact := by
         intro y hy hyl
         by_cases e : y = x
         · subst e; exact hg
         · have hne : y.i ≠ x.i := fun h => e (hinj y hy h)
           have hyl1 := (hold _ hyl).resolve_left hne; refine hpres y hy hne (fun hk => ?_) (hI.fact y hy hyl1); obtain ⟨oy, hoy, _⟩ := Option.map_eq_some_iff.1 (c4 y hy).1.1.1.1; have hkw := (c4 y hy).1.2 _ hk; obtain ⟨e2, he2, he3, he4⟩ := (waits_mem hoy).1 hkw; have h9 := hI.closed y.i oy hoy hyl1 e2 he2 he3; rw [he4, hil0] at h9
           cases h9 }
 refine key X.length l a0 w0 (fun _ => undef) ?_ ?_
 · have : X.filter (fun x => !l.getD x.i false) = X := by
    rw [List.filter_eq_self]; intro x hx; have h := (c4 x hx).1.1.1.2
    have : l.getD x.i false = false := by
     by_cases hs : x.i < l.size
     · rw [← getD_tf hs]; exact h
     · simp [Array.getD_eq_getD_getElem?, hs]
    simp [this]
   rw [this]
 · have hno : ∀ x ∈ X, l.getD x.i false = true → False := by
    intro x hx h; have h2 := (c4 x hx).1.1.1.2
    by_cases hs : x.i < l.size
    · rw [getD_tf hs, h] at h2; cases h2
    · simp [Array.getD_eq_getD_getElem?, hs] at h
   exact {
    size := rfl, base := fun _ h => h, only := fun _ h => .inl h, closed := Region.closedB_spec c2, hS := h0, hB := Below.refl _ _, defers := rfl, tsize := rfl
    val := fun x hx h => (hno x hx h).elim, oth := fun _ _ => rfl, fact := fun x hx h => (hno x hx h).elim }
def All (X Y : List Rw) (P : Program) (ops : Array Oper) (md : Region.Mode) (Q : Exit → Act → World → Prop) (S : World → Prop) (a0 : Act) (w0 : World) : Prop := ∀ x ∈ Y, Still x ∧ ∀ o, ops[x.i]? = some o → StepB P ops md Q S X a0 w0 x o ∨ StepAt P ops md Q S X a0 w0 x o
theorem All.nil {X : List Rw} {a0 : Act} {w0 : World} : All X [] P ops md Q S a0 w0 := fun _ h => by cases h
theorem All.more {X Y : List Rw} {a0 : Act} {w0 : World} {x : Rw} {o : Oper} (ho : ops[x.i]? = some o) (h1 : Still x) (h2 : StepB P ops md Q S X a0 w0 x o ∨ StepAt P ops md Q S X a0 w0 x o) (h : All X Y P ops md Q S a0 w0) : All X (x :: Y) P ops md Q S a0 w0 := by
 intro y hy
 rcases List.mem_cons.1 hy with rfl | hy
 · refine ⟨h1, fun o' ho' => ?_⟩
   obtain rfl := Option.some.inj (ho.symm.trans ho'); exact h2
 · exact h y hy
theorem All.cons {X Y : List Rw} {a0 : Act} {w0 : World} {x : Rw} {o : Oper} (ho : ops[x.i]? = some o) (h1 : Still x) (h2 : StepB P ops md Q S X a0 w0 x o) (h : All X Y P ops md Q S a0 w0) : All X (x :: Y) P ops md Q S a0 w0 := All.more ho h1 (.inl h2) h
theorem any_ {fuel n : Nat} {l : Array Bool} {a0 : Act} {w0 : World} (l' : Array Bool) (X : List Rw) (hc : anyChk md ops l l' a0.tmps.size X = true) (hn : X.length + fuel = n) (hS : ∀ w w', Below w.heap.size w w' → S w → S w') (h0 : S w0) (step : All X X P ops md Q S a0 w0)
  (cont : ∀ vs w, S w → Below w0.heap.size w0 w → (∀ x ∈ X, x.G vs w) → wpAnyLast P md ops Q S ds fuel l' (putAll a0 (puts X vs)) w) : wpAnyLast P md ops Q S ds n l a0 w0 := by
 subst hn; refine any0 l' X hc (fun x hx o ho => ?_) h0 cont
 rcases (step x hx).2 o ho with h | h
 · intro vs a w h1 h2 h3 h4 K hK
   refine h vs a w h1 h2 h3 h4 K (fun v w' hb hg => hK v w' (hS w w' hb h1) (below_step h2 hb) (fun y hy hne hnd aX => (step y hy).1 vs _ w w' (fun k hk => ?_) hb aX) hg)
   have hkx : k ≠ x.i := by
    rintro rfl
    rcases hk with hk | hk
    · exact hne hk.symm
    · exact hnd hk
   exact (if_neg hkx).symm
 · exact h
end
theorem cb_ {W W' : World} {g j : Nat} {v : Value} (hb : Below W.heap.size W W') (h : W.cell? ⟨g, j, none⟩ = some v) : W'.cell? ⟨g, j, none⟩ = some v := (hb.cell (World.block_lt_of_cell? W _ h)).trans h
section
variable {P : Program} {ops : Array Oper} {rest : List Oper} {o : Oper} {a : Act} {Q : Exit → Act → World → Prop}
theorem copyAt {w0 W : World} (base : Nat) (hgd : o.guard = none) (s x : Operand) (t t' e : TypeId) (ho : o.op = .call { callee := .builtin .copy, args := #[s, x], argTypes := #[t, t'] }) (ht : P.underlying t = some (.slice e)) (hinfo : (P.info? e).map (·.size) = some 1)
  {g off dl dc cap : Nat} (xs ys : List Int) (A : Option Addr) (m c : Nat) (ok : Nat → Prop) (hs : a.eval s = .slice (some ⟨g, off, none⟩) dl dc) (hx : a.eval x = .slice A m c) (hoff : off + dl = xs.length) (hm : m ≤ dl)
  (HO : (Kd.int .i64).R e W base ok (.slice (some ⟨g, 0, none⟩) xs.length cap) xs) (HR : (Kd.int .i64).C W A m ys) (HB : Below base w0 W) (hbase : base ≤ W.heap.size)
  (h : ∀ w1, (Kd.int .i64).R e w1 base ok (.slice (some ⟨g, 0, none⟩) xs.length cap) (xs.take off ++ ys ++ xs.drop (off + m)) → Below base w0 w1 → W.grownBy w1 (some g) → wpList P ops Q rest (a.put o.dst (.int .i64 ((m : Nat) : Int))) w1) :
  wpList P ops Q (o :: rest) a W := by
 have hR := Kd.reads_of_C (enc := Value.int .i64) (d := (0 : Int)) (h1 := fun _ => rfl) HR
 have hml : ys.length = m := hR.1
 have hown := Kd.own_of_R HO
 have hmin : min m dl = m := Nat.min_eq_left hm
 have fin : ∀ w1, (Builtin.copy_ #[t, t'] o.type #[.slice (some ⟨g, off, none⟩) dl dc, .slice A m c]).run P W = .ok (goInt ((m : Nat) : Int)) w1 → (Kd.int .i64).R e w1 base ok (.slice (some ⟨g, 0, none⟩) xs.length cap) (xs.take off ++ ys ++ xs.drop (off + m)) → W.grownBy w1 (some g) → wpList P ops Q (o :: rest) a W := by
  intro w1 hr hrow hg; refine wpList_plain hgd fun K hK => ?_; unfold Oper.wp execOp; simp only [ho, resolve, invoke, builtin, Sem.run_bind, Sem.run_pure, Result.andThen_ok, mA, mB, mC, hs, hx, hr]; exact hK _ _ (h w1 hrow (HB.grown hg hbase (own_base hown)) hg)
 rcases Nat.eq_zero_or_pos m with h0 | hp
 · subst h0
   refine fin W (run_copy_none W t t' o.type e _ A dl dc 0 c ht hinfo (Nat.min_eq_left (Nat.zero_le _))) ?_ (World.grownBy.refl W _); rw [List.eq_nil_of_length_eq_zero hml, List.append_nil, Nat.add_zero, List.take_append_drop]; exact HO
 · obtain ⟨ad, hA, hc⟩ := hR.2.2 (by omega)
   rcases hown.2 with ⟨hv, _⟩ | ⟨g', cap', cur, hv, hb, hh, hnc, hcm, hcs, htake⟩
   · cases hv
   injection hv with hv1 hv2 hv3
   injection hv1 with hv1
   injection hv1 with hv1
   subst hv1; subst hv3
   have hcs1 : cur.size = cap := by omega
   have hsrc : ∀ j u, (encs (Value.int .i64) ys)[j]? = some u → W.cell? (ad.add j) = some u := by
    intro j u hu
    have hj : j < ys.length := by
     rcases Nat.lt_or_ge j ys.length with h | h
     · exact h
     · rw [List.getElem?_eq_none (by rw [encs_length]; exact h)] at hu; cases hu
    rw [encs_get (d := (0 : Int)) _ j hj] at hu; rw [hc j (by omega), ← hu]
   have hkl : (encs (Value.int .i64) ys).length = m := by rw [encs_length]; exact hml
   have hr := run_copy_cells (P := P) W t t' o.type e g off dl dc ad m c (encs (Value.int .i64) ys) ht hinfo (by rw [hkl]; exact hmin.symm) hsrc
    (fun j hj => by rw [cell_of_row W g _ cur e (0, 0) hh]; simp; omega) (fun j _ => blk_frozen hh _) (by intro u hu; simp only [encs, List.mem_map] at hu; obtain ⟨q, _, rfl⟩ := hu; rfl)
   obtain ⟨cur', h3, h4, h5⟩ := setCells_row (encs (Value.int .i64) ys) off W cur hh (by rw [hkl]; omega); obtain ⟨s1, s2, s3, s4⟩ := setCells_same g (encs (Value.int .i64) ys) off W
   have hln : (xs.take off ++ ys ++ xs.drop (off + m)).length = xs.length := by
    simp only [List.length_append, List.length_take, List.length_drop]
    omega
   refine fin _ (by rw [hA, hr, hkl]) ?_ ⟨s1, s2, s3, by rw [s4]; exact Nat.le_refl _, fun k _ hk => setCells_far _ _ k (fun he => hk (by rw [he]))⟩; rw [← hln]; refine Kd.R_of_own ?_ (fun k hk => HO.1 k hk); rw [hln]; refine ⟨by rw [encs_length, hln, Nat.mul_one], .inr ⟨g, cap, cur', rfl, hb, h3, hnc, hcm, by rw [h4, hcs], ?_⟩⟩; rw [h5, hkl, encs_append, encs_append, Nat.mul_one]
   have htk : cur.toList.take xs.length = encs (Value.int .i64) xs := by rw [← htake, Nat.mul_one]
   have e1 : encs (Value.int .i64) (xs.take off) = cur.toList.take off := by
    have : encs (Value.int .i64) (xs.take off) = (encs (Value.int .i64) xs).take off := by simp [encs, List.map_take]
    rw [this, ← htk, List.take_take, Nat.min_eq_left (by omega)]
   have e2 : encs (Value.int .i64) (xs.drop (off + m)) = (cur.toList.take xs.length).drop (off + m) := by
    rw [htk]; simp [encs, List.map_drop]
   rw [e1, e2, List.take_append, List.drop_take]
   have hl1 : (cur.toList.take off ++ encs (Value.int .i64) ys).length = off + m := by
    rw [List.length_append, hkl, List.length_take, Array.length_toList]; omega
   rw [List.take_of_length_le (by rw [hl1]; omega), hl1]
end
def sS {α : Type} (e : Nat) (d : Kd α) : Kd (List α) where
 sz := 1
 E := e :: d.E
 K := (Kd.slice e d).K
 M := fun w base ok xs cs => ∃ v, cs = [v] ∧ Kd.S d e w base ok v xs
 K_len := (Kd.slice e d).K_len
 K_one := (Kd.slice e d).K_one
 K_below := (Kd.slice e d).K_below
 K_of_M := by
  rintro w base ok x cs ⟨v, rfl, h⟩; exact (Kd.slice e d).K_of_M ⟨v, rfl, Kd.S_R h⟩
 M_mono := by
  rintro w base ok ok' x cs hok ⟨v, rfl, h⟩; exact ⟨v, rfl, Kd.S_mono h hok⟩
 M_bound := by
  rintro w base ok x cs ⟨v, rfl, h⟩; exact ⟨v, rfl, Kd.S_bound h⟩
 M_move := by
  rintro w w1 base ok x cs hm ⟨v, rfl, h⟩; exact ⟨v, rfl, Kd.S_move h hm⟩
 M_lower := by
  rintro w base base' ok x cs hb ⟨v, rfl, h⟩; exact ⟨v, rfl, Kd.S_lower h hb⟩
theorem sS_R {α : Type} {d : Kd α} {e e' base : Nat} {w : World} {ok : Nat → Prop} {v : Value} {xs : List (List α)} (h : Kd.S (sS e d) e' w base ok v xs) : Kd.R (Kd.slice e d) e' w base ok v xs := by
 obtain ⟨h0, h1⟩ := Kd.S_R h; refine ⟨h0, h1.imp_ ?_⟩; rintro x cs ⟨u, rfl, hu⟩; exact ⟨u, rfl, Kd.S_R hu⟩
def sumMat (n m : Nat) (A B : List (List Int)) : List (List Int) := A.map (fun r => r ++ List.replicate m 0) ++ B.map (fun r => List.replicate n 0 ++ r)
def sumMats (n m : Nat) (A B : List (List (List Int))) : List (List (List Int)) := List.zipWith (sumMat n m) A B
def shpB (n : Nat) (l : List (List (List Int))) : Bool := l.all fun m => decide (m.length = n) && m.all fun r => decide (r.length = n)
def zer2 (n m : Nat) : List (List Int) := List.replicate n (List.replicate m 0)
def sumOk (ac : Int) (ab : List Int) (ae : List (List (List Int))) (ag : List Int) (aj : Int) (aa : List Int) (af : List (List (List Int))) (ah : List Int) : Bool := decide (0 ≤ ac ∧ ac ≤ 64 ∧ ab.length ≤ 40 ∧ aa.length ≤ 40 ∧ ag.length ≤ 40 ∧ ah.length ≤ 40 ∧ (ae.length : Int) = ac ∧ (af.length : Int) = ac) && shpB ab.length ae && shpB aa.length af
def impl_SumForms.f (k : Nat) (ac : Int) (ab : List Int) (ae : List (List (List Int))) (ag : List Int) (aj : Int) (aa : List Int) (af : List (List (List Int))) (ah : List Int) : Option (Int × List Int × (List (List (List Int))) × List Int × Bool) := (impl_IsLinear.f k ac ab ae ag).bind fun x => if x = true then ((impl_IsLinear.f k aj aa af ah).bind fun y => if y = true then (if ac = aj then (slices_Concat_int_int.f k [ab, aa]).bind fun u => (slices_Concat_int_int.f k [ag, ah]).bind fun v => (impl_square.f k ((ab.length + aa.length : Nat) : Int)).bind fun q => if u = ab ++ aa ∧ v = ag ++ ah ∧ q = zer2 (ab.length + aa.length) (ab.length + aa.length) ∧ sumOk ac ab ae ag aj aa af ah = true then (impl_IsLinear.f k ac (ab ++ aa) (sumMats ab.length aa.length ae af) (ag ++ ah)).bind fun z => if z = true then some (ac, ab ++ aa, sumMats ab.length aa.length ae af, ag ++ ah, true) else some (0, [], [], [], false) else none else some (0, [], [], [], false)) else some (0, [], [], [], false)) else some (0, [], [], [], false)
theorem far4 {W : World} {g : Nat} (a b c d : Value) (k : Nat) (hk : k ≠ g) : ((((W.setCell ⟨g, 0, none⟩ a).setCell ⟨g, 1, none⟩ b).setCell ⟨g, 2, none⟩ c).setCell ⟨g, 3, none⟩ d).heap[k]? = W.heap[k]? := by
 rw [Below.heap_setCell _ _ _ _ hk, Below.heap_setCell _ _ _ _ hk, Below.heap_setCell _ _ _ _ hk, Below.heap_setCell _ _ _ _ hk]
theorem rd_ {α : Type} {d : Kd α} {e base : Nat} {ok : Nat → Prop} {xs : List α} {w : World} {A : Option Addr} {n cp : Nat} (h : Kd.R d e w base ok (.slice A n cp) xs) : d.C w A xs.length xs ∧ xs.length ≤ cp := by
 have h2 := Kd.R_reads' h; exact ⟨h2.2.2, by have := h2.1; have := h2.2.1; omega⟩
theorem zer2_len (n m : Nat) : (zer2 n m).length = n := by simp [zer2]
def fillG {α β : Type} (P : List α) (T : List β) (F : β → α) (t : Nat) (z : α) (j : Nat) : List α := P ++ (T.take j).map F ++ List.replicate (t - j) z
theorem fill_len {α β : Type} (P : List α) (T : List β) (F : β → α) (t : Nat) (z : α) (j : Nat) (hj : j ≤ T.length) (ht : T.length ≤ t) : (fillG P T F t z j).length = P.length + t := by simp [fillG]; omega
theorem fill_set {α β : Type} (P : List α) (T : List β) (F : β → α) (t : Nat) (z d : α) (j p : Nat) (hj : j < T.length) (ht : T.length ≤ t) (hp : p = P.length + j) : (fillG P T F t z j).set p (F T[j]) = fillG P T F t z (j + 1) ∧ (fillG P T F t z j).getD p d = z := by
 subst hp; unfold fillG
 have hl : (P ++ (T.take j).map F).length = P.length + j := by simp; omega
 obtain ⟨q, hq⟩ : ∃ q, t - j = q + 1 := ⟨t - j - 1, by omega⟩; rw [hq, List.replicate_succ, show t - (j + 1) = q by omega, List.take_succ_eq_append_getElem hj, List.map_append, ← List.append_assoc, List.set_append_right _ _ (by omega), hl, Nat.sub_self]; refine ⟨by simp, ?_⟩; rw [List.getD_eq_getElem?_getD, List.getElem?_append_right (by omega), hl, Nat.sub_self]
 rfl
theorem sumMats_step (n m : Nat) (A B : List (List (List Int))) (i : Nat) (ha : i < A.length) (hb : i < B.length) : (sumMats n m A B).take (i + 1) = (sumMats n m A B).take i ++ [sumMat n m A[i] B[i]] := by
 have hl : i < (sumMats n m A B).length := by simp [sumMats]; omega
 rw [List.take_succ_eq_append_getElem hl]
 simp [sumMats]
theorem shp_at {n : Nat} {l : List (List (List Int))} (h : shpB n l = true) {i : Nat} (hi : i < l.length) : l[i].length = n ∧ ∀ r ∈ l[i], r.length = n := by
 unfold shpB at h; rw [List.all_eq_true] at h
 have := h _ (List.getElem_mem hi)
 rw [Bool.and_eq_true, List.all_eq_true] at this; exact ⟨of_decide_eq_true this.1, fun r hr => of_decide_eq_true (this.2 r hr)⟩
def Old (w7 : World) (g : Nat) (W : World) : Prop := w7.heap.size ≤ W.heap.size ∧ ∀ k, k < w7.heap.size → k ≠ g → W.heap[k]? = w7.heap[k]?
theorem Old.blk {w7 W : World} {g b : Nat} {o : Obj} (h : Old w7 g W) (hb : w7.heap[b]? = some o) (hn : b ≠ g) : W.heap[b]? = some o := (h.2 b (blk_lt hb) hn).trans hb
theorem Old.below {w7 W W' : World} {g : Nat} (h : Old w7 g W) (hb : Below W.heap.size W W') : Old w7 g W' := ⟨Nat.le_trans h.1 hb.size, fun k h1 h2 => (hb.block k (Nat.lt_of_lt_of_le h1 h.1)).trans (h.2 k h1 h2)⟩
def SumI (w w7 W : World) (gO : Nat) (bo : Int) (v7 v8 : Value) (Ms : List (List (List Int))) (i : Nat) : Prop := Below w.heap.size w W ∧ Old w7 gO W ∧ ∃ um, W.heap[gO]? = some (.cells #[.int .i64 bo, v7, um, v8] 27 (0, 0)) ∧ Kd.S (sS 22 (Kd.slice 3 (Kd.int .i64))) 37 W w.heap.size (fun k => w7.heap.size ≤ k) um (Ms.take i)
def MatI (wi W : World) (v : Value) (M : List (List Int)) : Prop := Below wi.heap.size wi W ∧ Kd.S (Kd.slice 3 (Kd.int .i64)) 22 W wi.heap.size (fun _ => True) v M
theorem box4 {B g : Nat} {w W : World} {t : TypeId} {x y z u : Value} (h : W.heap[g]? = some (.cells #[x, y, z, u] t (0, 0))) (hB : Below B w W) (hg : B ≤ g) (a b c d : Value) : ∃ W', W' = (((W.setCell ⟨g, 0, none⟩ a).setCell ⟨g, 1, none⟩ b).setCell ⟨g, 2, none⟩ c).setCell ⟨g, 3, none⟩ d ∧ Below B w W' ∧ W'.heap[g]? = some (.cells #[a, b, c, d] t (0, 0)) ∧ W'.heap.size = W.heap.size ∧ ∀ k, k ≠ g → W'.heap[k]? = W.heap[k]? :=
 ⟨_, rfl, ((((hB.setCell (p := ⟨g, 0, none⟩) hg a).setCell (p := ⟨g, 1, none⟩) hg b).setCell (p := ⟨g, 2, none⟩) hg c).setCell (p := ⟨g, 3, none⟩) hg d), blk_put (blk_put (blk_put (blk_put h 0 _ rfl) 1 _ rfl) 2 _ rfl) 3 _ rfl, by simp [World.setCell], fun k hk => by rw [Below.heap_setCell _ _ _ _ hk, Below.heap_setCell _ _ _ _ hk, Below.heap_setCell _ _ _ _ hk, Below.heap_setCell _ _ _ _ hk]⟩
theorem lit2C {w : World} {g e : Nat} {x y : List Int} {A B : Option Addr} {c d : Nat} (h : w.heap[g]? = some (.cells #[.slice A x.length c, .slice B y.length d] e (0, 0))) (hx : Kd.C (Kd.int .i64) w A x.length x) (hxc : x.length ≤ c) (hy : Kd.C (Kd.int .i64) w B y.length y) (hyc : y.length ≤ d) : Kd.C (Kd.slice 3 (Kd.int .i64)) w (some ⟨g, 0, none⟩) 2 [x, y] := by
 refine ⟨rfl, by omega, fun _ => ⟨_, rfl, fun j p hj => ?_⟩⟩
 match j with
 | 0 =>
  obtain rfl : x = p := by simpa using hj
  refine ⟨_, rfl, ⟨A, c, rfl, hxc, hx⟩, fun i u hu => ?_⟩
  match i with
  | 0 => obtain rfl : Value.slice A x.length c = u := by simpa using hu
         exact (blk_cell h 0).trans rfl
  | i + 1 => simp at hu
 | 1 =>
  obtain rfl : y = p := by simpa using hj
  refine ⟨_, rfl, ⟨B, d, rfl, hyc, hy⟩, fun i u hu => ?_⟩
  match i with
  | 0 => obtain rfl : Value.slice B y.length d = u := by simpa using hu
         exact (blk_cell h 1).trans rfl
  | i + 1 => simp at hu
 | j + 2 => simp at hj
theorem ev_ {a : Act} {t : Tmp} {v : Value} (h : a.eval (.tmp t) = v) : a.tmps[t]?.getD undef = v := by rw [← h]; simp [Act.eval, Array.getD_eq_getD_getElem?]
theorem hq4' {W : World} {g : Nat} {a b c f : Value} {l : List Value} {t : TypeId} (h : W.heap[g]? = some (.cells (a :: b :: c :: f :: l).toArray t (0, 0))) : (W.cell? ⟨g, 0, none⟩ = some a ∧ W.cell? ⟨g, 1, none⟩ = some b ∧ W.cell? ⟨g, 2, none⟩ = some c ∧ W.cell? ⟨g, 3, none⟩ = some f) ∧ W.frozen? ⟨g, 0, none⟩ = false ∧ W.frozen? ⟨g, 1, none⟩ = false ∧ W.frozen? ⟨g, 2, none⟩ = false ∧ W.frozen? ⟨g, 3, none⟩ = false :=
 ⟨⟨(blk_cell h 0).trans rfl, (blk_cell h 1).trans rfl, (blk_cell h 2).trans rfl, (blk_cell h 3).trans rfl⟩, blk_frozen h 0, blk_frozen h 1, blk_frozen h 2, blk_frozen h 3⟩
theorem kc_ {W W' : World} {g : Nat} {o : Obj} (h : Aside0 (W.heap[g]? = some o)) (hb : Below W.heap.size W W') : Aside0 (W'.heap[g]? = some o) := ⟨blk_below h.out hb⟩
theorem ks_ {w W W' : World} (h : Aside0 (Below w.heap.size w W)) (hb : Below W.heap.size W W') : Aside0 (Below w.heap.size w W') := ⟨below_step h.out hb⟩
set_option maxHeartbeats 16000000 in
set_option maxRecDepth 100000 in
theorem impl_SumForms.calls (k : Nat) (ac : Int) (ak : Option Addr) (ao : Nat) (ab : List Int) (au : Option Addr) (aw : Nat) (ae : List (List (List Int))) (al : Option Addr) (ap : Nat) (ag : List Int) (aj : Int) (am : Option Addr) (aq : Nat) (aa : List Int) (av : Option Addr) (ax : Nat) (af : List (List (List Int))) (an : Option Addr) (ar : Nat) (ah : List Int) (r1 : Int) (r2 : List Int) (r3 : List (List (List Int))) (r4 : List Int) (r5 : Bool) (w : World) (aG : Kd.C (Kd.int .i64) w ak ab.length ab) (ay : ab.length ≤ ao) (aH : Kd.C (Kd.slice 22 (Kd.slice 3 (Kd.int .i64))) w au ae.length ae) (az : ae.length ≤ aw) (aI : Kd.C (Kd.int .i64) w al ag.length ag) (aA : ag.length ≤ ap) (aJ : Kd.C (Kd.int .i64) w am aa.length aa) (aC : aa.length ≤ aq) (aM : Kd.C (Kd.slice 22 (Kd.slice 3 (Kd.int .i64))) w av af.length af) (aD : af.length ≤ ax) (aN : Kd.C (Kd.int .i64) w an ah.length ah) (aE : ah.length ≤ ar) (h : impl_SumForms.f k ac ab ae ag aj aa af ah = some (r1, r2, r3, r4, r5)) :
  Calls Try.prog 7 #[.agg #[.int .i64 ac, .slice ak ab.length ao, .slice au ae.length aw, .slice al ag.length ap], .agg #[.int .i64 aj, .slice am aa.length aq, .slice av af.length ax, .slice an ah.length ar]] w fun e w' => ∃ v1_ v2_ v3_ : Value, e = .returned (.tuple #[.agg #[.int .i64 r1, v1_, v2_, v3_], .bool r5]) ∧ Kd.R (Kd.int .i64) 3 w' w.heap.size (o1 v3_) v1_ r2 ∧ Kd.S (sS 22 (Kd.slice 3 (Kd.int .i64))) 37 w' w.heap.size (o2 v1_ v3_) v2_ r3 ∧ Kd.R (Kd.int .i64) 3 w' w.heap.size (o1 v1_) v3_ r4 ∧ Below w.heap.size w w' := by
 have hu27 := Try.underlying27; have R01 := A_ aG; have C01 := A_ ay; have R02 := A_ aH; have C02 := A_ az; have R03 := A_ aI; have C03 := A_ aA; have R11 := A_ aJ; have C11 := A_ aC; have R12 := A_ aM; have C12 := A_ aD; have R13 := A_ aN; have C13 := A_ aE; clear aG ay aH az aI aA aJ aC aM aD aN aE; have HB := A_ (Below.refl w.heap.size w); unfold impl_SumForms.f at h; obtain ⟨x, hx, h⟩ := Option.bind_eq_some_iff.mp h; have HX := A_ hx; clear hx; have H := A_ h; clear h; go_enter Try.func7, Try.ntmps7
 go_upto_region 1 with (first | ((with_reducible refine gate_dst (N := 2) rfl ?_); refine box_event rfl (N := 2) rfl (cs := #[.int .i64 ac, .slice ak ab.length ao, .slice au ae.length aw, .slice al ag.length ap]) (t := 27) (by go_simp; done) ?_; intro gA hg w1 hbox hb; have BA := A_ hbox; have qA := hq4' BA.o; have GA := A_ ((by rw [hg]; exact HB.o.size : w.heap.size ≤ gA)); skip; replace HB := ks_ HB hb; clear hb hbox hg) | ((with_reducible refine gate_dst (N := 3) rfl ?_); refine box_event rfl (N := 3) rfl (cs := #[.int .i64 aj, .slice am aa.length aq, .slice av af.length ax, .slice an ah.length ar]) (t := 27) (by go_simp; done) ?_; intro gB hg w2 hbox hb; have BB := A_ hbox; have qB := hq4' BB.o; have GB := A_ ((by rw [hg]; exact HB.o.size : w.heap.size ≤ gB)); have NAB := A_ ((by rw [hg]; exact Nat.ne_of_lt (blk_lt BA.o) : gA ≠ gB)); clear qA; replace BA := kc_ BA hb; have qA := hq4' BA.o; replace HB := ks_ HB hb; clear hb hbox hg) | ((with_reducible refine gate_dst (N := 4) rfl ?_); refine box_event rfl (N := 4) rfl (cs := #[.int .i64 0, .slice none 0 0, .slice none 0 0, .slice none 0 0]) (t := 27) (by go_simp; done) ?_; intro gC hg w3 hbox hb; have BC := A_ hbox; have qC := hq4' BC.o; have GC := A_ ((by rw [hg]; exact HB.o.size : w.heap.size ≤ gC)); have NAC := A_ ((by rw [hg]; exact Nat.ne_of_lt (blk_lt BA.o) : gA ≠ gC)); have NBC := A_ ((by rw [hg]; exact Nat.ne_of_lt (blk_lt BB.o) : gB ≠ gC)); clear qA qB; replace BA := kc_ BA hb; have qA := hq4' BA.o; replace BB := kc_ BB hb; have qB := hq4' BB.o; replace HB := ks_ HB hb; clear hb hbox hg))
 (try simp only [Act.put, mD, mE, mF])
 by_cases cx : x = true
 case neg =>
  have hx : x = false := by simpa using cx
  subst hx; clear cx; replace H := A_ ((if_neg (by decide)).symm.trans H.o); have h2 := H.o; simp only [Option.some.injEq, Prod.mk.injEq] at h2; obtain ⟨rfl, rfl, rfl, rfl, rfl⟩ := h2; clear H
  go_wp2_with (first | (go_at_call 16; (with_reducible refine (impl_IsLinear.calls k ac _ _ ab _ _ ae _ _ ag false _ (Kd.C_below R01.o HB.o) C01.o (Kd.C_below R02.o HB.o) C02.o (Kd.C_below R03.o HB.o) C03.o HX.o).mono ?_); rintro e w4 ⟨rfl, hb⟩; clear qA qB qC; replace BA := kc_ BA hb; have qA := hq4' BA.o; replace BB := kc_ BB hb; have qB := hq4' BB.o; replace BC := kc_ BC hb; have qC := hq4' BC.o; replace HB := ks_ HB hb; clear hb))
  refine bodyPost_ret (results_ct rfl _ _ gC 27 #[.int .i64 0, .slice none 0 0, .slice none 0 0, .slice none 0 0] (0, 0) _ rfl (by exact blk_put (blk_put (blk_put (blk_put BC.o 0 _ rfl) 1 _ rfl) 2 _ rfl) 3 _ rfl) Try.underlying27 rfl (by kernel_rfl)) rfl ?_; exact ⟨_, _, _, rfl, Kd.R_nil _ _ _ _ _, Kd.S_nil _ _ _ _ _, Kd.R_nil _ _ _ _ _, below_set (below_set (below_set (below_set HB.o GC.o) GC.o) GC.o) GC.o⟩
 subst cx; replace H := A_ ((if_pos rfl).symm.trans H.o); obtain ⟨y, hy, h⟩ := Option.bind_eq_some_iff.mp H.o; have HY := A_ hy; replace H := A_ h; clear hy h
 by_cases cy : y = true
 case neg =>
  have hy : y = false := by simpa using cy
  subst hy; clear cy; replace H := A_ ((if_neg (by decide)).symm.trans H.o); have h2 := H.o; simp only [Option.some.injEq, Prod.mk.injEq] at h2; obtain ⟨rfl, rfl, rfl, rfl, rfl⟩ := h2; clear H
  go_wp2_with (first | (go_at_call 16; (with_reducible refine (impl_IsLinear.calls k ac _ _ ab _ _ ae _ _ ag true _ (Kd.C_below R01.o HB.o) C01.o (Kd.C_below R02.o HB.o) C02.o (Kd.C_below R03.o HB.o) C03.o HX.o).mono ?_); rintro e w4 ⟨rfl, hb⟩; clear qA qB qC; replace BA := kc_ BA hb; have qA := hq4' BA.o; replace BB := kc_ BB hb; have qB := hq4' BB.o; replace BC := kc_ BC hb; have qC := hq4' BC.o; replace HB := ks_ HB hb; clear hb) | (go_at_call 16; (with_reducible refine (impl_IsLinear.calls k aj _ _ aa _ _ af _ _ ah false _ (Kd.C_below R11.o HB.o) C11.o (Kd.C_below R12.o HB.o) C12.o (Kd.C_below R13.o HB.o) C13.o HY.o).mono ?_); rintro e w5 ⟨rfl, hb⟩; clear qA qB qC; replace BA := kc_ BA hb; have qA := hq4' BA.o; replace BB := kc_ BB hb; have qB := hq4' BB.o; replace BC := kc_ BC hb; have qC := hq4' BC.o; replace HB := ks_ HB hb; clear hb))
  refine bodyPost_ret (results_ct rfl _ _ gC 27 #[.int .i64 0, .slice none 0 0, .slice none 0 0, .slice none 0 0] (0, 0) _ rfl (by exact blk_put (blk_put (blk_put (blk_put BC.o 0 _ rfl) 1 _ rfl) 2 _ rfl) 3 _ rfl) Try.underlying27 rfl (by kernel_rfl)) rfl ?_; exact ⟨_, _, _, rfl, Kd.R_nil _ _ _ _ _, Kd.S_nil _ _ _ _ _, Kd.R_nil _ _ _ _ _, below_set (below_set (below_set (below_set HB.o GC.o) GC.o) GC.o) GC.o⟩
 subst cy; replace H := A_ ((if_pos rfl).symm.trans H.o)
 by_cases ce : ac = aj
 case neg =>
  have cb : (ac != aj) = true := by simpa using ce
  replace H := A_ ((if_neg ce).symm.trans H.o); clear ce; have h2 := H.o; simp only [Option.some.injEq, Prod.mk.injEq] at h2; obtain ⟨rfl, rfl, rfl, rfl, rfl⟩ := h2; clear H
  go_wp2_with (first | (go_at_call 16; (with_reducible refine (impl_IsLinear.calls k ac _ _ ab _ _ ae _ _ ag true _ (Kd.C_below R01.o HB.o) C01.o (Kd.C_below R02.o HB.o) C02.o (Kd.C_below R03.o HB.o) C03.o HX.o).mono ?_); rintro e w4 ⟨rfl, hb⟩; clear qA qB qC; replace BA := kc_ BA hb; have qA := hq4' BA.o; replace BB := kc_ BB hb; have qB := hq4' BB.o; replace BC := kc_ BC hb; have qC := hq4' BC.o; replace HB := ks_ HB hb; clear hb) | (go_at_call 16; (with_reducible refine (impl_IsLinear.calls k aj _ _ aa _ _ af _ _ ah true _ (Kd.C_below R11.o HB.o) C11.o (Kd.C_below R12.o HB.o) C12.o (Kd.C_below R13.o HB.o) C13.o HY.o).mono ?_); rintro e w5 ⟨rfl, hb⟩; clear qA qB qC; replace BA := kc_ BA hb; have qA := hq4' BA.o; replace BB := kc_ BB hb; have qB := hq4' BB.o; replace BC := kc_ BC hb; have qC := hq4' BC.o; replace HB := ks_ HB hb; clear hb))
  refine bodyPost_ret (results_ct rfl _ _ gC 27 #[.int .i64 0, .slice none 0 0, .slice none 0 0, .slice none 0 0] (0, 0) _ rfl (by exact blk_put (blk_put (blk_put (blk_put BC.o 0 _ rfl) 1 _ rfl) 2 _ rfl) 3 _ rfl) Try.underlying27 rfl (by kernel_rfl)) rfl ?_; exact ⟨_, _, _, rfl, Kd.R_nil _ _ _ _ _, Kd.S_nil _ _ _ _ _, Kd.R_nil _ _ _ _ _, below_set (below_set (below_set (below_set HB.o GC.o) GC.o) GC.o) GC.o⟩
 subst ce
 have cb : (ac != ac) = false := bne_self_eq_false ac
 replace H := A_ ((if_pos rfl).symm.trans H.o); obtain ⟨ua, hu, h⟩ := Option.bind_eq_some_iff.mp H.o; obtain ⟨va, hv, h⟩ := Option.bind_eq_some_iff.mp h; obtain ⟨q, hq, h⟩ := Option.bind_eq_some_iff.mp h; clear H
 split at h
 case isFalse => cases h
 case isTrue hc =>
 obtain ⟨eu, ev, rfl, hok⟩ := hc; rw [← eu, ← ev] at h; have EU := A_ eu; have EV := A_ ev; obtain ⟨N, hN⟩ : ∃ N, N = ab.length + aa.length := ⟨_, rfl⟩; rw [← hN] at hq; have EN := A_ hN; have HU := A_ hu; have HV := A_ hv; have HQ := A_ hq; have H := A_ h; simp only [sumOk, Bool.and_eq_true, decide_eq_true_eq] at hok; obtain ⟨⟨⟨k1, k2, k3, k4, k5, k6, k7, k8⟩, k9⟩, k10⟩ := hok; have HK := A_ (show ((0 ≤ ac ∧ ac ≤ 64) ∧ (ae.length : Int) = ac ∧ (af.length : Int) = ac) ∧ ab.length ≤ 40 ∧ aa.length ≤ 40 ∧ ag.length ≤ 40 ∧ ah.length ≤ 40 from ⟨⟨⟨k1, k2⟩, k7, k8⟩, k3, k4, k5, k6⟩); have SA := A_ k9; have SB := A_ k10; have HNM := A_ (show wrap64 ((ab.length : Int) + (aa.length : Int)) = (N : Int) by unfold wrap64; omega); clear eu ev hN hu hv hq h k1 k2 k3 k4 k5 k6 k7 k8 k9 k10
 go_upto_region 4 with (first | (go_at_call 16; (with_reducible refine (impl_IsLinear.calls k ac _ _ ab _ _ ae _ _ ag true _ (Kd.C_below R01.o HB.o) C01.o (Kd.C_below R02.o HB.o) C02.o (Kd.C_below R03.o HB.o) C03.o HX.o).mono ?_); rintro e w4 ⟨rfl, hb⟩; clear qA qB qC; replace BA := kc_ BA hb; have qA := hq4' BA.o; replace BB := kc_ BB hb; have qB := hq4' BB.o; replace BC := kc_ BC hb; have qC := hq4' BC.o; replace HB := ks_ HB hb; clear hb) | (go_at_call 16; (with_reducible refine (impl_IsLinear.calls k ac _ _ aa _ _ af _ _ ah true _ (Kd.C_below R11.o HB.o) C11.o (Kd.C_below R12.o HB.o) C12.o (Kd.C_below R13.o HB.o) C13.o HY.o).mono ?_); rintro e w5 ⟨rfl, hb⟩; clear qA qB qC; replace BA := kc_ BA hb; have qA := hq4' BA.o; replace BB := kc_ BB hb; have qB := hq4' BB.o; replace BC := kc_ BC hb; have qC := hq4' BC.o; replace HB := ks_ HB hb; clear hb))
 (try simp only [Act.put, mD, mE, mF])
 try go_wp2
 have hb : Below w5.heap.size w5 w5.drew := below_drew (Below.refl _ _)
 clear qA qB qC; replace BA := kc_ BA hb; have qA := hq4' BA.o; replace BB := kc_ BB hb; have qB := hq4' BB.o; replace BC := kc_ BC hb; have qC := hq4' BC.o; replace HB := ks_ HB hb; clear hb qA qB qC; refine start_ (n := 17) (S := fun w' => w'.cell? ⟨gA, 0, none⟩ = some (.int .i64 ac) ∧ w'.cell? ⟨gA, 1, none⟩ = some (.slice ak ab.length ao) ∧ w'.cell? ⟨gA, 2, none⟩ = some (.slice au ae.length aw) ∧ w'.cell? ⟨gA, 3, none⟩ = some (.slice al ag.length ap) ∧ w'.cell? ⟨gB, 0, none⟩ = some (.int .i64 ac) ∧ w'.cell? ⟨gB, 1, none⟩ = some (.slice am aa.length aq) ∧ w'.cell? ⟨gB, 2, none⟩ = some (.slice av af.length ax) ∧ w'.cell? ⟨gB, 3, none⟩ = some (.slice an ah.length ar)) (ds := [16]) (mk_ 17 0) (by kernel_rfl) rfl rfl ⟨bz0 BA.o, bz1 BA.o, bz2 BA.o, bz3 BA.o, bz0 BB.o, bz1 BB.o, bz2 BB.o, bz3 BB.o⟩ (fun ai => ?_)
 generalize w5.drew = w6 at BA BB BC HB ai ⊢
 refine take_ (i := 0) (N := some 33) (v := ?_) (a' := ?_) (mk_ 17 1) rfl rfl (by kernel_rfl) (fun _ _ _ h => h) (Or.inl ⟨by rfl, ?_⟩) ai ?_ ?_; rotate_left
 · rintro w' ⟨s0, s1, s2, s3, s4, s5, s6, s7⟩
   go_simp; with_reducible rfl
 rotate_left
 · simp only [Act.put, mD, mE, mF, i64_w, i32_w]
   rfl
 refine take_ (i := 1) (N := some 34) (v := ?_) (a' := ?_) (mk_ 17 3) rfl rfl (by kernel_rfl) (fun _ _ _ h => h) (Or.inl ⟨by rfl, ?_⟩) ai ?_ ?_; rotate_left
 · rintro w' ⟨s0, s1, s2, s3, s4, s5, s6, s7⟩
   go_simp; with_reducible rfl
 rotate_left
 · simp only [Act.put, mD, mE, mF, i64_w, i32_w]
   rfl
 refine take_ (i := 2) (N := some 35) (v := ?_) (a' := ?_) (mk_ 17 7) rfl rfl (by kernel_rfl) (fun _ _ _ h => h) (Or.inl ⟨by rfl, ?_⟩) ai ?_ ?_; rotate_left
 · rintro w' ⟨s0, s1, s2, s3, s4, s5, s6, s7⟩
   go_simp; with_reducible rfl
 rotate_left
 · simp only [Act.put, mD, mE, mF, i64_w, i32_w]
   rfl
 refine take_ (i := 3) (N := some 36) (v := ?_) (a' := ?_) (mk_ 17 15) rfl rfl (by kernel_rfl) (fun _ _ _ h => h) (Or.inl ⟨by rfl, ?_⟩) ai ?_ ?_; rotate_left
 · rintro w' ⟨s0, s1, s2, s3, s4, s5, s6, s7⟩
   go_simp; with_reducible rfl
 rotate_left
 · simp only [Act.put, mD, mE, mF, i64_w, i32_w]
   rfl
 refine take_ (i := 4) (N := some 37) (v := ?_) (a' := ?_) (mk_ 17 31) rfl rfl (by kernel_rfl) (fun _ _ _ h => h) (Or.inl ⟨by rfl, ?_⟩) ai ?_ ?_; rotate_left
 · rintro w' ⟨s0, s1, s2, s3, s4, s5, s6, s7⟩
   go_simp; with_reducible rfl
 rotate_left
 · simp only [Act.put, mD, mE, mF, i64_w, i32_w]
   rfl
 refine take_ (i := 5) (N := some 38) (v := ?_) (a' := ?_) (mk_ 17 63) rfl rfl (by kernel_rfl) (fun _ _ _ h => h) (Or.inl ⟨by rfl, ?_⟩) ai ?_ ?_; rotate_left
 · rintro w' ⟨s0, s1, s2, s3, s4, s5, s6, s7⟩
   go_simp; with_reducible rfl
 rotate_left
 · simp only [Act.put, mD, mE, mF, i64_w, i32_w]
   rfl
 refine take_ (i := 8) (N := some 41) (v := ?_) (a' := ?_) (mk_ 17 319) rfl rfl (by kernel_rfl) (fun _ _ _ h => h) (Or.inl ⟨by rfl, ?_⟩) ai ?_ ?_; rotate_left
 · rintro w' ⟨s0, s1, s2, s3, s4, s5, s6, s7⟩
   go_simp; with_reducible rfl
 rotate_left
 · simp only [Act.put, mD, mE, mF, i64_w, i32_w]
   rfl
 refine take_ (i := 9) (N := some 42) (v := ?_) (a' := ?_) (mk_ 17 831) rfl rfl (by kernel_rfl) (fun _ _ _ h => h) (Or.inl ⟨by rfl, ?_⟩) ai ?_ ?_; rotate_left
 · rintro w' ⟨s0, s1, s2, s3, s4, s5, s6, s7⟩
   go_simp; with_reducible rfl
 rotate_left
 · simp only [Act.put, mD, mE, mF, i64_w, i32_w]
   rfl
 refine take_ (i := 10) (N := some 43) (v := ?_) (a' := ?_) (mk_ 17 1855) rfl rfl (by kernel_rfl) (fun _ _ _ h => h) (Or.inl ⟨by rfl, ?_⟩) ai ?_ ?_; rotate_left
 · rintro w' ⟨s0, s1, s2, s3, s4, s5, s6, s7⟩
   go_simp; with_reducible rfl
 rotate_left
 · simp only [Act.put, mD, mE, mF, i64_w, i32_w]
   rfl
 refine take_ (i := 11) (N := some 44) (v := ?_) (a' := ?_) (mk_ 17 3903) rfl rfl (by kernel_rfl) (fun _ _ _ h => h) (Or.inl ⟨by rfl, ?_⟩) ai ?_ ?_; rotate_left
 · rintro w' ⟨s0, s1, s2, s3, s4, s5, s6, s7⟩
   go_simp; with_reducible rfl
 rotate_left
 · simp only [Act.put, mD, mE, mF, i64_w, i32_w]
   rfl
 refine any_ (fuel := 1) (mk_ 17 65535) [⟨6, some 39, [], fun vs W => ∃ g, vs 6 = .slice (some ⟨g, 0, none⟩) 2 2 ∧ Kd.C (Kd.slice 3 (Kd.int .i64)) W (some ⟨g, 0, none⟩) 2 [ab, aa]⟩, ⟨7, some 40, [], fun vs W => Kd.R (Kd.int .i64) 3 W w.heap.size (fun _ => True) (vs 7) ua⟩, ⟨12, some 45, [], fun vs W => ∃ g, vs 12 = .slice (some ⟨g, 0, none⟩) 2 2 ∧ Kd.C (Kd.slice 3 (Kd.int .i64)) W (some ⟨g, 0, none⟩) 2 [ag, ah]⟩, ⟨13, some 46, [7], fun vs W => Kd.R (Kd.int .i64) 3 W w.heap.size (fun k_ => some k_ ≠ (vs 7).ownBlock) (vs 13) va⟩, ⟨14, some 47, [7, 13], fun vs W => vs 14 = .agg #[.int .i64 ac, vs 7, .slice none 0 0, vs 13]⟩, ⟨15, some 7, [], fun vs W => ∃ g, vs 15 = .pointer (some ⟨g, 0, none⟩) ∧ w6.heap.size ≤ g ∧ W.heap[g]? = some (.cells #[.int .i64 0, .slice none 0 0, .slice none 0 0, .slice none 0 0] 27 (0, 0))⟩] (by kernel_rfl) rfl ?hS ai ?step ?cont
 case hS =>
  rintro W W' hb ⟨s0, s1, s2, s3, s4, s5, s6, s7⟩; exact ⟨cb_ hb s0, cb_ hb s1, cb_ hb s2, cb_ hb s3, cb_ hb s4, cb_ hb s5, cb_ hb s6, cb_ hb s7⟩
 case step =>
  refine All.cons rfl (fun vs vs' W W' hv hb ⟨g, e, hC⟩ => ⟨g, (hv 6 (.inl rfl)).symm.trans e, Kd.C_below hC hb⟩) ?_ ?_
  · intro vs a W hS hB hn ho K hK
    have ba : a.tmps[36]?.getD undef = .slice ak ab.length ao := ev_ (ho 36 (by rfl))
    have bb : a.tmps[38]?.getD undef = .slice am aa.length aq := ev_ (ho 38 (by rfl))
    have hbw := below_step HB.o hB; refine event_step rfl (v := .slice (some ⟨W.heap.size, 0, none⟩) 2 2) (w1 := W.alloc (.cells #[.slice ak ab.length ao, .slice am aa.length aq] 22 (0, 0))) ?_ ?_
    · go_simp
    · exact hK _ _ (below_alloc (Below.refl _ _) _) ⟨_, rfl, lit2C (blk_new W _) (Kd.C_below R01.o (below_alloc hbw _)) C01.o (Kd.C_below R11.o (below_alloc hbw _)) C11.o⟩
  refine All.cons rfl (fun vs vs' W W' hv hb h => by dsimp only at h ⊢; rw [← hv 7 (.inl rfl)]; exact Kd.R_below h hb) ?_ ?_
  · intro vs a W hS hB hn ho K hK
    obtain ⟨v6, g, e, hC⟩ := hn _ (.head _) (by kernel_rfl); replace v6 := v6 _ rfl; refine goes_ Try.func17 (by kernel_rfl) rfl #[.slice (some ⟨g, 0, none⟩) 2 2] (by rfl) rfl rfl (by simp [v6, e]) ?_; refine (slices_Concat_int_int.calls k _ _ [ab, aa] _ _ hC (Nat.le_refl 2) HU.o).mono ?_; rintro e w' ⟨v0, rfl, hr, hb⟩; exact ⟨_, rfl, hK _ _ hb (Kd.R_lower hr (below_size (below_step HB.o hB)))⟩
  refine All.cons rfl (fun vs vs' W W' hv hb ⟨g, e, hC⟩ => ⟨g, (hv 12 (.inl rfl)).symm.trans e, Kd.C_below hC hb⟩) ?_ ?_
  · intro vs a W hS hB hn ho K hK
    have bc : a.tmps[42]?.getD undef = .slice al ag.length ap := ev_ (ho 42 (by rfl))
    have be : a.tmps[44]?.getD undef = .slice an ah.length ar := ev_ (ho 44 (by rfl))
    have hbw := below_step HB.o hB; refine event_step rfl (v := .slice (some ⟨W.heap.size, 0, none⟩) 2 2) (w1 := W.alloc (.cells #[.slice al ag.length ap, .slice an ah.length ar] 22 (0, 0))) ?_ ?_
    · go_simp
    · exact hK _ _ (below_alloc (Below.refl _ _) _) ⟨_, rfl, lit2C (blk_new W _) (Kd.C_below R03.o (below_alloc hbw _)) C03.o (Kd.C_below R13.o (below_alloc hbw _)) C13.o⟩
  refine All.cons rfl (fun vs vs' W W' hv hb h => by dsimp only at h ⊢; rw [← hv 7 (.inr (.head _)), ← hv 13 (.inl rfl)]; exact Kd.R_below h hb) ?_ ?_
  · intro vs a W hS hB hn ho K hK
    obtain ⟨aU, g, e, hC⟩ := hn _ (.tail _ (.tail _ (.head _))) (by kernel_rfl); replace aU := aU _ rfl; obtain ⟨v7, h7⟩ := hn _ (.tail _ (.head _)) (by kernel_rfl); replace v7 := v7 _ rfl; refine goes_ Try.func17 (by kernel_rfl) rfl #[.slice (some ⟨g, 0, none⟩) 2 2] (by rfl) rfl rfl (by simp [aU, e]) ?_; refine (slices_Concat_int_int.calls k _ _ [ag, ah] _ _ hC (Nat.le_refl 2) HV.o).mono ?_; rintro e w' ⟨v0, rfl, hr, hb⟩; exact ⟨_, rfl, hK _ _ hb (Kd.R_mono (Kd.R_lower (Kd.R_new' hr (Kd.R_lt h7)) (below_size (below_step HB.o hB))) (fun _ hk => hk.2))⟩
  refine All.cons rfl (fun vs vs' W W' hv hb h => by dsimp only at h ⊢; rw [← hv 14 (.inl rfl), ← hv 7 (.inr (.head _)), ← hv 13 (.inr (.tail _ (.head _)))]; exact h) ?_ ?_
  · intro vs a W hS hB hn ho K hK
    have a9 : a.tmps[34]?.getD undef = .int .i64 ac := ev_ (ho 34 (by rfl))
    obtain ⟨v7, h7⟩ := hn _ (.tail _ (.head _)) (by kernel_rfl); replace v7 := v7 _ rfl; obtain ⟨aQ, h8⟩ := hn _ (.tail _ (.tail _ (.tail _ (.head _)))) (by kernel_rfl); replace aQ := aQ _ rfl; obtain ⟨A7, c7, e7⟩ := Kd.R_slice h7; obtain ⟨A8, c8, e8⟩ := Kd.R_slice h8; refine event_step rfl (v := .agg #[.int .i64 ac, vs 7, .slice none 0 0, vs 13]) (w1 := W) ?_ (hK _ _ (Below.refl _ _) rfl); rw [e7] at v7 ⊢; rw [e8] at aQ ⊢; replace v7 := ev_ v7; replace aQ := ev_ aQ; go_simp
  refine All.cons rfl (fun vs vs' W W' hv hb ⟨g, e, h1, h2⟩ => ⟨g, (hv 15 (.inl rfl)).symm.trans e, h1, blk_below h2 hb⟩) ?_ All.nil
  · intro vs a W hS hB hn ho K hK
    refine box_step rfl (N := 7) rfl (cs := #[.int .i64 0, .slice none 0 0, .slice none 0 0, .slice none 0 0]) (t := 27) (by go_simp; done) ?_; intro g hg w1 hbox hb; exact hK _ _ hb ⟨g, rfl, by rw [hg]; exact hB.size, hbox⟩
 case cont =>
  intro vs W hS hB hx; have h7 := hx _ (.tail _ (.head _)); have h8 := hx _ (.tail _ (.tail _ (.tail _ (.head _)))); have h9 := hx _ (.tail _ (.tail _ (.tail _ (.tail _ (.head _))))); obtain ⟨gO, aW, hg, hO⟩ := hx _ (.tail _ (.tail _ (.tail _ (.tail _ (.tail _ (.head _)))))); dsimp only at h7 h8 h9; obtain ⟨A7, c7, e7⟩ := Kd.R_slice h7; obtain ⟨A8, c8, e8⟩ := Kd.R_slice h8; refine norm_ (a' := ?_) ?_ ?_; rotate_left
  · simp only [puts, List.filterMap_cons, List.filterMap_nil, Option.map_some, putAll, Act.put, mD, mE, mF, h9, e7, e8, aW]
    rfl
  rw [e7] at h7 h8; rw [e8] at h8; clear hx; have hlA := blk_lt BA.o; have hlB := blk_lt BB.o; have hlC := blk_lt BC.o; have NA := A_ (show gA ≠ gO by omega); have NB := A_ (show gB ≠ gO by omega); have NC := A_ (show gC ≠ gO by omega); have GO := A_ (show w.heap.size ≤ gO from Nat.le_trans HB.o.size hg); replace BA := kc_ BA hB; replace BB := kc_ BB hB; replace BC := kc_ BC hB; replace HB := ks_ HB hB; clear hlA hlB hlC hg hB ai; have sO := hq4' hO; refine last_ (i := 16) (N := none) (mk_ 17 131071) rfl rfl (by kernel_rfl) (by decide) (fun K hK => ?_); refine skip_ (w1 := ?_) (by rfl) rfl ?_ ?_; rotate_left
  · go_simp
    rfl
  obtain ⟨w7, hw7, hb7, hO7, hz7, hf7⟩ := box4 hO HB.o GO.o (.int .i64 ac) (.slice A7 ua.length c7) (.slice none 0 0) (.slice A8 va.length c8); rw [← hw7]; refine hK.out _ _ ?_; clear hK K hw7 sO; refine done_ (by kernel_rfl) ?_; have O7 := A_ hO7; have A7_ := A_ ((hf7 gA NA.o).trans BA.o); have B7_ := A_ ((hf7 gB NB.o).trans BB.o); have C7_ := A_ ((hf7 gC NC.o).trans BC.o); have R7 := A_ (Kd.R_move (Kd.R_types (Kd.R_tight rfl h7) hO (by decide)) (fun k hk => hf7 k hk.2)); have R8 := A_ (Kd.R_move (Kd.R_types h8 hO (by decide)) (fun k hk => hf7 k hk.2)); have HI := A_ (show SumI w w7 w7 gO ac (.slice A7 ua.length c7) (.slice A8 va.length c8) (sumMats ab.length aa.length ae af) 0 from ⟨hb7, ⟨Nat.le_refl _, fun _ _ _ => rfl⟩, _, hO7, Kd.S_nil _ _ _ _ _⟩); clear h7 h8 h9 hO hO7 hf7 hz7 e7 e8 aW HB BA BB BC hb7; have qA := hq4' A7_.o
  go_wp2
  go_loopg [50] (ae.length + 1) (fun kq a8 W => ∃ i : Nat, a8 = .int .i64 (i : Int) ∧ i ≤ ae.length ∧ ae.length + 1 - i ≤ kq ∧ Aside0 (SumI w w7 W gO ac (.slice A7 ua.length c7) (.slice A8 va.length c8) (sumMats ab.length aa.length ae af) i))
  case atStart => exact ⟨0, rfl, by omega, by omega, HI⟩
  case round =>
   clear HI qA; obtain ⟨i, rfl, hi, hk, HI⟩ := hrel; have hk0 := HK.o.1
   by_cases hlt : i < ae.length
   · have cn : decide ((i : Int) < ac) = true := decide_eq_true (by omega)
     have p1 : (0 ≤ (i : Int)) = True := eq_true (by omega)
     have p2 : ((i : Int) < (ae.length : Int)) = True := eq_true (by omega)
     have p3 : ((i : Int) < (af.length : Int)) = True := eq_true (by omega)
     have hib : i < 100 := by omega
     obtain ⟨hB, hold, um, hO, hS⟩ := HI.o; have hsa := shp_at SA.o hlt; have hsb := shp_at SB.o (show i < af.length by omega); obtain ⟨X, hX⟩ : ∃ X, X = ae[i] := ⟨_, rfl⟩; obtain ⟨Y, hY⟩ : ∃ Y, Y = af[i]'(by omega) := ⟨_, rfl⟩; have hst := sumMats_step ab.length aa.length ae af i hlt (by omega); rw [← hX, ← hY] at hst; rw [← hX] at hsa; rw [← hY] at hsb; obtain ⟨adx, Ax, cx, eax, hxx, hlx, hcx⟩ := at_L2 R02.o (i : Int) (by omega) (by omega); obtain ⟨ady, Ay, cy, eay, hxy, hly, hcy⟩ := at_L2 R12.o (i : Int) (by omega) (by omega)
     have ex : rd_L2 ae (i : Int) = X := by rw [hX]; simp [rd_L2, List.getD_eq_getElem?_getD, hlt]
     have ey : rd_L2 af (i : Int) = Y := by rw [hY]; simp [rd_L2, List.getD_eq_getElem?_getD, show i < af.length by omega]
     rw [ex] at hxx hlx hcx; rw [ey] at hxy hly hcy; rw [Int.toNat_natCast] at hxx hxy; have XX := A_ hxx; have XY := A_ hxy; have LX := A_ hlx; have LY := A_ hly; have CX := A_ hcx; have CY := A_ hcy; have SX := A_ hsa; have SY := A_ hsb; have HB := A_ hB; have HO := A_ hold; have OO := A_ hO; have SS := A_ (Kd.S_mono (Kd.S_bound hS) (fun _ hk => (⟨hk.1, hk.2.2.1⟩ : w7.heap.size ≤ _ ∧ _ < wr.heap.size))); have HST := A_ hst; subst eax; subst eay; clear hxx hxy hlx hly hcx hcy hsa hsb hB hold hO hS hst ex ey hX hY hk0 HI; have qB := hq4' (HO.o.blk B7_.o NB.o)
     go_wp2_with (first | (go_at_call 18; refine calls_of_args (args' := #[.int .i64 (N : Int)]) (by first | rw [HNM.o] | (rw [i64_w, HNM.o])) ?_; (with_reducible refine (impl_square.calls k _ _ _ HQ.o).mono ?_); rintro e w9 ⟨v9, rfl, ho, hb⟩; obtain ⟨Aq, cq, e_⟩ := Kd.S_slice ho; rw [zer2_len] at e_; subst e_; have HM := A_ (show MatI wr w9 (.slice Aq N cq) (fillG [] X (fun r => r ++ List.replicate aa.length 0) N (List.replicate N 0) 0) from ⟨hb, by simpa [fillG, zer2] using ho⟩); have aV := A_ (HO.o.below hb); clear qB; have qA := hq4' (aV.o.blk A7_.o NA.o); have hx9 := ((below_step HB.o hb).cell (World.block_lt_of_cell? w _ XX.o)).trans XX.o; clear hb ho aV))
     obtain ⟨wi, ewi⟩ : ∃ wi, wi = wr := ⟨_, rfl⟩; subst ewi
     go_loopg [65] (X.length + 1) (fun kq v W => ∃ j : Nat, v = .int .i64 (j : Int) ∧ j ≤ X.length ∧ X.length + 1 - j ≤ kq ∧ Aside0 (MatI wi W (.slice Aq N cq) (fillG [] X (fun r => r ++ List.replicate aa.length 0) N (List.replicate N 0) j)))
     case atStart => exact ⟨0, rfl, by omega, by omega, HM⟩
     case round =>
      clear HM hx9 qA; obtain ⟨j, rfl, hj, hk2, HM⟩ := hrel
      by_cases hjl : j < X.length
      · have cj : decide ((j : Int) < (X.length : Int)) = true := decide_eq_true (by omega)
        have s1 : (0 ≤ (j : Int)) = True := eq_true (by omega)
        have s2 : ((j : Int) < (X.length : Int)) = True := eq_true (by omega)
        obtain ⟨hBm, hSm⟩ := HM.o; have hTn := SX.o.1; have hRn := SX.o.2 _ (List.getElem_mem hjl); have hNN := EN.o
        have hjb : j < 100 := by have := HK.o.2; omega
        obtain ⟨adr, Ar, cr, ear, hxr, hlr, hcr⟩ := at_L1 CX.o (j : Int) (by omega) (by omega)
        have er : rd_L1 X (j : Int) = X[j] := by simp [rd_L1, List.getD_eq_getElem?_getD, hjl]
        rw [er] at hxr hlr hcr; rw [Int.toNat_natCast] at hxr; have hBw := below_step HB.o hBm; replace hxr := (hBw.cell (World.block_lt_of_cell? w _ hxr)).trans hxr; replace hcr := Kd.C_below hcr hBw; have hset := fill_set [] X (fun r => r ++ List.replicate aa.length 0) N (List.replicate N (0 : Int)) [] j (j) hjl (by omega) (by simp); have hlen := fill_len [] X (fun r => r ++ List.replicate aa.length 0) N (List.replicate N (0 : Int)) j (by omega) (by omega); obtain ⟨gq, cp2, hv2, hgr⟩ := Kd.S_form hSm (by rw [hlen]; omega)
        injection hv2 with ea_ en_ ec_
        subst ea_; obtain ⟨oki, c, hcl, ⟨u, rfl, hMu⟩, hcc, hoki, hH⟩ := Kd.S_lend hSm [] ((j : Nat) : Int) (by omega) (by omega); rw [Int.toNat_natCast, hset.2] at hMu
        have hci : wr.cell? ⟨gq, j, none⟩ = some u := by
         have h2 := hcc 0 u rfl; rw [show ((j : Nat) : Int).toNat * (Kd.slice 3 (Kd.int .i64)).sz + 0 = j from by rw [Int.toNat_natCast]; exact Nat.mul_one _] at h2; exact h2
        obtain ⟨gu, cu, eu, hgu1, hgu2, hgu3⟩ := Kd.R_form hMu (by rw [List.length_replicate]; omega); rw [List.length_replicate] at eu; subst eu
        have s3 : (0 ≤ ((j : Nat) : Int)) = True := eq_true (by omega)
        have s4 : (((j : Nat) : Int) < (N : Int)) = True := eq_true (by omega)
        have HCR := A_ hcr; have HMU := A_ hMu; have HBM := A_ hBm; have HLN := A_ (show 0 + X[j].length ≤ N by omega)
        have HBK := A_ (fun (W1 : World) (hr : Kd.R (Kd.int .i64) 3 W1 wi.heap.size oki (.slice (some ⟨gu, 0, none⟩) N cu) ((List.replicate N (0 : Int)).take 0 ++ X[j] ++ (List.replicate N (0 : Int)).drop (0 + X[j].length))) (hb : Below wi.heap.size wi W1) (hg : wr.grownBy W1 (some gu)) => (show MatI wi W1 (.slice (some ⟨gq, 0, none⟩) N cq) (fillG [] X (fun r => r ++ List.replicate aa.length 0) N (List.replicate N 0) (j + 1)) from ⟨hb, by
         have h5 := Kd.H_back (Kd.H_grown hH hg (fun k hk => hMu.1 k (by rw [← hk]; rfl))) (okp := oki) ⟨_, rfl, hr⟩ (fun _ h6 => h6); rw [Int.toNat_natCast, show (List.replicate N (0 : Int)).take 0 ++ X[j] ++ (List.replicate N (0 : Int)).drop (0 + X[j].length) = (fun r => r ++ List.replicate aa.length 0) X[j] from by simp; omega, hset.1] at h5; exact h5⟩))
        clear hBm hSm hTn hRn hNN hcr er hBw hset hlen hgr hcc hoki hH hMu hcl en_ ec_ hgu1 hgu2 hgu3 HM
        try clear hp hmx hSX hk9
        subst ear
        go_wp2_with (first | ((with_reducible refine gate_builtin (b := .copy) (xs := #[.tmp 73, .tmp 74]) rfl ?_); refine copyAt (w0 := wi) wi.heap.size rfl (.tmp 73) (.tmp 74) 22 22 3 rfl Try.underlying22 (by kernel_rfl) (List.replicate N (0 : Int)) X[j] _ _ _ oki rfl rfl ?hoff ?hm (by rw [List.length_replicate]; exact HMU.o) HCR.o HBM.o HBM.o.size ?_; (case hoff => (rw [List.length_replicate]; have := HLN.o; omega)); (case hm => (have := HLN.o; omega)); intro W1 hr hb hg; rw [List.length_replicate] at hr; have HN := A_ (HBK.o W1 hr hb hg); clear hr hb hg))
        go_roundg (X.length + 1 - (j + 1))
        case measure => omega
        case rel => exact ⟨j + 1, by go_num, by omega, Nat.le_refl _, HN⟩
      · have cj : decide ((j : Int) < (X.length : Int)) = false := decide_eq_false (by omega)
        have : j = X.length := by omega
        subst this; obtain ⟨hBm, hSm⟩ := HM.o; clear HM
        have e_ : fillG [] X (fun r => r ++ List.replicate aa.length 0) N (List.replicate N (0 : Int)) X.length = fillG (X.map (fun r => r ++ List.replicate aa.length 0)) Y (fun r => List.replicate ab.length 0 ++ r) aa.length (List.replicate N (0 : Int)) 0 := by have := SX.o.1; have := EN.o; simp [fillG]; omega
        rw [e_] at hSm; have HM := A_ (show MatI wi wr (.slice Aq N cq) (fillG (X.map (fun r => r ++ List.replicate aa.length 0)) Y (fun r => List.replicate ab.length 0 ++ r) aa.length (List.replicate N (0 : Int)) 0) from ⟨hBm, hSm⟩); have qB := hq4' ((HO.o.below hBm).blk B7_.o NB.o); have aY := ((below_step HB.o hBm).cell (World.block_lt_of_cell? w _ XY.o)).trans XY.o; clear hBm hSm e_
        go_wp2
        go_loopg [83] (Y.length + 1) (fun kq v W => ∃ j : Nat, v = .int .i64 (j : Int) ∧ j ≤ Y.length ∧ Y.length + 1 - j ≤ kq ∧ Aside0 (MatI wi W (.slice Aq N cq) (fillG (X.map (fun r => r ++ List.replicate aa.length 0)) Y (fun r => List.replicate ab.length 0 ++ r) aa.length (List.replicate N 0) j)))
        case atStart => exact ⟨0, rfl, by omega, by omega, HM⟩
        case round =>
         clear HM aY qB; obtain ⟨j, rfl, hj, hk2, HM⟩ := hrel
         by_cases hjl : j < Y.length
         · have cj : decide ((j : Int) < (Y.length : Int)) = true := decide_eq_true (by omega)
           have s1 : (0 ≤ (j : Int)) = True := eq_true (by omega)
           have s2 : ((j : Int) < (Y.length : Int)) = True := eq_true (by omega)
           obtain ⟨hBm, hSm⟩ := HM.o; have hTn := SY.o.1; have hRn := SY.o.2 _ (List.getElem_mem hjl); have hNN := EN.o
           have hjb : j < 100 := by have := HK.o.2; omega
           obtain ⟨adr, Ar, cr, ear, hxr, hlr, hcr⟩ := at_L1 CY.o (j : Int) (by omega) (by omega)
           have er : rd_L1 Y (j : Int) = Y[j] := by simp [rd_L1, List.getD_eq_getElem?_getD, hjl]
           rw [er] at hxr hlr hcr; rw [Int.toNat_natCast] at hxr; have hBw := below_step HB.o hBm; replace hxr := (hBw.cell (World.block_lt_of_cell? w _ hxr)).trans hxr; replace hcr := Kd.C_below hcr hBw; obtain ⟨p, hp⟩ : ∃ p, p = ab.length + j := ⟨_, rfl⟩; have hSX := SX.o.1; have hk9 := HK.o.2
           have hmx : (X.map (fun r => r ++ List.replicate aa.length 0)).length = X.length := List.length_map _
           have s5 : ((ab.length : Int) ≤ (N : Int)) = True := eq_true (by omega)
           have s6 : ab.length ≤ N := by omega
           have hset := fill_set (X.map (fun r => r ++ List.replicate aa.length 0)) Y (fun r => List.replicate ab.length 0 ++ r) aa.length (List.replicate N (0 : Int)) [] j (p) hjl (by omega) (by (rw [List.length_map]; have := SX.o.1; omega)); have hlen := fill_len (X.map (fun r => r ++ List.replicate aa.length 0)) Y (fun r => List.replicate ab.length 0 ++ r) aa.length (List.replicate N (0 : Int)) j (by omega) (by omega); obtain ⟨gq, cp2, hv2, hgr⟩ := Kd.S_form hSm (by rw [hlen]; omega)
           injection hv2 with ea_ en_ ec_
           subst ea_; obtain ⟨oki, c, hcl, ⟨u, rfl, hMu⟩, hcc, hoki, hH⟩ := Kd.S_lend hSm [] ((p : Nat) : Int) (by omega) (by omega); rw [Int.toNat_natCast, hset.2] at hMu
           have hci : wr.cell? ⟨gq, p, none⟩ = some u := by
            have h2 := hcc 0 u rfl; rw [show ((p : Nat) : Int).toNat * (Kd.slice 3 (Kd.int .i64)).sz + 0 = p from by rw [Int.toNat_natCast]; exact Nat.mul_one _] at h2; exact h2
           obtain ⟨gu, cu, eu, hgu1, hgu2, hgu3⟩ := Kd.R_form hMu (by rw [List.length_replicate]; omega); rw [List.length_replicate] at eu; subst eu
           have s3 : (0 ≤ ((p : Nat) : Int)) = True := eq_true (by omega)
           have s4 : (((p : Nat) : Int) < (N : Int)) = True := eq_true (by omega)
           have s7 : (cu = ab.length) = False := eq_false (by have h9 := Kd.R_reads' hMu; have h8 := h9.1; have h7 := h9.2.1; rw [List.length_replicate] at h8; omega)
           have hwn : wrap64 ((ab.length : Int) + (j : Int)) = (p : Int) := by clear s7; unfold wrap64; omega
           have HCR := A_ hcr; have HMU := A_ hMu; have HBM := A_ hBm; have HLN := A_ (show ab.length + Y[j].length ≤ N by omega)
           have HBK := A_ (fun (W1 : World) (hr : Kd.R (Kd.int .i64) 3 W1 wi.heap.size oki (.slice (some ⟨gu, 0, none⟩) N cu) ((List.replicate N (0 : Int)).take ab.length ++ Y[j] ++ (List.replicate N (0 : Int)).drop (ab.length + Y[j].length))) (hb : Below wi.heap.size wi W1) (hg : wr.grownBy W1 (some gu)) => (show MatI wi W1 (.slice (some ⟨gq, 0, none⟩) N cq) (fillG (X.map (fun r => r ++ List.replicate aa.length 0)) Y (fun r => List.replicate ab.length 0 ++ r) aa.length (List.replicate N 0) (j + 1)) from ⟨hb, by
            have h5 := Kd.H_back (Kd.H_grown hH hg (fun k hk => hMu.1 k (by rw [← hk]; rfl))) (okp := oki) ⟨_, rfl, hr⟩ (fun _ h6 => h6); rw [Int.toNat_natCast, show (List.replicate N (0 : Int)).take ab.length ++ Y[j] ++ (List.replicate N (0 : Int)).drop (ab.length + Y[j].length) = (fun r => List.replicate ab.length 0 ++ r) Y[j] from by rw [List.take_replicate, List.drop_replicate, Nat.min_eq_left (by omega), show N - (ab.length + Y[j].length) = 0 by omega, List.replicate_zero, List.append_nil], hset.1] at h5; exact h5⟩))
           clear hBm hSm hTn hRn hNN hcr er hBw hset hlen hgr hcc hoki hH hMu hcl en_ ec_ hgu1 hgu2 hgu3 HM
           try clear hp hmx hSX hk9
           subst ear
           go_wp2_with (first | ((with_reducible refine gate_builtin (b := .copy) (xs := #[.tmp 95, .tmp 96]) rfl ?_); refine copyAt (w0 := wi) wi.heap.size rfl (.tmp 95) (.tmp 96) 22 22 3 rfl Try.underlying22 (by kernel_rfl) (List.replicate N (0 : Int)) Y[j] _ _ _ oki rfl rfl ?hoff ?hm (by rw [List.length_replicate]; exact HMU.o) HCR.o HBM.o HBM.o.size ?_; (case hoff => (rw [List.length_replicate]; have := HLN.o; omega)); (case hm => (have := HLN.o; omega)); intro W1 hr hb hg; rw [List.length_replicate] at hr; have HN := A_ (HBK.o W1 hr hb hg); clear hr hb hg))
           go_roundg (Y.length + 1 - (j + 1))
           case measure => omega
           case rel => exact ⟨j + 1, by go_num, by omega, Nat.le_refl _, HN⟩
         · have cj : decide ((j : Int) < (Y.length : Int)) = false := decide_eq_false (by omega)
           have : j = Y.length := by omega
           subst this; obtain ⟨hBm, hSm⟩ := HM.o; clear HM
           have e_ : fillG (X.map (fun r => r ++ List.replicate aa.length 0)) Y (fun r => List.replicate ab.length 0 ++ r) aa.length (List.replicate N (0 : Int)) Y.length = sumMat ab.length aa.length X Y := by have := SY.o.1; simp only [fillG, sumMat]; rw [List.take_of_length_le (Nat.le_refl _), show aa.length - Y.length = 0 by omega]; simp
           rw [e_] at hSm; have hg7 := blk_lt O7.o; have HG7 := A_ hg7; have aT := A_ (HO.o.below hBm); have OO2 := A_ (blk_below OO.o hBm); have HB2 := A_ (below_step HB.o hBm); have HSM := A_ (Kd.S_lower (Kd.S_mono (Kd.S_bound hSm) (fun _ hk => hk.2.1)) HB.o.size); have SS2 := A_ (Kd.S_below SS.o hBm); have HOW := A_ (Kd.S_R SS.o).1; have HML := A_ (show ((sumMats ab.length aa.length ae af).take i).length ≤ 100 by rw [List.length_take]; omega); have HIS := A_ HO.o.1; obtain ⟨Mi, hMi⟩ : ∃ Mi, Mi = (sumMats ab.length aa.length ae af).take i := ⟨_, rfl⟩; obtain ⟨Mj, hMj⟩ : ∃ Mj, Mj = (sumMats ab.length aa.length ae af).take (i + 1) := ⟨_, rfl⟩; rw [← hMi] at SS SS2 HML HST; rw [← hMj] at HST; have EMJ := A_ hMj; clear hMi hMj; obtain ⟨Am, cm, e2⟩ := Kd.S_slice SS.o; subst e2; have qO := hq4' OO2.o; clear hBm hSm e_ hg7 SS HB HO OO
           go_wp2_with (first | ((with_reducible refine gate_builtin (b := .append) (xs := #[.tmp 100, .tmp 102]) rfl ?_); at_builtin; refine Kd.S_append (sS 22 (Kd.slice 3 (Kd.int .i64))) (w0 := w) w.heap.size rfl (.tmp 100) (.tmp 102) 23 37 (.slice none 0 0) 24 rfl Try.underlying23 info37 rfl (by decide) (by omega) (.slice Am Mi.length cm) Mi (sumMat ab.length aa.length X Y) [.slice Aq N cq] (fun k => w7.heap.size ≤ k) (fun k => wi.heap.size ≤ k) rfl rfl ?aP ?aK ?aF ?aO HB2.o (below_size HB2.o) ?aL ?_; (case aP => exact ⟨_, rfl, HSM.o⟩); (case aK => exact fun k hk => ⟨Nat.le_trans HIS.o hk, fun e => absurd (HOW.o k e.symm).2 (Nat.not_lt.mpr hk)⟩); (case aF => exact fun k hk => Nat.le_trans aT.o.1 hk); (case aO => exact Kd.S_mono SS2.o (fun _ hk => ⟨hk.1, Nat.not_le.mpr hk.2⟩)); (case aL => (have := HML.o; omega)); intro v1 w10 ho hb hg hat; rw [← HST.o] at ho; obtain ⟨An, cn, e3⟩ := Kd.S_slice ho; subst e3; have hne : ∀ k, k < w7.heap.size → some k ≠ (Value.slice Am Mi.length cm).ownBlock := fun k hk e => absurd (HOW.o k e.symm).1 (Nat.not_le.mpr hk); have hsame : ∀ k, k < w7.heap.size → w10.heap[k]? = wr.heap[k]? := fun k hk => hg.block k (Nat.lt_of_lt_of_le hk aT.o.1) (hne k hk); have O10 : w10.heap[gO]? = _ := (hsame gO HG7.o).trans OO2.o; have HN := A_ (show SumI w w7 (w10.setCell ⟨gO, 2, none⟩ (.slice An Mj.length cn)) gO ac (.slice A7 ua.length c7) (.slice A8 va.length c8) (sumMats ab.length aa.length ae af) (i + 1) from ⟨hb.setCell (p := ⟨gO, 2, none⟩) GO.o _, ⟨by have := hg.size; have := aT.o.1; simp [World.setCell]; omega, fun k hk hkn => by rw [Below.heap_setCell _ _ _ _ hkn, hsame k hk]; exact aT.o.2 k hk hkn⟩, _, blk_put O10 2 _ rfl, EMJ.o ▸ Kd.S_far (p := ⟨gO, 2, none⟩) ho (fun k hk e => by have := HG7.o; have : k = gO := e; omega) _⟩); clear qO; have qO := hq4' O10; clear ho hb hg hat hne hsame O10))
           go_roundg (ae.length + 1 - (i + 1))
           case measure => omega
           case rel => exact ⟨i + 1, by go_num, by omega, Nat.le_refl _, HN⟩
   · have cn : decide ((i : Int) < ac) = false := decide_eq_false (by omega)
     obtain ⟨hB, hold, um, hO, hS⟩ := HI.o
     have e_ : (sumMats ab.length aa.length ae af).take i = sumMats ab.length aa.length ae af := List.take_of_length_le (by simp [sumMats]; omega)
     rw [e_] at hS; have h := H.o; obtain ⟨Ms, hMs⟩ : ∃ Ms, Ms = sumMats ab.length aa.length ae af := ⟨_, rfl⟩; rw [← hMs] at hS h; obtain ⟨zz, hz, h⟩ := Option.bind_eq_some_iff.mp h; have HZ := A_ hz; have HE := A_ h; obtain ⟨Am, cm, e2⟩ := Kd.S_slice hS; subst e2; have hl7 := Kd.R_lt R7.o; have hl8 := Kd.R_lt R8.o; have hlC := blk_lt C7_.o; have hn8 := R8.o.1; have GC7 := A_ hlC; have N1 := A_ (fun k (h1 : some k = (Value.slice A7 ua.length c7).ownBlock) (h2 : some k = (Value.slice A8 va.length c8).ownBlock) => (hn8 k h2.symm).1 h1); have N2 := A_ (fun k (h1 : w7.heap.size ≤ k) => (⟨fun h2 => absurd (hl7 k h2.symm) (Nat.not_lt.mpr h1), fun h2 => absurd (hl8 k h2.symm) (Nat.not_lt.mpr h1)⟩ : some k ≠ (Value.slice A7 ua.length c7).ownBlock ∧ some k ≠ (Value.slice A8 va.length c8).ownBlock)); replace R7 := A_ (Kd.R_step R7.o (fun k hk hlt => hold.2 k hlt hk.2)); replace R8 := A_ (Kd.R_step R8.o (fun k hk hlt => hold.2 k hlt hk.2)); have BC := A_ (hold.blk C7_.o NC.o); have BO := A_ hO; have HS := A_ hS; have HB := A_ hB; have qO := hq4' BO.o; clear hB hold hO hS e_ hz h hMs hl7 hl8 hlC hn8 HI hk0
     by_cases cz : zz = true
     case neg =>
      have hz : zz = false := by simpa using cz
      subst hz; have h2 := HE.o; rw [if_neg (by decide)] at h2; simp only [Option.some.injEq, Prod.mk.injEq] at h2; obtain ⟨rfl, rfl, rfl, rfl, rfl⟩ := h2; clear HE cz
      go_wp2_with (first | (go_at_call 16; (with_reducible refine (impl_IsLinear.calls k ac _ _ ua _ _ Ms _ _ va false _ (rd_ R7.o).1 (rd_ R7.o).2 (rd_ (sS_R HS.o)).1 (rd_ (sS_R HS.o)).2 (rd_ R8.o).1 (rd_ R8.o).2 HZ.o).mono ?_); rintro e w11 ⟨rfl, hb⟩; clear qO; replace BO := kc_ BO hb; have qO := hq4' BO.o; replace BC := kc_ BC hb; have qC := hq4' BC.o; replace HB := ks_ HB hb; replace R7 := A_ (Kd.R_below R7.o hb); replace HS := A_ (Kd.S_below HS.o hb); replace R8 := A_ (Kd.R_below R8.o hb); clear hb))
      refine bodyPost_ret (results_ct rfl _ _ gC 27 #[.int .i64 0, .slice none 0 0, .slice none 0 0, .slice none 0 0] (0, 0) _ rfl (by exact blk_put (blk_put (blk_put (blk_put BC.o 0 _ rfl) 1 _ rfl) 2 _ rfl) 3 _ rfl) Try.underlying27 rfl (by kernel_rfl)) rfl ?_; exact ⟨_, _, _, rfl, Kd.R_nil _ _ _ _ _, Kd.S_nil _ _ _ _ _, Kd.R_nil _ _ _ _ _, below_set (below_set (below_set (below_set HB.o GC.o) GC.o) GC.o) GC.o⟩
     subst cz; have h2 := HE.o; rw [if_pos rfl] at h2; simp only [Option.some.injEq, Prod.mk.injEq] at h2; obtain ⟨rfl, rfl, rfl, rfl, rfl⟩ := h2; clear HE
     go_wp2_with (first | (go_at_call 16; (with_reducible refine (impl_IsLinear.calls k ac _ _ ua _ _ Ms _ _ va true _ (rd_ R7.o).1 (rd_ R7.o).2 (rd_ (sS_R HS.o)).1 (rd_ (sS_R HS.o)).2 (rd_ R8.o).1 (rd_ R8.o).2 HZ.o).mono ?_); rintro e w11 ⟨rfl, hb⟩; clear qO; replace BO := kc_ BO hb; have qO := hq4' BO.o; replace BC := kc_ BC hb; have qC := hq4' BC.o; replace HB := ks_ HB hb; replace R7 := A_ (Kd.R_below R7.o hb); replace HS := A_ (Kd.S_below HS.o hb); replace R8 := A_ (Kd.R_below R8.o hb); clear hb))
     refine bodyPost_ret (results_ct rfl _ _ gC 27 #[.int .i64 ac, .slice A7 ua.length c7, .slice Am Ms.length cm, .slice A8 va.length c8] (0, 0) _ rfl (by exact blk_put (blk_put (blk_put (blk_put BC.o 0 _ rfl) 1 _ rfl) 2 _ rfl) 3 _ rfl) Try.underlying27 rfl (by kernel_rfl)) rfl ?_; exact ⟨_, _, _, rfl, Kd.R_mono (Kd.R_move (Kd.R_types R7.o BC.o (by decide)) (fun k hk => far4 _ _ _ _ k hk.2)) (fun k hk h3 => N1.o k hk.1.1 h3), Kd.S_mono (Kd.S_move HS.o (fun k hk => far4 _ _ _ _ k (fun e => by have := GC7.o; omega))) (fun k hk => N2.o k hk), Kd.R_mono (Kd.R_move (Kd.R_types R8.o BC.o (by decide)) (fun k hk => far4 _ _ _ _ k hk.2)) (fun k hk => hk.1.1), below_set (below_set (below_set (below_set HB.o GC.o) GC.o) GC.o) GC.o⟩

end Go.Proofs.Ytlcepacbbfekoaa.PFnExactSumForms
