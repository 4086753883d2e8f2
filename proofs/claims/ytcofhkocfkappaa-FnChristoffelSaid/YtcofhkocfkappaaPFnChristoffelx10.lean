/- Written by this session's own program (wip/myprint.py): the machine side of one law, some contracts of it typed by hand. -/
import Derived.Test.YtcofhkocfkappaaPFnChristoffelx0
import Derived.Test.YtcofhkocfkappaaPFnChristoffelx2
namespace Go.Proofs.Ytcofhkocfkappaa.PFnChristoffel
open Go.RowKit Go.Proofs.YtcofhkocfkappaaW.PrintWords Go.Proofs.YtcofhkocfkappaaW.PrintLast Go.Proofs.YtcofhkocfkappaaW.PrintMore
attribute [local go_sem] max2_int min2_int max_two min_two max_three min_three max_four min_four   -- for this text's walks alone
set_option linter.unusedVariables false
set_option linter.unusedSimpArgs false

/-! ### ChristoffelTree: pools of rows, each in a block of its own -/
def nilv : Value := .slice none 0 0
theorem infoT3 : (Try.prog.info? 3).map (fun i => (i.zero, i.size, i.bytes)) = some (some (.int .i64 0), 1, 8) := by kernel_rfl
theorem infoT27 : (Try.prog.info? 26).map (fun i => (i.zero, i.size, i.bytes)) = some (some (.slice none 0 0), 1, 24) := by kernel_rfl
structure Pool (w : World) (base : Nat) (hs : List Value) (xs : List (List Int)) : Prop where
 len : hs.length = xs.length
 row : ∀ j, j < hs.length → (Kd.int .i64).R 3 w base (fun _ => True) (hs.getD j nilv) (xs.getD j [])
 some_ : ∀ j, j < hs.length → ∃ b, (hs.getD j nilv).ownBlock = some b
 apart : ∀ i j, i < hs.length → j < hs.length → i ≠ j → (hs.getD i nilv).ownBlock ≠ (hs.getD j nilv).ownBlock
def Outer (w : World) (base : Nat) (v : Value) (hs : List Value) : Prop := (Kd.raw 1).R 26 w base (fun _ => True) v (hs.map fun h => [h])
theorem Pool.below {w w1 : World} {base : Nat} {hs : List Value} {xs : List (List Int)} (h : Pool w base hs xs) (hb : Below w.heap.size w w1) : Pool w1 base hs xs :=
 ⟨h.len, fun j hj => Kd.R_below (h.row j hj) hb, h.some_, h.apart⟩
theorem Outer.below {w w1 : World} {base : Nat} {v : Value} {hs : List Value} (h : Outer w base v hs) (hb : Below w.heap.size w w1) : Outer w1 base v hs := Kd.R_below h hb
theorem own_apart {w : World} {base base' : Nat} {v u : Value} {hs : List Value} {x : List Int} (hO : Outer w base v hs) (hR : (Kd.int .i64).R 3 w base' (fun _ => True) u x) (k : Nat) (h1 : u.ownBlock = some k) : some k ≠ v.ownBlock := by
 intro h2
 obtain ⟨c1, e1⟩ := Kd.R_typed hO k h2.symm
 obtain ⟨c2, e2⟩ := Kd.R_typed hR k h1
 rw [e1] at e2
 injection e2 with e2
 injection e2 with _ e2
 exact absurd e2 (by decide)
theorem row_grown {w w1 : World} {base base' : Nat} {v u : Value} {hs : List Value} {x : List Int} (hO : Outer w base v hs) (hR : (Kd.int .i64).R 3 w base' (fun _ => True) u x) (hg : w.grownBy w1 v.ownBlock) : (Kd.int .i64).R 3 w1 base' (fun _ => True) u x :=
 Kd.R_mono (Kd.R_grown (Kd.R_tight rfl hR) hg (fun k hk => own_apart hO hR k hk.symm)) (fun _ _ => trivial)
theorem Pool.grown {w w1 : World} {base : Nat} {v : Value} {hs hs' : List Value} {xs : List (List Int)} (h : Pool w base hs xs) (hO : Outer w base v hs') (hg : w.grownBy w1 v.ownBlock) : Pool w1 base hs xs :=
 ⟨h.len, fun j hj => row_grown hO (h.row j hj) hg, h.some_, h.apart⟩
theorem getD_snoc_lt {α : Type} {l : List α} {x d : α} {j : Nat} (h : j < l.length) : (l ++ [x]).getD j d = l.getD j d := by
 simp [List.getD_eq_getElem?_getD, List.getElem?_append_left h]
theorem getD_snoc_eq {α : Type} {l : List α} {x d : α} : (l ++ [x]).getD l.length d = x := by
 simp [List.getD_eq_getElem?_getD]
theorem Pool.snoc {w : World} {base : Nat} {hs : List Value} {xs : List (List Int)} {v : Value} {x : List Int} {b : Nat} (h : Pool w base hs xs) (hR : (Kd.int .i64).R 3 w base (fun _ => True) v x) (hv : v.ownBlock = some b) (hne : ∀ j, j < hs.length → (hs.getD j nilv).ownBlock ≠ some b) : Pool w base (hs ++ [v]) (xs ++ [x]) := by
 have hl := h.len
 refine ⟨by simp [hl], fun j hj => ?_, fun j hj => ?_, fun i j hi hj hij => ?_⟩
 ·by_cases e : j < hs.length
  ·rw [getD_snoc_lt e, getD_snoc_lt (by omega)]; exact h.row j e
  ·have : j = hs.length := by simp at hj; omega
   subst this
   rw [getD_snoc_eq, hl, getD_snoc_eq]; exact hR
 ·by_cases e : j < hs.length
  ·rw [getD_snoc_lt e]; exact h.some_ j e
  ·have : j = hs.length := by simp at hj; omega
   subst this
   rw [getD_snoc_eq]; exact ⟨b, hv⟩
 ·simp at hi hj
  by_cases e1 : i < hs.length
  ·by_cases e2 : j < hs.length
   ·rw [getD_snoc_lt e1, getD_snoc_lt e2]; exact h.apart i j e1 e2 hij
   ·have : j = hs.length := by omega
    subst this
    rw [getD_snoc_lt e1, getD_snoc_eq, hv]; exact hne i e1
  ·have : i = hs.length := by omega
   subst this
   have e2 : j < hs.length := by omega
   rw [getD_snoc_eq, getD_snoc_lt e2, hv]; exact fun e => hne j e2 e.symm
theorem Outer.open {w : World} {base : Nat} {v : Value} {hs : List Value} (h : Outer w base v hs) (h0 : 0 < hs.length) :
  ∃ g cap, v = .slice (some ⟨g, 0, none⟩) hs.length cap ∧ base ≤ g ∧ g < w.heap.size ∧ hs.length ≤ cap ∧ ∀ j, j < hs.length → w.cell? ⟨g, j, none⟩ = some (hs.getD j nilv) := by
 obtain ⟨_, inner, ho, hr⟩ := h
 have hn : (hs.map fun h => [h]).length = hs.length := by simp
 rw [hn] at ho
 rcases ho.2 with ⟨_, h1⟩ | ⟨g, cap, cur, rfl, hb, hh, hc, hm, hsz, ht⟩
 ·omega
 ·refine ⟨g, cap, rfl, hb, (Array.getElem?_eq_some_iff.1 hh).1, hc, fun j hj => ?_⟩
  have h1 := (hr.2 j [hs.getD j nilv] (by rw [List.getElem?_map, List.getElem?_eq_getElem hj]; simp [List.getD_eq_getElem?_getD, List.getElem?_eq_getElem hj])).1
  have h2 : ((inner.drop (j * 1)).take 1)[0]? = some (hs.getD j nilv) := by
   have h3 : (inner.drop (j * 1)).take 1 = [hs.getD j nilv] := h1
   rw [h3]; rfl
  rw [List.getElem?_take_of_lt (by omega), List.getElem?_drop, Nat.mul_one, Nat.add_zero] at h2
  have h4 : (cur.toList.take (hs.length * 1))[j]? = some (hs.getD j nilv) := by
   have h5 : cur.toList.take (hs.length * 1) = inner := ht
   rw [h5]; exact h2
  rw [List.getElem?_take_of_lt (by omega), Array.getElem?_toList] at h4
  exact (blk_cell hh j).trans h4
theorem Outer.lit {W : World} {base : Nat} (hs : List Value) (h1 : ∀ h ∈ hs, h.oneCell' = true) (hb : base ≤ W.heap.size) (hm : hs.length ≤ 1000000) : Outer (W.alloc (.cells hs.toArray 26)) base (.slice (some ⟨W.heap.size, 0, none⟩) hs.length hs.length) hs := by
 refine ⟨fun _ _ => trivial, hs, ?_, ?_⟩
 ·have h2 := World.ownsRow_lit (base := base) (e := 26) (size := 1) W hs.toArray hs.length hb (by simp [maxLen]; omega) (by simp)
  have hsz : (Kd.raw 1).sz = 1 := rfl
  rw [hsz]
  simpa using h2
 ·have hsz : (Kd.raw 1).sz = 1 := rfl
  refine ⟨by rw [hsz]; simp, fun j p hp => ?_⟩
  rw [hsz]
  rw [List.getElem?_map] at hp
  obtain ⟨x, hx, rfl⟩ := Option.map_eq_some_iff.1 hp
  obtain ⟨hjl, hjx⟩ := List.getElem?_eq_some_iff.1 hx
  refine ⟨?_, ?_, ?_⟩
  ·rw [Nat.mul_one, List.drop_eq_getElem_cons hjl, hjx]; rfl
  ·rw [Nat.mul_one, List.drop_eq_getElem_cons hjl, hjx]; rfl
  ·intro u hu
   rw [Nat.mul_one, List.drop_eq_getElem_cons hjl, hjx] at hu
   have : u = x := by simpa using hu
   subst this
   exact h1 _ (by rw [← hjx]; exact List.getElem_mem hjl)
theorem row_one {W : World} {base b : Nat} {x : Int} (h : W.heap[b]? = some (.cells #[.int .i64 x] 3 (0, 0))) (hb : base ≤ b) : (Kd.int .i64).R 3 W base (fun _ => True) (.slice (some ⟨b, 0, none⟩) 1 1) [x] := by
 refine ⟨fun _ _ => trivial, [.int .i64 x], ⟨rfl, .inr ⟨b, 1, _, rfl, hb, h, Nat.le_refl _, by decide, rfl, rfl⟩⟩, ⟨rfl, fun j p hp => ?_⟩⟩
 rcases j with _ | j
 ·have : x = p := by simpa using hp
  subst this
  rfl
 ·simp at hp
theorem Pool.pick {w : World} {base : Nat} {pool : List Value} {px : List (List Int)} (h : Pool w base pool px) {I : List Nat} (hn : I.Nodup) (hlt : ∀ x ∈ I, x < pool.length) : Pool w base (I.map fun i => pool.getD i nilv) (I.map fun i => px.getD i []) := by
 have g1 : ∀ j, (hj : j < I.length) → (I.map fun i => pool.getD i nilv).getD j nilv = pool.getD I[j] nilv := fun j hj => by simp [List.getD_eq_getElem?_getD, List.getElem?_eq_getElem hj]
 have g2 : ∀ j, (hj : j < I.length) → (I.map fun i => px.getD i []).getD j [] = px.getD I[j] [] := fun j hj => by simp [List.getD_eq_getElem?_getD, List.getElem?_eq_getElem hj]
 refine ⟨by simp, fun j hj => ?_, fun j hj => ?_, fun i j hi hj hij => ?_⟩
 ·have hj' : j < I.length := by simpa using hj
  rw [g1 j hj', g2 j hj']; exact h.row _ (hlt _ (List.getElem_mem hj'))
 ·have hj' : j < I.length := by simpa using hj
  rw [g1 j hj']; exact h.some_ _ (hlt _ (List.getElem_mem hj'))
 ·have hi' : i < I.length := by simpa using hi
  have hj' : j < I.length := by simpa using hj
  rw [g1 i hi', g1 j hj']
  exact h.apart _ _ (hlt _ (List.getElem_mem hi')) (hlt _ (List.getElem_mem hj')) (fun e => hij ((List.getElem_inj hn).1 e))
/-! the tree, plain -/
def treeN (xs : List (List Int)) : Nat → List (List Int)
 | 0 => [xs.getD 0 []]
 | m + 1 => treeN xs m ++ [xs.getD m [] ++ xs.getD (m + 1) [], xs.getD (m + 1) []]
def tree : Nat → List (List Int)
 | 0 => [[0], [1]]
 | n + 1 => treeN (tree n) ((tree n).length - 1)
def treeJ (I : List Nat) (N0 : Nat) : Nat → List Nat
 | 0 => [I.getD 0 0]
 | m + 1 => treeJ I N0 m ++ [N0 + m, I.getD (m + 1) 0]
theorem treeJ_mem (I : List Nat) (N0 : Nat) : ∀ m x, x ∈ treeJ I N0 m → (∃ t, t ≤ m ∧ x = I.getD t 0) ∨ (N0 ≤ x ∧ x < N0 + m)
 | 0, x, h => .inl ⟨0, Nat.le_refl _, by simpa [treeJ] using h⟩
 | m + 1, x, h => by
  rw [treeJ, List.mem_append] at h
  rcases h with h | h
  ·rcases treeJ_mem I N0 m x h with ⟨t, h1, h2⟩ | ⟨h1, h2⟩
   ·exact .inl ⟨t, by omega, h2⟩
   ·exact .inr ⟨h1, by omega⟩
  ·rcases List.mem_cons.1 h with rfl | h
   ·exact .inr ⟨by omega, by omega⟩
   ·exact .inl ⟨m + 1, Nat.le_refl _, by simpa using h⟩
theorem getD_lt_mem {I : List Nat} {t : Nat} (h : t < I.length) : I.getD t 0 ∈ I := by simp [List.getD_eq_getElem?_getD, List.getElem?_eq_getElem h]
theorem treeJ_lt (I : List Nat) (N0 : Nat) (hlt : ∀ x ∈ I, x < N0) (m : Nat) (hm : m < I.length) : ∀ x ∈ treeJ I N0 m, x < N0 + m := by
 intro x hx
 rcases treeJ_mem I N0 m x hx with ⟨t, h1, rfl⟩ | ⟨_, h⟩
 ·have := hlt _ (getD_lt_mem (show t < I.length by omega)); omega
 ·exact h
theorem treeJ_nodup (I : List Nat) (N0 : Nat) (hn : I.Nodup) (hlt : ∀ x ∈ I, x < N0) : ∀ m, m < I.length → (treeJ I N0 m).Nodup
 | 0, _ => by simp [treeJ]
 | m + 1, hm => by
  have ih := treeJ_nodup I N0 hn hlt m (by omega)
  have h2 := hlt _ (getD_lt_mem hm)
  rw [treeJ, List.nodup_append]
  refine ⟨ih, ?_, ?_⟩
  ·rw [List.nodup_cons]
   refine ⟨fun h => ?_, by simp⟩
   have : N0 + m = I.getD (m + 1) 0 := by simpa using h
   omega
  ·intro x hx y hy e
   subst e
   rcases List.mem_cons.1 hy with rfl | hy
   ·have := treeJ_lt I N0 hlt m (by omega) _ hx; omega
   ·have hy : x = I.getD (m + 1) 0 := by simpa using hy
    subst hy
    rcases treeJ_mem I N0 m _ hx with ⟨t, h1, h3⟩ | ⟨h1, _⟩
    ·simp only [List.getD_eq_getElem?_getD, List.getElem?_eq_getElem hm, List.getElem?_eq_getElem (show t < I.length by omega), Option.getD_some] at h3
     have := (List.getElem_inj hn).1 h3
     omega
    ·omega
theorem treeJ_len (I : List Nat) (N0 : Nat) : ∀ m, (treeJ I N0 m).length = 2 * m + 1
 | 0 => rfl
 | m + 1 => by rw [treeJ, List.length_append, treeJ_len I N0 m]; simp; omega
theorem tree_small : ∀ n, n ≤ 5 → 2 ≤ (tree n).length ∧ (tree n).length ≤ 33 ∧ ∀ x ∈ tree n, x.length ≤ 100
 | 0, _ => by decide
 | 1, _ => by decide
 | 2, _ => by decide
 | 3, _ => by decide
 | 4, _ => by decide
 | 5, _ => by decide
 | n + 6, h => by omega
structure TInv (w w' : World) (vl vn : Value) (I : List Nat) (N0 m : Nat) (xs : List (List Int)) (pool : List Value) (px : List (List Int)) : Prop where
 n : pool.length = N0 + m
 rows : Pool w' w.heap.size pool px
 list : Outer w' w.heap.size vl (I.map fun i => pool.getD i nilv)
 next : Outer w' w.heap.size vn ((treeJ I N0 m).map fun i => pool.getD i nilv)
 val : (I.map fun i => px.getD i []) = xs
 nval : ((treeJ I N0 m).map fun i => px.getD i []) = treeN xs m
 ne : vl.ownBlock ≠ vn.ownBlock
 below : Below w.heap.size w w'
theorem map_snoc_lt {α : Type} {l : List α} {x d : α} {I : List Nat} (h : ∀ i ∈ I, i < l.length) : (I.map fun i => (l ++ [x]).getD i d) = I.map fun i => l.getD i d :=
 List.map_congr_left fun i hi => getD_snoc_lt (h i hi)
theorem TInv.step {w W w3 w4 w5 : World} {vl vn v41 v47 : Value} {I : List Nat} {N0 m b : Nat} {xs : List (List Int)} {pool : List Value} {px : List (List Int)} (h : TInv w W vl vn I N0 m xs pool px)
  (hlt : ∀ x ∈ I, x < N0) (hm : m + 1 < I.length) (hb3 : Below W.heap.size W w3) (hR : (Kd.int .i64).R 3 w3 W.heap.size (fun _ => True) v41 (xs.getD m [] ++ xs.getD (m + 1) [])) (hv : v41.ownBlock = some b)
  (hb4 : Below w3.heap.size w3 w4) (hO : (Kd.raw 1).R 26 w5 w.heap.size (fun _ => True) v47 (((treeJ I N0 m).map fun i => pool.getD i nilv).map (fun h => [h]) ++ [[v41], [pool.getD (I.getD (m + 1) 0) nilv]]))
  (hb5 : Below w.heap.size w w5) (hg : w4.grownBy w5 vn.ownBlock) (hat : v47.ownBlock = vn.ownBlock ∨ ∃ b, v47.ownBlock = some b ∧ w4.heap.size ≤ b) :
  TInv w w5 vl v47 I N0 (m + 1) xs (pool ++ [v41]) (px ++ [xs.getD m [] ++ xs.getD (m + 1) []]) := by
 have hpl := h.rows.len
 have hn := h.n
 have hB4 : Below W.heap.size W w4 := hb3.trans (hb4.mono hb3.size)
 have hW : w.heap.size ≤ W.heap.size := h.below.size
 have hlist4 := h.list.below hB4
 have hnext4 := h.next.below hB4
 have hIlt : ∀ i ∈ I, i < pool.length := fun i hi => by have := hlt i hi; omega
 have hJlt : ∀ i ∈ treeJ I N0 m, i < pool.length := fun i hi => by have := treeJ_lt I N0 hlt m (by omega) i hi; omega
 have hvl : ∀ k, vl.ownBlock = some k → k < W.heap.size := fun k hk => Kd.R_lt h.list k hk
 refine ⟨by simp [hn]; omega, ?_, ?_, ?_, ?_, ?_, ?_, hb5⟩
 ·refine Pool.snoc ((h.rows.below hB4).grown hnext4 hg) (row_grown hnext4 (Kd.R_lower (Kd.R_below hR hb4) hW) hg) hv (fun j hj e => ?_)
  have h1 := Kd.R_lt (h.rows.row j hj) b e
  have h2 := Kd.R_base hR b hv
  omega
 ·rw [map_snoc_lt hIlt]
  refine Kd.R_mono (Kd.R_grown (Kd.R_tight rfl hlist4) hg (fun k hk e => h.ne (hk.symm.trans e))) (fun _ _ => trivial)
 ·show (Kd.raw 1).R _ _ _ _ _ _
  rw [treeJ, List.map_append, map_snoc_lt hJlt, List.map_append]
  refine cast ?_ hO
  congr 2
  have e1 : (pool ++ [v41]).getD (N0 + m) nilv = v41 := by rw [← hn]; exact getD_snoc_eq
  have e2 : (pool ++ [v41]).getD (I.getD (m + 1) 0) nilv = pool.getD (I.getD (m + 1) 0) nilv := getD_snoc_lt (hIlt _ (getD_lt_mem hm))
  show [[v41], [pool.getD (I.getD (m + 1) 0) nilv]] = [[(pool ++ [v41]).getD (N0 + m) nilv], [(pool ++ [v41]).getD (I.getD (m + 1) 0) nilv]]
  rw [e1, e2]
 ·rw [map_snoc_lt (fun i hi => by have := hIlt i hi; omega)]
  exact h.val
 ·rw [treeJ, List.map_append, map_snoc_lt (fun i hi => by have := hJlt i hi; omega), h.nval, treeN]
  congr 1
  have e1 : (px ++ [xs.getD m [] ++ xs.getD (m + 1) []]).getD (N0 + m) [] = xs.getD m [] ++ xs.getD (m + 1) [] := by rw [← hn, hpl]; exact getD_snoc_eq
  have e2 : (px ++ [xs.getD m [] ++ xs.getD (m + 1) []]).getD (I.getD (m + 1) 0) [] = px.getD (I.getD (m + 1) 0) [] := getD_snoc_lt (by have := hIlt _ (getD_lt_mem hm); omega)
  have e3 : px.getD (I.getD (m + 1) 0) [] = xs.getD (m + 1) [] := by
   rw [← h.val]
   simp [List.getD_eq_getElem?_getD, List.getElem?_eq_getElem hm]
  show [(px ++ [xs.getD m [] ++ xs.getD (m + 1) []]).getD (N0 + m) [], (px ++ [xs.getD m [] ++ xs.getD (m + 1) []]).getD (I.getD (m + 1) 0) []] = _
  rw [e1, e2, e3]
 ·rcases hat with e | ⟨b', e, hb'⟩
  ·rw [e]; exact h.ne
  ·intro e2
   rw [e] at e2
   have := hvl b' e2
   have := hB4.size
   omega
theorem TInv.start {w W : World} {vl : Value} {I : List Nat} {pool : List Value} {px xs : List (List Int)} {gl n cap : Nat} (hP : Pool W w.heap.size pool px) (hO : Outer W w.heap.size vl (I.map fun i => pool.getD i nilv)) (hv : vl = .slice (some ⟨gl, 0, none⟩) n cap) (hgl : gl < W.heap.size)
  (hval : (I.map fun i => px.getD i []) = xs) (hI : ∀ x ∈ I, x < pool.length) (h0 : 0 < I.length) (hB : Below w.heap.size w W) :
  TInv w (W.alloc (.cells #[pool.getD (I.getD 0 0) nilv] 26)) vl (.slice (some ⟨W.heap.size, 0, none⟩) 1 1) I pool.length 0 xs pool px := by
 have hb := below_alloc (Below.refl W.heap.size W) (.cells #[pool.getD (I.getD 0 0) nilv] 26)
 have h1 := hI _ (getD_lt_mem h0)
 obtain ⟨A, c, hs⟩ := Kd.R_slice (hP.row _ h1)
 refine ⟨rfl, hP.below hb, hO.below hb, ?_, hval, ?_, ?_, below_alloc hB _⟩
 ·refine Outer.lit [pool.getD (I.getD 0 0) nilv] (fun h hh => ?_) hB.size (by simp)
  have : h = pool.getD (I.getD 0 0) nilv := by simpa using hh
  rw [this, hs]; rfl
 ·rw [← hval]
  show [px.getD (I.getD 0 0) []] = [(I.map fun i => px.getD i []).getD 0 []]
  simp [List.getD_eq_getElem?_getD, List.getElem?_eq_getElem h0]
 ·rw [hv]
  intro e
  have : gl = W.heap.size := by simpa [Value.ownBlock] using e
  omega
def treeOf (a : Int) : List (List Int) := if a < 0 ∨ a > 5 then [] else tree a.toNat
def TOut (w w' : World) (v : Value) (n : Nat) : Prop := ∃ (I : List Nat) (pool : List Value) (px : List (List Int)), Pool w' w.heap.size pool px ∧ Outer w' w.heap.size v (I.map fun i => pool.getD i nilv) ∧ I.Nodup ∧ (∀ x ∈ I, x < pool.length) ∧ (I.map fun i => px.getD i []) = tree n ∧ Below w.heap.size w w'
theorem TOut.below {w W w1 : World} {v : Value} {n : Nat} (h : TOut w W v n) (hb : Below W.heap.size W w1) : TOut w w1 v n := by
 obtain ⟨I, pool, px, hP, hO, hn, hl, ht, hB⟩ := h
 exact ⟨I, pool, px, hP.below hb, hO.below hb, hn, hl, ht, hB.trans (hb.mono hB.size)⟩
theorem TOut.next {w w' : World} {vl vn : Value} {I : List Nat} {N0 m n : Nat} {pool : List Value} {px : List (List Int)} (h : TInv w w' vl vn I N0 m (tree n) pool px) (hn : I.Nodup) (hlt : ∀ x ∈ I, x < N0) (hm : m + 1 = I.length) : TOut w w' vn (n + 1) := by
 refine ⟨treeJ I N0 m, pool, px, h.rows, h.next, treeJ_nodup I N0 hn hlt m (by omega), fun x hx => by have := treeJ_lt I N0 hlt m (by omega) x hx; have := h.n; omega, ?_, h.below⟩
 rw [h.nval, tree]
 congr 1
 rw [← h.val]
 simp; omega
theorem TOut.first {w W : World} {v a b : Value} (ha : (Kd.int .i64).R 3 W w.heap.size (fun _ => True) a [0]) (hb : (Kd.int .i64).R 3 W w.heap.size (fun _ => True) b [1]) {i j : Nat} (hi : a.ownBlock = some i) (hj : b.ownBlock = some j) (hij : i ≠ j) (hO : Outer W w.heap.size v [a, b]) (hB : Below w.heap.size w W) : TOut w W v 0 := by
 have hnil : Pool W w.heap.size [] [] := ⟨rfl, fun j hj => absurd hj (by simp), fun j hj => absurd hj (by simp), fun i j hi => absurd hi (by simp)⟩
 have h1 := Pool.snoc hnil ha hi (fun j hj => absurd hj (by simp))
 have h2 := Pool.snoc h1 hb hj (fun k hk => by
  have : k = 0 := by simp at hk; omega
  subst this
  show a.ownBlock ≠ some j
  rw [hi]; intro e; injection e with e; exact hij e)
 exact ⟨[0, 1], [a, b], [[0], [1]], h2, hO, by simp, by simp, rfl, hB⟩
theorem TOut.end {w W : World} {v : Value} {n : Nat} (h : TOut w W v n) : ∃ hs, Outer W w.heap.size v hs ∧ Pool W w.heap.size hs (tree n) ∧ Below w.heap.size w W := by
 obtain ⟨I, pool, px, hP, hO, hn, hl, ht, hB⟩ := h
 exact ⟨_, hO, ht ▸ hP.pick hn hl, hB⟩
theorem TOut.len {n : Nat} {I : List Nat} {px : List (List Int)} (ht : (I.map fun i => px.getD i []) = tree n) (hn : n ≤ 5) : 2 ≤ I.length ∧ I.length ≤ 33 ∧ ∀ t, t < I.length → (px.getD (I.getD t 0) []).length ≤ 100 := by
 obtain ⟨h1, h2, h3⟩ := tree_small n hn
 rw [← ht] at h1 h2 h3
 simp only [List.length_map] at h1 h2
 exact ⟨h1, h2, fun t ht => h3 _ (List.mem_map.2 ⟨_, getD_lt_mem ht, rfl⟩)⟩
theorem TInv.step2 {w W w3 w4 w5 : World} {vl vn v41 v47 hbv : Value} {I : List Nat} {N0 m b : Nat} {xs : List (List Int)} {pool : List Value} {px : List (List Int)} {xa xb : List Int} (h : TInv w W vl vn I N0 m xs pool px)
  (hlt : ∀ x ∈ I, x < N0) (hm : m + 1 < I.length) (hxa : xs.getD m [] = xa) (hxb : xs.getD (m + 1) [] = xb) (heb : pool.getD (I.getD (m + 1) 0) nilv = hbv) (hb3 : Below W.heap.size W w3) (hR : (Kd.int .i64).R 3 w3 W.heap.size (fun _ => True) v41 (([] ++ xa) ++ xb)) (hv : v41.ownBlock = some b)
  (hb4 : Below w3.heap.size w3 w4) (hO : (Kd.raw 1).R 26 w5 w.heap.size (fun _ => True) v47 (((treeJ I N0 m).map fun i => pool.getD i nilv).map (fun h => [h]) ++ [[v41], [hbv]]))
  (hb5 : Below w.heap.size w w5) (hg : w4.grownBy w5 vn.ownBlock) (hat : v47.ownBlock = vn.ownBlock ∨ ∃ b, v47.ownBlock = some b ∧ w4.heap.size ≤ b) :
  ∃ pool px, TInv w w5 vl v47 I N0 (m + 1) xs pool px := by
 subst hxa
 subst hxb
 subst heb
 exact ⟨_, _, h.step hlt hm hb3 hR hv hb4 hO hb5 hg hat⟩
theorem TInv.drew {w W : World} {vl vn : Value} {I : List Nat} {N0 m : Nat} {xs : List (List Int)} {pool : List Value} {px : List (List Int)} (h : TInv w W vl vn I N0 m xs pool px) : TInv w W.drew vl vn I N0 m xs pool px :=
 have hb := below_drew (Below.refl W.heap.size W)
 ⟨h.n, h.rows.below hb, h.list.below hb, h.next.below hb, h.val, h.nval, h.ne, below_drew h.below⟩
theorem own_after {v v1 : Value} {W : World} (h : ∃ b, v.ownBlock = some b) (hat : v1.ownBlock = v.ownBlock ∨ ∃ b, v1.ownBlock = some b ∧ W.heap.size ≤ b) : ∃ b, v1.ownBlock = some b := by
 rcases hat with e | ⟨b, e, _⟩
 ·rw [e]; exact h
 ·exact ⟨b, e⟩
theorem two_rows (W : World) (u v : Value) (hu : u.oneCell' = true) (hv : v.oneCell' = true) : ReadsRow ((Kd.raw 1).K W) (Kd.raw 1).sz (W.alloc (.cells #[u, v] 26)) (some ⟨W.heap.size, 0, none⟩) 2 [[u], [v]] := by
 refine ⟨rfl, by omega, fun _ => ⟨_, rfl, fun j p hj => ?_⟩⟩
 rcases j with _ | _ | j
 ·have hp : [u] = p := by simpa using hj
  subst hp
  refine ⟨[u], rfl, ⟨rfl, rfl, fun x hx => (List.mem_singleton.1 hx) ▸ hu⟩, fun i x hi => ?_⟩
  rcases i with _ | i
  ·have : u = x := by simpa using hi
   subst this
   exact (blk_cell (blk_new W (.cells #[u, v] 26)) 0).trans rfl
  ·simp at hi
 ·have hp : [v] = p := by simpa using hj
  subst hp
  refine ⟨[v], rfl, ⟨rfl, rfl, fun x hx => (List.mem_singleton.1 hx) ▸ hv⟩, fun i x hi => ?_⟩
  rcases i with _ | i
  ·have : v = x := by simpa using hi
   subst this
   exact (blk_cell (blk_new W (.cells #[u, v] 26)) 1).trans rfl
  ·simp at hi
 ·simp at hj
theorem tree_start (w : World) : TOut w (((w.alloc (.cells #[.int .i64 0] 3)).alloc (.cells #[.int .i64 1] 3)).alloc (.cells #[.slice (some ⟨w.heap.size, 0, none⟩) 1 1, .slice (some ⟨w.heap.size + 1, 0, none⟩) 1 1] 26)) (.slice (some ⟨w.heap.size + 2, 0, none⟩) 2 2) 0 := by
 obtain ⟨w1, h1⟩ : ∃ w1, w1 = w.alloc (.cells #[.int .i64 0] 3) := ⟨_, rfl⟩
 obtain ⟨w2, h2⟩ : ∃ w2, w2 = w1.alloc (.cells #[.int .i64 1] 3) := ⟨_, rfl⟩
 obtain ⟨w3, h3⟩ : ∃ w3, w3 = w2.alloc (.cells #[.slice (some ⟨w.heap.size, 0, none⟩) 1 1, .slice (some ⟨w.heap.size + 1, 0, none⟩) 1 1] 26) := ⟨_, rfl⟩
 have s1 : w1.heap.size = w.heap.size + 1 := by rw [h1]; simp
 have s2 : w2.heap.size = w.heap.size + 2 := by rw [h2]; simp [s1]
 have b1 : w1.heap[w.heap.size]? = some (.cells #[.int .i64 0] 3 (0, 0)) := by rw [h1]; exact blk_new w _
 have b2 : w2.heap[w1.heap.size]? = some (.cells #[.int .i64 1] 3 (0, 0)) := by rw [h2]; exact blk_new w1 _
 have b12 : w2.heap[w.heap.size]? = some (.cells #[.int .i64 0] 3 (0, 0)) := by rw [h2]; exact (Below.heap_alloc w1 _ _ (by omega)).trans b1
 have c1 : w3.heap[w.heap.size]? = some (.cells #[.int .i64 0] 3 (0, 0)) := by rw [h3]; exact (Below.heap_alloc w2 _ _ (by omega)).trans b12
 have c2 : w3.heap[w.heap.size + 1]? = some (.cells #[.int .i64 1] 3 (0, 0)) := by rw [h3, ← s1]; exact (Below.heap_alloc w2 _ _ (by omega)).trans b2
 have hB : Below w.heap.size w w3 := by rw [h3]; refine below_alloc ?_ _; rw [h2]; refine below_alloc ?_ _; rw [h1]; exact below_alloc (Below.refl _ _) _
 have hO : Outer w3 w.heap.size (.slice (some ⟨w2.heap.size, 0, none⟩) 2 2) [.slice (some ⟨w.heap.size, 0, none⟩) 1 1, .slice (some ⟨w.heap.size + 1, 0, none⟩) 1 1] := by
  rw [h3]
  refine Outer.lit (W := w2) [.slice (some ⟨w.heap.size, 0, none⟩) 1 1, .slice (some ⟨w.heap.size + 1, 0, none⟩) 1 1] (fun h hh => ?_) (by omega) (by simp)
  rcases List.mem_cons.1 hh with rfl | hh
  ·rfl
  ·rw [List.mem_singleton.1 hh]; rfl
 rw [s2] at hO
 have := TOut.first (row_one c1 (Nat.le_refl _)) (row_one c2 (by omega)) (i := w.heap.size) (j := w.heap.size + 1) rfl rfl (by omega) hO hB
 rw [h3, h2, h1] at this
 exact this
def TreeR (w w' : World) (a : Int) (v : Value) : Prop := ∃ hs, Outer w' w.heap.size v hs ∧ Pool w' w.heap.size hs (treeOf a) ∧ Below w.heap.size w w'
theorem TreeR.nil {w W : World} {a : Int} (h : a < 0 ∨ a > 5) (hB : Below w.heap.size w W) : TreeR w (W.alloc (.cells #[] 26)) a (.slice (some ⟨W.heap.size, 0, none⟩) 0 0) := by
 refine ⟨[], Outer.lit [] (by simp) hB.size (by simp), ?_, below_alloc hB _⟩
 rw [treeOf, if_pos h]
 exact ⟨rfl, fun j hj => absurd hj (by simp), fun j hj => absurd hj (by simp), fun i j hi => absurd hi (by simp)⟩
set_option maxHeartbeats 8000000 in
set_option maxRecDepth 100000 in
theorem hand_tree6 (a : Int) (w : World) : Calls Try.prog 20 #[.int .i64 a] w fun e w' => ∃ v, e = .returned v ∧ TreeR w w' a v := by
 by_cases c0 : a < 0
 ·have c0b : decide (a < 0) = true := decide_eq_true c0
  go_enter Try.func20, Try.ntmps20
  go_wp2
  go_ret
  exact ⟨_, rfl, TreeR.nil (.inl c0) (Below.refl _ _)⟩
 ·by_cases c1 : a > 5
  ·have c0b : decide (a < 0) = false := decide_eq_false c0
   have c1b : decide (5 < a) = true := decide_eq_true c1
   go_enter Try.func20, Try.ntmps20
   go_wp2
   go_ret
   exact ⟨_, rfl, TreeR.nil (.inr c1) (Below.refl _ _)⟩
  ·obtain ⟨kk, rfl⟩ := Int.eq_ofNat_of_zero_le (show 0 ≤ a by omega)
   have c0b : decide ((kk : Int) < 0) = false := decide_eq_false c0
   have c1b : decide (5 < (kk : Int)) = false := decide_eq_false c1
   have EOF := Aside0.mk (show treeOf (kk : Int) = tree kk by rw [treeOf, if_neg (by omega)]; rfl)
   have hst := tree_start w
   have HST := Aside0.mk hst
   clear c0 c1
   have hkk : kk ≤ 5 := by have h_ := of_decide_eq_false c1b; omega
   go_enter Try.func20, Try.ntmps20
   go_wp2
   clear hst
   go_loopg [3, 17] (kk + 1) (fun kq v3 v17 w' => ∃ n : Nat, v17 = .int .i64 (n : Int) ∧ n ≤ kk ∧ kk + 1 - n ≤ kq ∧ Aside0 (TOut w w' v3 n))
   case atStart => exact ⟨0, rfl, by omega, by omega, HST⟩
   case round =>
    clear HST
    obtain ⟨n, rfl, hn, hk, HT0⟩ := hrel
    by_cases hlt0 : n < kk
    ·have cn : decide ((n : Int) < (kk : Int)) = true := decide_eq_true (by omega)
     obtain ⟨I, pool, px, hP, hO, hnd, hil, hval, hB⟩ := HT0.out
     have hlen := TOut.len hval (show n ≤ 5 by omega)
     obtain ⟨gl, capl, hvl, hgb, hgl, hcapl, hcell⟩ := hO.open (by simp; omega)
     have hcell0 := hcell 0 (by simp; omega)
     have hIl : (I.map fun i => pool.getD i nilv).length = I.length := by simp
     rw [hIl] at hvl hcapl
     have hz : ∀ t, t < I.length → (I.map fun i => pool.getD i nilv).getD t nilv = pool.getD (I.getD t 0) nilv := fun t ht => by simp [List.getD_eq_getElem?_getD, List.getElem?_eq_getElem ht]
     rw [hz 0 (by omega)] at hcell0
     have hP0 := hil _ (getD_lt_mem (show 0 < I.length by omega))
     obtain ⟨A0, c0, e0⟩ := Kd.R_slice (hP.row _ hP0)
     rw [e0] at hcell0
     have HTI := Aside0.mk (TInv.start hP hO hvl hgl hval hil (by omega) hB)
     rw [e0] at HTI
     have HLEN := Aside0.mk hlen.2.2
     have HLT := Aside0.mk hil
     have HND := Aside0.mk hnd
     have hI2 := hlen.1
     have hI33 := hlen.2.1
     subst hvl
     have q0 : ((0 : Int) < (I.length : Int)) = True := eq_true (by omega)
     clear hP hO hnd hval hB hlen hcell hz hP0 e0 hil hgb
     go_wp2
     clear hcell0 q0
     go_loopg [4, 5] (I.length + 1) (fun kq v4 v5 w' => ∃ m : Nat, v5 = .int .i64 ((m : Int) + 1) ∧ m + 1 ≤ I.length ∧ I.length - m ≤ kq ∧ Aside0 (∃ pool2 px2, TInv w w' (.slice (some ⟨gl, 0, none⟩) I.length capl) v4 I pool.length m (tree n) pool2 px2))
     case atStart => exact ⟨0, by first | rfl | go_num, by omega, by omega, ⟨_, _, HTI.out⟩⟩
     case round =>
      clear HTI
      obtain ⟨m, rfl, hm, hkm, HT1⟩ := hrel
      by_cases hltm : m + 1 < I.length
      ·have cm : decide ((m : Int) + 1 < (I.length : Int)) = true := decide_eq_true (by omega)
       obtain ⟨pool2, px2, hT⟩ := HT1.out
       have hTd := hT.drew
       obtain ⟨gl2, capl2, hvl2, hgb2, hgl2, hcapl2, hcell2⟩ := hTd.list.open (by simp; omega)
       have hIl2 : (I.map fun i => pool2.getD i nilv).length = I.length := by simp
       rw [hIl2] at hvl2 hcapl2
       injection hvl2 with ea_ en_ ec_
       injection ea_ with ea_
       injection ea_ with ea_
       subst ea_
       subst ec_
       have hz2 : ∀ t, t < I.length → (I.map fun i => pool2.getD i nilv).getD t nilv = pool2.getD (I.getD t 0) nilv := fun t ht => by simp [List.getD_eq_getElem?_getD, List.getElem?_eq_getElem ht]
       have hp2 : ∀ t, t < I.length → I.getD t 0 < pool2.length := fun t ht => by have h1_ := HLT.out _ (getD_lt_mem ht); have h2_ := hTd.n; omega
       have hx2 : ∀ t, t < I.length → (tree n).getD t [] = px2.getD (I.getD t 0) [] := fun t ht => by rw [← hTd.val]; simp [List.getD_eq_getElem?_getD, List.getElem?_eq_getElem ht]
       have hxl : ∀ t, t < I.length → ((tree n).getD t []).length ≤ 100 := fun t ht => by
        have h3_ := (tree_small n (by omega)).2.2
        have h4_ : (tree n).length = I.length := by rw [← hTd.val]; simp
        exact h3_ _ (by simp [List.getD_eq_getElem?_getD, List.getElem?_eq_getElem (show t < (tree n).length by omega)])
       have hca := hcell2 m (by simp; omega)
       have hcb := hcell2 (m + 1) (by simp; omega)
       rw [hz2 m (by omega)] at hca
       rw [hz2 (m + 1) (by omega)] at hcb
       have hra := hTd.rows.row _ (hp2 m (by omega))
       have hrb := hTd.rows.row _ (hp2 (m + 1) (by omega))
       rw [← hx2 m (by omega)] at hra
       rw [← hx2 (m + 1) (by omega)] at hrb
       have hla := hxl m (by omega)
       have hlb := hxl (m + 1) (by omega)
       obtain ⟨xa, hxa⟩ : ∃ xa, xa = (tree n).getD m [] := ⟨_, rfl⟩
       obtain ⟨xb, hxb⟩ : ∃ xb, xb = (tree n).getD (m + 1) [] := ⟨_, rfl⟩
       rw [← hxa] at hra hla
       rw [← hxb] at hrb hlb
       obtain ⟨Aa, ca, ea, hlca, hcra⟩ := Kd.R_reads hra
       obtain ⟨Ab, cb, eb, hlcb, hcrb⟩ := Kd.R_reads hrb
       rw [ea] at hca
       rw [eb] at hcb
       have HCA := Aside0.mk hca
       have HCB := Aside0.mk hcb
       have HRA := Aside0.mk hcra
       have HRB := Aside0.mk hcrb
       have EXA := Aside0.mk hxa.symm
       have EXB := Aside0.mk hxb.symm
       have EHB := Aside0.mk eb
       have HLN := Aside0.mk (And.intro hla hlb)
       have HT := Aside0.mk hTd
       have HNX := Aside0.mk hTd.next
       have HBW := Aside0.mk hTd.below
       have GLT := Aside0.mk hgl2
       have HLM := Aside0.mk hltm
       have HNL := Aside0.mk (show ((((treeJ I pool.length m).map fun i => pool2.getD i nilv).map fun h => [h]).length + 2) * 24 ≤ 140737488355328 by simp only [List.length_map, treeJ_len]; omega)
       have hs1 : IntKind.i64.wrap (m : Int) = (m : Int) := by rw [i64_w]; unfold wrap64; omega
       have p1 : (0 ≤ (m : Int) + 1) = True := eq_true (by omega)
       have p2 : ((m : Int) + 1 < (I.length : Int)) = True := eq_true (by omega)
       have p3 : (0 ≤ (m : Int)) = True := eq_true (by omega)
       have p4 : ((m : Int) < (I.length : Int)) = True := eq_true (by omega)
       clear hca hcb hra hrb hla hlb hcra hcrb hxa hxb ea eb hT hTd hz2 hp2 hx2 hxl hcell2 hgl2 hlca hlcb hIl2 hgb2 en_ hcapl2
       go_wp2_with fail
       refine start_ (n := 20) (S := fun w' => w'.cell? ⟨gl, m, none⟩ = some (.slice Aa xa.length ca) ∧ w'.cell? ⟨gl, m + 1, none⟩ = some (.slice Ab xb.length cb)) (ds := [18]) #[false, false, false, false, false, false, false, false, false, false, false, false, false, false, false, false, false, false, false, false] (by kernel_rfl) rfl rfl ⟨HCA.out, HCB.out⟩ (fun hHeld => ?_)
       refine pure_ (i := 0) (N := some 29) (v := ?_) (a' := ?_) #[true, false, false, false, false, false, false, false, false, false, false, false, false, false, false, false, false, false, false, false] rfl rfl (by kernel_rfl) (fun _ _ _ h => h) (Or.inl ⟨by rfl, ?_⟩) ?_ ?_
       rotate_left
       ·intro w'
        go_simp
        with_reducible rfl
       rotate_left
       ·simp only [Act.put, List.setIfInBounds_toArray, List.set_cons_zero, List.set_cons_succ, i64_w, i32_w]
        rfl
       refine pure_ (i := 2) (N := some 31) (v := ?_) (a' := ?_) #[true, false, true, false, false, false, false, false, false, false, false, false, false, false, false, false, false, false, false, false] rfl rfl (by kernel_rfl) (fun _ _ _ h => h) (Or.inl ⟨by rfl, ?_⟩) ?_ ?_
       rotate_left
       ·intro w'
        go_simp
        with_reducible rfl
       rotate_left
       ·simp only [Act.put, List.setIfInBounds_toArray, List.set_cons_zero, List.set_cons_succ, i64_w, i32_w]
        rfl
       refine pure_ (i := 3) (N := some 32) (v := ?_) (a' := ?_) #[true, false, true, true, false, false, false, false, false, false, false, false, false, false, false, false, false, false, false, false] rfl rfl (by kernel_rfl) (fun _ _ _ h => h) (Or.inl ⟨by rfl, ?_⟩) ?_ ?_
       rotate_left
       ·intro w'
        go_simp
        with_reducible rfl
       rotate_left
       ·simp only [Act.put, List.setIfInBounds_toArray, List.set_cons_zero, List.set_cons_succ, i64_w, i32_w]
        rfl
       refine pure_ (i := 4) (N := some 33) (v := ?_) (a' := ?_) #[true, false, true, true, true, false, false, false, false, false, false, false, false, false, false, false, false, false, false, false] rfl rfl (by kernel_rfl) (fun _ _ _ h => h) (Or.inl ⟨by rfl, ?_⟩) ?_ ?_
       rotate_left
       ·intro w'
        go_simp
        with_reducible rfl
       rotate_left
       ·simp only [Act.put, List.setIfInBounds_toArray, List.set_cons_zero, List.set_cons_succ, i64_w, i32_w]
        rfl
       refine pure_ (i := 5) (N := some 34) (v := ?_) (a' := ?_) #[true, false, true, true, true, true, false, false, false, false, false, false, false, false, false, false, false, false, false, false] rfl rfl (by kernel_rfl) (fun _ _ _ h => h) (Or.inl ⟨by rfl, ?_⟩) ?_ ?_
       rotate_left
       ·intro w'
        go_simp
        with_reducible rfl
       rotate_left
       ·simp only [Act.put, List.setIfInBounds_toArray, List.set_cons_zero, List.set_cons_succ, i64_w, i32_w]
        rfl
       refine pure_ (i := 8) (N := some 37) (v := ?_) (a' := ?_) #[true, false, true, true, true, true, false, false, true, false, false, false, false, false, false, false, false, false, false, false] rfl rfl (by kernel_rfl) (fun _ _ _ h => h) (Or.inl ⟨by rfl, ?_⟩) ?_ ?_
       rotate_left
       ·intro w'
        go_simp
        with_reducible rfl
       rotate_left
       ·simp only [Act.put, List.setIfInBounds_toArray, List.set_cons_zero, List.set_cons_succ, i64_w, i32_w]
        rfl
       refine pure_ (i := 9) (N := some 38) (v := ?_) (a' := ?_) #[true, false, true, true, true, true, false, false, true, true, false, false, false, false, false, false, false, false, false, false] rfl rfl (by kernel_rfl) (fun _ _ _ h => h) (Or.inl ⟨by rfl, ?_⟩) ?_ ?_
       rotate_left
       ·intro w'
        go_simp
        with_reducible rfl
       rotate_left
       ·simp only [Act.put, List.setIfInBounds_toArray, List.set_cons_zero, List.set_cons_succ, i64_w, i32_w]
        rfl
       refine pure_ (i := 10) (N := some 39) (v := ?_) (a' := ?_) #[true, false, true, true, true, true, false, false, true, true, true, false, false, false, false, false, false, false, false, false] rfl rfl (by kernel_rfl) (fun _ _ _ h => h) (Or.inl ⟨by rfl, ?_⟩) ?_ ?_
       rotate_left
       ·intro w'
        go_simp
        with_reducible rfl
       rotate_left
       ·simp only [Act.put, List.setIfInBounds_toArray, List.set_cons_zero, List.set_cons_succ, i64_w, i32_w]
        rfl
       refine pure_ (i := 13) (N := some 42) (v := ?_) (a' := ?_) #[true, false, true, true, true, true, false, false, true, true, true, false, false, true, false, false, false, false, false, false] rfl rfl (by kernel_rfl) (fun _ _ _ h => h) (Or.inl ⟨by rfl, ?_⟩) ?_ ?_
       rotate_left
       ·intro w'
        go_simp
        with_reducible rfl
       rotate_left
       ·simp only [Act.put, List.setIfInBounds_toArray, List.set_cons_zero, List.set_cons_succ, i64_w, i32_w]
        rfl
       refine pure_ (i := 14) (N := some 43) (v := ?_) (a' := ?_) #[true, false, true, true, true, true, false, false, true, true, true, false, false, true, true, false, false, false, false, false] rfl rfl (by kernel_rfl) (fun _ _ _ h => h) (Or.inl ⟨by rfl, ?_⟩) ?_ ?_
       rotate_left
       ·intro w'
        go_simp
        with_reducible rfl
       rotate_left
       ·simp only [Act.put, List.setIfInBounds_toArray, List.set_cons_zero, List.set_cons_succ, i64_w, i32_w]
        rfl
       refine pure_ (i := 15) (N := some 44) (v := ?_) (a' := ?_) #[true, false, true, true, true, true, false, false, true, true, true, false, false, true, true, true, false, false, false, false] rfl rfl (by kernel_rfl) (fun _ _ _ h => h) (Or.inl ⟨by rfl, ?_⟩) ?_ ?_
       rotate_left
       ·intro w'
        go_simp
        with_reducible rfl
       rotate_left
       ·simp only [Act.put, List.setIfInBounds_toArray, List.set_cons_zero, List.set_cons_succ, i64_w, i32_w]
        rfl
       refine take_ (i := 6) (N := some 35) (v := ?_) (a' := ?_) #[true, false, true, true, true, true, true, false, true, true, true, false, false, true, true, true, false, false, false, false] rfl rfl (by kernel_rfl) (fun _ _ _ h => h) (Or.inl ⟨by rfl, ?_⟩) hHeld ?_ ?_
       rotate_left
       ·rintro w' ⟨s0, s1⟩
        go_simp
        with_reducible rfl
       rotate_left
       ·simp only [Act.put, List.setIfInBounds_toArray, List.set_cons_zero, List.set_cons_succ, i64_w, i32_w]
        rfl
       refine take_ (i := 11) (N := some 40) (v := ?_) (a' := ?_) #[true, false, true, true, true, true, true, false, true, true, true, true, false, true, true, true, false, false, false, false] rfl rfl (by kernel_rfl) (fun _ _ _ h => h) (Or.inl ⟨by rfl, ?_⟩) hHeld ?_ ?_
       rotate_left
       ·rintro w' ⟨s0, s1⟩
        go_simp
        with_reducible rfl
       rotate_left
       ·simp only [Act.put, List.setIfInBounds_toArray, List.set_cons_zero, List.set_cons_succ, i64_w, i32_w]
        rfl
       refine take_ (i := 16) (N := some 45) (v := ?_) (a' := ?_) #[true, false, true, true, true, true, true, false, true, true, true, true, false, true, true, true, true, false, false, false] rfl rfl (by kernel_rfl) (fun _ _ _ h => h) (Or.inl ⟨by rfl, ?_⟩) hHeld ?_ ?_
       rotate_left
       ·rintro w' ⟨s0, s1⟩
        go_simp
        with_reducible rfl
       rotate_left
       ·simp only [Act.put, List.setIfInBounds_toArray, List.set_cons_zero, List.set_cons_succ, i64_w, i32_w]
        rfl
       refine one_ (i := 1) (N := some 30) #[true, true, true, true, true, true, true, false, true, true, true, true, false, true, true, true, true, false, false, false] rfl rfl (by kernel_rfl) (by decide) (fun K hK => ?_)
       refine Kd.R_lit_step (Kd.int .i64) (w0 := wr.drew) wr.drew.heap.size 3 (by rfl) rfl (N := 30) (xs := ([] : List Int)) (inner := []) (ok := fun _ => True) (okp := fun _ => True) ?hr (Reps.none _ _) (fun _ h => h) trivial (Below.refl _ _) (Nat.le_refl _) (by simp) ?_
       case hr => first | (go_simp; done) | (go_simp; rfl)
       intro v30 w1 ho hb hg hn
       have HO1 := Aside0.mk ho
       have HB1 := Aside0.mk hb
       have HN1 := Aside0.mk (hn.imp fun _ h_ => h_.1)
       clear ho hb hg hn
       refine hK.out _ _ ⟨(HB1.out.cell GLT.out).trans HCA.out, (HB1.out.cell GLT.out).trans HCB.out⟩ (fun hHeld => ?_)
       clear hK K
       refine norm_ (a' := ?_) ?_ ?_
       rotate_left
       ·show Act.put _ (some 30) _ = _
        simp only [Act.put, List.setIfInBounds_toArray, List.set_cons_zero, List.set_cons_succ, i64_w, i32_w]
        rfl
       refine one_ (i := 7) (N := some 36) #[true, true, true, true, true, true, true, true, true, true, true, true, false, true, true, true, true, false, false, false] rfl rfl (by kernel_rfl) (by decide) (fun K hK => ?_)
       refine Kd.R_append_rows_step (Kd.int .i64) (Rr := (Kd.int .i64).K w1) (w0 := wr.drew) wr.drew.heap.size (by rfl) (.tmp 30) (.tmp 35) 26 3 (.int .i64 0) 8 rfl Try.underlying26 infoT3 rfl (by decide) (by decide) v30 [] xa Aa xa.length ca (fun _ => True) (fun _ => False) rfl rfl HO1.out (Kd.C_below HRA.out HB1.out) (fun _ _ h => h) (fun _ h => h.elim) (fun _ _ => trivial) HB1.out HB1.out.size (by have h1_ := HLN.out.1; have h2_ := HLN.out.2; simp only [List.length_append, List.length_nil]; omega) ?_
       intro v36 w2 ho hb hg hat
       have HO2 := Aside0.mk ho
       have HB2 := Aside0.mk hb
       have HN2 := Aside0.mk (own_after HN1.out hat)
       clear ho hb hg hat
       refine hK.out _ _ ⟨(HB2.out.cell GLT.out).trans HCA.out, (HB2.out.cell GLT.out).trans HCB.out⟩ (fun hHeld => ?_)
       clear hK K
       refine norm_ (a' := ?_) ?_ ?_
       rotate_left
       ·show Act.put _ (some 36) _ = _
        simp only [Act.put, List.setIfInBounds_toArray, List.set_cons_zero, List.set_cons_succ, i64_w, i32_w]
        rfl
       refine one_ (i := 12) (N := some 41) #[true, true, true, true, true, true, true, true, true, true, true, true, true, true, true, true, true, false, false, false] rfl rfl (by kernel_rfl) (by decide) (fun K hK => ?_)
       refine Kd.R_append_rows_step (Kd.int .i64) (Rr := (Kd.int .i64).K w2) (w0 := wr.drew) wr.drew.heap.size (by rfl) (.tmp 36) (.tmp 40) 26 3 (.int .i64 0) 8 rfl Try.underlying26 infoT3 rfl (by decide) (by decide) v36 ([] ++ xa) xb Ab xb.length cb (fun _ => True) (fun _ => False) rfl rfl HO2.out (Kd.C_below HRB.out HB2.out) (fun _ _ h => h) (fun _ h => h.elim) (fun _ _ => trivial) HB2.out HB2.out.size (by have h1_ := HLN.out.1; have h2_ := HLN.out.2; simp only [List.length_append, List.length_nil]; omega) ?_
       intro v41 w3 ho hb hg hat
       have HB3 := Aside0.mk hb
       obtain ⟨b41, hn41⟩ := own_after HN2.out hat
       obtain ⟨A41, c41, e41⟩ := Kd.R_slice ho
       subst e41
       have hl41 : (([] : List Int) ++ xa ++ xb).length = xa.length + xb.length := by simp
       simp only [hl41] at ho hn41
       clear hl41
       have HN3 := Aside0.mk hn41
       have HO3 := Aside0.mk ho
       clear ho hb hg hat hn41
       refine hK.out _ _ ⟨(HB3.out.cell GLT.out).trans HCA.out, (HB3.out.cell GLT.out).trans HCB.out⟩ (fun hHeld => ?_)
       clear hK K
       refine norm_ (a' := ?_) ?_ ?_
       rotate_left
       ·show Act.put _ (some 41) _ = _
        simp only [Act.put, List.setIfInBounds_toArray, List.set_cons_zero, List.set_cons_succ, i64_w, i32_w]
        rfl
       refine one_ (i := 17) (N := some 46) #[true, true, true, true, true, true, true, true, true, true, true, true, true, true, true, true, true, true, false, false] rfl rfl (by kernel_rfl) (by decide) (fun K hK => ?_)
       refine value_ (w1 := ?_) (v := ?_) (by rfl) rfl ?_ ?_
       rotate_left 2
       ·go_simp
        constructor
        ·rfl
        ·rfl
       refine hK.out _ _ ⟨(World.cell?_of_block (Below.heap_alloc w3 _ _ (Nat.lt_of_lt_of_le GLT.out HB3.out.size))).trans ((HB3.out.cell GLT.out).trans HCA.out), (World.cell?_of_block (Below.heap_alloc w3 _ _ (Nat.lt_of_lt_of_le GLT.out HB3.out.size))).trans ((HB3.out.cell GLT.out).trans HCB.out)⟩ (fun hHeld => ?_)
       clear hK K
       refine norm_ (a' := ?_) ?_ ?_
       rotate_left
       ·show Act.put _ (some 46) _ = _
        simp only [Act.put, List.setIfInBounds_toArray, List.set_cons_zero, List.set_cons_succ, i64_w, i32_w]
        rfl
       refine last_ (i := 18) (N := some 47) #[true, true, true, true, true, true, true, true, true, true, true, true, true, true, true, true, true, true, true, false] rfl rfl (by kernel_rfl) (by decide) (fun K hK => ?_)
       refine Kd.R_append_rows_step (Kd.raw 1) (Rr := (Kd.raw 1).K w3) (w0 := w) w.heap.size (by rfl) (.tmp 29) (.tmp 46) 36 26 (.slice none 0 0) 24 rfl Try.underlying36 infoT27 rfl (by decide) (by decide) u4 _ [[.slice A41 (xa.length + xb.length) c41], [.slice Ab xb.length cb]] (some ⟨w3.heap.size, 0, none⟩) 2 2 (fun _ => True) (fun _ => False) rfl rfl (Kd.R_below HNX.out (below_alloc HB3.out _)) (two_rows w3 _ _ rfl rfl) (fun _ _ h => h) (fun _ h => h.elim) (fun _ _ => trivial) (HBW.out.trans ((below_alloc HB3.out _).mono HBW.out.size)) (Nat.le_trans HBW.out.size (below_alloc HB3.out _).size) HNL.out ?_
       intro v47 w5 ho hb hg hat
       have HT5 := Aside0.mk (TInv.step2 HT.out HLT.out HLM.out EXA.out EXB.out EHB.out HB3.out HO3.out HN3.out (below_alloc (Below.refl _ _) _) ho hb hg hat)
       clear ho hb hg hat
       refine hK.out _ _ ?_
       clear hK K
       refine norm_ (a' := ?_) ?_ ?_
       rotate_left
       ·show Act.put _ (some 47) _ = _
        simp only [Act.put, List.setIfInBounds_toArray, List.set_cons_zero, List.set_cons_succ, i64_w, i32_w]
        rfl
       refine pure_ (i := 19) (N := some 4) (v := ?_) (a' := ?_) #[true, true, true, true, true, true, true, true, true, true, true, true, true, true, true, true, true, true, true, true] rfl rfl (by kernel_rfl) (fun _ _ _ h => h) (Or.inl ⟨by rfl, ?_⟩) ?_ ?_
       rotate_left
       ·intro w'
        go_simp
        with_reducible rfl
       rotate_left
       ·simp only [Act.put, List.setIfInBounds_toArray, List.set_cons_zero, List.set_cons_succ, i64_w, i32_w]
        rfl
       refine done_ (by kernel_rfl) ?_
       go_wp2
       go_roundg (I.length - (m + 1))
       case measure => omega
       case rel => exact ⟨m + 1, by go_num, by omega, Nat.le_refl _, HT5⟩
      ·have cm : decide ((m : Int) + 1 < (I.length : Int)) = false := decide_eq_false (by omega)
       obtain ⟨pool2, px2, hT⟩ := HT1.out
       have HTO := Aside0.mk (TOut.next hT HND.out HLT.out (by omega))
       clear hT
       go_wp2
       go_roundg (kk + 1 - (n + 1))
       case measure => omega
       case rel => exact ⟨n + 1, by go_num, by omega, Nat.le_refl _, HTO⟩
    ·have cn : decide ((n : Int) < (kk : Int)) = false := decide_eq_false (by omega)
     have : n = kk := by omega
     subst this
     go_wp2
     go_ret
     obtain ⟨hs, h1_, h2_, h3_⟩ := HT0.out.end
     exact ⟨_, rfl, hs, h1_, by rw [EOF.out]; exact h2_, h3_⟩

set_option maxHeartbeats 8000000 in
set_option maxRecDepth 100000 in
theorem hand_tree5 (a : Int) (w : World) : Calls Try.prog 22 #[.int .i64 a] w fun e w' => ∃ v, e = .returned v ∧ TreeR w w' a v := by
 have hst := tree_start w
 by_cases c0 : 0 ≤ a ∧ a ≤ 5
 ·obtain ⟨kk, rfl⟩ := Int.eq_ofNat_of_zero_le c0.1
  have AL := Aside0.mk (show spec_l1In.f (kk : Int) 0 5 = some true by simp only [spec_l1In.f]; rw [if_pos (by omega), decide_eq_true (by omega)])
  have EOF := Aside0.mk (show treeOf (kk : Int) = tree kk by rw [treeOf, if_neg (by omega)]; rfl)
  have HST := Aside0.mk hst
  have hkk : kk ≤ 5 := by omega
  clear c0
  go_enter Try.func22, Try.ntmps22
  go_wp2_with (first | (go_at_call 41; (with_reducible refine (spec_l1In.calls _ _ _ true _ AL.out).mono ?_); rintro e w' ⟨rfl, ⟨nd, rfl⟩⟩))
  clear hst
  go_loopg [3, 4] (kk + 1) (fun kq v3 v4 w' => ∃ n : Nat, v4 = .int .i64 (n : Int) ∧ n ≤ kk ∧ kk + 1 - n ≤ kq ∧ Aside0 (TOut w w' v3 n))
  case atStart => exact ⟨0, rfl, by omega, by omega, ⟨HST.out.below (pw_below_drewN (Below.refl _ _) _)⟩⟩
  case round =>
   clear HST
   obtain ⟨n, rfl, hn, hk, HT0⟩ := hrel
   by_cases hlt0 : n < kk
   ·have cn : decide ((n : Int) < (kk : Int)) = true := decide_eq_true (by omega)
    obtain ⟨I, pool, px, hP, hO, hnd, hil, hval, hB⟩ := HT0.out
    have hlen := TOut.len hval (show n ≤ 5 by omega)
    obtain ⟨gl, capl, hvl, hgb, hgl, hcapl, hcell⟩ := hO.open (by simp; omega)
    have hcell0 := hcell 0 (by simp; omega)
    have hIl : (I.map fun i => pool.getD i nilv).length = I.length := by simp
    rw [hIl] at hvl hcapl
    have hz : ∀ t, t < I.length → (I.map fun i => pool.getD i nilv).getD t nilv = pool.getD (I.getD t 0) nilv := fun t ht => by simp [List.getD_eq_getElem?_getD, List.getElem?_eq_getElem ht]
    rw [hz 0 (by omega)] at hcell0
    have hP0 := hil _ (getD_lt_mem (show 0 < I.length by omega))
    obtain ⟨A0, c0, e0⟩ := Kd.R_slice (hP.row _ hP0)
    rw [e0] at hcell0
    have HTI := Aside0.mk (TInv.start hP hO hvl hgl hval hil (by omega) hB)
    rw [e0] at HTI
    have HLEN := Aside0.mk hlen.2.2
    have HLT := Aside0.mk hil
    have HND := Aside0.mk hnd
    have hI2 := hlen.1
    have hI33 := hlen.2.1
    subst hvl
    have q0 : ((0 : Int) < (I.length : Int)) = True := eq_true (by omega)
    clear hP hO hnd hval hB hlen hcell hz hP0 e0 hil hgb
    go_wp2
    clear hcell0 q0
    go_loopg [5, 6] (I.length + 1) (fun kq v5 v6 w' => ∃ m : Nat, v6 = .int .i64 ((m : Int) + 1) ∧ m + 1 ≤ I.length ∧ I.length - m ≤ kq ∧ Aside0 (∃ pool2 px2, TInv w w' (.slice (some ⟨gl, 0, none⟩) I.length capl) v5 I pool.length m (tree n) pool2 px2))
    case atStart => exact ⟨0, by first | rfl | go_num, by omega, by omega, ⟨_, _, HTI.out⟩⟩
    case round =>
     clear HTI
     obtain ⟨m, rfl, hm, hkm, HT1⟩ := hrel
     by_cases hltm : m + 1 < I.length
     ·have cm : decide ((m : Int) + 1 < (I.length : Int)) = true := decide_eq_true (by omega)
      obtain ⟨pool2, px2, hT⟩ := HT1.out
      have hTd := hT.drew
      obtain ⟨gl2, capl2, hvl2, hgb2, hgl2, hcapl2, hcell2⟩ := hTd.list.open (by simp; omega)
      have hIl2 : (I.map fun i => pool2.getD i nilv).length = I.length := by simp
      rw [hIl2] at hvl2 hcapl2
      injection hvl2 with ea_ en_ ec_
      injection ea_ with ea_
      injection ea_ with ea_
      subst ea_
      subst ec_
      have hz2 : ∀ t, t < I.length → (I.map fun i => pool2.getD i nilv).getD t nilv = pool2.getD (I.getD t 0) nilv := fun t ht => by simp [List.getD_eq_getElem?_getD, List.getElem?_eq_getElem ht]
      have hp2 : ∀ t, t < I.length → I.getD t 0 < pool2.length := fun t ht => by have h1_ := HLT.out _ (getD_lt_mem ht); have h2_ := hTd.n; omega
      have hx2 : ∀ t, t < I.length → (tree n).getD t [] = px2.getD (I.getD t 0) [] := fun t ht => by rw [← hTd.val]; simp [List.getD_eq_getElem?_getD, List.getElem?_eq_getElem ht]
      have hxl : ∀ t, t < I.length → ((tree n).getD t []).length ≤ 100 := fun t ht => by
       have h3_ := (tree_small n (by omega)).2.2
       have h4_ : (tree n).length = I.length := by rw [← hTd.val]; simp
       exact h3_ _ (by simp [List.getD_eq_getElem?_getD, List.getElem?_eq_getElem (show t < (tree n).length by omega)])
      have hca := hcell2 m (by simp; omega)
      have hcb := hcell2 (m + 1) (by simp; omega)
      rw [hz2 m (by omega)] at hca
      rw [hz2 (m + 1) (by omega)] at hcb
      have hra := hTd.rows.row _ (hp2 m (by omega))
      have hrb := hTd.rows.row _ (hp2 (m + 1) (by omega))
      rw [← hx2 m (by omega)] at hra
      rw [← hx2 (m + 1) (by omega)] at hrb
      have hla := hxl m (by omega)
      have hlb := hxl (m + 1) (by omega)
      obtain ⟨xa, hxa⟩ : ∃ xa, xa = (tree n).getD m [] := ⟨_, rfl⟩
      obtain ⟨xb, hxb⟩ : ∃ xb, xb = (tree n).getD (m + 1) [] := ⟨_, rfl⟩
      rw [← hxa] at hra hla
      rw [← hxb] at hrb hlb
      obtain ⟨Aa, ca, ea, hlca, hcra⟩ := Kd.R_reads hra
      obtain ⟨Ab, cb, eb, hlcb, hcrb⟩ := Kd.R_reads hrb
      rw [ea] at hca
      rw [eb] at hcb
      have HCA := Aside0.mk hca
      have HCB := Aside0.mk hcb
      have HRA := Aside0.mk hcra
      have HRB := Aside0.mk hcrb
      have EXA := Aside0.mk hxa.symm
      have EXB := Aside0.mk hxb.symm
      have EHB := Aside0.mk eb
      have HLN := Aside0.mk (And.intro hla hlb)
      have HT := Aside0.mk hTd
      have HNX := Aside0.mk hTd.next
      have HBW := Aside0.mk hTd.below
      have GLT := Aside0.mk hgl2
      have HLM := Aside0.mk hltm
      have HNL := Aside0.mk (show ((((treeJ I pool.length m).map fun i => pool2.getD i nilv).map fun h => [h]).length + 2) * 24 ≤ 140737488355328 by simp only [List.length_map, treeJ_len]; omega)
      have hs1 : IntKind.i64.wrap (m : Int) = (m : Int) := by rw [i64_w]; unfold wrap64; omega
      have p1 : (0 ≤ (m : Int) + 1) = True := eq_true (by omega)
      have p2 : ((m : Int) + 1 < (I.length : Int)) = True := eq_true (by omega)
      have p3 : (0 ≤ (m : Int)) = True := eq_true (by omega)
      have p4 : ((m : Int) < (I.length : Int)) = True := eq_true (by omega)
      clear hca hcb hra hrb hla hlb hcra hcrb hxa hxb ea eb hT hTd hz2 hp2 hx2 hxl hcell2 hgl2 hlca hlcb hIl2 hgb2 en_ hcapl2
      go_wp2_with fail
      refine start_ (n := 20) (S := fun w' => w'.cell? ⟨gl, m, none⟩ = some (.slice Aa xa.length ca) ∧ w'.cell? ⟨gl, m + 1, none⟩ = some (.slice Ab xb.length cb)) (ds := [18]) #[false, false, false, false, false, false, false, false, false, false, false, false, false, false, false, false, false, false, false, false] (by kernel_rfl) rfl rfl ⟨HCA.out, HCB.out⟩ (fun hHeld => ?_)
      refine pure_ (i := 0) (N := some 29) (v := ?_) (a' := ?_) #[true, false, false, false, false, false, false, false, false, false, false, false, false, false, false, false, false, false, false, false] rfl rfl (by kernel_rfl) (fun _ _ _ h => h) (Or.inl ⟨by rfl, ?_⟩) ?_ ?_
      rotate_left
      ·intro w'
       go_simp
       with_reducible rfl
      rotate_left
      ·simp only [Act.put, List.setIfInBounds_toArray, List.set_cons_zero, List.set_cons_succ, i64_w, i32_w]
       rfl
      refine pure_ (i := 2) (N := some 31) (v := ?_) (a' := ?_) #[true, false, true, false, false, false, false, false, false, false, false, false, false, false, false, false, false, false, false, false] rfl rfl (by kernel_rfl) (fun _ _ _ h => h) (Or.inl ⟨by rfl, ?_⟩) ?_ ?_
      rotate_left
      ·intro w'
       go_simp
       with_reducible rfl
      rotate_left
      ·simp only [Act.put, List.setIfInBounds_toArray, List.set_cons_zero, List.set_cons_succ, i64_w, i32_w]
       rfl
      refine pure_ (i := 3) (N := some 32) (v := ?_) (a' := ?_) #[true, false, true, true, false, false, false, false, false, false, false, false, false, false, false, false, false, false, false, false] rfl rfl (by kernel_rfl) (fun _ _ _ h => h) (Or.inl ⟨by rfl, ?_⟩) ?_ ?_
      rotate_left
      ·intro w'
       go_simp
       with_reducible rfl
      rotate_left
      ·simp only [Act.put, List.setIfInBounds_toArray, List.set_cons_zero, List.set_cons_succ, i64_w, i32_w]
       rfl
      refine pure_ (i := 4) (N := some 33) (v := ?_) (a' := ?_) #[true, false, true, true, true, false, false, false, false, false, false, false, false, false, false, false, false, false, false, false] rfl rfl (by kernel_rfl) (fun _ _ _ h => h) (Or.inl ⟨by rfl, ?_⟩) ?_ ?_
      rotate_left
      ·intro w'
       go_simp
       with_reducible rfl
      rotate_left
      ·simp only [Act.put, List.setIfInBounds_toArray, List.set_cons_zero, List.set_cons_succ, i64_w, i32_w]
       rfl
      refine pure_ (i := 5) (N := some 34) (v := ?_) (a' := ?_) #[true, false, true, true, true, true, false, false, false, false, false, false, false, false, false, false, false, false, false, false] rfl rfl (by kernel_rfl) (fun _ _ _ h => h) (Or.inl ⟨by rfl, ?_⟩) ?_ ?_
      rotate_left
      ·intro w'
       go_simp
       with_reducible rfl
      rotate_left
      ·simp only [Act.put, List.setIfInBounds_toArray, List.set_cons_zero, List.set_cons_succ, i64_w, i32_w]
       rfl
      refine pure_ (i := 8) (N := some 37) (v := ?_) (a' := ?_) #[true, false, true, true, true, true, false, false, true, false, false, false, false, false, false, false, false, false, false, false] rfl rfl (by kernel_rfl) (fun _ _ _ h => h) (Or.inl ⟨by rfl, ?_⟩) ?_ ?_
      rotate_left
      ·intro w'
       go_simp
       with_reducible rfl
      rotate_left
      ·simp only [Act.put, List.setIfInBounds_toArray, List.set_cons_zero, List.set_cons_succ, i64_w, i32_w]
       rfl
      refine pure_ (i := 9) (N := some 38) (v := ?_) (a' := ?_) #[true, false, true, true, true, true, false, false, true, true, false, false, false, false, false, false, false, false, false, false] rfl rfl (by kernel_rfl) (fun _ _ _ h => h) (Or.inl ⟨by rfl, ?_⟩) ?_ ?_
      rotate_left
      ·intro w'
       go_simp
       with_reducible rfl
      rotate_left
      ·simp only [Act.put, List.setIfInBounds_toArray, List.set_cons_zero, List.set_cons_succ, i64_w, i32_w]
       rfl
      refine pure_ (i := 10) (N := some 39) (v := ?_) (a' := ?_) #[true, false, true, true, true, true, false, false, true, true, true, false, false, false, false, false, false, false, false, false] rfl rfl (by kernel_rfl) (fun _ _ _ h => h) (Or.inl ⟨by rfl, ?_⟩) ?_ ?_
      rotate_left
      ·intro w'
       go_simp
       with_reducible rfl
      rotate_left
      ·simp only [Act.put, List.setIfInBounds_toArray, List.set_cons_zero, List.set_cons_succ, i64_w, i32_w]
       rfl
      refine pure_ (i := 13) (N := some 42) (v := ?_) (a' := ?_) #[true, false, true, true, true, true, false, false, true, true, true, false, false, true, false, false, false, false, false, false] rfl rfl (by kernel_rfl) (fun _ _ _ h => h) (Or.inl ⟨by rfl, ?_⟩) ?_ ?_
      rotate_left
      ·intro w'
       go_simp
       with_reducible rfl
      rotate_left
      ·simp only [Act.put, List.setIfInBounds_toArray, List.set_cons_zero, List.set_cons_succ, i64_w, i32_w]
       rfl
      refine pure_ (i := 14) (N := some 43) (v := ?_) (a' := ?_) #[true, false, true, true, true, true, false, false, true, true, true, false, false, true, true, false, false, false, false, false] rfl rfl (by kernel_rfl) (fun _ _ _ h => h) (Or.inl ⟨by rfl, ?_⟩) ?_ ?_
      rotate_left
      ·intro w'
       go_simp
       with_reducible rfl
      rotate_left
      ·simp only [Act.put, List.setIfInBounds_toArray, List.set_cons_zero, List.set_cons_succ, i64_w, i32_w]
       rfl
      refine pure_ (i := 15) (N := some 44) (v := ?_) (a' := ?_) #[true, false, true, true, true, true, false, false, true, true, true, false, false, true, true, true, false, false, false, false] rfl rfl (by kernel_rfl) (fun _ _ _ h => h) (Or.inl ⟨by rfl, ?_⟩) ?_ ?_
      rotate_left
      ·intro w'
       go_simp
       with_reducible rfl
      rotate_left
      ·simp only [Act.put, List.setIfInBounds_toArray, List.set_cons_zero, List.set_cons_succ, i64_w, i32_w]
       rfl
      refine take_ (i := 6) (N := some 35) (v := ?_) (a' := ?_) #[true, false, true, true, true, true, true, false, true, true, true, false, false, true, true, true, false, false, false, false] rfl rfl (by kernel_rfl) (fun _ _ _ h => h) (Or.inl ⟨by rfl, ?_⟩) hHeld ?_ ?_
      rotate_left
      ·rintro w' ⟨s0, s1⟩
       go_simp
       with_reducible rfl
      rotate_left
      ·simp only [Act.put, List.setIfInBounds_toArray, List.set_cons_zero, List.set_cons_succ, i64_w, i32_w]
       rfl
      refine take_ (i := 11) (N := some 40) (v := ?_) (a' := ?_) #[true, false, true, true, true, true, true, false, true, true, true, true, false, true, true, true, false, false, false, false] rfl rfl (by kernel_rfl) (fun _ _ _ h => h) (Or.inl ⟨by rfl, ?_⟩) hHeld ?_ ?_
      rotate_left
      ·rintro w' ⟨s0, s1⟩
       go_simp
       with_reducible rfl
      rotate_left
      ·simp only [Act.put, List.setIfInBounds_toArray, List.set_cons_zero, List.set_cons_succ, i64_w, i32_w]
       rfl
      refine take_ (i := 16) (N := some 45) (v := ?_) (a' := ?_) #[true, false, true, true, true, true, true, false, true, true, true, true, false, true, true, true, true, false, false, false] rfl rfl (by kernel_rfl) (fun _ _ _ h => h) (Or.inl ⟨by rfl, ?_⟩) hHeld ?_ ?_
      rotate_left
      ·rintro w' ⟨s0, s1⟩
       go_simp
       with_reducible rfl
      rotate_left
      ·simp only [Act.put, List.setIfInBounds_toArray, List.set_cons_zero, List.set_cons_succ, i64_w, i32_w]
       rfl
      refine one_ (i := 1) (N := some 30) #[true, true, true, true, true, true, true, false, true, true, true, true, false, true, true, true, true, false, false, false] rfl rfl (by kernel_rfl) (by decide) (fun K hK => ?_)
      refine Kd.R_lit_step (Kd.int .i64) (w0 := wr.drew) wr.drew.heap.size 3 (by rfl) rfl (N := 30) (xs := ([] : List Int)) (inner := []) (ok := fun _ => True) (okp := fun _ => True) ?hr (Reps.none _ _) (fun _ h => h) trivial (Below.refl _ _) (Nat.le_refl _) (by simp) ?_
      case hr => first | (go_simp; done) | (go_simp; rfl)
      intro v30 w1 ho hb hg hn
      have HO1 := Aside0.mk ho
      have HB1 := Aside0.mk hb
      have HN1 := Aside0.mk (hn.imp fun _ h_ => h_.1)
      clear ho hb hg hn
      refine hK.out _ _ ⟨(HB1.out.cell GLT.out).trans HCA.out, (HB1.out.cell GLT.out).trans HCB.out⟩ (fun hHeld => ?_)
      clear hK K
      refine norm_ (a' := ?_) ?_ ?_
      rotate_left
      ·show Act.put _ (some 30) _ = _
       simp only [Act.put, List.setIfInBounds_toArray, List.set_cons_zero, List.set_cons_succ, i64_w, i32_w]
       rfl
      refine one_ (i := 7) (N := some 36) #[true, true, true, true, true, true, true, true, true, true, true, true, false, true, true, true, true, false, false, false] rfl rfl (by kernel_rfl) (by decide) (fun K hK => ?_)
      refine Kd.R_append_rows_step (Kd.int .i64) (Rr := (Kd.int .i64).K w1) (w0 := wr.drew) wr.drew.heap.size (by rfl) (.tmp 30) (.tmp 35) 26 3 (.int .i64 0) 8 rfl Try.underlying26 infoT3 rfl (by decide) (by decide) v30 [] xa Aa xa.length ca (fun _ => True) (fun _ => False) rfl rfl HO1.out (Kd.C_below HRA.out HB1.out) (fun _ _ h => h) (fun _ h => h.elim) (fun _ _ => trivial) HB1.out HB1.out.size (by have h1_ := HLN.out.1; have h2_ := HLN.out.2; simp only [List.length_append, List.length_nil]; omega) ?_
      intro v36 w2 ho hb hg hat
      have HO2 := Aside0.mk ho
      have HB2 := Aside0.mk hb
      have HN2 := Aside0.mk (own_after HN1.out hat)
      clear ho hb hg hat
      refine hK.out _ _ ⟨(HB2.out.cell GLT.out).trans HCA.out, (HB2.out.cell GLT.out).trans HCB.out⟩ (fun hHeld => ?_)
      clear hK K
      refine norm_ (a' := ?_) ?_ ?_
      rotate_left
      ·show Act.put _ (some 36) _ = _
       simp only [Act.put, List.setIfInBounds_toArray, List.set_cons_zero, List.set_cons_succ, i64_w, i32_w]
       rfl
      refine one_ (i := 12) (N := some 41) #[true, true, true, true, true, true, true, true, true, true, true, true, true, true, true, true, true, false, false, false] rfl rfl (by kernel_rfl) (by decide) (fun K hK => ?_)
      refine Kd.R_append_rows_step (Kd.int .i64) (Rr := (Kd.int .i64).K w2) (w0 := wr.drew) wr.drew.heap.size (by rfl) (.tmp 36) (.tmp 40) 26 3 (.int .i64 0) 8 rfl Try.underlying26 infoT3 rfl (by decide) (by decide) v36 ([] ++ xa) xb Ab xb.length cb (fun _ => True) (fun _ => False) rfl rfl HO2.out (Kd.C_below HRB.out HB2.out) (fun _ _ h => h) (fun _ h => h.elim) (fun _ _ => trivial) HB2.out HB2.out.size (by have h1_ := HLN.out.1; have h2_ := HLN.out.2; simp only [List.length_append, List.length_nil]; omega) ?_
      intro v41 w3 ho hb hg hat
      have HB3 := Aside0.mk hb
      obtain ⟨b41, hn41⟩ := own_after HN2.out hat
      obtain ⟨A41, c41, e41⟩ := Kd.R_slice ho
      subst e41
      have hl41 : (([] : List Int) ++ xa ++ xb).length = xa.length + xb.length := by simp
      simp only [hl41] at ho hn41
      clear hl41
      have HN3 := Aside0.mk hn41
      have HO3 := Aside0.mk ho
      clear ho hb hg hat hn41
      refine hK.out _ _ ⟨(HB3.out.cell GLT.out).trans HCA.out, (HB3.out.cell GLT.out).trans HCB.out⟩ (fun hHeld => ?_)
      clear hK K
      refine norm_ (a' := ?_) ?_ ?_
      rotate_left
      ·show Act.put _ (some 41) _ = _
       simp only [Act.put, List.setIfInBounds_toArray, List.set_cons_zero, List.set_cons_succ, i64_w, i32_w]
       rfl
      refine one_ (i := 17) (N := some 46) #[true, true, true, true, true, true, true, true, true, true, true, true, true, true, true, true, true, true, false, false] rfl rfl (by kernel_rfl) (by decide) (fun K hK => ?_)
      refine value_ (w1 := ?_) (v := ?_) (by rfl) rfl ?_ ?_
      rotate_left 2
      ·go_simp
       constructor
       ·rfl
       ·rfl
      refine hK.out _ _ ⟨(World.cell?_of_block (Below.heap_alloc w3 _ _ (Nat.lt_of_lt_of_le GLT.out HB3.out.size))).trans ((HB3.out.cell GLT.out).trans HCA.out), (World.cell?_of_block (Below.heap_alloc w3 _ _ (Nat.lt_of_lt_of_le GLT.out HB3.out.size))).trans ((HB3.out.cell GLT.out).trans HCB.out)⟩ (fun hHeld => ?_)
      clear hK K
      refine norm_ (a' := ?_) ?_ ?_
      rotate_left
      ·show Act.put _ (some 46) _ = _
       simp only [Act.put, List.setIfInBounds_toArray, List.set_cons_zero, List.set_cons_succ, i64_w, i32_w]
       rfl
      refine last_ (i := 18) (N := some 47) #[true, true, true, true, true, true, true, true, true, true, true, true, true, true, true, true, true, true, true, false] rfl rfl (by kernel_rfl) (by decide) (fun K hK => ?_)
      refine Kd.R_append_rows_step (Kd.raw 1) (Rr := (Kd.raw 1).K w3) (w0 := w) w.heap.size (by rfl) (.tmp 29) (.tmp 46) 36 26 (.slice none 0 0) 24 rfl Try.underlying36 infoT27 rfl (by decide) (by decide) u5 _ [[.slice A41 (xa.length + xb.length) c41], [.slice Ab xb.length cb]] (some ⟨w3.heap.size, 0, none⟩) 2 2 (fun _ => True) (fun _ => False) rfl rfl (Kd.R_below HNX.out (below_alloc HB3.out _)) (two_rows w3 _ _ rfl rfl) (fun _ _ h => h) (fun _ h => h.elim) (fun _ _ => trivial) (HBW.out.trans ((below_alloc HB3.out _).mono HBW.out.size)) (Nat.le_trans HBW.out.size (below_alloc HB3.out _).size) HNL.out ?_
      intro v47 w5 ho hb hg hat
      have HT5 := Aside0.mk (TInv.step2 HT.out HLT.out HLM.out EXA.out EXB.out EHB.out HB3.out HO3.out HN3.out (below_alloc (Below.refl _ _) _) ho hb hg hat)
      clear ho hb hg hat
      refine hK.out _ _ ?_
      clear hK K
      refine norm_ (a' := ?_) ?_ ?_
      rotate_left
      ·show Act.put _ (some 47) _ = _
       simp only [Act.put, List.setIfInBounds_toArray, List.set_cons_zero, List.set_cons_succ, i64_w, i32_w]
       rfl
      refine pure_ (i := 19) (N := some 5) (v := ?_) (a' := ?_) #[true, true, true, true, true, true, true, true, true, true, true, true, true, true, true, true, true, true, true, true] rfl rfl (by kernel_rfl) (fun _ _ _ h => h) (Or.inl ⟨by rfl, ?_⟩) ?_ ?_
      rotate_left
      ·intro w'
       go_simp
       with_reducible rfl
      rotate_left
      ·simp only [Act.put, List.setIfInBounds_toArray, List.set_cons_zero, List.set_cons_succ, i64_w, i32_w]
       rfl
      refine done_ (by kernel_rfl) ?_
      go_wp2
      go_roundg (I.length - (m + 1))
      case measure => omega
      case rel => exact ⟨m + 1, by go_num, by omega, Nat.le_refl _, HT5⟩
     ·have cm : decide ((m : Int) + 1 < (I.length : Int)) = false := decide_eq_false (by omega)
      obtain ⟨pool2, px2, hT⟩ := HT1.out
      have HTO := Aside0.mk (TOut.next hT HND.out HLT.out (by omega))
      clear hT
      go_wp2
      go_roundg (kk + 1 - (n + 1))
      case measure => omega
      case rel => exact ⟨n + 1, by go_num, by omega, Nat.le_refl _, HTO⟩
   ·have cn : decide ((n : Int) < (kk : Int)) = false := decide_eq_false (by omega)
    have : n = kk := by omega
    subst this
    go_wp2
    go_ret
    obtain ⟨hs, h1_, h2_, h3_⟩ := HT0.out.end
    exact ⟨_, rfl, hs, h1_, by rw [EOF.out]; exact h2_, h3_⟩
 ·have AL := Aside0.mk (show spec_l1In.f a 0 5 = some false by
   simp only [spec_l1In.f]
   by_cases h1 : a ≥ 0
   ·rw [if_pos h1, decide_eq_false (by omega)]
   ·rw [if_neg h1])
  have HN := Aside0.mk (show a < 0 ∨ a > 5 by omega)
  have hB := Aside0.mk hst
  clear hst c0
  go_enter Try.func22, Try.ntmps22
  go_wp2_with (first | (go_at_call 41; (with_reducible refine (spec_l1In.calls _ _ _ false _ AL.out).mono ?_); rintro e w' ⟨rfl, ⟨nd, rfl⟩⟩))
  go_ret
  obtain ⟨_, _, _, _, _, _, _, _, hB⟩ := hB.out
  have h_ := TreeR.nil HN.out (pw_below_drewN hB nd)
  refine ⟨_, rfl, ?_⟩
  simpa using h_

/-! ### the tree's rows in the print's own words -/
theorem tree_S {w w' : World} {a : Int} {v : Value} (h : TreeR w w' a v) : Kd.S (Kd.slice 3 (Kd.int .i64)) 26 w' w.heap.size (fun _ => True) v (treeOf a) ∧ Below w.heap.size w w' := by
 obtain ⟨hs, hO, hP, hB⟩ := h
 refine ⟨?_, hB⟩
 have hl := hP.len
 have hO2 := hO
 obtain ⟨_, inner, ho, hr⟩ := hO
 have hn : (hs.map fun h => [h]).length = (treeOf a).zipIdx.length := by simp [hl]
 have hnd : (hs.map Value.ownBlock).Nodup := by
  rw [List.nodup_iff_pairwise_ne, List.pairwise_iff_getElem]
  intro i j hi hj hij e
  simp only [List.length_map] at hi hj
  simp only [List.getElem_map] at e
  refine hP.apart i j hi hj (by omega) ?_
  simpa [List.getD_eq_getElem?_getD, List.getElem?_eq_getElem hi, List.getElem?_eq_getElem hj] using e
 refine ⟨fun k => (hs.map Value.ownBlock).idxOf (some k), fun _ _ => trivial, inner, by rw [← hn]; exact ho, by rw [← hn]; exact hr.1, fun j p hj => ?_⟩
 rw [List.getElem?_zipIdx, Nat.zero_add] at hj
 obtain ⟨x, hx, rfl⟩ := Option.map_eq_some_iff.1 hj
 obtain ⟨hjl, hjx⟩ := List.getElem?_eq_some_iff.1 hx
 have hjh : j < hs.length := by omega
 have h1 := (hr.2 j [hs[j]] (by rw [List.getElem?_map, List.getElem?_eq_getElem hjh]; rfl)).1
 have hrow := hP.row j hjh
 have g1 : hs.getD j nilv = hs[j] := by simp [List.getD_eq_getElem?_getD, List.getElem?_eq_getElem hjh]
 have g2 : (treeOf a).getD j [] = x := by simp [List.getD_eq_getElem?_getD, hx]
 rw [g1, g2] at hrow
 refine ⟨hs[j], h1, ?_⟩
 refine Kd.R_mono (Kd.R_tight rfl hrow) (fun k hk => ⟨⟨trivial, own_apart hO2 hrow k hk.symm⟩, ?_⟩)
 show (hs.map Value.ownBlock).idxOf (some k) = j
 have e2 : (hs.map Value.ownBlock)[j]'(by simpa using hjh) = some k := by simp [hk]
 rw [← e2]
 exact List.Nodup.idxOf_getElem hnd j (by simpa using hjh)
/-! ### impl_ChristoffelTree: function 20 -/
def impl_ChristoffelTree.f (a0 : Int) : Option ((List (List Int))) := some (treeOf a0)
set_option maxHeartbeats 8000000 in
set_option maxRecDepth 100000 in
theorem impl_ChristoffelTree.calls (a0 : Int) (r : List (List Int)) (w : World) (h : impl_ChristoffelTree.f a0 = some r) :
  Calls Try.prog 20 #[.int .i64 a0] w fun e w' => ∃ v0_ : Value, e = .returned (v0_) ∧ Kd.S (Kd.slice 3 (Kd.int .i64)) 26 w' w.heap.size (fun _ => True) v0_ r ∧ Below w.heap.size w w' := by
 obtain rfl := Option.some.inj h
 refine (hand_tree6 a0 w).mono ?_
 rintro e w' ⟨v, rfl, ht⟩
 exact ⟨v, rfl, tree_S ht⟩

end Go.Proofs.Ytcofhkocfkappaa.PFnChristoffel
