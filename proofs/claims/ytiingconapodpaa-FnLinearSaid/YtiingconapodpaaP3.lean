/- The machine side of one law: some contracts printed by this session's own program, some typed by hand. -/
import Derived.Test.YtiingconapodpaaW
import Derived.Test.YtiingconapodpaaP2
import Derived.Test.YtiingconapodpaaP1
import Derived.Test.YtiingconapodpaaP0
namespace Go.Proofs.Ytiingconapodpaa.PFnLinear
open Go.RowKit Go.Proofs.YtiingconapodpaaW Go.Proofs.YtiingconapodpaaW.PrintWords Go.Proofs.YtiingconapodpaaW.PrintLast Go.Proofs.YtiingconapodpaaW.PrintMore
attribute [local go_sem] pO pJ qj qm oZ oW pK pM
set_option linter.unusedVariables false
set_option maxHeartbeats 8000000
set_option maxRecDepth 100000
set_option linter.unusedSimpArgs false
section
variable {P:Program} {ops:Array Oper} {rest:List Oper} {o:Oper} {a:Act} {Q:Exit→Act→World→Prop}
theorem Mh {w0 W:World} (base:Nat) (hgd:o.guard=none) (s x:Operand) (t t' e:TypeId) (ho:o.op=.call {callee:=.builtin .copy,args:= #[s,x],argTypes:= #[t,t']}) (ht:P.underlying t=some (.slice e)) (hinfo:(P.info? e).map (·.size)=some 1)
  {g off dl dc cap:Nat} (xs ys:List Int) (A:Option Addr) (m c:Nat) (ok:Nat→Prop) (hs:a.eval s=.slice (some ⟨g,off,none⟩) dl dc) (hx:a.eval x=.slice A m c) (hoff:off+dl=xs.length) (hm:m≤dl)
  (HO:(Kd.int .i64).R e W base ok (.slice (some ⟨g,0,none⟩) xs.length cap) xs) (HR:(Kd.int .i64).C W A m ys) (HB:Below base w0 W) (hbase:base≤W.heap.size)
  (h:∀w1,(Kd.int .i64).R e w1 base ok (.slice (some ⟨g,0,none⟩) xs.length cap) (xs.take off++ys++xs.drop (off+m))→Below base w0 w1→W.grownBy w1 (some g)→wpList P ops Q rest (a.put o.dst (.int .i64 ((m:Nat):Int))) w1):
  wpList P ops Q (o::rest) a W:=by
 have hR:=Kd.xH (enc:=Value.int .i64) (d:=(0:Int)) (h1:=fun _=>rfl) HR
 have cB:ys.length=m:=hR.1
 have hown:=Kd.DN HO
 have hmin:min m dl=m:=Nat.min_eq_left hm
 have fin:∀w1,(Builtin.copy_ #[t,t'] o.type #[.slice (some ⟨g,off,none⟩) dl dc,.slice A m c]).run P W=.ok (goInt ((m:Nat):Int)) w1→(Kd.int .i64).R e w1 base ok (.slice (some ⟨g,0,none⟩) xs.length cap) (xs.take off++ys++xs.drop (off+m))→W.grownBy w1 (some g)→wpList P ops Q (o::rest) a W:=by
  intro w1 hr hrow hg;refine wpList_plain hgd fun K hK=>?_;unfold Oper.wp execOp;simp only[ho,resolve,invoke,builtin,Sem.run_bind,Sem.run_pure,Result.andThen_ok,mA,mB,mC,hs,hx,hr];exact hK _ _ (h w1 hrow (HB.grown hg hbase (wB hown)) hg)
 rcases Nat.eq_zero_or_pos m with h0|hp
 ·subst h0
  refine fin W (run_copy_none W t t' o.type e _ A dl dc 0 c ht hinfo (Nat.min_eq_left (Nat.zero_le _))) ?_ (World.grownBy.refl W _);rw[List.eq_nil_of_length_eq_zero cB,List.append_nil,Nat.add_zero,List.take_append_drop];exact HO
 ·obtain⟨ad,hA,hc⟩:=hR.2.2 om
  rcases hown.2 with⟨hv,_⟩|⟨g',cap',cur,hv,hb,hh,hnc,hcm,hcs,htake⟩
  ·cases hv
  injection hv with hv1 hv2 hv3
  injection hv1 with hv1
  injection hv1 with hv1
  subst hv1;subst hv3
  have hcs1:cur.size=cap:=om
  have hsrc:∀j u,(encs (Value.int .i64) ys)[j]? =some u→W.cell? (ad.add j)=some u:=by
   intro j u hu
   have hj:j<ys.length:=by
    rcases Nat.lt_or_ge j ys.length with h|h
    ·exact h
    ·rw[List.getElem?_eq_none (by rw[vY];exact h)]at hu;cases hu
   rw[Gu (d:=(0:Int)) _ j hj]at hu;rw[hc j om,←hu]
  have hkl:(encs (Value.int .i64) ys).length=m:=by rw[vY];exact cB
  have hr:=run_copy_cells (P:=P) W t t' o.type e g off dl dc ad m c (encs (Value.int .i64) ys) ht hinfo (by rw[hkl];exact hmin.symm) hsrc
   (fun j hj=>by rw[cell_of_row W g _ cur e (0,0) hh];simp;omega) (fun j _=>nY hh _) (by intro u hu;simp only[encs,List.mem_map]at hu;obtain⟨q,_,rfl⟩:=hu;rfl)
  obtain⟨cur',h3,h4,h5⟩:=yR (encs (Value.int .i64) ys) off W cur hh (by rw[hkl];omega);obtain⟨s1,s2,s3,s4⟩:=yo g (encs (Value.int .i64) ys) off W
  have hln:(xs.take off++ys++xs.drop (off+m)).length=xs.length:=by
   simp only[List.length_append,List.length_take,List.length_drop]
   omega
  refine fin _ (by rw[hA,hr,hkl]) ?_ ⟨s1,s2,s3,by rw[s4];exact Nat.le_refl _,fun k _ hk=>yX _ _ k (fun he=>hk (by rw[he]))⟩;rw[←hln];refine Kd.Dx ?_ (fun k hk=>HO.1 k hk);rw[hln];refine⟨by rw[vY,hln,Nat.mul_one],.inr ⟨g,cap,cur',rfl,hb,h3,hnc,hcm,by rw[h4,hcs],?_⟩⟩;rw[h5,hkl,CO,CO,Nat.mul_one]
  have htk:cur.toList.take xs.length=encs (Value.int .i64) xs:=by rw[←htake,Nat.mul_one]
  have e1:encs (Value.int .i64) (xs.take off)=cur.toList.take off:=by
   have:encs (Value.int .i64) (xs.take off)=(encs (Value.int .i64) xs).take off:=by simp[encs,List.map_take]
   rw[this,←htk,List.take_take,Nat.min_eq_left om]
  have e2:encs (Value.int .i64) (xs.drop (off+m))=(cur.toList.take xs.length).drop (off+m):=by
   rw[htk];simp[encs,List.map_drop]
  rw[e1,e2,List.take_append,List.drop_take]
  have hl1:(cur.toList.take off++encs (Value.int .i64) ys).length=off+m:=by
   rw[List.length_append,hkl,List.length_take,Array.length_toList];omega
  rw[List.take_of_length_le (by rw[hl1];omega),hl1]
end
def sS {α:Type} (e:Nat) (d:Kd α):Kd (List α) where
 sz:=1
 E:=e::d.E
 K:=(Kd.slice e d).K
 M:=fun w base ok xs cs=>∃v,cs=[v]∧Kd.S d e w base ok v xs
 K_len:=(Kd.slice e d).K_len
 K_one:=(Kd.slice e d).K_one
 K_below:=(Kd.slice e d).K_below
 K_of_M:=by
  rintro w base ok x cs ⟨v,rfl,h⟩;exact(Kd.slice e d).K_of_M ⟨v,rfl,Kd.S_R h⟩
 M_mono:=by
  rintro w base ok ok' x cs hok ⟨v,rfl,h⟩;exact⟨v,rfl,Kd.nV h hok⟩
 M_bound:=by
  rintro w base ok x cs ⟨v,rfl,h⟩;exact⟨v,rfl,Kd.yP h⟩
 M_move:=by
  rintro w w1 base ok x cs hm ⟨v,rfl,h⟩;exact⟨v,rfl,Kd.I1 h hm⟩
 M_lower:=by
  rintro w base base' ok x cs hb ⟨v,rfl,h⟩;exact⟨v,rfl,Kd.uy h hb⟩
theorem La {α:Type} {d:Kd α} {e e' base:Nat} {w:World} {ok:Nat→Prop} {v:Value} {xs:List (List α)} (h:Kd.S (sS e d) e' w base ok v xs):Kd.R (Kd.slice e d) e' w base ok v xs:=by
 obtain⟨h0,h1⟩:=Kd.S_R h;refine⟨h0,h1.xS ?_⟩;rintro x cs ⟨u,rfl,hu⟩;exact⟨u,rfl,Kd.S_R hu⟩
def uZ (n m:Nat) (A B:List (List Int)):List (List Int):=A.map (fun r=>r++List.replicate m 0)++B.map (fun r=>List.replicate n 0++r)
def qb (n m:Nat) (A B:List (List (List Int))):List (List (List Int)):=List.zipWith (uZ n m) A B
def Kq (n:Nat) (l:List (List (List Int))):Bool:=l.all fun m=>decide (m.length=n) && m.all fun r=>decide (r.length=n)
def Kh (n m:Nat):List (List Int):=List.replicate n (List.replicate m 0)
def MB (ae:Int) (ab:List Int) (af:List (List (List Int))) (ah:List Int) (ak:Int) (aa:List Int) (ag:List (List (List Int))) (ai:List Int):Bool:=decide (0≤ae∧ae≤64∧ab.length≤40∧aa.length≤40∧ah.length≤40∧ai.length≤40∧(af.length:Int)=ae∧(ag.length:Int)=ae) && Kq ab.length af && Kq aa.length ag
def tV.f (k:Nat) (ae:Int) (ab:List Int) (af:List (List (List Int))) (ah:List Int) (ak:Int) (aa:List Int) (ag:List (List (List Int))) (ai:List Int):Option (Int×List Int×(List (List (List Int)))×List Int×Bool):=(nz.f k ae ab af ah).bind fun x=>if x=true then((nz.f k ak aa ag ai).bind fun y=>if y=true then(if ae=ak then(nN.f k [ab,aa]).bind fun u=>(nN.f k [ah,ai]).bind fun v=>(p_.f k ((ab.length+aa.length:Nat):Int)).bind fun q=>if u=ab++aa∧v=ah++ai∧q=Kh (ab.length+aa.length) (ab.length+aa.length)∧MB ae ab af ah ak aa ag ai=true then(nz.f k ae (ab++aa) (qb ab.length aa.length af ag) (ah++ai)).bind fun z=>if z=true then some (ae,ab++aa,qb ab.length aa.length af ag,ah++ai,true)else some (0,[],[],[],false)else none else some (0,[],[],[],false))else some (0,[],[],[],false))else some (0,[],[],[],false)
theorem NP {W:World} {g:Nat} (a b c d:Value) (k:Nat) (hk:k≠g):((((W.setCell ⟨g,0,none⟩ a).setCell ⟨g,1,none⟩ b).setCell ⟨g,2,none⟩ c).setCell ⟨g,3,none⟩ d).heap[k]? =W.heap[k]?:=by
 rw[Below.heap_setCell _ _ _ _ hk,Below.heap_setCell _ _ _ _ hk,Below.heap_setCell _ _ _ _ hk,Below.heap_setCell _ _ _ _ hk]
theorem rd_ {α:Type} {d:Kd α} {e base:Nat} {ok:Nat→Prop} {xs:List α} {w:World} {A:Option Addr} {n cp:Nat} (h:Kd.R d e w base ok (.slice A n cp) xs):d.C w A xs.length xs∧xs.length≤cp:=by
 have h2:=Kd.mX h;exact⟨h2.2.2,by have:=h2.1;have:=h2.2.1;omega⟩
theorem L8 (n m:Nat):(Kh n m).length=n:=by simp[Kh]
def wE {α β:Type} (P:List α) (T:List β) (F:β→α) (t:Nat) (z:α) (j:Nat):List α:=P++(T.take j).map F++List.replicate (t - j) z
theorem Hy {α β:Type} (P:List α) (T:List β) (F:β→α) (t:Nat) (z:α) (j:Nat) (hj:j≤T.length) (ht:T.length≤t):(wE P T F t z j).length=P.length+t:=by simp[wE];omega
theorem Hf {α β:Type} (P:List α) (T:List β) (F:β→α) (t:Nat) (z d:α) (j p:Nat) (hj:j<T.length) (ht:T.length≤t) (hp:p=P.length+j):(wE P T F t z j).set p (F T[j])=wE P T F t z (j+1)∧(wE P T F t z j).getD p d=z:=by
 subst hp;unfold wE
 have hl:(P++(T.take j).map F).length=P.length+j:=by simp;omega
 obtain⟨q,hq⟩:∃q,t - j=q+1:=⟨t - j - 1,om⟩;rw[hq,List.replicate_succ,show t - (j+1)=q by omega,List.take_succ_eq_append_getElem hj,List.map_append,←List.append_assoc,List.set_append_right _ _ om,hl,Nat.sub_self];refine⟨sp,?_⟩;rw[List.getD_eq_getElem?_getD,List.getElem?_append_right om,hl,Nat.sub_self]
 rfl
theorem Gb (n m:Nat) (A B:List (List (List Int))) (i:Nat) (ha:i<A.length) (hb:i<B.length):(qb n m A B).take (i+1)=(qb n m A B).take i++[uZ n m A[i] B[i]]:=by
 have hl:i<(qb n m A B).length:=by simp[qb];omega
 rw[List.take_succ_eq_append_getElem hl]
 simp[qb]
theorem MK {n:Nat} {l:List (List (List Int))} (h:Kq n l=true) {i:Nat} (hi:i<l.length):l[i].length=n∧∀r∈l[i],r.length=n:=by
 unfold Kq at h;rw[List.all_eq_true]at h
 have:=h _ (List.getElem_mem hi)
 rw[Bool.and_eq_true,List.all_eq_true]at this;exact⟨of_decide_eq_true this.1,fun r hr=>of_decide_eq_true (this.2 r hr)⟩
def Old (w7:World) (g:Nat) (W:World):Prop:=w7.heap.size≤W.heap.size∧∀k,k<w7.heap.size→k≠g→W.heap[k]? =w7.heap[k]?
theorem Old.blk {w7 W:World} {g b:Nat} {o:Obj} (h:Old w7 g W) (hb:w7.heap[b]? =some o) (hn:b≠g):W.heap[b]? =some o:=(h.2 b (pY hb) hn).trans hb
theorem Old.below {w7 W W':World} {g:Nat} (h:Old w7 g W) (hb:Below W.heap.size W W'):Old w7 g W':=⟨Nat.le_trans h.1 hb.size,fun k h1 h2=>(hb.block k (Nat.lt_of_lt_of_le h1 h.1)).trans (h.2 k h1 h2)⟩
def NV (w w7 W:World) (gO:Nat) (bo:Int) (v7 v8:Value) (Ms:List (List (List Int))) (i:Nat):Prop:=Below w.heap.size w W∧Old w7 gO W∧∃um,W.heap[gO]? =some (.cells #[.int .i64 bo,v7,um,v8] 33 (0,0))∧Kd.S (sS 25 (Kd.slice 3 (Kd.int .i64))) 24 W w.heap.size (fun k=>w7.heap.size≤k) um (Ms.take i)
def KY (wi W:World) (v:Value) (M:List (List Int)):Prop:=Below wi.heap.size wi W∧Kd.S (Kd.slice 3 (Kd.int .i64)) 25 W wi.heap.size (fun _=>True) v M
theorem PK {B g:Nat} {w W:World} {t:TypeId} {x y z u:Value} (h:W.heap[g]? =some (.cells #[x,y,z,u] t (0,0))) (hB:Below B w W) (hg:B≤g) (a b c d:Value):∃W',W'=(((W.setCell ⟨g,0,none⟩ a).setCell ⟨g,1,none⟩ b).setCell ⟨g,2,none⟩ c).setCell ⟨g,3,none⟩ d∧Below B w W'∧W'.heap[g]? =some (.cells #[a,b,c,d] t (0,0))∧W'.heap.size=W.heap.size∧∀k,k≠g→W'.heap[k]? =W.heap[k]?:=
 ⟨_,rfl,((((hB.setCell (p:=⟨g,0,none⟩) hg a).setCell (p:=⟨g,1,none⟩) hg b).setCell (p:=⟨g,2,none⟩) hg c).setCell (p:=⟨g,3,none⟩) hg d),oN (oN (oN (oN h 0 _ rfl) 1 _ rfl) 2 _ rfl) 3 _ rfl,by simp[World.setCell],fun k hk=>by rw[Below.heap_setCell _ _ _ _ hk,Below.heap_setCell _ _ _ _ hk,Below.heap_setCell _ _ _ _ hk,Below.heap_setCell _ _ _ _ hk]⟩
theorem Nt {w:World} {g e:Nat} {x y:List Int} {A B:Option Addr} {c d:Nat} (h:w.heap[g]? =some (.cells #[.slice A x.length c,.slice B y.length d] e (0,0))) (hx:Kd.C (Kd.int .i64) w A x.length x) (dG:x.length≤c) (hy:Kd.C (Kd.int .i64) w B y.length y) (dH:y.length≤d):Kd.C (Kd.slice 3 (Kd.int .i64)) w (some ⟨g,0,none⟩) 2 [x,y]:=by
 refine⟨rfl,om,fun _=>⟨_,rfl,fun j p hj=>?_⟩⟩
 match j with
 |0=>
  obtain rfl:x=p:=by simpa using hj
  refine⟨_,rfl,⟨A,c,rfl,dG,hx⟩,fun i u hu=>?_⟩
  match i with
  |0=>obtain rfl:Value.slice A x.length c=u:=by simpa using hu
      exact(pU h 0).trans rfl
  |i+1=>simp at hu
 |1=>
  obtain rfl:y=p:=by simpa using hj
  refine⟨_,rfl,⟨B,d,rfl,dH,hy⟩,fun i u hu=>?_⟩
  match i with
  |0=>obtain rfl:Value.slice B y.length d=u:=by simpa using hu
      exact(pU h 1).trans rfl
  |i+1=>simp at hu
 |j+2=>simp at hj
theorem uF {W:World} {g:Nat} {a b c f:Value} {l:List Value} {t:TypeId} (h:W.heap[g]? =some (.cells (a::b::c::f::l).toArray t (0,0))):(cB4 g a b c f W)∧W.frozen? ⟨g,0,none⟩=false∧W.frozen? ⟨g,1,none⟩=false∧W.frozen? ⟨g,2,none⟩=false∧W.frozen? ⟨g,3,none⟩=false:=
 ⟨⟨(pU h 0).trans rfl,(pU h 1).trans rfl,(pU h 2).trans rfl,(pU h 3).trans rfl⟩,nY h 0,nY h 1,nY h 2,nY h 3⟩
theorem kc_ {W W':World} {g:Nat} {o:Obj} (h:Aside0 (W.heap[g]? =some o)) (hb:Below W.heap.size W W'):Aside0 (W'.heap[g]? =some o):=⟨pg h.out hb⟩
theorem ks_ {w W W':World} (h:Aside0 (Below w.heap.size w W)) (hb:Below W.heap.size W W'):Aside0 (Below w.heap.size w W'):=⟨nZ h.out hb⟩
set_option maxHeartbeats 16000000 in
set_option maxRecDepth 100000 in
theorem tV.calls (k:Nat) (ae:Int) (al:Option Addr) (ap:Nat) (ab:List Int) (av:Option Addr) (ax:Nat) (af:List (List (List Int))) (am:Option Addr) (aq:Nat) (ah:List Int) (ak:Int) (an:Option Addr) (ar:Nat) (aa:List Int) (aw:Option Addr) (ay:Nat) (ag:List (List (List Int))) (ao:Option Addr) (au:Nat) (ai:List Int) (r1:Int) (r2:List Int) (r3:List (List (List Int))) (r4:List Int) (r5:Bool) (w:World) (aH:Kd.C (Kd.int .i64) w al ab.length ab) (az:ab.length≤ap) (aI:Kd.C (Kd.slice 25 (Kd.slice 3 (Kd.int .i64))) w av af.length af) (aA:af.length≤ax) (aJ:Kd.C (Kd.int .i64) w am ah.length ah) (aC:ah.length≤aq) (aM:Kd.C (Kd.int .i64) w an aa.length aa) (aD:aa.length≤ar) (aN:Kd.C (Kd.slice 25 (Kd.slice 3 (Kd.int .i64))) w aw ag.length ag) (aE:ag.length≤ay) (aQ:Kd.C (Kd.int .i64) w ao ai.length ai) (aG:ai.length≤au) (h:tV.f k ae ab af ah ak aa ag ai=some (r1,r2,r3,r4,r5)):
  Calls Try.prog 15 #[.agg #[.int .i64 ae,.slice al ab.length ap,.slice av af.length ax,.slice am ah.length aq],.agg #[.int .i64 ak,.slice an aa.length ar,.slice aw ag.length ay,.slice ao ai.length au]] w fun e w'=>∃bC cK bD:Value,e=.returned (.tuple #[.agg #[.int .i64 r1,bC,cK,bD],.bool r5])∧Kd.R (Kd.int .i64) 3 w' w.heap.size (o1 bD) bC r2∧Kd.S (sS 25 (Kd.slice 3 (Kd.int .i64))) 24 w' w.heap.size (o2 bC bD) cK r3∧Kd.R (Kd.int .i64) 3 w' w.heap.size (o1 bC) bD r4∧Below w.heap.size w w':=by
 have dI:=Try.underlying33;have bg:=A_ aH;have bn:=A_ az;have bq:=A_ aI;have bE:=A_ aA;have bu:=A_ aJ;have bz:=A_ aC;have bF:=A_ aM;have bG:=A_ aD;have bH:=A_ aN;have bM:=A_ aE;have bI:=A_ aQ;have bJ:=A_ aG;clear aH az aI aA aJ aC aM aD aN aE aQ aG;have HB:=A_ (Below.refl w.heap.size w);unfold tV.f at h;obtain⟨x,hx,h⟩:=Option.bind_eq_some_iff.mp h;have HX:=A_ hx;clear hx;have H:=A_ h;clear h;go_enter Try.func15,Try.ntmps15
 go_upto_region 1 with(first|((with_reducible refine gt_ 2 ?_);refine be_ 2 #[.int .i64 ae,.slice al ab.length ap,.slice av af.length ax,.slice am ah.length aq] 33 ?_;intro gA hg w1 J hb;have BA:=A_ J;have qA:=uF BA.o;have GA:=A_ ((by rw[hg];exact HB.o.size:w.heap.size≤gA));skip;replace HB:=ks_ HB hb;clear hb J hg)|((with_reducible refine gt_ 3 ?_);refine be_ 3 #[.int .i64 ak,.slice an aa.length ar,.slice aw ag.length ay,.slice ao ai.length au] 33 ?_;intro gB hg w2 J hb;have BB:=A_ J;have qB:=uF BB.o;have GB:=A_ ((by rw[hg];exact HB.o.size:w.heap.size≤gB));have dU:=A_ ((by rw[hg];exact Nat.ne_of_lt (pY BA.o):gA≠gB));clear qA;replace BA:=kc_ BA hb;have qA:=uF BA.o;replace HB:=ks_ HB hb;clear hb J hg)|((with_reducible refine gt_ 4 ?_);refine be_ 4 #[.int .i64 0,.slice none 0 0,.slice none 0 0,.slice none 0 0] 33 ?_;intro gC hg w3 J hb;have BC:=A_ J;have qC:=uF BC.o;have GC:=A_ ((by rw[hg];exact HB.o.size:w.heap.size≤gC));have dV:=A_ ((by rw[hg];exact Nat.ne_of_lt (pY BA.o):gA≠gC));have dW:=A_ ((by rw[hg];exact Nat.ne_of_lt (pY BB.o):gB≠gC));clear qA qB;replace BA:=kc_ BA hb;have qA:=uF BA.o;replace BB:=kc_ BB hb;have qB:=uF BB.o;replace HB:=ks_ HB hb;clear hb J hg))
 (try simp only[Act.put,mD,mE,mF])
 by_cases cx:x=true
 case neg=>
  have hx:x=false:=by simpa using cx
  subst hx;clear cx;replace H:=A_ ((if_neg d_).symm.trans H.o);have h2:=H.o;simp only[Option.some.injEq,Prod.mk.injEq]at h2;obtain⟨rfl,rfl,rfl,rfl,rfl⟩:=h2;clear H
  go_wp2_with (first|(go_at_call 13;(with_reducible refine(nz.calls k ae _ _ ab _ _ af _ _ ah false _ (Kd.mO bg.o HB.o) bn.o (Kd.mO bq.o HB.o) bE.o (Kd.mO bu.o HB.o) bz.o HX.o).mono ?_);rintro e w4 ⟨rfl,hb⟩;clear qA qB qC;replace BA:=kc_ BA hb;have qA:=uF BA.o;replace BB:=kc_ BB hb;have qB:=uF BB.o;replace BC:=kc_ BC hb;have qC:=uF BC.o;replace HB:=ks_ HB hb;clear hb))
  refine rt_ #[.int .i64 0,.slice none 0 0,.slice none 0 0,.slice none 0 0] (by exact oN (oN (oN (oN BC.o 0 _ rfl) 1 _ rfl) 2 _ rfl) 3 _ rfl) Try.underlying33 ?_;exact⟨_,_,_,rfl,Kd.sI _ _ _ _ _,Kd.za _ _ _ _ _,Kd.sI _ _ _ _ _,mY (mY (mY (mY HB.o GC.o) GC.o) GC.o) GC.o⟩
 subst cx;replace H:=A_ ((if_pos rfl).symm.trans H.o);obtain⟨y,hy,h⟩:=Option.bind_eq_some_iff.mp H.o;have HY:=A_ hy;replace H:=A_ h;clear hy h
 by_cases cy:y=true
 case neg=>
  have hy:y=false:=by simpa using cy
  subst hy;clear cy;replace H:=A_ ((if_neg d_).symm.trans H.o);have h2:=H.o;simp only[Option.some.injEq,Prod.mk.injEq]at h2;obtain⟨rfl,rfl,rfl,rfl,rfl⟩:=h2;clear H
  go_wp2_with (first|(go_at_call 13;(with_reducible refine(nz.calls k ae _ _ ab _ _ af _ _ ah true _ (Kd.mO bg.o HB.o) bn.o (Kd.mO bq.o HB.o) bE.o (Kd.mO bu.o HB.o) bz.o HX.o).mono ?_);rintro e w4 ⟨rfl,hb⟩;clear qA qB qC;replace BA:=kc_ BA hb;have qA:=uF BA.o;replace BB:=kc_ BB hb;have qB:=uF BB.o;replace BC:=kc_ BC hb;have qC:=uF BC.o;replace HB:=ks_ HB hb;clear hb)|(go_at_call 13;(with_reducible refine(nz.calls k ak _ _ aa _ _ ag _ _ ai false _ (Kd.mO bF.o HB.o) bG.o (Kd.mO bH.o HB.o) bM.o (Kd.mO bI.o HB.o) bJ.o HY.o).mono ?_);rintro e w5 ⟨rfl,hb⟩;clear qA qB qC;replace BA:=kc_ BA hb;have qA:=uF BA.o;replace BB:=kc_ BB hb;have qB:=uF BB.o;replace BC:=kc_ BC hb;have qC:=uF BC.o;replace HB:=ks_ HB hb;clear hb))
  refine rt_ #[.int .i64 0,.slice none 0 0,.slice none 0 0,.slice none 0 0] (by exact oN (oN (oN (oN BC.o 0 _ rfl) 1 _ rfl) 2 _ rfl) 3 _ rfl) Try.underlying33 ?_;exact⟨_,_,_,rfl,Kd.sI _ _ _ _ _,Kd.za _ _ _ _ _,Kd.sI _ _ _ _ _,mY (mY (mY (mY HB.o GC.o) GC.o) GC.o) GC.o⟩
 subst cy;replace H:=A_ ((if_pos rfl).symm.trans H.o)
 by_cases ce:ae=ak
 case neg=>
  have cb:(ae !=ak)=true:=by simpa using ce
  replace H:=A_ ((if_neg ce).symm.trans H.o);clear ce;have h2:=H.o;simp only[Option.some.injEq,Prod.mk.injEq]at h2;obtain⟨rfl,rfl,rfl,rfl,rfl⟩:=h2;clear H
  go_wp2_with (first|(go_at_call 13;(with_reducible refine(nz.calls k ae _ _ ab _ _ af _ _ ah true _ (Kd.mO bg.o HB.o) bn.o (Kd.mO bq.o HB.o) bE.o (Kd.mO bu.o HB.o) bz.o HX.o).mono ?_);rintro e w4 ⟨rfl,hb⟩;clear qA qB qC;replace BA:=kc_ BA hb;have qA:=uF BA.o;replace BB:=kc_ BB hb;have qB:=uF BB.o;replace BC:=kc_ BC hb;have qC:=uF BC.o;replace HB:=ks_ HB hb;clear hb)|(go_at_call 13;(with_reducible refine(nz.calls k ak _ _ aa _ _ ag _ _ ai true _ (Kd.mO bF.o HB.o) bG.o (Kd.mO bH.o HB.o) bM.o (Kd.mO bI.o HB.o) bJ.o HY.o).mono ?_);rintro e w5 ⟨rfl,hb⟩;clear qA qB qC;replace BA:=kc_ BA hb;have qA:=uF BA.o;replace BB:=kc_ BB hb;have qB:=uF BB.o;replace BC:=kc_ BC hb;have qC:=uF BC.o;replace HB:=ks_ HB hb;clear hb))
  refine rt_ #[.int .i64 0,.slice none 0 0,.slice none 0 0,.slice none 0 0] (by exact oN (oN (oN (oN BC.o 0 _ rfl) 1 _ rfl) 2 _ rfl) 3 _ rfl) Try.underlying33 ?_;exact⟨_,_,_,rfl,Kd.sI _ _ _ _ _,Kd.za _ _ _ _ _,Kd.sI _ _ _ _ _,mY (mY (mY (mY HB.o GC.o) GC.o) GC.o) GC.o⟩
 subst ce
 have cb:(ae !=ae)=false:=bne_self_eq_false ae
 replace H:=A_ ((if_pos rfl).symm.trans H.o);obtain⟨ua,hu,h⟩:=Option.bind_eq_some_iff.mp H.o;obtain⟨va,hv,h⟩:=Option.bind_eq_some_iff.mp h;obtain⟨q,hq,h⟩:=Option.bind_eq_some_iff.mp h;clear H
 split at h
 case isFalse=>cases h
 case isTrue hc=>
 obtain⟨eu,ev,rfl,hok⟩:=hc;rw[←eu,←ev]at h;have EU:=A_ eu;have EV:=A_ ev;obtain⟨N,hN⟩:∃N,N=ab.length+aa.length:=⟨_,rfl⟩;rw[←hN]at hq;have EN:=A_ hN;have HU:=A_ hu;have HV:=A_ hv;have HQ:=A_ hq;have H:=A_ h;simp only[MB,Bool.and_eq_true,decide_eq_true_eq]at hok;obtain⟨⟨⟨k1,k2,k3,k4,k5,k6,k7,k8⟩,k9⟩,k10⟩:=hok;have HK:=A_ (show((0≤ae∧ae≤64)∧(af.length:Int)=ae∧(ag.length:Int)=ae)∧ab.length≤40∧aa.length≤40∧ah.length≤40∧ai.length≤40 from⟨⟨⟨k1,k2⟩,k7,k8⟩,k3,k4,k5,k6⟩);have SA:=A_ k9;have SB:=A_ k10;have cO:=A_ (show wrap64 ((ab.length:Int)+(aa.length:Int))=(N:Int) by unfold wrap64;omega);clear eu ev hN hu hv hq h k1 k2 k3 k4 k5 k6 k7 k8 k9 k10
 go_upto_region 4 with(first|(go_at_call 13;(with_reducible refine(nz.calls k ae _ _ ab _ _ af _ _ ah true _ (Kd.mO bg.o HB.o) bn.o (Kd.mO bq.o HB.o) bE.o (Kd.mO bu.o HB.o) bz.o HX.o).mono ?_);rintro e w4 ⟨rfl,hb⟩;clear qA qB qC;replace BA:=kc_ BA hb;have qA:=uF BA.o;replace BB:=kc_ BB hb;have qB:=uF BB.o;replace BC:=kc_ BC hb;have qC:=uF BC.o;replace HB:=ks_ HB hb;clear hb)|(go_at_call 13;(with_reducible refine(nz.calls k ae _ _ aa _ _ ag _ _ ai true _ (Kd.mO bF.o HB.o) bG.o (Kd.mO bH.o HB.o) bM.o (Kd.mO bI.o HB.o) bJ.o HY.o).mono ?_);rintro e w5 ⟨rfl,hb⟩;clear qA qB qC;replace BA:=kc_ BA hb;have qA:=uF BA.o;replace BB:=kc_ BB hb;have qB:=uF BB.o;replace BC:=kc_ BC hb;have qC:=uF BC.o;replace HB:=ks_ HB hb;clear hb))
 (try simp only[Act.put,mD,mE,mF])
 try go_wp2
 have hb:Below w5.heap.size w5 w5.drew:=qw (Below.refl _ _)
 clear qA qB qC;replace BA:=kc_ BA hb;have qA:=uF BA.o;replace BB:=kc_ BB hb;have qB:=uF BB.o;replace BC:=kc_ BC hb;have qC:=uF BC.o;replace HB:=ks_ HB hb;clear hb qA qB qC;refine rM (n:=17) (S:=fun w'=>cA4 gA (.int .i64 ae) (.slice al ab.length ap) (.slice av af.length ax) (.slice am ah.length aq) w' (cB4 gB (.int .i64 ae) (.slice an aa.length ar) (.slice aw ag.length ay) (.slice ao ai.length au) w')) (ds:=[16]) (mk_ 17 0) K_ rfl rfl ⟨bz0 BA.o,bz1 BA.o,bz2 BA.o,bz3 BA.o,bz0 BB.o,bz1 BB.o,bz2 BB.o,bz3 BB.o⟩ (fun aj=>?_)
 generalize w5.drew=w6 at BA BB BC HB aj⊢
 refine tz_ 0 33 (mk_ 17 1) aj ?_;refine tz_ 1 34 (mk_ 17 3) aj ?_;refine tz_ 2 35 (mk_ 17 7) aj ?_;refine tz_ 3 36 (mk_ 17 15) aj ?_;refine tz_ 4 37 (mk_ 17 31) aj ?_;refine tz_ 5 38 (mk_ 17 63) aj ?_;refine tz_ 8 41 (mk_ 17 319) aj ?_;refine tz_ 9 42 (mk_ 17 831) aj ?_;refine tz_ 10 43 (mk_ 17 1855) aj ?_;refine tz_ 11 44 (mk_ 17 3903) aj ?_
 refine PG (fuel:=1) (mk_ 17 65535) [⟨6,some 39,[],fun vs W=>∃g,vs 6=.slice (some ⟨g,0,none⟩) 2 2∧Kd.C (Kd.slice 3 (Kd.int .i64)) W (some ⟨g,0,none⟩) 2 [ab,aa]⟩,⟨7,some 40,[],fun vs W=>Kd.R (Kd.int .i64) 3 W w.heap.size (fun _=>True) (vs 7) ua⟩,⟨12,some 45,[],fun vs W=>∃g,vs 12=.slice (some ⟨g,0,none⟩) 2 2∧Kd.C (Kd.slice 3 (Kd.int .i64)) W (some ⟨g,0,none⟩) 2 [ah,ai]⟩,⟨13,some 46,[7],fun vs W=>Kd.R (Kd.int .i64) 3 W w.heap.size (fun k_=>some k_≠(vs 7).ownBlock) (vs 13) va⟩,⟨14,some 47,[7,13],fun vs W=>vs 14=.agg #[.int .i64 ae,vs 7,.slice none 0 0,vs 13]⟩,⟨15,some 7,[],fun vs W=>∃g,vs 15=.pointer (some ⟨g,0,none⟩)∧w6.heap.size≤g∧W.heap[g]? =some (.cells #[.int .i64 0,.slice none 0 0,.slice none 0 0,.slice none 0 0] 33 (0,0))⟩] K_ rfl ?hS aj ?step ?cont
 case hS=>
  rintro W W' hb ⟨s0,s1,s2,s3,s4,s5,s6,s7⟩;exact⟨cb_ hb s0,cb_ hb s1,cb_ hb s2,cb_ hb s3,cb_ hb s4,cb_ hb s5,cb_ hb s6,cb_ hb s7⟩
 case step=>
  refine All.cons rfl (fun vs vs' W W' hv hb ⟨g,e,hC⟩=>⟨g,(hv 6 (.inl rfl)).symm.trans e,Kd.mO hC hb⟩) ?_ ?_
  ·intro vs a W hS hB hn ho K hK
   have a9:a.tmps[36]?.getD undef=.slice al ab.length ap:=ev_ (ho 36 rf)
   have ba:a.tmps[38]?.getD undef=.slice an aa.length ar:=ev_ (ho 38 rf)
   have hbw:=nZ HB.o hB;refine vk rfl (v:=.slice (some ⟨W.heap.size,0,none⟩) 2 2) (w1:=W.alloc (.cells #[.slice al ab.length ap,.slice an aa.length ar] 25 (0,0))) ?_ ?_
   ·go_simp
   ·exact hK _ _ (pI (Below.refl _ _) _) ⟨_,rfl,Nt (xX W _) (Kd.mO bg.o (pI hbw _)) bn.o (Kd.mO bF.o (pI hbw _)) bG.o⟩
  refine All.cons rfl (fun vs vs' W W' hv hb h=>by dsimp only at h⊢;rw[←hv 7 (.inl rfl)];exact Kd.nX h hb) ?_ ?_
  ·intro vs a W hS hB hn ho K hK
   obtain⟨v6,g,e,hC⟩:=hn _ (.head _) K_;replace v6:=v6 _ rfl;refine wG Try.func45 K_ rfl #[.slice (some ⟨g,0,none⟩) 2 2] rf rfl rfl (by simp[v6,e]) ?_;refine(nN.calls k _ _ [ab,aa] _ _ hC (Nat.le_refl 2) HU.o).mono ?_;rintro e w' ⟨v0,rfl,hr,hb⟩;exact⟨_,rfl,hK _ _ hb (Kd.nE hr (mK (nZ HB.o hB)))⟩
  refine All.cons rfl (fun vs vs' W W' hv hb ⟨g,e,hC⟩=>⟨g,(hv 12 (.inl rfl)).symm.trans e,Kd.mO hC hb⟩) ?_ ?_
  ·intro vs a W hS hB hn ho K hK
   have bc:a.tmps[42]?.getD undef=.slice am ah.length aq:=ev_ (ho 42 rf)
   have be:a.tmps[44]?.getD undef=.slice ao ai.length au:=ev_ (ho 44 rf)
   have hbw:=nZ HB.o hB;refine vk rfl (v:=.slice (some ⟨W.heap.size,0,none⟩) 2 2) (w1:=W.alloc (.cells #[.slice am ah.length aq,.slice ao ai.length au] 25 (0,0))) ?_ ?_
   ·go_simp
   ·exact hK _ _ (pI (Below.refl _ _) _) ⟨_,rfl,Nt (xX W _) (Kd.mO bu.o (pI hbw _)) bz.o (Kd.mO bI.o (pI hbw _)) bJ.o⟩
  refine All.cons rfl (fun vs vs' W W' hv hb h=>by dsimp only at h⊢;rw[←hv 7 (.inr (.head _)),←hv 13 (.inl rfl)];exact Kd.nX h hb) ?_ ?_
  ·intro vs a W hS hB hn ho K hK
   obtain⟨aV,g,e,hC⟩:=hn _ (.tail _ (.tail _ (.head _))) K_;replace aV:=aV _ rfl;obtain⟨v7,h7⟩:=hn _ (.tail _ (.head _)) K_;replace v7:=v7 _ rfl;refine wG Try.func45 K_ rfl #[.slice (some ⟨g,0,none⟩) 2 2] rf rfl rfl (by simp[aV,e]) ?_;refine(nN.calls k _ _ [ah,ai] _ _ hC (Nat.le_refl 2) HV.o).mono ?_;rintro e w' ⟨v0,rfl,hr,hb⟩;exact⟨_,rfl,hK _ _ hb (Kd.mM (Kd.nE (Kd.qF hr (Kd.oV h7)) (mK (nZ HB.o hB))) (fun _ hk=>hk.2))⟩
  refine All.cons rfl (fun vs vs' W W' hv hb h=>by dsimp only at h⊢;rw[←hv 14 (.inl rfl),←hv 7 (.inr (.head _)),←hv 13 (.inr (.tail _ (.head _)))];exact h) ?_ ?_
  ·intro vs a W hS hB hn ho K hK
   have a8:a.tmps[34]?.getD undef=.int .i64 ae:=ev_ (ho 34 rf)
   obtain⟨v7,h7⟩:=hn _ (.tail _ (.head _)) K_;replace v7:=v7 _ rfl;obtain⟨aT,h8⟩:=hn _ (.tail _ (.tail _ (.tail _ (.head _)))) K_;replace aT:=aT _ rfl;obtain⟨A7,c7,e7⟩:=Kd.mU h7;obtain⟨A8,c8,e8⟩:=Kd.mU h8;refine vk rfl (v:=.agg #[.int .i64 ae,vs 7,.slice none 0 0,vs 13]) (w1:=W) ?_ (hK _ _ (Below.refl _ _) rfl);rw[e7]at v7⊢;rw[e8]at aT⊢;replace v7:=ev_ v7;replace aT:=ev_ aT;go_simp
  refine All.cons rfl (fun vs vs' W W' hv hb ⟨g,e,h1,h2⟩=>⟨g,(hv 15 (.inl rfl)).symm.trans e,h1,pg h2 hb⟩) ?_ All.nil
  ·intro vs a W hS hB hn ho K hK
   refine uh rfl (N:=7) rfl (cs:= #[.int .i64 0,.slice none 0 0,.slice none 0 0,.slice none 0 0]) (t:=33) (by go_simp;done) ?_;intro g hg w1 J hb;exact hK _ _ hb ⟨g,rfl,by rw[hg];exact hB.size,J⟩
 case cont=>
  intro vs W hS hB hx;have h7:=hx _ (.tail _ (.head _));have h8:=hx _ (.tail _ (.tail _ (.tail _ (.head _))));have h9:=hx _ (.tail _ (.tail _ (.tail _ (.tail _ (.head _)))));obtain⟨gO,aX,hg,hO⟩:=hx _ (.tail _ (.tail _ (.tail _ (.tail _ (.tail _ (.head _))))));dsimp only at h7 h8 h9;obtain⟨A7,c7,e7⟩:=Kd.mU h7;obtain⟨A8,c8,e8⟩:=Kd.mU h8;refine vg (a':=?_) ?_ ?_;rotate_left
  ·simp only[puts,List.filterMap_cons,List.filterMap_nil,Option.map_some,rG,Act.put,mD,mE,mF,h9,e7,e8,aX]
   rfl
  rw[e7]at h7 h8;rw[e8]at h8;clear hx;have hlA:=pY BA.o;have hlB:=pY BB.o;have bK:=pY BC.o;have NA:=A_ (show gA≠gO by omega);have NB:=A_ (show gB≠gO by omega);have NC:=A_ (show gC≠gO by omega);have GO:=A_ (show w.heap.size≤gO from Nat.le_trans HB.o.size hg);replace BA:=kc_ BA hB;replace BB:=kc_ BB hB;replace BC:=kc_ BC hB;replace HB:=ks_ HB hB;clear hlA hlB bK hg hB aj;have sO:=uF hO;refine vI (i:=16) (N:=none) (mk_ 17 131071) rfl rfl K_ d_ (fun K hK=>?_);refine uI (w1:=?_) rf rfl ?_ ?_;rotate_left
  ·go_simp
   rfl
  obtain⟨w7,hw7,cZ,bN,dJ,bf⟩:=PK hO HB.o GO.o (.int .i64 ae) (.slice A7 ua.length c7) (.slice none 0 0) (.slice A8 va.length c8);rw[←hw7];refine hK.out _ _ ?_;clear hK K hw7 sO;refine sZ K_ ?_;have O7:=A_ bN;have df:=A_ ((bf gA NA.o).trans BA.o);have dh:=A_ ((bf gB NB.o).trans BB.o);have di:=A_ ((bf gC NC.o).trans BC.o);have R7:=A_ (Kd.xQ (Kd.qi (Kd.sD rfl h7) hO d_) (fun k hk=>bf k hk.2));have R8:=A_ (Kd.xQ (Kd.qi h8 hO d_) (fun k hk=>bf k hk.2));have HI:=A_ (show NV w w7 w7 gO ae (.slice A7 ua.length c7) (.slice A8 va.length c8) (qb ab.length aa.length af ag) 0 from⟨cZ,⟨Nat.le_refl _,fun _ _ _=>rfl⟩,_,bN,Kd.za _ _ _ _ _⟩);clear h7 h8 h9 hO bN bf dJ e7 e8 aX HB BA BB BC cZ;have qA:=uF df.o
  go_wp2
  go_loopg [50] (af.length+1) (fun kq a7 W=>∃i:Nat,a7=.int .i64 (i:Int)∧i≤af.length∧af.length+1 - i≤kq∧Aside0 (NV w w7 W gO ae (.slice A7 ua.length c7) (.slice A8 va.length c8) (qb ab.length aa.length af ag) i))
  case atStart=>exact⟨0,rfl,om,om,HI⟩
  case round=>
   clear HI qA;obtain⟨i,rfl,hi,hk,HI⟩:=hrel;have hk0:=HK.o.1
   by_cases hlt:i<af.length
   rotate_left
   ·have cn:decide ((i:Int)<ae)=false:=decide_eq_false om
    obtain⟨hB,hold,um,hO,hS⟩:=HI.o
    have e_:(qb ab.length aa.length af ag).take i=qb ab.length aa.length af ag:=List.take_of_length_le (by simp[qb];omega)
    rw[e_]at hS;have h:=H.o;obtain⟨Ms,hMs⟩:∃Ms,Ms=qb ab.length aa.length af ag:=⟨_,rfl⟩;rw[←hMs]at hS h;obtain⟨zz,hz,h⟩:=Option.bind_eq_some_iff.mp h;have HZ:=A_ hz;have HE:=A_ h;obtain⟨Am,cm,e2⟩:=Kd.rO hS;subst e2;have dm:=Kd.oV R7.o;have dn:=Kd.oV R8.o;have bK:=pY di.o;have dw:=R8.o.1;have dK:=A_ bK;have N1:=A_ (fun k (h1:some k=(Value.slice A7 ua.length c7).ownBlock) (h2:some k=(Value.slice A8 va.length c8).ownBlock)=>(dw k h2.symm).1 h1);have N2:=A_ (fun k (h1:w7.heap.size≤k)=>(⟨fun h2=>absurd (dm k h2.symm) (Nat.not_lt.mpr h1),fun h2=>absurd (dn k h2.symm) (Nat.not_lt.mpr h1)⟩:some k≠(Value.slice A7 ua.length c7).ownBlock∧some k≠(Value.slice A8 va.length c8).ownBlock));replace R7:=A_ (Kd.yU R7.o (fun k hk hlt=>hold.2 k hlt hk.2));replace R8:=A_ (Kd.yU R8.o (fun k hk hlt=>hold.2 k hlt hk.2));have BC:=A_ (hold.blk di.o NC.o);have BO:=A_ hO;have HS:=A_ hS;have HB:=A_ hB;have qO:=uF BO.o;clear hB hold hO hS e_ hz h hMs dm dn bK dw HI hk0
    by_cases cz:zz=true
    case neg=>
     have hz:zz=false:=by simpa using cz
     subst hz;have h2:=HE.o;rw[if_neg d_]at h2;simp only[Option.some.injEq,Prod.mk.injEq]at h2;obtain⟨rfl,rfl,rfl,rfl,rfl⟩:=h2;clear HE cz
     go_wp2_with (first|(go_at_call 13;(with_reducible refine(nz.calls k ae _ _ ua _ _ Ms _ _ va false _ (rd_ R7.o).1 (rd_ R7.o).2 (rd_ (La HS.o)).1 (rd_ (La HS.o)).2 (rd_ R8.o).1 (rd_ R8.o).2 HZ.o).mono ?_);rintro e dL ⟨rfl,hb⟩;clear qO;replace BO:=kc_ BO hb;have qO:=uF BO.o;replace BC:=kc_ BC hb;have qC:=uF BC.o;replace HB:=ks_ HB hb;replace R7:=A_ (Kd.nX R7.o hb);replace HS:=A_ (Kd.wS HS.o hb);replace R8:=A_ (Kd.nX R8.o hb);clear hb))
     refine rt_ #[.int .i64 0,.slice none 0 0,.slice none 0 0,.slice none 0 0] (by exact oN (oN (oN (oN BC.o 0 _ rfl) 1 _ rfl) 2 _ rfl) 3 _ rfl) Try.underlying33 ?_;exact⟨_,_,_,rfl,Kd.sI _ _ _ _ _,Kd.za _ _ _ _ _,Kd.sI _ _ _ _ _,mY (mY (mY (mY HB.o GC.o) GC.o) GC.o) GC.o⟩
    subst cz;have h2:=HE.o;rw[if_pos rfl]at h2;simp only[Option.some.injEq,Prod.mk.injEq]at h2;obtain⟨rfl,rfl,rfl,rfl,rfl⟩:=h2;clear HE
    go_wp2_with (first|(go_at_call 13;(with_reducible refine(nz.calls k ae _ _ ua _ _ Ms _ _ va true _ (rd_ R7.o).1 (rd_ R7.o).2 (rd_ (La HS.o)).1 (rd_ (La HS.o)).2 (rd_ R8.o).1 (rd_ R8.o).2 HZ.o).mono ?_);rintro e dL ⟨rfl,hb⟩;clear qO;replace BO:=kc_ BO hb;have qO:=uF BO.o;replace BC:=kc_ BC hb;have qC:=uF BC.o;replace HB:=ks_ HB hb;replace R7:=A_ (Kd.nX R7.o hb);replace HS:=A_ (Kd.wS HS.o hb);replace R8:=A_ (Kd.nX R8.o hb);clear hb))
    refine rt_ #[.int .i64 ae,.slice A7 ua.length c7,.slice Am Ms.length cm,.slice A8 va.length c8] (by exact oN (oN (oN (oN BC.o 0 _ rfl) 1 _ rfl) 2 _ rfl) 3 _ rfl) Try.underlying33 ?_;exact⟨_,_,_,rfl,Kd.mM (Kd.xQ (Kd.qi R7.o BC.o d_) (fun k hk=>NP _ _ _ _ k hk.2)) (fun k hk h3=>N1.o k hk.1.1 h3),Kd.nV (Kd.I1 HS.o (fun k hk=>NP _ _ _ _ k (fun e=>by have:=dK.o;omega))) (fun k hk=>N2.o k hk),Kd.mM (Kd.xQ (Kd.qi R8.o BC.o d_) (fun k hk=>NP _ _ _ _ k hk.2)) (fun k hk=>hk.1.1),mY (mY (mY (mY HB.o GC.o) GC.o) GC.o) GC.o⟩
   have cn:decide ((i:Int)<ae)=true:=decide_eq_true om
   have p1:(0≤(i:Int))=True:=eq_true om
   have p2:((i:Int)<(af.length:Int))=True:=eq_true om
   have p3:((i:Int)<(ag.length:Int))=True:=eq_true om
   have hib:i<100:=om
   obtain⟨hB,hold,um,hO,hS⟩:=HI.o;have hsa:=MK SA.o hlt;have hsb:=MK SB.o (show i<ag.length by omega);obtain⟨X,hX⟩:∃X,X=af[i]:=⟨_,rfl⟩;obtain⟨Y,hY⟩:∃Y,Y=ag[i]'(om):=⟨_,rfl⟩;have hst:=Gb ab.length aa.length af ag i hlt om;rw[←hX,←hY]at hst;rw[←hX]at hsa;rw[←hY]at hsb;obtain⟨dX,Ax,cx,dM,bL,hlx,hcx⟩:=wI bq.o (i:Int) om om;obtain⟨dY,Ay,cy,dN,hxy,bO,hcy⟩:=wI bH.o (i:Int) om om
   have ex:nH af (i:Int)=X:=by rw[hX];simp[nH,List.getD_eq_getElem?_getD,hlt]
   have ey:nH ag (i:Int)=Y:=by rw[hY];simp[nH,List.getD_eq_getElem?_getD,show i<ag.length by omega]
   rw[ex]at bL hlx hcx;rw[ey]at hxy bO hcy;rw[Int.toNat_natCast]at bL hxy;have XX:=A_ bL;have XY:=A_ hxy;have LX:=A_ hlx;have LY:=A_ bO;have CX:=A_ hcx;have CY:=A_ hcy;have SX:=A_ hsa;have SY:=A_ hsb;have HB:=A_ hB;have HO:=A_ hold;have OO:=A_ hO;have SS:=A_ (Kd.nV (Kd.yP hS) (fun _ hk=>(⟨hk.1,hk.2.2.1⟩:w7.heap.size≤_∧_<wr.heap.size)));have HST:=A_ hst;subst dM;subst dN;clear bL hxy hlx bO hcx hcy hsa hsb hB hold hO hS hst ex ey hX hY hk0 HI;have qB:=uF (HO.o.blk dh.o NB.o)
   go_wp2_with (first|(go_at_call 37;refine EA (args':= #[.int .i64 (N:Int)]) (by first|rw[cO.o]|(rw[uD,cO.o])) ?_;(with_reducible refine(p_.calls k _ _ _ HQ.o).mono ?_);rintro e w9 ⟨v9,rfl,ho,hb⟩;obtain⟨Aq,cq,e_⟩:=Kd.rO ho;rw[L8]at e_;subst e_;have HM:=A_ (show KY wr w9 (.slice Aq N cq) (wE [] X (fun r=>r++List.replicate aa.length 0) N (List.replicate N 0) 0)from⟨hb,by simpa [wE,Kh]using ho⟩);have aW:=A_ (HO.o.below hb);clear qB;have qA:=uF (aW.o.blk df.o NA.o);have dO:=((nZ HB.o hb).cell (World.block_lt_of_cell? w _ XX.o)).trans XX.o;clear hb ho aW))
   obtain⟨wi,dP⟩:∃wi,wi=wr:=⟨_,rfl⟩;subst dP
   go_loopg [65] (X.length+1) (fun kq v W=>∃j:Nat,v=.int .i64 (j:Int)∧j≤X.length∧X.length+1 - j≤kq∧Aside0 (KY wi W (.slice Aq N cq) (wE [] X (fun r=>r++List.replicate aa.length 0) N (List.replicate N 0) j)))
   case atStart=>exact⟨0,rfl,om,om,HM⟩
   case round=>
    clear HM dO qA;obtain⟨j,rfl,hj,hk2,HM⟩:=hrel
    by_cases hjl:j<X.length
    ·have cj:decide ((j:Int)<(X.length:Int))=true:=decide_eq_true om
     have s1:(0≤(j:Int))=True:=eq_true om
     have s2:((j:Int)<(X.length:Int))=True:=eq_true om
     obtain⟨hBm,U⟩:=HM.o;have bP:=SX.o.1;have bQ:=SX.o.2 _ (List.getElem_mem hjl);have bR:=EN.o
     have hjb:j<100:=by have:=HK.o.2;omega
     obtain⟨dQ,Ar,cr,bS,aR,hlr,hcr⟩:=qM CX.o (j:Int) om om
     have er:f_ X (j:Int)=X[j]:=by simp[f_,List.getD_eq_getElem?_getD,hjl]
     rw[er]at aR hlr hcr;rw[Int.toNat_natCast]at aR;have hBw:=nZ HB.o hBm;replace aR:=(hBw.cell (World.block_lt_of_cell? w _ aR)).trans aR;replace hcr:=Kd.mO hcr hBw;have hset:=Hf [] X (fun r=>r++List.replicate aa.length 0) N (List.replicate N (0:Int)) [] j (j) hjl om sp;have hlen:=Hy [] X (fun r=>r++List.replicate aa.length 0) N (List.replicate N (0:Int)) j om om;obtain⟨gq,cp2,hv2,hgr⟩:=Kd.IV U (by rw[hlen];omega)
     injection hv2 with bT bU bV
     subst bT;obtain⟨aS,c,hcl,⟨u,rfl,aB⟩,hcc,aZ,hH⟩:=Kd.Il U [] ((j:Nat):Int) om om;rw[Int.toNat_natCast,hset.2]at aB
     have hci:wr.cell? ⟨gq,j,none⟩=some u:=by
      have h2:=hcc 0 u rfl;rw[show((j:Nat):Int).toNat*(Kd.slice 3 (Kd.int .i64)).sz+0=j from by rw[Int.toNat_natCast];exact Nat.mul_one _]at h2;exact h2
     obtain⟨gu,cu,eu,hgu1,hgu2,a_⟩:=Kd.sj aB (by rw[List.length_replicate];omega);rw[List.length_replicate]at eu;subst eu
     have s3:(0≤((j:Nat):Int))=True:=eq_true om
     have s4:(((j:Nat):Int)<(N:Int))=True:=eq_true om
     have bW:=A_ hcr;have bX:=A_ aB;have bA:=A_ hBm;have bB:=A_ (show 0+X[j].length≤N by omega)
     have bY:=A_ (fun(W1:World) (hr:Kd.R (Kd.int .i64) 3 W1 wi.heap.size aS (.slice (some ⟨gu,0,none⟩) N cu) ((List.replicate N (0:Int)).take 0++X[j]++(List.replicate N (0:Int)).drop (0+X[j].length))) (hb:Below wi.heap.size wi W1) (hg:wr.grownBy W1 (some gu))=>(show KY wi W1 (.slice (some ⟨gq,0,none⟩) N cq) (wE [] X (fun r=>r++List.replicate aa.length 0) N (List.replicate N 0) (j+1))from⟨hb,by
      have h5:=Kd.Jr (Kd.Fz hH hg (fun k hk=>aB.1 k (by rw[←hk];rfl))) (okp:=aS) ⟨_,rfl,hr⟩ (fun _ h6=>h6);rw[Int.toNat_natCast,show(List.replicate N (0:Int)).take 0++X[j]++(List.replicate N (0:Int)).drop (0+X[j].length)=(fun r=>r++List.replicate aa.length 0) X[j]from by simp;omega,hset.1]at h5;exact h5⟩))
     clear hBm U bP bQ bR hcr er hBw hset hlen hgr hcc aZ hH aB hcl bU bV hgu1 hgu2 a_ HM
     try clear hp hmx dx dz
     subst bS
     go_wp2_with (first|((with_reducible refine nG (b:=.copy) (xs:= #[.tmp 73,.tmp 74]) rfl ?_);refine Mh (w0:=wi) wi.heap.size rfl (.tmp 73) (.tmp 74) 25 25 3 rfl Try.underlying25 K_ (List.replicate N (0:Int)) X[j] _ _ _ aS rfl rfl ?hoff ?hm (by rw[List.length_replicate];exact bX.o) bW.o bA.o bA.o.size ?_;(case hoff=>(rw[List.length_replicate];have:=bB.o;omega));(case hm=>(have:=bB.o;omega));intro W1 hr hb hg;rw[List.length_replicate]at hr;have HN:=A_ (bY.o W1 hr hb hg);clear hr hb hg))
     go_roundg (X.length+1 - (j+1))
     case measure=>omega
     case rel=>exact⟨j+1,by go_num,om,Nat.le_refl _,HN⟩
    ·have cj:decide ((j:Int)<(X.length:Int))=false:=decide_eq_false om
     have:j=X.length:=om
     subst this;obtain⟨hBm,U⟩:=HM.o;clear HM
     have e_:wE [] X (fun r=>r++List.replicate aa.length 0) N (List.replicate N (0:Int)) X.length=wE (X.map (fun r=>r++List.replicate aa.length 0)) Y (fun r=>List.replicate ab.length 0++r) aa.length (List.replicate N (0:Int)) 0:=by have:=SX.o.1;have:=EN.o;simp[wE];omega
     rw[e_]at U;have HM:=A_ (show KY wi wr (.slice Aq N cq) (wE (X.map (fun r=>r++List.replicate aa.length 0)) Y (fun r=>List.replicate ab.length 0++r) aa.length (List.replicate N (0:Int)) 0)from⟨hBm,U⟩);have qB:=uF ((HO.o.below hBm).blk dh.o NB.o);have aY:=((nZ HB.o hBm).cell (World.block_lt_of_cell? w _ XY.o)).trans XY.o;clear hBm U e_
     go_wp2
     go_loopg [83] (Y.length+1) (fun kq v W=>∃j:Nat,v=.int .i64 (j:Int)∧j≤Y.length∧Y.length+1 - j≤kq∧Aside0 (KY wi W (.slice Aq N cq) (wE (X.map (fun r=>r++List.replicate aa.length 0)) Y (fun r=>List.replicate ab.length 0++r) aa.length (List.replicate N 0) j)))
     case atStart=>exact⟨0,rfl,om,om,HM⟩
     case round=>
      clear HM aY qB;obtain⟨j,rfl,hj,hk2,HM⟩:=hrel
      by_cases hjl:j<Y.length
      rotate_left
      ·have cj:decide ((j:Int)<(Y.length:Int))=false:=decide_eq_false om
       have:j=Y.length:=om
       subst this;obtain⟨hBm,U⟩:=HM.o;clear HM
       have e_:wE (X.map (fun r=>r++List.replicate aa.length 0)) Y (fun r=>List.replicate ab.length 0++r) aa.length (List.replicate N (0:Int)) Y.length=uZ ab.length aa.length X Y:=by have:=SY.o.1;simp only[wE,uZ];rw[List.take_of_length_le (Nat.le_refl _),show aa.length - Y.length=0 by omega];simp
       rw[e_]at U;have dA:=pY O7.o;have dB:=A_ dA;have aU:=A_ (HO.o.below hBm);have dC:=A_ (pg OO.o hBm);have HB2:=A_ (nZ HB.o hBm);have dR:=A_ (Kd.uy (Kd.nV (Kd.yP U) (fun _ hk=>hk.2.1)) HB.o.size);have dD:=A_ (Kd.wS SS.o hBm);have HOW:=A_ (Kd.S_R SS.o).1;have dE:=A_ (show((qb ab.length aa.length af ag).take i).length≤100 by rw[List.length_take];omega);have HIS:=A_ HO.o.1;obtain⟨Mi,dF⟩:∃Mi,Mi=(qb ab.length aa.length af ag).take i:=⟨_,rfl⟩;obtain⟨Mj,hMj⟩:∃Mj,Mj=(qb ab.length aa.length af ag).take (i+1):=⟨_,rfl⟩;rw[←dF]at SS dD dE HST;rw[←hMj]at HST;have dS:=A_ hMj;clear dF hMj;obtain⟨Am,cm,e2⟩:=Kd.rO SS.o;subst e2;have qO:=uF dC.o;clear hBm U e_ dA SS HB HO OO
       go_wp2_with (first|((with_reducible refine nG (b:=.append) (xs:= #[.tmp 100,.tmp 102]) rfl ?_);at_builtin;refine Kd.uq (sS 25 (Kd.slice 3 (Kd.int .i64))) (w0:=w) w.heap.size rfl (.tmp 100) (.tmp 102) 31 24 (.slice none 0 0) 24 rfl Try.underlying31 Ef rfl d_ om (.slice Am Mi.length cm) Mi (uZ ab.length aa.length X Y) [.slice Aq N cq] (fun k=>w7.heap.size≤k) (fun k=>wi.heap.size≤k) rfl rfl ?aP ?aK ?aF ?aO HB2.o (mK HB2.o) ?aL ?_;(case aP=>exact⟨_,rfl,dR.o⟩);(case aK=>exact fun k hk=>⟨Nat.le_trans HIS.o hk,fun e=>absurd (HOW.o k e.symm).2 (Nat.not_lt.mpr hk)⟩);(case aF=>exact fun k hk=>Nat.le_trans aU.o.1 hk);(case aO=>exact Kd.nV dD.o (fun _ hk=>⟨hk.1,Nat.not_le.mpr hk.2⟩));(case aL=>(have:=dE.o;omega));intro v1 bZ ho hb hg hat;rw[←HST.o]at ho;obtain⟨An,cn,e3⟩:=Kd.rO ho;subst e3;have hne:∀k,k<w7.heap.size→some k≠(Value.slice Am Mi.length cm).ownBlock:=fun k hk e=>absurd (HOW.o k e.symm).1 (Nat.not_le.mpr hk);have hsame:∀k,k<w7.heap.size→bZ.heap[k]? =wr.heap[k]?:=fun k hk=>hg.block k (Nat.lt_of_lt_of_le hk aU.o.1) (hne k hk);have b_:bZ.heap[gO]? =_:=(hsame gO dB.o).trans dC.o;have HN:=A_ (show NV w w7 (bZ.setCell ⟨gO,2,none⟩ (.slice An Mj.length cn)) gO ae (.slice A7 ua.length c7) (.slice A8 va.length c8) (qb ab.length aa.length af ag) (i+1)from⟨hb.setCell (p:=⟨gO,2,none⟩) GO.o _,⟨by have:=hg.size;have:=aU.o.1;simp[World.setCell];omega,fun k hk hkn=>by rw[Below.heap_setCell _ _ _ _ hkn,hsame k hk];exact aU.o.2 k hk hkn⟩,_,oN b_ 2 _ rfl,dS.o▸Kd.vW (p:=⟨gO,2,none⟩) ho (fun k hk e=>by have:=dB.o;have:k=gO:=e;omega) _⟩);clear qO;have qO:=uF b_;clear ho hb hg hat hne hsame b_))
       go_roundg (af.length+1 - (i+1))
       case measure=>omega
       case rel=>exact⟨i+1,by go_num,om,Nat.le_refl _,HN⟩
      have cj:decide ((j:Int)<(Y.length:Int))=true:=decide_eq_true om
      have s1:(0≤(j:Int))=True:=eq_true om
      have s2:((j:Int)<(Y.length:Int))=True:=eq_true om
      obtain⟨hBm,U⟩:=HM.o;have bP:=SY.o.1;have bQ:=SY.o.2 _ (List.getElem_mem hjl);have bR:=EN.o
      have hjb:j<100:=by have:=HK.o.2;omega
      obtain⟨dQ,Ar,cr,bS,aR,hlr,hcr⟩:=qM CY.o (j:Int) om om
      have er:f_ Y (j:Int)=Y[j]:=by simp[f_,List.getD_eq_getElem?_getD,hjl]
      rw[er]at aR hlr hcr;rw[Int.toNat_natCast]at aR;have hBw:=nZ HB.o hBm;replace aR:=(hBw.cell (World.block_lt_of_cell? w _ aR)).trans aR;replace hcr:=Kd.mO hcr hBw;obtain⟨p,hp⟩:∃p,p=ab.length+j:=⟨_,rfl⟩;have dx:=SX.o.1;have dz:=HK.o.2
      have hmx:(X.map (fun r=>r++List.replicate aa.length 0)).length=X.length:=List.length_map _
      have s5:((ab.length:Int)≤(N:Int))=True:=eq_true om
      have s6:ab.length≤N:=om
      have hset:=Hf (X.map (fun r=>r++List.replicate aa.length 0)) Y (fun r=>List.replicate ab.length 0++r) aa.length (List.replicate N (0:Int)) [] j (p) hjl om (by(rw[List.length_map];have:=SX.o.1;omega));have hlen:=Hy (X.map (fun r=>r++List.replicate aa.length 0)) Y (fun r=>List.replicate ab.length 0++r) aa.length (List.replicate N (0:Int)) j om om;obtain⟨gq,cp2,hv2,hgr⟩:=Kd.IV U (by rw[hlen];omega)
      injection hv2 with bT bU bV
      subst bT;obtain⟨aS,c,hcl,⟨u,rfl,aB⟩,hcc,aZ,hH⟩:=Kd.Il U [] ((p:Nat):Int) om om;rw[Int.toNat_natCast,hset.2]at aB
      have hci:wr.cell? ⟨gq,p,none⟩=some u:=by
       have h2:=hcc 0 u rfl;rw[show((p:Nat):Int).toNat*(Kd.slice 3 (Kd.int .i64)).sz+0=p from by rw[Int.toNat_natCast];exact Nat.mul_one _]at h2;exact h2
      obtain⟨gu,cu,eu,hgu1,hgu2,a_⟩:=Kd.sj aB (by rw[List.length_replicate];omega);rw[List.length_replicate]at eu;subst eu
      have s3:(0≤((p:Nat):Int))=True:=eq_true om
      have s4:(((p:Nat):Int)<(N:Int))=True:=eq_true om
      have s7:(cu=ab.length)=False:=eq_false (by have h9:=Kd.mX aB;have h8:=h9.1;have h7:=h9.2.1;rw[List.length_replicate]at h8;omega)
      have hwn:wrap64 ((ab.length:Int)+(j:Int))=(p:Int):=by clear s7;unfold wrap64;omega
      have bW:=A_ hcr;have bX:=A_ aB;have bA:=A_ hBm;have bB:=A_ (show ab.length+Y[j].length≤N by omega)
      have bY:=A_ (fun(W1:World) (hr:Kd.R (Kd.int .i64) 3 W1 wi.heap.size aS (.slice (some ⟨gu,0,none⟩) N cu) ((List.replicate N (0:Int)).take ab.length++Y[j]++(List.replicate N (0:Int)).drop (ab.length+Y[j].length))) (hb:Below wi.heap.size wi W1) (hg:wr.grownBy W1 (some gu))=>(show KY wi W1 (.slice (some ⟨gq,0,none⟩) N cq) (wE (X.map (fun r=>r++List.replicate aa.length 0)) Y (fun r=>List.replicate ab.length 0++r) aa.length (List.replicate N 0) (j+1))from⟨hb,by
       have h5:=Kd.Jr (Kd.Fz hH hg (fun k hk=>aB.1 k (by rw[←hk];rfl))) (okp:=aS) ⟨_,rfl,hr⟩ (fun _ h6=>h6);rw[Int.toNat_natCast,show(List.replicate N (0:Int)).take ab.length++Y[j]++(List.replicate N (0:Int)).drop (ab.length+Y[j].length)=(fun r=>List.replicate ab.length 0++r) Y[j]from by rw[List.take_replicate,List.drop_replicate,Nat.min_eq_left om,show N - (ab.length+Y[j].length)=0 by omega,List.replicate_zero,List.append_nil],hset.1]at h5;exact h5⟩))
      clear hBm U bP bQ bR hcr er hBw hset hlen hgr hcc aZ hH aB hcl bU bV hgu1 hgu2 a_ HM
      try clear hp hmx dx dz
      subst bS
      go_wp2_with (first|((with_reducible refine nG (b:=.copy) (xs:= #[.tmp 95,.tmp 96]) rfl ?_);refine Mh (w0:=wi) wi.heap.size rfl (.tmp 95) (.tmp 96) 25 25 3 rfl Try.underlying25 K_ (List.replicate N (0:Int)) Y[j] _ _ _ aS rfl rfl ?hoff ?hm (by rw[List.length_replicate];exact bX.o) bW.o bA.o bA.o.size ?_;(case hoff=>(rw[List.length_replicate];have:=bB.o;omega));(case hm=>(have:=bB.o;omega));intro W1 hr hb hg;rw[List.length_replicate]at hr;have HN:=A_ (bY.o W1 hr hb hg);clear hr hb hg))
      go_roundg (Y.length+1 - (j+1))
      case measure=>omega
      case rel=>exact⟨j+1,by go_num,om,Nat.le_refl _,HN⟩
mutual
def nk.j0:Nat→Bool→Int→List Int→List (List (List Int))→List Int→Int→List Int→List (List (List Int))→List Int→Option (Int×List Int×(List (List (List Int)))×List Int×Bool)
 |0,_,_,_,_,_,_,_,_,_=>none
 |k+1,jr,bc,aY,aQ,be,bk,a7,aT,bf=>if jr=true then(some (0,([]:List Int),([]:List (List (List Int))),([]:List Int),false))else((some (([]:List Int):List Int)).bind fun bV=>(if bV.length+aY.length<17592186044416 then((some (bV++aY:List Int)).bind fun bG=>(if bG.length+a7.length<17592186044416 then((some (([]:List Int):List Int)).bind fun bB=>(if bB.length+be.length<17592186044416 then((some (bB++be:List Int)).bind fun bw=>(if bw.length+bf.length<17592186044416 then(nk.l0 k (aY.length:Int) (a7.length:Int) 0 bc aY aQ be bk a7 aT bf bc (bG++a7) ([]:List (List (List Int))) (bw++bf))else(none)))else(none)))else(none)))else(none)))
def nk.l0:Nat→Int→Int→Int→Int→List Int→List (List (List Int))→List Int→Int→List Int→List (List (List Int))→List Int→Int→List Int→List (List (List Int))→List Int→Option (Int×List Int×(List (List (List Int)))×List Int×Bool)
 |0,_,_,_,_,_,_,_,_,_,_,_,_,_,_,_=>none
 |k+1,x6,x7,x9,bc,aY,aQ,be,bk,a7,aT,bf,bm,bn,bi,bq=>if x9<bc then(nk.l1 k x6 x7 x9 (([]:List (List Int))) 0 bc aY aQ be bk a7 aT bf bm bn bi bq)else((mZ.f k bm bn bi bq).bind fun ej=>(if ej=true then(some (bm,bn,bi,bq,true))else(some (0,([]:List Int),([]:List (List (List Int))),([]:List Int),false))))
def nk.l1:Nat→Int→Int→Int→List (List Int)→Int→Int→List Int→List (List (List Int))→List Int→Int→List Int→List (List (List Int))→List Int→Int→List Int→List (List (List Int))→List Int→Option (Int×List Int×(List (List (List Int)))×List Int×Bool)
 |0,_,_,_,_,_,_,_,_,_,_,_,_,_,_,_,_,_=>none
 |k+1,x6,x7,x9,ek,eo,bc,aY,aQ,be,bk,a7,aT,bf,bm,bn,bi,bq=>if eo<x6 then((some (([]:List Int):List Int)).bind fun b5=>(if 0≤x9 then(if x9<(aQ.length:Int)then(if 0≤eo then(if eo<((nH aQ x9).length:Int)then(if b5.length+(f_ (nH aQ x9) eo).length<17592186044416 then((some (b5++(f_ (nH aQ x9) eo):List Int)).bind fun bN=>(if 0≤x7 then(if bN.length+(x7:Int).toNat<17592186044416 then(if ek.length<5864062014805 then(nk.l1 k x6 x7 x9 (ek++[(bN++List.replicate (x7:Int).toNat 0)]) (wrap64 (eo+1)) bc aY aQ be bk a7 aT bf bm bn bi bq)else(none))else(none))else(none)))else(none))else(none))else(none))else(none))else(none)))else(nk.l2 k x6 x7 x9 ek 0 bc aY aQ be bk a7 aT bf bm bn bi bq)
def nk.l2:Nat→Int→Int→Int→List (List Int)→Int→Int→List Int→List (List (List Int))→List Int→Int→List Int→List (List (List Int))→List Int→Int→List Int→List (List (List Int))→List Int→Option (Int×List Int×(List (List (List Int)))×List Int×Bool)
 |0,_,_,_,_,_,_,_,_,_,_,_,_,_,_,_,_,_=>none
 |k+1,x6,x7,x9,ek,ep,bc,aY,aQ,be,bk,a7,aT,bf,bm,bn,bi,bq=>if ep<x7 then(if 0≤x6 then(if(x6:Int).toNat≤35184372088832 then((some (List.replicate (x6:Int).toNat 0:List Int)).bind fun b6=>(if 0≤x9 then(if x9<(aT.length:Int)then(if 0≤ep then(if ep<((nH aT x9).length:Int)then(if b6.length+(f_ (nH aT x9) ep).length<17592186044416 then(if ek.length<5864062014805 then(nk.l2 k x6 x7 x9 (ek++[(b6++(f_ (nH aT x9) ep))]) (wrap64 (ep+1)) bc aY aQ be bk a7 aT bf bm bn bi bq)else(none))else(none))else(none))else(none))else(none))else(none)))else(none))else(none))else(if bi.length<5864062014805 then(nk.l0 k x6 x7 (wrap64 (x9+1)) bc aY aQ be bk a7 aT bf bm bn (bi++[ek]) bq)else(none))
end
def nk.f (k:Nat) (ao:Int) (an:List Int) (ay:List (List (List Int))) (az:List Int) (aD:Int) (al:List Int) (av:List (List (List Int))) (aw:List Int):Option (Int×List Int×(List (List (List Int)))×List Int×Bool):=(mZ.f k ao an ay az).bind fun eh=>(if eh=true then((mZ.f k aD al av aw).bind fun ei=>(if ei=true then(nk.j0 k (ao !=aD) ao an ay az aD al av aw)else(nk.j0 k true ao an ay az aD al av aw)))else(nk.j0 k true ao an ay az aD al av aw))
def nk.T5:Bool×List (List Nat×List Nat):=(true,[([],[]),([0],[0]),([],[]),([],[]),([3],[3]),([2,4],[2,4]),([],[]),([6],[6]),([5,7,5],[5,7]),([],[]),([],[]),([10],[10]),([9,11,8],[9,11]),([],[]),([13],[13]),([12,14,12],[12,14]),([1,8,15],[1,8,15]),([],[]),([17,16,15,0,1,2,3,4,5,6,7,8,9,10,11,12,13,14,15,16,17],[16,17])])
def nk.B5:List Nat:=[0,1,0,0,8,28,0,64,252,0,0,1024,4092,0,8192,32764,65535,0,262143]
theorem nk.Em:uf .any (opsOf Try.f16 5)=nk.T5:=K_
theorem nk.zx:rV nk.T5.2 nk.B5=true:=K_
def nk.T17:Bool×List (List Nat×List Nat):=(true,[([],[]),([],[]),([1,1],[1]),([],[]),([3],[3]),([],[]),([4,5],[4,5]),([6],[6]),([],[]),([7,8],[7,8]),([9],[9]),([2,10],[2,10]),([11],[11]),([0,12,11],[0,12]),([13,13,0,1,2,3,4,5,6,7,8,9,10,11,12,13],[0,13])])
def nk.B17:List Nat:=[0,0,2,0,8,0,56,120,0,504,1016,2046,4094,8191,16383]
theorem nk.O3:uf .any (opsOf Try.f16 17)=nk.T17:=K_
theorem nk.NL:rV nk.T17.2 nk.B17=true:=K_
theorem nk.calls (k:Nat) (ao:Int) (bO:Option Addr) (bS:Nat) (an:List Int) (bP:Option Addr) (bT:Nat) (ay:List (List (List Int))) (bQ:Option Addr) (bU:Nat) (az:List Int) (aD:Int) (bH:Option Addr) (bJ:Nat) (al:List Int) (bR:Option Addr) (bK:Nat) (av:List (List (List Int))) (bI:Option Addr) (bL:Nat) (aw:List Int) (r1:Int) (r2:List Int) (r3:List (List (List Int))) (r4:List Int) (r5:Bool) (w:World) (dM:Kd.C (Kd.int .i64) w bO an.length an) (dG:an.length≤bS) (dN:Kd.C (Kd.slice 25 (Kd.slice 3 (Kd.int .i64))) w bP ay.length ay) (dH:ay.length≤bT) (dO:Kd.C (Kd.int .i64) w bQ az.length az) (dI:az.length≤bU) (dP:Kd.C (Kd.int .i64) w bH al.length al) (dJ:al.length≤bJ) (dQ:Kd.C (Kd.slice 25 (Kd.slice 3 (Kd.int .i64))) w bR av.length av) (dK:av.length≤bK) (dR:Kd.C (Kd.int .i64) w bI aw.length aw) (dL:aw.length≤bL) (h:nk.f k ao an ay az aD al av aw=some (r1,r2,r3,r4,r5)):
  Calls Try.prog 16 #[.agg #[.int .i64 ao,.slice bO an.length bS,.slice bP ay.length bT,.slice bQ az.length bU],.agg #[.int .i64 aD,.slice bH al.length bJ,.slice bR av.length bK,.slice bI aw.length bL]] w fun e w'=>∃gL kg gP:Value,e=.returned (.tuple #[.agg #[.int .i64 r1,gL,kg,gP],.bool r5])∧Kd.R (Kd.int .i64) 3 w' w.heap.size (o1 gP) gL r2∧Kd.R (Kd.slice 25 (Kd.slice 3 (Kd.int .i64))) 24 w' w.heap.size (o2 gL gP) kg r3∧Kd.R (Kd.int .i64) 3 w' w.heap.size (o1 gL) gP r4∧Below w.heap.size w w':=by
 have kz:=Try.underlying33;have cf:=A_ dM;have cN:=A_ dG;clear dM dG;have cg:=A_ dN;have cO:=A_ dH;clear dN dH;have ch:=A_ dO;have cP:=A_ dI;clear dO dI;have cQ:=A_ dP;have dv:=A_ dJ;clear dP dJ;have cS:=A_ dQ;have dw:=A_ dK;clear dQ dK;have cU:=A_ dR;have dx:=A_ dL;clear dR dL;have HB:=A_ (Below.refl w.heap.size w);unfold nk.f at h;have H:=h;clear h;have jR:=A_ H;clear H;go_enter Try.func16,Try.ntmps16
 go_upto_region 1 with(first|((with_reducible refine gt_ 2 ?_);refine be_ 2 #[.int .i64 ao,.slice bO an.length bS,.slice bP ay.length bT,.slice bQ az.length bU] 33 ?_;intro bv hg w4 U hb;have ag:=A_ (U);have g7:=lh_ HB hg;have b2:=lh_ HB hg;replace HB:=bs_ HB hb;clear hb U hg)|((with_reducible refine gt_ 3 ?_);refine be_ 3 #[.int .i64 aD,.slice bH al.length bJ,.slice bR av.length bK,.slice bI aw.length bL] 33 ?_;intro ba hg w5 U hb;have af:=A_ (U);have g8:=lh_ HB hg;have b3:=lh_ HB hg;replace HB:=bs_ HB hb;have a8:=nl_ ag hg;have a9:=ng_ ag hg;replace ag:=bb_ ag hb;clear hb U hg)|((with_reducible refine gt_ 4 ?_);refine be_ 4 #[.int .i64 0,.slice none 0 0,.slice none 0 0,.slice none 0 0] 33 ?_;intro bC hg w6 U hb;have aj:=A_ (U);have g9:=lh_ HB hg;have b4:=lh_ HB hg;replace HB:=bs_ HB hb;have aJ:=nl_ ag hg;have aM:=ng_ ag hg;replace ag:=bb_ ag hb;have br:=nl_ af hg;have bu:=ng_ af hg;replace af:=bb_ af hb;clear hb U hg))
 (try simp only[Act.put,mD,mE,mF])
 go_cut [27] (fun je wc=>∃ (kq:Nat) (cH:Bool),je=.bool cH∧Aside0 (nk.j0 kq cH ao an ay az aD al av aw=some (r1,r2,r3,r4,r5))∧Aside0 (kq≤k)∧Aside0 (wc.heap[bv]? =some (.cells #[.int .i64 ao,(.slice bO an.length bS),(.slice bP ay.length bT),(.slice bQ az.length bU)] 33 (0,0)))∧Aside0 (wc.heap[ba]? =some (.cells #[.int .i64 aD,(.slice bH al.length bJ),(.slice bR av.length bK),(.slice bI aw.length bL)] 33 (0,0)))∧Aside0 (wc.heap[bC]? =some (.cells #[.int .i64 0,(.slice none 0 0),(.slice none 0 0),(.slice none 0 0)] 33 (0,0)))∧Aside0 (Below w.heap.size w wc))
 case first=>
  have H:=jR.o;clear jR;replace ⟨eh,A7,H⟩:=bA_ H
  replace H:=Hb_ H;rcases H with⟨rfl,H⟩|⟨rfl,H⟩
  ·replace ⟨ei,A9,H⟩:=bA_ H
   replace H:=Hb_ H;rcases H with⟨rfl,H⟩|⟨rfl,H⟩
   ·have H':=A_ H
    clear H;have iu:=a8.o;have iN:=a9.o;have iv:=aJ.o;have iO:=aM.o;have fJ:=bq4 ag.o
    go_wp2_with (first|((with_reducible refine gc_ 25 rfl ?_);refine cL_ E25 14 rfl rfl rfl (mZ.calls k ao _ _ an _ _ ay _ _ az true _ (Kd.mO cf.o HB.o) cN.o (Kd.mO cg.o HB.o) cO.o (Kd.mO ch.o HB.o) cP.o A7.o) (by(try simp only[mA,mB,mC]);first|done|rfl|(simp only[List.length_drop,List.length_take];rfl)) ?_;rintro e kM ⟨rfl,hb⟩;refine⟨_,rfl,?_⟩;replace ag:=bb_ ag hb;replace af:=bb_ af hb;replace aj:=bb_ aj hb;replace HB:=bs_ HB hb;clear hb;have iw:=br.o;have iP:=bu.o;have fK:=bq4 af.o)|(go_at_call 25;(with_reducible refine(mZ.calls k aD _ _ al _ _ av _ _ aw true _ ?aZ ?a_ ?b_ ?cu ?cz ?cZ A9.o).mono ?_);(case aZ=>exact(Kd.mO cQ.o HB.o));(case a_=>exact dv.o);(case b_=>exact(Kd.mO cS.o HB.o));(case cu=>exact dw.o);(case cz=>exact(Kd.mO cU.o HB.o));(case cZ=>exact dx.o);rintro e kN ⟨rfl,hb⟩;replace ag:=bb_ ag hb;replace af:=bb_ af hb;replace aj:=bb_ aj hb;replace HB:=bs_ HB hb;clear hb;have fL:=bq4 ag.o;have fM:=bq4 af.o))
    go_meet
    case rel=>exact⟨_,((ao !=aD)),rf,H',⟨om⟩,ag,af,aj,HB⟩
   have H':=A_ H
   clear H;have ix:=a8.o;have iQ:=a9.o;have iy:=aJ.o;have iR:=aM.o;have fN:=bq4 ag.o
   go_wp2_with (first|((with_reducible refine gc_ 25 rfl ?_);refine cL_ E25 14 rfl rfl rfl (mZ.calls k ao _ _ an _ _ ay _ _ az true _ (Kd.mO cf.o HB.o) cN.o (Kd.mO cg.o HB.o) cO.o (Kd.mO ch.o HB.o) cP.o A7.o) (by(try simp only[mA,mB,mC]);first|done|rfl|(simp only[List.length_drop,List.length_take];rfl)) ?_;rintro e kP ⟨rfl,hb⟩;refine⟨_,rfl,?_⟩;replace ag:=bb_ ag hb;replace af:=bb_ af hb;replace aj:=bb_ aj hb;replace HB:=bs_ HB hb;clear hb;have iz:=br.o;have iS:=bu.o;have fO:=bq4 af.o)|(go_at_call 25;(with_reducible refine(mZ.calls k aD _ _ al _ _ av _ _ aw false _ ?aZ ?a_ ?b_ ?cu ?cz ?cZ A9.o).mono ?_);(case aZ=>exact(Kd.mO cQ.o HB.o));(case a_=>exact dv.o);(case b_=>exact(Kd.mO cS.o HB.o));(case cu=>exact dw.o);(case cz=>exact(Kd.mO cU.o HB.o));(case cZ=>exact dx.o);rintro e kQ ⟨rfl,hb⟩;replace ag:=bb_ ag hb;replace af:=bb_ af hb;replace aj:=bb_ aj hb;replace HB:=bs_ HB hb;clear hb;(try clear hi)))
   go_meet
   case rel=>exact⟨_,(true),rf,H',⟨om⟩,ag,af,aj,HB⟩
  have H':=A_ H
  clear H;have iA:=a8.o;have iT:=a9.o;have iB:=aJ.o;have iU:=aM.o;have fP:=bq4 ag.o
  go_wp2_with (first|((with_reducible refine gc_ 25 rfl ?_);refine cM_ E25 14 (mZ.calls k ao _ _ an _ _ ay _ _ az false _ (Kd.mO cf.o HB.o) cN.o (Kd.mO cg.o HB.o) cO.o (Kd.mO ch.o HB.o) cP.o A7.o) ?_;rintro e kR ⟨rfl,hb⟩;refine⟨_,rfl,?_⟩;replace ag:=bb_ ag hb;replace af:=bb_ af hb;replace aj:=bb_ aj hb;replace HB:=bs_ HB hb;clear hb;(try clear hi)))
  go_meet
  case rel=>exact⟨_,(true),rf,H',⟨om⟩,ag,af,aj,HB⟩
 case rest=>
  clear jR;obtain⟨kq,cH,rfl,HA,el,ag,af,aj,HB⟩:=hcut
  cases kq with
  |zero=>exact nz_ HA.o
  |succ ko=>
   have H:=HA.o;clear HA;simp only[nk.j0]at H
   replace H:=Hb_ H;rcases H with⟨rfl,H⟩|⟨rfl,H⟩
   ·simp only[Option.some.injEq,Prod.mk.injEq]at H;obtain⟨rfl,rfl,rfl,rfl,rfl⟩:=H;have iC:=aM.o;have iV:=aJ.o;have iD:=bu.o;have iW:=br.o;have fQ:=bq4 aj.o
    go_wp2
    refine rt_ #[.int .i64 0,.slice none 0 0,.slice none 0 0,.slice none 0 0] (by exact pu_ 3 (pu_ 2 (pu_ 1 (pu_ 0 aj.o rfl) rfl) rfl) rfl) Try.underlying33 ?_;exact⟨_,_,_,rf,by exact Kd.sI _ _ _ _ _,by exact Kd.sI _ _ _ _ _,by exact Kd.sI _ _ _ _ _,wb_⟩
   replace ⟨bV,eO,H⟩:=Hs_ H
   replace ⟨eD,H⟩:=Ha_ H
   replace ⟨bG,eP,H⟩:=Hs_ H
   replace ⟨eE,H⟩:=Ha_ H
   obtain⟨aq,cY⟩:=ex_ ((bG++al):List Int);rw[←cY]at H;have eQ:=A_ cY;clear cY;replace ⟨bB,eR,H⟩:=Hs_ H
   replace ⟨eF,H⟩:=Ha_ H
   replace ⟨bw,eS,H⟩:=Hs_ H
   replace ⟨eG,H⟩:=Ha_ H
   obtain⟨ar,db⟩:=ex_ ((bw++aw):List Int);rw[←db]at H;have eU:=A_ db;clear db
   have H':=A_ H
   clear H;have iE:=a8.o;have iX:=a9.o;have iF:=aJ.o;have iY:=aM.o;have fR:=bq4 ag.o;have iG:=br.o;have iZ:=bu.o;have fS:=bq4 af.o
   try go_wp2
   replace ag:=A_ (nQ ag.o);replace af:=A_ (nQ af.o);replace aj:=A_ (nQ aj.o);replace HB:=A_ (oG HB.o);refine rM (n:=19) (S:=fun w'=>cA4 bv (.int .i64 ao) (.slice bO an.length bS) (.slice bP ay.length bT) (.slice bQ az.length bU) w' (cB4 ba (.int .i64 aD) (.slice bH al.length bJ) (.slice bR av.length bK) (.slice bI aw.length bL) w')) (ds:=[]) (mk_ 19 0) K_ rfl rfl ⟨bz0 ag.o,bz1 ag.o,bz2 ag.o,bz3 ag.o,bz0 af.o,bz1 af.o,bz2 af.o,bz3 af.o⟩ (fun ax=>?_);refine ru nk.Em nk.zx (fun bD dq=>?_)
   generalize wc.drew=aK at ag af aj HB ax⊢
   refine pw_ 0 35 (mk_ 19 1) bD ?_;refine pw_ 3 38 (mk_ 19 9) bD ?_;refine pw_ 6 41 (mk_ 19 73) bD ?_;refine pw_ 10 45 (mk_ 19 1097) bD ?_;refine pw_ 13 48 (mk_ 19 9289) bD ?_;refine tk_ 1 36 (mk_ 19 9291) bD dq ax ?_;refine tk_ 4 39 (mk_ 19 9307) bD dq ax ?_;refine tk_ 7 42 (mk_ 19 9435) bD dq ax ?_;refine tk_ 11 46 (mk_ 19 11483) bD dq ax ?_;refine tk_ 14 49 (mk_ 19 27867) bD dq ax ?_;refine Cx (σ:=Value×Value×Value×Value×Value×Value×Nat) 1 (mk_ 19 262143) (fun s_=>[(37,s_.1),(40,s_.2.1),(43,s_.2.2.1),(44,s_.2.2.2.1),(47,s_.2.2.2.2.1),(50,s_.2.2.2.2.2.1),(8,.pointer (some ⟨s_.2.2.2.2.2.2,0,none⟩)),(51,.agg #[.int .i64 ao,s_.2.2.1,.slice none 0 0,s_.2.2.2.2.2.1])]) (fun s_ w'=>(cA4 bv (.int .i64 ao) (.slice bO an.length bS) (.slice bP ay.length bT) (.slice bQ az.length bU) w' (cB4 ba (.int .i64 aD) (.slice bH al.length bJ) (.slice bR av.length bK) (.slice bI aw.length bL) w'))∧(Kd.R (Kd.int .i64) 3 w' w.heap.size (o1 s_.2.2.2.2.2.1) s_.2.2.1 aq)∧(Kd.R (Kd.int .i64) 3 w' w.heap.size (o1 s_.2.2.1) s_.2.2.2.2.2.1 ar)∧(w'.heap[bv]? =some (.cells #[.int .i64 ao,.slice bO an.length bS,.slice bP ay.length bT,.slice bQ az.length bU] 33 (0,0)))∧(w'.heap[ba]? =some (.cells #[.int .i64 aD,.slice bH al.length bJ,.slice bR av.length bK,.slice bI aw.length bL] 33 (0,0)))∧(w'.heap[bC]? =some (.cells #[.int .i64 0,.slice none 0 0,.slice none 0 0,.slice none 0 0] 33 (0,0)))∧(w'.heap[s_.2.2.2.2.2.2]? =some (.cells #[.int .i64 0,.slice none 0 0,.slice none 0 0,.slice none 0 0] 33 (0,0)))∧(w.heap.size≤s_.2.2.2.2.2.2)∧(w.heap.size≤s_.2.2.2.2.2.2)∧(bv≠s_.2.2.2.2.2.2)∧(s_.2.2.2.2.2.2≠bv)∧(ba≠s_.2.2.2.2.2.2)∧(s_.2.2.2.2.2.2≠ba)∧(bC≠s_.2.2.2.2.2.2)∧(s_.2.2.2.2.2.2≠bC)∧(Below w.heap.size w w')) ?_ ?_;rotate_left
   ·intro J;refine Ol (fuel:=1) (mk_ 19 262143) [rO_ 2 37,rO_ 5 40,rO_ 8 43,rO_ 9 44,rO_ 12 47,rO_ 15 50,rO_ 17 8,rO_ 16 51] (fun L vs W=>Tw W aK.heap.size (L 2) (L 9) (cond (L 8) (vs 8) (cond (L 5) (vs 5) (vs 2))) (cond (L 15) (vs 15) (cond (L 12) (vs 12) (vs 9))) (cond (L 8) aq (cond (L 5) bG bV)) (cond (L 15) ar (cond (L 12) bw bB))∧(L 16=true→vs 16=.agg #[.int .i64 ao,vs 8,.slice none 0 0,vs 15])∧(L 17=true→∃g,vs 17=.pointer (some ⟨g,0,none⟩)∧aK.heap.size≤g∧W.heap[g]? =some (.cells #[.int .i64 0,.slice none 0 0,.slice none 0 0,.slice none 0 0] 33 (0,0)))) K_ rfl (fun W hb=>⟨cb_ hb ax.1,cb_ hb ax.2.1,cb_ hb ax.2.2.1,cb_ hb ax.2.2.2.1,cb_ hb ax.2.2.2.2.1,cb_ hb ax.2.2.2.2.2.1,cb_ hb ax.2.2.2.2.2.2.1,cb_ hb ax.2.2.2.2.2.2.2⟩) (fun L vs h=>⟨Tw.init (h _ (.head _)) (h _ (.tail _ (.tail _ (.tail _ (.head _))))),no_ (h _ (.tail _ (.tail _ (.tail _ (.tail _ (.tail _ (.tail _ (.tail _ (.head _))))))))),no_ (h _ (.tail _ (.tail _ (.tail _ (.tail _ (.tail _ (.tail _ (.head _))))))))⟩) ?step ?cont
    case step=>
     refine xm.cons rfl (fun L vs a W hB hF hn hw hv ht K hK=>?_) (xm.cons rfl (fun L vs a W hB hF hn hw hv ht K hK=>?_) (xm.cons rfl (fun L vs a W hB hF hn hw hv ht K hK=>?_) (xm.cons rfl (fun L vs a W hB hF hn hw hv ht K hK=>?_) (xm.cons rfl (fun L vs a W hB hF hn hw hv ht K hK=>?_) (xm.cons rfl (fun L vs a W hB hF hn hw hv ht K hK=>?_) (xm.cons rfl (fun L vs a W hB hF hn hw hv ht K hK=>?_) (xm.cons rfl (fun L vs a W hB hF hn hw hv ht K hK=>?_) xm.nil)))))))
     ·have n1:=Jl (fun h=>(hv _ (.tail _ (.head _)) h).2 2 (List.contains_iff_mem.1 K_)) hn;have n2:=Jl (fun h=>(hv _ (.tail _ (.tail _ (.head _))) h).2 5 (List.contains_iff_mem.1 K_)) n1;refine Kd.tO (Kd.int .i64) W.heap.size 3 rf (N:=37) rfl (xs:=([]:List Int)) (inner:=[]) (ok:=fun _=>True) (okp:=fun _=>True) (by go_simp;done) (qK.none _ _) (fun _ hk=>hk) trivial (Below.refl _ _) (Nat.le_refl _) sp ?_;intro v w' ho hb jS df;rw[←eO.o]at ho;exact hK v w' (nZ hB hb) ⟨((hF.1.new ho hb hB.size).as (by simp[n1,n2]) (by simp[n1,n2]) rfl),hF.2.1,fun l=>let ⟨g,e,h1,h2⟩:=hF.2.2 l;⟨g,e,h1,pg h2 hb⟩⟩
     ·have l2:=hw 2 (List.contains_iff_mem.1 K_);have n2:=Jl (fun h=>(hv _ (.tail _ (.tail _ (.head _))) h).2 5 (List.contains_iff_mem.1 K_)) hn
      have hT:Tw W aK.heap.size (L 2) _ (vs 2) _ bV _:=hF.1.as (by simp[hn,n2]) (by simp[hn,n2]) rfl
      refine Kd.oU (Kd.int .i64) (w0:=aK) aK.heap.size rf (.tmp 37) (.tmp 39) 25 3 (.int .i64 0) 8 rfl Try.underlying25 info3 rfl d_ om (vs 2) bV an _ _ _ _ (fun _=>False) ((hv _ (.head _) l2).1 _ rfl) ((ht _ rf).trans rfl) (hT.a l2) (Kd.mO cf.o (nZ HB.o hB)) (fun _ _ h=>h) (fun _ h=>h.elim) (fun k_ hk l=>hT.fresh k_ hk l) hB hB.size (by have:=eD.o;omega) ?_;intro v w' ho hb hg hat;rw[←eP.o]at ho;exact hK v w' hb ⟨((hT.app l2 ho hg hat).as (by simp[n2]) (by simp[n2]) l2),hF.2.1,fun l=>let ⟨g,e,h1,h2⟩:=hF.2.2 l;⟨g,e,h1,qE h2 hg (Kd.xu (hT.a l2) h2 d_)⟩⟩
     ·have l5:=hw 5 (List.contains_iff_mem.1 K_);have l2:=(hv _ (.tail _ (.head _)) l5).2 2 (List.contains_iff_mem.1 K_)
      have hT:Tw W aK.heap.size (L 2) _ (vs 5) _ bG _:=hF.1.as (by simp[hn,l5]) (by simp[hn,l5]) rfl
      refine Kd.oU (Kd.int .i64) (w0:=aK) aK.heap.size rf (.tmp 40) (.tmp 42) 25 3 (.int .i64 0) 8 rfl Try.underlying25 info3 rfl d_ om (vs 5) bG al _ _ _ _ (fun _=>False) ((hv _ (.tail _ (.head _)) l5).1 _ rfl) ((ht _ rf).trans rfl) (hT.a l2) (Kd.mO cQ.o (nZ HB.o hB)) (fun _ _ h=>h) (fun _ h=>h.elim) (fun k_ hk l=>hT.fresh k_ hk l) hB hB.size (by have:=eE.o;omega) ?_;intro v w' ho hb hg hat;rw[←eQ.o]at ho;exact hK v w' hb ⟨((hT.app l2 ho hg hat).as sp sp l2),fun l=>(by cases hn.symm.trans ((hv _ (.tail _ (.tail _ (.tail _ (.tail _ (.tail _ (.tail _ (.tail _ (.head _)))))))) l).2 8 (List.contains_iff_mem.1 K_))),fun l=>let ⟨g,e,h1,h2⟩:=hF.2.2 l;⟨g,e,h1,qE h2 hg (Kd.xu (hT.a l2) h2 d_)⟩⟩
     ·have n1:=Jl (fun h=>(hv _ (.tail _ (.tail _ (.tail _ (.tail _ (.head _))))) h).2 9 (List.contains_iff_mem.1 K_)) hn;have n2:=Jl (fun h=>(hv _ (.tail _ (.tail _ (.tail _ (.tail _ (.tail _ (.head _)))))) h).2 12 (List.contains_iff_mem.1 K_)) n1;refine Kd.tO (Kd.int .i64) W.heap.size 3 rf (N:=44) rfl (xs:=([]:List Int)) (inner:=[]) (ok:=fun _=>True) (okp:=fun _=>True) (by go_simp;done) (qK.none _ _) (fun _ hk=>hk) trivial (Below.refl _ _) (Nat.le_refl _) sp ?_;intro v w' ho hb jS df;rw[←eR.o]at ho;exact hK v w' (nZ hB hb) ⟨((hF.1.symm.new ho hb hB.size).as (by simp[n1,n2]) (by simp[n1,n2]) rfl).symm,hF.2.1,fun l=>let ⟨g,e,h1,h2⟩:=hF.2.2 l;⟨g,e,h1,pg h2 hb⟩⟩
     ·have l9:=hw 9 (List.contains_iff_mem.1 K_);have n2:=Jl (fun h=>(hv _ (.tail _ (.tail _ (.tail _ (.tail _ (.tail _ (.head _)))))) h).2 12 (List.contains_iff_mem.1 K_)) hn
      have hT:Tw W aK.heap.size (L 9) _ (vs 9) _ bB _:=hF.1.symm.as (by simp[hn,n2]) (by simp[hn,n2]) rfl
      refine Kd.oU (Kd.int .i64) (w0:=aK) aK.heap.size rf (.tmp 44) (.tmp 46) 25 3 (.int .i64 0) 8 rfl Try.underlying25 info3 rfl d_ om (vs 9) bB az _ _ _ _ (fun _=>False) ((hv _ (.tail _ (.tail _ (.tail _ (.head _)))) l9).1 _ rfl) ((ht _ rf).trans rfl) (hT.a l9) (Kd.mO ch.o (nZ HB.o hB)) (fun _ _ h=>h) (fun _ h=>h.elim) (fun k_ hk l=>hT.fresh k_ hk l) hB hB.size (by have:=eF.o;omega) ?_;intro v w' ho hb hg hat;rw[←eS.o]at ho;exact hK v w' hb ⟨((hT.app l9 ho hg hat).as (by simp[n2]) (by simp[n2]) l9).symm,hF.2.1,fun l=>let ⟨g,e,h1,h2⟩:=hF.2.2 l;⟨g,e,h1,qE h2 hg (Kd.xu (hT.a l9) h2 d_)⟩⟩
     ·have gQ:=hw 12 (List.contains_iff_mem.1 K_);have l9:=(hv _ (.tail _ (.tail _ (.tail _ (.tail _ (.head _))))) gQ).2 9 (List.contains_iff_mem.1 K_)
      have hT:Tw W aK.heap.size (L 9) _ (vs 12) _ bw _:=hF.1.symm.as (by simp[hn,gQ]) (by simp[hn,gQ]) rfl
      refine Kd.oU (Kd.int .i64) (w0:=aK) aK.heap.size rf (.tmp 47) (.tmp 49) 25 3 (.int .i64 0) 8 rfl Try.underlying25 info3 rfl d_ om (vs 12) bw aw _ _ _ _ (fun _=>False) ((hv _ (.tail _ (.tail _ (.tail _ (.tail _ (.head _))))) gQ).1 _ rfl) ((ht _ rf).trans rfl) (hT.a l9) (Kd.mO cU.o (nZ HB.o hB)) (fun _ _ h=>h) (fun _ h=>h.elim) (fun k_ hk l=>hT.fresh k_ hk l) hB hB.size (by have:=eG.o;omega) ?_;intro v w' ho hb hg hat;rw[←eU.o]at ho;exact hK v w' hb ⟨((hT.app l9 ho hg hat).as sp sp l9).symm,fun l=>(by cases hn.symm.trans ((hv _ (.tail _ (.tail _ (.tail _ (.tail _ (.tail _ (.tail _ (.tail _ (.head _)))))))) l).2 15 (List.contains_iff_mem.1 K_))),fun l=>let ⟨g,e,h1,h2⟩:=hF.2.2 l;⟨g,e,h1,qE h2 hg (Kd.xu (hT.a l9) h2 d_)⟩⟩
     ·refine uh rf (N:=8) rfl (cs:= #[.int .i64 0,.slice none 0 0,.slice none 0 0,.slice none 0 0]) (t:=33) (by go_simp;done) ?_;intro g hg w' U hb;exact hK _ w' (nZ hB hb) ⟨hF.1.below hb,hF.2.1,fun _=>⟨g,rfl,by rw[hg];exact hB.size,U⟩⟩
     have l8:=hw 8 (List.contains_iff_mem.1 K_);have eT:=hw 15 (List.contains_iff_mem.1 K_)
     have hT:Tw W aK.heap.size (L 2) (L 9) (vs 8) (vs 15) aq ar:=((hF.1.as (by simp[l8]) (by simp[l8]) rfl).symm.as (by simp[eT]) (by simp[eT]) rfl).symm
     have v8:a.eval (.tmp 43)=vs 8:=(hv _ (.tail _ (.tail _ (.head _))) l8).1 _ rfl
     have gT:a.eval (.tmp 50)=vs 15:=(hv _ (.tail _ (.tail _ (.tail _ (.tail _ (.tail _ (.head _)))))) eT).1 _ rfl
     obtain⟨A8,c8,e8⟩:=Kd.mU (hT.a ((hv _ (.tail _ (.head _)) ((hv _ (.tail _ (.tail _ (.head _))) l8).2 5 (List.contains_iff_mem.1 K_))).2 2 (List.contains_iff_mem.1 K_)));obtain⟨A9,c9,e9⟩:=Kd.mU (hT.b ((hv _ (.tail _ (.tail _ (.tail _ (.tail _ (.head _))))) ((hv _ (.tail _ (.tail _ (.tail _ (.tail _ (.tail _ (.head _)))))) eT).2 12 (List.contains_iff_mem.1 K_))).2 9 (List.contains_iff_mem.1 K_)));have vb:=ht 36 rf;refine vk rf (v:=.agg #[.int .i64 ao,vs 8,.slice none 0 0,vs 15]) (w1:=W) ?_ (hK _ _ hB ⟨hF.1,fun _=>rfl,hF.2.2⟩);rw[show vs 8=_ from e8]at v8⊢;rw[show vs 15=_ from e9]at gT⊢;replace v8:=ev_ v8;replace gT:=ev_ gT;replace vb:=ev_ (vb.trans rfl);go_simp
    case cont=>
     intro L vs w' hS hB hl ⟨hT,h16,kC⟩;have l8:=hl _ (.tail _ (.tail _ (.head _)));have eT:=hl _ (.tail _ (.tail _ (.tail _ (.tail _ (.tail _ (.head _))))));have ja:=h16 (hl _ (.tail _ (.tail _ (.tail _ (.tail _ (.tail _ (.tail _ (.tail _ (.head _)))))))));obtain⟨g,jb,hg,hbk⟩:=kC (hl _ (.tail _ (.tail _ (.tail _ (.tail _ (.tail _ (.tail _ (.head _))))))));replace hT:Tw w' aK.heap.size (L 2) (L 9) (vs 8) (vs 15) aq ar:=((hT.as (by simp[show L 8=true from l8]) (by simp[show L 8=true from l8]) rfl).symm.as (by simp[show L 15=true from eT]) (by simp[show L 15=true from eT]) rfl).symm
     show nL _ _ _ _ _ _ _ _ (rG _ [(37,vs 2),(40,vs 5),(43,vs 8),(44,vs 9),(47,vs 12),(50,vs 15),(8,vs 17),(51,vs 16)]) _
     rw[ja,jb];have hs:=mK HB.o;exact J (vs 2,vs 5,vs 8,vs 9,vs 12,vs 15,g) w' ⟨hS,Kd.nE (Kd.mM (hT.a (hl _ (.head _))) (fun _ hk=>hk (hl _ (.tail _ (.tail _ (.tail _ (.head _))))))) hs,Kd.nE (Kd.mM (hT.b (hl _ (.tail _ (.tail _ (.tail _ (.head _)))))) (fun _ hk=>hk (hl _ (.head _)))) hs,pg ag.o hB,pg af.o hB,pg aj.o hB,hbk,(Nat.le_trans hs hg),(Nat.le_trans hs hg),Nat.ne_of_lt (Nat.lt_of_lt_of_le (pY ag.o) hg),Nat.ne_of_gt (Nat.lt_of_lt_of_le (pY ag.o) hg),Nat.ne_of_lt (Nat.lt_of_lt_of_le (pY af.o) hg),Nat.ne_of_gt (Nat.lt_of_lt_of_le (pY af.o) hg),Nat.ne_of_lt (Nat.lt_of_lt_of_le (pY aj.o) hg),Nat.ne_of_gt (Nat.lt_of_lt_of_le (pY aj.o) hg),nZ HB.o hB⟩
   rintro⟨jf,jg,jh,ji,jj,jk,ap⟩ gW ⟨ax,jT,jU,jV,jW,jX,jY,jZ,j3,j4,j5,dY,dZ,d4,d5,d6⟩
   clear ag af aj HB;try dsimp only at ax jT jU jV jW jX jY jZ j3 j4 j5 dY dZ d4 d5 d6
   have dy:=A_ jT;have dz:=A_ jU;have ag:=A_ jV;have af:=A_ jW;have aj:=A_ jX;have ak:=A_ jY;have hJ:=A_ jZ;have b9:=A_ j3;have ah:=A_ j4;have aN:=A_ j5;have ai:=A_ dY;have bg:=A_ dZ;have aC:=A_ d4;have bh:=A_ d5;have HB:=A_ d6;clear jT jU jV jW jX jY jZ j3 j4 j5 dY dZ d4 d5 d6
   obtain⟨aE,aH,fo⟩:=Kd.mU dz.o
   (first|subst fo|(injection fo with di fe eu;have gq:=di.symm;have gu:=eu.symm;clear di fe eu;subst gq;subst gu))
   obtain⟨aG,aI,fp⟩:=Kd.mU dy.o
   (first|subst fp|(injection fp with di fe eu;have gq:=di.symm;have gu:=eu.symm;clear di fe eu;subst gq;subst gu))
   refine vg (by simp only[rG,Act.put,mD,mE,mF];rfl) ?_
   refine ow_ 18 (mk_ 19 524287) bD (fun K hK=>?_)
   have kD:gW.cell? ⟨ap,0,none⟩=some (.int .i64 0):=bz0 ak.o
   have kr:=nY ak.o 0;have gX:=ah.o;have gY:=ai.o;have gZ:=aC.o;have g_:=aN.o;have jv:=bg.o;have jw:=bh.o
   have kE:gW.cell? ⟨ap,1,none⟩=some (.slice none 0 0):=bz1 ak.o
   have ku:=nY ak.o 1;have jy:=ah.o;have jA:=ai.o;have jB:=aC.o;have jC:=aN.o;have jD:=bg.o;have jE:=bh.o
   have kF:gW.cell? ⟨ap,2,none⟩=some (.slice none 0 0):=bz2 ak.o
   have kv:=nY ak.o 2;have jF:=ah.o;have jG:=ai.o;have jH:=aC.o;have jI:=aN.o;have jJ:=bg.o;have jK:=bh.o
   have kG:gW.cell? ⟨ap,3,none⟩=some (.slice none 0 0):=bz3 ak.o
   have ky:=nY ak.o 3;have jL:=ah.o;have jM:=ai.o;have jN:=aC.o;have jO:=aN.o;have jP:=bg.o;have jQ:=bh.o;refine uI (w1:=?_) rf rfl ?_ ?_;rotate_left
   ·go_simp
    rfl
   refine hK.out _ _ ⟨((cf_ ah).trans (((cf_ ah).trans (((cf_ ah).trans (((cf_ ah).trans (ax.1)))))))),((cf_ ah).trans (((cf_ ah).trans (((cf_ ah).trans (((cf_ ah).trans (ax.2.1)))))))),((cf_ ah).trans (((cf_ ah).trans (((cf_ ah).trans (((cf_ ah).trans (ax.2.2.1)))))))),((cf_ ah).trans (((cf_ ah).trans (((cf_ ah).trans (((cf_ ah).trans (ax.2.2.2.1)))))))),((cf_ ai).trans (((cf_ ai).trans (((cf_ ai).trans (((cf_ ai).trans (ax.2.2.2.2.1)))))))),((cf_ ai).trans (((cf_ ai).trans (((cf_ ai).trans (((cf_ ai).trans (ax.2.2.2.2.2.1)))))))),((cf_ ai).trans (((cf_ ai).trans (((cf_ ai).trans (((cf_ ai).trans (ax.2.2.2.2.2.2.1)))))))),((cf_ ai).trans (((cf_ ai).trans (((cf_ ai).trans (((cf_ ai).trans (ax.2.2.2.2.2.2.2))))))))⟩ (fun ax=>?_);clear hK K;refine sZ (sP bD.o K_) ?_
   try go_wp2
   go_loopg [9] ko (fun kq v9 w'=>∃ (aA:Int) (am:List (List (List Int))) (bj:Value),v9=.int .i64 aA∧Aside0 (nk.l0 kq (an.length:Int) (al.length:Int) aA ao an ay az aD al av aw ao aq am ar=some (r1,r2,r3,r4,r5))∧Aside0 (kq≤ko)∧Aside0 (Kd.R (Kd.int .i64) 3 w' w.heap.size (o1 (.slice aE ar.length aH)) (.slice aG aq.length aI) aq)∧Aside0 (Kd.R (Kd.slice 25 (Kd.slice 3 (Kd.int .i64))) 24 w' w.heap.size (o2 (.slice aG aq.length aI) (.slice aE ar.length aH)) bj am)∧Aside0 (Kd.R (Kd.int .i64) 3 w' w.heap.size (o1 (.slice aG aq.length aI)) (.slice aE ar.length aH) ar)∧Aside0 (w'.heap[bv]? =some (.cells #[.int .i64 ao,(.slice bO an.length bS),(.slice bP ay.length bT),(.slice bQ az.length bU)] 33 (0,0)))∧Aside0 (w'.heap[ba]? =some (.cells #[.int .i64 aD,(.slice bH al.length bJ),(.slice bR av.length bK),(.slice bI aw.length bL)] 33 (0,0)))∧Aside0 (w'.heap[bC]? =some (.cells #[.int .i64 0,(.slice none 0 0),(.slice none 0 0),(.slice none 0 0)] 33 (0,0)))∧Aside0 (w'.heap[ap]? =some (.cells #[.int .i64 ao,(.slice aG aq.length aI),bj,(.slice aE ar.length aH)] 33 (0,0)))∧Aside0 (Below w.heap.size w w'))
   case atStart=>exact⟨(0),(([]:List (List (List Int)))),(.slice none 0 0),rf,H',⟨Nat.le_refl _⟩,⟨by exact Kd.mM (wT (tR_ dy ak)) (fun _ hk=>hk.1)⟩,⟨by exact Kd.sI _ _ _ _ _⟩,⟨by exact Kd.mM (wT (tR_ dz ak)) (fun _ hk=>hk.1)⟩,⟨by exact fa_ ah (fa_ ah (fa_ ah (fa_ ah ag.o)))⟩,⟨by exact fa_ ai (fa_ ai (fa_ ai (fa_ ai af.o)))⟩,⟨by exact fa_ aC (fa_ aC (fa_ aC (fa_ aC aj.o)))⟩,⟨by exact pu_ 3 (pu_ 2 (pu_ 1 (pu_ 0 ak.o rfl) rfl) rfl) rfl⟩,⟨wb_⟩⟩
   case round=>
    clear H';obtain⟨aA,am,bj,rfl,HA,em,aa,ae,ab,ag,af,aj,ak,HB⟩:=hrel
    cases gk with
    |zero=>exact nz_ HA.o
    |succ k2=>
     have H:=HA.o;clear HA;simp only[nk.l0]at H
     replace H:=Hi_ H;rcases H with⟨dD,H⟩|⟨dD,H⟩
     ·obtain⟨fB,dd⟩:=ex_ ((([]:List (List Int))):List (List Int));rw[←dd]at H;have eV:=A_ dd;clear dd
      have H':=A_ H
      clear H;have iH:=a8.o;have i0:=a9.o;have iI:=aJ.o;have i5:=aM.o;have iJ:=ah.o;have i6:=aN.o;have dt:=bq4 ag.o
      go_wp2_with (first|((with_reducible refine gt_ 58 ?_);refine Kd.CK (Kd.slice 3 (Kd.int .i64)) _ 25 ?hg (N:=58) ?hd (xs:=([]:List (List Int))) (inner:=[]) (ok:=fun _=>True) (okp:=fun _=>True) ?hr ?hp (fun _ hk=>hk) trivial (Below.refl _ _) (Nat.le_refl _) sp ?_;(case hd|hg=>rfl);(case hr=>go_simp;done);(case hp=>exact(qK.none _ _));rintro jl kS du hb - -;(rw[←eV.o]at du);replace ae:=A_ (Kd.oz ae.o (Kd.AO du) hb);have ez:=A_ (Kd.uy (Kd.xg (Kd.xg du (Kd.oV aa.o)) (Kd.oV ab.o)) (mK HB.o));replace aa:=A_ (Kd.nX aa.o hb);replace ab:=A_ (Kd.nX ab.o hb);replace ag:=bb_ ag hb;replace af:=bb_ af hb;replace aj:=bb_ aj hb;replace ak:=bb_ ak hb;replace HB:=bs_ HB hb;clear hb du))
      go_loopg [10,11] k2 (fun kq fA jc w'=>∃ (bz:List (List Int)) (aV:Int),jc=.int .i64 aV∧Aside0 (nk.l1 kq (an.length:Int) (al.length:Int) aA bz aV ao an ay az aD al av aw ao aq am ar=some (r1,r2,r3,r4,r5))∧Aside0 (kq≤k2)∧Aside0 (Kd.S (Kd.slice 3 (Kd.int .i64)) 25 w' w.heap.size (o2 (.slice aG aq.length aI) (.slice aE ar.length aH)) fA bz)∧Aside0 (Kd.R (Kd.int .i64) 3 w' w.heap.size (o1 (.slice aE ar.length aH)) (.slice aG aq.length aI) aq)∧Aside0 (Kd.R (Kd.slice 25 (Kd.slice 3 (Kd.int .i64))) 24 w' w.heap.size (o3 fA (.slice aG aq.length aI) (.slice aE ar.length aH)) bj am)∧Aside0 (Kd.R (Kd.int .i64) 3 w' w.heap.size (o1 (.slice aG aq.length aI)) (.slice aE ar.length aH) ar)∧Aside0 (w'.heap[bv]? =some (.cells #[.int .i64 ao,(.slice bO an.length bS),(.slice bP ay.length bT),(.slice bQ az.length bU)] 33 (0,0)))∧Aside0 (w'.heap[ba]? =some (.cells #[.int .i64 aD,(.slice bH al.length bJ),(.slice bR av.length bK),(.slice bI aw.length bL)] 33 (0,0)))∧Aside0 (w'.heap[bC]? =some (.cells #[.int .i64 0,(.slice none 0 0),(.slice none 0 0),(.slice none 0 0)] 33 (0,0)))∧Aside0 (w'.heap[ap]? =some (.cells #[.int .i64 ao,(.slice aG aq.length aI),bj,(.slice aE ar.length aH)] 33 (0,0)))∧Aside0 (Below w.heap.size w w'))
      case atStart=>exact⟨(fB),(0),rf,H',⟨Nat.le_refl _⟩,⟨by exact Kd.nV ez.o (fun _ hk=>⟨hk.1.2,hk.2⟩)⟩,aa,⟨by exact Kd.mM ae.o (fun _ hk=>⟨hk.2,⟨hk.1.1,hk.1.2⟩⟩)⟩,ab,ag,af,aj,ak,HB⟩
      case round=>
       clear H'
       clear dD dt
       obtain⟨bz,aV,rfl,HA,en,au,aa,ae,ab,ag,af,aj,ak,HB⟩:=hrel
       cases gk with
       |zero=>exact nz_ HA.o
       |succ k3=>
        have H:=HA.o;clear HA;simp only[nk.l1]at H
        replace H:=Hi_ H;rcases H with⟨dE,H⟩|⟨dE,H⟩
        ·replace ⟨b5,eX,H⟩:=Hs_ H
         replace ⟨hZ,H⟩:=Hd_ H
         replace ⟨ia,H⟩:=Hd_ H
         replace ⟨ib,H⟩:=Hd_ H
         replace ⟨ic,H⟩:=Hd_ H
         replace ⟨eH,H⟩:=Ha_ H
         replace ⟨bN,eY,H⟩:=Hs_ H
         replace ⟨c76,H⟩:=Hp_ H
         have ie:=eq_true c76;have ig:=decide_eq_true c76;clear c76
         replace ⟨eI,H⟩:=Ha_ H
         obtain⟨cI,dg⟩:=ex_ ((bN++List.replicate ((al.length:Int):Int).toNat 0):List Int);rw[←dg]at H;have eZ:=A_ dg;clear dg
         replace ⟨eJ,H⟩:=Ha_ H
         obtain⟨fC,dh⟩:=ex_ ((bz++[cI]):List (List Int));rw[←dh]at H;have fa:=A_ dh;clear dh
         have H':=A_ H
         clear H
         go_wp2_with (first|((with_reducible refine gd_ 65 rfl ?_);refine RL_ 65 3 [] [] rfl rfl (by go_simp;done) rfl rfl ?_;rintro gU kT b7 hb - -;(rw[←eX.o]at b7);replace au:=A_ (Kd.rz au.o (Kd.nW b7) hb);replace ae:=A_ (Kd.oz ae.o (Kd.nW b7) hb);have bW:=A_ (Kd.nE (Kd.qF (Kd.qF b7 (Kd.oV aa.o)) (Kd.oV ab.o)) (mK HB.o));replace aa:=A_ (Kd.oz aa.o (Kd.nW b7) hb);replace ab:=A_ (Kd.oz ab.o (Kd.nW b7) hb);replace ag:=bb_ ag hb;replace af:=bb_ af hb;replace aj:=bb_ aj hb;replace ak:=bb_ ak hb;replace HB:=bs_ HB hb;clear hb b7;have iK:=a8.o;have i7:=a9.o;have iL:=aJ.o;have i8:=aM.o;have iM:=ah.o;have i9:=aN.o;have fT:=bq4 ag.o;have d7:0≤(aA:Int):=oa_;have ec:aA<(ay.length:Int):=oa_;obtain⟨hU,fU,fX,fZ,bZ,cD,cw⟩:=wI cg.o aA d7 ec;cases fZ;replace bZ:=cm_ HB bZ;have dn:=A_ cw;have fE:=A_ cD;clear cw cD;replace d7:=eq_true d7;replace ec:=eq_true ec;have d8:0≤(aV:Int):=oa_;have ed:aV<((nH ay aA).length:Int):=oa_;obtain⟨hV,fV,fY,f6,b1,cE,cA⟩:=qM dn.o aV d8 ed;cases f6;replace b1:=cm_ HB b1;have dp:=A_ cA;have fF:=A_ cE;clear cA cE;replace d8:=eq_true d8;replace ed:=eq_true ed)|((with_reducible refine nG (b:=.append) (xs:= #[.tmp 65,.tmp 73]) rfl ?_);at_builtin;refine Kd.uU (Kd.int .i64) (w0:=w) w.heap.size rfl (.tmp 65) (.tmp 73) 25 3 (.int .i64 0) 8 rfl Try.underlying25 info3 rfl d_ om gU b5 (f_ (nH ay aA) aV) _ _ _ (o2 (.slice aG aq.length aI) (.slice aE ar.length aH)) (fun _=>False) rfl rfl ?aO ?aR (fun _ _ h=>h) (fun _ h=>h.elim) ?aF ?aB ?aS ?aL ?_;(case aR=>exact(Kd.mO dp.o HB.o));(case aB=>exact HB.o);(case aF=>exact(fun k_ hk=>⟨Kd.fresh' (Kd.oV aa.o) k_ hk,Kd.fresh' (Kd.oV ab.o) k_ hk⟩));(case aO=>exact(by exact Kd.mM bW.o (fun _ hk=>⟨hk.1.2,hk.2⟩)));(case aS=>exact(mK HB.o));(case aL=>have:=eH.o;omega);intro gV kU ho hb hg hat;rw[←eY.o]at ho;replace au:=A_ (Kd.sF (ok:=(o2 (.slice aG aq.length aI) (.slice aE ar.length aH))) au.o hg hat);replace aa:=A_ (Kd.pq (ok:=(o1 (.slice aE ar.length aH))) aa.o hg hat);replace ae:=A_ (Kd.pq (ok:=(o3 u10 (.slice aG aq.length aI) (.slice aE ar.length aH))) ae.o hg hat);replace ab:=A_ (Kd.pq (ok:=(o1 (.slice aG aq.length aI))) ab.o hg hat);replace ag:=gR_ bW ag hg;replace af:=gR_ bW af hg;replace aj:=gR_ bW aj hg;replace ak:=gR_ bW ak hg;replace HB:=A_ (hb);have bX:=A_ (ho);clear bW;clear ho hb hg hat)|(at_builtin;refine Kd.zl (Kd.int .i64) (w0:=w) w.heap.size rfl (.tmp 74) (.tmp 75) 25 3 3 (.int .i64 0) 8 rfl Try.underlying25 Try.underlying3 info3 rfl d_ om gV bN 0 ((al.length:Int):Int) (o2 (.slice aG aq.length aI) (.slice aE ar.length aH)) rfl rfl rfl ?aF ?aO oa_ ?aB ?aS ?aL ?_;(case aB=>exact HB.o);(case aF=>exact(fun k_ hk=>⟨Kd.fresh' (Kd.oV aa.o) k_ hk,Kd.fresh' (Kd.oV ab.o) k_ hk⟩));(case aO=>exact bX.o);(case aS=>exact(mK HB.o));(case aL=>have:=eI.o;omega);intro jm kV ho hb hg hat;rw[←eZ.o]at ho;replace au:=A_ (Kd.sF (ok:=(o2 (.slice aG aq.length aI) (.slice aE ar.length aH))) au.o hg hat);replace aa:=A_ (Kd.pq (ok:=(o1 (.slice aE ar.length aH))) aa.o hg hat);replace ae:=A_ (Kd.pq (ok:=(o3 u10 (.slice aG aq.length aI) (.slice aE ar.length aH))) ae.o hg hat);replace ab:=A_ (Kd.pq (ok:=(o1 (.slice aG aq.length aI))) ab.o hg hat);replace ag:=gR_ bX ag hg;replace af:=gR_ bX af hg;replace aj:=gR_ bX aj hg;replace ak:=gR_ bX ak hg;replace HB:=A_ (hb);have cc:=A_ (ho);clear bX;clear ho hb hg hat;obtain⟨dT,dX,f9⟩:=Kd.mU cc.o;subst f9)|((with_reducible refine nG (b:=.append) (xs:= #[.tmp 64,.tmp 77]) rfl ?_);at_builtin;refine Kd.uq (Kd.slice 3 (Kd.int .i64)) (w0:=w) w.heap.size rfl (.tmp 64) (.tmp 77) 24 25 (.slice none 0 0) 24 rfl Try.underlying24 uO rfl d_ om u10 bz cI [.slice dT cI.length dX] (o2 (.slice aG aq.length aI) (.slice aE ar.length aH)) (fun k_=>some k_=(.slice dT cI.length dX:Value).ownBlock) rfl rfl ?aP (fun k_ j6=>((Kd.mM (ok':=fun k_=>((o2 (.slice aG aq.length aI) (.slice aE ar.length aH))) k_∧some k_≠(u10:Value).ownBlock) (Kd.pE (cc.o) (Kd.oL au.o) d_) (fun k_ hk=>⟨⟨hk.1.1,hk.1.2⟩,hk.2⟩))).1 k_ j6.symm) ?aF ?aO ?aB ?aS ?aL ?_;(case aP=>exact Kd.uR (Kd.mM (Kd.sD rfl (Kd.mM (ok':=fun k_=>((o2 (.slice aG aq.length aI) (.slice aE ar.length aH))) k_∧some k_≠(u10:Value).ownBlock) (Kd.pE (cc.o) (Kd.oL au.o) d_) (fun k_ hk=>⟨⟨hk.1.1,hk.1.2⟩,hk.2⟩))) (fun _ h_=>h_)));(case aB=>exact HB.o);(case aF=>exact(fun k_ hk=>⟨Kd.fresh' (Kd.oV aa.o) k_ hk,Kd.fresh' (Kd.oV ab.o) k_ hk⟩));(case aO=>exact(by exact Kd.nV au.o (fun k_ hk=>⟨⟨hk.1.1,hk.1.2⟩,fun e_=>hk.2 e_⟩)));(case aS=>exact(mK HB.o));(case aL=>have:=eJ.o;omega);intro jn kW ho hb hg hat;rw[←fa.o]at ho;replace aa:=A_ (Kd.qH aa.o (Kd.oL au.o) d_ hg);replace ae:=A_ (Kd.pq (ok:=(o3 (.slice aG aq.length aI) (.slice aE ar.length aH) (.slice dT cI.length dX))) (by exact Kd.mM ae.o (fun _ hk=>⟨⟨hk.1.2.1,⟨hk.1.2.2,hk.2⟩⟩,hk.1.1⟩)) hg hat);replace ab:=A_ (Kd.qH ab.o (Kd.oL au.o) d_ hg);replace ag:=gS_ au ag hg;replace af:=gS_ au af hg;replace aj:=gS_ au aj hg;replace ak:=gS_ au ak hg;replace HB:=A_ (hb);have eB:=A_ (ho);clear au cc;clear ho hb hg hat))
         go_roundg k3
         case measure=>have:=el.o;have:=em.o;have:=en.o;omega
         case rel=>exact⟨(fC),(wrap64 (aV+1)),rf,H',⟨by have:=el.o;have:=em.o;have:=en.o;omega⟩,eB,⟨by exact Kd.mM aa.o (fun _ hk=>hk.1)⟩,⟨by exact Kd.mM ae.o (fun _ hk=>⟨hk.2,⟨hk.1.1,hk.1.2.1⟩⟩)⟩,⟨by exact Kd.mM ab.o (fun _ hk=>hk.1)⟩,ag,af,aj,ak,HB⟩
        have H':=A_ H
        clear H
        go_wp2
        go_loopg [10,12] k3 (fun kq fA jd w'=>∃ (bA:List (List Int)) (aU:Int),jd=.int .i64 aU∧Aside0 (nk.l2 kq (an.length:Int) (al.length:Int) aA bA aU ao an ay az aD al av aw ao aq am ar=some (r1,r2,r3,r4,r5))∧Aside0 (kq≤k3)∧Aside0 (Kd.S (Kd.slice 3 (Kd.int .i64)) 25 w' w.heap.size (o2 (.slice aG aq.length aI) (.slice aE ar.length aH)) fA bA)∧Aside0 (Kd.R (Kd.int .i64) 3 w' w.heap.size (o1 (.slice aE ar.length aH)) (.slice aG aq.length aI) aq)∧Aside0 (Kd.R (Kd.slice 25 (Kd.slice 3 (Kd.int .i64))) 24 w' w.heap.size (o3 fA (.slice aG aq.length aI) (.slice aE ar.length aH)) bj am)∧Aside0 (Kd.R (Kd.int .i64) 3 w' w.heap.size (o1 (.slice aG aq.length aI)) (.slice aE ar.length aH) ar)∧Aside0 (w'.heap[bv]? =some (.cells #[.int .i64 ao,(.slice bO an.length bS),(.slice bP ay.length bT),(.slice bQ az.length bU)] 33 (0,0)))∧Aside0 (w'.heap[ba]? =some (.cells #[.int .i64 aD,(.slice bH al.length bJ),(.slice bR av.length bK),(.slice bI aw.length bL)] 33 (0,0)))∧Aside0 (w'.heap[bC]? =some (.cells #[.int .i64 0,(.slice none 0 0),(.slice none 0 0),(.slice none 0 0)] 33 (0,0)))∧Aside0 (w'.heap[ap]? =some (.cells #[.int .i64 ao,(.slice aG aq.length aI),bj,(.slice aE ar.length aH)] 33 (0,0)))∧Aside0 (Below w.heap.size w w'))
        case atStart=>exact⟨(bz),(0),rf,H',⟨Nat.le_refl _⟩,au,aa,ae,ab,ag,af,aj,ak,HB⟩
        case round=>
         clear H'
         try clear dE
         obtain⟨bA,aU,rfl,HA,fI,au,aa,ae,ab,ag,af,aj,ak,HB⟩:=hrel
         cases gk with
         |zero=>exact nz_ HA.o
         |succ k4=>
          have H:=HA.o;clear HA;simp only[nk.l2]at H
          replace H:=Hi_ H;rcases H with⟨fg,H⟩|⟨fg,H⟩
          ·replace ⟨j_,H⟩:=Hp_ H
           have ii:=eq_true j_;have ij:=decide_eq_true j_;clear j_
           replace ⟨c91,H⟩:=Hp_ H
           have ik:=eq_true c91;have il:=decide_eq_true c91;clear c91;replace ⟨b6,fb,H⟩:=Hs_ H
           replace ⟨im,H⟩:=Hd_ H
           replace ⟨io,H⟩:=Hd_ H
           replace ⟨ip,H⟩:=Hd_ H
           replace ⟨iq,H⟩:=Hd_ H
           replace ⟨eK,H⟩:=Ha_ H
           obtain⟨cJ,dj⟩:=ex_ ((b6++(f_ (nH av aA) aU)):List Int);rw[←dj]at H;have fc:=A_ dj;clear dj
           replace ⟨eN,H⟩:=Ha_ H
           obtain⟨fD,dk⟩:=ex_ ((bA++[cJ]):List (List Int));rw[←dk]at H;have fd:=A_ dk;clear dk
           have H':=A_ H
           clear H
           try go_wp2
           replace au:=A_ (Kd.vK au.o);replace aa:=A_ (Kd.pR aa.o);replace ae:=A_ (Kd.pR ae.o);replace ab:=A_ (Kd.pR ab.o);replace ag:=A_ (nQ ag.o);replace af:=A_ (nQ af.o);replace aj:=A_ (nQ aj.o);replace ak:=A_ (nQ ak.o);replace HB:=A_ (oG HB.o)
           have d9:0≤(aA:Int):=oa_
           have ef:aA<(av.length:Int):=oa_
           obtain⟨dB,fW,dV,f7,bE,cF,cB⟩:=wI cS.o aA d9 ef;have aW:=bE
           cases f7
           replace bE:=cm_ HB bE;have ci:=A_ cB;have fG:=A_ cF;clear cB cF;replace d9:=eq_true d9;replace ef:=eq_true ef
           have eb:0≤(aU:Int):=oa_
           have eg:aU<((nH av aA).length:Int):=oa_
           obtain⟨dC,dS,dW,f8,bF,cG,cC⟩:=qM ci.o aU eb eg;have aX:=bF
           cases f8
           replace bF:=cm_ HB bF;have ck:=A_ cC;have fH:=A_ cG;clear cC cG;replace eb:=eq_true eb;replace eg:=eq_true eg;refine rM (n:=15) (S:=fun w'=>cA4 ba (.int .i64 aD) (.slice bH al.length bJ) (.slice (some dB) av.length bK) (.slice bI aw.length bL) w' (w'.cell? (dB.add (aA).toNat)=some (.slice (some dC) (nH av aA).length dV)∧w'.cell? (dC.add (aU).toNat)=some (.slice dS (f_ (nH av aA) aU).length dW))) (ds:=[]) (mk_ 15 0) K_ rfl rfl ⟨bz0 af.o,bz1 af.o,bz2 af.o,bz3 af.o,((HB.o.cell (World.block_lt_of_cell? w _ aW)).trans aW),((HB.o.cell (World.block_lt_of_cell? w _ aX)).trans aX)⟩ (fun ax=>?_);refine ru nk.O3 nk.NL (fun bD dq=>?_)
           generalize wr.drew=kX at au aa ae ab ag af aj ak HB ci ck bE bF ax⊢
           refine pw_ 0 84 (mk_ 15 1) bD ?_;refine pw_ 1 85 (mk_ 15 3) bD ?_;refine pw_ 3 87 (mk_ 15 11) bD ?_;refine pw_ 5 89 (mk_ 15 43) bD ?_;refine pw_ 8 92 (mk_ 15 299) bD ?_;refine tk_ 4 88 (mk_ 15 315) bD dq ax ?_;refine pw_ 6 90 (mk_ 15 379) bD ?_;refine tk_ 7 91 (mk_ 15 507) bD dq ax ?_;refine pw_ 9 93 (mk_ 15 1019) bD ?_;refine tk_ 10 94 (mk_ 15 2043) bD dq ax ?_;refine ow_ 2 (mk_ 15 2047) bD (fun K hK=>?_);refine Kd.wZ (Kd.int .i64) _ 3 rf (N:=86) rfl 25 _ _ rfl (an.length:Int) rfl rfl Try.underlying25 (.int .i64 0) 8 info3 rfl d_ om 0 (ok:=fun _=>True) (okp:=fun _=>True) rfl (fun _ hk=>hk) trivial oa_ (Nat.le_trans (Nat.mul_le_mul_right _ (oa_:(an.length:Int).toNat≤35184372088832)) om) (Below.refl _ _) (Nat.le_refl _) ?_;intro g5 kY bM hb jS df;clear jS df
           (rw[←fb.o]at bM)
           replace au:=A_ (Kd.rz au.o (Kd.nW bM) hb);replace ae:=A_ (Kd.oz ae.o (Kd.nW bM) hb);have bY:=A_ (Kd.nE (Kd.qF (Kd.qF bM (Kd.oV aa.o)) (Kd.oV ab.o)) (mK HB.o));replace aa:=A_ (Kd.oz aa.o (Kd.nW bM) hb);replace ab:=A_ (Kd.oz ab.o (Kd.nW bM) hb);replace ag:=bb_ ag hb;replace af:=bb_ af hb;replace aj:=bb_ aj hb;replace ak:=bb_ ak hb;replace HB:=bs_ HB hb;clear hb bM;refine hK.out _ _ ⟨bz0 af.o,bz1 af.o,bz2 af.o,bz3 af.o,((HB.o.cell (World.block_lt_of_cell? w _ aW)).trans aW),((HB.o.cell (World.block_lt_of_cell? w _ aX)).trans aX)⟩ (fun ax=>?_);clear hK K;refine nm_ 86 ?_;refine ow_ 11 (mk_ 15 4095) bD (fun K hK=>?_);refine Kd.oU (Kd.int .i64) (w0:=w) w.heap.size rf (.tmp 86) (.tmp 94) 25 3 (.int .i64 0) 8 rfl Try.underlying25 info3 rfl d_ om g5 b6 (f_ (nH av aA) aU) _ _ _ (o2 (.slice aG aq.length aI) (.slice aE ar.length aH)) (fun _=>False) rfl rfl ?aO ?aR (fun _ _ h=>h) (fun _ h=>h.elim) ?aF ?aB ?aS ?aL ?_
           (case aR=>exact(Kd.mO ck.o HB.o))
           (case aB=>exact HB.o)
           (case aF=>exact(fun k_ hk=>⟨Kd.fresh' (Kd.oV aa.o) k_ hk,Kd.fresh' (Kd.oV ab.o) k_ hk⟩))
           (case aO=>exact(by exact Kd.mM bY.o (fun _ hk=>⟨hk.1.2,hk.2⟩)))
           (case aS=>exact(mK HB.o))
           (case aL=>have:=eK.o;omega)
           intro jo kH ho hb hg hat;rw[←fc.o]at ho;replace au:=A_ (Kd.sF (ok:=(o2 (.slice aG aq.length aI) (.slice aE ar.length aH))) au.o hg hat);replace aa:=A_ (Kd.pq (ok:=(o1 (.slice aE ar.length aH))) aa.o hg hat);replace ae:=A_ (Kd.pq (ok:=(o3 u10 (.slice aG aq.length aI) (.slice aE ar.length aH))) ae.o hg hat);replace ab:=A_ (Kd.pq (ok:=(o1 (.slice aG aq.length aI))) ab.o hg hat);replace ag:=gR_ bY ag hg;replace af:=gR_ bY af hg;replace aj:=gR_ bY aj hg;replace ak:=gR_ bY ak hg;replace HB:=A_ (hb);have cd:=A_ (ho);clear bY ho hb hg hat;obtain⟨cL,cV,dF⟩:=Kd.mU cd.o
           (first|subst dF|(injection dF with di fe eu;have gq:=di.symm;have gu:=eu.symm;clear di fe eu;subst gq;subst gu))
           refine hK.out _ _ ⟨bz0 af.o,bz1 af.o,bz2 af.o,bz3 af.o,((HB.o.cell (World.block_lt_of_cell? w _ aW)).trans aW),((HB.o.cell (World.block_lt_of_cell? w _ aX)).trans aX)⟩ (fun ax=>?_);clear hK K;refine nm_ 95 ?_;refine ow_ 12 (mk_ 15 8191) bD (fun K hK=>?_);refine yn (w1:=?_) (v:=?_) rf rfl ?_ ?_;rotate_left 2
           ·go_simp
            constructor
            ·rfl
            rfl
           refine hK.out _ _ ⟨(pU (nP af.o _) 0).trans rfl,(pU (nP af.o _) 1).trans rfl,(pU (nP af.o _) 2).trans rfl,(pU (nP af.o _) 3).trans rfl,(World.cell?_alloc_lt _ _ _ (World.block_lt_of_cell? _ _ (((HB.o.cell (World.block_lt_of_cell? w _ aW)).trans aW)))).trans (((HB.o.cell (World.block_lt_of_cell? w _ aW)).trans aW)),(World.cell?_alloc_lt _ _ _ (World.block_lt_of_cell? _ _ (((HB.o.cell (World.block_lt_of_cell? w _ aX)).trans aX)))).trans (((HB.o.cell (World.block_lt_of_cell? w _ aX)).trans aX))⟩ (fun ax=>?_);clear hK K;refine nm_ 96 ?_;refine ow_ 13 (mk_ 15 16383) bD (fun K hK=>?_);refine Kd.yz (Kd.slice 3 (Kd.int .i64)) (w0:=w) w.heap.size rf (.tmp 84) (.tmp 96) 24 25 (.slice none 0 0) 24 rfl Try.underlying24 uO rfl d_ om u10 bA cJ [.slice cL cJ.length cV] (o2 (.slice aG aq.length aI) (.slice aE ar.length aH)) (fun k_=>some k_=(.slice cL cJ.length cV:Value).ownBlock) rfl rfl ?aP (fun k_ j6=>((Kd.mM (ok':=fun k_=>((o2 (.slice aG aq.length aI) (.slice aE ar.length aH))) k_∧some k_≠(u10:Value).ownBlock) (Kd.pE (cd.o) (Kd.oL au.o) d_) (fun k_ hk=>⟨⟨hk.1.1,hk.1.2⟩,hk.2⟩))).1 k_ j6.symm) ?aF ?aO ?aB ?aS ?aL ?_
           (case aP=>exact Kd.uR (Kd.mM (Kd.sD rfl (Kd.mM (ok':=fun k_=>((o2 (.slice aG aq.length aI) (.slice aE ar.length aH))) k_∧some k_≠(u10:Value).ownBlock) (Kd.pE (cd.o) (Kd.oL au.o) d_) (fun k_ hk=>⟨⟨hk.1.1,hk.1.2⟩,hk.2⟩))) (fun _ h_=>h_)))
           (case aB=>exact HB.o)
           (case aF=>exact(fun k_ hk=>⟨Kd.fresh' (Kd.oV aa.o) k_ hk,Kd.fresh' (Kd.oV ab.o) k_ hk⟩))
           (case aO=>exact(by exact Kd.nV au.o (fun k_ hk=>⟨⟨hk.1.1,hk.1.2⟩,fun e_=>hk.2 e_⟩)))
           (case aS=>exact(mK HB.o))
           (case aL=>have:=eN.o;omega)
           intro jp kI ho hb hg hat;rw[←fd.o]at ho;replace aa:=A_ (Kd.qH aa.o (Kd.oL au.o) d_ hg);replace ae:=A_ (Kd.pq (ok:=(o3 (.slice aG aq.length aI) (.slice aE ar.length aH) (.slice cL cJ.length cV))) (by exact Kd.mM ae.o (fun _ hk=>⟨⟨hk.1.2.1,⟨hk.1.2.2,hk.2⟩⟩,hk.1.1⟩)) hg hat);replace ab:=A_ (Kd.qH ab.o (Kd.oL au.o) d_ hg);replace ag:=gS_ au ag hg;replace af:=gS_ au af hg;replace aj:=gS_ au aj hg;replace ak:=gS_ au ak hg;replace HB:=A_ (hb);have eC:=A_ (ho);clear au cd ho hb hg hat;refine hK.out _ _ ⟨bz0 af.o,bz1 af.o,bz2 af.o,bz3 af.o,((HB.o.cell (World.block_lt_of_cell? w _ aW)).trans aW),((HB.o.cell (World.block_lt_of_cell? w _ aX)).trans aX)⟩ (fun ax=>?_);clear hK K;refine nm_ 97 ?_;refine pw_ 14 10 (mk_ 15 32767) bD ?_;refine sZ (sP bD.o K_) ?_
           try go_wp2
           go_roundg k4
           case measure=>have:=el.o;have:=em.o;have:=en.o;have:=fI.o;omega
           case rel=>exact⟨(fD),(wrap64 (aU+1)),rf,H',⟨by have:=el.o;have:=em.o;have:=en.o;have:=fI.o;omega⟩,eC,⟨by exact Kd.mM aa.o (fun _ hk=>hk.1)⟩,⟨by exact Kd.mM ae.o (fun _ hk=>⟨hk.2,⟨hk.1.1,hk.1.2.1⟩⟩)⟩,⟨by exact Kd.mM ab.o (fun _ hk=>hk.1)⟩,ag,af,aj,ak,HB⟩
          replace ⟨dU,H⟩:=Ha_ H
          obtain⟨cK,dm⟩:=ex_ ((am++[bA]):List (List (List Int)));rw[←dm]at H;have ff:=A_ dm;clear dm
          have H':=A_ H
          clear H;have ga:=aN.o;have gv:=ah.o;have gb:=bg.o;have gw:=ai.o;have gc:=bh.o;have gx:=aC.o;have fq:=bq4 ak.o;obtain⟨eq,fh,fj⟩:=Kd.rO au.o;subst fj
          go_wp2_with (first|((with_reducible refine nG (b:=.append) (xs:= #[.tmp 99,.tmp 101]) rfl ?_);at_builtin;refine Kd.qG (Kd.slice 25 (Kd.slice 3 (Kd.int .i64))) (w0:=w) w.heap.size rfl (.tmp 99) (.tmp 101) 31 24 (.slice none 0 0) 24 rfl Try.underlying31 Ef rfl d_ om bj am bA [.slice eq bA.length fh] (o2 (.slice aG aq.length aI) (.slice aE ar.length aH)) (fun k_=>((o2 (.slice aG aq.length aI) (.slice aE ar.length aH))) k_∧some k_≠(bj:Value).ownBlock) rfl rfl ?aP (fun _ hk=>hk) ?aF ?aO ?aB ?aS ?aL ?_;(case aP=>exact Kd.uR (Kd.mM (Kd.pE ((Kd.S_R au.o)) (Kd.tu ae.o) d_) (fun k_ hk=>⟨⟨hk.1.1,hk.1.2⟩,hk.2⟩)));(case aB=>exact HB.o);(case aF=>exact(fun k_ hk=>⟨Kd.fresh' (Kd.oV aa.o) k_ hk,Kd.fresh' (Kd.oV ab.o) k_ hk⟩));(case aO=>exact(by exact Kd.mM ae.o (fun _ hk=>⟨hk.2.1,hk.2.2⟩)));(case aS=>exact(mK HB.o));(case aL=>have:=dU.o;omega);intro jq kJ ho hb hg hat;rw[←ff.o]at ho;replace aa:=A_ (Kd.qH aa.o (Kd.tu ae.o) d_ hg);replace ab:=A_ (Kd.qH ab.o (Kd.tu ae.o) d_ hg);replace ag:=gR_ ae ag hg;replace af:=gR_ ae af hg;replace aj:=gR_ ae aj hg;replace ak:=gR_ ae ak hg;replace HB:=A_ (hb);have dA:=A_ (ho);clear ae au;clear ho hb hg hat;obtain⟨b8,co,fk⟩:=Kd.mU dA.o;subst fk;have fs:=bq4 ak.o))
          go_roundg k4
          case measure=>have:=el.o;have:=em.o;have:=en.o;have:=fI.o;omega
          case rel=>exact⟨(wrap64 (aA+1)),(cK),(.slice b8 cK.length co),rf,H',⟨by have:=el.o;have:=em.o;have:=en.o;have:=fI.o;omega⟩,⟨by exact Kd.mM (Kd.sM (p:=⟨ap,2,none⟩) (Kd.qi aa.o ak.o d_) (fun _ hk=>hk.2) (.slice b8 cK.length co)) (fun _ hk=>hk.1)⟩,⟨by exact Kd.mM (Kd.sM (p:=⟨ap,2,none⟩) (Kd.qi dA.o ak.o d_) (fun _ hk=>hk.2) (.slice b8 cK.length co)) (fun _ hk=>⟨hk.1.1,hk.1.2⟩)⟩,⟨by exact Kd.mM (Kd.sM (p:=⟨ap,2,none⟩) (Kd.qi ab.o ak.o d_) (fun _ hk=>hk.2) (.slice b8 cK.length co)) (fun _ hk=>hk.1)⟩,⟨by exact fa_ ah ag.o⟩,⟨by exact fa_ ai af.o⟩,⟨by exact fa_ aC aj.o⟩,⟨by exact pu_ 2 ak.o rfl⟩,⟨wb_⟩⟩
     replace ⟨ej,gB,H⟩:=bA_ H
     replace H:=Hb_ H;rcases H with⟨rfl,H⟩|⟨rfl,H⟩
     ·simp only[Option.some.injEq,Prod.mk.injEq]at H;obtain⟨rfl,rfl,rfl,rfl,rfl⟩:=H;have gd:=a8.o;have gy:=a9.o;have gf:=aJ.o;have gz:=aM.o;have gg:=ah.o;have gD:=aN.o;have ft:=bq4 ag.o;have gh:=bg.o;have gE:=ai.o;have gi:=bh.o;have gF:=aC.o;have fu:=bq4 ak.o;obtain⟨ew,fi,fl⟩:=Kd.mU ae.o;subst fl
      go_wp2_with (first|((with_reducible refine gc_ 25 rfl ?_);refine cM_ E25 105 (mZ.calls k2 ao _ _ aq _ _ am _ _ ar true _ ((Kd.mX aa.o).2.2) ((Kd.mX aa.o).2.1) ((Kd.mX ae.o).2.2) ((Kd.mX ae.o).2.1) ((Kd.mX ab.o).2.2) ((Kd.mX ab.o).2.1) gB.o) ?_;rintro e kK ⟨rfl,hb⟩;refine⟨_,rfl,?_⟩;replace aa:=A_ (Kd.nX aa.o hb);replace ae:=A_ (Kd.nX ae.o hb);replace ab:=A_ (Kd.nX ab.o hb);replace ag:=bb_ ag hb;replace af:=bb_ af hb;replace aj:=bb_ aj hb;replace ak:=bb_ ak hb;replace HB:=bs_ HB hb;clear hb;have fv:=bq4 ak.o;have gj:=bu.o;have gG:=br.o;have fw:=bq4 aj.o))
      refine rt_ #[.int .i64 ao,.slice aG aq.length aI,.slice ew am.length fi,.slice aE ar.length aH] (by exact pu_ 3 (pu_ 2 (pu_ 1 (pu_ 0 aj.o rfl) rfl) rfl) rfl) Try.underlying33 ?_;exact⟨_,_,_,rf,by exact Kd.mM (wT (tR_ aa aj)) (fun _ hk=>hk.1),by exact Kd.mM (wT (tR_ ae aj)) (fun _ hk=>⟨hk.1.1,hk.1.2⟩),by exact Kd.mM (wT (tR_ ab aj)) (fun _ hk=>hk.1),wb_⟩
     simp only[Option.some.injEq,Prod.mk.injEq]at H;obtain⟨rfl,rfl,rfl,rfl,rfl⟩:=H;have gl:=a8.o;have gH:=a9.o;have gm:=aJ.o;have gI:=aM.o;have gn:=ah.o;have gJ:=aN.o;have fx:=bq4 ag.o;have go:=bg.o;have gK:=ai.o;have gp:=bh.o;have gM:=aC.o;have fy:=bq4 ak.o;obtain⟨g6,ir,fm⟩:=Kd.mU ae.o;subst fm
     go_wp2_with (first|((with_reducible refine gc_ 25 rfl ?_);refine cM_ E25 105 (mZ.calls k2 ao _ _ aq _ _ am _ _ ar false _ ((Kd.mX aa.o).2.2) ((Kd.mX aa.o).2.1) ((Kd.mX ae.o).2.2) ((Kd.mX ae.o).2.1) ((Kd.mX ab.o).2.2) ((Kd.mX ab.o).2.1) gB.o) ?_;rintro e kL ⟨rfl,hb⟩;refine⟨_,rfl,?_⟩;replace aa:=A_ (Kd.nX aa.o hb);replace ae:=A_ (Kd.nX ae.o hb);replace ab:=A_ (Kd.nX ab.o hb);replace ag:=bb_ ag hb;replace af:=bb_ af hb;replace aj:=bb_ aj hb;replace ak:=bb_ ak hb;replace HB:=bs_ HB hb;clear hb;have gt:=bu.o;have gN:=br.o;have fz:=bq4 aj.o))
     refine rt_ #[.int .i64 0,.slice none 0 0,.slice none 0 0,.slice none 0 0] (by exact pu_ 3 (pu_ 2 (pu_ 1 (pu_ 0 aj.o rfl) rfl) rfl) rfl) Try.underlying33 ?_;exact⟨_,_,_,rf,by exact Kd.sI _ _ _ _ _,by exact Kd.sI _ _ _ _ _,by exact Kd.sI _ _ _ _ _,wb_⟩
def zG.f (l0:List Int) (a1:Int):Option (Int):=if a1<(l0.length:Int)then(if 0≤a1 then(some (wrap64 (rd l0 a1)))else(none))else(some (Int.tmod (wrap64 ((wrap64 (a1*37))+(wrap64 ((l0.length:Int)*11)))) 256))
theorem zG.calls (A0:Option Addr) (c0:Nat) (l0:List Int) (a1:Int) (r:Int) (w:World) (hr0:Kd.C (Kd.int .u8) w A0 l0.length l0) (hc0:l0.length≤c0) (h:zG.f l0 a1=some r):
  Calls Try.prog 17 #[.slice A0 l0.length c0,.int .i64 a1] w fun e w'=>e=.returned (.int .i64 r)∧nJ w w':=by
 have aZ:=A_ hr0;have bW:=A_ hc0;clear hr0 hc0;unfold zG.f at h;have H:=h;clear h
 replace H:=Hi_ H;rcases H with⟨bC,H⟩|⟨bC,H⟩
 ·replace ⟨a8,H⟩:=Hd_ H
  obtain rfl:=Option.some.inj H
  have bg:0≤(a1:Int):=oa_
  have bh:a1<(l0.length:Int):=oa_
  obtain⟨bP,bD,bB⟩:=Kd.nM aZ.o a1 bg bh
  cases bD
  replace bg:=eq_true bg;replace bh:=eq_true bh;go_enter Try.func17,Try.ntmps17
  go_wp2
  go_ret
  exact⟨rf,by repeat (first|exact nJ.refl _|apply nJ.step)⟩
 obtain rfl:=Option.some.inj H;go_enter Try.func17,Try.ntmps17
 go_wp2
 go_ret
 exact⟨rf,by repeat (first|exact nJ.refl _|apply nJ.step)⟩
def qd.f (k:Nat) (ae:Int) (aa:List Int) (ab:List (List (List Int))) (al:List Int) (a1:Int):Option (Int):=(nz.f k ae aa ab al).bind fun bi=>(if bi=true then((rY.f k a1 ae).bind fun bj=>(if bj=true then((mW.f k ae aa ab al a1).bind fun bk=>(some bk))else(some 0)))else(some 0))
theorem qd.calls (k:Nat) (ae:Int) (ah:Option Addr) (aj:Nat) (aa:List Int) (ai:Option Addr) (ak:Nat) (ab:List (List (List Int))) (aT:Option Addr) (aU:Nat) (al:List Int) (a1:Int) (r:Int) (w:World) (aw:Kd.C (Kd.int .i64) w ah aa.length aa) (au:aa.length≤aj) (ax:Kd.C (Kd.slice 25 (Kd.slice 3 (Kd.int .i64))) w ai ab.length ab) (av:ab.length≤ak) (bc:Kd.C (Kd.int .i64) w aT al.length al) (ba:al.length≤aU) (h:qd.f k ae aa ab al a1=some r):
  Calls Try.prog 18 #[.agg #[.int .i64 ae,.slice ah aa.length aj,.slice ai ab.length ak,.slice aT al.length aU],.int .i64 a1] w fun e w'=>e=.returned (.int .i64 r)∧Below w.heap.size w w':=by
 have a_:=Try.underlying33;have ao:=A_ aw;have am:=A_ au;clear aw au;have ap:=A_ ax;have an:=A_ av;clear ax av;have aG:=A_ bc;have aE:=A_ ba;clear bc ba;have HB:=A_ (Below.refl w.heap.size w);unfold qd.f at h;have H:=h;clear h;replace ⟨bi,A3,H⟩:=bA_ H
 replace H:=Hb_ H;rcases H with⟨rfl,H⟩|⟨rfl,H⟩
 ·replace ⟨bj,A5,H⟩:=bA_ H
  replace H:=Hb_ H;rcases H with⟨rfl,H⟩|⟨rfl,H⟩
  ·replace ⟨bk,A7,H⟩:=bA_ H;obtain rfl:=Option.some.inj H;go_enter Try.func18,Try.ntmps18
   go_wp2_with (first|((with_reducible refine gt_ 2 ?_);refine be_ 2 #[.int .i64 ae,.slice ah aa.length aj,.slice ai ab.length ak,.slice aT al.length aU] 33 ?_;intro aV hg w8 J hb;have af:=A_ (J);have a9:=lh_ HB hg;have ay:=lh_ HB hg;replace HB:=bs_ HB hb;clear hb J hg;have aW:=bq4 af.o)|((with_reducible refine gc_ 13 rfl ?_);refine cM_ E13 6 (nz.calls k ae _ _ aa _ _ ab _ _ al true _ (Kd.mO ao.o HB.o) am.o (Kd.mO ap.o HB.o) an.o (Kd.mO aG.o HB.o) aE.o A3.o) ?_;rintro e aS ⟨rfl,hb⟩;refine⟨_,rfl,?_⟩;replace af:=bb_ af hb;replace HB:=bs_ HB hb;clear hb;have bv:=bq4 af.o)|(go_at_call 27;(with_reducible refine(rY.calls k a1 ae true _ A5.o).mono ?_);rintro e w' ⟨rfl,⟨nd,rfl⟩⟩)|((with_reducible refine gc_ 28 rfl ?_);refine cM_ E28 17 (mW.calls k ae _ _ aa _ _ ab _ _ al a1 bk _ (by repeat (first|exact(Kd.mO ao.o wb_)|(with_reducible refine Kd.C_alloc ?_ _)|(with_reducible refine Kd.oH ?_ _)|(with_reducible refine Kd.pG ?_))) am.o (by repeat (first|exact(Kd.mO ap.o wb_)|(with_reducible refine Kd.C_alloc ?_ _)|(with_reducible refine Kd.oH ?_ _)|(with_reducible refine Kd.pG ?_))) an.o (by repeat (first|exact(Kd.mO aG.o wb_)|(with_reducible refine Kd.C_alloc ?_ _)|(with_reducible refine Kd.oH ?_ _)|(with_reducible refine Kd.pG ?_))) aE.o A7.o) ?_;rintro e bU ⟨rfl,hb⟩;refine⟨_,rfl,?_⟩;replace af:=A_ (pg (g:=aV) (o:=.cells #[.int .i64 ae,.slice ah aa.length aj,.slice ai ab.length ak,.slice aT al.length aU] 33 (0,0)) wk_ hb);replace HB:=A_ (nZ wb_ hb);clear hb;(try clear hi)))
   go_ret
   exact⟨rf,HB.o⟩
  obtain rfl:=Option.some.inj H;go_enter Try.func18,Try.ntmps18
  go_wp2_with (first|((with_reducible refine gt_ 2 ?_);refine be_ 2 #[.int .i64 ae,.slice ah aa.length aj,.slice ai ab.length ak,.slice aT al.length aU] 33 ?_;intro aV hg bX J hb;have af:=A_ (J);have a9:=lh_ HB hg;have ay:=lh_ HB hg;replace HB:=bs_ HB hb;clear hb J hg;have bw:=bq4 af.o)|((with_reducible refine gc_ 13 rfl ?_);refine cM_ E13 6 (nz.calls k ae _ _ aa _ _ ab _ _ al true _ (Kd.mO ao.o HB.o) am.o (Kd.mO ap.o HB.o) an.o (Kd.mO aG.o HB.o) aE.o A3.o) ?_;rintro e bY ⟨rfl,hb⟩;refine⟨_,rfl,?_⟩;replace af:=bb_ af hb;replace HB:=bs_ HB hb;clear hb;have bz:=bq4 af.o)|(go_at_call 27;(with_reducible refine(rY.calls k a1 ae false _ A5.o).mono ?_);rintro e w' ⟨rfl,⟨nd,rfl⟩⟩))
  go_ret
  exact⟨rf,wb_⟩
 obtain rfl:=Option.some.inj H;go_enter Try.func18,Try.ntmps18
 go_wp2_with (first|((with_reducible refine gt_ 2 ?_);refine be_ 2 #[.int .i64 ae,.slice ah aa.length aj,.slice ai ab.length ak,.slice aT al.length aU] 33 ?_;intro aV hg bZ J hb;have af:=A_ (J);have a9:=lh_ HB hg;have ay:=lh_ HB hg;replace HB:=bs_ HB hb;clear hb J hg;have bA:=bq4 af.o)|((with_reducible refine gc_ 13 rfl ?_);refine cM_ E13 6 (nz.calls k ae _ _ aa _ _ ab _ _ al false _ (Kd.mO ao.o HB.o) am.o (Kd.mO ap.o HB.o) an.o (Kd.mO aG.o HB.o) aE.o A3.o) ?_;rintro e b_ ⟨rfl,hb⟩;refine⟨_,rfl,?_⟩;replace af:=bb_ af hb;replace HB:=bs_ HB hb;clear hb;(try clear hi)))
 go_ret
 exact⟨rf,HB.o⟩
def qc.l0:Nat→Int→Int→Int→Int→List (List Int)→List Int→Option (Int)
 |0,_,_,_,_,_,_=>none
 |k+1,x1,x5,x6,aH,aI,aJ=>if x6≤3 then((rA.f k aH aI aJ x6 x1).bind fun aC=>(if aC<0 then(some (-1))else(qc.l0 k x1 (wrap64 (x5+(wrap64 (x6*aC)))) (wrap64 (x6+1)) aH aI aJ)))else(some x5)
def qc.f (k:Nat) (ae:Int) (aa:List (List Int)) (ab:List Int) (a1:Int):Option (Int):=qc.l0 k a1 0 1 ae aa ab
theorem qc.calls (k:Nat) (ae:Int) (ah:Option Addr) (aj:Nat) (aa:List (List Int)) (ai:Option Addr) (ak:Nat) (ab:List Int) (a1:Int) (r:Int) (w:World) (aw:Kd.C (Kd.slice 3 (Kd.int .i64)) w ah aa.length aa) (au:aa.length≤aj) (ax:Kd.C (Kd.int .i64) w ai ab.length ab) (av:ab.length≤ak) (h:qc.f k ae aa ab a1=some r):
  Calls Try.prog 21 #[.agg #[.int .i64 ae,.slice ah aa.length aj,.slice ai ab.length ak],.int .i64 a1] w fun e w'=>e=.returned (.int .i64 r)∧Below w.heap.size w w':=by
 have aP:=Try.underlying27;have ao:=A_ aw;have am:=A_ au;clear aw au;have ap:=A_ ax;have an:=A_ av;clear ax av;have HB:=A_ (Below.refl w.heap.size w);unfold qc.f at h;have H:=h;clear h
 have H':=A_ H
 clear H;go_enter Try.func21,Try.ntmps21
 go_wp2_with (first|((with_reducible refine gt_ 2 ?_);refine be_ 2 #[.int .i64 ae,.slice ah aa.length aj,.slice ai ab.length ak] 27 ?_;intro bq hg w3 J hb;have aq:=A_ (J);have bN:=lh_ HB hg;have bL:=lh_ HB hg;replace HB:=bs_ HB hb;clear hb J hg))
 go_loopg [5,6] k (fun kq v5 v6 w'=>∃ (aA:Int) (ag:Int),v5=.int .i64 aA∧v6=.int .i64 ag∧Aside0 (qc.l0 kq a1 aA ag ae aa ab=some r)∧Aside0 (kq≤k)∧Aside0 (w'.heap[bq]? =some (.cells #[.int .i64 ae,(.slice ah aa.length aj),(.slice ai ab.length ak)] 27 (0,0)))∧Aside0 (Below w.heap.size w w'))
 case atStart=>exact⟨(0),(1),rf,rf,H',⟨Nat.le_refl _⟩,aq,HB⟩
 case round=>
  clear H';obtain⟨aA,ag,rfl,rfl,HA,bm,aq,HB⟩:=hrel
  cases gk with
  |zero=>exact nz_ HA.o
  |succ k1=>
   have H:=HA.o;clear HA;simp only[qc.l0]at H
   replace H:=Hi_ H;rcases H with⟨a8,H⟩|⟨a8,H⟩
   ·replace ⟨aC,A5,H⟩:=bA_ H
    replace H:=Hi_ H;rcases H with⟨be,H⟩|⟨be,H⟩
    ·obtain rfl:=Option.some.inj H;have bf:=bq3 aq.o
     go_wp2_with (first|((with_reducible refine gc_ 6 rfl ?_);refine cM_ E6 15 (rA.calls k1 ae _ _ aa _ _ ab ag a1 aC _ (Kd.mO ao.o HB.o) am.o (Kd.mO ap.o HB.o) an.o A5.o) ?_;rintro e w8 ⟨rfl,hb⟩;refine⟨_,rfl,?_⟩;replace aq:=bb_ aq hb;replace HB:=bs_ HB hb;clear hb;(try clear hi)))
     go_ret
     exact⟨rf,HB.o⟩
    have H':=A_ H
    clear H;have aW:=bq3 aq.o
    go_wp2_with (first|((with_reducible refine gc_ 6 rfl ?_);refine cM_ E6 15 (rA.calls k1 ae _ _ aa _ _ ab ag a1 aC _ (Kd.mO ao.o HB.o) am.o (Kd.mO ap.o HB.o) an.o A5.o) ?_;rintro e aS ⟨rfl,hb⟩;refine⟨_,rfl,?_⟩;replace aq:=bb_ aq hb;replace HB:=bs_ HB hb;clear hb;(try clear hi)))
    go_roundg k1
    case measure=>have:=bm.o;omega
    case rel=>exact⟨(wrap64 (aA+(wrap64 (ag*aC)))),(wrap64 (ag+1)),rf,rf,H',⟨by have:=bm.o;omega⟩,aq,HB⟩
   obtain rfl:=Option.some.inj H
   go_wp2
   go_ret
   exact⟨rf,HB.o⟩
def qg.l0:Nat→Int→Int→Int→Int→List (List Int)→List Int→Option (Int)
 |0,_,_,_,_,_,_=>none
 |k+1,x1,x5,x6,aM,aN,aQ=>if x6≤3 then((rD.f k aM aN aQ x6 x1).bind fun aD=>(if aD<0 then(some (-1))else(qg.l0 k x1 (wrap64 (x5+(wrap64 (x6*aD)))) (wrap64 (x6+1)) aM aN aQ)))else(some x5)
def qg.f (k:Nat) (ae:Int) (aa:List (List Int)) (ab:List Int) (a1:Int):Option (Int):=qg.l0 k a1 0 1 ae aa ab
theorem qg.calls (k:Nat) (ae:Int) (ah:Option Addr) (aj:Nat) (aa:List (List Int)) (ai:Option Addr) (ak:Nat) (ab:List Int) (a1:Int) (r:Int) (w:World) (aw:Kd.C (Kd.slice 3 (Kd.int .i64)) w ah aa.length aa) (au:aa.length≤aj) (ax:Kd.C (Kd.int .i64) w ai ab.length ab) (av:ab.length≤ak) (h:qg.f k ae aa ab a1=some r):
  Calls Try.prog 22 #[.agg #[.int .i64 ae,.slice ah aa.length aj,.slice ai ab.length ak],.int .i64 a1] w fun e w'=>e=.returned (.int .i64 r)∧Below w.heap.size w w':=by
 have aP:=Try.underlying27;have ao:=A_ aw;have am:=A_ au;clear aw au;have ap:=A_ ax;have an:=A_ av;clear ax av;have HB:=A_ (Below.refl w.heap.size w);unfold qg.f at h;have H:=h;clear h
 have H':=A_ H
 clear H;go_enter Try.func22,Try.ntmps22
 go_wp2_with (first|((with_reducible refine gt_ 2 ?_);refine be_ 2 #[.int .i64 ae,.slice ah aa.length aj,.slice ai ab.length ak] 27 ?_;intro br hg w3 J hb;have ar:=A_ (J);have bO:=lh_ HB hg;have bM:=lh_ HB hg;replace HB:=bs_ HB hb;clear hb J hg))
 go_loopg [5,6] k (fun kq v5 v6 w'=>∃ (aA:Int) (ag:Int),v5=.int .i64 aA∧v6=.int .i64 ag∧Aside0 (qg.l0 kq a1 aA ag ae aa ab=some r)∧Aside0 (kq≤k)∧Aside0 (w'.heap[br]? =some (.cells #[.int .i64 ae,(.slice ah aa.length aj),(.slice ai ab.length ak)] 27 (0,0)))∧Aside0 (Below w.heap.size w w'))
 case atStart=>exact⟨(0),(1),rf,rf,H',⟨Nat.le_refl _⟩,ar,HB⟩
 case round=>
  clear H';obtain⟨aA,ag,rfl,rfl,HA,bm,ar,HB⟩:=hrel
  cases gk with
  |zero=>exact nz_ HA.o
  |succ k1=>
   have H:=HA.o;clear HA;simp only[qg.l0]at H
   replace H:=Hi_ H;rcases H with⟨a8,H⟩|⟨a8,H⟩
   ·replace ⟨aD,A5,H⟩:=bA_ H
    replace H:=Hi_ H;rcases H with⟨be,H⟩|⟨be,H⟩
    ·obtain rfl:=Option.some.inj H;have bf:=bq3 ar.o
     go_wp2_with (first|((with_reducible refine gc_ 7 rfl ?_);refine cM_ E7 15 (rD.calls k1 ae _ _ aa _ _ ab ag a1 aD _ (Kd.mO ao.o HB.o) am.o (Kd.mO ap.o HB.o) an.o A5.o) ?_;rintro e w8 ⟨rfl,hb⟩;refine⟨_,rfl,?_⟩;replace ar:=bb_ ar hb;replace HB:=bs_ HB hb;clear hb;(try clear hi)))
     go_ret
     exact⟨rf,HB.o⟩
    have H':=A_ H
    clear H;have aW:=bq3 ar.o
    go_wp2_with (first|((with_reducible refine gc_ 7 rfl ?_);refine cM_ E7 15 (rD.calls k1 ae _ _ aa _ _ ab ag a1 aD _ (Kd.mO ao.o HB.o) am.o (Kd.mO ap.o HB.o) an.o A5.o) ?_;rintro e aS ⟨rfl,hb⟩;refine⟨_,rfl,?_⟩;replace ar:=bb_ ar hb;replace HB:=bs_ HB hb;clear hb;(try clear hi)))
    go_roundg k1
    case measure=>have:=bm.o;omega
    case rel=>exact⟨(wrap64 (aA+(wrap64 (ag*aD)))),(wrap64 (ag+1)),rf,rf,H',⟨by have:=bm.o;omega⟩,ar,HB⟩
   obtain rfl:=Option.some.inj H
   go_wp2
   go_ret
   exact⟨rf,HB.o⟩
def uV.f (U:List Int) (aF:Int) (aK:Int):Option (Int×Int×Int):=(uw.f U aF aK 10).bind fun aB=>(if aB.1=true then((sN.f U aB.2.1 aB.2.2 (([(-1),65535,65536,4294967295,4294967296,9223372036854775807]:List Int))).bind fun aL=>(some (aL.1,aL.2.1,aL.2.2)))else((qU.f U aB.2.1 aB.2.2 300).bind fun aO=>(some (aO.1,aO.2.1,aO.2.2))))
theorem uV.calls (g:Nat) (U:List Int) (aF:Int) (aK:Int) (r1:Int) (r2:Int) (r3:Int) (w0 w:World) (hI:qJ w0 w g U aF aK) (hB:Below w0.heap.size w0 w) (h:uV.f U aF aK=some (r1,r2,r3)):
  Calls Try.prog 48 #[.pointer (some ⟨g,0,none⟩)] w fun e w'=>e=.returned (.int .i64 r1)∧qJ w0 w' g U r2 r3∧Below w0.heap.size w0 w'∧oF w w' g none:=by
 have HI0:=A_ hI;have HK:=A_ (oF.refl w g none);have HL:=A_ hB.size;clear hI;have HW0:=A_ hB.size;have HB:=A_ hB;clear hB;unfold uV.f at h;have H:=h;clear h;replace ⟨⟨bE,aY,a7⟩,A2,H⟩:=bA_ H;dsimp only at H
 replace H:=Hb_ H;rcases H with⟨rfl,H⟩|⟨rfl,H⟩
 ·obtain⟨bu,aX⟩:=ex_ ((([(-1),65535,65536,4294967295,4294967296,9223372036854775807]:List Int)):List Int);rw[←aX]at H;have bn:=A_ aX;clear aX;replace ⟨⟨bF,bG,bH⟩,A4,H⟩:=bA_ H;dsimp only at H;simp only[Option.some.injEq,Prod.mk.injEq]at H;obtain⟨rfl,rfl,rfl⟩:=H;go_enter Try.func48,Try.ntmps48
  go_wp2_with (first|((with_reducible refine gc_ 60 rfl ?_);refine cM_ E60 4 (uw.calls g U aF aK 10 true aY a7 w0 _ HI0.o HB.o A2.o) ?_;rintro e w5 ⟨rfl,hi,hb,hk⟩;refine⟨_,rfl,?_⟩;replace HK:=kt_ HK hk;replace HB:=A_ (hb);replace HI0:=A_ (hi);clear hb hk;(try clear hi))|((with_reducible refine gd_ 6 rfl ?_);refine RL_ 6 3 [(-1),65535,65536,4294967295,4294967296,9223372036854775807] [.int .i64 (-1),.int .i64 65535,.int .i64 65536,.int .i64 4294967295,.int .i64 4294967296,.int .i64 9223372036854775807] rfl rfl (by go_simp;done) rfl rfl ?_;rintro bR w6 aR hb - -;(rw[←bn.o]at aR);have az:=A_ (Kd.nE aR (KX HK.o));replace HI0:=A_ (qJ.below HI0.o hb);replace HK:=kb_ HK hb;replace HB:=bs_ HB hb;clear hb aR;obtain⟨bS,bT,bQ⟩:=Kd.mU az.o;subst bQ)|((with_reducible refine gc_ 51 rfl ?_);refine cM_ E51 7 (sN.calls g U aY a7 _ _ bu bF bG bH w0 _ HI0.o HB.o ((Kd.mX az.o).2.2) ((Kd.mX az.o).2.1) (Ki (qJ.own_ne HI0.o az.o d_)) A4.o) ?_;rintro e w9 ⟨rfl,hi,hb,hk⟩;refine⟨_,rfl,?_⟩;replace az:=A_ (Kd.mM (Kd.Mc (qJ.apart HI0.o az.o d_) hk (fun _ h=>h.2)) (fun _ h=>h.1));replace HK:=kt_ HK hk;replace HB:=A_ (hb);replace HI0:=A_ (hi);clear hb hk;(try clear hi)))
  go_ret
  exact⟨rf,HI0.o,HB.o,HK.o⟩
 replace ⟨⟨bI,bJ,bK⟩,bV,H⟩:=bA_ H;dsimp only at H;simp only[Option.some.injEq,Prod.mk.injEq]at H;obtain⟨rfl,rfl,rfl⟩:=H;go_enter Try.func48,Try.ntmps48
 go_wp2_with (first|((with_reducible refine gc_ 60 rfl ?_);refine cM_ E60 4 (uw.calls g U aF aK 10 false aY a7 w0 _ HI0.o HB.o A2.o) ?_;rintro e cu ⟨rfl,hi,hb,hk⟩;refine⟨_,rfl,?_⟩;replace HK:=kt_ HK hk;replace HB:=A_ (hb);replace HI0:=A_ (hi);clear hb hk;(try clear hi))|((with_reducible refine gc_ 50 rfl ?_);refine cM_ E50 9 (qU.calls g U aY a7 300 bI bJ bK w0 _ HI0.o HB.o bV.o) ?_;rintro e bU ⟨rfl,hi,hb,hk⟩;refine⟨_,rfl,?_⟩;replace HK:=kt_ HK hk;replace HB:=A_ (hb);replace HI0:=A_ (hi);clear hb hk;(try clear hi)))
 go_ret
 exact⟨rf,HI0.o,HB.o,HK.o⟩
abbrev K1:Kd Int:=Kd.int .i64
abbrev K2:Kd (List Int):=Kd.slice 3 K1
abbrev K3:Kd (List (List Int)):=Kd.slice 25 K2
def zT (b:List Int) (i:Int):Prop:=0≤i∧b.length≤1048576
theorem J5 (x:Int):0≤Go.bits .and .i64 x 255∧Go.bits .and .i64 x 255≤255:=by
 have h:∀n:Nat,n≤255→IntKind.i64.wrap (n:Int)=n:=by
  intro n hn
  have:=uD (n:Int)
  rw[this];unfold wrap64;omega
 simp only[Go.bits]
 have hb:(BitVec.ofInt IntKind.i64.bits (255:Int)).toNat=255:=d_
 have hle:((BitVec.ofInt IntKind.i64.bits x) &&& (BitVec.ofInt IntKind.i64.bits (255:Int))).toNat≤255:=by
  rw[BitVec.toNat_and,hb];exact Nat.and_le_right
 rw[h _ hle]
 omega
theorem xR (b:List Int) (i h:Int) (hc:zT b i):∃x i' h',rR.f b i h=some (x,i',h')∧(0≤x∧x≤255)∧zT b i':=by
 obtain⟨h0,hb⟩:=hc;unfold rR.f
 by_cases hi:i<(b.length:Int)
 ·rw[if_pos hi,if_pos h0]
  exact⟨_,_,_,rfl,J5 _,by unfold wrap64;omega,hb⟩
 ·rw[if_neg hi]
  exact⟨_,_,_,rfl,J5 _,h0,hb⟩
theorem vX (b:List Int) (i h n:Int) (hc:zT b i) (h1:1≤n) (h2:n≤256):∃x i' h',qU.f b i h n=some (x,i',h')∧(0≤x∧x<n)∧zT b i':=by
 unfold qU.f;rw[if_neg om,if_pos h2];obtain⟨x,i',h',e,⟨hx0,hx1⟩,hc'⟩:=xR b i h hc;rw[e,Option.bind_some,if_neg om];refine⟨_,_,_,rfl,?_,hc'⟩;rw[Int.tmod_eq_emod_of_nonneg hx0];exact⟨Int.emod_nonneg _ om,Int.emod_lt_of_pos _ om⟩
def Cu (w0 w:World) (g:Nat) (b:List Int):Prop:=∃i h,qJ w0 w g b i h∧zT b i
theorem Cu.blk {w0 w:World} {g:Nat} {b:List Int} (h:Cu w0 w g b):∃cs,w.heap[g]? =some (.cells cs 77 (0,0)):=by
 obtain⟨i,h,⟨A,c,hb,_⟩,_⟩:=h;exact⟨_,hb⟩
theorem Cu.lt {w0 w:World} {g:Nat} {b:List Int} (h:Cu w0 w g b):g<w.heap.size:=by
 obtain⟨cs,h⟩:=h.blk;exact pY h
theorem Cu.grown {w0 w w1:World} {g:Nat} {b:List Int} {row:Option Nat} (h:Cu w0 w g b) (hw:w.grownBy w1 row) (hne:some g≠row):Cu w0 w1 g b:=by
 obtain⟨i,h,hI,hc⟩:=h;exact⟨i,h,hI.grown hw hne,hc⟩
theorem Cu.below {w0 w w1:World} {g:Nat} {b:List Int} (h:Cu w0 w g b) (hw:Below w.heap.size w w1):Cu w0 w1 g b:=by
 obtain⟨i,h,hI,hc⟩:=h;exact⟨i,h,hI.below hw,hc⟩
structure Dn (w0 w w':World) (g:Nat) (b:List Int):Prop where
 cu:Cu w0 w' g b
 bl:Below w0.heap.size w0 w'
 kp:oF w w' g none
 lt:g<w.heap.size
 le:w0.heap.size≤w.heap.size
section
variable {w0 w W W1:World} {g gs B:Nat} {b:List Int} {v:Value} {o:Obj} {α:Type} {d:Kd α} {e t:Nat} {xs:List α} {ok:Nat→Prop}
theorem Dn.start (hC:Cu w0 w g b) (hB:Below w0.heap.size w0 w):Dn w0 w w g b:=by
 obtain⟨cs,h⟩:=hC.blk;exact⟨hC,hB,oF.refl w g none,pY h,hB.size⟩
theorem Dn.below (h:Dn w0 w W g b) (hb:Below W.heap.size W W1):Dn w0 w W1 g b:=⟨h.cu.below hb,nZ h.bl hb,oF.trans h.kp (oF.of_below hb g none) (.inl rfl),h.lt,h.le⟩
theorem Dn.drew (h:Dn w0 w W g b) (h':Dn w0 W W1 g b):Dn w0 w W1 g b:=⟨h'.cu,h'.bl,oF.trans h.kp h'.kp (.inl rfl),h.lt,h.le⟩
theorem Dn.grow (h:Dn w0 w W g b) (hg:W.grownBy W1 v.ownBlock) (hv:∀k,v.ownBlock=some k→w.heap.size≤k):Dn w0 w W1 g b:=by
 have hne:some g≠v.ownBlock:=fun e=>by have:=hv g e.symm;have:=h.lt;omega
 refine⟨h.cu.grown hg hne,h.bl.grown hg (Nat.le_trans h.le h.kp.1) (fun j hj=>Nat.le_trans h.le (hv j hj)),⟨Nat.le_trans h.kp.1 hg.size,fun i hi hig _=>?_⟩,h.lt,h.le⟩;exact(hg.block i (Nat.lt_of_lt_of_le hi h.kp.1) (fun e=>by have:=hv i e.symm;omega)).trans (h.kp.2 i hi hig sp)
theorem Dn.set (h:Dn w0 w W g b) (hs:w.heap.size≤gs) (j:Nat) (u:Value):Dn w0 w (W.setCell ⟨gs,j,none⟩ u) g b:=by
 have hlt:=h.lt;refine⟨?_,mY h.bl (Nat.le_trans h.le hs),LP h.kp hs u,h.lt,h.le⟩;obtain⟨i,hh,hI,hc⟩:=h.cu;exact⟨i,hh,hI.far (by show g≠gs;omega) u,hc⟩
theorem kb (h:W.heap[gs]? =some o) (hk:oF W W1 g none) (hne:gs≠g):W1.heap[gs]? =some o:=(hk.2 gs (pY h) hne sp).trans h
theorem kR (h:Kd.R d e W B ok v xs) (hc:∃cs,W.heap[g]? =some (.cells cs t (0,0))) (hk:oF W W1 g none) (ht:∀q,q∈e::d.E→q≠t):Kd.R d e W1 B ok v xs:=by
 obtain⟨cs,hc⟩:=hc;exact Kd.mM (Kd.Mc (Kd.qi h hc ht) hk (fun _ hk=>hk.2)) (fun _ hk=>hk.1)
end
section
variable {w0 w:World} {g:Nat} {b:List Int}
theorem wO (hC:Cu w0 w g b) (hB:Below w0.heap.size w0 w) (n:Int) (h1:1≤n∧n≤256):Calls Try.prog 50 #[.pointer (some ⟨g,0,none⟩),.int .i64 n] w fun e w'=>∃r:Int,e=.returned (.int .i64 r)∧(0≤r∧r<n)∧Dn w0 w w' g b:=by
 obtain⟨i,h,hI,hc⟩:=hC;obtain⟨x,i',h',e,hx,hc'⟩:=vX b i h n hc h1.1 h1.2;exact(qU.calls g b i h n x i' h' w0 w hI hB e).mono fun e w' ⟨he,hI',hB',hK⟩=>⟨x,he,hx,⟨i',h',hI',hc'⟩,hB',hK,hI.lt,hB.size⟩
theorem JU (hC:Cu w0 w g b) (hB:Below w0.heap.size w0 w) (n:Int) (h1:1≤n∧n≤256):Calls Try.prog 60 #[.pointer (some ⟨g,0,none⟩),.int .i64 n] w fun e w'=>∃r:Bool,e=.returned (.bool r)∧Dn w0 w w' g b:=by
 obtain⟨i,h,hI,hc⟩:=hC;obtain⟨x,i',h',e,hx,hc'⟩:=vX b i h n hc h1.1 h1.2;exact(uw.calls g b i h n (x==0) i' h' w0 w hI hB (by unfold uw.f;rw[e];rfl)).mono fun e w' ⟨he,hI',hB',hK⟩=>⟨_,he,⟨i',h',hI',hc'⟩,hB',hK,hI.lt,hB.size⟩
theorem H9 (hC:Cu w0 w g b) (hB:Below w0.heap.size w0 w) (A:Option Addr) (c:Nat) (l:List Int) (hl:1≤l.length∧l.length≤256) (hr:Kd.C K1 w A l.length l) (hc:l.length≤c) (hf:∀ad,A=some ad→0<l.length→ad.block≠g):Calls Try.prog 51 #[.pointer (some ⟨g,0,none⟩),.slice A l.length c] w fun e w'=>∃r:Int,e=.returned (.int .i64 r)∧r∈l∧Dn w0 w w' g b:=by
 obtain⟨i,h,hI,hc0⟩:=hC;obtain⟨x,i',h',e,hx,hc'⟩:=vX b i h l.length hc0 om om;refine(sN.calls g b i h A c l (rd l x) i' h' w0 w hI hB hr hc hf (by unfold sN.f;rw[e,Option.bind_some,if_pos hx.1,if_pos hx.2])).mono fun e w' ⟨he,hI',hB',hK⟩=>⟨_,he,?_,⟨i',h',hI',hc'⟩,hB',hK,hI.lt,hB.size⟩;obtain⟨k,rfl⟩:=Int.eq_ofNat_of_zero_le hx.1
 have hk:k<l.length:=om
 rw[show rd l (k:Int)=l[k] by simp[rd,List.getD_eq_getElem?_getD,hk]];exact List.getElem_mem hk
theorem Oz (hC:Cu w0 w g b) (hB:Below w0.heap.size w0 w) (A:Option Addr) (c:Nat) (l:List ByteArray) (hl:1≤l.length∧l.length≤256) (hr:Kd.C Kd.string w A l.length l) (hc:l.length≤c) (hf:∀ad,A=some ad→0<l.length→ad.block≠g):Calls Try.prog 74 #[.pointer (some ⟨g,0,none⟩),.slice A l.length c] w fun e w'=>∃r:ByteArray,e=.returned (.string r)∧r∈l∧Dn w0 w w' g b:=by
 obtain⟨i,h,hI,hc0⟩:=hC;obtain⟨x,i',h',e,hx,hc'⟩:=vX b i h l.length hc0 om om;refine(wW.calls g b i h A c l (Ai ByteArray.empty l x) i' h' w0 w hI hB hr hc hf (by unfold wW.f;rw[e,Option.bind_some,if_pos hx.1,if_pos hx.2])).mono fun e w' ⟨he,hI',hB',hK⟩=>⟨_,he,?_,⟨i',h',hI',hc'⟩,hB',hK,hI.lt,hB.size⟩;obtain⟨k,rfl⟩:=Int.eq_ofNat_of_zero_le hx.1
 have hk:k<l.length:=om
 rw[show Ai ByteArray.empty l (k:Int)=l[k] by simp[Ai,List.getD_eq_getElem?_getD,hk]];exact List.getElem_mem hk
end
def SqR (W:World) (B:Nat) (v1 v2:Value) (b n:Nat):Prop:=∃N O,Kd.R K2 25 W B (fun k=>some k≠v2.ownBlock) v1 N∧Kd.R K1 3 W B (fun _=>True) v2 O∧N.length=n∧O.length=n∧∀r∈N,r.length=b
abbrev ints (l:List Int):Obj:=.cells (l.map (Value.int .i64)).toArray 3 (0,0)
abbrev rowOf (g:Nat) (l:List Int):Value:=.slice (some ⟨g,0,none⟩) l.length l.length
theorem MJ {W:World} {g B:Nat} {l:List Int} {ok:Nat→Prop} (h:W.heap[g]? =some (ints l)) (hB:B≤g) (hok:ok g) (hl:l.length≤100):Kd.R K1 3 W B ok (rowOf g l) l:=by
 refine Kd.Dx ⟨by rw[vY];omega,.inr ⟨g,l.length,_,rfl,hB,h,om,by unfold maxLen;omega,sp,by simp[encs,List.take_of_length_le]⟩⟩ (fun k hk=>?_)
 have:g=k:=by simpa [Value.ownBlock]using hk
 exact this▸hok
def DY (w:World) (l:List Obj):World:=l.foldl (fun w o=>w.alloc o) w
theorem KR (l:List Obj):∀w:World,(∀k,k<w.heap.size→(DY w l).heap[k]? =w.heap[k]?)∧∀k,k<l.length→(DY w l).heap[w.heap.size+k]? =l[k]?:=by
 induction l with
 |nil=>intro w;exact⟨fun _ _=>rfl,fun k h=>by simp at h⟩
 |cons o l ih=>
  intro w;obtain⟨h1,h2⟩:=ih (w.alloc o)
  have hs:(w.alloc o).heap.size=w.heap.size+1:=by show(w.heap.push o).size=_;simp
  refine⟨fun k hk=>(h1 k om).trans (Below.heap_alloc w o k hk),fun k hk=>?_⟩
  cases k with
  |zero=>exact(h1 _ om).trans (xX w o)
  |succ k=>
   have:=h2 k (by simpa using hk)
   rw[hs,Nat.add_assoc,Nat.add_comm 1 k]at this;exact this
theorem FC (l:List Obj):∀w:World,Below w.heap.size w (DY w l):=by
 induction l with
 |nil=>intro w;exact Below.refl _ _
 |cons o l ih=>intro w;exact nZ (pI (Below.refl _ _) o) (ih _)
def xx (m:Nat) (N:List (List Int)) (O:List Int):List Obj:=N.map ints++[.cells ((List.range N.length).map fun j=>rowOf (m+j) (N.getD j [])).toArray 25 (0,0),ints O]
theorem xG {w w1:World} {g b:Nat} {cs:Array Value} (N:List (List Int)) (O:List Int) (hcs:cs.size=3) (J:w1.heap[g]? =some (.cells cs 27 (0,0))) (hb:Below w.heap.size w w1) (hg:g=w.heap.size) (hN:N.length≤100) (hO:O.length=N.length) (hr:∀r∈N,r.length=b∧r.length≤100) {v1 v2:Value}
 (e1:v1=.slice (some ⟨w1.heap.size+N.length,0,none⟩) N.length N.length) (e2:v2=rowOf (w1.heap.size+N.length+1) O) {W:World} (eW:W=(((DY w1 (xx w1.heap.size N O)).setCell ⟨g,0,none⟩ (.int .i64 b)).setCell ⟨g,1,none⟩ v1).setCell ⟨g,2,none⟩ v2):
 W.heap[g]? =some (.cells #[.int .i64 b,v1,v2] 27 (0,0))∧SqR W w.heap.size v1 v2 b N.length∧Below w.heap.size w W:=by
 obtain⟨a1,a2⟩:=KR (xx w1.heap.size N O) w1;have hgl:=pY J
 have far:∀k,k≠g→W.heap[k]? =(DY w1 (xx w1.heap.size N O)).heap[k]?:=fun k hk=>by rw[eW,Below.heap_setCell _ _ _ _ hk,Below.heap_setCell _ _ _ _ hk,Below.heap_setCell _ _ _ _ hk]
 have hl:(xx w1.heap.size N O).length=N.length+2:=by simp[xx]
 have row:∀j,j<N.length→W.heap[w1.heap.size+j]? =some (ints (N.getD j [])):=fun j hj=>by
  rw[far _ om,a2 j om];unfold xx;rw[List.getElem?_append_left (by simp;omega)]
  simp[hj,List.getD_eq_getElem?_getD]
 have aK:W.heap[w1.heap.size+N.length]? =some (.cells ((List.range N.length).map fun j=>rowOf (w1.heap.size+j) (N.getD j [])).toArray 25 (0,0)):=by
  rw[far _ om,a2 _ om]
  simp[xx]
 have out:W.heap[w1.heap.size+N.length+1]? =some (ints O):=by
  rw[far _ om,Nat.add_assoc,a2 _ om]
  simp[xx]
 have hsz:=hb.size
 have hz:K2.sz=1:=rfl
 have aF:v2.ownBlock=some (w1.heap.size+N.length+1):=by rw[e2];rfl
 refine⟨?_,⟨N,O,?_,?_,rfl,hO,fun r h=>(hr r h).1⟩,?_⟩
 ·rw[eW]
  refine oN (cs:= #[.int .i64 b,v1,cs.getD 2 undef]) (oN (cs:= #[.int .i64 b,cs.getD 1 undef,cs.getD 2 undef]) (oN ((a1 g hgl).trans J) 0 _ ?_) 1 _ rfl) 2 _ rfl;obtain⟨l⟩:=cs
  match l,hcs with
  |[x,y,z],_=>rfl
 ·rw[e1]
  refine⟨fun k hk=>?_,_,⟨?_,.inr ⟨_,N.length,_,rfl,om,aK,Nat.le_refl _,by unfold maxLen;omega,?_,rfl⟩⟩,?_⟩
  ·have:w1.heap.size+N.length=k:=by simpa [Value.ownBlock]using hk
   rw[aF];intro e;injection e;omega
  ·simp[hz]
  ·simp[hz]
  ·refine⟨by simp[hz],fun j x hj=>?_⟩
   have hjl:=(List.getElem?_eq_some_iff.1 hj).1
   have hx:N.getD j []=x:=by rw[List.getD_eq_getElem?_getD,hj];rfl
   refine⟨rowOf (w1.heap.size+j) x,?_,MJ (hx▸row j hjl) om ⟨?_,?_⟩ (hr x (List.mem_of_getElem? hj)).2⟩
   ·rw[hz,Nat.mul_one,List.drop_eq_getElem_cons (by simp;exact hjl)]
    simp only[List.getElem_take,List.getElem_map,List.getElem_range,List.take_succ_cons,List.take_zero,hx]
   ·rw[aF];intro e;injection e;omega
   ·simp[Value.ownBlock];omega
 ·rw[e2]
  exact MJ out om trivial om
 ·have h2:=nZ hb (FC (xx w1.heap.size N O) w1)
  rw[eW];exact((h2.setCell (p:=⟨g,0,none⟩) (by show _≤g;omega) _).setCell (p:=⟨g,1,none⟩) (by show _≤g;omega) _).setCell (p:=⟨g,2,none⟩) (by show _≤g;omega) _
theorem qp {P:Program} {ops:Array Oper} {rest:List Oper} {o:Oper} {a:Act} {Q:Exit→Act→World→Prop} {W:World} (hgd:o.guard=none) {N:Tmp} (_hd:o.dst=some N) {v:Value} {ob:Obj} (hrun:(execOp a.eval o).run P W=.ok (.value v) (W.alloc ob)) (h:∀w1,w1=W.alloc ob→w1.heap.size=W.heap.size+1→wpList P ops Q rest (a.put o.dst v) w1):wpList P ops Q (o::rest) a W:=Kd.BF hgd hrun (h _ rfl (by show(W.heap.push ob).size=_;simp))
theorem bw3 {W:World} {g:Nat} {a b c:Value} {l:List Value} {t:TypeId} (h:W.heap[g]? =some (.cells (a::b::c::l).toArray t (0,0))):(cB3 g a b c W)∧W.frozen? ⟨g,0,none⟩=false∧W.frozen? ⟨g,1,none⟩=false∧W.frozen? ⟨g,2,none⟩=false:=
 ⟨⟨(pU h 0).trans rfl,(pU h 1).trans rfl,(pU h 2).trans rfl⟩,nY h 0,nY h 1,nY h 2⟩
def I_:List (List UInt8):=[[116,104,117,101],[114,117,100,105,110],[112,101,114,105,111,100],[112,111,119,101,114,115],[99,97,110,116,111,114],[109,111,100]]
theorem Az.dr (a0:ByteArray) (w:World) (h:a0.toList∈I_):Calls Try.prog 73 #[.string a0] w fun e w'=>∃v1 v2:Value,∃b n:Nat,∃r4,e=.returned (.tuple #[.agg #[.int .i64 b,v1,v2],.bool r4])∧SqR w' w.heap.size v1 v2 b n∧Below w.heap.size w w'∧(2≤b∧b≤3)∧1≤n∧n≤5:=by
 have hu:=Try.underlying27
 have ne:∀x y:List UInt8,a0.toList=x→(x==y)=false→(a0.toList==y)=false:=fun x y h h'=>by rw[h];exact h'
 simp only[I_,List.mem_cons,List.not_mem_nil,or_false]at h
 rcases h with h|h|h|h|h|h
 ·have c0:(a0.toList==[116,104,117,101])=true:=by rw[h];exact beq_self_eq_true _
  clear ne h;go_enter Try.func73,Try.ntmps73
  go_wp2_with (first|((with_reducible refine gt_ 2 ?_);refine be_ 2 #[.int .i64 0,.slice none 0 0,.slice none 0 0] 27 ?_;intro gR hg w1 J hb;have q:=bw3 J;have hG:=A_ hg;have hX:=J;clear hg)|((with_reducible refine gt_ 7 ?_);refine qp ?hg (N:=7) ?hd (v:=.slice (some ⟨w1.heap.size,0,none⟩) 2 2) (ob:=.cells #[.int .i64 0,.int .i64 1] 3 (0,0)) ?hr ?_;(case hd|hg=>rfl);(case hr=>go_simp;done);intro x7 y7 s7;clear q;replace hX:=(y7.symm▸nP hX _:x7.heap[gR]? =_);have q:=bw3 hX;have Y7:=A_ y7;clear y7)|((with_reducible refine gt_ 8 ?_);refine qp ?hg (N:=8) ?hd (v:=.slice (some ⟨w1.heap.size+1,0,none⟩) 2 2) (ob:=.cells #[.int .i64 1,.int .i64 0] 3 (0,0)) ?hr ?_;(case hd|hg=>rfl);(case hr=>go_simp;done);intro x8 y8 s8;clear q;replace hX:=(y8.symm▸nP hX _:x8.heap[gR]? =_);have q:=bw3 hX;have Y8:=A_ y8;clear y8)|((with_reducible refine gt_ 9 ?_);refine qp ?hg (N:=9) ?hd (v:=.slice (some ⟨w1.heap.size+1+1,0,none⟩) 2 2) (ob:=.cells #[.slice (some ⟨w1.heap.size,0,none⟩) 2 2,.slice (some ⟨w1.heap.size+1,0,none⟩) 2 2] 25 (0,0)) ?hr ?_;(case hd|hg=>rfl);(case hr=>go_simp;done);intro x9 y9 s9;clear q;replace hX:=(y9.symm▸nP hX _:x9.heap[gR]? =_);have q:=bw3 hX;have Y9:=A_ y9;clear y9)|((with_reducible refine gt_ 10 ?_);refine qp ?hg (N:=10) ?hd (v:=.slice (some ⟨w1.heap.size+1+1+1,0,none⟩) 2 2) (ob:=.cells #[.int .i64 0,.int .i64 1] 3 (0,0)) ?hr ?_;(case hd|hg=>rfl);(case hr=>go_simp;done);intro aH aa s10;clear q;replace hX:=(aa.symm▸nP hX _:aH.heap[gR]? =_);have q:=bw3 hX;have aL:=A_ aa;clear aa))
  clear hX q;obtain⟨y7⟩:=Y7;obtain⟨y8⟩:=Y8;obtain⟨y9⟩:=Y9;obtain⟨aa⟩:=aL;subst y7 y8 y9 aa;obtain⟨h1,h2,h3⟩:=xG (b:=2) [[0,1],[1,0]] [0,1] rfl J hb hG.o d_ rfl d_ rfl rfl rfl;refine bodyPost_ret (vB rfl _ _ gR 27 #[.int .i64 2,.slice (some ⟨w1.heap.size+2,0,none⟩) 2 2,.slice (some ⟨w1.heap.size+3,0,none⟩) 2 2] (0,0) _ rfl (by exact h1) hu rfl K_) rfl ?_;exact⟨_,_,2,2,_,rfl,h2,h3,d_,d_⟩
 ·have c0:(a0.toList==[116,104,117,101])=false:=ne _ _ h d_
  have c1:(a0.toList==[114,117,100,105,110])=true:=by rw[h];exact beq_self_eq_true _
  clear ne h;go_enter Try.func73,Try.ntmps73
  go_wp2_with (first|((with_reducible refine gt_ 2 ?_);refine be_ 2 #[.int .i64 0,.slice none 0 0,.slice none 0 0] 27 ?_;intro gR hg w1 J hb;have q:=bw3 J;have hG:=A_ hg;have hX:=J;clear hg)|((with_reducible refine gt_ 14 ?_);refine qp ?hg (N:=14) ?hd (v:=.slice (some ⟨w1.heap.size,0,none⟩) 2 2) (ob:=.cells #[.int .i64 0,.int .i64 1] 3 (0,0)) ?hr ?_;(case hd|hg=>rfl);(case hr=>go_simp;done);intro aI ab bT;clear q;replace hX:=(ab.symm▸nP hX _:aI.heap[gR]? =_);have q:=bw3 hX;have aO:=A_ ab;clear ab)|((with_reducible refine gt_ 15 ?_);refine qp ?hg (N:=15) ?hd (v:=.slice (some ⟨w1.heap.size+1,0,none⟩) 2 2) (ob:=.cells #[.int .i64 0,.int .i64 2] 3 (0,0)) ?hr ?_;(case hd|hg=>rfl);(case hr=>go_simp;done);intro aJ ae s15;clear q;replace hX:=(ae.symm▸nP hX _:aJ.heap[gR]? =_);have q:=bw3 hX;have aP:=A_ ae;clear ae)|((with_reducible refine gt_ 16 ?_);refine qp ?hg (N:=16) ?hd (v:=.slice (some ⟨w1.heap.size+1+1,0,none⟩) 2 2) (ob:=.cells #[.int .i64 3,.int .i64 1] 3 (0,0)) ?hr ?_;(case hd|hg=>rfl);(case hr=>go_simp;done);intro aM af s16;clear q;replace hX:=(af.symm▸nP hX _:aM.heap[gR]? =_);have q:=bw3 hX;have aR:=A_ af;clear af)|((with_reducible refine gt_ 17 ?_);refine qp ?hg (N:=17) ?hd (v:=.slice (some ⟨w1.heap.size+1+1+1,0,none⟩) 2 2) (ob:=.cells #[.int .i64 3,.int .i64 2] 3 (0,0)) ?hr ?_;(case hd|hg=>rfl);(case hr=>go_simp;done);intro aN ag bU;clear q;replace hX:=(ag.symm▸nP hX _:aN.heap[gR]? =_);have q:=bw3 hX;have aS:=A_ ag;clear ag)|((with_reducible refine gt_ 18 ?_);refine qp ?hg (N:=18) ?hd (v:=.slice (some ⟨w1.heap.size+1+1+1+1,0,none⟩) 4 4) (ob:=.cells #[.slice (some ⟨w1.heap.size,0,none⟩) 2 2,.slice (some ⟨w1.heap.size+1,0,none⟩) 2 2,.slice (some ⟨w1.heap.size+1+1,0,none⟩) 2 2,.slice (some ⟨w1.heap.size+1+1+1,0,none⟩) 2 2] 25 (0,0)) ?hr ?_;(case hd|hg=>rfl);(case hr=>go_simp;done);intro aQ ah bV;clear q;replace hX:=(ah.symm▸nP hX _:aQ.heap[gR]? =_);have q:=bw3 hX;have aZ:=A_ ah;clear ah)|((with_reducible refine gt_ 19 ?_);refine qp ?hg (N:=19) ?hd (v:=.slice (some ⟨w1.heap.size+1+1+1+1+1,0,none⟩) 4 4) (ob:=.cells #[.int .i64 0,.int .i64 0,.int .i64 1,.int .i64 1] 3 (0,0)) ?hr ?_;(case hd|hg=>rfl);(case hr=>go_simp;done);intro aT ai bW;clear q;replace hX:=(ai.symm▸nP hX _:aT.heap[gR]? =_);have q:=bw3 hX;have a_:=A_ ai;clear ai))
  clear hX q;obtain⟨ab⟩:=aO;obtain⟨ae⟩:=aP;obtain⟨af⟩:=aR;obtain⟨ag⟩:=aS;obtain⟨ah⟩:=aZ;obtain⟨ai⟩:=a_;subst ab ae af ag ah ai;obtain⟨h1,h2,h3⟩:=xG (b:=2) [[0,1],[0,2],[3,1],[3,2]] [0,0,1,1] rfl J hb hG.o d_ rfl d_ rfl rfl rfl;refine bodyPost_ret (vB rfl _ _ gR 27 #[.int .i64 2,.slice (some ⟨w1.heap.size+4,0,none⟩) 4 4,.slice (some ⟨w1.heap.size+5,0,none⟩) 4 4] (0,0) _ rfl (by exact h1) hu rfl K_) rfl ?_;exact⟨_,_,2,4,_,rfl,h2,h3,d_,d_⟩
 ·have c0:(a0.toList==[116,104,117,101])=false:=ne _ _ h d_
  have c1:(a0.toList==[114,117,100,105,110])=false:=ne _ _ h d_
  have c2:(a0.toList==[112,101,114,105,111,100])=true:=by rw[h];exact beq_self_eq_true _
  clear ne h;go_enter Try.func73,Try.ntmps73
  go_wp2_with (first|((with_reducible refine gt_ 2 ?_);refine be_ 2 #[.int .i64 0,.slice none 0 0,.slice none 0 0] 27 ?_;intro gR hg w1 J hb;have q:=bw3 J;have hG:=A_ hg;have hX:=J;clear hg)|((with_reducible refine gt_ 23 ?_);refine qp ?hg (N:=23) ?hd (v:=.slice (some ⟨w1.heap.size,0,none⟩) 2 2) (ob:=.cells #[.int .i64 0,.int .i64 1] 3 (0,0)) ?hr ?_;(case hd|hg=>rfl);(case hr=>go_simp;done);intro aU aj bX;clear q;replace hX:=(aj.symm▸nP hX _:aU.heap[gR]? =_);have q:=bw3 hX;have bu:=A_ aj;clear aj)|((with_reducible refine gt_ 24 ?_);refine qp ?hg (N:=24) ?hd (v:=.slice (some ⟨w1.heap.size+1,0,none⟩) 2 2) (ob:=.cells #[.int .i64 2,.int .i64 3] 3 (0,0)) ?hr ?_;(case hd|hg=>rfl);(case hr=>go_simp;done);intro aV ak s24;clear q;replace hX:=(ak.symm▸nP hX _:aV.heap[gR]? =_);have q:=bw3 hX;have bz:=A_ ak;clear ak)|((with_reducible refine gt_ 25 ?_);refine qp ?hg (N:=25) ?hd (v:=.slice (some ⟨w1.heap.size+1+1,0,none⟩) 2 2) (ob:=.cells #[.int .i64 0,.int .i64 1] 3 (0,0)) ?hr ?_;(case hd|hg=>rfl);(case hr=>go_simp;done);intro aW al bY;clear q;replace hX:=(al.symm▸nP hX _:aW.heap[gR]? =_);have q:=bw3 hX;have bA:=A_ al;clear al)|((with_reducible refine gt_ 26 ?_);refine qp ?hg (N:=26) ?hd (v:=.slice (some ⟨w1.heap.size+1+1+1,0,none⟩) 2 2) (ob:=.cells #[.int .i64 2,.int .i64 3] 3 (0,0)) ?hr ?_;(case hd|hg=>rfl);(case hr=>go_simp;done);intro aX am bZ;clear q;replace hX:=(am.symm▸nP hX _:aX.heap[gR]? =_);have q:=bw3 hX;have bB:=A_ am;clear am)|((with_reducible refine gt_ 27 ?_);refine qp ?hg (N:=27) ?hd (v:=.slice (some ⟨w1.heap.size+1+1+1+1,0,none⟩) 4 4) (ob:=.cells #[.slice (some ⟨w1.heap.size,0,none⟩) 2 2,.slice (some ⟨w1.heap.size+1,0,none⟩) 2 2,.slice (some ⟨w1.heap.size+1+1,0,none⟩) 2 2,.slice (some ⟨w1.heap.size+1+1+1,0,none⟩) 2 2] 25 (0,0)) ?hr ?_;(case hd|hg=>rfl);(case hr=>go_simp;done);intro aY an b_;clear q;replace hX:=(an.symm▸nP hX _:aY.heap[gR]? =_);have q:=bw3 hX;have bC:=A_ an;clear an)|((with_reducible refine gt_ 28 ?_);refine qp ?hg (N:=28) ?hd (v:=.slice (some ⟨w1.heap.size+1+1+1+1+1,0,none⟩) 4 4) (ob:=.cells #[.int .i64 0,.int .i64 0,.int .i64 1,.int .i64 1] 3 (0,0)) ?hr ?_;(case hd|hg=>rfl);(case hr=>go_simp;done);intro a7 ao cz;clear q;replace hX:=(ao.symm▸nP hX _:a7.heap[gR]? =_);have q:=bw3 hX;have bD:=A_ ao;clear ao))
  clear hX q;obtain⟨aj⟩:=bu;obtain⟨ak⟩:=bz;obtain⟨al⟩:=bA;obtain⟨am⟩:=bB;obtain⟨an⟩:=bC;obtain⟨ao⟩:=bD;subst aj ak al am an ao;obtain⟨h1,h2,h3⟩:=xG (b:=2) [[0,1],[2,3],[0,1],[2,3]] [0,0,1,1] rfl J hb hG.o d_ rfl d_ rfl rfl rfl;refine bodyPost_ret (vB rfl _ _ gR 27 #[.int .i64 2,.slice (some ⟨w1.heap.size+4,0,none⟩) 4 4,.slice (some ⟨w1.heap.size+5,0,none⟩) 4 4] (0,0) _ rfl (by exact h1) hu rfl K_) rfl ?_;exact⟨_,_,2,4,_,rfl,h2,h3,d_,d_⟩
 ·have c0:(a0.toList==[116,104,117,101])=false:=ne _ _ h d_
  have c1:(a0.toList==[114,117,100,105,110])=false:=ne _ _ h d_
  have c2:(a0.toList==[112,101,114,105,111,100])=false:=ne _ _ h d_
  have c3:(a0.toList==[112,111,119,101,114,115])=true:=by rw[h];exact beq_self_eq_true _
  clear ne h;go_enter Try.func73,Try.ntmps73
  go_wp2_with (first|((with_reducible refine gt_ 2 ?_);refine be_ 2 #[.int .i64 0,.slice none 0 0,.slice none 0 0] 27 ?_;intro gR hg w1 J hb;have q:=bw3 J;have hG:=A_ hg;have hX:=J;clear hg)|((with_reducible refine gt_ 32 ?_);refine qp ?hg (N:=32) ?hd (v:=.slice (some ⟨w1.heap.size,0,none⟩) 2 2) (ob:=.cells #[.int .i64 0,.int .i64 1] 3 (0,0)) ?hr ?_;(case hd|hg=>rfl);(case hr=>go_simp;done);intro a8 ap cB;clear q;replace hX:=(ap.symm▸nP hX _:a8.heap[gR]? =_);have q:=bw3 hX;have bE:=A_ ap;clear ap)|((with_reducible refine gt_ 33 ?_);refine qp ?hg (N:=33) ?hd (v:=.slice (some ⟨w1.heap.size+1,0,none⟩) 2 2) (ob:=.cells #[.int .i64 1,.int .i64 2] 3 (0,0)) ?hr ?_;(case hd|hg=>rfl);(case hr=>go_simp;done);intro a9 aq cK;clear q;replace hX:=(aq.symm▸nP hX _:a9.heap[gR]? =_);have q:=bw3 hX;have bF:=A_ aq;clear aq)|((with_reducible refine gt_ 34 ?_);refine qp ?hg (N:=34) ?hd (v:=.slice (some ⟨w1.heap.size+1+1,0,none⟩) 2 2) (ob:=.cells #[.int .i64 2,.int .i64 2] 3 (0,0)) ?hr ?_;(case hd|hg=>rfl);(case hr=>go_simp;done);intro ba ar cO;clear q;replace hX:=(ar.symm▸nP hX _:ba.heap[gR]? =_);have q:=bw3 hX;have bG:=A_ ar;clear ar)|((with_reducible refine gt_ 35 ?_);refine qp ?hg (N:=35) ?hd (v:=.slice (some ⟨w1.heap.size+1+1+1,0,none⟩) 3 3) (ob:=.cells #[.slice (some ⟨w1.heap.size,0,none⟩) 2 2,.slice (some ⟨w1.heap.size+1,0,none⟩) 2 2,.slice (some ⟨w1.heap.size+1+1,0,none⟩) 2 2] 25 (0,0)) ?hr ?_;(case hd|hg=>rfl);(case hr=>go_simp;done);intro bc au cZ;clear q;replace hX:=(au.symm▸nP hX _:bc.heap[gR]? =_);have q:=bw3 hX;have bH:=A_ au;clear au)|((with_reducible refine gt_ 36 ?_);refine qp ?hg (N:=36) ?hd (v:=.slice (some ⟨w1.heap.size+1+1+1+1,0,none⟩) 3 3) (ob:=.cells #[.int .i64 0,.int .i64 1,.int .i64 0] 3 (0,0)) ?hr ?_;(case hd|hg=>rfl);(case hr=>go_simp;done);intro be av df;clear q;replace hX:=(av.symm▸nP hX _:be.heap[gR]? =_);have q:=bw3 hX;have bI:=A_ av;clear av))
  clear hX q;obtain⟨ap⟩:=bE;obtain⟨aq⟩:=bF;obtain⟨ar⟩:=bG;obtain⟨au⟩:=bH;obtain⟨av⟩:=bI;subst ap aq ar au av;obtain⟨h1,h2,h3⟩:=xG (b:=2) [[0,1],[1,2],[2,2]] [0,1,0] rfl J hb hG.o d_ rfl d_ rfl rfl rfl;refine bodyPost_ret (vB rfl _ _ gR 27 #[.int .i64 2,.slice (some ⟨w1.heap.size+3,0,none⟩) 3 3,.slice (some ⟨w1.heap.size+4,0,none⟩) 3 3] (0,0) _ rfl (by exact h1) hu rfl K_) rfl ?_;exact⟨_,_,2,3,_,rfl,h2,h3,d_,d_⟩
 ·have c0:(a0.toList==[116,104,117,101])=false:=ne _ _ h d_
  have c1:(a0.toList==[114,117,100,105,110])=false:=ne _ _ h d_
  have c2:(a0.toList==[112,101,114,105,111,100])=false:=ne _ _ h d_
  have c3:(a0.toList==[112,111,119,101,114,115])=false:=ne _ _ h d_
  have c4:(a0.toList==[99,97,110,116,111,114])=true:=by rw[h];exact beq_self_eq_true _
  clear ne h;go_enter Try.func73,Try.ntmps73
  go_wp2_with (first|((with_reducible refine gt_ 2 ?_);refine be_ 2 #[.int .i64 0,.slice none 0 0,.slice none 0 0] 27 ?_;intro gR hg w1 J hb;have q:=bw3 J;have hG:=A_ hg;have hX:=J;clear hg)|((with_reducible refine gt_ 40 ?_);refine qp ?hg (N:=40) ?hd (v:=.slice (some ⟨w1.heap.size,0,none⟩) 3 3) (ob:=.cells #[.int .i64 0,.int .i64 1,.int .i64 0] 3 (0,0)) ?hr ?_;(case hd|hg=>rfl);(case hr=>go_simp;done);intro bf aw dh;clear q;replace hX:=(aw.symm▸nP hX _:bf.heap[gR]? =_);have q:=bw3 hX;have bJ:=A_ aw;clear aw)|((with_reducible refine gt_ 41 ?_);refine qp ?hg (N:=41) ?hd (v:=.slice (some ⟨w1.heap.size+1,0,none⟩) 3 3) (ob:=.cells #[.int .i64 1,.int .i64 1,.int .i64 1] 3 (0,0)) ?hr ?_;(case hd|hg=>rfl);(case hr=>go_simp;done);intro bg ax di;clear q;replace hX:=(ax.symm▸nP hX _:bg.heap[gR]? =_);have q:=bw3 hX;have bK:=A_ ax;clear ax)|((with_reducible refine gt_ 42 ?_);refine qp ?hg (N:=42) ?hd (v:=.slice (some ⟨w1.heap.size+1+1,0,none⟩) 2 2) (ob:=.cells #[.slice (some ⟨w1.heap.size,0,none⟩) 3 3,.slice (some ⟨w1.heap.size+1,0,none⟩) 3 3] 25 (0,0)) ?hr ?_;(case hd|hg=>rfl);(case hr=>go_simp;done);intro bh ay dm;clear q;replace hX:=(ay.symm▸nP hX _:bh.heap[gR]? =_);have q:=bw3 hX;have bL:=A_ ay;clear ay)|((with_reducible refine gt_ 43 ?_);refine qp ?hg (N:=43) ?hd (v:=.slice (some ⟨w1.heap.size+1+1+1,0,none⟩) 2 2) (ob:=.cells #[.int .i64 1,.int .i64 0] 3 (0,0)) ?hr ?_;(case hd|hg=>rfl);(case hr=>go_simp;done);intro bi az s43;clear q;replace hX:=(az.symm▸nP hX _:bi.heap[gR]? =_);have q:=bw3 hX;have bM:=A_ az;clear az))
  clear hX q;obtain⟨aw⟩:=bJ;obtain⟨ax⟩:=bK;obtain⟨ay⟩:=bL;obtain⟨az⟩:=bM;subst aw ax ay az;obtain⟨h1,h2,h3⟩:=xG (b:=3) [[0,1,0],[1,1,1]] [1,0] rfl J hb hG.o d_ rfl d_ rfl rfl rfl;refine bodyPost_ret (vB rfl _ _ gR 27 #[.int .i64 3,.slice (some ⟨w1.heap.size+2,0,none⟩) 2 2,.slice (some ⟨w1.heap.size+3,0,none⟩) 2 2] (0,0) _ rfl (by exact h1) hu rfl K_) rfl ?_;exact⟨_,_,3,2,_,rfl,h2,h3,d_,d_⟩
 ·have c0:(a0.toList==[116,104,117,101])=false:=ne _ _ h d_
  have c1:(a0.toList==[114,117,100,105,110])=false:=ne _ _ h d_
  have c2:(a0.toList==[112,101,114,105,111,100])=false:=ne _ _ h d_
  have c3:(a0.toList==[112,111,119,101,114,115])=false:=ne _ _ h d_
  have c4:(a0.toList==[99,97,110,116,111,114])=false:=ne _ _ h d_
  have c5:(a0.toList==[109,111,100])=true:=by rw[h];exact beq_self_eq_true _
  clear ne h;go_enter Try.func73,Try.ntmps73
  go_wp2_with (first|((with_reducible refine gt_ 2 ?_);refine be_ 2 #[.int .i64 0,.slice none 0 0,.slice none 0 0] 27 ?_;intro gR hg w1 J hb;have q:=bw3 J;have hG:=A_ hg;have hX:=J;clear hg)|((with_reducible refine gt_ 47 ?_);refine qp ?hg (N:=47) ?hd (v:=.slice (some ⟨w1.heap.size,0,none⟩) 2 2) (ob:=.cells #[.int .i64 0,.int .i64 1] 3 (0,0)) ?hr ?_;(case hd|hg=>rfl);(case hr=>go_simp;done);intro bj aA dn;clear q;replace hX:=(aA.symm▸nP hX _:bj.heap[gR]? =_);have q:=bw3 hX;have bN:=A_ aA;clear aA)|((with_reducible refine gt_ 48 ?_);refine qp ?hg (N:=48) ?hd (v:=.slice (some ⟨w1.heap.size+1,0,none⟩) 2 2) (ob:=.cells #[.int .i64 2,.int .i64 0] 3 (0,0)) ?hr ?_;(case hd|hg=>rfl);(case hr=>go_simp;done);intro bk aC dw;clear q;replace hX:=(aC.symm▸nP hX _:bk.heap[gR]? =_);have q:=bw3 hX;have bO:=A_ aC;clear aC)|((with_reducible refine gt_ 49 ?_);refine qp ?hg (N:=49) ?hd (v:=.slice (some ⟨w1.heap.size+1+1,0,none⟩) 2 2) (ob:=.cells #[.int .i64 1,.int .i64 2] 3 (0,0)) ?hr ?_;(case hd|hg=>rfl);(case hr=>go_simp;done);intro bm aD s49;clear q;replace hX:=(aD.symm▸nP hX _:bm.heap[gR]? =_);have q:=bw3 hX;have bP:=A_ aD;clear aD)|((with_reducible refine gt_ 50 ?_);refine qp ?hg (N:=50) ?hd (v:=.slice (some ⟨w1.heap.size+1+1+1,0,none⟩) 3 3) (ob:=.cells #[.slice (some ⟨w1.heap.size,0,none⟩) 2 2,.slice (some ⟨w1.heap.size+1,0,none⟩) 2 2,.slice (some ⟨w1.heap.size+1+1,0,none⟩) 2 2] 25 (0,0)) ?hr ?_;(case hd|hg=>rfl);(case hr=>go_simp;done);intro bn aE dx;clear q;replace hX:=(aE.symm▸nP hX _:bn.heap[gR]? =_);have q:=bw3 hX;have bQ:=A_ aE;clear aE)|((with_reducible refine gt_ 51 ?_);refine qp ?hg (N:=51) ?hd (v:=.slice (some ⟨w1.heap.size+1+1+1+1,0,none⟩) 3 3) (ob:=.cells #[.int .i64 0,.int .i64 1,.int .i64 2] 3 (0,0)) ?hr ?_;(case hd|hg=>rfl);(case hr=>go_simp;done);intro bq aG dz;clear q;replace hX:=(aG.symm▸nP hX _:bq.heap[gR]? =_);have q:=bw3 hX;have bR:=A_ aG;clear aG))
  clear hX q;obtain⟨aA⟩:=bN;obtain⟨aC⟩:=bO;obtain⟨aD⟩:=bP;obtain⟨aE⟩:=bQ;obtain⟨aG⟩:=bR;subst aA aC aD aE aG;obtain⟨h1,h2,h3⟩:=xG (b:=2) [[0,1],[2,0],[1,2]] [0,1,2] rfl J hb hG.o d_ rfl d_ rfl rfl rfl;refine bodyPost_ret (vB rfl _ _ gR 27 #[.int .i64 2,.slice (some ⟨w1.heap.size+3,0,none⟩) 3 3,.slice (some ⟨w1.heap.size+4,0,none⟩) 3 3] (0,0) _ rfl (by exact h1) hu rfl K_) rfl ?_;exact⟨_,_,2,3,_,rfl,h2,h3,d_,d_⟩
def Sq3 (W:World) (B:Nat) (v1 v2 vr:Value) (b n l:Nat):Prop:=∃N O r,Kd.R K2 25 W B (fun k=>some k≠v2.ownBlock∧some k≠vr.ownBlock) v1 N∧Kd.R K1 3 W B (fun k=>some k≠vr.ownBlock) v2 O∧Kd.R K1 3 W B (fun k=>some k≠v2.ownBlock) vr r∧N.length=n∧O.length=n∧(∀r∈N,r.length=b)∧r.length=l
section
variable {w0 w W W1:World} {g gs B b n l t:Nat} {v1 v2 vr:Value} {bs:List Int}
theorem SqR.below (h:SqR W B v1 v2 b n) (hb:Below W.heap.size W W1):SqR W1 B v1 v2 b n:=by
 obtain⟨N,O,h1,h2,h3⟩:=h;exact⟨N,O,Kd.nX h1 hb,Kd.nX h2 hb,h3⟩
theorem SqR.keep (h:SqR W B v1 v2 b n) (hc:∃cs,W.heap[g]? =some (.cells cs t (0,0))) (hk:oF W W1 g none) (ht:∀q,q∈[25,3]→q≠t):SqR W1 B v1 v2 b n:=by
 obtain⟨N,O,h1,h2,hx⟩:=h;exact⟨N,O,kR h1 hc hk ht,kR h2 hc hk (fun q hq=>ht q (.tail _ hq)),hx⟩
theorem SqR.lower (h:SqR W B v1 v2 b n) {B':Nat} (hb:B'≤B):SqR W B' v1 v2 b n:=by
 obtain⟨N,O,h1,h2,h3⟩:=h;exact⟨N,O,Kd.nE h1 hb,Kd.nE h2 hb,h3⟩
theorem Sq3.keep (h:Sq3 W B v1 v2 vr b n l) (hc:∃cs,W.heap[g]? =some (.cells cs t (0,0))) (hk:oF W W1 g none) (ht:∀q,q∈[25,3]→q≠t):Sq3 W1 B v1 v2 vr b n l:=by
 obtain⟨N,O,r,h1,h2,h3,hx⟩:=h;exact⟨N,O,r,kR h1 hc hk ht,kR h2 hc hk (fun q hq=>ht q (.tail _ hq)),kR h3 hc hk (fun q hq=>ht q (.tail _ hq)),hx⟩
theorem Sq3.start (h:SqR W B v1 v2 b n) (hr:Kd.R K1 3 W1 W.heap.size (fun _=>True) vr []) (hb:Below W.heap.size W W1) (hB:B≤W.heap.size):Sq3 W1 B v1 v2 vr b n 0:=by
 obtain⟨N,O,h1,h2,hx⟩:=h;exact⟨N,O,[],Kd.oz h1 (Kd.nW hr) hb,Kd.mM (Kd.oz h2 (Kd.nW hr) hb) (fun _ hk=>hk.2),Kd.mM (Kd.nE (Kd.qF hr (Kd.oV h2)) hB) (fun _ hk=>hk.2),hx.1,hx.2.1,hx.2.2,rfl⟩
end
section
variable {ops:Array Oper} {rest:List Oper} {o:Oper} {a:Act} {Q:Exit→Act→World→Prop} {Kc:Act→World→Prop} {W:World} {B:Nat} {v vr:Value} {ok:Nat→Prop}
theorem apI (hgd:o.guard=none) (s x:Operand) (ho:o.op=.call {callee:=.builtin .append,args:= #[s,x],argTypes:= #[25,25]}) {l:List Int} {y:Int} (hs:a.eval s=v) (hx:a.eval x=.slice (some ⟨W.heap.size,0,none⟩) 1 1) (HO:Kd.R K1 3 W B ok v l) (hf:∀k,W.heap.size≤k→ok k) (hB:B≤W.heap.size) (hl:l.length≤1000)
 (h:∀v1 w1,Kd.R K1 3 w1 B ok v1 (l++[y])→W.grownBy w1 v.ownBlock→(v1.ownBlock=v.ownBlock∨∃b,v1.ownBlock=some b∧W.heap.size≤b)→wpList Try.prog ops Q rest (a.put o.dst v1) w1):wpList Try.prog ops Q (o::rest) a (W.alloc (.cells #[.int .i64 y] 3 (0,0))):=
 Kd.qG K1 (w0:=W) B hgd s x 25 3 (.int .i64 0) 8 ho Try.underlying25 info3 rfl d_ om v l y [.int .i64 y] ok (fun _=>False) hs hx rfl (fun _ hk=>hk.elim) hf HO (Below.refl _ _) hB om (fun v1 w1 h1 _ h3 h4=>h v1 w1 h1 h3 h4)
theorem DV (hw:Region.wanted o (yielded ops a.tmps)=true) (s x:Operand) (ho:o.op=.call {callee:=.builtin .append,args:= #[s,x],argTypes:= #[25,25]}) {l:List Int} {y:Int} (hs:a.eval s=v) (hx:a.eval x=.slice (some ⟨W.heap.size,0,none⟩) 1 1) (HO:Kd.R K1 3 W B ok v l) (hf:∀k,W.heap.size≤k→ok k) (hB:B≤W.heap.size) (hl:l.length≤1000)
 (h:∀v1 w1,Kd.R K1 3 w1 B ok v1 (l++[y])→W.grownBy w1 v.ownBlock→(v1.ownBlock=v.ownBlock∨∃b,v1.ownBlock=some b∧W.heap.size≤b)→Kc (a.put o.dst v1) w1):if Region.wanted o (yielded ops a.tmps)=true then Oper.wp Try.prog o a (W.alloc (.cells #[.int .i64 y] 3 (0,0))) Kc Q else Kc (a.put o.dst undef) (W.alloc (.cells #[.int .i64 y] 3 (0,0))):=
 Kd.yu K1 (w0:=W) B hw s x 25 3 (.int .i64 0) 8 ho Try.underlying25 info3 rfl d_ om v l y [.int .i64 y] ok (fun _=>False) hs hx rfl (fun _ hk=>hk.elim) hf HO (Below.refl _ _) hB om (fun v1 w1 h1 _ h3 h4=>h v1 w1 h1 h3 h4)
theorem apR (hgd:o.guard=none) (s x:Operand) (ho:o.op=.call {callee:=.builtin .append,args:= #[s,x],argTypes:= #[24,24]}) {N:List (List Int)} {r:List Int} {vr:Value} {U:Nat→Prop} (hs:a.eval s=v) (hx:a.eval x=.slice (some ⟨W.heap.size,0,none⟩) 1 1) (hr:Kd.R K1 3 W B U vr r) (hok:∀k,U k→ok k) (HO:Kd.R K2 25 W B ok v N) (hf:∀k,W.heap.size≤k→ok k) (hB:B≤W.heap.size) (hl:N.length≤1000)
 (h:∀v1 w1,Kd.R K2 25 w1 B ok v1 (N++[r])→W.grownBy w1 v.ownBlock→(v1.ownBlock=v.ownBlock∨∃b,v1.ownBlock=some b∧W.heap.size≤b)→wpList Try.prog ops Q rest (a.put o.dst v1) w1):wpList Try.prog ops Q (o::rest) a (W.alloc (.cells #[vr] 25 (0,0))):=
 Kd.qG K2 (w0:=W) B hgd s x 24 25 (.slice none 0 0) 24 ho Try.underlying24 uO rfl d_ om v N r [vr] ok (fun k=>U k∧some k≠v.ownBlock) hs hx (Kd.uR (Kd.pE hr (Kd.tu HO) d_)) (fun k hk=>⟨hok k hk.1,hk.2⟩) hf HO (Below.refl _ _) hB om (fun v1 w1 h1 _ h3 h4=>h v1 w1 h1 h3 h4)
theorem mkI (hgd:o.guard=none) {N:Tmp} (hd:o.dst=some N) (hrun:(execOp a.eval o).run Try.prog W=.ok (.value (.slice (some ⟨W.heap.size,0,none⟩) 0 0)) (W.alloc (.cells #[] 3 (0,0)))) (h:∀v1 w1,Kd.R K1 3 w1 W.heap.size (fun _=>True) v1 []→Below W.heap.size W w1→wpList Try.prog ops Q rest (a.put o.dst v1) w1):wpList Try.prog ops Q (o::rest) a W:=
 Kd.wF K1 (w0:=W) W.heap.size 3 hgd hd (xs:=[]) (inner:=[]) (ok:=fun _=>True) (okp:=fun _=>True) hrun (qK.none _ _) (fun _ hk=>hk) trivial (Below.refl _ _) (Nat.le_refl _) sp (fun v1 w1 h1 h2 _ _=>h v1 w1 h1 h2)
end
section
variable {W W1:World} {g B b n l:Nat} {v1 v2 vr v:Value} {N:List (List Int)} {O r:List Int} {x:Int}
theorem Sq3.snoc (h1:Kd.R K2 25 W B (fun k=>some k≠v2.ownBlock∧some k≠vr.ownBlock) v1 N) (h2:Kd.R K1 3 W B (fun k=>some k≠vr.ownBlock) v2 O) (e1:N.length=n) (e2:O.length=n) (e3:∀r∈N,r.length=b) (e4:r.length=l) (ho:Kd.R K1 3 W1 B (fun k=>some k≠v2.ownBlock) v (r++[x])) (hg:W.grownBy W1 vr.ownBlock) (hat:v.ownBlock=vr.ownBlock∨∃b,v.ownBlock=some b∧W.heap.size≤b):Sq3 W1 B v1 v2 v b n (l+1):=
 ⟨N,O,r++[x],Kd.pq (ok:=fun k=>some k≠v2.ownBlock) h1 hg hat,Kd.mM (Kd.pq (ok:=fun _=>True) (Kd.mM h2 (fun _ hk=>⟨trivial,hk⟩)) hg hat) (fun _ hk=>hk.2),ho,e1,e2,e3,by simp[e4]⟩
end
theorem Me {α:Type} {Ra Rb:α→List Value→Prop} {S:α→α→Prop} {sz:Nat} {xs:List α} {cs:List Value} (h:qK Ra sz xs cs) (hm:∀x c,Ra x c→∃y,S x y∧Rb y c):∃ys,qK Rb sz ys cs∧ys.length=xs.length∧∀y∈ys,∃x∈xs,S x y:=by
 have hj:∀j:Fin xs.length,∃y,S xs[j] y∧Rb y ((cs.drop (j*sz)).take sz):=fun j=>hm _ _ (h.2 j _ (List.getElem?_eq_getElem j.2))
 refine⟨List.ofFn (fun j=>(hj j).choose),⟨by rw[List.length_ofFn];exact h.1,fun j p hp=>?_⟩,sp,fun y hy=>?_⟩
 ·obtain⟨hjl,rfl⟩:=List.getElem?_eq_some_iff.1 hp
  rw[List.getElem_ofFn];exact(hj _).choose_spec.2
 ·obtain⟨j,rfl⟩:=(List.mem_ofFn).1 hy
  exact⟨_,List.getElem_mem j.2,(hj j).choose_spec.1⟩
theorem st1 {W:World} {B g0:Nat} {ok:Nat→Prop} {v:Value} {l:List Int} {cs:Array Value} (h:Kd.R K1 3 W B ok v l) (hc:W.heap[g0]? =some (.cells cs 3 (0,0))) (x:Int):∃l',Kd.R K1 3 (W.setCell ⟨g0,0,none⟩ (.int .i64 x)) B ok v l'∧l'.length=l.length:=by
 by_cases e:v.ownBlock=some g0
 ·rcases Nat.eq_zero_or_pos l.length with h1|h1
  ·obtain rfl:=List.eq_nil_of_length_eq_zero h1
   obtain⟨k1,bS,ho1,hr1⟩:=h;refine⟨[],⟨k1,bS,⟨ho1.1,?_⟩,?_⟩,rfl⟩
   ·rcases ho1.2 with h2|⟨g,cap,cur,e1,e2,e3,e4,e5,e6,e7⟩
    ·exact .inl h2
    ·obtain rfl:g=g0:=by rw[e1]at e;simpa [Value.ownBlock]using e
     exact .inr ⟨g,cap,_,e1,e2,oN e3 0 _ rfl,e4,e5,by simpa using e6,by simpa using e7⟩
   ·have:=hr1.1
    simp only[List.length_nil,Nat.zero_mul]at this;obtain rfl:=List.eq_nil_of_length_eq_zero this;exact qK.none _ _
  ·obtain⟨g,cap,rfl,_⟩:=Kd.sj h h1
   obtain rfl:g=g0:=by simpa [Value.ownBlock]using e
   exact⟨l.set 0 x,(Kd.EZ h 0 x).1,sp⟩
 ·exact⟨l,Kd.mM (Kd.sM (p:=⟨g0,0,none⟩) (Kd.Eb rfl h) (fun k hk he=>e (hk.1.symm.trans (congrArg some he))) _) (fun _ hk=>hk.2),rfl⟩
theorem NH {α:Type} {d:Kd α} {S:α→α→Prop} {W:World} {B g0 e e':Nat} {ok:Nat→Prop} {v:Value} {xs:List (List α)} {cs:Array Value} (hc:W.heap[g0]? =some (.cells cs 3 (0,0))) (x:Int)
 (hd:∀ok v l,Kd.R d e W B ok v l→∃l',Kd.R d e (W.setCell ⟨g0,0,none⟩ (.int .i64 x)) B ok v l'∧l'.length=l.length∧∀y∈l',∃z∈l,S z y) (h:Kd.R (Kd.slice e d) e' W B ok v xs) (he:e'≠3):∃ys,Kd.R (Kd.slice e d) e' (W.setCell ⟨g0,0,none⟩ (.int .i64 x)) B ok v ys∧ys.length=xs.length∧∀y∈ys,∃z∈xs,y.length=z.length∧∀p∈y,∃q∈z,S q p:=by
 have hty:=Kd.tu h;obtain⟨k0,inner,ho,hr⟩:=h
 obtain⟨N',hr',hl,hS⟩:=Me (S:=fun z y=>y.length=z.length∧∀p∈y,∃q∈z,S q p) (Rb:=(Kd.slice e d).M (W.setCell ⟨g0,0,none⟩ (.int .i64 x)) B (fun k=>ok k∧some k≠v.ownBlock)) hr (fun r cs hM=>by
  obtain⟨u,rfl,hv⟩:=hM;obtain⟨l',h1,h2,h3⟩:=hd _ _ _ hv;exact⟨l',⟨h2,h3⟩,u,rfl,h1⟩)
 refine⟨N',⟨k0,inner,?_,hr'⟩,hl,hS⟩;rw[hl];refine GX ho (fun k hk=>Below.heap_setCell _ _ _ _ ?_);obtain⟨cells,hcl⟩:=hty k hk;exact uX hcl hc he
theorem st2 {W:World} {B g0:Nat} {ok:Nat→Prop} {v:Value} {xs:List (List Int)} {cs:Array Value} (hc:W.heap[g0]? =some (.cells cs 3 (0,0))) (x:Int) (h:Kd.R K2 25 W B ok v xs):∃ys,Kd.R K2 25 (W.setCell ⟨g0,0,none⟩ (.int .i64 x)) B ok v ys∧ys.length=xs.length∧∀y∈ys,∃z∈xs,y.length=z.length:=by
 obtain⟨ys,h1,h2,h3⟩:=NH (S:=fun _ _=>True) hc x (fun ok v l hl=>by
  obtain⟨l',h4,h5⟩:=st1 hl hc x
  exact⟨l',h4,h5,fun y hy=>by
   cases l with
   |nil=>simp at h5;subst h5;cases hy
   |cons z l=>exact⟨z,sp,trivial⟩⟩) h d_
 exact⟨ys,h1,h2,fun y hy=>by obtain⟨z,hz,h4,_⟩:=h3 y hy;exact⟨z,hz,h4⟩⟩
theorem st3 {W:World} {B g0:Nat} {ok:Nat→Prop} {v:Value} {xs:List (List (List Int))} {cs:Array Value} (hc:W.heap[g0]? =some (.cells cs 3 (0,0))) (x:Int) (h:Kd.R K3 24 W B ok v xs):∃ys,Kd.R K3 24 (W.setCell ⟨g0,0,none⟩ (.int .i64 x)) B ok v ys∧ys.length=xs.length∧∀y∈ys,∃z∈xs,y.length=z.length∧∀p∈y,∃q∈z,p.length=q.length:=
 NH hc x (fun _ _ _ hl=>st2 hc x hl) h d_
theorem Oy {W:World} {B b:Nat} {ok:Nat→Prop} {A:Option Addr} {n c:Nat} {N:List (List Int)} (h:Kd.R K2 25 W B ok (.slice A n c) N) (hN:0<N.length) (hb:∀r∈N,r.length=b) (hb0:0<b):∃g1 g0 m c0 u,A=some ⟨g1,0,none⟩∧0<n∧W.cell? ⟨g1,0,none⟩=some (.slice (some ⟨g0,0,none⟩) m c0)∧0<m∧W.cell? ⟨g0,0,none⟩=some u∧W.frozen? ⟨g0,0,none⟩=false∧(∃cs,W.heap[g0]? =some (.cells cs 3 (0,0)))∧ok g0∧B≤g0∧∀x:Int,∃N',Kd.R K2 25 (W.setCell ⟨g0,0,none⟩ (.int .i64 x)) B ok (.slice A n c) N'∧N'.length=N.length∧∀r∈N',r.length=b:=by
 obtain⟨g1,cap,he,hg1,hg2,cells,hcl⟩:=Kd.sj h hN
 injection he with hA hn hc
 subst hA hn hc;obtain⟨cs,_,hM,hcc,hfr⟩:=Kd.FV h [] 0 om om;obtain⟨v,rfl,hR⟩:=hM
 have h0:0<(N.getD 0 []).length:=by
  rw[List.getD_eq_getElem?_getD,List.getElem?_eq_getElem hN]
  have:=hb _ (List.getElem_mem hN)
  simp only[Option.getD_some];omega
 obtain⟨g0,c0,rfl,hbg,hg0,aB,hc0⟩:=Kd.sj hR h0;have hcell:=Kd.Dr (0:Int) hR 0 om (by simpa using h0);have hok0:=(hR.1 g0 (by simp[Value.ownBlock])).1;refine⟨g1,g0,_,c0,_,rfl,hN,hcc 0 _ rfl,h0,hcell.1,hcell.2,⟨_,hc0⟩,hok0,hbg,fun x=>?_⟩;obtain⟨N',h1,h2,h3⟩:=st2 hc0 x h;refine⟨N',h1,h2,fun r hr=>?_⟩;obtain⟨z,hz,h4⟩:=h3 r hr;rw[h4];exact hb z hz
section
variable {W:World} {B b n n1 c1 gs:Nat} {A1:Option Addr} {v1 v2:Value}
theorem SqR.row0 (h:SqR W B (.slice A1 n1 c1) v2 b n) (hn:0<n) (hb:0<b):∃g1 g0 m c0 u,A1=some ⟨g1,0,none⟩∧0<n1∧W.cell? ⟨g1,0,none⟩=some (.slice (some ⟨g0,0,none⟩) m c0)∧0<m∧W.cell? ⟨g0,0,none⟩=some u∧W.frozen? ⟨g0,0,none⟩=false∧(∃cs,W.heap[g0]? =some (.cells cs 3 (0,0)))∧B≤g0∧∀x:Int,SqR (W.setCell ⟨g0,0,none⟩ (.int .i64 x)) B (.slice A1 n1 c1) v2 b n:=by
 obtain⟨N,O,h1,h2,e1,e2,e3⟩:=h;obtain⟨g1,g0,m,c0,u,hA,hn0,hc1,hm,hc2,hf,hcs,hok,hg0,hst⟩:=Oy h1 om e3 hb;refine⟨g1,g0,m,c0,u,hA,hn0,hc1,hm,hc2,hf,hcs,hg0,fun x=>?_⟩;obtain⟨N',h3,e4,e5⟩:=hst x;exact⟨N',O,h3,Kd.mM (Kd.sM (p:=⟨g0,0,none⟩) (Kd.Eb rfl h2) (fun k hk he=>hok ((congrArg some he).symm.trans hk.1)) _) (fun _ hk=>hk.2),om,e2,e5⟩
theorem SqR.Pw (h:SqR W B v1 (.slice A1 n1 c1) b n) (hn:0<n):∃g2 u,A1=some ⟨g2,0,none⟩∧0<n1∧W.cell? ⟨g2,0,none⟩=some u∧W.frozen? ⟨g2,0,none⟩=false∧(∃cs,W.heap[g2]? =some (.cells cs 3 (0,0)))∧B≤g2∧∀x:Int,SqR (W.setCell ⟨g2,0,none⟩ (.int .i64 x)) B v1 (.slice A1 n1 c1) b n:=by
 obtain⟨N,O,h1,h2,e1,e2,e3⟩:=h;obtain⟨g2,cap,he,hb,_,cs,hcs⟩:=Kd.sj h2 om
 injection he with hA hl hc
 subst hA hl hc;have hcell:=Kd.Dr (0:Int) h2 0 om om;refine⟨g2,_,rfl,om,hcell.1,hcell.2,⟨cs,hcs⟩,hb,fun x=>⟨N,O.set 0 x,Kd.sM (p:=⟨g2,0,none⟩) h1 (fun k hk he=>hk (by rw[he];rfl)) _,?_,e1,by simpa using e2,e3⟩⟩;exact(Kd.EZ h2 0 x).1
theorem SqR.set (h:SqR W B v1 v2 b n) {cs:Array Value} (hc:W.heap[gs]? =some (.cells cs 27 (0,0))) (j:Nat) (u:Value):SqR (W.setCell ⟨gs,j,none⟩ u) B v1 v2 b n:=by
 obtain⟨N,O,h1,h2,h3⟩:=h;exact⟨N,O,Kd.y_ h1 hc d_ j u,Kd.y_ h2 hc d_ j u,h3⟩
theorem uN {x y z a b c:Value} {t:Nat} (h:W.heap[gs]? =some (.cells #[x,y,z] t (0,0))):(W.setCell ⟨gs,0,none⟩ a).heap[gs]? =some (.cells #[a,y,z] t (0,0))∧((W.setCell ⟨gs,0,none⟩ a).setCell ⟨gs,1,none⟩ b).heap[gs]? =some (.cells #[a,b,z] t (0,0))∧(((W.setCell ⟨gs,0,none⟩ a).setCell ⟨gs,1,none⟩ b).setCell ⟨gs,2,none⟩ c).heap[gs]? =some (.cells #[a,b,c] t (0,0)):=
 ⟨oN h 0 _ rfl,oN (oN h 0 _ rfl) 1 _ rfl,oN (oN (oN h 0 _ rfl) 1 _ rfl) 2 _ rfl⟩
theorem SqR.uN (h:SqR W B v1 v2 b n) {x y z p q r:Value} (hc:W.heap[gs]? =some (.cells #[x,y,z] 27 (0,0))):SqR (((W.setCell ⟨gs,0,none⟩ p).setCell ⟨gs,1,none⟩ q).setCell ⟨gs,2,none⟩ r) B v1 v2 b n:=by
 obtain⟨h1,h2,_⟩:=PFnLinear.uN (a:=p) (b:=q) (c:=r) hc;exact((h.set hc 0 p).set h1 1 q).set h2 2 r
end
section
variable {ops:Array Oper} {rest:List Oper} {o:Oper} {a:Act} {Q:Exit→Act→World→Prop} {Kc:Act→World→Prop} {W:World}
theorem mkL {α:Type} {enc:α→Value} {h1:∀x,(enc x).oneCell'=true} (e:Nat) (l:List α) (hgd:o.guard=none) {N:Tmp} (hd:o.dst=some N) (hrun:(execOp a.eval o).run Try.prog W=.ok (.value (.slice (some ⟨W.heap.size,0,none⟩) l.length l.length)) (W.alloc (.cells (l.map enc).toArray e (0,0)))) (hl:l.length≤1000) (h:∀v1 w1,Kd.R (Kd.scalar enc h1) e w1 W.heap.size (fun _=>True) v1 l→Below W.heap.size W w1→wpList Try.prog ops Q rest (a.put o.dst v1) w1):wpList Try.prog ops Q (o::rest) a W:=
 Kd.wF (Kd.scalar enc h1) (w0:=W) W.heap.size e hgd hd (xs:=l) (inner:=l.map enc) (ok:=fun _=>True) (okp:=fun _=>True) hrun (Kd.zq l) (fun _ hk=>hk) trivial (Below.refl _ _) (Nat.le_refl _) om (fun v1 w1 h1 h2 _ _=>h v1 w1 h1 h2)
theorem Bo {α:Type} {enc:α→Value} {h1:∀x,(enc x).oneCell'=true} (e:Nat) (l:List α) (hw:Region.wanted o (yielded ops a.tmps)=true) {N:Tmp} (hd:o.dst=some N) (hrun:(execOp a.eval o).run Try.prog W=.ok (.value (.slice (some ⟨W.heap.size,0,none⟩) l.length l.length)) (W.alloc (.cells (l.map enc).toArray e (0,0)))) (hl:l.length≤1000) (h:∀v1 w1,Kd.R (Kd.scalar enc h1) e w1 W.heap.size (fun _=>True) v1 l→Below W.heap.size W w1→Kc (a.put o.dst v1) w1):if Region.wanted o (yielded ops a.tmps)=true then Oper.wp Try.prog o a W Kc Q else Kc (a.put o.dst undef) W:=
 Kd.tO (Kd.scalar enc h1) (w0:=W) W.heap.size e hw hd (xs:=l) (inner:=l.map enc) (ok:=fun _=>True) (okp:=fun _=>True) hrun (Kd.zq l) (fun _ hk=>hk) trivial (Below.refl _ _) (Nat.le_refl _) om (fun v1 w1 h1 h2 _ _=>h v1 w1 h1 h2)
theorem zL {α:Type} {d:Kd α} {e B g n c:Nat} {W1:World} {ok:Nat→Prop} {A:Option Addr} {l:List α} (h:Kd.R d e W1 B ok (.slice A n c) l) (hg:g<B):Kd.C d W1 A l.length l∧l.length≤c∧n=l.length∧∀ad,A=some ad→0<l.length→ad.block≠g:=by
 obtain⟨e1,e2,e3⟩:=Kd.mX h;refine⟨e1▸e3,om,e1,fun ad ha hl=>?_⟩;obtain⟨g',c',he,hb,_⟩:=Kd.sj h hl
 injection he with he
 rw[ha]at he
 injection he with he
 subst he
 show g'≠g
 omega
end
def nm6:List ByteArray:=[⟨#[116,104,117,101]⟩,⟨#[114,117,100,105,110]⟩,⟨#[112,101,114,105,111,100]⟩,⟨#[112,111,119,101,114,115]⟩,⟨#[99,97,110,116,111,114]⟩,⟨#[109,111,100]⟩]
theorem Od:∀r∈nm6,r.toList∈I_:=by
 decide+kernel
theorem SqR.Pq {W:World} {B b n n1 c1 g1:Nat} {v2:Value} (h:SqR W B (.slice (some ⟨g1,0,none⟩) n1 c1) v2 b n):B≤g1:=by
 obtain⟨N,O,h1,_⟩:=h;exact Kd.nW h1 g1 rfl
theorem Kr {W W1:World} {g g1 j:Nat} {v:Value} (h:W.cell? ⟨g1,j,none⟩=some v) (hk:oF W W1 g none) (hne:g1≠g):W1.cell? ⟨g1,j,none⟩=some v:=(World.cell?_of_block (hk.2 g1 (World.block_lt_of_cell? W _ h) hne sp)).trans h
theorem EI.dr (g:Nat) (bs:List Int) (b n:Nat) (w0 w:World) (hb:1≤b∧b≤16) (hn:1≤n∧n≤16) (hC:Cu w0 w g bs) (hB:Below w0.heap.size w0 w):Calls Try.prog 75 #[.pointer (some ⟨g,0,none⟩),.int .i64 b,.int .i64 n] w fun e w'=>∃v1 v2:Value,e=.returned (.agg #[.int .i64 b,v1,v2])∧SqR w' w.heap.size v1 v2 b n∧Dn w0 w w' g bs:=by
 have av:=Try.underlying27;have HD:=A_ (Dn.start hC hB);have HN:=A_ (And.intro hb hn);clear hC hB hb hn;go_enter Try.func75,Try.ntmps75
 go_upto_region 2 with(first|((with_reducible refine gt_ 6 ?_);refine be_ 6 #[.int .i64 0,.slice none 0 0,.slice none 0 0] 27 ?_;intro gR hg aA J hb;have BR:=A_ J;have GR:=A_ ((by rw[hg];exact HD.o.kp.1):w.heap.size≤gR);replace HD:=A_ (HD.o.below hb);have qR:=bw3 BR.o;clear hb J hg)|((with_reducible refine gt_ 7 ?_);refine be_ 7 #[.int .i64 0,.slice none 0 0,.slice none 0 0] 27 ?_;intro gS hg ax J hb;have NE:=A_ ((by rw[hg];exact Nat.ne_of_lt (pY BR.o)):gR≠gS);have BS:=A_ J;have GS:=A_ ((by rw[hg];exact HD.o.kp.1):w.heap.size≤gS);replace HD:=A_ (HD.o.below hb);replace BR:=bb_ BR hb;clear qR;have qR:=bw3 BR.o;have qS:=bw3 BS.o;clear hb J hg))
 go_wp2
 clear qR qS
 go_loopg [8] (n+1) (fun kq v8 W=>∃ (i:Nat) (v1 v2:Value),v8=.int .i64 (i:Int)∧i≤n∧n+1 - i≤kq∧Aside0 (Dn w0 w W g bs)∧Aside0 (W.heap[gR]? =some (.cells #[.int .i64 0,.slice none 0 0,.slice none 0 0] 27 (0,0)))∧Aside0 (W.heap[gS]? =some (.cells #[.int .i64 b,v1,v2] 27 (0,0)))∧Aside0 (SqR W w.heap.size v1 v2 b i))
 case atStart=>
  have aM:=Ne.symm NE.o
  exact⟨0,.slice none 0 0,.slice none 0 0,rfl,om,om,⟨((HD.o.set GS.o 0 _).set GS.o 1 _).set GS.o 2 _⟩,⟨pQ (pQ (pQ BR.o NE.o _) NE.o _) NE.o _⟩,⟨oN (oN (oN BS.o 0 _ rfl) 1 _ rfl) 2 _ rfl⟩,⟨[],[],Kd.sI _ _ _ _ _,Kd.sI _ _ _ _ _,rfl,rfl,fun _ h=>by cases h⟩⟩
 case round=>
  clear HD BR BS;obtain⟨i,v1,v2,rfl,hi,hk,HD,BR,BS,HS⟩:=hrel;have HI:=A_ (And.intro hi hk);clear hi hk
  by_cases hlt:i<n
  rotate_left
  ·have cn:decide ((i:Int)<(n:Int))=false:=decide_eq_false om
   obtain rfl:i=n:=by have:=HI.o;omega
   clear HI
   go_upto_if 47 with(go_at_call 60;(with_reducible refine(JU HD.o.cu HD.o.bl 2 om).mono ?_);rintro e W1 ⟨x,rfl,hd⟩;have hK:=hd.kp;have hT:=HD.o.cu.blk;have hL:=HD.o.lt;replace BR:=A_ (kb BR.o hK (by have:=GR.o;omega));replace BS:=A_ (kb BS.o hK (by have:=GS.o;omega));replace HS:=A_ (HS.o.keep hT hK d_);replace HD:=A_ (HD.o.drew hd);clear hd hK hT hL)
   obtain⟨N,O,h1,h2,hx⟩:=HS.o;obtain⟨A1,c1,x1⟩:=Kd.mU h1;subst x1;obtain⟨A2,c2,x2⟩:=Kd.mU h2;subst x2;clear h1 h2 hx
   cases x
   ·skip
    have qR:=bw3 BR.o;have qS:=bw3 BS.o
    go_wp2
    refine rs_ #[.int .i64 b,.slice A1 N.length c1,.slice A2 O.length c2] (by exact(uN BR.o).2.2) Try.underlying27 ?_;exact⟨_,_,rfl,HS.o.uN BR.o,((HD.o.set GR.o 0 _).set GR.o 1 _).set GR.o 2 _⟩
   ·skip
    have hnb:=HN.o;obtain⟨g1,g0,m,c0,u,rfl,hn0,hc1,hm,hc2,hf2,⟨cs,hcs⟩,hg0,hst⟩:=HS.o.row0 om om;have NR:=A_ (uX BR.o hcs d_);have NS:=A_ (uX BS.o hcs d_);have HE:=A_ (And.intro hg0 hst);have qS:=bw3 BS.o
    have ay:=eq_true hn0
    have hm':=eq_true hm
    clear hg0 hst hcs hnb
    go_upto_region 14 with fail
    generalize hW:W1.setCell ⟨g0,0,none⟩ (.int .i64 0)=W2
    replace HS:=A_ (hW▸HE.o.2 0:SqR W2 w.heap.size _ _ b i);replace HD:=A_ (hW▸HD.o.set HE.o.1 0 _:Dn w0 w W2 g bs);replace BR:=A_ (hW▸pQ BR.o NR.o _:W2.heap[gR]? =_);replace BS:=A_ (hW▸pQ BS.o NS.o _:W2.heap[gS]? =_);clear hW qS hc1 hc2 hf2 ay hm';have qR:=bw3 BR.o;have qS:=bw3 BS.o
    go_wp2
    refine rs_ #[.int .i64 b,.slice (some ⟨g1,0,none⟩) N.length c1,.slice A2 O.length c2] (by exact(uN BR.o).2.2) Try.underlying27 ?_;exact⟨_,_,rfl,HS.o.uN BR.o,((HD.o.set GR.o 0 _).set GR.o 1 _).set GR.o 2 _⟩
  have cn:decide ((i:Int)<(n:Int))=true:=decide_eq_true om
  go_wp2_with (first|((with_reducible refine gt_ 18 ?_);refine Kd.wF K1 _ 3 ?hg (N:=18) ?hd (xs:=([]:List Int)) (inner:=[]) (ok:=fun _=>True) (okp:=fun _=>True) ?hr ?hp (fun _ hk=>hk) trivial (Below.refl _ _) (Nat.le_refl _) sp ?_;(case hd|hg=>rfl);(case hr=>go_simp;done);(case hp=>exact(qK.none _ _));rintro vr W3 ho hb - -;have H3:=A_ (Sq3.start HS.o ho hb HD.o.kp.1);clear HS;replace HD:=A_ (HD.o.below hb);replace BR:=bb_ BR hb;replace BS:=bb_ BS hb;clear hb ho))
  go_loopg [9,10] (b+1) (fun kq v9 ab W=>∃ (j:Nat),ab=.int .i64 (j:Int)∧j≤b∧b+1 - j≤kq∧Aside0 (Dn w0 w W g bs)∧Aside0 (W.heap[gR]? =some (.cells #[.int .i64 0,.slice none 0 0,.slice none 0 0] 27 (0,0)))∧Aside0 (W.heap[gS]? =some (.cells #[.int .i64 b,v1,v2] 27 (0,0)))∧Aside0 (Sq3 W w.heap.size v1 v2 v9 b i j))
  case atStart=>exact⟨0,rfl,om,om,HD,BR,BS,H3⟩
  case round=>
   clear HD BR BS H3 cn;obtain⟨j,rfl,hj,hk,HD,BR,BS,H3⟩:=hrel;have HJ:=A_ (And.intro hj hk);clear hj hk
   by_cases hlj:j<b
   ·have cn:decide ((j:Int)<(b:Int))=true:=decide_eq_true om
    have hw:wrap64 ((j:Int)+1)=((j+1:Nat):Int):=by have:=HN.o;unfold wrap64;omega
    go_wp2_with (first|(go_at_call 50;(with_reducible refine(wO HD.o.cu HD.o.bl (n:Int) (by have:=HN.o;omega)).mono ?_);rintro e W4 ⟨x,rfl,hx,hd⟩;have hK:=hd.kp;have hT:=HD.o.cu.blk;have hL:=HD.o.lt;replace BR:=A_ (kb BR.o hK (by have:=GR.o;omega));replace BS:=A_ (kb BS.o hK (by have:=GS.o;omega));replace HD:=A_ (HD.o.drew hd);replace H3:=A_ (H3.o.keep hT hK d_);have HX:=A_ hd;clear hd hK hT hL hx)|((with_reducible refine nG (b:=.append) (xs:= #[.tmp 24,.tmp 28]) rfl ?_);at_builtin;obtain⟨N,O,r,h1,h2,h3,e1,e2,e3,e4⟩:=H3.o;refine apI (y:=x) rfl (.tmp 24) (.tmp 28) rfl rfl rfl h3 (fun k hk=>Kd.fresh' (Kd.oV h2) k hk) HD.o.kp.1 (by have:=HN.o;omega) ?_;rintro v9 W5 ho hg hat;have H5:=A_ (Sq3.snoc h1 h2 e1 e2 e3 e4 ho hg hat);replace BR:=A_ (qE BR.o hg (Kd.xu h3 BR.o d_));replace BS:=A_ (qE BS.o hg (Kd.xu h3 BS.o d_));replace HD:=A_ (HD.o.grow hg (Kd.nW h3));clear h1 h2 h3 e1 e2 e3 e4 ho hg hat H3))
    go_roundg (b+1 - (j+1))
    case measure=>have:=HJ.o;omega
    case rel=>exact⟨j+1,by first|rfl|rw[hw],om,Nat.le_refl _,HD,BR,BS,H5⟩
   ·have cn:decide ((j:Int)<(b:Int))=false:=decide_eq_false om
    obtain⟨N,O,r,h1,h2,h3,e1,e2,e3,e4⟩:=H3.o;obtain⟨Ar,cr,er⟩:=Kd.mU h3;subst er;have EE:=A_ (And.intro (And.intro e1 e2) (And.intro e3 e4));clear e1 e2 e3 e4
    have aB:N.length≤1000:=by have:=HN.o;have:=EE.o.1.1;omega
    have aJ:=A_ aB;clear aB;have qS:=bw3 BS.o
    go_upto_region 11 with((with_reducible refine nG (b:=.append) (xs:= #[.tmp 31,.tmp 33]) rfl ?_);at_builtin;refine apR rfl (.tmp 31) (.tmp 33) rfl rfl rfl h3 (fun k hk=>hk) (ok:=fun k=>some k≠v2.ownBlock) (Kd.mM h1 (fun _ hk=>hk.1)) (fun k hk=>Kd.fresh' (Kd.oV h2) k hk) HD.o.kp.1 aJ.o ?_;rintro v7 W5 ho hg hat;obtain⟨M,hM⟩:∃M,M=N++[r]:=⟨_,rfl⟩;rw[←hM]at ho;have EM:=A_ hM;clear hM;obtain⟨A7,c7,e7⟩:=Kd.mU ho;subst e7;replace BR:=A_ (qE BR.o hg (Kd.xu h1 BR.o d_));replace BS:=A_ (qE BS.o hg (Kd.xu h1 BS.o d_));replace HD:=A_ (HD.o.grow hg (Kd.nW h1));have h4:=Kd.mM (Kd.qH h2 (Kd.tu h1) d_ hg) (fun _ _=>trivial);clear qS;have qS:=bw3 BS.o;clear h1 h2 h3 hg hat)
    clear qS
    try go_wp2
    generalize hW:W5.setCell ⟨gS,1,none⟩ (.slice A7 M.length c7)=W6
    have D6:=A_ (hW▸HD.o.set GS.o 1 _:Dn w0 w W6 g bs);have R6:=A_ (hW▸pQ BR.o NE.o _:W6.heap[gR]? =_);have S6:=A_ (hW▸oN BS.o 1 _ rfl:W6.heap[gS]? =some (.cells #[.int .i64 b,.slice A7 M.length c7,v2] 27 (0,0)));have N6:=A_ (hW▸Kd.y_ ho BS.o d_ 1 _:Kd.R K2 25 W6 w.heap.size (fun k=>some k≠v2.ownBlock) (.slice A7 M.length c7) M);have O6:=A_ (hW▸Kd.y_ h4 BS.o d_ 1 _:Kd.R K1 3 W6 w.heap.size (fun _=>True) v2 O);clear hW HD BR BS ho h4;have D7:=A_ (D6.o.below (qw (Below.refl _ _)));have R7:=A_ (nQ R6.o);have S7:=A_ (nQ S6.o);have N7:=A_ (Kd.pR N6.o);have O7:=A_ (Kd.pR O6.o);clear D6 R6 S6 N6 O6;refine rM (n:=11) (S:=fun w'=>w'.cell? ⟨gS,2,none⟩=some v2) (ds:=[10]) (mk_ 11 0) K_ rfl rfl (bz2 S7.o) (fun aa=>?_);refine pz_ 0 36 (mk_ 11 1) ?_;refine pz_ 2 38 (mk_ 11 5) ?_;refine pz_ 3 39 (mk_ 11 13) ?_
    refine Ea (i:=1) (N:=some 37) (v:=?_) (a':=?_) (mk_ 11 15) rfl rfl K_ (fun _ _ _ h=>h) (Or.inl ⟨rf,?_⟩) aa ?_ ?_;rotate_left
    ·intro w' s0
     go_simp;with_reducible rfl
    rotate_left
    ·simp only[Act.put,mD,mE,mF,uD,zn]
     rfl
    refine oz_ 4 (mk_ 11 31) (fun K hK=>?_);refine wG Try.func50 K_ rfl #[.pointer (some ⟨g,0,none⟩),.int .i64 2] rf rfl rfl (by simp only[mA,mB,mC];rfl) ?_
    with_reducible refine(wO D7.o.cu D7.o.bl 2 om).mono ?_
    rintro e W8 ⟨x,rfl,hx,hd⟩;refine⟨_,rfl,?_⟩;have hK:=hd.kp;have hT:=D7.o.cu.blk;have hL:=D7.o.lt;have R8:=A_ (kb R7.o hK (by have:=GR.o;omega));have S8:=A_ (kb S7.o hK (by have:=GS.o;omega));have N8:=A_ (kR N7.o hT hK d_);have O8:=A_ (kR O7.o hT hK d_);have D8:=A_ (D7.o.drew hd);clear hK hT hL hd D7 R7 S7 N7 O7;have HX:=A_ hx;clear hx;refine hK.out _ _ (bz2 S8.o) (fun aa=>?_);clear hK K;refine nm_ 40 ?_;refine pz_ 5 41 (mk_ 11 63) ?_
    refine oz_ 6 (mk_ 11 127) (fun K hK=>?_);refine wG Try.func50 K_ rfl #[.pointer (some ⟨g,0,none⟩),.int .i64 (wrap64 (2+x))] rf rfl rfl (by simp only[mA,mB,mC];rfl) ?_
    with_reducible refine(wO D8.o.cu D8.o.bl (wrap64 (2+x)) (by have:=HX.o;unfold wrap64;omega)).mono ?_
    rintro e W9 ⟨y,rfl,hy,hd⟩;refine⟨_,rfl,?_⟩;have hK:=hd.kp;have hT:=D8.o.cu.blk;have hL:=D8.o.lt;have R9:=A_ (kb R8.o hK (by have:=GR.o;omega));have S9:=A_ (kb S8.o hK (by have:=GS.o;omega));have N9:=A_ (kR N8.o hT hK d_);have O9:=A_ (kR O8.o hT hK d_);have D9:=A_ (D8.o.drew hd);clear hK hT hL hd D8 R8 S8 N8 O8 hy;refine hK.out _ _ (bz2 S9.o) (fun aa=>?_);clear hK K;refine nm_ 42 ?_
    refine oz_ 7 (mk_ 11 255) (fun K hK=>?_);refine yn (w1:=?_) (v:=?_) rf rfl ?_ ?_;rotate_left 2
    ·go_simp
     constructor
     ·rfl
     ·rfl
    refine hK.out _ _ ((pU (nP S9.o _) 2).trans rfl) (fun aa=>?_);clear hK K;refine nm_ 43 ?_
    refine oz_ 8 (mk_ 11 511) (fun K hK=>?_);refine DV (y:=y) rf (.tmp 37) (.tmp 43) rfl rfl rfl O9.o (fun _ _=>trivial) D9.o.kp.1 (by have:=HN.o;have:=EE.o.1.2;omega) ?_;rintro v8 aK ho hg hat;obtain⟨P,hP⟩:∃P,P=O++[y]:=⟨_,rfl⟩;rw[←hP]at ho;have EP:=A_ hP;obtain⟨A8,c8,e8⟩:=Kd.mU ho;subst e8;have aC:=A_ (qE R9.o hg (Kd.xu O9.o R9.o d_));have ak:=A_ (qE S9.o hg (Kd.xu O9.o S9.o d_));have aD:=A_ (Kd.mM (Kd.pq (ok:=fun _=>True) (Kd.mM N9.o (fun _ hk=>⟨trivial,hk⟩)) hg hat) (fun _ hk=>hk.2));have aF:=A_ ho;have aG:=A_ (D9.o.grow hg (Kd.nW O9.o));have af:=bw3 ak.o;clear hP ho hg hat D9 R9 S9 N9 O9;refine hK.out _ _ (bz2 ak.o) (fun aa=>?_);clear hK K;refine nm_ 44 ?_;refine pz_ 9 45 (mk_ 11 1023) ?_
    refine vI (i:=10) (N:=none) (mk_ 11 2047) rfl rfl K_ d_ (fun K hK=>?_);refine uI (w1:=?_) rf rfl ?_ ?_;rotate_left
    ·go_simp
     rfl
    refine hK.out _ _ ?_;clear hK K;refine sZ K_ ?_
    have hw:wrap64 ((i:Int)+1)=((i+1:Nat):Int):=by have:=HN.o;unfold wrap64;omega
    generalize hW:aK.setCell ⟨gS,2,none⟩ (.slice A8 P.length c8)=W
    have HD:=A_ (hW▸aG.o.set GS.o 2 _:Dn w0 w W g bs);have BR:=A_ (hW▸pQ aC.o NE.o _:W.heap[gR]? =_);have BS:=A_ (hW▸oN ak.o 2 _ rfl:W.heap[gS]? =some (.cells #[.int .i64 b,.slice A7 M.length c7,.slice A8 P.length c8] 27 (0,0)))
    have HS:=A_ (show SqR W w.heap.size (.slice A7 M.length c7) (.slice A8 P.length c8) b (i+1)from⟨M,P,hW▸Kd.y_ aD.o ak.o d_ 2 _,hW▸Kd.y_ aF.o ak.o d_ 2 _,by rw[EM.o,List.length_append,EE.o.1.1];rfl,by rw[EP.o,List.length_append,EE.o.1.2];rfl,fun x hx=>by
     rw[EM.o]at hx
     rcases List.mem_append.1 hx with h|h
     ·exact EE.o.2.1 x h
     ·rw[List.mem_singleton.1 h,EE.o.2.2];have:=HJ.o;omega⟩)
    clear hW aG aC ak aD aF af aa
    go_wp2
    go_roundg (n+1 - (i+1))
    case measure=>have:=HI.o;omega
    case rel=>exact⟨i+1,_,_,by first|rfl|rw[hw],om,Nat.le_refl _,HD,BR,BS,HS⟩
theorem SqR.forms {W:World} {B b n:Nat} {v1 v2:Value} (h:SqR W B v1 v2 b n):∃n1 A1 c1,v1=.slice A1 n1 c1∧∃n2 A2 c2,v2=.slice A2 n2 c2:=by
 obtain⟨N,O,h1,h2,_⟩:=h;obtain⟨A1,c1,e1⟩:=Kd.mU h1;obtain⟨A2,c2,e2⟩:=Kd.mU h2;exact⟨_,_,_,e1,_,_,_,e2⟩
theorem Cv.dr (g:Nat) (bs:List Int) (w0 w:World) (hC:Cu w0 w g bs) (hB:Below w0.heap.size w0 w):Calls Try.prog 61 #[.pointer (some ⟨g,0,none⟩)] w fun e w'=>∃v1 v2:Value,∃b n:Nat,e=.returned (.agg #[.int .i64 b,v1,v2])∧SqR w' w.heap.size v1 v2 b n∧Dn w0 w w' g bs∧(2≤b∧b≤3)∧1≤n∧n≤5:=by
 have av:=Try.underlying27;have HD:=A_ (Dn.start hC hB);clear hC hB;go_enter Try.func61,Try.ntmps61
 go_upto_if 7 with(first|((with_reducible refine gt_ 2 ?_);refine be_ 2 #[.int .i64 0,.slice none 0 0,.slice none 0 0] 27 ?_;intro gR hg aA J hb;have BR:=A_ J;have GR:=A_ ((by rw[hg];exact HD.o.kp.1):w.heap.size≤gR);replace HD:=A_ (HD.o.below hb);have qR:=bw3 BR.o;clear hb J hg)|(go_at_call 60;(with_reducible refine(JU HD.o.cu HD.o.bl 3 om).mono ?_);rintro e W1 ⟨x,rfl,hd⟩;have hK:=hd.kp;have hL:=HD.o.lt;replace BR:=A_ (kb BR.o hK (by have:=GR.o;omega));replace HD:=A_ (HD.o.drew hd);clear qR;have qR:=bw3 BR.o;clear hd hK hL))
 cases x
 ·go_wp2_with (first|(go_at_call 50;(with_reducible refine(wO HD.o.cu HD.o.bl 2 om).mono ?_);rintro e W2 ⟨x,rfl,hx,hd⟩;have hK:=hd.kp;have hL:=HD.o.lt;replace BR:=A_ (kb BR.o hK (by have:=GR.o;omega));replace HD:=A_ (HD.o.drew hd);obtain⟨b,hw2,hb2⟩:∃b:Nat,wrap64 (2+x)=(b:Int)∧(2≤b∧b≤3):=⟨(2+x).toNat,by unfold wrap64;omega,om⟩;have aH:=A_ hb2;clear hb2;clear qR;have qR:=bw3 BR.o;clear hx hd hK hL)|(go_at_call 50;(with_reducible refine(wO HD.o.cu HD.o.bl 5 om).mono ?_);rintro e W3 ⟨y,rfl,hy,hd⟩;have hK:=hd.kp;have hL:=HD.o.lt;replace BR:=A_ (kb BR.o hK (by have:=GR.o;omega));replace HD:=A_ (HD.o.drew hd);obtain⟨n,hw3,au⟩:∃n:Nat,wrap64 (1+y)=(n:Int)∧(1≤n∧n≤5):=⟨(1+y).toNat,by unfold wrap64;omega,om⟩;have aI:=A_ au;clear au;clear qR;have qR:=bw3 BR.o;clear hy hd hK hL)|(go_at_call 75;(with_reducible refine(EI.dr g bs b n w0 _ (by have:=aH.o;omega) (by have:=aI.o;omega) HD.o.cu HD.o.bl).mono ?_);rintro e W4 ⟨v1,v2,rfl,hs,hd⟩;obtain⟨n1,A1,c1,rfl,n2,A2,c2,rfl⟩:=hs.forms;have HS:=A_ (hs.lower HD.o.kp.1);have hK:=hd.kp;have hL:=HD.o.lt;replace BR:=A_ (kb BR.o hK (by have:=GR.o;omega));replace HD:=A_ (HD.o.drew hd);clear qR;have qR:=bw3 BR.o;clear hs hd hK hL))
  have HX:=A_ (And.intro aH.o aI.o);refine rs_ #[.int .i64 b,.slice A1 n1 c1,.slice A2 n2 c2] (by exact(uN BR.o).2.2) Try.underlying27 ?_;exact⟨_,_,b,n,rfl,HS.o.uN BR.o,((HD.o.set GR.o 0 _).set GR.o 1 _).set GR.o 2 _,HX.o⟩
 ·go_upto_region 3 with(first|((with_reducible refine gt_ 10 ?_);refine mkL (enc:=Value.string) (h1:=fun _=>rfl) 9 nm6 ?hg (N:=10) ?hd ?hr d_ ?_;(case hd|hg=>rfl);(case hr=>(go_simp;exact⟨rfl,rfl⟩));rintro ab W2 ho hb;obtain⟨A,c,ae⟩:=Kd.mU ho;subst ae;obtain⟨f1,f2,_,f3⟩:=zL ho HD.o.cu.lt;have HF:=A_ (show Kd.C Kd.string _ A nm6.length nm6∧nm6.length≤c∧_ from And.intro f1 (And.intro f2 f3));replace HD:=A_ (HD.o.below hb);replace BR:=bb_ BR hb;clear qR;have qR:=bw3 BR.o;clear ho hb f1 f2 f3)|(go_at_call 74;(with_reducible refine(Oz HD.o.cu HD.o.bl A c nm6 d_ HF.o.1 HF.o.2.1 HF.o.2.2).mono ?_);rintro e W3 ⟨s,rfl,hs,hd⟩;have HM:=A_ (Od s hs);have hK:=hd.kp;have hL:=HD.o.lt;replace BR:=A_ (kb BR.o hK (by have:=GR.o;omega));replace HD:=A_ (HD.o.drew hd);clear qR;have qR:=bw3 BR.o;clear hs hd hK hL)|(go_at_call 73;(with_reducible refine(Az.dr s _ HM.o).mono ?_);rintro e W4 ⟨v1,v2,b,n,r4,rfl,hs,hb,hx⟩;obtain⟨n1,A1,c1,rfl,n2,A2,c2,rfl⟩:=hs.forms;have HX:=A_ hx;have HS:=A_ (hs.lower HD.o.kp.1);replace HD:=A_ (HD.o.below hb);replace BR:=bb_ BR hb;clear qR;have qR:=bw3 BR.o;clear hs hb hx)|((with_reducible refine gt_ 3 ?_);refine be_ 3 #[.int .i64 0,.slice none 0 0,.slice none 0 0] 27 ?_;intro gS hg ax J hb;have NE:=A_ ((by rw[hg];exact Nat.ne_of_lt (pY BR.o)):gR≠gS);have BS:=A_ J;have GS:=A_ ((by rw[hg];exact HD.o.kp.1):w.heap.size≤gS);replace HD:=A_ (HD.o.below hb);replace BR:=bb_ BR hb;replace HS:=A_ (HS.o.below hb);clear qR;have qR:=bw3 BR.o;have qS:=bw3 BS.o;clear hb J hg))
  clear qR qS
  generalize hW:((ax.setCell ⟨gS,0,none⟩ (.int .i64 b)).setCell ⟨gS,1,none⟩ (.slice A1 n1 c1)).setCell ⟨gS,2,none⟩ (.slice A2 n2 c2)=W6
  replace HS:=A_ (hW▸HS.o.uN BS.o:SqR W6 w.heap.size _ _ b n);replace HD:=A_ (hW▸((HD.o.set GS.o 0 _).set GS.o 1 _).set GS.o 2 _:Dn w0 w W6 g bs);replace BR:=A_ (hW▸pQ (pQ (pQ BR.o NE.o _) NE.o _) NE.o _:W6.heap[gR]? =_);replace BS:=A_ (hW▸(uN BS.o).2.2:W6.heap[gS]? =some (.cells #[.int .i64 b,.slice A1 n1 c1,.slice A2 n2 c2] 27 (0,0)));clear hW;have qR:=bw3 BR.o;have qS:=bw3 BS.o
  go_wp2
  refine rs_ #[.int .i64 b,.slice A1 n1 c1,.slice A2 n2 c2] (by exact(uN BR.o).2.2) Try.underlying27 ?_;exact⟨_,_,b,n,rfl,HS.o.uN BR.o,((HD.o.set GR.o 0 _).set GR.o 1 _).set GR.o 2 _,HX.o⟩
theorem IJ.dr (g:Nat) (bs:List Int) (w0 w:World) (hC:Cu w0 w g bs) (hB:Below w0.heap.size w0 w):Calls Try.prog 49 #[.pointer (some ⟨g,0,none⟩)] w fun e w'=>∃v1 v2:Value,∃b:Int,∃bb n:Nat,e=.returned (.agg #[.int .i64 b,v1,v2])∧SqR w' w.heap.size v1 v2 bb n∧Dn w0 w w' g bs∧bb≤3∧n≤5:=by
 have av:=Try.underlying27;have HD:=A_ (Dn.start hC hB);clear hC hB;go_enter Try.func49,Try.ntmps49
 go_upto_region 2 with(first|((with_reducible refine gt_ 2 ?_);refine be_ 2 #[.int .i64 0,.slice none 0 0,.slice none 0 0] 27 ?_;intro gR hg aA J hb;have BR:=A_ J;have GR:=A_ ((by rw[hg];exact HD.o.kp.1):w.heap.size≤gR);replace HD:=A_ (HD.o.below hb);have qR:=bw3 BR.o;clear hb J hg)|(go_at_call 61;(with_reducible refine(Cv.dr g bs w0 _ HD.o.cu HD.o.bl).mono ?_);rintro e W1 ⟨v1,v2,b0,n,rfl,hs,hd,hx⟩;obtain⟨n1,A1,c1,rfl,n2,A2,c2,rfl⟩:=hs.forms;have HX:=A_ hx;have HS:=A_ (hs.lower HD.o.kp.1);have hK:=hd.kp;have hL:=HD.o.lt;replace BR:=A_ (kb BR.o hK (by have:=GR.o;omega));replace HD:=A_ (HD.o.drew hd);clear qR;have qR:=bw3 BR.o;clear hs hd hx hK hL)|((with_reducible refine gt_ 3 ?_);refine be_ 3 #[.int .i64 0,.slice none 0 0,.slice none 0 0] 27 ?_;intro gS hg ax J hb;have NE:=A_ ((by rw[hg];exact Nat.ne_of_lt (pY BR.o)):gR≠gS);have BS:=A_ J;have GS:=A_ ((by rw[hg];exact HD.o.kp.1):w.heap.size≤gS);replace HD:=A_ (HD.o.below hb);replace BR:=bb_ BR hb;replace HS:=A_ (HS.o.below hb);clear qR;have qS:=bw3 BS.o;clear hb J hg))
 clear qS
 generalize hW:((ax.setCell ⟨gS,0,none⟩ (.int .i64 b0)).setCell ⟨gS,1,none⟩ (.slice A1 n1 c1)).setCell ⟨gS,2,none⟩ (.slice A2 n2 c2)=W6
 obtain⟨bb,hbb⟩:∃bb,bb=b0:=⟨_,rfl⟩;rw[←hbb]at HS HX;replace HS:=A_ (hW▸HS.o.uN BS.o:SqR W6 w.heap.size (.slice A1 n1 c1) (.slice A2 n2 c2) bb n);replace HD:=A_ (hW▸((HD.o.set GS.o 0 _).set GS.o 1 _).set GS.o 2 _:Dn w0 w W6 g bs);replace BR:=A_ (hW▸pQ (pQ (pQ BR.o NE.o _) NE.o _) NE.o _:W6.heap[gR]? =_);replace BS:=A_ (hW▸(uN BS.o).2.2:W6.heap[gS]? =some (.cells #[.int .i64 b0,.slice A1 n1 c1,.slice A2 n2 c2] 27 (0,0)));clear hW hbb
 go_upto_region 3 with(go_at_call 50;(with_reducible refine(wO HD.o.cu HD.o.bl 16 om).mono ?_);rintro e W7 ⟨r,rfl,hr,hd⟩;clear hr;have hK:=hd.kp;have hT:=HD.o.cu.blk;have hL:=HD.o.lt;replace BR:=A_ (kb BR.o hK (by have:=GR.o;omega));replace BS:=A_ (kb BS.o hK (by have:=GS.o;omega));replace HS:=A_ (HS.o.keep hT hK d_);replace HD:=A_ (HD.o.drew hd);clear hd hK hT hL)
 by_cases h0:r=0
 ·have c0:(r==0)=true:=beq_iff_eq.2 h0
  go_upto_region 9 with(first|((with_reducible refine gt_ 11 ?_);refine mkL (enc:=Value.int .i64) (h1:=fun _=>rfl) 3 [0,1,5,3] ?hg (N:=11) ?hd ?hr d_ ?_;(case hg=>rfl);(case hd=>rfl);(case hr=>go_simp;done);rintro ag Wl ho hb;obtain⟨L,eL⟩:∃L:List Int,L=[0,1,5,3]:=⟨_,rfl⟩;rw[←eL]at ho;have hl2:1≤L.length∧L.length≤256:=(by rw[eL];decide);clear eL;obtain⟨A,c,ev⟩:=Kd.mU ho;subst ev;obtain⟨f1,f2,_,f3⟩:=zL ho HD.o.cu.lt;have HF:=A_ (show Kd.C K1 _ A L.length L∧L.length≤c∧(∀ad,A=some ad→0<L.length→ad.block≠g)∧_ from⟨f1,f2,f3,hl2⟩);replace HD:=A_ (HD.o.below hb);replace BR:=bb_ BR hb;replace BS:=bb_ BS hb;replace HS:=A_ (HS.o.below hb);clear ho hb f1 f2 f3 hl2)|(go_at_call 51;(with_reducible refine(H9 HD.o.cu HD.o.bl A c L HF.o.2.2.2 HF.o.1 HF.o.2.1 HF.o.2.2.1).mono ?_);rintro e W8 ⟨y,rfl,hy,hd⟩;clear hy;have hK:=hd.kp;have hT:=HD.o.cu.blk;have hL:=HD.o.lt;replace BR:=A_ (kb BR.o hK (by have:=GR.o;omega));replace BS:=A_ (kb BS.o hK (by have:=GS.o;omega));replace HS:=A_ (HS.o.keep hT hK d_);replace HD:=A_ (HD.o.drew hd);clear hd hK hT hL;have qS:=bw3 BS.o))
  generalize hW:W8.setCell ⟨gS,0,none⟩ (.int .i64 y)=W9
  replace HS:=A_ (hW▸HS.o.set BS.o 0 _:SqR W9 w.heap.size (.slice A1 n1 c1) (.slice A2 n2 c2) bb n);replace HD:=A_ (hW▸HD.o.set GS.o 0 _:Dn w0 w W9 g bs);replace BR:=A_ (hW▸pQ BR.o NE.o _:W9.heap[gR]? =_);replace BS:=A_ (hW▸(uN (b:=.int .i64 0) (c:=.int .i64 0) BS.o).1:W9.heap[gS]? =some (.cells #[.int .i64 y,.slice A1 n1 c1,.slice A2 n2 c2] 27 (0,0)));clear hW qS;have qR:=bw3 BR.o;have qS:=bw3 BS.o
  go_wp2
  refine rs_ #[.int .i64 y,.slice A1 n1 c1,.slice A2 n2 c2] (by exact(uN BR.o).2.2) Try.underlying27 ?_;have hE:=And.intro (HS.o.uN (p:=.int .i64 y) (q:=.slice A1 n1 c1) (r:=.slice A2 n2 c2) BR.o) (And.intro (((HD.o.set GR.o 0 (.int .i64 y)).set GR.o 1 (.slice A1 n1 c1)).set GR.o 2 (.slice A2 n2 c2)) (And.intro HX.o.1.2 HX.o.2.2))
  first|exact⟨_,_,(y:Int),bb,n,rfl,hE⟩|exact⟨_,_,⟨_,rfl⟩,bb,n,hE⟩
 ·have c0:(r==0)=false:=beq_eq_false_iff_ne.2 h0
  by_cases h1:r=1
  ·have c1':(r==1)=true:=beq_iff_eq.2 h1
   obtain⟨g2,u2,rfl,hn2,_,_,_,_,_⟩:=HS.o.Pw (by have:=HX.o;omega)
   have az:=eq_true hn2
   go_upto_region 6 with fail
   try go_wp2
   replace HD:=A_ (HD.o.below (qw (Below.refl _ _)));replace BR:=A_ (nQ BR.o);replace BS:=A_ (nQ BS.o);replace HS:=A_ (HS.o.below (qw (Below.refl _ _)));refine rM (n:=7) (S:=fun w'=>w'.cell? ⟨gS,2,none⟩=some (.slice (some ⟨g2,0,none⟩) n2 c2)) (ds:=[6]) (mk_ 7 0) K_ rfl rfl (bz2 BS.o) (fun aa=>?_);refine pz_ 0 16 (mk_ 7 1) ?_;refine pz_ 2 18 (mk_ 7 5) ?_
   refine Ea (i:=1) (N:=some 17) (v:=?_) (a':=?_) (mk_ 7 7) rfl rfl K_ (fun _ _ _ h=>h) (Or.inl ⟨rf,?_⟩) aa ?_ ?_;rotate_left
   ·intro w' s0
    go_simp;with_reducible rfl
   rotate_left
   ·simp only[Act.put,mD,mE,mF,uD,zn]
    rfl
   refine oz_ 3 (mk_ 7 15) (fun K hK=>?_);refine Bo (enc:=Value.int .i64) (h1:=fun _=>rfl) 3 ([-1,4]:List Int) ?hg (N:=19) ?hd ?hr d_ ?_;(case hg=>rfl);(case hd=>rfl);(case hr=>go_simp;done);rintro ah Wl ho hb;obtain⟨L,eL⟩:∃L:List Int,L=([-1,4]:List Int):=⟨_,rfl⟩;rw[←eL]at ho;have hl2:1≤L.length∧L.length≤256:=(by rw[eL];decide);clear eL;obtain⟨A,c,ev⟩:=Kd.mU ho;subst ev;obtain⟨f1,f2,_,f3⟩:=zL ho HD.o.cu.lt;have HF:=A_ (show Kd.C K1 _ A L.length L∧L.length≤c∧(∀ad,A=some ad→0<L.length→ad.block≠g)∧_ from⟨f1,f2,f3,hl2⟩);replace HD:=A_ (HD.o.below hb);replace BR:=bb_ BR hb;replace BS:=bb_ BS hb;replace HS:=A_ (HS.o.below hb);clear ho hb f1 f2 f3 hl2;refine hK.out _ _ (bz2 BS.o) (fun aa=>?_);clear hK K;refine nm_ 19 ?_
   refine oz_ 4 (mk_ 7 31) (fun K hK=>?_);refine wG Try.func51 K_ rfl #[.pointer (some ⟨g,0,none⟩),.slice A L.length c] rf rfl rfl (by simp only[mA,mB,mC];rfl) ?_
   with_reducible refine(H9 HD.o.cu HD.o.bl A c L HF.o.2.2.2 HF.o.1 HF.o.2.1 HF.o.2.2.1).mono ?_
   rintro e W8 ⟨y,rfl,hy,hd⟩;refine⟨_,rfl,?_⟩;clear hy;have hK:=hd.kp;have hT:=HD.o.cu.blk;have hL:=HD.o.lt;replace BR:=A_ (kb BR.o hK (by have:=GR.o;omega));replace BS:=A_ (kb BS.o hK (by have:=GS.o;omega));replace HS:=A_ (HS.o.keep hT hK d_);replace HD:=A_ (HD.o.drew hd);clear hd hK hT hL;refine hK.out _ _ (bz2 BS.o) (fun aa=>?_);clear hK K;refine nm_ 20 ?_;refine pz_ 5 21 (mk_ 7 63) ?_
   refine vI (i:=6) (N:=none) (mk_ 7 127) rfl rfl K_ d_ (fun K hK=>?_);obtain⟨g3,u3,ee,au,hc3,hf3,⟨aL,U⟩,hg3,aj⟩:=HS.o.Pw (by have:=HX.o;omega)
   cases ee
   refine uI (w1:=?_) rf rfl ?_ ?_;rotate_left
   ·go_simp
    rfl
   refine hK.out _ _ ?_;clear hK K;refine sZ K_ ?_;have NR:=uX BR.o U d_;have NS:=uX BS.o U d_
   generalize hW:W8.setCell ⟨g2,0,none⟩ (.int .i64 y)=W9
   replace HS:=A_ (hW▸aj y:SqR W9 w.heap.size _ _ bb n);replace HD:=A_ (hW▸HD.o.set hg3 0 _:Dn w0 w W9 g bs);replace BR:=A_ (hW▸pQ BR.o NR _:W9.heap[gR]? =_);replace BS:=A_ (hW▸pQ BS.o NS _:W9.heap[gS]? =_);clear hW aj hg3 U hf3 hc3 au NR NS hn2 az aa;have qR:=bw3 BR.o;have qS:=bw3 BS.o
   go_wp2
   refine rs_ #[.int .i64 b0,.slice A1 n1 c1,.slice (some ⟨g2,0,none⟩) n2 c2] (by exact(uN BR.o).2.2) Try.underlying27 ?_;have hE:=And.intro (HS.o.uN (p:=.int .i64 b0) (q:=.slice A1 n1 c1) (r:=.slice (some ⟨g2,0,none⟩) n2 c2) BR.o) (And.intro (((HD.o.set GR.o 0 (.int .i64 b0)).set GR.o 1 (.slice A1 n1 c1)).set GR.o 2 (.slice (some ⟨g2,0,none⟩) n2 c2)) (And.intro HX.o.1.2 HX.o.2.2))
   first|exact⟨_,_,(b0:Int),bb,n,rfl,hE⟩|exact⟨_,_,⟨_,rfl⟩,bb,n,hE⟩
  ·have c1':(r==1)=false:=beq_eq_false_iff_ne.2 h1
   by_cases h2:r=2
   rotate_left
   ·have c2':(r==2)=false:=beq_eq_false_iff_ne.2 h2
    have qR:=bw3 BR.o;have qS:=bw3 BS.o
    go_wp2
    refine rs_ #[.int .i64 b0,.slice A1 n1 c1,.slice A2 n2 c2] (by exact(uN BR.o).2.2) Try.underlying27 ?_;have hE:=And.intro (HS.o.uN (p:=.int .i64 b0) (q:=.slice A1 n1 c1) (r:=.slice A2 n2 c2) BR.o) (And.intro (((HD.o.set GR.o 0 (.int .i64 b0)).set GR.o 1 (.slice A1 n1 c1)).set GR.o 2 (.slice A2 n2 c2)) (And.intro HX.o.1.2 HX.o.2.2))
    first|exact⟨_,_,(b0:Int),bb,n,rfl,hE⟩|exact⟨_,_,⟨_,rfl⟩,bb,n,hE⟩
   have c2':(r==2)=true:=beq_iff_eq.2 h2
   obtain⟨g1,g0,m,c0,u0,rfl,hn1,hc1,hm,_,_,_,_,_⟩:=HS.o.row0 (by have:=HX.o;omega) (by have:=HX.o;omega);have HC:=A_ hc1
   have hn1':=eq_true hn1
   have hm':=eq_true hm
   clear hc1
   go_upto_region 8 with fail
   try go_wp2
   replace HD:=A_ (HD.o.below (qw (Below.refl _ _)));replace BR:=A_ (nQ BR.o);replace BS:=A_ (nQ BS.o);replace HS:=A_ (HS.o.below (qw (Below.refl _ _)));replace HC:=A_ ((qw (Below.refl _ _)).cell (World.block_lt_of_cell? _ _ HC.o) |>.trans HC.o);refine rM (n:=9) (S:=fun w'=>w'.cell? ⟨gS,1,none⟩=some (.slice (some ⟨g1,0,none⟩) n1 c1)∧w'.cell? ⟨g1,0,none⟩=some (.slice (some ⟨g0,0,none⟩) m c0)) (ds:=[8]) (mk_ 9 0) K_ rfl rfl ⟨bz1 BS.o,HC.o⟩ (fun aa=>?_);refine pz_ 0 24 (mk_ 9 1) ?_;refine pz_ 4 28 (mk_ 9 17) ?_;refine tz_ 1 25 (mk_ 9 19) aa ?_;refine pz_ 2 26 (mk_ 9 23) ?_;refine tz_ 3 27 (mk_ 9 31) aa ?_
   refine oz_ 5 (mk_ 9 63) (fun K hK=>?_);refine Bo (enc:=Value.int .i64) (h1:=fun _=>rfl) 3 ([-1,9,16]:List Int) ?hg (N:=29) ?hd ?hr d_ ?_;(case hg=>rfl);(case hd=>rfl);(case hr=>go_simp;done);rintro ai Wl ho hb;obtain⟨L,eL⟩:∃L:List Int,L=([-1,9,16]:List Int):=⟨_,rfl⟩;rw[←eL]at ho;have hl2:1≤L.length∧L.length≤256:=(by rw[eL];decide);clear eL;obtain⟨A,c,ev⟩:=Kd.mU ho;subst ev;obtain⟨f1,f2,_,f3⟩:=zL ho HD.o.cu.lt;have HF:=A_ (show Kd.C K1 _ A L.length L∧L.length≤c∧(∀ad,A=some ad→0<L.length→ad.block≠g)∧_ from⟨f1,f2,f3,hl2⟩);replace HD:=A_ (HD.o.below hb);replace BR:=bb_ BR hb;replace BS:=bb_ BS hb;replace HS:=A_ (HS.o.below hb);replace HC:=A_ ((hb.cell (World.block_lt_of_cell? _ _ HC.o)).trans HC.o);clear ho hb f1 f2 f3 hl2;refine hK.out _ _ ⟨bz1 BS.o,HC.o⟩ (fun aa=>?_);clear hK K;refine nm_ 29 ?_
   refine oz_ 6 (mk_ 9 127) (fun K hK=>?_);refine wG Try.func51 K_ rfl #[.pointer (some ⟨g,0,none⟩),.slice A L.length c] rf rfl rfl (by simp only[mA,mB,mC];rfl) ?_
   with_reducible refine(H9 HD.o.cu HD.o.bl A c L HF.o.2.2.2 HF.o.1 HF.o.2.1 HF.o.2.2.1).mono ?_
   rintro e W8 ⟨y,rfl,hy,hd⟩;refine⟨_,rfl,?_⟩;clear hy;have hK:=hd.kp;have hT:=HD.o.cu.blk;have hL:=HD.o.lt;have h4:=Kr HC.o hK (by have:=HS.o.Pq;omega);replace HC:=A_ h4;clear h4;replace BR:=A_ (kb BR.o hK (by have:=GR.o;omega));replace BS:=A_ (kb BS.o hK (by have:=GS.o;omega));replace HS:=A_ (HS.o.keep hT hK d_);replace HD:=A_ (HD.o.drew hd);clear hd hK hT hL;refine hK.out _ _ ⟨bz1 BS.o,HC.o⟩ (fun aa=>?_);clear hK K;refine nm_ 30 ?_;refine pz_ 7 31 (mk_ 9 255) ?_
   refine vI (i:=8) (N:=none) (mk_ 9 511) rfl rfl K_ d_ (fun K hK=>?_);obtain⟨g4,g3,m3,c3,u3,ee,au,hc1,_,hc3,hf3,⟨aL,U⟩,hg3,aj⟩:=HS.o.row0 (by have:=HX.o;omega) (by have:=HX.o;omega)
   cases ee
   cases hc1.symm.trans HC.o
   clear hc1;refine uI (w1:=?_) rf rfl ?_ ?_;rotate_left
   ·go_simp
    rfl
   refine hK.out _ _ ?_;clear hK K;refine sZ K_ ?_;have NR:=uX BR.o U d_;have NS:=uX BS.o U d_
   generalize hW:W8.setCell ⟨g0,0,none⟩ (.int .i64 y)=W9
   replace HS:=A_ (hW▸aj y:SqR W9 w.heap.size _ _ bb n);replace HD:=A_ (hW▸HD.o.set hg3 0 _:Dn w0 w W9 g bs);replace BR:=A_ (hW▸pQ BR.o NR _:W9.heap[gR]? =_);replace BS:=A_ (hW▸pQ BS.o NS _:W9.heap[gS]? =_);clear hW aj hg3 U hf3 hc3 au NR NS hn1 hn1' hm hm' HC aa;have qR:=bw3 BR.o;have qS:=bw3 BS.o
   go_wp2
   refine rs_ #[.int .i64 b0,.slice (some ⟨g1,0,none⟩) n1 c1,.slice A2 n2 c2] (by exact(uN BR.o).2.2) Try.underlying27 ?_;have hE:=And.intro (HS.o.uN (p:=.int .i64 b0) (q:=.slice (some ⟨g1,0,none⟩) n1 c1) (r:=.slice A2 n2 c2) BR.o) (And.intro (((HD.o.set GR.o 0 (.int .i64 b0)).set GR.o 1 (.slice (some ⟨g1,0,none⟩) n1 c1)).set GR.o 2 (.slice A2 n2 c2)) (And.intro HX.o.1.2 HX.o.2.2))
   first|exact⟨_,_,(b0:Int),bb,n,rfl,hE⟩|exact⟨_,_,⟨_,rfl⟩,bb,n,hE⟩
def LnB (W:World) (B:Nat) (v1 v2 v3:Value):Prop:=∃r M c,Kd.R K1 3 W B (fun _=>True) v1 r∧Kd.R K3 24 W B (fun _=>True) v2 M∧Kd.R K1 3 W B (fun _=>True) v3 c∧r.length≤64∧c.length≤64∧M.length≤64∧∀x∈M,x.length≤64∧∀y∈x,y.length≤64
def MM:Prop:=∀ (b:Int) (N:List (List Int)) (O:List Int) (v:Int),N.length≤64→(∀r∈N,r.length≤64)→O.length≤64→∃k r1 r2 r3 r4 r5,mJ.f k b N O v=some (r1,r2,r3,r4,r5)∧r2.length≤64∧r4.length≤64∧r3.length≤64∧∀x∈r3,x.length≤64∧∀y∈x,y.length≤64
section
variable {W W1:World} {B g gs t:Nat} {v1 v2 v3:Value}
theorem LnB.below (h:LnB W B v1 v2 v3) (hb:Below W.heap.size W W1):LnB W1 B v1 v2 v3:=by
 obtain⟨r,M,c,h1,h2,h3,hx⟩:=h;exact⟨r,M,c,Kd.nX h1 hb,Kd.nX h2 hb,Kd.nX h3 hb,hx⟩
theorem LnB.lower (h:LnB W B v1 v2 v3) {B':Nat} (hb:B'≤B):LnB W B' v1 v2 v3:=by
 obtain⟨r,M,c,h1,h2,h3,hx⟩:=h;exact⟨r,M,c,Kd.nE h1 hb,Kd.nE h2 hb,Kd.nE h3 hb,hx⟩
theorem LnB.keep (h:LnB W B v1 v2 v3) (hc:∃cs,W.heap[g]? =some (.cells cs t (0,0))) (hk:oF W W1 g none) (ht:∀q,q∈[24,25,3]→q≠t):LnB W1 B v1 v2 v3:=by
 obtain⟨r,M,c,h1,h2,h3,hx⟩:=h;exact⟨r,M,c,kR h1 hc hk (fun q hq=>ht q (.tail _ (.tail _ hq))),kR h2 hc hk ht,kR h3 hc hk (fun q hq=>ht q (.tail _ (.tail _ hq))),hx⟩
theorem LnB.set (h:LnB W B v1 v2 v3) {cs:Array Value} (hc:W.heap[gs]? =some (.cells cs 33 (0,0))) (j:Nat) (u:Value):LnB (W.setCell ⟨gs,j,none⟩ u) B v1 v2 v3:=by
 obtain⟨r,M,c,h1,h2,h3,hx⟩:=h;exact⟨r,M,c,Kd.y_ h1 hc d_ j u,Kd.y_ h2 hc d_ j u,Kd.y_ h3 hc d_ j u,hx⟩
theorem LnB.forms (h:LnB W B v1 v2 v3):∃n1 A1 c1,v1=.slice A1 n1 c1∧∃n2 A2 c2,v2=.slice A2 n2 c2∧∃n3 A3 c3,v3=.slice A3 n3 c3:=by
 obtain⟨r,M,c,h1,h2,h3,_⟩:=h;obtain⟨A1,c1,e1⟩:=Kd.mU h1;obtain⟨A2,c2,e2⟩:=Kd.mU h2;obtain⟨A3,c3,e3⟩:=Kd.mU h3;exact⟨_,_,_,e1,_,_,_,e2,_,_,_,e3⟩
theorem tF {x y z u a b c d:Value} {t:Nat} (h:W.heap[gs]? =some (.cells #[x,y,z,u] t (0,0))):(W.setCell ⟨gs,0,none⟩ a).heap[gs]? =some (.cells #[a,y,z,u] t (0,0))∧((W.setCell ⟨gs,0,none⟩ a).setCell ⟨gs,1,none⟩ b).heap[gs]? =some (.cells #[a,b,z,u] t (0,0))∧(((W.setCell ⟨gs,0,none⟩ a).setCell ⟨gs,1,none⟩ b).setCell ⟨gs,2,none⟩ c).heap[gs]? =some (.cells #[a,b,c,u] t (0,0))∧((((W.setCell ⟨gs,0,none⟩ a).setCell ⟨gs,1,none⟩ b).setCell ⟨gs,2,none⟩ c).setCell ⟨gs,3,none⟩ d).heap[gs]? =some (.cells #[a,b,c,d] t (0,0)):=
 ⟨oN h 0 _ rfl,oN (oN h 0 _ rfl) 1 _ rfl,oN (oN (oN h 0 _ rfl) 1 _ rfl) 2 _ rfl,oN (oN (oN (oN h 0 _ rfl) 1 _ rfl) 2 _ rfl) 3 _ rfl⟩
theorem LnB.tF (h:LnB W B v1 v2 v3) {x y z u a b c d:Value} (hc:W.heap[gs]? =some (.cells #[x,y,z,u] 33 (0,0))):LnB ((((W.setCell ⟨gs,0,none⟩ a).setCell ⟨gs,1,none⟩ b).setCell ⟨gs,2,none⟩ c).setCell ⟨gs,3,none⟩ d) B v1 v2 v3:=by
 obtain⟨h1,h2,h3,_⟩:=PFnLinear.tF (a:=a) (b:=b) (c:=c) (d:=d) hc;exact(((h.set hc 0 a).set h1 1 b).set h2 2 c).set h3 3 d
theorem F8 {a b c d:Value} (k:Nat) (hk:k≠gs):((((W.setCell ⟨gs,0,none⟩ a).setCell ⟨gs,1,none⟩ b).setCell ⟨gs,2,none⟩ c).setCell ⟨gs,3,none⟩ d).heap[k]? =W.heap[k]?:=by
 rw[Below.heap_setCell _ _ _ _ hk,Below.heap_setCell _ _ _ _ hk,Below.heap_setCell _ _ _ _ hk,Below.heap_setCell _ _ _ _ hk]
theorem Dn.tF {w0 w:World} {bs:List Int} (h:Dn w0 w W g bs) (hs:w.heap.size≤gs) (a b c d:Value):Dn w0 w ((((W.setCell ⟨gs,0,none⟩ a).setCell ⟨gs,1,none⟩ b).setCell ⟨gs,2,none⟩ c).setCell ⟨gs,3,none⟩ d) g bs:=(((h.set hs 0 a).set hs 1 b).set hs 2 c).set hs 3 d
theorem LnB.row0 {n1 c1:Nat} {A1:Option Addr} (h:LnB W B (.slice A1 n1 c1) v2 v3) (hn:0<n1):∃g0 u,A1=some ⟨g0,0,none⟩∧W.cell? ⟨g0,0,none⟩=some u∧W.frozen? ⟨g0,0,none⟩=false∧(∃cs,W.heap[g0]? =some (.cells cs 3 (0,0)))∧B≤g0∧∀x:Int,LnB (W.setCell ⟨g0,0,none⟩ (.int .i64 x)) B (.slice A1 n1 c1) v2 v3:=by
 obtain⟨r,M,c,h1,h2,h3,e1,e2,e3,e4⟩:=h;have hl:=(Kd.mX h1).1;obtain⟨g0,cap,he,hb,_,cs,hcs⟩:=Kd.sj h1 om
 injection he with hA _ hc
 subst hA hl hc;have hcell:=Kd.Dr (0:Int) h1 0 om om;refine⟨g0,_,rfl,hcell.1,hcell.2,⟨cs,hcs⟩,hb,fun x=>?_⟩;obtain⟨M',m1,m2,m3⟩:=st3 hcs x h2;obtain⟨c',k1,k2⟩:=st1 h3 hcs x;refine⟨r.set 0 x,M',c',(Kd.EZ h1 0 x).1,m1,k1,by simpa using e1,om,om,fun y hy=>?_⟩;obtain⟨z,hz,f1,f2⟩:=m3 y hy;refine⟨by rw[f1];exact(e4 z hz).1,fun p hp=>?_⟩;obtain⟨q,hq,f3⟩:=f2 p hp;rw[f3];exact(e4 z hz).2 q hq
end
theorem LF (l:List Int) (hl:l.length≤1048576) (d:Nat):∀ (i:Nat) (h:Int),i+d=l.length→∃r,tN.l0 (d+1) l h (i:Int)=some (l,0,r):=by
 induction d with
 |zero=>
  intro i h hi;unfold tN.l0;rw[if_neg om];exact⟨_,rfl⟩
 |succ d ih=>
  intro i h hi
  have hw:wrap64 ((i:Int)+1)=((i+1:Nat):Int):=by unfold wrap64;omega
  unfold tN.l0;rw[if_pos om]
  by_cases h4:(i:Int)<4000
  ·rw[if_pos h4,if_pos om,hw]
   exact ih (i+1) _ om
  ·rw[if_neg h4]
   exact⟨_,rfl⟩
theorem Ou (A:Option Addr) (c:Nat) (l:List Int) (w0 w:World) (hB:Below w0.heap.size w0 w) (hr:Kd.C (Kd.int .u8) w0 A l.length l) (hc:l.length≤c) (hl:l.length≤1048576):Calls Try.prog 43 #[.slice A l.length c] w fun e w'=>∃g:Nat,e=.returned (.pointer (some ⟨g,0,none⟩))∧Cu w0 w' g l∧Below w0.heap.size w0 w'∧Below w.heap.size w w':=by
 obtain⟨r,hr2⟩:=LF l hl l.length 0 (wrap64 (10101+(l.length:Int))) om;exact(tN.calls (l.length+1) A c l l 0 r w0 w hB hr hc hr2).mono fun e w' ⟨g,he,hI,hB,hb⟩=>⟨g,he,⟨0,r,hI,Int.le_refl _,hl⟩,hB,hb⟩
theorem AQ.dr (A0:Option Addr) (c0:Nat) (l:List Int) (w:World) (hr:Kd.C (Kd.int .u8) w A0 l.length l) (hc:l.length≤c0) (hl:l.length≤1048576):Calls Try.prog 26 #[.slice A0 l.length c0] w fun e w'=>∃v1 v2:Value,∃b v m:Int,∃bb n:Nat,e=.returned (.tuple #[.agg #[.int .i64 b,v1,v2],.int .i64 v,.int .i64 m])∧SqR w' w.heap.size v1 v2 bb n∧Below w.heap.size w w'∧bb≤3∧n≤5:=by
 have af:=Try.underlying27;have HB:=A_ (Below.refl w.heap.size w);have HC:=A_ hr;have HL:=A_ (And.intro hc hl);clear hr hc hl;go_enter Try.func26,Try.ntmps26
 go_upto_region 3 with(first|((with_reducible refine gt_ 2 ?_);refine be_ 2 #[.int .i64 0,.slice none 0 0,.slice none 0 0] 27 ?_;intro gR hg ah J hb;have BR:=A_ J;have GR:=A_ ((by rw[hg];exact HB.o.size):w.heap.size≤gR);replace HB:=bs_ HB hb;clear hb J hg)|(go_at_call 43;(with_reducible refine(Ou A0 c0 l w _ HB.o HC.o HL.o.1 HL.o.2).mono ?_);rintro e W1 ⟨g,rfl,hu,hB,hb⟩;have U:=A_ hu;replace BR:=bb_ BR hb;replace HB:=A_ hB;clear hu hb hB)|(go_at_call 49;(with_reducible refine(IJ.dr g l w _ U.o HB.o).mono ?_);rintro e W2 ⟨v1,v2,b0,bb,n,rfl,hs,hd,hx⟩;obtain⟨n1,A1,c1,rfl,n2,A2,c2,rfl⟩:=hs.forms;have HX:=A_ hx;have HS:=A_ (hs.lower HB.o.size);obtain⟨cs,ae⟩:=U.o.blk;replace BR:=A_ (kb BR.o hd.kp (uX BR.o ae d_));replace U:=A_ hd.cu;replace HB:=A_ hd.bl;clear hs hd hx ae)|((with_reducible refine gt_ 6 ?_);refine be_ 6 #[.int .i64 0,.slice none 0 0,.slice none 0 0] 27 ?_;intro gS hg ag J hb;have NE:=A_ ((by rw[hg];exact Nat.ne_of_lt (pY BR.o)):gR≠gS);have NC:=A_ ((by rw[hg];exact Nat.ne_of_gt U.o.lt):gS≠g);have BS:=A_ J;have GS:=A_ ((by rw[hg];exact HB.o.size):w.heap.size≤gS);replace HB:=bs_ HB hb;replace U:=A_ (U.o.below hb);replace BR:=bb_ BR hb;replace HS:=A_ (HS.o.below hb);have qS:=bw3 BS.o;clear hb J hg))
 clear qS
 generalize hW:((ag.setCell ⟨gS,0,none⟩ (.int .i64 b0)).setCell ⟨gS,1,none⟩ (.slice A1 n1 c1)).setCell ⟨gS,2,none⟩ (.slice A2 n2 c2)=W3
 have D3:=A_ (Dn.start U.o HB.o);replace HS:=A_ (hW▸HS.o.uN BS.o:SqR W3 w.heap.size (.slice A1 n1 c1) (.slice A2 n2 c2) bb n);obtain⟨i,hh,hI,ae⟩:=U.o;replace U:=A_ (show Cu w W3 g l from⟨i,hh,hW▸(((hI.far (by exact Ne.symm NC.o) _).far (by exact Ne.symm NC.o) _).far (by exact Ne.symm NC.o) _),ae⟩);replace HB:=A_ (hW▸mY (mY (mY HB.o GS.o) GS.o) GS.o:Below w.heap.size w W3);replace BR:=A_ (hW▸pQ (pQ (pQ BR.o NE.o _) NE.o _) NE.o _:W3.heap[gR]? =_);replace BS:=A_ (hW▸(uN BS.o).2.2:W3.heap[gS]? =some (.cells #[.int .i64 b0,.slice A1 n1 c1,.slice A2 n2 c2] 27 (0,0)));clear hW hI ae D3
 go_upto_region 4 with(go_at_call 50;(with_reducible refine(wO U.o HB.o 6 om).mono ?_);rintro e W4 ⟨r,rfl,hr,hd⟩;obtain⟨cs,ae⟩:=U.o.blk;replace BR:=A_ (kb BR.o hd.kp (uX BR.o ae d_));replace BS:=A_ (kb BS.o hd.kp NC.o);replace HS:=A_ (HS.o.keep U.o.blk hd.kp d_);replace U:=A_ hd.cu;replace HB:=A_ hd.bl;clear hd ae;clear hr)
 try go_wp2
 have hb:=qw (Below.refl W4.heap.size W4);replace BR:=bb_ BR hb;replace BS:=bb_ BS hb;replace HS:=A_ (HS.o.below hb);replace U:=A_ (U.o.below hb);replace HB:=bs_ HB hb;clear hb;refine rM (n:=8) (S:=fun w'=>cB3 gS (.int .i64 b0) (.slice A1 n1 c1) (.slice A2 n2 c2) w') (ds:=[5]) (mk_ 8 0) K_ rfl rfl (bc3 BS) (fun aa=>?_);refine pz_ 1 16 (mk_ 8 2) ?_;refine pz_ 2 17 (mk_ 8 6) ?_;refine tz_ 0 15 (mk_ 8 7) aa ?_
 refine oz_ 3 (mk_ 8 15) (fun K hK=>?_);refine Bo (enc:=Value.int .i64) (h1:=fun _=>rfl) 3 ([-1,0,1,10,100,255,3000,3001]:List Int) ?hg (N:=18) ?hd ?hr d_ ?_;(case hg=>rfl);(case hd=>rfl);(case hr=>go_simp;done);rintro vl Wl ho hb;obtain⟨L,eL⟩:∃L:List Int,L=([-1,0,1,10,100,255,3000,3001]:List Int):=⟨_,rfl⟩;rw[←eL]at ho;have hl2:1≤L.length∧L.length≤256:=(by rw[eL];decide);clear eL;obtain⟨A,c,ev⟩:=Kd.mU ho;subst ev;obtain⟨f1,f2,_,f3⟩:=zL ho U.o.lt;have HF:=A_ (show Kd.C K1 _ A L.length L∧L.length≤c∧(∀ad,A=some ad→0<L.length→ad.block≠g)∧_ from⟨f1,f2,f3,hl2⟩);replace BR:=bb_ BR hb;replace BS:=bb_ BS hb;replace HS:=A_ (HS.o.below hb);replace U:=A_ (U.o.below hb);replace HB:=bs_ HB hb;clear ho hb f1 f2 f3 hl2;refine hK.out _ _ (bc3 BS) (fun aa=>?_);clear hK K;refine nm_ 18 ?_
 refine oz_ 4 (mk_ 8 31) (fun K hK=>?_);refine wG Try.func51 K_ rfl #[.pointer (some ⟨g,0,none⟩),.slice A L.length c] rf rfl rfl (by simp only[mA,mB,mC];rfl) ?_
 with_reducible refine(H9 U.o HB.o A c L HF.o.2.2.2 HF.o.1 HF.o.2.1 HF.o.2.2.1).mono ?_
 rintro e W8 ⟨y,rfl,hy,hd⟩;refine⟨_,rfl,?_⟩;clear hy;obtain⟨cs,ae⟩:=U.o.blk;replace BR:=A_ (kb BR.o hd.kp (uX BR.o ae d_));replace BS:=A_ (kb BS.o hd.kp NC.o);replace HS:=A_ (HS.o.keep U.o.blk hd.kp d_);replace U:=A_ hd.cu;replace HB:=A_ hd.bl;clear hd ae;refine hK.out _ _ (bc3 BS) (fun aa=>?_);clear hK K;refine nm_ 19 ?_
 refine vI (i:=5) (N:=none) (mk_ 8 63) rfl rfl K_ d_ (fun K hK=>?_);have qR:=bw3 BR.o;refine uI (w1:=?_) rf rfl ?_ ?_;rotate_left
 ·go_simp
  rfl
 refine hK.out _ _ ?_;clear hK K;refine pz_ 6 3 (mk_ 8 127) ?_;refine pz_ 7 4 (mk_ 8 255) ?_
 refine sZ K_ ?_;clear aa
 go_wp2
 refine bodyPost_ret (CE rfl _ _ gR 27 #[.int .i64 b0,.slice A1 n1 c1,.slice A2 n2 c2] (0,0) _ rfl (by exact(uN BR.o).2.2) Try.underlying27 rfl K_) rfl ?_;exact⟨_,_,⟨b0,_,_,rfl⟩,bb,n,HS.o.uN BR.o,mY (mY (mY HB.o GR.o) GR.o) GR.o,HX.o⟩
theorem zu.dr (A0:Option Addr) (c0:Nat) (l:List Int) (w:World) (hr:Kd.C (Kd.int .u8) w A0 l.length l) (hc:l.length≤c0) (hl:l.length≤1048576):Calls Try.prog 5 #[.slice A0 l.length c0] w fun e w'=>∃v1 v2:Value,∃b v m:Int,∃bb n:Nat,e=.returned (.tuple #[.agg #[.int .i64 b,v1,v2],.int .i64 v,.int .i64 m])∧SqR w' w.heap.size v1 v2 bb n∧Below w.heap.size w w'∧bb≤3∧n≤5:=by
 have af:=Try.underlying27;have HB:=A_ (Below.refl w.heap.size w);have HC:=A_ hr;have HL:=A_ (And.intro hc hl);clear hr hc hl;go_enter Try.func5,Try.ntmps5
 go_upto_region 2 with(first|((with_reducible refine gt_ 2 ?_);refine be_ 2 #[.int .i64 0,.slice none 0 0,.slice none 0 0] 27 ?_;intro gR hg ah J hb;have BR:=A_ J;have GR:=A_ ((by rw[hg];exact HB.o.size):w.heap.size≤gR);replace HB:=bs_ HB hb;clear hb J hg)|(go_at_call 26;(with_reducible refine(AQ.dr A0 c0 l _ (Kd.mO HC.o HB.o) HL.o.1 HL.o.2).mono ?_);rintro e W2 ⟨v1,v2,b,v,m,bb,n,rfl,hs,hb,hx⟩;obtain⟨n1,A1,c1,rfl,n2,A2,c2,rfl⟩:=hs.forms;have HX:=A_ hx;have HS:=A_ (hs.lower HB.o.size);replace BR:=bb_ BR hb;replace HB:=bs_ HB hb;clear hs hx hb)|((with_reducible refine gt_ 5 ?_);refine be_ 5 #[.int .i64 0,.slice none 0 0,.slice none 0 0] 27 ?_;intro gS hg ag J hb;have NE:=A_ ((by rw[hg];exact Nat.ne_of_lt (pY BR.o)):gR≠gS);have BS:=A_ J;have GS:=A_ ((by rw[hg];exact HB.o.size):w.heap.size≤gS);replace HB:=bs_ HB hb;replace BR:=bb_ BR hb;replace HS:=A_ (HS.o.below hb);have qS:=bw3 BS.o;clear hb J hg))
 clear qS
 generalize hW:((ag.setCell ⟨gS,0,none⟩ (.int .i64 b)).setCell ⟨gS,1,none⟩ (.slice A1 n1 c1)).setCell ⟨gS,2,none⟩ (.slice A2 n2 c2)=W3
 replace HS:=A_ (hW▸HS.o.uN BS.o:SqR W3 w.heap.size (.slice A1 n1 c1) (.slice A2 n2 c2) bb n);replace HB:=A_ (hW▸mY (mY (mY HB.o GS.o) GS.o) GS.o:Below w.heap.size w W3);replace BR:=A_ (hW▸pQ (pQ (pQ BR.o NE.o _) NE.o _) NE.o _:W3.heap[gR]? =_);replace BS:=A_ (hW▸(uN BS.o).2.2:W3.heap[gS]? =some (.cells #[.int .i64 b,.slice A1 n1 c1,.slice A2 n2 c2] 27 (0,0)));clear hW;have qR:=bw3 BR.o;have qS:=bw3 BS.o
 go_wp2
 refine bodyPost_ret (CE rfl _ _ gR 27 #[.int .i64 b,.slice A1 n1 c1,.slice A2 n2 c2] (0,0) _ rfl (by exact(uN BR.o).2.2) Try.underlying27 rfl K_) rfl ?_;exact⟨_,_,b,_,_,bb,n,rfl,HS.o.uN BR.o,mY (mY (mY HB.o GR.o) GR.o) GR.o,HX.o⟩
theorem Ag.dr (A0:Option Addr) (c0:Nat) (l:List Int) (w:World) (hr:Kd.C (Kd.int .u8) w A0 l.length l) (hc:l.length≤c0) (hl:l.length≤1048576):Calls Try.prog 20 #[.slice A0 l.length c0] w fun e w'=>∃v1 v2:Value,∃b m:Int,∃bb n:Nat,e=.returned (.tuple #[.agg #[.int .i64 b,v1,v2],.int .i64 m])∧SqR w' w.heap.size v1 v2 bb n∧Below w.heap.size w w'∧bb≤3∧n≤5:=by
 have af:=Try.underlying27;have HB:=A_ (Below.refl w.heap.size w);have HC:=A_ hr;have HL:=A_ (And.intro hc hl);clear hr hc hl;go_enter Try.func20,Try.ntmps20
 go_upto_region 2 with(first|((with_reducible refine gt_ 2 ?_);refine be_ 2 #[.int .i64 0,.slice none 0 0,.slice none 0 0] 27 ?_;intro gR hg ah J hb;have BR:=A_ J;have GR:=A_ ((by rw[hg];exact HB.o.size):w.heap.size≤gR);replace HB:=bs_ HB hb;clear hb J hg)|(go_at_call 26;(with_reducible refine(AQ.dr A0 c0 l _ (Kd.mO HC.o HB.o) HL.o.1 HL.o.2).mono ?_);rintro e W2 ⟨v1,v2,b,v,m,bb,n,rfl,hs,hb,hx⟩;obtain⟨n1,A1,c1,rfl,n2,A2,c2,rfl⟩:=hs.forms;have HX:=A_ hx;have HS:=A_ (hs.lower HB.o.size);replace BR:=bb_ BR hb;replace HB:=bs_ HB hb;clear hs hx hb)|((with_reducible refine gt_ 4 ?_);refine be_ 4 #[.int .i64 0,.slice none 0 0,.slice none 0 0] 27 ?_;intro gS hg ag J hb;have NE:=A_ ((by rw[hg];exact Nat.ne_of_lt (pY BR.o)):gR≠gS);have BS:=A_ J;have GS:=A_ ((by rw[hg];exact HB.o.size):w.heap.size≤gS);replace HB:=bs_ HB hb;replace BR:=bb_ BR hb;replace HS:=A_ (HS.o.below hb);have qS:=bw3 BS.o;clear hb J hg))
 clear qS
 generalize hW:((ag.setCell ⟨gS,0,none⟩ (.int .i64 b)).setCell ⟨gS,1,none⟩ (.slice A1 n1 c1)).setCell ⟨gS,2,none⟩ (.slice A2 n2 c2)=W3
 replace HS:=A_ (hW▸HS.o.uN BS.o:SqR W3 w.heap.size (.slice A1 n1 c1) (.slice A2 n2 c2) bb n);replace HB:=A_ (hW▸mY (mY (mY HB.o GS.o) GS.o) GS.o:Below w.heap.size w W3);replace BR:=A_ (hW▸pQ (pQ (pQ BR.o NE.o _) NE.o _) NE.o _:W3.heap[gR]? =_);replace BS:=A_ (hW▸(uN BS.o).2.2:W3.heap[gS]? =some (.cells #[.int .i64 b,.slice A1 n1 c1,.slice A2 n2 c2] 27 (0,0)));clear hW;have qR:=bw3 BR.o;have qS:=bw3 BS.o
 go_wp2
 refine rt_ #[.int .i64 b,.slice A1 n1 c1,.slice A2 n2 c2] (by exact(uN BR.o).2.2) Try.underlying27 ?_;exact⟨_,_,b,_,bb,n,rfl,HS.o.uN BR.o,mY (mY (mY HB.o GR.o) GR.o) GR.o,HX.o⟩
def Lr (W:World) (B:Nat) (v1 v3:Value) (i j:Nat):Prop:=∃r c,Kd.R K1 3 W B (fun k=>some k≠v3.ownBlock) v1 r∧Kd.R K1 3 W B (fun k=>some k≠v1.ownBlock) v3 c∧r.length=i∧c.length=j
def Lm (W:World) (B:Nat) (v2:Value) (m n:Nat):Prop:=∃M,Kd.R K3 24 W B (fun _=>True) v2 M∧M.length=m∧∀x∈M,x.length=n∧∀y∈x,y.length=n
section
variable {W W1 W2:World} {B g gs i j m n t:Nat} {v1 v2 v3 v:Value}
theorem G8 {α:Type} {l:List α} {x:α} (h:l.length=i):(l++[x]).length=i+1:=by
 rw[List.length_append,h];rfl
theorem GJ {α:Type} {l:List (List α)} {x:List α} {p:List α→Prop} (h:l.length=i∧∀x∈l,p x) (hx:p x):(l++[x]).length=i+1∧∀y∈l++[x],p y:=⟨G8 h.1,fun y hy=>(List.mem_append.1 hy).elim (h.2 y) (fun e=>List.mem_singleton.1 e▸hx)⟩
theorem E_ (h:oF W W1 g none) (hg:W1.grownBy W2 v.ownBlock) (hv:∀k,v.ownBlock=some k→W.heap.size≤k):oF W W2 g none:=⟨Nat.le_trans h.1 hg.size,fun k hk hkg _=>(hg.block k (Nat.lt_of_lt_of_le hk h.1) (fun e=>by have:=hv k e.symm;omega)).trans (h.2 k hk hkg sp)⟩
theorem Lr.keep (h:Lr W B v1 v3 i j) (hc:∃cs,W.heap[g]? =some (.cells cs t (0,0))) (hk:oF W W1 g none) (ht:∀q,q∈[3]→q≠t):Lr W1 B v1 v3 i j:=by
 obtain⟨r,c,h1,h3,hx⟩:=h;exact⟨r,c,kR h1 hc hk ht,kR h3 hc hk ht,hx⟩
theorem Lm.keep (h:Lm W B v2 m n) (hc:∃cs,W.heap[g]? =some (.cells cs t (0,0))) (hk:oF W W1 g none) (ht:∀q,q∈[24,25,3]→q≠t):Lm W1 B v2 m n:=by
 obtain⟨M,h2,hx⟩:=h;exact⟨M,kR h2 hc hk ht,hx⟩
theorem Lr.below (h:Lr W B v1 v3 i j) (hb:Below W.heap.size W W1):Lr W1 B v1 v3 i j:=by
 obtain⟨r,c,h1,h3,hx⟩:=h;exact⟨r,c,Kd.nX h1 hb,Kd.nX h3 hb,hx⟩
theorem Lr.set (h:Lr W B v1 v3 i j) {cs:Array Value} (hc:W.heap[gs]? =some (.cells cs 33 (0,0))) (q:Nat) (u:Value):Lr (W.setCell ⟨gs,q,none⟩ u) B v1 v3 i j:=by
 obtain⟨r,c,h1,h3,hx⟩:=h;exact⟨r,c,Kd.y_ h1 hc d_ q u,Kd.y_ h3 hc d_ q u,hx⟩
theorem Lm.set (h:Lm W B v2 m n) {cs:Array Value} (hc:W.heap[gs]? =some (.cells cs 33 (0,0))) (q:Nat) (u:Value):Lm (W.setCell ⟨gs,q,none⟩ u) B v2 m n:=by
 obtain⟨M,h2,hx⟩:=h;exact⟨M,Kd.y_ h2 hc d_ q u,hx⟩
theorem Lr.forms (h:Lr W B v1 v3 i j):(∃A1 c1,v1=.slice A1 i c1)∧∃A3 c3,v3=.slice A3 j c3:=by
 obtain⟨r,c,h1,h3,rfl,rfl⟩:=h;exact⟨Kd.mU h1,Kd.mU h3⟩
theorem Lm.forms (h:Lm W B v2 m n):∃A2 c2,v2=.slice A2 m c2:=by
 obtain⟨M,h2,rfl,_⟩:=h;exact Kd.mU h2
theorem Lr.up1 (h:Lr W B v1 v3 i j) {r:List Int} {x:Int} (hl:r.length=i) (ho:Kd.R K1 3 W1 B (fun k=>some k≠v3.ownBlock) v (r++[x])) (hg:W.grownBy W1 v1.ownBlock) (hat:v.ownBlock=v1.ownBlock∨∃b,v.ownBlock=some b∧W.heap.size≤b):Lr W1 B v v3 (i+1) j:=by
 obtain⟨_,c,_,h3,_,e⟩:=h;exact⟨_,c,ho,Kd.mM (Kd.pq (ok:=fun _=>True) (Kd.mM h3 (fun _ hk=>⟨trivial,hk⟩)) hg hat) (fun _ hk=>hk.2),by simp[hl],e⟩
theorem Lr.up3 (h:Lr W B v1 v3 i j) {r:List Int} {x:Int} (hl:r.length=j) (ho:Kd.R K1 3 W1 B (fun k=>some k≠v1.ownBlock) v (r++[x])) (hg:W.grownBy W1 v3.ownBlock) (hat:v.ownBlock=v3.ownBlock∨∃b,v.ownBlock=some b∧W.heap.size≤b):Lr W1 B v1 v i (j+1):=by
 obtain⟨q,_,h1,_,e,_⟩:=h;exact⟨q,_,Kd.mM (Kd.pq (ok:=fun _=>True) (Kd.mM h1 (fun _ hk=>⟨trivial,hk⟩)) hg hat) (fun _ hk=>hk.2),ho,e,by simp[hl]⟩
theorem Lr.over (h:Lr W B v1 v3 i j) {B':Nat} (hm:Lm W B' v2 m n) (hg:W.grownBy W1 v2.ownBlock):Lr W1 B v1 v3 i j:=by
 obtain⟨r,c,h1,h3,hx⟩:=h;obtain⟨M,h2,_⟩:=hm;exact⟨r,c,Kd.qH h1 (Kd.tu h2) d_ hg,Kd.qH h3 (Kd.tu h2) d_ hg,hx⟩
theorem LnB.of (h:Lr W B v1 v3 i j) (h2:Lm W B v2 m n) (hi:i≤64) (hj:j≤64) (hm:m≤64) (hn:n≤64):LnB W B v1 v2 v3:=by
 obtain⟨r,c,h1,h3,rfl,rfl⟩:=h;obtain⟨M,h2,rfl,hx⟩:=h2;exact⟨r,M,c,Kd.mM h1 (fun _ _=>trivial),h2,Kd.mM h3 (fun _ _=>trivial),hi,hj,hm,fun x hx'=>⟨by rw[(hx x hx').1];exact hn,fun y hy=>by rw[(hx x hx').2 y hy];exact hn⟩⟩
end
section
variable {ops:Array Oper} {rest:List Oper} {o:Oper} {a:Act} {Q:Exit→Act→World→Prop} {W:World} {B:Nat} {v:Value} {ok:Nat→Prop}
theorem mkM (hgd:o.guard=none) {N:Tmp} (hd:o.dst=some N) (hrun:(execOp a.eval o).run Try.prog W=.ok (.value (.slice (some ⟨W.heap.size,0,none⟩) 0 0)) (W.alloc (.cells #[] 25 (0,0)))) (h:∀v1 w1,Kd.R K2 25 w1 W.heap.size (fun _=>True) v1 []→Below W.heap.size W w1→wpList Try.prog ops Q rest (a.put o.dst v1) w1):wpList Try.prog ops Q (o::rest) a W:=
 Kd.wF K2 (w0:=W) W.heap.size 25 hgd hd (xs:=[]) (inner:=[]) (ok:=fun _=>True) (okp:=fun _=>True) hrun (qK.none _ _) (fun _ hk=>hk) trivial (Below.refl _ _) (Nat.le_refl _) sp (fun v1 w1 h1 h2 _ _=>h v1 w1 h1 h2)
theorem apM (hgd:o.guard=none) (s x:Operand) (ho:o.op=.call {callee:=.builtin .append,args:= #[s,x],argTypes:= #[31,31]}) {M:List (List (List Int))} {r:List (List Int)} {vr:Value} {ai:Nat→Prop} (hs:a.eval s=v) (hx:a.eval x=.slice (some ⟨W.heap.size,0,none⟩) 1 1) (hr:Kd.R K2 25 W B ai vr r) (HO:Kd.R K3 24 W B (fun _=>True) v M) (hB:B≤W.heap.size) (hl:M.length≤1000)
 (h:∀v1 w1,Kd.R K3 24 w1 B (fun _=>True) v1 (M++[r])→W.grownBy w1 v.ownBlock→wpList Try.prog ops Q rest (a.put o.dst v1) w1):wpList Try.prog ops Q (o::rest) a (W.alloc (.cells #[vr] 24 (0,0))):=
 Kd.qG K3 (w0:=W) B hgd s x 31 24 (.slice none 0 0) 24 ho Try.underlying31 Ef rfl d_ om v M r [vr] (fun _=>True) (fun k=>ai k∧some k≠v.ownBlock) hs hx (Kd.uR (Kd.pE hr (Kd.tu HO) d_)) (fun k hk=>⟨trivial,hk.2⟩) (fun _ _=>trivial) HO (Below.refl _ _) hB om (fun v1 w1 h1 _ h3 _=>h v1 w1 h1 h3)
end
theorem cCF (hcf:MM) {W:World} {B b n n1 n2 c1 c2:Nat} {A1 A2:Option Addr} (h:SqR W B (.slice A1 n1 c1) (.slice A2 n2 c2) b n) (hx:b≤64∧n≤64) (x y:Int):Calls Try.prog 11 #[.agg #[.int .i64 x,.slice A1 n1 c1,.slice A2 n2 c2],.int .i64 y] W fun e w'=>∃v1 v2 v3:Value,∃ (b':Int) (r:Bool),e=.returned (.tuple #[.agg #[.int .i64 b',v1,v2,v3],.bool r])∧LnB w' W.heap.size v1 v2 v3∧Below W.heap.size W w':=by
 obtain⟨N,O,h1,h2,e1,e2,e3⟩:=h;obtain⟨rfl,hc1,hr1⟩:=Kd.mX h1;obtain⟨rfl,hc2,hr2⟩:=Kd.mX h2;obtain⟨k,r1,r2,r3,r4,r5,hf,l1,l2,l3,l4⟩:=hcf x N O y om (fun r hr=>by rw[e3 r hr];exact hx.1) om;exact(mJ.calls k x A1 c1 N A2 c2 O y r1 r2 r3 r4 r5 W hr1 hc1 hr2 hc2 hf).mono fun e w' ⟨v1,v2,v3,he,q1,q2,q3,hb⟩=>⟨v1,v2,v3,r1,r5,he,⟨r2,r3,r4,Kd.mM q1 (fun _ _=>trivial),Kd.mM q2 (fun _ _=>trivial),Kd.mM q3 (fun _ _=>trivial),l1,l2,l3,l4⟩,hb⟩
theorem bw4 {W:World} {g:Nat} {a b c d:Value} {l:List Value} {t:TypeId} (h:W.heap[g]? =some (.cells (a::b::c::d::l).toArray t (0,0))):(cB4 g a b c d W)∧W.frozen? ⟨g,0,none⟩=false∧W.frozen? ⟨g,1,none⟩=false∧W.frozen? ⟨g,2,none⟩=false∧W.frozen? ⟨g,3,none⟩=false:=
 ⟨⟨(pU h 0).trans rfl,(pU h 1).trans rfl,(pU h 2).trans rfl,(pU h 3).trans rfl⟩,nY h 0,nY h 1,nY h 2,nY h 3⟩
theorem xP.dr (hcf:MM) (g:Nat) (bs:List Int) (w0 w:World) (hC:Cu w0 w g bs) (hB:Below w0.heap.size w0 w):Calls Try.prog 44 #[.pointer (some ⟨g,0,none⟩)] w fun e w'=>∃v1 v2 v3:Value,∃b:Int,e=.returned (.agg #[.int .i64 b,v1,v2,v3])∧LnB w' w.heap.size v1 v2 v3∧Dn w0 w w' g bs:=by
 have aB:=Try.underlying33;have ax:=A_ hcf;have HD:=A_ (Dn.start hC hB);clear hC hB hcf;go_enter Try.func44,Try.ntmps44
 go_upto_if 15 with(first|((with_reducible refine gt_ 2 ?_);refine be_ 2 #[.int .i64 0,.slice none 0 0,.slice none 0 0,.slice none 0 0] 33 ?_;intro gR hg aI J hb;have BR:=A_ J;have GR:=A_ ((by rw[hg];exact HD.o.kp.1):w.heap.size≤gR);replace HD:=A_ (HD.o.below hb);clear hb J hg)|(go_at_call 60;(with_reducible refine(JU HD.o.cu HD.o.bl 2 om).mono ?_);rintro e W1 ⟨x,rfl,hd⟩;have hK:=hd.kp;have hT:=HD.o.cu.blk;have hL:=HD.o.lt;replace BR:=A_ (kb BR.o hK (by have:=GR.o;omega));replace HD:=A_ (HD.o.drew hd);clear hd hK hL hT))
 cases x
 ·go_upto_region 7 with(first|(go_at_call 50;(with_reducible refine(wO HD.o.cu HD.o.bl 3 om).mono ?_);rintro e W2 ⟨x,rfl,hx,hd⟩;have hK:=hd.kp;have hT:=HD.o.cu.blk;have hL:=HD.o.lt;replace BR:=A_ (kb BR.o hK (by have:=GR.o;omega));replace HD:=A_ (HD.o.drew hd);obtain⟨n,hwn,hn⟩:∃n:Nat,wrap64 (1+x)=(n:Int)∧(1≤n∧n≤3):=⟨(1+x).toNat,by unfold wrap64;omega,om⟩;have HN:=A_ hn;clear hx hd hK hL hT hn)|((with_reducible refine gt_ 7 ?_);refine be_ 7 #[.int .i64 0,.slice none 0 0,.slice none 0 0,.slice none 0 0] 33 ?_;intro gS hg ay J hb;have NE:=A_ ((by rw[hg];exact Nat.ne_of_lt (pY BR.o)):gR≠gS);have BS:=A_ J;have GS:=A_ ((by rw[hg];exact HD.o.kp.1):w.heap.size≤gS);replace HD:=A_ (HD.o.below hb);replace BR:=bb_ BR hb;have qS:=bw4 BS.o;clear hb J hg))
  clear qS
  generalize hW:(((ay.setCell ⟨gS,0,none⟩ (.int .i64 2)).setCell ⟨gS,1,none⟩ (.slice none 0 0)).setCell ⟨gS,2,none⟩ (.slice none 0 0)).setCell ⟨gS,3,none⟩ (.slice none 0 0)=W3
  replace HD:=A_ (hW▸HD.o.tF GS.o _ _ _ _:Dn w0 w W3 g bs);replace BR:=A_ (hW▸(F8 gR NE.o).trans BR.o:W3.heap[gR]? =some (.cells #[.int .i64 0,.slice none 0 0,.slice none 0 0,.slice none 0 0] 33 (0,0)));replace BS:=A_ (hW▸(tF BS.o).2.2.2:W3.heap[gS]? =some (.cells #[.int .i64 2,.slice none 0 0,.slice none 0 0,.slice none 0 0] 33 (0,0)));clear hW
  go_wp2
  go_loopg [8] (n+1) (fun kq v8 W=>∃ (i:Nat) (v1 v3:Value),v8=.int .i64 (i:Int)∧i≤n∧n+1 - i≤kq∧Aside0 (Dn w0 w W g bs)∧Aside0 (W.heap[gR]? =some (.cells #[.int .i64 0,.slice none 0 0,.slice none 0 0,.slice none 0 0] 33 (0,0)))∧Aside0 (W.heap[gS]? =some (.cells #[.int .i64 2,v1,.slice none 0 0,v3] 33 (0,0)))∧Aside0 (Lr W w.heap.size v1 v3 i i))
  case atStart=>exact⟨0,_,_,rfl,om,om,HD,BR,BS,⟨[],[],Kd.sI _ _ _ _ _,Kd.sI _ _ _ _ _,rfl,rfl⟩⟩
  case round=>
   clear HD BR BS;obtain⟨i,v1,v3,rfl,hi,hk,HD,BR,BS,HR⟩:=hrel;have HI:=A_ (And.intro hi hk);clear hi hk
   by_cases hlt:i<n
   ·have cn:decide ((i:Int)<(n:Int))=true:=decide_eq_true om
    have hw:wrap64 ((i:Int)+1)=((i+1:Nat):Int):=by have:=HN.o;unfold wrap64;omega
    obtain⟨⟨A1,c1,rfl⟩,A3,c3,rfl⟩:=HR.o.forms
    go_upto_region 10 with fail
    try go_wp2
    have hb:=qw (Below.refl wr.heap.size wr);replace HD:=A_ (HD.o.below hb);replace BR:=bb_ BR hb;replace BS:=bb_ BS hb;replace HR:=A_ (HR.o.below hb);clear hb;refine rM (n:=9) (S:=fun w'=>w'.cell? ⟨gS,1,none⟩=some (.slice A1 i c1)) (ds:=[8]) (mk_ 9 0) K_ rfl rfl (bz1 BS.o) (fun aa=>?_);refine pz_ 0 35 (mk_ 9 1) ?_;refine pz_ 2 37 (mk_ 9 5) ?_
    refine Ea (i:=1) (N:=some 36) (v:=?_) (a':=?_) (mk_ 9 7) rfl rfl K_ (fun _ _ _ h=>h) (Or.inl ⟨rf,?_⟩) aa ?_ ?_;rotate_left
    ·intro w' s0
     go_simp;with_reducible rfl
    rotate_left
    ·simp only[Act.put,mD,mE,mF,uD,zn]
     rfl
    refine oz_ 3 (mk_ 9 15) (fun K hK=>?_);refine wG Try.func50 K_ rfl #[.pointer (some ⟨g,0,none⟩),.int .i64 3] rf rfl rfl (by simp only[mA,mB,mC];rfl) ?_
    with_reducible refine(wO HD.o.cu HD.o.bl 3 om).mono ?_
    rintro e Wc ⟨y,rfl,hy,hd⟩;refine⟨_,rfl,?_⟩;clear hy;have hK:=hd.kp;have hT:=HD.o.cu.blk;have hL:=HD.o.lt;replace BR:=A_ (kb BR.o hK (by have:=GR.o;omega));replace BS:=A_ (kb BS.o hK (by have:=GS.o;omega));replace HR:=A_ (HR.o.keep hT hK d_);replace HD:=A_ (HD.o.drew hd);clear hd hK hT hL;refine hK.out _ _ (bz1 BS.o) (fun aa=>?_);clear hK K;refine nm_ 38 ?_;refine pz_ 4 39 (mk_ 9 31) ?_
    refine oz_ 5 (mk_ 9 63) (fun K hK=>?_);refine yn (w1:=?_) (v:=?_) rf rfl ?_ ?_;rotate_left 2
    ·go_simp
     constructor
     ·rfl
     ·rfl
    refine hK.out _ _ ((pU (nP BS.o _) 1).trans rfl) (fun aa=>?_);clear hK K;refine nm_ 40 ?_
    refine oz_ 6 (mk_ 9 127) (fun K hK=>?_);obtain⟨r,c,h1,h3,e1,e3⟩:=HR.o;have HE:=A_ (And.intro h1 (And.intro h3 (And.intro e1 e3)));refine DV (y:=wrap64 (y - 1)) (l:=r) rf (.tmp 36) (.tmp 40) rfl rfl rfl h1 (fun k hk=>Kd.fresh' (Kd.oV h3) k hk) HD.o.kp.1 (by have:=HN.o;omega) ?_;rintro vn Wa ho hg hat;have aC:=A_ (qE BR.o hg (Kd.xu h1 BR.o d_));have au:=A_ (qE BS.o hg (Kd.xu h1 BS.o d_));have HR2:=A_ (HR.o.up1 e1 ho hg hat);have HD2:=A_ (HD.o.grow hg (Kd.nW h1));clear h1 h3 e1 e3 ho hg hat HE HR HD BR BS;obtain⟨⟨A4,c4,rfl⟩,_⟩:=HR2.o.forms;have qS:=bw4 au.o;refine hK.out _ _ (bz1 au.o) (fun aa=>?_);clear hK K;refine nm_ 41 ?_;refine pz_ 7 42 (mk_ 9 255) ?_
    refine vI (i:=8) (N:=none) (mk_ 9 511) rfl rfl K_ d_ (fun K hK=>?_);refine uI (w1:=?_) rf rfl ?_ ?_;rotate_left
    ·go_simp
     rfl
    refine hK.out _ _ ?_;clear hK K;refine sZ K_ ?_
    generalize hW:Wa.setCell ⟨gS,1,none⟩ (.slice A4 (i+1) c4)=W5
    have HD:=A_ (hW▸HD2.o.set GS.o 1 _:Dn w0 w W5 g bs);have BR:=A_ (hW▸pQ aC.o NE.o _:W5.heap[gR]? =some (.cells #[.int .i64 0,.slice none 0 0,.slice none 0 0,.slice none 0 0] 33 (0,0)));have BS:=A_ (hW▸oN au.o 1 _ rfl:W5.heap[gS]? =some (.cells #[.int .i64 2,.slice A4 (i+1) c4,.slice none 0 0,.slice A3 i c3] 33 (0,0)));have HR:=A_ (hW▸HR2.o.set au.o 1 _:Lr W5 w.heap.size (.slice A4 (i+1) c4) (.slice A3 i c3) (i+1) i);clear hW HD2 aC au HR2 aa qS
    go_upto_region 11 with fail
    try go_wp2
    have hb:=qw (Below.refl W5.heap.size W5);replace HD:=A_ (HD.o.below hb);replace BR:=bb_ BR hb;replace BS:=bb_ BS hb;replace HR:=A_ (HR.o.below hb);clear hb;refine rM (n:=9) (S:=fun w'=>w'.cell? ⟨gS,3,none⟩=some (.slice A3 i c3)) (ds:=[8]) (mk_ 9 0) K_ rfl rfl (bz3 BS.o) (fun aa=>?_);refine pz_ 0 43 (mk_ 9 1) ?_;refine pz_ 2 45 (mk_ 9 5) ?_
    refine Ea (i:=1) (N:=some 44) (v:=?_) (a':=?_) (mk_ 9 7) rfl rfl K_ (fun _ _ _ h=>h) (Or.inl ⟨rf,?_⟩) aa ?_ ?_;rotate_left
    ·intro w' s0
     go_simp;with_reducible rfl
    rotate_left
    ·simp only[Act.put,mD,mE,mF,uD,zn]
     rfl
    refine oz_ 3 (mk_ 9 15) (fun K hK=>?_);refine wG Try.func50 K_ rfl #[.pointer (some ⟨g,0,none⟩),.int .i64 3] rf rfl rfl (by simp only[mA,mB,mC];rfl) ?_
    with_reducible refine(wO HD.o.cu HD.o.bl 3 om).mono ?_
    rintro e Wc ⟨y,rfl,hy,hd⟩;refine⟨_,rfl,?_⟩;clear hy;have hK:=hd.kp;have hT:=HD.o.cu.blk;have hL:=HD.o.lt;replace BR:=A_ (kb BR.o hK (by have:=GR.o;omega));replace BS:=A_ (kb BS.o hK (by have:=GS.o;omega));replace HR:=A_ (HR.o.keep hT hK d_);replace HD:=A_ (HD.o.drew hd);clear hd hK hT hL;refine hK.out _ _ (bz3 BS.o) (fun aa=>?_);clear hK K;refine nm_ 46 ?_;refine pz_ 4 47 (mk_ 9 31) ?_
    refine oz_ 5 (mk_ 9 63) (fun K hK=>?_);refine yn (w1:=?_) (v:=?_) rf rfl ?_ ?_;rotate_left 2
    ·go_simp
     constructor
     ·rfl
     ·rfl
    refine hK.out _ _ ((pU (nP BS.o _) 3).trans rfl) (fun aa=>?_);clear hK K;refine nm_ 48 ?_
    refine oz_ 6 (mk_ 9 127) (fun K hK=>?_);obtain⟨r,c,h1,h3,e1,e3⟩:=HR.o;have HE:=A_ (And.intro h1 (And.intro h3 (And.intro e1 e3)));refine DV (y:=wrap64 (y - 1)) (l:=c) rf (.tmp 44) (.tmp 48) rfl rfl rfl h3 (fun k hk=>Kd.fresh' (Kd.oV h1) k hk) HD.o.kp.1 (by have:=HN.o;omega) ?_;rintro vn Wa ho hg hat;have aC:=A_ (qE BR.o hg (Kd.xu h3 BR.o d_));have au:=A_ (qE BS.o hg (Kd.xu h3 BS.o d_));have HR2:=A_ (HR.o.up3 e3 ho hg hat);have HD2:=A_ (HD.o.grow hg (Kd.nW h3));clear h1 h3 e1 e3 ho hg hat HE HR HD BR BS;obtain⟨_,A6,c6,rfl⟩:=HR2.o.forms;have qS:=bw4 au.o;refine hK.out _ _ (bz3 au.o) (fun aa=>?_);clear hK K;refine nm_ 49 ?_;refine pz_ 7 50 (mk_ 9 255) ?_
    refine vI (i:=8) (N:=none) (mk_ 9 511) rfl rfl K_ d_ (fun K hK=>?_);refine uI (w1:=?_) rf rfl ?_ ?_;rotate_left
    ·go_simp
     rfl
    refine hK.out _ _ ?_;clear hK K;refine sZ K_ ?_
    generalize hW:Wa.setCell ⟨gS,3,none⟩ (.slice A6 (i+1) c6)=W7
    have HD:=A_ (hW▸HD2.o.set GS.o 3 _:Dn w0 w W7 g bs);have BR:=A_ (hW▸pQ aC.o NE.o _:W7.heap[gR]? =some (.cells #[.int .i64 0,.slice none 0 0,.slice none 0 0,.slice none 0 0] 33 (0,0)));have BS:=A_ (hW▸oN au.o 3 _ rfl:W7.heap[gS]? =some (.cells #[.int .i64 2,.slice A4 (i+1) c4,.slice none 0 0,.slice A6 (i+1) c6] 33 (0,0)));have HR:=A_ (hW▸HR2.o.set au.o 3 _:Lr W7 w.heap.size (.slice A4 (i+1) c4) (.slice A6 (i+1) c6) (i+1) (i+1));clear hW HD2 aC au HR2 aa qS
    go_wp2
    go_roundg (n+1 - (i+1))
    case measure=>have:=HI.o;omega
    case rel=>exact⟨i+1,_,_,by first|rfl|rw[hw],om,Nat.le_refl _,HD,BR,BS,HR⟩
   ·have cn:decide ((i:Int)<(n:Int))=false:=decide_eq_false om
    obtain rfl:i=n:=by have:=HI.o;omega
    clear HI;obtain⟨⟨A1,c1,rfl⟩,A3,c3,rfl⟩:=HR.o.forms;have aJ:=A_ (show Lm wr w.heap.size (.slice none 0 0) 0 i from⟨[],Kd.sI _ _ _ _ _,rfl,fun _ h=>by cases h⟩)
    go_wp2
    go_loopg [9] 3 (fun kq v9 W=>∃ (d:Nat) (v2:Value),v9=.int .i64 (d:Int)∧d≤2∧3 - d≤kq∧Aside0 (Dn w0 w W g bs)∧Aside0 (W.heap[gR]? =some (.cells #[.int .i64 0,.slice none 0 0,.slice none 0 0,.slice none 0 0] 33 (0,0)))∧Aside0 (W.heap[gS]? =some (.cells #[.int .i64 2,.slice A1 i c1,v2,.slice A3 i c3] 33 (0,0)))∧Aside0 (Lr W w.heap.size (.slice A1 i c1) (.slice A3 i c3) i i)∧Aside0 (Lm W w.heap.size v2 d i))
    case atStart=>exact⟨0,_,rfl,om,om,HD,BR,BS,HR,aJ⟩
    case round=>
     clear HD BR BS HR aJ;obtain⟨d,v2,rfl,hd,hk,HD,BR,BS,HR,HM⟩:=hrel;have HI:=A_ (And.intro hd hk);clear hd hk;obtain⟨A2,c2,rfl⟩:=HM.o.forms
     by_cases hlt:d<2
     ·have aK:decide ((d:Int)<2)=true:=decide_eq_true om
      have hw2:wrap64 ((d:Int)+1)=((d+1:Nat):Int):=by unfold wrap64;omega
      have aA:=HD.o.cu.blk;obtain⟨Wd,hWd⟩:∃Wd,Wd=wr:=⟨_,rfl⟩;subst hWd;have FD:=A_ (And.intro BR.o (And.intro BS.o (And.intro HR.o (And.intro HM.o (And.intro aA HD.o.kp.1)))));clear BR BS HR HM aA
      go_wp2_with ((with_reducible refine gt_ 55 ?_);refine mkM rfl (N:=55) rfl (by go_simp;done) ?_;rintro ab W3 ho hb;replace HD:=A_ (HD.o.below hb);have HK:=A_ (oF.of_below hb g none);have HA:=A_ ho;clear ho hb)
      go_loopg [10,11] (i+1) (fun kq ab af W=>∃ (e:Nat) (a:List (List Int)),af=.int .i64 (e:Int)∧e≤i∧i+1 - e≤kq∧Aside0 (Dn w0 w W g bs)∧Aside0 (oF Wd W g none)∧Aside0 (Kd.R K2 25 W Wd.heap.size (fun _=>True) ab a)∧Aside0 (a.length=e∧∀x∈a,x.length=i))
      case atStart=>exact⟨0,[],rfl,om,om,HD,HK,HA,⟨rfl,fun _ h=>by cases h⟩⟩
      case round=>
       clear HD HA HK aK;obtain⟨e,a,rfl,he,hk,HD,HK,HA,HX⟩:=hrel;have HJ:=A_ (And.intro he hk);clear he hk;obtain⟨Aa,ca,ea⟩:=Kd.mU HA.o
       by_cases hle:e<i
       ·have aH:decide ((e:Int)<(i:Int))=true:=decide_eq_true om
        have hw3:wrap64 ((e:Int)+1)=((e+1:Nat):Int):=by have:=HN.o;unfold wrap64;omega
        have aL:=HD.o.cu.blk;obtain⟨We,aM⟩:∃We,We=wr:=⟨_,rfl⟩;subst aM;have FE:=A_ (And.intro HA.o (And.intro HK.o (And.intro aL HD.o.kp.1)));clear HA HK aL
        go_wp2_with ((with_reducible refine gt_ 61 ?_);refine mkI rfl (N:=61) rfl (by go_simp;done) ?_;rintro ae W4 ho hb;replace HD:=A_ (HD.o.below hb);have HK:=A_ (oF.of_below hb g none);have HV:=A_ ho;clear ho hb)
        go_loopg [12,13] (i+1) (fun kq ae ag W=>∃ (j:Nat) (r:List Int),ag=.int .i64 (j:Int)∧j≤i∧i+1 - j≤kq∧Aside0 (Dn w0 w W g bs)∧Aside0 (oF We W g none)∧Aside0 (Kd.R K1 3 W We.heap.size (fun _=>True) ae r)∧Aside0 (r.length=j))
        case atStart=>exact⟨0,[],rfl,om,om,HD,HK,HV,⟨rfl⟩⟩
        case round=>
         clear HD HK HV aH;obtain⟨j,r,rfl,hj,hk,HD,HK,HV,HL⟩:=hrel;have HM:=A_ (And.intro hj hk);clear hj hk
         by_cases hlj:j<i
         ·have aN:decide ((j:Int)<(i:Int))=true:=decide_eq_true om
          have hw4:wrap64 ((j:Int)+1)=((j+1:Nat):Int):=by have:=HN.o;unfold wrap64;omega
          go_wp2_with (first|(go_at_call 50;(with_reducible refine(wO HD.o.cu HD.o.bl 3 om).mono ?_);rintro e Wc ⟨y,rfl,hy,hd⟩;clear hy;have hK:=hd.kp;have hT:=HD.o.cu.blk;replace HV:=A_ (kR HV.o hT hK d_);replace HK:=A_ (oF.trans HK.o hK (.inl rfl));replace HD:=A_ (HD.o.drew hd);clear hd hK hT)|((with_reducible refine nG (b:=.append) (xs:= #[.tmp 67,.tmp 71]) rfl ?_);at_builtin;refine apI (y:=wrap64 (y - 1)) rfl (.tmp 67) (.tmp 71) rfl rfl rfl HV.o (fun _ _=>trivial) HK.o.1 (by have:=HN.o;have:=HL.o;omega) ?_;rintro ae W5 ho hg hat;replace HD:=A_ (HD.o.grow hg (fun k hk=>Nat.le_trans FE.o.2.2.2 (Kd.nW HV.o k hk)));replace HK:=A_ (E_ HK.o hg (Kd.nW HV.o));replace HL:=A_ (G8 (x:=wrap64 (y - 1)) HL.o);replace HV:=A_ ho;clear ho hg hat))
          go_roundg (i+1 - (j+1))
          case measure=>have:=HM.o;omega
          case rel=>exact⟨j+1,_,by first|rfl|rw[hw4],om,Nat.le_refl _,HD,HK,HV,HL⟩
         ·have aN:decide ((j:Int)<(i:Int))=false:=decide_eq_false om
          obtain rfl:j=i:=by have:=HM.o;omega
          obtain⟨Av,cv,ev⟩:=Kd.mU HV.o;subst ev ea
          go_wp2_with (((with_reducible refine nG (b:=.append) (xs:= #[.tmp 73,.tmp 75]) rfl ?_);at_builtin;have hA:=kR FE.o.1 FE.o.2.2.1 HK.o d_;refine apR rfl (.tmp 73) (.tmp 75) rfl rfl rfl (Kd.nE HV.o FE.o.2.1.1) (fun _ _=>trivial) (ok:=fun _=>True) hA (fun _ _=>trivial) (Nat.le_trans FE.o.2.1.1 HK.o.1) (by have:=HN.o;have:=HX.o.1;omega) ?_;rintro ab W5 ho hg hat;replace HD:=A_ (HD.o.grow hg (fun k hk=>Nat.le_trans FD.o.2.2.2.2.2 (Kd.nW hA k hk)));replace HK:=A_ (E_ (oF.trans FE.o.2.1 HK.o (.inl rfl)) hg (Kd.nW hA));have HA:=A_ ho;have aO:=A_ (GJ (p:=fun x=>x.length=j) HX.o HL.o);clear ho hg hat hA HV FE HL HX))
          go_roundg (j+1 - (e+1))
          case measure=>have:=HJ.o;omega
          case rel=>exact⟨e+1,_,by first|rfl|rw[hw3],om,Nat.le_refl _,HD,HK,HA,aO⟩
       ·have aH:decide ((e:Int)<(i:Int))=false:=decide_eq_false om
        obtain rfl:e=i:=by have:=HJ.o;omega
        subst ea;have aA:=FD.o.2.2.2.2.1;have HM:=A_ (FD.o.2.2.2.1.keep aA HK.o d_);have HR:=A_ (FD.o.2.2.1.keep aA HK.o d_);have BR:=A_ (kb FD.o.1 HK.o (by have:=GR.o;have:=HD.o.lt;omega));have BS:=A_ (kb FD.o.2.1 HK.o (by have:=GS.o;have:=HD.o.lt;omega));clear aA;have qS:=bw4 BS.o
        go_wp2_with (((with_reducible refine nG (b:=.append) (xs:= #[.tmp 78,.tmp 80]) rfl ?_);at_builtin;obtain⟨M,h2,e1,e2⟩:=HM.o;refine apM rfl (.tmp 78) (.tmp 80) rfl rfl rfl (Kd.nE HA.o FD.o.2.2.2.2.2) h2 HD.o.kp.1 om ?_;rintro ah W5 ho hg;replace HR:=A_ (HR.o.over HM.o hg);replace BR:=A_ (qE BR.o hg (Kd.xu h2 BR.o d_));replace BS:=A_ (qE BS.o hg (Kd.xu h2 BS.o d_));replace HD:=A_ (HD.o.grow hg (Kd.nW h2));have aF:=A_ (show Lm _ _ _ (d+1) _ from⟨_,ho,GJ (p:=fun x=>x.length=e∧∀y∈x,y.length=e) ⟨e1,e2⟩ HX.o⟩);obtain⟨A5,c5,e5⟩:=aF.o.forms;subst e5;clear ho hg h2 e1 e2 HM qS;have qS:=bw4 BS.o))
        generalize hW:W5.setCell ⟨gS,2,none⟩ (.slice A5 (d+1) c5)=W8
        replace HD:=A_ (hW▸HD.o.set GS.o 2 _:Dn w0 w W8 g bs);replace BR:=A_ (hW▸pQ BR.o NE.o _:W8.heap[gR]? =some (.cells #[.int .i64 0,.slice none 0 0,.slice none 0 0,.slice none 0 0] 33 (0,0)));replace HR:=A_ (hW▸HR.o.set BS.o 2 _:Lr W8 w.heap.size (.slice A1 e c1) (.slice A3 e c3) e e);replace aF:=A_ (hW▸aF.o.set BS.o 2 _:Lm W8 w.heap.size (.slice A5 (d+1) c5) (d+1) e);replace BS:=A_ (hW▸oN BS.o 2 _ rfl:W8.heap[gS]? =some (.cells #[.int .i64 2,.slice A1 e c1,.slice A5 (d+1) c5,.slice A3 e c3] 33 (0,0)));clear hW qS
        go_roundg (3 - (d+1))
        case measure=>have:=HI.o;omega
        case rel=>exact⟨d+1,_,by first|rfl|rw[hw2],om,Nat.le_refl _,HD,BR,BS,HR,aF⟩
     ·have aK:decide ((d:Int)<2)=false:=decide_eq_false om
      obtain rfl:d=2:=by have:=HI.o;omega
      have HL:=A_ (LnB.of HR.o HM.o (by have:=HN.o;omega) (by have:=HN.o;omega) om (by have:=HN.o;omega));clear HI HR HM
      go_upto_if 84 with((go_at_call 60;(with_reducible refine(JU HD.o.cu HD.o.bl 12 om).mono ?_);rintro e W9 ⟨z,rfl,hd⟩;have hK:=hd.kp;have hT:=HD.o.cu.blk;have hL:=HD.o.lt;replace BR:=A_ (kb BR.o hK (by have:=GR.o;omega));replace BS:=A_ (kb BS.o hK (by have:=GS.o;omega));replace HL:=A_ (HL.o.keep hT hK d_);replace HD:=A_ (HD.o.drew hd);clear hd hK hT hL))
      have aH:(0<i)=True:=eq_true (by have:=HN.o;omega)
      cases z
      ·have qR:=bw4 BR.o
       have qS:=bw4 BS.o
       go_wp2
       refine rs_ #[.int .i64 2,.slice A1 i c1,.slice A2 2 c2,.slice A3 i c3] (by exact(tF BR.o).2.2.2) Try.underlying33 ?_;have hE:=And.intro (HL.o.tF (a:=.int .i64 2) (b:=.slice A1 i c1) (c:=.slice A2 2 c2) (d:=.slice A3 i c3) BR.o) (HD.o.tF GR.o (.int .i64 2) (.slice A1 i c1) (.slice A2 2 c2) (.slice A3 i c3))
       first|exact⟨_,_,_,(2:Int),rfl,hE⟩|exact⟨_,_,_,⟨_,rfl⟩,hE⟩
      ·obtain⟨g1,u1,rfl,_⟩:=HL.o.row0 (by have:=HN.o;omega)
       go_upto_region 27 with fail
       try go_wp2
       have hb:=qw (Below.refl W9.heap.size W9);replace HD:=A_ (HD.o.below hb);replace BR:=bb_ BR hb;replace BS:=bb_ BS hb;replace HL:=A_ (HL.o.below hb);clear hb;refine rM (n:=7) (S:=fun w'=>w'.cell? ⟨gS,1,none⟩=some (.slice (some ⟨g1,0,none⟩) i c1)) (ds:=[6]) (mk_ 7 0) K_ rfl rfl (bz1 BS.o) (fun aa=>?_);refine pz_ 0 85 (mk_ 7 1) ?_;refine pz_ 2 87 (mk_ 7 5) ?_
       refine Ea (i:=1) (N:=some 86) (v:=?_) (a':=?_) (mk_ 7 7) rfl rfl K_ (fun _ _ _ h=>h) (Or.inl ⟨rf,?_⟩) aa ?_ ?_;rotate_left
       ·intro w' s0
        go_simp;with_reducible rfl
       rotate_left
       ·simp only[Act.put,mD,mE,mF,uD,zn]
        rfl
       refine oz_ 3 (mk_ 7 15) (fun K hK=>?_);refine Bo (enc:=Value.int .i64) (h1:=fun _=>rfl) 3 ([-10,10,9]:List Int) ?hg (N:=88) ?hd ?hr d_ ?_;(case hg=>rfl);(case hd=>rfl);(case hr=>go_simp;done);rintro ai Wl ho hb;obtain⟨L,eL⟩:∃L:List Int,L=[-10,10,9]:=⟨_,rfl⟩;rw[←eL]at ho;have hl2:1≤L.length∧L.length≤256:=(by rw[eL];decide);clear eL;obtain⟨A,c,ev⟩:=Kd.mU ho;subst ev;obtain⟨f1,f2,_,f3⟩:=zL ho HD.o.cu.lt;have HF:=A_ (show Kd.C K1 _ A L.length L∧L.length≤c∧(∀ad,A=some ad→0<L.length→ad.block≠g)∧_ from⟨f1,f2,f3,hl2⟩);replace HD:=A_ (HD.o.below hb);replace BR:=bb_ BR hb;replace BS:=bb_ BS hb;replace HL:=A_ (HL.o.below hb);clear ho hb f1 f2 f3 hl2;refine hK.out _ _ (bz1 BS.o) (fun aa=>?_);clear hK K;refine nm_ 88 ?_
       refine oz_ 4 (mk_ 7 31) (fun K hK=>?_);refine wG Try.func51 K_ rfl #[.pointer (some ⟨g,0,none⟩),.slice A L.length c] rf rfl rfl (by simp only[mA,mB,mC];rfl) ?_
       with_reducible refine(H9 HD.o.cu HD.o.bl A c L HF.o.2.2.2 HF.o.1 HF.o.2.1 HF.o.2.2.1).mono ?_
       rintro e Wc ⟨y,rfl,hy,hd⟩;refine⟨_,rfl,?_⟩;clear hy;have hK:=hd.kp;have hT:=HD.o.cu.blk;have hL:=HD.o.lt;replace BR:=A_ (kb BR.o hK (by have:=GR.o;omega));replace BS:=A_ (kb BS.o hK (by have:=GS.o;omega));replace HL:=A_ (HL.o.keep hT hK d_);replace HD:=A_ (HD.o.drew hd);clear hd hK hT hL;refine hK.out _ _ (bz1 BS.o) (fun aa=>?_);clear hK K;refine nm_ 89 ?_;refine pz_ 5 90 (mk_ 7 63) ?_
       refine vI (i:=6) (N:=none) (mk_ 7 127) rfl rfl K_ d_ (fun K hK=>?_);obtain⟨g3,u3,ee,hc3,hf3,⟨aP,az⟩,hg3,aD⟩:=HL.o.row0 (by have:=HN.o;omega)
       cases ee
       refine uI (w1:=?_) rf rfl ?_ ?_;rotate_left
       ·go_simp
        rfl
       refine hK.out _ _ ?_;clear hK K;refine sZ K_ ?_;have NR:=uX BR.o az d_;have NS:=uX BS.o az d_
       generalize hW:Wc.setCell ⟨g1,0,none⟩ (.int .i64 y)=aG
       replace HL:=A_ (hW▸aD y:LnB aG w.heap.size _ _ _);replace HD:=A_ (hW▸HD.o.set hg3 0 _:Dn w0 w aG g bs);replace BR:=A_ (hW▸pQ BR.o NR _:aG.heap[gR]? =_);replace BS:=A_ (hW▸pQ BS.o NS _:aG.heap[gS]? =_);clear hW aD hg3 az hf3 hc3 NR NS aa;have qR:=bw4 BR.o;have qS:=bw4 BS.o
       go_wp2
       refine rs_ #[.int .i64 2,.slice (some ⟨g1,0,none⟩) i c1,.slice A2 2 c2,.slice A3 i c3] (by exact(tF BR.o).2.2.2) Try.underlying33 ?_;have hE:=And.intro (HL.o.tF (a:=.int .i64 2) (b:=.slice (some ⟨g1,0,none⟩) i c1) (c:=.slice A2 2 c2) (d:=.slice A3 i c3) BR.o) (HD.o.tF GR.o (.int .i64 2) (.slice (some ⟨g1,0,none⟩) i c1) (.slice A2 2 c2) (.slice A3 i c3))
       first|exact⟨_,_,_,(2:Int),rfl,hE⟩|exact⟨_,_,_,⟨_,rfl⟩,hE⟩
 ·go_upto_region 3 with(first|(go_at_call 61;(with_reducible refine(Cv.dr g bs w0 _ HD.o.cu HD.o.bl).mono ?_);rintro e W2 ⟨v1,v2,b,n,rfl,hs,hd,hx⟩;obtain⟨n1,A1,c1,rfl,n2,A2,c2,rfl⟩:=hs.forms;have HX:=A_ hx;have HS:=A_ (hs.lower HD.o.kp.1);have hK:=hd.kp;have hL:=HD.o.lt;replace BR:=A_ (kb BR.o hK (by have:=GR.o;omega));replace HD:=A_ (HD.o.drew hd);clear hs hd hx hK hL)|((with_reducible refine gt_ 3 ?_);refine be_ 3 #[.int .i64 0,.slice none 0 0,.slice none 0 0] 27 ?_;intro gS hg ay J hb;have NE:=A_ ((by rw[hg];exact Nat.ne_of_lt (pY BR.o)):gR≠gS);have BS:=A_ J;have GS:=A_ ((by rw[hg];exact HD.o.kp.1):w.heap.size≤gS);replace HD:=A_ (HD.o.below hb);replace BR:=bb_ BR hb;replace HS:=A_ (HS.o.below hb);have qS:=bw3 BS.o;clear hb J hg))
  clear qS
  generalize hW:((ay.setCell ⟨gS,0,none⟩ (.int .i64 b)).setCell ⟨gS,1,none⟩ (.slice A1 n1 c1)).setCell ⟨gS,2,none⟩ (.slice A2 n2 c2)=W6
  replace HS:=A_ (hW▸HS.o.uN BS.o:SqR W6 w.heap.size (.slice A1 n1 c1) (.slice A2 n2 c2) b n);replace HD:=A_ (hW▸((HD.o.set GS.o 0 _).set GS.o 1 _).set GS.o 2 _:Dn w0 w W6 g bs);replace BR:=A_ (hW▸pQ (pQ (pQ BR.o NE.o _) NE.o _) NE.o _:W6.heap[gR]? =some (.cells #[.int .i64 0,.slice none 0 0,.slice none 0 0,.slice none 0 0] 33 (0,0)));replace BS:=A_ (hW▸(uN BS.o).2.2:W6.heap[gS]? =some (.cells #[.int .i64 (b:Int),.slice A1 n1 c1,.slice A2 n2 c2] 27 (0,0)));clear hW
  try go_wp2
  have hb:=qw (Below.refl W6.heap.size W6);replace HD:=A_ (HD.o.below hb);replace BR:=bb_ BR hb;replace BS:=bb_ BS hb;replace HS:=A_ (HS.o.below hb);clear hb;refine rM (n:=10) (S:=fun w'=>cB3 gS (.int .i64 (b:Int)) (.slice A1 n1 c1) (.slice A2 n2 c2) w') (ds:=[8]) (mk_ 10 0) K_ rfl rfl (bc3 BS) (fun aa=>?_)
  generalize W6.drew=Wd at*
  refine pz_ 1 20 (mk_ 10 2) ?_;refine tz_ 0 19 (mk_ 10 3) aa ?_
  refine Cx (σ:=Int×Int×Value×Value×Value×Bool×Nat) 2 (mk_ 10 255) (fun s=>[(21,.int .i64 s.1),(22,.tuple #[.agg #[.int .i64 s.2.1,s.2.2.1,s.2.2.2.1,s.2.2.2.2.1],.bool s.2.2.2.2.2.1]),(18,.tuple #[.agg #[.int .i64 s.2.1,s.2.2.1,s.2.2.2.1,s.2.2.2.2.1],.bool s.2.2.2.2.2.1]),(23,.agg #[.int .i64 s.2.1,s.2.2.1,s.2.2.2.1,s.2.2.2.2.1]),(24,.bool s.2.2.2.2.2.1),(4,.pointer (some ⟨s.2.2.2.2.2.2,0,none⟩))]) (fun s W7=>Aside0 (Dn w0 w W7 g bs)∧Aside0 (W7.heap[gR]? =some (.cells #[.int .i64 0,.slice none 0 0,.slice none 0 0,.slice none 0 0] 33 (0,0)))∧Aside0 (W7.heap[gS]? =some (.cells #[.int .i64 (b:Int),.slice A1 n1 c1,.slice A2 n2 c2] 27 (0,0)))∧Aside0 (W7.heap[s.2.2.2.2.2.2]? =some (.cells #[.int .i64 0,.slice none 0 0,.slice none 0 0,.slice none 0 0] 33 (0,0)))∧Aside0 (w.heap.size≤s.2.2.2.2.2.2∧gR≠s.2.2.2.2.2.2)∧Aside0 (LnB W7 w.heap.size s.2.2.1 s.2.2.2.1 s.2.2.2.2.1)) ?_ ?_;rotate_left
  ·intro av
   refine F6 (i:=2) (j:=7) (Ni:=some 21) (Nj:=some 4) (mk_ 10 7) (mk_ 10 131) rfl rfl rfl rfl K_ d_ d_ (fun K hK=>?_) (fun K hK=>?_)
   ·skip
    refine wG Try.func50 K_ rfl #[.pointer (some ⟨g,0,none⟩),.int .i64 2] rf rfl rfl (by simp only[mA,mB,mC];rfl) ?_
    with_reducible refine(wO HD.o.cu HD.o.bl 2 om).mono ?_
    rintro e Wa ⟨y,rfl,hy,hd⟩;refine⟨_,rfl,?_⟩;clear hy;have hK:=hd.kp;have hT:=HD.o.cu.blk;have hL:=HD.o.lt;replace BR:=A_ (kb BR.o hK (by have:=GR.o;omega));replace BS:=A_ (kb BS.o hK (by have:=GS.o;omega));replace HS:=A_ (HS.o.keep hT hK d_);replace HD:=A_ (HD.o.drew hd);clear hd hK hT hL;refine hK.out _ _ (bc3 BS) (fun aa=>?_);clear hK K;refine nm_ 21 ?_
    refine F6 (i:=3) (j:=7) (Ni:=some 22) (Nj:=some 4) (mk_ 10 15) (mk_ 10 135) rfl rfl rfl rfl K_ d_ d_ (fun K hK=>?_) (fun K hK=>?_)
    ·skip
     refine wG Try.func11 K_ rfl #[.agg #[.int .i64 (b:Int),.slice A1 n1 c1,.slice A2 n2 c2],.int .i64 y] rf rfl rfl (by simp only[mA,mB,mC];rfl) ?_
     with_reducible refine(cCF ax.o HS.o (by have:=HX.o;omega) _ _).mono ?_
     rintro e Wb ⟨v1,v2,v3,b',r,rfl,hl,hb⟩;refine⟨_,rfl,?_⟩;have HL:=A_ (hl.lower HD.o.kp.1);replace HD:=A_ (HD.o.below hb);replace BR:=bb_ BR hb;replace BS:=bb_ BS hb;clear hl hb;refine hK.out _ _ (bc3 BS) (fun aa=>?_);clear hK K;refine nm_ 22 ?_;refine pz_ 4 18 (mk_ 10 31) ?_;refine pz_ 5 23 (mk_ 10 63) ?_;refine pz_ 6 24 (mk_ 10 127) ?_
     refine oz_ 7 (mk_ 10 255) (fun K hK=>?_);refine yn (w1:=?_) (v:=?_) rf rfl ?_ ?_;rotate_left 2
     ·go_simp
      constructor
      ·rfl
      ·rfl
     have hb:=pI (Below.refl Wb.heap.size Wb) (.cells #[.int .i64 0,.slice none 0 0,.slice none 0 0,.slice none 0 0] 33 (0,0));have BL:=A_ (xX Wb (.cells #[.int .i64 0,.slice none 0 0,.slice none 0 0,.slice none 0 0] 33 (0,0)));obtain⟨gL,ak⟩:∃gL,gL=Wb.heap.size:=⟨_,rfl⟩;have GL:=A_ (show w.heap.size≤gL∧gR≠gL from⟨by rw[ak];exact HD.o.kp.1,by rw[ak];exact Nat.ne_of_lt (pY BR.o)⟩);replace HD:=A_ (HD.o.below hb);replace BR:=bb_ BR hb;replace BS:=bb_ BS hb;replace HL:=A_ (HL.o.below hb);rw[←ak]at BL⊢;clear ak hb
     generalize Wb.alloc (.cells #[.int .i64 0,.slice none 0 0,.slice none 0 0,.slice none 0 0] 33 (0,0))=Wx at*
     refine hK.out _ _ (bc3 BS) (fun aa=>?_);clear hK K;refine nm_ 4 ?_
     exact vg (by simp only[rG,Act.put,mD,mE,mF]) (av (y,b',v1,v2,v3,r,gL) _ ⟨HD,BR,BS,BL,GL,HL⟩)
    ·skip
     refine yn (w1:=?_) (v:=?_) rf rfl ?_ ?_;rotate_left 2
     ·go_simp
      constructor
      ·rfl
      ·rfl
     have hb:=pI (Below.refl Wa.heap.size Wa) (.cells #[.int .i64 0,.slice none 0 0,.slice none 0 0,.slice none 0 0] 33 (0,0));have BL:=A_ (xX Wa (.cells #[.int .i64 0,.slice none 0 0,.slice none 0 0,.slice none 0 0] 33 (0,0)));obtain⟨gL,ak⟩:∃gL,gL=Wa.heap.size:=⟨_,rfl⟩;have GL:=A_ (show w.heap.size≤gL∧gR≠gL from⟨by rw[ak];exact HD.o.kp.1,by rw[ak];exact Nat.ne_of_lt (pY BR.o)⟩);replace HD:=A_ (HD.o.below hb);replace BR:=bb_ BR hb;replace BS:=bb_ BS hb;replace HS:=A_ (HS.o.below hb);rw[←ak]at BL⊢;clear ak hb
     generalize Wa.alloc (.cells #[.int .i64 0,.slice none 0 0,.slice none 0 0,.slice none 0 0] 33 (0,0))=Wx at*
     refine hK.out _ _ (bc3 BS) (fun aa=>?_);clear hK K;refine nm_ 4 ?_
     refine oz_ 3 (mk_ 10 143) (fun K hK=>?_);refine wG Try.func11 K_ rfl #[.agg #[.int .i64 (b:Int),.slice A1 n1 c1,.slice A2 n2 c2],.int .i64 y] rf rfl rfl (by simp only[mA,mB,mC];rfl) ?_
     with_reducible refine(cCF ax.o HS.o (by have:=HX.o;omega) _ _).mono ?_
     rintro e Wb ⟨v1,v2,v3,b',r,rfl,hl,hb⟩;refine⟨_,rfl,?_⟩;have HL:=A_ (hl.lower HD.o.kp.1);replace HD:=A_ (HD.o.below hb);replace BR:=bb_ BR hb;replace BS:=bb_ BS hb;replace BL:=bb_ BL hb;clear hl hb;refine hK.out _ _ (bc3 BS) (fun aa=>?_);clear hK K;refine nm_ 22 ?_;refine pz_ 4 18 (mk_ 10 159) ?_;refine pz_ 5 23 (mk_ 10 191) ?_;refine pz_ 6 24 (mk_ 10 255) ?_
     exact vg (by simp only[rG,Act.put,mD,mE,mF]) (av (y,b',v1,v2,v3,r,gL) _ ⟨HD,BR,BS,BL,GL,HL⟩)
   ·skip
    refine yn (w1:=?_) (v:=?_) rf rfl ?_ ?_;rotate_left 2
    ·go_simp
     constructor
     ·rfl
     ·rfl
    have hb:=pI (Below.refl Wd.heap.size Wd) (.cells #[.int .i64 0,.slice none 0 0,.slice none 0 0,.slice none 0 0] 33 (0,0));have BL:=A_ (xX Wd (.cells #[.int .i64 0,.slice none 0 0,.slice none 0 0,.slice none 0 0] 33 (0,0)));obtain⟨gL,ak⟩:∃gL,gL=Wd.heap.size:=⟨_,rfl⟩;have GL:=A_ (show w.heap.size≤gL∧gR≠gL from⟨by rw[ak];exact HD.o.kp.1,by rw[ak];exact Nat.ne_of_lt (pY BR.o)⟩);replace HD:=A_ (HD.o.below hb);replace BR:=bb_ BR hb;replace BS:=bb_ BS hb;replace HS:=A_ (HS.o.below hb);rw[←ak]at BL⊢;clear ak hb
    generalize Wd.alloc (.cells #[.int .i64 0,.slice none 0 0,.slice none 0 0,.slice none 0 0] 33 (0,0))=Wx at*
    refine hK.out _ _ (bc3 BS) (fun aa=>?_);clear hK K;refine nm_ 4 ?_
    refine oz_ 2 (mk_ 10 135) (fun K hK=>?_);refine wG Try.func50 K_ rfl #[.pointer (some ⟨g,0,none⟩),.int .i64 2] rf rfl rfl (by simp only[mA,mB,mC];rfl) ?_
    with_reducible refine(wO HD.o.cu HD.o.bl 2 om).mono ?_
    rintro e Wa ⟨y,rfl,hy,hd⟩;refine⟨_,rfl,?_⟩;clear hy;have hK:=hd.kp;have hT:=HD.o.cu.blk;have hL:=HD.o.lt;replace BR:=A_ (kb BR.o hK (by have:=GR.o;omega));replace BS:=A_ (kb BS.o hK (by have:=GS.o;omega));replace HS:=A_ (HS.o.keep hT hK d_);replace HD:=A_ (HD.o.drew hd);replace BL:=A_ (kb BL.o hK (by have:=GL.o.1;omega));clear hd hK hT hL;refine hK.out _ _ (bc3 BS) (fun aa=>?_);clear hK K;refine nm_ 21 ?_
    refine oz_ 3 (mk_ 10 143) (fun K hK=>?_);refine wG Try.func11 K_ rfl #[.agg #[.int .i64 (b:Int),.slice A1 n1 c1,.slice A2 n2 c2],.int .i64 y] rf rfl rfl (by simp only[mA,mB,mC];rfl) ?_
    with_reducible refine(cCF ax.o HS.o (by have:=HX.o;omega) _ _).mono ?_
    rintro e Wb ⟨v1,v2,v3,b',r,rfl,hl,hb⟩;refine⟨_,rfl,?_⟩;have HL:=A_ (hl.lower HD.o.kp.1);replace HD:=A_ (HD.o.below hb);replace BR:=bb_ BR hb;replace BS:=bb_ BS hb;replace BL:=bb_ BL hb;clear hl hb;refine hK.out _ _ (bc3 BS) (fun aa=>?_);clear hK K;refine nm_ 22 ?_;refine pz_ 4 18 (mk_ 10 159) ?_;refine pz_ 5 23 (mk_ 10 191) ?_;refine pz_ 6 24 (mk_ 10 255) ?_
    exact vg (by simp only[rG,Act.put,mD,mE,mF]) (av (y,b',v1,v2,v3,r,gL) _ ⟨HD,BR,BS,BL,GL,HL⟩)
  rintro⟨y,b',v1,v2,v3,r,gL⟩ W7 ⟨HD,BR,BS,BL,GL,HL⟩;replace HL:Aside0 (LnB W7 w.heap.size v1 v2 v3):=HL;replace GL:Aside0 (w.heap.size≤gL∧gR≠gL):=GL;replace BL:Aside0 (W7.heap[gL]? =some (.cells #[.int .i64 0,.slice none 0 0,.slice none 0 0,.slice none 0 0] 33 (0,0))):=BL;obtain⟨m1,B1,d1,rfl,m2,B2,d2,rfl,m3,B3,d3,rfl⟩:=HL.o.forms
  have aa:cB3 gS (.int .i64 (b:Int)) (.slice A1 n1 c1) (.slice A2 n2 c2) W7:=(bc3 BS)
  refine vg (a':=?_) ?_ ?_;rotate_left
  ·simp only[rG,Act.put,mD,mE,mF]
   rfl
  refine vI (i:=8) (N:=none) (mk_ 10 511) rfl rfl K_ d_ (fun K hK=>?_);have qL:=bw4 BL.o;refine uI (w1:=?_) rf rfl ?_ ?_;rotate_left
  ·go_simp
   rfl
  refine hK.out _ _ ?_;clear hK K;refine pz_ 9 5 (mk_ 10 1023) ?_
  refine sZ K_ ?_
  generalize hW:(((W7.setCell ⟨gL,0,none⟩ (.int .i64 b')).setCell ⟨gL,1,none⟩ (.slice B1 m1 d1)).setCell ⟨gL,2,none⟩ (.slice B2 m2 d2)).setCell ⟨gL,3,none⟩ (.slice B3 m3 d3)=W8
  replace HL:=A_ (hW▸HL.o.tF BL.o:LnB W8 w.heap.size (.slice B1 m1 d1) (.slice B2 m2 d2) (.slice B3 m3 d3));replace HD:=A_ (hW▸HD.o.tF GL.o.1 _ _ _ _:Dn w0 w W8 g bs);replace BR:=A_ (hW▸(F8 gR GL.o.2).trans BR.o:W8.heap[gR]? =some (.cells #[.int .i64 0,.slice none 0 0,.slice none 0 0,.slice none 0 0] 33 (0,0)));replace BL:=A_ (hW▸(tF BL.o).2.2.2:W8.heap[gL]? =some (.cells #[.int .i64 b',.slice B1 m1 d1,.slice B2 m2 d2,.slice B3 m3 d3] 33 (0,0)));clear hW qL aa BS HS;have qR:=bw4 BR.o;have qL:=bw4 BL.o
  go_wp2
  refine rs_ #[.int .i64 b',.slice B1 m1 d1,.slice B2 m2 d2,.slice B3 m3 d3] (by exact(tF BR.o).2.2.2) Try.underlying33 ?_;have hE:=And.intro (HL.o.tF (a:=.int .i64 b') (b:=.slice B1 m1 d1) (c:=.slice B2 m2 d2) (d:=.slice B3 m3 d3) BR.o) (HD.o.tF GR.o (.int .i64 b') (.slice B1 m1 d1) (.slice B2 m2 d2) (.slice B3 m3 d3))
  first|exact⟨_,_,_,_,rfl,hE⟩|exact⟨_,_,_,⟨_,rfl⟩,hE⟩
theorem F_ (b:List Int) (i h n:Int) (hc:zT b i) (h1:257≤n):∃x i' h',qU.f b i h n=some (x,i',h')∧zT b i':=by
 unfold qU.f;rw[if_neg om,if_neg om];obtain⟨x,i',h',e,_,hc'⟩:=xR b i h hc;obtain⟨y,i2,h2,e2,_,hc2⟩:=xR b i' h' hc';obtain⟨z,i3,h3,e3,_,hc3⟩:=xR b i2 h2 hc2;obtain⟨u,i4,h4,e4,_,hc4⟩:=xR b i3 h3 hc3;simp only[e,e2,e3,e4,Option.bind_some];rw[if_neg om];exact⟨_,_,_,rfl,hc4⟩
theorem Ez (b:List Int) (i h:Int) (l:List Int) (hc:zT b i) (hl:1≤l.length∧l.length≤256):∃x i' h',sN.f b i h l=some (x,i',h')∧zT b i':=by
 obtain⟨x,i',h',e,hx,hc'⟩:=vX b i h l.length hc om om;exact⟨_,i',h',by unfold sN.f;rw[e,Option.bind_some,if_pos hx.1,if_pos hx.2],hc'⟩
theorem PQ {w0 w:World} {g:Nat} {b:List Int} (hC:Cu w0 w g b) (hB:Below w0.heap.size w0 w):Calls Try.prog 48 #[.pointer (some ⟨g,0,none⟩)] w fun e w'=>∃r:Int,e=.returned (.int .i64 r)∧Dn w0 w w' g b:=by
 obtain⟨i,h,hI,hc⟩:=hC;obtain⟨x,i1,h1,e1,_,hc1⟩:=vX b i h 10 hc om om
 have hk:∃r i' h',uV.f b i h=some (r,i',h')∧zT b i':=by
  unfold uV.f uw.f;simp only[e1,Option.bind_some]
  by_cases hx:(x==0)=true
  ·rw[if_pos hx]
   obtain⟨y,i2,h2,e2,hc2⟩:=Ez b i1 h1 [-1,65535,65536,4294967295,4294967296,9223372036854775807] hc1 d_;rw[e2];exact⟨_,_,_,rfl,hc2⟩
  ·rw[if_neg hx]
   obtain⟨y,i2,h2,e2,hc2⟩:=F_ b i1 h1 300 hc1 om;rw[e2];exact⟨_,_,_,rfl,hc2⟩
 obtain⟨r,i',h',e,hc'⟩:=hk;exact(uV.calls g b i h r i' h' w0 w hI hB e).mono fun e w' ⟨he,hI',hB',hK⟩=>⟨r,he,⟨i',h',hI',hc'⟩,hB',hK,hI.lt,hB.size⟩
theorem Bl.dr (hcf:MM) (A0:Option Addr) (c0:Nat) (l:List Int) (w:World) (hr:Kd.C (Kd.int .u8) w A0 l.length l) (hc:l.length≤c0) (hl:l.length≤1048576):Calls Try.prog 14 #[.slice A0 l.length c0] w fun e w'=>∃v1 v2 v3 u1 u2 u3:Value,∃b x:Int,e=.returned (.tuple #[.agg #[.int .i64 b,v1,v2,v3],.agg #[.int .i64 x,u1,u2,u3]])∧LnB w' w.heap.size v1 v2 v3∧LnB w' w.heap.size u1 u2 u3∧Below w.heap.size w w':=by
 have aB:=Try.underlying33;have ax:=A_ hcf;have HB:=A_ (Below.refl w.heap.size w);have HC:=A_ hr;have HL:=A_ (And.intro hc hl);clear hr hc hl hcf;go_enter Try.func14,Try.ntmps14
 go_upto_region 3 with(first|((with_reducible refine gt_ 2 ?_);refine be_ 2 #[.int .i64 0,.slice none 0 0,.slice none 0 0,.slice none 0 0] 33 ?_;intro gR hg aI J hb;have BR:=A_ J;have GR:=A_ ((by rw[hg];exact HB.o.size):w.heap.size≤gR);replace HB:=bs_ HB hb;clear hb J hg)|((with_reducible refine gt_ 3 ?_);refine be_ 3 #[.int .i64 0,.slice none 0 0,.slice none 0 0,.slice none 0 0] 33 ?_;intro gQ hg aQ J hb;have NQ:=A_ ((by rw[hg];exact Nat.ne_of_lt (pY BR.o)):gR≠gQ);have BQ:=A_ J;have GQ:=A_ ((by rw[hg];exact HB.o.size):w.heap.size≤gQ);replace HB:=bs_ HB hb;replace BR:=bb_ BR hb;clear hb J hg)|(go_at_call 43;(with_reducible refine(Ou A0 c0 l w _ HB.o HC.o HL.o.1 HL.o.2).mono ?_);rintro e W1 ⟨g,rfl,hu,hB,hb⟩;have U:=A_ hu;replace BR:=bb_ BR hb;replace BQ:=bb_ BQ hb;replace HB:=A_ hB;clear hu hb hB)|(go_at_call 44;(with_reducible refine(xP.dr ax.o g l w _ U.o HB.o).mono ?_);rintro e W2 ⟨v1,v2,v3,b,rfl,hs,hd⟩;obtain⟨n1,A1,c1,rfl,n2,A2,c2,rfl,n3,A3,c3,rfl⟩:=hs.forms;have HS:=A_ (hs.lower HB.o.size);obtain⟨cs,aj⟩:=U.o.blk;replace BR:=A_ (kb BR.o hd.kp (uX BR.o aj d_));replace BQ:=A_ (kb BQ.o hd.kp (uX BQ.o aj d_));replace U:=A_ hd.cu;replace HB:=A_ hd.bl;clear hs hd aj)|((with_reducible refine gt_ 5 ?_);refine be_ 5 #[.int .i64 0,.slice none 0 0,.slice none 0 0,.slice none 0 0] 33 ?_;intro gS hg ay J hb;have NE:=A_ ((by rw[hg];exact Nat.ne_of_lt (pY BR.o)):gR≠gS);have NT:=A_ ((by rw[hg];exact Nat.ne_of_lt (pY BQ.o)):gQ≠gS);have NC:=A_ ((by rw[hg];exact Nat.ne_of_gt U.o.lt):gS≠g);have BS:=A_ J;have GS:=A_ ((by rw[hg];exact HB.o.size):w.heap.size≤gS);replace HB:=bs_ HB hb;replace U:=A_ (U.o.below hb);replace BR:=bb_ BR hb;replace BQ:=bb_ BQ hb;replace HS:=A_ (HS.o.below hb);have qS:=bw4 BS.o;clear hb J hg))
 clear qS
 generalize hW:(((ay.setCell ⟨gS,0,none⟩ (.int .i64 b)).setCell ⟨gS,1,none⟩ (.slice A1 n1 c1)).setCell ⟨gS,2,none⟩ (.slice A2 n2 c2)).setCell ⟨gS,3,none⟩ (.slice A3 n3 c3)=W3
 replace HS:=A_ (hW▸HS.o.tF BS.o:LnB W3 w.heap.size (.slice A1 n1 c1) (.slice A2 n2 c2) (.slice A3 n3 c3));obtain⟨i,hh,hI,aj⟩:=U.o;replace U:=A_ (show Cu w W3 g l from⟨i,hh,hW▸((((hI.far (by exact Ne.symm NC.o) _).far (by exact Ne.symm NC.o) _).far (by exact Ne.symm NC.o) _).far (by exact Ne.symm NC.o) _),aj⟩);replace HB:=A_ (hW▸mY (mY (mY (mY HB.o GS.o) GS.o) GS.o) GS.o:Below w.heap.size w W3);replace BR:=A_ (hW▸(F8 gR NE.o).trans BR.o:W3.heap[gR]? =some (.cells #[.int .i64 0,.slice none 0 0,.slice none 0 0,.slice none 0 0] 33 (0,0)));replace BQ:=A_ (hW▸(F8 gQ NT.o).trans BQ.o:W3.heap[gQ]? =some (.cells #[.int .i64 0,.slice none 0 0,.slice none 0 0,.slice none 0 0] 33 (0,0)));replace BS:=A_ (hW▸(tF BS.o).2.2.2:W3.heap[gS]? =some (.cells #[.int .i64 b,.slice A1 n1 c1,.slice A2 n2 c2,.slice A3 n3 c3] 33 (0,0)));clear hW hI aj
 try go_wp2
 have hb:=qw (Below.refl W3.heap.size W3);replace BR:=bb_ BR hb;replace BQ:=bb_ BQ hb;replace BS:=bb_ BS hb;replace HS:=A_ (HS.o.below hb);replace U:=A_ (U.o.below hb);replace HB:=bs_ HB hb;clear hb;refine rM (n:=5) (S:=fun w'=>cB4 gS (.int .i64 b) (.slice A1 n1 c1) (.slice A2 n2 c2) (.slice A3 n3 c3) w') (ds:=[3,4]) (mk_ 5 0) K_ rfl rfl (bc4 BS) (fun aa=>?_);refine pz_ 1 11 (mk_ 5 2) ?_;refine tz_ 0 10 (mk_ 5 3) aa ?_
 refine oz_ 2 (mk_ 5 7) (fun K hK=>?_);refine wG Try.func44 K_ rfl #[.pointer (some ⟨g,0,none⟩)] rf rfl rfl (by simp only[mA,mB,mC];rfl) ?_
 with_reducible refine(xP.dr ax.o g l w _ U.o HB.o).mono ?_
 rintro e W4 ⟨u1,u2,u3,x,rfl,hs,hd⟩;refine⟨_,rfl,?_⟩;obtain⟨m1,D1,e1,rfl,m2,D2,e2,rfl,m3,D3,e3,rfl⟩:=hs.forms;have HT:=A_ (hs.lower HB.o.size);clear hs;obtain⟨cs,aj⟩:=U.o.blk;replace BR:=A_ (kb BR.o hd.kp (uX BR.o aj d_));replace BQ:=A_ (kb BQ.o hd.kp (uX BQ.o aj d_));replace BS:=A_ (kb BS.o hd.kp NC.o);replace HS:=A_ (HS.o.keep U.o.blk hd.kp d_);replace U:=A_ hd.cu;replace HB:=A_ hd.bl;clear hd aj;refine hK.out _ _ (bc4 BS) (fun aa=>?_);clear hK K;refine nm_ 12 ?_
 refine vI (i:=3) (N:=none) (mk_ 5 15) rfl rfl K_ d_ (fun K hK=>?_);have qR:=bw4 BR.o;refine uI (w1:=?_) rf rfl ?_ ?_;rotate_left
 ·go_simp
  rfl
 refine hK.out _ _ ?_;clear hK K;refine vI (i:=4) (N:=none) (mk_ 5 31) rfl rfl K_ d_ (fun K hK=>?_)
 generalize hW:(((W4.setCell ⟨gR,0,none⟩ (.int .i64 b)).setCell ⟨gR,1,none⟩ (.slice A1 n1 c1)).setCell ⟨gR,2,none⟩ (.slice A2 n2 c2)).setCell ⟨gR,3,none⟩ (.slice A3 n3 c3)=W5
 replace HS:=A_ (hW▸HS.o.tF BR.o:LnB W5 w.heap.size (.slice A1 n1 c1) (.slice A2 n2 c2) (.slice A3 n3 c3));replace HT:=A_ (hW▸HT.o.tF BR.o:LnB W5 w.heap.size (.slice D1 m1 e1) (.slice D2 m2 e2) (.slice D3 m3 e3));replace BQ:=A_ (hW▸(F8 gQ (Ne.symm NQ.o)).trans BQ.o:W5.heap[gQ]? =some (.cells #[.int .i64 0,.slice none 0 0,.slice none 0 0,.slice none 0 0] 33 (0,0)));replace HB:=A_ (hW▸mY (mY (mY (mY HB.o GR.o) GR.o) GR.o) GR.o:Below w.heap.size w W5);replace BR:=A_ (hW▸(tF BR.o).2.2.2:W5.heap[gR]? =some (.cells #[.int .i64 b,.slice A1 n1 c1,.slice A2 n2 c2,.slice A3 n3 c3] 33 (0,0)));clear hW qR;have qQ:=bw4 BQ.o;refine uI (w1:=?_) rf rfl ?_ ?_;rotate_left
 ·go_simp
  rfl
 refine hK.out _ _ ?_;clear hK K;refine sZ K_ ?_;clear aa
 generalize hW:(((W5.setCell ⟨gQ,0,none⟩ (.int .i64 x)).setCell ⟨gQ,1,none⟩ (.slice D1 m1 e1)).setCell ⟨gQ,2,none⟩ (.slice D2 m2 e2)).setCell ⟨gQ,3,none⟩ (.slice D3 m3 e3)=W6
 replace HS:=A_ (hW▸HS.o.tF BQ.o:LnB W6 w.heap.size (.slice A1 n1 c1) (.slice A2 n2 c2) (.slice A3 n3 c3));replace HT:=A_ (hW▸HT.o.tF BQ.o:LnB W6 w.heap.size (.slice D1 m1 e1) (.slice D2 m2 e2) (.slice D3 m3 e3));replace BR:=A_ (hW▸(F8 gR NQ.o).trans BR.o:W6.heap[gR]? =some (.cells #[.int .i64 b,.slice A1 n1 c1,.slice A2 n2 c2,.slice A3 n3 c3] 33 (0,0)));replace HB:=A_ (hW▸mY (mY (mY (mY HB.o GQ.o) GQ.o) GQ.o) GQ.o:Below w.heap.size w W6);replace BQ:=A_ (hW▸(tF BQ.o).2.2.2:W6.heap[gQ]? =some (.cells #[.int .i64 x,.slice D1 m1 e1,.slice D2 m2 e2,.slice D3 m3 e3] 33 (0,0)));clear hW qQ
 go_wp2
 refine bodyPost_ret (IC rfl _ _ gR gQ 33 33 #[.int .i64 b,.slice A1 n1 c1,.slice A2 n2 c2,.slice A3 n3 c3] #[.int .i64 x,.slice D1 m1 e1,.slice D2 m2 e2,.slice D3 m3 e3] (0,0) (0,0) _ _ rfl BR.o Try.underlying33 rfl K_ rfl BQ.o Try.underlying33 rfl K_) rfl ?_;have hE:=And.intro HS.o (And.intro HT.o HB.o)
 first|exact⟨_,_,_,_,_,_,b,x,rfl,hE⟩|exact⟨_,_,_,_,_,_,⟨b,x,rfl⟩,hE⟩|exact⟨_,_,_,⟨_,_,_,⟨b,x,rfl⟩⟩,hE⟩
theorem yH.dr (hcf:MM) (A0:Option Addr) (c0:Nat) (l:List Int) (w:World) (hr:Kd.C (Kd.int .u8) w A0 l.length l) (hc:l.length≤c0) (hl:l.length≤1048576):Calls Try.prog 24 #[.slice A0 l.length c0] w fun e w'=>∃v1 v2 v3:Value,∃b x:Int,e=.returned (.tuple #[.agg #[.int .i64 b,v1,v2,v3],.int .i64 x])∧LnB w' w.heap.size v1 v2 v3∧Below w.heap.size w w':=by
 have aB:=Try.underlying33;have ax:=A_ hcf;have HB:=A_ (Below.refl w.heap.size w);have HC:=A_ hr;have HL:=A_ (And.intro hc hl);clear hr hc hl hcf;go_enter Try.func24,Try.ntmps24
 go_upto_region 3 with(first|((with_reducible refine gt_ 2 ?_);refine be_ 2 #[.int .i64 0,.slice none 0 0,.slice none 0 0,.slice none 0 0] 33 ?_;intro gR hg aI J hb;have BR:=A_ J;have GR:=A_ ((by rw[hg];exact HB.o.size):w.heap.size≤gR);replace HB:=bs_ HB hb;clear hb J hg)|(go_at_call 43;(with_reducible refine(Ou A0 c0 l w _ HB.o HC.o HL.o.1 HL.o.2).mono ?_);rintro e W1 ⟨g,rfl,hu,hB,hb⟩;have U:=A_ hu;replace BR:=bb_ BR hb;replace HB:=A_ hB;clear hu hb hB)|(go_at_call 44;(with_reducible refine(xP.dr ax.o g l w _ U.o HB.o).mono ?_);rintro e W2 ⟨v1,v2,v3,b,rfl,hs,hd⟩;obtain⟨n1,A1,c1,rfl,n2,A2,c2,rfl,n3,A3,c3,rfl⟩:=hs.forms;have HS:=A_ (hs.lower HB.o.size);obtain⟨cs,aj⟩:=U.o.blk;replace BR:=A_ (kb BR.o hd.kp (uX BR.o aj d_));replace U:=A_ hd.cu;replace HB:=A_ hd.bl;clear hs hd aj)|((with_reducible refine gt_ 5 ?_);refine be_ 5 #[.int .i64 0,.slice none 0 0,.slice none 0 0,.slice none 0 0] 33 ?_;intro gS hg ay J hb;have NE:=A_ ((by rw[hg];exact Nat.ne_of_lt (pY BR.o)):gR≠gS);have NC:=A_ ((by rw[hg];exact Nat.ne_of_gt U.o.lt):gS≠g);have BS:=A_ J;have GS:=A_ ((by rw[hg];exact HB.o.size):w.heap.size≤gS);replace HB:=bs_ HB hb;replace U:=A_ (U.o.below hb);replace BR:=bb_ BR hb;replace HS:=A_ (HS.o.below hb);have qS:=bw4 BS.o;clear hb J hg))
 clear qS
 generalize hW:(((ay.setCell ⟨gS,0,none⟩ (.int .i64 b)).setCell ⟨gS,1,none⟩ (.slice A1 n1 c1)).setCell ⟨gS,2,none⟩ (.slice A2 n2 c2)).setCell ⟨gS,3,none⟩ (.slice A3 n3 c3)=W3
 replace HS:=A_ (hW▸HS.o.tF BS.o:LnB W3 w.heap.size (.slice A1 n1 c1) (.slice A2 n2 c2) (.slice A3 n3 c3));obtain⟨i,hh,hI,aj⟩:=U.o;replace U:=A_ (show Cu w W3 g l from⟨i,hh,hW▸((((hI.far (by exact Ne.symm NC.o) _).far (by exact Ne.symm NC.o) _).far (by exact Ne.symm NC.o) _).far (by exact Ne.symm NC.o) _),aj⟩);replace HB:=A_ (hW▸mY (mY (mY (mY HB.o GS.o) GS.o) GS.o) GS.o:Below w.heap.size w W3);replace BR:=A_ (hW▸(F8 gR NE.o).trans BR.o:W3.heap[gR]? =some (.cells #[.int .i64 0,.slice none 0 0,.slice none 0 0,.slice none 0 0] 33 (0,0)));replace BS:=A_ (hW▸(tF BS.o).2.2.2:W3.heap[gS]? =some (.cells #[.int .i64 b,.slice A1 n1 c1,.slice A2 n2 c2,.slice A3 n3 c3] 33 (0,0)));clear hW hI aj
 try go_wp2
 have hb:=qw (Below.refl W3.heap.size W3);replace BR:=bb_ BR hb;replace BS:=bb_ BS hb;replace HS:=A_ (HS.o.below hb);replace U:=A_ (U.o.below hb);replace HB:=bs_ HB hb;clear hb;refine rM (n:=5) (S:=fun w'=>cB4 gS (.int .i64 b) (.slice A1 n1 c1) (.slice A2 n2 c2) (.slice A3 n3 c3) w') (ds:=[3]) (mk_ 5 0) K_ rfl rfl (bc4 BS) (fun aa=>?_);refine pz_ 1 11 (mk_ 5 2) ?_;refine tz_ 0 10 (mk_ 5 3) aa ?_
 refine oz_ 2 (mk_ 5 7) (fun K hK=>?_);refine wG Try.func48 K_ rfl #[.pointer (some ⟨g,0,none⟩)] rf rfl rfl (by simp only[mA,mB,mC];rfl) ?_
 with_reducible refine(PQ U.o HB.o).mono ?_
 rintro e W4 ⟨x,rfl,hd⟩;refine⟨_,rfl,?_⟩;obtain⟨cs,aj⟩:=U.o.blk;replace BR:=A_ (kb BR.o hd.kp (uX BR.o aj d_));replace BS:=A_ (kb BS.o hd.kp NC.o);replace HS:=A_ (HS.o.keep U.o.blk hd.kp d_);replace U:=A_ hd.cu;replace HB:=A_ hd.bl;clear hd aj;refine hK.out _ _ (bc4 BS) (fun aa=>?_);clear hK K;refine nm_ 12 ?_
 refine vI (i:=3) (N:=none) (mk_ 5 15) rfl rfl K_ d_ (fun K hK=>?_);have qR:=bw4 BR.o;refine uI (w1:=?_) rf rfl ?_ ?_;rotate_left
 ·go_simp
  rfl
 refine hK.out _ _ ?_;clear hK K;refine pz_ 4 3 (mk_ 5 31) ?_
 refine sZ K_ ?_;clear aa
 generalize hW:(((W4.setCell ⟨gR,0,none⟩ (.int .i64 b)).setCell ⟨gR,1,none⟩ (.slice A1 n1 c1)).setCell ⟨gR,2,none⟩ (.slice A2 n2 c2)).setCell ⟨gR,3,none⟩ (.slice A3 n3 c3)=W5
 replace HS:=A_ (hW▸HS.o.tF BR.o:LnB W5 w.heap.size (.slice A1 n1 c1) (.slice A2 n2 c2) (.slice A3 n3 c3));replace HB:=A_ (hW▸mY (mY (mY (mY HB.o GR.o) GR.o) GR.o) GR.o:Below w.heap.size w W5);replace BR:=A_ (hW▸(tF BR.o).2.2.2:W5.heap[gR]? =some (.cells #[.int .i64 b,.slice A1 n1 c1,.slice A2 n2 c2,.slice A3 n3 c3] 33 (0,0)));clear hW qR
 go_wp2
 refine bodyPost_ret (vB rfl _ _ gR 33 #[.int .i64 b,.slice A1 n1 c1,.slice A2 n2 c2,.slice A3 n3 c3] (0,0) _ rfl BR.o Try.underlying33 rfl K_) rfl ?_;have hE:=And.intro HS.o HB.o
 first|exact⟨_,_,_,b,x,rfl,hE⟩|exact⟨_,_,_,⟨b,x,rfl⟩,hE⟩
end Go.Proofs.Ytiingconapodpaa.PFnLinear
