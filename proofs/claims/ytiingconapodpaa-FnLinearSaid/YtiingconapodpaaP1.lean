/- The machine side of one law: some contracts printed by this session's own program, some typed by hand. -/
import Derived.Test.YtiingconapodpaaW
import Derived.Test.YtiingconapodpaaP0
namespace Go.Proofs.Ytiingconapodpaa.PFnLinear
open Go.RowKit Go.Proofs.YtiingconapodpaaW Go.Proofs.YtiingconapodpaaW.PrintWords Go.Proofs.YtiingconapodpaaW.PrintLast Go.Proofs.YtiingconapodpaaW.PrintMore
attribute [local go_sem] pO pJ qj qm oZ oW pK pM
set_option linter.unusedVariables false
set_option maxHeartbeats 8000000
set_option maxRecDepth 100000
set_option linter.unusedSimpArgs false
mutual
def ny.l0:Nat→Int→Int→List (List Int)→List (List Int)→Int→Int→Option ((List (List Int)))
 |0,_,_,_,_,_,_=>none
 |k+1,x8,da,bL,cY,eN,bD=>if bD<eN then(if 0≤bD then(if bD<(cY.length:Int)then(if bD<(bL.length:Int)then(if 0≤da then(if da<((f_ cY bD).length:Int)then(if 0≤(rd (f_ cY bD) da)then(if(rd (f_ cY bD) da)<((f_ bL bD).length:Int)then(ny.l1 k x8 da (bL.set (bD:Int).toNat ((f_ bL bD).set ((rd (f_ cY bD) da):Int).toNat (wrap64 ((rd (f_ bL bD) (rd (f_ cY bD) da))+1)))) bD cY eN bD (f_ cY bD) ((f_ cY bD).length:Int) 0)else(none))else(none))else(none))else(none))else(none))else(none))else(none))else(some bL)
def ny.l1:Nat→Int→Int→List (List Int)→Int→List (List Int)→Int→Int→List Int→Int→Int→Option ((List (List Int)))
 |0,_,_,_,_,_,_,_,_,_,_=>none
 |k+1,x8,da,bL,bH,cY,eN,bD,cP,ix,bZ=>if bZ<ix then(if 0≤bZ then(if bZ<(cP.length:Int)then(if bZ<da then(if 0≤bH then(if bH<(bL.length:Int)then(if 0≤(wrap64 (x8+(rd cP bZ)))then(if(wrap64 (x8+(rd cP bZ)))<((f_ bL bH).length:Int)then((some (bL.set (bH:Int).toNat ((f_ bL bH).set ((wrap64 (x8+(rd cP bZ))):Int).toNat (wrap64 ((rd (f_ bL bH) (wrap64 (x8+(rd cP bZ))))+1))):List (List Int))).bind fun az=>(if 0≤(wrap64 (x8+bH))then(if(wrap64 (x8+bH))<(bL.length:Int)then(if(wrap64 (x8+(rd cP bZ)))<((f_ az (wrap64 (x8+bH))).length:Int)then(ny.l1 k x8 da (az.set ((wrap64 (x8+bH)):Int).toNat ((f_ az (wrap64 (x8+bH))).set ((wrap64 (x8+(rd cP bZ))):Int).toNat (wrap64 ((rd (f_ az (wrap64 (x8+bH))) (wrap64 (x8+(rd cP bZ))))+1)))) bH cY eN bD cP ix (wrap64 (bZ+1)))else(none))else(none))else(none)))else(none))else(none))else(none))else(none))else(if 0≤(wrap64 (x8+bH))then(if(wrap64 (x8+bH))<(bL.length:Int)then(if 0≤(wrap64 (x8+(rd cP bZ)))then(if(wrap64 (x8+(rd cP bZ)))<((f_ bL (wrap64 (x8+bH))).length:Int)then(ny.l1 k x8 da (bL.set ((wrap64 (x8+bH)):Int).toNat ((f_ bL (wrap64 (x8+bH))).set ((wrap64 (x8+(rd cP bZ))):Int).toNat (wrap64 ((rd (f_ bL (wrap64 (x8+bH))) (wrap64 (x8+(rd cP bZ))))+1)))) bH cY eN bD cP ix (wrap64 (bZ+1)))else(none))else(none))else(none))else(none)))else(none))else(none))else(ny.l0 k x8 da bL cY eN (wrap64 (bD+1)))
end
def ny.f (k:Nat) (l0:List (List Int)) (a1:Int) (a2:Int):Option ((List (List Int))):=(p_.f k (wrap64 (2*a1))).bind fun b6=>(ny.l0 k a1 a2 b6 l0 (l0.length:Int) 0)
def ny.T19:Bool×List (List Nat×List Nat):=(true,[([],[]),([],[]),([0,1],[0,1]),([2],[2]),([],[]),([],[]),([4,5],[4,5]),([6],[6]),([3,7],[3,7]),([8],[8]),([9],[9]),([3,7,0,1,2,3,4,5,6,7,8,9,10],[3,7]),([11,10,0,1,2,3,4,5,6,7,8,9,10],[10,11])])
def ny.B19:List Nat:=[0,0,3,7,0,0,48,112,255,511,1023,2047,4095]
theorem ny.Ka:uf .any (opsOf Try.f10 19)=ny.T19:=K_
theorem ny.FB:rV ny.T19.2 ny.B19=true:=K_
mutual
def mV.j0:Nat→Int→Bool→Int→List (List Int)→List Int→Option (Int×List Int×(List (List (List Int)))×List Int×Bool)
 |0,_,_,_,_,_=>none
 |k+1,x1,jT,aX,aD,aY=>if jT=true then(some (0,([]:List Int),([]:List (List (List Int))),([]:List Int),false))else(if 0≤(wrap64 (2*(aD.length:Int)))then(if(wrap64 (2*(aD.length:Int)):Int).toNat≤35184372088832 then((some (List.replicate (wrap64 (2*(aD.length:Int)):Int).toNat 0:List Int)).bind fun aQ=>(if 0<(aQ.length:Int)then(mV.l0 k x1 (aD.length:Int) aY (aY.length:Int) 0 aX aD aY aX (aQ.set (0:Int).toNat 1) (List.replicate (wrap64 (2*(aD.length:Int)):Int).toNat 0))else(none)))else(none))else(none))
def mV.l0:Nat→Int→Int→List Int→Int→Int→Int→List (List Int)→List Int→Int→List Int→List Int→Option (Int×List Int×(List (List (List Int)))×List Int×Bool)
 |0,_,_,_,_,_,_,_,_,_,_,_=>none
 |k+1,x1,x8,iv,jx,dX,aX,aD,aY,bq,br,bi=>if dX<jx then(if 0≤dX then(if dX<(iv.length:Int)then((uQ.f ((rd iv dX)==x1)).bind fun b7=>(if 0≤(wrap64 (x8+dX))then(if(wrap64 (x8+dX))<(bi.length:Int)then(mV.l0 k x1 x8 iv jx (wrap64 (dX+1)) aX aD aY bq br (bi.set ((wrap64 (x8+dX)):Int).toNat b7))else(none))else(none)))else(none))else(none))else(mV.l1 k x8 aX 0 aX aD aY bq br ([]:List (List (List Int))) bi)
def mV.l1:Nat→Int→Int→Int→Int→List (List Int)→List Int→Int→List Int→List (List (List Int))→List Int→Option (Int×List Int×(List (List (List Int)))×List Int×Bool)
 |0,_,_,_,_,_,_,_,_,_,_=>none
 |k+1,x8,jy,iw,aX,aD,aY,bq,br,bM,bi=>if iw<jy then((ny.f k aD x8 iw).bind fun a7=>(if bM.length<5864062014805 then(mV.l1 k x8 jy (wrap64 (iw+1)) aX aD aY bq br (bM++[a7]) bi)else(none)))else(some (bq,br,bM,bi,true))
end
def mV.f (k:Nat) (bu:Int) (ba:List (List Int)) (bc:List Int) (a1:Int) (a2:Bool):Option (Int×List Int×(List (List (List Int)))×List Int×Bool):=if a2=true then((uK.f a1).bind fun cX=>(mV.j0 k a1 (!cX) bu ba bc))else(mV.j0 k a1 true bu ba bc)
def mV.T5:Bool×List (List Nat×List Nat):=(true,[([],[]),([0],[0]),([],[]),([2],[2]),([3,3],[3]),([],[]),([5],[5]),([6,6],[6]),([1,4,7],[1,4,7]),([],[]),([9,8,0,1,2,3,4,5,6,7,8,9],[8,9])])
def mV.B5:List Nat:=[0,1,0,4,12,0,32,96,255,0,1023]
theorem mV.Em:uf .any (opsOf Try.f10 5)=mV.T5:=K_
theorem mV.zx:rV mV.T5.2 mV.B5=true:=K_
def mV.T10:Bool×List (List Nat×List Nat):=(true,[([],[]),([0],[0]),([],[]),([],[]),([2,3],[2,3]),([],[]),([],[]),([5,6],[5,6]),([7],[7]),([1,4,0,1,2,3,4,5,6,7,8],[1,4]),([9,8,8,0,1,2,3,4,5,6,7,8],[8,9])])
def mV.B10:List Nat:=[0,1,0,0,12,0,0,96,224,511,1023]
theorem mV.O1:uf .any (opsOf Try.f10 10)=mV.T10:=K_
theorem mV.OL:rV mV.T10.2 mV.B10=true:=K_
def pW.f (k:Nat) (bu:Int) (ba:List (List Int)) (bc:List Int) (a1:Int):Option (Int×List Int×(List (List (List Int)))×List Int×Bool):=(su.f k bu ba bc).bind fun t=>mV.f k t.1 t.2.1 t.2.2.1 a1 t.2.2.2
theorem pW.Iy (k:Nat) (bu:Int) (eu:Nat→Prop) (bN:Option Addr) (bP:Nat) (ba:List (List Int)) (b1:Option Addr) (b2:Nat) (bc:List Int) (a1:Int) (r1:Int) (r2:List Int) (r3:List (List (List Int))) (r4:List Int) (r5:Bool) (w:World) (j3:Kd.V (Kd.slice 3 (Kd.int .i64)) 25 w w.heap.size (fun k_=>eu k_) (.slice bN ba.length bP) ba) (cI:Kd.C (Kd.int .i64) w b1 bc.length bc) (cd:bc.length≤b2) (aw:Int) (ab:List (List Int)) (ax:List Int) (dv:Bool) (jU:su.f k bu ba bc=some (aw,ab,ax,dv)) (mq:mV.f k aw ab ax a1 dv=some (r1,r2,r3,r4,r5)):
  Calls Try.prog 10 #[.agg #[.int .i64 bu,.slice bN ba.length bP,.slice b1 bc.length b2],.int .i64 a1] w fun e w'=>∃wb:World,Below w.heap.size w wb∧∃j4 lg j5:Value,e=.returned (.tuple #[.agg #[.int .i64 r1,j4,lg,j5],.bool r5])∧Kd.R (Kd.int .i64) 3 w' wb.heap.size (o1 j5) j4 r2∧Kd.R (Kd.slice 25 (Kd.slice 3 (Kd.int .i64))) 24 w' wb.heap.size (o2 j4 j5) lg r3∧Kd.R (Kd.int .i64) 3 w' wb.heap.size (o1 j4) j5 r4∧Below w.heap.size w w':=by
 have FE:=Try.underlying33;have FK:=Try.underlying27;have bF:=A_ (show Kd.V (Kd.slice 3 (Kd.int .i64)) 25 w w.heap.size (fun k_=>(eu k_∨w.heap.size≤k_)) (.slice bN ba.length bP) ba from Kd.tq j3 (fun k_ hk=>.inl hk));have dV:=A_ cI;have dT:=A_ cd;clear cI cd;have HB:=A_ (Below.refl w.heap.size w);have A3:=A_ jU;have HH:=A_ mq;clear jU mq
 have H:(if dv=true then((uK.f a1).bind fun cX=>(mV.j0 k a1 (!cX) aw ab ax))else(mV.j0 k a1 true aw ab ax))=some (r1,r2,r3,r4,r5):=HH.o
 have sS:=A_ H;clear H;go_enter Try.func10,Try.ntmps10
 go_upto_region 2 with(first|((with_reducible refine gt_ 2 ?_);refine be_ 2 #[.int .i64 bu,.slice bN ba.length bP,.slice b1 bc.length b2] 27 ?_;intro dW hg w4 eT hb;replace bF:=A_ (Kd.rX (Kd.sU bF.o dW (Nat.le_of_eq hg.symm)) hb);have bE:=A_ (eT);have eP:=lh_ HB hg;have eO:=lh_ HB hg;replace HB:=bs_ HB hb;clear hb eT hg)|((with_reducible refine gt_ 4 ?_);refine be_ 4 #[.int .i64 0,.slice none 0 0,.slice none 0 0,.slice none 0 0] 33 ?_;intro bf hg w5 eT hb;replace bF:=A_ (Kd.rX (Kd.sU bF.o bf (Nat.le_of_eq hg.symm)) hb);have ai:=A_ (eT);have iy:=lh_ HB hg;have bC:=lh_ HB hg;replace HB:=bs_ HB hb;have cU:=nl_ bE hg;have cS:=ng_ bE hg;replace bE:=bb_ bE hb;clear hb eT hg;have jF:=cU.o;have jH:=cS.o;have g5:=bq3 bE.o)|((with_reducible refine gc_ 35 rfl ?_);refine cM_ E35 20 (su.calls k bu (fun k_=>(((eu k_∨w.heap.size≤k_)∧k_≠dW)∧k_≠bf)) _ _ ba _ _ bc aw ab ax dv _ bF.o (Kd.mO dV.o HB.o) dT.o A3.o) ?_;rintro e wb ⟨jN,jO,rfl,ho0,ho1,hb⟩;refine⟨_,rfl,?_⟩;obtain⟨At,ct,F3⟩:=Kd.wP ho0;subst F3;obtain⟨Au,cu,F4⟩:=Kd.mU ho1;subst F4;have F5:=A_ (Kd.wX ho0).2.2;have MF:=A_ (Kd.wX ho0).2.1;have Gd:=A_ (Kd.mX ho1).2.2;have Ni:=A_ (Kd.mX ho1).2.1;have lL:=bb_ ai hb;have lI:=bs_ HB hb;clear ai HB bF dV dT bE eP eO;have ai:=lL;clear lL;have HB:=A_ (Below.refl wb.heap.size wb))|((with_reducible refine gt_ 6 ?_);refine be_ 6 #[.int .i64 0,.slice none 0 0,.slice none 0 0] 27 ?_;intro aU hg w6 eT hb;have al:=A_ (eT);have iz:=A_ ((by rw[hg];exact(mK HB.o):wb.heap.size≤aU));have bO:=A_ ((by rw[hg];exact(mK HB.o):wb.heap.size≤aU));replace HB:=bs_ HB hb;have ar:=nl_ ai hg;have aT:=ng_ ai hg;replace ai:=bb_ ai hb;clear hb eT hg;have jG:=aT.o;have jI:=ar.o;have el:=bq3 al.o))
 (try simp only[Act.put,mD,mE,mF])
 go_cut [29] (fun jJ wc=>∃ (kq:Nat) (cO:Bool),jJ=.bool cO∧Aside0 (mV.j0 kq a1 cO aw ab ax=some (r1,r2,r3,r4,r5))∧Aside0 (kq≤k)∧Aside0 (wc.heap[bf]? =some (.cells #[.int .i64 0,(.slice none 0 0),(.slice none 0 0),(.slice none 0 0)] 33 (0,0)))∧Aside0 (wc.heap[aU]? =some (.cells #[.int .i64 aw,(.slice At ab.length ct),(.slice Au ax.length cu)] 27 (0,0)))∧Aside0 (Below wb.heap.size wb wc))
 case first=>
  have H:=sS.o;clear sS
  replace H:=Hb_ H;rcases H with⟨rfl,H⟩|⟨rfl,H⟩
  ·replace ⟨cX,GA,H⟩:=bA_ H
   have H':=A_ H
   clear H
   go_wp2_with (first|(go_at_call 36;(with_reducible refine(uK.calls a1 cX _ GA.o).mono ?_);rintro e w' ⟨rfl,⟨nd,rfl⟩⟩))
   go_meet
   case rel=>exact⟨_,(!cX),rf,H',⟨om⟩,⟨by(with_reducible repeat (first|refine tZ ?_ _|refine nQ ?_|refine nP ?_ _));exact fa_ ar (fa_ ar (fa_ ar ai.o))⟩,⟨by(with_reducible repeat (first|refine tZ ?_ _|refine nQ ?_|refine nP ?_ _));exact pu_ 2 (pu_ 1 (pu_ 0 al.o rfl) rfl) rfl⟩,⟨wb_⟩⟩
  have H':=A_ H
  clear H
  go_wp2
  go_meet
  case rel=>exact⟨_,(true),rf,H',⟨om⟩,⟨by exact fa_ ar (fa_ ar (fa_ ar ai.o))⟩,⟨by exact pu_ 2 (pu_ 1 (pu_ 0 al.o rfl) rfl) rfl⟩,⟨wb_⟩⟩
 case rest=>
  clear sS
  try clear el
  obtain⟨kq,cO,rfl,HA,fR,ai,al,HB⟩:=hcut
  cases kq with
  |zero=>exact nz_ HA.o
  |succ tX=>
   have H:=HA.o;clear HA;simp only[mV.j0]at H
   replace H:=Hb_ H;rcases H with⟨rfl,H⟩|⟨rfl,H⟩
   ·simp only[Option.some.injEq,Prod.mk.injEq]at H;obtain⟨rfl,rfl,rfl,rfl,rfl⟩:=H;have i8:=ar.o;have jk:=aT.o;have fT:=bq4 ai.o
    go_wp2
    refine rt_ #[.int .i64 0,.slice none 0 0,.slice none 0 0,.slice none 0 0] (by exact pu_ 3 (pu_ 2 (pu_ 1 (pu_ 0 ai.o rfl) rfl) rfl) rfl) Try.underlying33 ?_;exact⟨wb,lI.o,_,_,_,rf,by exact Kd.sI _ _ _ _ _,by exact Kd.sI _ _ _ _ _,by exact Kd.sI _ _ _ _ _,by repeat (first|(with_reducible first|exact(nZ lI.o HB.o)|apply pI|apply rE|apply oG|refine mY ?_ bC.o)|exact(nZ lI.o HB.o))⟩
   obtain⟨bm,bj⟩:∃j_:Int,(wrap64 (2*(ab.length:Int)))=j_:=⟨_,rfl⟩;replace H:(if 0≤(bm)then(if(bm:Int).toNat≤35184372088832 then((some (List.replicate (bm:Int).toNat 0:List Int)).bind fun aQ=>(if 0<(aQ.length:Int)then(mV.l0 tX a1 (ab.length:Int) ax (ax.length:Int) 0 aw ab ax aw (aQ.set (0:Int).toNat 1) (List.replicate (bm:Int).toNat 0))else(none)))else(none))else(none))=some (r1,r2,r3,r4,r5):=by first|(rw[bj]at H;exact H)|(simp only[bj]at H⊢;exact H)
   have hJ:(IntKind.i64.wrap (2*(ab.length:Int)))=bm:=(uD _).trans bj
   replace ⟨c15,H⟩:=Hp_ H
   have iI:=eq_true c15;have iJ:=decide_eq_true c15;clear c15
   replace ⟨c16,H⟩:=Hp_ H
   have iK:=eq_true c16;have iL:=decide_eq_true c16;clear c16;replace ⟨aQ,fb,H⟩:=Hs_ H;obtain⟨bz,dm⟩:=ex_ ((List.replicate (bm:Int).toNat 0):List Int);rw[←dm]at H;have fc:=A_ dm;clear dm
   replace ⟨c17,H⟩:=Hp_ H
   have iM:=decide_eq_true c17
   have iN:decide (0<aQ.length)=true:=decide_eq_true om
   clear c17;obtain⟨eK,dn⟩:=ex_ ((aQ.set (0:Int).toNat 1):List Int);rw[←dn]at H;have fd:=A_ dn;clear dn
   have H':=A_ H
   clear H;have i9:=aT.o;have jl:=ar.o;have fU:=bq3 al.o
   try go_wp2
   replace ai:=A_ (nQ ai.o);replace al:=A_ (nQ al.o);replace HB:=A_ (oG HB.o);refine rM (n:=11) (S:=fun w'=>cB3 aU (.int .i64 aw) (.slice At ab.length ct) (.slice Au ax.length cu) w') (ds:=[]) (mk_ 11 0) K_ rfl rfl (bc3 al) (fun aG=>?_);refine ru mV.Em mV.zx (fun be d7=>?_)
   generalize wc.drew=CX at ai al HB aG⊢
   refine pw_ 0 34 (mk_ 11 1) be ?_;refine pw_ 2 36 (mk_ 11 5) be ?_;refine pw_ 3 37 (mk_ 11 13) be ?_;refine pw_ 5 39 (mk_ 11 45) be ?_;refine pw_ 6 40 (mk_ 11 109) be ?_;refine tk_ 1 35 (mk_ 11 111) be d7 aG ?_;refine Cx (σ:=Value×Value×Nat) 1 (mk_ 11 1023) (fun s_=>[(38,s_.1),(41,s_.2.1),(9,.pointer (some ⟨s_.2.2,0,none⟩)),(42,.agg #[.int .i64 aw,s_.1,.slice none 0 0,s_.2.1])]) (fun s_ w'=>(cB3 aU (.int .i64 aw) (.slice At ab.length ct) (.slice Au ax.length cu) w')∧(Kd.R (Kd.int .i64) 3 w' wb.heap.size (o1 s_.2.1) s_.1 aQ)∧(Kd.R (Kd.int .i64) 3 w' wb.heap.size (o1 s_.1) s_.2.1 bz)∧(w'.heap[bf]? =some (.cells #[.int .i64 0,.slice none 0 0,.slice none 0 0,.slice none 0 0] 33 (0,0)))∧(w'.heap[aU]? =some (.cells #[.int .i64 aw,.slice At ab.length ct,.slice Au ax.length cu] 27 (0,0)))∧(w'.heap[s_.2.2]? =some (.cells #[.int .i64 0,.slice none 0 0,.slice none 0 0,.slice none 0 0] 33 (0,0)))∧(wb.heap.size≤s_.2.2)∧(wb.heap.size≤s_.2.2)∧(bf≠s_.2.2)∧(s_.2.2≠bf)∧(aU≠s_.2.2)∧(s_.2.2≠aU)∧(Below wb.heap.size wb w')) ?_ ?_;rotate_left
   ·intro kC;refine Ol (fuel:=1) (mk_ 11 1023) [rO_ 4 38,rO_ 7 41,rO_ 9 9,rO_ 8 42] (fun L vs W=>Tw W CX.heap.size (L 4) (L 7) (vs 4) (vs 7) aQ bz∧(L 8=true→vs 8=.agg #[.int .i64 aw,vs 4,.slice none 0 0,vs 7])∧(L 9=true→∃g,vs 9=.pointer (some ⟨g,0,none⟩)∧CX.heap.size≤g∧W.heap[g]? =some (.cells #[.int .i64 0,.slice none 0 0,.slice none 0 0,.slice none 0 0] 33 (0,0)))) K_ rfl (fun W hb=>⟨cb_ hb aG.1,cb_ hb aG.2.1,cb_ hb aG.2.2⟩) (fun L vs h=>⟨Tw.init (h _ (.head _)) (h _ (.tail _ (.head _))),no_ (h _ (.tail _ (.tail _ (.tail _ (.head _))))),no_ (h _ (.tail _ (.tail _ (.head _))))⟩) ?step ?cont
    case step=>
     refine xm.cons rfl (fun L vs a w hB hF hn hw hv ht K hK=>?_) (xm.cons rfl (fun L vs a w hB hF hn hw hv ht K hK=>?_) (xm.cons rfl (fun L vs a w hB hF hn hw hv ht K hK=>?_) (xm.cons rfl (fun L vs a w hB hF hn hw hv ht K hK=>?_) xm.nil)))
     ·refine Kd.wZ (Kd.int .i64) w.heap.size 3 rf (N:=38) rfl 25 _ _ rfl bm ((ht _ rf).trans rfl) ((ht _ rf).trans rfl) Try.underlying25 (.int .i64 0) 8 info3 rfl d_ om 0 (ok:=fun _=>True) (okp:=fun _=>True) rfl (fun _ hk=>hk) trivial oa_ (Nat.le_trans (Nat.mul_le_mul_right _ (oa_:bm.toNat≤35184372088832)) om) (Below.refl _ _) (Nat.le_refl _) ?_;intro v w' ho hb GL lM;rw[←fb.o]at ho;exact hK v w' (nZ hB hb) ⟨hF.1.new ho hb hB.size,fun l=>(by cases hn.symm.trans ((hv _ (.tail _ (.tail _ (.tail _ (.head _)))) l).2 4 (List.contains_iff_mem.1 K_))),fun l=>let ⟨g,e,h1,h2⟩:=hF.2.2 l;⟨g,e,h1,pg h2 hb⟩⟩
     ·refine Kd.wZ (Kd.int .i64) w.heap.size 3 rf (N:=41) rfl 25 _ _ rfl bm ((ht _ rf).trans rfl) ((ht _ rf).trans rfl) Try.underlying25 (.int .i64 0) 8 info3 rfl d_ om 0 (ok:=fun _=>True) (okp:=fun _=>True) rfl (fun _ hk=>hk) trivial oa_ (Nat.le_trans (Nat.mul_le_mul_right _ (oa_:bm.toNat≤35184372088832)) om) (Below.refl _ _) (Nat.le_refl _) ?_;intro v w' ho hb GL lM;rw[←fc.o]at ho;exact hK v w' (nZ hB hb) ⟨(hF.1.symm.new ho hb hB.size).symm,fun l=>(by cases hn.symm.trans ((hv _ (.tail _ (.tail _ (.tail _ (.head _)))) l).2 7 (List.contains_iff_mem.1 K_))),fun l=>let ⟨g,e,h1,h2⟩:=hF.2.2 l;⟨g,e,h1,pg h2 hb⟩⟩
     ·refine uh rf (N:=9) rfl (cs:= #[.int .i64 0,.slice none 0 0,.slice none 0 0,.slice none 0 0]) (t:=33) (by go_simp;done) ?_;intro g hg w' eT hb;exact hK _ w' (nZ hB hb) ⟨hF.1.below hb,hF.2.1,fun _=>⟨g,rfl,by rw[hg];exact hB.size,eT⟩⟩
     have l4:=hw 4 (List.contains_iff_mem.1 K_);have l7:=hw 7 (List.contains_iff_mem.1 K_)
     have v4:a.eval (.tmp 38)=vs 4:=(hv _ (.head _) l4).1 _ rfl
     have v7:a.eval (.tmp 41)=vs 7:=(hv _ (.tail _ (.head _)) l7).1 _ rfl
     obtain⟨A4,c4,e4⟩:=Kd.mU (hF.1.a l4);obtain⟨A7,c7,e7⟩:=Kd.mU (hF.1.b l7);have vb:=ht 35 rf;refine vk rf (v:=.agg #[.int .i64 aw,vs 4,.slice none 0 0,vs 7]) (w1:=w) ?_ (hK _ _ hB ⟨hF.1,fun _=>rfl,hF.2.2⟩);rw[show vs 4=_ from e4]at v4⊢;rw[show vs 7=_ from e7]at v7⊢;replace v4:=ev_ v4;replace v7:=ev_ v7;replace vb:=ev_ (vb.trans rfl);go_simp
    case cont=>
     intro L vs w' hS hB hl ⟨hT,h8,h9⟩;have l4:=hl _ (.head _);have l7:=hl _ (.tail _ (.head _));have e8:=h8 (hl _ (.tail _ (.tail _ (.tail _ (.head _)))));obtain⟨g,e9,hg,hbk⟩:=h9 (hl _ (.tail _ (.tail _ (.head _))))
     show nL _ _ _ _ _ _ _ _ (rG _ [(38,vs 4),(41,vs 7),(9,vs 9),(42,vs 8)]) _
     rw[e8,e9];have hs:=mK HB.o;exact kC (vs 4,vs 7,g) w' ⟨hS,Kd.nE (Kd.mM (hT.a l4) (fun _ hk=>hk l7)) hs,Kd.nE (Kd.mM (hT.b l7) (fun _ hk=>hk l4)) hs,pg ai.o hB,pg al.o hB,hbk,(Nat.le_trans hs hg),(Nat.le_trans hs hg),Nat.ne_of_lt (Nat.lt_of_lt_of_le (pY ai.o) hg),Nat.ne_of_gt (Nat.lt_of_lt_of_le (pY ai.o) hg),Nat.ne_of_lt (Nat.lt_of_lt_of_le (pY al.o) hg),Nat.ne_of_gt (Nat.lt_of_lt_of_le (pY al.o) hg),nZ HB.o hB⟩
   rintro⟨jK,jL,ap⟩ lN ⟨aG,tY,um,uz,u6,u7,vo,vO,wo,w9,w_,ej,ek⟩
   clear ai al HB;try dsimp only at aG tY um uz u6 u7 vo vO wo w9 w_ ej ek
   have aW:=A_ tY;have bG:=A_ um;have ai:=A_ uz;have al:=A_ u6;have aj:=A_ u7;have iA:=A_ vo;have db:=A_ vO;have au:=A_ wo;have aM:=A_ w9;have af:=A_ w_;have aE:=A_ ej;have HB:=A_ ek;clear tY um uz u6 u7 vo vO wo w9 w_ ej ek
   obtain⟨cQ,cV,fy⟩:=Kd.mU bG.o
   (first|subst fy|(injection fy with kJ lQ kK;have lS:=kJ.symm;have lT:=kK.symm;clear kJ lQ kK;subst lS;subst lT))
   obtain⟨dw,cW,fz⟩:=Kd.mU aW.o
   (first|subst fz|(injection fz with kJ lQ kK;have lS:=kJ.symm;have lT:=kK.symm;clear kJ lQ kK;subst lS;subst lT))
   refine vg (by simp only[rG,Act.put,mD,mE,mF];rfl) ?_
   refine ow_ 10 (mk_ 11 2047) be (fun K hK=>?_)
   have GQ:lN.cell? ⟨ap,0,none⟩=some (.int .i64 0):=bz0 aj.o
   have CY:=nY aj.o 0;have mr:=au.o;have mG:=af.o;have mH:=aM.o;have mI:=aE.o
   have GR:lN.cell? ⟨ap,1,none⟩=some (.slice none 0 0):=bz1 aj.o
   have Dm:=nY aj.o 1;have og:=au.o;have o5:=af.o;have o6:=aM.o;have p8:=aE.o
   have HV:lN.cell? ⟨ap,2,none⟩=some (.slice none 0 0):=bz2 aj.o
   have Dn:=nY aj.o 2;have p9:=au.o;have ql:=af.o;have qx:=aM.o;have qy:=aE.o
   have HY:lN.cell? ⟨ap,3,none⟩=some (.slice none 0 0):=bz3 aj.o
   have D6:=nY aj.o 3;have qA:=au.o;have qB:=af.o;have qC:=aM.o;have qL:=aE.o;refine uI (w1:=?_) rf rfl ?_ ?_;rotate_left
   ·go_simp
    rfl
   refine hK.out _ _ ⟨((cf_ af).trans (((cf_ af).trans (((cf_ af).trans (((cf_ af).trans (aG.1)))))))),((cf_ af).trans (((cf_ af).trans (((cf_ af).trans (((cf_ af).trans (aG.2.1)))))))),((cf_ af).trans (((cf_ af).trans (((cf_ af).trans (((cf_ af).trans (aG.2.2))))))))⟩ (fun aG=>?_);clear hK K;refine sZ (sP be.o K_) ?_
   generalize h_:((((lN.setCell ⟨ap,0,none⟩ (.int .i64 aw)).setCell ⟨ap,1,none⟩ (.slice dw aQ.length cW)).setCell ⟨ap,2,none⟩ (.slice none 0 0)).setCell ⟨ap,3,none⟩ (.slice cQ bz.length cV))=kL
   replace aW:Aside0 (Kd.R (Kd.int .i64) 3 kL wb.heap.size (o1 (.slice cQ bz.length cV)) (.slice dw aQ.length cW) aQ):=⟨by rw[←h_];exact Kd.mM (wT (tR_ aW aj)) (fun _ hk=>hk.1)⟩;replace bG:Aside0 (Kd.R (Kd.int .i64) 3 kL wb.heap.size (o1 (.slice dw aQ.length cW)) (.slice cQ bz.length cV) bz):=⟨by rw[←h_];exact Kd.mM (wT (tR_ bG aj)) (fun _ hk=>hk.1)⟩;replace ai:Aside0 (kL.heap[bf]? =some (.cells #[.int .i64 0,.slice none 0 0,.slice none 0 0,.slice none 0 0] 33 (0,0))):=⟨by rw[←h_];exact fa_ au (fa_ au (fa_ au (fa_ au ai.o)))⟩;replace al:Aside0 (kL.heap[aU]? =some (.cells #[.int .i64 aw,.slice At ab.length ct,.slice Au ax.length cu] 27 (0,0))):=⟨by rw[←h_];exact fa_ af (fa_ af (fa_ af (fa_ af al.o)))⟩;replace aj:Aside0 (kL.heap[ap]? =some (.cells #[.int .i64 aw,.slice dw aQ.length cW,.slice none 0 0,.slice cQ bz.length cV] 33 (0,0))):=⟨by rw[←h_];exact pu_ 3 (pu_ 2 (pu_ 1 (pu_ 0 aj.o rfl) rfl) rfl) rfl⟩;replace HB:Aside0 (Below wb.heap.size wb kL):=⟨by rw[←h_];repeat (first|(with_reducible first|exact HB.o|apply pI|apply rE|apply oG|refine mY ?_ bC.o|refine mY ?_ bO.o|refine mY ?_ db.o)|exact HB.o)⟩;clear h_;have ja:=aM.o;have jm:=au.o;have jb:=aE.o;have jn:=af.o;have dC:=bq4 aj.o
   have f6:0≤(0:Int):=om
   have f8:(0:Int)<((aQ.length:Int):Int):=oa_
   have x9:(0<aQ.length)=True:=eq_true om
   obtain⟨dB,jB,fw,fE,y7,HZ,lU⟩:=Kd.sj aW.o om
   (first|cases fw|(injection fw with U j6 kg;(first|subst U|(injection U with U;subst U));subst kg;clear j6))
   have y8:=A_ fE;have H5:=A_ lU;clear fE y7 lU;obtain⟨b3,di⟩:=Kd.rF 0 aW.o (0:Int) f6 f8
   (try rw[show((0:Int)).toNat=0 from rfl]at b3)
   (try simp only[Nat.reduceMul,Nat.zero_mul,Nat.zero_add,Nat.reduceAdd]at b3)
   (try rw[show((0:Int)).toNat=0 from rfl]at di)
   (try simp only[Nat.reduceMul,Nat.zero_mul,Nat.zero_add,Nat.reduceAdd]at di)
   replace f6:=eq_true f6;replace f8:=eq_true f8;obtain⟨kM,kN⟩:=Kd.rF 0 aW.o (0:Int) om oa_
   (try simp only[Int.reduceToNat,Int.toNat_zero,Int.toNat_ofNat,Nat.reduceMul,Nat.zero_mul,Nat.zero_add]at kM kN)
   (try rw[show((0:Int)).toNat=0 from rfl]at kM)
   (try rw[show((0:Int)).toNat=0 from rfl]at kN)
   have d4:=Kd.uo aW.o (0:Int) 1
   try go_wp2_with (first|((with_reducible refine qz (t:=3) (p:=45) rfl ?_);refine qa (t:=3) (p:=45) (v:=?y9) (w1:=(kL.setCell ⟨dB,(0:Int).toNat,none⟩ (.int .i64 1))) ?hg ?ho ?hn ?hr ?_;(case ho=>rfl);(case hg=>rfl);(case hn=>rfl);(case hr=>first|(go_simp;done)|(go_simp;rfl)|(obtain⟨_,_,rfl⟩:=Kd.mU aW.o;go_simp;first|done|rfl)|(obtain⟨_,_,rfl⟩:=Kd.mU (Kd.S_R aW.o);go_simp;first|done|rfl));intro zz hw;have hg:kL.grownBy zz (some dB):=(by rw[hw];exact d4.2);have jZ:Kd.R (Kd.int .i64) 3 zz wb.heap.size (o1 (.slice cQ bz.length cV)) (.slice (some ⟨dB,0,none⟩) aQ.length cW) eK:=(by rw[hw,fd.o];exact d4.1);clear d4;replace ai:=gR_ aW ai hg;replace al:=gR_ aW al hg;replace bG:=rB_ (ok:=(fun _=>True)) jZ bG (fun _ hk=>⟨trivial,hk⟩) hg;replace aj:=gR_ aW aj hg;replace aW:=A_ (jZ);replace HB:=A_ ((by rw[hw];exact mY (HB.o) y8.o:Below wb.heap.size wb zz));clear hg hw jZ;have dD:=bq3 al.o))
   go_loopg [49] tX (fun kq jP w'=>∃ (aV:Int) (ay:List Int) (ao:List Int) (aC:Value) (aJ:Value),jP=.int .i64 aV∧Aside0 (mV.l0 kq a1 (ab.length:Int) ax (ax.length:Int) aV aw ab ax aw ay ao=some (r1,r2,r3,r4,r5))∧Aside0 (kq≤tX)∧Aside0 (Kd.R (Kd.int .i64) 3 w' wb.heap.size (o1 aJ) aC ay)∧Aside0 (Kd.R (Kd.int .i64) 3 w' wb.heap.size (o1 aC) aJ ao)∧Aside0 (w'.heap[bf]? =some (.cells #[.int .i64 0,(.slice none 0 0),(.slice none 0 0),(.slice none 0 0)] 33 (0,0)))∧Aside0 (w'.heap[aU]? =some (.cells #[.int .i64 aw,(.slice At ab.length ct),(.slice Au ax.length cu)] 27 (0,0)))∧Aside0 (w'.heap[ap]? =some (.cells #[.int .i64 aw,aC,(.slice none 0 0),aJ] 33 (0,0)))∧Aside0 (Below wb.heap.size wb w'))
   case atStart=>exact⟨(0),(eK),(bz),(.slice (some ⟨dB,0,none⟩) aQ.length cW),(.slice cQ bz.length cV),rf,H',⟨Nat.le_refl _⟩,aW,⟨by exact Kd.mM bG.o (fun _ hk=>hk.2)⟩,ai,al,aj,HB⟩
   case round=>
    clear H'
    clear f6 f8 x9 dC dD b3
    obtain⟨aV,ay,ao,aC,aJ,rfl,HA,fS,ak,ag,ai,al,aj,HB⟩:=hrel
    cases gk with
    |zero=>exact nz_ HA.o
    |succ k2=>
     have H:=HA.o;clear HA;simp only[mV.l0]at H
     replace H:=Hi_ H;rcases H with⟨dh,H⟩|⟨dh,H⟩
     ·replace ⟨i0,H⟩:=Hd_ H
      replace ⟨i5,H⟩:=Hd_ H
      replace ⟨b7,D7,H⟩:=bA_ H;obtain⟨bw,bQ⟩:∃j_:Int,(wrap64 ((ab.length:Int)+aV))=j_:=⟨_,rfl⟩;replace H:(if 0≤(bw)then(if(bw)<(ao.length:Int)then(mV.l0 k2 a1 (ab.length:Int) ax (ax.length:Int) (wrap64 (aV+1)) aw ab ax aw ay (ao.set ((bw):Int).toNat b7))else(none))else(none))=some (r1,r2,r3,r4,r5):=by first|(rw[bQ]at H;exact H)|(simp only[bQ]at H⊢;exact H)
      (try rw[bQ]at D7)
      have ib:(IntKind.i64.wrap ((ab.length:Int)+aV))=bw:=(uD _).trans bQ
      replace ⟨i6,H⟩:=Hd_ H
      replace ⟨i7,H⟩:=Hd_ H
      obtain⟨fL,dp⟩:=ex_ ((ao.set ((bw):Int).toNat b7):List Int);rw[←dp]at H;have ff:=A_ dp;clear dp
      have H':=A_ H
      clear H
      have eq:0≤(aV:Int):=oa_
      have eD:aV<(ax.length:Int):=oa_
      obtain⟨iH,gK,bK⟩:=Kd.nM Gd.o aV eq eD
      cases gK
      replace bK:=cm_ HB bK;replace eq:=eq_true eq;replace eD:=eq_true eD
      try go_wp2
      replace ak:=A_ (Kd.pR ak.o);replace ag:=A_ (Kd.pR ag.o);replace ai:=A_ (nQ ai.o);replace al:=A_ (nQ al.o);replace aj:=A_ (nQ aj.o);replace HB:=A_ (oG HB.o);refine rM (n:=11) (S:=fun w'=>cB4 ap (.int .i64 aw) (aC) (.slice none 0 0) (aJ) w') (ds:=[10]) (mk_ 11 0) K_ rfl rfl (bc4 aj) (fun aG=>?_);refine ru mV.O1 mV.OL (fun be d7=>?_)
      generalize wr.drew=Nj at ak ag ai al aj HB aG⊢
      refine pw_ 0 54 (mk_ 11 1) be ?_;refine pw_ 2 56 (mk_ 11 5) be ?_;refine pw_ 3 57 (mk_ 11 13) be ?_;refine pw_ 4 58 (mk_ 11 29) be ?_;refine pw_ 5 59 (mk_ 11 61) be ?_;refine pw_ 6 60 (mk_ 11 125) be ?_;refine pw_ 7 61 (mk_ 11 253) be ?_;refine tk_ 1 55 (mk_ 11 255) be d7 aG ?_;refine ow_ 8 (mk_ 11 511) be (fun K hK=>?_);refine cT_ E31 (uQ.calls ((rd ax aV)==a1) b7 _ D7.o) ?_;rintro e w' ⟨rfl,⟨nd,rfl⟩⟩;refine⟨_,rfl,?_⟩
      have im:0≤((bw):Int):=oa_
      have ir:((bw):Int)<((ao.length:Int):Int):=oa_
      obtain⟨ei,go,fC,fI,Aa,Kc,lV⟩:=Kd.sj ag.o om
      (first|cases fC|(injection fC with U j6 kg;(first|subst U|(injection U with U;subst U));subst kg;clear j6))
      have K3:=A_ fI;have K4:=A_ lV;clear fI Aa lV;obtain⟨ii,g9⟩:=Kd.rF 0 ag.o ((bw):Int) im ir;replace im:=eq_true im;replace ir:=eq_true ir;have d6:=Kd.F7 ag.o ((bw):Int) b7;rw[←ff.o]at d6;have Am:=A_ d6;clear d6;refine hK.out _ _ (bc4 aj) (fun aG=>?_);clear hK K;refine nm_ 62 ?_;refine pw_ 9 63 (mk_ 11 1023) be ?_;refine vI (i:=10) (N:=none) (mk_ 11 2047) rfl rfl (xJ be.o K_) d_ (fun K hK=>?_);refine uI (w1:=?_) rf rfl ?_ ?_;rotate_left
      ·go_simp
       rfl
      refine hK.out _ _ ?_;clear hK K;refine sZ (sP be.o K_) ?_
      try go_wp2
      (try subst bj)
      go_roundg k2
      case measure=>have:=fR.o;have:=fS.o;omega
      case rel=>exact⟨(wrap64 (aV+1)),(ay),(fL),(aC),(.slice (some ⟨ei,0,none⟩) ao.length go),rf,H',⟨by have:=fR.o;have:=fS.o;omega⟩,⟨by exact Kd.mM (Kd.sM (p:=⟨ei,((bw):Int).toNat,none⟩) (Kd.mM ak.o (fun k_ hk=>(⟨hk,fun e_=>hk (by rw[e_];rfl)⟩:_∧k_≠ei))) (fun _ hk=>hk.2) (.int .i64 b7)) (fun _ hk=>hk.1)⟩,Am,⟨by refine pQ ?_ (by have h_:=Kd.xu ag.o ai.o d_;intro e_;exact h_ (by rw[e_];rfl)) _;(with_reducible repeat (first|refine tZ ?_ _|refine nQ ?_|refine nP ?_ _));exact ai.o⟩,⟨by refine pQ ?_ (by have h_:=Kd.xu ag.o al.o d_;intro e_;exact h_ (by rw[e_];rfl)) _;(with_reducible repeat (first|refine tZ ?_ _|refine nQ ?_|refine nP ?_ _));exact al.o⟩,⟨by refine pQ ?_ (by have h_:=Kd.xu ag.o aj.o d_;intro e_;exact h_ (by rw[e_];rfl)) _;(with_reducible repeat (first|refine tZ ?_ _|refine nQ ?_|refine nP ?_ _));exact aj.o⟩,⟨wb_⟩⟩
     have H':=A_ H
     clear H;have jc:=aT.o;have jo:=ar.o;have jd:=af.o;have jp:=aE.o;have dE:=bq3 al.o
     go_wp2
     go_loopg [67] k2 (fun kq jQ w'=>∃ (ah:Int) (aN:List (List (List Int))) (bn:Value),jQ=.int .i64 ah∧Aside0 (mV.l1 kq (ab.length:Int) aw ah aw ab ax aw ay aN ao=some (r1,r2,r3,r4,r5))∧Aside0 (kq≤k2)∧Aside0 (Kd.R (Kd.int .i64) 3 w' wb.heap.size (o1 aJ) aC ay)∧Aside0 (Kd.R (Kd.slice 25 (Kd.slice 3 (Kd.int .i64))) 24 w' wb.heap.size (o2 aC aJ) bn aN)∧Aside0 (Kd.R (Kd.int .i64) 3 w' wb.heap.size (o1 aC) aJ ao)∧Aside0 (w'.heap[bf]? =some (.cells #[.int .i64 0,(.slice none 0 0),(.slice none 0 0),(.slice none 0 0)] 33 (0,0)))∧Aside0 (w'.heap[aU]? =some (.cells #[.int .i64 aw,(.slice At ab.length ct),(.slice Au ax.length cu)] 27 (0,0)))∧Aside0 (w'.heap[ap]? =some (.cells #[.int .i64 aw,aC,bn,aJ] 33 (0,0)))∧Aside0 (Below wb.heap.size wb w'))
     case atStart=>exact⟨(0),(([]:List (List (List Int)))),(.slice none 0 0),rf,H',⟨Nat.le_refl _⟩,ak,⟨by exact Kd.sI _ _ _ _ _⟩,ag,ai,al,aj,HB⟩
     case round=>
      clear H'
      clear dh dE
      obtain⟨ah,aN,bn,rfl,HA,iB,ak,aq,ag,ai,al,aj,HB⟩:=hrel
      cases gk with
      |zero=>exact nz_ HA.o
      |succ k3=>
       have H:=HA.o;clear HA;simp only[mV.l1]at H
       replace H:=Hi_ H;rcases H with⟨fs,H⟩|⟨fs,H⟩
       ·replace ⟨a7,K5,H⟩:=bA_ H
        replace ⟨eR,H⟩:=Ha_ H
        obtain⟨cZ,dq⟩:=ex_ ((aN++[a7]):List (List (List Int)));rw[←dq]at H;have fg:=A_ dq;clear dq
        have H':=A_ H
        clear H;have je:=aT.o;have jq:=ar.o;have jf:=af.o;have jr:=aE.o;have cf:=bq3 al.o;obtain⟨wd,hwd⟩:∃wd,wd=wr:=⟨_,rfl⟩;subst hwd;have K6:=A_ (Kd.mO F5.o HB.o);have cz:=A_ (Below.refl wd.heap.size wd);have Lm:=A_ K5.o
        (try subst bj)
        (try subst bQ)
        have Hd:((p_.f k3 (wrap64 (2*(ab.length:Int)))).bind fun b6=>(ny.l0 k3 (ab.length:Int) ah b6 ab (ab.length:Int) 0))=some a7:=Lm.o
        replace Hd:=Option.bind_eq_some_iff.mp Hd;obtain⟨b6,D8,Hd⟩:=Hd;replace Hd:(ny.l0 k3 (ab.length:Int) ah b6 ab (ab.length:Int) 0)=some a7:=Hd;have A4:=A_ D8;clear D8
        have ko:=A_ Hd
        clear Hd
        go_wp2_with (first|((with_reducible refine gc_ 37 rfl ?_);refine cM_ E37 72 (p_.calls k3 (wrap64 (2*(ab.length:Int))) b6 _ A4.o) ?_;rintro e w5 ⟨iu,rfl,ho0,hb⟩;refine⟨_,rfl,?_⟩;have eQ:=A_ (Kd.uy ho0 (mK cz.o));replace cz:=bs_ cz hb;clear hb ho0;have Lr:=(cz.o.cell (World.block_lt_of_cell? wd _ cf.1.2.1)).trans cf.1.2.1))
        go_loopg [76] k3 (fun kq jR w'=>∃ (aH:List (List Int)) (aa:Int),jR=.int .i64 aa∧Aside0 (ny.l0 kq (ab.length:Int) ah aH ab (ab.length:Int) aa=some a7)∧Aside0 (kq≤k3)∧Aside0 (Kd.S (Kd.slice 3 (Kd.int .i64)) 25 w' wd.heap.size (fun _=>True) iu aH)∧Aside0 (Below wd.heap.size wd w'))
        case atStart=>exact⟨(b6),(0),rf,ko,⟨Nat.le_refl _⟩,eQ,cz⟩
        case round=>
         clear ko;obtain⟨aH,aa,rfl,lh,jV,an,cz⟩:=hrel
         cases gk with
         |zero=>exact nz_ lh.o
         |succ qO=>
          have Hd:=lh.o;clear lh;simp only[ny.l0]at Hd
          by_cases c6:aa<(ab.length:Int)
          rotate_left
          ·rw[if_neg c6]at Hd;have ft:=decide_eq_false c6;clear c6;obtain rfl:=(Option.some.inj Hd).symm;clear jV;have ho0:=an.o;have hb:=cz.o;clear an cz
           (replace aq:=A_ (Kd.oz aq.o (Kd.AO ho0) hb);have dd:=A_ (Kd.uy (Kd.xg (Kd.xg ho0 (Kd.oV ak.o)) (Kd.oV ag.o)) (mK HB.o));replace ak:=A_ (Kd.nX ak.o hb);replace ag:=A_ (Kd.nX ag.o hb);replace ai:=bb_ ai hb;replace al:=bb_ al hb;replace aj:=bb_ aj hb;replace HB:=bs_ HB hb;clear hb ho0;have jg:=aM.o;have js:=au.o;have fV:=bq4 aj.o;obtain⟨gf,gp,gM⟩:=Kd.rO dd.o;subst gM)
           go_wp2_with (first|((with_reducible refine nG (b:=.append) (xs:= #[.tmp 130,.tmp 132]) rfl ?_);at_builtin;refine Kd.qG (Kd.slice 25 (Kd.slice 3 (Kd.int .i64))) (w0:=wb) wb.heap.size rfl (.tmp 130) (.tmp 132) 31 24 (.slice none 0 0) 24 rfl Try.underlying31 Ef rfl d_ om bn aN a7 [.slice gf a7.length gp] (o2 aC aJ) (fun k_=>((o2 aC aJ)) k_∧some k_≠(bn:Value).ownBlock) rfl rfl ?aP (fun _ hk=>hk) ?aF ?aO ?aB ?aS ?aL ?_;(case aP=>exact Kd.uR (Kd.mM (Kd.pE ((Kd.S_R dd.o)) (Kd.tu aq.o) d_) (fun k_ hk=>⟨⟨hk.1.1.2,hk.1.2⟩,hk.2⟩)));(case aB=>exact HB.o);(case aF=>exact(fun k_ hk=>⟨Kd.fresh' (Kd.oV ak.o) k_ hk,Kd.fresh' (Kd.oV ag.o) k_ hk⟩));(case aO=>exact(by exact Kd.mM aq.o (fun _ hk=>⟨hk.1.1,hk.1.2⟩)));(case aS=>exact(mK HB.o));(case aL=>have:=eR.o;omega);intro jM Nk ho hb hg hat;rw[←fg.o]at ho;replace ak:=A_ (Kd.qH ak.o (Kd.tu aq.o) d_ hg);replace ag:=A_ (Kd.qH ag.o (Kd.tu aq.o) d_ hg);replace ai:=gR_ aq ai hg;replace al:=gR_ aq al hg;replace aj:=gR_ aq aj hg;replace HB:=A_ (hb);have dU:=A_ (ho);clear aq dd;clear ho hb hg hat;obtain⟨dx,dA,gN⟩:=Kd.mU dU.o;subst gN;have fW:=bq4 aj.o))
           (try subst bj)
           go_roundg k3
           case measure=>have:=fR.o;have:=fS.o;have:=iB.o;omega
           case rel=>exact⟨(wrap64 (ah+1)),(cZ),(.slice dx cZ.length dA),rf,H',⟨by have:=fR.o;have:=fS.o;have:=iB.o;omega⟩,⟨by exact Kd.mM (Kd.sM (p:=⟨ap,2,none⟩) (Kd.qi ak.o aj.o d_) (fun _ hk=>hk.2) (.slice dx cZ.length dA)) (fun _ hk=>hk.1)⟩,⟨by exact Kd.mM (Kd.sM (p:=⟨ap,2,none⟩) (Kd.qi dU.o aj.o d_) (fun _ hk=>hk.2) (.slice dx cZ.length dA)) (fun _ hk=>⟨hk.1.1,hk.1.2⟩)⟩,⟨by exact Kd.mM (Kd.sM (p:=⟨ap,2,none⟩) (Kd.qi ag.o aj.o d_) (fun _ hk=>hk.2) (.slice dx cZ.length dA)) (fun _ hk=>hk.1)⟩,⟨by exact fa_ au ai.o⟩,⟨by exact fa_ af al.o⟩,⟨by exact pu_ 2 aj.o rfl⟩,⟨wb_⟩⟩
          rw[if_pos c6]at Hd;have ft:=decide_eq_true c6;clear c6
          by_cases c7:0≤aa
          rotate_left
          ·rw[if_neg c7]at Hd;exact absurd Hd sp
          rw[if_pos c7]at Hd;have gl:=decide_eq_true c7;clear c7
          by_cases c8:aa<(ab.length:Int)
          rotate_left
          ·rw[if_neg c8]at Hd;exact absurd Hd sp
          rw[if_pos c8]at Hd;have gm:=decide_eq_true c8;clear c8
          by_cases c9:aa<(aH.length:Int)
          rotate_left
          ·rw[if_neg c9]at Hd;exact absurd Hd sp
          rw[if_pos c9]at Hd;have gn:=decide_eq_true c9;clear c9
          by_cases c10:0≤ah
          rotate_left
          ·rw[if_neg c10]at Hd;exact absurd Hd sp
          rw[if_pos c10]at Hd;have fk:=decide_eq_true c10;clear c10
          by_cases c11:ah<((f_ ab aa).length:Int)
          rotate_left
          ·rw[if_neg c11]at Hd;exact absurd Hd sp
          rw[if_pos c11]at Hd;have fl:=decide_eq_true c11;clear c11
          by_cases c12:0≤(rd (f_ ab aa) ah)
          rotate_left
          ·rw[if_neg c12]at Hd;exact absurd Hd sp
          rw[if_pos c12]at Hd;have fm:=decide_eq_true c12;clear c12
          by_cases c13:(rd (f_ ab aa) ah)<((f_ aH aa).length:Int)
          rotate_left
          ·rw[if_neg c13]at Hd;exact absurd Hd sp
          rw[if_pos c13]at Hd;have fo:=decide_eq_true c13;clear c13;obtain⟨eE,bR⟩:=ex_ (((f_ aH aa).set ((rd (f_ ab aa) ah):Int).toNat (wrap64 ((rd (f_ aH aa) (rd (f_ ab aa) ah))+1))):List Int);replace Hd:(ny.l1 qO (ab.length:Int) ah (aH.set (aa:Int).toNat eE) aa ab (ab.length:Int) aa (f_ ab aa) ((f_ ab aa).length:Int) 0)=some a7:=by first|(rw[bR];with_reducible exact Hd)|(have J:=(Option.bind_some _ _).symm.trans Hd;rw[bR];with_reducible exact J)|(have J:=(Option.bind_some _ _).symm.trans Hd;with_reducible exact J)|with_reducible exact Hd|(rw[bR];exact Hd)|exact Hd
          have eS:=A_ bR;clear bR;obtain⟨fK,bS⟩:=ex_ ((aH.set (aa:Int).toNat eE):List (List Int));replace Hd:(ny.l1 qO (ab.length:Int) ah fK aa ab (ab.length:Int) aa (f_ ab aa) ((f_ ab aa).length:Int) 0)=some a7:=by first|(rw[bS];with_reducible exact Hd)|(have J:=(Option.bind_some _ _).symm.trans Hd;rw[bS];with_reducible exact J)|(have J:=(Option.bind_some _ _).symm.trans Hd;with_reducible exact J)|with_reducible exact Hd|(rw[bS];exact Hd)|exact Hd
          have eU:=A_ bS;clear bS
          have ko:=A_ Hd
          clear Hd
          have dI:0≤(aa:Int):=oa_
          have dO:aa<(ab.length:Int):=oa_
          obtain⟨iC,f9,gj,gx,bA,cD,cg⟩:=qM K6.o aa dI dO
          cases gx
          replace bA:=cm_ cz bA;have bI:=A_ cg;have fM:=A_ cD;clear cg cD;replace dI:=eq_true dI;replace dO:=eq_true dO
          try go_wp2
          replace an:=A_ (Kd.vK an.o);replace cz:=A_ (oG cz.o);obtain⟨jz,dz,fv⟩:=Kd.rO an.o
          (first|subst fv|(injection fv with kJ lQ kK;have lS:=kJ.symm;have lT:=kK.symm;clear kJ lQ kK;subst lS;subst lT))
          have dt:0≤(aa:Int):=oa_
          have du:aa<(aH.length:Int):=oa_
          obtain⟨bv,ga,d8,gy,bk,cE,ch⟩:=qM (Kd.rq an.o).2.2 aa dt du
          cases gy
          obtain⟨D9,ll,lq,kr⟩:=Kd.E5 an.o [] aa dt (by exact du);obtain⟨qP,rfl,fe⟩:=lq;have aK:=kr 0 _ rfl;rw[Nat.add_zero,show((Kd.slice 3 (Kd.int .i64))).sz=1 from rfl,Nat.mul_one]at aK;replace aK:=Option.some.inj (aK.symm.trans bk);rw[aK]at fe;have gq:=A_ (show Kd.R (Kd.int .i64) 3 _ _ _ _ (f_ aH aa)from fe);clear aK fe;have jW:=A_ bk;clear kr ll;have bJ:=A_ ch;have fN:=A_ cE;clear ch cE;replace dt:=eq_true dt;replace du:=eq_true du
          have dJ:0≤(ah:Int):=oa_
          have dP:ah<((f_ ab aa).length:Int):=oa_
          obtain⟨df,gz,bh⟩:=Kd.nM bI.o ah dJ dP;have cJ:=bh
          cases gz
          replace bh:=cm_ cz bh;replace dJ:=eq_true dJ;replace dP:=eq_true dP
          have dK:0≤((rd (f_ ab aa) ah):Int):=oa_
          have dQ:(rd (f_ ab aa) ah)<((f_ aH aa).length:Int):=oa_
          obtain⟨iD,gD,bB⟩:=Kd.nM (by repeat (first|(with_reducible exact bJ.o)|(with_reducible refine Kd.C_alloc ?_ _)|(with_reducible refine Kd.oH ?_ _)|(with_reducible refine Kd.pG ?_)|exact bJ.o)) (rd (f_ ab aa) ah) dK dQ
          cases gD
          replace dK:=eq_true dK;replace dQ:=eq_true dQ
          have fZ:0≤((rd (f_ ab aa) ah):Int):=oa_
          have f7:((rd (f_ ab aa) ah):Int)<(((f_ aH aa).length:Int):Int):=oa_
          obtain⟨fJ,jA,fu,fD,Aq,LA,lW⟩:=Kd.sj gq.o om
          (first|cases fu|(injection fu with U j6 kg;(first|subst U|(injection U with U;subst U));subst kg;clear j6))
          have LB:=A_ fD;have Ar:=A_ lW;clear fD Aq lW
          (first|simp only[add_plain]at bB|skip)
          obtain⟨dj,em⟩:=Kd.rF 0 gq.o ((rd (f_ ab aa) ah):Int) fZ f7;replace fZ:=eq_true fZ;replace f7:=eq_true f7
          have Av:(aa:Int)<(aH.length:Int):=(by have h_:(aa:Int)<((aH.length:Int):Int):=oa_;first|exact h_|(have e_:=(Kd.rq an.o).1;omega)|simpa only[List.length_set,List.length_set]using h_)
          obtain⟨Ev,LW,lX,Ay,kP,lY,kQ⟩:=Kd.zf an.o [] (aa:Int) oa_ Av;obtain⟨AR,rfl,gu⟩:=Ay;have kD:=kP 0 _ rfl;rw[Nat.add_zero,show((Kd.slice 3 (Kd.int .i64))).sz=1 from rfl,Nat.mul_one]at kD;replace kD:=Option.some.inj (kD.symm.trans jW.o);subst kD;clear kP lX;replace gu:=(show Kd.R (Kd.int .i64) 3 _ _ _ _ (f_ aH aa)from gu);have dy:=Kd.uo gu ((rd (f_ ab aa) ah):Int) (wrap64 ((rd (f_ aH aa) (rd (f_ ab aa) ah))+1));rw[←eS.o]at dy;have lu:=kQ dy.2 (fun k_ e_=>by injection e_ with e_;subst e_;exact gu.1 _ rfl) (x':=eE) (Kd.uR dy.1);rw[←eU.o]at lu;have lZ:=A_ lu;clear dy lu kQ lY;refine rM (n:=13) (S:=fun w'=>w'.cell? (bv.add (aa).toNat)=some (.slice (some ⟨fJ,0,none⟩) (f_ aH aa).length d8)∧w'.cell? (df.add (ah).toNat)=some (.int .i64 (rd (f_ ab aa) ah))∧w'.cell? ⟨fJ,((rd (f_ ab aa) ah)).toNat,none⟩=some (.int .i64 (rd (f_ aH aa) (rd (f_ ab aa) ah)))) (ds:=[12]) (mk_ 13 0) K_ rfl rfl ⟨bk,((cz.o.cell (World.block_lt_of_cell? wd _ cJ)).trans cJ),bB⟩ (fun aG=>?_);refine ru ny.Ka ny.FB (fun be d7=>?_)
          generalize wr.drew=Np at an cz Ar gq lZ bJ jW em dj bk bh bB aG⊢
          refine pw_ 0 81 (mk_ 13 1) be ?_;refine pw_ 1 82 (mk_ 13 3) be ?_;refine pw_ 2 83 (mk_ 13 7) be ?_;refine pw_ 4 85 (mk_ 13 23) be ?_;refine pw_ 5 86 (mk_ 13 55) be ?_;refine pw_ 6 87 (mk_ 13 119) be ?_;refine tk_ 3 84 (mk_ 13 127) be d7 aG ?_;refine tk_ 7 88 (mk_ 13 255) be d7 aG ?_;refine pw_ 8 89 (mk_ 13 511) be ?_;refine tk_ 9 90 (mk_ 13 1023) be d7 aG ?_;refine pw_ 10 91 (mk_ 13 2047) be ?_;refine pw_ 11 92 (mk_ 13 4095) be ?_;refine vI (i:=12) (N:=none) (mk_ 13 8191) rfl rfl (xJ be.o K_) d_ (fun K hK=>?_);refine uI (w1:=?_) rf rfl ?_ ?_;rotate_left
          ·go_simp
           rfl
          refine hK.out _ _ ?_;clear hK K;refine sZ (sP be.o K_) ?_
          try go_wp2
          go_loopg [95] qO (fun kq jS w'=>∃ (ae:List (List Int)) (am:Int),jS=.int .i64 am∧Aside0 (ny.l1 kq (ab.length:Int) ah ae aa ab (ab.length:Int) aa (f_ ab aa) ((f_ ab aa).length:Int) am=some a7)∧Aside0 (kq≤qO)∧Aside0 (Kd.S (Kd.slice 3 (Kd.int .i64)) 25 w' wd.heap.size (fun _=>True) (.slice (some bv) aH.length dz) ae)∧Aside0 (Below wd.heap.size wd w'))
          case atStart=>exact⟨(fK),(0),rf,ko,⟨Nat.le_refl _⟩,lZ,⟨wb_⟩⟩
          case round=>
           clear ko
           clear ft gl gm gn fk fl fm fo fZ f7 dj bA bk bh bB dI dt dJ dK dO du dP dQ
           obtain⟨ae,am,rfl,lh,jX,an,cz⟩:=hrel;have bg:=(Kd.rq an.o).1;rw[bg]at an
           (try simp only[bg])
           cases gk with
           |zero=>exact nz_ lh.o
           |succ jY=>
            have Hd:=lh.o;clear lh;simp only[ny.l1]at Hd
            by_cases c19:am<((f_ ab aa).length:Int)
            rotate_left
            ·rw[if_neg c19]at Hd;have fp:=decide_eq_false c19;clear c19
             have ko:=A_ Hd
             clear Hd
             go_wp2
             (try simp only[←bg])
             (try subst bj)
             go_roundg jY
             case measure=>have:=jV.o;have:=jX.o;omega
             case rel=>exact⟨(ae),(wrap64 (aa+1)),rf,ko,⟨by have:=jV.o;have:=jX.o;omega⟩,⟨by(try simp only[bg]);exact an.o⟩,cz⟩
            rw[if_pos c19]at Hd;have fp:=decide_eq_true c19;clear c19
            by_cases c20:0≤am
            rotate_left
            ·rw[if_neg c20]at Hd;exact absurd Hd sp
            rw[if_pos c20]at Hd;have iO:=decide_eq_true c20;clear c20
            by_cases c21:am<((f_ ab aa).length:Int)
            rotate_left
            ·rw[if_neg c21]at Hd;exact absurd Hd sp
            rw[if_pos c21]at Hd;have iP:=decide_eq_true c21;clear c21
            by_cases lJ:am<ah
            rotate_left
            ·rw[if_neg lJ]at Hd;have fq:=decide_eq_false lJ;clear lJ;obtain⟨aA,cB⟩:∃j_:Int,(wrap64 ((ab.length:Int)+aa))=j_:=⟨_,rfl⟩;replace Hd:(if 0≤(aA)then(if(aA)<(ae.length:Int)then(if 0≤(wrap64 ((ab.length:Int)+(rd (f_ ab aa) am)))then(if(wrap64 ((ab.length:Int)+(rd (f_ ab aa) am)))<((f_ ae (aA)).length:Int)then(ny.l1 jY (ab.length:Int) ah (ae.set ((aA):Int).toNat ((f_ ae (aA)).set ((wrap64 ((ab.length:Int)+(rd (f_ ab aa) am))):Int).toNat (wrap64 ((rd (f_ ae (aA)) (wrap64 ((ab.length:Int)+(rd (f_ ab aa) am))))+1)))) aa ab (ab.length:Int) aa (f_ ab aa) ((f_ ab aa).length:Int) (wrap64 (am+1)))else(none))else(none))else(none))else(none))=some a7:=by first|(rw[cB]at Hd;exact Hd)|(simp only[cB]at Hd⊢;exact Hd)
             have hZ:(IntKind.i64.wrap ((ab.length:Int)+aa))=aA:=(uD _).trans cB
             by_cases qQ:0≤(aA)
             rotate_left
             ·rw[if_neg qQ]at Hd;exact absurd Hd sp
             rw[if_pos qQ]at Hd;have iX:=decide_eq_true qQ;clear qQ
             by_cases c40:(aA)<(ae.length:Int)
             rotate_left
             ·rw[if_neg c40]at Hd;exact absurd Hd sp
             rw[if_pos c40]at Hd;have iY:=decide_eq_true c40;clear c40;obtain⟨a9,cC⟩:∃j_:Int,(wrap64 ((ab.length:Int)+(rd (f_ ab aa) am)))=j_:=⟨_,rfl⟩;replace Hd:(if 0≤(a9)then(if(a9)<((f_ ae (aA)).length:Int)then(ny.l1 jY (ab.length:Int) ah (ae.set ((aA):Int).toNat ((f_ ae (aA)).set ((a9):Int).toNat (wrap64 ((rd (f_ ae (aA)) (a9))+1)))) aa ab (ab.length:Int) aa (f_ ab aa) ((f_ ab aa).length:Int) (wrap64 (am+1)))else(none))else(none))=some a7:=by first|(rw[cC]at Hd;exact Hd)|(simp only[cC]at Hd⊢;exact Hd)
             have ia:(IntKind.i64.wrap ((ab.length:Int)+(rd (f_ ab aa) am)))=a9:=(uD _).trans cC
             by_cases qR:0≤(a9)
             rotate_left
             ·rw[if_neg qR]at Hd;exact absurd Hd sp
             rw[if_pos qR]at Hd;have iZ:=decide_eq_true qR;clear qR
             by_cases qW:(a9)<((f_ ae (aA)).length:Int)
             rotate_left
             ·rw[if_neg qW]at Hd;exact absurd Hd sp
             rw[if_pos qW]at Hd;have dh:=decide_eq_true qW;clear qW;obtain⟨eI,bX⟩:=ex_ (((f_ ae (aA)).set ((a9):Int).toNat (wrap64 ((rd (f_ ae (aA)) (a9))+1))):List Int);replace Hd:(ny.l1 jY (ab.length:Int) ah (ae.set ((aA):Int).toNat eI) aa ab (ab.length:Int) aa (f_ ab aa) ((f_ ab aa).length:Int) (wrap64 (am+1)))=some a7:=by first|(rw[bX];with_reducible exact Hd)|(have J:=(Option.bind_some _ _).symm.trans Hd;rw[bX];with_reducible exact J)|(have J:=(Option.bind_some _ _).symm.trans Hd;with_reducible exact J)|with_reducible exact Hd|(rw[bX];exact Hd)|exact Hd
             have eZ:=A_ bX;clear bX;obtain⟨eJ,bY⟩:=ex_ ((ae.set ((aA):Int).toNat eI):List (List Int));replace Hd:(ny.l1 jY (ab.length:Int) ah eJ aa ab (ab.length:Int) aa (f_ ab aa) ((f_ ab aa).length:Int) (wrap64 (am+1)))=some a7:=by first|(rw[bY];with_reducible exact Hd)|(have J:=(Option.bind_some _ _).symm.trans Hd;rw[bY];with_reducible exact J)|(have J:=(Option.bind_some _ _).symm.trans Hd;with_reducible exact J)|with_reducible exact Hd|(rw[bY];exact Hd)|exact Hd
             have fa:=A_ bY;clear bY
             have ko:=A_ Hd
             clear Hd
             have b4:0≤(am:Int):=oa_
             have b5:am<((f_ ab aa).length:Int):=oa_
             obtain⟨dg,ed,a8⟩:=Kd.nM bI.o am b4 b5;obtain rfl:df=dg:=(by injection ed);replace a8:=cm_ cz a8;replace b4:=eq_true b4;replace b5:=eq_true b5
             have dN:0≤((aA):Int):=oa_
             have dS:(aA)<(ae.length:Int):=oa_
             obtain⟨fj,gd,ec,gI,cN,cH,co⟩:=qM (Kd.rq an.o).2.2 (aA) dN dS;obtain rfl:bv=fj:=(by injection gI);obtain⟨EE,lv,lC,ku⟩:=Kd.E5 an.o [] (aA) dN (by exact dS);obtain⟨qX,rfl,gB⟩:=lC;have aR:=ku 0 _ rfl;rw[Nat.add_zero,show((Kd.slice 3 (Kd.int .i64))).sz=1 from rfl,Nat.mul_one]at aR;replace aR:=Option.some.inj (aR.symm.trans cN);rw[aR]at gB;have gL:=A_ (show Kd.R (Kd.int .i64) 3 _ _ _ _ (f_ ae (aA))from gB);clear aR gB;have kE:=A_ cN;clear ku lv;have cc:=A_ co;have fQ:=A_ cH;clear co cH;replace dN:=eq_true dN;replace dS:=eq_true dS
             have ep:0≤((a9):Int):=oa_
             have eC:(a9)<((f_ ae (aA)).length:Int):=oa_
             obtain⟨iG,gJ,dH⟩:=Kd.nM (by repeat (first|(with_reducible exact cc.o)|(with_reducible refine Kd.C_alloc ?_ _)|(with_reducible refine Kd.oH ?_ _)|(with_reducible refine Kd.pG ?_)|exact cc.o)) (a9) ep eC
             cases gJ
             replace ep:=eq_true ep;replace eC:=eq_true eC
             have il:0≤((a9):Int):=oa_
             have iq:((a9):Int)<(((f_ ae (aA)).length:Int):Int):=oa_
             obtain⟨eh,jE,fB,fH,A8,LX,l5⟩:=Kd.sj gL.o om
             (first|cases fB|(injection fB with U j6 kg;(first|subst U|(injection U with U;subst U));subst kg;clear j6))
             have A9:=A_ fH;have LY:=A_ l5;clear fH A8 l5
             (first|simp only[add_plain]at dH|skip)
             obtain⟨ig,g8⟩:=Kd.rF 0 gL.o ((a9):Int) il iq;replace il:=eq_true il;replace iq:=eq_true iq
             have BA:((aA):Int)<(ae.length:Int):=(by have h_:((aA):Int)<((ae.length:Int):Int):=oa_;first|exact h_|(have e_:=(Kd.rq an.o).1;omega)|simpa only[List.length_set,List.length_set]using h_)
             obtain⟨l6,LZ,l8,BB,kR,kS,kT⟩:=Kd.zf an.o [] ((aA):Int) oa_ BA;obtain⟨BC,rfl,gP⟩:=BB;have kF:=kR 0 _ rfl;rw[Nat.add_zero,show((Kd.slice 3 (Kd.int .i64))).sz=1 from rfl,Nat.mul_one]at kF;replace kF:=Option.some.inj (kF.symm.trans kE.o);subst kF;clear kR l8;replace gP:=(show Kd.R (Kd.int .i64) 3 _ _ _ _ (f_ ae (aA))from gP);have d5:=Kd.uo gP ((a9):Int) (wrap64 ((rd (f_ ae (aA)) (a9))+1))
             go_wp2_with (first|((with_reducible refine qz (t:=3) (p:=126) rfl ?_);refine qa (t:=3) (p:=126) (w1:=(wr.setCell ⟨eh,((a9):Int).toNat,none⟩ (.int .i64 (wrap64 ((rd (f_ ae (aA)) (a9))+1))))) rfl rfl rfl (by go_simp;done) ?_;intro qY hw;have hg:wr.grownBy qY (some eh):=(by rw[hw];exact d5.2);have kv:Kd.R (Kd.int .i64) 3 qY wd.heap.size l6 (.slice (some ⟨eh,0,none⟩) (f_ ae (aA)).length ec) eI:=(by rw[hw,eZ.o];exact d5.1);have jZ:Kd.S (Kd.slice 3 (Kd.int .i64)) 25 qY wd.heap.size (fun _=>True) (.slice (some bv) ae.length dz) eJ:=(by rw[fa.o];exact kT hg (fun k_ e_=>by injection e_ with e_;subst e_;exact gP.1 _ rfl) (Kd.uR kv));have jU:=Kd.mM kv kS;clear d5 kT;replace an:=A_ (jZ);replace cz:=A_ ((by rw[hw];exact mY (cz.o) A9.o:Below wd.heap.size wd qY));have EM:=A_ (jU);have EN:=A_ ((Kd.mX jU).2.1);clear gL;clear hg hw jZ kv jU kS))
             (try simp only[←bg])
             (try subst bj)
             (try subst cB)
             (try subst cC)
             go_roundg jY
             case measure=>have:=jV.o;have:=jX.o;omega
             case rel=>exact⟨(eJ),(wrap64 (am+1)),rf,ko,⟨by have:=jV.o;have:=jX.o;omega⟩,⟨by(try simp only[bg]);exact an.o⟩,cz⟩
            rw[if_pos lJ]at Hd;have fq:=decide_eq_true lJ;clear lJ
            by_cases c23:0≤aa
            rotate_left
            ·rw[if_neg c23]at Hd;exact absurd Hd sp
            rw[if_pos c23]at Hd;have iQ:=decide_eq_true c23;clear c23
            by_cases c24:aa<(ae.length:Int)
            rotate_left
            ·rw[if_neg c24]at Hd;exact absurd Hd sp
            rw[if_pos c24]at Hd;have iR:=decide_eq_true c24;clear c24;obtain⟨av,cw⟩:∃j_:Int,(wrap64 ((ab.length:Int)+(rd (f_ ab aa) am)))=j_:=⟨_,rfl⟩;replace Hd:(if 0≤(av)then(if(av)<((f_ ae aa).length:Int)then((some (ae.set (aa:Int).toNat ((f_ ae aa).set ((av):Int).toNat (wrap64 ((rd (f_ ae aa) (av))+1))):List (List Int))).bind fun az=>(if 0≤(wrap64 ((ab.length:Int)+aa))then(if(wrap64 ((ab.length:Int)+aa))<(ae.length:Int)then(if(av)<((f_ az (wrap64 ((ab.length:Int)+aa))).length:Int)then(ny.l1 jY (ab.length:Int) ah (az.set ((wrap64 ((ab.length:Int)+aa)):Int).toNat ((f_ az (wrap64 ((ab.length:Int)+aa))).set ((av):Int).toNat (wrap64 ((rd (f_ az (wrap64 ((ab.length:Int)+aa))) (av))+1)))) aa ab (ab.length:Int) aa (f_ ab aa) ((f_ ab aa).length:Int) (wrap64 (am+1)))else(none))else(none))else(none)))else(none))else(none))=some a7:=by first|(rw[cw]at Hd;exact Hd)|(simp only[cw]at Hd⊢;exact Hd)
            have hU:(IntKind.i64.wrap ((ab.length:Int)+(rd (f_ ab aa) am)))=av:=(uD _).trans cw
            by_cases qZ:0≤(av)
            rotate_left
            ·rw[if_neg qZ]at Hd;exact absurd Hd sp
            rw[if_pos qZ]at Hd;have iS:=decide_eq_true qZ;clear qZ
            by_cases q8:(av)<((f_ ae aa).length:Int)
            rotate_left
            ·rw[if_neg q8]at Hd;exact absurd Hd sp
            rw[if_pos q8]at Hd;have iT:=decide_eq_true q8;clear q8;obtain⟨eF,bT⟩:=ex_ (((f_ ae aa).set ((av):Int).toNat (wrap64 ((rd (f_ ae aa) (av))+1))):List Int);replace Hd:((some (ae.set (aa:Int).toNat eF:List (List Int))).bind fun az=>(if 0≤(wrap64 ((ab.length:Int)+aa))then(if(wrap64 ((ab.length:Int)+aa))<(ae.length:Int)then(if(av)<((f_ az (wrap64 ((ab.length:Int)+aa))).length:Int)then(ny.l1 jY (ab.length:Int) ah (az.set ((wrap64 ((ab.length:Int)+aa)):Int).toNat ((f_ az (wrap64 ((ab.length:Int)+aa))).set ((av):Int).toNat (wrap64 ((rd (f_ az (wrap64 ((ab.length:Int)+aa))) (av))+1)))) aa ab (ab.length:Int) aa (f_ ab aa) ((f_ ab aa).length:Int) (wrap64 (am+1)))else(none))else(none))else(none)))=some a7:=by first|(rw[bT];with_reducible exact Hd)|(have J:=(Option.bind_some _ _).symm.trans Hd;rw[bT];with_reducible exact J)|(have J:=(Option.bind_some _ _).symm.trans Hd;with_reducible exact J)|with_reducible exact Hd|(rw[bT];exact Hd)|exact Hd
            have eV:=A_ bT;clear bT;obtain⟨az,bU⟩:=ex_ ((ae.set (aa:Int).toNat eF):List (List Int));replace Hd:(if 0≤(wrap64 ((ab.length:Int)+aa))then(if(wrap64 ((ab.length:Int)+aa))<(ae.length:Int)then(if(av)<((f_ az (wrap64 ((ab.length:Int)+aa))).length:Int)then(ny.l1 jY (ab.length:Int) ah (az.set ((wrap64 ((ab.length:Int)+aa)):Int).toNat ((f_ az (wrap64 ((ab.length:Int)+aa))).set ((av):Int).toNat (wrap64 ((rd (f_ az (wrap64 ((ab.length:Int)+aa))) (av))+1)))) aa ab (ab.length:Int) aa (f_ ab aa) ((f_ ab aa).length:Int) (wrap64 (am+1)))else(none))else(none))else(none))=some a7:=by first|(rw[bU];with_reducible exact Hd)|(have J:=(Option.bind_some _ _).symm.trans Hd;rw[bU];with_reducible exact J)|(have J:=(Option.bind_some _ _).symm.trans Hd;with_reducible exact J)|with_reducible exact Hd|(rw[bU];exact Hd)|exact Hd
            have de:=A_ bU;clear bU;obtain⟨aI,cA⟩:∃j_:Int,(wrap64 ((ab.length:Int)+aa))=j_:=⟨_,rfl⟩;replace Hd:(if 0≤(aI)then(if(aI)<(ae.length:Int)then(if(av)<((f_ az (aI)).length:Int)then(ny.l1 jY (ab.length:Int) ah (az.set ((aI):Int).toNat ((f_ az (aI)).set ((av):Int).toNat (wrap64 ((rd (f_ az (aI)) (av))+1)))) aa ab (ab.length:Int) aa (f_ ab aa) ((f_ ab aa).length:Int) (wrap64 (am+1)))else(none))else(none))else(none))=some a7:=by first|(rw[cA]at Hd;exact Hd)|(simp only[cA]at Hd⊢;exact Hd)
            have hV:(IntKind.i64.wrap ((ab.length:Int)+aa))=aI:=(uD _).trans cA
            by_cases q9:0≤(aI)
            rotate_left
            ·rw[if_neg q9]at Hd;exact absurd Hd sp
            rw[if_pos q9]at Hd;have iU:=decide_eq_true q9;clear q9
            by_cases c31:(aI)<(ae.length:Int)
            rotate_left
            ·rw[if_neg c31]at Hd;exact absurd Hd sp
            rw[if_pos c31]at Hd;have iV:=decide_eq_true c31;clear c31
            by_cases c32:(av)<((f_ az (aI)).length:Int)
            rotate_left
            ·rw[if_neg c32]at Hd;exact absurd Hd sp
            rw[if_pos c32]at Hd;have iW:=decide_eq_true c32;clear c32;obtain⟨eG,bV⟩:=ex_ (((f_ az (aI)).set ((av):Int).toNat (wrap64 ((rd (f_ az (aI)) (av))+1))):List Int);replace Hd:(ny.l1 jY (ab.length:Int) ah (az.set ((aI):Int).toNat eG) aa ab (ab.length:Int) aa (f_ ab aa) ((f_ ab aa).length:Int) (wrap64 (am+1)))=some a7:=by first|(rw[bV];with_reducible exact Hd)|(have J:=(Option.bind_some _ _).symm.trans Hd;rw[bV];with_reducible exact J)|(have J:=(Option.bind_some _ _).symm.trans Hd;with_reducible exact J)|with_reducible exact Hd|(rw[bV];exact Hd)|exact Hd
            have eX:=A_ bV;clear bV;obtain⟨eH,bW⟩:=ex_ ((az.set ((aI):Int).toNat eG):List (List Int));replace Hd:(ny.l1 jY (ab.length:Int) ah eH aa ab (ab.length:Int) aa (f_ ab aa) ((f_ ab aa).length:Int) (wrap64 (am+1)))=some a7:=by first|(rw[bW];with_reducible exact Hd)|(have J:=(Option.bind_some _ _).symm.trans Hd;rw[bW];with_reducible exact J)|(have J:=(Option.bind_some _ _).symm.trans Hd;with_reducible exact J)|with_reducible exact Hd|(rw[bW];exact Hd)|exact Hd
            have eY:=A_ bW;clear bW
            have ko:=A_ Hd
            clear Hd
            have b4:0≤(am:Int):=oa_
            have b5:am<((f_ ab aa).length:Int):=oa_
            obtain⟨dg,ed,a8⟩:=Kd.nM bI.o am b4 b5;obtain rfl:df=dg:=(by injection ed);replace a8:=cm_ cz a8;replace b4:=eq_true b4;replace b5:=eq_true b5
            have dL:0≤(aa:Int):=oa_
            have dR:aa<(ae.length:Int):=oa_
            obtain⟨fh,gb,d9,gE,cK,cF,ci⟩:=qM (Kd.rq an.o).2.2 aa dL dR;obtain rfl:bv=fh:=(by injection gE);obtain⟨EP,lD,lF,ky⟩:=Kd.E5 an.o [] aa dL (by exact dR);obtain⟨ry,rfl,gQ⟩:=lF;have aZ:=ky 0 _ rfl;rw[Nat.add_zero,show((Kd.slice 3 (Kd.int .i64))).sz=1 from rfl,Nat.mul_one]at aZ;replace aZ:=Option.some.inj (aZ.symm.trans cK);rw[aZ]at gQ;have gW:=A_ (show Kd.R (Kd.int .i64) 3 _ _ _ _ (f_ ae aa)from gQ);clear aZ gQ;have kG:=A_ cK;clear ky lD;have b8:=A_ ci;have fO:=A_ cF;clear ci cF;replace dL:=eq_true dL;replace dR:=eq_true dR
            have en:0≤((av):Int):=oa_
            have ew:(av)<((f_ ae aa).length:Int):=oa_
            obtain⟨iE,gF,dF⟩:=Kd.nM (by repeat (first|(with_reducible exact b8.o)|(with_reducible refine Kd.C_alloc ?_ _)|(with_reducible refine Kd.oH ?_ _)|(with_reducible refine Kd.pG ?_)|exact b8.o)) (av) en ew
            cases gF
            replace en:=eq_true en;replace ew:=eq_true ew
            have ij:0≤((av):Int):=oa_
            have io:((av):Int)<(((f_ ae aa).length:Int):Int):=oa_
            obtain⟨ef,jC,fx,fF,BL,Mf,l9⟩:=Kd.sj gW.o om
            (first|cases fx|(injection fx with U j6 kg;(first|subst U|(injection U with U;subst U));subst kg;clear j6))
            have BM:=A_ fF;have Mi:=A_ l9;clear fF BL l9
            (first|simp only[add_plain]at dF|skip)
            obtain⟨ic,g6⟩:=Kd.rF 0 gW.o ((av):Int) ij io;replace ij:=eq_true ij;replace io:=eq_true io
            have BO:(aa:Int)<(ae.length:Int):=(by have h_:(aa:Int)<((ae.length:Int):Int):=oa_;first|exact h_|(have e_:=(Kd.rq an.o).1;omega)|simpa only[List.length_set,List.length_set]using h_)
            obtain⟨ma,Mj,mf,BP,kU,kV,kW⟩:=Kd.zf an.o [] (aa:Int) oa_ BO;obtain⟨BQ,rfl,gX⟩:=BP;have hv34:=kU 0 _ rfl;rw[Nat.add_zero,show((Kd.slice 3 (Kd.int .i64))).sz=1 from rfl,Nat.mul_one]at hv34;replace hv34:=Option.some.inj (hv34.symm.trans kG.o);subst hv34;clear kU mf;replace gX:=(show Kd.R (Kd.int .i64) 3 _ _ _ _ (f_ ae aa)from gX);have dY:=Kd.uo gX ((av):Int) (wrap64 ((rd (f_ ae aa) (av))+1))
            go_wp2_with (first|((with_reducible refine qz (t:=3) (p:=113) rfl ?_);refine qa (t:=3) (p:=113) (w1:=(wr.setCell ⟨ef,((av):Int).toNat,none⟩ (.int .i64 (wrap64 ((rd (f_ ae aa) (av))+1))))) rfl rfl rfl (by go_simp;done) ?_;intro lK hw;have hg:wr.grownBy lK (some ef):=(by rw[hw];exact dY.2);have kv:Kd.R (Kd.int .i64) 3 lK wd.heap.size ma (.slice (some ⟨ef,0,none⟩) (f_ ae aa).length d9) eF:=(by rw[hw,eV.o];exact dY.1);have jZ:Kd.S (Kd.slice 3 (Kd.int .i64)) 25 lK wd.heap.size (fun _=>True) (.slice (some bv) ae.length dz) az:=(by rw[de.o];exact kW hg (fun k_ e_=>by injection e_ with e_;subst e_;exact gX.1 _ rfl) (Kd.uR kv));have jU:=Kd.mM kv kV;clear dY kW;replace an:=A_ (jZ);replace cz:=A_ ((by rw[hw];exact mY (cz.o) BM.o:Below wd.heap.size wd lK));have mg:=A_ (jU);have EU:=A_ ((Kd.mX jU).2.1);clear gW;clear hg hw jZ kv jU kV;have dM:0≤((aI):Int):=oa_;have ez:(aI)<(az.length:Int):=(by have h_:((aI):Int)<((ae.length:Int):Int):=oa_;first|(have e_:=(Kd.rq an.o).1;omega)|simpa only[de.o,List.length_set]using h_);have jw:(((aI):Int)<((ae.length:Int):Int))=True:=eq_true oa_;obtain⟨fi,gc,eb,gG,cL,cG,ck⟩:=qM (Kd.rq an.o).2.2 (aI) dM ez;obtain rfl:bv=fi:=(by injection gG);obtain⟨E8,lG,lH,kz⟩:=Kd.E5 an.o [] (aI) dM (by exact of_decide_eq_true (by first|(with_reducible assumption)|assumption));obtain⟨rT,rfl,gY⟩:=lH;have a_:=kz 0 _ rfl;rw[Nat.add_zero,show((Kd.slice 3 (Kd.int .i64))).sz=1 from rfl,Nat.mul_one]at a_;replace a_:=Option.some.inj (a_.symm.trans cL);rw[a_]at gY;have gZ:=A_ (show Kd.R (Kd.int .i64) 3 _ _ _ _ (f_ az (aI))from gY);clear a_ gY;have kH:=A_ cL;clear kz lG;have b9:=A_ ck;have fP:=A_ cG;clear ck cG;replace dM:=eq_true dM;replace ez:=eq_true ez;have eo:0≤((av):Int):=oa_;have eB:(av)<((f_ az (aI)).length:Int):=oa_;obtain⟨iF,gH,dG⟩:=Kd.nM (by repeat (first|(with_reducible exact b9.o)|(with_reducible refine Kd.C_alloc ?_ _)|(with_reducible refine Kd.oH ?_ _)|(with_reducible refine Kd.pG ?_)|exact b9.o)) (av) eo eB;cases gH;replace eo:=eq_true eo;replace eB:=eq_true eB;have ik:0≤((av):Int):=oa_;have ip:((av):Int)<(((f_ az (aI)).length:Int):Int):=oa_;obtain⟨eg,jD,fA,fG,BR,Ml,mh⟩:=Kd.sj gZ.o om;(first|cases fA|(injection fA with U j6 kg;(first|subst U|(injection U with U;subst U));subst kg;clear j6));have BS:=A_ fG;have Ms:=A_ mh;clear fG BR mh;(first|simp only[add_plain]at dG|skip);obtain⟨ie,g7⟩:=Kd.rF 0 gZ.o ((av):Int) ik ip;replace ik:=eq_true ik;replace ip:=eq_true ip;have BX:((aI):Int)<(ae.length:Int):=(by have h_:((aI):Int)<((ae.length:Int):Int):=oa_;first|exact h_|(have e_:=(Kd.rq an.o).1;omega)|simpa only[de.o,List.length_set]using h_);obtain⟨mi,Mx,mo,BZ,kX,kY,kZ⟩:=Kd.zf an.o [] ((aI):Int) oa_ BX;obtain⟨Cu,rfl,g_⟩:=BZ;have kI:=kX 0 _ rfl;rw[Nat.add_zero,show((Kd.slice 3 (Kd.int .i64))).sz=1 from rfl,Nat.mul_one]at kI;replace kI:=Option.some.inj (kI.symm.trans kH.o);subst kI;clear kX mo;replace g_:=(show Kd.R (Kd.int .i64) 3 _ _ _ _ (f_ az (aI))from g_);have dZ:=Kd.uo g_ ((av):Int) (wrap64 ((rd (f_ az (aI)) (av))+1)))|((with_reducible refine qz (t:=3) (p:=126) rfl ?_);refine qa (t:=3) (p:=126) (w1:=(lK.setCell ⟨eg,((av):Int).toNat,none⟩ (.int .i64 (wrap64 ((rd (f_ az (aI)) (av))+1))))) rfl rfl rfl (by go_simp;done) ?_;intro sO hw;have hg:lK.grownBy sO (some eg):=(by rw[hw];exact dZ.2);have kv:Kd.R (Kd.int .i64) 3 sO wd.heap.size mi (.slice (some ⟨eg,0,none⟩) (f_ az (aI)).length eb) eG:=(by rw[hw,eX.o];exact dZ.1);have jZ:Kd.S (Kd.slice 3 (Kd.int .i64)) 25 sO wd.heap.size (fun _=>True) (.slice (some bv) ae.length dz) eH:=(by rw[eY.o];exact kZ hg (fun k_ e_=>by injection e_ with e_;subst e_;exact g_.1 _ rfl) (Kd.uR kv));have jU:=Kd.mM kv kY;clear dZ kZ;replace an:=A_ (jZ);replace cz:=A_ ((by rw[hw];exact mY (cz.o) BS.o:Below wd.heap.size wd sO));have E9:=A_ (jU);have FD:=A_ ((Kd.mX jU).2.1);clear mg gZ;clear hg hw jZ kv jU kY))
            (try simp only[←bg])
            (try subst bj)
            (try subst cw)
            (try subst cA)
            go_roundg jY
            case measure=>have:=jV.o;have:=jX.o;omega
            case rel=>exact⟨(eH),(wrap64 (am+1)),rf,ko,⟨by have:=jV.o;have:=jX.o;omega⟩,⟨by(try simp only[bg]);exact an.o⟩,cz⟩
       simp only[Option.some.injEq,Prod.mk.injEq]at H;obtain⟨rfl,rfl,rfl,rfl,rfl⟩:=H;have jh:=aM.o;have jt:=au.o;have ji:=aE.o;have ju:=af.o;have fX:=bq4 aj.o;have jj:=ar.o;have jv:=aT.o;have fY:=bq4 ai.o;obtain⟨gg,gt,gT⟩:=Kd.mU ak.o;subst gT;obtain⟨gh,gv,gU⟩:=Kd.mU aq.o;subst gU;obtain⟨gi,gw,gV⟩:=Kd.mU ag.o;subst gV
       go_wp2
       refine rt_ #[.int .i64 aw,.slice gg ay.length gt,.slice gh aN.length gv,.slice gi ao.length gw] (by exact pu_ 3 (pu_ 2 (pu_ 1 (pu_ 0 ai.o rfl) rfl) rfl) rfl) Try.underlying33 ?_;exact⟨wb,lI.o,_,_,_,by first|rfl|(simp[xC,xA]<;>rfl)|(simp only[←bj];first|rfl|(simp[xC,xA]<;>rfl))|(simp[*,xC,xA]<;>rfl),by exact Kd.mM (wT (tR_ ak ai)) (fun _ hk=>hk.1),by exact Kd.mM (wT (tR_ aq ai)) (fun _ hk=>⟨hk.1.1,hk.1.2⟩),by exact Kd.mM (wT (tR_ ag ai)) (fun _ hk=>hk.1),by repeat (first|(with_reducible first|exact(nZ lI.o HB.o)|apply pI|apply rE|apply oG|refine mY ?_ bC.o)|exact(nZ lI.o HB.o))⟩
theorem pW.calls (k:Nat) (bu:Int) (eu:Nat→Prop) (bN:Option Addr) (bP:Nat) (ba:List (List Int)) (b1:Option Addr) (b2:Nat) (bc:List Int) (a1:Int) (r1:Int) (r2:List Int) (r3:List (List (List Int))) (r4:List Int) (r5:Bool) (w:World) (j3:Kd.V (Kd.slice 3 (Kd.int .i64)) 25 w w.heap.size (fun k_=>eu k_) (.slice bN ba.length bP) ba) (cI:Kd.C (Kd.int .i64) w b1 bc.length bc) (cd:bc.length≤b2) (h:pW.f k bu ba bc a1=some (r1,r2,r3,r4,r5)):
  Calls Try.prog 10 #[.agg #[.int .i64 bu,.slice bN ba.length bP,.slice b1 bc.length b2],.int .i64 a1] w fun e w'=>∃j4 lg j5:Value,e=.returned (.tuple #[.agg #[.int .i64 r1,j4,lg,j5],.bool r5])∧Kd.R (Kd.int .i64) 3 w' w.heap.size (fun k_=>(w.heap.size≤k_)∧some k_≠(j5:Value).ownBlock) j4 r2∧Kd.N (Kd.slice 25 (Kd.slice 3 (Kd.int .i64))) 24 w' w.heap.size (fun k_=>(eu k_∨w.heap.size≤k_)∧some k_≠(j4:Value).ownBlock∧some k_≠(j5:Value).ownBlock) lg r3∧Kd.R (Kd.int .i64) 3 w' w.heap.size (fun k_=>(w.heap.size≤k_)∧some k_≠(j4:Value).ownBlock) j5 r4∧Below w.heap.size w w':=by
 obtain⟨⟨b_,n_,o_,k_⟩,jU,mq⟩:=Option.bind_eq_some_iff.mp h;refine(pW.Iy k bu eu bN bP ba b1 b2 bc a1 r1 r2 r3 r4 r5 w j3 cI cd b_ n_ o_ k_ jU mq).mono ?_;rintro e w' ⟨wb,hbw,j4,lg,j5,he,h1,h2,h3,hB⟩;refine⟨j4,lg,j5,he,Kd.mM (Kd.tQ (Kd.nE h1 hbw.size)) (fun _ hk=>⟨hk.2.1,hk.1⟩),Kd.rP (Kd.R_N (Kd.tQ (Kd.nE h2 hbw.size))) (fun _ hk=>⟨.inr hk.2.1,hk.1⟩),Kd.mM (Kd.tQ (Kd.nE h3 hbw.size)) (fun _ hk=>⟨hk.2.1,hk.1⟩),hB⟩
def sK.l0:Nat→Int→Int→Int→Int→Option (Int)
 |0,_,_,_,_=>none
 |k+1,x0,x5,x6,x7=>if x7<x6 then(sK.l0 k x0 (wrap64 (x5*x0)) x6 (wrap64 (x7+1)))else(some x5)
def sK.f (k:Nat) (a0:Int) (a1:Int):Option (Int):=sK.l0 k a0 1 a1 0
theorem sK.calls (k:Nat) (a0:Int) (a1:Int) (r:Int) (w:World) (h:sK.f k a0 a1=some r):
  Calls Try.prog 52 #[.int .i64 a0,.int .i64 a1] w fun e w'=>e=.returned (.int .i64 r)∧nJ w w':=by
 unfold sK.f at h;have H:=h;clear h
 have H':=A_ H
 clear H;go_enter Try.func52,Try.ntmps52
 go_wp2
 go_loopg [5,7] k (fun kq v5 v7 w'=>∃ (af:Int) (au:Int),v5=.int .i64 af∧v7=.int .i64 au∧Aside0 (sK.l0 kq a0 af a1 au=some r)∧Aside0 (kq≤k)∧nJ w w')
 case atStart=>exact⟨(1),(0),rf,rf,H',⟨Nat.le_refl _⟩,by repeat (first|exact nJ.refl _|apply nJ.step)⟩
 case round=>
  clear H';obtain⟨af,au,rfl,rfl,HA,av,⟨m1,rfl⟩⟩:=hrel
  cases gk with
  |zero=>exact nz_ HA.o
  |succ k1=>
   have H:=HA.o;clear HA;simp only[sK.l0]at H
   replace H:=Hi_ H;rcases H with⟨am,H⟩|⟨am,H⟩
   ·have H':=A_ H
    clear H
    go_wp2
    go_roundg k1
    case measure=>have:=av.o;omega
    case rel=>exact⟨(wrap64 (af*a0)),(wrap64 (au+1)),rf,rf,H',⟨by have:=av.o;omega⟩,by repeat (first|exact nJ.refl _|apply nJ.step)⟩
   obtain rfl:=Option.some.inj H
   go_wp2
   go_ret
   exact⟨rf,by repeat (first|exact nJ.refl _|apply nJ.step)⟩
def rY.f (k:Nat) (a0:Int) (a1:Int):Option (Bool):=if a0≥0 then((sK.f k a1 16).bind fun aD=>(some (decide (a0<aD))))else(some false)
theorem rY.calls (k:Nat) (a0:Int) (a1:Int) (r:Bool) (w:World) (h:rY.f k a0 a1=some r):
  Calls Try.prog 27 #[.int .i64 a0,.int .i64 a1] w fun e w'=>e=.returned (.bool r)∧nJ w w':=by
 unfold rY.f at h;have H:=h;clear h
 replace H:=Hj_ H;rcases H with⟨c3,H⟩|⟨c3,H⟩
 ·have am:decide (0≤a0)=true:=decide_eq_true c3
  clear c3;replace ⟨aD,A4,H⟩:=bA_ H;obtain rfl:=Option.some.inj H;go_enter Try.func27,Try.ntmps27
  go_wp2_with (first|(go_at_call 52;(with_reducible refine(sK.calls k a1 16 aD _ A4.o).mono ?_);rintro e w' ⟨rfl,⟨nd,rfl⟩⟩))
  go_ret
  exact⟨rf,by repeat (first|exact nJ.refl _|apply nJ.step)⟩
 have am:decide (0≤a0)=false:=decide_eq_false c3
 clear c3;obtain rfl:=Option.some.inj H;go_enter Try.func27,Try.ntmps27
 go_wp2
 go_ret
 exact⟨rf,by repeat (first|exact nJ.refl _|apply nJ.step)⟩
def nI.l0:Nat→List Int→Int→Int→Option (List Int)
 |0,_,_,_=>none
 |k+1,x0,x2,x3=>if x2<x3 then(if 0≤x3 then(if x3<(x0.length:Int)then(if 0≤x2 then(if x2<(x0.length:Int)then(nI.l0 k ((x0.set (x2:Int).toNat (rd x0 x3)).set (x3:Int).toNat (rd x0 x2)) (wrap64 (x2+1)) (wrap64 (x3 - 1)))else(none))else(none))else(none))else(none))else(some x0)
def nI.f (k:Nat) (l0:List Int):Option (List Int):=nI.l0 k l0 0 (wrap64 ((l0.length:Int) - 1))
def nI.T3:Bool×List (List Nat×List Nat):=(true,[([],[]),([],[]),([],[]),([],[]),([],[]),([],[]),([4,5],[4,5]),([6],[6]),([],[]),([],[]),([8,9],[8,9]),([10],[10]),([0,1,0,1,4,5,6,7,11],[0,1]),([12,7,0,1,4,5,6,7,11],[7,12]),([2,3,0,1,2,3,4,5,6,7,8,9,10,11,12,13],[2,3]),([14,11,13,0,1,2,3,4,5,6,7,8,9,10,11,12,13],[11,14])])
def nI.B3:List Nat:=[0,0,0,0,0,0,48,112,0,0,768,1792,4083,8179,16383,32767]
theorem nI.OB:uf .any (opsOf Try.f65 3)=nI.T3:=K_
theorem nI.ME:rV nI.T3.2 nI.B3=true:=K_
theorem nI.calls (k:Nat) (U:Nat→Prop) (J:Value) (l0:List Int) (r:List Int) (w0 w:World) (hB:Below w0.heap.size w0 w) (ho0:Kd.R (Kd.int .i64) 3 w w0.heap.size U J l0) (h:nI.f k l0=some r):
  Calls Try.prog 65 #[J] w fun e w'=>e=.returned (.tuple #[])∧Kd.R (Kd.int .i64) 3 w' w0.heap.size (fun k_=>(U k_∨w.heap.size≤k_)) J r∧Below w0.heap.size w0 w'∧Kept w w' (fun k_=>U k_):=by
 have bm:=A_ (show Kd.R (Kd.int .i64) 3 w w0.heap.size (fun k_=>(U k_∨w.heap.size≤k_)) J l0 from Kd.mM ho0 (fun k_ hk=>(.inl hk)));have HK:=A_ (Kept.refl w (fun k_=>U k_));have HW0:=A_ hB.size;have HB:=A_ hB;clear hB;unfold nI.f at h;have H:=h;clear h
 have H':=A_ H
 clear H;obtain⟨bv,bB,bC⟩:=Kd.mU bm.o;subst bC;go_enter Try.func65,Try.ntmps65
 go_wp2
 go_loopg [2,3] k (fun kq v2 v3 w'=>∃ (aa:List Int) (ab:Int) (ae:Int),v2=.int .i64 ab∧v3=.int .i64 ae∧Aside0 (nI.l0 kq aa ab ae=some r)∧Aside0 (kq≤k)∧Aside0 (Kd.R (Kd.int .i64) 3 w' w0.heap.size (fun k_=>(U k_∨w.heap.size≤k_)) (.slice bv l0.length bB) aa)∧Aside0 (Kept w w' (fun k_=>U k_))∧Aside0 (Below w0.heap.size w0 w'))
 case atStart=>exact⟨(l0),(0),(wrap64 ((l0.length:Int) - 1)),rf,rf,H',⟨Nat.le_refl _⟩,bm,HK,HB⟩
 case round=>
  clear H';obtain⟨aa,ab,ae,rfl,rfl,HA,av,ag,HK,HB⟩:=hrel;have ak:=(Kd.mX ag.o).1;rw[ak]at ag
  (try simp only[ak])
  cases gk with
  |zero=>exact nz_ HA.o
  |succ k1=>
   have H:=HA.o;clear HA;simp only[nI.l0]at H
   replace H:=Hi_ H;rcases H with⟨am,H⟩|⟨am,H⟩
   ·replace ⟨bw,H⟩:=Hd_ (p:=0≤ae) H
    replace ⟨aV,H⟩:=Hd_ H
    replace ⟨bh,H⟩:=Hd_ (p:=0≤ab) H
    replace ⟨bA,H⟩:=Hd_ H
    obtain⟨a9,ao⟩:=ex_ ((aa.set (ab:Int).toNat (rd aa ae)):List Int);rw[←ao]at H;have aJ:=A_ ao;clear ao;obtain⟨ba,ap⟩:=ex_ ((a9.set (ae:Int).toNat (rd aa ab)):List Int);rw[←ap]at H;have aM:=A_ ap;clear ap
    have H':=A_ H
    clear H
    try go_wp2
    replace ag:=A_ (Kd.pR ag.o);replace HK:=A_ (Kept.drew HK.o);replace HB:=A_ (oG HB.o)
    have ay:0≤(ae:Int):=oa_
    have aA:ae<(aa.length:Int):=oa_
    obtain⟨aT,bi,ah⟩:=Kd.nM (Kd.mX ag.o).2.2 ae ay aA
    cases bi
    replace ay:=eq_true ay;replace aA:=eq_true aA
    have az:0≤(ab:Int):=oa_
    have aC:ab<(aa.length:Int):=oa_
    obtain⟨aU,bj,ai⟩:=Kd.nM (Kd.mX ag.o).2.2 ab az aC;obtain rfl:aT=aU:=(by injection bj);replace az:=eq_true az;replace aC:=eq_true aC
    have p8:0≤(ab:Int):=oa_
    have q8:(ab:Int)<((aa.length:Int):Int):=oa_
    obtain⟨bf,bF,bq,br,bJ,bN,bH⟩:=Kd.sj ag.o om
    (first|cases bq|(injection bq with a_ bK bL;(first|subst a_|(injection a_ with a_;subst a_));subst bL;clear bK))
    have bO:=A_ br;have bM:=A_ bH;clear br bJ bH;have aK:=A_ (show(U bf∨w.heap.size≤bf)from(ag.o.1 _ rfl))
    (first|simp only[add_plain]at ah|skip)
    (first|simp only[add_plain]at ai|skip)
    obtain⟨a7,aX⟩:=Kd.rF 0 ag.o (ab:Int) p8 q8;replace p8:=eq_true p8;replace q8:=eq_true q8;have aw:=Kd.F7 ag.o (ab:Int) (rd aa ae);rw[←aJ.o]at aw;have aR:=A_ aw;clear aw
    have p9:0≤(ae:Int):=oa_
    have q9:(ae:Int)<((aa.length:Int):Int):=oa_
    obtain⟨a8,aY⟩:=Kd.rF 0 aR.o (ae:Int) p9 q9;replace p9:=eq_true p9;replace q9:=eq_true q9;have ax:=Kd.F7 aR.o (ae:Int) (rd aa ab);rw[←aM.o]at ax;have aZ:=A_ ax;clear ax;refine rM (n:=16) (S:=fun w'=>w'.cell? ⟨bf,(ae).toNat,none⟩=some (.int .i64 (rd aa ae))∧w'.cell? ⟨bf,(ab).toNat,none⟩=some (.int .i64 (rd aa ab))) (ds:=[13,15]) (mk_ 16 0) K_ rfl rfl ⟨ah,ai⟩ (fun an=>?_);refine ru nI.OB nI.ME (fun aj bn=>?_)
    generalize wr.drew=bP at ag HK HB bM aR aZ aX aY ah ai a7 a8 an⊢
    refine pw_ 0 14 (mk_ 16 1) aj ?_;refine pw_ 1 15 (mk_ 16 3) aj ?_;refine pw_ 2 16 (mk_ 16 7) aj ?_;refine pw_ 3 17 (mk_ 16 15) aj ?_;refine pw_ 4 18 (mk_ 16 31) aj ?_;refine pw_ 5 19 (mk_ 16 63) aj ?_;refine pw_ 6 20 (mk_ 16 127) aj ?_;refine pw_ 8 22 (mk_ 16 383) aj ?_;refine pw_ 9 23 (mk_ 16 895) aj ?_;refine pw_ 10 24 (mk_ 16 1919) aj ?_;refine tk_ 7 21 (mk_ 16 2047) aj bn an ?_;refine tk_ 11 25 (mk_ 16 4095) aj bn an ?_;refine pw_ 12 26 (mk_ 16 8191) aj ?_;refine vI (i:=13) (N:=none) (mk_ 16 16383) rfl rfl (xJ aj.o K_) d_ (fun K hK=>?_);refine uI (w1:=?_) rf rfl ?_ ?_;rotate_left
    ·go_simp
     rfl
    refine hK.out _ _ ?_;clear hK K;refine pw_ 14 27 (mk_ 16 32767) aj ?_;refine vI (i:=15) (N:=none) (mk_ 16 65535) rfl rfl (xJ aj.o K_) d_ (fun K hK=>?_);refine uI (w1:=?_) rf rfl ?_ ?_;rotate_left
    ·go_simp
     rfl
    refine hK.out _ _ ?_;clear hK K;refine sZ (sP aj.o K_) ?_
    try go_wp2
    (try simp only[←ak])
    go_roundg k1
    case measure=>have:=av.o;omega
    case rel=>exact⟨(ba),(wrap64 (ab+1)),(wrap64 (ae - 1)),rf,rf,H',⟨by have:=av.o;omega⟩,⟨by(try simp only[ak]);exact aZ.o⟩,⟨by repeat (first|(with_reducible first|exact HK.o|apply Kept.alloc|apply Kept.drewN|apply Kept.drew|refine Kept.setCell ?_ aK.o _|refine Kept.setCell ?_ aK.o _)|exact HK.o)⟩,⟨wb_⟩⟩
   obtain rfl:=Option.some.inj H
   go_wp2
   first|go_end0|((try simp only[Exit.inBlock,Exit.then]);refine bodyPost_ret (results_none rfl _ _ _) rfl ?_)
   exact⟨rf,(by first|exact ag.o|(simp only[ak];exact ag.o)),HB.o,HK.o⟩
def rJ.l0:Nat→Int→Int→List Int→Option (List Int)
 |0,_,_,_=>none
 |k+1,x0,x1,x5=>if x0>0 then(if x1=0 then(none)else(if x5.length<17592186044416 then(rJ.l0 k (wrap64 (Int.tdiv x0 x1)) x1 (x5++[Int.tmod x0 x1]))else(none)))else((nI.f k x5).bind fun aE=>(some aE))
def rJ.f (k:Nat) (a0:Int) (a1:Int):Option (List Int):=rJ.l0 k a0 a1 (([]:List Int))
theorem rJ.calls (k:Nat) (a0:Int) (a1:Int) (r:List Int) (w:World) (h:rJ.f k a0 a1=some r):
  Calls Try.prog 54 #[.int .i64 a0,.int .i64 a1] w fun e w'=>∃bI:Value,e=.returned (bI)∧Kd.R (Kd.int .i64) 3 w' w.heap.size (fun _=>True) bI r∧Below w.heap.size w w':=by
 have HB:=A_ (Below.refl w.heap.size w);unfold rJ.f at h;have H:=h;clear h;obtain⟨bc,aq⟩:=ex_ ((([]:List Int)):List Int);rw[←aq]at H;have aN:=A_ aq;clear aq
 have H':=A_ H
 clear H;go_enter Try.func54,Try.ntmps54
 go_wp2_with (first|((with_reducible refine gd_ 6 rfl ?_);refine RL_ 6 3 [] [] rfl rfl (by go_simp;done) rfl rfl ?_;rintro bD w3 bG hb - -;(rw[←aN.o]at bG);have aH:=A_ (Kd.nE bG (mK HB.o));replace HB:=bs_ HB hb;clear hb bG))
 go_loopg [0,5] k (fun kq v0 v5 w'=>∃ (aa:Int) (af:List Int),v0=.int .i64 aa∧Aside0 (rJ.l0 kq aa a1 af=some r)∧Aside0 (kq≤k)∧Aside0 (Kd.R (Kd.int .i64) 3 w' w.heap.size (fun _=>True) v5 af)∧Aside0 (Below w.heap.size w w'))
 case atStart=>exact⟨(a0),(bc),rf,H',⟨Nat.le_refl _⟩,aH,HB⟩
 case round=>
  clear H';obtain⟨aa,af,rfl,HA,av,al,HB⟩:=hrel
  cases gk with
  |zero=>exact nz_ HA.o
  |succ k1=>
   have H:=HA.o;clear HA;simp only[rJ.l0]at H
   replace H:=Hj_ H;rcases H with⟨c5,H⟩|⟨c5,H⟩
   ·have aV:decide (0<aa)=true:=decide_eq_true c5
    clear c5
    replace H:=Hj_ H;rcases H with⟨c6,H⟩|⟨c6,H⟩
    ·cases H
    have bh:(a1==0)=false:=beq_eq_false_iff_ne.mpr c6
    have bz:(a1 !=0)=true:=bne_iff_ne.mpr c6
    replace ⟨bg,H⟩:=Ha_ H
    obtain⟨be,ar⟩:=ex_ ((af++[Int.tmod aa a1]):List Int);rw[←ar]at H;have aQ:=A_ ar;clear ar
    have H':=A_ H
    clear H
    go_wp2_with (first|((with_reducible refine nG (b:=.append) (xs:= #[.tmp 12,.tmp 16]) rfl ?_);at_builtin;refine Kd.qG (Kd.int .i64) (w0:=w) w.heap.size rfl (.tmp 12) (.tmp 16) 25 3 (.int .i64 0) 8 rfl Try.underlying25 info3 rfl d_ om u5 af (Int.tmod aa a1) [.int .i64 (Int.tmod aa a1)] (fun _=>True) (fun _=>False) rfl rfl ?aP (fun _ hk=>hk.elim) ?aF ?aO ?aB ?aS ?aL ?_;(case aP=>exact rfl);(case aB=>exact HB.o);(case aF=>exact(fun _ _=>trivial));(case aO=>exact al.o);(case aS=>exact(mK HB.o));(case aL=>have:=bg.o;omega);intro bE w8 ho hb hg hat;rw[←aQ.o]at ho;replace HB:=A_ (hb);have aI:=A_ (ho);clear al;clear ho hb hg hat))
    go_roundg k1
    case measure=>have:=av.o;omega
    case rel=>exact⟨(wrap64 (Int.tdiv aa a1)),(be),rf,H',⟨by have:=av.o;omega⟩,aI,HB⟩
   have aV:decide (0<aa)=false:=decide_eq_false c5
   clear c5;replace ⟨aE,A9,H⟩:=bA_ H;obtain rfl:=Option.some.inj H;obtain⟨aG,aW,bk⟩:=Kd.mU al.o;subst bk
   go_wp2_with (first|((with_reducible refine gc_ 65 rfl ?_);refine cM_ E65 19 (nI.calls k1 (fun k_=>some k_=(.slice aG af.length aW:Value).ownBlock) (.slice aG af.length aW) af aE w _ HB.o (Kd.sD rfl al.o) A9.o) ?_;rintro e bQ ⟨rfl,bu,hb,hkp⟩;refine⟨_,rfl,?_⟩;replace al:=A_ (Kd.Oo rfl bu (fun k_ e_=>al.o.1 k_ e_));replace HB:=A_ (hb);clear hb hkp;(try clear bu)))
   go_ret
   exact⟨_,rf,al.o,HB.o⟩
mutual
def mW.l0:Nat→List Int→List Int→Int→Int→Int→List Int→List (List (List Int))→List Int→Option (Int)
 |0,_,_,_,_,_,_,_,_=>none
 |k+1,x5,ci,cE,bU,aq,ar,al,ap=>if bU<cE then(if 0≤bU then(if bU<(ci.length:Int)then(if 0≤(x5.length:Int)then(if((x5.length:Int):Int).toNat≤35184372088832 then(mW.l1 k (rd ci bU) (List.replicate ((x5.length:Int):Int).toNat 0) ci cE bU x5 (x5.length:Int) 0 aq ar al ap)else(none))else(none))else(none))else(none))else(mW.l3 k 0 x5 (x5.length:Int) 0 aq ar al ap)
def mW.l1:Nat→Int→List Int→List Int→Int→Int→List Int→Int→Int→Int→List Int→List (List (List Int))→List Int→Option (Int)
 |0,_,_,_,_,_,_,_,_,_,_,_,_=>none
 |k+1,x7,x8,ci,cE,bU,da,dB,bV,aq,ar,al,ap=>if bV<dB then(if 0≤bV then(if bV<(da.length:Int)then(if 0≤x7 then(if x7<(al.length:Int)then(if bV<((nH al x7).length:Int)then(mW.l2 k x7 x8 (rd da bV) ci cE bU da dB bV (f_ (nH al x7) bV) ((f_ (nH al x7) bV).length:Int) 0 aq ar al ap)else(none))else(none))else(none))else(none))else(none))else(mW.l0 k x8 ci cE (wrap64 (bU+1)) aq ar al ap)
def mW.l2:Nat→Int→List Int→Int→List Int→Int→Int→List Int→Int→Int→List Int→Int→Int→Int→List Int→List (List (List Int))→List Int→Option (Int)
 |0,_,_,_,_,_,_,_,_,_,_,_,_,_,_,_,_=>none
 |k+1,x7,x8,eZ,ci,cE,bU,da,dB,bV,ew,fb,cF,aq,ar,al,ap=>if cF<fb then(if 0≤cF then(if cF<(ew.length:Int)then(if cF<(x8.length:Int)then(mW.l2 k x7 (x8.set (cF:Int).toNat (wrap64 ((rd x8 cF)+(wrap64 (eZ*(rd ew cF)))))) eZ ci cE bU da dB bV ew fb (wrap64 (cF+1)) aq ar al ap)else(none))else(none))else(none))else(mW.l1 k x7 x8 ci cE bU da dB (wrap64 (bV+1)) aq ar al ap)
def mW.l3:Nat→Int→List Int→Int→Int→Int→List Int→List (List (List Int))→List Int→Option (Int)
 |0,_,_,_,_,_,_,_,_=>none
 |k+1,fa,ez,fc,cY,aq,ar,al,ap=>if cY<fc then(if 0≤cY then(if cY<(ez.length:Int)then(if cY<(ap.length:Int)then(mW.l3 k (wrap64 (fa+(wrap64 ((rd ez cY)*(rd ap cY))))) ez fc (wrap64 (cY+1)) aq ar al ap)else(none))else(none))else(none))else(some fa)
end
def mW.f (k:Nat) (ao:Int) (am:List Int) (af:List (List (List Int))) (az:List Int) (a1:Int):Option (Int):=(oD.f am).bind fun ch=>((rJ.f k a1 ao).bind fun aJ=>(mW.l0 k ch aJ (aJ.length:Int) 0 ao am af az))
theorem mW.calls (k:Nat) (ao:Int) (aD:Option Addr) (aE:Nat) (am:List Int) (aI:Option Addr) (aG:Nat) (af:List (List (List Int))) (bw:Option Addr) (bz:Nat) (az:List Int) (a1:Int) (r:Int) (w:World) (bq:Kd.C (Kd.int .i64) w aD am.length am) (bm:am.length≤aE) (br:Kd.C (Kd.slice 25 (Kd.slice 3 (Kd.int .i64))) w aI af.length af) (bn:af.length≤aG) (cD:Kd.C (Kd.int .i64) w bw az.length az) (cC:az.length≤bz) (h:mW.f k ao am af az a1=some r):
  Calls Try.prog 28 #[.agg #[.int .i64 ao,.slice aD am.length aE,.slice aI af.length aG,.slice bw az.length bz],.int .i64 a1] w fun e w'=>e=.returned (.int .i64 r)∧Below w.heap.size w w':=by
 have fB:=Try.underlying33;have bi:=A_ bq;have bg:=A_ bm;clear bq bm;have bj:=A_ br;have bB:=A_ bn;clear br bn;have de:=A_ cD;have eD:=A_ cC;clear cD cC;have HB:=A_ (Below.refl w.heap.size w);unfold mW.f at h;have H:=h;clear h;replace ⟨ch,A3,H⟩:=bA_ H;replace ⟨aJ,A4,H⟩:=bA_ H
 have H':=A_ H
 clear H;go_enter Try.func28,Try.ntmps28
 go_wp2_with (first|((with_reducible refine gt_ 2 ?_);refine be_ 2 #[.int .i64 ao,.slice aD am.length aE,.slice aI af.length aG,.slice bw az.length bz] 33 ?_;intro bE hg w5 J hb;have ak:=A_ (J);have eC:=lh_ HB hg;have eB:=lh_ HB hg;replace HB:=bs_ HB hb;clear hb J hg;have cJ:=bq4 ak.o)|((with_reducible refine gc_ 53 rfl ?_);refine cM_ E53 18 (oD.calls _ _ am ch _ (Kd.mO bi.o HB.o) bg.o A3.o) ?_;rintro e w7 ⟨fx,rfl,ho0,hb⟩;refine⟨_,rfl,?_⟩;have bC:=A_ (Kd.nE ho0 (mK HB.o));replace ak:=bb_ ak hb;replace HB:=bs_ HB hb;clear hb ho0;have cK:=bq4 ak.o)|((with_reducible refine gc_ 54 rfl ?_);refine cM_ E54 22 (rJ.calls k a1 ao aJ _ A4.o) ?_;rintro e w9 ⟨fy,rfl,ho0,hb⟩;refine⟨_,rfl,?_⟩;have cw:=A_ (Kd.nE (Kd.qF ho0 (Kd.oV bC.o)) (mK HB.o));replace bC:=A_ (Kd.oz bC.o (Kd.nW ho0) hb);replace ak:=bb_ ak hb;replace HB:=bs_ HB hb;clear hb ho0;obtain⟨db,aY,d9⟩:=Kd.mU cw.o;subst d9))
 go_loopg [5,24] k (fun kq v5 fv w'=>∃ (ai:List Int) (ab:List Int) (ae:Int),fv=.int .i64 ae∧Aside0 (mW.l0 kq ai ab (aJ.length:Int) ae ao am af az=some r)∧Aside0 (kq≤k)∧Aside0 (Kd.R (Kd.int .i64) 3 w' w.heap.size (o1 (.slice db aJ.length aY)) v5 ai)∧Aside0 (Kd.R (Kd.int .i64) 3 w' w.heap.size (o1 v5) (.slice db aJ.length aY) ab)∧Aside0 (w'.heap[bE]? =some (.cells #[.int .i64 ao,(.slice aD am.length aE),(.slice aI af.length aG),(.slice bw az.length bz)] 33 (0,0)))∧Aside0 (Below w.heap.size w w'))
 case atStart=>exact⟨(ch),(aJ),(0),rf,H',⟨Nat.le_refl _⟩,⟨by exact Kd.mM bC.o (fun _ hk=>hk.2)⟩,⟨by exact Kd.mM cw.o (fun _ hk=>hk.2)⟩,ak,HB⟩
 case round=>
  clear H'
  clear cJ cK
  obtain⟨ai,ab,ae,rfl,HA,co,bh,ay,ak,HB⟩:=hrel;have aa:=(Kd.mX ay.o).1;rw[aa]at ay
  (try simp only[aa])
  (try simp only[aa]at ak)
  (try simp only[aa]at bh)
  cases gk with
  |zero=>exact nz_ HA.o
  |succ k1=>
   have H:=HA.o;clear HA;simp only[mW.l0]at H
   replace H:=Hj_ H;rcases H with⟨c11,H⟩|⟨c11,H⟩
   ·have bD:=decide_eq_true c11;clear c11
    replace ⟨di,H⟩:=Hd_ H
    replace ⟨dj,H⟩:=Hd_ H
    replace ⟨c14,H⟩:=Hp_ H
    have dk:=eq_true c14;have dm:=decide_eq_true c14;clear c14
    replace ⟨c15,H⟩:=Hp_ H
    have dn:=eq_true c15;have dp:=decide_eq_true c15;clear c15;obtain⟨dC,bS⟩:=ex_ ((List.replicate ((ai.length:Int):Int).toNat 0):List Int);rw[←bS]at H;have df:=A_ bS;clear bS
    have H':=A_ H
    clear H
    have b6:0≤(ae:Int):=oa_
    have cc:ae<(ab.length:Int):=oa_
    obtain⟨aM,dX,b3⟩:=Kd.nM (Kd.mX ay.o).2.2 ae b6 cc
    cases dX
    replace b6:=eq_true b6;replace cc:=eq_true cc;obtain⟨bL,aQ,cH⟩:=Kd.mU bh.o;subst cH
    go_wp2_with (first|((with_reducible refine gt_ 30 ?_);refine Kd.Ce (Kd.int .i64) _ 3 rfl (N:=30) rfl 25 _ _ rfl (ai.length:Int) rfl rfl Try.underlying25 (.int .i64 0) 8 info3 rfl d_ om 0 (ok:=fun _=>True) (okp:=fun _=>True) rfl (fun _ hk=>hk) trivial oa_ (Nat.le_trans (Nat.mul_le_mul_right _ (oa_:(ai.length:Int).toNat≤35184372088832)) om) (Below.refl _ _) (Nat.le_refl _) ?_;rintro bN fJ bR hb - -;(rw[←df.o]at bR);have dd:=A_ (Kd.nE (Kd.qF (Kd.qF bR (Kd.oV bh.o)) (Kd.oV ay.o)) (mK HB.o));replace bh:=A_ (Kd.oz bh.o (Kd.nW bR) hb);replace ay:=A_ (Kd.oz ay.o (Kd.nW bR) hb);replace ak:=bb_ ak hb;replace HB:=bs_ HB hb;clear hb bR))
    go_loopg [33] k1 (fun kq fw w'=>∃ (bW:List Int) (ag:Int),fw=.int .i64 ag∧Aside0 (mW.l1 kq (rd ab ae) bW ab (aJ.length:Int) ae ai (ai.length:Int) ag ao am af az=some r)∧Aside0 (kq≤k1)∧Aside0 (Kd.R (Kd.int .i64) 3 w' w.heap.size (o2 (.slice (some aM) ab.length aY) (.slice bL ai.length aQ)) bN bW)∧Aside0 (Kd.R (Kd.int .i64) 3 w' w.heap.size (o2 bN (.slice bL ai.length aQ)) (.slice (some aM) ab.length aY) ab)∧Aside0 (Kd.R (Kd.int .i64) 3 w' w.heap.size (o2 bN (.slice (some aM) ab.length aY)) (.slice bL ai.length aQ) ai)∧Aside0 (w'.heap[bE]? =some (.cells #[.int .i64 ao,(.slice aD am.length aE),(.slice aI af.length aG),(.slice bw az.length bz)] 33 (0,0)))∧Aside0 (Below w.heap.size w w'))
    case atStart=>exact⟨(dC),(0),rf,H',⟨Nat.le_refl _⟩,⟨by(try simp only[aa]);exact Kd.mM dd.o (fun _ hk=>⟨hk.2,hk.1.2⟩)⟩,⟨by(try simp only[aa]);exact Kd.mM ay.o (fun _ hk=>⟨hk.2,hk.1⟩)⟩,⟨by(try simp only[aa]);exact Kd.mM bh.o (fun _ hk=>⟨hk.2,hk.1⟩)⟩,⟨by(try simp only[aa]);exact ak.o⟩,HB⟩
    case round=>
     clear H'
     clear bD di dj dk dm dn dp b3 b6 cc
     obtain⟨bW,ag,rfl,HA,bZ,aN,ay,aW,ak,HB⟩:=hrel
     cases gk with
     |zero=>exact nz_ HA.o
     |succ k2=>
      have H:=HA.o;clear HA;simp only[mW.l1]at H
      replace H:=Hj_ H;rcases H with⟨c19,H⟩|⟨c19,H⟩
      ·have bO:=decide_eq_true c19;clear c19
       replace ⟨dq,H⟩:=Hd_ H
       replace ⟨dt,H⟩:=Hd_ H
       replace ⟨du,H⟩:=Hd_ H
       replace ⟨dv,H⟩:=Hd_ H
       replace ⟨dw,H⟩:=Hd_ H
       have H':=A_ H
       clear H
       have b7:0≤(ag:Int):=oa_
       have cd:ag<(ai.length:Int):=oa_
       obtain⟨bk,dY,b4⟩:=Kd.nM (Kd.mX aW.o).2.2 ag b7 cd
       cases dY
       replace b7:=eq_true b7;replace cd:=eq_true cd;have bF:=bq4 ak.o
       have b8:0≤((rd ab ae):Int):=oa_
       have cf:(rd ab ae)<(af.length:Int):=oa_
       obtain⟨dh,dP,dS,dZ,aU,bI,bG⟩:=wI bj.o (rd ab ae) b8 cf
       cases dZ
       replace aU:=cm_ HB aU;have b1:=A_ bG;have dD:=A_ bI;clear bG bI;replace b8:=eq_true b8;replace cf:=eq_true cf
       have b9:0≤(ag:Int):=oa_
       have cg:ag<((nH af (rd ab ae)).length:Int):=oa_
       obtain⟨eE,dQ,dT,d4,aV,bJ,bH⟩:=qM b1.o ag b9 cg
       cases d4
       replace aV:=cm_ HB aV;have b2:=A_ bH;have dE:=A_ bJ;clear bH bJ;replace b9:=eq_true b9;replace cg:=eq_true cg
       go_wp2
       go_loopg [47] k2 (fun kq fz w'=>∃ (aT:List Int) (aj:Int),fz=.int .i64 aj∧Aside0 (mW.l2 kq (rd ab ae) aT (rd ai ag) ab (aJ.length:Int) ae ai (ai.length:Int) ag (f_ (nH af (rd ab ae)) ag) ((f_ (nH af (rd ab ae)) ag).length:Int) aj ao am af az=some r)∧Aside0 (kq≤k2)∧Aside0 (Kd.R (Kd.int .i64) 3 w' w.heap.size (o2 (.slice (some aM) ab.length aY) (.slice (some bk) ai.length aQ)) bN aT)∧Aside0 (Kd.R (Kd.int .i64) 3 w' w.heap.size (o2 bN (.slice (some bk) ai.length aQ)) (.slice (some aM) ab.length aY) ab)∧Aside0 (Kd.R (Kd.int .i64) 3 w' w.heap.size (o2 bN (.slice (some aM) ab.length aY)) (.slice (some bk) ai.length aQ) ai)∧Aside0 (w'.heap[bE]? =some (.cells #[.int .i64 ao,(.slice aD am.length aE),(.slice (some dh) af.length aG),(.slice bw az.length bz)] 33 (0,0)))∧Aside0 (Below w.heap.size w w'))
       case atStart=>exact⟨(bW),(0),rf,H',⟨Nat.le_refl _⟩,⟨by(try simp only[aa]);exact aN.o⟩,⟨by(try simp only[aa]);exact ay.o⟩,⟨by(try simp only[aa]);exact aW.o⟩,⟨by(try simp only[aa]);exact ak.o⟩,HB⟩
       case round=>
        clear H'
        clear bO dq dt du dv dw bF b4 aU aV b7 b8 b9 cd cf cg
        obtain⟨aT,aj,rfl,HA,dF,aN,ay,aW,ak,HB⟩:=hrel
        cases gk with
        |zero=>exact nz_ HA.o
        |succ k3=>
         have H:=HA.o;clear HA;simp only[mW.l2]at H
         replace H:=Hi_ H;rcases H with⟨dx,H⟩|⟨dx,H⟩
         ·replace ⟨eJ,H⟩:=Hd_ H
          replace ⟨eK,H⟩:=Hd_ H
          replace ⟨eN,H⟩:=Hd_ H
          obtain⟨cZ,bT⟩:=ex_ ((aT.set (aj:Int).toNat (wrap64 ((rd aT aj)+(wrap64 ((rd ai ag)*(rd (f_ (nH af (rd ab ae)) ag) aj)))))):List Int);rw[←bT]at H;have dg:=A_ bT;clear bT
          have H':=A_ H
          clear H
          have cL:0≤(aj:Int):=oa_
          have cQ:aj<((f_ (nH af (rd ab ae)) ag).length:Int):=oa_
          obtain⟨eF,d5,a7⟩:=Kd.nM b2.o aj cL cQ
          cases d5
          replace a7:=cm_ HB a7;replace cL:=eq_true cL;replace cQ:=eq_true cQ;obtain⟨fh,dV,eh⟩:=Kd.mU aN.o;subst eh
          have cN:0≤(aj:Int):=oa_
          have cS:aj<(aT.length:Int):=oa_
          obtain⟨eG,d6,b5⟩:=Kd.nM (Kd.mX aN.o).2.2 aj cN cS
          cases d6
          replace cN:=eq_true cN;replace cS:=eq_true cS
          have eo:0≤(aj:Int):=oa_
          have ep:(aj:Int)<((aT.length:Int):Int):=oa_
          obtain⟨cI,fp,dy,dz,fC,fE,aO⟩:=Kd.sj aN.o om
          (first|cases dy|(injection dy with eu fF fG;(first|subst eu|(injection eu with eu;subst eu));subst fG;clear fF))
          have fD:=A_ dz;have fH:=A_ aO;clear dz fC aO
          (first|simp only[add_plain]at b5|skip)
          obtain⟨en,em⟩:=Kd.rF 0 aN.o (aj:Int) eo ep;replace eo:=eq_true eo;replace ep:=eq_true ep;have cG:=Kd.uo aN.o (aj:Int) (wrap64 ((rd aT aj)+(wrap64 ((rd ai ag)*(rd (f_ (nH af (rd ab ae)) ag) aj)))))
          go_wp2_with (first|((with_reducible refine qz (t:=3) (p:=60) rfl ?_);refine qa (t:=3) (p:=60) (w1:=(wr.setCell ⟨cI,(aj:Int).toNat,none⟩ (.int .i64 (wrap64 ((rd aT aj)+(wrap64 ((rd ai ag)*(rd (f_ (nH af (rd ab ae)) ag) aj)))))))) rfl rfl rfl (by go_simp;done) ?_;intro eT hw;have hg:wr.grownBy eT (some cI):=(by rw[hw];exact cG.2);have fe:Kd.R (Kd.int .i64) 3 eT w.heap.size (o2 (.slice (some aM) ab.length aY) (.slice (some bk) ai.length aQ)) (.slice (some ⟨cI,0,none⟩) aT.length dV) cZ:=(by rw[hw,dg.o];exact cG.1);clear cG;replace ay:=rB_ (ok:=(o1 (.slice (some bk) ai.length aQ))) fe ay (fun _ hk=>⟨hk.2,hk.1⟩) hg;replace aW:=rB_ (ok:=(o1 (.slice (some aM) ab.length aY))) fe aW (fun _ hk=>⟨hk.2,hk.1⟩) hg;replace ak:=gR_ aN ak hg;replace aN:=A_ (fe);replace HB:=A_ ((by rw[hw];exact mY (HB.o) fD.o:Below w.heap.size w eT));clear hg hw fe))
          go_roundg k3
          case measure=>have:=co.o;have:=bZ.o;have:=dF.o;omega
          case rel=>exact⟨(cZ),(wrap64 (aj+1)),rf,H',⟨by have:=co.o;have:=bZ.o;have:=dF.o;omega⟩,⟨by(try simp only[aa]);exact aN.o⟩,⟨by(try simp only[aa]);exact Kd.mM ay.o (fun _ hk=>⟨hk.2,hk.1⟩)⟩,⟨by(try simp only[aa]);exact Kd.mM aW.o (fun _ hk=>⟨hk.2,hk.1⟩)⟩,⟨by(try simp only[aa]);exact ak.o⟩,HB⟩
         have H':=A_ H
         clear H
         go_wp2
         go_roundg k3
         case measure=>have:=co.o;have:=bZ.o;have:=dF.o;omega
         case rel=>exact⟨(aT),(wrap64 (ag+1)),rf,H',⟨by have:=co.o;have:=bZ.o;have:=dF.o;omega⟩,⟨by(try simp only[aa]);exact aN.o⟩,⟨by(try simp only[aa]);exact ay.o⟩,⟨by(try simp only[aa]);exact aW.o⟩,⟨by(try simp only[aa]);exact ak.o⟩,HB⟩
      have bO:=decide_eq_false c19;have aF:=bO
      (try rw[aa]at aF)
      clear c19
      have H':=A_ H
      clear H
      go_wp2
      (try simp only[←aa])
      go_roundg k2
      case measure=>have:=co.o;have:=bZ.o;omega
      case rel=>exact⟨(bW),(ab),(wrap64 (ae+1)),rf,H',⟨by have:=co.o;have:=bZ.o;omega⟩,⟨by(try simp only[aa]);exact Kd.mM aN.o (fun _ hk=>hk.1)⟩,⟨by(try simp only[aa]);exact Kd.mM ay.o (fun _ hk=>hk.1)⟩,⟨by(try simp only[aa]);exact ak.o⟩,HB⟩
   have bD:=decide_eq_false c11;have aK:=bD
   (try rw[aa]at aK)
   clear c11
   have H':=A_ H
   clear H;obtain⟨dR,dW,ei⟩:=Kd.mU bh.o;subst ei
   go_wp2
   go_loopg [13,67] k1 (fun kq fu fA w'=>∃ (bK:Int) (au:Int),fu=.int .i64 bK∧fA=.int .i64 au∧Aside0 (mW.l3 kq bK ai (ai.length:Int) au ao am af az=some r)∧Aside0 (kq≤k1)∧Aside0 (Kd.R (Kd.int .i64) 3 w' w.heap.size (fun _=>True) (.slice dR ai.length dW) ai)∧Aside0 (w'.heap[bE]? =some (.cells #[.int .i64 ao,(.slice aD am.length aE),(.slice aI af.length aG),(.slice bw az.length bz)] 33 (0,0)))∧Aside0 (Below w.heap.size w w'))
   case atStart=>exact⟨(0),(0),rf,rf,H',⟨Nat.le_refl _⟩,⟨by(try simp only[aa]);exact Kd.mM bh.o (fun _ hk=>trivial)⟩,⟨by(try simp only[aa]);exact ak.o⟩,HB⟩
   case round=>
    clear H'
    try clear bD
    obtain⟨bK,au,rfl,rfl,HA,bZ,cA,ak,HB⟩:=hrel
    cases gk with
    |zero=>exact nz_ HA.o
    |succ k2=>
     have H:=HA.o;clear HA;simp only[mW.l3]at H
     replace H:=Hj_ H;rcases H with⟨aP,H⟩|⟨aP,H⟩
     ·have cB:=decide_eq_true aP;clear aP
      replace ⟨eO,H⟩:=Hd_ H
      replace ⟨eP,H⟩:=Hd_ H
      replace ⟨eQ,H⟩:=Hd_ H
      have H':=A_ H
      clear H
      have cO:0≤(au:Int):=oa_
      have cU:au<(ai.length:Int):=oa_
      obtain⟨eH,d7,dO⟩:=Kd.nM (Kd.mX cA.o).2.2 au cO cU
      cases d7
      replace cO:=eq_true cO;replace cU:=eq_true cU;have dN:=bq4 ak.o
      have cP:0≤(au:Int):=oa_
      have cV:au<(az.length:Int):=oa_
      obtain⟨eI,d8,a8⟩:=Kd.nM de.o au cP cV
      cases d8
      replace a8:=cm_ HB a8;replace cP:=eq_true cP;replace cV:=eq_true cV
      go_wp2
      go_roundg k2
      case measure=>have:=co.o;have:=bZ.o;omega
      case rel=>exact⟨(wrap64 (bK+(wrap64 ((rd ai au)*(rd az au))))),(wrap64 (au+1)),rf,rf,H',⟨by have:=co.o;have:=bZ.o;omega⟩,⟨by(try simp only[aa]);exact cA.o⟩,⟨by(try simp only[aa]);exact ak.o⟩,HB⟩
     have cB:=decide_eq_false aP;have aL:=cB
     (try rw[aa]at aL)
     clear aP;obtain rfl:=Option.some.inj H
     go_wp2
     go_ret
     exact⟨rf,HB.o⟩
def rA.f (k:Nat) (ao:Int) (am:List (List Int)) (af:List Int) (a1:Int) (a2:Int):Option (Int):=(pW.f k ao am af a1).bind fun aB=>(if aB.2.2.2.2=true then((rY.f k a2 ao).bind fun cW=>(if cW=true then((mW.f k aB.1 aB.2.1 aB.2.2.1 aB.2.2.2.1 a2).bind fun cX=>(some cX))else(some (-1))))else(some (-1)))
theorem rA.calls (k:Nat) (ao:Int) (aD:Option Addr) (aE:Nat) (am:List (List Int)) (aI:Option Addr) (aG:Nat) (af:List Int) (a1:Int) (a2:Int) (r:Int) (w:World) (bq:Kd.C (Kd.slice 3 (Kd.int .i64)) w aD am.length am) (bm:am.length≤aE) (br:Kd.C (Kd.int .i64) w aI af.length af) (bn:af.length≤aG) (h:rA.f k ao am af a1 a2=some r):
  Calls Try.prog 6 #[.agg #[.int .i64 ao,.slice aD am.length aE,.slice aI af.length aG],.int .i64 a1,.int .i64 a2] w fun e w'=>e=.returned (.int .i64 r)∧Below w.heap.size w w':=by
 have fI:=Try.underlying27;have fB:=Try.underlying33;have bi:=A_ bq;have bg:=A_ bm;clear bq bm;have bj:=A_ br;have bB:=A_ bn;clear br bn;have HB:=A_ (Below.refl w.heap.size w);unfold rA.f at h;have H:=h;clear h;replace ⟨⟨bM,a9,bA,ba,eq⟩,A4,H⟩:=bA_ H;dsimp only at H
 replace H:=Hb_ H;rcases H with⟨rfl,H⟩|⟨rfl,H⟩
 ·replace ⟨cW,A6,H⟩:=bA_ H
  replace H:=Hb_ H;rcases H with⟨rfl,H⟩|⟨rfl,H⟩
  ·replace ⟨cX,A8,H⟩:=bA_ H;obtain rfl:=Option.some.inj H;go_enter Try.func6,Try.ntmps6
   go_wp2_with (first|((with_reducible refine gt_ 3 ?_);refine be_ 3 #[.int .i64 ao,.slice aD am.length aE,.slice aI af.length aG] 27 ?_;intro aX hg w9 J hb;have ah:=A_ (J);have bf:=lh_ HB hg;have bc:=lh_ HB hg;replace HB:=bs_ HB hb;clear hb J hg;have dG:=bq3 ah.o)|((with_reducible refine gc_ 10 rfl ?_);refine cM_ E10 12 (pW.calls k ao (fun k_=>k_<w.heap.size) _ _ am _ _ af a1 bM a9 bA ba true _ (Kd.ML bg.o (Kd.Bu (Kd.C_F (Kd.Aj 3 (Kd.Dy .i64)) bi.o) HB.o)) (Kd.mO bj.o HB.o) bB.o A4.o) ?_;rintro e fK ⟨bu,dA,bv,rfl,ho0,ho1,ho2,hb⟩;refine⟨_,rfl,?_⟩;have av:=A_ (Kd.nE (Kd.mM (ok':=fun k_=>some k_≠(bv:Value).ownBlock) ho0 (fun _ U=>U.2)) (mK HB.o));have aw:=A_ (Kd.yf (Kd.rP (ok':=fun k_=>some k_≠(bu:Value).ownBlock∧some k_≠(bv:Value).ownBlock∧k_≠aX) ho1 (fun k_ U=>⟨U.2.1,U.2.2,Or.elim U.1 (fun hs_=>fun e_=>Nat.not_le.2 hs_ (by rw[e_];exact bf.o)) (fun aR=>(Kd.uB ah.o k_ aR))⟩)) (mK HB.o));have ax:=A_ (Kd.nE (Kd.mM (ok':=fun k_=>some k_≠(bu:Value).ownBlock) ho2 (fun _ U=>U.2)) (mK HB.o));replace ah:=bb_ ah hb;replace HB:=bs_ HB hb;clear hb ho0 ho1;(try clear ho2))|((with_reducible refine gt_ 7 ?_);refine be_ 7 #[.int .i64 0,.slice none 0 0,.slice none 0 0,.slice none 0 0] 33 ?_;intro aH hg fM J hb;replace av:=A_ (Kd.nX av.o hb);replace aw:=A_ (Kd.xz (Kd.zt aw.o aH (Nat.le_of_eq hg.symm)) hb);replace ax:=A_ (Kd.nX ax.o hb);have aC:=A_ (J);have ck:=lh_ HB hg;have be:=lh_ HB hg;replace HB:=bs_ HB hb;have an:=nl_ ah hg;have aA:=ng_ ah hg;replace ah:=bb_ ah hb;clear hb J hg;have eR:=aA.o;have eV:=an.o;have dH:=bq4 aC.o;obtain⟨bX,bP,eb⟩:=Kd.mU av.o;subst eb;obtain⟨bL,aQ,cH⟩:=Kd.wP aw.o;subst cH;obtain⟨bY,bQ,ec⟩:=Kd.mU ax.o;subst ec;have dI:=bq3 ah.o)|(go_at_call 27;(with_reducible refine(rY.calls k a2 ao true _ A6.o).mono ?_);rintro e w' ⟨rfl,⟨nd,rfl⟩⟩)|((with_reducible refine xV (f:=28) rfl ?_);refine Dw (some 26) rfl rfl Try.func28 K_ rfl #[.agg #[.int .i64 bM,.slice bX a9.length bP,.slice bL bA.length aQ,.slice bY ba.length bQ],.int .i64 a2] rfl (by simp only[mA,mB,mC];rfl) ?_;(with_reducible refine(mW.calls k bM _ _ a9 _ _ bA _ _ ba a2 cX _ ?aS ?aZ ?a_ ?b_ ?cu ?cz A8.o).mono ?_);(case aS=>refine(Kd.mX (e:=3) (base:=w.heap.size) (ok:=fun k_=>some k_≠(.slice bY ba.length bQ:Value).ownBlock) (n:=a9.length) (c:=bP) ?_).2.2;exact(by(with_reducible repeat (first|apply Kd.R_alloc|apply Kd.uP|apply Kd.pR));exact(Kd.mM (wT (tR_ av aC)) (fun _ h_=>h_.1))));(case aZ=>exact(Kd.mX av.o).2.1);(case a_=>refine(Kd.wX (e:=24) (base:=w.heap.size) (ok:=fun k_=>((some k_≠(.slice bX a9.length bP:Value).ownBlock∧(some k_≠(.slice bY ba.length bQ:Value).ownBlock∧k_≠aX))∧k_≠aH)) (n:=bA.length) (c:=aQ) ?_).2.2;exact(by(with_reducible repeat (first|apply Kd.N_alloc|apply Kd.Ke|apply Kd.N_drew));exact(Kd.rP (Pb (Kd.rP aw.o (fun k_ hk=>(⟨hk,hk.2⟩:_∧k_≠aH)))) (fun _ h_=>h_.1))));(case b_=>exact(Kd.wX aw.o).2.1);(case cu=>refine(Kd.mX (e:=3) (base:=w.heap.size) (ok:=fun k_=>some k_≠(.slice bX a9.length bP:Value).ownBlock) (n:=ba.length) (c:=bQ) ?_).2.2;exact(by(with_reducible repeat (first|apply Kd.R_alloc|apply Kd.uP|apply Kd.pR));exact(Kd.mM (wT (tR_ ax aC)) (fun _ h_=>h_.1))));(case cz=>exact(Kd.mX ax.o).2.1);rintro e fO ⟨rfl,hb⟩;refine⟨_,rfl,?_⟩;replace av:=A_ (Kd.nX (by(with_reducible repeat (first|apply Kd.R_alloc|apply Kd.uP|apply Kd.pR));exact(Kd.mM (wT (tR_ av aC)) (fun _ h_=>h_.1))) hb);replace aw:=A_ (Kd.xz (by(with_reducible repeat (first|apply Kd.N_alloc|apply Kd.Ke|apply Kd.N_drew));exact(Kd.rP (Pb (Kd.rP aw.o (fun k_ hk=>(⟨hk,hk.2⟩:_∧k_≠aH)))) (fun _ h_=>h_.1))) hb);replace ax:=A_ (Kd.nX (by(with_reducible repeat (first|apply Kd.R_alloc|apply Kd.uP|apply Kd.pR));exact(Kd.mM (wT (tR_ ax aC)) (fun _ h_=>h_.1))) hb);replace ah:=A_ (pg (g:=aX) (o:=.cells #[.int .i64 ao,.slice aD am.length aE,.slice aI af.length aG] 27 (0,0)) (by(with_reducible repeat (first|refine tZ ?_ _|refine nQ ?_|refine nP ?_ _));exact fa_ an (fa_ an (fa_ an (fa_ an ah.o)))) hb);replace aC:=A_ (pg (g:=aH) (o:=.cells #[.int .i64 bM,.slice bX a9.length bP,.slice bL bA.length aQ,.slice bY ba.length bQ] 33 (0,0)) (by(with_reducible repeat (first|refine tZ ?_ _|refine nQ ?_|refine nP ?_ _));exact pu_ 3 (pu_ 2 (pu_ 1 (pu_ 0 aC.o rfl) rfl) rfl) rfl) hb);replace HB:=A_ (nZ wb_ hb);clear hb;(try clear hi)))
   go_ret
   exact⟨rf,HB.o⟩
  obtain rfl:=Option.some.inj H;go_enter Try.func6,Try.ntmps6
  go_wp2_with (first|((with_reducible refine gt_ 3 ?_);refine be_ 3 #[.int .i64 ao,.slice aD am.length aE,.slice aI af.length aG] 27 ?_;intro aX hg fP J hb;have ah:=A_ (J);have bf:=lh_ HB hg;have bc:=lh_ HB hg;replace HB:=bs_ HB hb;clear hb J hg;have dJ:=bq3 ah.o)|((with_reducible refine gc_ 10 rfl ?_);refine cM_ E10 12 (pW.calls k ao (fun k_=>k_<w.heap.size) _ _ am _ _ af a1 bM a9 bA ba true _ (Kd.ML bg.o (Kd.Bu (Kd.C_F (Kd.Aj 3 (Kd.Dy .i64)) bi.o) HB.o)) (Kd.mO bj.o HB.o) bB.o A4.o) ?_;rintro e fQ ⟨bu,dA,bv,rfl,ho0,ho1,ho2,hb⟩;refine⟨_,rfl,?_⟩;have av:=A_ (Kd.nE (Kd.mM (ok':=fun k_=>some k_≠(bv:Value).ownBlock) ho0 (fun _ U=>U.2)) (mK HB.o));have aw:=A_ (Kd.yf (Kd.rP (ok':=fun k_=>some k_≠(bu:Value).ownBlock∧some k_≠(bv:Value).ownBlock∧k_≠aX) ho1 (fun k_ U=>⟨U.2.1,U.2.2,Or.elim U.1 (fun hs_=>fun e_=>Nat.not_le.2 hs_ (by rw[e_];exact bf.o)) (fun aR=>(Kd.uB ah.o k_ aR))⟩)) (mK HB.o));have ax:=A_ (Kd.nE (Kd.mM (ok':=fun k_=>some k_≠(bu:Value).ownBlock) ho2 (fun _ U=>U.2)) (mK HB.o));replace ah:=bb_ ah hb;replace HB:=bs_ HB hb;clear hb ho0 ho1;(try clear ho2))|((with_reducible refine gt_ 7 ?_);refine be_ 7 #[.int .i64 0,.slice none 0 0,.slice none 0 0,.slice none 0 0] 33 ?_;intro aH hg fT J hb;replace av:=A_ (Kd.nX av.o hb);replace aw:=A_ (Kd.xz (Kd.zt aw.o aH (Nat.le_of_eq hg.symm)) hb);replace ax:=A_ (Kd.nX ax.o hb);have aC:=A_ (J);have ck:=lh_ HB hg;have be:=lh_ HB hg;replace HB:=bs_ HB hb;have an:=nl_ ah hg;have aA:=ng_ ah hg;replace ah:=bb_ ah hb;clear hb J hg;have eS:=aA.o;have eX:=an.o;have bF:=bq4 aC.o;obtain⟨fd,fl,ed⟩:=Kd.mU av.o;subst ed;obtain⟨ff,fm,ef⟩:=Kd.wP aw.o;subst ef;obtain⟨fg,fo,eg⟩:=Kd.mU ax.o;subst eg;have dK:=bq3 ah.o)|(go_at_call 27;(with_reducible refine(rY.calls k a2 ao false _ A6.o).mono ?_);rintro e w' ⟨rfl,⟨nd,rfl⟩⟩))
  go_ret
  exact⟨rf,wb_⟩
 obtain rfl:=Option.some.inj H;go_enter Try.func6,Try.ntmps6
 go_wp2_with (first|((with_reducible refine gt_ 3 ?_);refine be_ 3 #[.int .i64 ao,.slice aD am.length aE,.slice aI af.length aG] 27 ?_;intro aX hg fU J hb;have ah:=A_ (J);have bf:=lh_ HB hg;have bc:=lh_ HB hg;replace HB:=bs_ HB hb;clear hb J hg;have dL:=bq3 ah.o)|((with_reducible refine gc_ 10 rfl ?_);refine cM_ E10 12 (pW.calls k ao (fun k_=>k_<w.heap.size) _ _ am _ _ af a1 bM a9 bA ba false _ (Kd.ML bg.o (Kd.Bu (Kd.C_F (Kd.Aj 3 (Kd.Dy .i64)) bi.o) HB.o)) (Kd.mO bj.o HB.o) bB.o A4.o) ?_;rintro e w32 ⟨bu,dA,bv,rfl,ho0,ho1,ho2,hb⟩;refine⟨_,rfl,?_⟩;have av:=A_ (Kd.nE (Kd.mM (ok':=fun k_=>some k_≠(bv:Value).ownBlock) ho0 (fun _ U=>U.2)) (mK HB.o));have aw:=A_ (Kd.yf (Kd.rP (ok':=fun k_=>some k_≠(bu:Value).ownBlock∧some k_≠(bv:Value).ownBlock∧k_≠aX) ho1 (fun k_ U=>⟨U.2.1,U.2.2,Or.elim U.1 (fun hs_=>fun e_=>Nat.not_le.2 hs_ (by rw[e_];exact bf.o)) (fun aR=>(Kd.uB ah.o k_ aR))⟩)) (mK HB.o));have ax:=A_ (Kd.nE (Kd.mM (ok':=fun k_=>some k_≠(bu:Value).ownBlock) ho2 (fun _ U=>U.2)) (mK HB.o));replace ah:=bb_ ah hb;replace HB:=bs_ HB hb;clear hb ho0 ho1;(try clear ho2))|((with_reducible refine gt_ 7 ?_);refine be_ 7 #[.int .i64 0,.slice none 0 0,.slice none 0 0,.slice none 0 0] 33 ?_;intro aH hg eT J hb;replace av:=A_ (Kd.nX av.o hb);replace aw:=A_ (Kd.xz (Kd.zt aw.o aH (Nat.le_of_eq hg.symm)) hb);replace ax:=A_ (Kd.nX ax.o hb);have aC:=A_ (J);have ck:=lh_ HB hg;have be:=lh_ HB hg;replace HB:=bs_ HB hb;have an:=nl_ ah hg;have aA:=ng_ ah hg;replace ah:=bb_ ah hb;clear hb J hg;have eU:=aA.o;have eY:=an.o;have dM:=bq4 aC.o;obtain⟨fi,fq,ej⟩:=Kd.mU av.o;subst ej;obtain⟨fj,fs,ek⟩:=Kd.wP aw.o;subst ek;obtain⟨fk,ft,el⟩:=Kd.mU ax.o;subst el))
 go_ret
 exact⟨rf,wb_⟩
def nR.f (a0:Int) (a1:Int) (a2:Int):Option (Bool):=if a0≥a1 then(some (decide (a0≤a2)))else(some false)
theorem nR.calls (a0:Int) (a1:Int) (a2:Int) (r:Bool) (w:World) (h:nR.f a0 a1 a2=some r):
  Calls Try.prog 34 #[.int .i64 a0,.int .i64 a1,.int .i64 a2] w fun e w'=>e=.returned (.bool r)∧nJ w w':=by
 unfold nR.f at h;have H:=h;clear h
 replace H:=Hj_ H;rcases H with⟨c4,H⟩|⟨c4,H⟩
 ·have dU:decide (a1≤a0)=true:=decide_eq_true c4
  clear c4;obtain rfl:=Option.some.inj H;go_enter Try.func34,Try.ntmps34
  go_wp2
  go_ret
  exact⟨rf,by repeat (first|exact nJ.refl _|apply nJ.step)⟩
 have dU:decide (a1≤a0)=false:=decide_eq_false c4
 clear c4;obtain rfl:=Option.some.inj H;go_enter Try.func34,Try.ntmps34
 go_wp2
 go_ret
 exact⟨rf,by repeat (first|exact nJ.refl _|apply nJ.step)⟩
mutual
def mZ.j0:Nat→Int→Bool→Int→List Int→List (List (List Int))→List Int→Option (Bool)
 |0,_,_,_,_,_,_=>none
 |k+1,x3,dL,ak,ah,af,ai=>if dL=true then(some false)else(mZ.l0 k x3 0 ak ah af ai)
def mZ.l0:Nat→Int→Int→Int→List Int→List (List (List Int))→List Int→Option (Bool)
 |0,_,_,_,_,_,_=>none
 |k+1,x3,x4,ak,ah,af,ai=>if x4<x3 then(if 0≤x4 then(if x4<(ah.length:Int)then((nR.f (rd ah x4) (-9) 9).bind fun cK=>(if cK=true then(if x4<(ai.length:Int)then((nR.f (rd ai x4) (-9) 9).bind fun cL=>(if cL=true then(mZ.l0 k x3 (wrap64 (x4+1)) ak ah af ai)else(some false)))else(none))else(some false)))else(none))else(none))else(mZ.l1 k x3 0 ak ah af ai)
def mZ.l1:Nat→Int→Int→Int→List Int→List (List (List Int))→List Int→Option (Bool)
 |0,_,_,_,_,_,_=>none
 |k+1,x3,x5,ak,ah,af,ai=>if x5<ak then(if 0≤x5 then(if x5<(af.length:Int)then(if((nH af x5).length:Int)=x3 then(mZ.l2 k x3 x5 0 ak ah af ai)else(some false))else(none))else(none))else(some true)
def mZ.l2:Nat→Int→Int→Int→Int→List Int→List (List (List Int))→List Int→Option (Bool)
 |0,_,_,_,_,_,_,_=>none
 |k+1,x3,x5,x6,ak,ah,af,ai=>if x6<x3 then(if 0≤x5 then(if x5<(af.length:Int)then(if 0≤x6 then(if x6<((nH af x5).length:Int)then(if((f_ (nH af x5) x6).length:Int)=x3 then(mZ.l3 k x3 x5 x6 0 ak ah af ai)else(some false))else(none))else(none))else(none))else(none))else(mZ.l1 k x3 (wrap64 (x5+1)) ak ah af ai)
def mZ.l3:Nat→Int→Int→Int→Int→Int→List Int→List (List (List Int))→List Int→Option (Bool)
 |0,_,_,_,_,_,_,_,_=>none
 |k+1,x3,x5,x6,x7,ak,ah,af,ai=>if x7<x3 then(if 0≤x5 then(if x5<(af.length:Int)then(if 0≤x6 then(if x6<((nH af x5).length:Int)then(if 0≤x7 then(if x7<((f_ (nH af x5) x6).length:Int)then((nR.f (rd (f_ (nH af x5) x6) x7) (-9) 9).bind fun cN=>(if cN=true then(mZ.l3 k x3 x5 x6 (wrap64 (x7+1)) ak ah af ai)else(some false)))else(none))else(none))else(none))else(none))else(none))else(none))else(mZ.l2 k x3 x5 (wrap64 (x6+1)) ak ah af ai)
end
def mZ.f (k:Nat) (ao:Int) (aa:List Int) (ab:List (List (List Int))) (aj:List Int):Option (Bool):=(nR.f (aa.length:Int) 1 40).bind fun cI=>(if cI=true then(if(aj.length:Int)=(aa.length:Int)then((nR.f ao 2 4).bind fun cJ=>(if cJ=true then(mZ.j0 k (aa.length:Int) ((ab.length:Int) !=ao) ao aa ab aj)else(mZ.j0 k (aa.length:Int) true ao aa ab aj)))else(mZ.j0 k (aa.length:Int) true ao aa ab aj))else(mZ.j0 k (aa.length:Int) true ao aa ab aj))
theorem mZ.calls (k:Nat) (ao:Int) (a7:Option Addr) (a9:Nat) (aa:List Int) (bB:Option Addr) (ba:Nat) (ab:List (List (List Int))) (a8:Option Addr) (bc:Nat) (aj:List Int) (r:Bool) (w:World) (b6:Kd.C (Kd.int .i64) w a7 aa.length aa) (b3:aa.length≤a9) (b7:Kd.C (Kd.slice 25 (Kd.slice 3 (Kd.int .i64))) w bB ab.length ab) (b4:ab.length≤ba) (b8:Kd.C (Kd.int .i64) w a8 aj.length aj) (b5:aj.length≤bc) (h:mZ.f k ao aa ab aj=some r):
  Calls Try.prog 25 #[.agg #[.int .i64 ao,.slice a7 aa.length a9,.slice bB ab.length ba,.slice a8 aj.length bc]] w fun e w'=>e=.returned (.bool r)∧Below w.heap.size w w':=by
 have aP:=Try.underlying33;have bC:=A_ b6;have dy:=A_ b3;clear b6 b3;have aV:=A_ b7;have dz:=A_ b4;clear b7 b4;have bR:=A_ b8;have dA:=A_ b5;clear b8 b5;have HB:=A_ (Below.refl w.heap.size w);unfold mZ.f at h;have H:=h;clear h;have aB:=A_ H;clear H;go_enter Try.func25,Try.ntmps25
 go_upto_region 2 with(first|((with_reducible refine gt_ 1 ?_);(try (refine qV rf ?_;dsimp only));refine be_ 1 #[.int .i64 ao,.slice a7 aa.length a9,.slice bB ab.length ba,.slice a8 aj.length bc] 33 ?_;intro be hg w3 U hb;have ag:=A_ (U);have dx:=lh_ HB hg;have az:=lh_ HB hg;replace HB:=bs_ HB hb;clear hb U hg;have cH:=bq4 ag.o))
 (try simp only[Act.put,mD,mE,mF])
 go_cut [34] (fun dK wc=>∃ (kq:Nat) (bA:Bool),dK=.bool bA∧Aside0 (mZ.j0 kq (aa.length:Int) bA ao aa ab aj=some r)∧Aside0 (kq≤k)∧Aside0 (wc.heap[be]? =some (.cells #[.int .i64 ao,(.slice a7 aa.length a9),(.slice bB ab.length ba),(.slice a8 aj.length bc)] 33 (0,0)))∧Aside0 (Below w.heap.size w wc))
 case first=>
  have H:=aB.o;clear aB;replace ⟨cI,A5,H⟩:=bA_ H
  replace H:=Hb_ H;rcases H with⟨rfl,H⟩|⟨rfl,H⟩
  ·replace H:=Hj_ H;rcases H with⟨c7,H⟩|⟨c7,H⟩
   ·have du:((aj.length:Int)==(aa.length:Int))=true:=beq_iff_eq.mpr c7
    have dv:((aj.length:Int) !=(aa.length:Int))=false:=bne_eq_false_iff_eq.mpr c7
    have dw:(aj.length==aa.length)=true:=by first|simpa using c7|(simp at c7⊢;omega)
    clear c7
    (skip)
    replace ⟨cJ,A8,H⟩:=bA_ H
    replace H:=Hb_ H;rcases H with⟨rfl,H⟩|⟨rfl,H⟩
    ·have H':=A_ H
     clear H
     go_wp2_with (first|((with_reducible refine gc_ 34 rfl ?_);refine cL_ E34 12 rfl rfl rfl (nR.calls (aa.length:Int) 1 40 true _ A5.o) (by(try simp only[mA,mB,mC]);first|done|rfl|(simp only[List.length_drop,List.length_take];rfl)) ?_;rintro e w' ⟨rfl,⟨nd,rfl⟩⟩;refine⟨_,rfl,?_⟩;have df:=bq4 ag.o)|(go_at_call 34;(with_reducible refine(nR.calls ao 2 4 true _ A8.o).mono ?_);rintro e w' ⟨rfl,⟨nd,rfl⟩⟩))
     go_meet
     case rel=>exact⟨_,(((ab.length:Int) !=ao)),rf,H',⟨om⟩,⟨wk_⟩,⟨wb_⟩⟩
    have H':=A_ H
    clear H
    go_wp2_with (first|((with_reducible refine gc_ 34 rfl ?_);refine cL_ E34 12 rfl rfl rfl (nR.calls (aa.length:Int) 1 40 true _ A5.o) (by(try simp only[mA,mB,mC]);first|done|rfl|(simp only[List.length_drop,List.length_take];rfl)) ?_;rintro e w' ⟨rfl,⟨nd,rfl⟩⟩;refine⟨_,rfl,?_⟩;have dg:=bq4 ag.o)|(go_at_call 34;(with_reducible refine(nR.calls ao 2 4 false _ A8.o).mono ?_);rintro e w' ⟨rfl,⟨nd,rfl⟩⟩))
    go_meet
    case rel=>exact⟨_,(true),rf,H',⟨om⟩,⟨wk_⟩,⟨wb_⟩⟩
   have du:((aj.length:Int)==(aa.length:Int))=false:=beq_eq_false_iff_ne.mpr c7
   have dv:((aj.length:Int) !=(aa.length:Int))=true:=bne_iff_ne.mpr c7
   have dw:(aj.length==aa.length)=false:=by first|simpa using c7|(simp at c7⊢;omega)
   (skip)
   have H':=A_ H
   clear H
   go_wp2_with (first|((with_reducible refine gc_ 34 rfl ?_);refine cM_ E34 12 (nR.calls (aa.length:Int) 1 40 true _ A5.o) ?_;rintro e w' ⟨rfl,⟨nd,rfl⟩⟩;refine⟨_,rfl,?_⟩;have dh:=bq4 ag.o))
   go_meet
   case rel=>exact⟨_,(true),rf,H',⟨om⟩,⟨wk_⟩,⟨wb_⟩⟩
  have H':=A_ H
  clear H
  go_wp2_with (first|((with_reducible refine gc_ 34 rfl ?_);refine cM_ E34 12 (nR.calls (aa.length:Int) 1 40 false _ A5.o) ?_;rintro e w' ⟨rfl,⟨nd,rfl⟩⟩;refine⟨_,rfl,?_⟩))
  go_meet
  case rel=>exact⟨_,(true),rf,H',⟨om⟩,⟨wk_⟩,⟨wb_⟩⟩
 case rest=>
  clear aB
  try clear cH
  obtain⟨kq,bA,rfl,HA,bP,ag,HB⟩:=hcut
  cases kq with
  |zero=>exact nz_ HA.o
  |succ aK=>
   have H:=HA.o;clear HA;simp only[mZ.j0]at H
   replace H:=Hb_ H;rcases H with⟨rfl,H⟩|⟨rfl,H⟩
   ·obtain rfl:=Option.some.inj H
    go_wp2
    go_ret
    exact⟨rf,HB.o⟩
   have H':=A_ H
   clear H
   go_wp2
   go_loopg [4] aK (fun kq v4 w'=>∃ (an:Int),v4=.int .i64 an∧Aside0 (mZ.l0 kq (aa.length:Int) an ao aa ab aj=some r)∧Aside0 (kq≤aK)∧Aside0 (w'.heap[be]? =some (.cells #[.int .i64 ao,(.slice a7 aa.length a9),(.slice bB ab.length ba),(.slice a8 aj.length bc)] 33 (0,0)))∧Aside0 (Below w.heap.size w w'))
   case atStart=>exact⟨(0),rf,H',⟨Nat.le_refl _⟩,ag,HB⟩
   case round=>
    clear H';obtain⟨an,rfl,HA,bQ,ag,HB⟩:=hrel
    cases gk with
    |zero=>exact nz_ HA.o
    |succ k2=>
     have H:=HA.o;clear HA;simp only[mZ.l0]at H
     replace H:=Hi_ H;rcases H with⟨bT,H⟩|⟨bT,H⟩
     ·replace ⟨dB,H⟩:=Hd_ H
      replace ⟨dC,H⟩:=Hd_ H
      replace ⟨cK,aF,H⟩:=bA_ H
      replace H:=Hb_ H;rcases H with⟨rfl,H⟩|⟨rfl,H⟩
      ·replace ⟨dD,H⟩:=Hd_ H
       replace ⟨cL,aL,H⟩:=bA_ H
       replace H:=Hb_ H;rcases H with⟨rfl,H⟩|⟨rfl,H⟩
       ·have H':=A_ H
        clear H;have di:=bq4 ag.o
        have aT:0≤(an:Int):=oa_
        have aU:an<(aa.length:Int):=oa_
        obtain⟨bS,bF,am⟩:=Kd.nM bC.o an aT aU
        cases bF
        replace am:=cm_ HB am;replace aT:=eq_true aT;replace aU:=eq_true aU
        go_wp2_with (first|((with_reducible refine gc_ 34 rfl ?_);refine cL_ E34 45 rfl rfl rfl (nR.calls (rd aa an) (-9) 9 true _ aF.o) (by(try simp only[mA,mB,mC]);first|done|rfl|(simp only[List.length_drop,List.length_take];rfl)) ?_;rintro e w' ⟨rfl,⟨nd,rfl⟩⟩;refine⟨_,rfl,?_⟩;have bm:0≤(an:Int):=oa_;have bu:an<(aj.length:Int):=oa_;obtain⟨cQ,cA,au⟩:=Kd.nM bR.o an bm bu;cases cA;replace au:=cm_ HB au;replace bm:=eq_true bm;replace bu:=eq_true bu)|(go_at_call 34;(with_reducible refine(nR.calls (rd aj an) (-9) 9 true _ aL.o).mono ?_);rintro e w' ⟨rfl,⟨nd,rfl⟩⟩))
        go_roundg k2
        case measure=>have:=bP.o;have:=bQ.o;omega
        case rel=>exact⟨(wrap64 (an+1)),rf,H',⟨by have:=bP.o;have:=bQ.o;omega⟩,⟨wk_⟩,⟨wb_⟩⟩
       obtain rfl:=Option.some.inj H;have dj:=bq4 ag.o
       have aT:0≤(an:Int):=oa_
       have aU:an<(aa.length:Int):=oa_
       obtain⟨bS,bF,am⟩:=Kd.nM bC.o an aT aU
       cases bF
       replace am:=cm_ HB am;replace aT:=eq_true aT;replace aU:=eq_true aU
       go_wp2_with (first|((with_reducible refine gc_ 34 rfl ?_);refine cL_ E34 45 rfl rfl rfl (nR.calls (rd aa an) (-9) 9 true _ aF.o) (by(try simp only[mA,mB,mC]);first|done|rfl|(simp only[List.length_drop,List.length_take];rfl)) ?_;rintro e w' ⟨rfl,⟨nd,rfl⟩⟩;refine⟨_,rfl,?_⟩;have bm:0≤(an:Int):=oa_;have bu:an<(aj.length:Int):=oa_;obtain⟨cQ,cA,au⟩:=Kd.nM bR.o an bm bu;cases cA;replace au:=cm_ HB au;replace bm:=eq_true bm;replace bu:=eq_true bu)|(go_at_call 34;(with_reducible refine(nR.calls (rd aj an) (-9) 9 false _ aL.o).mono ?_);rintro e w' ⟨rfl,⟨nd,rfl⟩⟩))
       go_ret
       exact⟨rf,wb_⟩
      obtain rfl:=Option.some.inj H;have dk:=bq4 ag.o
      have aT:0≤(an:Int):=oa_
      have aU:an<(aa.length:Int):=oa_
      obtain⟨bS,bF,am⟩:=Kd.nM bC.o an aT aU
      cases bF
      replace am:=cm_ HB am;replace aT:=eq_true aT;replace aU:=eq_true aU
      go_wp2_with (first|((with_reducible refine gc_ 34 rfl ?_);refine cM_ E34 45 (nR.calls (rd aa an) (-9) 9 false _ aF.o) ?_;rintro e w' ⟨rfl,⟨nd,rfl⟩⟩;refine⟨_,rfl,?_⟩))
      go_ret
      exact⟨rf,wb_⟩
     have H':=A_ H
     clear H
     go_wp2
     go_loopg [5] k2 (fun kq v5 w'=>∃ (ae:Int),v5=.int .i64 ae∧Aside0 (mZ.l1 kq (aa.length:Int) ae ao aa ab aj=some r)∧Aside0 (kq≤k2)∧Aside0 (w'.heap[be]? =some (.cells #[.int .i64 ao,(.slice a7 aa.length a9),(.slice bB ab.length ba),(.slice a8 aj.length bc)] 33 (0,0)))∧Aside0 (Below w.heap.size w w'))
     case atStart=>exact⟨(0),rf,H',⟨Nat.le_refl _⟩,ag,HB⟩
     case round=>
      clear H'
      try clear bT
      obtain⟨ae,rfl,HA,cO,ag,HB⟩:=hrel
      cases gk with
      |zero=>exact nz_ HA.o
      |succ k3=>
       have H:=HA.o;clear HA;simp only[mZ.l1]at H
       replace H:=Hi_ H;rcases H with⟨bU,H⟩|⟨bU,H⟩
       ·replace ⟨cW,H⟩:=Hd_ H
        replace ⟨cX,H⟩:=Hd_ H
        replace H:=Hj_ H;rcases H with⟨c28,H⟩|⟨c28,H⟩
        ·have bV:(((nH ab ae).length:Int)==(aa.length:Int))=true:=beq_iff_eq.mpr c28
         have bW:(((nH ab ae).length:Int) !=(aa.length:Int))=false:=bne_eq_false_iff_eq.mpr c28
         have bX:((nH ab ae).length==aa.length)=true:=by first|simpa using c28|(simp at c28⊢;omega)
         clear c28
         have H':=A_ H
         clear H;have bN:=bq4 ag.o
         have bf:0≤(ae:Int):=oa_
         have bi:ae<(ab.length:Int):=oa_
         obtain⟨aQ,b9,ch,cB,ap,aH,aA⟩:=wI aV.o ae bf bi
         cases cB
         replace ap:=cm_ HB ap;have bL:=A_ aA;have bG:=A_ aH;clear aA aH;replace bf:=eq_true bf;replace bi:=eq_true bi
         go_wp2
         go_loopg [6] k3 (fun kq v6 w'=>∃ (al:Int),v6=.int .i64 al∧Aside0 (mZ.l2 kq (aa.length:Int) ae al ao aa ab aj=some r)∧Aside0 (kq≤k3)∧Aside0 (w'.heap[be]? =some (.cells #[.int .i64 ao,(.slice a7 aa.length a9),(.slice (some aQ) ab.length ba),(.slice a8 aj.length bc)] 33 (0,0)))∧Aside0 (Below w.heap.size w w'))
         case atStart=>exact⟨(0),rf,H',⟨Nat.le_refl _⟩,ag,HB⟩
         case round=>
          clear H'
          clear bU cW cX bV bW bX bN ap bf bi
          obtain⟨al,rfl,HA,cP,ag,HB⟩:=hrel
          cases gk with
          |zero=>exact nz_ HA.o
          |succ k4=>
           have H:=HA.o;clear HA;simp only[mZ.l2]at H
           replace H:=Hi_ H;rcases H with⟨bY,H⟩|⟨bY,H⟩
           ·replace ⟨cY,H⟩:=Hd_ H
            replace ⟨cZ,H⟩:=Hd_ H
            replace ⟨da,H⟩:=Hd_ H
            replace ⟨db,H⟩:=Hd_ H
            replace H:=Hj_ H;rcases H with⟨J,H⟩|⟨J,H⟩
            ·have bZ:(((f_ (nH ab ae) al).length:Int)==(aa.length:Int))=true:=beq_iff_eq.mpr J
             have b1:(((f_ (nH ab ae) al).length:Int) !=(aa.length:Int))=false:=bne_eq_false_iff_eq.mpr J
             have b2:((f_ (nH ab ae) al).length==aa.length)=true:=by first|simpa using J|(simp at J⊢;omega)
             clear J
             have H':=A_ H
             clear H;have bO:=bq4 ag.o
             have bg:0≤(ae:Int):=oa_
             have bj:ae<(ab.length:Int):=oa_
             obtain⟨bD,cc,ci,cC,aq,aI,aC⟩:=wI aV.o ae bg bj;obtain rfl:aQ=bD:=(by injection cC);replace aq:=cm_ HB aq;have aW:=A_ aC;have bH:=A_ aI;clear aC aI;replace bg:=eq_true bg;replace bj:=eq_true bj
             have bh:0≤(al:Int):=oa_
             have bk:al<((nH ab ae).length:Int):=oa_
             obtain⟨cS,cd,ck,cD,ar,aJ,aD⟩:=qM aW.o al bh bk
             cases cD
             replace ar:=cm_ HB ar;have bM:=A_ aD;have bI:=A_ aJ;clear aD aJ;replace bh:=eq_true bh;replace bk:=eq_true bk
             go_wp2
             go_loopg [7] k4 (fun kq v7 w'=>∃ (ay:Int),v7=.int .i64 ay∧Aside0 (mZ.l3 kq (aa.length:Int) ae al ay ao aa ab aj=some r)∧Aside0 (kq≤k4)∧Aside0 (w'.heap[be]? =some (.cells #[.int .i64 ao,(.slice a7 aa.length a9),(.slice (some aQ) ab.length ba),(.slice a8 aj.length bc)] 33 (0,0)))∧Aside0 (Below w.heap.size w w'))
             case atStart=>exact⟨(0),rf,H',⟨Nat.le_refl _⟩,ag,HB⟩
             case round=>
              clear H'
              clear bY cY cZ da db bZ b1 b2 bO aq ar bg bh bj bk
              obtain⟨ay,rfl,HA,de,ag,HB⟩:=hrel
              cases gk with
              |zero=>exact nz_ HA.o
              |succ k5=>
               have H:=HA.o;clear HA;simp only[mZ.l3]at H
               replace H:=Hi_ H;rcases H with⟨dd,H⟩|⟨dd,H⟩
               ·replace ⟨dE,H⟩:=Hd_ H
                replace ⟨dF,H⟩:=Hd_ H
                replace ⟨dG,H⟩:=Hd_ H
                replace ⟨dH,H⟩:=Hd_ H
                replace ⟨dI,H⟩:=Hd_ H
                replace ⟨dJ,H⟩:=Hd_ H
                replace ⟨cN,aO,H⟩:=bA_ H
                replace H:=Hb_ H;rcases H with⟨rfl,H⟩|⟨rfl,H⟩
                ·have H':=A_ H
                 clear H;have dm:=bq4 ag.o
                 have bn:0≤(ae:Int):=oa_
                 have bv:ae<(ab.length:Int):=oa_
                 obtain⟨bE,cf,co,cE,av,aM,aE⟩:=wI aV.o ae bn bv;obtain rfl:aQ=bE:=(by injection cE);replace av:=cm_ HB av;have aX:=A_ aE;have bJ:=A_ aM;clear aE aM;replace bn:=eq_true bn;replace bv:=eq_true bv
                 have bq:0≤(al:Int):=oa_
                 have bw:al<((nH ab ae).length:Int):=oa_
                 obtain⟨cU,cg,cw,cF,aw,aN,aG⟩:=qM aX.o al bq bw
                 cases cF
                 replace aw:=cm_ HB aw;have aY:=A_ aG;have bK:=A_ aN;clear aG aN;replace bq:=eq_true bq;replace bw:=eq_true bw
                 have br:0≤(ay:Int):=oa_
                 have bz:ay<((f_ (nH ab ae) al).length:Int):=oa_
                 obtain⟨cV,cG,ax⟩:=Kd.nM aY.o ay br bz
                 cases cG
                 replace ax:=cm_ HB ax;replace br:=eq_true br;replace bz:=eq_true bz
                 go_wp2_with (first|((with_reducible refine gc_ 34 rfl ?_);refine cM_ E34 102 (nR.calls (rd (f_ (nH ab ae) al) ay) (-9) 9 true _ aO.o) ?_;rintro e w' ⟨rfl,⟨nd,rfl⟩⟩;refine⟨_,rfl,?_⟩))
                 go_roundg k5
                 case measure=>have:=bP.o;have:=bQ.o;have:=cO.o;have:=cP.o;have:=de.o;omega
                 case rel=>exact⟨(wrap64 (ay+1)),rf,H',⟨by have:=bP.o;have:=bQ.o;have:=cO.o;have:=cP.o;have:=de.o;omega⟩,⟨wk_⟩,⟨wb_⟩⟩
                obtain rfl:=Option.some.inj H;have dn:=bq4 ag.o
                have bn:0≤(ae:Int):=oa_
                have bv:ae<(ab.length:Int):=oa_
                obtain⟨bE,cf,co,cE,av,aM,aE⟩:=wI aV.o ae bn bv;obtain rfl:aQ=bE:=(by injection cE);replace av:=cm_ HB av;have aX:=A_ aE;have bJ:=A_ aM;clear aE aM;replace bn:=eq_true bn;replace bv:=eq_true bv
                have bq:0≤(al:Int):=oa_
                have bw:al<((nH ab ae).length:Int):=oa_
                obtain⟨cU,cg,cw,cF,aw,aN,aG⟩:=qM aX.o al bq bw
                cases cF
                replace aw:=cm_ HB aw;have aY:=A_ aG;have bK:=A_ aN;clear aG aN;replace bq:=eq_true bq;replace bw:=eq_true bw
                have br:0≤(ay:Int):=oa_
                have bz:ay<((f_ (nH ab ae) al).length:Int):=oa_
                obtain⟨cV,cG,ax⟩:=Kd.nM aY.o ay br bz
                cases cG
                replace ax:=cm_ HB ax;replace br:=eq_true br;replace bz:=eq_true bz
                go_wp2_with (first|((with_reducible refine gc_ 34 rfl ?_);refine cM_ E34 102 (nR.calls (rd (f_ (nH ab ae) al) ay) (-9) 9 false _ aO.o) ?_;rintro e w' ⟨rfl,⟨nd,rfl⟩⟩;refine⟨_,rfl,?_⟩))
                go_ret
                exact⟨rf,wb_⟩
               have H':=A_ H
               clear H
               go_wp2
               go_roundg k5
               case measure=>have:=bP.o;have:=bQ.o;have:=cO.o;have:=cP.o;have:=de.o;omega
               case rel=>exact⟨(wrap64 (al+1)),rf,H',⟨by have:=bP.o;have:=bQ.o;have:=cO.o;have:=cP.o;have:=de.o;omega⟩,ag,HB⟩
            have bZ:(((f_ (nH ab ae) al).length:Int)==(aa.length:Int))=false:=beq_eq_false_iff_ne.mpr J
            have b1:(((f_ (nH ab ae) al).length:Int) !=(aa.length:Int))=true:=bne_iff_ne.mpr J
            have b2:((f_ (nH ab ae) al).length==aa.length)=false:=by first|simpa using J|(simp at J⊢;omega)
            obtain rfl:=Option.some.inj H;have dp:=bq4 ag.o
            have bg:0≤(ae:Int):=oa_
            have bj:ae<(ab.length:Int):=oa_
            obtain⟨bD,cc,ci,cC,aq,aI,aC⟩:=wI aV.o ae bg bj;obtain rfl:aQ=bD:=(by injection cC);replace aq:=cm_ HB aq;have aW:=A_ aC;have bH:=A_ aI;clear aC aI;replace bg:=eq_true bg;replace bj:=eq_true bj
            have bh:0≤(al:Int):=oa_
            have bk:al<((nH ab ae).length:Int):=oa_
            obtain⟨cS,cd,ck,cD,ar,aJ,aD⟩:=qM aW.o al bh bk
            cases cD
            replace ar:=cm_ HB ar;have bM:=A_ aD;have bI:=A_ aJ;clear aD aJ;replace bh:=eq_true bh;replace bk:=eq_true bk
            go_wp2
            go_ret
            exact⟨rf,HB.o⟩
           have H':=A_ H
           clear H
           go_wp2
           go_roundg k4
           case measure=>have:=bP.o;have:=bQ.o;have:=cO.o;have:=cP.o;omega
           case rel=>exact⟨(wrap64 (ae+1)),rf,H',⟨by have:=bP.o;have:=bQ.o;have:=cO.o;have:=cP.o;omega⟩,ag,HB⟩
        have bV:(((nH ab ae).length:Int)==(aa.length:Int))=false:=beq_eq_false_iff_ne.mpr c28
        have bW:(((nH ab ae).length:Int) !=(aa.length:Int))=true:=bne_iff_ne.mpr c28
        have bX:((nH ab ae).length==aa.length)=false:=by first|simpa using c28|(simp at c28⊢;omega)
        obtain rfl:=Option.some.inj H;have dq:=bq4 ag.o
        have bf:0≤(ae:Int):=oa_
        have bi:ae<(ab.length:Int):=oa_
        obtain⟨aQ,b9,ch,cB,ap,aH,aA⟩:=wI aV.o ae bf bi
        cases cB
        replace ap:=cm_ HB ap;have bL:=A_ aA;have bG:=A_ aH;clear aA aH;replace bf:=eq_true bf;replace bi:=eq_true bi
        go_wp2
        go_ret
        exact⟨rf,HB.o⟩
       obtain rfl:=Option.some.inj H;have dt:=bq4 ag.o
       go_wp2
       go_ret
       exact⟨rf,HB.o⟩
mutual
def oI.j0:Nat→Int→Int→Bool→Option (Int)
 |0,_,_,_=>none
 |k+1,x0,x1,a7=>if a7=true then(some 0)else(oI.l0 k x0 x1 1 0)
def oI.l0:Nat→Int→Int→Int→Int→Option (Int)
 |0,_,_,_,_=>none
 |k+1,x0,x1,x5,x6=>if x6<x1 then(oI.l0 k x0 x1 (wrap64 (x5*x0)) (wrap64 (x6+1)))else(some x5)
end
def oI.f (k:Nat) (a0:Int) (a1:Int):Option (Int):=(nR.f a0 2 4).bind fun av=>(if av=true then((nR.f a1 0 16).bind fun ar=>(oI.j0 k a0 a1 (!ar)))else(oI.j0 k a0 a1 true))
theorem oI.calls (k:Nat) (a0:Int) (a1:Int) (r:Int) (w:World) (h:oI.f k a0 a1=some r):
  Calls Try.prog 29 #[.int .i64 a0,.int .i64 a1] w fun e w'=>e=.returned (.int .i64 r)∧nJ w w':=by
 unfold oI.f at h;have H:=h;clear h;have J:=A_ H;clear H;go_enter Try.func29,Try.ntmps29
 go_upto_region 1 with(fail)
 go_cut [14] (fun aW wc=>∃ (kq:Nat) (ah:Bool),aW=.bool ah∧Aside0 (oI.j0 kq a0 a1 ah=some r)∧Aside0 (kq≤k)∧nJ w wc)
 case first=>
  have H:=J.o;clear J;replace ⟨av,A4,H⟩:=bA_ H
  replace H:=Hb_ H;rcases H with⟨rfl,H⟩|⟨rfl,H⟩
  ·replace ⟨ar,A6,H⟩:=bA_ H
   have H':=A_ H
   clear H
   go_wp2_with (first|((with_reducible refine gc_ 34 rfl ?_);refine cL_ E34 8 rfl rfl rfl (nR.calls a0 2 4 true _ A4.o) (by(try simp only[mA,mB,mC]);first|done|rfl|(simp only[List.length_drop,List.length_take];rfl)) ?_;rintro e w' ⟨rfl,⟨nd,rfl⟩⟩;refine⟨_,rfl,?_⟩)|(go_at_call 34;(with_reducible refine(nR.calls a1 0 16 ar _ A6.o).mono ?_);rintro e w' ⟨rfl,⟨nd,rfl⟩⟩))
   go_meet
   case rel=>exact⟨_,(!ar),rf,H',⟨om⟩,by repeat (first|exact nJ.refl _|apply nJ.step)⟩
  have H':=A_ H
  clear H
  go_wp2_with (first|((with_reducible refine gc_ 34 rfl ?_);refine cM_ E34 8 (nR.calls a0 2 4 false _ A4.o) ?_;rintro e w' ⟨rfl,⟨nd,rfl⟩⟩;refine⟨_,rfl,?_⟩))
  go_meet
  case rel=>exact⟨_,(true),rf,H',⟨om⟩,by repeat (first|exact nJ.refl _|apply nJ.step)⟩
 case rest=>
  clear J;obtain⟨kq,ah,rfl,HA,aw,⟨aZ,rfl⟩⟩:=hcut
  cases kq with
  |zero=>exact nz_ HA.o
  |succ U=>
   have H:=HA.o;clear HA;simp only[oI.j0]at H
   replace H:=Hb_ H;rcases H with⟨rfl,H⟩|⟨rfl,H⟩
   ·obtain rfl:=Option.some.inj H
    go_wp2
    go_ret
    exact⟨rf,by repeat (first|exact nJ.refl _|apply nJ.step)⟩
   have H':=A_ H
   clear H
   go_wp2
   go_loopg [5,6] U (fun kq v5 v6 w'=>∃ (ab:Int) (ap:Int),v5=.int .i64 ab∧v6=.int .i64 ap∧Aside0 (oI.l0 kq a0 a1 ab ap=some r)∧Aside0 (kq≤U)∧nJ w w')
   case atStart=>exact⟨(1),(0),rf,rf,H',⟨Nat.le_refl _⟩,by repeat (first|exact nJ.refl _|apply nJ.step)⟩
   case round=>
    clear H';obtain⟨ab,ap,rfl,rfl,HA,ax,⟨m2,rfl⟩⟩:=hrel
    cases gk with
    |zero=>exact nz_ HA.o
    |succ k2=>
     have H:=HA.o;clear HA;simp only[oI.l0]at H
     replace H:=Hi_ H;rcases H with⟨aJ,H⟩|⟨aJ,H⟩
     ·have H':=A_ H
      clear H
      go_wp2
      go_roundg k2
      case measure=>have:=aw.o;have:=ax.o;omega
      case rel=>exact⟨(wrap64 (ab*a0)),(wrap64 (ap+1)),rf,rf,H',⟨by have:=aw.o;have:=ax.o;omega⟩,by repeat (first|exact nJ.refl _|apply nJ.step)⟩
     obtain rfl:=Option.some.inj H
     go_wp2
     go_ret
     exact⟨rf,by repeat (first|exact nJ.refl _|apply nJ.step)⟩
mutual
def oO.j0:Nat→Int→Int→List Int→Bool→Option (List Int)
 |0,_,_,_,_=>none
 |k+1,x0,x1,x5,a8=>if a8=true then(some x5)else(oO.l0 k x0 x1 x5)
def oO.l0:Nat→Int→Int→List Int→Option (List Int)
 |0,_,_,_=>none
 |k+1,x0,x1,x5=>if x0>0 then(if x1=0 then(none)else((some (([Int.tmod x0 x1]:List Int):List Int)).bind fun ag=>(if ag.length+x5.length<17592186044416 then(oO.l0 k (wrap64 (Int.tdiv x0 x1)) x1 (ag++x5))else(none))))else(some x5)
end
def oO.f (k:Nat) (a0:Int) (a1:Int):Option (List Int):=(some (([]:List Int):List Int)).bind fun af=>(if a0<0 then(oO.j0 k a0 a1 af true)else((nR.f a1 2 4).bind fun ao=>(if ao=true then((oI.f k a1 16).bind fun aj=>(oO.j0 k a0 a1 af (decide (a0≥aj))))else(oO.j0 k a0 a1 af true))))
theorem oO.calls (k:Nat) (a0:Int) (a1:Int) (r:List Int) (w:World) (h:oO.f k a0 a1=some r):
  Calls Try.prog 46 #[.int .i64 a0,.int .i64 a1] w fun e w'=>∃aP:Value,e=.returned (aP)∧Kd.R (Kd.int .i64) 3 w' w.heap.size (fun _=>True) aP r∧Below w.heap.size w w':=by
 have HB:=A_ (Below.refl w.heap.size w);unfold oO.f at h;have H:=h;clear h;replace ⟨af,aA,H⟩:=Hs_ H;have J:=A_ H;clear H;go_enter Try.func46,Try.ntmps46
 go_upto_region 2 with(first|((with_reducible refine gd_ 6 rfl ?_);refine RL_ 6 3 [] [] rfl rfl (by go_simp;done) rfl rfl ?_;rintro aQ w4 aK hb - -;(rw[←aA.o]at aK);have ak:=A_ (Kd.nE aK (mK HB.o));replace HB:=bs_ HB hb;clear hb aK))
 (try simp only[Act.put,mD,mE,mF])
 go_cut [19] (fun aX wc=>∃ (kq:Nat) (ai:Bool),aX=.bool ai∧Aside0 (oO.j0 kq a0 a1 af ai=some r)∧Aside0 (kq≤k)∧Aside0 (Kd.R (Kd.int .i64) 3 wc w.heap.size (fun _=>True) aQ af)∧Aside0 (Below w.heap.size w wc))
 case first=>
  have H:=J.o;clear J
  replace H:=Hi_ H;rcases H with⟨aI,H⟩|⟨aI,H⟩
  ·(skip)
   have H':=A_ H
   clear H
   go_wp2
   go_meet
   case rel=>exact⟨_,(true),rf,H',⟨om⟩,ak,HB⟩
  (skip)
  replace ⟨ao,A7,H⟩:=bA_ H
  replace H:=Hb_ H;rcases H with⟨rfl,H⟩|⟨rfl,H⟩
  ·replace ⟨aj,A9,H⟩:=bA_ H
   have H':=A_ H
   clear H
   go_wp2_with (first|(go_at_call 34;(with_reducible refine(nR.calls a1 2 4 true _ A7.o).mono ?_);rintro e w' ⟨rfl,⟨nd,rfl⟩⟩)|(go_at_call 29;(with_reducible refine(oI.calls k a1 16 aj _ A9.o).mono ?_);rintro e w' ⟨rfl,⟨nd,rfl⟩⟩))
   go_meet
   case rel=>exact⟨_,(decide (a0≥aj)),rf,H',⟨om⟩,⟨by(with_reducible repeat (first|apply Kd.R_alloc|apply Kd.uP|apply Kd.pR));exact ak.o⟩,⟨wb_⟩⟩
  have H':=A_ H
  clear H
  go_wp2_with (first|(go_at_call 34;(with_reducible refine(nR.calls a1 2 4 false _ A7.o).mono ?_);rintro e w' ⟨rfl,⟨nd,rfl⟩⟩))
  go_meet
  case rel=>exact⟨_,(true),rf,H',⟨om⟩,⟨by(with_reducible repeat (first|apply Kd.R_alloc|apply Kd.uP|apply Kd.pR));exact ak.o⟩,⟨wb_⟩⟩
 case rest=>
  clear J;obtain⟨kq,ai,rfl,HA,aw,ae,HB⟩:=hcut
  cases kq with
  |zero=>exact nz_ HA.o
  |succ U=>
   have H:=HA.o;clear HA;simp only[oO.j0]at H
   replace H:=Hb_ H;rcases H with⟨rfl,H⟩|⟨rfl,H⟩
   ·obtain rfl:=Option.some.inj H
    go_wp2
    go_ret
    exact⟨_,rf,ae.o,HB.o⟩
   have H':=A_ H
   clear H
   go_wp2
   go_loopg [0,5] U (fun kq v0 v5 w'=>∃ (aa:Int) (ab:List Int),v0=.int .i64 aa∧Aside0 (oO.l0 kq aa a1 ab=some r)∧Aside0 (kq≤U)∧Aside0 (Kd.R (Kd.int .i64) 3 w' w.heap.size (fun _=>True) v5 ab)∧Aside0 (Below w.heap.size w w'))
   case atStart=>exact⟨(a0),(af),rf,H',⟨Nat.le_refl _⟩,ae,HB⟩
   case round=>
    clear H';obtain⟨aa,ab,rfl,HA,ax,ae,HB⟩:=hrel
    cases gk with
    |zero=>exact nz_ HA.o
    |succ k2=>
     have H:=HA.o;clear HA;simp only[oO.l0]at H
     replace H:=Hj_ H;rcases H with⟨c11,H⟩|⟨c11,H⟩
     ·have aE:decide (0<aa)=true:=decide_eq_true c11
      clear c11
      replace H:=Hj_ H;rcases H with⟨c12,H⟩|⟨c12,H⟩
      ·cases H
      have aU:(a1==0)=false:=beq_eq_false_iff_ne.mpr c12
      have aV:(a1 !=0)=true:=bne_iff_ne.mpr c12
      replace ⟨ag,aC,H⟩:=Hs_ H
      replace ⟨az,H⟩:=Ha_ H
      obtain⟨aG,an⟩:=ex_ ((ag++ab):List Int);rw[←an]at H;have aD:=A_ an;clear an
      have H':=A_ H
      clear H
      go_wp2_with (first|((with_reducible refine gt_ 26 ?_);refine Kd.wF (Kd.int .i64) _ 3 ?hg (N:=26) ?hd (xs:=([Int.tmod aa a1]:List Int)) (inner:=[.int .i64 (Int.tmod aa a1)]) (ok:=fun _=>True) (okp:=fun _=>True) ?hr ?hp (fun _ hk=>hk) trivial (Below.refl _ _) (Nat.le_refl _) sp ?_;(case hd|hg=>rfl);(case hr=>go_simp;done);(case hp=>exact(qK.one (show Kd.M (Kd.int .i64) _ _ _ (Int.tmod aa a1) [.int .i64 (Int.tmod aa a1)]from rfl) (qK.none _ _)));rintro aT a_ aq hb - -;(rw[←aC.o]at aq);have au:=A_ (Kd.nE (Kd.qF aq (Kd.oV ae.o)) (mK HB.o));replace ae:=A_ (Kd.oz ae.o (Kd.nW aq) hb);replace HB:=bs_ HB hb;clear hb aq;obtain⟨aH,aM,aN⟩:=Kd.mU ae.o;subst aN)|((with_reducible refine nG (b:=.append) (xs:= #[.tmp 26,.tmp 27]) rfl ?_);at_builtin;refine Kd.uU (Kd.int .i64) (w0:=w) w.heap.size rfl (.tmp 26) (.tmp 27) 25 3 (.int .i64 0) 8 rfl Try.underlying25 info3 rfl d_ om aT ag ab _ _ _ (o1 (.slice aH ab.length aM)) (fun _=>False) rfl rfl ?aO ?aR (fun _ _ h=>h) (fun _ h=>h.elim) ?aF ?aB ?aS ?aL ?_;(case aR=>exact(Kd.mX ae.o).2.2);(case aB=>exact HB.o);(case aF=>exact(fun k_ hk=>Kd.fresh' (Kd.oV ae.o) k_ hk));(case aO=>exact(by exact Kd.mM au.o (fun _ hk=>hk.2)));(case aS=>exact(mK HB.o));(case aL=>have:=az.o;omega);intro aY w16 ho hb hg hat;rw[←aD.o]at ho;replace ae:=A_ (Kd.pq (ok:=(fun _=>True)) ae.o hg hat);replace HB:=A_ (hb);have ay:=A_ (ho);clear au;clear ho hb hg hat))
      go_roundg k2
      case measure=>have:=aw.o;have:=ax.o;omega
      case rel=>exact⟨(wrap64 (Int.tdiv aa a1)),(aG),rf,H',⟨by have:=aw.o;have:=ax.o;omega⟩,⟨by exact Kd.mM ay.o (fun _ hk=>trivial)⟩,HB⟩
     have aE:decide (0<aa)=false:=decide_eq_false c11
     clear c11;obtain rfl:=Option.some.inj H
     go_wp2
     go_ret
     exact⟨_,rf,ae.o,HB.o⟩
mutual
def mP.j0:Nat→Int→Bool→Int→List Int→List (List (List Int))→List Int→Option (Int)
 |0,_,_,_,_,_,_=>none
 |k+1,x1,ep,an,ah,af,ai=>if ep=true then(some 0)else((some (([]:List Int):List Int)).bind fun aU=>(if aU.length+ah.length<17592186044416 then((oO.f k x1 an).bind fun aT=>(mP.l0 k (aU++ah) aT 0 an ah af ai))else(none)))
def mP.l0:Nat→List Int→List Int→Int→Int→List Int→List (List (List Int))→List Int→Option (Int)
 |0,_,_,_,_,_,_,_=>none
 |k+1,x5,x6,x7,an,ah,af,ai=>if x7<(x6.length:Int)then(if 0≤(x5.length:Int)then(if((x5.length:Int):Int).toNat≤35184372088832 then(mP.l1 k x5 x6 x7 (List.replicate ((x5.length:Int):Int).toNat 0) 0 an ah af ai)else(none))else(none))else(mP.l3 k x5 0 0 an ah af ai)
def mP.l1:Nat→List Int→List Int→Int→List Int→Int→Int→List Int→List (List (List Int))→List Int→Option (Int)
 |0,_,_,_,_,_,_,_,_,_=>none
 |k+1,x5,x6,x7,x8,x9,an,ah,af,ai=>if x9<(x5.length:Int)then(mP.l2 k x5 x6 x7 x8 x9 0 an ah af ai)else(mP.l0 k x8 x6 (wrap64 (x7+1)) an ah af ai)
def mP.l2:Nat→List Int→List Int→Int→List Int→Int→Int→Int→List Int→List (List (List Int))→List Int→Option (Int)
 |0,_,_,_,_,_,_,_,_,_,_=>none
 |k+1,x5,x6,x7,x8,x9,cK,an,ah,af,ai=>if cK<(x5.length:Int)then(if 0≤x9 then(if x9<(x8.length:Int)then(if 0≤cK then(if 0≤x7 then(if x7<(x6.length:Int)then(if 0≤(rd x6 x7)then(if(rd x6 x7)<(af.length:Int)then(if cK<((nH af (rd x6 x7)).length:Int)then(if x9<((f_ (nH af (rd x6 x7)) cK).length:Int)then(mP.l2 k x5 x6 x7 (x8.set (x9:Int).toNat (wrap64 ((rd x8 x9)+(wrap64 ((rd x5 cK)*(rd (f_ (nH af (rd x6 x7)) cK) x9)))))) x9 (wrap64 (cK+1)) an ah af ai)else(none))else(none))else(none))else(none))else(none))else(none))else(none))else(none))else(none))else(mP.l1 k x5 x6 x7 x8 (wrap64 (x9+1)) an ah af ai)
def mP.l3:Nat→List Int→Int→Int→Int→List Int→List (List (List Int))→List Int→Option (Int)
 |0,_,_,_,_,_,_,_=>none
 |k+1,x5,d8,cL,an,ah,af,ai=>if cL<(x5.length:Int)then(if 0≤cL then(if cL<(ai.length:Int)then(mP.l3 k x5 (wrap64 (d8+(wrap64 ((rd x5 cL)*(rd ai cL))))) (wrap64 (cL+1)) an ah af ai)else(none))else(none))else(some d8)
end
def mP.f (k:Nat) (ap:Int) (aj:List Int) (ae:List (List (List Int))) (al:List Int) (a1:Int):Option (Int):=(mZ.f k ap aj ae al).bind fun cJ=>(if cJ=true then(if a1<0 then(mP.j0 k a1 true ap aj ae al)else((oI.f k ap 16).bind fun bQ=>(mP.j0 k a1 (decide (a1≥bQ)) ap aj ae al)))else(mP.j0 k a1 true ap aj ae al))
def mP.T15:Bool×List (List Nat×List Nat):=(true,[([],[]),([],[]),([],[]),([],[]),([2,3],[2,3]),([4],[4]),([],[]),([],[]),([6,7],[6,7]),([8],[8]),([],[]),([10],[10]),([],[]),([],[]),([12,13],[12,13]),([14],[14]),([11,15],[11,15]),([16],[16]),([],[]),([17,18],[17,18]),([19],[19]),([],[]),([20,21],[20,21]),([22],[22]),([9,23],[9,23]),([5,24],[5,24]),([0,1,0,1,2,3,4,5,6,7,8,9,10,11,12,13,14,15,16,17,18,19,20,21,22,23,24,25],[0,1]),([26,25,0,1,2,3,4,5,6,7,8,9,10,11,12,13,14,15,16,17,18,19,20,21,22,23,24,25],[25,26])])
def mP.B15:List Nat:=[0,0,0,0,12,28,0,0,192,448,0,1024,0,0,12288,28672,64512,130048,0,523264,1047552,0,4193280,8387584,16777152,33554428,67108863,134217727]
theorem mP.OU:uf .any (opsOf Try.f19 15)=mP.T15:=K_
theorem mP.NM:rV mP.T15.2 mP.B15=true:=K_
def mP.T21:Bool×List (List Nat×List Nat):=(true,[([],[]),([],[]),([],[]),([1,2],[1,2]),([3],[3]),([],[]),([5],[5]),([],[]),([6,7],[6,7]),([8],[8]),([4,9],[4,9]),([0,10],[0,10]),([11,0,1,2,3,4,5,6,7,8,9,10,11],[0,11])])
def mP.B21:List Nat:=[0,0,0,6,14,0,32,0,224,480,1022,2047,4095]
theorem mP.O_:uf .any (opsOf Try.f19 21)=mP.T21:=K_
theorem mP.Oq:rV mP.T21.2 mP.B21=true:=K_
theorem mP.calls (k:Nat) (ap:Int) (aG:Option Addr) (aH:Nat) (aj:List Int) (aM:Option Addr) (aI:Nat) (ae:List (List (List Int))) (aN:Option Addr) (aJ:Nat) (al:List Int) (a1:Int) (r:Int) (w:World) (b3:Kd.C (Kd.int .i64) w aG aj.length aj) (bZ:aj.length≤aH) (b4:Kd.C (Kd.slice 25 (Kd.slice 3 (Kd.int .i64))) w aM ae.length ae) (b1:ae.length≤aI) (b5:Kd.C (Kd.int .i64) w aN al.length al) (b2:al.length≤aJ) (h:mP.f k ap aj ae al a1=some r):
  Calls Try.prog 19 #[.agg #[.int .i64 ap,.slice aG aj.length aH,.slice aM ae.length aI,.slice aN al.length aJ],.int .i64 a1] w fun e w'=>e=.returned (.int .i64 r)∧Below w.heap.size w w':=by
 have eD:=Try.underlying33;have aW:=A_ b3;have bA:=A_ bZ;clear b3 bZ;have aX:=A_ b4;have bB:=A_ b1;clear b4 b1;have aY:=A_ b5;have bC:=A_ b2;clear b5 b2;have HB:=A_ (Below.refl w.heap.size w);unfold mP.f at h;have H:=h;clear h;have aZ:=A_ H;clear H;go_enter Try.func19,Try.ntmps19
 go_upto_region 1 with(first|((with_reducible refine gt_ 2 ?_);refine be_ 2 #[.int .i64 ap,.slice aG aj.length aH,.slice aM ae.length aI,.slice aN al.length aJ] 33 ?_;intro av hg w4 J hb;have aa:=A_ (J);have dR:=lh_ HB hg;have bR:=lh_ HB hg;replace HB:=bs_ HB hb;clear hb J hg))
 (try simp only[Act.put,mD,mE,mF])
 go_cut [26] (fun en wc=>∃ (kq:Nat) (bq:Bool),en=.bool bq∧Aside0 (mP.j0 kq a1 bq ap aj ae al=some r)∧Aside0 (kq≤k)∧Aside0 (wc.heap[av]? =some (.cells #[.int .i64 ap,(.slice aG aj.length aH),(.slice aM ae.length aI),(.slice aN al.length aJ)] 33 (0,0)))∧Aside0 (Below w.heap.size w wc))
 case first=>
  have H:=aZ.o;clear aZ;replace ⟨cJ,A5,H⟩:=bA_ H
  replace H:=Hb_ H;rcases H with⟨rfl,H⟩|⟨rfl,H⟩
  ·replace H:=Hi_ H;rcases H with⟨dz,H⟩|⟨dz,H⟩
   ·(skip)
    have H':=A_ H
    clear H;have dN:=bq4 aa.o
    go_wp2_with (first|((with_reducible refine gc_ 25 rfl ?_);refine cM_ E25 14 (mZ.calls k ap _ _ aj _ _ ae _ _ al true _ (Kd.mO aW.o HB.o) bA.o (Kd.mO aX.o HB.o) bB.o (Kd.mO aY.o HB.o) bC.o A5.o) ?_;rintro e w9 ⟨rfl,hb⟩;refine⟨_,rfl,?_⟩;replace aa:=bb_ aa hb;replace HB:=bs_ HB hb;clear hb;(try clear hi)))
    go_meet
    case rel=>exact⟨_,(true),rf,H',⟨om⟩,aa,HB⟩
   (skip)
   replace ⟨bQ,eF,H⟩:=bA_ H
   have H':=A_ H
   clear H;have du:=bq4 aa.o
   go_wp2_with (first|((with_reducible refine gc_ 25 rfl ?_);refine cM_ E25 14 (mZ.calls k ap _ _ aj _ _ ae _ _ al true _ (Kd.mO aW.o HB.o) bA.o (Kd.mO aX.o HB.o) bB.o (Kd.mO aY.o HB.o) bC.o A5.o) ?_;rintro e eY ⟨rfl,hb⟩;refine⟨_,rfl,?_⟩;replace aa:=bb_ aa hb;replace HB:=bs_ HB hb;clear hb;have dv:=bq4 aa.o)|(go_at_call 29;(with_reducible refine(oI.calls k ap 16 bQ _ eF.o).mono ?_);rintro e w' ⟨rfl,⟨nd,rfl⟩⟩))
   go_meet
   case rel=>exact⟨_,(decide (a1≥bQ)),rf,H',⟨om⟩,⟨wk_⟩,⟨wb_⟩⟩
  have H':=A_ H
  clear H;have dw:=bq4 aa.o
  go_wp2_with (first|((with_reducible refine gc_ 25 rfl ?_);refine cM_ E25 14 (mZ.calls k ap _ _ aj _ _ ae _ _ al false _ (Kd.mO aW.o HB.o) bA.o (Kd.mO aX.o HB.o) bB.o (Kd.mO aY.o HB.o) bC.o A5.o) ?_;rintro e eZ ⟨rfl,hb⟩;refine⟨_,rfl,?_⟩;replace aa:=bb_ aa hb;replace HB:=bs_ HB hb;clear hb;(try clear hi)))
  go_meet
  case rel=>exact⟨_,(true),rf,H',⟨om⟩,aa,HB⟩
 case rest=>
  clear aZ;obtain⟨kq,bq,rfl,HA,bS,aa,HB⟩:=hcut
  cases kq with
  |zero=>exact nz_ HA.o
  |succ a_=>
   have H:=HA.o;clear HA;simp only[mP.j0]at H
   replace H:=Hb_ H;rcases H with⟨rfl,H⟩|⟨rfl,H⟩
   ·obtain rfl:=Option.some.inj H
    go_wp2
    go_ret
    exact⟨rf,HB.o⟩
   replace ⟨aU,cQ,H⟩:=Hs_ H
   replace ⟨cP,H⟩:=Ha_ H
   obtain⟨dk,bJ⟩:=ex_ ((aU++aj):List Int);rw[←bJ]at H;have cS:=A_ bJ;clear bJ;replace ⟨aT,eG,H⟩:=bA_ H
   have H':=A_ H
   clear H
   go_wp2_with (first|((with_reducible refine gd_ 27 rfl ?_);refine RL_ 27 3 [] [] rfl rfl (by go_simp;done) rfl rfl ?_;rintro dQ fe cc hb - -;(rw[←cQ.o]at cc);have bD:=A_ (Kd.nE cc (mK HB.o));replace aa:=bb_ aa hb;replace HB:=bs_ HB hb;clear hb cc;have bO:=bq4 aa.o)|((with_reducible refine nG (b:=.append) (xs:= #[.tmp 27,.tmp 29]) rfl ?_);at_builtin;refine Kd.uU (Kd.int .i64) (w0:=w) w.heap.size rfl (.tmp 27) (.tmp 29) 25 3 (.int .i64 0) 8 rfl Try.underlying25 info3 rfl d_ om dQ aU aj _ _ _ (fun _=>True) (fun _=>False) rfl rfl ?aO ?aR (fun _ _ h=>h) (fun _ h=>h.elim) ?aF ?aB ?aS ?aL ?_;(case aR=>exact(Kd.mO aW.o HB.o));(case aB=>exact HB.o);(case aF=>exact(fun _ _=>trivial));(case aO=>exact bD.o);(case aS=>exact(mK HB.o));(case aL=>have:=cP.o;omega);intro eo fo ho hb hg hat;rw[←cS.o]at ho;replace aa:=gR_ bD aa hg;replace HB:=A_ (hb);have aV:=A_ (ho);clear bD;clear ho hb hg hat;have bP:=bq4 aa.o)|((with_reducible refine gc_ 46 rfl ?_);refine cM_ E46 34 (oO.calls a_ a1 ap aT _ eG.o) ?_;rintro e fq ⟨dj,rfl,ho0,hb⟩;refine⟨_,rfl,?_⟩;have cN:=A_ (Kd.nE (Kd.qF ho0 (Kd.oV aV.o)) (mK HB.o));replace aV:=A_ (Kd.oz aV.o (Kd.nW ho0) hb);replace aa:=bb_ aa hb;replace HB:=bs_ HB hb;clear hb;(try clear ho0)))
   go_loopg [5,7] a_ (fun kq v5 v7 w'=>∃ (am:List Int) (ag:List Int) (ao:Int),v7=.int .i64 ao∧Aside0 (mP.l0 kq am ag ao ap aj ae al=some r)∧Aside0 (kq≤a_)∧Aside0 (Kd.R (Kd.int .i64) 3 w' w.heap.size (o1 dj) v5 am)∧Aside0 (Kd.R (Kd.int .i64) 3 w' w.heap.size (o1 v5) dj ag)∧Aside0 (w'.heap[av]? =some (.cells #[.int .i64 ap,(.slice aG aj.length aH),(.slice aM ae.length aI),(.slice aN al.length aJ)] 33 (0,0)))∧Aside0 (Below w.heap.size w w'))
   case atStart=>exact⟨(dk),(aT),(0),rf,H',⟨Nat.le_refl _⟩,⟨by exact Kd.mM aV.o (fun _ hk=>hk.2)⟩,⟨by exact Kd.mM cN.o (fun _ hk=>hk.2)⟩,aa,HB⟩
   case round=>
    clear H'
    clear bO bP
    obtain⟨am,ag,ao,rfl,HA,bT,ar,ax,aa,HB⟩:=hrel
    cases gk with
    |zero=>exact nz_ HA.o
    |succ k2=>
     have H:=HA.o;clear HA;simp only[mP.l0]at H
     replace H:=Hi_ H;rcases H with⟨bF,H⟩|⟨bF,H⟩
     ·replace ⟨bI,H⟩:=Hp_ H
      have cZ:=eq_true bI;have da:=decide_eq_true bI;clear bI
      replace ⟨b_,H⟩:=Hp_ H
      have db:=eq_true b_;have dd:=decide_eq_true b_;clear b_;obtain⟨dm,bK⟩:=ex_ ((List.replicate ((am.length:Int):Int).toNat 0):List Int);rw[←bK]at H;have cU:=A_ bK;clear bK
      have H':=A_ H
      clear H;obtain⟨br,bv,dI⟩:=Kd.mU ax.o;subst dI;obtain⟨bu,bw,dJ⟩:=Kd.mU ar.o;subst dJ
      go_wp2_with (first|((with_reducible refine gt_ 43 ?_);refine Kd.Ce (Kd.int .i64) _ 3 rfl (N:=43) rfl 25 _ _ rfl (am.length:Int) rfl rfl Try.underlying25 (.int .i64 0) 8 info3 rfl d_ om 0 (ok:=fun _=>True) (okp:=fun _=>True) rfl (fun _ hk=>hk) trivial oa_ (Nat.le_trans (Nat.mul_le_mul_right _ (oa_:(am.length:Int).toNat≤35184372088832)) om) (Below.refl _ _) (Nat.le_refl _) ?_;rintro bz fu bH hb - -;(rw[←cU.o]at bH);have cO:=A_ (Kd.nE (Kd.qF (Kd.qF bH (Kd.oV ar.o)) (Kd.oV ax.o)) (mK HB.o));replace ar:=A_ (Kd.oz ar.o (Kd.nW bH) hb);replace ax:=A_ (Kd.oz ax.o (Kd.nW bH) hb);replace aa:=bb_ aa hb;replace HB:=bs_ HB hb;clear hb bH))
      go_loopg [9] k2 (fun kq v9 w'=>∃ (bM:List Int) (ak:Int),v9=.int .i64 ak∧Aside0 (mP.l1 kq am ag ao bM ak ap aj ae al=some r)∧Aside0 (kq≤k2)∧Aside0 (Kd.R (Kd.int .i64) 3 w' w.heap.size (o2 (.slice br ag.length bv) bz) (.slice bu am.length bw) am)∧Aside0 (Kd.R (Kd.int .i64) 3 w' w.heap.size (o2 (.slice bu am.length bw) bz) (.slice br ag.length bv) ag)∧Aside0 (Kd.R (Kd.int .i64) 3 w' w.heap.size (o2 (.slice bu am.length bw) (.slice br ag.length bv)) bz bM)∧Aside0 (w'.heap[av]? =some (.cells #[.int .i64 ap,(.slice aG aj.length aH),(.slice aM ae.length aI),(.slice aN al.length aJ)] 33 (0,0)))∧Aside0 (Below w.heap.size w w'))
      case atStart=>exact⟨(dm),(0),rf,H',⟨Nat.le_refl _⟩,ar,ax,⟨by exact Kd.mM cO.o (fun _ hk=>⟨hk.1.2,hk.2⟩)⟩,aa,HB⟩
      case round=>
       clear H'
       clear bF cZ da db dd
       obtain⟨bM,ak,rfl,HA,bN,ar,ax,aD,aa,HB⟩:=hrel
       cases gk with
       |zero=>exact nz_ HA.o
       |succ k3=>
        have H:=HA.o;clear HA;simp only[mP.l1]at H
        replace H:=Hi_ H;rcases H with⟨bY,H⟩|⟨bY,H⟩
        ·have H':=A_ H
         clear H
         go_wp2
         go_loopg [10] k3 (fun kq ek w'=>∃ (aE:List Int) (ab:Int),ek=.int .i64 ab∧Aside0 (mP.l2 kq am ag ao aE ak ab ap aj ae al=some r)∧Aside0 (kq≤k3)∧Aside0 (Kd.R (Kd.int .i64) 3 w' w.heap.size (o2 (.slice br ag.length bv) bz) (.slice bu am.length bw) am)∧Aside0 (Kd.R (Kd.int .i64) 3 w' w.heap.size (o2 (.slice bu am.length bw) bz) (.slice br ag.length bv) ag)∧Aside0 (Kd.R (Kd.int .i64) 3 w' w.heap.size (o2 (.slice bu am.length bw) (.slice br ag.length bv)) bz aE)∧Aside0 (w'.heap[av]? =some (.cells #[.int .i64 ap,(.slice aG aj.length aH),(.slice aM ae.length aI),(.slice aN al.length aJ)] 33 (0,0)))∧Aside0 (Below w.heap.size w w'))
         case atStart=>exact⟨(bM),(0),rf,H',⟨Nat.le_refl _⟩,ar,ax,aD,aa,HB⟩
         case round=>
          clear H'
          try clear bY
          obtain⟨aE,ab,rfl,HA,dt,ar,ax,aD,aa,HB⟩:=hrel
          cases gk with
          |zero=>exact nz_ HA.o
          |succ k4=>
           have H:=HA.o;clear HA;simp only[mP.l2]at H
           replace H:=Hi_ H;rcases H with⟨de,H⟩|⟨de,H⟩
           ·replace ⟨dT,H⟩:=Hd_ H
            replace ⟨dU,H⟩:=Hd_ H
            replace ⟨dV,H⟩:=Hd_ H
            replace ⟨dW,H⟩:=Hd_ H
            replace ⟨dX,H⟩:=Hd_ H
            replace ⟨dY,H⟩:=Hd_ H
            replace ⟨dZ,H⟩:=Hd_ H
            replace ⟨d4,H⟩:=Hd_ H
            replace ⟨d5,H⟩:=Hd_ H
            obtain⟨dn,bL⟩:=ex_ ((aE.set (ak:Int).toNat (wrap64 ((rd aE ak)+(wrap64 ((rd am ab)*(rd (f_ (nH ae (rd ag ao)) ab) ak)))))):List Int);rw[←bL]at H;have cV:=A_ bL;clear bL
            have H':=A_ H
            clear H
            try go_wp2
            replace ar:=A_ (Kd.pR ar.o);replace ax:=A_ (Kd.pR ax.o);replace aD:=A_ (Kd.pR aD.o);replace aa:=A_ (nQ aa.o);replace HB:=A_ (oG HB.o);obtain⟨d9,eg,dh⟩:=Kd.mU aD.o
            (first|subst dh|(injection dh with eu eH eB;have eO:=eu.symm;have eP:=eB.symm;clear eu eH eB;subst eO;subst eP))
            have cf:0≤(ak:Int):=oa_
            have cB:ak<(aE.length:Int):=oa_
            obtain⟨dS,dA,aQ⟩:=Kd.nM (Kd.mX aD.o).2.2 ak cf cB
            cases dA
            replace cf:=eq_true cf;replace cB:=eq_true cB
            have cg:0≤(ab:Int):=oa_
            have cC:ab<(am.length:Int):=oa_
            obtain⟨cW,dB,bj⟩:=Kd.nM (Kd.mX ar.o).2.2 ab cg cC
            cases dB
            replace cg:=eq_true cg;replace cC:=eq_true cC
            have ch:0≤(ao:Int):=oa_
            have cD:ao<(ag.length:Int):=oa_
            obtain⟨cX,dC,bk⟩:=Kd.nM (Kd.mX ax.o).2.2 ao ch cD
            cases dC
            replace ch:=eq_true ch;replace cD:=eq_true cD
            have ci:0≤((rd ag ao):Int):=oa_
            have cE:(rd ag ao)<(ae.length:Int):=oa_
            obtain⟨bU,dx,b7,dD,ay,bc,a9⟩:=wI aX.o (rd ag ao) ci cE;have bf:=ay
            cases dD
            replace ay:=cm_ HB ay;have a7:=A_ a9;have dp:=A_ bc;clear a9 bc;replace ci:=eq_true ci;replace cE:=eq_true cE
            have ck:0≤(ab:Int):=oa_
            have cF:ab<((nH ae (rd ag ao)).length:Int):=oa_
            obtain⟨bV,dy,b8,dE,az,be,ba⟩:=qM a7.o ab ck cF;have bg:=az
            cases dE
            replace az:=cm_ HB az;have a8:=A_ ba;have dq:=A_ be;clear ba be;replace ck:=eq_true ck;replace cF:=eq_true cF
            have co:0≤(ak:Int):=oa_
            have cG:ak<((f_ (nH ae (rd ag ao)) ab).length:Int):=oa_
            obtain⟨bW,dF,aA⟩:=Kd.nM a8.o ak co cG;have bh:=aA
            cases dF
            replace aA:=cm_ HB aA;replace co:=eq_true co;replace cG:=eq_true cG
            have dO:0≤(ak:Int):=oa_
            have dP:(ak:Int)<((aE.length:Int):Int):=oa_
            obtain⟨bG,ef,dg,di,cu,eQ,U⟩:=Kd.sj aD.o om
            (first|cases dg|(injection dg with aP eT eU;(first|subst aP|(injection aP with aP;subst aP));subst eU;clear eT))
            have eX:=A_ di;have cz:=A_ U;clear di cu U
            (first|simp only[add_plain]at aQ|skip)
            obtain⟨cd,b9⟩:=Kd.rF 0 aD.o (ak:Int) dO dP;replace dO:=eq_true dO;replace dP:=eq_true dP;have b6:=Kd.F7 aD.o (ak:Int) (wrap64 ((rd aE ak)+(wrap64 ((rd am ab)*(rd (f_ (nH ae (rd ag ao)) ab) ak)))));rw[←cV.o]at b6;have aK:=A_ b6;clear b6;refine rM (n:=28) (S:=fun w'=>cA4 av (.int .i64 ap) (.slice aG aj.length aH) (.slice (some bU) ae.length aI) (.slice aN al.length aJ) w' (w'.cell? ⟨bG,(ak).toNat,none⟩=some (.int .i64 (rd aE ak))∧w'.cell? (cW.add (ab).toNat)=some (.int .i64 (rd am ab))∧w'.cell? (cX.add (ao).toNat)=some (.int .i64 (rd ag ao))∧w'.cell? (bU.add ((rd ag ao)).toNat)=some (.slice (some bV) (nH ae (rd ag ao)).length b7)∧w'.cell? (bV.add (ab).toNat)=some (.slice (some bW) (f_ (nH ae (rd ag ao)) ab).length b8)∧w'.cell? (bW.add (ak).toNat)=some (.int .i64 (rd (f_ (nH ae (rd ag ao)) ab) ak)))) (ds:=[27]) (mk_ 28 0) K_ rfl rfl ⟨bz0 aa.o,bz1 aa.o,bz2 aa.o,bz3 aa.o,aQ,bj,bk,((HB.o.cell (World.block_lt_of_cell? w _ bf)).trans bf),((HB.o.cell (World.block_lt_of_cell? w _ bg)).trans bg),((HB.o.cell (World.block_lt_of_cell? w _ bh)).trans bh)⟩ (fun aw=>?_);refine ru mP.OU mP.NM (fun au bE=>?_)
            generalize wr.drew=fw at ar ax aD aa HB cz aK a7 a8 b9 cd aQ bj bk ay az aA aw⊢
            refine pw_ 0 56 (mk_ 28 1) au ?_;refine pw_ 1 57 (mk_ 28 3) au ?_;refine pw_ 2 58 (mk_ 28 7) au ?_;refine pw_ 3 59 (mk_ 28 15) au ?_;refine pw_ 4 60 (mk_ 28 31) au ?_;refine pw_ 6 62 (mk_ 28 95) au ?_;refine pw_ 7 63 (mk_ 28 223) au ?_;refine pw_ 8 64 (mk_ 28 479) au ?_;refine pw_ 10 66 (mk_ 28 1503) au ?_;refine pw_ 12 68 (mk_ 28 5599) au ?_;refine pw_ 13 69 (mk_ 28 13791) au ?_;refine pw_ 14 70 (mk_ 28 30175) au ?_;refine pw_ 18 74 (mk_ 28 292319) au ?_;refine pw_ 21 77 (mk_ 28 2389471) au ?_;refine tk_ 5 61 (mk_ 28 2389503) au bE aw ?_;refine tk_ 9 65 (mk_ 28 2390015) au bE aw ?_;refine tk_ 11 67 (mk_ 28 2392063) au bE aw ?_;refine tk_ 15 71 (mk_ 28 2424831) au bE aw ?_;refine pw_ 16 72 (mk_ 28 2490367) au ?_;refine tk_ 17 73 (mk_ 28 2621439) au bE aw ?_;refine pw_ 19 75 (mk_ 28 3145727) au ?_;refine tk_ 20 76 (mk_ 28 4194303) au bE aw ?_;refine pw_ 22 78 (mk_ 28 8388607) au ?_;refine tk_ 23 79 (mk_ 28 16777215) au bE aw ?_;refine pw_ 24 80 (mk_ 28 33554431) au ?_;refine pw_ 25 81 (mk_ 28 67108863) au ?_;refine pw_ 26 82 (mk_ 28 134217727) au ?_;refine vI (i:=27) (N:=none) (mk_ 28 268435455) rfl rfl (xJ au.o K_) d_ (fun K hK=>?_);refine uI (w1:=?_) rf rfl ?_ ?_;rotate_left
            ·go_simp
             rfl
            refine hK.out _ _ ?_;clear hK K;refine sZ (sP au.o K_) ?_
            try go_wp2
            go_roundg k4
            case measure=>have:=bS.o;have:=bT.o;have:=bN.o;have:=dt.o;omega
            case rel=>exact⟨(dn),(wrap64 (ab+1)),rf,H',⟨by have:=bS.o;have:=bT.o;have:=bN.o;have:=dt.o;omega⟩,⟨by exact Kd.mM (Kd.sM (p:=⟨bG,(ak:Int).toNat,none⟩) (Kd.mM ar.o (fun k_ hk=>(⟨hk,fun e_=>hk.2 (by rw[e_];rfl)⟩:_∧k_≠bG))) (fun _ hk=>hk.2) (.int .i64 (wrap64 ((rd aE ak)+(wrap64 ((rd am ab)*(rd (f_ (nH ae (rd ag ao)) ab) ak))))))) (fun _ hk=>⟨hk.1.1,hk.1.2⟩)⟩,⟨by exact Kd.mM (Kd.sM (p:=⟨bG,(ak:Int).toNat,none⟩) (Kd.mM ax.o (fun k_ hk=>(⟨hk,fun e_=>hk.2 (by rw[e_];rfl)⟩:_∧k_≠bG))) (fun _ hk=>hk.2) (.int .i64 (wrap64 ((rd aE ak)+(wrap64 ((rd am ab)*(rd (f_ (nH ae (rd ag ao)) ab) ak))))))) (fun _ hk=>⟨hk.1.1,hk.1.2⟩)⟩,aK,⟨by refine pQ ?_ (by have h_:=Kd.xu aD.o aa.o d_;intro e_;exact h_ (by rw[e_];rfl)) _;exact aa.o⟩,⟨wb_⟩⟩
           have H':=A_ H
           clear H
           go_wp2
           go_roundg k4
           case measure=>have:=bS.o;have:=bT.o;have:=bN.o;have:=dt.o;omega
           case rel=>exact⟨(aE),(wrap64 (ak+1)),rf,H',⟨by have:=bS.o;have:=bT.o;have:=bN.o;have:=dt.o;omega⟩,ar,ax,aD,aa,HB⟩
        have H':=A_ H
        clear H
        go_wp2
        go_roundg k3
        case measure=>have:=bS.o;have:=bT.o;have:=bN.o;omega
        case rel=>exact⟨(bM),(ag),(wrap64 (ao+1)),rf,H',⟨by have:=bS.o;have:=bT.o;have:=bN.o;omega⟩,⟨by exact Kd.mM aD.o (fun _ hk=>hk.2)⟩,⟨by exact Kd.mM ax.o (fun _ hk=>hk.2)⟩,aa,HB⟩
     have H':=A_ H
     clear H;obtain⟨eb,eh,dK⟩:=Kd.mU ax.o;subst dK
     go_wp2
     go_loopg [11,12] k2 (fun kq el em w'=>∃ (bn:Int) (aq:Int),el=.int .i64 bn∧em=.int .i64 aq∧Aside0 (mP.l3 kq am bn aq ap aj ae al=some r)∧Aside0 (kq≤k2)∧Aside0 (Kd.R (Kd.int .i64) 3 w' w.heap.size (fun _=>True) u5 am)∧Aside0 (w'.heap[av]? =some (.cells #[.int .i64 ap,(.slice aG aj.length aH),(.slice aM ae.length aI),(.slice aN al.length aJ)] 33 (0,0)))∧Aside0 (Below w.heap.size w w'))
     case atStart=>exact⟨(0),(0),rf,rf,H',⟨Nat.le_refl _⟩,⟨by exact Kd.mM ar.o (fun _ hk=>trivial)⟩,aa,HB⟩
     case round=>
      clear H'
      try clear bF
      obtain⟨bn,aq,rfl,rfl,HA,bN,ar,aa,HB⟩:=hrel
      cases gk with
      |zero=>exact nz_ HA.o
      |succ k3=>
       have H:=HA.o;clear HA;simp only[mP.l3]at H
       replace H:=Hi_ H;rcases H with⟨df,H⟩|⟨df,H⟩
       ·replace ⟨d6,H⟩:=Hd_ H
        replace ⟨d7,H⟩:=Hd_ H
        have H':=A_ H
        clear H;obtain⟨ec,ei,dL⟩:=Kd.mU ar.o;subst dL
        try go_wp2
        replace ar:=A_ (Kd.pR ar.o);replace aa:=A_ (nQ aa.o);replace HB:=A_ (oG HB.o)
        have cw:0≤(aq:Int):=oa_
        have cH:aq<(am.length:Int):=oa_
        obtain⟨cY,dG,bm⟩:=Kd.nM (Kd.mX ar.o).2.2 aq cw cH
        cases dG
        replace cw:=eq_true cw;replace cH:=eq_true cH
        have cA:0≤(aq:Int):=oa_
        have cI:aq<(al.length:Int):=oa_
        obtain⟨bX,dH,aC⟩:=Kd.nM aY.o aq cA cI;have bi:=aC
        cases dH
        replace aC:=cm_ HB aC;replace cA:=eq_true cA;replace cI:=eq_true cI;refine rM (n:=13) (S:=fun w'=>cA4 av (.int .i64 ap) (.slice aG aj.length aH) (.slice aM ae.length aI) (.slice (some bX) al.length aJ) w' (w'.cell? (cY.add (aq).toNat)=some (.int .i64 (rd am aq))∧w'.cell? (bX.add (aq).toNat)=some (.int .i64 (rd al aq)))) (ds:=[]) (mk_ 13 0) K_ rfl rfl ⟨bz0 aa.o,bz1 aa.o,bz2 aa.o,bz3 aa.o,bm,((HB.o.cell (World.block_lt_of_cell? w _ bi)).trans bi)⟩ (fun aw=>?_);refine ru mP.O_ mP.Oq (fun au bE=>?_)
        generalize wr.drew=fA at ar aa HB bm aC aw⊢
        refine pw_ 0 90 (mk_ 13 1) au ?_;refine pw_ 1 91 (mk_ 13 3) au ?_;refine pw_ 2 92 (mk_ 13 7) au ?_;refine pw_ 3 93 (mk_ 13 15) au ?_;refine pw_ 5 95 (mk_ 13 47) au ?_;refine pw_ 7 97 (mk_ 13 175) au ?_;refine tk_ 4 94 (mk_ 13 191) au bE aw ?_;refine tk_ 6 96 (mk_ 13 255) au bE aw ?_;refine pw_ 8 98 (mk_ 13 511) au ?_;refine tk_ 9 99 (mk_ 13 1023) au bE aw ?_;refine pw_ 10 100 (mk_ 13 2047) au ?_;refine pw_ 11 101 (mk_ 13 4095) au ?_;refine pw_ 12 11 (mk_ 13 8191) au ?_;refine sZ (sP au.o K_) ?_
        try go_wp2
        go_roundg k3
        case measure=>have:=bS.o;have:=bT.o;have:=bN.o;omega
        case rel=>exact⟨(wrap64 (bn+(wrap64 ((rd am aq)*(rd al aq))))),(wrap64 (aq+1)),rf,rf,H',⟨by have:=bS.o;have:=bT.o;have:=bN.o;omega⟩,ar,aa,HB⟩
       obtain rfl:=Option.some.inj H;obtain⟨ed,ej,dM⟩:=Kd.mU ar.o;subst dM
       go_wp2
       go_ret
       exact⟨rf,HB.o⟩
mutual
def m_.l0:Nat→Int→Int→List (List Int)→List Int→Option (Bool)
 |0,_,_,_,_=>none
 |k+1,x3,aq,af,an=>if x3<(af.length:Int)then(if 0≤x3 then(if((f_ af x3).length:Int)=aq then(m_.l1 k x3 0 aq af an)else(some false))else(none))else(m_.l2 k 0 aq af an)
def m_.l1:Nat→Int→Int→Int→List (List Int)→List Int→Option (Bool)
 |0,_,_,_,_,_=>none
 |k+1,x3,x4,aq,af,an=>if 0≤x3 then(if x3<(af.length:Int)then(if x4<((f_ af x3).length:Int)then(if 0≤x4 then(if(rd (f_ af x3) x4)<0 then(some false)else(if(rd (f_ af x3) x4)≥(af.length:Int)then(some false)else(m_.l1 k x3 (wrap64 (x4+1)) aq af an)))else(none))else(m_.l0 k (wrap64 (x3+1)) aq af an))else(none))else(none)
def m_.l2:Nat→Int→Int→List (List Int)→List Int→Option (Bool)
 |0,_,_,_,_=>none
 |k+1,x5,aq,af,an=>if x5<(an.length:Int)then(if 0≤x5 then((nR.f (rd an x5) 0 3).bind fun ch=>(if ch=true then(m_.l2 k (wrap64 (x5+1)) aq af an)else(some false)))else(none))else((nR.f aq 2 4).bind fun ci=>(if ci=true then((nR.f (af.length:Int) 1 16).bind fun ck=>(if ck=true then(some ((an.length:Int)==(af.length:Int)))else(some false)))else(some false)))
end
def m_.f (k:Nat) (ai:Int) (aa:List (List Int)) (ag:List Int):Option (Bool):=m_.l0 k 0 ai aa ag
theorem m_.calls (k:Nat) (ai:Int) (aX:Option Addr) (aU:Nat) (aa:List (List Int)) (aT:Option Addr) (aV:Nat) (ag:List Int) (r:Bool) (w:World) (bm:Kd.C (Kd.slice 3 (Kd.int .i64)) w aX aa.length aa) (bj:aa.length≤aU) (bn:Kd.C (Kd.int .i64) w aT ag.length ag) (bk:ag.length≤aV) (h:m_.f k ai aa ag=some r):
  Calls Try.prog 33 #[.agg #[.int .i64 ai,.slice aX aa.length aU,.slice aT ag.length aV]] w fun e w'=>e=.returned (.bool r)∧Below w.heap.size w w':=by
 have aP:=Try.underlying27;have ar:=A_ bm;have bJ:=A_ bj;clear bm bj;have bg:=A_ bn;have bK:=A_ bk;clear bn bk;have HB:=A_ (Below.refl w.heap.size w);unfold m_.f at h;have H:=h;clear h
 have H':=A_ H
 clear H;go_enter Try.func33,Try.ntmps33
 go_wp2_with (first|((with_reducible refine gt_ 1 ?_);(try (refine qV rf ?_;dsimp only));refine be_ 1 #[.int .i64 ai,.slice aX aa.length aU,.slice aT ag.length aV] 27 ?_;intro bi hg w2 J hb;have aj:=A_ (J);have bU:=lh_ HB hg;have az:=lh_ HB hg;replace HB:=bs_ HB hb;clear hb J hg))
 repeat (go_quiet (first|((with_reducible refine gt_ 1 ?_);(try (refine qV rf ?_;dsimp only));refine vH ?hg (N:=1) ?hd (cs:= #[.int .i64 ai,.slice aX aa.length aU,.slice aT ag.length aV]) (t:=27) ?hr ?_;(case hd|hg=>rfl);(case hr=>first|(go_simp;done)|(go_simp;rfl));intro bi hg w2 J hb;have aj:=A_ (J);have bU:=lh_ HB hg;have az:=lh_ HB hg;replace HB:=bs_ HB hb;clear hb J hg));try go_wp2_with (first|((with_reducible refine gt_ 1 ?_);(try (refine qV rf ?_;dsimp only));refine vH ?hg (N:=1) ?hd (cs:= #[.int .i64 ai,.slice aX aa.length aU,.slice aT ag.length aV]) (t:=27) ?hr ?_;(case hd|hg=>rfl);(case hr=>first|(go_simp;done)|(go_simp;rfl));intro bi hg w2 J hb;have aj:=A_ (J);have bU:=lh_ HB hg;have az:=lh_ HB hg;replace HB:=bs_ HB hb;clear hb J hg)))
 go_loopg [3] k (fun kq v3 w'=>∃ (ab:Int),v3=.int .i64 ab∧Aside0 (m_.l0 kq ab ai aa ag=some r)∧Aside0 (kq≤k)∧Aside0 (w'.heap[bi]? =some (.cells #[.int .i64 ai,(.slice aX aa.length aU),(.slice aT ag.length aV)] 27 (0,0)))∧Aside0 (Below w.heap.size w w'))
 case atStart=>exact⟨(0),rf,H',⟨Nat.le_refl _⟩,aj,HB⟩
 case round=>
  clear H';obtain⟨ab,rfl,HA,cw,aj,HB⟩:=hrel
  cases gk with
  |zero=>exact nz_ HA.o
  |succ k1=>
   have H:=HA.o;clear HA;simp only[m_.l0]at H
   replace H:=Hi_ H;rcases H with⟨bZ,H⟩|⟨bZ,H⟩
   ·replace ⟨cH,H⟩:=Hd_ H
    replace H:=Hj_ H;rcases H with⟨c5,H⟩|⟨c5,H⟩
    ·have b3:(((f_ aa ab).length:Int)==ai)=true:=beq_iff_eq.mpr c5
     have b4:(((f_ aa ab).length:Int) !=ai)=false:=bne_eq_false_iff_eq.mpr c5
     clear c5
     have H':=A_ H
     clear H;have b9:=bq3 aj.o
     have bq:0≤(ab:Int):=oa_
     have br:ab<(aa.length:Int):=oa_
     obtain⟨aC,bW,b1,b5,aw,aJ,aH⟩:=qM ar.o ab bq br
     cases b5
     replace aw:=cm_ HB aw;have bR:=A_ aH;have bP:=A_ aJ;clear aH aJ;replace bq:=eq_true bq;replace br:=eq_true br
     go_wp2
     repeat (go_quiet (fail);try go_wp2)
     go_loopg [4] k1 (fun kq v4 w'=>∃ (ao:Int),v4=.int .i64 ao∧Aside0 (m_.l1 kq ab ao ai aa ag=some r)∧Aside0 (kq≤k1)∧Aside0 (w'.heap[bi]? =some (.cells #[.int .i64 ai,(.slice (some aC) aa.length aU),(.slice aT ag.length aV)] 27 (0,0)))∧Aside0 (Below w.heap.size w w'))
     case atStart=>exact⟨(0),rf,H',⟨Nat.le_refl _⟩,⟨wk_⟩,⟨wb_⟩⟩
     case round=>
      clear H'
      clear bZ cH b3 b4 b9 aw bq br
      obtain⟨ao,rfl,HA,bY,aj,HB⟩:=hrel
      cases gk with
      |zero=>exact nz_ HA.o
      |succ k2=>
       have H:=HA.o;clear HA;simp only[m_.l1]at H
       replace ⟨dm,H⟩:=Hd_ H
       replace ⟨dn,H⟩:=Hd_ H
       replace H:=Hi_ H;rcases H with⟨da,H⟩|⟨da,H⟩
       ·replace ⟨di,H⟩:=Hd_ H
        replace H:=Hi_ H;rcases H with⟨cE,H⟩|⟨cE,H⟩
        ·obtain rfl:=Option.some.inj H;have cL:=bq3 aj.o
         have aD:0≤(ab:Int):=oa_
         have aE:ab<(aa.length:Int):=oa_
         obtain⟨aY,bu,bv,bw,ae,al,ak⟩:=qM ar.o ab aD aE;obtain rfl:aC=aY:=(by injection bw);replace ae:=cm_ HB ae;have be:=A_ ak;have bc:=A_ al;clear ak al;replace aD:=eq_true aD;replace aE:=eq_true aE
         have a7:0≤(ab:Int):=oa_
         have a9:ab<(aa.length:Int):=oa_
         obtain⟨bh,bI,bM,bN,ah,av,au⟩:=qM ar.o ab a7 a9;obtain rfl:aC=bh:=(by injection bN);replace ah:=cm_ HB ah;have aG:=A_ au;have bF:=A_ av;clear au av;replace a7:=eq_true a7;replace a9:=eq_true a9;have U:=Option.some.inj (ae.symm.trans ah)
         injection U with U aB aF
         subst U;subst aF;clear aB
         have a8:0≤(ao:Int):=oa_
         have ba:ao<((f_ aa ab).length:Int):=oa_
         obtain⟨bV,bO,am⟩:=Kd.nM aG.o ao a8 ba
         cases bO
         replace am:=cm_ HB am;replace a8:=eq_true a8;replace ba:=eq_true ba
         go_wp2
         repeat (go_quiet (fail);try go_wp2)
         go_ret
         exact⟨rf,wb_⟩
        replace H:=Hj_ H;rcases H with⟨c13,H⟩|⟨c13,H⟩
        ·have cF:decide ((aa.length:Int)≤(rd (f_ aa ab) ao))=true:=decide_eq_true c13
         clear c13;obtain rfl:=Option.some.inj H;have cN:=bq3 aj.o
         have aD:0≤(ab:Int):=oa_
         have aE:ab<(aa.length:Int):=oa_
         obtain⟨aY,bu,bv,bw,ae,al,ak⟩:=qM ar.o ab aD aE;obtain rfl:aC=aY:=(by injection bw);replace ae:=cm_ HB ae;have be:=A_ ak;have bc:=A_ al;clear ak al;replace aD:=eq_true aD;replace aE:=eq_true aE
         have a7:0≤(ab:Int):=oa_
         have a9:ab<(aa.length:Int):=oa_
         obtain⟨bh,bI,bM,bN,ah,av,au⟩:=qM ar.o ab a7 a9;obtain rfl:aC=bh:=(by injection bN);replace ah:=cm_ HB ah;have aG:=A_ au;have bF:=A_ av;clear au av;replace a7:=eq_true a7;replace a9:=eq_true a9;have U:=Option.some.inj (ae.symm.trans ah)
         injection U with U aB aF
         subst U;subst aF;clear aB
         have a8:0≤(ao:Int):=oa_
         have ba:ao<((f_ aa ab).length:Int):=oa_
         obtain⟨bV,bO,am⟩:=Kd.nM aG.o ao a8 ba
         cases bO
         replace am:=cm_ HB am;replace a8:=eq_true a8;replace ba:=eq_true ba
         have bz:0≤(ab:Int):=oa_
         have bC:ab<(aa.length:Int):=oa_
         obtain⟨bL,bX,b2,b6,ap,aM,aI⟩:=qM ar.o ab bz bC;obtain rfl:aC=bL:=(by injection b6);replace ap:=cm_ HB ap;have bf:=A_ aI;have bQ:=A_ aM;clear aI aM;replace bz:=eq_true bz;replace bC:=eq_true bC;have U:=Option.some.inj (ae.symm.trans ap)
         injection U with U aB aF
         subst U;subst aF;clear aB
         have bA:0≤(ao:Int):=oa_
         have bD:ao<((f_ aa ab).length:Int):=oa_
         obtain⟨cC,b7,ax⟩:=Kd.nM bf.o ao bA bD
         cases b7
         replace ax:=cm_ HB ax;replace bA:=eq_true bA;replace bD:=eq_true bD
         go_wp2
         repeat (go_quiet (fail);try go_wp2)
         go_ret
         exact⟨rf,wb_⟩
        have cF:decide ((aa.length:Int)≤(rd (f_ aa ab) ao))=false:=decide_eq_false c13
        clear c13
        have H':=A_ H
        clear H;have cO:=bq3 aj.o
        have aD:0≤(ab:Int):=oa_
        have aE:ab<(aa.length:Int):=oa_
        obtain⟨aY,bu,bv,bw,ae,al,ak⟩:=qM ar.o ab aD aE;obtain rfl:aC=aY:=(by injection bw);replace ae:=cm_ HB ae;have be:=A_ ak;have bc:=A_ al;clear ak al;replace aD:=eq_true aD;replace aE:=eq_true aE
        have a7:0≤(ab:Int):=oa_
        have a9:ab<(aa.length:Int):=oa_
        obtain⟨bh,bI,bM,bN,ah,av,au⟩:=qM ar.o ab a7 a9;obtain rfl:aC=bh:=(by injection bN);replace ah:=cm_ HB ah;have aG:=A_ au;have bF:=A_ av;clear au av;replace a7:=eq_true a7;replace a9:=eq_true a9;have U:=Option.some.inj (ae.symm.trans ah)
        injection U with U aB aF
        subst U;subst aF;clear aB
        have a8:0≤(ao:Int):=oa_
        have ba:ao<((f_ aa ab).length:Int):=oa_
        obtain⟨bV,bO,am⟩:=Kd.nM aG.o ao a8 ba
        cases bO
        replace am:=cm_ HB am;replace a8:=eq_true a8;replace ba:=eq_true ba
        have bz:0≤(ab:Int):=oa_
        have bC:ab<(aa.length:Int):=oa_
        obtain⟨bL,bX,b2,b6,ap,aM,aI⟩:=qM ar.o ab bz bC;obtain rfl:aC=bL:=(by injection b6);replace ap:=cm_ HB ap;have bf:=A_ aI;have bQ:=A_ aM;clear aI aM;replace bz:=eq_true bz;replace bC:=eq_true bC;have U:=Option.some.inj (ae.symm.trans ap)
        injection U with U aB aF
        subst U;subst aF;clear aB
        have bA:0≤(ao:Int):=oa_
        have bD:ao<((f_ aa ab).length:Int):=oa_
        obtain⟨cC,b7,ax⟩:=Kd.nM bf.o ao bA bD
        cases b7
        replace ax:=cm_ HB ax;replace bA:=eq_true bA;replace bD:=eq_true bD
        go_wp2
        repeat (go_quiet (fail);try go_wp2)
        go_roundg k2
        case measure=>have:=cw.o;have:=bY.o;omega
        case rel=>exact⟨(wrap64 (ao+1)),rf,H',⟨by have:=cw.o;have:=bY.o;omega⟩,⟨wk_⟩,⟨wb_⟩⟩
       have H':=A_ H
       clear H;have cP:=bq3 aj.o
       have aD:0≤(ab:Int):=oa_
       have aE:ab<(aa.length:Int):=oa_
       obtain⟨aY,bu,bv,bw,ae,al,ak⟩:=qM ar.o ab aD aE;obtain rfl:aC=aY:=(by injection bw);replace ae:=cm_ HB ae;have be:=A_ ak;have bc:=A_ al;clear ak al;replace aD:=eq_true aD;replace aE:=eq_true aE
       go_wp2
       repeat (go_quiet (fail);try go_wp2)
       go_roundg k2
       case measure=>have:=cw.o;have:=bY.o;omega
       case rel=>exact⟨(wrap64 (ab+1)),rf,H',⟨by have:=cw.o;have:=bY.o;omega⟩,aj,HB⟩
    have b3:(((f_ aa ab).length:Int)==ai)=false:=beq_eq_false_iff_ne.mpr c5
    have b4:(((f_ aa ab).length:Int) !=ai)=true:=bne_iff_ne.mpr c5
    obtain rfl:=Option.some.inj H;have cQ:=bq3 aj.o
    have bq:0≤(ab:Int):=oa_
    have br:ab<(aa.length:Int):=oa_
    obtain⟨aC,bW,b1,b5,aw,aJ,aH⟩:=qM ar.o ab bq br
    cases b5
    replace aw:=cm_ HB aw;have bR:=A_ aH;have bP:=A_ aJ;clear aH aJ;replace bq:=eq_true bq;replace br:=eq_true br
    go_wp2
    repeat (go_quiet (fail);try go_wp2)
    go_ret
    exact⟨rf,wb_⟩
   have H':=A_ H
   clear H;have bT:=bq3 aj.o
   go_wp2
   repeat (go_quiet (fail);try go_wp2)
   go_loopg [5] k1 (fun kq v5 w'=>∃ (aA:Int),v5=.int .i64 aA∧Aside0 (m_.l2 kq aA ai aa ag=some r)∧Aside0 (kq≤k1)∧Aside0 (w'.heap[bi]? =some (.cells #[.int .i64 ai,(.slice aX aa.length aU),(.slice aT ag.length aV)] 27 (0,0)))∧Aside0 (Below w.heap.size w w'))
   case atStart=>exact⟨(0),rf,H',⟨Nat.le_refl _⟩,aj,HB⟩
   case round=>
    clear H'
    clear bZ bT
    obtain⟨aA,rfl,HA,bY,aj,HB⟩:=hrel
    cases gk with
    |zero=>exact nz_ HA.o
    |succ k2=>
     have H:=HA.o;clear HA;simp only[m_.l2]at H
     replace H:=Hi_ H;rcases H with⟨cG,H⟩|⟨cG,H⟩
     ·replace ⟨dj,H⟩:=Hd_ H
      replace ⟨ch,aL,H⟩:=bA_ H
      replace H:=Hb_ H;rcases H with⟨rfl,H⟩|⟨rfl,H⟩
      ·have H':=A_ H
       clear H;have cS:=bq3 aj.o
       have bB:0≤(aA:Int):=oa_
       have bE:aA<(ag.length:Int):=oa_
       obtain⟨cD,b8,ay⟩:=Kd.nM bg.o aA bB bE
       cases b8
       replace ay:=cm_ HB ay;replace bB:=eq_true bB;replace bE:=eq_true bE
       go_wp2_with (first|(go_at_call 34;(with_reducible refine(nR.calls (rd ag aA) 0 3 true _ aL.o).mono ?_);rintro e w' ⟨rfl,⟨nd,rfl⟩⟩;skip))
       repeat (go_quiet (first|(go_at_call 34;(with_reducible refine(nR.calls (rd ag aA) 0 3 true _ aL.o).mono ?_);rintro e w' ⟨rfl,⟨nd,rfl⟩⟩;skip));try go_wp2_with (first|(go_at_call 34;(with_reducible refine(nR.calls (rd ag aA) 0 3 true _ aL.o).mono ?_);rintro e w' ⟨rfl,⟨nd,rfl⟩⟩;skip)))
       go_roundg k2
       case measure=>have:=cw.o;have:=bY.o;omega
       case rel=>exact⟨(wrap64 (aA+1)),rf,H',⟨by have:=cw.o;have:=bY.o;omega⟩,⟨wk_⟩,⟨wb_⟩⟩
      obtain rfl:=Option.some.inj H;have cU:=bq3 aj.o
      have bB:0≤(aA:Int):=oa_
      have bE:aA<(ag.length:Int):=oa_
      obtain⟨cD,b8,ay⟩:=Kd.nM bg.o aA bB bE
      cases b8
      replace ay:=cm_ HB ay;replace bB:=eq_true bB;replace bE:=eq_true bE
      go_wp2_with (first|(go_at_call 34;(with_reducible refine(nR.calls (rd ag aA) 0 3 false _ aL.o).mono ?_);rintro e w' ⟨rfl,⟨nd,rfl⟩⟩;skip))
      repeat (go_quiet (first|(go_at_call 34;(with_reducible refine(nR.calls (rd ag aA) 0 3 false _ aL.o).mono ?_);rintro e w' ⟨rfl,⟨nd,rfl⟩⟩;skip));try go_wp2_with (first|(go_at_call 34;(with_reducible refine(nR.calls (rd ag aA) 0 3 false _ aL.o).mono ?_);rintro e w' ⟨rfl,⟨nd,rfl⟩⟩;skip)))
      go_ret
      exact⟨rf,wb_⟩
     replace ⟨ci,aK,H⟩:=bA_ H
     replace H:=Hb_ H;rcases H with⟨rfl,H⟩|⟨rfl,H⟩
     ·replace ⟨ck,aO,H⟩:=bA_ H
      replace H:=Hb_ H;rcases H with⟨rfl,H⟩|⟨rfl,H⟩
      ·obtain rfl:=Option.some.inj H;have cV:=bq3 aj.o
       go_wp2_with (first|(go_at_call 34;(with_reducible refine(nR.calls ai 2 4 true _ aK.o).mono ?_);rintro e w' ⟨rfl,⟨nd,rfl⟩⟩;skip)|(go_at_call 34;(with_reducible refine(nR.calls (aa.length:Int) 1 16 true _ aO.o).mono ?_);rintro e w' ⟨rfl,⟨nd,rfl⟩⟩;skip))
       repeat (go_quiet (first|(go_at_call 34;(with_reducible refine(nR.calls ai 2 4 true _ aK.o).mono ?_);rintro e w' ⟨rfl,⟨nd,rfl⟩⟩;skip)|(go_at_call 34;(with_reducible refine(nR.calls (aa.length:Int) 1 16 true _ aO.o).mono ?_);rintro e w' ⟨rfl,⟨nd,rfl⟩⟩;skip));try go_wp2_with (first|(go_at_call 34;(with_reducible refine(nR.calls ai 2 4 true _ aK.o).mono ?_);rintro e w' ⟨rfl,⟨nd,rfl⟩⟩;skip)|(go_at_call 34;(with_reducible refine(nR.calls (aa.length:Int) 1 16 true _ aO.o).mono ?_);rintro e w' ⟨rfl,⟨nd,rfl⟩⟩;skip)))
       go_ret
       exact⟨rf,wb_⟩
      obtain rfl:=Option.some.inj H;have cW:=bq3 aj.o
      go_wp2_with (first|(go_at_call 34;(with_reducible refine(nR.calls ai 2 4 true _ aK.o).mono ?_);rintro e w' ⟨rfl,⟨nd,rfl⟩⟩;skip)|(go_at_call 34;(with_reducible refine(nR.calls (aa.length:Int) 1 16 false _ aO.o).mono ?_);rintro e w' ⟨rfl,⟨nd,rfl⟩⟩;skip))
      repeat (go_quiet (first|(go_at_call 34;(with_reducible refine(nR.calls ai 2 4 true _ aK.o).mono ?_);rintro e w' ⟨rfl,⟨nd,rfl⟩⟩;skip)|(go_at_call 34;(with_reducible refine(nR.calls (aa.length:Int) 1 16 false _ aO.o).mono ?_);rintro e w' ⟨rfl,⟨nd,rfl⟩⟩;skip));try go_wp2_with (first|(go_at_call 34;(with_reducible refine(nR.calls ai 2 4 true _ aK.o).mono ?_);rintro e w' ⟨rfl,⟨nd,rfl⟩⟩;skip)|(go_at_call 34;(with_reducible refine(nR.calls (aa.length:Int) 1 16 false _ aO.o).mono ?_);rintro e w' ⟨rfl,⟨nd,rfl⟩⟩;skip)))
      go_ret
      exact⟨rf,wb_⟩
     obtain rfl:=Option.some.inj H;have cX:=bq3 aj.o
     go_wp2_with (first|(go_at_call 34;(with_reducible refine(nR.calls ai 2 4 false _ aK.o).mono ?_);rintro e w' ⟨rfl,⟨nd,rfl⟩⟩;skip))
     repeat (go_quiet (first|(go_at_call 34;(with_reducible refine(nR.calls ai 2 4 false _ aK.o).mono ?_);rintro e w' ⟨rfl,⟨nd,rfl⟩⟩;skip));try go_wp2_with (first|(go_at_call 34;(with_reducible refine(nR.calls ai 2 4 false _ aK.o).mono ?_);rintro e w' ⟨rfl,⟨nd,rfl⟩⟩;skip)))
     go_ret
     exact⟨rf,wb_⟩
def sH.f (k:Nat) (ai:Int) (aa:List (List Int)) (ag:List Int):Option (Bool):=(m_.f k ai aa ag).bind fun co=>(if co=true then(if 0<(aa.length:Int)then(if 0<((f_ aa 0).length:Int)then(some ((rd (f_ aa 0) 0)==0))else(none))else(none))else(some false))
theorem sH.calls (k:Nat) (ai:Int) (aX:Option Addr) (aU:Nat) (aa:List (List Int)) (aT:Option Addr) (aV:Nat) (ag:List Int) (r:Bool) (w:World) (bm:Kd.C (Kd.slice 3 (Kd.int .i64)) w aX aa.length aa) (bj:aa.length≤aU) (bn:Kd.C (Kd.int .i64) w aT ag.length ag) (bk:ag.length≤aV) (h:sH.f k ai aa ag=some r):
  Calls Try.prog 70 #[.agg #[.int .i64 ai,.slice aX aa.length aU,.slice aT ag.length aV]] w fun e w'=>e=.returned (.bool r)∧Below w.heap.size w w':=by
 have aP:=Try.underlying27;have ar:=A_ bm;have bJ:=A_ bj;clear bm bj;have bg:=A_ bn;have bK:=A_ bk;clear bn bk;have HB:=A_ (Below.refl w.heap.size w);unfold sH.f at h;have H:=h;clear h;replace ⟨co,A2,H⟩:=bA_ H
 replace H:=Hb_ H;rcases H with⟨rfl,H⟩|⟨rfl,H⟩
 ·replace ⟨c4,H⟩:=Hp_ H
  have cH:=decide_eq_true c4
  have dk:decide (0<aa.length)=true:=decide_eq_true om
  clear c4
  replace ⟨c5,H⟩:=Hp_ H
  have b3:=decide_eq_true c5
  have b4:decide (0<(f_ aa 0).length)=true:=decide_eq_true om
  clear c5;obtain rfl:=Option.some.inj H;go_enter Try.func70,Try.ntmps70
  go_wp2_with (first|((with_reducible refine gt_ 1 ?_);refine be_ 1 #[.int .i64 ai,.slice aX aa.length aU,.slice aT ag.length aV] 27 ?_;intro cI hg w6 J hb;have aW:=A_ (J);have cB:=lh_ HB hg;have cA:=lh_ HB hg;replace HB:=bs_ HB hb;clear hb J hg;have de:=bq3 aW.o)|((with_reducible refine gc_ 33 rfl ?_);refine cM_ E33 4 (m_.calls k ai _ _ aa _ _ ag true _ (Kd.mO ar.o HB.o) bJ.o (Kd.mO bg.o HB.o) bK.o A2.o) ?_;rintro e w8 ⟨rfl,hb⟩;refine⟨_,rfl,?_⟩;replace aW:=bb_ aW hb;replace HB:=bs_ HB hb;clear hb;have df:=bq3 aW.o;have cc:0≤(0:Int):=om;have cf:0<(aa.length:Int):=oa_;obtain⟨dg,cY,cZ,db,aN,bH,bG⟩:=qM ar.o 0 cc cf;cases db;have aR:(0<aa.length)=True:=eq_true om;(try rw[show((0:Int)).toNat=0 from rfl]at aN);(try rw[Addr.add_zero']at aN);replace aN:=cm_ HB aN;have bS:=A_ bG;have cJ:=A_ bH;clear bG bH;replace cc:=eq_true cc;replace cf:=eq_true cf;have cd:0≤(0:Int):=om;have cg:0<((f_ aa 0).length:Int):=oa_;obtain⟨dh,dd,aQ⟩:=Kd.nM bS.o 0 cd cg;cases dd;have aS:(0<(f_ aa 0).length)=True:=eq_true om;(try rw[show((0:Int)).toNat=0 from rfl]at aQ);(try rw[Addr.add_zero']at aQ);replace aQ:=cm_ HB aQ;replace cd:=eq_true cd;replace cg:=eq_true cg))
  go_ret
  exact⟨rf,HB.o⟩
 obtain rfl:=Option.some.inj H;go_enter Try.func70,Try.ntmps70
 go_wp2_with (first|((with_reducible refine gt_ 1 ?_);refine be_ 1 #[.int .i64 ai,.slice aX aa.length aU,.slice aT ag.length aV] 27 ?_;intro cI hg aZ J hb;have aW:=A_ (J);have cB:=lh_ HB hg;have cA:=lh_ HB hg;replace HB:=bs_ HB hb;clear hb J hg;have cK:=bq3 aW.o)|((with_reducible refine gc_ 33 rfl ?_);refine cM_ E33 4 (m_.calls k ai _ _ aa _ _ ag false _ (Kd.mO ar.o HB.o) bJ.o (Kd.mO bg.o HB.o) bK.o A2.o) ?_;rintro e a_ ⟨rfl,hb⟩;refine⟨_,rfl,?_⟩;replace aW:=bb_ aW hb;replace HB:=bs_ HB hb;clear hb;(try clear hi)))
 go_ret
 exact⟨rf,HB.o⟩
def oC.l0:Nat→Int→Int→List (List Int)→List Int→Int→List (List Int)→List Int→Option (Int×(List (List Int))×List Int)
 |0,_,_,_,_,_,_,_=>none
 |k+1,x4,bB,aE,bC,bf,aQ,bg=>if x4<(aE.length:Int)then((some (([]:List Int):List Int)).bind fun a7=>(if 0≤x4 then(if a7.length+(f_ aE x4).length<17592186044416 then(if aQ.length<5864062014805 then(oC.l0 k (wrap64 (x4+1)) bB aE bC bf (aQ++[(a7++(f_ aE x4))]) bg)else(none))else(none))else(none)))else(some (bf,aQ,bg))
def oC.f (k:Nat) (aq:Int) (ar:List (List Int)) (ap:List Int):Option (Int×(List (List Int))×List Int):=(some (([]:List Int):List Int)).bind fun aI=>(if aI.length+ap.length<17592186044416 then(oC.l0 k 0 aq ar ap aq ([]:List (List Int)) (aI++ap))else(none))
def oC.T1:Bool×List (List Nat×List Nat):=(true,[([],[]),([0],[0]),([],[]),([],[]),([3],[3]),([2,4],[2,4]),([1,5],[1,5]),([],[]),([7,6,5,0,1,2,3,4,5,6,7],[6,7])])
def oC.B1:List Nat:=[0,1,0,0,8,28,63,0,255]
theorem oC.LG:uf .any (opsOf Try.f71 1)=oC.T1:=K_
theorem oC.Gy:rV oC.T1.2 oC.B1=true:=K_
def oC.T5:Bool×List (List Nat×List Nat):=(true,[([],[]),([0],[0]),([],[]),([],[]),([3],[3]),([],[]),([4,5],[4,5]),([6],[6]),([2,7],[2,7]),([8],[8]),([1,9,8],[1,9]),([0,1,2,3,4,5,6,7,8,9,10],[]),([11,10,10,0,1,2,3,4,5,6,7,8,9,10],[10,11])])
def oC.B5:List Nat:=[0,1,0,0,8,0,56,120,252,508,1023,2047,4095]
theorem oC.Em:uf .any (opsOf Try.f71 5)=oC.T5:=K_
theorem oC.zx:rV oC.T5.2 oC.B5=true:=K_
theorem oC.calls (k:Nat) (aq:Int) (a8:Option Addr) (aV:Nat) (ar:List (List Int)) (aT:Option Addr) (aW:Nat) (ap:List Int) (r1:Int) (r2:List (List Int)) (r3:List Int) (w:World) (bI:Kd.C (Kd.slice 3 (Kd.int .i64)) w a8 ar.length ar) (bG:ar.length≤aV) (bJ:Kd.C (Kd.int .i64) w aT ap.length ap) (bH:ap.length≤aW) (h:oC.f k aq ar ap=some (r1,r2,r3)):
  Calls Try.prog 71 #[.agg #[.int .i64 aq,.slice a8 ar.length aV,.slice aT ap.length aW]] w fun e w'=>∃dV dG:Value,e=.returned (.agg #[.int .i64 r1,dV,dG])∧Kd.S (Kd.slice 3 (Kd.int .i64)) 25 w' w.heap.size (o1 dG) dV r2∧Kd.R (Kd.int .i64) 3 w' w.heap.size (fun _=>True) dG r3∧Below w.heap.size w w':=by
 have ed:=Try.underlying27;have bX:=A_ bI;have cC:=A_ bG;clear bI bG;have bj:=A_ bJ;have cD:=A_ bH;clear bJ bH;have HB:=A_ (Below.refl w.heap.size w);unfold oC.f at h;have H:=h;clear h;replace ⟨aI,bE,H⟩:=Hs_ H
 replace ⟨bN,H⟩:=Ha_ H
 obtain⟨az,br⟩:=ex_ ((aI++ap):List Int);rw[←br]at H;have bk:=A_ br;clear br
 have H':=A_ H
 clear H;go_enter Try.func71,Try.ntmps71
 try go_wp2_with (first|((with_reducible refine gt_ 1 ?_);refine be_ 1 #[.int .i64 aq,.slice a8 ar.length aV,.slice aT ap.length aW] 27 ?_;intro ax hg w3 J hb;have aa:=A_ (J);have cA:=lh_ HB hg;have bh:=lh_ HB hg;replace HB:=bs_ HB hb;clear hb J hg)|((with_reducible refine gt_ 2 ?_);refine be_ 2 #[.int .i64 0,.slice none 0 0,.slice none 0 0] 27 ?_;intro aX hg w4 J hb;have af:=A_ (J);have cB:=lh_ HB hg;have bi:=lh_ HB hg;replace HB:=bs_ HB hb;have aM:=nl_ aa hg;have aN:=ng_ aa hg;replace aa:=bb_ aa hb;clear hb J hg))
 replace aa:=A_ (nQ aa.o);replace af:=A_ (nQ af.o);replace HB:=A_ (oG HB.o);refine rM (n:=9) (S:=fun w'=>cB3 ax (.int .i64 aq) (.slice a8 ar.length aV) (.slice aT ap.length aW) w') (ds:=[]) (mk_ 9 0) K_ rfl rfl (bc3 aa) (fun ak=>?_);refine ru oC.LG oC.Gy (fun aA bV=>?_)
 generalize w4.drew=w5 at aa af HB ak⊢
 refine pw_ 0 5 (mk_ 9 1) aA ?_;refine pw_ 3 8 (mk_ 9 9) aA ?_;refine tk_ 1 6 (mk_ 9 11) aA bV ak ?_;refine tk_ 4 9 (mk_ 9 27) aA bV ak ?_;refine Cx (σ:=Value×Value×Nat) 1 (mk_ 9 255) (fun s_=>[(7,s_.1),(10,s_.2.1),(3,.pointer (some ⟨s_.2.2,0,none⟩)),(11,.agg #[.int .i64 aq,.slice none 0 0,s_.2.1])]) (fun s_ w'=>(cB3 ax (.int .i64 aq) (.slice a8 ar.length aV) (.slice aT ap.length aW) w')∧(Kd.R (Kd.int .i64) 3 w' w.heap.size (fun _=>True) s_.2.1 az)∧(w'.heap[ax]? =some (.cells #[.int .i64 aq,.slice a8 ar.length aV,.slice aT ap.length aW] 27 (0,0)))∧(w'.heap[aX]? =some (.cells #[.int .i64 0,.slice none 0 0,.slice none 0 0] 27 (0,0)))∧(w'.heap[s_.2.2]? =some (.cells #[.int .i64 0,.slice none 0 0,.slice none 0 0] 27 (0,0)))∧(w.heap.size≤s_.2.2)∧(w.heap.size≤s_.2.2)∧(ax≠s_.2.2)∧(s_.2.2≠ax)∧(aX≠s_.2.2)∧(s_.2.2≠aX)∧(Below w.heap.size w w')) ?_ ?_;rotate_left
 ·intro a_;refine F6 (i:=2) (j:=7) (Ni:=some 7) (Nj:=some 3) (mk_ 9 31) (mk_ 9 155) rfl rfl rfl rfl (Ap aA.o K_) d_ d_ (fun K hK=>?_) (fun K hK=>?_)
  ·skip
   refine Kd.tO (Kd.int .i64) _ 3 ?hg (N:=7) ?hd (xs:=([]:List Int)) (inner:=[]) (ok:=fun _=>True) (okp:=fun _=>True) ?hr ?hp (fun _ hk=>hk) trivial (Below.refl _ _) (Nat.le_refl _) sp ?_;(case hd|hg=>rfl);(case hr=>go_simp;done);(case hp=>exact(qK.none _ _));intro aY w6 dH hb cu U;clear cu U
   (rw[←bE.o]at dH)
   have au:=A_ (Kd.nE dH (mK HB.o));replace aa:=bb_ aa hb;replace af:=bb_ af hb;replace HB:=bs_ HB hb;clear hb dH;refine hK.out _ _ (bc3 aa) (fun ak=>?_);clear hK K;refine nm_ 7 ?_;refine F6 (i:=5) (j:=7) (Ni:=some 10) (Nj:=some 3) (mk_ 9 63) (mk_ 9 159) rfl rfl rfl rfl (Ap aA.o K_) d_ d_ (fun K hK=>?_) (fun K hK=>?_)
   ·skip
    refine Kd.oU (Kd.int .i64) (w0:=w) w.heap.size rf (.tmp 7) (.tmp 9) 25 3 (.int .i64 0) 8 rfl Try.underlying25 info3 rfl d_ om aY aI ap _ _ _ (fun _=>True) (fun _=>False) rfl rfl ?aO ?aR (fun _ _ h=>h) (fun _ h=>h.elim) ?aF ?aB ?aS ?aL ?_
    (case aR=>exact(Kd.mO bj.o HB.o))
    (case aB=>exact HB.o)
    (case aF=>exact(fun _ _=>trivial))
    (case aO=>exact au.o)
    (case aS=>exact(mK HB.o))
    (case aL=>have:=bN.o;omega)
    intro bU w8 ho hb hg hat;rw[←bk.o]at ho;replace aa:=gR_ au aa hg;replace af:=gR_ au af hg;replace HB:=A_ (hb);have aw:=A_ (ho);clear au ho hb hg hat;obtain⟨cU,cV,cG⟩:=Kd.mU aw.o
    (first|subst cG|(injection cG with aK bq aZ;have bu:=aK.symm;have b_:=aZ.symm;clear aK bq aZ;subst bu;subst b_))
    refine hK.out _ _ (bc3 aa) (fun ak=>?_);clear hK K;refine nm_ 10 ?_;refine pw_ 6 11 (mk_ 9 127) aA ?_;refine ow_ 7 (mk_ 9 255) aA (fun K hK=>?_);refine uh rfl (N:=3) rfl (cs:= #[.int .i64 0,.slice none 0 0,.slice none 0 0]) (t:=27) (by go_simp;done) ?_;intro an hg eH J hb;replace aw:=A_ (Kd.nX aw.o hb);have ae:=A_ (J);have aJ:=lh_ HB hg;have aC:=lh_ HB hg;replace HB:=bs_ HB hb;have ab:=nl_ aa hg;have aj:=ng_ aa hg;replace aa:=bb_ aa hb;have ah:=nl_ af hg;have al:=ng_ af hg;replace af:=bb_ af hb;clear hb J hg;refine hK.out _ _ (bc3 aa) (fun ak=>?_);clear hK K;refine nm_ 3 ?_;exact vg (by simp only[rG,Act.put,mD,mE,mF]) (a_ (aY,.slice cU az.length cV,an) _ ⟨ak,aw.o,aa.o,af.o,ae.o,aJ.o,aC.o,ab.o,aj.o,ah.o,al.o,HB.o⟩)
   skip
   refine uh rfl (N:=3) rfl (cs:= #[.int .i64 0,.slice none 0 0,.slice none 0 0]) (t:=27) (by go_simp;done) ?_;intro an hg w8 J hb;replace au:=A_ (Kd.nX au.o hb);have ae:=A_ (J);have aJ:=lh_ HB hg;have aC:=lh_ HB hg;replace HB:=bs_ HB hb;have ab:=nl_ aa hg;have aj:=ng_ aa hg;replace aa:=bb_ aa hb;have ah:=nl_ af hg;have al:=ng_ af hg;replace af:=bb_ af hb;clear hb J hg;refine hK.out _ _ (bc3 aa) (fun ak=>?_);clear hK K;refine nm_ 3 ?_;refine ow_ 5 (mk_ 9 191) aA (fun K hK=>?_);refine Kd.oU (Kd.int .i64) (w0:=w) w.heap.size rf (.tmp 7) (.tmp 9) 25 3 (.int .i64 0) 8 rfl Try.underlying25 info3 rfl d_ om aY aI ap _ _ _ (fun _=>True) (fun _=>False) rfl rfl ?aO ?aR (fun _ _ h=>h) (fun _ h=>h.elim) ?aF ?aB ?aS ?aL ?_
   (case aR=>exact(Kd.mO bj.o HB.o))
   (case aB=>exact HB.o)
   (case aF=>exact(fun _ _=>trivial))
   (case aO=>exact au.o)
   (case aS=>exact(mK HB.o))
   (case aL=>have:=bN.o;omega)
   intro bU w9 ho hb hg hat;rw[←bk.o]at ho;replace aa:=gR_ au aa hg;replace af:=gR_ au af hg;replace ae:=gR_ au ae hg;replace HB:=A_ (hb);have aw:=A_ (ho);clear au ho hb hg hat;obtain⟨bL,bP,bm⟩:=Kd.mU aw.o
   (first|subst bm|(injection bm with aK bq aZ;have bu:=aK.symm;have b_:=aZ.symm;clear aK bq aZ;subst bu;subst b_))
   refine hK.out _ _ (bc3 aa) (fun ak=>?_);clear hK K;refine nm_ 10 ?_;refine pw_ 6 11 (mk_ 9 255) aA ?_;exact vg (by simp only[rG,Act.put,mD,mE,mF]) (a_ (aY,.slice bL az.length bP,an) _ ⟨ak,aw.o,aa.o,af.o,ae.o,aJ.o,aC.o,ab.o,aj.o,ah.o,al.o,HB.o⟩)
  skip
  refine uh rfl (N:=3) rfl (cs:= #[.int .i64 0,.slice none 0 0,.slice none 0 0]) (t:=27) (by go_simp;done) ?_;intro an hg w6 J hb;have ae:=A_ (J);have aJ:=lh_ HB hg;have aC:=lh_ HB hg;replace HB:=bs_ HB hb;have ab:=nl_ aa hg;have aj:=ng_ aa hg;replace aa:=bb_ aa hb;have ah:=nl_ af hg;have al:=ng_ af hg;replace af:=bb_ af hb;clear hb J hg;refine hK.out _ _ (bc3 aa) (fun ak=>?_);clear hK K;refine nm_ 3 ?_;refine ow_ 2 (mk_ 9 159) aA (fun K hK=>?_);refine Kd.tO (Kd.int .i64) _ 3 ?hg (N:=7) ?hd (xs:=([]:List Int)) (inner:=[]) (ok:=fun _=>True) (okp:=fun _=>True) ?hr ?hp (fun _ hk=>hk) trivial (Below.refl _ _) (Nat.le_refl _) sp ?_;(case hd|hg=>rfl);(case hr=>go_simp;done);(case hp=>exact(qK.none _ _));intro aY w7 dI hb cu U;clear cu U
  (rw[←bE.o]at dI)
  have au:=A_ (Kd.nE dI (mK HB.o));replace aa:=bb_ aa hb;replace af:=bb_ af hb;replace ae:=bb_ ae hb;replace HB:=bs_ HB hb;clear hb dI;refine hK.out _ _ (bc3 aa) (fun ak=>?_);clear hK K;refine nm_ 7 ?_;refine ow_ 5 (mk_ 9 191) aA (fun K hK=>?_);refine Kd.oU (Kd.int .i64) (w0:=w) w.heap.size rf (.tmp 7) (.tmp 9) 25 3 (.int .i64 0) 8 rfl Try.underlying25 info3 rfl d_ om aY aI ap _ _ _ (fun _=>True) (fun _=>False) rfl rfl ?aO ?aR (fun _ _ h=>h) (fun _ h=>h.elim) ?aF ?aB ?aS ?aL ?_
  (case aR=>exact(Kd.mO bj.o HB.o))
  (case aB=>exact HB.o)
  (case aF=>exact(fun _ _=>trivial))
  (case aO=>exact au.o)
  (case aS=>exact(mK HB.o))
  (case aL=>have:=bN.o;omega)
  intro bU w9 ho hb hg hat;rw[←bk.o]at ho;replace aa:=gR_ au aa hg;replace af:=gR_ au af hg;replace ae:=gR_ au ae hg;replace HB:=A_ (hb);have aw:=A_ (ho);clear au ho hb hg hat;obtain⟨bL,bP,bm⟩:=Kd.mU aw.o
  (first|subst bm|(injection bm with aK bq aZ;have bu:=aK.symm;have b_:=aZ.symm;clear aK bq aZ;subst bu;subst b_))
  refine hK.out _ _ (bc3 aa) (fun ak=>?_);clear hK K;refine nm_ 10 ?_;refine pw_ 6 11 (mk_ 9 255) aA ?_;exact vg (by simp only[rG,Act.put,mD,mE,mF]) (a_ (aY,.slice bL az.length bP,an) _ ⟨ak,aw.o,aa.o,af.o,ae.o,aJ.o,aC.o,ab.o,aj.o,ah.o,al.o,HB.o⟩)
 rintro⟨aY,bU,an⟩ dJ ⟨ak,dK,dL,dM,dN,dO,dP,dQ,dR,dS,dU,bR⟩
 clear aa af HB;try dsimp only at ak dK dL dM dN dO dP dQ dR dS dU bR
 have aw:=A_ dK;have aa:=A_ dL;have af:=A_ dM;have ae:=A_ dN;have aJ:=A_ dO;have aC:=A_ dP;have ab:=A_ dQ;have aj:=A_ dR;have ah:=A_ dS;have al:=A_ dU;have HB:=A_ bR;clear dK dL dM dN dO dP dQ dR dS dU bR
 obtain⟨aG,aH,b6⟩:=Kd.mU aw.o
 (first|subst b6|(injection b6 with aK bq aZ;have bu:=aK.symm;have b_:=aZ.symm;clear aK bq aZ;subst bu;subst b_))
 refine vg (by simp only[rG,Act.put,mD,mE,mF];rfl) ?_
 refine ow_ 8 (mk_ 9 511) aA (fun K hK=>?_)
 have ek:dJ.cell? ⟨an,0,none⟩=some (.int .i64 0):=bz0 ae.o
 have dW:=nY ae.o 0;have cz:=ab.o;have cZ:=ah.o;have df:=aj.o;have dh:=al.o
 have eu:dJ.cell? ⟨an,1,none⟩=some (.slice none 0 0):=bz1 ae.o
 have dX:=nY ae.o 1;have di:=ab.o;have dm:=ah.o;have dn:=aj.o;have dw:=al.o
 have eB:dJ.cell? ⟨an,2,none⟩=some (.slice none 0 0):=bz2 ae.o
 have dY:=nY ae.o 2;have dx:=ab.o;have dz:=ah.o;have dA:=aj.o;have dB:=al.o;refine uI (w1:=?_) rf rfl ?_ ?_;rotate_left
 ·go_simp
  rfl
 refine hK.out _ _ ⟨((cf_ ab).trans (((cf_ ab).trans (((cf_ ab).trans (ak.1)))))),((cf_ ab).trans (((cf_ ab).trans (((cf_ ab).trans (ak.2.1)))))),((cf_ ab).trans (((cf_ ab).trans (((cf_ ab).trans (ak.2.2))))))⟩ (fun ak=>?_);clear hK K;refine sZ (sP aA.o K_) ?_
 try go_wp2
 go_loopg [4] k (fun kq v4 w'=>∃ (ay:Int) (am:List (List Int)) (av:Value),v4=.int .i64 ay∧Aside0 (oC.l0 kq ay aq ar ap aq am az=some (r1,r2,r3))∧Aside0 (kq≤k)∧Aside0 (Kd.S (Kd.slice 3 (Kd.int .i64)) 25 w' w.heap.size (o1 (.slice aG az.length aH)) av am)∧Aside0 (Kd.R (Kd.int .i64) 3 w' w.heap.size (fun _=>True) (.slice aG az.length aH) az)∧Aside0 (w'.heap[ax]? =some (.cells #[.int .i64 aq,(.slice a8 ar.length aV),(.slice aT ap.length aW)] 27 (0,0)))∧Aside0 (w'.heap[aX]? =some (.cells #[.int .i64 0,(.slice none 0 0),(.slice none 0 0)] 27 (0,0)))∧Aside0 (w'.heap[an]? =some (.cells #[.int .i64 aq,av,(.slice aG az.length aH)] 27 (0,0)))∧Aside0 (Below w.heap.size w w'))
 case atStart=>exact⟨(0),(([]:List (List Int))),(.slice none 0 0),rf,H',⟨Nat.le_refl _⟩,⟨by exact Kd.za _ _ _ _ _⟩,⟨by exact Kd.mM (xe (tR_ aw ae)) (fun _ hk=>trivial)⟩,⟨by exact fa_ ab (fa_ ab (fa_ ab aa.o))⟩,⟨by exact fa_ ah (fa_ ah (fa_ ah af.o))⟩,⟨by exact pu_ 2 (pu_ 1 (pu_ 0 ae.o rfl) rfl) rfl⟩,⟨wb_⟩⟩
 case round=>
  clear H';obtain⟨ay,am,av,rfl,HA,cE,ag,ai,aa,af,ae,HB⟩:=hrel
  cases gk with
  |zero=>exact nz_ HA.o
  |succ k1=>
   have H:=HA.o;clear HA;simp only[oC.l0]at H
   replace H:=Hi_ H;rcases H with⟨b4,H⟩|⟨b4,H⟩
   ·replace ⟨a7,b1,H⟩:=Hs_ H
    replace ⟨cF,H⟩:=Hd_ H
    replace ⟨bY,H⟩:=Ha_ H
    obtain⟨bz,bv⟩:=ex_ ((a7++(f_ ar ay)):List Int);rw[←bv]at H;have b2:=A_ bv;clear bv
    replace ⟨bZ,H⟩:=Ha_ H
    obtain⟨bA,bw⟩:=ex_ ((am++[bz]):List (List Int));rw[←bw]at H;have b3:=A_ bw;clear bw
    have H':=A_ H
    clear H;have cH:=aM.o;have cN:=aN.o;have cI:=ab.o;have cO:=aj.o;have cc:=bq3 aa.o
    try go_wp2
    replace ag:=A_ (Kd.vK ag.o);replace ai:=A_ (Kd.pR ai.o);replace aa:=A_ (nQ aa.o);replace af:=A_ (nQ af.o);replace ae:=A_ (nQ ae.o);replace HB:=A_ (oG HB.o)
    have bS:0≤(ay:Int):=oa_
    have bT:ay<(ar.length:Int):=oa_
    obtain⟨bF,bK,bO,ck,aD,be,bc⟩:=qM bX.o ay bS bT;have ao:=aD
    cases ck
    replace aD:=cm_ HB aD;have ba:=A_ bc;have b9:=A_ be;clear bc be;replace bS:=eq_true bS;replace bT:=eq_true bT;refine rM (n:=13) (S:=fun w'=>cA3 an (.int .i64 aq) (av) (.slice aG az.length aH) w' (cA3 ax (.int .i64 aq) (.slice (some bF) ar.length aV) (.slice aT ap.length aW) w' (w'.cell? (bF.add (ay).toNat)=some (.slice bK (f_ ar ay).length bO)))) (ds:=[12]) (mk_ 13 0) K_ rfl rfl ⟨bz0 ae.o,bz1 ae.o,bz2 ae.o,bz0 aa.o,bz1 aa.o,bz2 aa.o,((HB.o.cell (World.block_lt_of_cell? w _ ao)).trans ao)⟩ (fun ak=>?_);refine ru oC.Em oC.zx (fun aA bV=>?_)
    generalize wr.drew=eO at ag ai aa af ae HB ba aD ak⊢
    refine pw_ 0 19 (mk_ 13 1) aA ?_;refine pw_ 3 22 (mk_ 13 9) aA ?_;refine pw_ 5 24 (mk_ 13 41) aA ?_;refine tk_ 1 20 (mk_ 13 43) aA bV ak ?_;refine tk_ 4 23 (mk_ 13 59) aA bV ak ?_;refine pw_ 6 25 (mk_ 13 123) aA ?_;refine tk_ 7 26 (mk_ 13 251) aA bV ak ?_;refine ow_ 2 (mk_ 13 255) aA (fun K hK=>?_);refine Kd.tO (Kd.int .i64) _ 3 ?hg (N:=21) ?hd (xs:=([]:List Int)) (inner:=[]) (ok:=fun _=>True) (okp:=fun _=>True) ?hr ?hp (fun _ hk=>hk) trivial (Below.refl _ _) (Nat.le_refl _) sp ?_;(case hd|hg=>rfl);(case hr=>go_simp;done);(case hp=>exact(qK.none _ _));intro cw eP bn hb cu U;clear cu U
    (rw[←b1.o]at bn)
    replace ag:=A_ (Kd.rz ag.o (Kd.nW bn) hb);have aU:=A_ (Kd.nE (Kd.qF bn (Kd.oV ai.o)) (mK HB.o));replace ai:=A_ (Kd.oz ai.o (Kd.nW bn) hb);replace aa:=bb_ aa hb;replace af:=bb_ af hb;replace ae:=bb_ ae hb;replace HB:=bs_ HB hb;clear hb bn;refine hK.out _ _ ⟨bz0 ae.o,bz1 ae.o,bz2 ae.o,bz0 aa.o,bz1 aa.o,bz2 aa.o,((HB.o.cell (World.block_lt_of_cell? w _ ao)).trans ao)⟩ (fun ak=>?_);clear hK K;refine nm_ 21 ?_;refine ow_ 8 (mk_ 13 511) aA (fun K hK=>?_);refine Kd.oU (Kd.int .i64) (w0:=w) w.heap.size rf (.tmp 21) (.tmp 26) 25 3 (.int .i64 0) 8 rfl Try.underlying25 info3 rfl d_ om cw a7 (f_ ar ay) _ _ _ (o1 (.slice aG az.length aH)) (fun _=>False) rfl rfl ?aO ?aR (fun _ _ h=>h) (fun _ h=>h.elim) ?aF ?aB ?aS ?aL ?_
    (case aR=>exact(Kd.mO ba.o HB.o))
    (case aB=>exact HB.o)
    (case aF=>exact(fun k_ hk=>Kd.fresh' (Kd.oV ai.o) k_ hk))
    (case aO=>exact(by exact Kd.mM aU.o (fun _ hk=>hk.2)))
    (case aS=>exact(mK HB.o))
    (case aL=>have:=bY.o;omega)
    intro cW eQ ho hb hg hat;rw[←b2.o]at ho;replace ag:=A_ (Kd.sF (ok:=(o1 (.slice aG az.length aH))) ag.o hg hat);replace ai:=A_ (Kd.pq (ok:=(fun _=>True)) ai.o hg hat);replace aa:=gR_ aU aa hg;replace af:=gR_ aU af hg;replace ae:=gR_ aU ae hg;replace HB:=A_ (hb);have a9:=A_ (ho);clear aU ho hb hg hat;obtain⟨bW,b5,b7⟩:=Kd.mU a9.o
    (first|subst b7|(injection b7 with aK bq aZ;have bu:=aK.symm;have b_:=aZ.symm;clear aK bq aZ;subst bu;subst b_))
    refine hK.out _ _ ⟨bz0 ae.o,bz1 ae.o,bz2 ae.o,bz0 aa.o,bz1 aa.o,bz2 aa.o,((HB.o.cell (World.block_lt_of_cell? w _ ao)).trans ao)⟩ (fun ak=>?_);clear hK K;refine nm_ 27 ?_;refine ow_ 9 (mk_ 13 1023) aA (fun K hK=>?_);refine yn (w1:=?_) (v:=?_) rf rfl ?_ ?_;rotate_left 2
    ·go_simp
     constructor
     ·rfl
     rfl
    refine hK.out _ _ ⟨(pU (nP ae.o _) 0).trans rfl,(pU (nP ae.o _) 1).trans rfl,(pU (nP ae.o _) 2).trans rfl,(pU (nP aa.o _) 0).trans rfl,(pU (nP aa.o _) 1).trans rfl,(pU (nP aa.o _) 2).trans rfl,(World.cell?_alloc_lt _ _ _ (World.block_lt_of_cell? _ _ (((HB.o.cell (World.block_lt_of_cell? w _ ao)).trans ao)))).trans (((HB.o.cell (World.block_lt_of_cell? w _ ao)).trans ao))⟩ (fun ak=>?_);clear hK K;refine nm_ 28 ?_;refine ow_ 10 (mk_ 13 2047) aA (fun K hK=>?_);refine Kd.yz (Kd.slice 3 (Kd.int .i64)) (w0:=w) w.heap.size rf (.tmp 20) (.tmp 28) 24 25 (.slice none 0 0) 24 rfl Try.underlying24 uO rfl d_ om av am bz [.slice bW bz.length b5] (o1 (.slice aG az.length aH)) (fun k_=>some k_=(.slice bW bz.length b5:Value).ownBlock) rfl rfl ?aP (fun k_ eD=>((Kd.mM (ok':=fun k_=>((o1 (.slice aG az.length aH))) k_∧some k_≠(av:Value).ownBlock) (Kd.pE (a9.o) (Kd.oL ag.o) d_) (fun k_ hk=>⟨hk.1,hk.2⟩))).1 k_ eD.symm) ?aF ?aO ?aB ?aS ?aL ?_
    (case aP=>exact Kd.uR (Kd.mM (Kd.sD rfl (Kd.mM (ok':=fun k_=>((o1 (.slice aG az.length aH))) k_∧some k_≠(av:Value).ownBlock) (Kd.pE (a9.o) (Kd.oL ag.o) d_) (fun k_ hk=>⟨hk.1,hk.2⟩))) (fun _ h_=>h_)))
    (case aB=>exact HB.o)
    (case aF=>exact(fun k_ hk=>Kd.fresh' (Kd.oV ai.o) k_ hk))
    (case aO=>exact(by exact Kd.nV ag.o (fun k_ hk=>⟨hk.1,fun e_=>hk.2 e_⟩)))
    (case aS=>exact(mK HB.o))
    (case aL=>have:=bZ.o;omega)
    intro cX eF ho hb hg hat;rw[←b3.o]at ho;replace ai:=A_ (Kd.qH ai.o (Kd.oL ag.o) d_ hg);replace aa:=gS_ ag aa hg;replace af:=gS_ ag af hg;replace ae:=gS_ ag ae hg;replace HB:=A_ (hb);have bD:=A_ (ho);clear ag a9 ho hb hg hat;obtain⟨bM,bQ,b8⟩:=Kd.rO bD.o
    (first|subst b8|(injection b8 with aK bq aZ;have bu:=aK.symm;have b_:=aZ.symm;clear aK bq aZ;subst bu;subst b_))
    refine hK.out _ _ ⟨bz0 ae.o,bz1 ae.o,bz2 ae.o,bz0 aa.o,bz1 aa.o,bz2 aa.o,((HB.o.cell (World.block_lt_of_cell? w _ ao)).trans ao)⟩ (fun ak=>?_);clear hK K;refine nm_ 29 ?_;refine pw_ 11 30 (mk_ 13 4095) aA ?_;refine vI (i:=12) (N:=none) (mk_ 13 8191) rfl rfl (xJ aA.o K_) d_ (fun K hK=>?_)
    have eG:eF.cell? ⟨an,1,none⟩=some (av):=bz1 ae.o
    have dZ:=nY ae.o 1;have dC:=ab.o;have dD:=ah.o;have dE:=aj.o;have dF:=al.o;refine uI (w1:=?_) rf rfl ?_ ?_;rotate_left
    ·go_simp
     rfl
    refine hK.out _ _ ?_;clear hK K;refine sZ (sP aA.o K_) ?_
    try go_wp2
    go_roundg k1
    case measure=>have:=cE.o;omega
    case rel=>exact⟨(wrap64 (ay+1)),(bA),(.slice bM bA.length bQ),rf,H',⟨by have:=cE.o;omega⟩,⟨by exact Kd.nV (Kd.vW (p:=⟨an,1,none⟩) (Kd.wR bD.o ae.o d_) (fun _ hk=>hk.2) (.slice bM bA.length bQ)) (fun _ hk=>hk.1)⟩,⟨by exact Kd.mM (Kd.sM (p:=⟨an,1,none⟩) (Kd.qi ai.o ae.o d_) (fun _ hk=>hk.2) (.slice bM bA.length bQ)) (fun _ hk=>trivial)⟩,⟨by exact fa_ ab aa.o⟩,⟨by exact fa_ ah af.o⟩,⟨by exact pu_ 1 ae.o rfl⟩,⟨wb_⟩⟩
   simp only[Option.some.injEq,Prod.mk.injEq]at H;obtain⟨rfl,rfl,rfl⟩:=H;have cJ:=aM.o;have cP:=aN.o;have cK:=ab.o;have cQ:=aj.o;have cd:=bq3 aa.o;have cL:=al.o;have cS:=ah.o;have cf:=bq3 ae.o;have cg:=bq3 af.o;obtain⟨ch,ci,co⟩:=Kd.rO ag.o;subst co
   go_wp2
   refine rs_ #[.int .i64 aq,.slice ch am.length ci,.slice aG az.length aH] (by exact pu_ 2 (pu_ 1 (pu_ 0 af.o rfl) rfl) rfl) Try.underlying27 ?_;exact⟨_,_,rf,by exact Kd.nV (EF (tS_ ag af)) (fun _ hk=>hk.1),by exact Kd.mM (xe (tR_ ai af)) (fun _ hk=>trivial),wb_⟩
mutual
def ni.j0:Nat→Bool→Int→List (List Int)→List Int→Option (Int×(List (List Int))×List Int×Bool)
 |0,_,_,_,_=>none
 |k+1,f6,ay,ao,aw=>if f6=true then(some (0,([]:List (List Int)),([]:List Int),false))else((sH.f k ay ao aw).bind fun cS=>(if cS=true then((oC.f k ay ao aw).bind fun U=>(some (U.1,U.2.1,U.2.2,true)))else(if 0<(aw.length:Int)then((some (([rd aw 0]:List Int):List Int)).bind fun bm=>(if bm.length+aw.length<17592186044416 then(ni.l0 k (([0]:List Int)) 1 ay ao aw ay (bm++aw))else(none)))else(none))))
def ni.l0:Nat→List Int→Int→Int→List (List Int)→List Int→Int→List Int→Option (Int×(List (List Int))×List Int×Bool)
 |0,_,_,_,_,_,_,_=>none
 |k+1,x5,x6,ay,ao,aw,aM,aN=>if x6<ay then(if 0<(ao.length:Int)then(if 0≤x6 then(if x6<((f_ ao 0).length:Int)then(if x5.length<17592186044416 then(ni.l0 k (x5++[wrap64 ((rd (f_ ao 0) x6)+1)]) (wrap64 (x6+1)) ay ao aw aM aN)else(none))else(none))else(none))else(none))else(if([]:List (List Int)).length<5864062014805 then(ni.l1 k 0 ay ao aw aM (([]:List (List Int))++[x5]) aN)else(none))
def ni.l1:Nat→Int→Int→List (List Int)→List Int→Int→List (List Int)→List Int→Option (Int×(List (List Int))×List Int×Bool)
 |0,_,_,_,_,_,_,_=>none
 |k+1,x7,ay,ao,aw,aM,aW,aN=>if x7<(ao.length:Int)then(ni.l2 k x7 (([]:List Int)) 0 ay ao aw aM aW aN)else(some (aM,aW,aN,true))
def ni.l2:Nat→Int→List Int→Int→Int→List (List Int)→List Int→Int→List (List Int)→List Int→Option (Int×(List (List Int))×List Int×Bool)
 |0,_,_,_,_,_,_,_,_,_=>none
 |k+1,x7,x8,x9,ay,ao,aw,aM,aW,aN=>if x9<ay then(if 0≤x7 then(if x7<(ao.length:Int)then(if 0≤x9 then(if x9<((f_ ao x7).length:Int)then(if x8.length<17592186044416 then(ni.l2 k x7 (x8++[wrap64 ((rd (f_ ao x7) x9)+1)]) (wrap64 (x9+1)) ay ao aw aM aW aN)else(none))else(none))else(none))else(none))else(none))else(if aW.length<5864062014805 then(ni.l1 k (wrap64 (x7+1)) ay ao aw aM (aW++[x8]) aN)else(none))
end
def ni.f (k:Nat) (am:Int) (ai:List (List Int)) (al:List Int):Option (Int×(List (List Int))×List Int×Bool):=(m_.f k am ai al).bind fun cQ=>(if cQ=true then(if(ai.length:Int)≥16 then((sH.f k am ai al).bind fun b5=>(ni.j0 k (!b5) am ai al))else(ni.j0 k false am ai al))else(ni.j0 k true am ai al))
def ni.T5:Bool×List (List Nat×List Nat):=(true,[([],[]),([0],[0]),([],[]),([2],[2]),([3],[3]),([4],[4]),([5],[5]),([],[]),([7],[7]),([6,8],[6,8]),([1,9],[1,9]),([],[]),([11,10,9,0,1,2,3,4,5,6,7,8,9,10,11],[10,11])])
def ni.B5:List Nat:=[0,1,0,4,12,28,60,0,128,508,1023,0,4095]
theorem ni.Em:uf .any (opsOf Try.f58 5)=ni.T5:=K_
theorem ni.zx:rV ni.T5.2 ni.B5=true:=K_
theorem ni.calls (k:Nat) (am:Int) (ba:Option Addr) (bc:Nat) (ai:List (List Int)) (bT:Option Addr) (be:Nat) (al:List Int) (r1:Int) (r2:List (List Int)) (r3:List Int) (r4:Bool) (w:World) (ci:Kd.C (Kd.slice 3 (Kd.int .i64)) w ba ai.length ai) (cg:ai.length≤bc) (ck:Kd.C (Kd.int .i64) w bT al.length al) (ch:al.length≤be) (h:ni.f k am ai al=some (r1,r2,r3,r4)):
  Calls Try.prog 58 #[.agg #[.int .i64 am,.slice ba ai.length bc,.slice bT al.length be]] w fun e w'=>∃ig gL:Value,e=.returned (.tuple #[.agg #[.int .i64 r1,ig,gL],.bool r4])∧Kd.S (Kd.slice 3 (Kd.int .i64)) 25 w' w.heap.size (o1 gL) ig r2∧Kd.R (Kd.int .i64) 3 w' w.heap.size (fun _=>True) gL r3∧Below w.heap.size w w':=by
 have iD:=Try.underlying27;have aY:=A_ ci;have bh:=A_ cg;clear ci cg;have aV:=A_ ck;have bi:=A_ ch;clear ck ch;have HB:=A_ (Below.refl w.heap.size w);unfold ni.f at h;have H:=h;clear h;have gM:=A_ H;clear H;go_enter Try.func58,Try.ntmps58
 go_upto_region 1 with(first|((with_reducible refine gt_ 1 ?_);(try (refine qV rf ?_;dsimp only));refine be_ 1 #[.int .i64 am,.slice ba ai.length bc,.slice bT al.length be] 27 ?_;intro aE hg w3 J hb;have aa:=A_ (J);have eI:=lh_ HB hg;have bf:=lh_ HB hg;replace HB:=bs_ HB hb;clear hb J hg)|((with_reducible refine gt_ 2 ?_);(try (refine qV rf ?_;dsimp only));refine be_ 2 #[.int .i64 0,.slice none 0 0,.slice none 0 0] 27 ?_;intro aT hg w4 J hb;have ab:=A_ (J);have eJ:=lh_ HB hg;have bg:=lh_ HB hg;replace HB:=bs_ HB hb;have aq:=nl_ aa hg;have ar:=ng_ aa hg;replace aa:=bb_ aa hb;clear hb J hg))
 (try simp only[Act.put,mD,mE,mF])
 go_cut [23] (fun fR wc=>∃ (kq:Nat) (bE:Bool),fR=.bool bE∧Aside0 (ni.j0 kq bE am ai al=some (r1,r2,r3,r4))∧Aside0 (kq≤k)∧Aside0 (wc.heap[aE]? =some (.cells #[.int .i64 am,(.slice ba ai.length bc),(.slice bT al.length be)] 27 (0,0)))∧Aside0 (wc.heap[aT]? =some (.cells #[.int .i64 0,(.slice none 0 0),(.slice none 0 0)] 27 (0,0)))∧Aside0 (Below w.heap.size w wc))
 case first=>
  have H:=gM.o;clear gM;replace ⟨cQ,A5,H⟩:=bA_ H
  replace H:=Hb_ H;rcases H with⟨rfl,H⟩|⟨rfl,H⟩
  ·replace H:=Hj_ H;rcases H with⟨c7,H⟩|⟨c7,H⟩
   ·have ei:decide (16≤(ai.length:Int))=true:=decide_eq_true c7
    have ej:decide (16≤ai.length)=true:=decide_eq_true om
    clear c7
    (skip)
    replace ⟨b5,A8,H⟩:=bA_ H
    have H':=A_ H
    clear H;have fP:=aq.o;have fQ:=ar.o;have dR:=bq3 aa.o
    go_wp2_with (first|((with_reducible refine gc_ 33 rfl ?_);refine cM_ E33 11 (m_.calls k am _ _ ai _ _ al true _ (Kd.mO aY.o HB.o) bh.o (Kd.mO aV.o HB.o) bi.o A5.o) ?_;rintro e iM ⟨rfl,hb⟩;refine⟨_,rfl,?_⟩;replace aa:=bb_ aa hb;replace ab:=bb_ ab hb;replace HB:=bs_ HB hb;clear hb;have dS:=bq3 aa.o)|(go_at_call 70;(with_reducible refine(sH.calls k am _ _ ai _ _ al b5 _ ?eu ?eT ?fe ?gm A8.o).mono ?_);(case eu=>exact(Kd.mO aY.o HB.o));(case eT=>exact bh.o);(case fe=>exact(Kd.mO aV.o HB.o));(case gm=>exact bi.o);rintro e iN ⟨rfl,hb⟩;replace aa:=bb_ aa hb;replace ab:=bb_ ab hb;replace HB:=bs_ HB hb;clear hb;(try clear hi)))
    go_meet
    case rel=>exact⟨_,(!b5),rf,H',⟨om⟩,aa,ab,HB⟩
   have ei:decide (16≤(ai.length:Int))=false:=decide_eq_false c7
   have ej:decide (16≤ai.length)=false:=decide_eq_false om
   clear c7
   (skip)
   have H':=A_ H
   clear H;have fa:=aq.o;have fw:=ar.o;have dT:=bq3 aa.o
   go_wp2_with (first|((with_reducible refine gc_ 33 rfl ?_);refine cM_ E33 11 (m_.calls k am _ _ ai _ _ al true _ (Kd.mO aY.o HB.o) bh.o (Kd.mO aV.o HB.o) bi.o A5.o) ?_;rintro e w16 ⟨rfl,hb⟩;refine⟨_,rfl,?_⟩;replace aa:=bb_ aa hb;replace ab:=bb_ ab hb;replace HB:=bs_ HB hb;clear hb;have dU:=bq3 aa.o))
   go_meet
   case rel=>exact⟨_,(false),rf,H',⟨om⟩,aa,ab,HB⟩
  have H':=A_ H
  clear H;have fb:=aq.o;have fx:=ar.o;have dV:=bq3 aa.o
  go_wp2_with (first|((with_reducible refine gc_ 33 rfl ?_);refine cM_ E33 11 (m_.calls k am _ _ ai _ _ al false _ (Kd.mO aY.o HB.o) bh.o (Kd.mO aV.o HB.o) bi.o A5.o) ?_;rintro e iO ⟨rfl,hb⟩;refine⟨_,rfl,?_⟩;replace aa:=bb_ aa hb;replace ab:=bb_ ab hb;replace HB:=bs_ HB hb;clear hb;(try clear hi)))
  go_meet
  case rel=>exact⟨_,(true),rf,H',⟨om⟩,aa,ab,HB⟩
 case rest=>
  clear gM;obtain⟨kq,bE,rfl,HA,cV,aa,ab,HB⟩:=hcut
  cases kq with
  |zero=>exact nz_ HA.o
  |succ gp=>
   have H:=HA.o;clear HA;simp only[ni.j0]at H
   replace H:=Hb_ H;rcases H with⟨rfl,H⟩|⟨rfl,H⟩
   ·simp only[Option.some.injEq,Prod.mk.injEq]at H;obtain⟨rfl,rfl,rfl,rfl⟩:=H;have fc:=ar.o;have fy:=aq.o;have dW:=bq3 ab.o
    go_wp2
    refine rt_ #[.int .i64 0,.slice none 0 0,.slice none 0 0] (by exact pu_ 2 (pu_ 1 (pu_ 0 ab.o rfl) rfl) rfl) Try.underlying27 ?_;exact⟨_,_,rf,by exact Kd.za _ _ _ _ _,by exact Kd.sI _ _ _ _ _,wb_⟩
   replace ⟨cS,ik,H⟩:=bA_ H
   replace H:=Hb_ H;rcases H with⟨rfl,H⟩|⟨rfl,H⟩
   ·replace ⟨⟨dF,dG,dH⟩,iE,H⟩:=bA_ H;dsimp only at H;simp only[Option.some.injEq,Prod.mk.injEq]at H;obtain⟨rfl,rfl,rfl,rfl⟩:=H;have fd:=aq.o;have fz:=ar.o;have dX:=bq3 aa.o
    go_wp2_with (first|((with_reducible refine gc_ 70 rfl ?_);refine cM_ E70 26 (sH.calls gp am _ _ ai _ _ al true _ (Kd.mO aY.o HB.o) bh.o (Kd.mO aV.o HB.o) bi.o ik.o) ?_;rintro e iP ⟨rfl,hb⟩;refine⟨_,rfl,?_⟩;replace aa:=bb_ aa hb;replace ab:=bb_ ab hb;replace HB:=bs_ HB hb;clear hb;have dY:=bq3 aa.o)|((with_reducible refine gc_ 71 rfl ?_);refine cM_ E71 28 (oC.calls gp am _ _ ai _ _ al dF dG dH _ (Kd.mO aY.o HB.o) bh.o (Kd.mO aV.o HB.o) bi.o iE.o) ?_;rintro e iQ ⟨fS,fT,rfl,ho0,ho1,hb⟩;refine⟨_,rfl,?_⟩;have b6:=A_ (Kd.uy ho0 (mK HB.o));have b7:=A_ (Kd.nE ho1 (mK HB.o));replace aa:=bb_ aa hb;replace ab:=bb_ ab hb;replace HB:=bs_ HB hb;clear hb ho0 ho1;have dZ:=bq3 ab.o;obtain⟨ec,ek,ez⟩:=Kd.rO b6.o;subst ez;obtain⟨ed,el,eB⟩:=Kd.mU b7.o;subst eB))
    refine rt_ #[.int .i64 dF,.slice ec dG.length ek,.slice ed dH.length el] (by exact pu_ 2 (pu_ 1 (pu_ 0 ab.o rfl) rfl) rfl) Try.underlying27 ?_;exact⟨_,_,rf,by exact Kd.nV (EF (tS_ b6 ab)) (fun _ hk=>hk.1),by exact Kd.mM (xe (tR_ b7 ab)) (fun _ hk=>trivial),wb_⟩
   replace ⟨il,H⟩:=Hp_ H
   have dt:=decide_eq_true il
   have du:decide (0<al.length)=true:=decide_eq_true om
   clear il;replace ⟨bm,cc,H⟩:=Hs_ H
   replace ⟨bF,H⟩:=Ha_ H
   obtain⟨ax,bK⟩:=ex_ ((bm++al):List Int);rw[←bK]at H;have bG:=A_ bK;clear bK;obtain⟨dI,bL⟩:=ex_ ((([0]:List Int)):List Int);rw[←bL]at H;have dj:=A_ bL;clear bL
   have H':=A_ H
   clear H;have ff:=aq.o;have fA:=ar.o;have bW:=bq3 aa.o
   try go_wp2_with (first|((with_reducible refine gc_ 70 rfl ?_);refine cM_ E70 26 (sH.calls gp am _ _ ai _ _ al false _ (Kd.mO aY.o HB.o) bh.o (Kd.mO aV.o HB.o) bi.o ik.o) ?_;rintro e iF ⟨rfl,hb⟩;refine⟨_,rfl,?_⟩;replace aa:=bb_ aa hb;replace ab:=bb_ ab hb;replace HB:=bs_ HB hb;clear hb;(try clear hi)))
   replace aa:=A_ (nQ aa.o);replace ab:=A_ (nQ ab.o);replace HB:=A_ (oG HB.o)
   have b3:0≤(0:Int):=om
   have b4:0<(al.length:Int):=oa_
   obtain⟨aX,en,aI⟩:=Kd.nM aV.o 0 b3 b4;have af:=aI
   (try rw[show((0:Int)).toNat=0 from rfl]at af)
   (try rw[show 0*1=0 from rfl]at af)
   (try rw[Addr.add_zero']at af)
   cases en
   have iq:(0<al.length)=True:=eq_true om
   (try rw[show((0:Int)).toNat=0 from rfl]at aI)
   (try rw[Addr.add_zero']at aI)
   replace aI:=cm_ HB aI;replace b3:=eq_true b3;replace b4:=eq_true b4;refine rM (n:=13) (S:=fun w'=>cA3 aE (.int .i64 am) (.slice ba ai.length bc) (.slice (some aX) al.length be) w' (w'.cell? aX=some (.int .i64 (rd al 0)))) (ds:=[]) (mk_ 13 0) K_ rfl rfl ⟨bz0 aa.o,bz1 aa.o,bz2 aa.o,((HB.o.cell (World.block_lt_of_cell? w _ af)).trans af)⟩ (fun az=>?_);refine ru ni.Em ni.zx (fun br dQ=>?_)
   generalize iF.drew=iR at aa ab HB aI az⊢
   refine pw_ 0 29 (mk_ 13 1) br ?_;refine pw_ 2 31 (mk_ 13 5) br ?_;refine pw_ 7 36 (mk_ 13 133) br ?_;refine tk_ 1 30 (mk_ 13 135) br dQ az ?_;refine tk_ 3 32 (mk_ 13 143) br dQ az ?_;refine pw_ 4 33 (mk_ 13 159) br ?_;refine tk_ 5 34 (mk_ 13 191) br dQ az ?_;refine tk_ 8 37 (mk_ 13 447) br dQ az ?_;refine Cx (σ:=Value×Value×Nat) 1 (mk_ 13 4095) (fun s_=>[(35,s_.1),(38,s_.2.1),(4,.pointer (some ⟨s_.2.2,0,none⟩)),(39,.agg #[.int .i64 am,.slice none 0 0,s_.2.1])]) (fun s_ w'=>(cA3 aE (.int .i64 am) (.slice ba ai.length bc) (.slice (some aX) al.length be) w' (w'.cell? aX=some (.int .i64 (rd al 0))))∧(Kd.R (Kd.int .i64) 3 w' w.heap.size (fun _=>True) s_.2.1 ax)∧(w'.heap[aE]? =some (.cells #[.int .i64 am,.slice ba ai.length bc,.slice (some aX) al.length be] 27 (0,0)))∧(w'.heap[aT]? =some (.cells #[.int .i64 0,.slice none 0 0,.slice none 0 0] 27 (0,0)))∧(w'.heap[s_.2.2]? =some (.cells #[.int .i64 0,.slice none 0 0,.slice none 0 0] 27 (0,0)))∧(w.heap.size≤s_.2.2)∧(w.heap.size≤s_.2.2)∧(aE≠s_.2.2)∧(s_.2.2≠aE)∧(aT≠s_.2.2)∧(s_.2.2≠aT)∧(Below w.heap.size w w')) ?_ ?_;rotate_left
   ·intro aK;refine F6 (i:=6) (j:=11) (Ni:=some 35) (Nj:=some 4) (mk_ 13 511) (mk_ 13 2495) rfl rfl rfl rfl (Ap br.o K_) d_ d_ (fun K hK=>?_) (fun K hK=>?_)
    ·skip
     refine Kd.tO (Kd.int .i64) _ 3 ?hg (N:=35) ?hd (xs:=([rd al 0]:List Int)) (inner:=[.int .i64 (rd al 0)]) (ok:=fun _=>True) (okp:=fun _=>True) ?hr ?hp (fun _ hk=>hk) trivial (Below.refl _ _) (Nat.le_refl _) sp ?_;(case hd|hg=>rfl);(case hr=>go_simp;done);(case hp=>exact(qK.one (show Kd.M (Kd.int .i64) _ _ _ (rd al 0) [.int .i64 (rd al 0)]from rfl) (qK.none _ _)));intro bz iG cF hb gN aZ;clear gN aZ
     (rw[←cc.o]at cF)
     have aC:=A_ (Kd.nE cF (mK HB.o));replace aa:=bb_ aa hb;replace ab:=bb_ ab hb;replace HB:=bs_ HB hb;clear hb cF;refine hK.out _ _ ⟨bz0 aa.o,bz1 aa.o,bz2 aa.o,((HB.o.cell (World.block_lt_of_cell? w _ af)).trans af)⟩ (fun az=>?_);clear hK K;refine nm_ 35 ?_;refine F6 (i:=9) (j:=11) (Ni:=some 38) (Nj:=some 4) (mk_ 13 1023) (mk_ 13 2559) rfl rfl rfl rfl (Ap br.o K_) d_ d_ (fun K hK=>?_) (fun K hK=>?_)
     ·skip
      refine Kd.oU (Kd.int .i64) (w0:=w) w.heap.size rf (.tmp 35) (.tmp 37) 25 3 (.int .i64 0) 8 rfl Try.underlying25 info3 rfl d_ om bz bm al _ _ _ (fun _=>True) (fun _=>False) rfl rfl ?aO ?aR (fun _ _ h=>h) (fun _ h=>h.elim) ?aF ?aB ?aS ?aL ?_
      (case aR=>exact(Kd.mO aV.o HB.o))
      (case aB=>exact HB.o)
      (case aF=>exact(fun _ _=>trivial))
      (case aO=>exact aC.o)
      (case aS=>exact(mK HB.o))
      (case aL=>have:=bF.o;omega)
      intro cU iH ho hb hg hat;rw[←bG.o]at ho;replace aa:=gR_ aC aa hg;replace ab:=gR_ aC ab hg;replace HB:=A_ (hb);have aD:=A_ (ho);clear aC ho hb hg hat;obtain⟨ef,em,dA⟩:=Kd.mU aD.o
      (first|subst dA|(injection dA with a_ b_ bJ;have cu:=a_.symm;have cz:=bJ.symm;clear a_ b_ bJ;subst cu;subst cz))
      refine hK.out _ _ ⟨bz0 aa.o,bz1 aa.o,bz2 aa.o,((HB.o.cell (World.block_lt_of_cell? w _ af)).trans af)⟩ (fun az=>?_);clear hK K;refine nm_ 38 ?_;refine pw_ 10 39 (mk_ 13 2047) br ?_;refine ow_ 11 (mk_ 13 4095) br (fun K hK=>?_);refine uh rfl (N:=4) rfl (cs:= #[.int .i64 0,.slice none 0 0,.slice none 0 0]) (t:=27) (by go_simp;done) ?_;intro ap hg iT J hb;replace aD:=A_ (Kd.nX aD.o hb);have ah:=A_ (J);have aA:=lh_ HB hg;have aU:=lh_ HB hg;replace HB:=bs_ HB hb;have ae:=nl_ aa hg;have an:=ng_ aa hg;replace aa:=bb_ aa hb;have ak:=nl_ ab hg;have au:=ng_ ab hg;replace ab:=bb_ ab hb;clear hb J hg;refine hK.out _ _ ⟨bz0 aa.o,bz1 aa.o,bz2 aa.o,((HB.o.cell (World.block_lt_of_cell? w _ af)).trans af)⟩ (fun az=>?_);clear hK K;refine nm_ 4 ?_;exact vg (by simp only[rG,Act.put,mD,mE,mF]) (aK (bz,.slice ef ax.length em,ap) _ ⟨az,aD.o,aa.o,ab.o,ah.o,aA.o,aU.o,ae.o,an.o,ak.o,au.o,HB.o⟩)
     skip
     refine uh rfl (N:=4) rfl (cs:= #[.int .i64 0,.slice none 0 0,.slice none 0 0]) (t:=27) (by go_simp;done) ?_;intro ap hg iH J hb;replace aC:=A_ (Kd.nX aC.o hb);have ah:=A_ (J);have aA:=lh_ HB hg;have aU:=lh_ HB hg;replace HB:=bs_ HB hb;have ae:=nl_ aa hg;have an:=ng_ aa hg;replace aa:=bb_ aa hb;have ak:=nl_ ab hg;have au:=ng_ ab hg;replace ab:=bb_ ab hb;clear hb J hg;refine hK.out _ _ ⟨bz0 aa.o,bz1 aa.o,bz2 aa.o,((HB.o.cell (World.block_lt_of_cell? w _ af)).trans af)⟩ (fun az=>?_);clear hK K;refine nm_ 4 ?_;refine ow_ 9 (mk_ 13 3071) br (fun K hK=>?_);refine Kd.oU (Kd.int .i64) (w0:=w) w.heap.size rf (.tmp 35) (.tmp 37) 25 3 (.int .i64 0) 8 rfl Try.underlying25 info3 rfl d_ om bz bm al _ _ _ (fun _=>True) (fun _=>False) rfl rfl ?aO ?aR (fun _ _ h=>h) (fun _ h=>h.elim) ?aF ?aB ?aS ?aL ?_
     (case aR=>exact(Kd.mO aV.o HB.o))
     (case aB=>exact HB.o)
     (case aF=>exact(fun _ _=>trivial))
     (case aO=>exact aC.o)
     (case aS=>exact(mK HB.o))
     (case aL=>have:=bF.o;omega)
     intro cU iI ho hb hg hat;rw[←bG.o]at ho;replace aa:=gR_ aC aa hg;replace ab:=gR_ aC ab hg;replace ah:=gR_ aC ah hg;replace HB:=A_ (hb);have aD:=A_ (ho);clear aC ho hb hg hat;obtain⟨co,cB,bH⟩:=Kd.mU aD.o
     (first|subst bH|(injection bH with a_ b_ bJ;have cu:=a_.symm;have cz:=bJ.symm;clear a_ b_ bJ;subst cu;subst cz))
     refine hK.out _ _ ⟨bz0 aa.o,bz1 aa.o,bz2 aa.o,((HB.o.cell (World.block_lt_of_cell? w _ af)).trans af)⟩ (fun az=>?_);clear hK K;refine nm_ 38 ?_;refine pw_ 10 39 (mk_ 13 4095) br ?_;exact vg (by simp only[rG,Act.put,mD,mE,mF]) (aK (bz,.slice co ax.length cB,ap) _ ⟨az,aD.o,aa.o,ab.o,ah.o,aA.o,aU.o,ae.o,an.o,ak.o,au.o,HB.o⟩)
    skip
    refine uh rfl (N:=4) rfl (cs:= #[.int .i64 0,.slice none 0 0,.slice none 0 0]) (t:=27) (by go_simp;done) ?_;intro ap hg iG J hb;have ah:=A_ (J);have aA:=lh_ HB hg;have aU:=lh_ HB hg;replace HB:=bs_ HB hb;have ae:=nl_ aa hg;have an:=ng_ aa hg;replace aa:=bb_ aa hb;have ak:=nl_ ab hg;have au:=ng_ ab hg;replace ab:=bb_ ab hb;clear hb J hg;refine hK.out _ _ ⟨bz0 aa.o,bz1 aa.o,bz2 aa.o,((HB.o.cell (World.block_lt_of_cell? w _ af)).trans af)⟩ (fun az=>?_);clear hK K;refine nm_ 4 ?_;refine ow_ 6 (mk_ 13 2559) br (fun K hK=>?_);refine Kd.tO (Kd.int .i64) _ 3 ?hg (N:=35) ?hd (xs:=([rd al 0]:List Int)) (inner:=[.int .i64 (rd al 0)]) (ok:=fun _=>True) (okp:=fun _=>True) ?hr ?hp (fun _ hk=>hk) trivial (Below.refl _ _) (Nat.le_refl _) sp ?_;(case hd|hg=>rfl);(case hr=>go_simp;done);(case hp=>exact(qK.one (show Kd.M (Kd.int .i64) _ _ _ (rd al 0) [.int .i64 (rd al 0)]from rfl) (qK.none _ _)));intro bz iU cG hb gN aZ;clear gN aZ
    (rw[←cc.o]at cG)
    have aC:=A_ (Kd.nE cG (mK HB.o));replace aa:=bb_ aa hb;replace ab:=bb_ ab hb;replace ah:=bb_ ah hb;replace HB:=bs_ HB hb;clear hb cG;refine hK.out _ _ ⟨bz0 aa.o,bz1 aa.o,bz2 aa.o,((HB.o.cell (World.block_lt_of_cell? w _ af)).trans af)⟩ (fun az=>?_);clear hK K;refine nm_ 35 ?_;refine ow_ 9 (mk_ 13 3071) br (fun K hK=>?_);refine Kd.oU (Kd.int .i64) (w0:=w) w.heap.size rf (.tmp 35) (.tmp 37) 25 3 (.int .i64 0) 8 rfl Try.underlying25 info3 rfl d_ om bz bm al _ _ _ (fun _=>True) (fun _=>False) rfl rfl ?aO ?aR (fun _ _ h=>h) (fun _ h=>h.elim) ?aF ?aB ?aS ?aL ?_
    (case aR=>exact(Kd.mO aV.o HB.o))
    (case aB=>exact HB.o)
    (case aF=>exact(fun _ _=>trivial))
    (case aO=>exact aC.o)
    (case aS=>exact(mK HB.o))
    (case aL=>have:=bF.o;omega)
    intro cU iI ho hb hg hat;rw[←bG.o]at ho;replace aa:=gR_ aC aa hg;replace ab:=gR_ aC ab hg;replace ah:=gR_ aC ah hg;replace HB:=A_ (hb);have aD:=A_ (ho);clear aC ho hb hg hat;obtain⟨co,cB,bH⟩:=Kd.mU aD.o
    (first|subst bH|(injection bH with a_ b_ bJ;have cu:=a_.symm;have cz:=bJ.symm;clear a_ b_ bJ;subst cu;subst cz))
    refine hK.out _ _ ⟨bz0 aa.o,bz1 aa.o,bz2 aa.o,((HB.o.cell (World.block_lt_of_cell? w _ af)).trans af)⟩ (fun az=>?_);clear hK K;refine nm_ 38 ?_;refine pw_ 10 39 (mk_ 13 4095) br ?_;exact vg (by simp only[rG,Act.put,mD,mE,mF]) (aK (bz,.slice co ax.length cB,ap) _ ⟨az,aD.o,aa.o,ab.o,ah.o,aA.o,aU.o,ae.o,an.o,ak.o,au.o,HB.o⟩)
   rintro⟨bz,cU,ap⟩ gP ⟨az,gQ,gT,gU,gV,gW,gX,gY,gZ,g_,ib,cE⟩
   clear aa ab HB;try dsimp only at az gQ gT gU gV gW gX gY gZ g_ ib cE
   have aD:=A_ gQ;have aa:=A_ gT;have ab:=A_ gU;have ah:=A_ gV;have aA:=A_ gW;have aU:=A_ gX;have ae:=A_ gY;have an:=A_ gZ;have ak:=A_ g_;have au:=A_ ib;have HB:=A_ cE;clear gQ gT gU gV gW gX gY gZ g_ ib cE
   obtain⟨aG,aH,dB⟩:=Kd.mU aD.o
   (first|subst dB|(injection dB with a_ b_ bJ;have cu:=a_.symm;have cz:=bJ.symm;clear a_ b_ bJ;subst cu;subst cz))
   refine vg (by simp only[rG,Act.put,mD,mE,mF];rfl) ?_
   refine ow_ 12 (mk_ 13 8191) br (fun K hK=>?_)
   have iJ:gP.cell? ⟨ap,0,none⟩=some (.int .i64 0):=bz0 ah.o
   have iw:=nY ah.o 0;have gq:=ae.o;have gu:=ak.o;have gy:=an.o;have gz:=au.o
   have iK:gP.cell? ⟨ap,1,none⟩=some (.slice none 0 0):=bz1 ah.o
   have iy:=nY ah.o 1;have gB:=ae.o;have gD:=ak.o;have gF:=an.o;have gG:=au.o
   have iL:gP.cell? ⟨ap,2,none⟩=some (.slice none 0 0):=bz2 ah.o
   have iA:=nY ah.o 2;have gH:=ae.o;have gI:=ak.o;have gJ:=an.o;have gK:=au.o;refine uI (w1:=?_) rf rfl ?_ ?_;rotate_left
   ·go_simp
    rfl
   refine hK.out _ _ ⟨((cf_ ae).trans (((cf_ ae).trans (((cf_ ae).trans (az.1)))))),((cf_ ae).trans (((cf_ ae).trans (((cf_ ae).trans (az.2.1)))))),((cf_ ae).trans (((cf_ ae).trans (((cf_ ae).trans (az.2.2.1)))))),((cell_far (p:=⟨ap,_,none⟩) (by first|exact Nat.ne_of_lt (Nat.lt_of_lt_of_le (by have:=World.block_lt_of_cell? _ _ af;first|rwa[add_block]at this|exact this) aA.o)|(rw[add_block];exact Nat.ne_of_lt (Nat.lt_of_lt_of_le (by have:=World.block_lt_of_cell? _ _ af;first|rwa[add_block]at this|exact this) aA.o))|(show(Addr.add _ _).block≠_;rw[add_block];exact Nat.ne_of_lt (Nat.lt_of_lt_of_le (by have:=World.block_lt_of_cell? _ _ af;first|rwa[add_block]at this|exact this) aA.o))|(dsimp only;exact Nat.ne_of_lt (Nat.lt_of_lt_of_le (by have:=World.block_lt_of_cell? _ _ af;first|rwa[add_block]at this|exact this) aA.o))) _).trans (((cell_far (p:=⟨ap,_,none⟩) (by first|exact Nat.ne_of_lt (Nat.lt_of_lt_of_le (by have:=World.block_lt_of_cell? _ _ af;first|rwa[add_block]at this|exact this) aA.o)|(rw[add_block];exact Nat.ne_of_lt (Nat.lt_of_lt_of_le (by have:=World.block_lt_of_cell? _ _ af;first|rwa[add_block]at this|exact this) aA.o))|(show(Addr.add _ _).block≠_;rw[add_block];exact Nat.ne_of_lt (Nat.lt_of_lt_of_le (by have:=World.block_lt_of_cell? _ _ af;first|rwa[add_block]at this|exact this) aA.o))|(dsimp only;exact Nat.ne_of_lt (Nat.lt_of_lt_of_le (by have:=World.block_lt_of_cell? _ _ af;first|rwa[add_block]at this|exact this) aA.o))) _).trans (((cell_far (p:=⟨ap,_,none⟩) (by first|exact Nat.ne_of_lt (Nat.lt_of_lt_of_le (by have:=World.block_lt_of_cell? _ _ af;first|rwa[add_block]at this|exact this) aA.o)|(rw[add_block];exact Nat.ne_of_lt (Nat.lt_of_lt_of_le (by have:=World.block_lt_of_cell? _ _ af;first|rwa[add_block]at this|exact this) aA.o))|(show(Addr.add _ _).block≠_;rw[add_block];exact Nat.ne_of_lt (Nat.lt_of_lt_of_le (by have:=World.block_lt_of_cell? _ _ af;first|rwa[add_block]at this|exact this) aA.o))|(dsimp only;exact Nat.ne_of_lt (Nat.lt_of_lt_of_le (by have:=World.block_lt_of_cell? _ _ af;first|rwa[add_block]at this|exact this) aA.o))) _).trans (az.2.2.2))))))⟩ (fun az=>?_);clear hK K;refine sZ (sP br.o K_) ?_
   try go_wp2_with (first|((with_reducible refine gt_ 40 ?_);(try (refine qV rf ?_;dsimp only));refine Kd.wF (Kd.int .i64) _ 3 ?hg (N:=40) ?hd (xs:=([0]:List Int)) (inner:=[.int .i64 0]) (ok:=fun _=>True) (okp:=fun _=>True) ?hr ?hp (fun _ hk=>hk) trivial (Below.refl _ _) (Nat.le_refl _) sp ?_;(case hd|hg=>rfl);(case hr=>go_simp;done);(case hp=>exact(qK.one (show Kd.M (Kd.int .i64) _ _ _ 0 [.int .i64 0]from rfl) (qK.none _ _)));rintro fU iV b2 hb - -;(rw[←dj.o]at b2);have da:=A_ (Kd.nE (Kd.qF b2 (Kd.oV (by exact(Kd.mM (xe (tR_ aD ah)) (fun _ h_=>h_.1))))) (mK wb_));replace aD:=A_ (Kd.oz (by exact(Kd.mM (xe (tR_ aD ah)) (fun _ h_=>h_.1))) (Kd.nW b2) hb);replace aa:=A_ (pg (g:=aE) (o:=.cells #[.int .i64 am,.slice ba ai.length bc,.slice (some aX) al.length be] 27 (0,0)) (by exact fa_ ae (fa_ ae (fa_ ae aa.o))) hb);replace ab:=A_ (pg (g:=aT) (o:=.cells #[.int .i64 0,.slice none 0 0,.slice none 0 0] 27 (0,0)) (by exact fa_ ak (fa_ ak (fa_ ak ab.o))) hb);replace ah:=A_ (pg (g:=ap) (o:=.cells #[.int .i64 am,.slice none 0 0,.slice aG ax.length aH] 27 (0,0)) (by exact pu_ 2 (pu_ 1 (pu_ 0 ah.o rfl) rfl) rfl) hb);replace HB:=A_ (nZ wb_ hb);clear hb b2))
   go_loopg [5,6] gp (fun kq v5 v6 w'=>∃ (bj:List Int) (a8:Int),v6=.int .i64 a8∧Aside0 (ni.l0 kq bj a8 am ai al am ax=some (r1,r2,r3,r4))∧Aside0 (kq≤gp)∧Aside0 (Kd.R (Kd.int .i64) 3 w' w.heap.size (o1 (.slice aG ax.length aH)) v5 bj)∧Aside0 (Kd.R (Kd.int .i64) 3 w' w.heap.size (o1 v5) (.slice aG ax.length aH) ax)∧Aside0 (w'.heap[aE]? =some (.cells #[.int .i64 am,(.slice ba ai.length bc),(.slice (some aX) al.length be)] 27 (0,0)))∧Aside0 (w'.heap[aT]? =some (.cells #[.int .i64 0,(.slice none 0 0),(.slice none 0 0)] 27 (0,0)))∧Aside0 (w'.heap[ap]? =some (.cells #[.int .i64 am,(.slice none 0 0),(.slice aG ax.length aH)] 27 (0,0)))∧Aside0 (Below w.heap.size w w'))
   case atStart=>exact⟨(dI),(1),rf,H',⟨Nat.le_refl _⟩,⟨by exact Kd.mM da.o (fun _ hk=>hk.2)⟩,⟨by exact Kd.mM aD.o (fun _ hk=>hk.2)⟩,aa,ab,ah,HB⟩
   case round=>
    clear H'
    clear dt du bW aI b3 b4
    obtain⟨bj,a8,rfl,HA,cW,bn,ag,aa,ab,ah,HB⟩:=hrel
    cases gk with
    |zero=>exact nz_ HA.o
    |succ k2=>
     have H:=HA.o;clear HA;simp only[ni.l0]at H
     replace H:=Hi_ H;rcases H with⟨cd,H⟩|⟨cd,H⟩
     ·replace ⟨iB,H⟩:=Hp_ H
      have eQ:=decide_eq_true iB
      have eR:decide (0<ai.length)=true:=decide_eq_true om
      clear iB
      replace ⟨eS,H⟩:=Hd_ H
      replace ⟨eU,H⟩:=Hd_ H
      replace ⟨df,H⟩:=Ha_ H
      obtain⟨dJ,bM⟩:=ex_ ((bj++[wrap64 ((rd (f_ ai 0) a8)+1)]):List Int);rw[←bM]at H;have dk:=A_ bM;clear bM
      have H':=A_ H
      clear H;have fg:=aq.o;have fB:=ar.o;have fh:=ae.o;have fC:=an.o;have d4:=bq3 aa.o
      have cH:0≤(0:Int):=om
      have cL:0<(ai.length:Int):=oa_
      obtain⟨eK,d9,eg,eo,a7,bC,bA⟩:=qM aY.o 0 cH cL
      cases eo
      have iC:(0<ai.length)=True:=eq_true om
      (try rw[show((0:Int)).toNat=0 from rfl]at a7)
      (try rw[Addr.add_zero']at a7)
      replace a7:=cm_ HB a7;have bU:=A_ bA;have dM:=A_ bC;clear bA bC;replace cH:=eq_true cH;replace cL:=eq_true cL
      have cI:0≤(a8:Int):=oa_
      have cN:a8<((f_ ai 0).length:Int):=oa_
      obtain⟨eN,ep,bu⟩:=Kd.nM bU.o a8 cI cN
      cases ep
      replace bu:=cm_ HB bu;replace cI:=eq_true cI;replace cN:=eq_true cN
      go_wp2_with (first|((with_reducible refine nG (b:=.append) (xs:= #[.tmp 47,.tmp 56]) rfl ?_);(try (refine qV rf ?_;dsimp only));at_builtin;refine Kd.qG (Kd.int .i64) (w0:=w) w.heap.size rfl (.tmp 47) (.tmp 56) 25 3 (.int .i64 0) 8 rfl Try.underlying25 info3 rfl d_ om u5 bj (wrap64 ((rd (f_ ai 0) a8)+1)) [.int .i64 (wrap64 ((rd (f_ ai 0) a8)+1))] (o1 (.slice aG ax.length aH)) (fun _=>False) rfl rfl ?aP (fun _ hk=>hk.elim) ?aF ?aO ?aB ?aS ?aL ?_;(case aP=>exact rfl);(case aB=>exact HB.o);(case aF=>exact(fun k_ hk=>Kd.fresh' (Kd.oV ag.o) k_ hk));(case aO=>exact bn.o);(case aS=>exact(mK HB.o));(case aL=>have:=df.o;omega);intro fV iW ho hb hg hat;rw[←dk.o]at ho;replace ag:=A_ (Kd.pq (ok:=(fun _=>True)) (by exact Kd.mM ag.o (fun _ hk=>⟨trivial,hk⟩)) hg hat);replace aa:=gR_ bn aa hg;replace ab:=gR_ bn ab hg;replace ah:=gR_ bn ah hg;replace HB:=A_ (hb);have db:=A_ (ho);clear bn;clear ho hb hg hat))
      go_roundg k2
      case measure=>have:=cV.o;have:=cW.o;omega
      case rel=>exact⟨(dJ),(wrap64 (a8+1)),rf,H',⟨by have:=cV.o;have:=cW.o;omega⟩,db,⟨by exact Kd.mM ag.o (fun _ hk=>hk.2)⟩,aa,ab,ah,HB⟩
     replace ⟨dg,H⟩:=Ha_ H
     obtain⟨bR,bN⟩:=ex_ ((([]:List (List Int))++[bj]):List (List Int));rw[←bN]at H;have dm:=A_ bN;clear bN
     have H':=A_ H
     clear H;have fi:=aq.o;have fD:=ar.o;have fj:=ae.o;have fE:=an.o;have bX:=bq3 aa.o;have fk:=au.o;have fF:=ak.o;have bY:=bq3 ah.o;obtain⟨cY,dx,eC⟩:=Kd.mU bn.o;subst eC
     go_wp2_with (first|((with_reducible refine nG (b:=.append) (xs:= #[.tmp 59,.tmp 61]) rfl ?_);(try (refine qV rf ?_;dsimp only));at_builtin;refine Kd.uq (Kd.slice 3 (Kd.int .i64)) (w0:=w) w.heap.size rfl (.tmp 59) (.tmp 61) 24 25 (.slice none 0 0) 24 rfl Try.underlying24 uO rfl d_ om (.slice none 0 0) ([]:List (List Int)) bj [.slice cY bj.length dx] (o1 (.slice aG ax.length aH)) (fun k_=>some k_=(.slice cY bj.length dx:Value).ownBlock) rfl rfl ?aP (fun k_ ic=>((Kd.mM (ok':=fun k_=>((o1 (.slice aG ax.length aH))) k_∧some k_≠(.slice none 0 0:Value).ownBlock) (bn.o) (fun k_ hk=>⟨hk,(by simp[Value.ownBlock])⟩))).1 k_ ic.symm) ?aF ?aO ?aB ?aS ?aL ?_;(case aP=>exact Kd.uR (Kd.mM (Kd.sD rfl (Kd.mM (ok':=fun k_=>((o1 (.slice aG ax.length aH))) k_∧some k_≠(.slice none 0 0:Value).ownBlock) (bn.o) (fun k_ hk=>⟨hk,(by simp[Value.ownBlock])⟩))) (fun _ h_=>h_)));(case aB=>exact HB.o);(case aF=>exact(fun k_ hk=>Kd.fresh' (Kd.oV ag.o) k_ hk));(case aO=>exact((Kd.za _ _ _ _ _)));(case aS=>exact(mK HB.o));(case aL=>have:=dg.o;omega);intro fW iX ho hb hg hat;rw[←dm.o]at ho;replace ag:=A_ (Kd.Bn ag.o hg (fun _ _=>by simp[Value.ownBlock]));replace aa:=A_ (qE (g:=aE) (o:=.cells #[.int .i64 am,.slice ba ai.length bc,.slice (some aX) al.length be] 27 (0,0)) aa.o hg (by simp[Value.ownBlock]));replace ab:=A_ (qE (g:=aT) (o:=.cells #[.int .i64 0,.slice none 0 0,.slice none 0 0] 27 (0,0)) ab.o hg (by simp[Value.ownBlock]));replace ah:=A_ (qE (g:=ap) (o:=.cells #[.int .i64 am,.slice none 0 0,.slice aG ax.length aH] 27 (0,0)) ah.o hg (by simp[Value.ownBlock]));replace HB:=A_ (hb);have b8:=A_ (ho);clear bn;clear ho hb hg hat;obtain⟨cw,cC,eD⟩:=Kd.rO b8.o;subst eD;have bZ:=bq3 ah.o))
     go_loopg [7] k2 (fun kq v7 w'=>∃ (aQ:Int) (av:List (List Int)) (aJ:Value),v7=.int .i64 aQ∧Aside0 (ni.l1 kq aQ am ai al am av ax=some (r1,r2,r3,r4))∧Aside0 (kq≤k2)∧Aside0 (Kd.S (Kd.slice 3 (Kd.int .i64)) 25 w' w.heap.size (o1 (.slice aG ax.length aH)) aJ av)∧Aside0 (Kd.R (Kd.int .i64) 3 w' w.heap.size (fun _=>True) (.slice aG ax.length aH) ax)∧Aside0 (w'.heap[aE]? =some (.cells #[.int .i64 am,(.slice ba ai.length bc),(.slice (some aX) al.length be)] 27 (0,0)))∧Aside0 (w'.heap[aT]? =some (.cells #[.int .i64 0,(.slice none 0 0),(.slice none 0 0)] 27 (0,0)))∧Aside0 (w'.heap[ap]? =some (.cells #[.int .i64 am,aJ,(.slice aG ax.length aH)] 27 (0,0)))∧Aside0 (Below w.heap.size w w'))
     case atStart=>exact⟨(0),(bR),(.slice cw bR.length cC),rf,H',⟨Nat.le_refl _⟩,⟨by exact Kd.nV (Kd.vW (p:=⟨ap,1,none⟩) (Kd.wR b8.o ah.o d_) (fun _ hk=>hk.2) (.slice cw bR.length cC)) (fun _ hk=>hk.1)⟩,⟨by exact Kd.mM (Kd.sM (p:=⟨ap,1,none⟩) (Kd.qi ag.o ah.o d_) (fun _ hk=>hk.2) (.slice cw bR.length cC)) (fun _ hk=>trivial)⟩,⟨by exact fa_ ae aa.o⟩,⟨by exact fa_ ak ab.o⟩,⟨by exact pu_ 1 ah.o rfl⟩,⟨wb_⟩⟩
     case round=>
      clear H'
      clear cd bX bY bZ
      obtain⟨aQ,av,aJ,rfl,HA,dO,aj,ag,aa,ab,ah,HB⟩:=hrel
      cases gk with
      |zero=>exact nz_ HA.o
      |succ k3=>
       have H:=HA.o;clear HA;simp only[ni.l1]at H
       replace H:=Hi_ H;rcases H with⟨cf,H⟩|⟨cf,H⟩
       ·obtain⟨dK,bO⟩:=ex_ ((([]:List Int)):List Int);rw[←bO]at H;have dn:=A_ bO;clear bO
        have H':=A_ H
        clear H;have fl:=aq.o;have fG:=ar.o;have fm:=ae.o;have fH:=an.o;have b1:=bq3 aa.o
        go_wp2_with (first|((with_reducible refine gt_ 71 ?_);(try (refine qV rf ?_;dsimp only));refine Kd.wF (Kd.int .i64) _ 3 ?hg (N:=71) ?hd (xs:=([]:List Int)) (inner:=[]) (ok:=fun _=>True) (okp:=fun _=>True) ?hr ?hp (fun _ hk=>hk) trivial (Below.refl _ _) (Nat.le_refl _) sp ?_;(case hd|hg=>rfl);(case hr=>go_simp;done);(case hp=>exact(qK.none _ _));rintro fX iY bI hb - -;(rw[←dn.o]at bI);replace aj:=A_ (Kd.rz aj.o (Kd.nW bI) hb);have dd:=A_ (Kd.nE (Kd.qF bI (Kd.oV ag.o)) (mK HB.o));replace ag:=A_ (Kd.oz ag.o (Kd.nW bI) hb);replace aa:=bb_ aa hb;replace ab:=bb_ ab hb;replace ah:=bb_ ah hb;replace HB:=bs_ HB hb;clear hb bI))
        go_loopg [8,9] k3 (fun kq v8 v9 w'=>∃ (bk:List Int) (a9:Int),v9=.int .i64 a9∧Aside0 (ni.l2 kq aQ bk a9 am ai al am av ax=some (r1,r2,r3,r4))∧Aside0 (kq≤k3)∧Aside0 (Kd.R (Kd.int .i64) 3 w' w.heap.size (o1 (.slice aG ax.length aH)) v8 bk)∧Aside0 (Kd.S (Kd.slice 3 (Kd.int .i64)) 25 w' w.heap.size (o2 v8 (.slice aG ax.length aH)) aJ av)∧Aside0 (Kd.R (Kd.int .i64) 3 w' w.heap.size (o1 v8) (.slice aG ax.length aH) ax)∧Aside0 (w'.heap[aE]? =some (.cells #[.int .i64 am,(.slice ba ai.length bc),(.slice (some aX) al.length be)] 27 (0,0)))∧Aside0 (w'.heap[aT]? =some (.cells #[.int .i64 0,(.slice none 0 0),(.slice none 0 0)] 27 (0,0)))∧Aside0 (w'.heap[ap]? =some (.cells #[.int .i64 am,aJ,(.slice aG ax.length aH)] 27 (0,0)))∧Aside0 (Below w.heap.size w w'))
        case atStart=>exact⟨(dK),(0),rf,H',⟨Nat.le_refl _⟩,⟨by exact Kd.mM dd.o (fun _ hk=>hk.2)⟩,⟨by exact Kd.nV aj.o (fun _ hk=>⟨hk.2,hk.1⟩)⟩,⟨by exact Kd.mM ag.o (fun _ hk=>hk.2)⟩,aa,ab,ah,HB⟩
        case round=>
         clear H'
         clear cf b1
         obtain⟨bk,a9,rfl,HA,dP,bq,aj,ag,aa,ab,ah,HB⟩:=hrel
         cases gk with
         |zero=>exact nz_ HA.o
         |succ k4=>
          have H:=HA.o;clear HA;simp only[ni.l2]at H
          replace H:=Hi_ H;rcases H with⟨dv,H⟩|⟨dv,H⟩
          ·replace ⟨eV,H⟩:=Hd_ H
           replace ⟨eX,H⟩:=Hd_ H
           replace ⟨eY,H⟩:=Hd_ H
           replace ⟨eZ,H⟩:=Hd_ H
           replace ⟨dh,H⟩:=Ha_ H
           obtain⟨dL,bP⟩:=ex_ ((bk++[wrap64 ((rd (f_ ai aQ) a9)+1)]):List Int);rw[←bP]at H;have dp:=A_ bP;clear bP
           have H':=A_ H
           clear H;have fo:=aq.o;have fI:=ar.o;have fp:=ae.o;have fJ:=an.o;have d5:=bq3 aa.o
           have cJ:0≤(aQ:Int):=oa_
           have cO:aQ<(ai.length:Int):=oa_
           obtain⟨eO,eb,eh,eq,bv,bD,bB⟩:=qM aY.o aQ cJ cO
           cases eq
           replace bv:=cm_ HB bv;have bV:=A_ bB;have dN:=A_ bD;clear bB bD;replace cJ:=eq_true cJ;replace cO:=eq_true cO
           have cK:0≤(a9:Int):=oa_
           have cP:a9<((f_ ai aQ).length:Int):=oa_
           obtain⟨eP,ew,bw⟩:=Kd.nM bV.o a9 cK cP
           cases ew
           replace bw:=cm_ HB bw;replace cK:=eq_true cK;replace cP:=eq_true cP
           go_wp2_with (first|((with_reducible refine nG (b:=.append) (xs:= #[.tmp 78,.tmp 88]) rfl ?_);(try (refine qV rf ?_;dsimp only));at_builtin;refine Kd.qG (Kd.int .i64) (w0:=w) w.heap.size rfl (.tmp 78) (.tmp 88) 25 3 (.int .i64 0) 8 rfl Try.underlying25 info3 rfl d_ om u8 bk (wrap64 ((rd (f_ ai aQ) a9)+1)) [.int .i64 (wrap64 ((rd (f_ ai aQ) a9)+1))] (o1 (.slice aG ax.length aH)) (fun _=>False) rfl rfl ?aP (fun _ hk=>hk.elim) ?aF ?aO ?aB ?aS ?aL ?_;(case aP=>exact rfl);(case aB=>exact HB.o);(case aF=>exact(fun k_ hk=>Kd.fresh' (Kd.oV ag.o) k_ hk));(case aO=>exact bq.o);(case aS=>exact(mK HB.o));(case aL=>have:=dh.o;omega);intro fY iZ ho hb hg hat;rw[←dp.o]at ho;replace aj:=A_ (Kd.sF (ok:=(o1 (.slice aG ax.length aH))) (by exact Kd.nV aj.o (fun _ hk=>⟨hk.2,hk.1⟩)) hg hat);replace ag:=A_ (Kd.pq (ok:=(fun _=>True)) (by exact Kd.mM ag.o (fun _ hk=>⟨trivial,hk⟩)) hg hat);replace aa:=gR_ bq aa hg;replace ab:=gR_ bq ab hg;replace ah:=gR_ bq ah hg;replace HB:=A_ (hb);have de:=A_ (ho);clear bq;clear ho hb hg hat))
           go_roundg k4
           case measure=>have:=cV.o;have:=cW.o;have:=dO.o;have:=dP.o;omega
           case rel=>exact⟨(dL),(wrap64 (a9+1)),rf,H',⟨by have:=cV.o;have:=cW.o;have:=dO.o;have:=dP.o;omega⟩,de,⟨by exact Kd.nV aj.o (fun _ hk=>⟨hk.2,hk.1⟩)⟩,⟨by exact Kd.mM ag.o (fun _ hk=>hk.2)⟩,aa,ab,ah,HB⟩
          replace ⟨di,H⟩:=Ha_ H
          obtain⟨bS,bQ⟩:=ex_ ((av++[bk]):List (List Int));rw[←bQ]at H;have dq:=A_ bQ;clear bQ
          have H':=A_ H
          clear H;have fq:=aq.o;have fK:=ar.o;have fs:=ae.o;have fL:=an.o;have d6:=bq3 aa.o;have ft:=au.o;have fM:=ak.o;have d7:=bq3 ah.o;obtain⟨cZ,dy,eE⟩:=Kd.mU bq.o;subst eE
          go_wp2_with (first|((with_reducible refine nG (b:=.append) (xs:= #[.tmp 91,.tmp 93]) rfl ?_);(try (refine qV rf ?_;dsimp only));at_builtin;refine Kd.uq (Kd.slice 3 (Kd.int .i64)) (w0:=w) w.heap.size rfl (.tmp 91) (.tmp 93) 24 25 (.slice none 0 0) 24 rfl Try.underlying24 uO rfl d_ om aJ av bk [.slice cZ bk.length dy] (o1 (.slice aG ax.length aH)) (fun k_=>some k_=(.slice cZ bk.length dy:Value).ownBlock) rfl rfl ?aP (fun k_ ic=>((Kd.mM (ok':=fun k_=>((o1 (.slice aG ax.length aH))) k_∧some k_≠(aJ:Value).ownBlock) (Kd.pE (bq.o) (Kd.oL aj.o) d_) (fun k_ hk=>⟨hk.1,hk.2⟩))).1 k_ ic.symm) ?aF ?aO ?aB ?aS ?aL ?_;(case aP=>exact Kd.uR (Kd.mM (Kd.sD rfl (Kd.mM (ok':=fun k_=>((o1 (.slice aG ax.length aH))) k_∧some k_≠(aJ:Value).ownBlock) (Kd.pE (bq.o) (Kd.oL aj.o) d_) (fun k_ hk=>⟨hk.1,hk.2⟩))) (fun _ h_=>h_)));(case aB=>exact HB.o);(case aF=>exact(fun k_ hk=>Kd.fresh' (Kd.oV ag.o) k_ hk));(case aO=>exact(by exact Kd.nV aj.o (fun k_ hk=>⟨hk.2,fun e_=>hk.1 e_⟩)));(case aS=>exact(mK HB.o));(case aL=>have:=di.o;omega);intro fZ ja ho hb hg hat;rw[←dq.o]at ho;replace ag:=A_ (Kd.qH ag.o (Kd.oL aj.o) d_ hg);replace aa:=gS_ aj aa hg;replace ab:=gS_ aj ab hg;replace ah:=gS_ aj ah hg;replace HB:=A_ (hb);have b9:=A_ (ho);clear aj bq;clear ho hb hg hat;obtain⟨cA,cD,eF⟩:=Kd.rO b9.o;subst eF;have d8:=bq3 ah.o))
          go_roundg k4
          case measure=>have:=cV.o;have:=cW.o;have:=dO.o;have:=dP.o;omega
          case rel=>exact⟨(wrap64 (aQ+1)),(bS),(.slice cA bS.length cD),rf,H',⟨by have:=cV.o;have:=cW.o;have:=dO.o;have:=dP.o;omega⟩,⟨by exact Kd.nV (Kd.vW (p:=⟨ap,1,none⟩) (Kd.wR b9.o ah.o d_) (fun _ hk=>hk.2) (.slice cA bS.length cD)) (fun _ hk=>hk.1)⟩,⟨by exact Kd.mM (Kd.sM (p:=⟨ap,1,none⟩) (Kd.qi ag.o ah.o d_) (fun _ hk=>hk.2) (.slice cA bS.length cD)) (fun _ hk=>trivial)⟩,⟨by exact fa_ ae aa.o⟩,⟨by exact fa_ ak ab.o⟩,⟨by exact pu_ 1 ah.o rfl⟩,⟨wb_⟩⟩
       simp only[Option.some.injEq,Prod.mk.injEq]at H;obtain⟨rfl,rfl,rfl,rfl⟩:=H;have fu:=aq.o;have fN:=ar.o;have fv:=ae.o;have fO:=an.o;have dC:=bq3 aa.o;have eG:=au.o;have eH:=ak.o;have dD:=bq3 ah.o;have dE:=bq3 ab.o;obtain⟨cX,dw,dz⟩:=Kd.rO aj.o;subst dz
       go_wp2
       refine rt_ #[.int .i64 am,.slice cX av.length dw,.slice aG ax.length aH] (by exact pu_ 2 (pu_ 1 (pu_ 0 ab.o rfl) rfl) rfl) Try.underlying27 ?_;exact⟨_,_,rf,by exact Kd.nV (EF (tS_ aj ab)) (fun _ hk=>hk.1),by exact Kd.mM (xe (tR_ ag ab)) (fun _ hk=>trivial),wb_⟩
def qo.l0:Nat→List Int→List Int→Int→Option (Bool)
 |0,_,_,_=>none
 |k+1,x0,x1,x5=>if x5<(x0.length:Int)then(if 0≤x5 then(if x5<(x1.length:Int)then(if(rd x0 x5)=(rd x1 x5)then(qo.l0 k x0 x1 (wrap64 (x5+1)))else(some false))else(none))else(none))else(some true)
def qo.f (k:Nat) (l0:List Int) (l1:List Int):Option (Bool):=if(l0.length:Int)=(l1.length:Int)then(qo.l0 k l0 l1 0)else(some false)
theorem qo.calls (k:Nat) (A0:Option Addr) (c0:Nat) (l0:List Int) (A1:Option Addr) (c1:Nat) (l1:List Int) (r:Bool) (w:World) (hr0:Kd.C (Kd.int .i64) w A0 l0.length l0) (hc0:l0.length≤c0) (hr1:Kd.C (Kd.int .i64) w A1 l1.length l1) (hc1:l1.length≤c1) (h:qo.f k l0 l1=some r):
  Calls Try.prog 77 #[.slice A0 l0.length c0,.slice A1 l1.length c1] w fun e w'=>e=.returned (.bool r)∧nJ w w':=by
 have a_:=A_ hr0;have cK:=A_ hc0;clear hr0 hc0;have HR1:=A_ hr1;have cO:=A_ hc1;clear hr1 hc1;unfold qo.f at h;have H:=h;clear h
 replace H:=Hj_ H;rcases H with⟨c3,H⟩|⟨c3,H⟩
 ·have bE:((l0.length:Int)==(l1.length:Int))=true:=beq_iff_eq.mpr c3
  have bF:((l0.length:Int) !=(l1.length:Int))=false:=bne_eq_false_iff_eq.mpr c3
  have bG:(l0.length==l1.length)=true:=by first|simpa using c3|(simp at c3⊢;omega)
  clear c3
  have H':=A_ H
  clear H;go_enter Try.func77,Try.ntmps77
  go_wp2
  repeat (go_quiet (fail);try go_wp2)
  go_loopg [5] k (fun kq v5 w'=>∃ (aa:Int),v5=.int .i64 aa∧Aside0 (qo.l0 kq l0 l1 aa=some r)∧Aside0 (kq≤k)∧nJ w w')
  case atStart=>exact⟨(0),rf,H',⟨Nat.le_refl _⟩,by repeat (first|exact nJ.refl _|apply nJ.step)⟩
  case round=>
   clear H'
   clear bE bF bG
   obtain⟨aa,rfl,HA,aJ,⟨m1,rfl⟩⟩:=hrel
   cases gk with
   |zero=>exact nz_ HA.o
   |succ k1=>
    have H:=HA.o;clear HA;simp only[qo.l0]at H
    replace H:=Hi_ H;rcases H with⟨bf,H⟩|⟨bf,H⟩
    ·replace ⟨bU,H⟩:=Hd_ H
     replace ⟨bH,H⟩:=Hd_ H
     replace H:=Hj_ H;rcases H with⟨c7,H⟩|⟨c7,H⟩
     ·have bP:((rd l0 aa)==(rd l1 aa))=true:=beq_iff_eq.mpr c7
      have bQ:((rd l0 aa) !=(rd l1 aa))=false:=bne_eq_false_iff_eq.mpr c7
      clear c7
      have H':=A_ H
      clear H
      have ax:0≤(aa:Int):=oa_
      have aC:aa<(l0.length:Int):=oa_
      obtain⟨bB,br,bg⟩:=Kd.nM a_.o aa ax aC
      cases br
      replace ax:=eq_true ax;replace aC:=eq_true aC
      have ay:0≤(aa:Int):=oa_
      have aD:aa<(l1.length:Int):=oa_
      obtain⟨bC,bu,bh⟩:=Kd.nM HR1.o aa ay aD
      cases bu
      replace ay:=eq_true ay;replace aD:=eq_true aD
      go_wp2
      repeat (go_quiet (fail);try go_wp2)
      go_roundg k1
      case measure=>have:=aJ.o;omega
      case rel=>exact⟨(wrap64 (aa+1)),rf,H',⟨by have:=aJ.o;omega⟩,by repeat (first|exact nJ.refl _|apply nJ.step)⟩
     have bP:((rd l0 aa)==(rd l1 aa))=false:=beq_eq_false_iff_ne.mpr c7
     have bQ:((rd l0 aa) !=(rd l1 aa))=true:=bne_iff_ne.mpr c7
     obtain rfl:=Option.some.inj H
     have ax:0≤(aa:Int):=oa_
     have aC:aa<(l0.length:Int):=oa_
     obtain⟨bB,br,bg⟩:=Kd.nM a_.o aa ax aC
     cases br
     replace ax:=eq_true ax;replace aC:=eq_true aC
     have ay:0≤(aa:Int):=oa_
     have aD:aa<(l1.length:Int):=oa_
     obtain⟨bC,bu,bh⟩:=Kd.nM HR1.o aa ay aD
     cases bu
     replace ay:=eq_true ay;replace aD:=eq_true aD
     go_wp2
     repeat (go_quiet (fail);try go_wp2)
     go_ret
     exact⟨rf,by repeat (first|exact nJ.refl _|apply nJ.step)⟩
    obtain rfl:=Option.some.inj H
    go_wp2
    repeat (go_quiet (fail);try go_wp2)
    go_ret
    exact⟨rf,by repeat (first|exact nJ.refl _|apply nJ.step)⟩
 have bE:((l0.length:Int)==(l1.length:Int))=false:=beq_eq_false_iff_ne.mpr c3
 have bF:((l0.length:Int) !=(l1.length:Int))=true:=bne_iff_ne.mpr c3
 have bG:(l0.length==l1.length)=false:=by first|simpa using c3|(simp at c3⊢;omega)
 obtain rfl:=Option.some.inj H;go_enter Try.func77,Try.ntmps77
 go_wp2
 repeat (go_quiet (fail);try go_wp2)
 go_ret
 exact⟨rf,by repeat (first|exact nJ.refl _|apply nJ.step)⟩
mutual
def nT.l0:Nat→List (List Int)→List Int→Int→Int→Option (List Int)
 |0,_,_,_,_=>none
 |k+1,x0,x3,x4,x5=>if x5<(x0.length:Int)then(nT.l1 k x0 x3 x4 x5 (-1) 0)else(some x3)
def nT.l1:Nat→List (List Int)→List Int→Int→Int→Int→Int→Option (List Int)
 |0,_,_,_,_,_,_=>none
 |k+1,x0,x3,x4,x5,x6,x7=>if x7<x5 then(nT.j2 k x0 x3 x4 x5 x6 x7 (decide (x6<0)))else(nT.j2 k x0 x3 x4 x5 x6 x7 false)
def nT.j2:Nat→List (List Int)→List Int→Int→Int→Int→Int→Bool→Option (List Int)
 |0,_,_,_,_,_,_,_=>none
 |k+1,x0,x3,x4,x5,x6,x7,bY=>if bY=true then(if 0≤x7 then(if x7<(x0.length:Int)then(if 0≤x5 then(if x5<(x0.length:Int)then((qo.f k (f_ x0 x7) (f_ x0 x5)).bind fun bz=>(if bz=true then(if x7<(x3.length:Int)then(nT.l1 k x0 x3 x4 x5 (rd x3 x7) (wrap64 (x7+1)))else(none))else(nT.l1 k x0 x3 x4 x5 x6 (wrap64 (x7+1)))))else(none))else(none))else(none))else(none))else(if x6<0 then(if x3.length<17592186044416 then(nT.l0 k x0 (x3++[x4]) (wrap64 (x4+1)) (wrap64 (x5+1)))else(none))else(if x3.length<17592186044416 then(nT.l0 k x0 (x3++[x6]) x4 (wrap64 (x5+1)))else(none)))
end
def nT.f (k:Nat) (l0:List (List Int)):Option (List Int):=nT.l0 k l0 (([]:List Int)) 0 0
theorem nT.calls (k:Nat) (A0:Option Addr) (c0:Nat) (l0:List (List Int)) (r:List Int) (w:World) (hr0:Kd.C (Kd.slice 3 (Kd.int .i64)) w A0 l0.length l0) (hc0:l0.length≤c0) (h:nT.f k l0=some r):
  Calls Try.prog 72 #[.slice A0 l0.length c0] w fun e w'=>∃cu:Value,e=.returned (cu)∧Kd.R (Kd.int .i64) 3 w' w.heap.size (fun _=>True) cu r∧Below w.heap.size w w':=by
 have a_:=A_ hr0;have cK:=A_ hc0;clear hr0 hc0;have HB:=A_ (Below.refl w.heap.size w);unfold nT.f at h;have H:=h;clear h;obtain⟨bM,a9⟩:=ex_ ((([]:List Int)):List Int);rw[←a9]at H;have aw:=A_ a9;clear a9
 have H':=A_ H
 clear H;go_enter Try.func72,Try.ntmps72
 go_wp2_with (first|((with_reducible refine gd_ 8 rfl ?_);refine RL_ 8 3 [] [] rfl rfl (by go_simp;done) rfl rfl ?_;rintro bJ w2 ho3 hb - -;(rw[←aw.o]at ho3);have aM:=A_ (Kd.nE ho3 (mK HB.o));replace HB:=bs_ HB hb;clear hb ho3))
 repeat (go_quiet (first|((with_reducible refine gt_ 8 ?_);refine Kd.wF (Kd.int .i64) _ 3 ?hg (N:=8) ?hd (xs:=([]:List Int)) (inner:=[]) (ok:=fun _=>True) (okp:=fun _=>True) ?hr ?hp (fun _ hk=>hk) trivial (Below.refl _ _) (Nat.le_refl _) sp ?_;(case hd|hg=>rfl);(case hr=>first|(go_simp;done)|(go_simp;rfl));(case hp=>exact(qK.none _ _));rintro bJ w2 ho3 hb - -;(first|rw[←aw.o]at ho3|(simp only[Int.reduceToNat]at ho3;rw[←aw.o]at ho3));have aM:=A_ (Kd.nE ho3 (mK HB.o));replace HB:=bs_ HB hb;clear hb ho3));try go_wp2_with (first|((with_reducible refine gt_ 8 ?_);refine Kd.wF (Kd.int .i64) _ 3 ?hg (N:=8) ?hd (xs:=([]:List Int)) (inner:=[]) (ok:=fun _=>True) (okp:=fun _=>True) ?hr ?hp (fun _ hk=>hk) trivial (Below.refl _ _) (Nat.le_refl _) sp ?_;(case hd|hg=>rfl);(case hr=>first|(go_simp;done)|(go_simp;rfl));(case hp=>exact(qK.none _ _));rintro bJ w2 ho3 hb - -;(first|rw[←aw.o]at ho3|(simp only[Int.reduceToNat]at ho3;rw[←aw.o]at ho3));have aM:=A_ (Kd.nE ho3 (mK HB.o));replace HB:=bs_ HB hb;clear hb ho3)))
 go_loopg [3,4,5] k (fun kq v3 v4 v5 w'=>∃ (af:List Int) (am:Int) (aa:Int),v4=.int .i64 am∧v5=.int .i64 aa∧Aside0 (nT.l0 kq l0 af am aa=some r)∧Aside0 (kq≤k)∧Aside0 (Kd.R (Kd.int .i64) 3 w' w.heap.size (fun _=>True) v3 af)∧Aside0 (Below w.heap.size w w'))
 case atStart=>exact⟨(bM),(0),(0),rf,rf,H',⟨Nat.le_refl _⟩,aM,HB⟩
 case round=>
  clear H';obtain⟨af,am,aa,rfl,rfl,HA,aJ,ae,HB⟩:=hrel
  cases gk with
  |zero=>exact nz_ HA.o
  |succ k1=>
   have H:=HA.o;clear HA;simp only[nT.l0]at H
   replace H:=Hi_ H;rcases H with⟨bf,H⟩|⟨bf,H⟩
   ·have H':=A_ H
    clear H
    go_wp2
    repeat (go_quiet (fail);try go_wp2)
    go_loopg [6,7] k1 (fun kq v6 v7 w'=>∃ (ar:Int) (ab:Int),v6=.int .i64 ar∧v7=.int .i64 ab∧Aside0 (nT.l1 kq l0 af am aa ar ab=some r)∧Aside0 (kq≤k1)∧Aside0 (Kd.R (Kd.int .i64) 3 w' w.heap.size (fun _=>True) u3 af)∧Aside0 (Below w.heap.size w w'))
    case atStart=>exact⟨((-1)),(0),rf,rf,H',⟨Nat.le_refl _⟩,ae,HB⟩
    case round=>
     clear H'
     try clear bf
     obtain⟨ar,ab,rfl,rfl,HA,be,ae,HB⟩:=hrel
     cases gk with
     |zero=>exact nz_ HA.o
     |succ k2=>
      have H:=HA.o;clear HA;simp only[nT.l1]at H;have b_:=A_ H;clear H
      go_upto_region 8 with(fail)
      repeat (go_quiet (fail);go_upto_region 8 with(fail))
      go_cut [21] (fun bX wc=>∃ (kq:Nat) (aI:Bool),bX=.bool aI∧Aside0 (nT.j2 kq l0 af am aa ar ab aI=some r)∧Aside0 (kq≤k2)∧Aside0 (Kd.R (Kd.int .i64) 3 wc w.heap.size (fun _=>True) u3 af)∧Aside0 (Below w.heap.size w wc))
      case first=>
       have H:=b_.o;clear b_
       replace H:=Hi_ H;rcases H with⟨bH,H⟩|⟨bH,H⟩
       ·(skip)
        have H':=A_ H
        clear H
        go_wp2
        repeat (go_quiet (fail);try go_wp2)
        go_meet
        case rel=>exact⟨_,(decide (ar<0)),rf,H',⟨by have:=aJ.o;have:=be.o;omega⟩,ae,HB⟩
       (skip)
       have H':=A_ H
       clear H
       go_wp2
       repeat (go_quiet (fail);try go_wp2)
       go_meet
       case rel=>exact⟨_,(false),rf,H',⟨by have:=aJ.o;have:=be.o;omega⟩,ae,HB⟩
      case rest=>
       clear b_;obtain⟨kq,aI,rfl,HA,bi,ae,HB⟩:=hcut
       cases kq with
       |zero=>exact nz_ HA.o
       |succ aZ=>
        have H:=HA.o;clear HA;simp only[nT.j2]at H
        replace H:=Hb_ H;rcases H with⟨rfl,H⟩|⟨rfl,H⟩
        ·replace ⟨bV,H⟩:=Hd_ H
         replace ⟨bW,H⟩:=Hd_ H
         replace ⟨bR,H⟩:=Hd_ H
         replace ⟨bS,H⟩:=Hd_ H
         replace ⟨bz,bZ,H⟩:=bA_ H
         replace H:=Hb_ H;rcases H with⟨rfl,H⟩|⟨rfl,H⟩
         ·replace ⟨bT,H⟩:=Hd_ H
          have H':=A_ H
          clear H
          have az:0≤(ab:Int):=oa_
          have aE:ab<(l0.length:Int):=oa_
          obtain⟨aX,bk,bn,bv,ak,ap,an⟩:=qM a_.o ab az aE
          cases bv
          replace ak:=cm_ HB ak;have ai:=A_ an;have ag:=A_ ap;clear an ap;replace az:=eq_true az;replace aE:=eq_true aE
          have aA:0≤(aa:Int):=oa_
          have aG:aa<(l0.length:Int):=oa_
          obtain⟨aY,bm,bq,bw,al,aq,ao⟩:=qM a_.o aa aA aG;obtain rfl:aX=aY:=(by injection bw);replace al:=cm_ HB al;have aj:=A_ ao;have ah:=A_ aq;clear ao aq;replace aA:=eq_true aA;replace aG:=eq_true aG
          go_wp2_with (first|(go_at_call 77;(with_reducible refine(qo.calls aZ _ _ (f_ l0 ab) _ _ (f_ l0 aa) true _ ?J ?U ?aK ?aR bZ.o).mono ?_);(case J=>exact(Kd.mO ai.o HB.o));(case U=>exact ag.o);(case aK=>exact(Kd.mO aj.o HB.o));(case aR=>exact ah.o);rintro e w' ⟨rfl,⟨nd,rfl⟩⟩;skip;obtain⟨bA,bI,a8⟩:=Kd.mU ae.o;subst a8;have au:0≤(ab:Int):=of_decide_eq_true (by first|(with_reducible assumption)|assumption);have av:ab<(af.length:Int):=of_decide_eq_true (by first|(with_reducible assumption)|assumption);obtain⟨bj,a7,aH⟩:=Kd.nM (Kd.mX ae.o).2.2 ab au av;cases a7;replace au:=eq_true au;replace av:=eq_true av))
          repeat (go_quiet (first|(go_at_call 77;(with_reducible refine(qo.calls aZ _ _ (f_ l0 ab) _ _ (f_ l0 aa) true _ ?J ?U ?aK ?aR bZ.o).mono ?_);(case J=>repeat (first|exact(Kd.mO ai.o HB.o)|(with_reducible refine Kd.C_alloc ?_ _)|(with_reducible refine Kd.oH ?_ _)|(with_reducible refine Kd.pG ?_)));(case U=>exact ag.o);(case aK=>repeat (first|exact(Kd.mO aj.o HB.o)|(with_reducible refine Kd.C_alloc ?_ _)|(with_reducible refine Kd.oH ?_ _)|(with_reducible refine Kd.pG ?_)));(case aR=>exact ah.o);rintro e w' ⟨rfl,⟨nd,rfl⟩⟩;exact⟨rfl,_,World.drewN_drewN _ _ _⟩;obtain⟨bA,bI,a8⟩:=Kd.mU ae.o;subst a8;have au:0≤(ab:Int):=oa_;have av:ab<(af.length:Int):=oa_;obtain⟨bj,a7,aH⟩:=Kd.nM (Kd.mX ae.o).2.2 ab au av;cases a7;replace au:=eq_true au;replace av:=eq_true av));try go_wp2_with (first|(go_at_call 77;(with_reducible refine(qo.calls aZ _ _ (f_ l0 ab) _ _ (f_ l0 aa) true _ ?J ?U ?aK ?aR bZ.o).mono ?_);(case J=>exact(Kd.mO ai.o HB.o));(case U=>exact ag.o);(case aK=>exact(Kd.mO aj.o HB.o));(case aR=>exact ah.o);rintro e w' ⟨rfl,⟨nd,rfl⟩⟩;skip;obtain⟨bA,bI,a8⟩:=Kd.mU ae.o;subst a8;have au:0≤(ab:Int):=of_decide_eq_true (by first|(with_reducible assumption)|assumption);have av:ab<(af.length:Int):=of_decide_eq_true (by first|(with_reducible assumption)|assumption);obtain⟨bj,a7,aH⟩:=Kd.nM (Kd.mX ae.o).2.2 ab au av;cases a7;replace au:=eq_true au;replace av:=eq_true av)))
          go_roundg aZ
          case measure=>have:=aJ.o;have:=be.o;have:=bi.o;omega
          case rel=>exact⟨(rd af ab),(wrap64 (ab+1)),rf,rf,H',⟨by have:=aJ.o;have:=be.o;have:=bi.o;omega⟩,⟨by(with_reducible repeat (first|apply Kd.R_alloc|apply Kd.uP|apply Kd.pR));exact ae.o⟩,⟨wb_⟩⟩
         have H':=A_ H
         clear H
         have az:0≤(ab:Int):=oa_
         have aE:ab<(l0.length:Int):=oa_
         obtain⟨aX,bk,bn,bv,ak,ap,an⟩:=qM a_.o ab az aE
         cases bv
         replace ak:=cm_ HB ak;have ai:=A_ an;have ag:=A_ ap;clear an ap;replace az:=eq_true az;replace aE:=eq_true aE
         have aA:0≤(aa:Int):=oa_
         have aG:aa<(l0.length:Int):=oa_
         obtain⟨aY,bm,bq,bw,al,aq,ao⟩:=qM a_.o aa aA aG;obtain rfl:aX=aY:=(by injection bw);replace al:=cm_ HB al;have aj:=A_ ao;have ah:=A_ aq;clear ao aq;replace aA:=eq_true aA;replace aG:=eq_true aG
         go_wp2_with (first|(go_at_call 77;(with_reducible refine(qo.calls aZ _ _ (f_ l0 ab) _ _ (f_ l0 aa) false _ ?J ?U ?aK ?aR bZ.o).mono ?_);(case J=>exact(Kd.mO ai.o HB.o));(case U=>exact ag.o);(case aK=>exact(Kd.mO aj.o HB.o));(case aR=>exact ah.o);rintro e w' ⟨rfl,⟨nd,rfl⟩⟩;skip))
         repeat (go_quiet (first|(go_at_call 77;(with_reducible refine(qo.calls aZ _ _ (f_ l0 ab) _ _ (f_ l0 aa) false _ ?J ?U ?aK ?aR bZ.o).mono ?_);(case J=>repeat (first|exact(Kd.mO ai.o HB.o)|(with_reducible refine Kd.C_alloc ?_ _)|(with_reducible refine Kd.oH ?_ _)|(with_reducible refine Kd.pG ?_)));(case U=>exact ag.o);(case aK=>repeat (first|exact(Kd.mO aj.o HB.o)|(with_reducible refine Kd.C_alloc ?_ _)|(with_reducible refine Kd.oH ?_ _)|(with_reducible refine Kd.pG ?_)));(case aR=>exact ah.o);rintro e w' ⟨rfl,⟨nd,rfl⟩⟩;exact⟨rfl,_,World.drewN_drewN _ _ _⟩));try go_wp2_with (first|(go_at_call 77;(with_reducible refine(qo.calls aZ _ _ (f_ l0 ab) _ _ (f_ l0 aa) false _ ?J ?U ?aK ?aR bZ.o).mono ?_);(case J=>exact(Kd.mO ai.o HB.o));(case U=>exact ag.o);(case aK=>exact(Kd.mO aj.o HB.o));(case aR=>exact ah.o);rintro e w' ⟨rfl,⟨nd,rfl⟩⟩;skip)))
         go_roundg aZ
         case measure=>have:=aJ.o;have:=be.o;have:=bi.o;omega
         case rel=>exact⟨(ar),(wrap64 (ab+1)),rf,rf,H',⟨by have:=aJ.o;have:=be.o;have:=bi.o;omega⟩,⟨by(with_reducible repeat (first|apply Kd.R_alloc|apply Kd.uP|apply Kd.pR));exact ae.o⟩,⟨wb_⟩⟩
        replace H:=Hi_ H;rcases H with⟨bD,H⟩|⟨bD,H⟩
        ·replace ⟨aT,H⟩:=Ha_ H
         obtain⟨bN,ba⟩:=ex_ ((af++[am]):List Int);rw[←ba]at H;have aV:=A_ ba;clear ba
         have H':=A_ H
         clear H
         go_wp2_with (first|((with_reducible refine nG (b:=.append) (xs:= #[.tmp 42,.tmp 44]) rfl ?_);at_builtin;refine Kd.qG (Kd.int .i64) (w0:=w) w.heap.size rfl (.tmp 42) (.tmp 44) 25 3 (.int .i64 0) 8 rfl Try.underlying25 info3 rfl d_ om u3 af am [.int .i64 am] (fun _=>True) (fun _=>False) rfl rfl ?aP (fun _ hk=>hk.elim) ?aF ?aO ?aB ?aS ?aL ?_;(case aP=>exact rfl);(case aB=>exact HB.o);(case aF=>exact(fun _ _=>trivial));(case aO=>exact ae.o);(case aS=>exact(mK HB.o));(case aL=>have:=aT.o;omega);intro bK cz ho hb hg hat;rw[←aV.o]at ho;replace HB:=A_ (hb);have aN:=A_ (ho);clear ae;clear ho hb hg hat))
         repeat (go_quiet (first|((with_reducible refine nG (b:=.append) (xs:= #[.tmp 42,.tmp 44]) rfl ?_);at_builtin;refine Kd.qG (Kd.int .i64) (w0:=w) w.heap.size rfl (.tmp 42) (.tmp 44) 25 3 (.int .i64 0) 8 rfl Try.underlying25 info3 rfl d_ om u3 af am [.int .i64 am] (fun _=>True) (fun _=>False) rfl rfl ?aP (fun _ hk=>hk.elim) ?aF ?aO ?aB ?aS ?aL ?_;(case aP=>exact rfl);(case aB=>exact HB.o);(case aF=>exact(fun _ _=>trivial));(case aO=>exact ae.o);(case aS=>exact(mK HB.o));(case aL=>have:=aT.o;omega);intro bK cz ho hb hg hat;rw[←aV.o]at ho;replace HB:=A_ (hb);have aN:=A_ (ho);clear ae;clear ho hb hg hat));try go_wp2_with (first|((with_reducible refine nG (b:=.append) (xs:= #[.tmp 42,.tmp 44]) rfl ?_);at_builtin;refine Kd.qG (Kd.int .i64) (w0:=w) w.heap.size rfl (.tmp 42) (.tmp 44) 25 3 (.int .i64 0) 8 rfl Try.underlying25 info3 rfl d_ om u3 af am [.int .i64 am] (fun _=>True) (fun _=>False) rfl rfl ?aP (fun _ hk=>hk.elim) ?aF ?aO ?aB ?aS ?aL ?_;(case aP=>exact rfl);(case aB=>exact HB.o);(case aF=>exact(fun _ _=>trivial));(case aO=>exact ae.o);(case aS=>exact(mK HB.o));(case aL=>have:=aT.o;omega);intro bK cz ho hb hg hat;rw[←aV.o]at ho;replace HB:=A_ (hb);have aN:=A_ (ho);clear ae;clear ho hb hg hat)))
         go_roundg aZ
         case measure=>have:=aJ.o;have:=be.o;have:=bi.o;omega
         case rel=>exact⟨(bN),(wrap64 (am+1)),(wrap64 (aa+1)),rf,rf,H',⟨by have:=aJ.o;have:=be.o;have:=bi.o;omega⟩,aN,HB⟩
        replace ⟨aU,H⟩:=Ha_ H
        obtain⟨bO,bc⟩:=ex_ ((af++[ar]):List Int);rw[←bc]at H;have aW:=A_ bc;clear bc
        have H':=A_ H
        clear H
        go_wp2_with (first|((with_reducible refine nG (b:=.append) (xs:= #[.tmp 42,.tmp 44]) rfl ?_);at_builtin;refine Kd.qG (Kd.int .i64) (w0:=w) w.heap.size rfl (.tmp 42) (.tmp 44) 25 3 (.int .i64 0) 8 rfl Try.underlying25 info3 rfl d_ om u3 af ar [.int .i64 ar] (fun _=>True) (fun _=>False) rfl rfl ?aP (fun _ hk=>hk.elim) ?aF ?aO ?aB ?aS ?aL ?_;(case aP=>exact rfl);(case aB=>exact HB.o);(case aF=>exact(fun _ _=>trivial));(case aO=>exact ae.o);(case aS=>exact(mK HB.o));(case aL=>have:=aU.o;omega);intro bL cB ho hb hg hat;rw[←aW.o]at ho;replace HB:=A_ (hb);have aQ:=A_ (ho);clear ae;clear ho hb hg hat))
        repeat (go_quiet (first|((with_reducible refine nG (b:=.append) (xs:= #[.tmp 42,.tmp 44]) rfl ?_);at_builtin;refine Kd.qG (Kd.int .i64) (w0:=w) w.heap.size rfl (.tmp 42) (.tmp 44) 25 3 (.int .i64 0) 8 rfl Try.underlying25 info3 rfl d_ om u3 af ar [.int .i64 ar] (fun _=>True) (fun _=>False) rfl rfl ?aP (fun _ hk=>hk.elim) ?aF ?aO ?aB ?aS ?aL ?_;(case aP=>exact rfl);(case aB=>exact HB.o);(case aF=>exact(fun _ _=>trivial));(case aO=>exact ae.o);(case aS=>exact(mK HB.o));(case aL=>have:=aU.o;omega);intro bL cB ho hb hg hat;rw[←aW.o]at ho;replace HB:=A_ (hb);have aQ:=A_ (ho);clear ae;clear ho hb hg hat));try go_wp2_with (first|((with_reducible refine nG (b:=.append) (xs:= #[.tmp 42,.tmp 44]) rfl ?_);at_builtin;refine Kd.qG (Kd.int .i64) (w0:=w) w.heap.size rfl (.tmp 42) (.tmp 44) 25 3 (.int .i64 0) 8 rfl Try.underlying25 info3 rfl d_ om u3 af ar [.int .i64 ar] (fun _=>True) (fun _=>False) rfl rfl ?aP (fun _ hk=>hk.elim) ?aF ?aO ?aB ?aS ?aL ?_;(case aP=>exact rfl);(case aB=>exact HB.o);(case aF=>exact(fun _ _=>trivial));(case aO=>exact ae.o);(case aS=>exact(mK HB.o));(case aL=>have:=aU.o;omega);intro bL cB ho hb hg hat;rw[←aW.o]at ho;replace HB:=A_ (hb);have aQ:=A_ (ho);clear ae;clear ho hb hg hat)))
        go_roundg aZ
        case measure=>have:=aJ.o;have:=be.o;have:=bi.o;omega
        case rel=>exact⟨(bO),(am),(wrap64 (aa+1)),rf,rf,H',⟨by have:=aJ.o;have:=be.o;have:=bi.o;omega⟩,aQ,HB⟩
   obtain rfl:=Option.some.inj H
   go_wp2
   repeat (go_quiet (fail);try go_wp2)
   go_ret
   exact⟨_,rf,ae.o,HB.o⟩
mutual
def nu.l0:Nat→List (List Int)→Int→Int→List (List Int)→List Int→Option (List Int)
 |0,_,_,_,_,_=>none
 |k+1,x3,x4,ak,ab,ah=>if x4<(ah.length:Int)then(if 0≤x4 then(if x3.length<5864062014805 then(nu.l0 k (x3++[(([rd ah x4]:List Int))]) (wrap64 (x4+1)) ak ab ah)else(none))else(none))else((nT.f k x3).bind fun bm=>(nu.l1 k bm 0 ak ab ah))
def nu.l1:Nat→List Int→Int→Int→List (List Int)→List Int→Option (List Int)
 |0,_,_,_,_,_=>none
 |k+1,x5,x6,ak,ab,ah=>if x6<(ab.length:Int)then(nu.l2 k (([]:List (List Int))) x5 x6 0 ak ab ah)else(some x5)
def nu.l2:Nat→List (List Int)→List Int→Int→Int→Int→List (List Int)→List Int→Option (List Int)
 |0,_,_,_,_,_,_,_=>none
 |k+1,x3,x5,x6,x7,ak,ab,ah=>if x7<(ab.length:Int)then(if 0≤x7 then(if x7<(x5.length:Int)then(nu.l3 k x3 x5 x6 x7 (([rd x5 x7]:List Int)) 0 ak ab ah)else(none))else(none))else((nT.f k x3).bind fun bn=>(nu.l1 k bn (wrap64 (x6+1)) ak ab ah))
def nu.l3:Nat→List (List Int)→List Int→Int→Int→List Int→Int→Int→List (List Int)→List Int→Option (List Int)
 |0,_,_,_,_,_,_,_,_,_=>none
 |k+1,x3,x5,x6,x7,x8,x9,ak,ab,ah=>if x9<ak then(if 0≤x7 then(if x7<(ab.length:Int)then(if 0≤x9 then(if x9<((f_ ab x7).length:Int)then(if 0≤(rd (f_ ab x7) x9)then(if(rd (f_ ab x7) x9)<(x5.length:Int)then(if x8.length<17592186044416 then(nu.l3 k x3 x5 x6 x7 (x8++[rd x5 (rd (f_ ab x7) x9)]) (wrap64 (x9+1)) ak ab ah)else(none))else(none))else(none))else(none))else(none))else(none))else(none))else(if x3.length<5864062014805 then(nu.l2 k (x3++[x8]) x5 x6 (wrap64 (x7+1)) ak ab ah)else(none))
end
def nu.f (k:Nat) (am:Int) (ae:List (List Int)) (af:List Int):Option (List Int):=(m_.f k am ae af).bind fun bO=>(if bO=true then(nu.l0 k (([]:List (List Int))) 0 am ae af)else(some (([]:List Int))))
theorem nu.calls (k:Nat) (am:Int) (az:Option Addr) (aC:Nat) (ae:List (List Int)) (aA:Option Addr) (aD:Nat) (af:List Int) (r:List Int) (w:World) (bB:Kd.C (Kd.slice 3 (Kd.int .i64)) w az ae.length ae) (bz:ae.length≤aC) (bC:Kd.C (Kd.int .i64) w aA af.length af) (bA:af.length≤aD) (h:nu.f k am ae af=some r):
  Calls Try.prog 59 #[.agg #[.int .i64 am,.slice az ae.length aC,.slice aA af.length aD]] w fun e w'=>∃aR:Value,e=.returned (aR)∧Kd.R (Kd.int .i64) 3 w' w.heap.size (fun _=>True) aR r∧Below w.heap.size w w':=by
 have aZ:=Try.underlying27;have aN:=A_ bB;have bq:=A_ bz;clear bB bz;have aQ:=A_ bC;have br:=A_ bA;clear bC bA;have HB:=A_ (Below.refl w.heap.size w);unfold nu.f at h;have H:=h;clear h;replace ⟨bO,A2,H⟩:=bA_ H
 replace H:=Hb_ H;rcases H with⟨rfl,H⟩|⟨rfl,H⟩
 ·obtain⟨cE,aV⟩:=ex_ ((([]:List (List Int))):List (List Int));rw[←aV]at H;have b9:=A_ aV;clear aV
  have H':=A_ H
  clear H;go_enter Try.func59,Try.ntmps59
  go_wp2_with (first|((with_reducible refine gt_ 1 ?_);refine be_ 1 #[.int .i64 am,.slice az ae.length aC,.slice aA af.length aD] 27 ?_;intro aG hg w4 J hb;have aa:=A_ (J);have bU:=lh_ HB hg;have bT:=lh_ HB hg;replace HB:=bs_ HB hb;clear hb J hg;have bD:=bq3 aa.o)|((with_reducible refine gc_ 33 rfl ?_);refine cM_ E33 11 (m_.calls k am _ _ ae _ _ af true _ (Kd.mO aN.o HB.o) bq.o (Kd.mO aQ.o HB.o) br.o A2.o) ?_;rintro e w6 ⟨rfl,hb⟩;refine⟨_,rfl,?_⟩;replace aa:=bb_ aa hb;replace HB:=bs_ HB hb;clear hb;(try clear hi))|((with_reducible refine gt_ 14 ?_);refine Kd.CK (Kd.slice 3 (Kd.int .i64)) _ 25 ?hg (N:=14) ?hd (xs:=([]:List (List Int))) (inner:=[]) (ok:=fun _=>True) (okp:=fun _=>True) ?hr ?hp (fun _ hk=>hk) trivial (Below.refl _ _) (Nat.le_refl _) sp ?_;(case hd|hg=>rfl);(case hr=>go_simp;done);(case hp=>exact(qK.none _ _));rintro dE w7 U hb - -;(rw[←b9.o]at U);have bW:=A_ (Kd.uy U (mK HB.o));replace aa:=bb_ aa hb;replace HB:=bs_ HB hb;clear hb U))
  go_loopg [3,4] k (fun kq v3 v4 w'=>∃ (ay:List (List Int)) (ao:Int),v4=.int .i64 ao∧Aside0 (nu.l0 kq ay ao am ae af=some r)∧Aside0 (kq≤k)∧Aside0 (Kd.S (Kd.slice 3 (Kd.int .i64)) 25 w' w.heap.size (fun _=>True) v3 ay)∧Aside0 (w'.heap[aG]? =some (.cells #[.int .i64 am,(.slice az ae.length aC),(.slice aA af.length aD)] 27 (0,0)))∧Aside0 (Below w.heap.size w w'))
  case atStart=>exact⟨(cE),(0),rf,H',⟨Nat.le_refl _⟩,bW,aa,HB⟩
  case round=>
   clear H'
   try clear bD
   obtain⟨ay,ao,rfl,HA,bu,ai,aa,HB⟩:=hrel
   cases gk with
   |zero=>exact nz_ HA.o
   |succ k1=>
    have H:=HA.o;clear HA;simp only[nu.l0]at H
    replace H:=Hi_ H;rcases H with⟨cB,H⟩|⟨cB,H⟩
    ·replace ⟨dp,H⟩:=Hd_ H
     obtain⟨ba,aW⟩:=ex_ ((([rd af ao]:List Int)):List Int);rw[←aW]at H;have cc:=A_ aW;clear aW
     replace ⟨b5,H⟩:=Ha_ H
     obtain⟨cF,aX⟩:=ex_ ((ay++[ba]):List (List Int));rw[←aX]at H;have cd:=A_ aX;clear aX
     have H':=A_ H
     clear H;have cN:=bq3 aa.o
     have bG:0≤(ao:Int):=oa_
     have bK:ao<(af.length:Int):=oa_
     obtain⟨dk,cY,av⟩:=Kd.nM aQ.o ao bG bK
     cases cY
     replace av:=cm_ HB av;replace bG:=eq_true bG;replace bK:=eq_true bK
     go_wp2_with (first|((with_reducible refine gt_ 28 ?_);refine Kd.wF (Kd.int .i64) _ 3 ?hg (N:=28) ?hd (xs:=([rd af ao]:List Int)) (inner:=[.int .i64 (rd af ao)]) (ok:=fun _=>True) (okp:=fun _=>True) ?hr ?hp (fun _ hk=>hk) trivial (Below.refl _ _) (Nat.le_refl _) sp ?_;(case hd|hg=>rfl);(case hr=>go_simp;done);(case hp=>exact(qK.one (show Kd.M (Kd.int .i64) _ _ _ (rd af ao) [.int .i64 (rd af ao)]from rfl) (qK.none _ _)));rintro dF cu bh hb - -;(rw[←cc.o]at bh);replace ai:=A_ (Kd.rz ai.o (Kd.nW bh) hb);have aI:=A_ (Kd.nE bh (mK HB.o));replace aa:=bb_ aa hb;replace HB:=bs_ HB hb;clear hb bh;obtain⟨bR,cC,de⟩:=Kd.mU aI.o;subst de)|((with_reducible refine nG (b:=.append) (xs:= #[.tmp 22,.tmp 29]) rfl ?_);at_builtin;refine Kd.uq (Kd.slice 3 (Kd.int .i64)) (w0:=w) w.heap.size rfl (.tmp 22) (.tmp 29) 24 25 (.slice none 0 0) 24 rfl Try.underlying24 uO rfl d_ om u3 ay ba [.slice bR ba.length cC] (fun _=>True) (fun k_=>some k_=(.slice bR ba.length cC:Value).ownBlock) rfl rfl ?aP (fun k_ aK=>((Kd.mM (ok':=fun k_=>((fun _=>True)) k_∧some k_≠(u3:Value).ownBlock) (Kd.pE (aI.o) (Kd.oL ai.o) d_) (fun k_ hk=>⟨trivial,hk.2⟩))).1 k_ aK.symm) ?aF ?aO ?aB ?aS ?aL ?_;(case aP=>exact Kd.uR (Kd.mM (Kd.sD rfl (Kd.mM (ok':=fun k_=>((fun _=>True)) k_∧some k_≠(u3:Value).ownBlock) (Kd.pE (aI.o) (Kd.oL ai.o) d_) (fun k_ hk=>⟨trivial,hk.2⟩))) (fun _ h_=>h_)));(case aB=>exact HB.o);(case aF=>exact(fun _ _=>trivial));(case aO=>exact(by exact Kd.nV ai.o (fun k_ hk=>⟨trivial,fun e_=>hk.2 e_⟩)));(case aS=>exact(mK HB.o));(case aL=>have:=b5.o;omega);intro dG cz ho hb hg hat;rw[←cd.o]at ho;replace aa:=gS_ ai aa hg;replace HB:=A_ (hb);have bX:=A_ (ho);clear ai aI;clear ho hb hg hat))
     go_roundg k1
     case measure=>have:=bu.o;omega
     case rel=>exact⟨(cF),(wrap64 (ao+1)),rf,H',⟨by have:=bu.o;omega⟩,bX,aa,HB⟩
    replace ⟨bm,a_,H⟩:=bA_ H
    have H':=A_ H
    clear H;have be:=bq3 aa.o;obtain⟨dy,dB,df⟩:=Kd.rO ai.o;subst df
    go_wp2_with (first|((with_reducible refine gc_ 72 rfl ?_);refine cM_ E72 32 (nT.calls k1 _ _ ay bm _ ((Kd.rq ai.o).2.2) ((Kd.rq ai.o).2.1) a_.o) ?_;rintro e dN ⟨dH,rfl,ho0,hb⟩;refine⟨_,rfl,?_⟩;replace ai:=A_ (Kd.rz ai.o (Kd.nW ho0) hb);have bY:=A_ (Kd.nE ho0 (mK HB.o));replace aa:=bb_ aa hb;replace HB:=bs_ HB hb;clear hb;(try clear ho0)))
    go_loopg [5,6] k1 (fun kq v5 v6 w'=>∃ (aj:List Int) (ar:Int),v6=.int .i64 ar∧Aside0 (nu.l1 kq aj ar am ae af=some r)∧Aside0 (kq≤k1)∧Aside0 (Kd.R (Kd.int .i64) 3 w' w.heap.size (fun _=>True) v5 aj)∧Aside0 (w'.heap[aG]? =some (.cells #[.int .i64 am,(.slice az ae.length aC),(.slice aA af.length aD)] 27 (0,0)))∧Aside0 (Below w.heap.size w w'))
    case atStart=>exact⟨(bm),(0),rf,H',⟨Nat.le_refl _⟩,bY,aa,HB⟩
    case round=>
     clear H'
     clear cB be
     obtain⟨aj,ar,rfl,HA,bP,al,aa,HB⟩:=hrel
     cases gk with
     |zero=>exact nz_ HA.o
     |succ k2=>
      have H:=HA.o;clear HA;simp only[nu.l1]at H
      replace H:=Hi_ H;rcases H with⟨bv,H⟩|⟨bv,H⟩
      ·obtain⟨cG,aY⟩:=ex_ ((([]:List (List Int))):List (List Int));rw[←aY]at H;have cf:=A_ aY;clear aY
       have H':=A_ H
       clear H;have bf:=bq3 aa.o
       go_wp2_with (first|((with_reducible refine gt_ 40 ?_);refine Kd.CK (Kd.slice 3 (Kd.int .i64)) _ 25 ?hg (N:=40) ?hd (xs:=([]:List (List Int))) (inner:=[]) (ok:=fun _=>True) (okp:=fun _=>True) ?hr ?hp (fun _ hk=>hk) trivial (Below.refl _ _) (Nat.le_refl _) sp ?_;(case hd|hg=>rfl);(case hr=>go_simp;done);(case hp=>exact(qK.none _ _));rintro dI dO bE hb - -;(rw[←cf.o]at bE);have bZ:=A_ (Kd.uy (Kd.xg bE (Kd.oV al.o)) (mK HB.o));replace al:=A_ (Kd.nX al.o hb);replace aa:=bb_ aa hb;replace HB:=bs_ HB hb;clear hb bE))
       go_loopg [3,7] k2 (fun kq v3 v7 w'=>∃ (aq:List (List Int)) (ag:Int),v7=.int .i64 ag∧Aside0 (nu.l2 kq aq aj ar ag am ae af=some r)∧Aside0 (kq≤k2)∧Aside0 (Kd.S (Kd.slice 3 (Kd.int .i64)) 25 w' w.heap.size (o1 u5) v3 aq)∧Aside0 (Kd.R (Kd.int .i64) 3 w' w.heap.size (fun _=>True) u5 aj)∧Aside0 (w'.heap[aG]? =some (.cells #[.int .i64 am,(.slice az ae.length aC),(.slice aA af.length aD)] 27 (0,0)))∧Aside0 (Below w.heap.size w w'))
       case atStart=>exact⟨(cG),(0),rf,H',⟨Nat.le_refl _⟩,⟨by exact Kd.nV bZ.o (fun _ hk=>hk.2)⟩,al,aa,HB⟩
       case round=>
        clear H'
        clear bv bf
        obtain⟨aq,ag,rfl,HA,bQ,ai,al,aa,HB⟩:=hrel
        cases gk with
        |zero=>exact nz_ HA.o
        |succ k3=>
         have H:=HA.o;clear HA;simp only[nu.l2]at H
         replace H:=Hi_ H;rcases H with⟨bw,H⟩|⟨bw,H⟩
         ·replace ⟨co,H⟩:=Hd_ H
          replace ⟨cw,H⟩:=Hd_ H
          obtain⟨cH,a7⟩:=ex_ ((([rd aj ag]:List Int)):List Int);rw[←a7]at H;have cg:=A_ a7;clear a7
          have H':=A_ H
          clear H;have bg:=bq3 aa.o;obtain⟨dz,aE,dg⟩:=Kd.mU al.o;subst dg
          have bj:0≤(ag:Int):=oa_
          have bk:ag<(aj.length:Int):=oa_
          obtain⟨ap,cZ,bi⟩:=Kd.nM (Kd.mX al.o).2.2 ag bj bk
          cases cZ
          replace bj:=eq_true bj;replace bk:=eq_true bk
          go_wp2_with (first|((with_reducible refine gt_ 52 ?_);refine Kd.wF (Kd.int .i64) _ 3 ?hg (N:=52) ?hd (xs:=([rd aj ag]:List Int)) (inner:=[.int .i64 (rd aj ag)]) (ok:=fun _=>True) (okp:=fun _=>True) ?hr ?hp (fun _ hk=>hk) trivial (Below.refl _ _) (Nat.le_refl _) sp ?_;(case hd|hg=>rfl);(case hr=>go_simp;done);(case hp=>exact(qK.one (show Kd.M (Kd.int .i64) _ _ _ (rd aj ag) [.int .i64 (rd aj ag)]from rfl) (qK.none _ _)));rintro dK dP aT hb - -;(rw[←cg.o]at aT);replace ai:=A_ (Kd.rz ai.o (Kd.nW aT) hb);have b2:=A_ (Kd.nE (Kd.qF aT (Kd.oV al.o)) (mK HB.o));replace al:=A_ (Kd.oz al.o (Kd.nW aT) hb);replace aa:=bb_ aa hb;replace HB:=bs_ HB hb;clear hb aT))
          go_loopg [8,9] k3 (fun kq v8 v9 w'=>∃ (au:List Int) (an:Int),v9=.int .i64 an∧Aside0 (nu.l3 kq aq aj ar ag au an am ae af=some r)∧Aside0 (kq≤k3)∧Aside0 (Kd.S (Kd.slice 3 (Kd.int .i64)) 25 w' w.heap.size (o2 (.slice (some ap) aj.length aE) v8) u3 aq)∧Aside0 (Kd.R (Kd.int .i64) 3 w' w.heap.size (o1 v8) (.slice (some ap) aj.length aE) aj)∧Aside0 (Kd.R (Kd.int .i64) 3 w' w.heap.size (o1 (.slice (some ap) aj.length aE)) v8 au)∧Aside0 (w'.heap[aG]? =some (.cells #[.int .i64 am,(.slice az ae.length aC),(.slice aA af.length aD)] 27 (0,0)))∧Aside0 (Below w.heap.size w w'))
          case atStart=>exact⟨(cH),(0),rf,H',⟨Nat.le_refl _⟩,ai,⟨by exact Kd.mM al.o (fun _ hk=>hk.2)⟩,⟨by exact Kd.mM b2.o (fun _ hk=>hk.2)⟩,aa,HB⟩
          case round=>
           clear H'
           clear bw co cw bg bi bj bk
           obtain⟨au,an,rfl,HA,cL,ai,al,aH,aa,HB⟩:=hrel
           cases gk with
           |zero=>exact nz_ HA.o
           |succ k4=>
            have H:=HA.o;clear HA;simp only[nu.l3]at H
            replace H:=Hi_ H;rcases H with⟨cA,H⟩|⟨cA,H⟩
            ·replace ⟨dq,H⟩:=Hd_ H
             replace ⟨dt,H⟩:=Hd_ H
             replace ⟨du,H⟩:=Hd_ H
             replace ⟨dv,H⟩:=Hd_ H
             replace ⟨dw,H⟩:=Hd_ H
             replace ⟨dx,H⟩:=Hd_ H
             replace ⟨b6,H⟩:=Ha_ H
             obtain⟨cI,a8⟩:=ex_ ((au++[rd aj (rd (f_ ae ag) an)]):List Int);rw[←a8]at H;have ch:=A_ a8;clear a8
             have H':=A_ H
             clear H;have cO:=bq3 aa.o
             have bH:0≤(ag:Int):=oa_
             have bL:ag<(ae.length:Int):=oa_
             obtain⟨dm,cW,cX,da,aw,aM,aJ⟩:=qM aN.o ag bH bL
             cases da
             replace aw:=cm_ HB aw;have bc:=A_ aJ;have cK:=A_ aM;clear aJ aM;replace bH:=eq_true bH;replace bL:=eq_true bL
             have bI:0≤(an:Int):=oa_
             have bM:an<((f_ ae ag).length:Int):=oa_
             obtain⟨dn,db,ax⟩:=Kd.nM bc.o an bI bM
             cases db
             replace ax:=cm_ HB ax;replace bI:=eq_true bI;replace bM:=eq_true bM
             have bJ:0≤((rd (f_ ae ag) an):Int):=oa_
             have bN:(rd (f_ ae ag) an)<(aj.length:Int):=oa_
             obtain⟨ck,dd,cV⟩:=Kd.nM (Kd.mX al.o).2.2 (rd (f_ ae ag) an) bJ bN;obtain rfl:ap=ck:=(by injection dd);replace bJ:=eq_true bJ;replace bN:=eq_true bN
             go_wp2_with (first|((with_reducible refine nG (b:=.append) (xs:= #[.tmp 59,.tmp 71]) rfl ?_);at_builtin;refine Kd.qG (Kd.int .i64) (w0:=w) w.heap.size rfl (.tmp 59) (.tmp 71) 25 3 (.int .i64 0) 8 rfl Try.underlying25 info3 rfl d_ om u8 au (rd aj (rd (f_ ae ag) an)) [.int .i64 (rd aj (rd (f_ ae ag) an))] (o1 (.slice (some ap) aj.length aE)) (fun _=>False) rfl rfl ?aP (fun _ hk=>hk.elim) ?aF ?aO ?aB ?aS ?aL ?_;(case aP=>exact rfl);(case aB=>exact HB.o);(case aF=>exact(fun k_ hk=>Kd.fresh' (Kd.oV al.o) k_ hk));(case aO=>exact aH.o);(case aS=>exact(mK HB.o));(case aL=>have:=b6.o;omega);intro dL dQ ho hb hg hat;rw[←ch.o]at ho;replace ai:=A_ (Kd.sF (ok:=(o1 (.slice (some ap) aj.length aE))) ai.o hg hat);replace al:=A_ (Kd.pq (ok:=(fun _=>True)) (by exact Kd.mM al.o (fun _ hk=>⟨trivial,hk⟩)) hg hat);replace aa:=gR_ aH aa hg;replace HB:=A_ (hb);have b3:=A_ (ho);clear aH;clear ho hb hg hat))
             go_roundg k4
             case measure=>have:=bu.o;have:=bP.o;have:=bQ.o;have:=cL.o;omega
             case rel=>exact⟨(cI),(wrap64 (an+1)),rf,H',⟨by have:=bu.o;have:=bP.o;have:=bQ.o;have:=cL.o;omega⟩,ai,⟨by exact Kd.mM al.o (fun _ hk=>hk.2)⟩,b3,aa,HB⟩
            replace ⟨b7,H⟩:=Ha_ H
            obtain⟨cJ,a9⟩:=ex_ ((aq++[au]):List (List Int));rw[←a9]at H;have ci:=A_ a9;clear a9
            have H':=A_ H
            clear H;have cP:=bq3 aa.o;obtain⟨bS,cD,dh⟩:=Kd.mU aH.o;subst dh
            go_wp2_with (first|((with_reducible refine nG (b:=.append) (xs:= #[.tmp 73,.tmp 75]) rfl ?_);at_builtin;refine Kd.uq (Kd.slice 3 (Kd.int .i64)) (w0:=w) w.heap.size rfl (.tmp 73) (.tmp 75) 24 25 (.slice none 0 0) 24 rfl Try.underlying24 uO rfl d_ om u3 aq au [.slice bS au.length cD] (o1 (.slice (some ap) aj.length aE)) (fun k_=>some k_=(.slice bS au.length cD:Value).ownBlock) rfl rfl ?aP (fun k_ aK=>((Kd.mM (ok':=fun k_=>((o1 (.slice (some ap) aj.length aE))) k_∧some k_≠(u3:Value).ownBlock) (Kd.pE (aH.o) (Kd.oL ai.o) d_) (fun k_ hk=>⟨hk.1,hk.2⟩))).1 k_ aK.symm) ?aF ?aO ?aB ?aS ?aL ?_;(case aP=>exact Kd.uR (Kd.mM (Kd.sD rfl (Kd.mM (ok':=fun k_=>((o1 (.slice (some ap) aj.length aE))) k_∧some k_≠(u3:Value).ownBlock) (Kd.pE (aH.o) (Kd.oL ai.o) d_) (fun k_ hk=>⟨hk.1,hk.2⟩))) (fun _ h_=>h_)));(case aB=>exact HB.o);(case aF=>exact(fun k_ hk=>Kd.fresh' (Kd.oV al.o) k_ hk));(case aO=>exact(by exact Kd.nV ai.o (fun k_ hk=>⟨hk.1,fun e_=>hk.2 e_⟩)));(case aS=>exact(mK HB.o));(case aL=>have:=b7.o;omega);intro dM dR ho hb hg hat;rw[←ci.o]at ho;replace al:=A_ (Kd.qH al.o (Kd.oL ai.o) d_ hg);replace aa:=gS_ ai aa hg;replace HB:=A_ (hb);have b4:=A_ (ho);clear ai aH;clear ho hb hg hat))
            go_roundg k4
            case measure=>have:=bu.o;have:=bP.o;have:=bQ.o;have:=cL.o;omega
            case rel=>exact⟨(cJ),(wrap64 (ag+1)),rf,H',⟨by have:=bu.o;have:=bP.o;have:=bQ.o;have:=cL.o;omega⟩,b4,⟨by exact Kd.mM al.o (fun _ hk=>trivial)⟩,aa,HB⟩
         replace ⟨bn,b_,H⟩:=bA_ H
         have H':=A_ H
         clear H;have cQ:=bq3 aa.o;obtain⟨dA,dC,di⟩:=Kd.rO ai.o;subst di
         go_wp2_with (first|((with_reducible refine gc_ 72 rfl ?_);refine cM_ E72 78 (nT.calls k3 _ _ aq bn _ ((Kd.rq ai.o).2.2) ((Kd.rq ai.o).2.1) b_.o) ?_;rintro e dS ⟨dJ,rfl,ho0,hb⟩;refine⟨_,rfl,?_⟩;replace ai:=A_ (Kd.rz ai.o (Kd.nW ho0) hb);have b1:=A_ (Kd.nE (Kd.qF ho0 (Kd.oV al.o)) (mK HB.o));replace al:=A_ (Kd.oz al.o (Kd.nW ho0) hb);replace aa:=bb_ aa hb;replace HB:=bs_ HB hb;clear hb;(try clear ho0)))
         go_roundg k3
         case measure=>have:=bu.o;have:=bP.o;have:=bQ.o;omega
         case rel=>exact⟨(bn),(wrap64 (ar+1)),rf,H',⟨by have:=bu.o;have:=bP.o;have:=bQ.o;omega⟩,⟨by exact Kd.mM b1.o (fun _ hk=>trivial)⟩,aa,HB⟩
      obtain rfl:=Option.some.inj H;have cS:=bq3 aa.o
      go_wp2
      go_ret
      exact⟨_,rf,al.o,HB.o⟩
 obtain⟨dj,aU⟩:=ex_ ((([]:List Int)):List Int);rw[←aU]at H;have b8:=A_ aU;clear aU;obtain rfl:=Option.some.inj H;go_enter Try.func59,Try.ntmps59
 go_wp2_with (first|((with_reducible refine gt_ 1 ?_);refine be_ 1 #[.int .i64 am,.slice az ae.length aC,.slice aA af.length aD] 27 ?_;intro aG hg dU J hb;have aa:=A_ (J);have bU:=lh_ HB hg;have bT:=lh_ HB hg;replace HB:=bs_ HB hb;clear hb J hg;have cU:=bq3 aa.o)|((with_reducible refine gc_ 33 rfl ?_);refine cM_ E33 11 (m_.calls k am _ _ ae _ _ af false _ (Kd.mO aN.o HB.o) bq.o (Kd.mO aQ.o HB.o) br.o A2.o) ?_;rintro e dV ⟨rfl,hb⟩;refine⟨_,rfl,?_⟩;replace aa:=bb_ aa hb;replace HB:=bs_ HB hb;clear hb;(try clear hi))|((with_reducible refine gd_ 13 rfl ?_);refine RL_ 13 3 [] [] rfl rfl (by go_simp;done) rfl rfl ?_;rintro dD dW bF hb - -;(rw[←b8.o]at bF);have bV:=A_ (Kd.nE bF (mK HB.o));replace aa:=bb_ aa hb;replace HB:=bs_ HB hb;clear hb bF))
 go_ret
 exact⟨_,rf,bV.o,HB.o⟩
end Go.Proofs.Ytiingconapodpaa.PFnLinear
