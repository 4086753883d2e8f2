/- The machine side of one law: some contracts printed by this session's own program, some typed by hand. -/
import Derived.Test.YtiingconapodpaaW
import Derived.Test.YtiingconapodpaaP1
import Derived.Test.YtiingconapodpaaP0
namespace Go.Proofs.Ytiingconapodpaa.PFnLinear
open Go.RowKit Go.Proofs.YtiingconapodpaaW Go.Proofs.YtiingconapodpaaW.PrintWords Go.Proofs.YtiingconapodpaaW.PrintLast Go.Proofs.YtiingconapodpaaW.PrintMore
attribute [local go_sem] pO pJ qj qm oZ oW pK pM
set_option linter.unusedVariables false
set_option maxHeartbeats 8000000
set_option maxRecDepth 100000
set_option linter.unusedSimpArgs false
mutual
def mQ.l0:Nat→List Int→List Int→Int→Int→List (List Int)→List Int→Int→List (List Int)→List Int→Option (Int×(List (List Int))×List Int×Bool)
 |0,_,_,_,_,_,_,_,_,_=>none
 |k+1,x6,x8,x9,aY,aM,aQ,a7,aT,aU=>if x9<(x8.length:Int)then(mQ.l1 k x6 x8 x9 (([]:List Int)) 0 aY aM aQ a7 aT aU)else(some (a7,aT,aU,true))
def mQ.l1:Nat→List Int→List Int→Int→List Int→Int→Int→List (List Int)→List Int→Int→List (List Int)→List Int→Option (Int×(List (List Int))×List Int×Bool)
 |0,_,_,_,_,_,_,_,_,_,_,_=>none
 |k+1,x6,x8,x9,cH,cD,aY,aM,aQ,a7,aT,aU=>if cD<aY then(if 0≤x9 then(if x9<(x8.length:Int)then(if 0≤(rd x8 x9)then(if(rd x8 x9)<(aM.length:Int)then(if 0≤cD then(if cD<((f_ aM (rd x8 x9)).length:Int)then(mQ.l2 k x6 x8 x9 cH cD (rd (f_ aM (rd x8 x9)) cD) (-1) 0 aY aM aQ a7 aT aU)else(none))else(none))else(none))else(none))else(none))else(none))else(if aT.length<5864062014805 then(if 0≤x9 then(if x9<(x8.length:Int)then(if 0≤(rd x8 x9)then(if(rd x8 x9)<(aQ.length:Int)then(if aU.length<17592186044416 then(mQ.l0 k x6 x8 (wrap64 (x9+1)) aY aM aQ a7 (aT++[cH]) (aU++[rd aQ (rd x8 x9)]))else(none))else(none))else(none))else(none))else(none))else(none))
def mQ.l2:Nat→List Int→List Int→Int→List Int→Int→Int→Int→Int→Int→List (List Int)→List Int→Int→List (List Int)→List Int→Option (Int×(List (List Int))×List Int×Bool)
 |0,_,_,_,_,_,_,_,_,_,_,_,_,_,_=>none
 |k+1,x6,x8,x9,cH,cD,di,dK,cI,aY,aM,aQ,a7,aT,aU=>if cI<(x8.length:Int)then(mQ.j3 k x6 x8 x9 cH cD di dK cI (decide (dK<0)) aY aM aQ a7 aT aU)else(mQ.j3 k x6 x8 x9 cH cD di dK cI false aY aM aQ a7 aT aU)
def mQ.j3:Nat→List Int→List Int→Int→List Int→Int→Int→Int→Int→Bool→Int→List (List Int)→List Int→Int→List (List Int)→List Int→Option (Int×(List (List Int))×List Int×Bool)
 |0,_,_,_,_,_,_,_,_,_,_,_,_,_,_,_=>none
 |k+1,x6,x8,x9,cH,cD,di,dK,cI,hJ,aY,aM,aQ,a7,aT,aU=>if hJ=true then(if 0≤cI then(if cI<(x8.length:Int)then(if 0≤(rd x8 cI)then(if(rd x8 cI)<(x6.length:Int)then(if 0≤di then(if di<(x6.length:Int)then(if(rd x6 (rd x8 cI))=(rd x6 di)then(mQ.l2 k x6 x8 x9 cH cD di cI (wrap64 (cI+1)) aY aM aQ a7 aT aU)else(mQ.l2 k x6 x8 x9 cH cD di dK (wrap64 (cI+1)) aY aM aQ a7 aT aU))else(none))else(none))else(none))else(none))else(none))else(none))else(if dK<0 then(if x8.length<17592186044416 then(if cH.length<17592186044416 then(mQ.l1 k x6 (x8++[di]) x9 (cH++[(x8.length:Int)]) (wrap64 (cD+1)) aY aM aQ a7 aT aU)else(none))else(none))else(if cH.length<17592186044416 then(mQ.l1 k x6 x8 x9 (cH++[dK]) (wrap64 (cD+1)) aY aM aQ a7 aT aU)else(none)))
end
def mQ.f (k:Nat) (bD:Int) (bm:List (List Int)) (bn:List Int):Option (Int×(List (List Int))×List Int×Bool):=(ni.f k bD bm bn).bind fun aK=>(if aK.2.2.2=true then((nu.f k aK.1 aK.2.1 aK.2.2.1).bind fun aJ=>(mQ.l0 k aJ (([0]:List Int)) 0 aK.1 aK.2.1 aK.2.2.1 aK.1 ([]:List (List Int)) ([]:List Int)))else(some (0,([]:List (List Int)),([]:List Int),false)))
def mQ.T14:Bool×List (List Nat×List Nat):=(true,[([],[]),([0],[0]),([],[]),([],[]),([2,3],[2,3]),([4],[4]),([1,5],[1,5]),([6],[6]),([],[]),([7,8],[7,8]),([9],[9]),([10,0,1,2,3,4,5,6,7,8,9,10],[10])])
def mQ.B14:List Nat:=[0,1,0,0,12,28,63,127,0,511,1023,2047]
theorem mQ.Pt:uf .any (opsOf Try.f38 14)=mQ.T14:=K_
theorem mQ.Ow:rV mQ.T14.2 mQ.B14=true:=K_
def mQ.T19:Bool×List (List Nat×List Nat):=(true,[([],[]),([],[]),([],[]),([1,2],[1,2]),([3],[3]),([0,4],[0,4]),([5],[5]),([],[]),([],[]),([7,8],[7,8]),([9],[9]),([6,10],[6,10])])
def mQ.B19:List Nat:=[0,0,0,6,14,31,63,0,0,384,896,2047]
theorem mQ.Ka:uf .any (opsOf Try.f38 19)=mQ.T19:=K_
theorem mQ.FB:rV mQ.T19.2 mQ.B19=true:=K_
def mQ.T26:Bool×List (List Nat×List Nat):=(true,[([],[]),([0],[0]),([],[]),([2],[2]),([],[]),([],[]),([4,5],[4,5]),([6],[6]),([3,7],[3,7]),([8],[8]),([9],[9]),([1,10],[1,10]),([0,1,2,3,4,5,6,7,8,9,10,11],[]),([12,11,11,0,1,2,3,4,5,6,7,8,9,10,11],[11,12])])
def mQ.B26:List Nat:=[0,1,0,4,0,0,48,112,252,508,1020,2047,4095,8191]
theorem mQ.OW:uf .any (opsOf Try.f38 26)=mQ.T26:=K_
theorem mQ.Oa:rV mQ.T26.2 mQ.B26=true:=K_
theorem mQ.calls (k:Nat) (bD:Int) (bP:Option Addr) (bT:Nat) (bm:List (List Int)) (bQ:Option Addr) (bU:Nat) (bn:List Int) (r1:Int) (r2:List (List Int)) (r3:List Int) (r4:Bool) (w:World) (dw:Kd.C (Kd.slice 3 (Kd.int .i64)) w bP bm.length bm) (du:bm.length≤bT) (dx:Kd.C (Kd.int .i64) w bQ bn.length bn) (dv:bn.length≤bU) (h:mQ.f k bD bm bn=some (r1,r2,r3,r4)):
  Calls Try.prog 38 #[.agg #[.int .i64 bD,.slice bP bm.length bT,.slice bQ bn.length bU]] w fun e w'=>∃iq il:Value,e=.returned (.tuple #[.agg #[.int .i64 r1,iq,il],.bool r4])∧Kd.S (Kd.slice 3 (Kd.int .i64)) 25 w' w.heap.size (o1 il) iq r2∧Kd.R (Kd.int .i64) 3 w' w.heap.size (fun _=>True) il r3∧Below w.heap.size w w':=by
 have iA:=Try.underlying27;have dn:=A_ dw;have dj:=A_ du;clear dw du;have dp:=A_ dx;have dk:=A_ dv;clear dx dv;have HB:=A_ (Below.refl w.heap.size w);unfold mQ.f at h;have H:=h;clear h;replace ⟨⟨aG,ao,am,fp⟩,A2,H⟩:=bA_ H;dsimp only at H
 replace H:=Hb_ H;rcases H with⟨rfl,H⟩|⟨rfl,H⟩
 ·replace ⟨aJ,A4,H⟩:=bA_ H;obtain⟨eC,cN⟩:=ex_ ((([0]:List Int)):List Int);rw[←cN]at H;have dY:=A_ cN;clear cN
  have H':=A_ H
  clear H;go_enter Try.func38,Try.ntmps38
  go_wp2_with (first|((with_reducible refine gt_ 1 ?_);refine be_ 1 #[.int .i64 bD,.slice bP bm.length bT,.slice bQ bn.length bU] 27 ?_;intro bN hg w5 J hb;have ai:=A_ (J);have dM:=lh_ HB hg;have bE:=lh_ HB hg;replace HB:=bs_ HB hb;clear hb J hg)|((with_reducible refine gt_ 2 ?_);refine be_ 2 #[.int .i64 0,.slice none 0 0,.slice none 0 0] 27 ?_;intro bB hg w6 J hb;have al:=A_ (J);have dN:=lh_ HB hg;have bF:=lh_ HB hg;replace HB:=bs_ HB hb;have bv:=nl_ ai hg;have bw:=ng_ ai hg;replace ai:=bb_ ai hb;clear hb J hg;have gJ:=bv.o;have gK:=bw.o;have dE:=bq3 ai.o)|((with_reducible refine gc_ 58 rfl ?_);refine cM_ E58 17 (ni.calls k bD _ _ bm _ _ bn aG ao am true _ (Kd.mO dn.o HB.o) dj.o (Kd.mO dp.o HB.o) dk.o A2.o) ?_;rintro e w9 ⟨fq,fs,rfl,ho0,ho1,hb⟩;refine⟨_,rfl,?_⟩;have bf:=A_ (Kd.uy ho0 (mK HB.o));have be:=A_ (Kd.nE ho1 (mK HB.o));replace ai:=bb_ ai hb;replace al:=bb_ al hb;replace HB:=bs_ HB hb;clear hb ho0;(try clear ho1))|((with_reducible refine gt_ 4 ?_);refine be_ 4 #[.int .i64 0,.slice none 0 0,.slice none 0 0] 27 ?_;intro bh hg iH J hb;replace bf:=A_ (Kd.wS bf.o hb);replace be:=A_ (Kd.nX be.o hb);have ak:=A_ (J);have dO:=lh_ HB hg;have bG:=lh_ HB hg;replace HB:=bs_ HB hb;have a8:=nl_ ai hg;have bj:=ng_ ai hg;replace ai:=bb_ ai hb;have aE:=nl_ al hg;have bg:=ng_ al hg;replace al:=bb_ al hb;clear hb J hg;have fI:=bj.o;have f7:=a8.o;have fJ:=bg.o;have f8:=aE.o;have cZ:=bq3 ak.o;obtain⟨bq,bc,fb⟩:=Kd.rO bf.o;subst fb;obtain⟨ar,aq,fc⟩:=Kd.mU be.o;subst fc)|((with_reducible refine xV (f:=59) rfl ?_);refine Dw (some 24) rfl rfl Try.func59 K_ rfl #[.agg #[.int .i64 aG,.slice bq ao.length bc,.slice ar am.length aq]] rfl (by simp only[mA,mB,mC];rfl) ?_;(with_reducible refine(nu.calls k aG _ _ ao _ _ am aJ _ ?gP ?gQ ?gW ?gX A4.o).mono ?_);(case gP=>refine(Kd.rq (e:=25) (base:=w.heap.size) (ok:=fun k_=>some k_≠(.slice ar am.length aq:Value).ownBlock) (n:=ao.length) (c:=bc) ?_).2.2;exact(by exact(Kd.nV (EF (tS_ bf ak)) (fun _ h_=>h_.1))));(case gQ=>exact(Kd.rq bf.o).2.1);(case gW=>refine(Kd.mX (e:=3) (base:=w.heap.size) (ok:=fun k_=>True) (n:=am.length) (c:=aq) ?_).2.2;exact(by exact(Kd.mM (xe (tR_ be ak)) (fun _ h_=>h_.1))));(case gX=>exact(Kd.mX be.o).2.1);rintro e w16 ⟨aw,rfl,ho0,hb⟩;refine⟨_,rfl,?_⟩;replace bf:=A_ (Kd.rz (by exact(Kd.nV (EF (tS_ bf ak)) (fun _ h_=>h_.1))) (Kd.nW ho0) hb);have bV:=A_ (Kd.nE (Kd.qF ho0 (Kd.oV (by exact(Kd.mM (xe (tR_ be ak)) (fun _ h_=>h_.1))))) (mK wb_));replace be:=A_ (Kd.oz (by exact(Kd.mM (xe (tR_ be ak)) (fun _ h_=>h_.1))) (Kd.nW ho0) hb);replace ai:=A_ (pg (g:=bN) (o:=.cells #[.int .i64 bD,.slice bP bm.length bT,.slice bQ bn.length bU] 27 (0,0)) (by exact fa_ a8 (fa_ a8 (fa_ a8 ai.o))) hb);replace al:=A_ (pg (g:=bB) (o:=.cells #[.int .i64 0,.slice none 0 0,.slice none 0 0] 27 (0,0)) (by exact fa_ aE (fa_ aE (fa_ aE al.o))) hb);replace ak:=A_ (pg (g:=bh) (o:=.cells #[.int .i64 aG,.slice bq ao.length bc,.slice ar am.length aq] 27 (0,0)) (by exact pu_ 2 (pu_ 1 (pu_ 0 ak.o rfl) rfl) rfl) hb);replace HB:=A_ (nZ wb_ hb);clear hb ho0;have da:=bq3 ak.o)|((with_reducible refine gt_ 7 ?_);refine be_ 7 #[.int .i64 0,.slice none 0 0,.slice none 0 0] 27 ?_;intro aV hg iI J hb;replace bf:=A_ (Kd.wS bf.o hb);replace be:=A_ (Kd.nX be.o hb);replace bV:=A_ (Kd.nX bV.o hb);have aj:=A_ (J);have fv:=lh_ HB hg;have b3:=lh_ HB hg;replace HB:=bs_ HB hb;have aW:=nl_ ai hg;have bz:=ng_ ai hg;replace ai:=bb_ ai hb;have aX:=nl_ al hg;have bA:=ng_ al hg;replace al:=bb_ al hb;have aN:=nl_ ak hg;have bk:=ng_ ak hg;replace ak:=bb_ ak hb;clear hb J hg;have fK:=bz.o;have f9:=aW.o;have fL:=bA.o;have ga:=aX.o;have fM:=bk.o;have gb:=aN.o;have db:=bq3 aj.o)|((with_reducible refine gd_ 28 rfl ?_);refine RL_ 28 3 [0] [.int .i64 0] rfl rfl (by go_simp;done) rfl rfl ?_;rintro gU iJ cB hb - -;(rw[←dY.o]at cB);replace bf:=A_ (Kd.rz (by exact(Kd.nV (EF (tS_ bf aj)) (fun _ h_=>h_.1))) (Kd.nW cB) hb);have dP:=A_ (Kd.nE (Kd.qF (Kd.qF cB (Kd.oV (by exact(Kd.mM (xe (tR_ be aj)) (fun _ h_=>h_.1))))) (Kd.oV (by exact(Kd.mM (xe (tR_ bV aj)) (fun _ h_=>h_.1))))) (mK wb_));replace be:=A_ (Kd.oz (by exact(Kd.mM (xe (tR_ be aj)) (fun _ h_=>h_.1))) (Kd.nW cB) hb);replace bV:=A_ (Kd.oz (by exact(Kd.mM (xe (tR_ bV aj)) (fun _ h_=>h_.1))) (Kd.nW cB) hb);replace ai:=A_ (pg (g:=bN) (o:=.cells #[.int .i64 bD,.slice bP bm.length bT,.slice bQ bn.length bU] 27 (0,0)) (by exact fa_ aW (fa_ aW (fa_ aW ai.o))) hb);replace al:=A_ (pg (g:=bB) (o:=.cells #[.int .i64 0,.slice none 0 0,.slice none 0 0] 27 (0,0)) (by exact fa_ aX (fa_ aX (fa_ aX al.o))) hb);replace ak:=A_ (pg (g:=bh) (o:=.cells #[.int .i64 aG,.slice bq ao.length bc,.slice ar am.length aq] 27 (0,0)) (by exact fa_ aN (fa_ aN (fa_ aN ak.o))) hb);replace aj:=A_ (pg (g:=aV) (o:=.cells #[.int .i64 aG,.slice none 0 0,.slice none 0 0] 27 (0,0)) (by exact pu_ 2 (pu_ 1 (pu_ 0 aj.o rfl) rfl) rfl) hb);replace HB:=A_ (nZ wb_ hb);clear hb cB))
  go_loopg [8,9] k (fun kq v8 v9 w'=>∃ (cE:List Int) (an:Int) (au:List (List Int)) (ap:List Int) (aD:Value) (ab:Value),v9=.int .i64 an∧Aside0 (mQ.l0 kq aJ cE an aG ao am aG au ap=some (r1,r2,r3,r4))∧Aside0 (kq≤k)∧Aside0 (Kd.R (Kd.int .i64) 3 w' w.heap.size (o3 v8 (.slice ar am.length aq) ab) aw aJ)∧Aside0 (Kd.R (Kd.int .i64) 3 w' w.heap.size (o3 aw (.slice ar am.length aq) ab) v8 cE)∧Aside0 (Kd.S (Kd.slice 3 (Kd.int .i64)) 25 w' w.heap.size (o5 aw v8 (.slice ar am.length aq) aD ab) (.slice bq ao.length bc) ao)∧Aside0 (Kd.R (Kd.int .i64) 3 w' w.heap.size (o3 aw v8 ab) (.slice ar am.length aq) am)∧Aside0 (Kd.S (Kd.slice 3 (Kd.int .i64)) 25 w' w.heap.size (o5 aw v8 (.slice bq ao.length bc) (.slice ar am.length aq) ab) aD au)∧Aside0 (Kd.R (Kd.int .i64) 3 w' w.heap.size (o3 aw v8 (.slice ar am.length aq)) ab ap)∧Aside0 (w'.heap[bN]? =some (.cells #[.int .i64 bD,(.slice bP bm.length bT),(.slice bQ bn.length bU)] 27 (0,0)))∧Aside0 (w'.heap[bB]? =some (.cells #[.int .i64 0,(.slice none 0 0),(.slice none 0 0)] 27 (0,0)))∧Aside0 (w'.heap[bh]? =some (.cells #[.int .i64 aG,(.slice bq ao.length bc),(.slice ar am.length aq)] 27 (0,0)))∧Aside0 (w'.heap[aV]? =some (.cells #[.int .i64 aG,aD,ab] 27 (0,0)))∧Aside0 (Below w.heap.size w w'))
  case atStart=>exact⟨(eC),(0),(([]:List (List Int))),(([]:List Int)),(.slice none 0 0),(.slice none 0 0),rf,H',⟨Nat.le_refl _⟩,⟨by exact Kd.mM bV.o (fun _ hk=>⟨hk.2,⟨hk.1.2,(by simp[Value.ownBlock])⟩⟩)⟩,⟨by exact Kd.mM dP.o (fun _ hk=>⟨hk.2,⟨hk.1.2,(by simp[Value.ownBlock])⟩⟩)⟩,⟨by exact Kd.nV bf.o (fun _ hk=>⟨hk.1.2,⟨hk.2,⟨hk.1.1,⟨(by simp[Value.ownBlock]),(by simp[Value.ownBlock])⟩⟩⟩⟩)⟩,⟨by exact Kd.mM be.o (fun _ hk=>⟨hk.1.2,⟨hk.2,(by simp[Value.ownBlock])⟩⟩)⟩,⟨by exact Kd.za _ _ _ _ _⟩,⟨by exact Kd.sI _ _ _ _ _⟩,ai,al,ak,aj,HB⟩
  case round=>
   clear H'
   clear cZ da db dE
   obtain⟨cE,an,au,ap,aD,ab,rfl,HA,cF,aC,aA,af,ae,ag,aa,ai,al,ak,aj,HB⟩:=hrel
   cases gk with
   |zero=>exact nz_ HA.o
   |succ k1=>
    have H:=HA.o;clear HA;simp only[mQ.l0]at H
    replace H:=Hi_ H;rcases H with⟨dq,H⟩|⟨dq,H⟩
    ·obtain⟨eD,cO⟩:=ex_ ((([]:List Int)):List Int);rw[←cO]at H;have dZ:=A_ cO;clear cO
     have H':=A_ H
     clear H;obtain⟨gw,gF,fd⟩:=Kd.mU aA.o;subst fd
     go_wp2_with (first|((with_reducible refine gd_ 35 rfl ?_);refine RL_ 35 3 [] [] rfl rfl (by go_simp;done) rfl rfl ?_;rintro g5 iK bX hb - -;(rw[←dZ.o]at bX);replace af:=A_ (Kd.rz af.o (Kd.nW bX) hb);replace ag:=A_ (Kd.rz ag.o (Kd.nW bX) hb);have dQ:=A_ (Kd.nE (Kd.qF (Kd.qF (Kd.qF (Kd.qF bX (Kd.oV aC.o)) (Kd.oV aA.o)) (Kd.oV ae.o)) (Kd.oV aa.o)) (mK HB.o));replace aC:=A_ (Kd.oz aC.o (Kd.nW bX) hb);replace aA:=A_ (Kd.oz aA.o (Kd.nW bX) hb);replace ae:=A_ (Kd.oz ae.o (Kd.nW bX) hb);replace aa:=A_ (Kd.oz aa.o (Kd.nW bX) hb);replace ai:=bb_ ai hb;replace al:=bb_ al hb;replace ak:=bb_ ak hb;replace aj:=bb_ aj hb;replace HB:=bs_ HB hb;clear hb bX))
     go_loopg [8,10,11] k1 (fun kq v8 dJ gM w'=>∃ (ah:List Int) (a9:List Int) (av:Int),gM=.int .i64 av∧Aside0 (mQ.l1 kq aJ ah an a9 av aG ao am aG au ap=some (r1,r2,r3,r4))∧Aside0 (kq≤k1)∧Aside0 (Kd.R (Kd.int .i64) 3 w' w.heap.size (o4 v8 dJ (.slice ar am.length aq) ab) aw aJ)∧Aside0 (Kd.R (Kd.int .i64) 3 w' w.heap.size (o4 aw dJ (.slice ar am.length aq) ab) v8 ah)∧Aside0 (Kd.R (Kd.int .i64) 3 w' w.heap.size (o4 aw v8 (.slice ar am.length aq) ab) dJ a9)∧Aside0 (Kd.S (Kd.slice 3 (Kd.int .i64)) 25 w' w.heap.size (o6 aw v8 dJ (.slice ar am.length aq) aD ab) (.slice bq ao.length bc) ao)∧Aside0 (Kd.R (Kd.int .i64) 3 w' w.heap.size (o4 aw v8 dJ ab) (.slice ar am.length aq) am)∧Aside0 (Kd.S (Kd.slice 3 (Kd.int .i64)) 25 w' w.heap.size (o6 aw v8 dJ (.slice bq ao.length bc) (.slice ar am.length aq) ab) aD au)∧Aside0 (Kd.R (Kd.int .i64) 3 w' w.heap.size (o4 aw v8 dJ (.slice ar am.length aq)) ab ap)∧Aside0 (w'.heap[bN]? =some (.cells #[.int .i64 bD,(.slice bP bm.length bT),(.slice bQ bn.length bU)] 27 (0,0)))∧Aside0 (w'.heap[bB]? =some (.cells #[.int .i64 0,(.slice none 0 0),(.slice none 0 0)] 27 (0,0)))∧Aside0 (w'.heap[bh]? =some (.cells #[.int .i64 aG,(.slice bq ao.length bc),(.slice ar am.length aq)] 27 (0,0)))∧Aside0 (w'.heap[aV]? =some (.cells #[.int .i64 aG,aD,ab] 27 (0,0)))∧Aside0 (Below w.heap.size w w'))
     case atStart=>exact⟨(cE),(eD),(0),rf,H',⟨Nat.le_refl _⟩,⟨by exact Kd.mM aC.o (fun _ hk=>⟨hk.1.1,⟨hk.2,⟨hk.1.2.1,hk.1.2.2⟩⟩⟩)⟩,⟨by exact Kd.mM aA.o (fun _ hk=>⟨hk.1.1,⟨hk.2,⟨hk.1.2.1,hk.1.2.2⟩⟩⟩)⟩,⟨by exact Kd.mM dQ.o (fun _ hk=>⟨hk.1.1.1.2,⟨hk.1.1.2,⟨hk.1.2,hk.2⟩⟩⟩)⟩,⟨by exact Kd.nV af.o (fun _ hk=>⟨hk.1.1,⟨hk.1.2.1,⟨hk.2,⟨hk.1.2.2.1,⟨hk.1.2.2.2.1,hk.1.2.2.2.2⟩⟩⟩⟩⟩)⟩,⟨by exact Kd.mM ae.o (fun _ hk=>⟨hk.1.1,⟨hk.1.2.1,⟨hk.2,hk.1.2.2⟩⟩⟩)⟩,⟨by exact Kd.nV ag.o (fun _ hk=>⟨hk.1.1,⟨hk.1.2.1,⟨hk.2,⟨hk.1.2.2.1,⟨hk.1.2.2.2.1,hk.1.2.2.2.2⟩⟩⟩⟩⟩)⟩,⟨by exact Kd.mM aa.o (fun _ hk=>⟨hk.1.1,⟨hk.1.2.1,⟨hk.2,hk.1.2.2⟩⟩⟩)⟩,ai,al,ak,aj,HB⟩
     case round=>
      clear H'
      try clear dq
      obtain⟨ah,a9,av,rfl,HA,cG,aC,aA,az,af,ae,ag,aa,ai,al,ak,aj,HB⟩:=hrel
      cases gk with
      |zero=>exact nz_ HA.o
      |succ k2=>
       have H:=HA.o;clear HA;simp only[mQ.l1]at H
       replace H:=Hi_ H;rcases H with⟨dt,H⟩|⟨dt,H⟩
       ·replace ⟨d9,H⟩:=Hd_ H
        replace ⟨eb,H⟩:=Hd_ H
        replace ⟨ec,H⟩:=Hd_ H
        replace ⟨ed,H⟩:=Hd_ H
        replace ⟨ef,H⟩:=Hd_ H
        replace ⟨eg,H⟩:=Hd_ H
        have H':=A_ H
        clear H;have fN:=bj.o;have gc:=a8.o;have fO:=bg.o;have gd:=aE.o;have fP:=aN.o;have gf:=bk.o;have dd:=bq3 ak.o
        try go_wp2
        replace aC:=A_ (Kd.pR aC.o);replace aA:=A_ (Kd.pR aA.o);replace az:=A_ (Kd.pR az.o);replace af:=A_ (Kd.vK af.o);replace ae:=A_ (Kd.pR ae.o);replace ag:=A_ (Kd.vK ag.o);replace aa:=A_ (Kd.pR aa.o);replace ai:=A_ (nQ ai.o);replace al:=A_ (nQ al.o);replace ak:=A_ (nQ ak.o);replace aj:=A_ (nQ aj.o);replace HB:=A_ (oG HB.o);obtain⟨gx,bi,en⟩:=Kd.mU aA.o
        (first|subst en|(injection en with aZ cz a_;have eu:=aZ.symm;have eT:=a_.symm;clear aZ cz a_;subst eu;subst eT))
        have de:0≤(an:Int):=oa_
        have dg:an<(ah.length:Int):=oa_
        obtain⟨aH,eY,bY⟩:=Kd.nM (Kd.mX aA.o).2.2 an de dg
        cases eY
        replace de:=eq_true de;replace dg:=eq_true dg
        have cW:0≤((rd ah an):Int):=oa_
        have cX:(rd ah an)<(ao.length:Int):=oa_
        obtain⟨br,eP,dz,eZ,bO,co,ck⟩:=qM (Kd.rq af.o).2.2 (rd ah an) cW cX
        cases eZ
        obtain⟨iw,gu,gB,cu⟩:=Kd.E5 af.o [] (rd ah an) cW (by exact cX);obtain⟨gY,rfl,aR⟩:=gB;have U:=cu 0 _ rfl;rw[Nat.add_zero,show((Kd.slice 3 (Kd.int .i64))).sz=1 from rfl,Nat.mul_one]at U;replace U:=Option.some.inj (U.symm.trans bO);rw[U]at aR;have fe:=A_ (show Kd.R (Kd.int .i64) 3 _ _ _ _ (f_ ao (rd ah an))from aR);clear U aR cu gu;have ay:=A_ ck;have eG:=A_ co;clear ck co;replace cW:=eq_true cW;replace cX:=eq_true cX
        have df:0≤(av:Int):=oa_
        have dh:av<((f_ ao (rd ah an)).length:Int):=oa_
        obtain⟨ci,fa,bZ⟩:=Kd.nM (by repeat (first|(with_reducible exact ay.o)|(with_reducible refine Kd.C_alloc ?_ _)|(with_reducible refine Kd.oH ?_ _)|(with_reducible refine Kd.pG ?_)|exact ay.o)) av df dh
        cases fa
        replace df:=eq_true df;replace dh:=eq_true dh;refine rM (n:=12) (S:=fun w'=>cA3 bh (.int .i64 aG) (.slice (some br) ao.length bc) (.slice ar am.length aq) w' (w'.cell? (aH.add (an).toNat)=some (.int .i64 (rd ah an))∧w'.cell? (br.add ((rd ah an)).toNat)=some (.slice (some ci) (f_ ao (rd ah an)).length dz)∧w'.cell? (ci.add (av).toNat)=some (.int .i64 (rd (f_ ao (rd ah an)) av)))) (ds:=[]) (mk_ 12 0) K_ rfl rfl ⟨bz0 ak.o,bz1 ak.o,bz2 ak.o,bY,bO,bZ⟩ (fun aI=>?_);refine ru mQ.Pt mQ.Ow (fun ba b5=>?_)
        generalize wr.drew=iL at aC aA az af ae ag aa ai al ak aj HB fe ay bY bO bZ aI⊢
        refine pw_ 0 42 (mk_ 12 1) ba ?_;refine pw_ 2 44 (mk_ 12 5) ba ?_;refine pw_ 3 45 (mk_ 12 13) ba ?_;refine pw_ 4 46 (mk_ 12 29) ba ?_;refine pw_ 8 50 (mk_ 12 285) ba ?_;refine tk_ 1 43 (mk_ 12 287) ba b5 aI ?_;refine tk_ 5 47 (mk_ 12 319) ba b5 aI ?_;refine pw_ 6 48 (mk_ 12 383) ba ?_;refine tk_ 7 49 (mk_ 12 511) ba b5 aI ?_;refine pw_ 9 51 (mk_ 12 1023) ba ?_;refine tk_ 10 52 (mk_ 12 2047) ba b5 aI ?_;refine pw_ 11 12 (mk_ 12 4095) ba ?_;refine sZ (sP ba.o K_) ?_
        try go_wp2
        go_loopg [13,14] k2 (fun kq gN gT w'=>∃ (bC:Int) (ax:Int),gN=.int .i64 bC∧gT=.int .i64 ax∧Aside0 (mQ.l2 kq aJ ah an a9 av (rd (f_ ao (rd ah an)) av) bC ax aG ao am aG au ap=some (r1,r2,r3,r4))∧Aside0 (kq≤k2)∧Aside0 (Kd.R (Kd.int .i64) 3 w' w.heap.size (o4 (.slice (some aH) ah.length bi) u10 (.slice ar am.length aq) ab) aw aJ)∧Aside0 (Kd.R (Kd.int .i64) 3 w' w.heap.size (o4 aw u10 (.slice ar am.length aq) ab) (.slice (some aH) ah.length bi) ah)∧Aside0 (Kd.R (Kd.int .i64) 3 w' w.heap.size (o4 aw (.slice (some aH) ah.length bi) (.slice ar am.length aq) ab) u10 a9)∧Aside0 (Kd.S (Kd.slice 3 (Kd.int .i64)) 25 w' w.heap.size (o6 aw (.slice (some aH) ah.length bi) u10 (.slice ar am.length aq) aD ab) (.slice (some br) ao.length bc) ao)∧Aside0 (Kd.R (Kd.int .i64) 3 w' w.heap.size (o4 aw (.slice (some aH) ah.length bi) u10 ab) (.slice ar am.length aq) am)∧Aside0 (Kd.S (Kd.slice 3 (Kd.int .i64)) 25 w' w.heap.size (o6 aw (.slice (some aH) ah.length bi) u10 (.slice (some br) ao.length bc) (.slice ar am.length aq) ab) aD au)∧Aside0 (Kd.R (Kd.int .i64) 3 w' w.heap.size (o4 aw (.slice (some aH) ah.length bi) u10 (.slice ar am.length aq)) ab ap)∧Aside0 (w'.heap[bN]? =some (.cells #[.int .i64 bD,(.slice bP bm.length bT),(.slice bQ bn.length bU)] 27 (0,0)))∧Aside0 (w'.heap[bB]? =some (.cells #[.int .i64 0,(.slice none 0 0),(.slice none 0 0)] 27 (0,0)))∧Aside0 (w'.heap[bh]? =some (.cells #[.int .i64 aG,(.slice (some br) ao.length bc),(.slice ar am.length aq)] 27 (0,0)))∧Aside0 (w'.heap[aV]? =some (.cells #[.int .i64 aG,aD,ab] 27 (0,0)))∧Aside0 (Kd.C (Kd.int .i64) w' (some ci) (f_ ao (rd ah an)).length (f_ ao (rd ah an)))∧Aside0 (Below w.heap.size w w'))
        case atStart=>exact⟨((-1)),(0),rf,rf,H',⟨Nat.le_refl _⟩,aC,aA,az,af,ae,ag,aa,ai,al,ak,aj,⟨by repeat (first|(with_reducible exact ay.o)|(with_reducible refine Kd.C_alloc ?_ _)|(with_reducible refine Kd.oH ?_ _)|(with_reducible refine Kd.pG ?_)|exact ay.o)⟩,HB⟩
        case round=>
         clear H'
         clear dt d9 eb ec ed ef eg dd bY bO bZ de cW df dg cX dh
         obtain⟨bC,ax,rfl,rfl,HA,cY,aC,aA,az,af,ae,ag,aa,ai,al,ak,aj,ay,HB⟩:=hrel
         cases gk with
         |zero=>exact nz_ HA.o
         |succ k3=>
          have H:=HA.o;clear HA;simp only[mQ.l2]at H;have gL:=A_ H;clear H
          go_upto_region 17 with(fail)
          go_cut [60] (fun gV wc=>∃ (kq:Nat) (b1:Bool),gV=.bool b1∧Aside0 (mQ.j3 kq aJ ah an a9 av (rd (f_ ao (rd ah an)) av) bC ax b1 aG ao am aG au ap=some (r1,r2,r3,r4))∧Aside0 (kq≤k3)∧Aside0 (Kd.R (Kd.int .i64) 3 wc w.heap.size (o4 (.slice (some aH) ah.length bi) u10 (.slice ar am.length aq) ab) aw aJ)∧Aside0 (Kd.R (Kd.int .i64) 3 wc w.heap.size (o4 aw u10 (.slice ar am.length aq) ab) (.slice (some aH) ah.length bi) ah)∧Aside0 (Kd.R (Kd.int .i64) 3 wc w.heap.size (o4 aw (.slice (some aH) ah.length bi) (.slice ar am.length aq) ab) u10 a9)∧Aside0 (Kd.S (Kd.slice 3 (Kd.int .i64)) 25 wc w.heap.size (o6 aw (.slice (some aH) ah.length bi) u10 (.slice ar am.length aq) aD ab) (.slice (some br) ao.length bc) ao)∧Aside0 (Kd.R (Kd.int .i64) 3 wc w.heap.size (o4 aw (.slice (some aH) ah.length bi) u10 ab) (.slice ar am.length aq) am)∧Aside0 (Kd.S (Kd.slice 3 (Kd.int .i64)) 25 wc w.heap.size (o6 aw (.slice (some aH) ah.length bi) u10 (.slice (some br) ao.length bc) (.slice ar am.length aq) ab) aD au)∧Aside0 (Kd.R (Kd.int .i64) 3 wc w.heap.size (o4 aw (.slice (some aH) ah.length bi) u10 (.slice ar am.length aq)) ab ap)∧Aside0 (wc.heap[bN]? =some (.cells #[.int .i64 bD,(.slice bP bm.length bT),(.slice bQ bn.length bU)] 27 (0,0)))∧Aside0 (wc.heap[bB]? =some (.cells #[.int .i64 0,(.slice none 0 0),(.slice none 0 0)] 27 (0,0)))∧Aside0 (wc.heap[bh]? =some (.cells #[.int .i64 aG,(.slice (some br) ao.length bc),(.slice ar am.length aq)] 27 (0,0)))∧Aside0 (wc.heap[aV]? =some (.cells #[.int .i64 aG,aD,ab] 27 (0,0)))∧Aside0 (Kd.C (Kd.int .i64) wc (some ci) (f_ ao (rd ah an)).length (f_ ao (rd ah an)))∧Aside0 (Below w.heap.size w wc))
          case first=>
           have H:=gL.o;clear gL
           replace H:=Hi_ H;rcases H with⟨eh,H⟩|⟨eh,H⟩
           ·(skip)
            have H':=A_ H
            clear H
            go_wp2
            go_meet
            case rel=>exact⟨_,(decide (bC<0)),rf,H',⟨by have:=cF.o;have:=cG.o;have:=cY.o;omega⟩,aC,aA,az,af,ae,ag,aa,ai,al,ak,aj,⟨by repeat (first|(with_reducible exact ay.o)|(with_reducible refine Kd.C_alloc ?_ _)|(with_reducible refine Kd.oH ?_ _)|(with_reducible refine Kd.pG ?_)|exact ay.o)⟩,HB⟩
           (skip)
           have H':=A_ H
           clear H
           go_wp2
           go_meet
           case rel=>exact⟨_,(false),rf,H',⟨by have:=cF.o;have:=cG.o;have:=cY.o;omega⟩,aC,aA,az,af,ae,ag,aa,ai,al,ak,aj,⟨by repeat (first|(with_reducible exact ay.o)|(with_reducible refine Kd.C_alloc ?_ _)|(with_reducible refine Kd.oH ?_ _)|(with_reducible refine Kd.pG ?_)|exact ay.o)⟩,HB⟩
          case rest=>
           clear gL;obtain⟨kq,b1,rfl,HA,b4,aC,aA,az,af,ae,ag,aa,ai,al,ak,aj,ay,HB⟩:=hcut
           cases kq with
           |zero=>exact nz_ HA.o
           |succ gq=>
            have H:=HA.o;clear HA;simp only[mQ.j3]at H
            replace H:=Hb_ H;rcases H with⟨rfl,H⟩|⟨rfl,H⟩
            ·replace ⟨fw,H⟩:=Hd_ H
             replace ⟨fx,H⟩:=Hd_ H
             replace ⟨fy,H⟩:=Hd_ H
             replace ⟨fz,H⟩:=Hd_ H
             replace ⟨fA,H⟩:=Hd_ H
             replace ⟨fB,H⟩:=Hd_ H
             replace H:=Hj_ H;rcases H with⟨c51,H⟩|⟨c51,H⟩
             ·have ei:((rd aJ (rd ah ax))==(rd aJ (rd (f_ ao (rd ah an)) av)))=true:=beq_iff_eq.mpr c51
              have ej:((rd aJ (rd ah ax)) !=(rd aJ (rd (f_ ao (rd ah an)) av)))=false:=bne_eq_false_iff_eq.mpr c51
              clear c51
              have H':=A_ H
              clear H
              try go_wp2
              replace aC:=A_ (Kd.pR aC.o);replace aA:=A_ (Kd.pR aA.o);replace az:=A_ (Kd.pR az.o);replace af:=A_ (Kd.vK af.o);replace ae:=A_ (Kd.pR ae.o);replace ag:=A_ (Kd.vK ag.o);replace aa:=A_ (Kd.pR aa.o);replace ai:=A_ (nQ ai.o);replace al:=A_ (nQ al.o);replace ak:=A_ (nQ ak.o);replace aj:=A_ (nQ aj.o);replace ay:=A_ (Kd.pG ay.o);replace HB:=A_ (oG HB.o)
              have b8:0≤(ax:Int):=oa_
              have cd:ax<(ah.length:Int):=oa_
              obtain⟨cJ,dB,bI⟩:=Kd.nM (Kd.mX aA.o).2.2 ax b8 cd;obtain rfl:aH=cJ:=(by injection dB);replace b8:=eq_true b8;replace cd:=eq_true cd;obtain⟨gy,gG,eo⟩:=Kd.mU aC.o
              (first|subst eo|(injection eo with aZ cz a_;have eu:=aZ.symm;have eT:=a_.symm;clear aZ cz a_;subst eu;subst eT))
              have b9:0≤((rd ah ax):Int):=oa_
              have cf:(rd ah ax)<(aJ.length:Int):=oa_
              obtain⟨bS,dC,bJ⟩:=Kd.nM (Kd.mX aC.o).2.2 (rd ah ax) b9 cf
              cases dC
              replace b9:=eq_true b9;replace cf:=eq_true cf
              have cc:0≤((rd (f_ ao (rd ah an)) av):Int):=oa_
              have cg:(rd (f_ ao (rd ah an)) av)<(aJ.length:Int):=oa_
              obtain⟨cK,dD,bK⟩:=Kd.nM (Kd.mX aC.o).2.2 (rd (f_ ao (rd ah an)) av) cc cg;obtain rfl:bS=cK:=(by injection dD);replace cc:=eq_true cc;replace cg:=eq_true cg;refine rM (n:=12) (S:=fun w'=>w'.cell? (aH.add (ax).toNat)=some (.int .i64 (rd ah ax))∧w'.cell? (bS.add ((rd ah ax)).toNat)=some (.int .i64 (rd aJ (rd ah ax)))∧w'.cell? (bS.add ((rd (f_ ao (rd ah an)) av)).toNat)=some (.int .i64 (rd aJ (rd (f_ ao (rd ah an)) av)))) (ds:=[]) (mk_ 12 0) K_ rfl rfl ⟨bI,bJ,bK⟩ (fun aI=>?_);refine ru mQ.Ka mQ.FB (fun ba b5=>?_)
              generalize wc.drew=iM at aC aA az af ae ag aa ai al ak aj ay HB bI bJ bK aI⊢
              refine pw_ 0 63 (mk_ 12 1) ba ?_;refine pw_ 1 64 (mk_ 12 3) ba ?_;refine pw_ 2 65 (mk_ 12 7) ba ?_;refine pw_ 3 66 (mk_ 12 15) ba ?_;refine pw_ 7 70 (mk_ 12 143) ba ?_;refine pw_ 8 71 (mk_ 12 399) ba ?_;refine pw_ 9 72 (mk_ 12 911) ba ?_;refine tk_ 4 67 (mk_ 12 927) ba b5 aI ?_;refine pw_ 5 68 (mk_ 12 959) ba ?_;refine tk_ 6 69 (mk_ 12 1023) ba b5 aI ?_;refine tk_ 10 73 (mk_ 12 2047) ba b5 aI ?_;refine pw_ 11 74 (mk_ 12 4095) ba ?_;refine sZ (sP ba.o K_) ?_
              try go_wp2
              go_roundg gq
              case measure=>have:=cF.o;have:=cG.o;have:=cY.o;have:=b4.o;omega
              case rel=>exact⟨(ax),(wrap64 (ax+1)),rf,rf,H',⟨by have:=cF.o;have:=cG.o;have:=cY.o;have:=b4.o;omega⟩,aC,aA,az,af,ae,ag,aa,ai,al,ak,aj,⟨by repeat (first|(with_reducible exact ay.o)|(with_reducible refine Kd.C_alloc ?_ _)|(with_reducible refine Kd.oH ?_ _)|(with_reducible refine Kd.pG ?_)|exact ay.o)⟩,HB⟩
             have ei:((rd aJ (rd ah ax))==(rd aJ (rd (f_ ao (rd ah an)) av)))=false:=beq_eq_false_iff_ne.mpr c51
             have ej:((rd aJ (rd ah ax)) !=(rd aJ (rd (f_ ao (rd ah an)) av)))=true:=bne_iff_ne.mpr c51
             have H':=A_ H
             clear H
             try go_wp2
             replace aC:=A_ (Kd.pR aC.o);replace aA:=A_ (Kd.pR aA.o);replace az:=A_ (Kd.pR az.o);replace af:=A_ (Kd.vK af.o);replace ae:=A_ (Kd.pR ae.o);replace ag:=A_ (Kd.vK ag.o);replace aa:=A_ (Kd.pR aa.o);replace ai:=A_ (nQ ai.o);replace al:=A_ (nQ al.o);replace ak:=A_ (nQ ak.o);replace aj:=A_ (nQ aj.o);replace ay:=A_ (Kd.pG ay.o);replace HB:=A_ (oG HB.o)
             have b8:0≤(ax:Int):=oa_
             have cd:ax<(ah.length:Int):=oa_
             obtain⟨cJ,dB,bI⟩:=Kd.nM (Kd.mX aA.o).2.2 ax b8 cd;obtain rfl:aH=cJ:=(by injection dB);replace b8:=eq_true b8;replace cd:=eq_true cd;obtain⟨gz,gH,ep⟩:=Kd.mU aC.o
             (first|subst ep|(injection ep with aZ cz a_;have eu:=aZ.symm;have eT:=a_.symm;clear aZ cz a_;subst eu;subst eT))
             have b9:0≤((rd ah ax):Int):=oa_
             have cf:(rd ah ax)<(aJ.length:Int):=oa_
             obtain⟨bS,dC,bJ⟩:=Kd.nM (Kd.mX aC.o).2.2 (rd ah ax) b9 cf
             cases dC
             replace b9:=eq_true b9;replace cf:=eq_true cf
             have cc:0≤((rd (f_ ao (rd ah an)) av):Int):=oa_
             have cg:(rd (f_ ao (rd ah an)) av)<(aJ.length:Int):=oa_
             obtain⟨cK,dD,bK⟩:=Kd.nM (Kd.mX aC.o).2.2 (rd (f_ ao (rd ah an)) av) cc cg;obtain rfl:bS=cK:=(by injection dD);replace cc:=eq_true cc;replace cg:=eq_true cg;refine rM (n:=12) (S:=fun w'=>w'.cell? (aH.add (ax).toNat)=some (.int .i64 (rd ah ax))∧w'.cell? (bS.add ((rd ah ax)).toNat)=some (.int .i64 (rd aJ (rd ah ax)))∧w'.cell? (bS.add ((rd (f_ ao (rd ah an)) av)).toNat)=some (.int .i64 (rd aJ (rd (f_ ao (rd ah an)) av)))) (ds:=[]) (mk_ 12 0) K_ rfl rfl ⟨bI,bJ,bK⟩ (fun aI=>?_);refine ru mQ.Ka mQ.FB (fun ba b5=>?_)
             generalize wc.drew=iN at aC aA az af ae ag aa ai al ak aj ay HB bI bJ bK aI⊢
             refine pw_ 0 63 (mk_ 12 1) ba ?_;refine pw_ 1 64 (mk_ 12 3) ba ?_;refine pw_ 2 65 (mk_ 12 7) ba ?_;refine pw_ 3 66 (mk_ 12 15) ba ?_;refine pw_ 7 70 (mk_ 12 143) ba ?_;refine pw_ 8 71 (mk_ 12 399) ba ?_;refine pw_ 9 72 (mk_ 12 911) ba ?_;refine tk_ 4 67 (mk_ 12 927) ba b5 aI ?_;refine pw_ 5 68 (mk_ 12 959) ba ?_;refine tk_ 6 69 (mk_ 12 1023) ba b5 aI ?_;refine tk_ 10 73 (mk_ 12 2047) ba b5 aI ?_;refine pw_ 11 74 (mk_ 12 4095) ba ?_;refine sZ (sP ba.o K_) ?_
             try go_wp2
             go_roundg gq
             case measure=>have:=cF.o;have:=cG.o;have:=cY.o;have:=b4.o;omega
             case rel=>exact⟨(bC),(wrap64 (ax+1)),rf,rf,H',⟨by have:=cF.o;have:=cG.o;have:=cY.o;have:=b4.o;omega⟩,aC,aA,az,af,ae,ag,aa,ai,al,ak,aj,⟨by repeat (first|(with_reducible exact ay.o)|(with_reducible refine Kd.C_alloc ?_ _)|(with_reducible refine Kd.oH ?_ _)|(with_reducible refine Kd.pG ?_)|exact ay.o)⟩,HB⟩
            replace H:=Hi_ H;rcases H with⟨ek,H⟩|⟨ek,H⟩
            ·replace ⟨dT,H⟩:=Ha_ H
             obtain⟨dL,cS⟩:=ex_ ((ah++[(rd (f_ ao (rd ah an)) av)]):List Int);rw[←cS]at H;have d6:=A_ cS;clear cS
             replace ⟨dU,H⟩:=Ha_ H
             obtain⟨eE,cU⟩:=ex_ ((a9++[(ah.length:Int)]):List Int);rw[←cU]at H;have d7:=A_ cU;clear cU
             have H':=A_ H
             clear H
             go_wp2_with (first|((with_reducible refine nG (b:=.append) (xs:= #[.tmp 80,.tmp 82]) rfl ?_);at_builtin;refine Kd.qG (Kd.int .i64) (w0:=w) w.heap.size rfl (.tmp 80) (.tmp 82) 25 3 (.int .i64 0) 8 rfl Try.underlying25 info3 rfl d_ om (.slice (some aH) ah.length bi) ah (rd (f_ ao (rd ah an)) av) [.int .i64 (rd (f_ ao (rd ah an)) av)] (o4 aw u10 (.slice ar am.length aq) ab) (fun _=>False) rfl rfl ?aP (fun _ hk=>hk.elim) ?aF ?aO ?aB ?aS ?aL ?_;(case aP=>exact rfl);(case aB=>exact HB.o);(case aF=>exact(fun k_ hk=>⟨Kd.fresh' (Kd.oV aC.o) k_ hk,Kd.fresh' (Kd.oV az.o) k_ hk,Kd.fresh' (Kd.oV ae.o) k_ hk,Kd.fresh' (Kd.oV aa.o) k_ hk⟩));(case aO=>exact aA.o);(case aS=>exact(mK HB.o));(case aL=>have:=dT.o;omega);intro cC iO ho hb hg hat;rw[←d6.o]at ho;replace aC:=A_ (Kd.pq (ok:=(o3 u10 (.slice ar am.length aq) ab)) (by exact Kd.mM aC.o (fun _ hk=>⟨⟨hk.2.1,⟨hk.2.2.1,hk.2.2.2⟩⟩,hk.1⟩)) hg hat);replace az:=A_ (Kd.pq (ok:=(o3 aw (.slice ar am.length aq) ab)) (by exact Kd.mM az.o (fun _ hk=>⟨⟨hk.1,⟨hk.2.2.1,hk.2.2.2⟩⟩,hk.2.1⟩)) hg hat);replace af:=A_ (Kd.sF (ok:=(o5 aw u10 (.slice ar am.length aq) aD ab)) (by exact Kd.nV af.o (fun _ hk=>⟨⟨hk.1,⟨hk.2.2.1,⟨hk.2.2.2.1,⟨hk.2.2.2.2.1,hk.2.2.2.2.2⟩⟩⟩⟩,hk.2.1⟩)) hg hat);replace ae:=A_ (Kd.pq (ok:=(o3 aw u10 ab)) (by exact Kd.mM ae.o (fun _ hk=>⟨⟨hk.1,⟨hk.2.2.1,hk.2.2.2⟩⟩,hk.2.1⟩)) hg hat);replace ag:=A_ (Kd.sF (ok:=(o5 aw u10 (.slice (some br) ao.length bc) (.slice ar am.length aq) ab)) (by exact Kd.nV ag.o (fun _ hk=>⟨⟨hk.1,⟨hk.2.2.1,⟨hk.2.2.2.1,⟨hk.2.2.2.2.1,hk.2.2.2.2.2⟩⟩⟩⟩,hk.2.1⟩)) hg hat);replace aa:=A_ (Kd.pq (ok:=(o3 aw u10 (.slice ar am.length aq))) (by exact Kd.mM aa.o (fun _ hk=>⟨⟨hk.1,⟨hk.2.2.1,hk.2.2.2⟩⟩,hk.2.1⟩)) hg hat);replace ai:=gR_ aA ai hg;replace al:=gR_ aA al hg;replace ak:=gR_ aA ak hg;replace aj:=gR_ aA aj hg;replace HB:=A_ (hb);have ch:=A_ (ho);clear aA;clear ho hb hg hat)|((with_reducible refine nG (b:=.append) (xs:= #[.tmp 84,.tmp 86]) rfl ?_);at_builtin;refine Kd.qG (Kd.int .i64) (w0:=w) w.heap.size rfl (.tmp 84) (.tmp 86) 25 3 (.int .i64 0) 8 rfl Try.underlying25 info3 rfl d_ om u10 a9 (ah.length:Int) [.int .i64 (ah.length:Int)] (o4 aw (.slice ar am.length aq) ab cC) (fun _=>False) rfl rfl ?aP (fun _ hk=>hk.elim) ?aF ?aO ?aB ?aS ?aL ?_;(case aP=>exact rfl);(case aB=>exact HB.o);(case aF=>exact(fun k_ hk=>⟨Kd.fresh' (Kd.oV aC.o) k_ hk,Kd.fresh' (Kd.oV ae.o) k_ hk,Kd.fresh' (Kd.oV aa.o) k_ hk,Kd.fresh' (Kd.oV ch.o) k_ hk⟩));(case aO=>exact(by exact Kd.mM az.o (fun _ hk=>⟨hk.1.1,⟨hk.1.2.1,⟨hk.1.2.2,hk.2⟩⟩⟩)));(case aS=>exact(mK HB.o));(case aL=>have:=dU.o;omega);intro g8 iP ho hb hg hat;rw[←d7.o]at ho;replace aC:=A_ (Kd.pq (ok:=(o3 (.slice ar am.length aq) ab cC)) (by exact Kd.mM aC.o (fun _ hk=>⟨⟨hk.1.2.1,⟨hk.1.2.2,hk.2⟩⟩,hk.1.1⟩)) hg hat);replace af:=A_ (Kd.sF (ok:=(o5 aw (.slice ar am.length aq) aD ab cC)) (by exact Kd.nV af.o (fun _ hk=>⟨⟨hk.1.1,⟨hk.1.2.2.1,⟨hk.1.2.2.2.1,⟨hk.1.2.2.2.2,hk.2⟩⟩⟩⟩,hk.1.2.1⟩)) hg hat);replace ae:=A_ (Kd.pq (ok:=(o3 aw ab cC)) (by exact Kd.mM ae.o (fun _ hk=>⟨⟨hk.1.1,⟨hk.1.2.2,hk.2⟩⟩,hk.1.2.1⟩)) hg hat);replace ag:=A_ (Kd.sF (ok:=(o5 aw (.slice (some br) ao.length bc) (.slice ar am.length aq) ab cC)) (by exact Kd.nV ag.o (fun _ hk=>⟨⟨hk.1.1,⟨hk.1.2.2.1,⟨hk.1.2.2.2.1,⟨hk.1.2.2.2.2,hk.2⟩⟩⟩⟩,hk.1.2.1⟩)) hg hat);replace aa:=A_ (Kd.pq (ok:=(o3 aw (.slice ar am.length aq) cC)) (by exact Kd.mM aa.o (fun _ hk=>⟨⟨hk.1.1,⟨hk.1.2.2,hk.2⟩⟩,hk.1.2.1⟩)) hg hat);replace ai:=gR_ az ai hg;replace al:=gR_ az al hg;replace ak:=gR_ az ak hg;replace aj:=gR_ az aj hg;replace ch:=A_ (Kd.pq (ok:=(o3 aw (.slice ar am.length aq) ab)) (by exact Kd.mM ch.o (fun _ hk=>⟨⟨hk.1,⟨hk.2.2.1,hk.2.2.2⟩⟩,hk.2.1⟩)) hg hat);replace HB:=A_ (hb);have dR:=A_ (ho);clear az;clear ho hb hg hat))
             go_roundg gq
             case measure=>have:=cF.o;have:=cG.o;have:=cY.o;have:=b4.o;omega
             case rel=>exact⟨(dL),(eE),(wrap64 (av+1)),rf,H',⟨by have:=cF.o;have:=cG.o;have:=cY.o;have:=b4.o;omega⟩,⟨by exact Kd.mM aC.o (fun _ hk=>⟨hk.1.2.2,⟨hk.2,⟨hk.1.1,hk.1.2.1⟩⟩⟩)⟩,⟨by exact Kd.mM ch.o (fun _ hk=>⟨hk.1.1,⟨hk.2,⟨hk.1.2.1,hk.1.2.2⟩⟩⟩)⟩,⟨by exact Kd.mM dR.o (fun _ hk=>⟨hk.1,⟨hk.2.2.2,⟨hk.2.1,hk.2.2.1⟩⟩⟩)⟩,⟨by exact Kd.nV af.o (fun _ hk=>⟨hk.1.1,⟨hk.1.2.2.2.2,⟨hk.2,⟨hk.1.2.1,⟨hk.1.2.2.1,hk.1.2.2.2.1⟩⟩⟩⟩⟩)⟩,⟨by exact Kd.mM ae.o (fun _ hk=>⟨hk.1.1,⟨hk.1.2.2,⟨hk.2,hk.1.2.1⟩⟩⟩)⟩,⟨by exact Kd.nV ag.o (fun _ hk=>⟨hk.1.1,⟨hk.1.2.2.2.2,⟨hk.2,⟨hk.1.2.1,⟨hk.1.2.2.1,hk.1.2.2.2.1⟩⟩⟩⟩⟩)⟩,⟨by exact Kd.mM aa.o (fun _ hk=>⟨hk.1.1,⟨hk.1.2.2,⟨hk.2,hk.1.2.1⟩⟩⟩)⟩,ai,al,ak,aj,HB⟩
            replace ⟨dV,H⟩:=Ha_ H
            obtain⟨eF,cV⟩:=ex_ ((a9++[bC]):List Int);rw[←cV]at H;have d8:=A_ cV;clear cV
            have H':=A_ H
            clear H
            go_wp2_with (first|((with_reducible refine nG (b:=.append) (xs:= #[.tmp 84,.tmp 86]) rfl ?_);at_builtin;refine Kd.qG (Kd.int .i64) (w0:=w) w.heap.size rfl (.tmp 84) (.tmp 86) 25 3 (.int .i64 0) 8 rfl Try.underlying25 info3 rfl d_ om u10 a9 bC [.int .i64 bC] (o4 aw (.slice (some aH) ah.length bi) (.slice ar am.length aq) ab) (fun _=>False) rfl rfl ?aP (fun _ hk=>hk.elim) ?aF ?aO ?aB ?aS ?aL ?_;(case aP=>exact rfl);(case aB=>exact HB.o);(case aF=>exact(fun k_ hk=>⟨Kd.fresh' (Kd.oV aC.o) k_ hk,Kd.fresh' (Kd.oV aA.o) k_ hk,Kd.fresh' (Kd.oV ae.o) k_ hk,Kd.fresh' (Kd.oV aa.o) k_ hk⟩));(case aO=>exact az.o);(case aS=>exact(mK HB.o));(case aL=>have:=dV.o;omega);intro g9 iQ ho hb hg hat;rw[←d8.o]at ho;replace aC:=A_ (Kd.pq (ok:=(o3 (.slice (some aH) ah.length bi) (.slice ar am.length aq) ab)) (by exact Kd.mM aC.o (fun _ hk=>⟨⟨hk.1,⟨hk.2.2.1,hk.2.2.2⟩⟩,hk.2.1⟩)) hg hat);replace aA:=A_ (Kd.pq (ok:=(o3 aw (.slice ar am.length aq) ab)) (by exact Kd.mM aA.o (fun _ hk=>⟨⟨hk.1,⟨hk.2.2.1,hk.2.2.2⟩⟩,hk.2.1⟩)) hg hat);replace af:=A_ (Kd.sF (ok:=(o5 aw (.slice (some aH) ah.length bi) (.slice ar am.length aq) aD ab)) (by exact Kd.nV af.o (fun _ hk=>⟨⟨hk.1,⟨hk.2.1,⟨hk.2.2.2.1,⟨hk.2.2.2.2.1,hk.2.2.2.2.2⟩⟩⟩⟩,hk.2.2.1⟩)) hg hat);replace ae:=A_ (Kd.pq (ok:=(o3 aw (.slice (some aH) ah.length bi) ab)) (by exact Kd.mM ae.o (fun _ hk=>⟨⟨hk.1,⟨hk.2.1,hk.2.2.2⟩⟩,hk.2.2.1⟩)) hg hat);replace ag:=A_ (Kd.sF (ok:=(o5 aw (.slice (some aH) ah.length bi) (.slice (some br) ao.length bc) (.slice ar am.length aq) ab)) (by exact Kd.nV ag.o (fun _ hk=>⟨⟨hk.1,⟨hk.2.1,⟨hk.2.2.2.1,⟨hk.2.2.2.2.1,hk.2.2.2.2.2⟩⟩⟩⟩,hk.2.2.1⟩)) hg hat);replace aa:=A_ (Kd.pq (ok:=(o3 aw (.slice (some aH) ah.length bi) (.slice ar am.length aq))) (by exact Kd.mM aa.o (fun _ hk=>⟨⟨hk.1,⟨hk.2.1,hk.2.2.2⟩⟩,hk.2.2.1⟩)) hg hat);replace ai:=gR_ az ai hg;replace al:=gR_ az al hg;replace ak:=gR_ az ak hg;replace aj:=gR_ az aj hg;replace HB:=A_ (hb);have dS:=A_ (ho);clear az;clear ho hb hg hat))
            go_roundg gq
            case measure=>have:=cF.o;have:=cG.o;have:=cY.o;have:=b4.o;omega
            case rel=>exact⟨(ah),(eF),(wrap64 (av+1)),rf,H',⟨by have:=cF.o;have:=cG.o;have:=cY.o;have:=b4.o;omega⟩,⟨by exact Kd.mM aC.o (fun _ hk=>⟨hk.1.1,⟨hk.2,⟨hk.1.2.1,hk.1.2.2⟩⟩⟩)⟩,⟨by exact Kd.mM aA.o (fun _ hk=>⟨hk.1.1,⟨hk.2,⟨hk.1.2.1,hk.1.2.2⟩⟩⟩)⟩,dS,⟨by exact Kd.nV af.o (fun _ hk=>⟨hk.1.1,⟨hk.1.2.1,⟨hk.2,⟨hk.1.2.2.1,⟨hk.1.2.2.2.1,hk.1.2.2.2.2⟩⟩⟩⟩⟩)⟩,⟨by exact Kd.mM ae.o (fun _ hk=>⟨hk.1.1,⟨hk.1.2.1,⟨hk.2,hk.1.2.2⟩⟩⟩)⟩,⟨by exact Kd.nV ag.o (fun _ hk=>⟨hk.1.1,⟨hk.1.2.1,⟨hk.2,⟨hk.1.2.2.1,⟨hk.1.2.2.2.1,hk.1.2.2.2.2⟩⟩⟩⟩⟩)⟩,⟨by exact Kd.mM aa.o (fun _ hk=>⟨hk.1.1,⟨hk.1.2.1,⟨hk.2,hk.1.2.2⟩⟩⟩)⟩,ai,al,ak,aj,HB⟩
       replace ⟨dW,H⟩:=Ha_ H
       obtain⟨bu,cP⟩:=ex_ ((au++[a9]):List (List Int));rw[←cP]at H;have d4:=A_ cP;clear cP
       replace ⟨fC,H⟩:=Hd_ H
       replace ⟨fD,H⟩:=Hd_ H
       replace ⟨fE,H⟩:=Hd_ H
       replace ⟨fF,H⟩:=Hd_ H
       replace ⟨dX,H⟩:=Ha_ H
       obtain⟨b2,cQ⟩:=ex_ ((ap++[rd am (rd ah an)]):List Int);rw[←cQ]at H;have d5:=A_ cQ;clear cQ
       have H':=A_ H
       clear H;have fQ:=bj.o;have gg:=a8.o;have fR:=bg.o;have gh:=aE.o;have fS:=aN.o;have gi:=bk.o;have eH:=bq3 ak.o;have fT:=bz.o;have gj:=aW.o;have fU:=bA.o;have gl:=aX.o;have eI:=bq3 aj.o;obtain⟨dy,dA,ff⟩:=Kd.mU az.o;subst ff
       try go_wp2_with (first|((with_reducible refine nG (b:=.append) (xs:= #[.tmp 89,.tmp 91]) rfl ?_);at_builtin;refine Kd.uq (Kd.slice 3 (Kd.int .i64)) (w0:=w) w.heap.size rfl (.tmp 89) (.tmp 91) 24 25 (.slice none 0 0) 24 rfl Try.underlying24 uO rfl d_ om aD au a9 [.slice dy a9.length dA] (o5 aw u8 (.slice bq ao.length bc) (.slice ar am.length aq) ab) (fun k_=>some k_=(.slice dy a9.length dA:Value).ownBlock) rfl rfl ?aP (fun k_ iB=>((Kd.mM (ok':=fun k_=>((o5 aw u8 (.slice bq ao.length bc) (.slice ar am.length aq) ab)) k_∧some k_≠(aD:Value).ownBlock) (Kd.pE (Kd.pE (az.o) (Kd.oL af.o) d_) (Kd.oL ag.o) d_) (fun k_ hk=>⟨⟨hk.1.1.1,⟨hk.1.1.2.1,⟨hk.1.2,⟨hk.1.1.2.2.1,hk.1.1.2.2.2⟩⟩⟩⟩,hk.2⟩))).1 k_ iB.symm) ?aF ?aO ?aB ?aS ?aL ?_;(case aP=>exact Kd.uR (Kd.mM (Kd.sD rfl (Kd.mM (ok':=fun k_=>((o5 aw u8 (.slice bq ao.length bc) (.slice ar am.length aq) ab)) k_∧some k_≠(aD:Value).ownBlock) (Kd.pE (Kd.pE (az.o) (Kd.oL af.o) d_) (Kd.oL ag.o) d_) (fun k_ hk=>⟨⟨hk.1.1.1,⟨hk.1.1.2.1,⟨hk.1.2,⟨hk.1.1.2.2.1,hk.1.1.2.2.2⟩⟩⟩⟩,hk.2⟩))) (fun _ h_=>h_)));(case aB=>exact HB.o);(case aF=>exact(fun k_ hk=>⟨Kd.fresh' (Kd.oV aC.o) k_ hk,Kd.fresh' (Kd.oV aA.o) k_ hk,Kd.fresh' (Kd.MR af.o) k_ hk,Kd.fresh' (Kd.oV ae.o) k_ hk,Kd.fresh' (Kd.oV aa.o) k_ hk⟩));(case aO=>exact(by exact Kd.nV ag.o (fun k_ hk=>⟨⟨hk.1,⟨hk.2.1,⟨hk.2.2.2.1,⟨hk.2.2.2.2.1,hk.2.2.2.2.2⟩⟩⟩⟩,fun e_=>hk.2.2.1 e_⟩)));(case aS=>exact(mK HB.o));(case aL=>have:=dW.o;omega);intro g6 iC ho hb hg hat;rw[←d4.o]at ho;replace aC:=A_ (Kd.qH aC.o (Kd.oL ag.o) d_ hg);replace aA:=A_ (Kd.qH aA.o (Kd.oL ag.o) d_ hg);replace af:=A_ (Kd.sF (ok:=(o5 aw u8 (.slice dy a9.length dA) (.slice ar am.length aq) ab)) (by exact Kd.nV af.o (fun _ hk=>⟨⟨hk.1,⟨hk.2.1,⟨hk.2.2.1,⟨hk.2.2.2.1,hk.2.2.2.2.2⟩⟩⟩⟩,hk.2.2.2.2.1⟩)) hg hat);replace ae:=A_ (Kd.qH ae.o (Kd.oL ag.o) d_ hg);replace aa:=A_ (Kd.qH aa.o (Kd.oL ag.o) d_ hg);replace ai:=gS_ ag ai hg;replace al:=gS_ ag al hg;replace ak:=gS_ ag ak hg;replace aj:=gS_ ag aj hg;replace HB:=A_ (hb);have bH:=A_ (ho);clear ag az;clear ho hb hg hat;obtain⟨bL,bM,fg⟩:=Kd.rO bH.o;subst fg;have eJ:=bq3 aj.o))
       generalize h_:(iC.setCell ⟨aV,1,none⟩ (.slice bL bu.length bM))=b_
       replace aC:Aside0 (Kd.R (Kd.int .i64) 3 b_ w.heap.size (o3 u8 (.slice ar am.length aq) ab) aw aJ):=⟨by rw[←h_];exact Kd.mM (Kd.sM (p:=⟨aV,1,none⟩) (Kd.qi aC.o aj.o d_) (fun _ hk=>hk.2) (.slice bL bu.length bM)) (fun _ hk=>⟨hk.1.1,⟨hk.1.2.2.1,hk.1.2.2.2⟩⟩)⟩;replace aA:Aside0 (Kd.R (Kd.int .i64) 3 b_ w.heap.size (o3 aw (.slice ar am.length aq) ab) u8 ah):=⟨by rw[←h_];exact Kd.mM (Kd.sM (p:=⟨aV,1,none⟩) (Kd.qi aA.o aj.o d_) (fun _ hk=>hk.2) (.slice bL bu.length bM)) (fun _ hk=>⟨hk.1.1,⟨hk.1.2.2.1,hk.1.2.2.2⟩⟩)⟩;replace af:Aside0 (Kd.S (Kd.slice 3 (Kd.int .i64)) 25 b_ w.heap.size (o5 aw u8 (.slice ar am.length aq) ab (.slice bL bu.length bM)) (.slice bq ao.length bc) ao):=⟨by rw[←h_];exact Kd.nV (Kd.vW (p:=⟨aV,1,none⟩) (Kd.wR af.o aj.o d_) (fun _ hk=>hk.2) (.slice bL bu.length bM)) (fun _ hk=>⟨hk.1.1.1,⟨hk.1.1.2.1,⟨hk.1.1.2.2.2.1,⟨hk.1.1.2.2.2.2,hk.1.2⟩⟩⟩⟩)⟩;replace ae:Aside0 (Kd.R (Kd.int .i64) 3 b_ w.heap.size (o3 aw u8 ab) (.slice ar am.length aq) am):=⟨by rw[←h_];exact Kd.mM (Kd.sM (p:=⟨aV,1,none⟩) (Kd.qi ae.o aj.o d_) (fun _ hk=>hk.2) (.slice bL bu.length bM)) (fun _ hk=>⟨hk.1.1,⟨hk.1.2.1,hk.1.2.2.2⟩⟩)⟩;replace aa:Aside0 (Kd.R (Kd.int .i64) 3 b_ w.heap.size (o3 aw u8 (.slice ar am.length aq)) ab ap):=⟨by rw[←h_];exact Kd.mM (Kd.sM (p:=⟨aV,1,none⟩) (Kd.qi aa.o aj.o d_) (fun _ hk=>hk.2) (.slice bL bu.length bM)) (fun _ hk=>⟨hk.1.1,⟨hk.1.2.1,hk.1.2.2.2⟩⟩)⟩;replace bH:Aside0 (Kd.S (Kd.slice 3 (Kd.int .i64)) 25 b_ w.heap.size (o5 aw u8 (.slice bq ao.length bc) (.slice ar am.length aq) ab) (.slice bL bu.length bM) bu):=⟨by rw[←h_];exact Kd.nV (Kd.vW (p:=⟨aV,1,none⟩) (Kd.wR bH.o aj.o d_) (fun _ hk=>hk.2) (.slice bL bu.length bM)) (fun _ hk=>⟨hk.1.1,⟨hk.1.2.1,⟨hk.1.2.2.1,⟨hk.1.2.2.2.1,hk.1.2.2.2.2⟩⟩⟩⟩)⟩;replace ai:Aside0 (b_.heap[bN]? =some (.cells #[.int .i64 bD,.slice bP bm.length bT,.slice bQ bn.length bU] 27 (0,0))):=⟨by rw[←h_];exact fa_ aW ai.o⟩;replace al:Aside0 (b_.heap[bB]? =some (.cells #[.int .i64 0,.slice none 0 0,.slice none 0 0] 27 (0,0))):=⟨by rw[←h_];exact fa_ aX al.o⟩;replace ak:Aside0 (b_.heap[bh]? =some (.cells #[.int .i64 aG,.slice bq ao.length bc,.slice ar am.length aq] 27 (0,0))):=⟨by rw[←h_];exact fa_ aN ak.o⟩;replace aj:Aside0 (b_.heap[aV]? =some (.cells #[.int .i64 aG,.slice bL bu.length bM,ab] 27 (0,0))):=⟨by rw[←h_];exact pu_ 1 aj.o rfl⟩;replace HB:Aside0 (Below w.heap.size w b_):=⟨by rw[←h_];repeat (first|(with_reducible first|exact HB.o|apply pI|apply rE|apply oG|refine mY ?_ bE.o|refine mY ?_ bF.o|refine mY ?_ bG.o|refine mY ?_ b3.o)|exact HB.o)⟩;clear h_;replace aC:=A_ (Kd.pR aC.o);replace aA:=A_ (Kd.pR aA.o);replace af:=A_ (Kd.vK af.o);replace ae:=A_ (Kd.pR ae.o);replace aa:=A_ (Kd.pR aa.o);replace bH:=A_ (Kd.vK bH.o);replace ai:=A_ (nQ ai.o);replace al:=A_ (nQ al.o);replace ak:=A_ (nQ ak.o);replace aj:=A_ (nQ aj.o);replace HB:=A_ (oG HB.o);obtain⟨gD,cL,eq⟩:=Kd.mU aA.o
       (first|subst eq|(injection eq with aZ cz a_;have eu:=aZ.symm;have eT:=a_.symm;clear aZ cz a_;subst eu;subst eT))
       have dF:0≤(an:Int):=oa_
       have dH:an<(ah.length:Int):=oa_
       obtain⟨bW,eV,cw⟩:=Kd.nM (Kd.mX aA.o).2.2 an dF dH
       cases eV
       replace dF:=eq_true dF;replace dH:=eq_true dH
       have dG:0≤((rd ah an):Int):=oa_
       have dI:(rd ah an)<(am.length:Int):=oa_
       obtain⟨bR,eX,cA⟩:=Kd.nM (Kd.mX ae.o).2.2 (rd ah an) dG dI
       cases eX
       replace dG:=eq_true dG;replace dI:=eq_true dI;refine rM (n:=14) (S:=fun w'=>cA3 aV (.int .i64 aG) (.slice bL bu.length bM) (ab) w' (cA3 bh (.int .i64 aG) (.slice bq ao.length bc) (.slice (some bR) am.length aq) w' (w'.cell? (bW.add (an).toNat)=some (.int .i64 (rd ah an))∧w'.cell? (bR.add ((rd ah an)).toNat)=some (.int .i64 (rd am (rd ah an)))))) (ds:=[11,13]) (mk_ 14 0) K_ rfl rfl ⟨bz0 aj.o,bz1 aj.o,bz2 aj.o,bz0 ak.o,bz1 ak.o,bz2 ak.o,cw,cA⟩ (fun aI=>?_);refine ru mQ.OW mQ.Oa (fun ba b5=>?_)
       generalize b_.drew=iR at aC aA af ae aa bH ai al ak aj HB cw cA aI⊢
       refine pw_ 0 94 (mk_ 14 1) ba ?_;refine pw_ 2 96 (mk_ 14 5) ba ?_;refine pw_ 4 98 (mk_ 14 21) ba ?_;refine pw_ 5 99 (mk_ 14 53) ba ?_;refine pw_ 6 100 (mk_ 14 117) ba ?_;refine tk_ 1 95 (mk_ 14 119) ba b5 aI ?_;refine tk_ 3 97 (mk_ 14 127) ba b5 aI ?_;refine tk_ 7 101 (mk_ 14 255) ba b5 aI ?_;refine pw_ 8 102 (mk_ 14 511) ba ?_;refine tk_ 9 103 (mk_ 14 1023) ba b5 aI ?_;refine ow_ 10 (mk_ 14 2047) ba (fun K hK=>?_);refine yn (w1:=?_) (v:=?_) rf rfl ?_ ?_;rotate_left 2
       ·go_simp
        constructor
        ·rfl
        rfl
       refine hK.out _ _ ⟨(pU (nP aj.o _) 0).trans rfl,(pU (nP aj.o _) 1).trans rfl,(pU (nP aj.o _) 2).trans rfl,(pU (nP ak.o _) 0).trans rfl,(pU (nP ak.o _) 1).trans rfl,(pU (nP ak.o _) 2).trans rfl,(World.cell?_alloc_lt _ _ _ (World.block_lt_of_cell? _ _ (aI.2.2.2.2.2.2.1))).trans (aI.2.2.2.2.2.2.1),(World.cell?_alloc_lt _ _ _ (World.block_lt_of_cell? _ _ (aI.2.2.2.2.2.2.2))).trans (aI.2.2.2.2.2.2.2)⟩ (fun aI=>?_);clear hK K;refine nm_ 104 ?_;refine vI (i:=11) (N:=some 105) (mk_ 14 4095) rfl rfl (xJ ba.o K_) d_ (fun K hK=>?_);refine Kd.yu (Kd.int .i64) (w0:=w) w.heap.size rf (.tmp 95) (.tmp 104) 25 3 (.int .i64 0) 8 rfl Try.underlying25 info3 rfl d_ om ab ap (rd am (rd ah an)) [.int .i64 (rd am (rd ah an))] (o3 aw (.slice (some bW) ah.length cL) (.slice (some bR) am.length aq)) (fun _=>False) rfl rfl ?aP (fun _ hk=>hk.elim) ?aF ?aO ?aB ?aS ?aL ?_
       (case aP=>exact rfl)
       (case aB=>exact HB.o)
       (case aF=>exact(fun k_ hk=>⟨Kd.fresh' (Kd.oV aC.o) k_ hk,Kd.fresh' (Kd.oV aA.o) k_ hk,Kd.fresh' (Kd.oV ae.o) k_ hk⟩))
       (case aO=>exact aa.o)
       (case aS=>exact(mK HB.o))
       (case aL=>have:=dX.o;omega)
       intro g7 iD ho hb hg hat;rw[←d5.o]at ho;replace aC:=A_ (Kd.pq (ok:=(o2 (.slice (some bW) ah.length cL) (.slice (some bR) am.length aq))) (by exact Kd.mM aC.o (fun _ hk=>⟨⟨hk.1,hk.2.1⟩,hk.2.2⟩)) hg hat);replace aA:=A_ (Kd.pq (ok:=(o2 aw (.slice (some bR) am.length aq))) (by exact Kd.mM aA.o (fun _ hk=>⟨⟨hk.1,hk.2.1⟩,hk.2.2⟩)) hg hat);replace af:=A_ (Kd.sF (ok:=(o4 aw (.slice (some bW) ah.length cL) (.slice (some bR) am.length aq) (.slice bL bu.length bM))) (by exact Kd.nV af.o (fun _ hk=>⟨⟨hk.1,⟨hk.2.1,⟨hk.2.2.1,hk.2.2.2.2⟩⟩⟩,hk.2.2.2.1⟩)) hg hat);replace ae:=A_ (Kd.pq (ok:=(o2 aw (.slice (some bW) ah.length cL))) (by exact Kd.mM ae.o (fun _ hk=>⟨⟨hk.1,hk.2.1⟩,hk.2.2⟩)) hg hat);replace ai:=gR_ aa ai hg;replace al:=gR_ aa al hg;replace ak:=gR_ aa ak hg;replace aj:=gR_ aa aj hg;replace bH:=A_ (Kd.sF (ok:=(o4 aw (.slice (some bW) ah.length cL) (.slice bq ao.length bc) (.slice (some bR) am.length aq))) (by exact Kd.nV bH.o (fun _ hk=>⟨⟨hk.1,⟨hk.2.1,⟨hk.2.2.1,hk.2.2.2.1⟩⟩⟩,hk.2.2.2.2⟩)) hg hat);replace HB:=A_ (hb);have dm:=A_ (ho);clear aa ho hb hg hat;obtain⟨b6,b7,ew⟩:=Kd.mU dm.o
       (first|subst ew|(injection ew with aZ cz a_;have eu:=aZ.symm;have eT:=a_.symm;clear aZ cz a_;subst eu;subst eT))
       refine hK.out _ _ ?_;clear hK K;refine nm_ 105 ?_;refine pw_ 12 106 (mk_ 14 8191) ba ?_;refine vI (i:=13) (N:=none) (mk_ 14 16383) rfl rfl (xJ ba.o K_) d_ (fun K hK=>?_)
       have iE:iD.cell? ⟨aV,2,none⟩=some (ab):=bz2 aj.o
       have iy:=nY aj.o 2;have gZ:=aW.o;have g_:=aX.o;have ib:=aN.o;have ic:=bz.o;have ig:=bA.o;have ik:=bk.o;refine uI (w1:=?_) rf rfl ?_ ?_;rotate_left
       ·go_simp
        rfl
       refine hK.out _ _ ?_;clear hK K;refine sZ (sP ba.o K_) ?_
       try go_wp2
       go_roundg k2
       case measure=>have:=cF.o;have:=cG.o;omega
       case rel=>exact⟨(ah),(wrap64 (an+1)),(bu),(b2),(.slice bL bu.length bM),(.slice b6 b2.length b7),rf,H',⟨by have:=cF.o;have:=cG.o;omega⟩,⟨by exact Kd.mM (Kd.sM (p:=⟨aV,2,none⟩) (Kd.qi aC.o aj.o d_) (fun _ hk=>hk.2) (.slice b6 b2.length b7)) (fun _ hk=>⟨hk.1.1.1,⟨hk.1.1.2,hk.1.2⟩⟩)⟩,⟨by exact Kd.mM (Kd.sM (p:=⟨aV,2,none⟩) (Kd.qi aA.o aj.o d_) (fun _ hk=>hk.2) (.slice b6 b2.length b7)) (fun _ hk=>⟨hk.1.1.1,⟨hk.1.1.2,hk.1.2⟩⟩)⟩,⟨by exact Kd.nV (Kd.vW (p:=⟨aV,2,none⟩) (Kd.wR af.o aj.o d_) (fun _ hk=>hk.2) (.slice b6 b2.length b7)) (fun _ hk=>⟨hk.1.1.1,⟨hk.1.1.2.1,⟨hk.1.1.2.2.1,⟨hk.1.1.2.2.2,hk.1.2⟩⟩⟩⟩)⟩,⟨by exact Kd.mM (Kd.sM (p:=⟨aV,2,none⟩) (Kd.qi ae.o aj.o d_) (fun _ hk=>hk.2) (.slice b6 b2.length b7)) (fun _ hk=>⟨hk.1.1.1,⟨hk.1.1.2,hk.1.2⟩⟩)⟩,⟨by exact Kd.nV (Kd.vW (p:=⟨aV,2,none⟩) (Kd.wR bH.o aj.o d_) (fun _ hk=>hk.2) (.slice b6 b2.length b7)) (fun _ hk=>⟨hk.1.1.1,⟨hk.1.1.2.1,⟨hk.1.1.2.2.1,⟨hk.1.1.2.2.2,hk.1.2⟩⟩⟩⟩)⟩,⟨by exact Kd.mM (Kd.sM (p:=⟨aV,2,none⟩) (Kd.qi dm.o aj.o d_) (fun _ hk=>hk.2) (.slice b6 b2.length b7)) (fun _ hk=>⟨hk.1.1,⟨hk.1.2.1,hk.1.2.2⟩⟩)⟩,⟨by exact fa_ aW ai.o⟩,⟨by exact fa_ aX al.o⟩,⟨by exact fa_ aN ak.o⟩,⟨by exact pu_ 2 aj.o rfl⟩,⟨wb_⟩⟩
    simp only[Option.some.injEq,Prod.mk.injEq]at H;obtain⟨rfl,rfl,rfl,rfl⟩:=H;obtain⟨gE,gI,fh⟩:=Kd.mU aA.o;subst fh;have fV:=bz.o;have gm:=aW.o;have fW:=bA.o;have gn:=aX.o;have fX:=bk.o;have go:=aN.o;have eK:=bq3 aj.o;have fY:=bw.o;have gp:=bv.o;have fZ:=aE.o;have gt:=bg.o;have eN:=bq3 al.o;obtain⟨eQ,eS,fi⟩:=Kd.rO ag.o;subst fi;obtain⟨eR,eU,fj⟩:=Kd.mU aa.o;subst fj
    go_wp2
    refine rt_ #[.int .i64 aG,.slice eQ au.length eS,.slice eR ap.length eU] (by exact pu_ 2 (pu_ 1 (pu_ 0 al.o rfl) rfl) rfl) Try.underlying27 ?_;exact⟨_,_,rf,by exact Kd.nV (EF (tS_ ag al)) (fun _ hk=>hk.1.2.2.2.2),by exact Kd.mM (xe (tR_ aa al)) (fun _ hk=>trivial),wb_⟩
 simp only[Option.some.injEq,Prod.mk.injEq]at H;obtain⟨rfl,rfl,rfl,rfl⟩:=H;go_enter Try.func38,Try.ntmps38
 go_wp2_with (first|((with_reducible refine gt_ 1 ?_);refine be_ 1 #[.int .i64 bD,.slice bP bm.length bT,.slice bQ bn.length bU] 27 ?_;intro bN hg iT J hb;have ai:=A_ (J);have dM:=lh_ HB hg;have bE:=lh_ HB hg;replace HB:=bs_ HB hb;clear hb J hg)|((with_reducible refine gt_ 2 ?_);refine be_ 2 #[.int .i64 0,.slice none 0 0,.slice none 0 0] 27 ?_;intro bB hg iU J hb;have al:=A_ (J);have dN:=lh_ HB hg;have bF:=lh_ HB hg;replace HB:=bs_ HB hb;have bv:=nl_ ai hg;have bw:=ng_ ai hg;replace ai:=bb_ ai hb;clear hb J hg;have f6:=bv.o;have gv:=bw.o;have eO:=bq3 ai.o)|((with_reducible refine gc_ 58 rfl ?_);refine cM_ E58 17 (ni.calls k bD _ _ bm _ _ bn aG ao am false _ (Kd.mO dn.o HB.o) dj.o (Kd.mO dp.o HB.o) dk.o A2.o) ?_;rintro e iF ⟨fq,fs,rfl,ho0,ho1,hb⟩;refine⟨_,rfl,?_⟩;have bf:=A_ (Kd.uy ho0 (mK HB.o));have be:=A_ (Kd.nE ho1 (mK HB.o));replace ai:=bb_ ai hb;replace al:=bb_ al hb;replace HB:=bs_ HB hb;clear hb ho0;(try clear ho1))|((with_reducible refine gt_ 4 ?_);refine be_ 4 #[.int .i64 0,.slice none 0 0,.slice none 0 0] 27 ?_;intro bh hg iG J hb;replace bf:=A_ (Kd.wS bf.o hb);replace be:=A_ (Kd.nX be.o hb);have ak:=A_ (J);have dO:=lh_ HB hg;have bG:=lh_ HB hg;replace HB:=bs_ HB hb;have a8:=nl_ ai hg;have bj:=ng_ ai hg;replace ai:=bb_ ai hb;have aE:=nl_ al hg;have bg:=ng_ al hg;replace al:=bb_ al hb;clear hb J hg;have fk:=bj.o;have fm:=a8.o;have fl:=bg.o;have fo:=aE.o;have ez:=bq3 ak.o;obtain⟨ft,fG,el⟩:=Kd.rO bf.o;subst el;obtain⟨fu,fH,em⟩:=Kd.mU be.o;subst em;have eB:=bq3 al.o))
 refine rt_ #[.int .i64 0,.slice none 0 0,.slice none 0 0] (by exact pu_ 2 (pu_ 1 (pu_ 0 (fa_ aE (fa_ aE (fa_ aE al.o))) rfl) rfl) rfl) Try.underlying27 ?_;exact⟨_,_,rf,by exact Kd.za _ _ _ _ _,by exact Kd.sI _ _ _ _ _,wb_⟩
mutual
def mJ.j0:Nat→Int→Bool→Int→List (List Int)→List Int→Option (Int×List Int×(List (List (List Int)))×List Int×Bool)
 |0,_,_,_,_,_=>none
 |k+1,x1,mI,aH,aC,aI=>if mI=true then(some (0,([]:List Int),([]:List (List (List Int))),([]:List Int),false))else(if 0≤(wrap64 (2*(aC.length:Int)))then(if(wrap64 (2*(aC.length:Int)):Int).toNat≤35184372088832 then((some (List.replicate (wrap64 (2*(aC.length:Int)):Int).toNat 0:List Int)).bind fun bE=>(if 0<(bE.length:Int)then(mJ.l0 k x1 (aC.length:Int) 0 aH aC aI aH (bE.set (0:Int).toNat 1) (List.replicate (wrap64 (2*(aC.length:Int)):Int).toNat 0))else(none)))else(none))else(none))
def mJ.l0:Nat→Int→Int→Int→Int→List (List Int)→List Int→Int→List Int→List Int→Option (Int×List Int×(List (List (List Int)))×List Int×Bool)
 |0,_,_,_,_,_,_,_,_,_=>none
 |k+1,x1,x8,eH,aH,aC,aI,aM,aN,aJ=>if eH<x8 then(if 0≤eH then(if eH<(aI.length:Int)then(if(rd aI eH)=x1 then(if 0≤(wrap64 (x8+eH))then(if(wrap64 (x8+eH))<(aJ.length:Int)then(mJ.l0 k x1 x8 (wrap64 (eH+1)) aH aC aI aM aN (aJ.set ((wrap64 (x8+eH)):Int).toNat 1))else(none))else(none))else(mJ.l0 k x1 x8 (wrap64 (eH+1)) aH aC aI aM aN aJ))else(none))else(none))else(mJ.l1 k x8 0 aH aC aI aM aN ([]:List (List (List Int))) aJ)
def mJ.l1:Nat→Int→Int→Int→List (List Int)→List Int→Int→List Int→List (List (List Int))→List Int→Option (Int×List Int×(List (List (List Int)))×List Int×Bool)
 |0,_,_,_,_,_,_,_,_,_=>none
 |k+1,x8,cG,aH,aC,aI,aM,aN,aV,aJ=>if cG<aH then(mJ.l2 k x8 cG (([]:List (List Int))) 0 aH aC aI aM aN aV aJ)else(some (aM,aN,aV,aJ,true))
def mJ.l2:Nat→Int→Int→List (List Int)→Int→Int→List (List Int)→List Int→Int→List Int→List (List (List Int))→List Int→Option (Int×List Int×(List (List (List Int)))×List Int×Bool)
 |0,_,_,_,_,_,_,_,_,_,_,_=>none
 |k+1,x8,cG,dk,b8,aH,aC,aI,aM,aN,aV,aJ=>if b8<(wrap64 (2*x8))then(if 0≤(wrap64 (2*x8))then(if(wrap64 (2*x8):Int).toNat≤35184372088832 then(mJ.l3 k x8 cG dk b8 (List.replicate (wrap64 (2*x8):Int).toNat 0) 0 aH aC aI aM aN aV aJ)else(none))else(none))else(if aV.length<5864062014805 then(mJ.l1 k x8 (wrap64 (cG+1)) aH aC aI aM aN (aV++[dk]) aJ)else(none))
def mJ.l3:Nat→Int→Int→List (List Int)→Int→List Int→Int→Int→List (List Int)→List Int→Int→List Int→List (List (List Int))→List Int→Option (Int×List Int×(List (List (List Int)))×List Int×Bool)
 |0,_,_,_,_,_,_,_,_,_,_,_,_,_=>none
 |k+1,x8,cG,dk,b8,cK,cL,aH,aC,aI,aM,aN,aV,aJ=>if cL<aH then(if x8=0 then(none)else(if 0≤(Int.tmod b8 x8)then(if(Int.tmod b8 x8)<(aC.length:Int)then(if 0≤cL then(if cL<((f_ aC (Int.tmod b8 x8)).length:Int)then(if b8<x8 then(mJ.j5 k x8 cG dk b8 cK cL (rd (f_ aC (Int.tmod b8 x8)) cL) (cL==cG) aH aC aI aM aN aV aJ)else(mJ.j5 k x8 cG dk b8 cK cL (rd (f_ aC (Int.tmod b8 x8)) cL) false aH aC aI aM aN aV aJ))else(none))else(none))else(none))else(none)))else(if dk.length<5864062014805 then(mJ.l2 k x8 cG (dk++[cK]) (wrap64 (b8+1)) aH aC aI aM aN aV aJ)else(none))
def mJ.j5:Nat→Int→Int→List (List Int)→Int→List Int→Int→Int→Bool→Int→List (List Int)→List Int→Int→List Int→List (List (List Int))→List Int→Option (Int×List Int×(List (List (List Int)))×List Int×Bool)
 |0,_,_,_,_,_,_,_,_,_,_,_,_,_,_,_=>none
 |k+1,x8,cG,dk,b8,cK,cL,b9,kB,aH,aC,aI,aM,aN,aV,aJ=>if kB=true then(if 0≤b9 then(if b9<(cK.length:Int)then((some (cK.set (b9:Int).toNat (wrap64 ((rd cK b9)+1)):List Int)).bind fun ba=>(if b8<x8 then(if cL<cG then(if 0≤(wrap64 (x8+b9))then(if(wrap64 (x8+b9))<(cK.length:Int)then(mJ.l3 k x8 cG dk b8 (ba.set ((wrap64 (x8+b9)):Int).toNat (wrap64 ((rd ba (wrap64 (x8+b9)))+1))) (wrap64 (cL+1)) aH aC aI aM aN aV aJ)else(none))else(none))else(if b8≥x8 then(if 0≤(wrap64 (x8+b9))then(if(wrap64 (x8+b9))<(cK.length:Int)then(mJ.l3 k x8 cG dk b8 (ba.set ((wrap64 (x8+b9)):Int).toNat (wrap64 ((rd ba (wrap64 (x8+b9)))+1))) (wrap64 (cL+1)) aH aC aI aM aN aV aJ)else(none))else(none))else(mJ.l3 k x8 cG dk b8 ba (wrap64 (cL+1)) aH aC aI aM aN aV aJ)))else(if b8≥x8 then(if 0≤(wrap64 (x8+b9))then(if(wrap64 (x8+b9))<(cK.length:Int)then(mJ.l3 k x8 cG dk b8 (ba.set ((wrap64 (x8+b9)):Int).toNat (wrap64 ((rd ba (wrap64 (x8+b9)))+1))) (wrap64 (cL+1)) aH aC aI aM aN aV aJ)else(none))else(none))else(mJ.l3 k x8 cG dk b8 ba (wrap64 (cL+1)) aH aC aI aM aN aV aJ))))else(none))else(none))else(if b8<x8 then(if cL<cG then(if 0≤(wrap64 (x8+b9))then(if(wrap64 (x8+b9))<(cK.length:Int)then(mJ.l3 k x8 cG dk b8 (cK.set ((wrap64 (x8+b9)):Int).toNat (wrap64 ((rd cK (wrap64 (x8+b9)))+1))) (wrap64 (cL+1)) aH aC aI aM aN aV aJ)else(none))else(none))else(if b8≥x8 then(if 0≤(wrap64 (x8+b9))then(if(wrap64 (x8+b9))<(cK.length:Int)then(mJ.l3 k x8 cG dk b8 (cK.set ((wrap64 (x8+b9)):Int).toNat (wrap64 ((rd cK (wrap64 (x8+b9)))+1))) (wrap64 (cL+1)) aH aC aI aM aN aV aJ)else(none))else(none))else(mJ.l3 k x8 cG dk b8 cK (wrap64 (cL+1)) aH aC aI aM aN aV aJ)))else(if b8≥x8 then(if 0≤(wrap64 (x8+b9))then(if(wrap64 (x8+b9))<(cK.length:Int)then(mJ.l3 k x8 cG dk b8 (cK.set ((wrap64 (x8+b9)):Int).toNat (wrap64 ((rd cK (wrap64 (x8+b9)))+1))) (wrap64 (cL+1)) aH aC aI aM aN aV aJ)else(none))else(none))else(mJ.l3 k x8 cG dk b8 cK (wrap64 (cL+1)) aH aC aI aM aN aV aJ)))
end
def mJ.f (k:Nat) (b5:Int) (bY:List (List Int)) (bZ:List Int) (a1:Int):Option (Int×List Int×(List (List (List Int)))×List Int×Bool):=(mQ.f k b5 bY bZ).bind fun cu=>(if cu.2.2.2=true then((nR.f a1 0 3).bind fun eG=>(mJ.j0 k a1 (!eG) cu.1 cu.2.1 cu.2.2.1))else(mJ.j0 k a1 true cu.1 cu.2.1 cu.2.2.1))
def mJ.T5:Bool×List (List Nat×List Nat):=(true,[([],[]),([0],[0]),([],[]),([2],[2]),([3,3],[3]),([],[]),([5],[5]),([6,6],[6]),([1,4,7],[1,4,7]),([],[]),([9,8,0,1,2,3,4,5,6,7,8,9],[8,9])])
def mJ.B5:List Nat:=[0,1,0,4,12,0,32,96,255,0,1023]
theorem mJ.Em:uf .any (opsOf Try.f11 5)=mJ.T5:=K_
theorem mJ.zx:rV mJ.T5.2 mJ.B5=true:=K_
def mJ.T23:Bool×List (List Nat×List Nat):=(true,[([],[]),([0],[0]),([],[]),([],[]),([2,3],[2,3]),([1,4],[1,4]),([5],[5]),([],[]),([6,7],[6,7]),([8],[8]),([9,0,1,2,3,4,5,6,7,8,9],[9])])
def mJ.B23:List Nat:=[0,1,0,0,12,31,63,0,255,511,1023]
theorem mJ.OP:uf .any (opsOf Try.f11 23)=mJ.T23:=K_
theorem mJ.Ob:rV mJ.T23.2 mJ.B23=true:=K_
theorem mJ.calls (k:Nat) (b5:Int) (cC:Option Addr) (cE:Nat) (bY:List (List Int)) (cD:Option Addr) (cF:Nat) (bZ:List Int) (a1:Int) (r1:Int) (r2:List Int) (r3:List (List (List Int))) (r4:List Int) (r5:Bool) (w:World) (fb:Kd.C (Kd.slice 3 (Kd.int .i64)) w cC bY.length bY) (eZ:bY.length≤cE) (fc:Kd.C (Kd.int .i64) w cD bZ.length bZ) (fa:bZ.length≤cF) (h:mJ.f k b5 bY bZ a1=some (r1,r2,r3,r4,r5)):
  Calls Try.prog 11 #[.agg #[.int .i64 b5,.slice cC bY.length cE,.slice cD bZ.length cF],.int .i64 a1] w fun e w'=>∃ry E9 rT:Value,e=.returned (.tuple #[.agg #[.int .i64 r1,ry,E9,rT],.bool r5])∧Kd.R (Kd.int .i64) 3 w' w.heap.size (o1 rT) ry r2∧Kd.R (Kd.slice 25 (Kd.slice 3 (Kd.int .i64))) 24 w' w.heap.size (o2 ry rT) E9 r3∧Kd.R (Kd.int .i64) 3 w' w.heap.size (o1 ry) rT r4∧Below w.heap.size w w':=by
 have HY:=Try.underlying27;have HZ:=Try.underlying33;have gt:=A_ fb;have gl:=A_ eZ;clear fb eZ;have gv:=A_ fc;have gm:=A_ fa;clear fc fa;have HB:=A_ (Below.refl w.heap.size w);unfold mJ.f at h;have H:=h;clear h;replace ⟨⟨aA,ag,bB,iV⟩,A3,H⟩:=bA_ H;dsimp only at H;have A8:=A_ H;clear H;go_enter Try.func11,Try.ntmps11
 go_upto_region 2 with(first|((with_reducible refine gt_ 2 ?_);refine be_ 2 #[.int .i64 b5,.slice cC bY.length cE,.slice cD bZ.length cF] 27 ?_;intro b2 hg w5 cz hb;have aq:=A_ (cz);have kK:=lh_ HB hg;have cO:=lh_ HB hg;replace HB:=bs_ HB hb;clear hb cz hg)|((with_reducible refine gt_ 4 ?_);refine be_ 4 #[.int .i64 0,.slice none 0 0,.slice none 0 0,.slice none 0 0] 33 ?_;intro bW hg w6 cz hb;have ap:=A_ (cz);have kL:=lh_ HB hg;have cP:=lh_ HB hg;replace HB:=bs_ HB hb;have cc:=nl_ aq hg;have cd:=ng_ aq hg;replace aq:=bb_ aq hb;clear hb cz hg;have ml:=cc.o;have mn:=cd.o;have fC:=bq3 aq.o)|((with_reducible refine gc_ 38 rfl ?_);refine cM_ E38 19 (mQ.calls k b5 _ _ bY _ _ bZ aA ag bB iV _ (Kd.mO gt.o HB.o) gl.o (Kd.mO gv.o HB.o) gm.o A3.o) ?_;rintro e w9 ⟨mu,mv,rfl,ho0,ho1,hb⟩;refine⟨_,rfl,?_⟩;have dm:=A_ (Kd.uy ho0 (mK HB.o));have dn:=A_ (Kd.nE ho1 (mK HB.o));replace aq:=bb_ aq hb;replace ap:=bb_ ap hb;replace HB:=bs_ HB hb;clear hb ho0;(try clear ho1))|((with_reducible refine gt_ 6 ?_);refine be_ 6 #[.int .i64 0,.slice none 0 0,.slice none 0 0] 27 ?_;intro bv hg Mf cz hb;replace dm:=A_ (Kd.wS dm.o hb);replace dn:=A_ (Kd.nX dn.o hb);have ao:=A_ (cz);have kM:=lh_ HB hg;have cQ:=lh_ HB hg;replace HB:=bs_ HB hb;have aW:=nl_ aq hg;have bm:=ng_ aq hg;replace aq:=bb_ aq hb;have aT:=nl_ ap hg;have bh:=ng_ ap hg;replace ap:=bb_ ap hb;clear hb cz hg;have li:=bm.o;have lH:=aW.o;have lj:=bh.o;have lI:=aT.o;have eo:=bq3 ao.o;obtain⟨bD,aU,jR⟩:=Kd.rO dm.o;subst jR;obtain⟨bQ,bR,jS⟩:=Kd.mU dn.o;subst jS))
 (try simp only[Act.put,mD,mE,mF])
 go_cut [28] (fun mt wc=>∃ (kq:Nat) (dD:Bool),mt=.bool dD∧Aside0 (mJ.j0 kq a1 dD aA ag bB=some (r1,r2,r3,r4,r5))∧Aside0 (kq≤k)∧Aside0 (Kd.S (Kd.slice 3 (Kd.int .i64)) 25 wc w.heap.size (o1 (.slice bQ bB.length bR)) (.slice bD ag.length aU) ag)∧Aside0 (Kd.R (Kd.int .i64) 3 wc w.heap.size (fun _=>True) (.slice bQ bB.length bR) bB)∧Aside0 (wc.heap[b2]? =some (.cells #[.int .i64 b5,(.slice cC bY.length cE),(.slice cD bZ.length cF)] 27 (0,0)))∧Aside0 (wc.heap[bW]? =some (.cells #[.int .i64 0,(.slice none 0 0),(.slice none 0 0),(.slice none 0 0)] 33 (0,0)))∧Aside0 (wc.heap[bv]? =some (.cells #[.int .i64 aA,(.slice bD ag.length aU),(.slice bQ bB.length bR)] 27 (0,0)))∧Aside0 (Below w.heap.size w wc))
 case first=>
  have H:=A8.o;clear A8
  replace H:=Hb_ H;rcases H with⟨rfl,H⟩|⟨rfl,H⟩
  ·replace ⟨eG,H5,H⟩:=bA_ H
   have H':=A_ H
   clear H
   go_wp2_with (first|(go_at_call 34;(with_reducible refine(nR.calls a1 0 3 eG _ H5.o).mono ?_);rintro e w' ⟨rfl,⟨nd,rfl⟩⟩))
   go_meet
   case rel=>exact⟨_,(!eG),rf,H',⟨om⟩,⟨by(with_reducible repeat (first|apply Kd.S_alloc|apply Kd.M0|apply Kd.vK));exact Kd.nV (EF (tS_ dm ao)) (fun _ hk=>hk.1)⟩,⟨by(with_reducible repeat (first|apply Kd.R_alloc|apply Kd.uP|apply Kd.pR));exact Kd.mM (xe (tR_ dn ao)) (fun _ hk=>trivial)⟩,⟨by(with_reducible repeat (first|refine tZ ?_ _|refine nQ ?_|refine nP ?_ _));exact fa_ aW (fa_ aW (fa_ aW aq.o))⟩,⟨by(with_reducible repeat (first|refine tZ ?_ _|refine nQ ?_|refine nP ?_ _));exact fa_ aT (fa_ aT (fa_ aT ap.o))⟩,⟨by(with_reducible repeat (first|refine tZ ?_ _|refine nQ ?_|refine nP ?_ _));exact pu_ 2 (pu_ 1 (pu_ 0 ao.o rfl) rfl) rfl⟩,⟨wb_⟩⟩
  have H':=A_ H
  clear H
  go_wp2
  go_meet
  case rel=>exact⟨_,(true),rf,H',⟨om⟩,⟨by exact Kd.nV (EF (tS_ dm ao)) (fun _ hk=>hk.1)⟩,⟨by exact Kd.mM (xe (tR_ dn ao)) (fun _ hk=>trivial)⟩,⟨by exact fa_ aW (fa_ aW (fa_ aW aq.o))⟩,⟨by exact fa_ aT (fa_ aT (fa_ aT ap.o))⟩,⟨by exact pu_ 2 (pu_ 1 (pu_ 0 ao.o rfl) rfl) rfl⟩,⟨wb_⟩⟩
 case rest=>
  clear A8
  clear eo fC
  obtain⟨kq,dD,rfl,HA,b3,ah,af,aq,ap,ao,HB⟩:=hcut
  cases kq with
  |zero=>exact nz_ HA.o
  |succ A9=>
   have H:=HA.o;clear HA;simp only[mJ.j0]at H
   replace H:=Hb_ H;rcases H with⟨rfl,H⟩|⟨rfl,H⟩
   ·simp only[Option.some.injEq,Prod.mk.injEq]at H;obtain⟨rfl,rfl,rfl,rfl,rfl⟩:=H;have lk:=cd.o;have lJ:=cc.o;have ll:=aT.o;have lK:=bh.o;have i0:=bq4 ap.o
    go_wp2
    refine rt_ #[.int .i64 0,.slice none 0 0,.slice none 0 0,.slice none 0 0] (by exact pu_ 3 (pu_ 2 (pu_ 1 (pu_ 0 ap.o rfl) rfl) rfl) rfl) Try.underlying33 ?_;exact⟨_,_,_,rf,by exact Kd.sI _ _ _ _ _,by exact Kd.sI _ _ _ _ _,by exact Kd.sI _ _ _ _ _,wb_⟩
   obtain⟨b6,br⟩:∃j_:Int,(wrap64 (2*(ag.length:Int)))=j_:=⟨_,rfl⟩;replace H:(if 0≤(b6)then(if(b6:Int).toNat≤35184372088832 then((some (List.replicate (b6:Int).toNat 0:List Int)).bind fun bE=>(if 0<(bE.length:Int)then(mJ.l0 A9 a1 (ag.length:Int) 0 aA ag bB aA (bE.set (0:Int).toNat 1) (List.replicate (b6:Int).toNat 0))else(none)))else(none))else(none))=some (r1,r2,r3,r4,r5):=by first|(rw[br]at H;exact H)|(simp only[br]at H⊢;exact H)
   have jW:(IntKind.i64.wrap (2*(ag.length:Int)))=b6:=(uD _).trans br
   replace ⟨c23,H⟩:=Hp_ H
   have kS:=eq_true c23;have kT:=decide_eq_true c23;clear c23
   replace ⟨c24,H⟩:=Hp_ H
   have kU:=eq_true c24;have kV:=decide_eq_true c24;clear c24;replace ⟨bE,gx,H⟩:=Hs_ H;obtain⟨b1,dZ⟩:=ex_ ((List.replicate (b6:Int).toNat 0):List Int);rw[←dZ]at H;have gy:=A_ dZ;clear dZ
   replace ⟨FD,H⟩:=Hp_ H
   have kW:=decide_eq_true FD
   have kX:decide (0<bE.length)=true:=decide_eq_true om
   clear FD;obtain⟨f7,d4⟩:=ex_ ((bE.set (0:Int).toNat 1):List Int);rw[←d4]at H;have gz:=A_ d4;clear d4
   have H':=A_ H
   clear H;have lm:=bm.o;have lL:=aW.o;have lo:=bh.o;have lM:=aT.o;have i5:=bq3 ao.o
   try go_wp2
   replace ah:=A_ (Kd.vK ah.o);replace af:=A_ (Kd.pR af.o);replace aq:=A_ (nQ aq.o);replace ap:=A_ (nQ ap.o);replace ao:=A_ (nQ ao.o);replace HB:=A_ (oG HB.o);refine rM (n:=11) (S:=fun w'=>cB3 bv (.int .i64 aA) (.slice bD ag.length aU) (.slice bQ bB.length bR) w') (ds:=[]) (mk_ 11 0) K_ rfl rfl (bc3 ao) (fun bF=>?_);refine ru mJ.Em mJ.zx (fun cI gw=>?_)
   generalize wc.drew=FE at ah af aq ap ao HB bF⊢
   refine pw_ 0 33 (mk_ 11 1) cI ?_;refine pw_ 2 35 (mk_ 11 5) cI ?_;refine pw_ 3 36 (mk_ 11 13) cI ?_;refine pw_ 5 38 (mk_ 11 45) cI ?_;refine pw_ 6 39 (mk_ 11 109) cI ?_;refine tk_ 1 34 (mk_ 11 111) cI gw bF ?_;refine Cx (σ:=Value×Value×Nat) 1 (mk_ 11 1023) (fun s_=>[(37,s_.1),(40,s_.2.1),(9,.pointer (some ⟨s_.2.2,0,none⟩)),(41,.agg #[.int .i64 aA,s_.1,.slice none 0 0,s_.2.1])]) (fun s_ w'=>(cB3 bv (.int .i64 aA) (.slice bD ag.length aU) (.slice bQ bB.length bR) w')∧(Kd.R (Kd.int .i64) 3 w' w.heap.size (o2 s_.2.1 (.slice bQ bB.length bR)) s_.1 bE)∧(Kd.R (Kd.int .i64) 3 w' w.heap.size (o2 s_.1 (.slice bQ bB.length bR)) s_.2.1 b1)∧(Kd.S (Kd.slice 3 (Kd.int .i64)) 25 w' w.heap.size (o3 s_.1 s_.2.1 (.slice bQ bB.length bR)) (.slice bD ag.length aU) ag)∧(Kd.R (Kd.int .i64) 3 w' w.heap.size (o2 s_.1 s_.2.1) (.slice bQ bB.length bR) bB)∧(w'.heap[b2]? =some (.cells #[.int .i64 b5,.slice cC bY.length cE,.slice cD bZ.length cF] 27 (0,0)))∧(w'.heap[bW]? =some (.cells #[.int .i64 0,.slice none 0 0,.slice none 0 0,.slice none 0 0] 33 (0,0)))∧(w'.heap[bv]? =some (.cells #[.int .i64 aA,.slice bD ag.length aU,.slice bQ bB.length bR] 27 (0,0)))∧(w'.heap[s_.2.2]? =some (.cells #[.int .i64 0,.slice none 0 0,.slice none 0 0,.slice none 0 0] 33 (0,0)))∧(w.heap.size≤s_.2.2)∧(w.heap.size≤s_.2.2)∧(b2≠s_.2.2)∧(s_.2.2≠b2)∧(bW≠s_.2.2)∧(s_.2.2≠bW)∧(bv≠s_.2.2)∧(s_.2.2≠bv)∧(Below w.heap.size w w')) ?_ ?_;rotate_left
   ·intro gW;refine Ol (fuel:=1) (mk_ 11 1023) [rO_ 4 37,rO_ 7 40,rO_ 9 9,rO_ 8 41] (fun L vs W=>Tw W FE.heap.size (L 4) (L 7) (vs 4) (vs 7) bE b1∧(L 8=true→vs 8=.agg #[.int .i64 aA,vs 4,.slice none 0 0,vs 7])∧(L 9=true→∃g,vs 9=.pointer (some ⟨g,0,none⟩)∧FE.heap.size≤g∧W.heap[g]? =some (.cells #[.int .i64 0,.slice none 0 0,.slice none 0 0,.slice none 0 0] 33 (0,0)))) K_ rfl (fun W hb=>⟨cb_ hb bF.1,cb_ hb bF.2.1,cb_ hb bF.2.2⟩) (fun L vs h=>⟨Tw.init (h _ (.head _)) (h _ (.tail _ (.head _))),no_ (h _ (.tail _ (.tail _ (.tail _ (.head _))))),no_ (h _ (.tail _ (.tail _ (.head _))))⟩) ?step ?cont
    case step=>
     refine xm.cons rfl (fun L vs a w hB hF hn hw hv ht K hK=>?_) (xm.cons rfl (fun L vs a w hB hF hn hw hv ht K hK=>?_) (xm.cons rfl (fun L vs a w hB hF hn hw hv ht K hK=>?_) (xm.cons rfl (fun L vs a w hB hF hn hw hv ht K hK=>?_) xm.nil)))
     ·refine Kd.wZ (Kd.int .i64) w.heap.size 3 rf (N:=37) rfl 25 _ _ rfl b6 ((ht _ rf).trans rfl) ((ht _ rf).trans rfl) Try.underlying25 (.int .i64 0) 8 info3 rfl d_ om 0 (ok:=fun _=>True) (okp:=fun _=>True) rfl (fun _ hk=>hk) trivial oa_ (Nat.le_trans (Nat.mul_le_mul_right _ (oa_:b6.toNat≤35184372088832)) om) (Below.refl _ _) (Nat.le_refl _) ?_;intro v w' ho hb Kc qB;rw[←gx.o]at ho;exact hK v w' (nZ hB hb) ⟨hF.1.new ho hb hB.size,fun l=>(by cases hn.symm.trans ((hv _ (.tail _ (.tail _ (.tail _ (.head _)))) l).2 4 (List.contains_iff_mem.1 K_))),fun l=>let ⟨g,e,h1,h2⟩:=hF.2.2 l;⟨g,e,h1,pg h2 hb⟩⟩
     ·refine Kd.wZ (Kd.int .i64) w.heap.size 3 rf (N:=40) rfl 25 _ _ rfl b6 ((ht _ rf).trans rfl) ((ht _ rf).trans rfl) Try.underlying25 (.int .i64 0) 8 info3 rfl d_ om 0 (ok:=fun _=>True) (okp:=fun _=>True) rfl (fun _ hk=>hk) trivial oa_ (Nat.le_trans (Nat.mul_le_mul_right _ (oa_:b6.toNat≤35184372088832)) om) (Below.refl _ _) (Nat.le_refl _) ?_;intro v w' ho hb Kc qB;rw[←gy.o]at ho;exact hK v w' (nZ hB hb) ⟨(hF.1.symm.new ho hb hB.size).symm,fun l=>(by cases hn.symm.trans ((hv _ (.tail _ (.tail _ (.tail _ (.head _)))) l).2 7 (List.contains_iff_mem.1 K_))),fun l=>let ⟨g,e,h1,h2⟩:=hF.2.2 l;⟨g,e,h1,pg h2 hb⟩⟩
     ·refine uh rf (N:=9) rfl (cs:= #[.int .i64 0,.slice none 0 0,.slice none 0 0,.slice none 0 0]) (t:=33) (by go_simp;done) ?_;intro g hg w' cz hb;exact hK _ w' (nZ hB hb) ⟨hF.1.below hb,hF.2.1,fun _=>⟨g,rfl,by rw[hg];exact hB.size,cz⟩⟩
     have l4:=hw 4 (List.contains_iff_mem.1 K_);have l7:=hw 7 (List.contains_iff_mem.1 K_)
     have v4:a.eval (.tmp 37)=vs 4:=(hv _ (.head _) l4).1 _ rfl
     have v7:a.eval (.tmp 40)=vs 7:=(hv _ (.tail _ (.head _)) l7).1 _ rfl
     obtain⟨A4,c4,e4⟩:=Kd.mU (hF.1.a l4);obtain⟨A7,c7,e7⟩:=Kd.mU (hF.1.b l7);have vb:=ht 34 rf;refine vk rf (v:=.agg #[.int .i64 aA,vs 4,.slice none 0 0,vs 7]) (w1:=w) ?_ (hK _ _ hB ⟨hF.1,fun _=>rfl,hF.2.2⟩);rw[show vs 4=_ from e4]at v4⊢;rw[show vs 7=_ from e7]at v7⊢;replace v4:=ev_ v4;replace v7:=ev_ v7;replace vb:=ev_ (vb.trans rfl);go_simp
    case cont=>
     intro L vs w' hS hB hl ⟨hT,h8,h9⟩;have l4:=hl _ (.head _);have l7:=hl _ (.tail _ (.head _));have e8:=h8 (hl _ (.tail _ (.tail _ (.tail _ (.head _)))));obtain⟨g,e9,hg,hbk⟩:=h9 (hl _ (.tail _ (.tail _ (.head _))))
     show nL _ _ _ _ _ _ _ _ (rG _ [(37,vs 4),(40,vs 7),(9,vs 9),(41,vs 8)]) _
     rw[e8,e9];have hs:=mK HB.o;exact gW (vs 4,vs 7,g) w' ⟨hS,Kd.nE (Kd.mM (Kd.tQ (hT.a l4)) (fun _ hk=>⟨hk.1 l7,I5 (Kd.oV af.o) hk.2.1⟩)) hs,Kd.nE (Kd.mM (Kd.tQ (hT.b l7)) (fun _ hk=>⟨hk.1 l4,I5 (Kd.oV af.o) hk.2.1⟩)) hs,Kd.wS (Kd.nV (Kd.yP ah.o) (fun _ hk=>⟨FH (Kd.nW (hT.a l4)) hk.2.2.1,FH (Kd.nW (hT.b l7)) hk.2.2.1,hk.1⟩)) hB,Kd.nX (Kd.mM (Kd.tQ af.o) (fun _ hk=>⟨FH (Kd.nW (hT.a l4)) hk.2.2.1,FH (Kd.nW (hT.b l7)) hk.2.2.1⟩)) hB,pg aq.o hB,pg ap.o hB,pg ao.o hB,hbk,(Nat.le_trans hs hg),(Nat.le_trans hs hg),Nat.ne_of_lt (Nat.lt_of_lt_of_le (pY aq.o) hg),Nat.ne_of_gt (Nat.lt_of_lt_of_le (pY aq.o) hg),Nat.ne_of_lt (Nat.lt_of_lt_of_le (pY ap.o) hg),Nat.ne_of_gt (Nat.lt_of_lt_of_le (pY ap.o) hg),Nat.ne_of_lt (Nat.lt_of_lt_of_le (pY ao.o) hg),Nat.ne_of_gt (Nat.lt_of_lt_of_le (pY ao.o) hg),nZ HB.o hB⟩
   rintro⟨mw,mx,a8⟩ qC ⟨bF,BA,BB,BC,BL,BM,BO,BP,BQ,BR,BS,fv,fw,fx,fy,fz,fA,fB⟩
   clear ah af aq ap ao HB;try dsimp only at bF BA BB BC BL BM BO BP BQ BR BS fv fw fx fy fz fA fB
   have bJ:=A_ BA;have cS:=A_ BB;have ah:=A_ BC;have af:=A_ BL;have aq:=A_ BM;have ap:=A_ BO;have ao:=A_ BP;have ar:=A_ BQ;have kN:=A_ BR;have dF:=A_ BS;have aY:=A_ fv;have bn:=A_ fw;have a7:=A_ fx;have bq:=A_ fy;have ay:=A_ fz;have bc:=A_ fA;have HB:=A_ fB;clear BA BB BC BL BM BO BP BQ BR BS fv fw fx fy fz fA fB
   obtain⟨cH,cJ,iK⟩:=Kd.mU cS.o
   (first|subst iK|(injection iK with qL BX qO;have BZ:=qL.symm;have Cu:=qO.symm;clear qL BX qO;subst BZ;subst Cu))
   obtain⟨dE,dp,iL⟩:=Kd.mU bJ.o
   (first|subst iL|(injection iL with qL BX qO;have BZ:=qL.symm;have Cu:=qO.symm;clear qL BX qO;subst BZ;subst Cu))
   refine vg (by simp only[rG,Act.put,mD,mE,mF];rfl) ?_
   refine ow_ 10 (mk_ 11 2047) cI (fun K hK=>?_)
   have K3:qC.cell? ⟨a8,0,none⟩=some (.int .i64 0):=bz0 ar.o
   have FK:=nY ar.o 0;have sO:=aY.o;have sS:=a7.o;have tX:=ay.o;have tY:=bn.o;have um:=bq.o;have uz:=bc.o
   have K4:qC.cell? ⟨a8,1,none⟩=some (.slice none 0 0):=bz1 ar.o
   have F3:=nY ar.o 1;have u6:=aY.o;have u7:=a7.o;have vo:=ay.o;have vO:=bn.o;have wo:=bq.o;have w_:=bc.o
   have K5:qC.cell? ⟨a8,2,none⟩=some (.slice none 0 0):=bz2 ar.o
   have F4:=nY ar.o 2;have x9:=aY.o;have y7:=a7.o;have y8:=ay.o;have y9:=bn.o;have zz:=bq.o;have Aa:=bc.o
   have K6:qC.cell? ⟨a8,3,none⟩=some (.slice none 0 0):=bz3 ar.o
   have F5:=nY ar.o 3;have Am:=aY.o;have Aq:=a7.o;have Ar:=ay.o;have Au:=bn.o;have Av:=bq.o;have Ay:=bc.o;refine uI (w1:=?_) rf rfl ?_ ?_;rotate_left
   ·go_simp
    rfl
   refine hK.out _ _ ⟨((cf_ ay).trans (((cf_ ay).trans (((cf_ ay).trans (((cf_ ay).trans (bF.1)))))))),((cf_ ay).trans (((cf_ ay).trans (((cf_ ay).trans (((cf_ ay).trans (bF.2.1)))))))),((cf_ ay).trans (((cf_ ay).trans (((cf_ ay).trans (((cf_ ay).trans (bF.2.2))))))))⟩ (fun bF=>?_);clear hK K;refine sZ (sP cI.o K_) ?_
   generalize h_:((((qC.setCell ⟨a8,0,none⟩ (.int .i64 aA)).setCell ⟨a8,1,none⟩ (.slice dE bE.length dp)).setCell ⟨a8,2,none⟩ (.slice none 0 0)).setCell ⟨a8,3,none⟩ (.slice cH b1.length cJ))=gu
   replace ah:Aside0 (Kd.S (Kd.slice 3 (Kd.int .i64)) 25 gu w.heap.size (o3 (.slice bQ bB.length bR) (.slice dE bE.length dp) (.slice cH b1.length cJ)) (.slice bD ag.length aU) ag):=⟨by rw[←h_];exact Kd.nV (PL (tS_ ah ar)) (fun _ hk=>⟨hk.1.2.2,⟨hk.1.1,hk.1.2.1⟩⟩)⟩;replace af:Aside0 (Kd.R (Kd.int .i64) 3 gu w.heap.size (o2 (.slice dE bE.length dp) (.slice cH b1.length cJ)) (.slice bQ bB.length bR) bB):=⟨by rw[←h_];exact Kd.mM (wT (tR_ af ar)) (fun _ hk=>⟨hk.1.1,hk.1.2⟩)⟩;replace bJ:Aside0 (Kd.R (Kd.int .i64) 3 gu w.heap.size (o2 (.slice bQ bB.length bR) (.slice cH b1.length cJ)) (.slice dE bE.length dp) bE):=⟨by rw[←h_];exact Kd.mM (wT (tR_ bJ ar)) (fun _ hk=>⟨hk.1.2,hk.1.1⟩)⟩;replace cS:Aside0 (Kd.R (Kd.int .i64) 3 gu w.heap.size (o2 (.slice bQ bB.length bR) (.slice dE bE.length dp)) (.slice cH b1.length cJ) b1):=⟨by rw[←h_];exact Kd.mM (wT (tR_ cS ar)) (fun _ hk=>⟨hk.1.2,hk.1.1⟩)⟩;replace aq:Aside0 (gu.heap[b2]? =some (.cells #[.int .i64 b5,.slice cC bY.length cE,.slice cD bZ.length cF] 27 (0,0))):=⟨by rw[←h_];exact fa_ aY (fa_ aY (fa_ aY (fa_ aY aq.o)))⟩;replace ap:Aside0 (gu.heap[bW]? =some (.cells #[.int .i64 0,.slice none 0 0,.slice none 0 0,.slice none 0 0] 33 (0,0))):=⟨by rw[←h_];exact fa_ a7 (fa_ a7 (fa_ a7 (fa_ a7 ap.o)))⟩;replace ao:Aside0 (gu.heap[bv]? =some (.cells #[.int .i64 aA,.slice bD ag.length aU,.slice bQ bB.length bR] 27 (0,0))):=⟨by rw[←h_];exact fa_ ay (fa_ ay (fa_ ay (fa_ ay ao.o)))⟩;replace ar:Aside0 (gu.heap[a8]? =some (.cells #[.int .i64 aA,.slice dE bE.length dp,.slice none 0 0,.slice cH b1.length cJ] 33 (0,0))):=⟨by rw[←h_];exact pu_ 3 (pu_ 2 (pu_ 1 (pu_ 0 ar.o rfl) rfl) rfl) rfl⟩;replace HB:Aside0 (Below w.heap.size w gu):=⟨by rw[←h_];repeat (first|(with_reducible first|exact HB.o|apply pI|apply rE|apply oG|refine mY ?_ cO.o|refine mY ?_ cP.o|refine mY ?_ cQ.o|refine mY ?_ dF.o)|exact HB.o)⟩;clear h_;have lp:=bn.o;have lN:=aY.o;have lq:=bq.o;have lO:=a7.o;have lr:=bc.o;have lP:=ay.o;have ep:=bq4 ar.o
   have jr:0≤(0:Int):=om
   have js:(0:Int)<((bE.length:Int):Int):=oa_
   have CX:(0<bE.length)=True:=eq_true om
   obtain⟨em,mj,iJ,iN,CY,Lm,qP⟩:=Kd.sj bJ.o om
   (first|cases iJ|(injection iJ with U dY eu;(first|subst U|(injection U with U;subst U));subst eu;clear dY))
   have Dm:=A_ iN;have Lr:=A_ qP;clear iN CY qP;obtain⟨dt,dW⟩:=Kd.rF 0 bJ.o (0:Int) jr js
   (try rw[show((0:Int)).toNat=0 from rfl]at dt)
   (try simp only[Nat.reduceMul,Nat.zero_mul,Nat.zero_add,Nat.reduceAdd]at dt)
   (try rw[show((0:Int)).toNat=0 from rfl]at dW)
   (try simp only[Nat.reduceMul,Nat.zero_mul,Nat.zero_add,Nat.reduceAdd]at dW)
   replace jr:=eq_true jr;replace js:=eq_true js;obtain⟨gY,gZ⟩:=Kd.rF 0 bJ.o (0:Int) om oa_
   (try simp only[Int.reduceToNat,Int.toNat_zero,Int.toNat_ofNat,Nat.reduceMul,Nat.zero_mul,Nat.zero_add]at gY gZ)
   (try rw[show((0:Int)).toNat=0 from rfl]at gY)
   (try rw[show((0:Int)).toNat=0 from rfl]at gZ)
   have fd:=Kd.uo bJ.o (0:Int) 1
   try go_wp2_with (first|((with_reducible refine qz (t:=3) (p:=44) rfl ?_);refine qa (t:=3) (p:=44) (v:=?Dn) (w1:=(gu.setCell ⟨em,(0:Int).toNat,none⟩ (.int .i64 1))) ?hg ?ho ?hn ?hr ?_;(case ho=>rfl);(case hg=>rfl);(case hn=>rfl);(case hr=>first|(go_simp;done)|(go_simp;rfl)|(obtain⟨_,_,rfl⟩:=Kd.mU bJ.o;go_simp;first|done|rfl)|(obtain⟨_,_,rfl⟩:=Kd.mU (Kd.S_R bJ.o);go_simp;first|done|rfl));intro D6 hw;have hg:gu.grownBy D6 (some em):=(by rw[hw];exact fd.2);have J:Kd.R (Kd.int .i64) 3 D6 w.heap.size (o2 (.slice bQ bB.length bR) (.slice cH b1.length cJ)) (.slice (some ⟨em,0,none⟩) bE.length dp) f7:=(by rw[hw,gz.o];exact fd.1);clear fd;replace ah:=sB_ (ok:=(o2 (.slice bQ bB.length bR) (.slice cH b1.length cJ))) J ah (fun _ hk=>⟨⟨hk.1,hk.2.2⟩,hk.2.1⟩) hg;replace af:=rB_ (ok:=(o1 (.slice cH b1.length cJ))) J af (fun _ hk=>⟨hk.2,hk.1⟩) hg;replace aq:=gR_ bJ aq hg;replace ap:=gR_ bJ ap hg;replace ao:=gR_ bJ ao hg;replace cS:=rA_ (ok:=(o1 (.slice bQ bB.length bR))) J cS hg;replace ar:=gR_ bJ ar hg;replace bJ:=A_ (J);replace HB:=A_ ((by rw[hw];exact mY (HB.o) Dm.o:Below w.heap.size w D6));clear hg hw J))
   go_loopg [10] A9 (fun kq mo w'=>∃ (bg:Int) (aE:List Int) (bu:List Int) (be:List Int) (ab:Value) (aa:Value) (ae:Value),mo=.int .i64 bg∧Aside0 (mJ.l0 kq a1 (ag.length:Int) bg aA ag aE aA bu be=some (r1,r2,r3,r4,r5))∧Aside0 (kq≤A9)∧Aside0 (Kd.S (Kd.slice 3 (Kd.int .i64)) 25 w' w.heap.size (o3 ab aa ae) (.slice bD ag.length aU) ag)∧Aside0 (Kd.R (Kd.int .i64) 3 w' w.heap.size (o2 aa ae) ab aE)∧Aside0 (Kd.R (Kd.int .i64) 3 w' w.heap.size (o2 ab ae) aa bu)∧Aside0 (Kd.R (Kd.int .i64) 3 w' w.heap.size (o2 ab aa) ae be)∧Aside0 (w'.heap[b2]? =some (.cells #[.int .i64 b5,(.slice cC bY.length cE),(.slice cD bZ.length cF)] 27 (0,0)))∧Aside0 (w'.heap[bW]? =some (.cells #[.int .i64 0,(.slice none 0 0),(.slice none 0 0),(.slice none 0 0)] 33 (0,0)))∧Aside0 (w'.heap[bv]? =some (.cells #[.int .i64 aA,(.slice bD ag.length aU),ab] 27 (0,0)))∧Aside0 (w'.heap[a8]? =some (.cells #[.int .i64 aA,aa,(.slice none 0 0),ae] 33 (0,0)))∧Aside0 (Below w.heap.size w w'))
   case atStart=>exact⟨(0),(bB),(f7),(b1),(.slice bQ bB.length bR),(.slice (some ⟨em,0,none⟩) bE.length dp),(.slice cH b1.length cJ),rf,H',⟨Nat.le_refl _⟩,⟨by exact Kd.nV ah.o (fun _ hk=>⟨hk.1.1,⟨hk.2,hk.1.2⟩⟩)⟩,⟨by exact Kd.mM af.o (fun _ hk=>⟨hk.2,hk.1⟩)⟩,bJ,cS,aq,ap,ao,ar,HB⟩
   case round=>
    clear H'
    clear jr js CX ep dt
    obtain⟨bg,aE,bu,be,ab,aa,ae,rfl,HA,b4,ah,af,aj,ai,aq,ap,ao,ar,HB⟩:=hrel
    cases gk with
    |zero=>exact nz_ HA.o
    |succ k2=>
     have H:=HA.o;clear HA;simp only[mJ.l0]at H
     replace H:=Hi_ H;rcases H with⟨eJ,H⟩|⟨eJ,H⟩
     ·replace ⟨kY,H⟩:=Hd_ H
      replace ⟨kZ,H⟩:=Hd_ H
      replace H:=Hj_ H;rcases H with⟨qA,H⟩|⟨qA,H⟩
      ·have g6:((rd aE bg)==a1)=true:=beq_iff_eq.mpr qA
       have g7:((rd aE bg) !=a1)=false:=bne_eq_false_iff_eq.mpr qA
       clear qA;obtain⟨ci,dB⟩:∃j_:Int,(wrap64 ((ag.length:Int)+bg))=j_:=⟨_,rfl⟩;replace H:(if 0≤(ci)then(if(ci)<(be.length:Int)then(mJ.l0 k2 a1 (ag.length:Int) (wrap64 (bg+1)) aA ag aE aA bu (be.set ((ci):Int).toNat 1))else(none))else(none))=some (r1,r2,r3,r4,r5):=by first|(rw[dB]at H;exact H)|(simp only[dB]at H⊢;exact H)
       have jX:(IntKind.i64.wrap ((ag.length:Int)+bg))=ci:=(uD _).trans dB
       replace ⟨lc,H⟩:=Hd_ H
       replace ⟨ld,H⟩:=Hd_ H
       obtain⟨f8,d5⟩:=ex_ ((be.set ((ci):Int).toNat 1):List Int);rw[←d5]at H;have gD:=A_ d5;clear d5
       have H':=A_ H
       clear H;have ls:=bm.o;have lQ:=aW.o;have lu:=bh.o;have lR:=aT.o;have lv:=ay.o;have lS:=bc.o;have i6:=bq3 ao.o;obtain⟨mh,el,jT⟩:=Kd.mU af.o;subst jT
       have du:0≤(bg:Int):=oa_
       have dv:bg<(aE.length:Int):=oa_
       obtain⟨cU,fu,ez⟩:=Kd.nM (Kd.mX af.o).2.2 bg du dv
       cases fu
       replace du:=eq_true du;replace dv:=eq_true dv;have lw:=bn.o;have lT:=aY.o;have lx:=bq.o;have lU:=a7.o;have i7:=bq4 ar.o
       have kx:0≤((ci):Int):=oa_
       have ky:((ci):Int)<((be.length:Int):Int):=oa_
       obtain⟨en,iu,iM,iO,D7,LA,qQ⟩:=Kd.sj ai.o om
       (first|cases iM|(injection iM with U dY eu;(first|subst U|(injection U with U;subst U));subst eu;clear dY))
       have D8:=A_ iO;have LB:=A_ qQ;clear iO D7 qQ;obtain⟨kw,jV⟩:=Kd.rF 0 ai.o ((ci):Int) kx ky;replace kx:=eq_true kx;replace ky:=eq_true ky;have ff:=Kd.uo ai.o ((ci):Int) 1
       go_wp2_with (first|((with_reducible refine qz (t:=3) (p:=62) rfl ?_);refine qa (t:=3) (p:=62) (w1:=(wr.setCell ⟨en,((ci):Int).toNat,none⟩ (.int .i64 1))) rfl rfl rfl (by go_simp;done) ?_;intro D9 hw;have hg:wr.grownBy D9 (some en):=(by rw[hw];exact ff.2);have J:Kd.R (Kd.int .i64) 3 D9 w.heap.size (o2 (.slice (some cU) aE.length el) aa) (.slice (some ⟨en,0,none⟩) be.length iu) f8:=(by rw[hw,gD.o];exact ff.1);clear ff;replace ah:=sB_ (ok:=(o2 (.slice (some cU) aE.length el) aa)) J ah (fun _ hk=>⟨⟨hk.1,hk.2.1⟩,hk.2.2⟩) hg;replace af:=rA_ (ok:=(o1 aa)) J af hg;replace aj:=rA_ (ok:=(o1 (.slice (some cU) aE.length el))) J aj hg;replace aq:=gR_ ai aq hg;replace ap:=gR_ ai ap hg;replace ao:=gR_ ai ao hg;replace ar:=gR_ ai ar hg;replace ai:=A_ (J);replace HB:=A_ ((by rw[hw];exact mY (HB.o) D8.o:Below w.heap.size w D9));clear hg hw J))
       (try subst br)
       (try subst dB)
       go_roundg k2
       case measure=>have:=b3.o;have:=b4.o;omega
       case rel=>exact⟨(wrap64 (bg+1)),(aE),(bu),(f8),(.slice (some cU) aE.length el),(aa),(.slice (some ⟨en,0,none⟩) be.length iu),rf,H',⟨by have:=b3.o;have:=b4.o;omega⟩,⟨by exact Kd.nV ah.o (fun _ hk=>⟨hk.1.1,⟨hk.1.2,hk.2⟩⟩)⟩,af,aj,ai,aq,ap,ao,ar,HB⟩
      have g6:((rd aE bg)==a1)=false:=beq_eq_false_iff_ne.mpr qA
      have g7:((rd aE bg) !=a1)=true:=bne_iff_ne.mpr qA
      have H':=A_ H
      clear H;have ly:=bm.o;have lV:=aW.o;have lz:=bh.o;have lW:=aT.o;have lA:=ay.o;have lX:=bc.o;have i8:=bq3 ao.o;obtain⟨mi,jI,jU⟩:=Kd.mU af.o;subst jU
      have du:0≤(bg:Int):=oa_
      have dv:bg<(aE.length:Int):=oa_
      obtain⟨cU,fu,ez⟩:=Kd.nM (Kd.mX af.o).2.2 bg du dv
      cases fu
      replace du:=eq_true du;replace dv:=eq_true dv
      go_wp2
      (try subst br)
      go_roundg k2
      case measure=>have:=b3.o;have:=b4.o;omega
      case rel=>exact⟨(wrap64 (bg+1)),(aE),(bu),(be),(.slice (some cU) aE.length jI),(aa),(ae),rf,H',⟨by have:=b3.o;have:=b4.o;omega⟩,ah,af,aj,ai,aq,ap,ao,ar,HB⟩
     have H':=A_ H
     clear H
     go_wp2
     go_loopg [11] k2 (fun kq mq w'=>∃ (aQ:Int) (bP:List Int) (bH:List Int) (au:List (List (List Int))) (bI:List Int) (ab:Value) (aa:Value) (bC:Value) (ae:Value),mq=.int .i64 aQ∧Aside0 (mJ.l1 kq (ag.length:Int) aQ aA ag bP aA bH au bI=some (r1,r2,r3,r4,r5))∧Aside0 (kq≤k2)∧Aside0 (Kd.S (Kd.slice 3 (Kd.int .i64)) 25 w' w.heap.size (o3 ab aa ae) (.slice bD ag.length aU) ag)∧Aside0 (Kd.R (Kd.int .i64) 3 w' w.heap.size (o2 aa ae) ab bP)∧Aside0 (Kd.R (Kd.int .i64) 3 w' w.heap.size (o2 ab ae) aa bH)∧Aside0 (Kd.R (Kd.slice 25 (Kd.slice 3 (Kd.int .i64))) 24 w' w.heap.size (o4 (.slice bD ag.length aU) ab aa ae) bC au)∧Aside0 (Kd.R (Kd.int .i64) 3 w' w.heap.size (o2 ab aa) ae bI)∧Aside0 (w'.heap[b2]? =some (.cells #[.int .i64 b5,(.slice cC bY.length cE),(.slice cD bZ.length cF)] 27 (0,0)))∧Aside0 (w'.heap[bW]? =some (.cells #[.int .i64 0,(.slice none 0 0),(.slice none 0 0),(.slice none 0 0)] 33 (0,0)))∧Aside0 (w'.heap[bv]? =some (.cells #[.int .i64 aA,(.slice bD ag.length aU),ab] 27 (0,0)))∧Aside0 (w'.heap[a8]? =some (.cells #[.int .i64 aA,aa,bC,ae] 33 (0,0)))∧Aside0 (Below w.heap.size w w'))
     case atStart=>exact⟨(0),(aE),(bu),(([]:List (List (List Int)))),(be),(ab),(aa),(.slice none 0 0),(ae),rf,H',⟨Nat.le_refl _⟩,ah,af,aj,⟨by exact Kd.sI _ _ _ _ _⟩,ai,aq,ap,ao,ar,HB⟩
     case round=>
      clear H'
      try clear eJ
      obtain⟨aQ,bP,bH,au,bI,ab,aa,bC,ae,rfl,HA,cf,ah,af,aj,ak,ai,aq,ap,ao,ar,HB⟩:=hrel
      cases gk with
      |zero=>exact nz_ HA.o
      |succ k3=>
       have H:=HA.o;clear HA;simp only[mJ.l1]at H
       replace H:=Hi_ H;rcases H with⟨eK,H⟩|⟨eK,H⟩
       ·obtain⟨iW,d6⟩:=ex_ ((([]:List (List Int))):List (List Int));rw[←d6]at H;have gE:=A_ d6;clear d6
        have H':=A_ H
        clear H;have lB:=bm.o;have lY:=aW.o;have lC:=bh.o;have lZ:=aT.o;have lD:=ay.o;have l6:=bc.o;have eq:=bq3 ao.o
        go_wp2_with (first|((with_reducible refine gt_ 69 ?_);refine Kd.CK (Kd.slice 3 (Kd.int .i64)) _ 25 ?hg (N:=69) ?hd (xs:=([]:List (List Int))) (inner:=[]) (ok:=fun _=>True) (okp:=fun _=>True) ?hr ?hp (fun _ hk=>hk) trivial (Below.refl _ _) (Nat.le_refl _) sp ?_;(case hd|hg=>rfl);(case hr=>go_simp;done);(case hp=>exact(qK.none _ _));rintro my Mi dX hb - -;(rw[←gE.o]at dX);replace ak:=A_ (Kd.oz ak.o (Kd.AO dX) hb);have gn:=A_ (Kd.uy (Kd.xg (Kd.xg (Kd.xg (Kd.xg dX (Kd.MR ah.o)) (Kd.oV af.o)) (Kd.oV aj.o)) (Kd.oV ai.o)) (mK HB.o));replace ah:=A_ (Kd.rz ah.o (Kd.AO dX) hb);replace af:=A_ (Kd.nX af.o hb);replace aj:=A_ (Kd.nX aj.o hb);replace ai:=A_ (Kd.nX ai.o hb);replace aq:=bb_ aq hb;replace ap:=bb_ ap hb;replace ao:=bb_ ao hb;replace ar:=bb_ ar hb;replace HB:=bs_ HB hb;clear hb dX))
        go_loopg [12,13] k3 (fun kq kA mr w'=>∃ (aX:List (List Int)) (aG:Int) (av:List Int) (aw:List Int) (ax:List Int) (ab:Value) (aa:Value) (ae:Value),mr=.int .i64 aG∧Aside0 (mJ.l2 kq (ag.length:Int) aQ aX aG aA ag av aA aw au ax=some (r1,r2,r3,r4,r5))∧Aside0 (kq≤k3)∧Aside0 (Kd.S (Kd.slice 3 (Kd.int .i64)) 25 w' w.heap.size (o4 (.slice bD ag.length aU) ab aa ae) kA aX)∧Aside0 (Kd.S (Kd.slice 3 (Kd.int .i64)) 25 w' w.heap.size (o4 kA ab aa ae) (.slice bD ag.length aU) ag)∧Aside0 (Kd.R (Kd.int .i64) 3 w' w.heap.size (o2 aa ae) ab av)∧Aside0 (Kd.R (Kd.int .i64) 3 w' w.heap.size (o2 ab ae) aa aw)∧Aside0 (Kd.R (Kd.slice 25 (Kd.slice 3 (Kd.int .i64))) 24 w' w.heap.size (o5 kA (.slice bD ag.length aU) ab aa ae) bC au)∧Aside0 (Kd.R (Kd.int .i64) 3 w' w.heap.size (o2 ab aa) ae ax)∧Aside0 (w'.heap[b2]? =some (.cells #[.int .i64 b5,(.slice cC bY.length cE),(.slice cD bZ.length cF)] 27 (0,0)))∧Aside0 (w'.heap[bW]? =some (.cells #[.int .i64 0,(.slice none 0 0),(.slice none 0 0),(.slice none 0 0)] 33 (0,0)))∧Aside0 (w'.heap[bv]? =some (.cells #[.int .i64 aA,(.slice bD ag.length aU),ab] 27 (0,0)))∧Aside0 (w'.heap[a8]? =some (.cells #[.int .i64 aA,aa,bC,ae] 33 (0,0)))∧Aside0 (Below w.heap.size w w'))
        case atStart=>exact⟨(iW),(0),(bP),(bH),(bI),(ab),(aa),(ae),rf,H',⟨Nat.le_refl _⟩,⟨by exact Kd.nV gn.o (fun _ hk=>⟨hk.1.1.1.2,⟨hk.1.1.2,⟨hk.1.2,hk.2⟩⟩⟩)⟩,⟨by exact Kd.nV ah.o (fun _ hk=>⟨hk.2,⟨hk.1.1,⟨hk.1.2.1,hk.1.2.2⟩⟩⟩)⟩,af,aj,⟨by exact Kd.mM ak.o (fun _ hk=>⟨hk.2,⟨hk.1.1,⟨hk.1.2.1,⟨hk.1.2.2.1,hk.1.2.2.2⟩⟩⟩⟩)⟩,ai,aq,ap,ao,ar,HB⟩
        case round=>
         clear H'
         clear eK eq
         obtain⟨aX,aG,av,aw,ax,ab,aa,ae,rfl,HA,cg,aD,ah,af,aj,ak,ai,aq,ap,ao,ar,HB⟩:=hrel
         cases gk with
         |zero=>exact nz_ HA.o
         |succ k4=>
          have H:=HA.o;clear HA;simp only[mJ.l2]at H
          (try subst br)
          replace H:=Hi_ H;rcases H with⟨dS,H⟩|⟨dS,H⟩
          ·(try subst br)
           obtain⟨dj,bK⟩:∃j_:Int,(wrap64 (2*(ag.length:Int)))=j_:=⟨_,rfl⟩;replace H:(if 0≤(dj)then(if(dj:Int).toNat≤35184372088832 then(mJ.l3 k4 (ag.length:Int) aQ aX aG (List.replicate (dj:Int).toNat 0) 0 aA ag av aA aw au ax)else(none))else(none))=some (r1,r2,r3,r4,r5):=by first|(rw[bK]at H;exact H)|(simp only[bK]at H⊢;exact H)
           (try rw[bK]at dS)
           have jY:(IntKind.i64.wrap (2*(ag.length:Int)))=dj:=(uD _).trans bK
           replace ⟨Ev,H⟩:=Hp_ H
           have g8:=eq_true Ev;have g9:=decide_eq_true Ev;clear Ev
           replace ⟨c85,H⟩:=Hp_ H
           have hJ:=eq_true c85;have hU:=decide_eq_true c85;clear c85;obtain⟨iX,d8⟩:=ex_ ((List.replicate (dj:Int).toNat 0):List Int);rw[←d8]at H;have gG:=A_ d8;clear d8
           have H':=A_ H
           clear H
           go_wp2_with (first|((with_reducible refine gt_ 78 ?_);refine Kd.Ce (Kd.int .i64) _ 3 rfl (N:=78) rfl 25 _ _ rfl dj rfl rfl Try.underlying25 (.int .i64 0) 8 info3 rfl d_ om 0 (ok:=fun _=>True) (okp:=fun _=>True) rfl (fun _ hk=>hk) trivial oa_ (Nat.le_trans (Nat.mul_le_mul_right _ (oa_:dj.toNat≤35184372088832)) om) (Below.refl _ _) (Nat.le_refl _) ?_;rintro b7 Mj de hb - -;(rw[←gG.o]at de);replace aD:=A_ (Kd.rz aD.o (Kd.nW de) hb);replace ah:=A_ (Kd.rz ah.o (Kd.nW de) hb);replace ak:=A_ (Kd.oz ak.o (Kd.nW de) hb);have go:=A_ (Kd.nE (Kd.qF (Kd.qF (Kd.qF de (Kd.oV af.o)) (Kd.oV aj.o)) (Kd.oV ai.o)) (mK HB.o));replace af:=A_ (Kd.oz af.o (Kd.nW de) hb);replace aj:=A_ (Kd.oz aj.o (Kd.nW de) hb);replace ai:=A_ (Kd.oz ai.o (Kd.nW de) hb);replace aq:=bb_ aq hb;replace ap:=bb_ ap hb;replace ao:=bb_ ao hb;replace ar:=bb_ ar hb;replace HB:=bs_ HB hb;clear hb de))
           go_loopg [15] k4 (fun kq ms w'=>∃ (an:List Int) (am:Int),ms=.int .i64 am∧Aside0 (mJ.l3 kq (ag.length:Int) aQ aX aG an am aA ag av aA aw au ax=some (r1,r2,r3,r4,r5))∧Aside0 (kq≤k4)∧Aside0 (Kd.S (Kd.slice 3 (Kd.int .i64)) 25 w' w.heap.size (o5 b7 (.slice bD ag.length aU) ab aa ae) u12 aX)∧Aside0 (Kd.R (Kd.int .i64) 3 w' w.heap.size (o3 ab aa ae) b7 an)∧Aside0 (Kd.S (Kd.slice 3 (Kd.int .i64)) 25 w' w.heap.size (o5 u12 b7 ab aa ae) (.slice bD ag.length aU) ag)∧Aside0 (Kd.R (Kd.int .i64) 3 w' w.heap.size (o3 b7 aa ae) ab av)∧Aside0 (Kd.R (Kd.int .i64) 3 w' w.heap.size (o3 b7 ab ae) aa aw)∧Aside0 (Kd.R (Kd.slice 25 (Kd.slice 3 (Kd.int .i64))) 24 w' w.heap.size (o6 u12 b7 (.slice bD ag.length aU) ab aa ae) bC au)∧Aside0 (Kd.R (Kd.int .i64) 3 w' w.heap.size (o3 b7 ab aa) ae ax)∧Aside0 (w'.heap[b2]? =some (.cells #[.int .i64 b5,(.slice cC bY.length cE),(.slice cD bZ.length cF)] 27 (0,0)))∧Aside0 (w'.heap[bW]? =some (.cells #[.int .i64 0,(.slice none 0 0),(.slice none 0 0),(.slice none 0 0)] 33 (0,0)))∧Aside0 (w'.heap[bv]? =some (.cells #[.int .i64 aA,(.slice bD ag.length aU),ab] 27 (0,0)))∧Aside0 (w'.heap[a8]? =some (.cells #[.int .i64 aA,aa,bC,ae] 33 (0,0)))∧Aside0 (Below w.heap.size w w'))
           case atStart=>exact⟨(iX),(0),rf,H',⟨Nat.le_refl _⟩,⟨by exact Kd.nV aD.o (fun _ hk=>⟨hk.2,⟨hk.1.1,⟨hk.1.2.1,⟨hk.1.2.2.1,hk.1.2.2.2⟩⟩⟩⟩)⟩,⟨by exact Kd.mM go.o (fun _ hk=>⟨hk.1.1.2,⟨hk.1.2,hk.2⟩⟩)⟩,⟨by exact Kd.nV ah.o (fun _ hk=>⟨hk.1.1,⟨hk.2,⟨hk.1.2.1,⟨hk.1.2.2.1,hk.1.2.2.2⟩⟩⟩⟩)⟩,⟨by exact Kd.mM af.o (fun _ hk=>⟨hk.2,⟨hk.1.1,hk.1.2⟩⟩)⟩,⟨by exact Kd.mM aj.o (fun _ hk=>⟨hk.2,⟨hk.1.1,hk.1.2⟩⟩)⟩,⟨by exact Kd.mM ak.o (fun _ hk=>⟨hk.1.1,⟨hk.2,⟨hk.1.2.1,⟨hk.1.2.2.1,⟨hk.1.2.2.2.1,hk.1.2.2.2.2⟩⟩⟩⟩⟩)⟩,⟨by exact Kd.mM ai.o (fun _ hk=>⟨hk.2,⟨hk.1.1,hk.1.2⟩⟩)⟩,aq,ap,ao,ar,HB⟩
           case round=>
            clear H'
            clear dS g8 g9 hJ hU
            obtain⟨an,am,rfl,HA,ck,aD,al,ah,af,aj,ak,ai,aq,ap,ao,ar,HB⟩:=hrel
            cases gk with
            |zero=>exact nz_ HA.o
            |succ k5=>
             have H:=HA.o;clear HA;simp only[mJ.l3]at H
             replace H:=Hi_ H;rcases H with⟨eN,H⟩|⟨eN,H⟩
             ·replace H:=Hj_ H;rcases H with⟨qR,H⟩|⟨qR,H⟩
              ·cases H
              have hV:((ag.length:Int)==0)=false:=beq_eq_false_iff_ne.mpr qR
              have hZ:((ag.length:Int) !=0)=true:=bne_iff_ne.mpr qR
              have ia:¬ (ag=[]):=fun h_=>qR (by rw[h_];rfl)
              obtain⟨az,bX⟩:∃j_:Int,(Int.tmod aG (ag.length:Int))=j_:=⟨_,rfl⟩;replace H:(if 0≤(az)then(if(az)<(ag.length:Int)then(if 0≤am then(if am<((f_ ag (az)).length:Int)then(if aG<(ag.length:Int)then(mJ.j5 k5 (ag.length:Int) aQ aX aG an am (rd (f_ ag (az)) am) (am==aQ) aA ag av aA aw au ax)else(mJ.j5 k5 (ag.length:Int) aQ aX aG an am (rd (f_ ag (az)) am) false aA ag av aA aw au ax))else(none))else(none))else(none))else(none))=some (r1,r2,r3,r4,r5):=by first|(rw[bX]at H;exact H)|(simp only[bX]at H⊢;exact H)
              replace ⟨ib,H⟩:=Hd_ H
              replace ⟨ic,H⟩:=Hd_ H
              replace ⟨ie,H⟩:=Hd_ H
              replace ⟨ig,H⟩:=Hd_ H
              have l5:=A_ H;clear H;have lE:=bm.o;have ma:=aW.o;have lF:=bh.o;have mb:=aT.o;have lG:=ay.o;have mc:=bc.o;have ew:=bq3 ao.o
              try go_wp2
              replace aD:=A_ (Kd.vK aD.o);replace al:=A_ (Kd.pR al.o);replace ah:=A_ (Kd.vK ah.o);replace af:=A_ (Kd.pR af.o);replace aj:=A_ (Kd.pR aj.o);replace ak:=A_ (Kd.pR ak.o);replace ai:=A_ (Kd.pR ai.o);replace aq:=A_ (nQ aq.o);replace ap:=A_ (nQ ap.o);replace ao:=A_ (nQ ao.o);replace ar:=A_ (nQ ar.o);replace HB:=A_ (oG HB.o)
              have ej:0≤((az):Int):=oa_
              have ek:(az)<(ag.length:Int):=oa_
              obtain⟨bf,jt,ft,jJ,cA,dC,dA⟩:=qM (Kd.rq ah.o).2.2 (az) ej ek
              cases jJ
              obtain⟨Gd,l8,l9,gB⟩:=Kd.E5 ah.o [] (az) ej (by exact ek);obtain⟨AR,rfl,eT⟩:=l9;have a_:=gB 0 _ rfl;rw[Nat.add_zero,show((Kd.slice 3 (Kd.int .i64))).sz=1 from rfl,Nat.mul_one]at a_;replace a_:=Option.some.inj (a_.symm.trans cA);rw[a_]at eT;have gX:=A_ (show Kd.R (Kd.int .i64) 3 _ _ _ _ (f_ ag (az))from eT);clear a_ eT gB l8;have bL:=A_ dA;have iZ:=A_ dC;clear dA dC;replace ej:=eq_true ej;replace ek:=eq_true ek
              have eE:0≤(am:Int):=oa_
              have eF:am<((f_ ag (az)).length:Int):=oa_
              obtain⟨dR,jK,df⟩:=Kd.nM (by repeat (first|(with_reducible exact bL.o)|(with_reducible refine Kd.C_alloc ?_ _)|(with_reducible refine Kd.oH ?_ _)|(with_reducible refine Kd.pG ?_)|exact bL.o)) am eE eF
              cases jK
              replace eE:=eq_true eE;replace eF:=eq_true eF;refine rM (n:=11) (S:=fun w'=>cA3 bv (.int .i64 aA) (.slice (some bf) ag.length aU) (ab) w' (w'.cell? (bf.add ((az)).toNat)=some (.slice (some dR) (f_ ag (az)).length ft)∧w'.cell? (dR.add (am).toNat)=some (.int .i64 (rd (f_ ag (az)) am)))) (ds:=[]) (mk_ 11 0) K_ rfl rfl ⟨bz0 ao.o,bz1 ao.o,bz2 ao.o,cA,df⟩ (fun bF=>?_);refine ru mJ.OP mJ.Ob (fun cI gw=>?_)
              generalize wr.drew=LW at aD al ah af aj ak ai aq ap ao ar HB gX bL cA df bF⊢
              refine pw_ 0 85 (mk_ 11 1) cI ?_;refine pw_ 2 87 (mk_ 11 5) cI ?_;refine pw_ 3 88 (mk_ 11 13) cI ?_;refine pw_ 4 89 (mk_ 11 29) cI ?_;refine pw_ 7 92 (mk_ 11 157) cI ?_;refine tk_ 1 86 (mk_ 11 159) cI gw bF ?_;refine pw_ 5 90 (mk_ 11 191) cI ?_;refine tk_ 6 91 (mk_ 11 255) cI gw bF ?_;refine pw_ 8 93 (mk_ 11 511) cI ?_;refine tk_ 9 94 (mk_ 11 1023) cI gw bF ?_;refine pw_ 10 16 (mk_ 11 2047) cI ?_;refine sZ (sP cI.o K_) ?_
              go_upto_region 24 with(fail)
              go_cut [102] (fun kz wc=>∃ (kq:Nat) (cB:Bool),kz=.bool cB∧Aside0 (mJ.j5 kq (ag.length:Int) aQ aX aG an am (rd (f_ ag (az)) am) cB aA ag av aA aw au ax=some (r1,r2,r3,r4,r5))∧Aside0 (kq≤k5)∧Aside0 (Kd.S (Kd.slice 3 (Kd.int .i64)) 25 wc w.heap.size (o5 b7 (.slice (some bf) ag.length aU) ab aa ae) u12 aX)∧Aside0 (Kd.R (Kd.int .i64) 3 wc w.heap.size (o3 ab aa ae) b7 an)∧Aside0 (Kd.S (Kd.slice 3 (Kd.int .i64)) 25 wc w.heap.size (o5 u12 b7 ab aa ae) (.slice (some bf) ag.length aU) ag)∧Aside0 (Kd.R (Kd.int .i64) 3 wc w.heap.size (o3 b7 aa ae) ab av)∧Aside0 (Kd.R (Kd.int .i64) 3 wc w.heap.size (o3 b7 ab ae) aa aw)∧Aside0 (Kd.R (Kd.slice 25 (Kd.slice 3 (Kd.int .i64))) 24 wc w.heap.size (o6 u12 b7 (.slice (some bf) ag.length aU) ab aa ae) bC au)∧Aside0 (Kd.R (Kd.int .i64) 3 wc w.heap.size (o3 b7 ab aa) ae ax)∧Aside0 (wc.heap[b2]? =some (.cells #[.int .i64 b5,(.slice cC bY.length cE),(.slice cD bZ.length cF)] 27 (0,0)))∧Aside0 (wc.heap[bW]? =some (.cells #[.int .i64 0,(.slice none 0 0),(.slice none 0 0),(.slice none 0 0)] 33 (0,0)))∧Aside0 (wc.heap[bv]? =some (.cells #[.int .i64 aA,(.slice (some bf) ag.length aU),ab] 27 (0,0)))∧Aside0 (wc.heap[a8]? =some (.cells #[.int .i64 aA,aa,bC,ae] 33 (0,0)))∧Aside0 (Kd.C (Kd.int .i64) wc (some dR) (f_ ag (az)).length (f_ ag (az)))∧Aside0 (Below w.heap.size w wc))
              case first=>
               have H:=l5.o;clear l5
               replace H:=Hi_ H;rcases H with⟨fi,H⟩|⟨fi,H⟩
               ·(skip)
                have H':=A_ H
                clear H
                go_wp2
                go_meet
                case rel=>exact⟨_,((am==aQ)),rf,H',⟨by have:=b3.o;have:=b4.o;have:=cf.o;have:=cg.o;have:=ck.o;omega⟩,aD,al,ah,af,aj,ak,ai,aq,ap,ao,ar,⟨by repeat (first|(with_reducible exact bL.o)|(with_reducible refine Kd.C_alloc ?_ _)|(with_reducible refine Kd.oH ?_ _)|(with_reducible refine Kd.pG ?_)|exact bL.o)⟩,HB⟩
               (skip)
               have H':=A_ H
               clear H
               go_wp2
               go_meet
               case rel=>exact⟨_,(false),rf,H',⟨by have:=b3.o;have:=b4.o;have:=cf.o;have:=cg.o;have:=ck.o;omega⟩,aD,al,ah,af,aj,ak,ai,aq,ap,ao,ar,⟨by repeat (first|(with_reducible exact bL.o)|(with_reducible refine Kd.C_alloc ?_ _)|(with_reducible refine Kd.oH ?_ _)|(with_reducible refine Kd.pG ?_)|exact bL.o)⟩,HB⟩
              case rest=>
               clear l5
               clear eN qR hV hZ ia ib ic ie ig ew cA df ej eE ek eF
               obtain⟨kq,cB,rfl,HA,bO,aD,al,ah,af,aj,ak,ai,aq,ap,ao,ar,bL,HB⟩:=hcut
               cases kq with
               |zero=>exact nz_ HA.o
               |succ aZ=>
                have H:=HA.o;clear HA;simp only[mJ.j5]at H
                replace H:=Hb_ H;rcases H with⟨rfl,H⟩|⟨rfl,H⟩
                ·replace ⟨ju,H⟩:=Hd_ H
                 replace ⟨jv,H⟩:=Hd_ H
                 replace ⟨ba,ch,H⟩:=Hs_ H
                 replace H:=Hi_ H;rcases H with⟨fj,H⟩|⟨fj,H⟩
                 ·replace H:=Hi_ H;rcases H with⟨fk,H⟩|⟨fk,H⟩
                  ·obtain⟨bi,cX⟩:∃j_:Int,(wrap64 ((ag.length:Int)+(rd (f_ ag (az)) am)))=j_:=⟨_,rfl⟩;replace H:(if 0≤(bi)then(if(bi)<(an.length:Int)then(mJ.l3 aZ (ag.length:Int) aQ aX aG (ba.set ((bi):Int).toNat (wrap64 ((rd ba (bi))+1))) (wrap64 (am+1)) aA ag av aA aw au ax)else(none))else(none))=some (r1,r2,r3,r4,r5):=by first|(rw[cX]at H;exact H)|(simp only[cX]at H⊢;exact H)
                   have jf:(IntKind.i64.wrap ((ag.length:Int)+(rd (f_ ag (az)) am)))=bi:=(uD _).trans cX
                   replace ⟨jw,H⟩:=Hd_ H
                   replace ⟨jx,H⟩:=Hd_ H
                   obtain⟨f9,ec⟩:=ex_ ((ba.set ((bi):Int).toNat (wrap64 ((rd ba (bi))+1))):List Int);rw[←ec]at H;have gI:=A_ ec;clear ec
                   have H':=A_ H
                   clear H;obtain⟨kC,eO,iv⟩:=Kd.mU al.o;subst iv
                   have bT:0≤((rd (f_ ag (az)) am):Int):=oa_
                   have bV:(rd (f_ ag (az)) am)<(an.length:Int):=oa_
                   obtain⟨dx,cW,bG⟩:=Kd.nM (Kd.mX al.o).2.2 (rd (f_ ag (az)) am) bT bV
                   cases cW
                   replace bT:=eq_true bT;replace bV:=eq_true bV
                   have bS:0≤((rd (f_ ag (az)) am):Int):=oa_
                   have bU:((rd (f_ ag (az)) am):Int)<((an.length:Int):Int):=oa_
                   obtain⟨a9,dy,bM,bN,b_,fe,aK⟩:=Kd.sj al.o om
                   (first|cases bM|(injection bM with U dY eu;(first|subst U|(injection U with U;subst U));subst eu;clear dY))
                   have aR:=A_ bN;have gq:=A_ aK;clear bN b_ aK
                   (first|simp only[add_plain]at bG|skip)
                   obtain⟨cw,co⟩:=Kd.rF 0 al.o ((rd (f_ ag (az)) am):Int) bS bU;replace bS:=eq_true bS;replace bU:=eq_true bU;have dG:=Kd.uo al.o ((rd (f_ ag (az)) am):Int) (wrap64 ((rd an (rd (f_ ag (az)) am))+1))
                   go_wp2_with (first|((with_reducible refine qz (t:=3) (p:=110) rfl ?_);refine qa (t:=3) (p:=110) (w1:=(wc.setCell ⟨a9,((rd (f_ ag (az)) am):Int).toNat,none⟩ (.int .i64 (wrap64 ((rd an (rd (f_ ag (az)) am))+1))))) rfl rfl rfl (by go_simp;done) ?_;intro gL hw;have hg:wc.grownBy gL (some a9):=(by rw[hw];exact dG.2);have J:Kd.R (Kd.int .i64) 3 gL w.heap.size (o3 ab aa ae) (.slice (some ⟨a9,0,none⟩) an.length eO) ba:=(by rw[hw,ch.o];exact dG.1);clear dG;replace aD:=sB_ (ok:=(o4 (.slice (some bf) ag.length aU) ab aa ae)) J aD (fun _ hk=>⟨⟨hk.2.1,⟨hk.2.2.1,⟨hk.2.2.2.1,hk.2.2.2.2⟩⟩⟩,hk.1⟩) hg;replace ah:=sB_ (ok:=(o4 u12 ab aa ae)) J ah (fun _ hk=>⟨⟨hk.1,⟨hk.2.2.1,⟨hk.2.2.2.1,hk.2.2.2.2⟩⟩⟩,hk.2.1⟩) hg;replace af:=rB_ (ok:=(o2 aa ae)) J af (fun _ hk=>⟨⟨hk.2.1,hk.2.2⟩,hk.1⟩) hg;replace aj:=rB_ (ok:=(o2 ab ae)) J aj (fun _ hk=>⟨⟨hk.2.1,hk.2.2⟩,hk.1⟩) hg;replace ak:=rB_ (ok:=(o5 u12 (.slice (some bf) ag.length aU) ab aa ae)) J ak (fun _ hk=>⟨⟨hk.1,⟨hk.2.2.1,⟨hk.2.2.2.1,⟨hk.2.2.2.2.1,hk.2.2.2.2.2⟩⟩⟩⟩,hk.2.1⟩) hg;replace ai:=rB_ (ok:=(o2 ab aa)) J ai (fun _ hk=>⟨⟨hk.2.1,hk.2.2⟩,hk.1⟩) hg;replace aq:=gR_ al aq hg;replace ap:=gR_ al ap hg;replace ao:=gR_ al ao hg;replace ar:=gR_ al ar hg;replace al:=A_ (J);replace HB:=A_ ((by rw[hw];exact mY (HB.o) aR.o:Below w.heap.size w gL));clear hg hw J;have fJ:0≤((bi):Int):=oa_;have fV:(bi)<(ba.length:Int):=(by have h_:((bi):Int)<((an.length:Int):Int):=oa_;first|(have e_:=(Kd.mX al.o).1;omega)|simpa only[ch.o,List.length_set]using h_);have me:(((bi):Int)<((an.length:Int):Int))=True:=eq_true oa_;obtain⟨gU,jL,dg⟩:=Kd.nM (Kd.mX al.o).2.2 (bi) fJ fV;obtain rfl:(⟨a9,0,none⟩:Addr)=gU:=(by injection jL);(first|simp only[add_plain]at dg|simp only[zg]at dg|simp only[Addr.add,Nat.zero_add]at dg|skip);replace fJ:=eq_true fJ;replace fV:=eq_true fV;have fD:0≤((bi):Int):=oa_;have fP:((bi):Int)<((an.length:Int):Int):=oa_;obtain⟨jl,i9⟩:=Kd.rF 0 al.o ((bi):Int) fD fP;replace fD:=eq_true fD;replace fP:=eq_true fP;obtain⟨EE,EM⟩:=Kd.rF 0 al.o ((bi):Int) oa_ oa_;have dH:=Kd.uo al.o ((bi):Int) (wrap64 ((rd ba (bi))+1)))|((with_reducible refine qz (t:=3) (p:=135) rfl ?_);refine qa (t:=3) (p:=135) (w1:=(gL.setCell ⟨a9,((bi):Int).toNat,none⟩ (.int .i64 (wrap64 ((rd ba (bi))+1))))) rfl rfl rfl (by go_simp;done) ?_;intro n_ hw;have hg:gL.grownBy n_ (some a9):=(by rw[hw];exact dH.2);have J:Kd.R (Kd.int .i64) 3 n_ w.heap.size (o3 ab aa ae) (.slice (some ⟨a9,0,none⟩) an.length eO) f9:=(by rw[hw,gI.o];exact dH.1);clear dH;replace aD:=sA_ (ok:=(o4 (.slice (some bf) ag.length aU) ab aa ae)) J aD hg;replace ah:=sA_ (ok:=(o4 u12 ab aa ae)) J ah hg;replace af:=rA_ (ok:=(o2 aa ae)) J af hg;replace aj:=rA_ (ok:=(o2 ab ae)) J aj hg;replace ak:=rA_ (ok:=(o5 u12 (.slice (some bf) ag.length aU) ab aa ae)) J ak hg;replace ai:=rA_ (ok:=(o2 ab aa)) J ai hg;replace aq:=gR_ al aq hg;replace ap:=gR_ al ap hg;replace ao:=gR_ al ao hg;replace ar:=gR_ al ar hg;replace al:=A_ (J);replace HB:=A_ ((by rw[hw];exact mY (HB.o) aR.o:Below w.heap.size w n_));clear hg hw J))
                   (try subst br)
                   (try subst bK)
                   (try subst bX)
                   (try subst cX)
                   go_roundg aZ
                   case measure=>have:=b3.o;have:=b4.o;have:=cf.o;have:=cg.o;have:=ck.o;have:=bO.o;omega
                   case rel=>exact⟨(f9),(wrap64 (am+1)),rf,H',⟨by have:=b3.o;have:=b4.o;have:=cf.o;have:=cg.o;have:=ck.o;have:=bO.o;omega⟩,⟨by exact Kd.nV aD.o (fun _ hk=>⟨hk.2,⟨hk.1.1,⟨hk.1.2.1,⟨hk.1.2.2.1,hk.1.2.2.2⟩⟩⟩⟩)⟩,al,⟨by exact Kd.nV ah.o (fun _ hk=>⟨hk.1.1,⟨hk.2,⟨hk.1.2.1,⟨hk.1.2.2.1,hk.1.2.2.2⟩⟩⟩⟩)⟩,⟨by exact Kd.mM af.o (fun _ hk=>⟨hk.2,⟨hk.1.1,hk.1.2⟩⟩)⟩,⟨by exact Kd.mM aj.o (fun _ hk=>⟨hk.2,⟨hk.1.1,hk.1.2⟩⟩)⟩,⟨by exact Kd.mM ak.o (fun _ hk=>⟨hk.1.1,⟨hk.2,⟨hk.1.2.1,⟨hk.1.2.2.1,⟨hk.1.2.2.2.1,hk.1.2.2.2.2⟩⟩⟩⟩⟩)⟩,⟨by exact Kd.mM ai.o (fun _ hk=>⟨hk.2,⟨hk.1.1,hk.1.2⟩⟩)⟩,aq,ap,ao,ar,HB⟩
                  replace H:=Hj_ H;rcases H with⟨c117,H⟩|⟨c117,H⟩
                  ·have fl:decide ((ag.length:Int)≤aG)=true:=decide_eq_true c117
                   clear c117;obtain⟨bj,cY⟩:∃j_:Int,(wrap64 ((ag.length:Int)+(rd (f_ ag (az)) am)))=j_:=⟨_,rfl⟩;replace H:(if 0≤(bj)then(if(bj)<(an.length:Int)then(mJ.l3 aZ (ag.length:Int) aQ aX aG (ba.set ((bj):Int).toNat (wrap64 ((rd ba (bj))+1))) (wrap64 (am+1)) aA ag av aA aw au ax)else(none))else(none))=some (r1,r2,r3,r4,r5):=by first|(rw[cY]at H;exact H)|(simp only[cY]at H⊢;exact H)
                   have jg:(IntKind.i64.wrap ((ag.length:Int)+(rd (f_ ag (az)) am)))=bj:=(uD _).trans cY
                   replace ⟨jy,H⟩:=Hd_ H
                   replace ⟨jz,H⟩:=Hd_ H
                   obtain⟨ga,ed⟩:=ex_ ((ba.set ((bj):Int).toNat (wrap64 ((rd ba (bj))+1))):List Int);rw[←ed]at H;have gJ:=A_ ed;clear ed
                   have H':=A_ H
                   clear H;obtain⟨kD,eP,iw⟩:=Kd.mU al.o;subst iw
                   have bT:0≤((rd (f_ ag (az)) am):Int):=oa_
                   have bV:(rd (f_ ag (az)) am)<(an.length:Int):=oa_
                   obtain⟨dx,cW,bG⟩:=Kd.nM (Kd.mX al.o).2.2 (rd (f_ ag (az)) am) bT bV
                   cases cW
                   replace bT:=eq_true bT;replace bV:=eq_true bV
                   have bS:0≤((rd (f_ ag (az)) am):Int):=oa_
                   have bU:((rd (f_ ag (az)) am):Int)<((an.length:Int):Int):=oa_
                   obtain⟨a9,dy,bM,bN,b_,fe,aK⟩:=Kd.sj al.o om
                   (first|cases bM|(injection bM with U dY eu;(first|subst U|(injection U with U;subst U));subst eu;clear dY))
                   have aR:=A_ bN;have gq:=A_ aK;clear bN b_ aK
                   (first|simp only[add_plain]at bG|skip)
                   obtain⟨cw,co⟩:=Kd.rF 0 al.o ((rd (f_ ag (az)) am):Int) bS bU;replace bS:=eq_true bS;replace bU:=eq_true bU;have dI:=Kd.uo al.o ((rd (f_ ag (az)) am):Int) (wrap64 ((rd an (rd (f_ ag (az)) am))+1))
                   go_wp2_with (first|((with_reducible refine qz (t:=3) (p:=110) rfl ?_);refine qa (t:=3) (p:=110) (w1:=(wc.setCell ⟨a9,((rd (f_ ag (az)) am):Int).toNat,none⟩ (.int .i64 (wrap64 ((rd an (rd (f_ ag (az)) am))+1))))) rfl rfl rfl (by go_simp;done) ?_;intro gP hw;have hg:wc.grownBy gP (some a9):=(by rw[hw];exact dI.2);have J:Kd.R (Kd.int .i64) 3 gP w.heap.size (o3 ab aa ae) (.slice (some ⟨a9,0,none⟩) an.length eP) ba:=(by rw[hw,ch.o];exact dI.1);clear dI;replace aD:=sB_ (ok:=(o4 (.slice (some bf) ag.length aU) ab aa ae)) J aD (fun _ hk=>⟨⟨hk.2.1,⟨hk.2.2.1,⟨hk.2.2.2.1,hk.2.2.2.2⟩⟩⟩,hk.1⟩) hg;replace ah:=sB_ (ok:=(o4 u12 ab aa ae)) J ah (fun _ hk=>⟨⟨hk.1,⟨hk.2.2.1,⟨hk.2.2.2.1,hk.2.2.2.2⟩⟩⟩,hk.2.1⟩) hg;replace af:=rB_ (ok:=(o2 aa ae)) J af (fun _ hk=>⟨⟨hk.2.1,hk.2.2⟩,hk.1⟩) hg;replace aj:=rB_ (ok:=(o2 ab ae)) J aj (fun _ hk=>⟨⟨hk.2.1,hk.2.2⟩,hk.1⟩) hg;replace ak:=rB_ (ok:=(o5 u12 (.slice (some bf) ag.length aU) ab aa ae)) J ak (fun _ hk=>⟨⟨hk.1,⟨hk.2.2.1,⟨hk.2.2.2.1,⟨hk.2.2.2.2.1,hk.2.2.2.2.2⟩⟩⟩⟩,hk.2.1⟩) hg;replace ai:=rB_ (ok:=(o2 ab aa)) J ai (fun _ hk=>⟨⟨hk.2.1,hk.2.2⟩,hk.1⟩) hg;replace aq:=gR_ al aq hg;replace ap:=gR_ al ap hg;replace ao:=gR_ al ao hg;replace ar:=gR_ al ar hg;replace al:=A_ (J);replace HB:=A_ ((by rw[hw];exact mY (HB.o) aR.o:Below w.heap.size w gP));clear hg hw J;have fK:0≤((bj):Int):=oa_;have fW:(bj)<(ba.length:Int):=(by have h_:((bj):Int)<((an.length:Int):Int):=oa_;first|(have e_:=(Kd.mX al.o).1;omega)|simpa only[ch.o,List.length_set]using h_);have mf:(((bj):Int)<((an.length:Int):Int))=True:=eq_true oa_;obtain⟨gV,jM,dh⟩:=Kd.nM (Kd.mX al.o).2.2 (bj) fK fW;obtain rfl:(⟨a9,0,none⟩:Addr)=gV:=(by injection jM);(first|simp only[add_plain]at dh|simp only[zg]at dh|simp only[Addr.add,Nat.zero_add]at dh|skip);replace fK:=eq_true fK;replace fW:=eq_true fW;have fE:0≤((bj):Int):=oa_;have fQ:((bj):Int)<((an.length:Int):Int):=oa_;obtain⟨jm,ja⟩:=Kd.rF 0 al.o ((bj):Int) fE fQ;replace fE:=eq_true fE;replace fQ:=eq_true fQ;obtain⟨EN,EP⟩:=Kd.rF 0 al.o ((bj):Int) oa_ oa_;have dJ:=Kd.uo al.o ((bj):Int) (wrap64 ((rd ba (bj))+1)))|((with_reducible refine qz (t:=3) (p:=135) rfl ?_);refine qa (t:=3) (p:=135) (w1:=(gP.setCell ⟨a9,((bj):Int).toNat,none⟩ (.int .i64 (wrap64 ((rd ba (bj))+1))))) rfl rfl rfl (by go_simp;done) ?_;intro og hw;have hg:gP.grownBy og (some a9):=(by rw[hw];exact dJ.2);have J:Kd.R (Kd.int .i64) 3 og w.heap.size (o3 ab aa ae) (.slice (some ⟨a9,0,none⟩) an.length eP) ga:=(by rw[hw,gJ.o];exact dJ.1);clear dJ;replace aD:=sA_ (ok:=(o4 (.slice (some bf) ag.length aU) ab aa ae)) J aD hg;replace ah:=sA_ (ok:=(o4 u12 ab aa ae)) J ah hg;replace af:=rA_ (ok:=(o2 aa ae)) J af hg;replace aj:=rA_ (ok:=(o2 ab ae)) J aj hg;replace ak:=rA_ (ok:=(o5 u12 (.slice (some bf) ag.length aU) ab aa ae)) J ak hg;replace ai:=rA_ (ok:=(o2 ab aa)) J ai hg;replace aq:=gR_ al aq hg;replace ap:=gR_ al ap hg;replace ao:=gR_ al ao hg;replace ar:=gR_ al ar hg;replace al:=A_ (J);replace HB:=A_ ((by rw[hw];exact mY (HB.o) aR.o:Below w.heap.size w og));clear hg hw J))
                   (try subst br)
                   (try subst bK)
                   (try subst bX)
                   (try subst cY)
                   go_roundg aZ
                   case measure=>have:=b3.o;have:=b4.o;have:=cf.o;have:=cg.o;have:=ck.o;have:=bO.o;omega
                   case rel=>exact⟨(ga),(wrap64 (am+1)),rf,H',⟨by have:=b3.o;have:=b4.o;have:=cf.o;have:=cg.o;have:=ck.o;have:=bO.o;omega⟩,⟨by exact Kd.nV aD.o (fun _ hk=>⟨hk.2,⟨hk.1.1,⟨hk.1.2.1,⟨hk.1.2.2.1,hk.1.2.2.2⟩⟩⟩⟩)⟩,al,⟨by exact Kd.nV ah.o (fun _ hk=>⟨hk.1.1,⟨hk.2,⟨hk.1.2.1,⟨hk.1.2.2.1,hk.1.2.2.2⟩⟩⟩⟩)⟩,⟨by exact Kd.mM af.o (fun _ hk=>⟨hk.2,⟨hk.1.1,hk.1.2⟩⟩)⟩,⟨by exact Kd.mM aj.o (fun _ hk=>⟨hk.2,⟨hk.1.1,hk.1.2⟩⟩)⟩,⟨by exact Kd.mM ak.o (fun _ hk=>⟨hk.1.1,⟨hk.2,⟨hk.1.2.1,⟨hk.1.2.2.1,⟨hk.1.2.2.2.1,hk.1.2.2.2.2⟩⟩⟩⟩⟩)⟩,⟨by exact Kd.mM ai.o (fun _ hk=>⟨hk.2,⟨hk.1.1,hk.1.2⟩⟩)⟩,aq,ap,ao,ar,HB⟩
                  have fl:decide ((ag.length:Int)≤aG)=false:=decide_eq_false c117
                  clear c117
                  have H':=A_ H
                  clear H;obtain⟨kE,ii,ix⟩:=Kd.mU al.o;subst ix
                  have bT:0≤((rd (f_ ag (az)) am):Int):=oa_
                  have bV:(rd (f_ ag (az)) am)<(an.length:Int):=oa_
                  obtain⟨dx,cW,bG⟩:=Kd.nM (Kd.mX al.o).2.2 (rd (f_ ag (az)) am) bT bV
                  cases cW
                  replace bT:=eq_true bT;replace bV:=eq_true bV
                  have bS:0≤((rd (f_ ag (az)) am):Int):=oa_
                  have bU:((rd (f_ ag (az)) am):Int)<((an.length:Int):Int):=oa_
                  obtain⟨a9,dy,bM,bN,b_,fe,aK⟩:=Kd.sj al.o om
                  (first|cases bM|(injection bM with U dY eu;(first|subst U|(injection U with U;subst U));subst eu;clear dY))
                  have aR:=A_ bN;have gq:=A_ aK;clear bN b_ aK
                  (first|simp only[add_plain]at bG|skip)
                  obtain⟨cw,co⟩:=Kd.rF 0 al.o ((rd (f_ ag (az)) am):Int) bS bU;replace bS:=eq_true bS;replace bU:=eq_true bU;have dK:=Kd.uo al.o ((rd (f_ ag (az)) am):Int) (wrap64 ((rd an (rd (f_ ag (az)) am))+1))
                  go_wp2_with (first|((with_reducible refine qz (t:=3) (p:=110) rfl ?_);refine qa (t:=3) (p:=110) (w1:=(wc.setCell ⟨a9,((rd (f_ ag (az)) am):Int).toNat,none⟩ (.int .i64 (wrap64 ((rd an (rd (f_ ag (az)) am))+1))))) rfl rfl rfl (by go_simp;done) ?_;intro o_ hw;have hg:wc.grownBy o_ (some a9):=(by rw[hw];exact dK.2);have J:Kd.R (Kd.int .i64) 3 o_ w.heap.size (o3 ab aa ae) (.slice (some ⟨a9,0,none⟩) an.length ii) ba:=(by rw[hw,ch.o];exact dK.1);clear dK;replace aD:=sB_ (ok:=(o4 (.slice (some bf) ag.length aU) ab aa ae)) J aD (fun _ hk=>⟨⟨hk.2.1,⟨hk.2.2.1,⟨hk.2.2.2.1,hk.2.2.2.2⟩⟩⟩,hk.1⟩) hg;replace ah:=sB_ (ok:=(o4 u12 ab aa ae)) J ah (fun _ hk=>⟨⟨hk.1,⟨hk.2.2.1,⟨hk.2.2.2.1,hk.2.2.2.2⟩⟩⟩,hk.2.1⟩) hg;replace af:=rB_ (ok:=(o2 aa ae)) J af (fun _ hk=>⟨⟨hk.2.1,hk.2.2⟩,hk.1⟩) hg;replace aj:=rB_ (ok:=(o2 ab ae)) J aj (fun _ hk=>⟨⟨hk.2.1,hk.2.2⟩,hk.1⟩) hg;replace ak:=rB_ (ok:=(o5 u12 (.slice (some bf) ag.length aU) ab aa ae)) J ak (fun _ hk=>⟨⟨hk.1,⟨hk.2.2.1,⟨hk.2.2.2.1,⟨hk.2.2.2.2.1,hk.2.2.2.2.2⟩⟩⟩⟩,hk.2.1⟩) hg;replace ai:=rB_ (ok:=(o2 ab aa)) J ai (fun _ hk=>⟨⟨hk.2.1,hk.2.2⟩,hk.1⟩) hg;replace aq:=gR_ al aq hg;replace ap:=gR_ al ap hg;replace ao:=gR_ al ao hg;replace ar:=gR_ al ar hg;replace al:=A_ (J);replace HB:=A_ ((by rw[hw];exact mY (HB.o) aR.o:Below w.heap.size w o_));clear hg hw J))
                  (try subst br)
                  (try subst bK)
                  (try subst bX)
                  go_roundg aZ
                  case measure=>have:=b3.o;have:=b4.o;have:=cf.o;have:=cg.o;have:=ck.o;have:=bO.o;omega
                  case rel=>exact⟨(ba),(wrap64 (am+1)),rf,H',⟨by have:=b3.o;have:=b4.o;have:=cf.o;have:=cg.o;have:=ck.o;have:=bO.o;omega⟩,⟨by exact Kd.nV aD.o (fun _ hk=>⟨hk.2,⟨hk.1.1,⟨hk.1.2.1,⟨hk.1.2.2.1,hk.1.2.2.2⟩⟩⟩⟩)⟩,al,⟨by exact Kd.nV ah.o (fun _ hk=>⟨hk.1.1,⟨hk.2,⟨hk.1.2.1,⟨hk.1.2.2.1,hk.1.2.2.2⟩⟩⟩⟩)⟩,⟨by exact Kd.mM af.o (fun _ hk=>⟨hk.2,⟨hk.1.1,hk.1.2⟩⟩)⟩,⟨by exact Kd.mM aj.o (fun _ hk=>⟨hk.2,⟨hk.1.1,hk.1.2⟩⟩)⟩,⟨by exact Kd.mM ak.o (fun _ hk=>⟨hk.1.1,⟨hk.2,⟨hk.1.2.1,⟨hk.1.2.2.1,⟨hk.1.2.2.2.1,hk.1.2.2.2.2⟩⟩⟩⟩⟩)⟩,⟨by exact Kd.mM ai.o (fun _ hk=>⟨hk.2,⟨hk.1.1,hk.1.2⟩⟩)⟩,aq,ap,ao,ar,HB⟩
                 replace H:=Hj_ H;rcases H with⟨c130,H⟩|⟨c130,H⟩
                 ·have fm:decide ((ag.length:Int)≤aG)=true:=decide_eq_true c130
                  clear c130;obtain⟨bk,cZ⟩:∃j_:Int,(wrap64 ((ag.length:Int)+(rd (f_ ag (az)) am)))=j_:=⟨_,rfl⟩;replace H:(if 0≤(bk)then(if(bk)<(an.length:Int)then(mJ.l3 aZ (ag.length:Int) aQ aX aG (ba.set ((bk):Int).toNat (wrap64 ((rd ba (bk))+1))) (wrap64 (am+1)) aA ag av aA aw au ax)else(none))else(none))=some (r1,r2,r3,r4,r5):=by first|(rw[cZ]at H;exact H)|(simp only[cZ]at H⊢;exact H)
                  have jh:(IntKind.i64.wrap ((ag.length:Int)+(rd (f_ ag (az)) am)))=bk:=(uD _).trans cZ
                  replace ⟨jA,H⟩:=Hd_ H
                  replace ⟨jB,H⟩:=Hd_ H
                  obtain⟨gb,ef⟩:=ex_ ((ba.set ((bk):Int).toNat (wrap64 ((rd ba (bk))+1))):List Int);rw[←ef]at H;have gK:=A_ ef;clear ef
                  have H':=A_ H
                  clear H;obtain⟨kF,eQ,iy⟩:=Kd.mU al.o;subst iy
                  have bT:0≤((rd (f_ ag (az)) am):Int):=oa_
                  have bV:(rd (f_ ag (az)) am)<(an.length:Int):=oa_
                  obtain⟨dx,cW,bG⟩:=Kd.nM (Kd.mX al.o).2.2 (rd (f_ ag (az)) am) bT bV
                  cases cW
                  replace bT:=eq_true bT;replace bV:=eq_true bV
                  have bS:0≤((rd (f_ ag (az)) am):Int):=oa_
                  have bU:((rd (f_ ag (az)) am):Int)<((an.length:Int):Int):=oa_
                  obtain⟨a9,dy,bM,bN,b_,fe,aK⟩:=Kd.sj al.o om
                  (first|cases bM|(injection bM with U dY eu;(first|subst U|(injection U with U;subst U));subst eu;clear dY))
                  have aR:=A_ bN;have gq:=A_ aK;clear bN b_ aK
                  (first|simp only[add_plain]at bG|skip)
                  obtain⟨cw,co⟩:=Kd.rF 0 al.o ((rd (f_ ag (az)) am):Int) bS bU;replace bS:=eq_true bS;replace bU:=eq_true bU;have dL:=Kd.uo al.o ((rd (f_ ag (az)) am):Int) (wrap64 ((rd an (rd (f_ ag (az)) am))+1))
                  go_wp2_with (first|((with_reducible refine qz (t:=3) (p:=110) rfl ?_);refine qa (t:=3) (p:=110) (w1:=(wc.setCell ⟨a9,((rd (f_ ag (az)) am):Int).toNat,none⟩ (.int .i64 (wrap64 ((rd an (rd (f_ ag (az)) am))+1))))) rfl rfl rfl (by go_simp;done) ?_;intro gQ hw;have hg:wc.grownBy gQ (some a9):=(by rw[hw];exact dL.2);have J:Kd.R (Kd.int .i64) 3 gQ w.heap.size (o3 ab aa ae) (.slice (some ⟨a9,0,none⟩) an.length eQ) ba:=(by rw[hw,ch.o];exact dL.1);clear dL;replace aD:=sB_ (ok:=(o4 (.slice (some bf) ag.length aU) ab aa ae)) J aD (fun _ hk=>⟨⟨hk.2.1,⟨hk.2.2.1,⟨hk.2.2.2.1,hk.2.2.2.2⟩⟩⟩,hk.1⟩) hg;replace ah:=sB_ (ok:=(o4 u12 ab aa ae)) J ah (fun _ hk=>⟨⟨hk.1,⟨hk.2.2.1,⟨hk.2.2.2.1,hk.2.2.2.2⟩⟩⟩,hk.2.1⟩) hg;replace af:=rB_ (ok:=(o2 aa ae)) J af (fun _ hk=>⟨⟨hk.2.1,hk.2.2⟩,hk.1⟩) hg;replace aj:=rB_ (ok:=(o2 ab ae)) J aj (fun _ hk=>⟨⟨hk.2.1,hk.2.2⟩,hk.1⟩) hg;replace ak:=rB_ (ok:=(o5 u12 (.slice (some bf) ag.length aU) ab aa ae)) J ak (fun _ hk=>⟨⟨hk.1,⟨hk.2.2.1,⟨hk.2.2.2.1,⟨hk.2.2.2.2.1,hk.2.2.2.2.2⟩⟩⟩⟩,hk.2.1⟩) hg;replace ai:=rB_ (ok:=(o2 ab aa)) J ai (fun _ hk=>⟨⟨hk.2.1,hk.2.2⟩,hk.1⟩) hg;replace aq:=gR_ al aq hg;replace ap:=gR_ al ap hg;replace ao:=gR_ al ao hg;replace ar:=gR_ al ar hg;replace al:=A_ (J);replace HB:=A_ ((by rw[hw];exact mY (HB.o) aR.o:Below w.heap.size w gQ));clear hg hw J;have fL:0≤((bk):Int):=oa_;have fX:(bk)<(ba.length:Int):=(by have h_:((bk):Int)<((an.length:Int):Int):=oa_;first|(have e_:=(Kd.mX al.o).1;omega)|simpa only[ch.o,List.length_set]using h_);have mg:(((bk):Int)<((an.length:Int):Int))=True:=eq_true oa_;obtain⟨g5,jN,di⟩:=Kd.nM (Kd.mX al.o).2.2 (bk) fL fX;obtain rfl:(⟨a9,0,none⟩:Addr)=g5:=(by injection jN);(first|simp only[add_plain]at di|simp only[zg]at di|simp only[Addr.add,Nat.zero_add]at di|skip);replace fL:=eq_true fL;replace fX:=eq_true fX;have fF:0≤((bk):Int):=oa_;have fR:((bk):Int)<((an.length:Int):Int):=oa_;obtain⟨jn,jb⟩:=Kd.rF 0 al.o ((bk):Int) fF fR;replace fF:=eq_true fF;replace fR:=eq_true fR;obtain⟨EU,E8⟩:=Kd.rF 0 al.o ((bk):Int) oa_ oa_;have dM:=Kd.uo al.o ((bk):Int) (wrap64 ((rd ba (bk))+1)))|((with_reducible refine qz (t:=3) (p:=135) rfl ?_);refine qa (t:=3) (p:=135) (w1:=(gQ.setCell ⟨a9,((bk):Int).toNat,none⟩ (.int .i64 (wrap64 ((rd ba (bk))+1))))) rfl rfl rfl (by go_simp;done) ?_;intro p8 hw;have hg:gQ.grownBy p8 (some a9):=(by rw[hw];exact dM.2);have J:Kd.R (Kd.int .i64) 3 p8 w.heap.size (o3 ab aa ae) (.slice (some ⟨a9,0,none⟩) an.length eQ) gb:=(by rw[hw,gK.o];exact dM.1);clear dM;replace aD:=sA_ (ok:=(o4 (.slice (some bf) ag.length aU) ab aa ae)) J aD hg;replace ah:=sA_ (ok:=(o4 u12 ab aa ae)) J ah hg;replace af:=rA_ (ok:=(o2 aa ae)) J af hg;replace aj:=rA_ (ok:=(o2 ab ae)) J aj hg;replace ak:=rA_ (ok:=(o5 u12 (.slice (some bf) ag.length aU) ab aa ae)) J ak hg;replace ai:=rA_ (ok:=(o2 ab aa)) J ai hg;replace aq:=gR_ al aq hg;replace ap:=gR_ al ap hg;replace ao:=gR_ al ao hg;replace ar:=gR_ al ar hg;replace al:=A_ (J);replace HB:=A_ ((by rw[hw];exact mY (HB.o) aR.o:Below w.heap.size w p8));clear hg hw J))
                  (try subst br)
                  (try subst bK)
                  (try subst bX)
                  (try subst cZ)
                  go_roundg aZ
                  case measure=>have:=b3.o;have:=b4.o;have:=cf.o;have:=cg.o;have:=ck.o;have:=bO.o;omega
                  case rel=>exact⟨(gb),(wrap64 (am+1)),rf,H',⟨by have:=b3.o;have:=b4.o;have:=cf.o;have:=cg.o;have:=ck.o;have:=bO.o;omega⟩,⟨by exact Kd.nV aD.o (fun _ hk=>⟨hk.2,⟨hk.1.1,⟨hk.1.2.1,⟨hk.1.2.2.1,hk.1.2.2.2⟩⟩⟩⟩)⟩,al,⟨by exact Kd.nV ah.o (fun _ hk=>⟨hk.1.1,⟨hk.2,⟨hk.1.2.1,⟨hk.1.2.2.1,hk.1.2.2.2⟩⟩⟩⟩)⟩,⟨by exact Kd.mM af.o (fun _ hk=>⟨hk.2,⟨hk.1.1,hk.1.2⟩⟩)⟩,⟨by exact Kd.mM aj.o (fun _ hk=>⟨hk.2,⟨hk.1.1,hk.1.2⟩⟩)⟩,⟨by exact Kd.mM ak.o (fun _ hk=>⟨hk.1.1,⟨hk.2,⟨hk.1.2.1,⟨hk.1.2.2.1,⟨hk.1.2.2.2.1,hk.1.2.2.2.2⟩⟩⟩⟩⟩)⟩,⟨by exact Kd.mM ai.o (fun _ hk=>⟨hk.2,⟨hk.1.1,hk.1.2⟩⟩)⟩,aq,ap,ao,ar,HB⟩
                 have fm:decide ((ag.length:Int)≤aG)=false:=decide_eq_false c130
                 clear c130
                 have H':=A_ H
                 clear H;obtain⟨kG,ij,iz⟩:=Kd.mU al.o;subst iz
                 have bT:0≤((rd (f_ ag (az)) am):Int):=oa_
                 have bV:(rd (f_ ag (az)) am)<(an.length:Int):=oa_
                 obtain⟨dx,cW,bG⟩:=Kd.nM (Kd.mX al.o).2.2 (rd (f_ ag (az)) am) bT bV
                 cases cW
                 replace bT:=eq_true bT;replace bV:=eq_true bV
                 have bS:0≤((rd (f_ ag (az)) am):Int):=oa_
                 have bU:((rd (f_ ag (az)) am):Int)<((an.length:Int):Int):=oa_
                 obtain⟨a9,dy,bM,bN,b_,fe,aK⟩:=Kd.sj al.o om
                 (first|cases bM|(injection bM with U dY eu;(first|subst U|(injection U with U;subst U));subst eu;clear dY))
                 have aR:=A_ bN;have gq:=A_ aK;clear bN b_ aK
                 (first|simp only[add_plain]at bG|skip)
                 obtain⟨cw,co⟩:=Kd.rF 0 al.o ((rd (f_ ag (az)) am):Int) bS bU;replace bS:=eq_true bS;replace bU:=eq_true bU;have dN:=Kd.uo al.o ((rd (f_ ag (az)) am):Int) (wrap64 ((rd an (rd (f_ ag (az)) am))+1))
                 go_wp2_with (first|((with_reducible refine qz (t:=3) (p:=110) rfl ?_);refine qa (t:=3) (p:=110) (w1:=(wc.setCell ⟨a9,((rd (f_ ag (az)) am):Int).toNat,none⟩ (.int .i64 (wrap64 ((rd an (rd (f_ ag (az)) am))+1))))) rfl rfl rfl (by go_simp;done) ?_;intro p9 hw;have hg:wc.grownBy p9 (some a9):=(by rw[hw];exact dN.2);have J:Kd.R (Kd.int .i64) 3 p9 w.heap.size (o3 ab aa ae) (.slice (some ⟨a9,0,none⟩) an.length ij) ba:=(by rw[hw,ch.o];exact dN.1);clear dN;replace aD:=sB_ (ok:=(o4 (.slice (some bf) ag.length aU) ab aa ae)) J aD (fun _ hk=>⟨⟨hk.2.1,⟨hk.2.2.1,⟨hk.2.2.2.1,hk.2.2.2.2⟩⟩⟩,hk.1⟩) hg;replace ah:=sB_ (ok:=(o4 u12 ab aa ae)) J ah (fun _ hk=>⟨⟨hk.1,⟨hk.2.2.1,⟨hk.2.2.2.1,hk.2.2.2.2⟩⟩⟩,hk.2.1⟩) hg;replace af:=rB_ (ok:=(o2 aa ae)) J af (fun _ hk=>⟨⟨hk.2.1,hk.2.2⟩,hk.1⟩) hg;replace aj:=rB_ (ok:=(o2 ab ae)) J aj (fun _ hk=>⟨⟨hk.2.1,hk.2.2⟩,hk.1⟩) hg;replace ak:=rB_ (ok:=(o5 u12 (.slice (some bf) ag.length aU) ab aa ae)) J ak (fun _ hk=>⟨⟨hk.1,⟨hk.2.2.1,⟨hk.2.2.2.1,⟨hk.2.2.2.2.1,hk.2.2.2.2.2⟩⟩⟩⟩,hk.2.1⟩) hg;replace ai:=rB_ (ok:=(o2 ab aa)) J ai (fun _ hk=>⟨⟨hk.2.1,hk.2.2⟩,hk.1⟩) hg;replace aq:=gR_ al aq hg;replace ap:=gR_ al ap hg;replace ao:=gR_ al ao hg;replace ar:=gR_ al ar hg;replace al:=A_ (J);replace HB:=A_ ((by rw[hw];exact mY (HB.o) aR.o:Below w.heap.size w p9));clear hg hw J))
                 (try subst br)
                 (try subst bK)
                 (try subst bX)
                 go_roundg aZ
                 case measure=>have:=b3.o;have:=b4.o;have:=cf.o;have:=cg.o;have:=ck.o;have:=bO.o;omega
                 case rel=>exact⟨(ba),(wrap64 (am+1)),rf,H',⟨by have:=b3.o;have:=b4.o;have:=cf.o;have:=cg.o;have:=ck.o;have:=bO.o;omega⟩,⟨by exact Kd.nV aD.o (fun _ hk=>⟨hk.2,⟨hk.1.1,⟨hk.1.2.1,⟨hk.1.2.2.1,hk.1.2.2.2⟩⟩⟩⟩)⟩,al,⟨by exact Kd.nV ah.o (fun _ hk=>⟨hk.1.1,⟨hk.2,⟨hk.1.2.1,⟨hk.1.2.2.1,hk.1.2.2.2⟩⟩⟩⟩)⟩,⟨by exact Kd.mM af.o (fun _ hk=>⟨hk.2,⟨hk.1.1,hk.1.2⟩⟩)⟩,⟨by exact Kd.mM aj.o (fun _ hk=>⟨hk.2,⟨hk.1.1,hk.1.2⟩⟩)⟩,⟨by exact Kd.mM ak.o (fun _ hk=>⟨hk.1.1,⟨hk.2,⟨hk.1.2.1,⟨hk.1.2.2.1,⟨hk.1.2.2.2.1,hk.1.2.2.2.2⟩⟩⟩⟩⟩)⟩,⟨by exact Kd.mM ai.o (fun _ hk=>⟨hk.2,⟨hk.1.1,hk.1.2⟩⟩)⟩,aq,ap,ao,ar,HB⟩
                replace H:=Hi_ H;rcases H with⟨fo,H⟩|⟨fo,H⟩
                ·replace H:=Hi_ H;rcases H with⟨fp,H⟩|⟨fp,H⟩
                 ·obtain⟨bw,da⟩:∃j_:Int,(wrap64 ((ag.length:Int)+(rd (f_ ag (az)) am)))=j_:=⟨_,rfl⟩;replace H:(if 0≤(bw)then(if(bw)<(an.length:Int)then(mJ.l3 aZ (ag.length:Int) aQ aX aG (an.set ((bw):Int).toNat (wrap64 ((rd an (bw))+1))) (wrap64 (am+1)) aA ag av aA aw au ax)else(none))else(none))=some (r1,r2,r3,r4,r5):=by first|(rw[da]at H;exact H)|(simp only[da]at H⊢;exact H)
                  have ji:(IntKind.i64.wrap ((ag.length:Int)+(rd (f_ ag (az)) am)))=bw:=(uD _).trans da
                  replace ⟨jC,H⟩:=Hd_ H
                  replace ⟨jD,H⟩:=Hd_ H
                  obtain⟨gc,eg⟩:=ex_ ((an.set ((bw):Int).toNat (wrap64 ((rd an (bw))+1))):List Int);rw[←eg]at H;have gM:=A_ eg;clear eg
                  have H':=A_ H
                  clear H;obtain⟨kH,ik,iA⟩:=Kd.mU al.o;subst iA
                  have fM:0≤((bw):Int):=oa_
                  have fY:(bw)<(an.length:Int):=oa_
                  obtain⟨kO,jO,eB⟩:=Kd.nM (Kd.mX al.o).2.2 (bw) fM fY
                  cases jO
                  replace fM:=eq_true fM;replace fY:=eq_true fY
                  have fG:0≤((bw):Int):=oa_
                  have fS:((bw):Int)<((an.length:Int):Int):=oa_
                  obtain⟨dT,lf,eR,eV,qW,GA,g_⟩:=Kd.sj al.o om
                  (first|cases eR|(injection eR with U dY eu;(first|subst U|(injection U with U;subst U));subst eu;clear dY))
                  have qX:=A_ eV;have GL:=A_ g_;clear eV qW g_
                  (first|simp only[add_plain]at eB|skip)
                  obtain⟨jo,jc⟩:=Kd.rF 0 al.o ((bw):Int) fG fS;replace fG:=eq_true fG;replace fS:=eq_true fS;have dO:=Kd.uo al.o ((bw):Int) (wrap64 ((rd an (bw))+1))
                  go_wp2_with (first|((with_reducible refine qz (t:=3) (p:=135) rfl ?_);refine qa (t:=3) (p:=135) (w1:=(wc.setCell ⟨dT,((bw):Int).toNat,none⟩ (.int .i64 (wrap64 ((rd an (bw))+1))))) rfl rfl rfl (by go_simp;done) ?_;intro ql hw;have hg:wc.grownBy ql (some dT):=(by rw[hw];exact dO.2);have J:Kd.R (Kd.int .i64) 3 ql w.heap.size (o3 ab aa ae) (.slice (some ⟨dT,0,none⟩) an.length ik) gc:=(by rw[hw,gM.o];exact dO.1);clear dO;replace aD:=sB_ (ok:=(o4 (.slice (some bf) ag.length aU) ab aa ae)) J aD (fun _ hk=>⟨⟨hk.2.1,⟨hk.2.2.1,⟨hk.2.2.2.1,hk.2.2.2.2⟩⟩⟩,hk.1⟩) hg;replace ah:=sB_ (ok:=(o4 u12 ab aa ae)) J ah (fun _ hk=>⟨⟨hk.1,⟨hk.2.2.1,⟨hk.2.2.2.1,hk.2.2.2.2⟩⟩⟩,hk.2.1⟩) hg;replace af:=rB_ (ok:=(o2 aa ae)) J af (fun _ hk=>⟨⟨hk.2.1,hk.2.2⟩,hk.1⟩) hg;replace aj:=rB_ (ok:=(o2 ab ae)) J aj (fun _ hk=>⟨⟨hk.2.1,hk.2.2⟩,hk.1⟩) hg;replace ak:=rB_ (ok:=(o5 u12 (.slice (some bf) ag.length aU) ab aa ae)) J ak (fun _ hk=>⟨⟨hk.1,⟨hk.2.2.1,⟨hk.2.2.2.1,⟨hk.2.2.2.2.1,hk.2.2.2.2.2⟩⟩⟩⟩,hk.2.1⟩) hg;replace ai:=rB_ (ok:=(o2 ab aa)) J ai (fun _ hk=>⟨⟨hk.2.1,hk.2.2⟩,hk.1⟩) hg;replace aq:=gR_ al aq hg;replace ap:=gR_ al ap hg;replace ao:=gR_ al ao hg;replace ar:=gR_ al ar hg;replace al:=A_ (J);replace HB:=A_ ((by rw[hw];exact mY (HB.o) qX.o:Below w.heap.size w ql));clear hg hw J))
                  (try subst br)
                  (try subst bK)
                  (try subst bX)
                  (try subst da)
                  go_roundg aZ
                  case measure=>have:=b3.o;have:=b4.o;have:=cf.o;have:=cg.o;have:=ck.o;have:=bO.o;omega
                  case rel=>exact⟨(gc),(wrap64 (am+1)),rf,H',⟨by have:=b3.o;have:=b4.o;have:=cf.o;have:=cg.o;have:=ck.o;have:=bO.o;omega⟩,⟨by exact Kd.nV aD.o (fun _ hk=>⟨hk.2,⟨hk.1.1,⟨hk.1.2.1,⟨hk.1.2.2.1,hk.1.2.2.2⟩⟩⟩⟩)⟩,al,⟨by exact Kd.nV ah.o (fun _ hk=>⟨hk.1.1,⟨hk.2,⟨hk.1.2.1,⟨hk.1.2.2.1,hk.1.2.2.2⟩⟩⟩⟩)⟩,⟨by exact Kd.mM af.o (fun _ hk=>⟨hk.2,⟨hk.1.1,hk.1.2⟩⟩)⟩,⟨by exact Kd.mM aj.o (fun _ hk=>⟨hk.2,⟨hk.1.1,hk.1.2⟩⟩)⟩,⟨by exact Kd.mM ak.o (fun _ hk=>⟨hk.1.1,⟨hk.2,⟨hk.1.2.1,⟨hk.1.2.2.1,⟨hk.1.2.2.2.1,hk.1.2.2.2.2⟩⟩⟩⟩⟩)⟩,⟨by exact Kd.mM ai.o (fun _ hk=>⟨hk.2,⟨hk.1.1,hk.1.2⟩⟩)⟩,aq,ap,ao,ar,HB⟩
                 replace H:=Hj_ H;rcases H with⟨c152,H⟩|⟨c152,H⟩
                 ·have fq:decide ((ag.length:Int)≤aG)=true:=decide_eq_true c152
                  clear c152;obtain⟨bz,db⟩:∃j_:Int,(wrap64 ((ag.length:Int)+(rd (f_ ag (az)) am)))=j_:=⟨_,rfl⟩;replace H:(if 0≤(bz)then(if(bz)<(an.length:Int)then(mJ.l3 aZ (ag.length:Int) aQ aX aG (an.set ((bz):Int).toNat (wrap64 ((rd an (bz))+1))) (wrap64 (am+1)) aA ag av aA aw au ax)else(none))else(none))=some (r1,r2,r3,r4,r5):=by first|(rw[db]at H;exact H)|(simp only[db]at H⊢;exact H)
                  have jj:(IntKind.i64.wrap ((ag.length:Int)+(rd (f_ ag (az)) am)))=bz:=(uD _).trans db
                  replace ⟨jE,H⟩:=Hd_ H
                  replace ⟨jF,H⟩:=Hd_ H
                  obtain⟨gd,eh⟩:=ex_ ((an.set ((bz):Int).toNat (wrap64 ((rd an (bz))+1))):List Int);rw[←eh]at H;have gN:=A_ eh;clear eh
                  have H':=A_ H
                  clear H;obtain⟨kI,il,iB⟩:=Kd.mU al.o;subst iB
                  have fN:0≤((bz):Int):=oa_
                  have fZ:(bz)<(an.length:Int):=oa_
                  obtain⟨kP,jP,eC⟩:=Kd.nM (Kd.mX al.o).2.2 (bz) fN fZ
                  cases jP
                  replace fN:=eq_true fN;replace fZ:=eq_true fZ
                  have fH:0≤((bz):Int):=oa_
                  have fT:((bz):Int)<((an.length:Int):Int):=oa_
                  obtain⟨dU,lg,eS,eX,qY,GQ,j3⟩:=Kd.sj al.o om
                  (first|cases eS|(injection eS with U dY eu;(first|subst U|(injection U with U;subst U));subst eu;clear dY))
                  have qZ:=A_ eX;have GR:=A_ j3;clear eX qY j3
                  (first|simp only[add_plain]at eC|skip)
                  obtain⟨jp,jd⟩:=Kd.rF 0 al.o ((bz):Int) fH fT;replace fH:=eq_true fH;replace fT:=eq_true fT;have dP:=Kd.uo al.o ((bz):Int) (wrap64 ((rd an (bz))+1))
                  go_wp2_with (first|((with_reducible refine qz (t:=3) (p:=135) rfl ?_);refine qa (t:=3) (p:=135) (w1:=(wc.setCell ⟨dU,((bz):Int).toNat,none⟩ (.int .i64 (wrap64 ((rd an (bz))+1))))) rfl rfl rfl (by go_simp;done) ?_;intro qx hw;have hg:wc.grownBy qx (some dU):=(by rw[hw];exact dP.2);have J:Kd.R (Kd.int .i64) 3 qx w.heap.size (o3 ab aa ae) (.slice (some ⟨dU,0,none⟩) an.length il) gd:=(by rw[hw,gN.o];exact dP.1);clear dP;replace aD:=sB_ (ok:=(o4 (.slice (some bf) ag.length aU) ab aa ae)) J aD (fun _ hk=>⟨⟨hk.2.1,⟨hk.2.2.1,⟨hk.2.2.2.1,hk.2.2.2.2⟩⟩⟩,hk.1⟩) hg;replace ah:=sB_ (ok:=(o4 u12 ab aa ae)) J ah (fun _ hk=>⟨⟨hk.1,⟨hk.2.2.1,⟨hk.2.2.2.1,hk.2.2.2.2⟩⟩⟩,hk.2.1⟩) hg;replace af:=rB_ (ok:=(o2 aa ae)) J af (fun _ hk=>⟨⟨hk.2.1,hk.2.2⟩,hk.1⟩) hg;replace aj:=rB_ (ok:=(o2 ab ae)) J aj (fun _ hk=>⟨⟨hk.2.1,hk.2.2⟩,hk.1⟩) hg;replace ak:=rB_ (ok:=(o5 u12 (.slice (some bf) ag.length aU) ab aa ae)) J ak (fun _ hk=>⟨⟨hk.1,⟨hk.2.2.1,⟨hk.2.2.2.1,⟨hk.2.2.2.2.1,hk.2.2.2.2.2⟩⟩⟩⟩,hk.2.1⟩) hg;replace ai:=rB_ (ok:=(o2 ab aa)) J ai (fun _ hk=>⟨⟨hk.2.1,hk.2.2⟩,hk.1⟩) hg;replace aq:=gR_ al aq hg;replace ap:=gR_ al ap hg;replace ao:=gR_ al ao hg;replace ar:=gR_ al ar hg;replace al:=A_ (J);replace HB:=A_ ((by rw[hw];exact mY (HB.o) qZ.o:Below w.heap.size w qx));clear hg hw J))
                  (try subst br)
                  (try subst bK)
                  (try subst bX)
                  (try subst db)
                  go_roundg aZ
                  case measure=>have:=b3.o;have:=b4.o;have:=cf.o;have:=cg.o;have:=ck.o;have:=bO.o;omega
                  case rel=>exact⟨(gd),(wrap64 (am+1)),rf,H',⟨by have:=b3.o;have:=b4.o;have:=cf.o;have:=cg.o;have:=ck.o;have:=bO.o;omega⟩,⟨by exact Kd.nV aD.o (fun _ hk=>⟨hk.2,⟨hk.1.1,⟨hk.1.2.1,⟨hk.1.2.2.1,hk.1.2.2.2⟩⟩⟩⟩)⟩,al,⟨by exact Kd.nV ah.o (fun _ hk=>⟨hk.1.1,⟨hk.2,⟨hk.1.2.1,⟨hk.1.2.2.1,hk.1.2.2.2⟩⟩⟩⟩)⟩,⟨by exact Kd.mM af.o (fun _ hk=>⟨hk.2,⟨hk.1.1,hk.1.2⟩⟩)⟩,⟨by exact Kd.mM aj.o (fun _ hk=>⟨hk.2,⟨hk.1.1,hk.1.2⟩⟩)⟩,⟨by exact Kd.mM ak.o (fun _ hk=>⟨hk.1.1,⟨hk.2,⟨hk.1.2.1,⟨hk.1.2.2.1,⟨hk.1.2.2.2.1,hk.1.2.2.2.2⟩⟩⟩⟩⟩)⟩,⟨by exact Kd.mM ai.o (fun _ hk=>⟨hk.2,⟨hk.1.1,hk.1.2⟩⟩)⟩,aq,ap,ao,ar,HB⟩
                 have fq:decide ((ag.length:Int)≤aG)=false:=decide_eq_false c152
                 clear c152
                 have H':=A_ H
                 clear H
                 go_wp2
                 (try subst br)
                 (try subst bK)
                 (try subst bX)
                 go_roundg aZ
                 case measure=>have:=b3.o;have:=b4.o;have:=cf.o;have:=cg.o;have:=ck.o;have:=bO.o;omega
                 case rel=>exact⟨(an),(wrap64 (am+1)),rf,H',⟨by have:=b3.o;have:=b4.o;have:=cf.o;have:=cg.o;have:=ck.o;have:=bO.o;omega⟩,aD,al,ah,af,aj,ak,ai,aq,ap,ao,ar,HB⟩
                replace H:=Hj_ H;rcases H with⟨c160,H⟩|⟨c160,H⟩
                ·have fs:decide ((ag.length:Int)≤aG)=true:=decide_eq_true c160
                 clear c160;obtain⟨bA,dd⟩:∃j_:Int,(wrap64 ((ag.length:Int)+(rd (f_ ag (az)) am)))=j_:=⟨_,rfl⟩;replace H:(if 0≤(bA)then(if(bA)<(an.length:Int)then(mJ.l3 aZ (ag.length:Int) aQ aX aG (an.set ((bA):Int).toNat (wrap64 ((rd an (bA))+1))) (wrap64 (am+1)) aA ag av aA aw au ax)else(none))else(none))=some (r1,r2,r3,r4,r5):=by first|(rw[dd]at H;exact H)|(simp only[dd]at H⊢;exact H)
                 have jk:(IntKind.i64.wrap ((ag.length:Int)+(rd (f_ ag (az)) am)))=bA:=(uD _).trans dd
                 replace ⟨jG,H⟩:=Hd_ H
                 replace ⟨jH,H⟩:=Hd_ H
                 obtain⟨gf,ei⟩:=ex_ ((an.set ((bA):Int).toNat (wrap64 ((rd an (bA))+1))):List Int);rw[←ei]at H;have gT:=A_ ei;clear ei
                 have H':=A_ H
                 clear H;obtain⟨kJ,im,iC⟩:=Kd.mU al.o;subst iC
                 have fO:0≤((bA):Int):=oa_
                 have f6:(bA)<(an.length:Int):=oa_
                 obtain⟨kQ,jQ,eD⟩:=Kd.nM (Kd.mX al.o).2.2 (bA) fO f6
                 cases jQ
                 replace fO:=eq_true fO;replace f6:=eq_true f6
                 have fI:0≤((bA):Int):=oa_
                 have fU:((bA):Int)<((an.length:Int):Int):=oa_
                 obtain⟨dV,lh,eU,eY,q8,Hd,kR⟩:=Kd.sj al.o om
                 (first|cases eU|(injection eU with U dY eu;(first|subst U|(injection U with U;subst U));subst eu;clear dY))
                 have q9:=A_ eY;have HV:=A_ kR;clear eY q8 kR
                 (first|simp only[add_plain]at eD|skip)
                 obtain⟨jq,je⟩:=Kd.rF 0 al.o ((bA):Int) fI fU;replace fI:=eq_true fI;replace fU:=eq_true fU;have dQ:=Kd.uo al.o ((bA):Int) (wrap64 ((rd an (bA))+1))
                 go_wp2_with (first|((with_reducible refine qz (t:=3) (p:=135) rfl ?_);refine qa (t:=3) (p:=135) (w1:=(wc.setCell ⟨dV,((bA):Int).toNat,none⟩ (.int .i64 (wrap64 ((rd an (bA))+1))))) rfl rfl rfl (by go_simp;done) ?_;intro qy hw;have hg:wc.grownBy qy (some dV):=(by rw[hw];exact dQ.2);have J:Kd.R (Kd.int .i64) 3 qy w.heap.size (o3 ab aa ae) (.slice (some ⟨dV,0,none⟩) an.length im) gf:=(by rw[hw,gT.o];exact dQ.1);clear dQ;replace aD:=sB_ (ok:=(o4 (.slice (some bf) ag.length aU) ab aa ae)) J aD (fun _ hk=>⟨⟨hk.2.1,⟨hk.2.2.1,⟨hk.2.2.2.1,hk.2.2.2.2⟩⟩⟩,hk.1⟩) hg;replace ah:=sB_ (ok:=(o4 u12 ab aa ae)) J ah (fun _ hk=>⟨⟨hk.1,⟨hk.2.2.1,⟨hk.2.2.2.1,hk.2.2.2.2⟩⟩⟩,hk.2.1⟩) hg;replace af:=rB_ (ok:=(o2 aa ae)) J af (fun _ hk=>⟨⟨hk.2.1,hk.2.2⟩,hk.1⟩) hg;replace aj:=rB_ (ok:=(o2 ab ae)) J aj (fun _ hk=>⟨⟨hk.2.1,hk.2.2⟩,hk.1⟩) hg;replace ak:=rB_ (ok:=(o5 u12 (.slice (some bf) ag.length aU) ab aa ae)) J ak (fun _ hk=>⟨⟨hk.1,⟨hk.2.2.1,⟨hk.2.2.2.1,⟨hk.2.2.2.2.1,hk.2.2.2.2.2⟩⟩⟩⟩,hk.2.1⟩) hg;replace ai:=rB_ (ok:=(o2 ab aa)) J ai (fun _ hk=>⟨⟨hk.2.1,hk.2.2⟩,hk.1⟩) hg;replace aq:=gR_ al aq hg;replace ap:=gR_ al ap hg;replace ao:=gR_ al ao hg;replace ar:=gR_ al ar hg;replace al:=A_ (J);replace HB:=A_ ((by rw[hw];exact mY (HB.o) q9.o:Below w.heap.size w qy));clear hg hw J))
                 (try subst br)
                 (try subst bK)
                 (try subst bX)
                 (try subst dd)
                 go_roundg aZ
                 case measure=>have:=b3.o;have:=b4.o;have:=cf.o;have:=cg.o;have:=ck.o;have:=bO.o;omega
                 case rel=>exact⟨(gf),(wrap64 (am+1)),rf,H',⟨by have:=b3.o;have:=b4.o;have:=cf.o;have:=cg.o;have:=ck.o;have:=bO.o;omega⟩,⟨by exact Kd.nV aD.o (fun _ hk=>⟨hk.2,⟨hk.1.1,⟨hk.1.2.1,⟨hk.1.2.2.1,hk.1.2.2.2⟩⟩⟩⟩)⟩,al,⟨by exact Kd.nV ah.o (fun _ hk=>⟨hk.1.1,⟨hk.2,⟨hk.1.2.1,⟨hk.1.2.2.1,hk.1.2.2.2⟩⟩⟩⟩)⟩,⟨by exact Kd.mM af.o (fun _ hk=>⟨hk.2,⟨hk.1.1,hk.1.2⟩⟩)⟩,⟨by exact Kd.mM aj.o (fun _ hk=>⟨hk.2,⟨hk.1.1,hk.1.2⟩⟩)⟩,⟨by exact Kd.mM ak.o (fun _ hk=>⟨hk.1.1,⟨hk.2,⟨hk.1.2.1,⟨hk.1.2.2.1,⟨hk.1.2.2.2.1,hk.1.2.2.2.2⟩⟩⟩⟩⟩)⟩,⟨by exact Kd.mM ai.o (fun _ hk=>⟨hk.2,⟨hk.1.1,hk.1.2⟩⟩)⟩,aq,ap,ao,ar,HB⟩
                have fs:decide ((ag.length:Int)≤aG)=false:=decide_eq_false c160
                clear c160
                have H':=A_ H
                clear H
                go_wp2
                (try subst br)
                (try subst bK)
                (try subst bX)
                go_roundg aZ
                case measure=>have:=b3.o;have:=b4.o;have:=cf.o;have:=cg.o;have:=ck.o;have:=bO.o;omega
                case rel=>exact⟨(an),(wrap64 (am+1)),rf,H',⟨by have:=b3.o;have:=b4.o;have:=cf.o;have:=cg.o;have:=ck.o;have:=bO.o;omega⟩,aD,al,ah,af,aj,ak,ai,aq,ap,ao,ar,HB⟩
             replace ⟨fg,H⟩:=Ha_ H
             obtain⟨iY,d9⟩:=ex_ ((aX++[an]):List (List Int));rw[←d9]at H;have gH:=A_ d9;clear d9
             have H':=A_ H
             clear H;have jZ:=bm.o;have kg:=aW.o;have j1:=bh.o;have kh:=aT.o;have j4:=ay.o;have ki:=bc.o;have iP:=bq3 ao.o;obtain⟨dw,dz,iD⟩:=Kd.mU al.o;subst iD
             go_wp2_with (first|((with_reducible refine nG (b:=.append) (xs:= #[.tmp 136,.tmp 138]) rfl ?_);at_builtin;refine Kd.uq (Kd.slice 3 (Kd.int .i64)) (w0:=w) w.heap.size rfl (.tmp 136) (.tmp 138) 24 25 (.slice none 0 0) 24 rfl Try.underlying24 uO rfl d_ om u12 aX an [.slice dw an.length dz] (o4 (.slice bD ag.length aU) ab aa ae) (fun k_=>some k_=(.slice dw an.length dz:Value).ownBlock) rfl rfl ?aP (fun k_ LX=>((Kd.mM (ok':=fun k_=>((o4 (.slice bD ag.length aU) ab aa ae)) k_∧some k_≠(u12:Value).ownBlock) (Kd.pE (Kd.pE (al.o) (Kd.oL ah.o) d_) (Kd.oL aD.o) d_) (fun k_ hk=>⟨⟨hk.1.2,⟨hk.1.1.1,⟨hk.1.1.2.1,hk.1.1.2.2⟩⟩⟩,hk.2⟩))).1 k_ LX.symm) ?aF ?aO ?aB ?aS ?aL ?_;(case aP=>exact Kd.uR (Kd.mM (Kd.sD rfl (Kd.mM (ok':=fun k_=>((o4 (.slice bD ag.length aU) ab aa ae)) k_∧some k_≠(u12:Value).ownBlock) (Kd.pE (Kd.pE (al.o) (Kd.oL ah.o) d_) (Kd.oL aD.o) d_) (fun k_ hk=>⟨⟨hk.1.2,⟨hk.1.1.1,⟨hk.1.1.2.1,hk.1.1.2.2⟩⟩⟩,hk.2⟩))) (fun _ h_=>h_)));(case aB=>exact HB.o);(case aF=>exact(fun k_ hk=>⟨Kd.fresh' (Kd.MR ah.o) k_ hk,Kd.fresh' (Kd.oV af.o) k_ hk,Kd.fresh' (Kd.oV aj.o) k_ hk,Kd.fresh' (Kd.oV ai.o) k_ hk⟩));(case aO=>exact(by exact Kd.nV aD.o (fun k_ hk=>⟨⟨hk.2.1,⟨hk.2.2.1,⟨hk.2.2.2.1,hk.2.2.2.2⟩⟩⟩,fun e_=>hk.1 e_⟩)));(case aS=>exact(mK HB.o));(case aL=>have:=fg.o;omega);intro mH LY ho hb hg hat;rw[←gH.o]at ho;replace ah:=A_ (Kd.sF (ok:=(o4 (.slice dw an.length dz) ab aa ae)) (by exact Kd.nV ah.o (fun _ hk=>⟨⟨hk.2.1,⟨hk.2.2.1,⟨hk.2.2.2.1,hk.2.2.2.2⟩⟩⟩,hk.1⟩)) hg hat);replace af:=A_ (Kd.qH af.o (Kd.oL aD.o) d_ hg);replace aj:=A_ (Kd.qH aj.o (Kd.oL aD.o) d_ hg);replace ak:=A_ (Kd.pq (ok:=(o5 (.slice dw an.length dz) (.slice bD ag.length aU) ab aa ae)) (by exact Kd.mM ak.o (fun _ hk=>⟨⟨hk.2.1,⟨hk.2.2.1,⟨hk.2.2.2.1,⟨hk.2.2.2.2.1,hk.2.2.2.2.2⟩⟩⟩⟩,hk.1⟩)) hg hat);replace ai:=A_ (Kd.qH ai.o (Kd.oL aD.o) d_ hg);replace aq:=gS_ aD aq hg;replace ap:=gS_ aD ap hg;replace ao:=gS_ aD ao hg;replace ar:=gS_ aD ar hg;replace HB:=A_ (hb);have gp:=A_ (ho);clear aD al;clear ho hb hg hat))
             (try subst br)
             (try subst bK)
             go_roundg k5
             case measure=>have:=b3.o;have:=b4.o;have:=cf.o;have:=cg.o;have:=ck.o;omega
             case rel=>exact⟨(iY),(wrap64 (aG+1)),(av),(aw),(ax),(ab),(aa),(ae),rf,H',⟨by have:=b3.o;have:=b4.o;have:=cf.o;have:=cg.o;have:=ck.o;omega⟩,gp,⟨by exact Kd.nV ah.o (fun _ hk=>⟨hk.2,⟨hk.1.2.1,⟨hk.1.2.2.1,hk.1.2.2.2⟩⟩⟩)⟩,⟨by exact Kd.mM af.o (fun _ hk=>⟨hk.2.1,hk.2.2⟩)⟩,⟨by exact Kd.mM aj.o (fun _ hk=>⟨hk.2.1,hk.2.2⟩)⟩,⟨by exact Kd.mM ak.o (fun _ hk=>⟨hk.2,⟨hk.1.2.1,⟨hk.1.2.2.1,⟨hk.1.2.2.2.1,hk.1.2.2.2.2⟩⟩⟩⟩)⟩,⟨by exact Kd.mM ai.o (fun _ hk=>⟨hk.2.1,hk.2.2⟩)⟩,aq,ap,ao,ar,HB⟩
          replace ⟨fh,H⟩:=Ha_ H
          obtain⟨dq,d7⟩:=ex_ ((au++[aX]):List (List (List Int)));rw[←d7]at H;have gF:=A_ d7;clear d7
          have H':=A_ H
          clear H;have j6:=bn.o;have kj:=aY.o;have j7:=bq.o;have kl:=a7.o;have j8:=bc.o;have km:=ay.o;have iQ:=bq4 ar.o;obtain⟨gg,io,iE⟩:=Kd.rO aD.o;subst iE
          go_wp2_with (first|((with_reducible refine nG (b:=.append) (xs:= #[.tmp 141,.tmp 143]) rfl ?_);at_builtin;refine Kd.qG (Kd.slice 25 (Kd.slice 3 (Kd.int .i64))) (w0:=w) w.heap.size rfl (.tmp 141) (.tmp 143) 31 24 (.slice none 0 0) 24 rfl Try.underlying31 Ef rfl d_ om bC au aX [.slice gg aX.length io] (o4 (.slice bD ag.length aU) ab aa ae) (fun k_=>((o4 (.slice bD ag.length aU) ab aa ae)) k_∧some k_≠(bC:Value).ownBlock) rfl rfl ?aP (fun _ hk=>hk) ?aF ?aO ?aB ?aS ?aL ?_;(case aP=>exact Kd.uR (Kd.mM (Kd.pE ((Kd.S_R aD.o)) (Kd.tu ak.o) d_) (fun k_ hk=>⟨⟨hk.1.1,⟨hk.1.2.1,⟨hk.1.2.2.1,hk.1.2.2.2⟩⟩⟩,hk.2⟩)));(case aB=>exact HB.o);(case aF=>exact(fun k_ hk=>⟨Kd.fresh' (Kd.MR ah.o) k_ hk,Kd.fresh' (Kd.oV af.o) k_ hk,Kd.fresh' (Kd.oV aj.o) k_ hk,Kd.fresh' (Kd.oV ai.o) k_ hk⟩));(case aO=>exact(by exact Kd.mM ak.o (fun _ hk=>⟨hk.2.1,⟨hk.2.2.1,⟨hk.2.2.2.1,hk.2.2.2.2⟩⟩⟩)));(case aS=>exact(mK HB.o));(case aL=>have:=fh.o;omega);intro mG LZ ho hb hg hat;rw[←gF.o]at ho;replace ah:=A_ (Kd.Nh ah.o (Kd.tu ak.o) d_ hg);replace af:=A_ (Kd.qH af.o (Kd.tu ak.o) d_ hg);replace aj:=A_ (Kd.qH aj.o (Kd.tu ak.o) d_ hg);replace ai:=A_ (Kd.qH ai.o (Kd.tu ak.o) d_ hg);replace aq:=gR_ ak aq hg;replace ap:=gR_ ak ap hg;replace ao:=gR_ ak ao hg;replace ar:=gR_ ak ar hg;replace HB:=A_ (hb);have eI:=A_ (ho);clear ak aD;clear ho hb hg hat;obtain⟨cN,cV,iF⟩:=Kd.mU eI.o;subst iF;have iR:=bq4 ar.o))
          (try subst br)
          go_roundg k4
          case measure=>have:=b3.o;have:=b4.o;have:=cf.o;have:=cg.o;omega
          case rel=>exact⟨(wrap64 (aQ+1)),(av),(aw),(dq),(ax),(ab),(aa),(.slice cN dq.length cV),(ae),rf,H',⟨by have:=b3.o;have:=b4.o;have:=cf.o;have:=cg.o;omega⟩,⟨by exact Kd.nV (Kd.vW (p:=⟨a8,2,none⟩) (Kd.wR ah.o ar.o d_) (fun _ hk=>hk.2) (.slice cN dq.length cV)) (fun _ hk=>⟨hk.1.2.1,⟨hk.1.2.2.1,hk.1.2.2.2⟩⟩)⟩,⟨by exact Kd.mM (Kd.sM (p:=⟨a8,2,none⟩) (Kd.qi af.o ar.o d_) (fun _ hk=>hk.2) (.slice cN dq.length cV)) (fun _ hk=>⟨hk.1.1,hk.1.2⟩)⟩,⟨by exact Kd.mM (Kd.sM (p:=⟨a8,2,none⟩) (Kd.qi aj.o ar.o d_) (fun _ hk=>hk.2) (.slice cN dq.length cV)) (fun _ hk=>⟨hk.1.1,hk.1.2⟩)⟩,⟨by exact Kd.mM (Kd.sM (p:=⟨a8,2,none⟩) (Kd.qi eI.o ar.o d_) (fun _ hk=>hk.2) (.slice cN dq.length cV)) (fun _ hk=>⟨hk.1.1,⟨hk.1.2.1,⟨hk.1.2.2.1,hk.1.2.2.2⟩⟩⟩)⟩,⟨by exact Kd.mM (Kd.sM (p:=⟨a8,2,none⟩) (Kd.qi ai.o ar.o d_) (fun _ hk=>hk.2) (.slice cN dq.length cV)) (fun _ hk=>⟨hk.1.1,hk.1.2⟩)⟩,⟨by exact fa_ aY aq.o⟩,⟨by exact fa_ a7 ap.o⟩,⟨by exact fa_ ay ao.o⟩,⟨by exact pu_ 2 ar.o rfl⟩,⟨wb_⟩⟩
       simp only[Option.some.injEq,Prod.mk.injEq]at H;obtain⟨rfl,rfl,rfl,rfl,rfl⟩:=H;have j9:=bm.o;have kn:=aW.o;have ka:=bh.o;have ko:=aT.o;have kc:=ay.o;have kr:=bc.o;have iS:=bq3 ao.o;have kd:=bn.o;have kt:=aY.o;have ke:=bq.o;have ku:=a7.o;have iT:=bq4 ar.o;have kf:=cd.o;have kv:=cc.o;have iU:=bq4 ap.o;obtain⟨gh,ip,iG⟩:=Kd.mU aj.o;subst iG;obtain⟨gi,iq,iH⟩:=Kd.mU ak.o;subst iH;obtain⟨gj,ir,iI⟩:=Kd.mU ai.o;subst iI
       go_wp2
       refine rt_ #[.int .i64 aA,.slice gh bH.length ip,.slice gi au.length iq,.slice gj bI.length ir] (by exact pu_ 3 (pu_ 2 (pu_ 1 (pu_ 0 ap.o rfl) rfl) rfl) rfl) Try.underlying33 ?_;exact⟨_,_,_,by first|rfl|(simp[xC,xA]<;>rfl)|(simp only[←br];first|rfl|(simp[xC,xA]<;>rfl))|(simp[*,xC,xA]<;>rfl),by exact Kd.mM (wT (tR_ aj ap)) (fun _ hk=>hk.1.2),by exact Kd.mM (wT (tR_ ak ap)) (fun _ hk=>⟨hk.1.2.2.1,hk.1.2.2.2⟩),by exact Kd.mM (wT (tR_ ai ap)) (fun _ hk=>hk.1.2),wb_⟩
def rD.f (k:Nat) (af:Int) (aa:List (List Int)) (ab:List Int) (a1:Int) (a2:Int):Option (Int):=(mJ.f k af aa ab a1).bind fun U=>(if U.2.2.2.2=true then(if a2<0 then(some (-1))else((oI.f k af 16).bind fun bj=>(if a2≥bj then(some (-1))else((mP.f k U.1 U.2.1 U.2.2.1 U.2.2.2.1 a2).bind fun b8=>(some b8)))))else(some (-1)))
theorem rD.calls (k:Nat) (af:Int) (ap:Option Addr) (ar:Nat) (aa:List (List Int)) (av:Option Addr) (au:Nat) (ab:List Int) (a1:Int) (a2:Int) (r:Int) (w:World) (aD:Kd.C (Kd.slice 3 (Kd.int .i64)) w ap aa.length aa) (aA:aa.length≤ar) (aE:Kd.C (Kd.int .i64) w av ab.length ab) (aC:ab.length≤au) (h:rD.f k af aa ab a1 a2=some r):
  Calls Try.prog 7 #[.agg #[.int .i64 af,.slice ap aa.length ar,.slice av ab.length au],.int .i64 a1,.int .i64 a2] w fun e w'=>e=.returned (.int .i64 r)∧Below w.heap.size w w':=by
 have aB:=Try.underlying27;have d_:=Try.underlying33;have aw:=A_ aD;have ay:=A_ aA;clear aD aA;have ax:=A_ aE;have az:=A_ aC;clear aE aC;have HB:=A_ (Below.refl w.heap.size w);unfold rD.f at h;have H:=h;clear h;replace ⟨⟨bi,aY,bf,a7,dt⟩,A4,H⟩:=bA_ H;dsimp only at H
 replace H:=Hb_ H;rcases H with⟨rfl,H⟩|⟨rfl,H⟩
 ·replace H:=Hi_ H;rcases H with⟨bD,H⟩|⟨bD,H⟩
  ·obtain rfl:=Option.some.inj H;go_enter Try.func7,Try.ntmps7
   go_wp2_with (first|((with_reducible refine gt_ 3 ?_);refine be_ 3 #[.int .i64 af,.slice ap aa.length ar,.slice av ab.length au] 27 ?_;intro bn hg w7 J hb;have ae:=A_ (J);have bA:=lh_ HB hg;have aT:=lh_ HB hg;replace HB:=bs_ HB hb;clear hb J hg;have dp:=bq3 ae.o)|((with_reducible refine gc_ 11 rfl ?_);refine cM_ E11 12 (mJ.calls k af _ _ aa _ _ ab a1 bi aY bf a7 true _ (Kd.mO aw.o HB.o) ay.o (Kd.mO ax.o HB.o) az.o A4.o) ?_;rintro e w9 ⟨cd,cf,cg,rfl,ho0,ho1,ho2,hb⟩;refine⟨_,rfl,?_⟩;have aj:=A_ (Kd.nE ho0 (mK HB.o));have ak:=A_ (Kd.nE ho1 (mK HB.o));have al:=A_ (Kd.nE ho2 (mK HB.o));replace ae:=bb_ ae hb;replace HB:=bs_ HB hb;clear hb ho0 ho1;(try clear ho2))|((with_reducible refine gt_ 7 ?_);refine be_ 7 #[.int .i64 0,.slice none 0 0,.slice none 0 0,.slice none 0 0] 33 ?_;intro bq hg eu J hb;replace aj:=A_ (Kd.nX aj.o hb);replace ak:=A_ (Kd.nX ak.o hb);replace al:=A_ (Kd.nX al.o hb);have aq:=A_ (J);have bB:=lh_ HB hg;have aU:=lh_ HB hg;replace HB:=bs_ HB hb;have ag:=nl_ ae hg;have am:=ng_ ae hg;replace ae:=bb_ ae hb;clear hb J hg;have dG:=am.o;have dK:=ag.o;have cH:=bq4 aq.o;obtain⟨dQ,d6,da⟩:=Kd.mU aj.o;subst da;obtain⟨dR,d7,db⟩:=Kd.mU ak.o;subst db;obtain⟨dS,d8,dd⟩:=Kd.mU al.o;subst dd))
   go_ret
   exact⟨rf,wb_⟩
  replace ⟨bj,a_,H⟩:=bA_ H
  replace H:=Hj_ H;rcases H with⟨c17,H⟩|⟨c17,H⟩
  ·have cA:decide (bj≤a2)=true:=decide_eq_true c17
   clear c17;obtain rfl:=Option.some.inj H;go_enter Try.func7,Try.ntmps7
   go_wp2_with (first|((with_reducible refine gt_ 3 ?_);refine be_ 3 #[.int .i64 af,.slice ap aa.length ar,.slice av ab.length au] 27 ?_;intro bn hg eQ J hb;have ae:=A_ (J);have bA:=lh_ HB hg;have aT:=lh_ HB hg;replace HB:=bs_ HB hb;clear hb J hg;have bM:=bq3 ae.o)|((with_reducible refine gc_ 11 rfl ?_);refine cM_ E11 12 (mJ.calls k af _ _ aa _ _ ab a1 bi aY bf a7 true _ (Kd.mO aw.o HB.o) ay.o (Kd.mO ax.o HB.o) az.o A4.o) ?_;rintro e eB ⟨cd,cf,cg,rfl,ho0,ho1,ho2,hb⟩;refine⟨_,rfl,?_⟩;have aj:=A_ (Kd.nE ho0 (mK HB.o));have ak:=A_ (Kd.nE ho1 (mK HB.o));have al:=A_ (Kd.nE ho2 (mK HB.o));replace ae:=bb_ ae hb;replace HB:=bs_ HB hb;clear hb ho0 ho1;(try clear ho2))|((with_reducible refine gt_ 7 ?_);refine be_ 7 #[.int .i64 0,.slice none 0 0,.slice none 0 0,.slice none 0 0] 33 ?_;intro bq hg eT J hb;replace aj:=A_ (Kd.nX aj.o hb);replace ak:=A_ (Kd.nX ak.o hb);replace al:=A_ (Kd.nX al.o hb);have aq:=A_ (J);have bB:=lh_ HB hg;have aU:=lh_ HB hg;replace HB:=bs_ HB hb;have ag:=nl_ ae hg;have am:=ng_ ae hg;replace ae:=bb_ ae hb;clear hb J hg;have dH:=am.o;have dL:=ag.o;have cJ:=bq4 aq.o;obtain⟨dT,d9,de⟩:=Kd.mU aj.o;subst de;obtain⟨dU,eb,df⟩:=Kd.mU ak.o;subst df;obtain⟨dV,ec,dg⟩:=Kd.mU al.o;subst dg;have cK:=bq3 ae.o)|(go_at_call 29;(with_reducible refine(oI.calls k af 16 bj _ a_.o).mono ?_);rintro e w' ⟨rfl,⟨nd,rfl⟩⟩))
   go_ret
   exact⟨rf,wb_⟩
  have cA:decide (bj≤a2)=false:=decide_eq_false c17
  clear c17;replace ⟨b8,eD,H⟩:=bA_ H;obtain rfl:=Option.some.inj H;go_enter Try.func7,Try.ntmps7
  go_wp2_with (first|((with_reducible refine gt_ 3 ?_);refine be_ 3 #[.int .i64 af,.slice ap aa.length ar,.slice av ab.length au] 27 ?_;intro bn hg eU J hb;have ae:=A_ (J);have bA:=lh_ HB hg;have aT:=lh_ HB hg;replace HB:=bs_ HB hb;clear hb J hg;have cL:=bq3 ae.o)|((with_reducible refine gc_ 11 rfl ?_);refine cM_ E11 12 (mJ.calls k af _ _ aa _ _ ab a1 bi aY bf a7 true _ (Kd.mO aw.o HB.o) ay.o (Kd.mO ax.o HB.o) az.o A4.o) ?_;rintro e eX ⟨cd,cf,cg,rfl,ho0,ho1,ho2,hb⟩;refine⟨_,rfl,?_⟩;have aj:=A_ (Kd.nE ho0 (mK HB.o));have ak:=A_ (Kd.nE ho1 (mK HB.o));have al:=A_ (Kd.nE ho2 (mK HB.o));replace ae:=bb_ ae hb;replace HB:=bs_ HB hb;clear hb ho0 ho1;(try clear ho2))|((with_reducible refine gt_ 7 ?_);refine be_ 7 #[.int .i64 0,.slice none 0 0,.slice none 0 0,.slice none 0 0] 33 ?_;intro bq hg w32 J hb;replace aj:=A_ (Kd.nX aj.o hb);replace ak:=A_ (Kd.nX ak.o hb);replace al:=A_ (Kd.nX al.o hb);have aq:=A_ (J);have bB:=lh_ HB hg;have aU:=lh_ HB hg;replace HB:=bs_ HB hb;have ag:=nl_ ae hg;have am:=ng_ ae hg;replace ae:=bb_ ae hb;clear hb J hg;have dI:=am.o;have dM:=ag.o;have cN:=bq4 aq.o;obtain⟨bI,bE,dh⟩:=Kd.mU aj.o;subst dh;obtain⟨ci,bX,di⟩:=Kd.mU ak.o;subst di;obtain⟨bJ,bF,dj⟩:=Kd.mU al.o;subst dj;have cO:=bq3 ae.o)|(go_at_call 29;(with_reducible refine(oI.calls k af 16 bj _ a_.o).mono ?_);rintro e w' ⟨rfl,⟨nd,rfl⟩⟩)|((with_reducible refine xV (f:=19) rfl ?_);refine Dw (some 30) rfl rfl Try.func19 K_ rfl #[.agg #[.int .i64 bi,.slice bI aY.length bE,.slice ci bf.length bX,.slice bJ a7.length bF],.int .i64 a2] rfl (by simp only[mA,mB,mC];rfl) ?_;(with_reducible refine(mP.calls k bi _ _ aY _ _ bf _ _ a7 a2 b8 _ ?aF ?aK ?aL ?aO ?aP ?aR eD.o).mono ?_);(case aF=>refine(Kd.mX (e:=3) (base:=w.heap.size) (ok:=fun k_=>some k_≠(.slice bJ a7.length bF:Value).ownBlock) (n:=aY.length) (c:=bE) ?_).2.2;exact(by(with_reducible repeat (first|apply Kd.R_alloc|apply Kd.uP|apply Kd.pR));exact(Kd.mM (wT (tR_ aj aq)) (fun _ h_=>h_.1))));(case aK=>exact(Kd.mX aj.o).2.1);(case aL=>refine(Kd.mX (e:=24) (base:=w.heap.size) (ok:=fun k_=>(some k_≠(.slice bI aY.length bE:Value).ownBlock∧some k_≠(.slice bJ a7.length bF:Value).ownBlock)) (n:=bf.length) (c:=bX) ?_).2.2;exact(by(with_reducible repeat (first|apply Kd.R_alloc|apply Kd.uP|apply Kd.pR));exact(Kd.mM (wT (tR_ ak aq)) (fun _ h_=>h_.1))));(case aO=>exact(Kd.mX ak.o).2.1);(case aP=>refine(Kd.mX (e:=3) (base:=w.heap.size) (ok:=fun k_=>some k_≠(.slice bI aY.length bE:Value).ownBlock) (n:=a7.length) (c:=bF) ?_).2.2;exact(by(with_reducible repeat (first|apply Kd.R_alloc|apply Kd.uP|apply Kd.pR));exact(Kd.mM (wT (tR_ al aq)) (fun _ h_=>h_.1))));(case aR=>exact(Kd.mX al.o).2.1);rintro e eY ⟨rfl,hb⟩;refine⟨_,rfl,?_⟩;replace aj:=A_ (Kd.nX (by(with_reducible repeat (first|apply Kd.R_alloc|apply Kd.uP|apply Kd.pR));exact(Kd.mM (wT (tR_ aj aq)) (fun _ h_=>h_.1))) hb);replace ak:=A_ (Kd.nX (by(with_reducible repeat (first|apply Kd.R_alloc|apply Kd.uP|apply Kd.pR));exact(Kd.mM (wT (tR_ ak aq)) (fun _ h_=>h_.1))) hb);replace al:=A_ (Kd.nX (by(with_reducible repeat (first|apply Kd.R_alloc|apply Kd.uP|apply Kd.pR));exact(Kd.mM (wT (tR_ al aq)) (fun _ h_=>h_.1))) hb);replace ae:=A_ (pg (g:=bn) (o:=.cells #[.int .i64 af,.slice ap aa.length ar,.slice av ab.length au] 27 (0,0)) (by(with_reducible repeat (first|refine tZ ?_ _|refine nQ ?_|refine nP ?_ _));exact fa_ ag (fa_ ag (fa_ ag (fa_ ag ae.o)))) hb);replace aq:=A_ (pg (g:=bq) (o:=.cells #[.int .i64 bi,.slice bI aY.length bE,.slice ci bf.length bX,.slice bJ a7.length bF] 33 (0,0)) (by(with_reducible repeat (first|refine tZ ?_ _|refine nQ ?_|refine nP ?_ _));exact pu_ 3 (pu_ 2 (pu_ 1 (pu_ 0 aq.o rfl) rfl) rfl) rfl) hb);replace HB:=A_ (nZ wb_ hb);clear hb;(try clear hi)))
  go_ret
  exact⟨rf,HB.o⟩
 obtain rfl:=Option.some.inj H;go_enter Try.func7,Try.ntmps7
 go_wp2_with (first|((with_reducible refine gt_ 3 ?_);refine be_ 3 #[.int .i64 af,.slice ap aa.length ar,.slice av ab.length au] 27 ?_;intro bn hg eZ J hb;have ae:=A_ (J);have bA:=lh_ HB hg;have aT:=lh_ HB hg;replace HB:=bs_ HB hb;clear hb J hg;have cP:=bq3 ae.o)|((with_reducible refine gc_ 11 rfl ?_);refine cM_ E11 12 (mJ.calls k af _ _ aa _ _ ab a1 bi aY bf a7 false _ (Kd.mO aw.o HB.o) ay.o (Kd.mO ax.o HB.o) az.o A4.o) ?_;rintro e fe ⟨cd,cf,cg,rfl,ho0,ho1,ho2,hb⟩;refine⟨_,rfl,?_⟩;have aj:=A_ (Kd.nE ho0 (mK HB.o));have ak:=A_ (Kd.nE ho1 (mK HB.o));have al:=A_ (Kd.nE ho2 (mK HB.o));replace ae:=bb_ ae hb;replace HB:=bs_ HB hb;clear hb ho0 ho1;(try clear ho2))|((with_reducible refine gt_ 7 ?_);refine be_ 7 #[.int .i64 0,.slice none 0 0,.slice none 0 0,.slice none 0 0] 33 ?_;intro bq hg fo J hb;replace aj:=A_ (Kd.nX aj.o hb);replace ak:=A_ (Kd.nX ak.o hb);replace al:=A_ (Kd.nX al.o hb);have aq:=A_ (J);have bB:=lh_ HB hg;have aU:=lh_ HB hg;replace HB:=bs_ HB hb;have ag:=nl_ ae hg;have am:=ng_ ae hg;replace ae:=bb_ ae hb;clear hb J hg;have dJ:=am.o;have dN:=ag.o;have cQ:=bq4 aq.o;obtain⟨dW,ed,dk⟩:=Kd.mU aj.o;subst dk;obtain⟨dX,ef,dm⟩:=Kd.mU ak.o;subst dm;obtain⟨dY,eg,dn⟩:=Kd.mU al.o;subst dn))
 go_ret
 exact⟨rf,wb_⟩
def oP.l0:Nat→Int→List Int→Int→Int→Int→List (List Int)→List Int→Option (Int)
 |0,_,_,_,_,_,_,_=>none
 |k+1,x5,x8,x9,ch,bR,aJ,bS=>if ch<x9 then(if 0≤ch then(if ch<(x8.length:Int)then(if 0≤x5 then(if x5<(aJ.length:Int)then(if 0≤(rd x8 ch)then(if(rd x8 ch)<((f_ aJ x5).length:Int)then(oP.l0 k (rd (f_ aJ x5) (rd x8 ch)) x8 x9 (wrap64 (ch+1)) bR aJ bS)else(none))else(none))else(none))else(none))else(none))else(none))else(some x5)
def oP.f (k:Nat) (af:Int) (aa:List (List Int)) (ab:List Int) (l1:List Int):Option (Int):=oP.l0 k 0 l1 (l1.length:Int) 0 af aa ab
theorem oP.calls (k:Nat) (af:Int) (ap:Option Addr) (ar:Nat) (aa:List (List Int)) (av:Option Addr) (au:Nat) (ab:List Int) (A1:Option Addr) (c1:Nat) (l1:List Int) (r:Int) (w:World) (aD:Kd.C (Kd.slice 3 (Kd.int .i64)) w ap aa.length aa) (aA:aa.length≤ar) (aE:Kd.C (Kd.int .i64) w av ab.length ab) (aC:ab.length≤au) (hr1:Kd.C (Kd.int .i64) w A1 l1.length l1) (hc1:l1.length≤c1) (h:oP.f k af aa ab l1=some r):
  Calls Try.prog 55 #[.agg #[.int .i64 af,.slice ap aa.length ar,.slice av ab.length au],.slice A1 l1.length c1] w fun e w'=>e=.returned (.int .i64 r)∧Below w.heap.size w w':=by
 have aB:=Try.underlying27;have aw:=A_ aD;have ay:=A_ aA;clear aD aA;have ax:=A_ aE;have az:=A_ aC;clear aE aC;have HR1:=A_ hr1;have fq:=A_ hc1;clear hr1 hc1;have HB:=A_ (Below.refl w.heap.size w);unfold oP.f at h;have H:=h;clear h
 have H':=A_ H
 clear H;go_enter Try.func55,Try.ntmps55
 go_wp2_with (first|((with_reducible refine gt_ 2 ?_);refine be_ 2 #[.int .i64 af,.slice ap aa.length ar,.slice av ab.length au] 27 ?_;intro cE hg w3 J hb;have bk:=A_ (J);have dx:=lh_ HB hg;have dv:=lh_ HB hg;replace HB:=bs_ HB hb;clear hb J hg))
 go_loopg [5,10] k (fun kq v5 eh w'=>∃ (ah:Int) (ao:Int),v5=.int .i64 ah∧eh=.int .i64 ao∧Aside0 (oP.l0 kq ah l1 (l1.length:Int) ao af aa ab=some r)∧Aside0 (kq≤k)∧Aside0 (w'.heap[cE]? =some (.cells #[.int .i64 af,(.slice ap aa.length ar),(.slice av ab.length au)] 27 (0,0)))∧Aside0 (Below w.heap.size w w'))
 case atStart=>exact⟨(0),(0),rf,rf,H',⟨Nat.le_refl _⟩,bk,HB⟩
 case round=>
  clear H';obtain⟨ah,ao,rfl,rfl,HA,co,bk,HB⟩:=hrel
  cases gk with
  |zero=>exact nz_ HA.o
  |succ k1=>
   have H:=HA.o;clear HA;simp only[oP.l0]at H
   replace H:=Hi_ H;rcases H with⟨cB,H⟩|⟨cB,H⟩
   ·replace ⟨bW,H⟩:=Hd_ H
    replace ⟨bD,H⟩:=Hd_ H
    replace ⟨dZ,H⟩:=Hd_ H
    replace ⟨cC,H⟩:=Hd_ H
    replace ⟨d4,H⟩:=Hd_ H
    replace ⟨dF,H⟩:=Hd_ H
    have H':=A_ H
    clear H
    have bZ:0≤(ao:Int):=oa_
    have b4:ao<(l1.length:Int):=oa_
    obtain⟨dC,cW,a9⟩:=Kd.nM HR1.o ao bZ b4
    cases cW
    replace a9:=cm_ HB a9;replace bZ:=eq_true bZ;replace b4:=eq_true b4;have bL:=bq3 bk.o
    have b1:0≤(ah:Int):=oa_
    have b5:ah<(aa.length:Int):=oa_
    obtain⟨dD,cS,cV,cX,ba,bu,br⟩:=qM aw.o ah b1 b5
    cases cX
    replace ba:=cm_ HB ba;have bK:=A_ br;have cF:=A_ bu;clear br bu;replace b1:=eq_true b1;replace b5:=eq_true b5
    have b2:0≤((rd l1 ao):Int):=oa_
    have b6:(rd l1 ao)<((f_ aa ah).length:Int):=oa_
    obtain⟨dE,cY,bc⟩:=Kd.nM bK.o (rd l1 ao) b2 b6
    cases cY
    replace bc:=cm_ HB bc;replace b2:=eq_true b2;replace b6:=eq_true b6
    go_wp2
    go_roundg k1
    case measure=>have:=co.o;omega
    case rel=>exact⟨(rd (f_ aa ah) (rd l1 ao)),(wrap64 (ao+1)),rf,rf,H',⟨by have:=co.o;omega⟩,bk,HB⟩
   obtain rfl:=Option.some.inj H
   go_wp2
   go_ret
   exact⟨rf,HB.o⟩
def oQ.f (k:Nat) (af:Int) (aa:List (List Int)) (ab:List Int) (a1:Int):Option (Int):=(rJ.f k a1 af).bind fun bO=>((oP.f k af aa ab bO).bind fun aI=>(if 0≤aI then(if aI<(ab.length:Int)then(some (rd ab aI))else(none))else(none)))
def oQ.T1:Bool×List (List Nat×List Nat):=(true,[([],[]),([0],[0]),([],[]),([],[]),([],[]),([4],[4]),([3,5],[3,5]),([2,6,6],[2,6]),([1,7],[1,7]),([8],[8]),([9,7,0,1,2,3,4,5,6,7,8,9],[9])])
def oQ.B1:List Nat:=[0,1,0,0,0,16,56,124,255,511,1023]
theorem oQ.LG:uf .any (opsOf Try.f32 1)=oQ.T1:=K_
theorem oQ.Gy:rV oQ.T1.2 oQ.B1=true:=K_
theorem oQ.calls (k:Nat) (af:Int) (ap:Option Addr) (ar:Nat) (aa:List (List Int)) (av:Option Addr) (au:Nat) (ab:List Int) (a1:Int) (r:Int) (w:World) (aD:Kd.C (Kd.slice 3 (Kd.int .i64)) w ap aa.length aa) (aA:aa.length≤ar) (aE:Kd.C (Kd.int .i64) w av ab.length ab) (aC:ab.length≤au) (h:oQ.f k af aa ab a1=some r):
  Calls Try.prog 32 #[.agg #[.int .i64 af,.slice ap aa.length ar,.slice av ab.length au],.int .i64 a1] w fun e w'=>e=.returned (.int .i64 r)∧Below w.heap.size w w':=by
 have aB:=Try.underlying27;have aw:=A_ aD;have ay:=A_ aA;clear aD aA;have ax:=A_ aE;have az:=A_ aC;clear aE aC;have HB:=A_ (Below.refl w.heap.size w);unfold oQ.f at h;have H:=h;clear h;replace ⟨bO,A3,H⟩:=bA_ H;replace ⟨aI,A4,H⟩:=bA_ H
 replace ⟨bW,H⟩:=Hd_ H
 replace ⟨bD,H⟩:=Hd_ H
 obtain rfl:=Option.some.inj H;go_enter Try.func32,Try.ntmps32
 try go_wp2_with (first|((with_reducible refine gt_ 2 ?_);refine be_ 2 #[.int .i64 af,.slice ap aa.length ar,.slice av ab.length au] 27 ?_;intro bH hg w7 J hb;have an:=A_ (J);have dy:=lh_ HB hg;have dw:=lh_ HB hg;replace HB:=bs_ HB hb;clear hb J hg))
 replace an:=A_ (nQ an.o);replace HB:=A_ (oG HB.o)
 have b3:0≤(aI:Int):=oa_
 have b7:aI<(ab.length:Int):=oa_
 obtain⟨bU,cZ,aH⟩:=Kd.nM ax.o aI b3 b7;have aG:=aH
 cases cZ
 replace aH:=cm_ HB aH;replace b3:=eq_true b3;replace b7:=eq_true b7;refine rM (n:=11) (S:=fun w'=>cA3 bH (.int .i64 af) (.slice ap aa.length ar) (.slice (some bU) ab.length au) w' (w'.cell? (bU.add (aI).toNat)=some (.int .i64 (rd ab aI)))) (ds:=[]) (mk_ 11 0) K_ rfl rfl ⟨bz0 an.o,bz1 an.o,bz2 an.o,((HB.o.cell (World.block_lt_of_cell? w _ aG)).trans aG)⟩ (fun aV=>?_);refine ru oQ.LG oQ.Gy (fun bz cG=>?_)
 generalize w7.drew=w8 at an HB aH aV⊢
 refine pw_ 0 5 (mk_ 11 1) bz ?_;refine pw_ 3 8 (mk_ 11 9) bz ?_;refine pw_ 4 9 (mk_ 11 25) bz ?_;refine tk_ 1 6 (mk_ 11 27) bz cG aV ?_;refine tk_ 2 7 (mk_ 11 31) bz cG aV ?_;refine tk_ 5 10 (mk_ 11 63) bz cG aV ?_;refine ow_ 6 (mk_ 11 127) bz (fun K hK=>?_);refine cT_ E54 (rJ.calls k a1 af bO _ A3.o) ?_;rintro e w9 ⟨ek,rfl,ho0,hb⟩;refine⟨_,rfl,?_⟩;have be:=A_ (Kd.nE ho0 (mK HB.o));replace an:=bb_ an hb;replace HB:=bs_ HB hb
 (try clear hb)
 (try clear hb2)
 (try clear hk)
 (try clear hi)
 (try clear ho0)
 obtain⟨dP,d5,cD⟩:=Kd.mU be.o
 (first|subst cD|(injection cD with b_ eF cu;have eG:=b_.symm;have eH:=cu.symm;clear b_ eF cu;subst eG;subst eH))
 refine hK.out _ _ ⟨bz0 an.o,bz1 an.o,bz2 an.o,((HB.o.cell (World.block_lt_of_cell? w _ aG)).trans aG)⟩ (fun aV=>?_);clear hK K;refine nm_ 11 ?_;refine ow_ 7 (mk_ 11 255) bz (fun K hK=>?_);refine cT_ E55 (oP.calls k af _ _ aa _ _ ab _ _ bO aI _ (Kd.mO aw.o HB.o) ay.o (Kd.mO ax.o HB.o) az.o ((Kd.mX be.o).2.2) ((Kd.mX be.o).2.1) A4.o) ?_;rintro e fu ⟨rfl,hb⟩;refine⟨_,rfl,?_⟩;replace be:=A_ (Kd.nX be.o hb);replace an:=bb_ an hb;replace HB:=bs_ HB hb
 (try clear hb)
 (try clear hb2)
 (try clear hk)
 (try clear hi)
 refine hK.out _ _ ⟨bz0 an.o,bz1 an.o,bz2 an.o,((HB.o.cell (World.block_lt_of_cell? w _ aG)).trans aG)⟩ (fun aV=>?_);clear hK K;refine nm_ 12 ?_;refine pw_ 8 13 (mk_ 11 511) bz ?_;refine tk_ 9 14 (mk_ 11 1023) bz cG aV ?_;refine pw_ 10 4 (mk_ 11 2047) bz ?_;refine sZ (sP bz.o K_) ?_
 try go_wp2
 go_ret
 exact⟨rf,HB.o⟩
mutual
def ou.j0:Nat→Int→Int→Bool→Int→List (List Int)→List Int→Option (Int)
 |0,_,_,_,_,_,_=>none
 |k+1,x1,x2,el,aM,aN,aQ=>if el=true then(some (-1))else(ou.l0 k x1 0 x2 0 aM aN aQ)
def ou.l0:Nat→Int→Int→Int→Int→Int→List (List Int)→List Int→Option (Int)
 |0,_,_,_,_,_,_,_=>none
 |k+1,x1,x7,dO,du,aM,aN,aQ=>if du<dO then((oQ.f k aM aN aQ du).bind fun bP=>((uQ.f (bP==x1)).bind fun bQ=>(ou.l0 k x1 (wrap64 (x7+bQ)) dO (wrap64 (du+1)) aM aN aQ)))else(some x7)
end
def ou.f (k:Nat) (af:Int) (aa:List (List Int)) (ab:List Int) (a1:Int) (a2:Int):Option (Int):=(ng.f k af aa ab).bind fun b9=>(if b9=true then(if a2<0 then(ou.j0 k a1 a2 true af aa ab)else(ou.j0 k a1 a2 (decide (a2>3000)) af aa ab))else(ou.j0 k a1 a2 true af aa ab))
theorem ou.calls (k:Nat) (af:Int) (ap:Option Addr) (ar:Nat) (aa:List (List Int)) (av:Option Addr) (au:Nat) (ab:List Int) (a1:Int) (a2:Int) (r:Int) (w:World) (aD:Kd.C (Kd.slice 3 (Kd.int .i64)) w ap aa.length aa) (aA:aa.length≤ar) (aE:Kd.C (Kd.int .i64) w av ab.length ab) (aC:ab.length≤au) (h:ou.f k af aa ab a1 a2=some r):
  Calls Try.prog 8 #[.agg #[.int .i64 af,.slice ap aa.length ar,.slice av ab.length au],.int .i64 a1,.int .i64 a2] w fun e w'=>e=.returned (.int .i64 r)∧Below w.heap.size w w':=by
 have aB:=Try.underlying27;have aw:=A_ aD;have ay:=A_ aA;clear aD aA;have ax:=A_ aE;have az:=A_ aC;clear aE aC;have HB:=A_ (Below.refl w.heap.size w);unfold ou.f at h;have H:=h;clear h;have aZ:=A_ H;clear H;go_enter Try.func8,Try.ntmps8
 go_upto_region 1 with(first|((with_reducible refine gt_ 3 ?_);refine be_ 3 #[.int .i64 af,.slice ap aa.length ar,.slice av ab.length au] 27 ?_;intro bV hg w5 J hb;have ai:=A_ (J);have dz:=lh_ HB hg;have ck:=lh_ HB hg;replace HB:=bs_ HB hb;clear hb J hg))
 (try simp only[Act.put,mD,mE,mF])
 go_cut [19] (fun ei wc=>∃ (kq:Nat) (bw:Bool),ei=.bool bw∧Aside0 (ou.j0 kq a1 a2 bw af aa ab=some r)∧Aside0 (kq≤k)∧Aside0 (wc.heap[bV]? =some (.cells #[.int .i64 af,(.slice ap aa.length ar),(.slice av ab.length au)] 27 (0,0)))∧Aside0 (Below w.heap.size w wc))
 case first=>
  have H:=aZ.o;clear aZ;replace ⟨b9,A6,H⟩:=bA_ H
  replace H:=Hb_ H;rcases H with⟨rfl,H⟩|⟨rfl,H⟩
  ·replace H:=Hi_ H;rcases H with⟨cC,H⟩|⟨cC,H⟩
   ·(skip)
    have H':=A_ H
    clear H;have dq:=bq3 ai.o
    go_wp2_with (first|((with_reducible refine gc_ 30 rfl ?_);refine cM_ E30 10 (ng.calls k af _ _ aa _ _ ab true _ (Kd.mO aw.o HB.o) ay.o (Kd.mO ax.o HB.o) az.o A6.o) ?_;rintro e eu ⟨rfl,hb⟩;refine⟨_,rfl,?_⟩;replace ai:=bb_ ai hb;replace HB:=bs_ HB hb;clear hb;(try clear hi)))
    go_meet
    case rel=>exact⟨_,(true),rf,H',⟨om⟩,ai,HB⟩
   (skip)
   have H':=A_ H
   clear H;have bL:=bq3 ai.o
   go_wp2_with (first|((with_reducible refine gc_ 30 rfl ?_);refine cM_ E30 10 (ng.calls k af _ _ aa _ _ ab true _ (Kd.mO aw.o HB.o) ay.o (Kd.mO ax.o HB.o) az.o A6.o) ?_;rintro e fw ⟨rfl,hb⟩;refine⟨_,rfl,?_⟩;replace ai:=bb_ ai hb;replace HB:=bs_ HB hb;clear hb;(try clear hi)))
   go_meet
   case rel=>exact⟨_,(decide (a2>3000)),rf,H',⟨om⟩,ai,HB⟩
  have H':=A_ H
  clear H;have cI:=bq3 ai.o
  go_wp2_with (first|((with_reducible refine gc_ 30 rfl ?_);refine cM_ E30 10 (ng.calls k af _ _ aa _ _ ab false _ (Kd.mO aw.o HB.o) ay.o (Kd.mO ax.o HB.o) az.o A6.o) ?_;rintro e fA ⟨rfl,hb⟩;refine⟨_,rfl,?_⟩;replace ai:=bb_ ai hb;replace HB:=bs_ HB hb;clear hb;(try clear hi)))
  go_meet
  case rel=>exact⟨_,(true),rf,H',⟨om⟩,ai,HB⟩
 case rest=>
  clear aZ;obtain⟨kq,bw,rfl,HA,dA,ai,HB⟩:=hcut
  cases kq with
  |zero=>exact nz_ HA.o
  |succ cz=>
   have H:=HA.o;clear HA;simp only[ou.j0]at H
   replace H:=Hb_ H;rcases H with⟨rfl,H⟩|⟨rfl,H⟩
   ·obtain rfl:=Option.some.inj H
    go_wp2
    go_ret
    exact⟨rf,HB.o⟩
   have H':=A_ H
   clear H
   go_wp2
   go_loopg [7,21] cz (fun kq v7 ej w'=>∃ (bT:Int) (a8:Int),v7=.int .i64 bT∧ej=.int .i64 a8∧Aside0 (ou.l0 kq a1 bT a2 a8 af aa ab=some r)∧Aside0 (kq≤cz)∧Aside0 (w'.heap[bV]? =some (.cells #[.int .i64 af,(.slice ap aa.length ar),(.slice av ab.length au)] 27 (0,0)))∧Aside0 (Below w.heap.size w w'))
   case atStart=>exact⟨(0),(0),rf,rf,H',⟨Nat.le_refl _⟩,ai,HB⟩
   case round=>
    clear H';obtain⟨bT,a8,rfl,rfl,HA,dB,ai,HB⟩:=hrel
    cases gk with
    |zero=>exact nz_ HA.o
    |succ k2=>
     have H:=HA.o;clear HA;simp only[ou.l0]at H
     replace H:=Hi_ H;rcases H with⟨cw,H⟩|⟨cw,H⟩
     ·replace ⟨bP,eO,H⟩:=bA_ H;replace ⟨bQ,eP,H⟩:=bA_ H
      have H':=A_ H
      clear H;have bM:=bq3 ai.o
      go_wp2_with (first|((with_reducible refine gc_ 32 rfl ?_);refine cM_ E32 27 (oQ.calls k2 af _ _ aa _ _ ab a8 bP _ (Kd.mO aw.o HB.o) ay.o (Kd.mO ax.o HB.o) az.o eO.o) ?_;rintro e eB ⟨rfl,hb⟩;refine⟨_,rfl,?_⟩;replace ai:=bb_ ai hb;replace HB:=bs_ HB hb;clear hb;(try clear hi))|((with_reducible refine gc_ 31 rfl ?_);refine cM_ E31 30 (uQ.calls (bP==a1) bQ _ eP.o) ?_;rintro e w' ⟨rfl,⟨nd,rfl⟩⟩;refine⟨_,rfl,?_⟩))
      go_roundg k2
      case measure=>have:=dA.o;have:=dB.o;omega
      case rel=>exact⟨(wrap64 (bT+bQ)),(wrap64 (a8+1)),rf,rf,H',⟨by have:=dA.o;have:=dB.o;omega⟩,⟨wk_⟩,⟨wb_⟩⟩
     obtain rfl:=Option.some.inj H
     go_wp2
     go_ret
     exact⟨rf,HB.o⟩
def qf.l0:Nat→List Int→Int→Int→Option (Bool)
 |0,_,_,_=>none
 |k+1,x0,x1,x5=>if x5<(x0.length:Int)then(if 0≤x5 then(if(rd x0 x5)<0 then(some false)else(if(rd x0 x5)≥x1 then(some false)else(qf.l0 k x0 x1 (wrap64 (x5+1)))))else(none))else((nR.f x1 2 4).bind fun cc=>(if cc=true then(some (decide ((x0.length:Int)≤16)))else(some false)))
def qf.f (k:Nat) (l0:List Int) (a1:Int):Option (Bool):=qf.l0 k l0 a1 0
theorem qf.calls (k:Nat) (A0:Option Addr) (c0:Nat) (l0:List Int) (a1:Int) (r:Bool) (w:World) (hr0:Kd.C (Kd.int .i64) w A0 l0.length l0) (hc0:l0.length≤c0) (h:qf.f k l0 a1=some r):
  Calls Try.prog 63 #[.slice A0 l0.length c0,.int .i64 a1] w fun e w'=>e=.returned (.bool r)∧nJ w w':=by
 have aS:=A_ hr0;have fB:=A_ hc0;clear hr0 hc0;unfold qf.f at h;have H:=h;clear h
 have H':=A_ H
 clear H;go_enter Try.func63,Try.ntmps63
 go_wp2
 go_loopg [5] k (fun kq v5 w'=>∃ (ah:Int),v5=.int .i64 ah∧Aside0 (qf.l0 kq l0 a1 ah=some r)∧Aside0 (kq≤k)∧nJ w w')
 case atStart=>exact⟨(0),rf,H',⟨Nat.le_refl _⟩,by repeat (first|exact nJ.refl _|apply nJ.step)⟩
 case round=>
  clear H';obtain⟨ah,rfl,HA,co,⟨m1,rfl⟩⟩:=hrel
  cases gk with
  |zero=>exact nz_ HA.o
  |succ k1=>
   have H:=HA.o;clear HA;simp only[qf.l0]at H
   replace H:=Hi_ H;rcases H with⟨cU,H⟩|⟨cU,H⟩
   ·replace ⟨cB,H⟩:=Hd_ H
    replace H:=Hi_ H;rcases H with⟨bW,H⟩|⟨bW,H⟩
    ·obtain rfl:=Option.some.inj H
     have aW:0≤(ah:Int):=oa_
     have aX:ah<(l0.length:Int):=oa_
     obtain⟨bm,bG,bv⟩:=Kd.nM aS.o ah aW aX
     cases bG
     replace aW:=eq_true aW;replace aX:=eq_true aX
     go_wp2
     go_ret
     exact⟨rf,by repeat (first|exact nJ.refl _|apply nJ.step)⟩
    replace H:=Hj_ H;rcases H with⟨c6,H⟩|⟨c6,H⟩
    ·have bD:decide (a1≤(rd l0 ah))=true:=decide_eq_true c6
     clear c6;obtain rfl:=Option.some.inj H
     have aW:0≤(ah:Int):=oa_
     have aX:ah<(l0.length:Int):=oa_
     obtain⟨bm,bG,bv⟩:=Kd.nM aS.o ah aW aX
     cases bG
     replace aW:=eq_true aW;replace aX:=eq_true aX
     have bg:0≤(ah:Int):=oa_
     have bh:ah<(l0.length:Int):=oa_
     obtain⟨bC,bY,bN⟩:=Kd.nM aS.o ah bg bh;obtain rfl:bm=bC:=(by injection bY);replace bg:=eq_true bg;replace bh:=eq_true bh
     go_wp2
     go_ret
     exact⟨rf,by repeat (first|exact nJ.refl _|apply nJ.step)⟩
    have bD:decide (a1≤(rd l0 ah))=false:=decide_eq_false c6
    clear c6
    have H':=A_ H
    clear H
    have aW:0≤(ah:Int):=oa_
    have aX:ah<(l0.length:Int):=oa_
    obtain⟨bm,bG,bv⟩:=Kd.nM aS.o ah aW aX
    cases bG
    replace aW:=eq_true aW;replace aX:=eq_true aX
    have bg:0≤(ah:Int):=oa_
    have bh:ah<(l0.length:Int):=oa_
    obtain⟨bC,bY,bN⟩:=Kd.nM aS.o ah bg bh;obtain rfl:bm=bC:=(by injection bY);replace bg:=eq_true bg;replace bh:=eq_true bh
    go_wp2
    go_roundg k1
    case measure=>have:=co.o;omega
    case rel=>exact⟨(wrap64 (ah+1)),rf,H',⟨by have:=co.o;omega⟩,by repeat (first|exact nJ.refl _|apply nJ.step)⟩
   replace ⟨cc,A7,H⟩:=bA_ H
   replace H:=Hb_ H;rcases H with⟨rfl,H⟩|⟨rfl,H⟩
   ·obtain rfl:=Option.some.inj H
    go_wp2_with (first|((with_reducible refine gc_ 34 rfl ?_);refine cM_ E34 26 (nR.calls a1 2 4 true _ A7.o) ?_;rintro e w' ⟨rfl,⟨nd,rfl⟩⟩;refine⟨_,rfl,?_⟩))
    go_ret
    exact⟨rf,by repeat (first|exact nJ.refl _|apply nJ.step)⟩
   obtain rfl:=Option.some.inj H
   go_wp2_with (first|((with_reducible refine gc_ 34 rfl ?_);refine cM_ E34 26 (nR.calls a1 2 4 false _ A7.o) ?_;rintro e w' ⟨rfl,⟨nd,rfl⟩⟩;refine⟨_,rfl,?_⟩))
   go_ret
   exact⟨rf,by repeat (first|exact nJ.refl _|apply nJ.step)⟩
mutual
def oK.j0:Nat→List Int→Bool→Int→List (List Int)→List Int→Option (Int)
 |0,_,_,_,_,_=>none
 |k+1,x1,b7,aC,ak,aD=>if b7=true then(some (-1))else(oK.l0 k x1 0 0 aC ak aD)
def oK.l0:Nat→List Int→Int→Int→Int→List (List Int)→List Int→Option (Int)
 |0,_,_,_,_,_,_=>none
 |k+1,x1,x5,x6,aC,ak,aD=>if x6<(x1.length:Int)then(if 0≤x5 then(if x5<(ak.length:Int)then(if 0≤x6 then(if 0≤(rd x1 x6)then(if(rd x1 x6)<((f_ ak x5).length:Int)then(oK.l0 k x1 (rd (f_ ak x5) (rd x1 x6)) (wrap64 (x6+1)) aC ak aD)else(none))else(none))else(none))else(none))else(none))else(some x5)
end
def oK.f (k:Nat) (af:Int) (aa:List (List Int)) (ab:List Int) (l1:List Int):Option (Int):=(m_.f k af aa ab).bind fun bw=>(if bw=true then((qf.f k l1 af).bind fun a8=>(oK.j0 k l1 (!a8) af aa ab))else(oK.j0 k l1 true af aa ab))
theorem oK.calls (k:Nat) (af:Int) (ap:Option Addr) (aq:Nat) (aa:List (List Int)) (au:Option Addr) (ar:Nat) (ab:List Int) (A1:Option Addr) (c1:Nat) (l1:List Int) (r:Int) (w:World) (aJ:Kd.C (Kd.slice 3 (Kd.int .i64)) w ap aa.length aa) (aH:aa.length≤aq) (aM:Kd.C (Kd.int .i64) w au ab.length ab) (aI:ab.length≤ar) (hr1:Kd.C (Kd.int .i64) w A1 l1.length l1) (hc1:l1.length≤c1) (h:oK.f k af aa ab l1=some r):
  Calls Try.prog 47 #[.agg #[.int .i64 af,.slice ap aa.length aq,.slice au ab.length ar],.slice A1 l1.length c1] w fun e w'=>e=.returned (.int .i64 r)∧Below w.heap.size w w':=by
 have aP:=Try.underlying27;have ah:=A_ aJ;have al:=A_ aH;clear aJ aH;have ai:=A_ aM;have am:=A_ aI;clear aM aI;have HR1:=A_ hr1;have aR:=A_ hc1;clear hr1 hc1;have HB:=A_ (Below.refl w.heap.size w);unfold oK.f at h;have H:=h;clear h;have aL:=A_ H;clear H;go_enter Try.func47,Try.ntmps47
 go_upto_region 1 with(first|((with_reducible refine gt_ 2 ?_);refine be_ 2 #[.int .i64 af,.slice ap aa.length aq,.slice au ab.length ar] 27 ?_;intro aQ hg w4 aK hb;have ag:=A_ (aK);have bh:=lh_ HB hg;have aN:=lh_ HB hg;replace HB:=bs_ HB hb;clear hb aK hg))
 repeat (go_quiet (first|((with_reducible refine gt_ 2 ?_);refine vH ?hg (N:=2) ?hd (cs:= #[.int .i64 af,.slice ap aa.length aq,.slice au ab.length ar]) (t:=27) ?hr ?_;(case hd|hg=>rfl);(case hr=>first|(go_simp;done)|(go_simp;rfl));intro aQ hg w4 aK hb;have ag:=A_ (aK);have bh:=lh_ HB hg;have aN:=lh_ HB hg;replace HB:=bs_ HB hb;clear hb aK hg));go_upto_region 1 with(first|((with_reducible refine gt_ 2 ?_);refine vH ?hg (N:=2) ?hd (cs:= #[.int .i64 af,.slice ap aa.length aq,.slice au ab.length ar]) (t:=27) ?hr ?_;(case hd|hg=>rfl);(case hr=>first|(go_simp;done)|(go_simp;rfl));intro aQ hg w4 aK hb;have ag:=A_ (aK);have bh:=lh_ HB hg;have aN:=lh_ HB hg;replace HB:=bs_ HB hb;clear hb aK hg)))
 (try simp only[Act.put,mD,mE,mF])
 go_cut [16] (fun b4 wc=>∃ (kq:Nat) (aX:Bool),b4=.bool aX∧Aside0 (oK.j0 kq l1 aX af aa ab=some r)∧Aside0 (kq≤k)∧Aside0 (wc.heap[aQ]? =some (.cells #[.int .i64 af,(.slice ap aa.length aq),(.slice au ab.length ar)] 27 (0,0)))∧Aside0 (Below w.heap.size w wc))
 case first=>
  have H:=aL.o;clear aL;replace ⟨bw,A5,H⟩:=bA_ H
  replace H:=Hb_ H;rcases H with⟨rfl,H⟩|⟨rfl,H⟩
  ·replace ⟨a8,A7,H⟩:=bA_ H
   have H':=A_ H
   clear H;have bR:=bq3 ag.o
   go_wp2_with (first|(go_at_call 33;(with_reducible refine(m_.calls k af _ _ aa _ _ ab true _ ?J ?U ?aB ?aF A5.o).mono ?_);(case J=>exact(Kd.mO ah.o HB.o));(case U=>exact al.o);(case aB=>exact(Kd.mO ai.o HB.o));(case aF=>exact am.o);rintro e w9 ⟨rfl,hb⟩;replace ag:=bb_ ag hb;replace HB:=bs_ HB hb;clear hb;have aU:=bq3 ag.o)|(go_at_call 63;(with_reducible refine(qf.calls k _ _ l1 af a8 _ ?J ?U A7.o).mono ?_);(case J=>exact(Kd.mO HR1.o HB.o));(case U=>exact aR.o);rintro e w' ⟨rfl,⟨nd,rfl⟩⟩;skip))
   repeat (go_quiet (first|(go_at_call 33;(with_reducible refine(m_.calls k af _ _ aa _ _ ab true _ ?J ?U ?aB ?aF A5.o).mono ?_);(case J=>exact(Kd.mO ah.o HB.o));(case U=>exact al.o);(case aB=>exact(Kd.mO ai.o HB.o));(case aF=>exact am.o);rintro e w9 ⟨rfl,hb⟩;replace ag:=bb_ ag hb;replace HB:=bs_ HB hb;have aU:=bq3 ag.o)|(go_at_call 63;(with_reducible refine(qf.calls k _ _ l1 af a8 _ ?J ?U A7.o).mono ?_);(case J=>exact(Kd.mO HR1.o HB.o));(case U=>exact aR.o);rintro e w' ⟨rfl,⟨nd,rfl⟩⟩;skip));try go_wp2_with (first|(go_at_call 33;(with_reducible refine(m_.calls k af _ _ aa _ _ ab true _ ?J ?U ?aB ?aF A5.o).mono ?_);(case J=>exact(Kd.mO ah.o HB.o));(case U=>exact al.o);(case aB=>exact(Kd.mO ai.o HB.o));(case aF=>exact am.o);rintro e w9 ⟨rfl,hb⟩;replace ag:=bb_ ag hb;replace HB:=bs_ HB hb;have aU:=bq3 ag.o)|(go_at_call 63;(with_reducible refine(qf.calls k _ _ l1 af a8 _ ?J ?U A7.o).mono ?_);(case J=>exact(Kd.mO HR1.o HB.o));(case U=>exact aR.o);rintro e w' ⟨rfl,⟨nd,rfl⟩⟩;skip)))
   go_meet
   case rel=>exact⟨_,(!a8),rf,H',⟨om⟩,⟨wk_⟩,⟨wb_⟩⟩
  have H':=A_ H
  clear H;have bc:=bq3 ag.o
  go_wp2_with (first|(go_at_call 33;(with_reducible refine(m_.calls k af _ _ aa _ _ ab false _ ?J ?U ?aB ?aF A5.o).mono ?_);(case J=>exact(Kd.mO ah.o HB.o));(case U=>exact al.o);(case aB=>exact(Kd.mO ai.o HB.o));(case aF=>exact am.o);rintro e aS ⟨rfl,hb⟩;replace ag:=bb_ ag hb;replace HB:=bs_ HB hb;clear hb;(try clear hi)))
  repeat (go_quiet (first|(go_at_call 33;(with_reducible refine(m_.calls k af _ _ aa _ _ ab false _ ?J ?U ?aB ?aF A5.o).mono ?_);(case J=>exact(Kd.mO ah.o HB.o));(case U=>exact al.o);(case aB=>exact(Kd.mO ai.o HB.o));(case aF=>exact am.o);rintro e aS ⟨rfl,hb⟩;replace ag:=bb_ ag hb;replace HB:=bs_ HB hb;(try clear hi)));try go_wp2_with (first|(go_at_call 33;(with_reducible refine(m_.calls k af _ _ aa _ _ ab false _ ?J ?U ?aB ?aF A5.o).mono ?_);(case J=>exact(Kd.mO ah.o HB.o));(case U=>exact al.o);(case aB=>exact(Kd.mO ai.o HB.o));(case aF=>exact am.o);rintro e aS ⟨rfl,hb⟩;replace ag:=bb_ ag hb;replace HB:=bs_ HB hb;(try clear hi))))
  go_meet
  case rel=>exact⟨_,(true),rf,H',⟨om⟩,ag,HB⟩
 case rest=>
  clear aL;obtain⟨kq,aX,rfl,HA,bK,ag,HB⟩:=hcut
  cases kq with
  |zero=>exact nz_ HA.o
  |succ aO=>
   have H:=HA.o;clear HA;simp only[oK.j0]at H
   replace H:=Hb_ H;rcases H with⟨rfl,H⟩|⟨rfl,H⟩
   ·obtain rfl:=Option.some.inj H
    go_wp2
    repeat (go_quiet (fail);try go_wp2)
    go_ret
    exact⟨rf,HB.o⟩
   have H':=A_ H
   clear H
   go_wp2
   repeat (go_quiet (fail);try go_wp2)
   go_loopg [5,6] aO (fun kq v5 v6 w'=>∃ (ax:Int) (an:Int),v5=.int .i64 ax∧v6=.int .i64 an∧Aside0 (oK.l0 kq l1 ax an af aa ab=some r)∧Aside0 (kq≤aO)∧Aside0 (w'.heap[aQ]? =some (.cells #[.int .i64 af,(.slice ap aa.length aq),(.slice au ab.length ar)] 27 (0,0)))∧Aside0 (Below w.heap.size w w'))
   case atStart=>exact⟨(0),(0),rf,rf,H',⟨Nat.le_refl _⟩,ag,HB⟩
   case round=>
    clear H';obtain⟨ax,an,rfl,rfl,HA,bU,ag,HB⟩:=hrel
    cases gk with
    |zero=>exact nz_ HA.o
    |succ k2=>
     have H:=HA.o;clear HA;simp only[oK.l0]at H
     replace H:=Hi_ H;rcases H with⟨bB,H⟩|⟨bB,H⟩
     ·replace ⟨bY,H⟩:=Hd_ H
      replace ⟨bZ,H⟩:=Hd_ H
      replace ⟨bC,H⟩:=Hd_ H
      replace ⟨bD,H⟩:=Hd_ H
      replace ⟨b1,H⟩:=Hd_ H
      have H':=A_ H
      clear H;have bI:=bq3 ag.o
      have bj:0≤(ax:Int):=oa_
      have bq:ax<(aa.length:Int):=oa_
      obtain⟨bV,bJ,bM,bN,ay,aW,aV⟩:=qM ah.o ax bj bq
      cases bN
      replace ay:=cm_ HB ay;have ba:=A_ aV;have bF:=A_ aW;clear aV aW;replace bj:=eq_true bj;replace bq:=eq_true bq
      have bk:0≤(an:Int):=oa_
      have br:an<(l1.length:Int):=oa_
      obtain⟨bW,bO,az⟩:=Kd.nM HR1.o an bk br
      cases bO
      replace az:=cm_ HB az;replace bk:=eq_true bk;replace br:=eq_true br
      have bm:0≤((rd l1 an):Int):=oa_
      have bu:(rd l1 an)<((f_ aa ax).length:Int):=oa_
      obtain⟨bX,bP,aA⟩:=Kd.nM ba.o (rd l1 an) bm bu
      cases bP
      replace aA:=cm_ HB aA;replace bm:=eq_true bm;replace bu:=eq_true bu
      go_wp2
      repeat (go_quiet (fail);try go_wp2)
      go_roundg k2
      case measure=>have:=bK.o;have:=bU.o;omega
      case rel=>exact⟨(rd (f_ aa ax) (rd l1 an)),(wrap64 (an+1)),rf,rf,H',⟨by have:=bK.o;have:=bU.o;omega⟩,⟨wk_⟩,⟨wb_⟩⟩
     obtain rfl:=Option.some.inj H
     go_wp2
     repeat (go_quiet (fail);try go_wp2)
     go_ret
     exact⟨rf,HB.o⟩
def o9.j0:Nat→Int→Bool→Int→List (List Int)→List Int→Option (Int)
 |0,_,_,_,_,_=>none
 |k+1,x1,b8,a7,bg,aE=>if b8=true then(some (-1))else((oO.f k x1 a7).bind fun bf=>((oK.f k a7 bg aE bf).bind fun av=>(if 0≤av then(if av<(aE.length:Int)then(some (rd aE av))else(none))else(none))))
def o9.f (k:Nat) (af:Int) (aa:List (List Int)) (ab:List Int) (a1:Int):Option (Int):=if a1<0 then(o9.j0 k a1 true af aa ab)else((m_.f k af aa ab).bind fun bz=>(if bz=true then((oI.f k af 16).bind fun be=>(o9.j0 k a1 (decide (a1≥be)) af aa ab))else(o9.j0 k a1 true af aa ab)))
def o9.T3:Bool×List (List Nat×List Nat):=(true,[([],[]),([0],[0]),([],[]),([],[]),([],[]),([4],[4]),([3,5],[3,5]),([2,6,6],[2,6]),([1,7],[1,7]),([8],[8]),([9,7,0,1,2,3,4,5,6,7,8,9],[9])])
def o9.B3:List Nat:=[0,1,0,0,0,16,56,124,255,511,1023]
theorem o9.OB:uf .any (opsOf Try.f23 3)=o9.T3:=K_
theorem o9.ME:rV o9.T3.2 o9.B3=true:=K_
theorem o9.calls (k:Nat) (af:Int) (ap:Option Addr) (aq:Nat) (aa:List (List Int)) (au:Option Addr) (ar:Nat) (ab:List Int) (a1:Int) (r:Int) (w:World) (aJ:Kd.C (Kd.slice 3 (Kd.int .i64)) w ap aa.length aa) (aH:aa.length≤aq) (aM:Kd.C (Kd.int .i64) w au ab.length ab) (aI:ab.length≤ar) (h:o9.f k af aa ab a1=some r):
  Calls Try.prog 23 #[.agg #[.int .i64 af,.slice ap aa.length aq,.slice au ab.length ar],.int .i64 a1] w fun e w'=>e=.returned (.int .i64 r)∧Below w.heap.size w w':=by
 have aP:=Try.underlying27;have ah:=A_ aJ;have al:=A_ aH;clear aJ aH;have ai:=A_ aM;have am:=A_ aI;clear aM aI;have HB:=A_ (Below.refl w.heap.size w);unfold o9.f at h;have H:=h;clear h;have aL:=A_ H;clear H;go_enter Try.func23,Try.ntmps23
 go_upto_region 1 with(first|((with_reducible refine gt_ 2 ?_);refine be_ 2 #[.int .i64 af,.slice ap aa.length aq,.slice au ab.length ar] 27 ?_;intro aT hg w4 aK hb;have ae:=A_ (aK);have bT:=lh_ HB hg;have bA:=lh_ HB hg;replace HB:=bs_ HB hb;clear hb aK hg))
 (try simp only[Act.put,mD,mE,mF])
 go_cut [18] (fun b5 wc=>∃ (kq:Nat) (aY:Bool),b5=.bool aY∧Aside0 (o9.j0 kq a1 aY af aa ab=some r)∧Aside0 (kq≤k)∧Aside0 (wc.heap[aT]? =some (.cells #[.int .i64 af,(.slice ap aa.length aq),(.slice au ab.length ar)] 27 (0,0)))∧Aside0 (Below w.heap.size w wc))
 case first=>
  have H:=aL.o;clear aL
  replace H:=Hi_ H;rcases H with⟨bL,H⟩|⟨bL,H⟩
  ·(skip)
   have H':=A_ H
   clear H
   go_wp2
   go_meet
   case rel=>exact⟨_,(true),rf,H',⟨om⟩,ae,HB⟩
  (skip)
  replace ⟨bz,A6,H⟩:=bA_ H
  replace H:=Hb_ H;rcases H with⟨rfl,H⟩|⟨rfl,H⟩
  ·replace ⟨be,A8,H⟩:=bA_ H
   have H':=A_ H
   clear H;have bS:=bq3 ae.o
   go_wp2_with (first|(go_at_call 33;(with_reducible refine(m_.calls k af _ _ aa _ _ ab true _ ?J ?U ?aB ?aF A6.o).mono ?_);(case J=>exact(Kd.mO ah.o HB.o));(case U=>exact al.o);(case aB=>exact(Kd.mO ai.o HB.o));(case aF=>exact am.o);rintro e cO ⟨rfl,hb⟩;replace ae:=bb_ ae hb;replace HB:=bs_ HB hb;clear hb;have bc:=bq3 ae.o)|(go_at_call 29;(with_reducible refine(oI.calls k af 16 be _ A8.o).mono ?_);rintro e w' ⟨rfl,⟨nd,rfl⟩⟩))
   go_meet
   case rel=>exact⟨_,(decide (a1≥be)),rf,H',⟨om⟩,⟨wk_⟩,⟨wb_⟩⟩
  have H':=A_ H
  clear H;have bH:=bq3 ae.o
  go_wp2_with (first|(go_at_call 33;(with_reducible refine(m_.calls k af _ _ aa _ _ ab false _ ?J ?U ?aB ?aF A6.o).mono ?_);(case J=>exact(Kd.mO ah.o HB.o));(case U=>exact al.o);(case aB=>exact(Kd.mO ai.o HB.o));(case aF=>exact am.o);rintro e cZ ⟨rfl,hb⟩;replace ae:=bb_ ae hb;replace HB:=bs_ HB hb;clear hb;(try clear hi)))
  go_meet
  case rel=>exact⟨_,(true),rf,H',⟨om⟩,ae,HB⟩
 case rest=>
  clear aL;obtain⟨kq,aY,rfl,HA,bK,ae,HB⟩:=hcut
  cases kq with
  |zero=>exact nz_ HA.o
  |succ aO=>
   have H:=HA.o;clear HA;simp only[o9.j0]at H
   replace H:=Hb_ H;rcases H with⟨rfl,H⟩|⟨rfl,H⟩
   ·obtain rfl:=Option.some.inj H
    go_wp2
    go_ret
    exact⟨rf,HB.o⟩
   replace ⟨bf,b_,H⟩:=bA_ H;replace ⟨av,cu,H⟩:=bA_ H
   replace ⟨bC,H⟩:=Hd_ H
   replace ⟨bD,H⟩:=Hd_ H
   obtain rfl:=Option.some.inj H
   try go_wp2
   replace ae:=A_ (nQ ae.o);replace HB:=A_ (oG HB.o)
   have bn:0≤(av:Int):=oa_
   have bv:av<(ab.length:Int):=oa_
   obtain⟨bi,bQ,ao⟩:=Kd.nM ai.o av bn bv;have aj:=ao
   cases bQ
   replace ao:=cm_ HB ao;replace bn:=eq_true bn;replace bv:=eq_true bv;refine rM (n:=11) (S:=fun w'=>cA3 aT (.int .i64 af) (.slice ap aa.length aq) (.slice (some bi) ab.length ar) w' (w'.cell? (bi.add (av).toNat)=some (.int .i64 (rd ab av)))) (ds:=[]) (mk_ 11 0) K_ rfl rfl ⟨bz0 ae.o,bz1 ae.o,bz2 ae.o,((HB.o.cell (World.block_lt_of_cell? w _ aj)).trans aj)⟩ (fun aw=>?_);refine ru o9.OB o9.ME (fun a9 bG=>?_)
   generalize wc.drew=df at ae HB ao aw⊢
   refine pw_ 0 19 (mk_ 11 1) a9 ?_;refine pw_ 3 22 (mk_ 11 9) a9 ?_;refine pw_ 4 23 (mk_ 11 25) a9 ?_;refine tk_ 1 20 (mk_ 11 27) a9 bG aw ?_;refine tk_ 2 21 (mk_ 11 31) a9 bG aw ?_;refine tk_ 5 24 (mk_ 11 63) a9 bG aw ?_;refine ow_ 6 (mk_ 11 127) a9 (fun K hK=>?_);refine cT_ E46 (oO.calls aO a1 af bf _ b_.o) ?_;rintro e dh ⟨b6,rfl,ho0,hb⟩;refine⟨_,rfl,?_⟩;have aG:=A_ (Kd.nE ho0 (mK HB.o));replace ae:=bb_ ae hb;replace HB:=bs_ HB hb
   (try clear hb)
   (try clear hb2)
   (try clear hk)
   (try clear hi)
   (try clear ho0)
   obtain⟨b2,b3,bE⟩:=Kd.mU aG.o
   (first|subst bE|(injection bE with aZ cz a_;have cB:=aZ.symm;have cK:=a_.symm;clear aZ cz a_;subst cB;subst cK))
   refine hK.out _ _ ⟨bz0 ae.o,bz1 ae.o,bz2 ae.o,((HB.o.cell (World.block_lt_of_cell? w _ aj)).trans aj)⟩ (fun aw=>?_);clear hK K;refine nm_ 25 ?_;refine ow_ 7 (mk_ 11 255) a9 (fun K hK=>?_);refine cT_ E47 (oK.calls aO af _ _ aa _ _ ab _ _ bf av _ (Kd.mO ah.o HB.o) al.o (Kd.mO ai.o HB.o) am.o ((Kd.mX aG.o).2.2) ((Kd.mX aG.o).2.1) cu.o) ?_;rintro e di ⟨rfl,hb⟩;refine⟨_,rfl,?_⟩;replace aG:=A_ (Kd.nX aG.o hb);replace ae:=bb_ ae hb;replace HB:=bs_ HB hb
   (try clear hb)
   (try clear hb2)
   (try clear hk)
   (try clear hi)
   refine hK.out _ _ ⟨bz0 ae.o,bz1 ae.o,bz2 ae.o,((HB.o.cell (World.block_lt_of_cell? w _ aj)).trans aj)⟩ (fun aw=>?_);clear hK K;refine nm_ 26 ?_;refine pw_ 8 27 (mk_ 11 511) a9 ?_;refine tk_ 9 28 (mk_ 11 1023) a9 bG aw ?_;refine pw_ 10 4 (mk_ 11 2047) a9 ?_;refine sZ (sP a9.o K_) ?_
   try go_wp2
   go_ret
   exact⟨rf,HB.o⟩
mutual
def ow.j0:Nat→Int→Int→Bool→Int→List (List Int)→List Int→Option (Int)
 |0,_,_,_,_,_,_=>none
 |k+1,x1,x2,bW,ap,aq,ar=>if bW=true then(some (-1))else(ow.l0 k x1 x2 0 0 ap aq ar)
def ow.l0:Nat→Int→Int→Int→Int→Int→List (List Int)→List Int→Option (Int)
 |0,_,_,_,_,_,_,_=>none
 |k+1,x1,x2,x7,x8,ap,aq,ar=>if x8<x2 then((o9.f k ap aq ar x8).bind fun au=>(if au=x1 then(ow.l0 k x1 x2 (wrap64 (x7+1)) (wrap64 (x8+1)) ap aq ar)else(ow.l0 k x1 x2 x7 (wrap64 (x8+1)) ap aq ar)))else(some x7)
end
def ow.f (k:Nat) (ak:Int) (ai:List (List Int)) (aj:List Int) (a1:Int) (a2:Int):Option (Int):=(m_.f k ak ai aj).bind fun bz=>(if bz=true then((nR.f a2 0 3000).bind fun bc=>(ow.j0 k a1 a2 (!bc) ak ai aj))else(ow.j0 k a1 a2 true ak ai aj))
theorem ow.calls (k:Nat) (ak:Int) (aN:Option Addr) (aT:Nat) (ai:List (List Int)) (aQ:Option Addr) (aU:Nat) (aj:List Int) (a1:Int) (a2:Int) (r:Int) (w:World) (bh:Kd.C (Kd.slice 3 (Kd.int .i64)) w aN ai.length ai) (bf:ai.length≤aT) (bi:Kd.C (Kd.int .i64) w aQ aj.length aj) (bg:aj.length≤aU) (h:ow.f k ak ai aj a1 a2=some r):
  Calls Try.prog 9 #[.agg #[.int .i64 ak,.slice aN ai.length aT,.slice aQ aj.length aU],.int .i64 a1,.int .i64 a2] w fun e w'=>e=.returned (.int .i64 r)∧Below w.heap.size w w':=by
 have aS:=Try.underlying27;have aI:=A_ bh;have aG:=A_ bf;clear bh bf;have aJ:=A_ bi;have aH:=A_ bg;clear bi bg;have HB:=A_ (Below.refl w.heap.size w);unfold ow.f at h;have H:=h;clear h;have aO:=A_ H;clear H;go_enter Try.func9,Try.ntmps9
 go_upto_region 1 with(first|((with_reducible refine gt_ 3 ?_);refine be_ 3 #[.int .i64 ak,.slice aN ai.length aT,.slice aQ aj.length aU] 27 ?_;intro be hg w5 aK hb;have ab:=A_ (aK);have bU:=lh_ HB hg;have bB:=lh_ HB hg;replace HB:=bs_ HB hb;clear hb aK hg))
 (try simp only[Act.put,mD,mE,mF])
 go_cut [16] (fun bV wc=>∃ (kq:Nat) (aM:Bool),bV=.bool aM∧Aside0 (ow.j0 kq a1 a2 aM ak ai aj=some r)∧Aside0 (kq≤k)∧Aside0 (wc.heap[be]? =some (.cells #[.int .i64 ak,(.slice aN ai.length aT),(.slice aQ aj.length aU)] 27 (0,0)))∧Aside0 (Below w.heap.size w wc))
 case first=>
  have H:=aO.o;clear aO;replace ⟨bz,A6,H⟩:=bA_ H
  replace H:=Hb_ H;rcases H with⟨rfl,H⟩|⟨rfl,H⟩
  ·replace ⟨bc,A8,H⟩:=bA_ H
   have H':=A_ H
   clear H;have bT:=bq3 ab.o
   go_wp2_with (first|((with_reducible refine gc_ 33 rfl ?_);refine cM_ E33 10 (m_.calls k ak _ _ ai _ _ aj true _ (Kd.mO aI.o HB.o) aG.o (Kd.mO aJ.o HB.o) aH.o A6.o) ?_;rintro e bX ⟨rfl,hb⟩;refine⟨_,rfl,?_⟩;replace ab:=bb_ ab hb;replace HB:=bs_ HB hb;clear hb;(try clear hi))|(go_at_call 34;(with_reducible refine(nR.calls a2 0 3000 bc _ A8.o).mono ?_);rintro e w' ⟨rfl,⟨nd,rfl⟩⟩))
   go_meet
   case rel=>exact⟨_,(!bc),rf,H',⟨om⟩,⟨wk_⟩,⟨wb_⟩⟩
  have H':=A_ H
  clear H;have bM:=bq3 ab.o
  go_wp2_with (first|((with_reducible refine gc_ 33 rfl ?_);refine cM_ E33 10 (m_.calls k ak _ _ ai _ _ aj false _ (Kd.mO aI.o HB.o) aG.o (Kd.mO aJ.o HB.o) aH.o A6.o) ?_;rintro e bY ⟨rfl,hb⟩;refine⟨_,rfl,?_⟩;replace ab:=bb_ ab hb;replace HB:=bs_ HB hb;clear hb;(try clear hi)))
  go_meet
  case rel=>exact⟨_,(true),rf,H',⟨om⟩,ab,HB⟩
 case rest=>
  clear aO;obtain⟨kq,aM,rfl,HA,bK,ab,HB⟩:=hcut
  cases kq with
  |zero=>exact nz_ HA.o
  |succ aP=>
   have H:=HA.o;clear HA;simp only[ow.j0]at H
   replace H:=Hb_ H;rcases H with⟨rfl,H⟩|⟨rfl,H⟩
   ·obtain rfl:=Option.some.inj H
    go_wp2
    go_ret
    exact⟨rf,HB.o⟩
   have H':=A_ H
   clear H
   go_wp2
   go_loopg [7,8] aP (fun kq v7 v8 w'=>∃ (aY:Int) (av:Int),v7=.int .i64 aY∧v8=.int .i64 av∧Aside0 (ow.l0 kq a1 a2 aY av ak ai aj=some r)∧Aside0 (kq≤aP)∧Aside0 (w'.heap[be]? =some (.cells #[.int .i64 ak,(.slice aN ai.length aT),(.slice aQ aj.length aU)] 27 (0,0)))∧Aside0 (Below w.heap.size w w'))
   case atStart=>exact⟨(0),(0),rf,rf,H',⟨Nat.le_refl _⟩,ab,HB⟩
   case round=>
    clear H';obtain⟨aY,av,rfl,rfl,HA,bL,ab,HB⟩:=hrel
    cases gk with
    |zero=>exact nz_ HA.o
    |succ k2=>
     have H:=HA.o;clear HA;simp only[ow.l0]at H
     replace H:=Hi_ H;rcases H with⟨bH,H⟩|⟨bH,H⟩
     ·replace ⟨au,aR,H⟩:=bA_ H
      replace H:=Hj_ H;rcases H with⟨c16,H⟩|⟨c16,H⟩
      ·have bI:(au==a1)=true:=beq_iff_eq.mpr c16
       have bJ:(au !=a1)=false:=bne_eq_false_iff_eq.mpr c16
       clear c16
       have H':=A_ H
       clear H;have bN:=bq3 ab.o
       go_wp2_with (first|((with_reducible refine gc_ 23 rfl ?_);refine cM_ E23 24 (o9.calls k2 ak _ _ ai _ _ aj av au _ (Kd.mO aI.o HB.o) aG.o (Kd.mO aJ.o HB.o) aH.o aR.o) ?_;rintro e bZ ⟨rfl,hb⟩;refine⟨_,rfl,?_⟩;replace ab:=bb_ ab hb;replace HB:=bs_ HB hb;clear hb;(try clear hi)))
       go_roundg k2
       case measure=>have:=bK.o;have:=bL.o;omega
       case rel=>exact⟨(wrap64 (aY+1)),(wrap64 (av+1)),rf,rf,H',⟨by have:=bK.o;have:=bL.o;omega⟩,ab,HB⟩
      have bI:(au==a1)=false:=beq_eq_false_iff_ne.mpr c16
      have bJ:(au !=a1)=true:=bne_iff_ne.mpr c16
      have H':=A_ H
      clear H;have bO:=bq3 ab.o
      go_wp2_with (first|((with_reducible refine gc_ 23 rfl ?_);refine cM_ E23 24 (o9.calls k2 ak _ _ ai _ _ aj av au _ (Kd.mO aI.o HB.o) aG.o (Kd.mO aJ.o HB.o) aH.o aR.o) ?_;rintro e b_ ⟨rfl,hb⟩;refine⟨_,rfl,?_⟩;replace ab:=bb_ ab hb;replace HB:=bs_ HB hb;clear hb;(try clear hi)))
      go_roundg k2
      case measure=>have:=bK.o;have:=bL.o;omega
      case rel=>exact⟨(aY),(wrap64 (av+1)),rf,rf,H',⟨by have:=bK.o;have:=bL.o;omega⟩,ab,HB⟩
     obtain rfl:=Option.some.inj H
     go_wp2
     go_ret
     exact⟨rf,HB.o⟩
def nU.l0:Nat→List Int→List Int→Int→Option (Bool)
 |0,_,_,_=>none
 |k+1,x0,x1,x5=>if x5<(x0.length:Int)then(if 0≤x5 then(if x5<(x1.length:Int)then(if(rd x0 x5)=(rd x1 x5)then(nU.l0 k x0 x1 (wrap64 (x5+1)))else(some false))else(none))else(none))else(some true)
def nU.f (k:Nat) (l0:List Int) (l1:List Int):Option (Bool):=if(l0.length:Int)=(l1.length:Int)then(nU.l0 k l0 l1 0)else(some false)
theorem nU.calls (k:Nat) (A0:Option Addr) (c0:Nat) (l0:List Int) (A1:Option Addr) (c1:Nat) (l1:List Int) (r:Bool) (w:World) (hr0:Kd.C (Kd.int .i64) w A0 l0.length l0) (hc0:l0.length≤c0) (hr1:Kd.C (Kd.int .i64) w A1 l1.length l1) (hc1:l1.length≤c1) (h:nU.f k l0 l1=some r):
  Calls Try.prog 39 #[.slice A0 l0.length c0,.slice A1 l1.length c1] w fun e w'=>e=.returned (.bool r)∧nJ w w':=by
 have aL:=A_ hr0;have aZ:=A_ hc0;clear hr0 hc0;have HR1:=A_ hr1;have a_:=A_ hc1;clear hr1 hc1;unfold nU.f at h;have H:=h;clear h
 replace H:=Hj_ H;rcases H with⟨c3,H⟩|⟨c3,H⟩
 ·have aV:((l0.length:Int)==(l1.length:Int))=true:=beq_iff_eq.mpr c3
  have aW:((l0.length:Int) !=(l1.length:Int))=false:=bne_eq_false_iff_eq.mpr c3
  have aX:(l0.length==l1.length)=true:=by first|simpa using c3|(simp at c3⊢;omega)
  clear c3
  have H':=A_ H
  clear H;go_enter Try.func39,Try.ntmps39
  go_wp2
  repeat (go_quiet (fail);try go_wp2)
  go_loopg [5] k (fun kq v5 w'=>∃ (aa:Int),v5=.int .i64 aa∧Aside0 (nU.l0 kq l0 l1 aa=some r)∧Aside0 (kq≤k)∧nJ w w')
  case atStart=>exact⟨(0),rf,H',⟨Nat.le_refl _⟩,by repeat (first|exact nJ.refl _|apply nJ.step)⟩
  case round=>
   clear H'
   clear aV aW aX
   obtain⟨aa,rfl,HA,bC,⟨m1,rfl⟩⟩:=hrel
   cases gk with
   |zero=>exact nz_ HA.o
   |succ k1=>
    have H:=HA.o;clear HA;simp only[nU.l0]at H
    replace H:=Hi_ H;rcases H with⟨bm,H⟩|⟨bm,H⟩
    ·replace ⟨bP,H⟩:=Hd_ H
     replace ⟨bQ,H⟩:=Hd_ H
     replace H:=Hj_ H;rcases H with⟨c7,H⟩|⟨c7,H⟩
     ·have bR:((rd l0 aa)==(rd l1 aa))=true:=beq_iff_eq.mpr c7
      have bS:((rd l0 aa) !=(rd l1 aa))=false:=bne_eq_false_iff_eq.mpr c7
      clear c7
      have H':=A_ H
      clear H
      have aw:0≤(aa:Int):=oa_
      have aA:aa<(l0.length:Int):=oa_
      obtain⟨bD,br,a7⟩:=Kd.nM aL.o aa aw aA
      cases br
      replace aw:=eq_true aw;replace aA:=eq_true aA
      have ax:0≤(aa:Int):=oa_
      have aC:aa<(l1.length:Int):=oa_
      obtain⟨bE,bu,a8⟩:=Kd.nM HR1.o aa ax aC
      cases bu
      replace ax:=eq_true ax;replace aC:=eq_true aC
      go_wp2
      repeat (go_quiet (fail);try go_wp2)
      go_roundg k1
      case measure=>have:=bC.o;omega
      case rel=>exact⟨(wrap64 (aa+1)),rf,H',⟨by have:=bC.o;omega⟩,by repeat (first|exact nJ.refl _|apply nJ.step)⟩
     have bR:((rd l0 aa)==(rd l1 aa))=false:=beq_eq_false_iff_ne.mpr c7
     have bS:((rd l0 aa) !=(rd l1 aa))=true:=bne_iff_ne.mpr c7
     obtain rfl:=Option.some.inj H
     have aw:0≤(aa:Int):=oa_
     have aA:aa<(l0.length:Int):=oa_
     obtain⟨bD,br,a7⟩:=Kd.nM aL.o aa aw aA
     cases br
     replace aw:=eq_true aw;replace aA:=eq_true aA
     have ax:0≤(aa:Int):=oa_
     have aC:aa<(l1.length:Int):=oa_
     obtain⟨bE,bu,a8⟩:=Kd.nM HR1.o aa ax aC
     cases bu
     replace ax:=eq_true ax;replace aC:=eq_true aC
     go_wp2
     repeat (go_quiet (fail);try go_wp2)
     go_ret
     exact⟨rf,by repeat (first|exact nJ.refl _|apply nJ.step)⟩
    obtain rfl:=Option.some.inj H
    go_wp2
    repeat (go_quiet (fail);try go_wp2)
    go_ret
    exact⟨rf,by repeat (first|exact nJ.refl _|apply nJ.step)⟩
 have aV:((l0.length:Int)==(l1.length:Int))=false:=beq_eq_false_iff_ne.mpr c3
 have aW:((l0.length:Int) !=(l1.length:Int))=true:=bne_iff_ne.mpr c3
 have aX:(l0.length==l1.length)=false:=by first|simpa using c3|(simp at c3⊢;omega)
 obtain rfl:=Option.some.inj H;go_enter Try.func39,Try.ntmps39
 go_wp2
 repeat (go_quiet (fail);try go_wp2)
 go_ret
 exact⟨rf,by repeat (first|exact nJ.refl _|apply nJ.step)⟩
def pz.l0:Nat→List (List Int)→List (List Int)→Int→Option (Bool)
 |0,_,_,_=>none
 |k+1,x0,x1,x5=>if x5<(x0.length:Int)then(if 0≤x5 then(if x5<(x1.length:Int)then((nU.f k (f_ x0 x5) (f_ x1 x5)).bind fun bA=>(if bA=true then(pz.l0 k x0 x1 (wrap64 (x5+1)))else(some false)))else(none))else(none))else(some true)
def pz.f (k:Nat) (l0:List (List Int)) (l1:List (List Int)):Option (Bool):=if(l0.length:Int)=(l1.length:Int)then(pz.l0 k l0 l1 0)else(some false)
theorem pz.calls (k:Nat) (A0:Option Addr) (c0:Nat) (l0:List (List Int)) (A1:Option Addr) (c1:Nat) (l1:List (List Int)) (r:Bool) (w:World) (hr0:Kd.C (Kd.slice 3 (Kd.int .i64)) w A0 l0.length l0) (hc0:l0.length≤c0) (hr1:Kd.C (Kd.slice 3 (Kd.int .i64)) w A1 l1.length l1) (hc1:l1.length≤c1) (h:pz.f k l0 l1=some r):
  Calls Try.prog 40 #[.slice A0 l0.length c0,.slice A1 l1.length c1] w fun e w'=>e=.returned (.bool r)∧nJ w w':=by
 have aL:=A_ hr0;have aZ:=A_ hc0;clear hr0 hc0;have HR1:=A_ hr1;have a_:=A_ hc1;clear hr1 hc1;unfold pz.f at h;have H:=h;clear h
 replace H:=Hj_ H;rcases H with⟨c3,H⟩|⟨c3,H⟩
 ·have aV:((l0.length:Int)==(l1.length:Int))=true:=beq_iff_eq.mpr c3
  have aW:((l0.length:Int) !=(l1.length:Int))=false:=bne_eq_false_iff_eq.mpr c3
  have aX:(l0.length==l1.length)=true:=by first|simpa using c3|(simp at c3⊢;omega)
  clear c3
  have H':=A_ H
  clear H;go_enter Try.func40,Try.ntmps40
  go_wp2
  repeat (go_quiet (fail);try go_wp2)
  go_loopg [5] k (fun kq v5 w'=>∃ (aa:Int),v5=.int .i64 aa∧Aside0 (pz.l0 kq l0 l1 aa=some r)∧Aside0 (kq≤k)∧nJ w w')
  case atStart=>exact⟨(0),rf,H',⟨Nat.le_refl _⟩,by repeat (first|exact nJ.refl _|apply nJ.step)⟩
  case round=>
   clear H'
   clear aV aW aX
   obtain⟨aa,rfl,HA,bC,⟨m1,rfl⟩⟩:=hrel
   cases gk with
   |zero=>exact nz_ HA.o
   |succ k1=>
    have H:=HA.o;clear HA;simp only[pz.l0]at H
    replace H:=Hi_ H;rcases H with⟨bm,H⟩|⟨bm,H⟩
    ·replace ⟨bP,H⟩:=Hd_ H
     replace ⟨bQ,H⟩:=Hd_ H
     replace ⟨bA,A7,H⟩:=bA_ H
     replace H:=Hb_ H;rcases H with⟨rfl,H⟩|⟨rfl,H⟩
     ·have H':=A_ H
      clear H
      have ay:0≤(aa:Int):=oa_
      have aD:aa<(l0.length:Int):=oa_
      obtain⟨bF,bj,bn,bv,a9,an,al⟩:=qM aL.o aa ay aD
      cases bv
      have ag:=A_ al;have ae:=A_ an;clear al an;replace ay:=eq_true ay;replace aD:=eq_true aD
      have az:0≤(aa:Int):=oa_
      have aE:aa<(l1.length:Int):=oa_
      obtain⟨bG,bk,bq,bw,ba,ao,am⟩:=qM HR1.o aa az aE
      cases bw
      have ah:=A_ am;have af:=A_ ao;clear am ao;replace az:=eq_true az;replace aE:=eq_true aE
      go_wp2_with (first|(go_at_call 39;(with_reducible refine(nU.calls k1 _ _ (f_ l0 aa) _ _ (f_ l1 aa) true _ ?J ?U ?aB ?aF A7.o).mono ?_);(case J=>repeat (first|exact ag.o|(with_reducible refine Kd.C_alloc ?_ _)|(with_reducible refine Kd.oH ?_ _)|(with_reducible refine Kd.pG ?_)));(case U=>exact ae.o);(case aB=>repeat (first|exact ah.o|(with_reducible refine Kd.C_alloc ?_ _)|(with_reducible refine Kd.oH ?_ _)|(with_reducible refine Kd.pG ?_)));(case aF=>exact af.o);rintro e w' ⟨rfl,⟨nd,rfl⟩⟩;skip))
      repeat (go_quiet (first|(go_at_call 39;(with_reducible refine(nU.calls k1 _ _ (f_ l0 aa) _ _ (f_ l1 aa) true _ ?J ?U ?aB ?aF A7.o).mono ?_);(case J=>repeat (first|exact ag.o|(with_reducible refine Kd.C_alloc ?_ _)|(with_reducible refine Kd.oH ?_ _)|(with_reducible refine Kd.pG ?_)));(case U=>exact ae.o);(case aB=>repeat (first|exact ah.o|(with_reducible refine Kd.C_alloc ?_ _)|(with_reducible refine Kd.oH ?_ _)|(with_reducible refine Kd.pG ?_)));(case aF=>exact af.o);rintro e w' ⟨rfl,⟨nd,rfl⟩⟩;exact⟨rfl,_,Eq.trans (World.drewN_drewN _ _ _) (congrArg (World.drewN _) (Nat.add_assoc _ _ _))⟩));try go_wp2_with (first|(go_at_call 39;(with_reducible refine(nU.calls k1 _ _ (f_ l0 aa) _ _ (f_ l1 aa) true _ ?J ?U ?aB ?aF A7.o).mono ?_);(case J=>repeat (first|exact ag.o|(with_reducible refine Kd.C_alloc ?_ _)|(with_reducible refine Kd.oH ?_ _)|(with_reducible refine Kd.pG ?_)));(case U=>exact ae.o);(case aB=>repeat (first|exact ah.o|(with_reducible refine Kd.C_alloc ?_ _)|(with_reducible refine Kd.oH ?_ _)|(with_reducible refine Kd.pG ?_)));(case aF=>exact af.o);rintro e w' ⟨rfl,⟨nd,rfl⟩⟩;skip)))
      go_roundg k1
      case measure=>have:=bC.o;omega
      case rel=>exact⟨(wrap64 (aa+1)),rf,H',⟨by have:=bC.o;omega⟩,by repeat (first|exact nJ.refl _|apply nJ.step)⟩
     obtain rfl:=Option.some.inj H
     have ay:0≤(aa:Int):=oa_
     have aD:aa<(l0.length:Int):=oa_
     obtain⟨bF,bj,bn,bv,a9,an,al⟩:=qM aL.o aa ay aD
     cases bv
     have ag:=A_ al;have ae:=A_ an;clear al an;replace ay:=eq_true ay;replace aD:=eq_true aD
     have az:0≤(aa:Int):=oa_
     have aE:aa<(l1.length:Int):=oa_
     obtain⟨bG,bk,bq,bw,ba,ao,am⟩:=qM HR1.o aa az aE
     cases bw
     have ah:=A_ am;have af:=A_ ao;clear am ao;replace az:=eq_true az;replace aE:=eq_true aE
     go_wp2_with (first|(go_at_call 39;(with_reducible refine(nU.calls k1 _ _ (f_ l0 aa) _ _ (f_ l1 aa) false _ ?J ?U ?aB ?aF A7.o).mono ?_);(case J=>repeat (first|exact ag.o|(with_reducible refine Kd.C_alloc ?_ _)|(with_reducible refine Kd.oH ?_ _)|(with_reducible refine Kd.pG ?_)));(case U=>exact ae.o);(case aB=>repeat (first|exact ah.o|(with_reducible refine Kd.C_alloc ?_ _)|(with_reducible refine Kd.oH ?_ _)|(with_reducible refine Kd.pG ?_)));(case aF=>exact af.o);rintro e w' ⟨rfl,⟨nd,rfl⟩⟩;skip))
     repeat (go_quiet (first|(go_at_call 39;(with_reducible refine(nU.calls k1 _ _ (f_ l0 aa) _ _ (f_ l1 aa) false _ ?J ?U ?aB ?aF A7.o).mono ?_);(case J=>repeat (first|exact ag.o|(with_reducible refine Kd.C_alloc ?_ _)|(with_reducible refine Kd.oH ?_ _)|(with_reducible refine Kd.pG ?_)));(case U=>exact ae.o);(case aB=>repeat (first|exact ah.o|(with_reducible refine Kd.C_alloc ?_ _)|(with_reducible refine Kd.oH ?_ _)|(with_reducible refine Kd.pG ?_)));(case aF=>exact af.o);rintro e w' ⟨rfl,⟨nd,rfl⟩⟩;exact⟨rfl,_,Eq.trans (World.drewN_drewN _ _ _) (congrArg (World.drewN _) (Nat.add_assoc _ _ _))⟩));try go_wp2_with (first|(go_at_call 39;(with_reducible refine(nU.calls k1 _ _ (f_ l0 aa) _ _ (f_ l1 aa) false _ ?J ?U ?aB ?aF A7.o).mono ?_);(case J=>repeat (first|exact ag.o|(with_reducible refine Kd.C_alloc ?_ _)|(with_reducible refine Kd.oH ?_ _)|(with_reducible refine Kd.pG ?_)));(case U=>exact ae.o);(case aB=>repeat (first|exact ah.o|(with_reducible refine Kd.C_alloc ?_ _)|(with_reducible refine Kd.oH ?_ _)|(with_reducible refine Kd.pG ?_)));(case aF=>exact af.o);rintro e w' ⟨rfl,⟨nd,rfl⟩⟩;skip)))
     go_ret
     exact⟨rf,by repeat (first|exact nJ.refl _|apply nJ.step)⟩
    obtain rfl:=Option.some.inj H
    go_wp2
    repeat (go_quiet (fail);try go_wp2)
    go_ret
    exact⟨rf,by repeat (first|exact nJ.refl _|apply nJ.step)⟩
 have aV:((l0.length:Int)==(l1.length:Int))=false:=beq_eq_false_iff_ne.mpr c3
 have aW:((l0.length:Int) !=(l1.length:Int))=true:=bne_iff_ne.mpr c3
 have aX:(l0.length==l1.length)=false:=by first|simpa using c3|(simp at c3⊢;omega)
 obtain rfl:=Option.some.inj H;go_enter Try.func40,Try.ntmps40
 go_wp2
 repeat (go_quiet (fail);try go_wp2)
 go_ret
 exact⟨rf,by repeat (first|exact nJ.refl _|apply nJ.step)⟩
mutual
def oh.j0:Nat→Bool→Int→List Int→List (List (List Int))→List Int→Int→List Int→List (List (List Int))→List Int→Option (Bool)
 |0,_,_,_,_,_,_,_,_,_=>none
 |k+1,du,aY,a7,aM,a8,a9,ba,aN,bc=>if du=true then(some false)else(oh.l0 k 0 aY a7 aM a8 a9 ba aN bc)
def oh.l0:Nat→Int→Int→List Int→List (List (List Int))→List Int→Int→List Int→List (List (List Int))→List Int→Option (Bool)
 |0,_,_,_,_,_,_,_,_,_=>none
 |k+1,x5,aY,a7,aM,a8,a9,ba,aN,bc=>if x5<(aM.length:Int)then(if 0≤x5 then(if x5<(aN.length:Int)then((pz.f k (nH aM x5) (nH aN x5)).bind fun b6=>(if b6=true then(oh.l0 k (wrap64 (x5+1)) aY a7 aM a8 a9 ba aN bc)else(some false)))else(none))else(none))else(some true)
end
def oh.f (k:Nat) (ao:Int) (aj:List Int) (ah:List (List (List Int))) (am:List Int) (ap:Int) (ak:List Int) (ai:List (List (List Int))) (an:List Int):Option (Bool):=if ao=ap then((nU.f k aj ak).bind fun b4=>(if b4=true then((nU.f k am an).bind fun b5=>(if b5=true then(oh.j0 k ((ah.length:Int) !=(ai.length:Int)) ao aj ah am ap ak ai an)else(oh.j0 k true ao aj ah am ap ak ai an)))else(oh.j0 k true ao aj ah am ap ak ai an)))else(oh.j0 k true ao aj ah am ap ak ai an)
theorem oh.calls (k:Nat) (ao:Int) (be:Option Addr) (bk:Nat) (aj:List Int) (bf:Option Addr) (bm:Nat) (ah:List (List (List Int))) (bg:Option Addr) (bn:Nat) (am:List Int) (ap:Int) (bh:Option Addr) (bq:Nat) (ak:List Int) (bi:Option Addr) (br:Nat) (ai:List (List (List Int))) (bj:Option Addr) (bu:Nat) (an:List Int) (r:Bool) (w:World) (bR:Kd.C (Kd.int .i64) w be aj.length aj) (bL:aj.length≤bk) (bS:Kd.C (Kd.slice 25 (Kd.slice 3 (Kd.int .i64))) w bf ah.length ah) (bM:ah.length≤bm) (bT:Kd.C (Kd.int .i64) w bg am.length am) (bN:am.length≤bn) (bU:Kd.C (Kd.int .i64) w bh ak.length ak) (bO:ak.length≤bq) (bV:Kd.C (Kd.slice 25 (Kd.slice 3 (Kd.int .i64))) w bi ai.length ai) (bP:ai.length≤br) (bW:Kd.C (Kd.int .i64) w bj an.length an) (bQ:an.length≤bu) (h:oh.f k ao aj ah am ap ak ai an=some r):
  Calls Try.prog 12 #[.agg #[.int .i64 ao,.slice be aj.length bk,.slice bf ah.length bm,.slice bg am.length bn],.agg #[.int .i64 ap,.slice bh ak.length bq,.slice bi ai.length br,.slice bj an.length bu]] w fun e w'=>e=.returned (.bool r)∧Below w.heap.size w w':=by
 have aS:=Try.underlying33;have aD:=A_ bR;have aA:=A_ bL;clear bR bL;have bI:=A_ bS;have cO:=A_ bM;clear bS bM;have aW:=A_ bT;have aU:=A_ bN;clear bT bN;have aE:=A_ bU;have aC:=A_ bO;clear bU bO;have bJ:=A_ bV;have cP:=A_ bP;clear bV bP;have aX:=A_ bW;have aV:=A_ bQ;clear bW bQ;have HB:=A_ (Below.refl w.heap.size w);unfold oh.f at h;have H:=h;clear h;have aO:=A_ H;clear H;go_enter Try.func12,Try.ntmps12
 go_upto_region 1 with(first|((with_reducible refine gt_ 2 ?_);(try (refine qV rf ?_;dsimp only));refine be_ 2 #[.int .i64 ao,.slice be aj.length bk,.slice bf ah.length bm,.slice bg am.length bn] 33 ?_;intro bB hg w4 aK hb;have aa:=A_ (aK);have bG:=lh_ HB hg;have ay:=lh_ HB hg;replace HB:=bs_ HB hb;clear hb aK hg)|((with_reducible refine gt_ 3 ?_);(try (refine qV rf ?_;dsimp only));refine be_ 3 #[.int .i64 ap,.slice bh ak.length bq,.slice bi ai.length br,.slice bj an.length bu] 33 ?_;intro bC hg w5 aK hb;have al:=A_ (aK);have bH:=lh_ HB hg;have az:=lh_ HB hg;replace HB:=bs_ HB hb;have ab:=nl_ aa hg;have ae:=ng_ aa hg;replace aa:=bb_ aa hb;clear hb aK hg))
 repeat (go_quiet (first|((with_reducible refine gt_ 2 ?_);(try (refine qV rf ?_;dsimp only));refine vH ?hg (N:=2) ?hd (cs:= #[.int .i64 ao,.slice be aj.length bk,.slice bf ah.length bm,.slice bg am.length bn]) (t:=33) ?hr ?_;(case hd|hg=>rfl);(case hr=>first|(go_simp;done)|(go_simp;rfl));intro bB hg w4 aK hb;have aa:=A_ (aK);have bG:=lh_ HB hg;have ay:=lh_ HB hg;replace HB:=bs_ HB hb;clear hb aK hg)|((with_reducible refine gt_ 3 ?_);(try (refine qV rf ?_;dsimp only));refine vH ?hg (N:=3) ?hd (cs:= #[.int .i64 ap,.slice bh ak.length bq,.slice bi ai.length br,.slice bj an.length bu]) (t:=33) ?hr ?_;(case hd|hg=>rfl);(case hr=>first|(go_simp;done)|(go_simp;rfl));intro bC hg w5 aK hb;have al:=A_ (aK);have bH:=lh_ HB hg;have az:=lh_ HB hg;replace HB:=bs_ HB hb;have ab:=nl_ aa hg;have ae:=ng_ aa hg;replace aa:=bb_ aa hb;clear hb aK hg));go_upto_region 1 with(first|((with_reducible refine gt_ 2 ?_);(try (refine qV rf ?_;dsimp only));refine vH ?hg (N:=2) ?hd (cs:= #[.int .i64 ao,.slice be aj.length bk,.slice bf ah.length bm,.slice bg am.length bn]) (t:=33) ?hr ?_;(case hd|hg=>rfl);(case hr=>first|(go_simp;done)|(go_simp;rfl));intro bB hg w4 aK hb;have aa:=A_ (aK);have bG:=lh_ HB hg;have ay:=lh_ HB hg;replace HB:=bs_ HB hb;clear hb aK hg)|((with_reducible refine gt_ 3 ?_);(try (refine qV rf ?_;dsimp only));refine vH ?hg (N:=3) ?hd (cs:= #[.int .i64 ap,.slice bh ak.length bq,.slice bi ai.length br,.slice bj an.length bu]) (t:=33) ?hr ?_;(case hd|hg=>rfl);(case hr=>first|(go_simp;done)|(go_simp;rfl));intro bC hg w5 aK hb;have al:=A_ (aK);have bH:=lh_ HB hg;have az:=lh_ HB hg;replace HB:=bs_ HB hb;have ab:=nl_ aa hg;have ae:=ng_ aa hg;replace aa:=bb_ aa hb;clear hb aK hg)))
 (try simp only[Act.put,mD,mE,mF])
 go_cut [35] (fun dt wc=>∃ (kq:Nat) (bE:Bool),dt=.bool bE∧Aside0 (oh.j0 kq bE ao aj ah am ap ak ai an=some r)∧Aside0 (kq≤k)∧Aside0 (wc.heap[bB]? =some (.cells #[.int .i64 ao,(.slice be aj.length bk),(.slice bf ah.length bm),(.slice bg am.length bn)] 33 (0,0)))∧Aside0 (wc.heap[bC]? =some (.cells #[.int .i64 ap,(.slice bh ak.length bq),(.slice bi ai.length br),(.slice bj an.length bu)] 33 (0,0)))∧Aside0 (Below w.heap.size w wc))
 case first=>
  have H:=aO.o;clear aO
  replace H:=Hj_ H;rcases H with⟨c6,H⟩|⟨c6,H⟩
  ·have cg:(ao==ap)=true:=beq_iff_eq.mpr c6
   have cK:(ao !=ap)=false:=bne_eq_false_iff_eq.mpr c6
   clear c6
   (skip)
   replace ⟨b4,A7,H⟩:=bA_ H
   replace H:=Hb_ H;rcases H with⟨rfl,H⟩|⟨rfl,H⟩
   ·replace ⟨b5,A9,H⟩:=bA_ H
    replace H:=Hb_ H;rcases H with⟨rfl,H⟩|⟨rfl,H⟩
    ·have H':=A_ H
     clear H;have cX:=ab.o;have df:=ae.o;have ch:=bq4 aa.o;have ci:=bq4 al.o
     go_wp2_with (first|(go_at_call 39;(with_reducible refine(nU.calls k _ _ aj _ _ ak true _ ?J ?U ?aB ?aF A7.o).mono ?_);(case J=>exact(Kd.mO aD.o HB.o));(case U=>exact aA.o);(case aB=>exact(Kd.mO aE.o HB.o));(case aF=>exact aC.o);rintro e w' ⟨rfl,⟨nd,rfl⟩⟩;skip)|(go_at_call 39;(with_reducible refine(nU.calls k _ _ am _ _ an true _ ?J ?U ?aB ?aF A9.o).mono ?_);(case J=>repeat (first|exact(Kd.mO aW.o wb_)|(with_reducible refine Kd.C_alloc ?_ _)|(with_reducible refine Kd.oH ?_ _)|(with_reducible refine Kd.pG ?_)));(case U=>exact aU.o);(case aB=>repeat (first|exact(Kd.mO aX.o wb_)|(with_reducible refine Kd.C_alloc ?_ _)|(with_reducible refine Kd.oH ?_ _)|(with_reducible refine Kd.pG ?_)));(case aF=>exact aV.o);rintro e w' ⟨rfl,⟨nd,rfl⟩⟩;skip))
     repeat (go_quiet (first|(go_at_call 39;(with_reducible refine(nU.calls k _ _ aj _ _ ak true _ ?J ?U ?aB ?aF A7.o).mono ?_);(case J=>exact(Kd.mO aD.o HB.o));(case U=>exact aA.o);(case aB=>exact(Kd.mO aE.o HB.o));(case aF=>exact aC.o);rintro e w' ⟨rfl,⟨nd,rfl⟩⟩;skip)|(go_at_call 39;(with_reducible refine(nU.calls k _ _ am _ _ an true _ ?J ?U ?aB ?aF A9.o).mono ?_);(case J=>repeat (first|exact(Kd.mO aW.o HB.o)|(with_reducible refine Kd.C_alloc ?_ _)|(with_reducible refine Kd.oH ?_ _)|(with_reducible refine Kd.pG ?_)));(case U=>exact aU.o);(case aB=>repeat (first|exact(Kd.mO aX.o HB.o)|(with_reducible refine Kd.C_alloc ?_ _)|(with_reducible refine Kd.oH ?_ _)|(with_reducible refine Kd.pG ?_)));(case aF=>exact aV.o);rintro e w' ⟨rfl,⟨nd,rfl⟩⟩;skip));try go_wp2_with (first|(go_at_call 39;(with_reducible refine(nU.calls k _ _ aj _ _ ak true _ ?J ?U ?aB ?aF A7.o).mono ?_);(case J=>exact(Kd.mO aD.o HB.o));(case U=>exact aA.o);(case aB=>exact(Kd.mO aE.o HB.o));(case aF=>exact aC.o);rintro e w' ⟨rfl,⟨nd,rfl⟩⟩;skip)|(go_at_call 39;(with_reducible refine(nU.calls k _ _ am _ _ an true _ ?J ?U ?aB ?aF A9.o).mono ?_);(case J=>repeat (first|exact(Kd.mO aW.o HB.o)|(with_reducible refine Kd.C_alloc ?_ _)|(with_reducible refine Kd.oH ?_ _)|(with_reducible refine Kd.pG ?_)));(case U=>exact aU.o);(case aB=>repeat (first|exact(Kd.mO aX.o HB.o)|(with_reducible refine Kd.C_alloc ?_ _)|(with_reducible refine Kd.oH ?_ _)|(with_reducible refine Kd.pG ?_)));(case aF=>exact aV.o);rintro e w' ⟨rfl,⟨nd,rfl⟩⟩;skip)))
     go_meet
     case rel=>exact⟨_,(((ah.length:Int) !=(ai.length:Int))),rf,H',⟨om⟩,⟨wk_⟩,⟨wk_⟩,⟨wb_⟩⟩
    have H':=A_ H
    clear H;have cY:=ab.o;have dg:=ae.o;have ck:=bq4 aa.o;have co:=bq4 al.o
    go_wp2_with (first|(go_at_call 39;(with_reducible refine(nU.calls k _ _ aj _ _ ak true _ ?J ?U ?aB ?aF A7.o).mono ?_);(case J=>exact(Kd.mO aD.o HB.o));(case U=>exact aA.o);(case aB=>exact(Kd.mO aE.o HB.o));(case aF=>exact aC.o);rintro e w' ⟨rfl,⟨nd,rfl⟩⟩;skip)|(go_at_call 39;(with_reducible refine(nU.calls k _ _ am _ _ an false _ ?J ?U ?aB ?aF A9.o).mono ?_);(case J=>repeat (first|exact(Kd.mO aW.o wb_)|(with_reducible refine Kd.C_alloc ?_ _)|(with_reducible refine Kd.oH ?_ _)|(with_reducible refine Kd.pG ?_)));(case U=>exact aU.o);(case aB=>repeat (first|exact(Kd.mO aX.o wb_)|(with_reducible refine Kd.C_alloc ?_ _)|(with_reducible refine Kd.oH ?_ _)|(with_reducible refine Kd.pG ?_)));(case aF=>exact aV.o);rintro e w' ⟨rfl,⟨nd,rfl⟩⟩;skip))
    repeat (go_quiet (first|(go_at_call 39;(with_reducible refine(nU.calls k _ _ aj _ _ ak true _ ?J ?U ?aB ?aF A7.o).mono ?_);(case J=>exact(Kd.mO aD.o HB.o));(case U=>exact aA.o);(case aB=>exact(Kd.mO aE.o HB.o));(case aF=>exact aC.o);rintro e w' ⟨rfl,⟨nd,rfl⟩⟩;skip)|(go_at_call 39;(with_reducible refine(nU.calls k _ _ am _ _ an false _ ?J ?U ?aB ?aF A9.o).mono ?_);(case J=>repeat (first|exact(Kd.mO aW.o HB.o)|(with_reducible refine Kd.C_alloc ?_ _)|(with_reducible refine Kd.oH ?_ _)|(with_reducible refine Kd.pG ?_)));(case U=>exact aU.o);(case aB=>repeat (first|exact(Kd.mO aX.o HB.o)|(with_reducible refine Kd.C_alloc ?_ _)|(with_reducible refine Kd.oH ?_ _)|(with_reducible refine Kd.pG ?_)));(case aF=>exact aV.o);rintro e w' ⟨rfl,⟨nd,rfl⟩⟩;skip));try go_wp2_with (first|(go_at_call 39;(with_reducible refine(nU.calls k _ _ aj _ _ ak true _ ?J ?U ?aB ?aF A7.o).mono ?_);(case J=>exact(Kd.mO aD.o HB.o));(case U=>exact aA.o);(case aB=>exact(Kd.mO aE.o HB.o));(case aF=>exact aC.o);rintro e w' ⟨rfl,⟨nd,rfl⟩⟩;skip)|(go_at_call 39;(with_reducible refine(nU.calls k _ _ am _ _ an false _ ?J ?U ?aB ?aF A9.o).mono ?_);(case J=>repeat (first|exact(Kd.mO aW.o HB.o)|(with_reducible refine Kd.C_alloc ?_ _)|(with_reducible refine Kd.oH ?_ _)|(with_reducible refine Kd.pG ?_)));(case U=>exact aU.o);(case aB=>repeat (first|exact(Kd.mO aX.o HB.o)|(with_reducible refine Kd.C_alloc ?_ _)|(with_reducible refine Kd.oH ?_ _)|(with_reducible refine Kd.pG ?_)));(case aF=>exact aV.o);rintro e w' ⟨rfl,⟨nd,rfl⟩⟩;skip)))
    go_meet
    case rel=>exact⟨_,(true),rf,H',⟨om⟩,⟨wk_⟩,⟨wk_⟩,⟨wb_⟩⟩
   have H':=A_ H
   clear H;have cZ:=ab.o;have dh:=ae.o;have cw:=bq4 aa.o;have cA:=bq4 al.o
   go_wp2_with (first|(go_at_call 39;(with_reducible refine(nU.calls k _ _ aj _ _ ak false _ ?J ?U ?aB ?aF A7.o).mono ?_);(case J=>exact(Kd.mO aD.o HB.o));(case U=>exact aA.o);(case aB=>exact(Kd.mO aE.o HB.o));(case aF=>exact aC.o);rintro e w' ⟨rfl,⟨nd,rfl⟩⟩;skip))
   repeat (go_quiet (first|(go_at_call 39;(with_reducible refine(nU.calls k _ _ aj _ _ ak false _ ?J ?U ?aB ?aF A7.o).mono ?_);(case J=>exact(Kd.mO aD.o HB.o));(case U=>exact aA.o);(case aB=>exact(Kd.mO aE.o HB.o));(case aF=>exact aC.o);rintro e w' ⟨rfl,⟨nd,rfl⟩⟩;skip));try go_wp2_with (first|(go_at_call 39;(with_reducible refine(nU.calls k _ _ aj _ _ ak false _ ?J ?U ?aB ?aF A7.o).mono ?_);(case J=>exact(Kd.mO aD.o HB.o));(case U=>exact aA.o);(case aB=>exact(Kd.mO aE.o HB.o));(case aF=>exact aC.o);rintro e w' ⟨rfl,⟨nd,rfl⟩⟩;skip)))
   go_meet
   case rel=>exact⟨_,(true),rf,H',⟨om⟩,⟨wk_⟩,⟨wk_⟩,⟨wb_⟩⟩
  have cg:(ao==ap)=false:=beq_eq_false_iff_ne.mpr c6
  have cK:(ao !=ap)=true:=bne_iff_ne.mpr c6
  (skip)
  have H':=A_ H
  clear H;have da:=ab.o;have di:=ae.o;have cB:=bq4 aa.o;have cC:=bq4 al.o
  go_wp2
  repeat (go_quiet (fail);try go_wp2)
  go_meet
  case rel=>exact⟨_,(true),rf,H',⟨om⟩,aa,al,HB⟩
 case rest=>
  clear aO;obtain⟨kq,bE,rfl,HA,cQ,aa,al,HB⟩:=hcut
  cases kq with
  |zero=>exact nz_ HA.o
  |succ aR=>
   have H:=HA.o;clear HA;simp only[oh.j0]at H
   replace H:=Hb_ H;rcases H with⟨rfl,H⟩|⟨rfl,H⟩
   ·obtain rfl:=Option.some.inj H
    go_wp2
    repeat (go_quiet (fail);try go_wp2)
    go_ret
    exact⟨rf,HB.o⟩
   have H':=A_ H
   clear H
   go_wp2
   repeat (go_quiet (fail);try go_wp2)
   go_loopg [5] aR (fun kq v5 w'=>∃ (af:Int),v5=.int .i64 af∧Aside0 (oh.l0 kq af ao aj ah am ap ak ai an=some r)∧Aside0 (kq≤aR)∧Aside0 (w'.heap[bB]? =some (.cells #[.int .i64 ao,(.slice be aj.length bk),(.slice bf ah.length bm),(.slice bg am.length bn)] 33 (0,0)))∧Aside0 (w'.heap[bC]? =some (.cells #[.int .i64 ap,(.slice bh ak.length bq),(.slice bi ai.length br),(.slice bj an.length bu)] 33 (0,0)))∧Aside0 (Below w.heap.size w w'))
   case atStart=>exact⟨(0),rf,H',⟨Nat.le_refl _⟩,aa,al,HB⟩
   case round=>
    clear H';obtain⟨af,rfl,HA,cU,aa,al,HB⟩:=hrel
    cases gk with
    |zero=>exact nz_ HA.o
    |succ k2=>
     have H:=HA.o;clear HA;simp only[oh.l0]at H
     replace H:=Hi_ H;rcases H with⟨cc,H⟩|⟨cc,H⟩
     ·replace ⟨cV,H⟩:=Hd_ H
      replace ⟨cW,H⟩:=Hd_ H
      replace ⟨b6,aL,H⟩:=bA_ H
      replace H:=Hb_ H;rcases H with⟨rfl,H⟩|⟨rfl,H⟩
      ·have H':=A_ H
       clear H;have db:=ab.o;have dj:=ae.o;have cD:=bq4 aa.o
       have bv:0≤(af:Int):=oa_
       have bz:af<(ah.length:Int):=oa_
       obtain⟨b8,bX,bZ,b2,aw,aI,aG⟩:=wI bI.o af bv bz
       cases b2
       replace aw:=cm_ HB aw;have au:=A_ aG;have aq:=A_ aI;clear aG aI;replace bv:=eq_true bv;replace bz:=eq_true bz;have cE:=bq4 al.o
       have bw:0≤(af:Int):=oa_
       have bA:af<(ai.length:Int):=oa_
       obtain⟨b9,bY,b1,b3,ax,aJ,aH⟩:=wI bJ.o af bw bA
       cases b3
       replace ax:=cm_ HB ax;have av:=A_ aH;have ar:=A_ aJ;clear aH aJ;replace bw:=eq_true bw;replace bA:=eq_true bA
       go_wp2_with (first|(go_at_call 40;(with_reducible refine(pz.calls k2 _ _ (nH ah af) _ _ (nH ai af) true _ ?J ?U ?aB ?aF aL.o).mono ?_);(case J=>exact(Kd.mO au.o HB.o));(case U=>exact aq.o);(case aB=>exact(Kd.mO av.o HB.o));(case aF=>exact ar.o);rintro e w' ⟨rfl,⟨nd,rfl⟩⟩;skip))
       repeat (go_quiet (first|(go_at_call 40;(with_reducible refine(pz.calls k2 _ _ (nH ah af) _ _ (nH ai af) true _ ?J ?U ?aB ?aF aL.o).mono ?_);(case J=>repeat (first|exact(Kd.mO au.o HB.o)|(with_reducible refine Kd.C_alloc ?_ _)|(with_reducible refine Kd.oH ?_ _)|(with_reducible refine Kd.pG ?_)));(case U=>exact aq.o);(case aB=>repeat (first|exact(Kd.mO av.o HB.o)|(with_reducible refine Kd.C_alloc ?_ _)|(with_reducible refine Kd.oH ?_ _)|(with_reducible refine Kd.pG ?_)));(case aF=>exact ar.o);rintro e w' ⟨rfl,⟨nd,rfl⟩⟩;exact⟨rfl,_,World.drewN_drewN _ _ _⟩));try go_wp2_with (first|(go_at_call 40;(with_reducible refine(pz.calls k2 _ _ (nH ah af) _ _ (nH ai af) true _ ?J ?U ?aB ?aF aL.o).mono ?_);(case J=>exact(Kd.mO au.o HB.o));(case U=>exact aq.o);(case aB=>exact(Kd.mO av.o HB.o));(case aF=>exact ar.o);rintro e w' ⟨rfl,⟨nd,rfl⟩⟩;skip)))
       go_roundg k2
       case measure=>have:=cQ.o;have:=cU.o;omega
       case rel=>exact⟨(wrap64 (af+1)),rf,H',⟨by have:=cQ.o;have:=cU.o;omega⟩,⟨wk_⟩,⟨wk_⟩,⟨wb_⟩⟩
      obtain rfl:=Option.some.inj H;have dd:=ab.o;have dk:=ae.o;have cF:=bq4 aa.o
      have bv:0≤(af:Int):=oa_
      have bz:af<(ah.length:Int):=oa_
      obtain⟨b8,bX,bZ,b2,aw,aI,aG⟩:=wI bI.o af bv bz
      cases b2
      replace aw:=cm_ HB aw;have au:=A_ aG;have aq:=A_ aI;clear aG aI;replace bv:=eq_true bv;replace bz:=eq_true bz;have cG:=bq4 al.o
      have bw:0≤(af:Int):=oa_
      have bA:af<(ai.length:Int):=oa_
      obtain⟨b9,bY,b1,b3,ax,aJ,aH⟩:=wI bJ.o af bw bA
      cases b3
      replace ax:=cm_ HB ax;have av:=A_ aH;have ar:=A_ aJ;clear aH aJ;replace bw:=eq_true bw;replace bA:=eq_true bA
      go_wp2_with (first|(go_at_call 40;(with_reducible refine(pz.calls k2 _ _ (nH ah af) _ _ (nH ai af) false _ ?J ?U ?aB ?aF aL.o).mono ?_);(case J=>exact(Kd.mO au.o HB.o));(case U=>exact aq.o);(case aB=>exact(Kd.mO av.o HB.o));(case aF=>exact ar.o);rintro e w' ⟨rfl,⟨nd,rfl⟩⟩;skip))
      repeat (go_quiet (first|(go_at_call 40;(with_reducible refine(pz.calls k2 _ _ (nH ah af) _ _ (nH ai af) false _ ?J ?U ?aB ?aF aL.o).mono ?_);(case J=>repeat (first|exact(Kd.mO au.o HB.o)|(with_reducible refine Kd.C_alloc ?_ _)|(with_reducible refine Kd.oH ?_ _)|(with_reducible refine Kd.pG ?_)));(case U=>exact aq.o);(case aB=>repeat (first|exact(Kd.mO av.o HB.o)|(with_reducible refine Kd.C_alloc ?_ _)|(with_reducible refine Kd.oH ?_ _)|(with_reducible refine Kd.pG ?_)));(case aF=>exact ar.o);rintro e w' ⟨rfl,⟨nd,rfl⟩⟩;exact⟨rfl,_,World.drewN_drewN _ _ _⟩));try go_wp2_with (first|(go_at_call 40;(with_reducible refine(pz.calls k2 _ _ (nH ah af) _ _ (nH ai af) false _ ?J ?U ?aB ?aF aL.o).mono ?_);(case J=>exact(Kd.mO au.o HB.o));(case U=>exact aq.o);(case aB=>exact(Kd.mO av.o HB.o));(case aF=>exact ar.o);rintro e w' ⟨rfl,⟨nd,rfl⟩⟩;skip)))
      go_ret
      exact⟨rf,wb_⟩
     obtain rfl:=Option.some.inj H;have de:=ab.o;have dm:=ae.o;have cH:=bq4 aa.o
     go_wp2
     repeat (go_quiet (fail);try go_wp2)
     go_ret
     exact⟨rf,HB.o⟩
def o8.l0:Nat→List Int→Int→Int→Option (Bool)
 |0,_,_,_=>none
 |k+1,cI,dn,b7=>if b7<dn then(if 0≤b7 then(if b7<(cI.length:Int)then(if(rd cI b7)<(-9)then(some false)else(if(rd cI b7)>9 then(some false)else(o8.l0 k cI dn (wrap64 (b7+1)))))else(none))else(none))else(some true)
def o8.f (k:Nat) (l0:List Int) (a1:Int):Option (Bool):=if(l0.length:Int)=a1 then(o8.l0 k l0 (l0.length:Int) 0)else(some false)
theorem o8.calls (k:Nat) (A0:Option Addr) (c0:Nat) (l0:List Int) (a1:Int) (r:Bool) (w:World) (hr0:Kd.C (Kd.int .i64) w A0 l0.length l0) (hc0:l0.length≤c0) (h:o8.f k l0 a1=some r):
  Calls Try.prog 42 #[.slice A0 l0.length c0,.int .i64 a1] w fun e w'=>e=.returned (.bool r)∧nJ w w':=by
 have aP:=A_ hr0;have aZ:=A_ hc0;clear hr0 hc0;unfold o8.f at h;have H:=h;clear h
 replace H:=Hj_ H;rcases H with⟨c3,H⟩|⟨c3,H⟩
 ·have cd:((l0.length:Int)==a1)=true:=beq_iff_eq.mpr c3
  have cf:((l0.length:Int) !=a1)=false:=bne_eq_false_iff_eq.mpr c3
  clear c3
  have H':=A_ H
  clear H;go_enter Try.func42,Try.ntmps42
  go_wp2
  go_loopg [13] k (fun kq dq w'=>∃ (ag:Int),dq=.int .i64 ag∧Aside0 (o8.l0 kq l0 (l0.length:Int) ag=some r)∧Aside0 (kq≤k)∧nJ w w')
  case atStart=>exact⟨(0),rf,H',⟨Nat.le_refl _⟩,by repeat (first|exact nJ.refl _|apply nJ.step)⟩
  case round=>
   clear H'
   clear cd cf
   obtain⟨ag,rfl,HA,cS,⟨m1,rfl⟩⟩:=hrel
   cases gk with
   |zero=>exact nz_ HA.o
   |succ k1=>
    have H:=HA.o;clear HA;simp only[o8.l0]at H
    replace H:=Hi_ H;rcases H with⟨cJ,H⟩|⟨cJ,H⟩
    ·replace ⟨dp,H⟩:=Hd_ H
     replace ⟨cg,H⟩:=Hd_ H
     replace H:=Hi_ H;rcases H with⟨cL,H⟩|⟨cL,H⟩
     ·obtain rfl:=Option.some.inj H
      have aQ:0≤(ag:Int):=oa_
      have aT:ag<(l0.length:Int):=oa_
      obtain⟨bK,bF,bD⟩:=Kd.nM aP.o ag aQ aT
      cases bF
      replace aQ:=eq_true aQ;replace aT:=eq_true aT
      go_wp2
      go_ret
      exact⟨rf,by repeat (first|exact nJ.refl _|apply nJ.step)⟩
     replace H:=Hj_ H;rcases H with⟨c8,H⟩|⟨c8,H⟩
     ·have cN:decide (9<(rd l0 ag))=true:=decide_eq_true c8
      clear c8;obtain rfl:=Option.some.inj H
      have aQ:0≤(ag:Int):=oa_
      have aT:ag<(l0.length:Int):=oa_
      obtain⟨bK,bF,bD⟩:=Kd.nM aP.o ag aQ aT
      cases bF
      replace aQ:=eq_true aQ;replace aT:=eq_true aT
      go_wp2
      go_ret
      exact⟨rf,by repeat (first|exact nJ.refl _|apply nJ.step)⟩
     have cN:decide (9<(rd l0 ag))=false:=decide_eq_false c8
     clear c8
     have H':=A_ H
     clear H
     have aQ:0≤(ag:Int):=oa_
     have aT:ag<(l0.length:Int):=oa_
     obtain⟨bK,bF,bD⟩:=Kd.nM aP.o ag aQ aT
     cases bF
     replace aQ:=eq_true aQ;replace aT:=eq_true aT
     go_wp2
     go_roundg k1
     case measure=>have:=cS.o;omega
     case rel=>exact⟨(wrap64 (ag+1)),rf,H',⟨by have:=cS.o;omega⟩,by repeat (first|exact nJ.refl _|apply nJ.step)⟩
    obtain rfl:=Option.some.inj H
    go_wp2
    go_ret
    exact⟨rf,by repeat (first|exact nJ.refl _|apply nJ.step)⟩
 have cd:((l0.length:Int)==a1)=false:=beq_eq_false_iff_ne.mpr c3
 have cf:((l0.length:Int) !=a1)=true:=bne_iff_ne.mpr c3
 obtain rfl:=Option.some.inj H;go_enter Try.func42,Try.ntmps42
 go_wp2
 go_ret
 exact⟨rf,by repeat (first|exact nJ.refl _|apply nJ.step)⟩
mutual
def nz.j0:Nat→Int→Bool→Int→List Int→List (List (List Int))→List Int→Option (Bool)
 |0,_,_,_,_,_,_=>none
 |k+1,x3,b8,bQ,bR,aA,bS=>if b8=true then(some false)else(nz.l0 k x3 aA (aA.length:Int) 0)
def nz.l0:Nat→Int→List (List (List Int))→Int→Int→Option (Bool)
 |0,_,_,_,_=>none
 |k+1,x3,bj,bG,aQ=>if aQ<bG then(if 0≤aQ then(if aQ<(bj.length:Int)then(if((nH bj aQ).length:Int)=x3 then(nz.l1 k x3 bj bG aQ (nH bj aQ) ((nH bj aQ).length:Int) 0)else(some false))else(none))else(none))else(some true)
def nz.l1:Nat→Int→List (List (List Int))→Int→Int→List (List Int)→Int→Int→Option (Bool)
 |0,_,_,_,_,_,_,_=>none
 |k+1,x3,bj,bG,aQ,bY,b4,bH=>if bH<b4 then(if 0≤bH then(if bH<(bY.length:Int)then((o8.f k (f_ bY bH) x3).bind fun bB=>(if bB=true then(nz.l1 k x3 bj bG aQ bY b4 (wrap64 (bH+1)))else(some false)))else(none))else(none))else(nz.l0 k x3 bj bG (wrap64 (aQ+1)))
end
def nz.f (k:Nat) (ag:Int) (aa:List Int) (ae:List (List (List Int))) (ak:List Int):Option (Bool):=(rH.f ag).bind fun bw=>(if bw=true then(if(aa.length:Int)<1 then(nz.j0 k (aa.length:Int) true ag aa ae ak)else(if(aa.length:Int)>40 then(nz.j0 k (aa.length:Int) true ag aa ae ak)else((o8.f k aa (aa.length:Int)).bind fun bz=>(if bz=true then((o8.f k ak (aa.length:Int)).bind fun bA=>(if bA=true then(nz.j0 k (aa.length:Int) ((ae.length:Int) !=ag) ag aa ae ak)else(nz.j0 k (aa.length:Int) true ag aa ae ak)))else(nz.j0 k (aa.length:Int) true ag aa ae ak)))))else(nz.j0 k (aa.length:Int) true ag aa ae ak))
theorem nz.calls (k:Nat) (ag:Int) (aC:Option Addr) (aE:Nat) (aa:List Int) (aI:Option Addr) (aG:Nat) (ae:List (List (List Int))) (aD:Option Addr) (aH:Nat) (ak:List Int) (r:Bool) (w:World) (bg:Kd.C (Kd.int .i64) w aC aa.length aa) (bc:aa.length≤aE) (bh:Kd.C (Kd.slice 25 (Kd.slice 3 (Kd.int .i64))) w aI ae.length ae) (be:ae.length≤aG) (bi:Kd.C (Kd.int .i64) w aD ak.length ak) (bf:ak.length≤aH) (h:nz.f k ag aa ae ak=some r):
  Calls Try.prog 13 #[.agg #[.int .i64 ag,.slice aC aa.length aE,.slice aI ae.length aG,.slice aD ak.length aH]] w fun e w'=>e=.returned (.bool r)∧Below w.heap.size w w':=by
 have aR:=Try.underlying33;have aM:=A_ bg;have aJ:=A_ bc;clear bg bc;have aW:=A_ bh;have b1:=A_ be;clear bh be;have aX:=A_ bi;have aV:=A_ bf;clear bi bf;have HB:=A_ (Below.refl w.heap.size w);unfold nz.f at h;have H:=h;clear h;have aF:=A_ H;clear H;go_enter Try.func13,Try.ntmps13
 go_upto_region 2 with(first|((with_reducible refine gt_ 1 ?_);(try (refine qV rf ?_;dsimp only));refine be_ 1 #[.int .i64 ag,.slice aC aa.length aE,.slice aI ae.length aG,.slice aD ak.length aH] 33 ?_;intro aN hg w3 aB hb;have af:=A_ (aB);have bZ:=lh_ HB hg;have aj:=lh_ HB hg;replace HB:=bs_ HB hb;clear hb aB hg;have bv:=bq4 af.o))
 (try simp only[Act.put,mD,mE,mF])
 go_cut [44] (fun b5 wc=>∃ (kq:Nat) (az:Bool),b5=.bool az∧Aside0 (nz.j0 kq (aa.length:Int) az ag aa ae ak=some r)∧Aside0 (kq≤k)∧Aside0 (wc.heap[aN]? =some (.cells #[.int .i64 ag,(.slice aC aa.length aE),(.slice aI ae.length aG),(.slice aD ak.length aH)] 33 (0,0)))∧Aside0 (Below w.heap.size w wc))
 case first=>
  have H:=aF.o;clear aF;replace ⟨bw,A5,H⟩:=bA_ H
  replace H:=Hb_ H;rcases H with⟨rfl,H⟩|⟨rfl,H⟩
  ·replace H:=Hj_ H;rcases H with⟨c7,H⟩|⟨c7,H⟩
   ·have bT:=decide_eq_true c7
    have bU:decide (aa.length<1)=true:=decide_eq_true om
    clear c7
    (skip)
    have H':=A_ H
    clear H;have bX:=bq4 af.o
    go_wp2_with (first|((with_reducible refine gc_ 41 rfl ?_);refine cM_ E41 13 (rH.calls ag true _ A5.o) ?_;rintro e w' ⟨rfl,⟨nd,rfl⟩⟩;refine⟨_,rfl,?_⟩))
    go_meet
    case rel=>exact⟨_,(true),rf,H',⟨om⟩,⟨wk_⟩,⟨wb_⟩⟩
   have bT:=decide_eq_false c7
   have bU:decide (aa.length<1)=false:=decide_eq_false om
   clear c7
   (skip)
   replace H:=Hj_ H;rcases H with⟨c9,H⟩|⟨c9,H⟩
   ·have bV:decide (40<(aa.length:Int))=true:=decide_eq_true c9
    have bW:decide (40<aa.length)=true:=decide_eq_true om
    clear c9
    have H':=A_ H
    clear H;have bL:=bq4 af.o
    go_wp2_with (first|((with_reducible refine gc_ 41 rfl ?_);refine cM_ E41 13 (rH.calls ag true _ A5.o) ?_;rintro e w' ⟨rfl,⟨nd,rfl⟩⟩;refine⟨_,rfl,?_⟩))
    go_meet
    case rel=>exact⟨_,(true),rf,H',⟨om⟩,⟨wk_⟩,⟨wb_⟩⟩
   have bV:decide (40<(aa.length:Int))=false:=decide_eq_false c9
   have bW:decide (40<aa.length)=false:=decide_eq_false om
   clear c9;replace ⟨bz,aK,H⟩:=bA_ H
   replace H:=Hb_ H;rcases H with⟨rfl,H⟩|⟨rfl,H⟩
   ·replace ⟨bA,aL,H⟩:=bA_ H
    replace H:=Hb_ H;rcases H with⟨rfl,H⟩|⟨rfl,H⟩
    ·have H':=A_ H
     clear H;have bM:=bq4 af.o
     go_wp2_with (first|((with_reducible refine gc_ 41 rfl ?_);refine cM_ E41 13 (rH.calls ag true _ A5.o) ?_;rintro e w' ⟨rfl,⟨nd,rfl⟩⟩;refine⟨_,rfl,?_⟩)|(go_at_call 42;(with_reducible refine(o8.calls k _ _ aa (aa.length:Int) true _ ?J ?U aK.o).mono ?_);(case J=>repeat (first|exact(Kd.mO aM.o wb_)|(with_reducible refine Kd.C_alloc ?_ _)|(with_reducible refine Kd.oH ?_ _)|(with_reducible refine Kd.pG ?_)));(case U=>exact aJ.o);rintro e w' ⟨rfl,⟨nd,rfl⟩⟩)|(go_at_call 42;(with_reducible refine(o8.calls k _ _ ak (aa.length:Int) true _ ?J ?U aL.o).mono ?_);(case J=>repeat (first|exact(Kd.mO aX.o wb_)|(with_reducible refine Kd.C_alloc ?_ _)|(with_reducible refine Kd.oH ?_ _)|(with_reducible refine Kd.pG ?_)));(case U=>exact aV.o);rintro e w' ⟨rfl,⟨nd,rfl⟩⟩))
     go_meet
     case rel=>exact⟨_,(((ae.length:Int) !=ag)),rf,H',⟨om⟩,⟨wk_⟩,⟨wb_⟩⟩
    have H':=A_ H
    clear H;have bN:=bq4 af.o
    go_wp2_with (first|((with_reducible refine gc_ 41 rfl ?_);refine cM_ E41 13 (rH.calls ag true _ A5.o) ?_;rintro e w' ⟨rfl,⟨nd,rfl⟩⟩;refine⟨_,rfl,?_⟩)|(go_at_call 42;(with_reducible refine(o8.calls k _ _ aa (aa.length:Int) true _ ?J ?U aK.o).mono ?_);(case J=>repeat (first|exact(Kd.mO aM.o wb_)|(with_reducible refine Kd.C_alloc ?_ _)|(with_reducible refine Kd.oH ?_ _)|(with_reducible refine Kd.pG ?_)));(case U=>exact aJ.o);rintro e w' ⟨rfl,⟨nd,rfl⟩⟩)|(go_at_call 42;(with_reducible refine(o8.calls k _ _ ak (aa.length:Int) false _ ?J ?U aL.o).mono ?_);(case J=>repeat (first|exact(Kd.mO aX.o wb_)|(with_reducible refine Kd.C_alloc ?_ _)|(with_reducible refine Kd.oH ?_ _)|(with_reducible refine Kd.pG ?_)));(case U=>exact aV.o);rintro e w' ⟨rfl,⟨nd,rfl⟩⟩))
    go_meet
    case rel=>exact⟨_,(true),rf,H',⟨om⟩,⟨wk_⟩,⟨wb_⟩⟩
   have H':=A_ H
   clear H;have bO:=bq4 af.o
   go_wp2_with (first|((with_reducible refine gc_ 41 rfl ?_);refine cM_ E41 13 (rH.calls ag true _ A5.o) ?_;rintro e w' ⟨rfl,⟨nd,rfl⟩⟩;refine⟨_,rfl,?_⟩)|(go_at_call 42;(with_reducible refine(o8.calls k _ _ aa (aa.length:Int) false _ ?J ?U aK.o).mono ?_);(case J=>repeat (first|exact(Kd.mO aM.o wb_)|(with_reducible refine Kd.C_alloc ?_ _)|(with_reducible refine Kd.oH ?_ _)|(with_reducible refine Kd.pG ?_)));(case U=>exact aJ.o);rintro e w' ⟨rfl,⟨nd,rfl⟩⟩))
   go_meet
   case rel=>exact⟨_,(true),rf,H',⟨om⟩,⟨wk_⟩,⟨wb_⟩⟩
  have H':=A_ H
  clear H;have bP:=bq4 af.o
  go_wp2_with (first|((with_reducible refine gc_ 41 rfl ?_);refine cM_ E41 13 (rH.calls ag false _ A5.o) ?_;rintro e w' ⟨rfl,⟨nd,rfl⟩⟩;refine⟨_,rfl,?_⟩))
  go_meet
  case rel=>exact⟨_,(true),rf,H',⟨om⟩,⟨wk_⟩,⟨wb_⟩⟩
 case rest=>
  clear aF
  try clear bv
  obtain⟨kq,az,rfl,HA,bI,af,HB⟩:=hcut
  cases kq with
  |zero=>exact nz_ HA.o
  |succ aO=>
   have H:=HA.o;clear HA;simp only[nz.j0]at H
   replace H:=Hb_ H;rcases H with⟨rfl,H⟩|⟨rfl,H⟩
   ·obtain rfl:=Option.some.inj H
    go_wp2
    go_ret
    exact⟨rf,HB.o⟩
   have H':=A_ H
   clear H;have aU:=bq4 af.o
   go_wp2
   go_loopg [48] aO (fun kq b6 w'=>∃ (ab:Int),b6=.int .i64 ab∧Aside0 (nz.l0 kq (aa.length:Int) ae (ae.length:Int) ab=some r)∧Aside0 (kq≤aO)∧Aside0 (w'.heap[aN]? =some (.cells #[.int .i64 ag,(.slice aC aa.length aE),(.slice aI ae.length aG),(.slice aD ak.length aH)] 33 (0,0)))∧Aside0 (Below w.heap.size w w'))
   case atStart=>exact⟨(0),rf,H',⟨Nat.le_refl _⟩,af,HB⟩
   case round=>
    clear H'
    try clear aU
    obtain⟨ab,rfl,HA,bJ,af,HB⟩:=hrel
    cases gk with
    |zero=>exact nz_ HA.o
    |succ k2=>
     have H:=HA.o;clear HA;simp only[nz.l0]at H
     replace H:=Hi_ H;rcases H with⟨a7,H⟩|⟨a7,H⟩
     ·replace ⟨bD,H⟩:=Hd_ H
      replace ⟨bE,H⟩:=Hd_ H
      replace H:=Hj_ H;rcases H with⟨c24,H⟩|⟨c24,H⟩
      ·have a8:(((nH ae ab).length:Int)==(aa.length:Int))=true:=beq_iff_eq.mpr c24
       have a9:(((nH ae ab).length:Int) !=(aa.length:Int))=false:=bne_eq_false_iff_eq.mpr c24
       have ba:((nH ae ab).length==aa.length)=true:=by first|simpa using c24|(simp at c24⊢;omega)
       clear c24
       have H':=A_ H
       clear H
       have av:0≤(ab:Int):=oa_
       have aw:ab<(ae.length:Int):=oa_
       obtain⟨aY,bk,bn,br,ai,ao,am⟩:=wI aW.o ab av aw
       cases br
       replace ai:=cm_ HB ai;have ar:=A_ am;have aT:=A_ ao;clear am ao;replace av:=eq_true av;replace aw:=eq_true aw
       go_wp2
       go_loopg [58] k2 (fun kq b7 w'=>∃ (ah:Int),b7=.int .i64 ah∧Aside0 (nz.l1 kq (aa.length:Int) ae (ae.length:Int) ab (nH ae ab) ((nH ae ab).length:Int) ah=some r)∧Aside0 (kq≤k2)∧Aside0 (w'.heap[aN]? =some (.cells #[.int .i64 ag,(.slice aC aa.length aE),(.slice (some aY) ae.length aG),(.slice aD ak.length aH)] 33 (0,0)))∧Aside0 (Below w.heap.size w w'))
       case atStart=>exact⟨(0),rf,H',⟨Nat.le_refl _⟩,af,HB⟩
       case round=>
        clear H'
        clear a7 bD bE a8 a9 ba ai av aw
        obtain⟨ah,rfl,HA,bK,af,HB⟩:=hrel
        cases gk with
        |zero=>exact nz_ HA.o
        |succ k3=>
         have H:=HA.o;clear HA;simp only[nz.l1]at H
         replace H:=Hi_ H;rcases H with⟨bF,H⟩|⟨bF,H⟩
         ·replace ⟨b2,H⟩:=Hd_ H
          replace ⟨b3,H⟩:=Hd_ H
          replace ⟨bB,aP,H⟩:=bA_ H
          replace H:=Hb_ H;rcases H with⟨rfl,H⟩|⟨rfl,H⟩
          ·have H':=A_ H
           clear H
           have ax:0≤(ah:Int):=oa_
           have ay:ah<((nH ae ab).length:Int):=oa_
           obtain⟨bC,bm,bq,bu,al,ap,an⟩:=qM ar.o ah ax ay
           cases bu
           replace al:=cm_ HB al;have au:=A_ an;have aq:=A_ ap;clear an ap;replace ax:=eq_true ax;replace ay:=eq_true ay
           go_wp2_with (first|((with_reducible refine gc_ 42 rfl ?_);refine cM_ E42 64 (o8.calls k3 _ _ (f_ (nH ae ab) ah) (aa.length:Int) true _ (Kd.mO au.o HB.o) aq.o aP.o) ?_;rintro e w' ⟨rfl,⟨nd,rfl⟩⟩;refine⟨_,rfl,?_⟩))
           go_roundg k3
           case measure=>have:=bI.o;have:=bJ.o;have:=bK.o;omega
           case rel=>exact⟨(wrap64 (ah+1)),rf,H',⟨by have:=bI.o;have:=bJ.o;have:=bK.o;omega⟩,⟨wk_⟩,⟨wb_⟩⟩
          obtain rfl:=Option.some.inj H
          have ax:0≤(ah:Int):=oa_
          have ay:ah<((nH ae ab).length:Int):=oa_
          obtain⟨bC,bm,bq,bu,al,ap,an⟩:=qM ar.o ah ax ay
          cases bu
          replace al:=cm_ HB al;have au:=A_ an;have aq:=A_ ap;clear an ap;replace ax:=eq_true ax;replace ay:=eq_true ay
          go_wp2_with (first|((with_reducible refine gc_ 42 rfl ?_);refine cM_ E42 64 (o8.calls k3 _ _ (f_ (nH ae ab) ah) (aa.length:Int) false _ (Kd.mO au.o HB.o) aq.o aP.o) ?_;rintro e w' ⟨rfl,⟨nd,rfl⟩⟩;refine⟨_,rfl,?_⟩))
          go_ret
          exact⟨rf,wb_⟩
         have H':=A_ H
         clear H
         go_wp2
         go_roundg k3
         case measure=>have:=bI.o;have:=bJ.o;have:=bK.o;omega
         case rel=>exact⟨(wrap64 (ab+1)),rf,H',⟨by have:=bI.o;have:=bJ.o;have:=bK.o;omega⟩,af,HB⟩
      have a8:(((nH ae ab).length:Int)==(aa.length:Int))=false:=beq_eq_false_iff_ne.mpr c24
      have a9:(((nH ae ab).length:Int) !=(aa.length:Int))=true:=bne_iff_ne.mpr c24
      have ba:((nH ae ab).length==aa.length)=false:=by first|simpa using c24|(simp at c24⊢;omega)
      obtain rfl:=Option.some.inj H
      have av:0≤(ab:Int):=oa_
      have aw:ab<(ae.length:Int):=oa_
      obtain⟨aY,bk,bn,br,ai,ao,am⟩:=wI aW.o ab av aw
      cases br
      replace ai:=cm_ HB ai;have ar:=A_ am;have aT:=A_ ao;clear am ao;replace av:=eq_true av;replace aw:=eq_true aw
      go_wp2
      go_ret
      exact⟨rf,HB.o⟩
     obtain rfl:=Option.some.inj H
     go_wp2
     go_ret
     exact⟨rf,HB.o⟩
def uM.f (a0:Int):Option (List Int):=if 0≤a0 then if a0.toNat≤17592186044416 then some []else none else none
theorem uM.calls (a0:Int) (r:List Int) (w:World) (h:uM.f a0=some r):
  Calls Try.prog 62 #[.slice none 0 0,.int .i64 a0] w fun e w'=>∃J:Value,e=.returned (J)∧Kd.R (Kd.int .i64) 3 w' w.heap.size (fun _=>True) J r∧Below w.heap.size w w':=by
 unfold uM.f at h
 by_cases h0:0≤a0
 case neg=>rw[if_neg h0]at h;cases h
 rw[if_pos h0]at h
 by_cases h1:a0.toNat≤17592186044416
 case neg=>rw[if_neg h1]at h;cases h
 rw[if_pos h1]at h;obtain rfl:=Option.some.inj h;clear h;have H0:=A_ h0;have H1:=A_ h1
 have c1:decide (a0<0)=false:=decide_eq_false om
 have aK:wrap64 a0=a0:=by unfold wrap64;omega
 have HW:=A_ aK
 by_cases hz:0<a0
 ·have c2:decide (a0>0)=true:=decide_eq_true hz
  clear h0 h1 hz;go_enter Try.func62,Try.ntmps62
  go_wp2_with (first|((with_reducible refine nG (b:=.append) (xs:= #[.tmp 20,.tmp 21]) rfl ?_);at_builtin;refine Kd.zl (Kd.int .i64) (w0:=w) w.heap.size rfl (.tmp 20) (.tmp 21) 25 3 3 (.int .i64 0) 8 rfl Try.underlying25 Try.underlying3 info3 rfl d_ om (.slice none 0 0) [] 0 (wrap64 a0) (fun _=>True) rfl rfl ?aZ (fun _ _=>trivial) (Kd.sI _ _ _ _ _) (by rw[HW.o];exact H0.o) (Below.refl _ _) (Nat.le_refl _) ?aL ?_;(case aL=>(have:=H1.o;rw[HW.o];simp only[List.length_nil];omega));(case aZ=>exact rfl);intro v1 w1 ho hb hg hat;obtain⟨A,cp,e_⟩:=Kd.mU ho;subst e_;have HO:=A_ ho;have HB:=A_ hb;clear ho hb hg hat))
  go_ret
  exact⟨_,rfl,Kd.Mg (m:=0) HO.o (Nat.zero_le _),HB.o⟩
 have c2:decide (a0>0)=false:=decide_eq_false hz
 clear h0 h1 hz;go_enter Try.func62,Try.ntmps62
 go_wp2
 go_ret
 exact⟨_,rfl,Kd.sI _ _ _ _ _,Below.refl _ _⟩
mutual
def nN.l0:Nat→List (List Int)→Int→List (List Int)→Int→Int→Option (List Int)
 |0,_,_,_,_,_=>none
 |k+1,x0,x3,x9,bc,aw=>if aw<bc then(if 0≤aw then(if aw<(x9.length:Int)then(if(wrap64 (x3+((f_ x9 aw).length:Int)))<0 then(none)else(nN.l0 k x0 (wrap64 (x3+((f_ x9 aw).length:Int))) x9 bc (wrap64 (aw+1))))else(none))else(none))else((uM.f x3).bind fun ao=>(nN.l1 k ao x0 (x0.length:Int) 0))
def nN.l1:Nat→List Int→List (List Int)→Int→Int→Option (List Int)
 |0,_,_,_,_=>none
 |k+1,x6,aM,be,ax=>if ax<be then(if 0≤ax then(if ax<(aM.length:Int)then(if x6.length+(f_ aM ax).length<17592186044416 then(nN.l1 k (x6++(f_ aM ax)) aM be (wrap64 (ax+1)))else(none))else(none))else(none))else(some x6)
end
def nN.f (k:Nat) (l0:List (List Int)):Option (List Int):=nN.l0 k l0 0 l0 (l0.length:Int) 0
theorem nN.calls (k:Nat) (A0:Option Addr) (c0:Nat) (l0:List (List Int)) (r:List Int) (w:World) (hr0:Kd.C (Kd.slice 3 (Kd.int .i64)) w A0 l0.length l0) (hc0:l0.length≤c0) (h:nN.f k l0=some r):
  Calls Try.prog 45 #[.slice A0 l0.length c0] w fun e w'=>∃J:Value,e=.returned (J)∧Kd.R (Kd.int .i64) 3 w' w.heap.size (fun _=>True) J r∧Below w.heap.size w w':=by
 have U:=A_ hr0;have aP:=A_ hc0;clear hr0 hc0;have HB:=A_ (Below.refl w.heap.size w);unfold nN.f at h;have H:=h;clear h
 have H':=A_ H
 clear H;go_enter Try.func45,Try.ntmps45
 go_wp2
 go_loopg [3,11] k (fun kq v3 bi w'=>∃ (ak:Int) (ab:Int),v3=.int .i64 ak∧bi=.int .i64 ab∧Aside0 (nN.l0 kq l0 ak l0 (l0.length:Int) ab=some r)∧Aside0 (kq≤k)∧Aside0 (Below w.heap.size w w'))
 case atStart=>exact⟨(0),(0),rf,rf,H',⟨Nat.le_refl _⟩,HB⟩
 case round=>
  clear H';obtain⟨ak,ab,rfl,rfl,HA,aI,HB⟩:=hrel
  cases gk with
  |zero=>exact nz_ HA.o
  |succ k1=>
   have H:=HA.o;clear HA;simp only[nN.l0]at H
   replace H:=Hi_ H;rcases H with⟨aD,H⟩|⟨aD,H⟩
   ·replace ⟨bf,H⟩:=Hd_ H
    replace ⟨bg,H⟩:=Hd_ H
    replace H:=Hi_ H;rcases H with⟨aT,H⟩|⟨aT,H⟩
    ·cases H
    have H':=A_ H
    clear H
    have aq:0≤(ab:Int):=oa_
    have au:ab<(l0.length:Int):=oa_
    obtain⟨a8,aN,aU,aX,ae,ai,ag⟩:=qM U.o ab aq au
    cases aX
    replace ae:=cm_ HB ae;have aJ:=A_ ag;have aG:=A_ ai;clear ag ai;replace aq:=eq_true aq;replace au:=eq_true au
    go_wp2
    go_roundg k1
    case measure=>have:=aI.o;omega
    case rel=>exact⟨(wrap64 (ak+((f_ l0 ab).length:Int))),(wrap64 (ab+1)),rf,rf,H',⟨by have:=aI.o;omega⟩,HB⟩
   replace ⟨ao,A6,H⟩:=bA_ H
   have H':=A_ H
   clear H
   go_wp2_with (first|((with_reducible refine gc_ 62 rfl ?_);refine cM_ E62 24 (uM.calls ak ao _ A6.o) ?_;rintro e w7 ⟨bk,rfl,ho0,hb⟩;refine⟨_,rfl,?_⟩;have ay:=A_ (Kd.nE ho0 (mK HB.o));replace HB:=bs_ HB hb;clear hb;(try clear ho0)))
   go_loopg [6,27] k1 (fun kq v6 bj w'=>∃ (al:List Int) (aa:Int),bj=.int .i64 aa∧Aside0 (nN.l1 kq al l0 (l0.length:Int) aa=some r)∧Aside0 (kq≤k1)∧Aside0 (Kd.R (Kd.int .i64) 3 w' w.heap.size (fun _=>True) v6 al)∧Aside0 (Below w.heap.size w w'))
   case atStart=>exact⟨(ao),(0),rf,H',⟨Nat.le_refl _⟩,ay,HB⟩
   case round=>
    clear H'
    try clear aD
    obtain⟨al,aa,rfl,HA,a7,ap,HB⟩:=hrel
    cases gk with
    |zero=>exact nz_ HA.o
    |succ k2=>
     have H:=HA.o;clear HA;simp only[nN.l1]at H
     replace H:=Hi_ H;rcases H with⟨aW,H⟩|⟨aW,H⟩
     ·replace ⟨bh,H⟩:=Hd_ H
      replace ⟨ba,H⟩:=Hd_ H
      replace ⟨aA,H⟩:=Ha_ H
      obtain⟨aE,am⟩:=ex_ ((al++(f_ l0 aa)):List Int);rw[←am]at H;have aC:=A_ am;clear am
      have H':=A_ H
      clear H
      have ar:0≤(aa:Int):=oa_
      have av:aa<(l0.length:Int):=oa_
      obtain⟨a9,aQ,aV,aY,af,aj,ah⟩:=qM U.o aa ar av
      cases aY
      replace af:=cm_ HB af;have an:=A_ ah;have aH:=A_ aj;clear ah aj;replace ar:=eq_true ar;replace av:=eq_true av
      go_wp2_with (first|((with_reducible refine nG (b:=.append) (xs:= #[.tmp 31,.tmp 32]) rfl ?_);at_builtin;refine Kd.uU (Kd.int .i64) (w0:=w) w.heap.size rfl (.tmp 31) (.tmp 32) 25 3 (.int .i64 0) 8 rfl Try.underlying25 info3 rfl d_ om u6 al (f_ l0 aa) _ _ _ (fun _=>True) (fun _=>False) rfl rfl ?aO ?aR (fun _ _ h=>h) (fun _ h=>h.elim) ?aF ?aB ?aS ?aL ?_;(case aR=>exact(Kd.mO an.o HB.o));(case aB=>exact HB.o);(case aF=>exact(fun _ _=>trivial));(case aO=>exact ap.o);(case aS=>exact(mK HB.o));(case aL=>have:=aA.o;omega);intro bm a_ ho hb hg hat;rw[←aC.o]at ho;replace HB:=A_ (hb);have az:=A_ (ho);clear ap;clear ho hb hg hat))
      go_roundg k2
      case measure=>have:=aI.o;have:=a7.o;omega
      case rel=>exact⟨(aE),(wrap64 (aa+1)),rf,H',⟨by have:=aI.o;have:=a7.o;omega⟩,az,HB⟩
     obtain rfl:=Option.some.inj H
     go_wp2
     go_ret
     exact⟨_,rf,ap.o,HB.o⟩
end Go.Proofs.Ytiingconapodpaa.PFnLinear
