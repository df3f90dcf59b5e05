import Derived.Test.YthigelfjekcbmaaGreatDoorDrsm
import Derived.Test.YthigelfjekcbmaaGreatDoorDrsl
import Derived.Test.YthigelfjekcbmaaGreatDoorDrsj
import Derived.Test.YthigelfjekcbmaaGreatDoorDrsk
set_option linter.unusedSimpArgs false
set_option linter.unusedVariables false
set_option maxRecDepth 100000
namespace Go.AW
open Go.Proofs.Tryz
def nv(i:Nat):AV:=.int .i64 (i:Int)
def d6:RG→AV
 | ⟨.mk k n s ts,aV⟩=>.agg [.int .i64 k,.int .i64 n,.str s,.slice (ts.map Tm.av),.int .i64 (aV:Int)]
theorem E9(k n:Int)(s:ByteArray)(ts:List Tm)(aV:Nat):d6 ⟨.mk k n s ts,aV⟩=.agg [.int .i64 k,.int .i64 n,.str s,.slice (ts.map Tm.av),.int .i64 (aV:Int)]:=rfl
theorem aVK(g:RG):d6 g=.agg (g.t.av.cells++ [.int .i64 (g.aV:Int)]):=by obtain⟨⟨k,n,s,ts⟩,aV⟩:=g;rw[a7];try rfl
theorem BX(g:RG):(d6 g).width=5:=by obtain⟨⟨k,n,s,ts⟩,aV⟩:=g;rfl
theorem aVL(g:RG):(d6 g).cells.all AV.storable=true:=by obtain⟨⟨k,n,s,ts⟩,aV⟩:=g;rfl
theorem aVJ(g:RG):(d6 g).b9=false:=by obtain⟨⟨k,n,s,ts⟩,aV⟩:=g;rfl
def eW:RC→AV
 | ⟨.mk k n s ts,rest,left,σ,N⟩=>.agg [.int .i64 k,.int .i64 n,.str s,.slice (ts.map Tm.av),.slice (rest.map d6),.slice (left.map nv),.slice (cH N σ)]
theorem JB(g:RC):(eW g).width=7:=by obtain⟨⟨k,n,s,ts⟩,_,_,_,_⟩:=g;rfl
theorem aU7(g:RC):(eW g).cells.all AV.storable=true:=by obtain⟨⟨k,n,s,ts⟩,_,_,_,_⟩:=g;rfl
theorem aU6(g:RC):(eW g).b9=false:=by obtain⟨⟨k,n,s,ts⟩,_,_,_,_⟩:=g;rfl
def rY(s:RS):AV:=.agg [.slice (s.goals.map d6),.slice (cH s.N s.σ),.slice (s.chs.map eW)]
abbrev PS:=zi tI_3 (zi zI_3 (zi aZ (zi tI_4 (zi zI_4 (zi cG (zi tI_28 (zi zI_28 (zi aQ (zi bM (zi bO (zi cA (zi tI_52 (zi zI_52 (zi bX (zi bY (zi bZ (zi b7 bV)))))))))))))))))
theorem S7:∀(t:Tm) (d:Nat) (st:aA),d≤1000→t.small=true→aD prog 201 [t.av,.int .i64 (d:Int)] st (fun r st'=>r=.bool (t.flat d)∧st'=st)
 | .mk k n s ts,d,st,hd,hsm=>by
  obtain⟨hlen,p8⟩:=Tm.pI hsm
  have IH:=fun(x:Tm) (hx:x∈ts) d st h=>S7 x d st h (p8 x hx)
  simp only[a7]
  refine wF [1000000] 2 func201 ntmps201 rfl rfl ?_
  intro _
  simp -implicitDefEqProofs only[aB,seval,PS]
  refine aT (fun h=>?_) (fun h=>?_)
  · simp only[bL] at h
    obtain rfl:d=0:=by omega
    simp -implicitDefEqProofs only[aB,↓aX,seval]
    rw[Tm.D5]
  simp only[cI] at h
  obtain⟨e,rfl⟩:∃e,d=e+1:=⟨d - 1,by omega⟩
  rw[Tm.t8]
  have hw1:IntKind.i64.wrap ((e:Int)+1 - 1)=(e:Int):=by rw[wrap64 (by omega) (by omega)];omega
  simp -implicitDefEqProofs only[aB,seval]
  refine dW (σ:=Unit) [1000000] [1,2] ts (fun i _=>((ts.drop i).all fun t=>t.flat e)=(ts.all fun t=>t.flat e)) (fun i _=>[(5,.int .i64 i)]) (fun _ _=>st) (by decide +kernel) ⟨(),rfl,aP.mk (by simp -implicitDefEqProofs only[aB,↓aX,seval])⟩ (fun i x _ hx hlt bF hdr hinv=>?_) (fun _ hge hinv=>?_)
  case refine_2=>
   simp -implicitDefEqProofs only[hge,aE,aB,seval,PS]
   rw[←hinv,gU]
   try rfl
  have hw:=bK (n:=(i:Int)+1)
  rw[hdr,iS] at hinv
  simp -implicitDefEqProofs only[bF,aE,bJ (av:=Tm.av) aQ hx (aN x),bU,aN,hw1,aB,seval,PS]
  refine(IH x (cL hx) e _ (by omega)).to ?_
  simp -implicitDefEqProofs only[aB,seval]
  refine aT (fun h2=>?_) (fun h2=>?_)
  · simp -implicitDefEqProofs only[aB,seval]
    simp only[gH] at h2
    rw[←hinv,h2]
    try rfl
  · simp only[jY] at h2
    rw[h2,iL] at hinv
    simp -implicitDefEqProofs only[aB,seval]
    exact⟨(),hinv,aP.mk (by simp -implicitDefEqProofs only[hw,aB,seval])⟩
termination_by t=>SizeOf.sizeOf t
decreasing_by have:=List.sizeOf_lt_of_mem hx;simp only[Tm.mk.sizeOf_spec];omega
abbrev FL:=zi tI_3 (zi zI_3 (zi aZ (zi tI_4 (zi zI_4 (zi cG (zi tI_28 (zi zI_28 (zi aQ (zi bM (zi bO (zi cA (zi tI_30 (zi zI_30 (zi lM (zi lN (zi lO (zi lP (zi lQ (zi lR (zi lK (zi tI_52 (zi zI_52 (zi bX (zi bY (zi bZ (zi b7 (zi bV (zi tI_120 (zi zI_120 (zi AU (zi AX AA)))))))))))))))))))))))))))))))
theorem S9{N:Nat}{σ:Sub}(hg:cD σ)(ho:cF (a9 N) σ)(t:Tm)(ht:a9 N t)(st:aA) :
 aD prog 159 [t.av,.slice (cH N σ)] st (fun r st'=>st'=st∧∃x:Tm,r=.tup [x.av,.bool (eA (t.aJ (rs σ)))]∧(eA (t.aJ (rs σ))=true→x=t.aJ (rs σ))):=by
 obtain⟨rk,B,G⟩:=hg.rs
 have NK:=fun st=>SB G ho 120 t st (cQ _) ht
 have hV:=G.OD ho.kZ ht.1
 refine aD.nB (aD.soft ?_)
 refine wF [1000000] 2 func159 ntmps159 rfl rfl ?_
 intro _
 simp -implicitDefEqProofs only[bU,aN,Tm.eO,aB,seval,FL]
 intro b4 h4
 refine(NK _).mono ?_
 rintro _ _ ⟨rfl,x,left,rfl,h1,h2⟩
 simp -implicitDefEqProofs only[aN,Tm.d8,Tm.eO,aB,↓aX,seval,FL]
 refine wP [(1,1),(2,1),(3,1),(4,2),(0,1),(5,0),(6,1),(7,0),(8,1)] [1,2,3,4,0,6,8] mixed ?_
 simp -implicitDefEqProofs only[aB,seval]
 refine cT (fun h=>?_) (fun h=>?_)
 · have h3:0≤left:=by simpa using h
   have h4:(t.aJ (rs σ)).nodes≤120:=y9 fun h5=>by rw[aG h5] at h2;omega
   rw[aK h4] at h2
   obtain⟨rfl,_⟩:=h2
   have h5:eA (t.aJ (rs σ))=(t.aJ (rs σ)).flat 30:=by unfold eA;simp [h4]
   simp -implicitDefEqProofs only[h,bU,aN,aB,seval,FL]
   refine(S7 _ 30 _ (by omega) hV.small).to ?_
   simp -implicitDefEqProofs only[aS,Tm.d8,Tm.eO,Tm.fG,aB,seval,FL]
   refine⟨st,(aL.refl _).aC ‹_›,rfl,_,by simp only[nK,uQ,Tm.soft,bH,bG];rw[h5],fun _=>rfl⟩
 · have hx0:=trivial
   have h3:left<0:=by simpa using h
   have h4:¬(t.aJ (rs σ)).nodes≤120:=fun h5=>by rw[aK h5] at h2;omega
   have h5:eA (t.aJ (rs σ))=false:=by unfold eA;simp [h4]
   simp -implicitDefEqProofs only[h,aS,bU,aN,Tm.d8,Tm.eO,Tm.fG,pJ (Tm.fG x),oO (bU x),aB,seval,FL]
   refine⟨st,(aL.refl _).aC ‹_›,rfl,x,by simp only[nK,uQ,Tm.soft,bH,bG];rw[h5],fun h6=>?_⟩
   rw[h5] at h6;cases h6
theorem aQT(c:Cl):D6 c=(bR (c.1::c.2) []).foldl (fun n v=>if n≤v then v+1 else n) 0:=rfl
abbrev JR:=zi tI_3 (zi zI_3 (zi aZ (zi tI_28 (zi zI_28 (zi aQ (zi bM (zi bO (zi cA (zi tI_40 (zi zI_40 (zi dC (zi fH (zi fJ (zi fL (zi tI_52 (zi zI_52 (zi bX (zi bY (zi bZ (zi b7 (zi bV (zi tI_111 (zi zI_111 (zi kS (zi kT kQ)))))))))))))))))))))))))
theorem aOB(c:Cl)(hc:fX c)(h6:c.2.length≤6)(st:aA):aD prog 210 [bD c] st (fun r st'=>r=.int .i64 (nD c:Int)∧st'=st):=by
 have hvr:=fun v=>hc.vars (v:=v)
 have hok:=hc.BO
 have hfr:(nD c:Int)=D6 c:=by
  have:=(aFF (bR (c.1::c.2) []) 0).1
  unfold nD D6
  omega
 rw[hfr,aQT]
 have hnd:aM Tm.nodes (c.1::c.2)≤1099511627776:=by
  have:∀l:List Tm,(∀t∈l,a9 26 t)→aM Tm.nodes l≤l.length*120:=by
   intro l
   induction l with
   | nil=>intro _;simp [aM]
   | cons x l ih=>intro h;simp only[aM,bA];have:=ih fun y hy=>h y (by simp [hy]);have:=(h x (by simp)).2;omega
  have:=this _ hok
  simp only[bA] at this
  omega
 have hvl:=wQ (c.1::c.2) []
 obtain⟨⟨k,n,s,ts⟩,bd⟩:=c
 simp only at h6 hnd hvl hvr hok
 rw[mK]
 refine aD.done ?_
 refine wF [1000000] 1 func210 ntmps210 rfl rfl ?_
 intro _
 simp -implicitDefEqProofs only[aB,seval,JR]
 refine aLV aQ bM bO rfl (.inl rfl) (by intro e he;simp only[cP,dI,dN] at he;subst he;rfl) (fun e he=>by simp only[cE] at he;obtain⟨t,_,rfl⟩:=he;exact⟨aN _,Tm.d8 _⟩) (by simp only[bA,bS,aE];omega) (by simp only[bA,bS,aE];omega) (fun q s2 hq=>?_)
 rw[←a7] at hq
 rw[show[(Tm.mk k n s ts).av]++bd.map Tm.av=((Tm.mk k n s ts)::bd).map Tm.av from rfl] at hq
 simp -implicitDefEqProofs only[aB,seval]
 refine Lit.call hq (qL _) (iC _) (fun _=>rfl) ?_
 refine(TB _ _ (fun t ht=>Tm.sK t (hok t ht).1.2.1) hnd).to ?_
 generalize bR ((Tm.mk k n s ts)::bd) []=vs at *
 simp only[bS] at hvl
 simp -implicitDefEqProofs only[aB,seval]
 refine dW (σ:=Int) [1000000] [2,3] vs (fun i n=>(vs.drop i).foldl (fun n v=>if n≤v then v+1 else n) n=vs.foldl (fun n v=>if n≤v then v+1 else n) 0) (fun i n=>[(4,.int .i64 n),(5,.int .i64 i)]) (fun _ _=>st) (by decide +kernel) ⟨0,rfl,aP.mk (by simp -implicitDefEqProofs only[aB,↓aX,seval])⟩ (fun i x n hx hlt bF hdr hinv=>?_) (fun n hge hinv=>?_)
 case refine_2=>
  rw[gU] at hinv
  simp -implicitDefEqProofs only[aE,hge,aB,seval,JR]
  refine⟨?_,aL.refl _⟩
  rw[←hinv]
  try rfl
 rw[hdr,List.foldl_cons] at hinv
 have hw:=bK (n:=(i:Int)+1)
 obtain⟨t,ht,hv⟩:=(hvr x).1 (cL hx)
 have aZ8:=(hok t ht).1.2.2 x hv
 have hw2:=bK (n:=x+1)
 have hat:dG prog 40 (.slice (vs.map iv)) (.int .i64 (i:Int))=some (.pptr (.int .i64 x)):=bJ (av:=iv) dC hx rfl
 simp -implicitDefEqProofs only[aE,bF,hat,aB,seval,JR]
 refine aT (fun h=>?_) (fun h=>?_)
 · rw[aK (by simpa using h)] at hinv
   simp -implicitDefEqProofs only[hat,hw2,hw,aB,seval,JR]
   exact⟨x+1,hinv,aP.mk (by simp -implicitDefEqProofs only[aB,seval])⟩
 · rw[aG (by simpa using h)] at hinv
   simp -implicitDefEqProofs only[hw,aB,seval]
   exact⟨n,hinv,aP.mk (by simp -implicitDefEqProofs only[aB,seval])⟩
theorem aIL{M:Int}(m:Nat)(hm:M+m≤1073741824):∀t:Tm,cB M t→t.sh (m:Int)=cU m t:=by
 intro t
 induction t using Tm.ind with
 | h k n s ts ih=>
  intro h
  rw[Tm.OY]
  by_cases hk:k=1
  · subst hk
    obtain⟨h0,h1,rfl,rfl⟩:=h.var
    unfold cU
    rw[aK rfl,wG _ (t:=.mk 1 n ⟨#[]⟩ []) rfl,wrap64 (by omega) (by omega)]
    try rfl
  · obtain⟨_,h2⟩:=h.own hk
    unfold cU at ih ⊢
    rw[aG hk,uO _ hk]
    congr 1
    exact pO fun x hx=>ih x hx (h2 x hx)
abbrev JS:=zi tI_3 (zi zI_3 (zi aZ (zi tI_28 (zi zI_28 (zi aQ (zi bM (zi bO (zi cA (zi tI_52 (zi zI_52 (zi bX (zi bY (zi bZ (zi b7 (zi bV (zi tI_156 (zi zI_156 (zi tZ (zi xL (zi xN (zi FW (zi tI_193 (zi zI_193 (zi aEH (zi aEI RW)))))))))))))))))))))))))
theorem S8(bd:List Tm)(N aV:Nat)(rest:List RG)(hb:∀t∈bd,a9 26 t)(h6:bd.length≤6)(hN:N≤1048576)(hr:rest.length≤1048576)(st:aA) :
 aD prog 158 [.slice (bd.map Tm.av),.int .i64 (N:Int),.int .i64 (aV:Int),.slice (rest.map d6)] st (fun r st'=>r=.slice ((bd.map (fun t=>(⟨cU N t,aV⟩:RG))++rest).map d6)∧st'=st):=by
 refine aD.rH (aD.fin ?_)
 refine wF [1000000] 4 func158 ntmps158 rfl rfl ?_
 intro _
 simp -implicitDefEqProofs only[aB,seval,JS]
 refine dW (σ:=Nat) [1000000] [0,1,2,3,8] bd (fun i b=>((bd.take i).map (fun t=>(⟨cU N t,aV⟩:RG))).map d6≠[]→st b=none) (fun i b=>[(9,bQ 5 b (((bd.take i).map (fun t=>(⟨cU N t,aV⟩:RG))).map d6)),(10,.int .i64 i)]) (fun i b=>bE st b (((bd.take i).map (fun t=>(⟨cU N t,aV⟩:RG))).map d6)) (by decide +kernel) ⟨0,fun h=>absurd rfl h,aP.mk (by simp -implicitDefEqProofs only[lC,bG,kP,aB,↓aX,seval])⟩ (fun i x b hx hlt bF hdr hinv=>?_) (fun b hge hinv=>?_)
 case refine_1=>
  have hw:=bK (n:=(i:Int)+1)
  have dH:(((bd.take i).map (fun t=>(⟨cU N t,aV⟩:RG))).map d6).length=i:=by simp only[aE,dY];omega
  have htk:(((bd.take i).map (fun t=>(⟨cU N t,aV⟩:RG))).map d6)++ [d6 ⟨cU N x,aV⟩]=(((bd.take (i+1)).map (fun t=>(⟨cU N t,aV⟩:RG))).map d6):=by rw[f8,hx];simp
  have hxo:=hb x (cL hx)
  have hsh:=aIL N (by omega) x hxo.1
  have hcs:=L0 (N:Int) x
  rw[hsh] at hcs
  have hgo:d6 ⟨cU N x,aV⟩=.agg ((cU N x).av.cells++ [.int .i64 (aV:Int)]):=aVK _
  simp -implicitDefEqProofs only[bF,aE,bJ (av:=Tm.av) aQ hx (aN x),bU,aN,aB,seval,JS]
  refine(hcs _ hxo.1.small).to ?_
  generalize cU N x=y at *
  obtain⟨yk,yn,ys,yt⟩:=y
  simp only[a7,E9] at htk hgo ⊢
  simp -implicitDefEqProofs only[aB,seval,JS]
  refine fT tZ xL xN rfl rfl (g9 rfl rfl) (by intro e he;simp only[cE] at he;obtain⟨t,_,rfl⟩:=he;exact BX t) hinv (by simp only[dH,bA,bS];omega) (by simp only[dH,bA,bS];omega) (fun b' hb'=>?_)
  rw[htk] at hb' ⊢
  simp -implicitDefEqProofs only[hw,aB,seval]
  exact⟨b',hb',aP.mk (by simp -implicitDefEqProofs only[aB,seval])⟩
 rw[eM] at hinv ⊢
 simp -implicitDefEqProofs only[aE,hge,aB,seval,JS]
 refine fT (xs:=rest.map d6) tZ xL xN rfl rfl (by intro e he;simp only[cE] at he;obtain⟨t,_,rfl⟩:=he;exact⟨BX t,aVL t⟩) (by intro e he;simp only[cE] at he;obtain⟨t,_,rfl⟩:=he;exact BX t) hinv (by simp only[aE];omega) (by simp only[aE];omega) (fun b' hb'=>?_)
 rw[←lB] at hb' ⊢
 simp -implicitDefEqProofs only[aB,seval]
 exact⟨b',_,st,rfl,hb',by intro e he;simp only[cE] at he;obtain⟨t,_,rfl⟩:=he;exact aVJ t,⟨5,by intro e he;simp only[cE] at he;obtain⟨t,_,rfl⟩:=he;exact BX t⟩,by rw[m9],aL.refl _⟩
def oX(p:List Cl)(t:Tm)(i:Nat):Bool:=match p[i]? with
 | some c=>EE c t
 | none=>false
theorem HX(p:List Cl)(t:Tm):eU p t=(List.range p.length).filter (oX p t):=rfl
theorem aFE(p:List Cl)(t:Tm)(i:Nat):(List.range (i+1)).filter (oX p t)=(List.range i).filter (oX p t)++(if oX p t i=true then[i] else[]):=by
 rw[List.range_succ,List.filter_append]
 congr 1
 by_cases h:oX p t i=true<;>simp [h]
theorem HY(p:List Cl)(t:Tm)(i:Nat):((List.range i).filter (oX p t)).length≤i:=by
 have:=List.length_filter_le (oX p t) (List.range i)
 rw[List.length_range] at this
 exact this
theorem aHI(l:List Nat):∀e∈l.map nv,e.width=1:=by intro e h;simp only[cE] at h;obtain⟨t,_,rfl⟩:=h;rfl
abbrev B8:=zi tI_3 (zi zI_3 (zi aZ (zi tI_9 (zi zI_9 (zi eF (zi tI_27 (zi zI_27 (zi eT (zi gO (zi gP (zi iD (zi tI_28 (zi zI_28 (zi aQ (zi bM (zi bO (zi cA (zi tI_40 (zi zI_40 (zi dC (zi fH (zi fJ (zi fL (zi tI_52 (zi zI_52 (zi bX (zi bY (zi bZ (zi b7 (zi bV (zi tI_111 (zi zI_111 (zi kS (zi kT kQ))))))))))))))))))))))))))))))))))
theorem aN0(p:List Cl)(t:Tm)(hp:p.length≤1048576)(st:aA):aD prog 167 [.slice (p.map bD),t.av] st (fun r st'=>r=.slice ((eU p t).map nv)∧st'=st):=by
 rw[HX]
 refine aD.done ?_
 obtain⟨tk,tn,ts',tts⟩:=t
 simp only[a7]
 refine wF [1000000] 2 func167 ntmps167 rfl rfl ?_
 intro _
 simp -implicitDefEqProofs only[aB,seval,B8]
 refine tL (σ:=Unit) [1000000] [0,3,4] p 1 5 (fun i _=>((List.range i).filter (oX p (.mk tk tn ts' tts))).map nv) (fun _ _=>True) (fun i _=>[(6,.int .i64 i)]) (fun _ _=>st) (fun i _ _ e he=>by simp only[cE] at he;obtain⟨t,_,rfl⟩:=he;exact⟨rfl,rfl⟩) (by decide +kernel) ⟨(),0,trivial,fun h=>absurd rfl h,aP.mk (by simp -implicitDefEqProofs only[kP,List.range_zero,List.filter_nil,bG,aB,↓aX,seval])⟩ (fun i x s b hx hlt bF hdr hinv hb=>?_) (fun s b hge hinv=>?_)
 case refine_2=>
  simp -implicitDefEqProofs only[hge,fQ,jA,rJ,A0,nC,aE,aB,seval,B8]
  exact⟨rfl,aL.refl _⟩
 have hw:=bK (n:=(i:Int)+1)
 have hst:=aFE p (.mk tk tn ts' tts) i
 have hln:=HY p (.mk tk tn ts' tts) i
 have hat:=bJ (av:=bD) (P:=prog) eT hx (gD x)
 obtain⟨⟨k,n,s',ts⟩,bd⟩:=x
 rw[mK] at hat
 have hP:oX p (.mk tk tn ts' tts) i=(decide (s'=ts')&&decide ((ts.length:Int)=(tts.length:Int))):=by unfold oX;rw[hx];try rfl
 rw[hP] at hst
 simp -implicitDefEqProofs only[bF,aE,aB,seval,B8]
 refine wP [(0,1),(1,1),(2,1),(3,1),(4,1),(6,1),(5,2),(7,2),(8,1),(9,1),(10,1),(11,1),(12,1),(13,1),(14,1),(17,1),(15,2),(16,1),(18,2),(19,1),(20,1),(21,1)] [0,1,2,3,4,6,5,7,8,9,10,11,12,13,14,17,15,16,18,19,20,21] mixed ?_
 simp -implicitDefEqProofs only[hat,aB,seval,B8]
 refine cT (fun h=>?_) (fun h=>?_)
 case refine_2=>
  have h':(decide (s'=ts')&&decide ((ts.length:Int)=(tts.length:Int)))=false:=by simp at h;simp [h]
  rw[h',aG (by simp),fM] at hst
  rw[←hst] at hb ⊢
  simp -implicitDefEqProofs only[h,hw,aB,seval]
  exact⟨(),b,hb,aP.mk (by simp -implicitDefEqProofs only[aB,seval])⟩
 have h1:decide (s'=ts')=true:=by simpa using h
 rw[h1,iL] at hst
 simp -implicitDefEqProofs only[h,aE,hat,aB,seval,B8]
 refine aT (fun h2=>?_) (fun h2=>?_)
 · rw[aK h2] at hst
   simp -implicitDefEqProofs only[aB,seval,B8]
   refine fT dC fH fJ rfl rfl (g9 rfl rfl) (aHI _) hb (by simp only[aE,bA,bS];omega) (by simp only[aE,bA,bS];omega) (fun b' hb'=>?_)
   rw[show ∀l:List Nat,l.map nv++ [AV.int .i64 (i:Int)]=(l++ [i]).map nv from fun l=>by simp [nv],←hst] at hb' ⊢
   simp -implicitDefEqProofs only[hw,aB,seval]
   exact⟨(),b',hb',aP.mk (by simp -implicitDefEqProofs only[aB,seval])⟩
 · rw[aG (by simp [h2]),fM] at hst
   rw[←hst] at hb ⊢
   simp -implicitDefEqProofs only[hw,aB,seval]
   exact⟨(),b,hb,aP.mk (by simp -implicitDefEqProofs only[aB,seval])⟩
theorem N2{n:Int}:∀ {l:List Int},l.Nodup→∀ {i:Nat},l[i]?=some n→∀j:Int,eE n l j=j+i
 | [],_,i,h,j=>by simp at h
 | x::l,hd,0,h,j=>by
  simp only[KY,Option.some.injEq] at h
  subst h
  simp [eE]
 | x::l,hd,i+1,h,j=>by
  rw[w6] at hd
  rw[KX] at h
  have hm:=cL h
  simp only[eE]
  rw[aG (fun e:n=x=>hd.1 (e▸hm)),N2 hd.2 h (j+1)]
  omega
abbrev mC:=zi tI_3 (zi zI_3 (zi aZ (zi tI_9 (zi zI_9 (zi eF (zi tI_28 (zi zI_28 (zi aQ (zi bM (zi bO (zi cA (zi tI_40 (zi zI_40 (zi dC (zi fH (zi fJ (zi fL (zi tI_52 (zi zI_52 (zi bX (zi bY (zi bZ (zi b7 bV)))))))))))))))))))))))
theorem SX(vars:List Int)(hnd:vars.Nodup)(hvl:vars.length≤1048576):∀(t:Tm) (st:aA),t.small=true→t.cv=true→(∀v∈t.vl,v∈vars)→aD prog 202 [t.av,.slice (vars.map iv)] st (fun r st'=>r=(t.aJ fun v=>vr (eE v vars 0)).av∧st'=st)
 | .mk k n s ts,st,hsm,hcv,hin=>by
  obtain⟨hlen,p8⟩:=Tm.pI hsm
  obtain⟨hc1,hcs⟩:=Tm.oU.1 hcv
  have IH:=fun(x:Tm) (hx:x∈ts) st=>SX vars hnd hvl x st (p8 x hx) (hcs x hx) (fun v hv=>by
   by_cases hk:k=1
   · rw[(hc1 hk).2] at hx;cases hx
   · exact hin v ((Tm.kL hk).2 ⟨x,hx,hv⟩))
  generalize hg:(Tm.aJ fun v=>vr (eE v vars 0))=g at IH
  refine aD.rH (aD.fin ?_)
  simp only[a7]
  refine wF [1000000,5] 2 func202 ntmps202 rfl rfl ?_
  intro _
  simp -implicitDefEqProofs only[aS,aB,↓aX,seval,mC]
  intro b4 h4 c hc
  have hne:c≠b4:=by rintro rfl;rw[aA.aH] at hc;cases hc
  have hnc:st c=none:=by rw[aA.aF st _ hne] at hc;exact hc
  have xX:∀i:Nat,vars[i]?=some n→eE n vars 0=(i:Int):=fun i hi=>by
   have:=N2 hnd hi 0
   omega
  generalize hW:st.aC b4 (.cells [AV.int .i64 0,AV.int .i64 0,AV.str ⟨#[]⟩,AV.fslice []])=W
  have hWc:W c=none:=by rw[←hW];exact hc
  have hW4:W b4=some (.cells [AV.int .i64 0,AV.int .i64 0,AV.str ⟨#[]⟩,AV.fslice []]):=by rw[←hW];exact aA.aH _ _ _
  have hS:W b4≠none:=by rw[hW4];simp
  have H6:b4≠c:=dA hne
  refine mW (σ:=Nat×Int) [1000000,5] [1,2,4,5] (fun p=>p.1≤vars.length∧(k≠1→p.2=n)∧(k=1→(n∈vars.take p.1→p.2=eE n vars 0))) (fun p=>[(6,.int .i64 p.1)]) (fun p=>W.aC c (.cells [.int .i64 k,.int .i64 p.2,.str s,.fslice []])) (fun p=>vars.length - p.1) (by decide +kernel) ⟨(0,n),⟨lY _,fun _=>rfl,fun _ h=>by simp at h⟩,aP.mk (by simp -implicitDefEqProofs only[aB,↓aX,seval])⟩ ?_
  rintro⟨i,n'⟩ ⟨h1,h2,h3⟩
  simp only at h1 h2 h3
  have rest:(k=1→n'=eE n vars 0)→True:=fun _=>trivial
  simp -implicitDefEqProofs only[aE,aB,seval,mC]
  have fin:(k=1→n'=eE n vars 0)→g (.mk k n s ts)=.mk k n' s (ts.map g):=fun h4=>by
   rw[←hg]
   by_cases hk:k=1
   · obtain⟨rfl,rfl⟩:=hc1 hk
     rw[Tm.l9 _ hk,h4 hk,hk];try rfl
   · rw[Tm.kX _ hk,h2 hk]
  refine cT (fun h=>?_) (fun h=>?_)
  case refine_2=>
   have h4:(k=1→n'=eE n vars 0):=fun hk=>h3 hk (by
    have:i=vars.length:=by simp at h;omega
    rw[this,eM]
    exact hin n (by rw[Tm.mH hk];simp))
   simp -implicitDefEqProofs only[h,aB,seval]
   refine dW (σ:=Nat) [1000000,5] [1,2,4,5] ts (fun i b=>(((ts.take i).map g).map Tm.av≠[]→(aA.aC W c (.cells ([AV.int .i64 k,AV.int .i64 (n'),AV.str s]++ [bQ 4 b (((ts.take i).map g).map Tm.av)]))) b=none)) (fun i b=>[(7,.int .i64 i)]) (fun i b=>j0 W c b [AV.int .i64 k,AV.int .i64 (n'),AV.str s] (((ts.take i).map g).map Tm.av)) (by decide +kernel)
    ⟨0,fun h=>absurd rfl h,aP.mk (by simp -implicitDefEqProofs only[aB,↓aX,seval])⟩ (fun i x b hx hlt bF hdr hinv=>?_) (fun b hge hinv=>?_)
   case refine_1=>
    have hw:=bK (n:=(i:Int)+1)
    have dH:(((ts.take i).map g).map Tm.av).length=i:=by simp only[aE,dY];omega
    have htk:(ts.take (i+1)).map g=(ts.take i).map g++ [g x]:=by rw[f8,hx];simp
    have hbo:=kW hinv
    simp -implicitDefEqProofs only[aE,bF,aE,aB,seval,mC]
    refine wP [(0,1),(2,1),(4,1),(7,1),(1,2),(3,2),(5,1),(6,2),(8,2),(9,1),(10,0),(11,1),(12,0)] [0,2,4,7,1,3,5,6,8,9,11] mixed ?_
    simp -implicitDefEqProofs only[bJ (av:=Tm.av) aQ hx (aN x),bU,aN,hbo,rA,aB,seval,mC]
    refine jW (IH x (cL hx) _) ?_
    simp -implicitDefEqProofs only[bU,aN,Tm.eO,aB,seval,mC]
    refine fT aQ bM bO rfl rfl (g9 (aN _) (Tm.d8 _)) (iC _) hinv (by simp only[dH,bA,bS];omega) (by simp only[dH,bA,bS];omega) (fun b' hb'=>?_)
    rw[show(((ts.take i).map g).map Tm.av)++ [(g x).av]=((ts.take (i+1)).map g).map Tm.av by rw[htk];simp] at hb' ⊢
    obtain⟨g1,g2,g3⟩:=uH hb'
    simp only[gF,e9] at g1 g3
    simp -implicitDefEqProofs only[g3,pS,jF,aS,g1,hw,aS,aB,seval,mC]
    exact⟨b',g2,aP.mk (by simp -implicitDefEqProofs only[aB,seval])⟩
   have hbo:=kW hinv
   rw[eM] at hinv hbo ⊢
   simp -implicitDefEqProofs only[aE,hge,aE,aB,seval,mC]
   simp -implicitDefEqProofs only[hbo,aS,aB,seval,mC]
   have g1:=mR hinv hS H6
   rw[hW4] at g1
   simp -implicitDefEqProofs only[g1,jF,aB,seval]
   obtain⟨g2,g3⟩:=sZ (o:=.cells [AV.int .i64 k,AV.int .i64 (n'),AV.str s,bQ 4 b ((ts.map g).map Tm.av)]) hinv hS H6
   refine⟨b,_,_,g2,g3,qL _,⟨4,iC _⟩,?_,fun x=>?_⟩
   · simp only[g7,bH,bG,fQ,nW,m9,←a7]
     rw[fin h4]
   · subst hW
     by_cases e3:x=b4<;>by_cases e4:x=c<;>simp_all [aA.aC]
  have hlt:i<vars.length:=by simpa using h
  simp -implicitDefEqProofs only[h,aB,seval,mC]
  refine aT (fun h5=>?_) (fun h5=>?_)
  case refine_2=>
   have h5':k≠1:=by simpa using h5
   have h4:(k=1→n'=eE n vars 0):=fun hk=>absurd hk h5'
   simp -implicitDefEqProofs only[aB,seval]
   refine dW (σ:=Nat) [1000000,5] [1,2,4,5] ts (fun i b=>(((ts.take i).map g).map Tm.av≠[]→(aA.aC W c (.cells ([AV.int .i64 k,AV.int .i64 (n'),AV.str s]++ [bQ 4 b (((ts.take i).map g).map Tm.av)]))) b=none)) (fun i b=>[(7,.int .i64 i)]) (fun i b=>j0 W c b [AV.int .i64 k,AV.int .i64 (n'),AV.str s] (((ts.take i).map g).map Tm.av)) (by decide +kernel)
    ⟨0,fun h=>absurd rfl h,aP.mk (by simp -implicitDefEqProofs only[aB,↓aX,seval])⟩ (fun i x b hx hlt bF hdr hinv=>?_) (fun b hge hinv=>?_)
   case refine_1=>
    have hw:=bK (n:=(i:Int)+1)
    have dH:(((ts.take i).map g).map Tm.av).length=i:=by simp only[aE,dY];omega
    have htk:(ts.take (i+1)).map g=(ts.take i).map g++ [g x]:=by rw[f8,hx];simp
    have hbo:=kW hinv
    simp -implicitDefEqProofs only[aE,bF,aE,aB,seval,mC]
    refine wP [(0,1),(2,1),(4,1),(7,1),(1,2),(3,2),(5,1),(6,2),(8,2),(9,1),(10,0),(11,1),(12,0)] [0,2,4,7,1,3,5,6,8,9,11] mixed ?_
    simp -implicitDefEqProofs only[bJ (av:=Tm.av) aQ hx (aN x),bU,aN,hbo,rA,aB,seval,mC]
    refine jW (IH x (cL hx) _) ?_
    simp -implicitDefEqProofs only[bU,aN,Tm.eO,aB,seval,mC]
    refine fT aQ bM bO rfl rfl (g9 (aN _) (Tm.d8 _)) (iC _) hinv (by simp only[dH,bA,bS];omega) (by simp only[dH,bA,bS];omega) (fun b' hb'=>?_)
    rw[show(((ts.take i).map g).map Tm.av)++ [(g x).av]=((ts.take (i+1)).map g).map Tm.av by rw[htk];simp] at hb' ⊢
    obtain⟨g1,g2,g3⟩:=uH hb'
    simp only[gF,e9] at g1 g3
    simp -implicitDefEqProofs only[g3,pS,jF,aS,g1,hw,aS,aB,seval,mC]
    exact⟨b',g2,aP.mk (by simp -implicitDefEqProofs only[aB,seval])⟩
   have hbo:=kW hinv
   rw[eM] at hinv hbo ⊢
   simp -implicitDefEqProofs only[aE,hge,aE,aB,seval,mC]
   simp -implicitDefEqProofs only[hbo,aS,aB,seval,mC]
   have g1:=mR hinv hS H6
   rw[hW4] at g1
   simp -implicitDefEqProofs only[g1,jF,aB,seval]
   obtain⟨g2,g3⟩:=sZ (o:=.cells [AV.int .i64 k,AV.int .i64 (n'),AV.str s,bQ 4 b ((ts.map g).map Tm.av)]) hinv hS H6
   refine⟨b,_,_,g2,g3,qL _,⟨4,iC _⟩,?_,fun x=>?_⟩
   · simp only[g7,bH,bG,fQ,nW,m9,←a7]
     rw[fin h4]
   · subst hW
     by_cases e3:x=b4<;>by_cases e4:x=c<;>simp_all [aA.aC]
  have hk:k=1:=by simpa using h5
  obtain⟨x,hx⟩:∃x,vars[i]?=some x:=⟨_,eQ hlt⟩
  have hat:dG prog 40 (.slice (vars.map iv)) (.int .i64 (i:Int))=some (.pptr (.int .i64 x)):=bJ (av:=iv) dC hx rfl
  have hw:=bK (n:=(i:Int)+1)
  have htk:vars.take (i+1)=vars.take i++ [x]:=by rw[f8,hx];try rfl
  simp -implicitDefEqProofs only[aB,seval]
  refine wP [(0,1),(1,1),(2,1),(4,1),(3,2),(5,2),(6,1)] [0,1,2,4,3,5,6] mixed ?_
  simp -implicitDefEqProofs only[hat,aB,seval,mC]
  refine aT (fun h6=>?_) (fun h6=>?_)
  · have h6':x=n:=by simpa using h6
    subst h6'
    simp -implicitDefEqProofs only[aS,hw,aB,seval,mC]
    refine⟨(i+1,(i:Int)),by simp only;omega,⟨hlt,fun h=>absurd hk h,fun _ _=>(xX i hx).symm⟩,aP.mk (by simp -implicitDefEqProofs only[aB,seval])⟩
  · have h6':x≠n:=by simpa using h6
    simp -implicitDefEqProofs only[hw,aB,seval]
    refine⟨(i+1,n'),by simp only;omega,⟨hlt,h2,fun hk hm=>h3 hk ?_⟩,aP.mk (by simp -implicitDefEqProofs only[aB,seval])⟩
    rw[htk,dQ] at hm
    rcases hm with hm | hm
    · exact hm
    · simp only[cP,dI,dN] at hm
      exact absurd hm.symm h6'
termination_by t=>SizeOf.sizeOf t
decreasing_by have:=List.sizeOf_lt_of_mem hx;simp only[Tm.mk.sizeOf_spec];omega
theorem KE:∀(ts:List Tm) (l:List Int),(∀t∈ts,t.wf=true)→l.Nodup→(bR ts l).Nodup
 | [],l,_,h=>h
 | t::ts,l,hw,h=>KE ts _ (fun x hx=>hw x (by simp [hx])) ((QG t (hw t (by simp)) l).2.1 h)
theorem BK:∀l:List Tm,(∀t∈l,t.nodes≤120)→aM Tm.nodes l≤l.length*120
 | [],_=>by simp [aM]
 | x::l,h=>by
  simp only[aM,bA]
  have:=BK l fun y hy=>h y (by simp [hy])
  have:=h x (by simp)
  omega
abbrev B9:=zi tI_3 (zi zI_3 (zi aZ (zi tI_28 (zi zI_28 (zi aQ (zi bM (zi bO (zi cA (zi tI_40 (zi zI_40 (zi dC (zi fH (zi fJ (zi fL (zi tI_52 (zi zI_52 (zi bX (zi bY (zi bZ (zi b7 bV))))))))))))))))))))
theorem aNW{N:Int}(l:List Tm)(hok:∀t∈l,a9 N t)(hl:l.length≤1000)(st:aA):aD prog 161 [.slice (l.map Tm.av)] st (fun r st'=>r=.slice ((oE l).map Tm.av)∧st'=st):=by
 have hnd:=BK l fun t ht=>(hok t ht).2
 have NF:=KE l [] (fun t ht=>Tm.sK t (hok t ht).1.2.1) kM
 have fV:=fun v=>wR (v:=v) l [] fun t ht=>(hok t ht).1.2.1
 have hvl:=wQ l []
 simp only[bS] at hvl
 refine aD.done ?_
 refine wF [1000000] 1 func161 ntmps161 rfl rfl ?_
 intro _
 simp -implicitDefEqProofs only[aB,seval,B9]
 refine tL (σ:=Unit) [1000000] [0,2] l 1 3 (fun i _=>(bR (l.take i) []).map iv) (fun _ _=>True) (fun i _=>[(4,.int .i64 i)]) (fun _ _=>st) (fun i _ _ e he=>by simp only[cE] at he;obtain⟨t,_,rfl⟩:=he;exact⟨rfl,rfl⟩) (by decide +kernel) ⟨(),0,trivial,fun h=>absurd rfl h,aP.mk (by simp -implicitDefEqProofs only[kP,lC,bR,bG,aB,↓aX,seval])⟩ (fun i x s b hx hlt bF hdr hinv hb=>?_) (fun s b hge hinv=>?_)
 case refine_1=>
  have hw:=bK (n:=(i:Int)+1)
  have hat:=bJ (av:=Tm.av) aQ hx (aN x)
  have hst:=uT Tm.nodes hx
  have hvl:=wQ (l.take i) []
  simp only[bS,gN] at hvl
  have htk:x.vars (bR (l.take i) [])=bR (l.take (i+1)) []:=by
   rw[f8,hx,P5]
   try rfl
  simp -implicitDefEqProofs only[bF,aE,hat,bU,aN,aB,seval,B9]
  refine(DC x (bR (l.take i) []) b st (Tm.sK x (hok x (cL hx)).1.2.1) hb (by omega)).mono ?_
  rintro _ _ ⟨b',rfl,rfl,hb'⟩
  rw[htk] at hb' ⊢
  simp -implicitDefEqProofs only[aB,seval]
  exact⟨(),b',hb',aP.mk (by simp -implicitDefEqProofs only[hw,aB,seval])⟩
 simp -implicitDefEqProofs only[hge,fQ,jA,rJ,nC,eM,aE,aB,seval,B9]
 have hR:oE l=l.map fun t=>t.aJ fun v=>vr (eE v (bR l []) 0):=rfl
 rw[hR]
 generalize bR l []=vars at *
 refine tL (σ:=Unit) [1000000] [0,2,3] l 4 5 (fun i _=>((l.take i).map fun t=>t.aJ fun v=>vr (eE v vars 0)).map Tm.av) (fun _ _=>True) (fun i _=>[(6,.int .i64 i)]) (fun _ _=>st) (fun i _ _ e he=>by simp only[cE] at he;obtain⟨t,_,rfl⟩:=he;exact⟨Tm.eO _,aN _⟩) (by decide +kernel) ⟨(),0,trivial,fun h=>absurd rfl h,aP.mk (by simp -implicitDefEqProofs only[kP,lC,bG,aB,↓aX,seval])⟩ (fun i x s b hx hlt bF hdr hinv hb=>?_) (fun s b hge hinv=>?_)
 case refine_2=>
  simp -implicitDefEqProofs only[hge,fQ,jA,nC,eM,aE,aB,seval,B9]
  exact⟨rfl,aL.refl _⟩
 have hw:=bK (n:=(i:Int)+1)
 have hat:=bJ (av:=Tm.av) aQ hx (aN x)
 have hxm:=cL hx
 have dH:(((l.take i).map fun t=>t.aJ fun v=>vr (eE v vars 0)).map Tm.av).length=i:=by simp only[aE,dY];omega
 simp -implicitDefEqProofs only[bF,aE,hat,bU,aN,aB,seval,B9]
 refine(SX vars NF (by omega) x _ (hok x hxm).1.small (hok x hxm).1.2.1 (fun v hv=>(fV v).2 (.inr ⟨x,hxm,hv⟩))).to ?_
 simp -implicitDefEqProofs only[bU,aN,Tm.eO,aB,seval,B9]
 refine fT aQ bM bO rfl rfl (g9 (aN _) (Tm.d8 _)) (iC _) hb (by simp only[dH,bA,bS];omega) (by simp only[dH,bA,bS];omega) (fun b' hb'=>?_)
 rw[show(((l.take i).map fun t=>t.aJ fun v=>vr (eE v vars 0)).map Tm.av)++ [(x.aJ fun v=>vr (eE v vars 0)).av]=((l.take (i+1)).map fun t=>t.aJ fun v=>vr (eE v vars 0)).map Tm.av by rw[f8,hx];simp] at hb' ⊢
 simp -implicitDefEqProofs only[aB,seval]
 exact⟨(),b',hb',aP.mk (by simp -implicitDefEqProofs only[hw,aB,seval])⟩
abbrev aJI:=zi tI_3 (zi zI_3 (zi aZ (zi tI_4 (zi zI_4 (zi cG (zi tI_28 (zi zI_28 (zi aQ (zi bM (zi bO (zi cA (zi tI_52 (zi zI_52 (zi bX (zi bY (zi bZ (zi b7 bV)))))))))))))))))
theorem aNR(l:List Tm)(st:aA):aD prog 162 [.slice (l.map Tm.av)] st (fun r st'=>r=.bool (l.all Tm.valid)∧st'=st):=by
 refine wF [1000000] 1 func162 ntmps162 rfl rfl ?_
 simp only[dK,AV.fits,dZ,aE]
 intro ⟨hl,_⟩
 simp -implicitDefEqProofs only[aB,seval]
 refine dW (σ:=Unit) [1000000] [0] l (fun i _=>((l.drop i).all Tm.valid)=(l.all Tm.valid)) (fun i _=>[(3,.int .i64 i)]) (fun _ _=>st) (by decide +kernel) ⟨(),rfl,aP.mk (by simp -implicitDefEqProofs only[aB,↓aX,seval])⟩ (fun i x _ hx hlt bF hdr hinv=>?_) (fun _ hge hinv=>?_)
 case refine_2=>
  simp -implicitDefEqProofs only[hge,aE,aB,seval,aJI]
  rw[←hinv,gU]
  try rfl
 have hw:=bK (n:=(i:Int)+1)
 rw[hdr,iS] at hinv
 simp -implicitDefEqProofs only[bF,aE,bJ (av:=Tm.av) aQ hx (aN x),bU,aN,aB,seval,aJI]
 refine(L9 x _).to ?_
 simp -implicitDefEqProofs only[aB,seval]
 refine aT (fun h2=>?_) (fun h2=>?_)
 · simp -implicitDefEqProofs only[aB,seval]
   simp only[gH] at h2
   rw[←hinv,h2]
   try rfl
 · simp only[jY] at h2
   rw[h2,iL] at hinv
   simp -implicitDefEqProofs only[aB,seval]
   exact⟨(),hinv,aP.mk (by simp -implicitDefEqProofs only[hw,aB,seval])⟩
theorem aGU(v:Int):∀(l:List Int) (i:Int),v∈l→i≤eE v l i∧eE v l i<i+l.length
 | [],i,h=>by cases h
 | x::l,i,h=>by
  simp only[eE,bA]
  split
  · omega
  · rename_i e
    have h':v∈l:=by
     rcases cP.1 h with h | h
     · exact absurd h e
     · exact h
    have:=aGU v l (i+1) h'
    omega
theorem aIA{N:Int}{l:List Tm}(hok:∀t∈l,a9 N t)(hf:l.all eA=true):(oE l).all Tm.valid=decide ((bR l []).length≤26):=by
 have fV:=fun v=>wR (v:=v) l [] fun t ht=>(hok t ht).1.2.1
 have NF:=KE l [] (fun t ht=>Tm.sK t (hok t ht).1.2.1) kM
 have hro:∀t∈l,cB (bR l []).length (t.aJ fun v=>vr (eE v (bR l []) 0)):=fun t ht=>
  (hok t ht).1.aJ fun v hv=>by
   have:=aGU v (bR l []) 0 ((fV v).2 (.inr ⟨t,ht,hv⟩))
   exact E0 (by omega) (by omega)
 have fY:∀t∈l,eA (t.aJ fun v=>vr (eE v (bR l []) 0))=true:=fun t ht=>by
  have:=eL.1 hf t ht
  unfold eA at this ⊢
  rw[show(t.aJ fun v=>vr (eE v (bR l []) 0))=bP (fun v=>eE v (bR l []) 0) t from rfl,OW _ (hok t ht).1.2.1,JD _ (hok t ht).1.2.1]
  exact this
 rw[wZ,eL,bL]
 constructor
 · intro h
   refine y9 fun hn=>?_
   obtain⟨w,hw⟩:∃w,(bR l [])[26]?=some w:=⟨_,eQ (by omega)⟩
   rcases (fV w).1 (cL hw) with h1 | ⟨t,ht,hv⟩
   · cases h1
   · have x9:=h _ (cE.2 ⟨t,ht,rfl⟩)
     have hin:=(Tm.F0 x9).2.2 26 ((wT t).2 ⟨w,hv,by rw[N2 NF hw 0,wU];simp⟩)
     omega
 · intro h x hx
   obtain⟨t,ht,rfl⟩:=cE.1 hx
   have h1:=aHT.2 ((hro t ht).mono (show((bR l []).length:Int)≤26 by omega))
   rw[Tm.aKK h1]
   exact fY t ht
theorem aVG{N:Int}{l:List Tm}(hok:∀t∈l,a9 N t):(oE l).length=l.length:=by unfold oE;rw[aE]
abbrev uW:=zi tI_3 (zi zI_3 (zi aZ (zi tI_4 (zi zI_4 (zi cG (zi tI_28 (zi zI_28 (zi aQ (zi bM (zi bO (zi cA (zi tI_40 (zi zI_40 (zi dC (zi fH (zi fJ (zi fL (zi tI_52 (zi zI_52 (zi bX (zi bY (zi bZ (zi b7 (zi bV (zi tI_55 (zi zI_55 (zi v7 vR)))))))))))))))))))))))))))
theorem aN9{N:Nat}{σ:Sub}(hg:cD σ)(ho:cF (a9 N) σ)(vars:List Int)(hv:∀v∈vars,0≤v∧v<(N:Int))(hl:vars.length≤1000)(st:aA) :
 aD prog 129 [.slice (vars.map iv),.slice (cH N σ)] st (fun r st'=>st'=st∧∃a,r=.tup [aY a,.bool (gW σ vars).isSome]∧∀x,gW σ vars=some x→a=x):=by
 obtain⟨rk,B,G⟩:=hg.rs
 refine aD.nB (aD.soft ?_)
 refine wF [1000000] 2 func129 ntmps129 rfl rfl ?_
 intro _
 simp -implicitDefEqProofs only[aB,seval,uW]
 intro b4 h4
 refine tL (σ:=Unit) [1000000] [0,1,4] vars 4 6 (fun i _=>((vars.take i).map (rs σ)).map Tm.av) (fun i _=>((vars.take i).map (rs σ)).all eA=true) (fun i _=>[(5,.bool false),(7,.int .i64 i)]) (fun _ _=>st.aC b4 (.cells [.fslice []])) (fun i _ _ e he=>by simp only[cE] at he;obtain⟨t,_,rfl⟩:=he;exact⟨Tm.eO _,aN _⟩) (by decide +kernel) ⟨(),0,rfl,fun h=>absurd rfl h,aP.mk (by simp -implicitDefEqProofs only[kP,lC,bG,aB,↓aX,seval])⟩ (fun i x s b hx hlt bF hdr hinv hb=>?_) (fun s b hge hinv=>?_)
 · have hw:=bK (n:=(i:Int)+1)
   have hxm:=cL hx
   obtain⟨hx0,hx1⟩:=hv x hxm
   have hvr:a9 N (vr x):=⟨E0 hx0 hx1,by rw[vr,Tm.jS];simp [aM]⟩
   have hat:dG prog 40 (.slice (vars.map iv)) (.int .i64 (i:Int))=some (.pptr (.int .i64 x)):=bJ (av:=iv) dC hx rfl
   have dH:(((vars.take i).map (rs σ)).map Tm.av).length=i:=by simp only[aE,dY];omega
   have c9:((vars.take (i+1)).map (rs σ)).all eA=eA (rs σ x):=by
    rw[f8,hx]
    simp only[K2,lB,bH,bG,zB,hinv,iS,List.all_nil,y7,iL]
   simp -implicitDefEqProofs only[bF,aE,hat,aB,seval,uW]
   refine(aNY x _).to ?_
   simp -implicitDefEqProofs only[aB,seval]
   refine(S9 hg ho (vr x) hvr _).mono ?_
   rintro _ _ ⟨rfl,y,rfl,hy⟩
   rw[uI] at hy ⊢
   simp -implicitDefEqProofs only[aN,Tm.d8,Tm.eO,aB,↓aX,seval,uW]
   refine aT (fun h=>?_) (fun h=>?_)
   · have h':eA (rs σ x)=false:=by simpa using h
     have oZ:gW σ vars=none:=by
      unfold gW
      rw[aG]
      rintro⟨h1,_⟩
      have:=eL.1 h1 _ (cE.2 ⟨x,hxm,rfl⟩)
      rw[h'] at this;cases this
     have hbo:∀l,(l≠[]→st b=none)→(l≠[]→b≠b4)→(bE (st.aC b4 (.cells [.fslice []])) b l) b4=some (.cells [.fslice []]):=fun l _ h2=>by
      cases l with
      | nil=>exact aA.aH _ _ _
      | cons e l=>simp only[bE];rw[aA.aF _ _ (dA (h2 (by simp)))];exact aA.aH _ _ _
     have hnb:((vars.take i).map (rs σ)).map Tm.av≠[]→b≠b4:=fun h=>by rintro rfl;have:=hb h;rw[aA.aH] at this;cases this
     have aSD:((vars.take i).map (rs σ)).map Tm.av≠[]→st b=none:=fun h=>by have:=hb h;rw[aA.aF _ _ (hnb h)] at this;exact this
     have e1:=hbo _ aSD hnb
     simp -implicitDefEqProofs only[aS,e1,aB,seval,uW]
     rw[oZ]
     refine⟨st,?_,rfl,[],rfl,fun x h=>by cases h⟩
     intro z
     by_cases hz:z=b4
     · subst hz;simp [aA.aC,h4]
     · rw[aA.aF _ _ hz]
       exact((aL.bE (aL.refl _) hb).trans ((aL.refl st).aC h4)) z
   · have h':eA (rs σ x)=true:=by simpa using h
     obtain rfl:=hy h'
     simp -implicitDefEqProofs only[bU,aN,Tm.eO,aB,seval,uW]
     refine fT aQ bM bO rfl rfl (g9 (aN _) (Tm.d8 _)) (iC _) hb (by simp only[dH,bA,bS];omega) (by simp only[dH,bA,bS];omega) (fun b' hb'=>?_)
     rw[show(((vars.take i).map (rs σ)).map Tm.av)++ [(rs σ x).av]=((vars.take (i+1)).map (rs σ)).map Tm.av by rw[f8,hx];simp] at hb' ⊢
     simp -implicitDefEqProofs only[hw,aB,seval]
     exact⟨(),b',by rw[c9];exact h',hb',aP.mk (by simp -implicitDefEqProofs only[aB,seval])⟩
 · rw[eM] at hinv
   have hok:∀t∈vars.map (rs σ),a9 N t:=fun t ht=>by
    obtain⟨v,h,rfl⟩:=cE.1 ht
    obtain⟨h0,h1⟩:=hv v h
    have hf:=eL.1 hinv _ ht
    unfold eA at hf
    simp only[cK,bL] at hf
    exact⟨G.kZ ho.kZ v h0 h1,hf.2⟩
   have x9:=aIA hok hinv
   have oZ:gW σ vars=if(bR (vars.map (rs σ)) []).length≤26 then some (oE (vars.map (rs σ))) else none:=by
    unfold gW
    simp only[hinv,true_and]
   have aSS:=fun st=>aNW _ hok (by rw[aE];exact hl) st
   have c9:=fun st=>aNR (oE (vars.map (rs σ))) st
   rw[x9] at c9
   generalize oE (vars.map (rs σ))=R at *
   generalize (bR (vars.map (rs σ)) []).length=m at *
   simp -implicitDefEqProofs only[hge,fQ,t7,jA,HU,nC,eM,t6,aE,aB,seval,uW]
   refine(aSS _).to ?_
   simp -implicitDefEqProofs only[aB,↓aX,seval,uW]
   refine wP [(1,1),(0,2),(2,2),(3,2),(4,0),(5,1)] [1,0,2,3,5] mixed ?_
   simp -implicitDefEqProofs only[aB,seval,uW]
   refine jW (c9 _) ?_
   simp -implicitDefEqProofs only[aS,aB,seval,uW]
   refine⟨st,(aL.refl _).aC h4,rfl,R,?_,fun x h=>?_⟩
   · rw[oZ]
     simp only[mU,nK,uQ,tB,bH,bG]
     by_cases h:m≤26
     · simp [h]
     · simp [h]
   · rw[oZ] at h
     split at h
     · cases h;rfl
     · cases h
theorem OU(k n:Int)(s:ByteArray)(ts:List Tm)(rest:List RG)(left:List Nat)(σ:Sub)(N:Nat):eW ⟨.mk k n s ts,rest,left,σ,N⟩=.agg [.int .i64 k,.int .i64 n,.str s,.slice (ts.map Tm.av),.slice (rest.map d6),.slice (left.map nv),.slice (cH N σ)]:=rfl
structure vJ (p:List Cl) (c:RC):Prop where
 gA:cD c.σ
 ok:cF (a9 c.N) c.σ
 tX:∀n,¬(0≤n∧n<(c.N:Int))→c.σ n=none
 goal:a9 c.N c.goal
 rest:∀g∈c.rest,a9 c.N g.t∧g.t.k=3
 left:∀i∈c.left,i<p.length
 len:c.rest.length≤524288
 aTW:c.left.length≤1048576
structure oK (p:List Cl) (B:Nat) (s:RS):Prop where
 gA:cD s.σ
 ok:cF (a9 s.N) s.σ
 tX:∀n,¬(0≤n∧n<(s.N:Int))→s.σ n=none
 goals:∀g∈s.goals,a9 s.N g.t∧g.t.k=3
 pos:0<s.N
 hN:s.N≤B
 gl:s.goals.length≤B
 oR:s.chs.length≤B
 chs:∀c∈s.chs,vJ p c∧c.N+26≤B∧c.rest.length+26≤B∧0<c.N
theorem cF.upN{N M:Nat}{σ:Sub}(h:cF (a9 N) σ)(hm:N≤M):cF (a9 M) σ:=h.imp fun t ht=>ht.mono (by omega)
theorem aL2{N k:Nat}{σ:Sub}(hd:∀n,¬(0≤n∧n<(N:Int))→σ n=none):cH N σ++List.replicate k zt=cH (N+k) σ:=by
 apply F9
 intro i
 have hl:=sH N σ
 by_cases hi:i<N
 · rw[QP (by omega),xH N σ hi,xH (N+k) σ (by omega)]
 · rw[QQ (by omega),hl]
   by_cases h2:i<N+k
   · rw[xH (N+k) σ h2,hd (i:Int) (fun h=>hi (by omega)),List.getElem?_replicate,aK (by omega)]
     try rfl
   · rw[CG (by simp;omega),CG (by rw[sH];omega)]
theorem aLW{N k b:Nat}{σ:Sub}(hd:∀n,¬(0≤n∧n<(N:Int))→σ n=none)(hN:N+k≤1048576){st:aA}{K:AV→aA→Prop}(hb:st b=none)
 (hK:∀b',st b'=none→K (.mslice b' 0 (N+k) 4) (st.aC b' (.cells ((cH (N+k) σ).flatMap AV.cells)))) :
 qW prog 28 3 (st.aC b (.cells ((cH N σ).flatMap AV.cells))) (.mslice b 0 N 4) (.int .i64 (k:Int)) K:=by
 have hu:prog.underlying 3=some (.int .i64):=by kernel_rfl
 have hl:((cH N σ).flatMap AV.cells).length=N*4:=by rw[nX (fun e he=>(RT N σ e he).1),sH]
 have iN:((cH N σ).flatMap AV.cells).take (N*4)++lS [AV.int .i64 0,.int .i64 0,.str ⟨#[]⟩,.fslice []] k=(cH (N+k) σ).flatMap AV.cells:=by
  rw[←hl,eM,ER _ (by simp),←aL2 hd,w4,List.flatMap_replicate]
  try rfl
 unfold qW
 simp only[aQ,bM,bO,hu,aA.aH,jM]
 refine⟨rfl,by omega,rfl,by omega,trivial,by omega,by omega,by omega,?_,fun b' hb'=>?_⟩
 · rw[iN,d4]
   exact hK b hb
 · rw[iN,aA.AT st b _ hb]
   refine hK b' ?_
   by_cases h:b'=b
   · subst h;exact hb
   · rwa [aA.aF _ _ h] at hb'
theorem aKE{st s2 V:aA}{o' o6:AO}{b6 b11 b13 b14 b:Nat}{L A:List AV}(hD:aL s2 st)(hA:s2 b11=some (.cells (A.flatMap AV.cells)))(h11:st b11=none)(h6:st b6=none)(h62:s2 b6≠none)(aFM:b6≠b11)(h13:s2 b13=none)(h14:s2 b14=none)
 (hV:∀q,q≠b13→q≠b14→V q=s2 q) (H1:V b13≠none) (A4:V b14≠none) (hb:L≠[]→V b=none) (hne:A≠[]) :
 aL (((bE V b L).aC b13 o').aC b6 o6) (bE (bE st b11 A) b L)∧(L≠[]→(bE st b11 A) b=none):=by
 have aFV:b13≠b11:=by rintro rfl;rw[h13] at hA;cases hA
 have aRB:b14≠b11:=by rintro rfl;rw[h14] at hA;cases hA
 have HZ:b13≠b6:=by rintro rfl;exact h62 h13
 have n13:st b13=none:=(hD b13).1 h13
 have n14:st b14=none:=(hD b14).1 h14
 rw[jE hne]
 have hbb:L≠[]→b≠b13∧b≠b11∧b≠b6∧b≠b14∧s2 b=none:=fun h=>by
  have h0:=hb h
  have e13:b≠b13:=by rintro rfl;exact H1 h0
  have e14:b≠b14:=by rintro rfl;exact A4 h0
  rw[hV b e13 e14] at h0
  exact⟨e13,(by rintro rfl;rw[h0] at hA;cases hA),(by rintro rfl;exact h62 h0),e14,h0⟩
 refine⟨fun q=>?_,fun h=>?_⟩
 · by_cases q6:q=b6
   · subst q6
     have:bE (st.aC b11 (.cells (A.flatMap AV.cells))) b L q=none:=by
      by_cases hL:L= []
      · subst hL;simp only[bE];rw[aA.aF _ _ aFM,h6]
      · obtain⟨_,_,e6,_⟩:=hbb hL
        rw[jE hL,aA.aF _ _ (dA e6),aA.aF _ _ aFM,h6]
     rw[this];simp
   rw[aA.aF _ _ q6]
   by_cases q13:q=b13
   · subst q13
     have:bE (st.aC b11 (.cells (A.flatMap AV.cells))) b L q=none:=by
      by_cases hL:L= []
      · subst hL;simp only[bE];rw[aA.aF _ _ aFV,n13]
      · obtain⟨e13,_⟩:=hbb hL
        rw[jE hL,aA.aF _ _ (dA e13),aA.aF _ _ aFV,n13]
     rw[this];simp
   rw[aA.aF _ _ q13]
   have rest:q≠b∨L= []→(V q=none→st.aC b11 (.cells (A.flatMap AV.cells)) q=none)∧∀o,st.aC b11 (.cells (A.flatMap AV.cells)) q=some o→V q=some o:=fun _=>by
    by_cases q14:q=b14
    · subst q14
      rw[aA.aF _ _ aRB,n14]
      simp
    rw[hV q q13 q14]
    by_cases q11:q=b11
    · subst q11;rw[aA.aH,hA];simp
    rw[aA.aF _ _ q11]
    exact hD q
   by_cases hL:L= []
   · subst hL
     exact rest (.inr rfl)
   · rw[jE hL,jE hL]
     by_cases qb:q=b
     · subst qb;rw[aA.aH,aA.aH];simp
     rw[aA.aF _ _ qb,aA.aF _ _ qb]
     exact rest (.inl qb)
 · obtain⟨e13,e11,e6,e14,h0⟩:=hbb h
   rw[aA.aF _ _ e11]
   exact(hD b).1 h0
theorem z5{st:aA}{b q:Nat}{l:List AV}{o:AO}(hb:l≠[]→st b=none)(h:st q=some o):bE st b l q=some o:=by
 cases l with
 | nil=>exact h
 | cons x l=>
  rw[jE (by simp),aA.aF _ _ (by rintro rfl;rw[hb (by simp)] at h;cases h)]
  exact h
theorem aFA{b b' o n w:Nat}{l:List AV}(h:l≠[]→b'≠b):(AV.mslice b' o n w).fin b l=.mslice b' o n w:=by
 unfold AV.fin
 cases l with
 | nil=>rfl
 | cons x l=>
  simp only[List.isEmpty_cons,jX,cM]
  cases o with
  | zero=>simp only[AV.fz];rw[aG (fun e=>h (by simp) e.1)];try rfl
  | succ o=>rfl
theorem HT{b N:Nat}{σ:Sub}(h0:0<N):(AV.mslice b 0 N 4).fin b (cH N σ)=.slice (cH N σ):=by
 have hl:=sH N σ
 have h:cH N σ≠[]:=by intro e;rw[e] at hl;simp at hl;omega
 have:bQ 4 b (cH N σ)=.mslice b 0 N 4:=by rw[rB h,hl]
 rw[←this,m9]
theorem aU8(l:List RC):∀e∈l.map eW,e.b9=false:=by intro e he;simp only[cE] at he;obtain⟨t,_,rfl⟩:=he;exact aU6 t
theorem aU9(l:List RC):∀e∈l.map eW,e.width=7:=by intro e he;simp only[cE] at he;obtain⟨t,_,rfl⟩:=he;exact JB t
theorem aIS{φ:AF}{d i:Nat}{l:List Nat}(hi:i+1<l.length)(h:φ d=.int .i64 ((i:Int)+1)):fS prog φ 40 (.slice (l.map nv)) (some (.tmp d)) none none=some (.slice ((l.drop (i+1)).map nv)):=by
 have he:φ.eval (.tmp d)=.int .i64 ((i:Int)+1):=h
 have hb:c8 φ (some (.tmp d)) 0 l.length=some (i+1):=by
  simp only[c8,he]
  rw[aK (by omega)]
  congr 1
 have hwo:tJ (l.map nv) (i+1) 1=true:=by
  unfold tJ
  rw[lX,eQ hi]
  try rfl
 unfold fS
 rw[aG (by simp [pD])]
 simp only[m8,dC]
 rw[aG (by simp)]
 simp only[c8] at hb ⊢
 have ht:List.take l.length (l.map nv)=l.map nv:=nQ (by simp)
 simp only[aE,hb,hwo,or_true,d3,ht]
 simp [CI]
abbrev qJ:=zi tI_3 (zi zI_3 (zi aZ (zi tI_4 (zi zI_4 (zi cG (zi tI_27 (zi zI_27 (zi eT (zi gO (zi gP (zi iD (zi tI_28 (zi zI_28 (zi aQ (zi bM (zi bO (zi cA (zi tI_40 (zi zI_40 (zi dC (zi fH (zi fJ (zi fL (zi tI_52 (zi zI_52 (zi bX (zi bY (zi bZ (zi b7 (zi bV (zi tI_111 (zi zI_111 (zi kS (zi kT (zi kQ (zi tI_156 (zi zI_156 (zi tZ (zi xL (zi xN (zi FW (zi tI_157 (zi zI_157 (zi vY (zi DM (zi DN (zi QB (zi tI_159 (zi zI_159 (zi DO (zi DP (zi DQ (zi C7 (zi tI_199 (zi zI_199 (zi MO (zi MP (zi MQ (zi MR LS)))))))))))))))))))))))))))))))))))))))))))))))))))))))))))
theorem TA(p:List Cl)(hp:∀c∈p,fX c∧c.2.length≤6)(gs0:List RG)(σ0:List AV)(cs:List RC)(c:RC)(hc:vJ p c)(h0:0<c.N)(hN:c.N≤524288)(hcl:cs.length≤524288)(st:aA) :
 aD prog 168 [.slice (p.map bD),.agg [.slice (gs0.map d6),.slice σ0,.slice (cs.map eW)],eW c] st (fun r st'=>st'=st∧r=match gR p cs c.goal c.rest c.σ c.N c.left with
  | some s=>.tup [rY s,.bool true]
  | none=>.tup [.agg [.slice (gs0.map d6),.slice σ0,.slice (cs.map eW)],.bool false]):=by
 obtain⟨goal,rest,left,σ,N⟩:=c
 obtain⟨hg,ho,hd,hgo,hr,hle,hrl,hll⟩:=hc
 simp only at hg ho hd hgo hr hle hrl hll h0 hN
 obtain⟨gk,gn,gs',gts⟩:=goal
 rw[OU]
 refine aD.fin (aD.fin (aD.nB ?_))
 refine wF [1000000,13] 3 func168 ntmps168 rfl rfl ?_
 intro _
 simp -implicitDefEqProofs only[aB,seval,qJ]
 intro b6 h6
 generalize hW:st.aC b6 (.cells [.fslice [],.fslice [],.fslice []])=W
 have hW6:W b6=some (.cells [.fslice [],.fslice [],.fslice []]):=by rw[←hW];exact aA.aH _ _ _
 have hDW:aL W st:=by rw[←hW];exact(aL.refl _).aC h6
 refine dW (σ:=Unit) [1000000] [0,4,5,6] left (fun i _=>gR p cs (.mk gk gn gs' gts) rest σ N (left.drop i)=gR p cs (.mk gk gn gs' gts) rest σ N left) (fun i _=>[(7,.bool false),(8,.int .i64 i)]) (fun _ _=>W) (by decide +kernel) ⟨(),rfl,aP.mk (by simp -implicitDefEqProofs only[aB,↓aX,seval])⟩ (fun i x _ hx hlt bF hdr hinv=>?_) (fun _ hge hinv=>?_)
 case refine_2=>
  simp -implicitDefEqProofs only[hge,aS,hW6,aE,aB,seval,qJ]
  refine⟨st,?_,0,[],st,rfl,by simp,by simp,⟨0,by simp⟩,0,[],st,rfl,by simp,by simp,⟨0,by simp⟩,rfl,?_⟩
  · intro z
    have:=hDW z
    by_cases hz:z=b6
    · subst hz;simp [aA.aC,h6]
    · rw[aA.aF _ _ hz];exact this
  · rw[←hinv,gU]
    simp only[g7,jZ,t7,jA,bH,bG,gR]
 have hw:=bK (n:=(i:Int)+1)
 have hxl:=hle x (cL hx)
 obtain⟨cl,hcx⟩:∃cl,p[x]?=some cl:=⟨_,eQ hxl⟩
 obtain⟨rN,o9⟩:=hp cl (cL hcx)
 rw[hdr,gR.eq_def] at hinv
 simp only[hcx] at hinv
 have hat:dG prog 40 (.slice (left.map nv)) (.int .i64 (i:Int))=some (.pptr (.int .i64 (x:Int))):=bJ (av:=nv) dC hx rfl
 have xT:=bJ (av:=bD) (P:=prog) eT hcx (gD cl)
 have hcf:=aOB cl rN o9
 obtain⟨⟨k,n,s',ts⟩,bd⟩:=cl
 rw[mK] at xT hcf
 simp only at hinv
 simp -implicitDefEqProofs only[bF,aE,sH,hat,xT,aB,↓aX,seval,qJ]
 refine wX [(0,1),(1,1),(2,1),(4,1),(3,0),(5,0),(6,0),(7,1)] [0,1,2,4,7] cY mixed rfl d9 ?_
 simp -implicitDefEqProofs only[aB,seval,qJ]
 have hfr:=rN.fr.1
 have hHd:=rN.cU N (.mk k n s' ts) (by simp)
 have hBd:=fun t ht=>(rN.BO t (List.mem_cons_of_mem _ ht))
 refine LQ h0 (by omega) σ fun b hb hA0=>?_
 simp -implicitDefEqProofs only[aB,seval]
 refine⟨d9,?_⟩
 refine(hcf _).to ?_
 simp -implicitDefEqProofs only[aB,seval]
 refine⟨d9,?_⟩
 refine aLW hd (by omega) hb fun b11 h11=>?_
 simp -implicitDefEqProofs only[aB,seval]
 refine⟨d9,?_⟩
 have hA:=(show eP (N+nD (.mk k n s' ts,bd)) (W.aC b11 (.cells ((cH (N+nD (.mk k n s' ts,bd)) σ).flatMap AV.cells))) b11 σ from aA.aH _ _ _)
 have hDT:aL (W.aC b11 (.cells ((cH (N+nD (.mk k n s' ts,bd)) σ).flatMap AV.cells))) W:=(aL.refl _).aC h11
 have hh:=rN.head
 generalize nD (.mk k n s' ts,bd)=fr at *
 generalize W.aC b11 (.cells ((cH (N+fr) σ).flatMap AV.cells))=T at *
 have hsh:Tm.sh (N:Int) (.mk k n s' ts)=cU N (.mk k n s' ts):=aIL N (by omega) _ hh.1
 have hcs:=L0 (N:Int) (.mk k n s' ts)
 rw[hsh] at hcs
 have hun:=C9 (N:=N+fr) (by omega) hg (ho.upN (by omega)) (.mk gk gn gs' gts) (cU N (.mk k n s' ts)) (hgo.mono (by omega)) hHd b11
 generalize cU N (.mk k n s' ts)=y at *
 obtain⟨yk,yn,ys,yt⟩:=y
 refine wX [(0,1),(1,1),(2,1),(3,1),(4,1),(6,1),(5,0),(7,0),(8,1)] [0,1,2,3,4,6,8] cY mixed rfl d9 ?_
 simp -implicitDefEqProofs only[aB,seval,qJ]
 have hsm:=hh.1.small
 simp only[a7] at hun hcs ⊢
 refine(hcs _ hsm).to ?_
 simp -implicitDefEqProofs only[aB,seval]
 refine⟨d9,?_⟩
 refine(hun _ hA).mono ?_
 rintro _ s2 ⟨rfl,hA2,hk2⟩
 simp -implicitDefEqProofs only[aB,seval]
 refine⟨d9,?_⟩
 generalize iE σ (.mk gk gn gs' gts) (.mk yk yn ys yt)=u at *
 obtain⟨r,σ',tr⟩:=u
 simp only at hinv hA2 ⊢
 have H2:W b11=none:=h11
 have hDs:aL s2 W:=by
  intro q
  have key:∀o,W q=some o→s2 q=some o:=fun o h=>hk2 q o ((hDT q).2 o h) (by rintro rfl;rw[H2] at h;cases h)
  refine⟨fun h=>?_,key⟩
  cases hq:W q with
  | none=>rfl
  | some o=>rw[key o hq] at h;cases h
 refine aT (fun h=>?_) (fun h=>?_)
 · have hr:r=false:=by simpa using h
   rw[aG (by rw[hr];simp)] at hinv
   simp -implicitDefEqProofs only[hw,aB,seval]
   exact⟨(),hinv,aP.drop hDs (by simp -implicitDefEqProofs only[aB,seval])⟩
 have hr':r=true:=by simpa using h
 rw[aK hr'] at hinv
 have hg9:=S8 bd N cs.length rest hBd o9 (by omega) (by omega)
 generalize hgs:bd.map (fun t=>(⟨cU N t,cs.length⟩:RG))++rest=gs2 at *
 simp -implicitDefEqProofs only[aE,aB,seval,qJ]
 refine wP [(0,1),(1,1),(3,1),(5,1),(6,1),(7,1),(2,2),(4,2),(8,2),(9,1),(10,1),(11,0),(12,0)] [0,1,3,5,6,7,2,4,8,9,10] mixed ?_
 simp -implicitDefEqProofs only[aB,seval,qJ]
 refine MF hg9 ?_
 simp -implicitDefEqProofs only[aS,aE,hw,aB,seval,qJ]
 intro b13 h13
 have aQ1:b13≠b11:=by rintro rfl;rw[eP,h13] at hA2;cases hA2
 have h62:s2 b6≠none:=by rw[(hDs b6).2 _ hW6];simp
 have HZ:b6≠b13:=by rintro rfl;exact h62 h13
 have aFL:b6≠b11:=by rintro rfl;rw[hW6] at H2;cases H2
 have IJ:st b11=none:=(hDW b11).1 H2
 have aFP:=(hDs b6).2 _ hW6
 have hNf:0<N+fr:=by omega
 have nE:cH (N+fr) σ'≠[]:=by intro e;have:=sH (N+fr) σ';rw[e] at this;simp at this;omega
 refine aT (fun h=>?_) (fun h=>?_)
 · have h':i+1<left.length:=by simp at h;omega
   have hsl:=fun(φ:AF) (d:Nat) (h:φ d=.int .i64 ((i:Int)+1))=>aIS h' h
   simp -implicitDefEqProofs only[aB,seval]
   refine wP [(0,1),(2,1),(4,1),(6,1),(7,1),(9,1),(1,2),(3,2),(5,2),(8,1),(10,2),(11,1),(12,0),(13,0)] [0,2,4,6,7,9,1,3,5,8,10,11] mixed ?_
   simp -implicitDefEqProofs only[aS,hsl,hw,aB,seval,qJ]
   intro b14 h14
   have aGE:b14≠b13:=by rintro rfl;rw[aA.aH] at h14;cases h14
   have M1:s2 b14=none:=by rw[aA.aF _ _ aGE] at h14;exact h14
   have aQ3:b6≠b14:=by rintro rfl;exact h62 M1
   generalize hV:(s2.aC b13 (AO.cells [AV.slice (gs2.map d6),AV.mslice b11 0 (N+fr) 4,AV.slice (cs.map eW)])).aC b14 (.cells [.int .i64 gk,.int .i64 gn,.str gs',.slice (gts.map Tm.av),.slice (rest.map d6),.slice ((left.drop (i+1)).map nv),.slice (cH N σ)])=V
   have A4:V b14=some (.cells [.int .i64 gk,.int .i64 gn,.str gs',.slice (gts.map Tm.av),.slice (rest.map d6),.slice ((left.drop (i+1)).map nv),.slice (cH N σ)]):=by rw[←hV];exact aA.aH _ _ _
   have H1:V b13=some (AO.cells [AV.slice (gs2.map d6),AV.mslice b11 0 (N+fr) 4,AV.slice (cs.map eW)]):=by rw[←hV,aA.aF _ _ (dA aGE)];exact aA.aH _ _ _
   have hV6:V b6=some (.cells [.fslice [],.fslice [],.fslice []]):=by rw[←hV,aA.aF _ _ aQ3,aA.aF _ _ HZ];exact aFP
   have hVq:∀q,q≠b13→q≠b14→V q=s2 q:=fun q e1 e2=>by rw[←hV,aA.aF _ _ e2,aA.aF _ _ e1]
   refine wX [(0,1),(1,1),(2,1),(4,1),(5,1),(3,0),(6,0),(7,1),(8,2)] [0,1,2,4,5,7] (one b14 (.cells [.int .i64 gk,.int .i64 gn,.str gs',.slice (gts.map Tm.av),.slice (rest.map d6),.slice ((left.drop (i+1)).map nv),.slice (cH N σ)])) mixed rfl (f9 A4) ?_
   simp -implicitDefEqProofs only[uL,aB,seval,qJ]
   have hlc:(cs.map eW).length=cs.length:=aE _
   refine fT (P:=prog) (b:=0) (l:=[]) (xs:=cs.map eW) vY DM DN rfl rfl (by intro e he;simp only[cE] at he;obtain⟨t,_,rfl⟩:=he;exact⟨JB t,aU7 t⟩) (by simp) (by simp) (by simp only[bS,hlc];omega) (by simp only[bS,hlc];omega) (fun b15 h15=>?_)
   rw[e9] at h15 ⊢
   simp -implicitDefEqProofs only[aB,seval]
   refine⟨f9 (z5 h15 A4),?_⟩
   refine fT (P:=prog) (b:=b15) (l:=cs.map eW) (xs:=[eW ⟨.mk gk gn gs' gts,rest,left.drop (i+1),σ,N⟩]) vY DM DN rfl rfl (g9 rfl rfl) (by intro e he;simp only[cE] at he;obtain⟨t,_,rfl⟩:=he;exact JB t) h15 (by simp only[bA,bS,hlc];omega) (by simp only[bA,bS,hlc];omega) (fun b16 h16=>?_)
   rw[show(cs.map eW)++ [eW ⟨.mk gk gn gs' gts,rest,left.drop (i+1),σ,N⟩]=(cs++ [(⟨.mk gk gn gs' gts,rest,left.drop (i+1),σ,N⟩:RC)]).map eW by simp] at h16 ⊢
   have g13:=z5 h16 H1
   have g14:=z5 h16 A4
   have g6:=z5 h16 hV6
   have hdn:left.drop (i+1)≠[]:=by intro e;have:=rF List.length e;simp at this;omega
   rw[aG hdn] at hinv
   generalize hLL:cs++ [(⟨.mk gk gn gs' gts,rest,left.drop (i+1),σ,N⟩:RC)]=LL at *
   have E:=aKE (o':=.cells [AV.slice (gs2.map d6),AV.mslice b11 0 (N+fr) 4,bQ 7 b16 (LL.map eW)]) (o6:=.cells [AV.slice (gs2.map d6),AV.mslice b11 0 (N+fr) 4,bQ 7 b16 (LL.map eW)]) (hDs.trans hDW) hA2 IJ h6 h62 aFL h13 M1 hVq (by rw[H1];simp) (by rw[A4];simp) h16 nE
   simp -implicitDefEqProofs only[aS,HZ,g13,g6,jF,pS,aB,seval,qJ]
   have hms:LL.map eW≠[]→b11≠b16:=by rintro h rfl;have:=h16 h;rw[hVq b11 (dA aQ1) (by rintro rfl;rw[eP,M1] at hA2;cases hA2),hA2] at this;cases this
   refine⟨f9 g14,_,E.1,b16,LL.map eW,_,rfl,fun h=>E.2 (by simpa using h),aU8 LL,⟨7,aU9 LL⟩,b11,cH (N+fr) σ',st,rfl,fun _=>IJ,C5 _ _,⟨4,z8 _ _⟩,rfl,?_⟩
   rw[←hinv]
   simp only[g7,jZ,t7,jA,nC,bH,bG,aFA hms,HT hNf]
   rfl
 · have h':left.drop (i+1)= []:=F8 (by simp at h;omega)
   have E:=aKE (o6:=.cells [AV.slice (gs2.map d6),AV.mslice b11 0 (N+fr) 4,AV.slice (cs.map eW)]) (o':=.cells [AV.slice (gs2.map d6),AV.mslice b11 0 (N+fr) 4,AV.slice (cs.map eW)]) (b:=0) (L:=[]) (hDs.trans hDW) hA2 IJ h6 h62 aFL h13 h13 (fun q h _=>aA.aF s2 (.cells [AV.slice (gs2.map d6),AV.mslice b11 0 (N+fr) 4,AV.slice (cs.map eW)]) h) (by rw[aA.aH];simp) (by rw[aA.aH];simp) (by simp) nE
   simp -implicitDefEqProofs only[aS,HZ,aFP,aA.aH,aB,seval,qJ]
   rw[aK h'] at hinv
   have E1:=E.1
   simp only[bE,d4] at E1
   refine⟨_,E1,0,[],_,rfl,by simp,by simp,⟨0,by simp⟩,b11,cH (N+fr) σ',st,rfl,fun _=>IJ,C5 _ _,⟨4,z8 _ _⟩,rfl,?_⟩
   rw[←hinv]
   simp only[g7,jZ,t7,jA,bH,bG,aFA (l:=[]) (fun h=>absurd rfl h),HT hNf]
   rfl
def d5:List IG→AV
 | []=>.nilptr
 | ⟨.mk k n s ts,cut,up⟩::l=>.pptr (.agg [.int .i64 k,.int .i64 n,.str s,.slice (ts.map Tm.av),.int .i64 (cut:Int),.int .i64 up,d5 l])
theorem rK(k n:Int)(s:ByteArray)(ts:List Tm)(cut:Nat)(up:Int)(l:List IG):d5 (⟨.mk k n s ts,cut,up⟩::l)=.pptr (.agg [.int .i64 k,.int .i64 n,.str s,.slice (ts.map Tm.av),.int .i64 (cut:Int),.int .i64 up,d5 l]):=by rw[d5]
theorem nY(l:List IG):(d5 l).isAgg=false∧(d5 l).width=1∧(d5 l).b9=false∧(d5 l).cells= [d5 l]∧(d5 l).storable=true∧(d5 l).soft=d5 l:=by
 cases l with
 | nil=>rw[d5];exact⟨rfl,rfl,rfl,rfl,rfl,rfl⟩
 | cons g l=>obtain⟨⟨k,n,s,ts⟩,cut,up⟩:=g;rw[rK];exact⟨rfl,rfl,rfl,rfl,rfl,rfl⟩
abbrev aJO:=zi tI_3 (zi zI_3 (zi aZ (zi tI_28 (zi zI_28 (zi aQ (zi bM (zi bO (zi cA (zi tI_52 (zi zI_52 (zi bX (zi bY (zi bZ (zi b7 (zi bV (zi tI_180 (zi zI_180 (zi tI_211 (zi zI_211 (zi aEJ (zi aEK (zi aEL (zi aEM RX)))))))))))))))))))))))
theorem L6(bd:List Tm)(cut:Nat)(up:Int)(rest:List IG)(hl:bd.length≤1048576)(st:aA) :
 aD prog 149 [.slice (bd.map Tm.av),.int .i64 (cut:Int),.int .i64 up,d5 rest] st (fun r st'=>r=d5 (bd.map (fun t=>(⟨t,cut,up⟩:IG))++rest)∧st'=st):=by
 obtain⟨r1,r2,r3,r4,r5,r6⟩:=nY rest
 refine aD.done ?_
 refine wF [1000000] 4 func149 ntmps149 rfl rfl ?_
 intro _
 have hw0:=bK (n:=(bd.length:Int) - 1)
 simp -implicitDefEqProofs only[aE,hw0,aB,seval,aJO]
 refine mW (σ:=Nat) [1000000] [0,1,2,8] (fun j=>j≤bd.length) (fun j=>[(3,d5 ((bd.drop j).map (fun t=>(⟨t,cut,up⟩:IG))++rest)),(9,.int .i64 ((j:Int) - 1))]) (fun _=>st) (fun j=>j) (by decide +kernel) ⟨bd.length,cQ _,aP.mk (by simp -implicitDefEqProofs only[gU,bG,e9,aB,seval])⟩ ?_
 intro j hj
 cases j with
 | zero=>
  rw[tO]
  obtain⟨s1,s2,s3,s4,s5,s6⟩:=nY (bd.map (fun t=>(⟨t,cut,up⟩:IG))++rest)
  simp -implicitDefEqProofs only[t0,↓F7,List.contains,List.elem,↓reduceIte,reduceCtorEq,Nat.reduceEqDiff]
  refine aT (fun h=>absurd h (by simp)) (fun h=>?_)
  simp -implicitDefEqProofs only[aB,seval]
  exact⟨s6,aL.refl _⟩
 | succ j=>
 obtain⟨s1,s2,s3,s4,s5,s6⟩:=nY ((bd.drop (j+1)).map (fun t=>(⟨t,cut,up⟩:IG))++rest)
 obtain⟨x,hx⟩:∃x,bd[j]?=some x:=⟨_,eQ (by omega)⟩
 have hat:=bJ (av:=Tm.av) (P:=prog) aQ hx (aN x)
 have hdr:bd.drop j=x::bd.drop (j+1):=by
  obtain⟨h1,h2⟩:=fD.1 hx
  rw[nO h1,h2]
 have hc:((j+1:Nat):Int) - 1=(j:Int):=by omega
 have hw:=bK (n:=(j:Int) - 1)
 have hnx:d5 ((bd.drop j).map (fun t=>(⟨t,cut,up⟩:IG))++rest)=.pptr (.agg (x.av.cells++ [.int .i64 (cut:Int),.int .i64 up,d5 ((bd.drop (j+1)).map (fun t=>(⟨t,cut,up⟩:IG))++rest)])):=by
  rw[hdr]
  obtain⟨k,n,s,ts⟩:=x
  rw[bH,gF,rK,a7]
  try rfl
 generalize d5 ((bd.drop (j+1)).map (fun t=>(⟨t,cut,up⟩:IG))++rest)=A at *
 obtain⟨k,n,s,ts⟩:=x
 simp only[a7] at hat hnx
 rw[hc]
 simp -implicitDefEqProofs only[aB,seval]
 refine aT (fun h=>?_) (fun h=>absurd h (by simp))
 simp -implicitDefEqProofs only[s3,s4,hat,hw,aB,seval,aJO]
 trace_state
 refine⟨j,by omega,by omega,aP.mk (by rw[hnx];simp -implicitDefEqProofs only[aB,seval])⟩
theorem aM5(c:Int)(st:aA):aD prog 187 [.int .i64 c] st (fun r st'=>r=.int .i64 (nV c)∧st'=st):=by
 refine aD.done ?_
 refine wF [1000000] 1 func187 ntmps187 rfl rfl ?_
 intro _
 simp -implicitDefEqProofs only[aB,seval]
 unfold nV
 refine aT (fun h=>?_) (fun h=>?_)
 · simp -implicitDefEqProofs only[aB,seval]
   have h':c=2:=by simpa using h
   exact⟨by rw[aK h'];try rfl,aL.refl _⟩
 rw[aG (show ¬c=2 by simpa using h)]
 simp -implicitDefEqProofs only[aB,seval]
 refine aT (fun h=>?_) (fun h=>?_)
 · simp -implicitDefEqProofs only[aB,seval]
   have h':c=3:=by simpa using h
   exact⟨by rw[aK h'];try rfl,aL.refl _⟩
 rw[aG (show ¬c=3 by simpa using h)]
 simp -implicitDefEqProofs only[aB,seval]
 refine aT (fun h=>?_) (fun h=>?_)
 · simp -implicitDefEqProofs only[aB,seval]
   have h':c=4:=by simpa using h
   exact⟨by rw[aK h'];try rfl,aL.refl _⟩
 rw[aG (show ¬c=4 by simpa using h)]
 simp -implicitDefEqProofs only[aB,seval]
 exact⟨rfl,aL.refl _⟩
abbrev aW6:=zi tI_9 (zi zI_9 (zi eF (zi tI_28 (zi zI_28 (zi aQ (zi bM (zi bO (zi cA (zi tI_52 (zi zI_52 (zi bX (zi bY (zi bZ (zi b7 (zi bV (zi tI_219 (zi zI_219 (zi MS (zi MT LT)))))))))))))))))))
theorem TC(k n:Int)(s:ByteArray)(ts:List Tm)(st:aA):aD prog 189 [(Tm.mk k n s ts).av] st (fun r st'=>r=.agg [.str s,.int .i64 (ts.length:Int)]∧st'=st):=by
 refine aD.done ?_
 simp only[a7]
 refine wF [1000000] 1 func189 ntmps189 rfl rfl ?_
 intro _
 simp -implicitDefEqProofs only[aS,aE,aB,seval,aW6]
 intro b2 h2
 exact⟨by simp only[mU,oF,yL,bH,bG],(aL.refl _).aC h2⟩
abbrev FM:=zi tI_3 (zi zI_3 (zi aZ (zi tI_27 (zi zI_27 (zi eT (zi gO (zi gP (zi iD (zi tI_40 (zi zI_40 (zi dC (zi fH (zi fJ (zi fL (zi tI_52 (zi zI_52 (zi bX (zi bY (zi bZ (zi b7 (zi bV (zi tI_111 (zi zI_111 (zi kS (zi kT (zi kQ (zi tI_219 (zi zI_219 (zi MS (zi MT LT))))))))))))))))))))))))))))))
theorem aMZ(p:List Cl)(t:Tm)(hp:p.length≤1048576)(st:aA):aD prog 188 [.slice (p.map bD),.agg [.str t.s,.int .i64 (t.ts.length:Int)]] st (fun r st'=>r=.slice ((eU p t).map nv)∧st'=st):=by
 rw[HX]
 refine aD.done ?_
 obtain⟨tk,tn,ts',tts⟩:=t
 simp only[Tm.s,Tm.ts]
 refine wF [1000000] 2 func188 ntmps188 rfl rfl ?_
 intro _
 simp -implicitDefEqProofs only[aE,aB,seval,FM]
 refine tL (σ:=Unit) [1000000] [3,4,8,9] p 1 5 (fun i _=>((List.range i).filter (oX p (.mk tk tn ts' tts))).map nv) (fun _ _=>True) (fun i _=>[(10,.int .i64 i)]) (fun _ _=>st) (fun i _ _ e he=>by simp only[cE] at he;obtain⟨t,_,rfl⟩:=he;exact⟨rfl,rfl⟩) (by decide +kernel) ⟨(),0,trivial,fun h=>absurd rfl h,aP.mk (by simp -implicitDefEqProofs only[kP,List.range_zero,List.filter_nil,bG,aB,↓aX,seval])⟩ (fun i x _ b hx hlt bF hdr hinv hb=>?_) (fun _ b hge hinv=>?_)
 case refine_2=>
  simp -implicitDefEqProofs only[hge,fQ,jA,rJ,A0,nC,aB,seval]
  exact⟨rfl,aL.refl _⟩
 have hw:=bK (n:=(i:Int)+1)
 have hst:=aFE p (.mk tk tn ts' tts) i
 have hln:=HY p (.mk tk tn ts' tts) i
 have hat:=bJ (av:=bD) (P:=prog) eT hx (gD x)
 obtain⟨⟨k,n,s',ts⟩,bd⟩:=x
 rw[mK] at hat
 have hP:oX p (.mk tk tn ts' tts) i=(decide (s'=ts')&&decide ((ts.length:Int)=(tts.length:Int))):=by unfold oX;rw[hx];try rfl
 rw[hP] at hst
 have hpr:=fun st=>TC k n s' ts st
 have aRU:dR prog .eql 219 (.agg [.str s',.int .i64 (ts.length:Int)]) (.agg [.str ts',.int .i64 (tts.length:Int)])=some (.bool (decide (s'=ts')&&decide ((ts.length:Int)=(tts.length:Int)))):=by
  have h:HH prog 219=true:=by kernel_rfl
  simp only[dR,h,and_self,d3]
 simp only[a7] at hpr
 simp -implicitDefEqProofs only[bF,hat,aB,↓aX,seval,FM]
 refine wP [(0,1),(1,2),(2,2),(3,2),(4,1)] [0,1,2,3,4] mixed ?_
 simp -implicitDefEqProofs only[aB,seval,FM]
 refine jW (hpr _) ?_
 simp -implicitDefEqProofs only[aRU,aB,seval,FM]
 refine aT (fun h2=>?_) (fun h2=>?_)
 · rw[aK h2] at hst
   simp -implicitDefEqProofs only[aB,seval,FM]
   refine fT dC fH fJ rfl rfl (g9 rfl rfl) (aHI _) hb (by simp only[aE,bA,bS];omega) (by simp only[aE,bA,bS];omega) (fun b' hb'=>?_)
   rw[show ∀l:List Nat,l.map nv++ [AV.int .i64 (i:Int)]=(l++ [i]).map nv from fun l=>by simp [nv],←hst] at hb' ⊢
   simp -implicitDefEqProofs only[hw,aB,seval]
   exact⟨(),b',hb',aP.mk (by simp -implicitDefEqProofs only[aB,seval])⟩
 · rw[aG (by rw[h2];simp),fM] at hst
   rw[←hst] at hb ⊢
   simp -implicitDefEqProofs only[hw,aB,seval]
   exact⟨(),b,hb,aP.mk (by simp -implicitDefEqProofs only[aB,seval])⟩
def p9:IC→AV
 | ⟨.mk k n s ts,node,rest,list,eJ,taken⟩=>.agg [.int .i64 k,.int .i64 n,.str s,.slice (ts.map Tm.av),.int .i64 (node:Int),d5 rest,.slice (list.map nv),.int .i64 (eJ:Int),.int .i64 (taken:Int)]
theorem aGT(k n:Int)(s:ByteArray)(ts:List Tm)(node:Nat)(rest:List IG)(list:List Nat)(eJ taken:Nat):p9 ⟨.mk k n s ts,node,rest,list,eJ,taken⟩=.agg [.int .i64 k,.int .i64 n,.str s,.slice (ts.map Tm.av),.int .i64 (node:Int),d5 rest,.slice (list.map nv),.int .i64 (eJ:Int),.int .i64 (taken:Int)]:=rfl
theorem aTE(c:IC):(p9 c).width=9:=by obtain⟨⟨k,n,s,ts⟩,_,_,_,_,_⟩:=c;rfl
theorem N1(l:List IC):∀e∈l.map p9,e.width=9:=by intro e he;simp only[cE] at he;obtain⟨t,_,rfl⟩:=he;exact aTE t
theorem aTD(c:IC):(p9 c).cells.all AV.storable=true:=by
 obtain⟨⟨k,n,s,ts⟩,_,rest,_,_,_⟩:=c
 rw[aGT]
 have:=(nY rest).2.2.2.2.1
 rw[eL]
 intro e he
 simp only[AV.cells,cP,dI,dN] at he
 rcases he with rfl | rfl | rfl | rfl | rfl | rfl | rfl | rfl | rfl<;>first | rfl | exact this
def gE(c:Nat)(p:List Cl)(q:List Tm)(idx:Bool)(fuel used fresh:Int)(gl qc qn:AV)(mx:Int):List AV:=
 [.ptr c 0,.slice (p.map bD),.slice (q.map Tm.av),.bool idx,.bool false,.int .i64 fuel,.int .i64 used,.int .i64 fresh,gl,qc,qn,.int .i64 mx]
def iB(S c m:Nat)(qt qc qn:AV):List Nat:=[S,c,m]++c7 qt++dD qc++dD qn
theorem aWJ(q:AV):c7 q=dD q:=by cases q<;>rfl
theorem OF(q:AV):(dD q).Nodup:=by cases q<;>simp [dD]
structure cW (st0 st:aA) (S c m:Nat) (qt qc qn:AV) (p:List Cl) (q:List Tm) (idx:Bool) (fuel used mx:Int) (nd:List AV) (i:IS):Prop where
 cell:st S=some (.cells (gE c p q idx fuel used i.fresh (d5 i.goals) qc qn mx))
 sto:fN st c m qt i.σ i.tr
 acC:iF st 9 qc (i.chs.map p9)
 acN:iF st 6 qn nd
 ndl:nd.length=i.nn
 ndw:∀e∈nd,e.width=6
 dis:(iB S c m qt qc qn).Nodup
 new:∀b∈iB S c m qt qc qn,st0 b=none
 aV:∀b o,st0 b=some o→st b=some o
theorem dT{b S c m:Nat}{qt qc qn:AV}:b∈iB S c m qt qc qn↔b=S∨b=c∨b=m∨b∈c7 qt∨b∈dD qc∨b∈dD qn:=by
 simp only[iB,dQ,cP,dI,dN,or_assoc]
section
variable {st0 st:aA} {S c m:Nat} {qt qc qn:AV} {p:List Cl} {q:List Tm} {idx:Bool} {fuel used mx:Int} {nd:List AV} {i:IS}
theorem cW.held(h:cW st0 st S c m qt qc qn p q idx fuel used mx nd i):∀b∈iB S c m qt qc qn,st b≠none:=fun b hb=>by
 rcases dT.1 hb with rfl | rfl | rfl | hb | hb | hb
 · rw[h.cell];simp
 · rw[h.sto.sub.cells];simp
 · rw[h.sto.sub.map];simp
 · obtain⟨cs,e⟩:=h.sto.FJ b hb;rw[e];simp
 · obtain⟨cs,e⟩:=h.acC.some b hb;rw[e];simp
 · obtain⟨cs,e⟩:=h.acN.some b hb;rw[e];simp
theorem cW.tY(h:cW st0 st S c m qt qc qn p q idx fuel used mx nd i):aL st st0:=fun b=>by
 refine⟨fun e=>?_,h.aV b⟩
 cases hb:st0 b with
 | none=>rfl
 | some o=>rw[h.aV b o hb] at e;cases e
theorem cW.aFG(h:cW st0 st S c m qt qc qn p q idx fuel used mx nd i){b:Nat}(hb:st b=none):st0 b=none:=(h.tY b).1 hb
theorem cW.parts(h:cW st0 st S c m qt qc qn p q idx fuel used mx nd i):S≠c∧S≠m∧c≠m∧S∉c7 qt∧S∉dD qc∧S∉dD qn∧c∉c7 qt∧c∉dD qc∧c∉dD qn∧m∉c7 qt∧m∉dD qc∧m∉dD qn∧(∀b∈c7 qt,b∉dD qc∧b∉dD qn)∧∀b∈dD qc,b∉dD qn:=by
 have hd:=h.dis
 simp only[iB,jN,w6,cP,dI,dN,jJ,dQ] at hd
 obtain⟨⟨⟨⟨⟨h1,h2⟩,h3,_⟩,h4,h5⟩,h6,h7⟩,h8,h9⟩:=hd
 refine⟨h1,h2,h3,fun hb=>h5 _ (.inl rfl) _ hb rfl,fun hb=>h7 _ (.inl (.inl rfl)) _ hb rfl,fun hb=>h9 _ (.inl (.inl (.inl rfl))) _ hb rfl,
  fun hb=>h5 _ (.inr (.inl rfl)) _ hb rfl,fun hb=>h7 _ (.inl (.inr (.inl rfl))) _ hb rfl,fun hb=>h9 _ (.inl (.inl (.inr (.inl rfl)))) _ hb rfl,
  fun hb=>h5 _ (.inr (.inr rfl)) _ hb rfl,fun hb=>h7 _ (.inl (.inr (.inr rfl))) _ hb rfl,fun hb=>h9 _ (.inl (.inl (.inr (.inr rfl)))) _ hb rfl,
  fun b hb=>⟨fun h'=>h7 b (.inr hb) b h' rfl,fun h'=>h9 b (.inl (.inr hb)) b h' rfl⟩,fun b hb h'=>h9 b (.inr hb) b h' rfl⟩
theorem N8{X A A' Y:List Nat}(h:(X++A++Y).Nodup)(hA:A'.Nodup)(hn:∀b∈A',b∈A∨b∉X++A++Y):(X++A'++Y).Nodup:=by
 simp only[jN,dQ] at h ⊢
 obtain⟨⟨hX,hA0,hXA⟩,hY,hXY⟩:=h
 refine⟨⟨hX,hA,fun a ha b hb e=>?_⟩,hY,fun a ha b hb e=>?_⟩
 · subst e
   rcases hn a hb with h | h
   · exact hXA a ha a h rfl
   · simp only[dQ,jJ] at h;exact h.1.1 ha
 · subst e
   rcases ha with ha | ha
   · exact hXY a (.inl ha) a hb rfl
   · rcases hn a ha with h | h
     · exact hXY a (.inr h) a hb rfl
     · simp only[dQ,jJ] at h;exact h.2 hb
theorem cW.go{st':aA}{qt' qc' qn':AV}{fuel' used' mx':Int}{nd':List AV}{i':IS}(h:cW st0 st S c m qt qc qn p q idx fuel used mx nd i)
 (cell:st' S=some (.cells (gE c p q idx fuel' used' i'.fresh (d5 i'.goals) qc' qn' mx'))) (sto:fN st' c m qt' i'.σ i'.tr) (acC:iF st' 9 qc' (i'.chs.map p9)) (acN:iF st' 6 qn' nd') (ndl:nd'.length=i'.nn) (ndw:∀e∈nd',e.width=6)
 (dis:(iB S c m qt' qc' qn').Nodup) (new:∀b∈iB S c m qt' qc' qn',b∈iB S c m qt qc qn∨st b=none) (frame:∀b o,st b=some o→b∉iB S c m qt qc qn→st' b=some o) :
 cW st0 st' S c m qt' qc' qn' p q idx fuel' used' mx' nd' i':=
 ⟨cell,sto,acC,acN,ndl,ndw,dis,fun b hb=>by
  rcases new b hb with h1 | h1
  · exact h.new b h1
  · exact h.aFG h1,fun b o hb=>frame b o (h.aV b o hb) fun hm=>by rw[h.new b hm] at hb;cases hb⟩
theorem cW.put{fuel' used' mx':Int}{gl:List IG}{F:Nat}{cs:List AV}(h:cW st0 st S c m qt qc qn p q idx fuel used mx nd i)(hcs:cs=gE c p q idx fuel' used' F (d5 gl) qc qn mx') :
 cW st0 (st.aC S (.cells cs)) S c m qt qc qn p q idx fuel' used' mx' nd { i with goals:=gl,fresh:=F }:=by
 obtain⟨h1,h2,h3,h4,h5,h6,_⟩:=h.parts
 subst hcs
 refine h.go (aA.aH _ _ _) (h.sto.aC h1 h2 h4) (h.acC.aV fun b hb=>aA.aF _ _ (by rintro rfl;exact h5 hb)) (h.acN.aV fun b hb=>aA.aF _ _ (by rintro rfl;exact h6 hb)) h.ndl h.ndw h.dis (fun b hb=>.inl hb) fun b o hb hn=>?_
 rw[aA.aF _ _ (by rintro rfl;exact hn (dT.2 (.inl rfl)))]
 exact hb
theorem cW.P9{st':aA}{qt':AV}{σ':Sub}{tr':List Int}(h:cW st0 st S c m qt qc qn p q idx fuel used mx nd i)(hS:fN st' c m qt' σ' tr')(hf:∀b o,st b=some o→b≠c→b≠m→b∉c7 qt→st' b=some o)(hn:∀b∈c7 qt',b∈c7 qt∨st b=none) :
 cW st0 st' S c m qt' qc qn p q idx fuel used mx nd { i with σ:=σ',tr:=tr' }:=by
 obtain⟨h1,h2,h3,h4,h5,h6,h7,h8,h9,h10,h11,h12,h13,h14⟩:=h.parts
 have hC:∀b∈dD qc,st' b=st b:=fun b hb=>by
  obtain⟨cs,e⟩:=h.acC.some b hb
  rw[e,hf b _ e (by rintro rfl;exact h8 hb) (by rintro rfl;exact h11 hb) (fun hb'=>(h13 b hb').1 hb)]
 have hN:∀b∈dD qn,st' b=st b:=fun b hb=>by
  obtain⟨cs,e⟩:=h.acN.some b hb
  rw[e,hf b _ e (by rintro rfl;exact h9 hb) (by rintro rfl;exact h12 hb) (fun hb'=>(h13 b hb').2 hb)]
 refine h.go (hf S _ h.cell h1 h2 h4) hS (h.acC.aV hC) (h.acN.aV hN) h.ndl h.ndw ?_ (fun b hb=>?_) (fun b o hb hn'=>?_)
 · have hd:=h.dis
   unfold iB at hd ⊢
   rw[lA] at hd ⊢
   refine N8 hd (by rw[aWJ];exact OF _) fun b hb=>?_
   rcases hn b hb with h' | h'
   · exact .inl h'
   · refine .inr fun hm=>h.held b ?_ h'
     unfold iB;rw[lA];exact hm
 · rcases dT.1 hb with rfl | rfl | rfl | hb | hb | hb
   · exact .inl (dT.2 (.inl rfl))
   · exact .inl (dT.2 (.inr (.inl rfl)))
   · exact .inl (dT.2 (.inr (.inr (.inl rfl))))
   · rcases hn b hb with h' | h'
     · exact .inl (dT.2 (.inr (.inr (.inr (.inl h')))))
     · exact .inr h'
   · exact .inl (dT.2 (.inr (.inr (.inr (.inr (.inl hb))))))
   · exact .inl (dT.2 (.inr (.inr (.inr (.inr (.inr hb))))))
 · have:=fun x=>hn' (dT.2 x)
   exact hf b o hb (by rintro rfl;exact this (.inr (.inl rfl))) (by rintro rfl;exact this (.inr (.inr (.inl rfl)))) fun hb'=>this (.inr (.inr (.inr (.inl hb'))))
theorem cW.post{st':aA}{σ':Sub}{tr':List Int}(h:cW st0 st S c m qt qc qn p q idx fuel used mx nd i)(hP:tQ c m st qt σ' tr' st'):∃qt',cW st0 st' S c m qt' qc qn p q idx fuel used mx nd { i with σ:=σ',tr:=tr' }:=by
 obtain⟨q',hS,hQ⟩:=hP
 exact⟨q',h.P9 hS (fun b o hb h1 h2 h3=>hQ.frame b o hb h1 h2 h3) hQ.fresh⟩
end
theorem fN.BD{st st':aA}{c m:Nat}{q:AV}{σ:Sub}{tr:List Int}(h:fN st c m q σ tr)(hc:st' c=st c)(hm:st' m=st m)(ht:∀b∈c7 q,st' b=st b):fN st' c m q σ tr:=by
 refine⟨⟨by rw[hc];exact h.sub.cells,by rw[hm];exact h.sub.map⟩,?_,h.apart⟩
 rcases h.eJ with h1 | ⟨b,cs,h1,h2,h3⟩
 · exact .inl h1
 · exact .inr ⟨b,cs,h1,by rw[ht b (by rw[h1];simp [c7])];exact h2,h3⟩
section
variable {st0 st:aA} {S c m:Nat} {qt qc qn:AV} {p:List Cl} {q:List Tm} {idx:Bool} {fuel used mx:Int} {nd:List AV} {i:IS}
theorem cW.aUW{st':aA}{qc':AV}{TR:List IC}{cs:List AV}(h:cW st0 st S c m qt qc qn p q idx fuel used mx nd i)(rL:iF st' 9 qc' (TR.map p9))(hf:∀y,y∉dD qc→y∉dD qc'→st' y=st y)(hn:∀y∈dD qc',y∈dD qc∨st y=none)
 (hcs:cs=gE c p q idx fuel used i.fresh (d5 i.goals) qc' qn mx):cW st0 (st'.aC S (.cells cs)) S c m qt qc' qn p q idx fuel used mx nd { i with chs:=TR }:=by
 obtain⟨h1,h2,h3,h4,h5,h6,h7,h8,h9,h10,h11,h12,h13,h14⟩:=h.parts
 have same:∀b,st b≠none→b∉dD qc→st' b=st b:=fun b hb hq=>hf b hq fun hq'=>by
  rcases hn b hq' with h' | h'
  · exact hq h'
  · exact hb h'
 have hS:S∉dD qc':=fun hb=>by
  rcases hn S hb with h' | h'
  · exact h5 h'
  · rw[h.cell] at h';cases h'
 subst hcs
 have held:=fun b x=>h.held b (dT.2 x)
 refine h.go (aA.aH _ _ _) (h.sto.BD ?_ ?_ fun b hb=>?_) (rL.aV fun b hb=>aA.aF _ _ (by rintro rfl;exact hS hb)) (h.acN.aV fun b hb=>?_) h.ndl h.ndw ?_ (fun b hb=>?_) fun b o hb hn'=>?_
 · rw[aA.aF _ _ (dA h1)];exact same c (held c (.inr (.inl rfl))) h8
 · rw[aA.aF _ _ (dA h2)];exact same m (held m (.inr (.inr (.inl rfl)))) h11
 · rw[aA.aF _ _ (by rintro rfl;exact h4 hb)];exact same b (held b (.inr (.inr (.inr (.inl hb))))) (h13 b hb).1
 · rw[aA.aF _ _ (by rintro rfl;exact h6 hb)];exact same b (held b (.inr (.inr (.inr (.inr (.inr hb)))))) fun h'=>h14 b h' hb
 · have hd:=h.dis
   unfold iB at hd ⊢
   refine N8 hd (OF _) fun b hb=>?_
   rcases hn b hb with h' | h'
   · exact .inl h'
   · refine .inr fun hm=>h.held b ?_ h'
     unfold iB;exact hm
 · rcases dT.1 hb with rfl | rfl | rfl | hb | hb | hb
   · exact .inl (dT.2 (.inl rfl))
   · exact .inl (dT.2 (.inr (.inl rfl)))
   · exact .inl (dT.2 (.inr (.inr (.inl rfl))))
   · exact .inl (dT.2 (.inr (.inr (.inr (.inl hb)))))
   · rcases hn b hb with h' | h'
     · exact .inl (dT.2 (.inr (.inr (.inr (.inr (.inl h'))))))
     · exact .inr h'
   · exact .inl (dT.2 (.inr (.inr (.inr (.inr (.inr hb))))))
 · have hno:=fun x=>hn' (dT.2 x)
   rw[aA.aF _ _ (by rintro rfl;exact hno (.inl rfl)),same b (by rw[hb];simp) fun h'=>hno (.inr (.inr (.inr (.inr (.inl h')))))]
   exact hb
theorem cW.aUX{st':aA}{qn':AV}{nd':List AV}{n':Nat}{cs:List AV}(h:cW st0 st S c m qt qc qn p q idx fuel used mx nd i)(rL:iF st' 6 qn' nd')(hl:nd'.length=n')(hw:∀e∈nd',e.width=6)(hf:∀y,y∉dD qn→y∉dD qn'→st' y=st y)(hn:∀y∈dD qn',y∈dD qn∨st y=none)
 (hcs:cs=gE c p q idx fuel used i.fresh (d5 i.goals) qc qn' mx):cW st0 (st'.aC S (.cells cs)) S c m qt qc qn' p q idx fuel used mx nd' { i with nn:=n' }:=by
 obtain⟨h1,h2,h3,h4,h5,h6,h7,h8,h9,h10,h11,h12,h13,h14⟩:=h.parts
 have same:∀b,st b≠none→b∉dD qn→st' b=st b:=fun b hb hq=>hf b hq fun hq'=>by
  rcases hn b hq' with h' | h'
  · exact hq h'
  · exact hb h'
 have hS:S∉dD qn':=fun hb=>by
  rcases hn S hb with h' | h'
  · exact h6 h'
  · rw[h.cell] at h';cases h'
 subst hcs
 have held:=fun b x=>h.held b (dT.2 x)
 refine h.go (aA.aH _ _ _) (h.sto.BD ?_ ?_ fun b hb=>?_) (h.acC.aV fun b hb=>?_) (rL.aV fun b hb=>aA.aF _ _ (by rintro rfl;exact hS hb)) hl hw ?_ (fun b hb=>?_) fun b o hb hn'=>?_
 · rw[aA.aF _ _ (dA h1)];exact same c (held c (.inr (.inl rfl))) h9
 · rw[aA.aF _ _ (dA h2)];exact same m (held m (.inr (.inr (.inl rfl)))) h12
 · rw[aA.aF _ _ (by rintro rfl;exact h4 hb)];exact same b (held b (.inr (.inr (.inr (.inl hb))))) (h13 b hb).2
 · rw[aA.aF _ _ (by rintro rfl;exact h5 hb)];exact same b (held b (.inr (.inr (.inr (.inr (.inl hb)))))) (h14 b hb)
 · have hd:=h.dis
   unfold iB at hd ⊢
   have:=N8 (X:=[S,c,m]++c7 qt++dD qc) (A:=dD qn) (A':=dD qn') (Y:=[]) (by rw[fM];exact hd) (OF _) fun b hb=>by
    rcases hn b hb with h' | h'
    · exact .inl h'
    · refine .inr fun hm=>h.held b ?_ h'
      rw[fM] at hm
      unfold iB;exact hm
   rwa [fM] at this
 · rcases dT.1 hb with rfl | rfl | rfl | hb | hb | hb
   · exact .inl (dT.2 (.inl rfl))
   · exact .inl (dT.2 (.inr (.inl rfl)))
   · exact .inl (dT.2 (.inr (.inr (.inl rfl))))
   · exact .inl (dT.2 (.inr (.inr (.inr (.inl hb)))))
   · exact .inl (dT.2 (.inr (.inr (.inr (.inr (.inl hb))))))
   · rcases hn b hb with h' | h'
     · exact .inl (dT.2 (.inr (.inr (.inr (.inr (.inr h'))))))
     · exact .inr h'
 · have hno:=fun x=>hn' (dT.2 x)
   rw[aA.aF _ _ (by rintro rfl;exact hno (.inl rfl)),same b (by rw[hb];simp) fun h'=>hno (.inr (.inr (.inr (.inr (.inr h')))))]
   exact hb
theorem cW.nodes{k:Nat}(h:cW st0 st S c m qt qc qn p q idx fuel used mx nd i)(hk:k<i.nn):∃b,qn=.mslice b 0 nd.length 6:=by
 have hl:=h.ndl
 rcases h.acN with ⟨_,e⟩ | ⟨b,cs,e,_⟩
 · subst e;simp at hl;omega
 · exact⟨b,e⟩
theorem cW.nodeAt{b n:Nat}(h:cW st0 st S c m qt qc (.mslice b 0 n 6) p q idx fuel used mx nd i):∃cs,st b=some (.cells cs)∧nd.length*6≤cs.length:=by
 rcases h.acN with ⟨e,_⟩ | ⟨b',cs,e,h2,_,h4⟩
 · cases e
 · cases e;exact⟨cs,h2,h4⟩
theorem aIO:∀(n:Nat) (cs:List AV),cs.length=n*6→∃nd:List AV,nd.length=n∧(∀e∈nd,e.width=6)∧nd.flatMap AV.cells=cs
 | 0,cs,h=>⟨[],rfl,by simp,by have:cs= []:=qQ (by simpa using h);subst this;rfl⟩
 | n+1,cs,h=>by
  obtain⟨nd,h1,h2,h3⟩:=aIO n (cs.drop 6) (by rw[pN,h];omega)
  refine⟨.agg (cs.take 6)::nd,by simp [h1],fun e he=>?_,?_⟩
  · rcases cP.1 he with rfl | he
    · show(cs.take 6).length=6
      rw[dY,h];omega
    · exact h2 e he
  · rw[qR,h3]
    exact qS 6 cs
theorem cW.aIK{b k:Nat}{cs:List AV}{x:AV}(h:cW st0 st S c m qt qc qn p q idx fuel used mx nd i)(hq:qn=.mslice b 0 nd.length 6)(hb:st b=some (.cells cs))(hk:k<nd.length*6) :
 ∃nd',cW st0 (st.aC b (.cells (aS cs k [x]))) S c m qt qc qn p q idx fuel used mx nd' i:=by
 obtain⟨h1,h2,h3,h4,h5,h6,h7,h8,h9,h10,h11,h12,h13,h14⟩:=h.parts
 have hbq:b∈dD qn:=by rw[hq];simp [dD]
 have hne:∀a,a∉dD qn→st.aC b (.cells (aS cs k [x])) a=st a:=fun a ha=>aA.aF _ _ (by rintro rfl;exact ha hbq)
 have hcl:nd.length*6≤cs.length:=by
  rcases h.acN with ⟨e,_⟩ | ⟨b',cs',e1,e2,e3,e4⟩
  · rw[hq] at e;cases e
  · rw[hq] at e1
    cases e1
    rw[hb] at e2;cases e2
    exact e4
 have hlen:(aS cs k [x]).length=cs.length:=by
  simp only[aS,dX,dY,pN,bA,bS]
  omega
 obtain⟨nd',n1,n2,n3⟩:=aIO nd.length ((aS cs k [x]).take (nd.length*6)) (by rw[dY,hlen];omega)
 refine⟨nd',h.go (by rw[hne S h6];exact h.cell) (h.sto.BD (hne c h9) (hne m h12) fun b hb=>hne b (h13 b hb).2) (h.acC.aV fun b hb=>hne b (h14 b hb)) (.inr ⟨b,_,by rw[hq,n1],aA.aH _ _ _,by rw[n1,n3],by rw[n1,hlen];exact hcl⟩) (by rw[n1];exact h.ndl) n2 h.dis (fun b hb=>.inl hb) fun a o ha hn=>?_⟩
 rw[hne a fun h'=>hn (dT.2 (.inr (.inr (.inr (.inr (.inr h'))))))]
 exact ha
end
theorem aIP{φ:AF}{t:TypeId}{ag:Bool}{w d k:Nat}{st:aA}{qc:AV}{l:List AV}(hI:eI prog t=some (ag,w))(hA:iF st w qc l)(h:φ d=.int .i64 (k:Int))(hk:k≤l.length):fS prog φ t qc none (some (.tmp d)) none=some (vV k qc):=by
 rcases hA with ⟨rfl,rfl⟩ | ⟨b,cs,rfl,_⟩
 · have h0:k=0:=by simpa using hk
   subst h0
   exact aIQ hI h
 · exact O4 hI h hk
section
variable {st0 st:aA} {S c m:Nat} {qt qc qn:AV} {p:List Cl} {q:List Tm} {idx:Bool} {fuel used mx:Int} {nd:List AV} {i:IS}
theorem cW.TX{k:Nat}{cs:List AV}{gl:List IG}(h:cW st0 st S c m qt qc qn p q idx fuel used mx nd i)(hk:k≤i.chs.length)(hcs:cs=gE c p q idx fuel used i.fresh (d5 gl) (vV k qc) qn mx) :
 cW st0 (st.aC S (.cells cs)) S c m qt (vV k qc) qn p q idx fuel used mx nd { i with goals:=gl,chs:=i.chs.take k }:=by
 obtain⟨h1,h2,h3,h4,h5,h6,_⟩:=h.parts
 subst hcs
 have hA:=h.acC.take (k:=k) (by rw[aE];exact hk) (N1 _)
 rw[←List.map_take] at hA
 refine h.go (aA.aH _ _ _) (h.sto.aC h1 h2 h4) (hA.aV fun b hb=>aA.aF _ _ (by rw[BR] at hb;rintro rfl;exact h5 hb)) (h.acN.aV fun b hb=>aA.aF _ _ (by rintro rfl;exact h6 hb)) h.ndl h.ndw (by unfold iB;rw[BR];exact h.dis) (fun b hb=>.inl (by unfold iB at hb;rw[BR] at hb;exact hb)) fun b o hb hn=>?_
 rw[aA.aF _ _ (by rintro rfl;exact hn (dT.2 (.inl rfl)))]
 exact hb
theorem cW.aPM{k:Nat}{cs:List AV}(h:cW st0 st S c m qt qc qn p q idx fuel used mx nd i)(hk:k≤i.nn)(hcs:cs=gE c p q idx fuel used i.fresh (d5 i.goals) qc (vV k qn) mx) :
 cW st0 (st.aC S (.cells cs)) S c m qt qc (vV k qn) p q idx fuel used mx (nd.take k) { i with nn:=k }:=by
 obtain⟨h1,h2,h3,h4,h5,h6,_⟩:=h.parts
 subst hcs
 have hnl:=h.ndl
 have hA:=h.acN.take (k:=k) (by rw[hnl];exact hk) h.ndw
 refine h.go (aA.aH _ _ _) (h.sto.aC h1 h2 h4) (h.acC.aV fun b hb=>aA.aF _ _ (by rintro rfl;exact h5 hb)) (hA.aV fun b hb=>aA.aF _ _ (by rw[BR] at hb;rintro rfl;exact h6 hb)) (by rw[dY,hnl];simp only;omega) (fun e he=>h.ndw e (nP he)) (by unfold iB;rw[BR];exact h.dis) (fun b hb=>.inl (by unfold iB at hb;rw[BR] at hb;exact hb)) fun b o hb hn=>?_
 rw[aA.aF _ _ (by rintro rfl;exact hn (dT.2 (.inl rfl)))]
 exact hb
end
def lW(c m:Nat)(st:aA)(q:AV)(tr:List Int)(x:Int×Sub×List Int)(r:AV)(st':aA):Prop:=r=.int .i64 x.1∧tQ c m st q x.2.1 (tr++x.2.2) st'
theorem lW.same{c m:Nat}{st:aA}{q:AV}{σ:Sub}{tr:List Int}(h:fN st c m q σ tr){r:AV}(k:Int)(hr:r=.int .i64 k):lW c m st q tr (k,σ,[]) r st:=⟨hr,q,by rw[fM];exact h,lI.refl _ _ _ _⟩
theorem fN.aKC{P:Program}{t e:TypeId}{st:aA}{c m:Nat}{q:AV}{σ:Sub}{tr:List Int}(h:fN st c m q σ tr)(hu:P.underlying t=some (.slice e)):jQ P t q=some (.int .i64 (tr.length:Int)):=by
 rcases h.eJ with ⟨rfl,rfl⟩ | ⟨b,cs,rfl,_⟩<;>simp only[jQ,hu,bS]
theorem DE{N:Nat}{σ:Sub}(hg:cD σ)(ho:cF (a9 N) σ)(a b:Tm)(ha:a9 N a)(hb:a9 N b)(c m:Nat)(q:AV)(tr:List Int)(st:aA)(hS:fN st c m q σ tr)(hl:tr.length+N≤1099511627776) :
 aD prog 228 [.ptr c 0,a.av,b.av] st (fun r st'=>r=.bool (iE σ a b).1∧tQ c m st q (iE σ a b).2.1 (tr++(iE σ a b).2.2) st'):=by
 obtain⟨r,σ',tr',hU⟩:=sB hg ho ha hb
 obtain⟨g,mP⟩:=hU.run
 have hlen:=BL hU.mG.nodup hU.fK
 rw[hU.eq]
 exact TM g σ a b r σ' tr' hg (ho.imp fun t ht=>ht.1.small) ha.1.small hb.1.small mP c m q tr st hS (by omega)
abbrev kK:=zi tI_3 (zi zI_3 (zi aZ (zi tI_4 (zi zI_4 (zi cG (zi tI_9 (zi zI_9 (zi eF (zi tI_28 (zi zI_28 (zi aQ (zi bM (zi bO (zi cA (zi tI_40 (zi zI_40 (zi dC (zi fH (zi fJ (zi fL (zi tI_52 (zi zI_52 (zi bX (zi bY (zi bZ (zi b7 (zi bV (zi tI_178 (zi zI_178 (zi tI_209 (zi zI_209 (zi AY (zi AZ AB)))))))))))))))))))))))))))))))))
theorem aMX{N:Nat}{σ:Sub}(hg:cD σ)(ho:cF (a9 N) σ)(n:Int)(s:ByteArray)(ks:List Tm)(hb:isBuiltin s (ks.length:Int)=true)(hv:∀x∈ks,a9 N x)(c m:Nat)(q:AV)(tr:List Int)(st:aA)(hS:fN st c m q σ tr)(hl:tr.length+N≤1099511627776) :
 aD prog 186 [.ptr c 0,(Tm.mk 3 n s ks).av] st (lW c m st q tr (cS σ s ks)):=by
 have NE:=aM4 3 n s ks
 have hcs:=R7 hb
 have BB:=fun x y (hxy:ks= [x,y]) h=>aM3 n s x y h (hv x (by simp [hxy])).1 (hv y (by simp [hxy])).1
 simp only[a7] at NE BB ⊢
 refine wF [1000000] 2 func186 ntmps186 rfl rfl ?_
 intro _
 simp -implicitDefEqProofs only[aB,seval,kK]
 refine(NE _).to ?_
 simp -implicitDefEqProofs only[aB,seval]
 refine aT (fun h=>?_) (fun h=>?_)
 · have h':ks.length=2∧fK pX s=true:=by simp at h;exact⟨by omega,h.2⟩
   obtain⟨x,y,rfl⟩:=s8 h'.1
   have e:cS σ s [x,y]=(vU s x y,σ,[]):=by simp only[cS];rw[aK h'.2]
   rw[e]
   have hc:=BB x y rfl h'.2
   simp only[bH,bG] at hc
   simp -implicitDefEqProofs only[aB,↓aX,seval,kK]
   refine(hc _).to ?_
   simp -implicitDefEqProofs only[aB,seval]
   exact lW.same hS _ rfl
 have hnc:ks.length=2→fK pX s=false:=fun h2=>by simpa [h2] using h
 clear NE BB h
 simp -implicitDefEqProofs only[aB,seval,kK]
 refine aT (fun h=>?_) (fun h=>?_)
 · have hs:s=⟨#[116,114,117,101]⟩:=by simpa using h
   have hk:=IT (ts:=ks) (by subst hs;simpa [isBuiltin] using hb)
   subst hk
   simp -implicitDefEqProofs only[aB,seval]
   exact lW.same hS _ (by simp [gJ,hs])
 have ht:s≠⟨#[116,114,117,101]⟩:=by simpa using h
 simp -implicitDefEqProofs only[aB,seval]
 refine aT (fun h=>?_) (fun h=>?_)
 · have hs:s=⟨#[102,97,105,108]⟩:=by simpa using h
   have hk:=IT (ts:=ks) (by subst hs;simpa [isBuiltin] using hb)
   subst hk
   simp -implicitDefEqProofs only[aB,seval]
   exact lW.same hS _ (by simp [gJ,hs])
 have hf:s≠⟨#[102,97,105,108]⟩:=by simpa using h
 simp -implicitDefEqProofs only[aB,seval]
 refine aT (fun h=>?_) (fun h=>?_)
 · have hs:s=⟨#[61]⟩:=by simpa using h
   obtain⟨x,y,rfl⟩:=s8 (ts:=ks) (by subst hs;simp [isBuiltin] at hb;omega)
   have e:cS σ s [x,y]=qN σ x y:=by simp only[cS];rw[aG (by rw[hnc rfl];simp),aK hs]
   rw[e]
   have dS:dG prog 28 (.slice [x.av,y.av]) (.int .i64 0)=some (.pptr x.av):=bJ (av:=Tm.av) (l:=[x,y]) (i:=0) aQ rfl (aN x)
   have fU:dG prog 28 (.slice [x.av,y.av]) (.int .i64 1)=some (.pptr y.av):=bJ (av:=Tm.av) (l:=[x,y]) (i:=1) aQ rfl (aN y)
   simp -implicitDefEqProofs only[aB,↓aX,seval]
   refine wX [(0,1),(1,1),(2,1),(3,1),(4,1),(5,1),(6,1),(7,0),(8,0),(9,1)] [0,1,2,3,4,5,6,9] cY mixed rfl d9 ?_
   simp -implicitDefEqProofs only[dS,fU,bU,aN,aB,seval,kK]
   refine(DE hg ho x y (hv x (by simp)) (hv y (by simp)) c m q tr _ hS hl).mono ?_
   rintro _ s2 ⟨rfl,hP⟩
   simp -implicitDefEqProofs only[aB,seval]
   refine⟨d9,?_⟩
   refine(nU _ _).to ?_
   simp -implicitDefEqProofs only[aB,seval]
   exact⟨d9,rfl,hP⟩
 have he:s≠⟨#[61]⟩:=by simpa using h
 simp -implicitDefEqProofs only[aB,seval]
 refine aT (fun h=>?_) (fun h=>?_)
 · have hs:s=⟨#[92,61]⟩:=by simpa using h
   obtain⟨x,y,rfl⟩:=s8 (ts:=ks) (by subst hs;simp [isBuiltin] at hb;omega)
   have e:cS σ s [x,y]=(gJ (!(iE σ x y).1),σ,[]):=by simp only[cS];rw[aG (by rw[hnc rfl];simp),aG he,aK hs]
   rw[e]
   have e1:=hS.sub.cells
   have hql:=hS.aKC fL
   obtain⟨hqa,hqw,hqj,hqc,hqs⟩:=hS.shape
   have dS:dG prog 28 (.slice [x.av,y.av]) (.int .i64 0)=some (.pptr x.av):=bJ (av:=Tm.av) (l:=[x,y]) (i:=0) aQ rfl (aN x)
   have fU:dG prog 28 (.slice [x.av,y.av]) (.int .i64 1)=some (.pptr y.av):=bJ (av:=Tm.av) (l:=[x,y]) (i:=1) aQ rfl (aN y)
   simp -implicitDefEqProofs only[e1,hql,hqa,aB,↓aX,seval,kK]
   refine wX [(0,1),(1,1),(2,1),(3,1),(4,1),(5,1),(6,1),(7,0),(8,1)] [0,1,2,3,4,5,6,8] cY mixed rfl d9 ?_
   simp -implicitDefEqProofs only[dS,fU,bU,aN,aB,seval,kK]
   refine(DE hg ho x y (hv x (by simp)) (hv y (by simp)) c m q tr _ hS hl).mono ?_
   rintro _ s2 ⟨rfl,hP⟩
   obtain⟨r,σ',add,hU⟩:=sB hg ho (hv x (by simp)) (hv y (by simp))
   rw[hU.eq] at hP ⊢
   obtain⟨q',hS2,hQ2⟩:=hP
   have aQ5:=BL hU.mG.nodup hU.fK
   simp -implicitDefEqProofs only[aB,seval]
   refine⟨d9,?_⟩
   refine(MB σ' (tr++add) tr.length (by simp) c m q' s2 hS2 (by rw[dX];omega)).mono ?_
   rintro _ s3 ⟨rfl,q2,hS3,hb3,hk3⟩
   rw[zD,CK,show σ'.out add=σ from funext fun n=>hU.out n] at hS3
   simp -implicitDefEqProofs only[aB,seval]
   refine(nU _ _).to ?_
   simp -implicitDefEqProofs only[aB,seval]
   refine⟨rfl,q2,by rw[fM];exact hS3,fun b o h h1 h2 h3=>hk3 b o (hQ2.frame b o h h1 h2 h3) h1 h2,fun b hb'=>hQ2.fresh b (hb3 b hb')⟩
 have hne:s≠⟨#[92,61]⟩:=by simpa using h
 simp -implicitDefEqProofs only[aB,seval]
 refine aT (fun h=>?_) (fun h=>?_)
 · have hs:s=⟨#[61,61]⟩:=by simpa using h
   obtain⟨x,y,rfl⟩:=s8 (ts:=ks) (by subst hs;simp [isBuiltin] at hb;omega)
   have e:cS σ s [x,y]=(gJ (x.same y),σ,[]):=by simp only[cS];rw[aG (by rw[hnc rfl];simp),aG he,aG hne,aK hs]
   rw[e]
   have dS:dG prog 28 (.slice [x.av,y.av]) (.int .i64 0)=some (.pptr x.av):=bJ (av:=Tm.av) (l:=[x,y]) (i:=0) aQ rfl (aN x)
   have fU:dG prog 28 (.slice [x.av,y.av]) (.int .i64 1)=some (.pptr y.av):=bJ (av:=Tm.av) (l:=[x,y]) (i:=1) aQ rfl (aN y)
   simp -implicitDefEqProofs only[aB,↓aX,seval]
   refine z9 mixed (by decide +kernel) (by decide +kernel) ?_
   simp -implicitDefEqProofs only[dS,fU,bU,aN,aB,seval,kK]
   refine jW (SO x y _) ?_
   simp -implicitDefEqProofs only[aB,seval]
   refine jW (nU _ _) ?_
   simp -implicitDefEqProofs only[aB,seval]
   exact lW.same hS _ rfl
 have hee:s≠⟨#[61,61]⟩:=by simpa using h
 simp -implicitDefEqProofs only[aB,seval]
 refine aT (fun h=>?_) (fun h=>?_)
 · have hs:s=⟨#[105,115]⟩:=by simpa using h
   obtain⟨x,y,rfl⟩:=s8 (ts:=ks) (by subst hs;simp [isBuiltin] at hb;omega)
   have e:cS σ s [x,y]=if y.ev.2≠0 then(y.ev.2,σ,[]) else qN σ x (mQ y.ev.1):=by simp only[cS];rw[aG (by rw[hnc rfl];simp),aG he,aG hne,aG hee]
   rw[e]
   have hy:=hv y (by simp)
   have hin:=IP (N:=N) (Tm.sQ y hy.1)
   have har:=fun st=>GX y st hy.1
   generalize y.ev.1=a at *
   generalize y.ev.2=ca at *
   have dS:dG prog 28 (.slice [x.av,y.av]) (.int .i64 0)=some (.pptr x.av):=bJ (av:=Tm.av) (l:=[x,y]) (i:=0) aQ rfl (aN x)
   have fU:dG prog 28 (.slice [x.av,y.av]) (.int .i64 1)=some (.pptr y.av):=bJ (av:=Tm.av) (l:=[x,y]) (i:=1) aQ rfl (aN y)
   simp -implicitDefEqProofs only[fU,bU,aN,aB,↓aX,seval,kK]
   refine(har _).to ?_
   simp -implicitDefEqProofs only[aB,seval]
   refine aT (fun h4=>?_) (fun h4=>?_)
   · simp -implicitDefEqProofs only[aB,seval]
     have h4':ca≠0:=by simpa using h4
     rw[aK h4']
     exact lW.same hS _ rfl
   have h4':ca=0:=by simpa using h4
   subst h4'
   rw[aG (by simp)]
   simp -implicitDefEqProofs only[aB,seval]
   refine wX [(0,1),(1,1),(2,1),(3,1),(4,1),(5,0),(6,0),(7,0),(8,1)] [0,1,2,3,4,8] cY mixed rfl d9 ?_
   simp -implicitDefEqProofs only[dS,bU,aN,aB,seval,kK]
   refine(aOL a _).to ?_
   simp -implicitDefEqProofs only[aB,seval]
   refine⟨d9,?_⟩
   refine(DE hg ho x (mQ a) (hv x (by simp)) hin c m q tr _ hS hl).mono ?_
   rintro _ s2 ⟨rfl,hP⟩
   simp -implicitDefEqProofs only[aB,seval]
   refine⟨d9,?_⟩
   refine(nU _ _).to ?_
   simp -implicitDefEqProofs only[aB,seval]
   exact⟨d9,rfl,hP⟩
 have his:s≠⟨#[105,115]⟩:=by simpa using h
 simp -implicitDefEqProofs only[aB,seval]
 refine aT (fun h=>?_) (fun h=>?_)
 · have hs:s=⟨#[118,97,114]⟩:=by simpa using h
   obtain⟨x,rfl⟩:=EP (ts:=ks) (by subst hs;simp [isBuiltin] at hb;omega)
   have e:cS σ s [x]=(gJ (rZ s x),σ,[]):=rfl
   rw[e]
   subst hs
   obtain⟨xk,xn,xs,xt⟩:=x
   have dS:dG prog 28 (.slice [(Tm.mk xk xn xs xt).av]) (.int .i64 0)=some (.pptr (Tm.mk xk xn xs xt).av):=bJ (av:=Tm.av) (l:=[Tm.mk xk xn xs xt]) (i:=0) aQ rfl (aN _)
   have eat:=DB xk xn xs xt
   simp only[a7] at dS eat
   simp only[bH,bG,a7]
   simp -implicitDefEqProofs only[dS,aB,↓aX,seval,kK]
   refine(nU _ _).to ?_
   simp -implicitDefEqProofs only[aB,seval]
   exact lW.same hS _ rfl
 have hva:s≠⟨#[118,97,114]⟩:=by simpa using h
 simp -implicitDefEqProofs only[aB,seval]
 refine aT (fun h=>?_) (fun h=>?_)
 · have hs:s=⟨#[110,111,110,118,97,114]⟩:=by simpa using h
   obtain⟨x,rfl⟩:=EP (ts:=ks) (by subst hs;simp [isBuiltin] at hb;omega)
   have e:cS σ s [x]=(gJ (rZ s x),σ,[]):=rfl
   rw[e]
   subst hs
   obtain⟨xk,xn,xs,xt⟩:=x
   have dS:dG prog 28 (.slice [(Tm.mk xk xn xs xt).av]) (.int .i64 0)=some (.pptr (Tm.mk xk xn xs xt).av):=bJ (av:=Tm.av) (l:=[Tm.mk xk xn xs xt]) (i:=0) aQ rfl (aN _)
   have eat:=DB xk xn xs xt
   simp only[a7] at dS eat
   simp only[bH,bG,a7]
   simp -implicitDefEqProofs only[dS,aB,↓aX,seval,kK]
   refine(nU _ _).to ?_
   simp -implicitDefEqProofs only[aB,seval]
   exact lW.same hS _ rfl
 have hnv:s≠⟨#[110,111,110,118,97,114]⟩:=by simpa using h
 simp -implicitDefEqProofs only[aB,seval]
 refine aT (fun h=>?_) (fun h=>?_)
 · have hs:s=⟨#[97,116,111,109]⟩:=by simpa using h
   obtain⟨x,rfl⟩:=EP (ts:=ks) (by subst hs;simp [isBuiltin] at hb;omega)
   have e:cS σ s [x]=(gJ (rZ s x),σ,[]):=rfl
   rw[e]
   subst hs
   obtain⟨xk,xn,xs,xt⟩:=x
   have dS:dG prog 28 (.slice [(Tm.mk xk xn xs xt).av]) (.int .i64 0)=some (.pptr (Tm.mk xk xn xs xt).av):=bJ (av:=Tm.av) (l:=[Tm.mk xk xn xs xt]) (i:=0) aQ rfl (aN _)
   have eat:=DB xk xn xs xt
   simp only[a7] at dS eat
   simp only[bH,bG,a7]
   simp -implicitDefEqProofs only[dS,aB,↓aX,seval,kK]
   refine(eat _).to ?_
   simp -implicitDefEqProofs only[aB,seval]
   refine(nU _ _).to ?_
   simp -implicitDefEqProofs only[aB,seval]
   exact lW.same hS _ rfl
 have hat:s≠⟨#[97,116,111,109]⟩:=by simpa using h
 simp -implicitDefEqProofs only[aB,seval]
 refine aT (fun h=>?_) (fun h=>?_)
 · have hs:s=⟨#[105,110,116]⟩:=by simpa using h
   obtain⟨x,rfl⟩:=EP (ts:=ks) (by subst hs;simp [isBuiltin] at hb;omega)
   have e:cS σ s [x]=(gJ (rZ s x),σ,[]):=rfl
   rw[e]
   subst hs
   obtain⟨xk,xn,xs,xt⟩:=x
   have dS:dG prog 28 (.slice [(Tm.mk xk xn xs xt).av]) (.int .i64 0)=some (.pptr (Tm.mk xk xn xs xt).av):=bJ (av:=Tm.av) (l:=[Tm.mk xk xn xs xt]) (i:=0) aQ rfl (aN _)
   have eat:=DB xk xn xs xt
   simp only[a7] at dS eat
   simp only[bH,bG,a7]
   simp -implicitDefEqProofs only[dS,aB,↓aX,seval,kK]
   refine(nU _ _).to ?_
   simp -implicitDefEqProofs only[aB,seval]
   exact lW.same hS _ rfl
 have hint:s≠⟨#[105,110,116]⟩:=by simpa using h
 have hs:s=⟨#[97,114,103]⟩∧ks.length=3:=by
  rcases hcs with ⟨h2,h3⟩ | ⟨h2,h3⟩ | ⟨h2,h3⟩ | ⟨h2,h3⟩
  · rw[hnc h2] at h3
    simp [he,hne,hee,his] at h3
  · simp [ht,hf] at h3
  · simp [hva,hnv,hat,hint] at h3
  · exact⟨h3,h2⟩
 obtain⟨hs,hk3⟩:=hs
 obtain⟨x,y,z,rfl⟩:=aG2 hk3
 have hz:=hv z (by simp)
 have hy:=hv y (by simp)
 have e:cS σ s [x,y,z]=tV σ x y z:=rfl
 rw[e]
 unfold tV
 have dS:dG prog 28 (.slice [x.av,y.av,z.av]) (.int .i64 0)=some (.pptr x.av):=bJ (av:=Tm.av) (l:=[x,y,z]) (i:=0) aQ rfl (aN x)
 have fU:dG prog 28 (.slice [x.av,y.av,z.av]) (.int .i64 1)=some (.pptr y.av):=bJ (av:=Tm.av) (l:=[x,y,z]) (i:=1) aQ rfl (aN y)
 have H3:dG prog 28 (.slice [x.av,y.av,z.av]) (.int .i64 2)=some (.pptr z.av):=bJ (av:=Tm.av) (l:=[x,y,z]) (i:=2) aQ rfl (aN z)
 clear hcs hb hnc hv e
 obtain⟨xk,xn,xs,xt⟩:=x
 obtain⟨yk,yn,ys,yt⟩:=y
 have hyl:yt.length≤4:=by
  exact hy.1.kind.2
 rw[a7] at dS
 simp only[a7 xk,a7 yk] at dS fU H3
 simp only[bH,bG,a7 xk,a7 yk,Tm.k,Tm.ts]
 simp -implicitDefEqProofs only[dS,aB,↓aX,seval,kK]
 refine cT (fun h=>?_) (fun h=>?_)
 case refine_2=>
  have h':xk=1:=by simpa using h
  simp -implicitDefEqProofs only[h,aB,seval]
  rw[aK (.inl h')]
  exact lW.same hS _ rfl
 have hx1:xk≠1:=by simpa using h
 simp -implicitDefEqProofs only[h,fU,aB,seval,kK]
 refine aT (fun h1=>?_) (fun h1=>?_)
 · have h':yk=1:=by simpa using h1
   simp -implicitDefEqProofs only[aB,seval]
   rw[aK (.inr h')]
   exact lW.same hS _ rfl
 have hy1:yk≠1:=by simpa using h1
 rw[aG (fun h2=>h2.elim hx1 hy1)]
 have h3:∀s2,(xk≠2∨yk≠3∨yt.length=0)→s2=st→lW c m st q tr (if xk≠2∨yk≠3∨yt.length=0 then((3:Int),σ,[]) else match l8 (.mk xk xn xs xt) (.mk yk yn ys yt) with | some u=>qN σ z u | none=>(1,σ,[])) (.int .i64 3) s2:=fun s2 hh e=>by
  subst e
  rw[aK hh]
  exact lW.same hS _ rfl
 simp -implicitDefEqProofs only[dS,aB,seval,kK]
 refine cT (fun h4=>?_) (fun h4=>?_)
 case refine_2=>
  have h':xk≠2:=by simpa using h4
  simp -implicitDefEqProofs only[h4,aB,seval]
  exact h3 _ (.inl h') rfl
 have hx2:xk=2:=by simpa using h4
 simp -implicitDefEqProofs only[h4,fU,aB,seval,kK]
 refine cT (fun h5=>?_) (fun h5=>?_)
 case refine_2=>
  have h':yk≠3:=by simpa using h5
  simp -implicitDefEqProofs only[h5,aB,seval]
  exact h3 _ (.inr (.inl h')) rfl
 have hy3:yk=3:=by simpa using h5
 simp -implicitDefEqProofs only[h5,fU,aE,aB,seval,kK]
 refine aT (fun h6=>?_) (fun h6=>?_)
 · have h':yt.length=0:=by simp at h6;simp [h6]
   simp -implicitDefEqProofs only[aB,seval]
   exact h3 _ (.inr (.inr h')) rfl
 have hyt:yt.length≠0:=by simp at h6;simpa using h6
 clear h3
 rw[aG (by simp [hx2,hy3];intro h7;simp [h7] at hyt)]
 simp -implicitDefEqProofs only[aB,seval]
 refine z9 mixed (by decide +kernel) (by decide +kernel) ?_
 simp -implicitDefEqProofs only[dS,fU,aE,aB,seval,kK]
 refine jW (xJ xn 1 _ _) ?_
 simp -implicitDefEqProofs only[aB,seval]
 refine aT (fun h7=>?_) (fun h7=>?_)
 · have h':¬(1≤xn∧xn≤yt.length):=by simp at h7;omega
   have ea:l8 (.mk xk xn xs xt) (.mk yk yn ys yt)=none:=aG h'
   rw[ea]
   simp -implicitDefEqProofs only[aB,seval]
   exact lW.same hS _ rfl
 have h':1≤xn∧xn≤yt.length:=by simp at h7;omega
 obtain⟨i,hi⟩:∃i:Nat,xn - 1=i:=⟨(xn - 1).toNat,by omega⟩
 have hlt:i<yt.length:=by omega
 obtain⟨u,hu⟩:∃u,yt[i]?=some u:=⟨_,eQ hlt⟩
 have ea:l8 (.mk xk xn xs xt) (.mk yk yn ys yt)=some u:=by
  refine(aK h').trans ?_
  show yt[(xn - 1).toNat]?=some u
  rw[hi,jM,hu]
 rw[ea]
 have huv:a9 N u:=qD N (.mk yk yn ys yt) hy1 hy u (cL hu)
 have hw:IntKind.i64.wrap (xn - 1)=(i:Int):=by rw[wrap64 (by omega) (by omega)];exact hi
 have M5:=bJ (av:=Tm.av) (P:=prog) aQ hu (aN u)
 simp -implicitDefEqProofs only[aB,seval]
 refine wX [(0,1),(1,1),(2,1),(3,1),(4,1),(5,1),(6,1),(7,1),(8,1),(9,1),(10,1),(11,1),(12,1),(13,1),(14,1),(15,0),(16,0),(17,1)] [0,1,2,3,4,5,6,7,8,9,10,11,12,13,14,17] cY mixed rfl d9 ?_
 simp -implicitDefEqProofs only[dS,fU,H3,M5,hw,bU,aN,aB,seval,kK]
 refine(DE hg ho z u hz huv c m q tr _ hS hl).mono ?_
 rintro _ s2 ⟨rfl,hP⟩
 simp -implicitDefEqProofs only[aB,seval]
 refine⟨d9,?_⟩
 refine(nU _ _).to ?_
 simp -implicitDefEqProofs only[aB,seval]
 exact⟨d9,rfl,hP⟩
end Go.AW
