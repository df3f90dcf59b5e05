import Derived.Test.YthigelfjekcbmaaGreatDoorSlsm
import Derived.Test.YthigelfjekcbmaaGreatDoorSlsl
import Derived.Test.YthigelfjekcbmaaGreatDoorSlsj
import Derived.Test.YthigelfjekcbmaaGreatDoorSlsk
set_option linter.unusedSimpArgs false
set_option linter.unusedVariables false
set_option maxRecDepth 100000
namespace Go.AW
open Go.Proofs.Tryz
def nv(i:Nat):AV:=.int .i64 (i:Int)
def dV:RG→AV
 | ⟨.mk k n s ts,aU⟩=>.agg [.int .i64 k,.int .i64 n,.str s,.slice (ts.map Tm.av),.int .i64 (aU:Int)]
theorem D7(k n:Int)(s:ByteArray)(ts:List Tm)(aU:Nat):dV ⟨.mk k n s ts,aU⟩=.agg [.int .i64 k,.int .i64 n,.str s,.slice (ts.map Tm.av),.int .i64 (aU:Int)]:=rfl
theorem aT8(g:RG):dV g=.agg (g.t.av.cells++ [.int .i64 (g.aU:Int)]):=by obtain⟨⟨k,n,s,ts⟩,aU⟩:=g;rw[aX];try rfl
theorem A3(g:RG):(dV g).width=5:=by obtain⟨⟨k,n,s,ts⟩,aU⟩:=g;rfl
theorem aT9(g:RG):(dV g).cells.all AV.storable=true:=by obtain⟨⟨k,n,s,ts⟩,aU⟩:=g;rfl
theorem aT7(g:RG):(dV g).cA=false:=by obtain⟨⟨k,n,s,ts⟩,aU⟩:=g;rfl
def eP:RC→AV
 | ⟨.mk k n s ts,rest,left,σ,N⟩=>.agg [.int .i64 k,.int .i64 n,.str s,.slice (ts.map Tm.av),.slice (rest.map dV),.slice (left.map nv),.slice (cF N σ)]
theorem H3(g:RC):(eP g).width=7:=by obtain⟨⟨k,n,s,ts⟩,_,_,_,_⟩:=g;rfl
theorem aTV(g:RC):(eP g).cells.all AV.storable=true:=by obtain⟨⟨k,n,s,ts⟩,_,_,_,_⟩:=g;rfl
theorem aTU(g:RC):(eP g).cA=false:=by obtain⟨⟨k,n,s,ts⟩,_,_,_,_⟩:=g;rfl
def qV(s:RS):AV:=.agg [.slice (s.goals.map dV),.slice (cF s.N s.σ),.slice (s.chs.map eP)]
abbrev OK:=zi tI_3 (zi zI_3 (zi aY (zi tI_4 (zi zI_4 (zi cG (zi tI_28 (zi zI_28 (zi aP (zi bE (zi bF (zi b9 (zi tI_52 (zi zI_52 (zi bU (zi bV (zi bX (zi bY bT)))))))))))))))))
theorem RU:∀(t:Tm) (d:Nat) (st:aA),d≤1000→t.small=true→aD prog 201 [t.av,.int .i64 (d:Int)] st (fun r st'=>r=.bool (t.flat d)∧st'=st)
 | .mk k n s ts,d,st,hd,hsm=>by
  obtain⟨hlen,pG⟩:=Tm.oO hsm
  have IH:=fun(x:Tm) (hx:x∈ts) d st h=>RU x d st h (pG x hx)
  simp only[aX]
  refine wF [1000000] 2 func201 ntmps201 rfl rfl ?_
  intro _
  simp -implicitDefEqProofs only[aB,seval,OK]
  refine aT (fun h=>?_) (fun h=>?_)
  · simp only[bM] at h
    obtain rfl:d=0:=by omega
    simp -implicitDefEqProofs only[aB,↓aW,seval]
    rw[Tm.C7]
  simp only[cM] at h
  obtain⟨e,rfl⟩:∃e,d=e+1:=⟨d - 1,by omega⟩
  rw[Tm.tJ]
  have hw1:IntKind.i64.wrap ((e:Int)+1 - 1)=(e:Int):=by rw[wrap64 (by omega) (by omega)];omega
  simp -implicitDefEqProofs only[aB,seval]
  refine dQ (σ:=Unit) [1000000] [1,2] ts (fun i _=>((ts.drop i).all fun t=>t.flat e)=(ts.all fun t=>t.flat e)) (fun i _=>[(5,.int .i64 i)]) (fun _ _=>st) (by decide +kernel) ⟨(),rfl,aR.mk (by simp -implicitDefEqProofs only[aB,↓aW,seval])⟩ (fun i x _ hx hlt bD hdr hinv=>?_) (fun _ hge hinv=>?_)
  case refine_2=>
   simp -implicitDefEqProofs only[hge,aE,aB,seval,OK]
   rw[←hinv,iD]
   try rfl
  have hw:=bJ (n:=(i:Int)+1)
  rw[hdr,iW] at hinv
  simp -implicitDefEqProofs only[bD,aE,bG (av:=Tm.av) aP hx (aO x),b7,aO,hw1,aB,seval,OK]
  refine(IH x (cI hx) e _ (by omega)).to ?_
  simp -implicitDefEqProofs only[aB,seval]
  refine aT (fun h2=>?_) (fun h2=>?_)
  · simp -implicitDefEqProofs only[aB,seval]
    simp only[gN] at h2
    rw[←hinv,h2]
    try rfl
  · simp only[j3] at h2
    rw[h2,iC] at hinv
    simp -implicitDefEqProofs only[aB,seval]
    exact⟨(),hinv,aR.mk (by simp -implicitDefEqProofs only[hw,aB,seval])⟩
termination_by t=>SizeOf.sizeOf t
decreasing_by have:=List.sizeOf_lt_of_mem hx;simp only[Tm.mk.sizeOf_spec];omega
abbrev EI:=zi tI_3 (zi zI_3 (zi aY (zi tI_4 (zi zI_4 (zi cG (zi tI_28 (zi zI_28 (zi aP (zi bE (zi bF (zi b9 (zi tI_30 (zi zI_30 (zi lA (zi lB (zi lC (zi lD (zi lE (zi lF (zi k8 (zi tI_52 (zi zI_52 (zi bU (zi bV (zi bX (zi bY (zi bT (zi tI_120 (zi zI_120 (zi zS (zi zT y8)))))))))))))))))))))))))))))))
theorem RW{N:Nat}{σ:Sub}(hg:cC σ)(ho:cD (a8 N) σ)(t:Tm)(ht:a8 N t)(st:aA) :
 aD prog 159 [t.av,.slice (cF N σ)] st (fun r st'=>st'=st∧∃x:Tm,r=.tup [x.av,.bool (dZ (t.aH (rs σ)))]∧(dZ (t.aH (rs σ))=true→x=t.aH (rs σ))):=by
 obtain⟨rk,B,G⟩:=hg.rs
 have MA:=fun st=>QV G ho 120 t st (cT _) ht
 have hV:=G.M5 ho.kD ht.1
 refine aD.m7 (aD.soft ?_)
 refine wF [1000000] 2 func159 ntmps159 rfl rfl ?_
 intro _
 simp -implicitDefEqProofs only[b7,aO,Tm.eG,aB,seval,EI]
 intro b4 h4
 refine(MA _).mono ?_
 rintro _ _ ⟨rfl,x,left,rfl,h1,h2⟩
 simp -implicitDefEqProofs only[aO,Tm.dY,Tm.eG,aB,↓aW,seval,EI]
 refine wP [(1,1),(2,1),(3,1),(4,2),(0,1),(5,0),(6,1),(7,0),(8,1)] [1,2,3,4,0,6,8] mixed ?_
 simp -implicitDefEqProofs only[aB,seval]
 refine cS (fun h=>?_) (fun h=>?_)
 · have h3:0≤left:=by simpa using h
   have h4:(t.aH (rs σ)).nodes≤120:=yA fun h5=>by rw[aG h5] at h2;omega
   rw[aK h4] at h2
   obtain⟨rfl,_⟩:=h2
   have h5:dZ (t.aH (rs σ))=(t.aH (rs σ)).flat 30:=by unfold dZ;simp [h4]
   simp -implicitDefEqProofs only[h,b7,aO,aB,seval,EI]
   refine(RU _ 30 _ (by omega) hV.small).to ?_
   simp -implicitDefEqProofs only[aS,Tm.dY,Tm.eG,Tm.eV,aB,seval,EI]
   refine⟨st,(aM.refl _).aC ‹_›,rfl,_,by simp only[mP,t7,Tm.soft,bK,bL];rw[h5],fun _=>rfl⟩
 · have hx0:=trivial
   have h3:left<0:=by simpa using h
   have h4:¬(t.aH (rs σ)).nodes≤120:=fun h5=>by rw[aK h5] at h2;omega
   have h5:dZ (t.aH (rs σ))=false:=by unfold dZ;simp [h4]
   simp -implicitDefEqProofs only[h,aS,b7,aO,Tm.dY,Tm.eG,Tm.eV,oP (Tm.eV x),nX (b7 x),aB,seval,EI]
   refine⟨st,(aM.refl _).aC ‹_›,rfl,x,by simp only[mP,t7,Tm.soft,bK,bL];rw[h5],fun h6=>?_⟩
   rw[h5] at h6;cases h6
theorem aPG(c:Cl):C8 c=(bO (c.1::c.2) []).foldl (fun n v=>if n≤v then v+1 else n) 0:=rfl
abbrev IM:=zi tI_3 (zi zI_3 (zi aY (zi tI_28 (zi zI_28 (zi aP (zi bE (zi bF (zi b9 (zi tI_40 (zi zI_40 (zi dS (zi fV (zi fW (zi f9 (zi tI_52 (zi zI_52 (zi bU (zi bV (zi bX (zi bY (zi bT (zi tI_111 (zi zI_111 (zi jT (zi jU jS)))))))))))))))))))))))))
theorem aMS(c:Cl)(hc:fJ c)(h6:c.2.length≤6)(st:aA):aD prog 210 [bB c] st (fun r st'=>r=.int .i64 (mI c:Int)∧st'=st):=by
 have hvr:=fun v=>hc.vars (v:=v)
 have hok:=hc.AS
 have hfr:(mI c:Int)=C8 c:=by
  have:=(aDX (bO (c.1::c.2) []) 0).1
  unfold mI C8
  omega
 rw[hfr,aPG]
 have hnd:aJ Tm.nodes (c.1::c.2)≤1099511627776:=by
  have:∀l:List Tm,(∀t∈l,a8 26 t)→aJ Tm.nodes l≤l.length*120:=by
   intro l
   induction l with
   | nil=>intro _;simp [aJ]
   | cons x l ih=>intro h;simp only[aJ,bA];have:=ih fun y hy=>h y (by simp [hy]);have:=(h x (by simp)).2;omega
  have:=this _ hok
  simp only[bA] at this
  omega
 have hvl:=v3 (c.1::c.2) []
 obtain⟨⟨k,n,s,ts⟩,bd⟩:=c
 simp only at h6 hnd hvl hvr hok
 rw[k9]
 refine aD.done ?_
 refine wF [1000000] 1 func210 ntmps210 rfl rfl ?_
 intro _
 simp -implicitDefEqProofs only[aB,seval,IM]
 refine aKA aP bE bF rfl (.inl rfl) (by intro e he;simp only[cO,dD,dI] at he;subst he;rfl) (fun e he=>by simp only[cE] at he;obtain⟨t,_,rfl⟩:=he;exact⟨aO _,Tm.dY _⟩) (by simp only[bA,bQ,aE];omega) (by simp only[bA,bQ,aE];omega) (fun q s2 hq=>?_)
 rw[←aX] at hq
 rw[show[(Tm.mk k n s ts).av]++bd.map Tm.av=((Tm.mk k n s ts)::bd).map Tm.av from rfl] at hq
 simp -implicitDefEqProofs only[aB,seval]
 refine Lit.call hq (pT _) (gV _) (fun _=>rfl) ?_
 refine(RY _ _ (fun t ht=>Tm.rO t (hok t ht).1.2.1) hnd).to ?_
 generalize bO ((Tm.mk k n s ts)::bd) []=vs at *
 simp only[bQ] at hvl
 simp -implicitDefEqProofs only[aB,seval]
 refine dQ (σ:=Int) [1000000] [2,3] vs (fun i n=>(vs.drop i).foldl (fun n v=>if n≤v then v+1 else n) n=vs.foldl (fun n v=>if n≤v then v+1 else n) 0) (fun i n=>[(4,.int .i64 n),(5,.int .i64 i)]) (fun _ _=>st) (by decide +kernel) ⟨0,rfl,aR.mk (by simp -implicitDefEqProofs only[aB,↓aW,seval])⟩ (fun i x n hx hlt bD hdr hinv=>?_) (fun n hge hinv=>?_)
 case refine_2=>
  rw[iD] at hinv
  simp -implicitDefEqProofs only[aE,hge,aB,seval,IM]
  refine⟨?_,aM.refl _⟩
  rw[←hinv]
  try rfl
 rw[hdr,List.foldl_cons] at hinv
 have hw:=bJ (n:=(i:Int)+1)
 obtain⟨t,ht,hv⟩:=(hvr x).1 (cI hx)
 have aYN:=(hok t ht).1.2.2 x hv
 have hw2:=bJ (n:=x+1)
 have hat:dF prog 40 (.slice (vs.map iv)) (.int .i64 (i:Int))=some (.pptr (.int .i64 x)):=bG (av:=iv) dS hx rfl
 simp -implicitDefEqProofs only[aE,bD,hat,aB,seval,IM]
 refine aT (fun h=>?_) (fun h=>?_)
 · rw[aK (by simpa using h)] at hinv
   simp -implicitDefEqProofs only[hat,hw2,hw,aB,seval,IM]
   exact⟨x+1,hinv,aR.mk (by simp -implicitDefEqProofs only[aB,seval])⟩
 · rw[aG (by simpa using h)] at hinv
   simp -implicitDefEqProofs only[hw,aB,seval]
   exact⟨n,hinv,aR.mk (by simp -implicitDefEqProofs only[aB,seval])⟩
theorem aGT{M:Int}(m:Nat)(hm:M+m≤1073741824):∀t:Tm,cB M t→t.sh (m:Int)=cU m t:=by
 intro t
 induction t using Tm.ind with
 | h k n s ts ih=>
  intro h
  rw[Tm.NT]
  by_cases hk:k=1
  · subst hk
    obtain⟨h0,h1,rfl,rfl⟩:=h.var
    unfold cU
    rw[aK rfl,vS _ (t:=.mk 1 n ⟨#[]⟩ []) rfl,wrap64 (by omega) (by omega)]
    try rfl
  · obtain⟨_,h2⟩:=h.own hk
    unfold cU at ih ⊢
    rw[aG hk,tZ _ hk]
    congr 1
    exact oW fun x hx=>ih x hx (h2 x hx)
abbrev IN:=zi tI_3 (zi zI_3 (zi aY (zi tI_28 (zi zI_28 (zi aP (zi bE (zi bF (zi b9 (zi tI_52 (zi zI_52 (zi bU (zi bV (zi bX (zi bY (zi bT (zi tI_156 (zi zI_156 (zi tE (zi wT (zi wV (zi ET (zi tI_193 (zi zI_193 (zi aDA (zi aDB QM)))))))))))))))))))))))))
theorem RV(bd:List Tm)(N aU:Nat)(rest:List RG)(hb:∀t∈bd,a8 26 t)(h6:bd.length≤6)(hN:N≤1048576)(hr:rest.length≤1048576)(st:aA) :
 aD prog 158 [.slice (bd.map Tm.av),.int .i64 (N:Int),.int .i64 (aU:Int),.slice (rest.map dV)] st (fun r st'=>r=.slice ((bd.map (fun t=>(⟨cU N t,aU⟩:RG))++rest).map dV)∧st'=st):=by
 refine aD.rQ (aD.fin ?_)
 refine wF [1000000] 4 func158 ntmps158 rfl rfl ?_
 intro _
 simp -implicitDefEqProofs only[aB,seval,IN]
 refine dQ (σ:=Nat) [1000000] [0,1,2,3,8] bd (fun i b=>((bd.take i).map (fun t=>(⟨cU N t,aU⟩:RG))).map dV≠[]→st b=none) (fun i b=>[(9,bR 5 b (((bd.take i).map (fun t=>(⟨cU N t,aU⟩:RG))).map dV)),(10,.int .i64 i)]) (fun i b=>bS st b (((bd.take i).map (fun t=>(⟨cU N t,aU⟩:RG))).map dV)) (by decide +kernel) ⟨0,fun h=>absurd rfl h,aR.mk (by simp -implicitDefEqProofs only[j5,bL,kZ,aB,↓aW,seval])⟩ (fun i x b hx hlt bD hdr hinv=>?_) (fun b hge hinv=>?_)
 case refine_1=>
  have hw:=bJ (n:=(i:Int)+1)
  have dC:(((bd.take i).map (fun t=>(⟨cU N t,aU⟩:RG))).map dV).length=i:=by simp only[aE,dX];omega
  have htk:(((bd.take i).map (fun t=>(⟨cU N t,aU⟩:RG))).map dV)++ [dV ⟨cU N x,aU⟩]=(((bd.take (i+1)).map (fun t=>(⟨cU N t,aU⟩:RG))).map dV):=by rw[fP,hx];simp
  have hxo:=hb x (cI hx)
  have hsh:=aGT N (by omega) x hxo.1
  have hcs:=KU (N:Int) x
  rw[hsh] at hcs
  have hgo:dV ⟨cU N x,aU⟩=.agg ((cU N x).av.cells++ [.int .i64 (aU:Int)]):=aT8 _
  simp -implicitDefEqProofs only[bD,aE,bG (av:=Tm.av) aP hx (aO x),b7,aO,aB,seval,IN]
  refine(hcs _ hxo.1.small).to ?_
  generalize cU N x=y at *
  obtain⟨yk,yn,ys,yt⟩:=y
  simp only[aX,D7] at htk hgo ⊢
  simp -implicitDefEqProofs only[aB,seval,IN]
  refine gJ tE wT wV rfl rfl (gS rfl rfl) (by intro e he;simp only[cE] at he;obtain⟨t,_,rfl⟩:=he;exact A3 t) hinv (by simp only[dC,bA,bQ];omega) (by simp only[dC,bA,bQ];omega) (fun b' hb'=>?_)
  rw[htk] at hb' ⊢
  simp -implicitDefEqProofs only[hw,aB,seval]
  exact⟨b',hb',aR.mk (by simp -implicitDefEqProofs only[aB,seval])⟩
 rw[eD] at hinv ⊢
 simp -implicitDefEqProofs only[aE,hge,aB,seval,IN]
 refine gJ (xs:=rest.map dV) tE wT wV rfl rfl (by intro e he;simp only[cE] at he;obtain⟨t,_,rfl⟩:=he;exact⟨A3 t,aT9 t⟩) (by intro e he;simp only[cE] at he;obtain⟨t,_,rfl⟩:=he;exact A3 t) hinv (by simp only[aE];omega) (by simp only[aE];omega) (fun b' hb'=>?_)
 rw[←pZ] at hb' ⊢
 simp -implicitDefEqProofs only[aB,seval]
 exact⟨b',_,st,rfl,hb',by intro e he;simp only[cE] at he;obtain⟨t,_,rfl⟩:=he;exact aT7 t,⟨5,by intro e he;simp only[cE] at he;obtain⟨t,_,rfl⟩:=he;exact A3 t⟩,by rw[mH],aM.refl _⟩
def oC(p:List Cl)(t:Tm)(i:Nat):Bool:=match p[i]? with
 | some c=>DG c t
 | none=>false
theorem GV(p:List Cl)(t:Tm):eO p t=(List.range p.length).filter (oC p t):=rfl
theorem aDW(p:List Cl)(t:Tm)(i:Nat):(List.range (i+1)).filter (oC p t)=(List.range i).filter (oC p t)++(if oC p t i=true then[i] else[]):=by
 rw[List.range_succ,List.filter_append]
 congr 1
 by_cases h:oC p t i=true<;>simp [h]
theorem GW(p:List Cl)(t:Tm)(i:Nat):((List.range i).filter (oC p t)).length≤i:=by
 have:=List.length_filter_le (oC p t) (List.range i)
 rw[List.length_range] at this
 exact this
theorem aFV(l:List Nat):∀e∈l.map nv,e.width=1:=by intro e h;simp only[cE] at h;obtain⟨t,_,rfl⟩:=h;rfl
abbrev A9:=zi tI_3 (zi zI_3 (zi aY (zi tI_9 (zi zI_9 (zi d4 (zi tI_27 (zi zI_27 (zi d8 (zi f6 (zi f7 (zi gG (zi tI_28 (zi zI_28 (zi aP (zi bE (zi bF (zi b9 (zi tI_40 (zi zI_40 (zi dS (zi fV (zi fW (zi f9 (zi tI_52 (zi zI_52 (zi bU (zi bV (zi bX (zi bY (zi bT (zi tI_111 (zi zI_111 (zi jT (zi jU jS))))))))))))))))))))))))))))))))))
theorem aMH(p:List Cl)(t:Tm)(hp:p.length≤1048576)(st:aA):aD prog 167 [.slice (p.map bB),t.av] st (fun r st'=>r=.slice ((eO p t).map nv)∧st'=st):=by
 rw[GV]
 refine aD.done ?_
 obtain⟨tk,tn,ts',tts⟩:=t
 simp only[aX]
 refine wF [1000000] 2 func167 ntmps167 rfl rfl ?_
 intro _
 simp -implicitDefEqProofs only[aB,seval,A9]
 refine sO (σ:=Unit) [1000000] [0,3,4] p 1 5 (fun i _=>((List.range i).filter (oC p (.mk tk tn ts' tts))).map nv) (fun _ _=>True) (fun i _=>[(6,.int .i64 i)]) (fun _ _=>st) (fun i _ _ e he=>by simp only[cE] at he;obtain⟨t,_,rfl⟩:=he;exact⟨rfl,rfl⟩) (by decide +kernel) ⟨(),0,trivial,fun h=>absurd rfl h,aR.mk (by simp -implicitDefEqProofs only[kZ,List.range_zero,List.filter_nil,bL,aB,↓aW,seval])⟩ (fun i x s b hx hlt bD hdr hinv hb=>?_) (fun s b hge hinv=>?_)
 case refine_2=>
  simp -implicitDefEqProofs only[hge,fR,iR,rW,zX,pE,aE,aB,seval,A9]
  exact⟨rfl,aM.refl _⟩
 have hw:=bJ (n:=(i:Int)+1)
 have hst:=aDW p (.mk tk tn ts' tts) i
 have hln:=GW p (.mk tk tn ts' tts) i
 have hat:=bG (av:=bB) (P:=prog) d8 hx (fQ x)
 obtain⟨⟨k,n,s',ts⟩,bd⟩:=x
 rw[k9] at hat
 have hP:oC p (.mk tk tn ts' tts) i=(decide (s'=ts')&&decide ((ts.length:Int)=(tts.length:Int))):=by unfold oC;rw[hx];try rfl
 rw[hP] at hst
 simp -implicitDefEqProofs only[bD,aE,aB,seval,A9]
 refine wP [(0,1),(1,1),(2,1),(3,1),(4,1),(6,1),(5,2),(7,2),(8,1),(9,1),(10,1),(11,1),(12,1),(13,1),(14,1),(17,1),(15,2),(16,1),(18,2),(19,1),(20,1),(21,1)] [0,1,2,3,4,6,5,7,8,9,10,11,12,13,14,17,15,16,18,19,20,21] mixed ?_
 simp -implicitDefEqProofs only[hat,aB,seval,A9]
 refine cS (fun h=>?_) (fun h=>?_)
 case refine_2=>
  have h':(decide (s'=ts')&&decide ((ts.length:Int)=(tts.length:Int)))=false:=by simp at h;simp [h]
  rw[h',aG (by simp),fN] at hst
  rw[←hst] at hb ⊢
  simp -implicitDefEqProofs only[h,hw,aB,seval]
  exact⟨(),b,hb,aR.mk (by simp -implicitDefEqProofs only[aB,seval])⟩
 have h1:decide (s'=ts')=true:=by simpa using h
 rw[h1,iC] at hst
 simp -implicitDefEqProofs only[h,aE,hat,aB,seval,A9]
 refine aT (fun h2=>?_) (fun h2=>?_)
 · rw[aK h2] at hst
   simp -implicitDefEqProofs only[aB,seval,A9]
   refine gJ dS fV fW rfl rfl (gS rfl rfl) (aFV _) hb (by simp only[aE,bA,bQ];omega) (by simp only[aE,bA,bQ];omega) (fun b' hb'=>?_)
   rw[show ∀l:List Nat,l.map nv++ [AV.int .i64 (i:Int)]=(l++ [i]).map nv from fun l=>by simp [nv],←hst] at hb' ⊢
   simp -implicitDefEqProofs only[hw,aB,seval]
   exact⟨(),b',hb',aR.mk (by simp -implicitDefEqProofs only[aB,seval])⟩
 · rw[aG (by simp [h2]),fN] at hst
   rw[←hst] at hb ⊢
   simp -implicitDefEqProofs only[hw,aB,seval]
   exact⟨(),b,hb,aR.mk (by simp -implicitDefEqProofs only[aB,seval])⟩
theorem MS{n:Int}:∀ {l:List Int},l.Nodup→∀ {i:Nat},l[i]?=some n→∀j:Int,d5 n l j=j+i
 | [],_,i,h,j=>by simp at h
 | x::l,hd,0,h,j=>by
  simp only[JY,Option.some.injEq] at h
  subst h
  simp [d5]
 | x::l,hd,i+1,h,j=>by
  rw[BK] at hd
  rw[JX] at h
  have hm:=cI h
  simp only[d5]
  rw[aG (fun e:n=x=>hd.1 (e▸hm)),MS hd.2 h (j+1)]
  omega
abbrev lK:=zi tI_3 (zi zI_3 (zi aY (zi tI_9 (zi zI_9 (zi d4 (zi tI_28 (zi zI_28 (zi aP (zi bE (zi bF (zi b9 (zi tI_40 (zi zI_40 (zi dS (zi fV (zi fW (zi f9 (zi tI_52 (zi zI_52 (zi bU (zi bV (zi bX (zi bY bT)))))))))))))))))))))))
theorem RJ(vars:List Int)(hnd:vars.Nodup)(hvl:vars.length≤1048576):∀(t:Tm) (st:aA),t.small=true→t.cv=true→(∀v∈t.vl,v∈vars)→aD prog 202 [t.av,.slice (vars.map iv)] st (fun r st'=>r=(t.aH fun v=>vr (d5 v vars 0)).av∧st'=st)
 | .mk k n s ts,st,hsm,hcv,hin=>by
  obtain⟨hlen,pG⟩:=Tm.oO hsm
  obtain⟨hc1,hcs⟩:=Tm.n8.1 hcv
  have IH:=fun(x:Tm) (hx:x∈ts) st=>RJ vars hnd hvl x st (pG x hx) (hcs x hx) (fun v hv=>by
   by_cases hk:k=1
   · rw[(hc1 hk).2] at hx;cases hx
   · exact hin v ((Tm.j0 hk).2 ⟨x,hx,hv⟩))
  generalize hg:(Tm.aH fun v=>vr (d5 v vars 0))=g at IH
  refine aD.rQ (aD.fin ?_)
  simp only[aX]
  refine wF [1000000,5] 2 func202 ntmps202 rfl rfl ?_
  intro _
  simp -implicitDefEqProofs only[aS,aB,↓aW,seval,lK]
  intro b4 h4 c hc
  have hne:c≠b4:=by rintro rfl;rw[aA.aL] at hc;cases hc
  have hnc:st c=none:=by rw[aA.aF st _ hne] at hc;exact hc
  have xA:∀i:Nat,vars[i]?=some n→d5 n vars 0=(i:Int):=fun i hi=>by
   have:=MS hnd hi 0
   omega
  generalize hW:st.aC b4 (.cells [AV.int .i64 0,AV.int .i64 0,AV.str ⟨#[]⟩,AV.fslice []])=W
  have hWc:W c=none:=by rw[←hW];exact hc
  have hW4:W b4=some (.cells [AV.int .i64 0,AV.int .i64 0,AV.str ⟨#[]⟩,AV.fslice []]):=by rw[←hW];exact aA.aL _ _ _
  have hS:W b4≠none:=by rw[hW4];simp
  have G4:b4≠c:=c9 hne
  refine rB (σ:=Nat×Int) [1000000,5] [1,2,4,5] (fun p=>p.1≤vars.length∧(k≠1→p.2=n)∧(k=1→(n∈vars.take p.1→p.2=d5 n vars 0))) (fun p=>[(6,.int .i64 p.1)]) (fun p=>W.aC c (.cells [.int .i64 k,.int .i64 p.2,.str s,.fslice []])) (fun p=>vars.length - p.1) (by decide +kernel) ⟨(0,n),⟨mV _,fun _=>rfl,fun _ h=>by simp at h⟩,aR.mk (by simp -implicitDefEqProofs only[aB,↓aW,seval])⟩ ?_
  rintro⟨i,n'⟩ ⟨h1,h2,h3⟩
  simp only at h1 h2 h3
  have rest:(k=1→n'=d5 n vars 0)→True:=fun _=>trivial
  simp -implicitDefEqProofs only[aE,aB,seval,lK]
  have fin:(k=1→n'=d5 n vars 0)→g (.mk k n s ts)=.mk k n' s (ts.map g):=fun h4=>by
   rw[←hg]
   by_cases hk:k=1
   · obtain⟨rfl,rfl⟩:=hc1 hk
     rw[Tm.lH _ hk,h4 hk,hk];try rfl
   · rw[Tm.kB _ hk,h2 hk]
  refine cS (fun h=>?_) (fun h=>?_)
  case refine_2=>
   have h4:(k=1→n'=d5 n vars 0):=fun hk=>h3 hk (by
    have:i=vars.length:=by simp at h;omega
    rw[this,eD]
    exact hin n (by rw[Tm.lP hk];simp))
   simp -implicitDefEqProofs only[h,aB,seval]
   refine dQ (σ:=Nat) [1000000,5] [1,2,4,5] ts (fun i b=>(((ts.take i).map g).map Tm.av≠[]→(aA.aC W c (.cells ([AV.int .i64 k,AV.int .i64 (n'),AV.str s]++ [bR 4 b (((ts.take i).map g).map Tm.av)]))) b=none)) (fun i b=>[(7,.int .i64 i)]) (fun i b=>jK W c b [AV.int .i64 k,AV.int .i64 (n'),AV.str s] (((ts.take i).map g).map Tm.av)) (by decide +kernel)
    ⟨0,fun h=>absurd rfl h,aR.mk (by simp -implicitDefEqProofs only[aB,↓aW,seval])⟩ (fun i x b hx hlt bD hdr hinv=>?_) (fun b hge hinv=>?_)
   case refine_1=>
    have hw:=bJ (n:=(i:Int)+1)
    have dC:(((ts.take i).map g).map Tm.av).length=i:=by simp only[aE,dX];omega
    have htk:(ts.take (i+1)).map g=(ts.take i).map g++ [g x]:=by rw[fP,hx];simp
    have hbo:=kA hinv
    simp -implicitDefEqProofs only[aE,bD,aE,aB,seval,lK]
    refine wP [(0,1),(2,1),(4,1),(7,1),(1,2),(3,2),(5,1),(6,2),(8,2),(9,1),(10,0),(11,1),(12,0)] [0,2,4,7,1,3,5,6,8,9,11] mixed ?_
    simp -implicitDefEqProofs only[bG (av:=Tm.av) aP hx (aO x),b7,aO,hbo,qD,aB,seval,lK]
    refine jB (IH x (cI hx) _) ?_
    simp -implicitDefEqProofs only[b7,aO,Tm.eG,aB,seval,lK]
    refine gJ aP bE bF rfl rfl (gS (aO _) (Tm.dY _)) (gV _) hinv (by simp only[dC,bA,bQ];omega) (by simp only[dC,bA,bQ];omega) (fun b' hb'=>?_)
    rw[show(((ts.take i).map g).map Tm.av)++ [(g x).av]=((ts.take (i+1)).map g).map Tm.av by rw[htk];simp] at hb' ⊢
    obtain⟨g1,g2,g3⟩:=tS hb'
    simp only[gB,eR] at g1 g3
    simp -implicitDefEqProofs only[g3,oZ,iX,aS,g1,hw,aS,aB,seval,lK]
    exact⟨b',g2,aR.mk (by simp -implicitDefEqProofs only[aB,seval])⟩
   have hbo:=kA hinv
   rw[eD] at hinv hbo ⊢
   simp -implicitDefEqProofs only[aE,hge,aE,aB,seval,lK]
   simp -implicitDefEqProofs only[hbo,aS,aB,seval,lK]
   have g1:=l7 hinv hS G4
   rw[hW4] at g1
   simp -implicitDefEqProofs only[g1,iX,aB,seval]
   obtain⟨g2,g3⟩:=r9 (o:=.cells [AV.int .i64 k,AV.int .i64 (n'),AV.str s,bR 4 b ((ts.map g).map Tm.av)]) hinv hS G4
   refine⟨b,_,_,g2,g3,pT _,⟨4,gV _⟩,?_,fun x=>?_⟩
   · simp only[gR,bK,bL,fR,m8,mH,←aX]
     rw[fin h4]
   · subst hW
     by_cases e3:x=b4<;>by_cases e4:x=c<;>simp_all [aA.aC]
  have hlt:i<vars.length:=by simpa using h
  simp -implicitDefEqProofs only[h,aB,seval,lK]
  refine aT (fun h5=>?_) (fun h5=>?_)
  case refine_2=>
   have h5':k≠1:=by simpa using h5
   have h4:(k=1→n'=d5 n vars 0):=fun hk=>absurd hk h5'
   simp -implicitDefEqProofs only[aB,seval]
   refine dQ (σ:=Nat) [1000000,5] [1,2,4,5] ts (fun i b=>(((ts.take i).map g).map Tm.av≠[]→(aA.aC W c (.cells ([AV.int .i64 k,AV.int .i64 (n'),AV.str s]++ [bR 4 b (((ts.take i).map g).map Tm.av)]))) b=none)) (fun i b=>[(7,.int .i64 i)]) (fun i b=>jK W c b [AV.int .i64 k,AV.int .i64 (n'),AV.str s] (((ts.take i).map g).map Tm.av)) (by decide +kernel)
    ⟨0,fun h=>absurd rfl h,aR.mk (by simp -implicitDefEqProofs only[aB,↓aW,seval])⟩ (fun i x b hx hlt bD hdr hinv=>?_) (fun b hge hinv=>?_)
   case refine_1=>
    have hw:=bJ (n:=(i:Int)+1)
    have dC:(((ts.take i).map g).map Tm.av).length=i:=by simp only[aE,dX];omega
    have htk:(ts.take (i+1)).map g=(ts.take i).map g++ [g x]:=by rw[fP,hx];simp
    have hbo:=kA hinv
    simp -implicitDefEqProofs only[aE,bD,aE,aB,seval,lK]
    refine wP [(0,1),(2,1),(4,1),(7,1),(1,2),(3,2),(5,1),(6,2),(8,2),(9,1),(10,0),(11,1),(12,0)] [0,2,4,7,1,3,5,6,8,9,11] mixed ?_
    simp -implicitDefEqProofs only[bG (av:=Tm.av) aP hx (aO x),b7,aO,hbo,qD,aB,seval,lK]
    refine jB (IH x (cI hx) _) ?_
    simp -implicitDefEqProofs only[b7,aO,Tm.eG,aB,seval,lK]
    refine gJ aP bE bF rfl rfl (gS (aO _) (Tm.dY _)) (gV _) hinv (by simp only[dC,bA,bQ];omega) (by simp only[dC,bA,bQ];omega) (fun b' hb'=>?_)
    rw[show(((ts.take i).map g).map Tm.av)++ [(g x).av]=((ts.take (i+1)).map g).map Tm.av by rw[htk];simp] at hb' ⊢
    obtain⟨g1,g2,g3⟩:=tS hb'
    simp only[gB,eR] at g1 g3
    simp -implicitDefEqProofs only[g3,oZ,iX,aS,g1,hw,aS,aB,seval,lK]
    exact⟨b',g2,aR.mk (by simp -implicitDefEqProofs only[aB,seval])⟩
   have hbo:=kA hinv
   rw[eD] at hinv hbo ⊢
   simp -implicitDefEqProofs only[aE,hge,aE,aB,seval,lK]
   simp -implicitDefEqProofs only[hbo,aS,aB,seval,lK]
   have g1:=l7 hinv hS G4
   rw[hW4] at g1
   simp -implicitDefEqProofs only[g1,iX,aB,seval]
   obtain⟨g2,g3⟩:=r9 (o:=.cells [AV.int .i64 k,AV.int .i64 (n'),AV.str s,bR 4 b ((ts.map g).map Tm.av)]) hinv hS G4
   refine⟨b,_,_,g2,g3,pT _,⟨4,gV _⟩,?_,fun x=>?_⟩
   · simp only[gR,bK,bL,fR,m8,mH,←aX]
     rw[fin h4]
   · subst hW
     by_cases e3:x=b4<;>by_cases e4:x=c<;>simp_all [aA.aC]
  have hk:k=1:=by simpa using h5
  obtain⟨x,hx⟩:∃x,vars[i]?=some x:=⟨_,e7 hlt⟩
  have hat:dF prog 40 (.slice (vars.map iv)) (.int .i64 (i:Int))=some (.pptr (.int .i64 x)):=bG (av:=iv) dS hx rfl
  have hw:=bJ (n:=(i:Int)+1)
  have htk:vars.take (i+1)=vars.take i++ [x]:=by rw[fP,hx];try rfl
  simp -implicitDefEqProofs only[aB,seval]
  refine wP [(0,1),(1,1),(2,1),(4,1),(3,2),(5,2),(6,1)] [0,1,2,4,3,5,6] mixed ?_
  simp -implicitDefEqProofs only[hat,aB,seval,lK]
  refine aT (fun h6=>?_) (fun h6=>?_)
  · have h6':x=n:=by simpa using h6
    subst h6'
    simp -implicitDefEqProofs only[aS,hw,aB,seval,lK]
    refine⟨(i+1,(i:Int)),by simp only;omega,⟨hlt,fun h=>absurd hk h,fun _ _=>(xA i hx).symm⟩,aR.mk (by simp -implicitDefEqProofs only[aB,seval])⟩
  · have h6':x≠n:=by simpa using h6
    simp -implicitDefEqProofs only[hw,aB,seval]
    refine⟨(i+1,n'),by simp only;omega,⟨hlt,h2,fun hk hm=>h3 hk ?_⟩,aR.mk (by simp -implicitDefEqProofs only[aB,seval])⟩
    rw[htk,dR] at hm
    rcases hm with hm | hm
    · exact hm
    · simp only[cO,dD,dI] at hm
      exact absurd hm.symm h6'
termination_by t=>SizeOf.sizeOf t
decreasing_by have:=List.sizeOf_lt_of_mem hx;simp only[Tm.mk.sizeOf_spec];omega
theorem JC:∀(ts:List Tm) (l:List Int),(∀t∈ts,t.wf=true)→l.Nodup→(bO ts l).Nodup
 | [],l,_,h=>h
 | t::ts,l,hw,h=>JC ts _ (fun x hx=>hw x (by simp [hx])) ((O7 t (hw t (by simp)) l).2.1 h)
theorem AM:∀l:List Tm,(∀t∈l,t.nodes≤120)→aJ Tm.nodes l≤l.length*120
 | [],_=>by simp [aJ]
 | x::l,h=>by
  simp only[aJ,bA]
  have:=AM l fun y hy=>h y (by simp [hy])
  have:=h x (by simp)
  omega
abbrev BA:=zi tI_3 (zi zI_3 (zi aY (zi tI_28 (zi zI_28 (zi aP (zi bE (zi bF (zi b9 (zi tI_40 (zi zI_40 (zi dS (zi fV (zi fW (zi f9 (zi tI_52 (zi zI_52 (zi bU (zi bV (zi bX (zi bY bT))))))))))))))))))))
theorem aMD{N:Int}(l:List Tm)(hok:∀t∈l,a8 N t)(hl:l.length≤1000)(st:aA):aD prog 161 [.slice (l.map Tm.av)] st (fun r st'=>r=.slice ((nL l).map Tm.av)∧st'=st):=by
 have hnd:=AM l fun t ht=>(hok t ht).2
 have L5:=JC l [] (fun t ht=>Tm.rO t (hok t ht).1.2.1) lT
 have fG:=fun v=>v4 (v:=v) l [] fun t ht=>(hok t ht).1.2.1
 have hvl:=v3 l []
 simp only[bQ] at hvl
 refine aD.done ?_
 refine wF [1000000] 1 func161 ntmps161 rfl rfl ?_
 intro _
 simp -implicitDefEqProofs only[aB,seval,BA]
 refine sO (σ:=Unit) [1000000] [0,2] l 1 3 (fun i _=>(bO (l.take i) []).map iv) (fun _ _=>True) (fun i _=>[(4,.int .i64 i)]) (fun _ _=>st) (fun i _ _ e he=>by simp only[cE] at he;obtain⟨t,_,rfl⟩:=he;exact⟨rfl,rfl⟩) (by decide +kernel) ⟨(),0,trivial,fun h=>absurd rfl h,aR.mk (by simp -implicitDefEqProofs only[kZ,j5,bO,bL,aB,↓aW,seval])⟩ (fun i x s b hx hlt bD hdr hinv hb=>?_) (fun s b hge hinv=>?_)
 case refine_1=>
  have hw:=bJ (n:=(i:Int)+1)
  have hat:=bG (av:=Tm.av) aP hx (aO x)
  have hst:=sI Tm.nodes hx
  have hvl:=v3 (l.take i) []
  simp only[bQ,gI] at hvl
  have htk:x.vars (bO (l.take i) [])=bO (l.take (i+1)) []:=by
   rw[fP,hx,OV]
   try rfl
  simp -implicitDefEqProofs only[bD,aE,hat,b7,aO,aB,seval,BA]
  refine(CC x (bO (l.take i) []) b st (Tm.rO x (hok x (cI hx)).1.2.1) hb (by omega)).mono ?_
  rintro _ _ ⟨b',rfl,rfl,hb'⟩
  rw[htk] at hb' ⊢
  simp -implicitDefEqProofs only[aB,seval]
  exact⟨(),b',hb',aR.mk (by simp -implicitDefEqProofs only[hw,aB,seval])⟩
 simp -implicitDefEqProofs only[hge,fR,iR,rW,pE,eD,aE,aB,seval,BA]
 have hR:nL l=l.map fun t=>t.aH fun v=>vr (d5 v (bO l []) 0):=rfl
 rw[hR]
 generalize bO l []=vars at *
 refine sO (σ:=Unit) [1000000] [0,2,3] l 4 5 (fun i _=>((l.take i).map fun t=>t.aH fun v=>vr (d5 v vars 0)).map Tm.av) (fun _ _=>True) (fun i _=>[(6,.int .i64 i)]) (fun _ _=>st) (fun i _ _ e he=>by simp only[cE] at he;obtain⟨t,_,rfl⟩:=he;exact⟨Tm.eG _,aO _⟩) (by decide +kernel) ⟨(),0,trivial,fun h=>absurd rfl h,aR.mk (by simp -implicitDefEqProofs only[kZ,j5,bL,aB,↓aW,seval])⟩ (fun i x s b hx hlt bD hdr hinv hb=>?_) (fun s b hge hinv=>?_)
 case refine_2=>
  simp -implicitDefEqProofs only[hge,fR,iR,pE,eD,aE,aB,seval,BA]
  exact⟨rfl,aM.refl _⟩
 have hw:=bJ (n:=(i:Int)+1)
 have hat:=bG (av:=Tm.av) aP hx (aO x)
 have hxm:=cI hx
 have dC:(((l.take i).map fun t=>t.aH fun v=>vr (d5 v vars 0)).map Tm.av).length=i:=by simp only[aE,dX];omega
 simp -implicitDefEqProofs only[bD,aE,hat,b7,aO,aB,seval,BA]
 refine(RJ vars L5 (by omega) x _ (hok x hxm).1.small (hok x hxm).1.2.1 (fun v hv=>(fG v).2 (.inr ⟨x,hxm,hv⟩))).to ?_
 simp -implicitDefEqProofs only[b7,aO,Tm.eG,aB,seval,BA]
 refine gJ aP bE bF rfl rfl (gS (aO _) (Tm.dY _)) (gV _) hb (by simp only[dC,bA,bQ];omega) (by simp only[dC,bA,bQ];omega) (fun b' hb'=>?_)
 rw[show(((l.take i).map fun t=>t.aH fun v=>vr (d5 v vars 0)).map Tm.av)++ [(x.aH fun v=>vr (d5 v vars 0)).av]=((l.take (i+1)).map fun t=>t.aH fun v=>vr (d5 v vars 0)).map Tm.av by rw[fP,hx];simp] at hb' ⊢
 simp -implicitDefEqProofs only[aB,seval]
 exact⟨(),b',hb',aR.mk (by simp -implicitDefEqProofs only[hw,aB,seval])⟩
abbrev aHT:=zi tI_3 (zi zI_3 (zi aY (zi tI_4 (zi zI_4 (zi cG (zi tI_28 (zi zI_28 (zi aP (zi bE (zi bF (zi b9 (zi tI_52 (zi zI_52 (zi bU (zi bV (zi bX (zi bY bT)))))))))))))))))
theorem aL8(l:List Tm)(st:aA):aD prog 162 [.slice (l.map Tm.av)] st (fun r st'=>r=.bool (l.all Tm.valid)∧st'=st):=by
 refine wF [1000000] 1 func162 ntmps162 rfl rfl ?_
 simp only[dK,AV.fits,dO,aE]
 intro ⟨hl,_⟩
 simp -implicitDefEqProofs only[aB,seval]
 refine dQ (σ:=Unit) [1000000] [0] l (fun i _=>((l.drop i).all Tm.valid)=(l.all Tm.valid)) (fun i _=>[(3,.int .i64 i)]) (fun _ _=>st) (by decide +kernel) ⟨(),rfl,aR.mk (by simp -implicitDefEqProofs only[aB,↓aW,seval])⟩ (fun i x _ hx hlt bD hdr hinv=>?_) (fun _ hge hinv=>?_)
 case refine_2=>
  simp -implicitDefEqProofs only[hge,aE,aB,seval,aHT]
  rw[←hinv,iD]
  try rfl
 have hw:=bJ (n:=(i:Int)+1)
 rw[hdr,iW] at hinv
 simp -implicitDefEqProofs only[bD,aE,bG (av:=Tm.av) aP hx (aO x),b7,aO,aB,seval,aHT]
 refine(K1 x _).to ?_
 simp -implicitDefEqProofs only[aB,seval]
 refine aT (fun h2=>?_) (fun h2=>?_)
 · simp -implicitDefEqProofs only[aB,seval]
   simp only[gN] at h2
   rw[←hinv,h2]
   try rfl
 · simp only[j3] at h2
   rw[h2,iC] at hinv
   simp -implicitDefEqProofs only[aB,seval]
   exact⟨(),hinv,aR.mk (by simp -implicitDefEqProofs only[hw,aB,seval])⟩
theorem aE9(v:Int):∀(l:List Int) (i:Int),v∈l→i≤d5 v l i∧d5 v l i<i+l.length
 | [],i,h=>by cases h
 | x::l,i,h=>by
  simp only[d5,bA]
  split
  · omega
  · rename_i e
    have h':v∈l:=by
     rcases cO.1 h with h | h
     · exact absurd h e
     · exact h
    have:=aE9 v l (i+1) h'
    omega
theorem aGI{N:Int}{l:List Tm}(hok:∀t∈l,a8 N t)(hf:l.all dZ=true):(nL l).all Tm.valid=decide ((bO l []).length≤26):=by
 have fG:=fun v=>v4 (v:=v) l [] fun t ht=>(hok t ht).1.2.1
 have L5:=JC l [] (fun t ht=>Tm.rO t (hok t ht).1.2.1) lT
 have hro:∀t∈l,cB (bO l []).length (t.aH fun v=>vr (d5 v (bO l []) 0)):=fun t ht=>
  (hok t ht).1.aH fun v hv=>by
   have:=aE9 v (bO l []) 0 ((fG v).2 (.inr ⟨t,ht,hv⟩))
   exact DZ (by omega) (by omega)
 have fK:∀t∈l,dZ (t.aH fun v=>vr (d5 v (bO l []) 0))=true:=fun t ht=>by
  have:=eE.1 hf t ht
  unfold dZ at this ⊢
  rw[show(t.aH fun v=>vr (d5 v (bO l []) 0))=bH (fun v=>d5 v (bO l []) 0) t from rfl,NR _ (hok t ht).1.2.1,H4 _ (hok t ht).1.2.1]
  exact this
 rw[wC,eE,bM]
 constructor
 · intro h
   refine yA fun hn=>?_
   obtain⟨w,hw⟩:∃w,(bO l [])[26]?=some w:=⟨_,e7 (by omega)⟩
   rcases (fG w).1 (cI hw) with h1 | ⟨t,ht,hv⟩
   · cases h1
   · have xF:=h _ (cE.2 ⟨t,ht,rfl⟩)
     have hin:=(Tm.EX xF).2.2 26 ((v6 t).2 ⟨w,hv,by rw[MS L5 hw 0,v7];simp⟩)
     omega
 · intro h x hx
   obtain⟨t,ht,rfl⟩:=cE.1 hx
   have h1:=aF5.2 ((hro t ht).mono (show((bO l []).length:Int)≤26 by omega))
   rw[Tm.aIW h1]
   exact fK t ht
theorem aT4{N:Int}{l:List Tm}(hok:∀t∈l,a8 N t):(nL l).length=l.length:=by unfold nL;rw[aE]
abbrev uD:=zi tI_3 (zi zI_3 (zi aY (zi tI_4 (zi zI_4 (zi cG (zi tI_28 (zi zI_28 (zi aP (zi bE (zi bF (zi b9 (zi tI_40 (zi zI_40 (zi dS (zi fV (zi fW (zi f9 (zi tI_52 (zi zI_52 (zi bU (zi bV (zi bX (zi bY (zi bT (zi tI_55 (zi zI_55 (zi vK uY)))))))))))))))))))))))))))
theorem aMQ{N:Nat}{σ:Sub}(hg:cC σ)(ho:cD (a8 N) σ)(vars:List Int)(hv:∀v∈vars,0≤v∧v<(N:Int))(hl:vars.length≤1000)(st:aA) :
 aD prog 129 [.slice (vars.map iv),.slice (cF N σ)] st (fun r st'=>st'=st∧∃a,r=.tup [bP a,.bool (g7 σ vars).isSome]∧∀x,g7 σ vars=some x→a=x):=by
 obtain⟨rk,B,G⟩:=hg.rs
 refine aD.m7 (aD.soft ?_)
 refine wF [1000000] 2 func129 ntmps129 rfl rfl ?_
 intro _
 simp -implicitDefEqProofs only[aB,seval,uD]
 intro b4 h4
 refine sO (σ:=Unit) [1000000] [0,1,4] vars 4 6 (fun i _=>((vars.take i).map (rs σ)).map Tm.av) (fun i _=>((vars.take i).map (rs σ)).all dZ=true) (fun i _=>[(5,.bool false),(7,.int .i64 i)]) (fun _ _=>st.aC b4 (.cells [.fslice []])) (fun i _ _ e he=>by simp only[cE] at he;obtain⟨t,_,rfl⟩:=he;exact⟨Tm.eG _,aO _⟩) (by decide +kernel) ⟨(),0,rfl,fun h=>absurd rfl h,aR.mk (by simp -implicitDefEqProofs only[kZ,j5,bL,aB,↓aW,seval])⟩ (fun i x s b hx hlt bD hdr hinv hb=>?_) (fun s b hge hinv=>?_)
 · have hw:=bJ (n:=(i:Int)+1)
   have hxm:=cI hx
   obtain⟨hx0,hx1⟩:=hv x hxm
   have hvr:a8 N (vr x):=⟨DZ hx0 hx1,by rw[vr,Tm.jE];simp [aJ]⟩
   have hat:dF prog 40 (.slice (vars.map iv)) (.int .i64 (i:Int))=some (.pptr (.int .i64 x)):=bG (av:=iv) dS hx rfl
   have dC:(((vars.take i).map (rs σ)).map Tm.av).length=i:=by simp only[aE,dX];omega
   have c7:((vars.take (i+1)).map (rs σ)).all dZ=dZ (rs σ x):=by
    rw[fP,hx]
    simp only[J1,pZ,bK,bL,yC,hinv,iW,List.all_nil,wB,iC]
   simp -implicitDefEqProofs only[bD,aE,hat,aB,seval,uD]
   refine(aMF x _).to ?_
   simp -implicitDefEqProofs only[aB,seval]
   refine(RW hg ho (vr x) hvr _).mono ?_
   rintro _ _ ⟨rfl,y,rfl,hy⟩
   rw[tT] at hy ⊢
   simp -implicitDefEqProofs only[aO,Tm.dY,Tm.eG,aB,↓aW,seval,uD]
   refine aT (fun h=>?_) (fun h=>?_)
   · have h':dZ (rs σ x)=false:=by simpa using h
     have oE:g7 σ vars=none:=by
      unfold g7
      rw[aG]
      rintro⟨h1,_⟩
      have:=eE.1 h1 _ (cE.2 ⟨x,hxm,rfl⟩)
      rw[h'] at this;cases this
     have hbo:∀l,(l≠[]→st b=none)→(l≠[]→b≠b4)→(bS (st.aC b4 (.cells [.fslice []])) b l) b4=some (.cells [.fslice []]):=fun l _ h2=>by
      cases l with
      | nil=>exact aA.aL _ _ _
      | cons e l=>simp only[bS];rw[aA.aF _ _ (c9 (h2 (by simp)))];exact aA.aL _ _ _
     have hnb:((vars.take i).map (rs σ)).map Tm.av≠[]→b≠b4:=fun h=>by rintro rfl;have:=hb h;rw[aA.aL] at this;cases this
     have aQ0:((vars.take i).map (rs σ)).map Tm.av≠[]→st b=none:=fun h=>by have:=hb h;rw[aA.aF _ _ (hnb h)] at this;exact this
     have e1:=hbo _ aQ0 hnb
     simp -implicitDefEqProofs only[aS,e1,aB,seval,uD]
     rw[oE]
     refine⟨st,?_,rfl,[],rfl,fun x h=>by cases h⟩
     intro z
     by_cases hz:z=b4
     · subst hz;simp [aA.aC,h4]
     · rw[aA.aF _ _ hz]
       exact((aM.bS (aM.refl _) hb).trans ((aM.refl st).aC h4)) z
   · have h':dZ (rs σ x)=true:=by simpa using h
     obtain rfl:=hy h'
     simp -implicitDefEqProofs only[b7,aO,Tm.eG,aB,seval,uD]
     refine gJ aP bE bF rfl rfl (gS (aO _) (Tm.dY _)) (gV _) hb (by simp only[dC,bA,bQ];omega) (by simp only[dC,bA,bQ];omega) (fun b' hb'=>?_)
     rw[show(((vars.take i).map (rs σ)).map Tm.av)++ [(rs σ x).av]=((vars.take (i+1)).map (rs σ)).map Tm.av by rw[fP,hx];simp] at hb' ⊢
     simp -implicitDefEqProofs only[hw,aB,seval]
     exact⟨(),b',by rw[c7];exact h',hb',aR.mk (by simp -implicitDefEqProofs only[aB,seval])⟩
 · rw[eD] at hinv
   have hok:∀t∈vars.map (rs σ),a8 N t:=fun t ht=>by
    obtain⟨v,h,rfl⟩:=cE.1 ht
    obtain⟨h0,h1⟩:=hv v h
    have hf:=eE.1 hinv _ ht
    unfold dZ at hf
    simp only[cL,bM] at hf
    exact⟨G.kD ho.kD v h0 h1,hf.2⟩
   have xF:=aGI hok hinv
   have oE:g7 σ vars=if(bO (vars.map (rs σ)) []).length≤26 then some (nL (vars.map (rs σ))) else none:=by
    unfold g7
    simp only[hinv,true_and]
   have aRD:=fun st=>aMD _ hok (by rw[aE];exact hl) st
   have c7:=fun st=>aL8 (nL (vars.map (rs σ))) st
   rw[xF] at c7
   generalize nL (vars.map (rs σ))=R at *
   generalize (bO (vars.map (rs σ)) []).length=m at *
   simp -implicitDefEqProofs only[hge,fR,tH,iR,GS,pE,eD,tG,aE,aB,seval,uD]
   refine(aRD _).to ?_
   simp -implicitDefEqProofs only[aB,↓aW,seval,uD]
   refine wP [(1,1),(0,2),(2,2),(3,2),(4,0),(5,1)] [1,0,2,3,5] mixed ?_
   simp -implicitDefEqProofs only[aB,seval,uD]
   refine jB (c7 _) ?_
   simp -implicitDefEqProofs only[aS,aB,seval,uD]
   refine⟨st,(aM.refl _).aC h4,rfl,R,?_,fun x h=>?_⟩
   · rw[oE]
     simp only[mA,mP,t7,sE,bK,bL]
     by_cases h:m≤26
     · simp [h]
     · simp [h]
   · rw[oE] at h
     split at h
     · cases h;rfl
     · cases h
theorem NO(k n:Int)(s:ByteArray)(ts:List Tm)(rest:List RG)(left:List Nat)(σ:Sub)(N:Nat):eP ⟨.mk k n s ts,rest,left,σ,N⟩=.agg [.int .i64 k,.int .i64 n,.str s,.slice (ts.map Tm.av),.slice (rest.map dV),.slice (left.map nv),.slice (cF N σ)]:=rfl
structure uP (p:List Cl) (c:RC):Prop where
 fO:cC c.σ
 ok:cD (a8 c.N) c.σ
 tC:∀n,¬(0≤n∧n<(c.N:Int))→c.σ n=none
 goal:a8 c.N c.goal
 rest:∀g∈c.rest,a8 c.N g.t∧g.t.k=3
 left:∀i∈c.left,i<p.length
 len:c.rest.length≤524288
 aSG:c.left.length≤1048576
structure nR (p:List Cl) (B:Nat) (s:RS):Prop where
 fO:cC s.σ
 ok:cD (a8 s.N) s.σ
 tC:∀n,¬(0≤n∧n<(s.N:Int))→s.σ n=none
 goals:∀g∈s.goals,a8 s.N g.t∧g.t.k=3
 pos:0<s.N
 hN:s.N≤B
 gl:s.goals.length≤B
 nZ:s.chs.length≤B
 chs:∀c∈s.chs,uP p c∧c.N+26≤B∧c.rest.length+26≤B∧0<c.N
theorem cD.upN{N M:Nat}{σ:Sub}(h:cD (a8 N) σ)(hm:N≤M):cD (a8 M) σ:=h.imp fun t ht=>ht.mono (by omega)
theorem aKH{N k:Nat}{σ:Sub}(hd:∀n,¬(0≤n∧n<(N:Int))→σ n=none):cF N σ++List.replicate k zt=cF (N+k) σ:=by
 apply E6
 intro i
 have hl:=rL N σ
 by_cases hi:i<N
 · rw[PJ (by omega),wQ N σ hi,wQ (N+k) σ (by omega)]
 · rw[PK (by omega),hl]
   by_cases h2:i<N+k
   · rw[wQ (N+k) σ h2,hd (i:Int) (fun h=>hi (by omega)),List.getElem?_replicate,aK (by omega)]
     try rfl
   · rw[BI (by simp;omega),BI (by rw[rL];omega)]
theorem aKB{N k b:Nat}{σ:Sub}(hd:∀n,¬(0≤n∧n<(N:Int))→σ n=none)(hN:N+k≤1048576){st:aA}{K:AV→aA→Prop}(hb:st b=none)
 (hK:∀b',st b'=none→K (.mslice b' 0 (N+k) 4) (st.aC b' (.cells ((cF (N+k) σ).flatMap AV.cells)))) :
 p9 prog 28 3 (st.aC b (.cells ((cF N σ).flatMap AV.cells))) (.mslice b 0 N 4) (.int .i64 (k:Int)) K:=by
 have hu:prog.underlying 3=some (.int .i64):=by kernel_rfl
 have hl:((cF N σ).flatMap AV.cells).length=N*4:=by rw[m9 (fun e he=>(QJ N σ e he).1),rL]
 have iF:((cF N σ).flatMap AV.cells).take (N*4)++kP [AV.int .i64 0,.int .i64 0,.str ⟨#[]⟩,.fslice []] k=(cF (N+k) σ).flatMap AV.cells:=by
  rw[←hl,eD,HP _ (by simp),←aKH hd,wD,List.flatMap_replicate]
  try rfl
 unfold p9
 simp only[aP,bE,bF,hu,aA.aL,j4]
 refine⟨rfl,by omega,rfl,by omega,trivial,by omega,by omega,by omega,?_,fun b' hb'=>?_⟩
 · rw[iF,eH]
   exact hK b hb
 · rw[iF,aA.zR st b _ hb]
   refine hK b' ?_
   by_cases h:b'=b
   · subst h;exact hb
   · rwa [aA.aF _ _ h] at hb'
theorem aIQ{st s2 V:aA}{o' o6:AO}{b6 b11 b13 b14 b:Nat}{L A:List AV}(hD:aM s2 st)(hA:s2 b11=some (.cells (A.flatMap AV.cells)))(h11:st b11=none)(h6:st b6=none)(h62:s2 b6≠none)(aD4:b6≠b11)(h13:s2 b13=none)(h14:s2 b14=none)
 (hV:∀q,q≠b13→q≠b14→V q=s2 q) (GZ:V b13≠none) (z0:V b14≠none) (hb:L≠[]→V b=none) (hne:A≠[]) :
 aM (((bS V b L).aC b13 o').aC b6 o6) (bS (bS st b11 A) b L)∧(L≠[]→(bS st b11 A) b=none):=by
 have aED:b13≠b11:=by rintro rfl;rw[h13] at hA;cases hA
 have aPZ:b14≠b11:=by rintro rfl;rw[h14] at hA;cases hA
 have GX:b13≠b6:=by rintro rfl;exact h62 h13
 have n13:st b13=none:=(hD b13).1 h13
 have n14:st b14=none:=(hD b14).1 h14
 rw[jR hne]
 have hbb:L≠[]→b≠b13∧b≠b11∧b≠b6∧b≠b14∧s2 b=none:=fun h=>by
  have h0:=hb h
  have e13:b≠b13:=by rintro rfl;exact GZ h0
  have e14:b≠b14:=by rintro rfl;exact z0 h0
  rw[hV b e13 e14] at h0
  exact⟨e13,(by rintro rfl;rw[h0] at hA;cases hA),(by rintro rfl;exact h62 h0),e14,h0⟩
 refine⟨fun q=>?_,fun h=>?_⟩
 · by_cases q6:q=b6
   · subst q6
     have:bS (st.aC b11 (.cells (A.flatMap AV.cells))) b L q=none:=by
      by_cases hL:L= []
      · subst hL;simp only[bS];rw[aA.aF _ _ aD4,h6]
      · obtain⟨_,_,e6,_⟩:=hbb hL
        rw[jR hL,aA.aF _ _ (c9 e6),aA.aF _ _ aD4,h6]
     rw[this];simp
   rw[aA.aF _ _ q6]
   by_cases q13:q=b13
   · subst q13
     have:bS (st.aC b11 (.cells (A.flatMap AV.cells))) b L q=none:=by
      by_cases hL:L= []
      · subst hL;simp only[bS];rw[aA.aF _ _ aED,n13]
      · obtain⟨e13,_⟩:=hbb hL
        rw[jR hL,aA.aF _ _ (c9 e13),aA.aF _ _ aED,n13]
     rw[this];simp
   rw[aA.aF _ _ q13]
   have rest:q≠b∨L= []→(V q=none→st.aC b11 (.cells (A.flatMap AV.cells)) q=none)∧∀o,st.aC b11 (.cells (A.flatMap AV.cells)) q=some o→V q=some o:=fun _=>by
    by_cases q14:q=b14
    · subst q14
      rw[aA.aF _ _ aPZ,n14]
      simp
    rw[hV q q13 q14]
    by_cases q11:q=b11
    · subst q11;rw[aA.aL,hA];simp
    rw[aA.aF _ _ q11]
    exact hD q
   by_cases hL:L= []
   · subst hL
     exact rest (.inr rfl)
   · rw[jR hL,jR hL]
     by_cases qb:q=b
     · subst qb;rw[aA.aL,aA.aL];simp
     rw[aA.aF _ _ qb,aA.aF _ _ qb]
     exact rest (.inl qb)
 · obtain⟨e13,e11,e6,e14,h0⟩:=hbb h
   rw[aA.aF _ _ e11]
   exact(hD b).1 h0
theorem yY{st:aA}{b q:Nat}{l:List AV}{o:AO}(hb:l≠[]→st b=none)(h:st q=some o):bS st b l q=some o:=by
 cases l with
 | nil=>exact h
 | cons x l=>
  rw[jR (by simp),aA.aF _ _ (by rintro rfl;rw[hb (by simp)] at h;cases h)]
  exact h
theorem aDS{b b' o n w:Nat}{l:List AV}(h:l≠[]→b'≠b):(AV.mslice b' o n w).fin b l=.mslice b' o n w:=by
 unfold AV.fin
 cases l with
 | nil=>rfl
 | cons x l=>
  simp only[List.isEmpty_cons,jI,cJ]
  cases o with
  | zero=>simp only[AV.fz];rw[aG (fun e=>h (by simp) e.1)];try rfl
  | succ o=>rfl
theorem GR{b N:Nat}{σ:Sub}(h0:0<N):(AV.mslice b 0 N 4).fin b (cF N σ)=.slice (cF N σ):=by
 have hl:=rL N σ
 have h:cF N σ≠[]:=by intro e;rw[e] at hl;simp at hl;omega
 have:bR 4 b (cF N σ)=.mslice b 0 N 4:=by rw[qE h,hl]
 rw[←this,mH]
theorem aTW(l:List RC):∀e∈l.map eP,e.cA=false:=by intro e he;simp only[cE] at he;obtain⟨t,_,rfl⟩:=he;exact aTU t
theorem aTX(l:List RC):∀e∈l.map eP,e.width=7:=by intro e he;simp only[cE] at he;obtain⟨t,_,rfl⟩:=he;exact H3 t
theorem aG0{φ:AF}{d i:Nat}{l:List Nat}(hi:i+1<l.length)(h:φ d=.int .i64 ((i:Int)+1)):fE prog φ 40 (.slice (l.map nv)) (some (.tmp d)) none none=some (.slice ((l.drop (i+1)).map nv)):=by
 have he:φ.eval (.tmp d)=.int .i64 ((i:Int)+1):=h
 have hb:cZ φ (some (.tmp d)) 0 l.length=some (i+1):=by
  simp only[cZ,he]
  rw[aK (by omega)]
  congr 1
 have hwo:sN (l.map nv) (i+1) 1=true:=by
  unfold sN
  rw[lS,e7 hi]
  try rfl
 unfold fE
 rw[aG (by simp [oK])]
 simp only[mG,dS]
 rw[aG (by simp)]
 simp only[cZ] at hb ⊢
 have ht:List.take l.length (l.map nv)=l.map nv:=mU (by simp)
 simp only[aE,hb,hwo,or_true,dP,ht]
 simp [yE]
abbrev pR:=zi tI_3 (zi zI_3 (zi aY (zi tI_4 (zi zI_4 (zi cG (zi tI_27 (zi zI_27 (zi d8 (zi f6 (zi f7 (zi gG (zi tI_28 (zi zI_28 (zi aP (zi bE (zi bF (zi b9 (zi tI_40 (zi zI_40 (zi dS (zi fV (zi fW (zi f9 (zi tI_52 (zi zI_52 (zi bU (zi bV (zi bX (zi bY (zi bT (zi tI_111 (zi zI_111 (zi jT (zi jU (zi jS (zi tI_156 (zi zI_156 (zi tE (zi wT (zi wV (zi ET (zi tI_157 (zi zI_157 (zi vE (zi CM (zi CN (zi O2 (zi tI_159 (zi zI_159 (zi CO (zi CP (zi CQ (zi B6 (zi tI_199 (zi zI_199 (zi LE (zi LF (zi LG (zi LH KN)))))))))))))))))))))))))))))))))))))))))))))))))))))))))))
theorem RX(p:List Cl)(hp:∀c∈p,fJ c∧c.2.length≤6)(gs0:List RG)(σ0:List AV)(cs:List RC)(c:RC)(hc:uP p c)(h0:0<c.N)(hN:c.N≤524288)(hcl:cs.length≤524288)(st:aA) :
 aD prog 168 [.slice (p.map bB),.agg [.slice (gs0.map dV),.slice σ0,.slice (cs.map eP)],eP c] st (fun r st'=>st'=st∧r=match gM p cs c.goal c.rest c.σ c.N c.left with
  | some s=>.tup [qV s,.bool true]
  | none=>.tup [.agg [.slice (gs0.map dV),.slice σ0,.slice (cs.map eP)],.bool false]):=by
 obtain⟨goal,rest,left,σ,N⟩:=c
 obtain⟨hg,ho,hd,hgo,hr,hle,hrl,hll⟩:=hc
 simp only at hg ho hd hgo hr hle hrl hll h0 hN
 obtain⟨gk,gn,gs',gts⟩:=goal
 rw[NO]
 refine aD.fin (aD.fin (aD.m7 ?_))
 refine wF [1000000,13] 3 func168 ntmps168 rfl rfl ?_
 intro _
 simp -implicitDefEqProofs only[aB,seval,pR]
 intro b6 h6
 generalize hW:st.aC b6 (.cells [.fslice [],.fslice [],.fslice []])=W
 have hW6:W b6=some (.cells [.fslice [],.fslice [],.fslice []]):=by rw[←hW];exact aA.aL _ _ _
 have hDW:aM W st:=by rw[←hW];exact(aM.refl _).aC h6
 refine dQ (σ:=Unit) [1000000] [0,4,5,6] left (fun i _=>gM p cs (.mk gk gn gs' gts) rest σ N (left.drop i)=gM p cs (.mk gk gn gs' gts) rest σ N left) (fun i _=>[(7,.bool false),(8,.int .i64 i)]) (fun _ _=>W) (by decide +kernel) ⟨(),rfl,aR.mk (by simp -implicitDefEqProofs only[aB,↓aW,seval])⟩ (fun i x _ hx hlt bD hdr hinv=>?_) (fun _ hge hinv=>?_)
 case refine_2=>
  simp -implicitDefEqProofs only[hge,aS,hW6,aE,aB,seval,pR]
  refine⟨st,?_,0,[],st,rfl,by simp,by simp,⟨0,by simp⟩,0,[],st,rfl,by simp,by simp,⟨0,by simp⟩,rfl,?_⟩
  · intro z
    have:=hDW z
    by_cases hz:z=b6
    · subst hz;simp [aA.aC,h6]
    · rw[aA.aF _ _ hz];exact this
  · rw[←hinv,iD]
    simp only[gR,lG,tH,iR,bK,bL,gM]
 have hw:=bJ (n:=(i:Int)+1)
 have hxl:=hle x (cI hx)
 obtain⟨cl,hcx⟩:∃cl,p[x]?=some cl:=⟨_,e7 hxl⟩
 obtain⟨qL,oG⟩:=hp cl (cI hcx)
 rw[hdr,gM.eq_def] at hinv
 simp only[hcx] at hinv
 have hat:dF prog 40 (.slice (left.map nv)) (.int .i64 (i:Int))=some (.pptr (.int .i64 (x:Int))):=bG (av:=nv) dS hx rfl
 have w6:=bG (av:=bB) (P:=prog) d8 hcx (fQ cl)
 have hcf:=aMS cl qL oG
 obtain⟨⟨k,n,s',ts⟩,bd⟩:=cl
 rw[k9] at w6 hcf
 simp only at hinv
 simp -implicitDefEqProofs only[bD,aE,rL,hat,w6,aB,↓aW,seval,pR]
 refine wX [(0,1),(1,1),(2,1),(4,1),(3,0),(5,0),(6,0),(7,1)] [0,1,2,4,7] c8 mixed rfl fC ?_
 simp -implicitDefEqProofs only[aB,seval,pR]
 have hfr:=qL.fr.1
 have hHd:=qL.cU N (.mk k n s' ts) (by simp)
 have hBd:=fun t ht=>(qL.AS t (List.mem_cons_of_mem _ ht))
 refine KL h0 (by omega) σ fun b hb hA0=>?_
 simp -implicitDefEqProofs only[aB,seval]
 refine⟨fC,?_⟩
 refine(hcf _).to ?_
 simp -implicitDefEqProofs only[aB,seval]
 refine⟨fC,?_⟩
 refine aKB hd (by omega) hb fun b11 h11=>?_
 simp -implicitDefEqProofs only[aB,seval]
 refine⟨fC,?_⟩
 have hA:=(show eJ (N+mI (.mk k n s' ts,bd)) (W.aC b11 (.cells ((cF (N+mI (.mk k n s' ts,bd)) σ).flatMap AV.cells))) b11 σ from aA.aL _ _ _)
 have hDT:aM (W.aC b11 (.cells ((cF (N+mI (.mk k n s' ts,bd)) σ).flatMap AV.cells))) W:=(aM.refl _).aC h11
 have hh:=qL.head
 generalize mI (.mk k n s' ts,bd)=fr at *
 generalize W.aC b11 (.cells ((cF (N+fr) σ).flatMap AV.cells))=T at *
 have hsh:Tm.sh (N:Int) (.mk k n s' ts)=cU N (.mk k n s' ts):=aGT N (by omega) _ hh.1
 have hcs:=KU (N:Int) (.mk k n s' ts)
 rw[hsh] at hcs
 have hun:=B8 (N:=N+fr) (by omega) hg (ho.upN (by omega)) (.mk gk gn gs' gts) (cU N (.mk k n s' ts)) (hgo.mono (by omega)) hHd b11
 generalize cU N (.mk k n s' ts)=y at *
 obtain⟨yk,yn,ys,yt⟩:=y
 refine wX [(0,1),(1,1),(2,1),(3,1),(4,1),(6,1),(5,0),(7,0),(8,1)] [0,1,2,3,4,6,8] c8 mixed rfl fC ?_
 simp -implicitDefEqProofs only[aB,seval,pR]
 have hsm:=hh.1.small
 simp only[aX] at hun hcs ⊢
 refine(hcs _ hsm).to ?_
 simp -implicitDefEqProofs only[aB,seval]
 refine⟨fC,?_⟩
 refine(hun _ hA).mono ?_
 rintro _ s2 ⟨rfl,hA2,hk2⟩
 simp -implicitDefEqProofs only[aB,seval]
 refine⟨fC,?_⟩
 generalize gW σ (.mk gk gn gs' gts) (.mk yk yn ys yt)=u at *
 obtain⟨r,σ',tr⟩:=u
 simp only at hinv hA2 ⊢
 have G0:W b11=none:=h11
 have hDs:aM s2 W:=by
  intro q
  have key:∀o,W q=some o→s2 q=some o:=fun o h=>hk2 q o ((hDT q).2 o h) (by rintro rfl;rw[G0] at h;cases h)
  refine⟨fun h=>?_,key⟩
  cases hq:W q with
  | none=>rfl
  | some o=>rw[key o hq] at h;cases h
 refine aT (fun h=>?_) (fun h=>?_)
 · have hr:r=false:=by simpa using h
   rw[aG (by rw[hr];simp)] at hinv
   simp -implicitDefEqProofs only[hw,aB,seval]
   exact⟨(),hinv,aR.drop hDs (by simp -implicitDefEqProofs only[aB,seval])⟩
 have hr':r=true:=by simpa using h
 rw[aK hr'] at hinv
 have hg9:=RV bd N cs.length rest hBd oG (by omega) (by omega)
 generalize hgs:bd.map (fun t=>(⟨cU N t,cs.length⟩:RG))++rest=gs2 at *
 simp -implicitDefEqProofs only[aE,aB,seval,pR]
 refine wP [(0,1),(1,1),(3,1),(5,1),(6,1),(7,1),(2,2),(4,2),(8,2),(9,1),(10,1),(11,0),(12,0)] [0,1,3,5,6,7,2,4,8,9,10] mixed ?_
 simp -implicitDefEqProofs only[aB,seval,pR]
 refine K6 hg9 ?_
 simp -implicitDefEqProofs only[aS,aE,hw,aB,seval,pR]
 intro b13 h13
 have aPP:b13≠b11:=by rintro rfl;rw[eJ,h13] at hA2;cases hA2
 have h62:s2 b6≠none:=by rw[(hDs b6).2 _ hW6];simp
 have GX:b6≠b13:=by rintro rfl;exact h62 h13
 have aD3:b6≠b11:=by rintro rfl;rw[hW6] at G0;cases G0
 have HF:st b11=none:=(hDW b11).1 G0
 have aD7:=(hDs b6).2 _ hW6
 have hNf:0<N+fr:=by omega
 have mJ:cF (N+fr) σ'≠[]:=by intro e;have:=rL (N+fr) σ';rw[e] at this;simp at this;omega
 refine aT (fun h=>?_) (fun h=>?_)
 · have h':i+1<left.length:=by simp at h;omega
   have hsl:=fun(φ:AF) (d:Nat) (h:φ d=.int .i64 ((i:Int)+1))=>aG0 h' h
   simp -implicitDefEqProofs only[aB,seval]
   refine wP [(0,1),(2,1),(4,1),(6,1),(7,1),(9,1),(1,2),(3,2),(5,2),(8,1),(10,2),(11,1),(12,0),(13,0)] [0,2,4,6,7,9,1,3,5,8,10,11] mixed ?_
   simp -implicitDefEqProofs only[aS,hsl,hw,aB,seval,pR]
   intro b14 h14
   have aEV:b14≠b13:=by rintro rfl;rw[aA.aL] at h14;cases h14
   have LR:s2 b14=none:=by rw[aA.aF _ _ aEV] at h14;exact h14
   have aPR:b6≠b14:=by rintro rfl;exact h62 LR
   generalize hV:(s2.aC b13 (AO.cells [AV.slice (gs2.map dV),AV.mslice b11 0 (N+fr) 4,AV.slice (cs.map eP)])).aC b14 (.cells [.int .i64 gk,.int .i64 gn,.str gs',.slice (gts.map Tm.av),.slice (rest.map dV),.slice ((left.drop (i+1)).map nv),.slice (cF N σ)])=V
   have z0:V b14=some (.cells [.int .i64 gk,.int .i64 gn,.str gs',.slice (gts.map Tm.av),.slice (rest.map dV),.slice ((left.drop (i+1)).map nv),.slice (cF N σ)]):=by rw[←hV];exact aA.aL _ _ _
   have GZ:V b13=some (AO.cells [AV.slice (gs2.map dV),AV.mslice b11 0 (N+fr) 4,AV.slice (cs.map eP)]):=by rw[←hV,aA.aF _ _ (c9 aEV)];exact aA.aL _ _ _
   have hV6:V b6=some (.cells [.fslice [],.fslice [],.fslice []]):=by rw[←hV,aA.aF _ _ aPR,aA.aF _ _ GX];exact aD7
   have hVq:∀q,q≠b13→q≠b14→V q=s2 q:=fun q e1 e2=>by rw[←hV,aA.aF _ _ e2,aA.aF _ _ e1]
   refine wX [(0,1),(1,1),(2,1),(4,1),(5,1),(3,0),(6,0),(7,1),(8,2)] [0,1,2,4,5,7] (one b14 (.cells [.int .i64 gk,.int .i64 gn,.str gs',.slice (gts.map Tm.av),.slice (rest.map dV),.slice ((left.drop (i+1)).map nv),.slice (cF N σ)])) mixed rfl (g9 z0) ?_
   simp -implicitDefEqProofs only[tV,aB,seval,pR]
   have hlc:(cs.map eP).length=cs.length:=aE _
   refine gJ (P:=prog) (b:=0) (l:=[]) (xs:=cs.map eP) vE CM CN rfl rfl (by intro e he;simp only[cE] at he;obtain⟨t,_,rfl⟩:=he;exact⟨H3 t,aTV t⟩) (by simp) (by simp) (by simp only[bQ,hlc];omega) (by simp only[bQ,hlc];omega) (fun b15 h15=>?_)
   rw[eR] at h15 ⊢
   simp -implicitDefEqProofs only[aB,seval]
   refine⟨g9 (yY h15 z0),?_⟩
   refine gJ (P:=prog) (b:=b15) (l:=cs.map eP) (xs:=[eP ⟨.mk gk gn gs' gts,rest,left.drop (i+1),σ,N⟩]) vE CM CN rfl rfl (gS rfl rfl) (by intro e he;simp only[cE] at he;obtain⟨t,_,rfl⟩:=he;exact H3 t) h15 (by simp only[bA,bQ,hlc];omega) (by simp only[bA,bQ,hlc];omega) (fun b16 h16=>?_)
   rw[show(cs.map eP)++ [eP ⟨.mk gk gn gs' gts,rest,left.drop (i+1),σ,N⟩]=(cs++ [(⟨.mk gk gn gs' gts,rest,left.drop (i+1),σ,N⟩:RC)]).map eP by simp] at h16 ⊢
   have g13:=yY h16 GZ
   have g14:=yY h16 z0
   have g6:=yY h16 hV6
   have hdn:left.drop (i+1)≠[]:=by intro e;have:=tA List.length e;simp at this;omega
   rw[aG hdn] at hinv
   generalize hLL:cs++ [(⟨.mk gk gn gs' gts,rest,left.drop (i+1),σ,N⟩:RC)]=LL at *
   have E:=aIQ (o':=.cells [AV.slice (gs2.map dV),AV.mslice b11 0 (N+fr) 4,bR 7 b16 (LL.map eP)]) (o6:=.cells [AV.slice (gs2.map dV),AV.mslice b11 0 (N+fr) 4,bR 7 b16 (LL.map eP)]) (hDs.trans hDW) hA2 HF h6 h62 aD3 h13 LR hVq (by rw[GZ];simp) (by rw[z0];simp) h16 mJ
   simp -implicitDefEqProofs only[aS,GX,g13,g6,iX,oZ,aB,seval,pR]
   have hms:LL.map eP≠[]→b11≠b16:=by rintro h rfl;have:=h16 h;rw[hVq b11 (c9 aPP) (by rintro rfl;rw[eJ,LR] at hA2;cases hA2),hA2] at this;cases this
   refine⟨g9 g14,_,E.1,b16,LL.map eP,_,rfl,fun h=>E.2 (by simpa using h),aTW LL,⟨7,aTX LL⟩,b11,cF (N+fr) σ',st,rfl,fun _=>HF,B3 _ _,⟨4,y7 _ _⟩,rfl,?_⟩
   rw[←hinv]
   simp only[gR,lG,tH,iR,pE,bK,bL,aDS hms,GR hNf]
   rfl
 · have h':left.drop (i+1)= []:=JV (by simp at h;omega)
   have E:=aIQ (o6:=.cells [AV.slice (gs2.map dV),AV.mslice b11 0 (N+fr) 4,AV.slice (cs.map eP)]) (o':=.cells [AV.slice (gs2.map dV),AV.mslice b11 0 (N+fr) 4,AV.slice (cs.map eP)]) (b:=0) (L:=[]) (hDs.trans hDW) hA2 HF h6 h62 aD3 h13 h13 (fun q h _=>aA.aF s2 (.cells [AV.slice (gs2.map dV),AV.mslice b11 0 (N+fr) 4,AV.slice (cs.map eP)]) h) (by rw[aA.aL];simp) (by rw[aA.aL];simp) (by simp) mJ
   simp -implicitDefEqProofs only[aS,GX,aD7,aA.aL,aB,seval,pR]
   rw[aK h'] at hinv
   have E1:=E.1
   simp only[bS,eH] at E1
   refine⟨_,E1,0,[],_,rfl,by simp,by simp,⟨0,by simp⟩,b11,cF (N+fr) σ',st,rfl,fun _=>HF,B3 _ _,⟨4,y7 _ _⟩,rfl,?_⟩
   rw[←hinv]
   simp only[gR,lG,tH,iR,bK,bL,aDS (l:=[]) (fun h=>absurd rfl h),GR hNf]
   rfl
def dT:List IG→AV
 | []=>.nilptr
 | ⟨.mk k n s ts,cut,up⟩::l=>.pptr (.agg [.int .i64 k,.int .i64 n,.str s,.slice (ts.map Tm.av),.int .i64 (cut:Int),.int .i64 up,dT l])
theorem qI(k n:Int)(s:ByteArray)(ts:List Tm)(cut:Nat)(up:Int)(l:List IG):dT (⟨.mk k n s ts,cut,up⟩::l)=.pptr (.agg [.int .i64 k,.int .i64 n,.str s,.slice (ts.map Tm.av),.int .i64 (cut:Int),.int .i64 up,dT l]):=by rw[dT]
theorem nA(l:List IG):(dT l).isAgg=false∧(dT l).width=1∧(dT l).cA=false∧(dT l).cells= [dT l]∧(dT l).storable=true∧(dT l).soft=dT l:=by
 cases l with
 | nil=>rw[dT];exact⟨rfl,rfl,rfl,rfl,rfl,rfl⟩
 | cons g l=>obtain⟨⟨k,n,s,ts⟩,cut,up⟩:=g;rw[qI];exact⟨rfl,rfl,rfl,rfl,rfl,rfl⟩
abbrev aHZ:=zi tI_3 (zi zI_3 (zi aY (zi tI_28 (zi zI_28 (zi aP (zi bE (zi bF (zi b9 (zi tI_52 (zi zI_52 (zi bU (zi bV (zi bX (zi bY (zi bT (zi tI_180 (zi zI_180 (zi tI_211 (zi zI_211 (zi aDC (zi aDD (zi aDE (zi aDF QN)))))))))))))))))))))))
theorem KY(bd:List Tm)(cut:Nat)(up:Int)(rest:List IG)(hl:bd.length≤1048576)(st:aA) :
 aD prog 149 [.slice (bd.map Tm.av),.int .i64 (cut:Int),.int .i64 up,dT rest] st (fun r st'=>r=dT (bd.map (fun t=>(⟨t,cut,up⟩:IG))++rest)∧st'=st):=by
 obtain⟨r1,r2,r3,r4,r5,r6⟩:=nA rest
 refine aD.done ?_
 refine wF [1000000] 4 func149 ntmps149 rfl rfl ?_
 intro _
 have hw0:=bJ (n:=(bd.length:Int) - 1)
 simp -implicitDefEqProofs only[aE,hw0,aB,seval,aHZ]
 refine rB (σ:=Nat) [1000000] [0,1,2,8] (fun j=>j≤bd.length) (fun j=>[(3,dT ((bd.drop j).map (fun t=>(⟨t,cut,up⟩:IG))++rest)),(9,.int .i64 ((j:Int) - 1))]) (fun _=>st) (fun j=>j) (by decide +kernel) ⟨bd.length,cT _,aR.mk (by simp -implicitDefEqProofs only[iD,bL,eR,aB,seval])⟩ ?_
 intro j hj
 cases j with
 | zero=>
  rw[rE]
  obtain⟨s1,s2,s3,s4,s5,s6⟩:=nA (bd.map (fun t=>(⟨t,cut,up⟩:IG))++rest)
  simp -implicitDefEqProofs only[tF,↓E5,List.contains,List.elem,↓reduceIte,reduceCtorEq,Nat.reduceEqDiff]
  refine aT (fun h=>absurd h (by simp)) (fun h=>?_)
  simp -implicitDefEqProofs only[aB,seval]
  exact⟨s6,aM.refl _⟩
 | succ j=>
 obtain⟨s1,s2,s3,s4,s5,s6⟩:=nA ((bd.drop (j+1)).map (fun t=>(⟨t,cut,up⟩:IG))++rest)
 obtain⟨x,hx⟩:∃x,bd[j]?=some x:=⟨_,e7 (by omega)⟩
 have hat:=bG (av:=Tm.av) (P:=prog) aP hx (aO x)
 have hdr:bd.drop j=x::bd.drop (j+1):=by
  obtain⟨h1,h2⟩:=eS.1 hx
  rw[oV h1,h2]
 have hc:((j+1:Nat):Int) - 1=(j:Int):=by omega
 have hw:=bJ (n:=(j:Int) - 1)
 have hnx:dT ((bd.drop j).map (fun t=>(⟨t,cut,up⟩:IG))++rest)=.pptr (.agg (x.av.cells++ [.int .i64 (cut:Int),.int .i64 up,dT ((bd.drop (j+1)).map (fun t=>(⟨t,cut,up⟩:IG))++rest)])):=by
  rw[hdr]
  obtain⟨k,n,s,ts⟩:=x
  rw[bK,gB,qI,aX]
  try rfl
 generalize dT ((bd.drop (j+1)).map (fun t=>(⟨t,cut,up⟩:IG))++rest)=A at *
 obtain⟨k,n,s,ts⟩:=x
 simp only[aX] at hat hnx
 rw[hc]
 simp -implicitDefEqProofs only[aB,seval]
 refine aT (fun h=>?_) (fun h=>absurd h (by simp))
 simp -implicitDefEqProofs only[s3,s4,hat,hw,aB,seval,aHZ]
 trace_state
 refine⟨j,by omega,by omega,aR.mk (by rw[hnx];simp -implicitDefEqProofs only[aB,seval])⟩
theorem aLL(c:Int)(st:aA):aD prog 187 [.int .i64 c] st (fun r st'=>r=.int .i64 (oA c)∧st'=st):=by
 refine aD.done ?_
 refine wF [1000000] 1 func187 ntmps187 rfl rfl ?_
 intro _
 simp -implicitDefEqProofs only[aB,seval]
 unfold oA
 refine aT (fun h=>?_) (fun h=>?_)
 · simp -implicitDefEqProofs only[aB,seval]
   have h':c=2:=by simpa using h
   exact⟨by rw[aK h'];try rfl,aM.refl _⟩
 rw[aG (show ¬c=2 by simpa using h)]
 simp -implicitDefEqProofs only[aB,seval]
 refine aT (fun h=>?_) (fun h=>?_)
 · simp -implicitDefEqProofs only[aB,seval]
   have h':c=3:=by simpa using h
   exact⟨by rw[aK h'];try rfl,aM.refl _⟩
 rw[aG (show ¬c=3 by simpa using h)]
 simp -implicitDefEqProofs only[aB,seval]
 refine aT (fun h=>?_) (fun h=>?_)
 · simp -implicitDefEqProofs only[aB,seval]
   have h':c=4:=by simpa using h
   exact⟨by rw[aK h'];try rfl,aM.refl _⟩
 rw[aG (show ¬c=4 by simpa using h)]
 simp -implicitDefEqProofs only[aB,seval]
 exact⟨rfl,aM.refl _⟩
abbrev aVQ:=zi tI_9 (zi zI_9 (zi d4 (zi tI_28 (zi zI_28 (zi aP (zi bE (zi bF (zi b9 (zi tI_52 (zi zI_52 (zi bU (zi bV (zi bX (zi bY (zi bT (zi tI_219 (zi zI_219 (zi LI (zi LJ KO)))))))))))))))))))
theorem R5(k n:Int)(s:ByteArray)(ts:List Tm)(st:aA):aD prog 189 [(Tm.mk k n s ts).av] st (fun r st'=>r=.agg [.str s,.int .i64 (ts.length:Int)]∧st'=st):=by
 refine aD.done ?_
 simp only[aX]
 refine wF [1000000] 1 func189 ntmps189 rfl rfl ?_
 intro _
 simp -implicitDefEqProofs only[aS,aE,aB,seval,aVQ]
 intro b2 h2
 exact⟨by simp only[mA,nM,xP,bK,bL],(aM.refl _).aC h2⟩
abbrev EJ:=zi tI_3 (zi zI_3 (zi aY (zi tI_27 (zi zI_27 (zi d8 (zi f6 (zi f7 (zi gG (zi tI_40 (zi zI_40 (zi dS (zi fV (zi fW (zi f9 (zi tI_52 (zi zI_52 (zi bU (zi bV (zi bX (zi bY (zi bT (zi tI_111 (zi zI_111 (zi jT (zi jU (zi jS (zi tI_219 (zi zI_219 (zi LI (zi LJ KO))))))))))))))))))))))))))))))
theorem aLF(p:List Cl)(t:Tm)(hp:p.length≤1048576)(st:aA):aD prog 188 [.slice (p.map bB),.agg [.str t.s,.int .i64 (t.ts.length:Int)]] st (fun r st'=>r=.slice ((eO p t).map nv)∧st'=st):=by
 rw[GV]
 refine aD.done ?_
 obtain⟨tk,tn,ts',tts⟩:=t
 simp only[Tm.s,Tm.ts]
 refine wF [1000000] 2 func188 ntmps188 rfl rfl ?_
 intro _
 simp -implicitDefEqProofs only[aE,aB,seval,EJ]
 refine sO (σ:=Unit) [1000000] [3,4,8,9] p 1 5 (fun i _=>((List.range i).filter (oC p (.mk tk tn ts' tts))).map nv) (fun _ _=>True) (fun i _=>[(10,.int .i64 i)]) (fun _ _=>st) (fun i _ _ e he=>by simp only[cE] at he;obtain⟨t,_,rfl⟩:=he;exact⟨rfl,rfl⟩) (by decide +kernel) ⟨(),0,trivial,fun h=>absurd rfl h,aR.mk (by simp -implicitDefEqProofs only[kZ,List.range_zero,List.filter_nil,bL,aB,↓aW,seval])⟩ (fun i x _ b hx hlt bD hdr hinv hb=>?_) (fun _ b hge hinv=>?_)
 case refine_2=>
  simp -implicitDefEqProofs only[hge,fR,iR,rW,zX,pE,aB,seval]
  exact⟨rfl,aM.refl _⟩
 have hw:=bJ (n:=(i:Int)+1)
 have hst:=aDW p (.mk tk tn ts' tts) i
 have hln:=GW p (.mk tk tn ts' tts) i
 have hat:=bG (av:=bB) (P:=prog) d8 hx (fQ x)
 obtain⟨⟨k,n,s',ts⟩,bd⟩:=x
 rw[k9] at hat
 have hP:oC p (.mk tk tn ts' tts) i=(decide (s'=ts')&&decide ((ts.length:Int)=(tts.length:Int))):=by unfold oC;rw[hx];try rfl
 rw[hP] at hst
 have hpr:=fun st=>R5 k n s' ts st
 have aQH:dJ prog .eql 219 (.agg [.str s',.int .i64 (ts.length:Int)]) (.agg [.str ts',.int .i64 (tts.length:Int)])=some (.bool (decide (s'=ts')&&decide ((ts.length:Int)=(tts.length:Int)))):=by
  have h:GE prog 219=true:=by kernel_rfl
  simp only[dJ,h,and_self,dP]
 simp only[aX] at hpr
 simp -implicitDefEqProofs only[bD,hat,aB,↓aW,seval,EJ]
 refine wP [(0,1),(1,2),(2,2),(3,2),(4,1)] [0,1,2,3,4] mixed ?_
 simp -implicitDefEqProofs only[aB,seval,EJ]
 refine jB (hpr _) ?_
 simp -implicitDefEqProofs only[aQH,aB,seval,EJ]
 refine aT (fun h2=>?_) (fun h2=>?_)
 · rw[aK h2] at hst
   simp -implicitDefEqProofs only[aB,seval,EJ]
   refine gJ dS fV fW rfl rfl (gS rfl rfl) (aFV _) hb (by simp only[aE,bA,bQ];omega) (by simp only[aE,bA,bQ];omega) (fun b' hb'=>?_)
   rw[show ∀l:List Nat,l.map nv++ [AV.int .i64 (i:Int)]=(l++ [i]).map nv from fun l=>by simp [nv],←hst] at hb' ⊢
   simp -implicitDefEqProofs only[hw,aB,seval]
   exact⟨(),b',hb',aR.mk (by simp -implicitDefEqProofs only[aB,seval])⟩
 · rw[aG (by rw[h2];simp),fN] at hst
   rw[←hst] at hb ⊢
   simp -implicitDefEqProofs only[hw,aB,seval]
   exact⟨(),b,hb,aR.mk (by simp -implicitDefEqProofs only[aB,seval])⟩
def pH:IC→AV
 | ⟨.mk k n s ts,node,rest,list,eA,taken⟩=>.agg [.int .i64 k,.int .i64 n,.str s,.slice (ts.map Tm.av),.int .i64 (node:Int),dT rest,.slice (list.map nv),.int .i64 (eA:Int),.int .i64 (taken:Int)]
theorem aE8(k n:Int)(s:ByteArray)(ts:List Tm)(node:Nat)(rest:List IG)(list:List Nat)(eA taken:Nat):pH ⟨.mk k n s ts,node,rest,list,eA,taken⟩=.agg [.int .i64 k,.int .i64 n,.str s,.slice (ts.map Tm.av),.int .i64 (node:Int),dT rest,.slice (list.map nv),.int .i64 (eA:Int),.int .i64 (taken:Int)]:=rfl
theorem aRZ(c:IC):(pH c).width=9:=by obtain⟨⟨k,n,s,ts⟩,_,_,_,_,_⟩:=c;rfl
theorem MR(l:List IC):∀e∈l.map pH,e.width=9:=by intro e he;simp only[cE] at he;obtain⟨t,_,rfl⟩:=he;exact aRZ t
theorem aRY(c:IC):(pH c).cells.all AV.storable=true:=by
 obtain⟨⟨k,n,s,ts⟩,_,rest,_,_,_⟩:=c
 rw[aE8]
 have:=(nA rest).2.2.2.2.1
 rw[eE]
 intro e he
 simp only[AV.cells,cO,dD,dI] at he
 rcases he with rfl | rfl | rfl | rfl | rfl | rfl | rfl | rfl | rfl<;>first | rfl | exact this
def fZ(c:Nat)(p:List Cl)(q:List Tm)(idx:Bool)(fuel used fresh:Int)(gl qc qn:AV)(mx:Int):List AV:=
 [.ptr c 0,.slice (p.map bB),.slice (q.map Tm.av),.bool idx,.bool false,.int .i64 fuel,.int .i64 used,.int .i64 fresh,gl,qc,qn,.int .i64 mx]
def gU(S c m:Nat)(qt qc qn:AV):List Nat:=[S,c,m]++cY qt++dA qc++dA qn
theorem aU4(q:AV):cY q=dA q:=by cases q<;>rfl
theorem M7(q:AV):(dA q).Nodup:=by cases q<;>simp [dA]
structure cW (st0 st:aA) (S c m:Nat) (qt qc qn:AV) (p:List Cl) (q:List Tm) (idx:Bool) (fuel used mx:Int) (nd:List AV) (i:IS):Prop where
 cell:st S=some (.cells (fZ c p q idx fuel used i.fresh (dT i.goals) qc qn mx))
 sto:e9 st c m qt i.σ i.tr
 acC:gX st 9 qc (i.chs.map pH)
 acN:gX st 6 qn nd
 ndl:nd.length=i.nn
 ndw:∀e∈nd,e.width=6
 dis:(gU S c m qt qc qn).Nodup
 new:∀b∈gU S c m qt qc qn,st0 b=none
 aU:∀b o,st0 b=some o→st b=some o
theorem dM{b S c m:Nat}{qt qc qn:AV}:b∈gU S c m qt qc qn↔b=S∨b=c∨b=m∨b∈cY qt∨b∈dA qc∨b∈dA qn:=by
 simp only[gU,dR,cO,dD,dI,or_assoc]
section
variable {st0 st:aA} {S c m:Nat} {qt qc qn:AV} {p:List Cl} {q:List Tm} {idx:Bool} {fuel used mx:Int} {nd:List AV} {i:IS}
theorem cW.held(h:cW st0 st S c m qt qc qn p q idx fuel used mx nd i):∀b∈gU S c m qt qc qn,st b≠none:=fun b hb=>by
 rcases dM.1 hb with rfl | rfl | rfl | hb | hb | hb
 · rw[h.cell];simp
 · rw[h.sto.sub.cells];simp
 · rw[h.sto.sub.map];simp
 · obtain⟨cs,e⟩:=h.sto.EF b hb;rw[e];simp
 · obtain⟨cs,e⟩:=h.acC.some b hb;rw[e];simp
 · obtain⟨cs,e⟩:=h.acN.some b hb;rw[e];simp
theorem cW.tD(h:cW st0 st S c m qt qc qn p q idx fuel used mx nd i):aM st st0:=fun b=>by
 refine⟨fun e=>?_,h.aU b⟩
 cases hb:st0 b with
 | none=>rfl
 | some o=>rw[h.aU b o hb] at e;cases e
theorem cW.aDY(h:cW st0 st S c m qt qc qn p q idx fuel used mx nd i){b:Nat}(hb:st b=none):st0 b=none:=(h.tD b).1 hb
theorem cW.parts(h:cW st0 st S c m qt qc qn p q idx fuel used mx nd i):S≠c∧S≠m∧c≠m∧S∉cY qt∧S∉dA qc∧S∉dA qn∧c∉cY qt∧c∉dA qc∧c∉dA qn∧m∉cY qt∧m∉dA qc∧m∉dA qn∧(∀b∈cY qt,b∉dA qc∧b∉dA qn)∧∀b∈dA qc,b∉dA qn:=by
 have hd:=h.dis
 simp only[gU,jO,BK,cO,dD,dI,jL,dR] at hd
 obtain⟨⟨⟨⟨⟨h1,h2⟩,h3,_⟩,h4,h5⟩,h6,h7⟩,h8,h9⟩:=hd
 refine⟨h1,h2,h3,fun hb=>h5 _ (.inl rfl) _ hb rfl,fun hb=>h7 _ (.inl (.inl rfl)) _ hb rfl,fun hb=>h9 _ (.inl (.inl (.inl rfl))) _ hb rfl,
  fun hb=>h5 _ (.inr (.inl rfl)) _ hb rfl,fun hb=>h7 _ (.inl (.inr (.inl rfl))) _ hb rfl,fun hb=>h9 _ (.inl (.inl (.inr (.inl rfl)))) _ hb rfl,
  fun hb=>h5 _ (.inr (.inr rfl)) _ hb rfl,fun hb=>h7 _ (.inl (.inr (.inr rfl))) _ hb rfl,fun hb=>h9 _ (.inl (.inl (.inr (.inr rfl)))) _ hb rfl,
  fun b hb=>⟨fun h'=>h7 b (.inr hb) b h' rfl,fun h'=>h9 b (.inl (.inr hb)) b h' rfl⟩,fun b hb h'=>h9 b (.inr hb) b h' rfl⟩
theorem M0{X A A' Y:List Nat}(h:(X++A++Y).Nodup)(hA:A'.Nodup)(hn:∀b∈A',b∈A∨b∉X++A++Y):(X++A'++Y).Nodup:=by
 simp only[jO,dR] at h ⊢
 obtain⟨⟨hX,hA0,hXA⟩,hY,hXY⟩:=h
 refine⟨⟨hX,hA,fun a ha b hb e=>?_⟩,hY,fun a ha b hb e=>?_⟩
 · subst e
   rcases hn a hb with h | h
   · exact hXA a ha a h rfl
   · simp only[dR,jL] at h;exact h.1.1 ha
 · subst e
   rcases ha with ha | ha
   · exact hXY a (.inl ha) a hb rfl
   · rcases hn a ha with h | h
     · exact hXY a (.inr h) a hb rfl
     · simp only[dR,jL] at h;exact h.2 hb
theorem cW.go{st':aA}{qt' qc' qn':AV}{fuel' used' mx':Int}{nd':List AV}{i':IS}(h:cW st0 st S c m qt qc qn p q idx fuel used mx nd i)
 (cell:st' S=some (.cells (fZ c p q idx fuel' used' i'.fresh (dT i'.goals) qc' qn' mx'))) (sto:e9 st' c m qt' i'.σ i'.tr) (acC:gX st' 9 qc' (i'.chs.map pH)) (acN:gX st' 6 qn' nd') (ndl:nd'.length=i'.nn) (ndw:∀e∈nd',e.width=6)
 (dis:(gU S c m qt' qc' qn').Nodup) (new:∀b∈gU S c m qt' qc' qn',b∈gU S c m qt qc qn∨st b=none) (frame:∀b o,st b=some o→b∉gU S c m qt qc qn→st' b=some o) :
 cW st0 st' S c m qt' qc' qn' p q idx fuel' used' mx' nd' i':=
 ⟨cell,sto,acC,acN,ndl,ndw,dis,fun b hb=>by
  rcases new b hb with h1 | h1
  · exact h.new b h1
  · exact h.aDY h1,fun b o hb=>frame b o (h.aU b o hb) fun hm=>by rw[h.new b hm] at hb;cases hb⟩
theorem cW.put{fuel' used' mx':Int}{gl:List IG}{F:Nat}{cs:List AV}(h:cW st0 st S c m qt qc qn p q idx fuel used mx nd i)(hcs:cs=fZ c p q idx fuel' used' F (dT gl) qc qn mx') :
 cW st0 (st.aC S (.cells cs)) S c m qt qc qn p q idx fuel' used' mx' nd { i with goals:=gl,fresh:=F }:=by
 obtain⟨h1,h2,h3,h4,h5,h6,_⟩:=h.parts
 subst hcs
 refine h.go (aA.aL _ _ _) (h.sto.aC h1 h2 h4) (h.acC.aU fun b hb=>aA.aF _ _ (by rintro rfl;exact h5 hb)) (h.acN.aU fun b hb=>aA.aF _ _ (by rintro rfl;exact h6 hb)) h.ndl h.ndw h.dis (fun b hb=>.inl hb) fun b o hb hn=>?_
 rw[aA.aF _ _ (by rintro rfl;exact hn (dM.2 (.inl rfl)))]
 exact hb
theorem cW.OZ{st':aA}{qt':AV}{σ':Sub}{tr':List Int}(h:cW st0 st S c m qt qc qn p q idx fuel used mx nd i)(hS:e9 st' c m qt' σ' tr')(hf:∀b o,st b=some o→b≠c→b≠m→b∉cY qt→st' b=some o)(hn:∀b∈cY qt',b∈cY qt∨st b=none) :
 cW st0 st' S c m qt' qc qn p q idx fuel used mx nd { i with σ:=σ',tr:=tr' }:=by
 obtain⟨h1,h2,h3,h4,h5,h6,h7,h8,h9,h10,h11,h12,h13,h14⟩:=h.parts
 have hC:∀b∈dA qc,st' b=st b:=fun b hb=>by
  obtain⟨cs,e⟩:=h.acC.some b hb
  rw[e,hf b _ e (by rintro rfl;exact h8 hb) (by rintro rfl;exact h11 hb) (fun hb'=>(h13 b hb').1 hb)]
 have hN:∀b∈dA qn,st' b=st b:=fun b hb=>by
  obtain⟨cs,e⟩:=h.acN.some b hb
  rw[e,hf b _ e (by rintro rfl;exact h9 hb) (by rintro rfl;exact h12 hb) (fun hb'=>(h13 b hb').2 hb)]
 refine h.go (hf S _ h.cell h1 h2 h4) hS (h.acC.aU hC) (h.acN.aU hN) h.ndl h.ndw ?_ (fun b hb=>?_) (fun b o hb hn'=>?_)
 · have hd:=h.dis
   unfold gU at hd ⊢
   rw[kW] at hd ⊢
   refine M0 hd (by rw[aU4];exact M7 _) fun b hb=>?_
   rcases hn b hb with h' | h'
   · exact .inl h'
   · refine .inr fun hm=>h.held b ?_ h'
     unfold gU;rw[kW];exact hm
 · rcases dM.1 hb with rfl | rfl | rfl | hb | hb | hb
   · exact .inl (dM.2 (.inl rfl))
   · exact .inl (dM.2 (.inr (.inl rfl)))
   · exact .inl (dM.2 (.inr (.inr (.inl rfl))))
   · rcases hn b hb with h' | h'
     · exact .inl (dM.2 (.inr (.inr (.inr (.inl h')))))
     · exact .inr h'
   · exact .inl (dM.2 (.inr (.inr (.inr (.inr (.inl hb))))))
   · exact .inl (dM.2 (.inr (.inr (.inr (.inr (.inr hb))))))
 · have:=fun x=>hn' (dM.2 x)
   exact hf b o hb (by rintro rfl;exact this (.inr (.inl rfl))) (by rintro rfl;exact this (.inr (.inr (.inl rfl)))) fun hb'=>this (.inr (.inr (.inr (.inl hb'))))
theorem cW.post{st':aA}{σ':Sub}{tr':List Int}(h:cW st0 st S c m qt qc qn p q idx fuel used mx nd i)(hP:sT c m st qt σ' tr' st'):∃qt',cW st0 st' S c m qt' qc qn p q idx fuel used mx nd { i with σ:=σ',tr:=tr' }:=by
 obtain⟨q',hS,hQ⟩:=hP
 exact⟨q',h.OZ hS (fun b o hb h1 h2 h3=>hQ.frame b o hb h1 h2 h3) hQ.fresh⟩
end
theorem e9.AE{st st':aA}{c m:Nat}{q:AV}{σ:Sub}{tr:List Int}(h:e9 st c m q σ tr)(hc:st' c=st c)(hm:st' m=st m)(ht:∀b∈cY q,st' b=st b):e9 st' c m q σ tr:=by
 refine⟨⟨by rw[hc];exact h.sub.cells,by rw[hm];exact h.sub.map⟩,?_,h.apart⟩
 rcases h.eA with h1 | ⟨b,cs,h1,h2,h3⟩
 · exact .inl h1
 · exact .inr ⟨b,cs,h1,by rw[ht b (by rw[h1];simp [cY])];exact h2,h3⟩
section
variable {st0 st:aA} {S c m:Nat} {qt qc qn:AV} {p:List Cl} {q:List Tm} {idx:Bool} {fuel used mx:Int} {nd:List AV} {i:IS}
theorem cW.aTL{st':aA}{qc':AV}{SK:List IC}{cs:List AV}(h:cW st0 st S c m qt qc qn p q idx fuel used mx nd i)(qJ:gX st' 9 qc' (SK.map pH))(hf:∀y,y∉dA qc→y∉dA qc'→st' y=st y)(hn:∀y∈dA qc',y∈dA qc∨st y=none)
 (hcs:cs=fZ c p q idx fuel used i.fresh (dT i.goals) qc' qn mx):cW st0 (st'.aC S (.cells cs)) S c m qt qc' qn p q idx fuel used mx nd { i with chs:=SK }:=by
 obtain⟨h1,h2,h3,h4,h5,h6,h7,h8,h9,h10,h11,h12,h13,h14⟩:=h.parts
 have same:∀b,st b≠none→b∉dA qc→st' b=st b:=fun b hb hq=>hf b hq fun hq'=>by
  rcases hn b hq' with h' | h'
  · exact hq h'
  · exact hb h'
 have hS:S∉dA qc':=fun hb=>by
  rcases hn S hb with h' | h'
  · exact h5 h'
  · rw[h.cell] at h';cases h'
 subst hcs
 have held:=fun b x=>h.held b (dM.2 x)
 refine h.go (aA.aL _ _ _) (h.sto.AE ?_ ?_ fun b hb=>?_) (qJ.aU fun b hb=>aA.aF _ _ (by rintro rfl;exact hS hb)) (h.acN.aU fun b hb=>?_) h.ndl h.ndw ?_ (fun b hb=>?_) fun b o hb hn'=>?_
 · rw[aA.aF _ _ (c9 h1)];exact same c (held c (.inr (.inl rfl))) h8
 · rw[aA.aF _ _ (c9 h2)];exact same m (held m (.inr (.inr (.inl rfl)))) h11
 · rw[aA.aF _ _ (by rintro rfl;exact h4 hb)];exact same b (held b (.inr (.inr (.inr (.inl hb))))) (h13 b hb).1
 · rw[aA.aF _ _ (by rintro rfl;exact h6 hb)];exact same b (held b (.inr (.inr (.inr (.inr (.inr hb)))))) fun h'=>h14 b h' hb
 · have hd:=h.dis
   unfold gU at hd ⊢
   refine M0 hd (M7 _) fun b hb=>?_
   rcases hn b hb with h' | h'
   · exact .inl h'
   · refine .inr fun hm=>h.held b ?_ h'
     unfold gU;exact hm
 · rcases dM.1 hb with rfl | rfl | rfl | hb | hb | hb
   · exact .inl (dM.2 (.inl rfl))
   · exact .inl (dM.2 (.inr (.inl rfl)))
   · exact .inl (dM.2 (.inr (.inr (.inl rfl))))
   · exact .inl (dM.2 (.inr (.inr (.inr (.inl hb)))))
   · rcases hn b hb with h' | h'
     · exact .inl (dM.2 (.inr (.inr (.inr (.inr (.inl h'))))))
     · exact .inr h'
   · exact .inl (dM.2 (.inr (.inr (.inr (.inr (.inr hb))))))
 · have hno:=fun x=>hn' (dM.2 x)
   rw[aA.aF _ _ (by rintro rfl;exact hno (.inl rfl)),same b (by rw[hb];simp) fun h'=>hno (.inr (.inr (.inr (.inr (.inl h')))))]
   exact hb
theorem cW.aTM{st':aA}{qn':AV}{nd':List AV}{n':Nat}{cs:List AV}(h:cW st0 st S c m qt qc qn p q idx fuel used mx nd i)(qJ:gX st' 6 qn' nd')(hl:nd'.length=n')(hw:∀e∈nd',e.width=6)(hf:∀y,y∉dA qn→y∉dA qn'→st' y=st y)(hn:∀y∈dA qn',y∈dA qn∨st y=none)
 (hcs:cs=fZ c p q idx fuel used i.fresh (dT i.goals) qc qn' mx):cW st0 (st'.aC S (.cells cs)) S c m qt qc qn' p q idx fuel used mx nd' { i with nn:=n' }:=by
 obtain⟨h1,h2,h3,h4,h5,h6,h7,h8,h9,h10,h11,h12,h13,h14⟩:=h.parts
 have same:∀b,st b≠none→b∉dA qn→st' b=st b:=fun b hb hq=>hf b hq fun hq'=>by
  rcases hn b hq' with h' | h'
  · exact hq h'
  · exact hb h'
 have hS:S∉dA qn':=fun hb=>by
  rcases hn S hb with h' | h'
  · exact h6 h'
  · rw[h.cell] at h';cases h'
 subst hcs
 have held:=fun b x=>h.held b (dM.2 x)
 refine h.go (aA.aL _ _ _) (h.sto.AE ?_ ?_ fun b hb=>?_) (h.acC.aU fun b hb=>?_) (qJ.aU fun b hb=>aA.aF _ _ (by rintro rfl;exact hS hb)) hl hw ?_ (fun b hb=>?_) fun b o hb hn'=>?_
 · rw[aA.aF _ _ (c9 h1)];exact same c (held c (.inr (.inl rfl))) h9
 · rw[aA.aF _ _ (c9 h2)];exact same m (held m (.inr (.inr (.inl rfl)))) h12
 · rw[aA.aF _ _ (by rintro rfl;exact h4 hb)];exact same b (held b (.inr (.inr (.inr (.inl hb))))) (h13 b hb).2
 · rw[aA.aF _ _ (by rintro rfl;exact h5 hb)];exact same b (held b (.inr (.inr (.inr (.inr (.inl hb)))))) (h14 b hb)
 · have hd:=h.dis
   unfold gU at hd ⊢
   have:=M0 (X:=[S,c,m]++cY qt++dA qc) (A:=dA qn) (A':=dA qn') (Y:=[]) (by rw[fN];exact hd) (M7 _) fun b hb=>by
    rcases hn b hb with h' | h'
    · exact .inl h'
    · refine .inr fun hm=>h.held b ?_ h'
      rw[fN] at hm
      unfold gU;exact hm
   rwa [fN] at this
 · rcases dM.1 hb with rfl | rfl | rfl | hb | hb | hb
   · exact .inl (dM.2 (.inl rfl))
   · exact .inl (dM.2 (.inr (.inl rfl)))
   · exact .inl (dM.2 (.inr (.inr (.inl rfl))))
   · exact .inl (dM.2 (.inr (.inr (.inr (.inl hb)))))
   · exact .inl (dM.2 (.inr (.inr (.inr (.inr (.inl hb))))))
   · rcases hn b hb with h' | h'
     · exact .inl (dM.2 (.inr (.inr (.inr (.inr (.inr h'))))))
     · exact .inr h'
 · have hno:=fun x=>hn' (dM.2 x)
   rw[aA.aF _ _ (by rintro rfl;exact hno (.inl rfl)),same b (by rw[hb];simp) fun h'=>hno (.inr (.inr (.inr (.inr (.inr h')))))]
   exact hb
theorem cW.nodes{k:Nat}(h:cW st0 st S c m qt qc qn p q idx fuel used mx nd i)(hk:k<i.nn):∃b,qn=.mslice b 0 nd.length 6:=by
 have hl:=h.ndl
 rcases h.acN with ⟨_,e⟩ | ⟨b,cs,e,_⟩
 · subst e;simp at hl;omega
 · exact⟨b,e⟩
theorem cW.nodeAt{b n:Nat}(h:cW st0 st S c m qt qc (.mslice b 0 n 6) p q idx fuel used mx nd i):∃cs,st b=some (.cells cs)∧nd.length*6≤cs.length:=by
 rcases h.acN with ⟨e,_⟩ | ⟨b',cs,e,h2,_,h4⟩
 · cases e
 · cases e;exact⟨cs,h2,h4⟩
theorem aGW:∀(n:Nat) (cs:List AV),cs.length=n*6→∃nd:List AV,nd.length=n∧(∀e∈nd,e.width=6)∧nd.flatMap AV.cells=cs
 | 0,cs,h=>⟨[],rfl,by simp,by have:cs= []:=pY (by simpa using h);subst this;rfl⟩
 | n+1,cs,h=>by
  obtain⟨nd,h1,h2,h3⟩:=aGW n (cs.drop 6) (by rw[rG,h];omega)
  refine⟨.agg (cs.take 6)::nd,by simp [h1],fun e he=>?_,?_⟩
  · rcases cO.1 he with rfl | he
    · show(cs.take 6).length=6
      rw[dX,h];omega
    · exact h2 e he
  · rw[rF,h3]
    exact mT 6 cs
theorem cW.aGS{b k:Nat}{cs:List AV}{x:AV}(h:cW st0 st S c m qt qc qn p q idx fuel used mx nd i)(hq:qn=.mslice b 0 nd.length 6)(hb:st b=some (.cells cs))(hk:k<nd.length*6) :
 ∃nd',cW st0 (st.aC b (.cells (aS cs k [x]))) S c m qt qc qn p q idx fuel used mx nd' i:=by
 obtain⟨h1,h2,h3,h4,h5,h6,h7,h8,h9,h10,h11,h12,h13,h14⟩:=h.parts
 have hbq:b∈dA qn:=by rw[hq];simp [dA]
 have hne:∀a,a∉dA qn→st.aC b (.cells (aS cs k [x])) a=st a:=fun a ha=>aA.aF _ _ (by rintro rfl;exact ha hbq)
 have hcl:nd.length*6≤cs.length:=by
  rcases h.acN with ⟨e,_⟩ | ⟨b',cs',e1,e2,e3,e4⟩
  · rw[hq] at e;cases e
  · rw[hq] at e1
    cases e1
    rw[hb] at e2;cases e2
    exact e4
 have hlen:(aS cs k [x]).length=cs.length:=by
  simp only[aS,eC,dX,rG,bA,bQ]
  omega
 obtain⟨nd',n1,n2,n3⟩:=aGW nd.length ((aS cs k [x]).take (nd.length*6)) (by rw[dX,hlen];omega)
 refine⟨nd',h.go (by rw[hne S h6];exact h.cell) (h.sto.AE (hne c h9) (hne m h12) fun b hb=>hne b (h13 b hb).2) (h.acC.aU fun b hb=>hne b (h14 b hb)) (.inr ⟨b,_,by rw[hq,n1],aA.aL _ _ _,by rw[n1,n3],by rw[n1,hlen];exact hcl⟩) (by rw[n1];exact h.ndl) n2 h.dis (fun b hb=>.inl hb) fun a o ha hn=>?_⟩
 rw[hne a fun h'=>hn (dM.2 (.inr (.inr (.inr (.inr (.inr h'))))))]
 exact ha
end
theorem aGX{φ:AF}{t:TypeId}{ag:Bool}{w d k:Nat}{st:aA}{qc:AV}{l:List AV}(hI:eI prog t=some (ag,w))(hA:gX st w qc l)(h:φ d=.int .i64 (k:Int))(hk:k≤l.length):fE prog φ t qc none (some (.tmp d)) none=some (vB k qc):=by
 rcases hA with ⟨rfl,rfl⟩ | ⟨b,cs,rfl,_⟩
 · have h0:k=0:=by simpa using hk
   subst h0
   exact aGY hI h
 · exact NW hI h hk
section
variable {st0 st:aA} {S c m:Nat} {qt qc qn:AV} {p:List Cl} {q:List Tm} {idx:Bool} {fuel used mx:Int} {nd:List AV} {i:IS}
theorem cW.SQ{k:Nat}{cs:List AV}{gl:List IG}(h:cW st0 st S c m qt qc qn p q idx fuel used mx nd i)(hk:k≤i.chs.length)(hcs:cs=fZ c p q idx fuel used i.fresh (dT gl) (vB k qc) qn mx) :
 cW st0 (st.aC S (.cells cs)) S c m qt (vB k qc) qn p q idx fuel used mx nd { i with goals:=gl,chs:=i.chs.take k }:=by
 obtain⟨h1,h2,h3,h4,h5,h6,_⟩:=h.parts
 subst hcs
 have hA:=h.acC.take (k:=k) (by rw[aE];exact hk) (MR _)
 rw[←List.map_take] at hA
 refine h.go (aA.aL _ _ _) (h.sto.aC h1 h2 h4) (hA.aU fun b hb=>aA.aF _ _ (by rw[AX] at hb;rintro rfl;exact h5 hb)) (h.acN.aU fun b hb=>aA.aF _ _ (by rintro rfl;exact h6 hb)) h.ndl h.ndw (by unfold gU;rw[AX];exact h.dis) (fun b hb=>.inl (by unfold gU at hb;rw[AX] at hb;exact hb)) fun b o hb hn=>?_
 rw[aA.aF _ _ (by rintro rfl;exact hn (dM.2 (.inl rfl)))]
 exact hb
theorem cW.aN1{k:Nat}{cs:List AV}(h:cW st0 st S c m qt qc qn p q idx fuel used mx nd i)(hk:k≤i.nn)(hcs:cs=fZ c p q idx fuel used i.fresh (dT i.goals) qc (vB k qn) mx) :
 cW st0 (st.aC S (.cells cs)) S c m qt qc (vB k qn) p q idx fuel used mx (nd.take k) { i with nn:=k }:=by
 obtain⟨h1,h2,h3,h4,h5,h6,_⟩:=h.parts
 subst hcs
 have hnl:=h.ndl
 have hA:=h.acN.take (k:=k) (by rw[hnl];exact hk) h.ndw
 refine h.go (aA.aL _ _ _) (h.sto.aC h1 h2 h4) (h.acC.aU fun b hb=>aA.aF _ _ (by rintro rfl;exact h5 hb)) (hA.aU fun b hb=>aA.aF _ _ (by rw[AX] at hb;rintro rfl;exact h6 hb)) (by rw[dX,hnl];simp only;omega) (fun e he=>h.ndw e (mS he)) (by unfold gU;rw[AX];exact h.dis) (fun b hb=>.inl (by unfold gU at hb;rw[AX] at hb;exact hb)) fun b o hb hn=>?_
 rw[aA.aF _ _ (by rintro rfl;exact hn (dM.2 (.inl rfl)))]
 exact hb
end
def kV(c m:Nat)(st:aA)(q:AV)(tr:List Int)(x:Int×Sub×List Int)(r:AV)(st':aA):Prop:=r=.int .i64 x.1∧sT c m st q x.2.1 (tr++x.2.2) st'
theorem kV.same{c m:Nat}{st:aA}{q:AV}{σ:Sub}{tr:List Int}(h:e9 st c m q σ tr){r:AV}(k:Int)(hr:r=.int .i64 k):kV c m st q tr (k,σ,[]) r st:=⟨hr,q,by rw[fN];exact h,kL.refl _ _ _ _⟩
theorem e9.aIO{P:Program}{t e:TypeId}{st:aA}{c m:Nat}{q:AV}{σ:Sub}{tr:List Int}(h:e9 st c m q σ tr)(hu:P.underlying t=some (.slice e)):iL P t q=some (.int .i64 (tr.length:Int)):=by
 rcases h.eA with ⟨rfl,rfl⟩ | ⟨b,cs,rfl,_⟩<;>simp only[iL,hu,bQ]
theorem CE{N:Nat}{σ:Sub}(hg:cC σ)(ho:cD (a8 N) σ)(a b:Tm)(ha:a8 N a)(hb:a8 N b)(c m:Nat)(q:AV)(tr:List Int)(st:aA)(hS:e9 st c m q σ tr)(hl:tr.length+N≤1099511627776) :
 aD prog 228 [.ptr c 0,a.av,b.av] st (fun r st'=>r=.bool (gW σ a b).1∧sT c m st q (gW σ a b).2.1 (tr++(gW σ a b).2.2) st'):=by
 obtain⟨r,σ',tr',hU⟩:=rA hg ho ha hb
 obtain⟨g,lY⟩:=hU.run
 have hlen:=AP hU.lO.nodup hU.eW
 rw[hU.eq]
 exact SE g σ a b r σ' tr' hg (ho.imp fun t ht=>ht.1.small) ha.1.small hb.1.small lY c m q tr st hS (by omega)
abbrev jZ:=zi tI_3 (zi zI_3 (zi aY (zi tI_4 (zi zI_4 (zi cG (zi tI_9 (zi zI_9 (zi d4 (zi tI_28 (zi zI_28 (zi aP (zi bE (zi bF (zi b9 (zi tI_40 (zi zI_40 (zi dS (zi fV (zi fW (zi f9 (zi tI_52 (zi zI_52 (zi bU (zi bV (zi bX (zi bY (zi bT (zi tI_178 (zi zI_178 (zi tI_209 (zi zI_209 (zi zU (zi zW y9)))))))))))))))))))))))))))))))))
theorem aLD{N:Nat}{σ:Sub}(hg:cC σ)(ho:cD (a8 N) σ)(n:Int)(s:ByteArray)(ks:List Tm)(hb:isBuiltin s (ks.length:Int)=true)(hv:∀x∈ks,a8 N x)(c m:Nat)(q:AV)(tr:List Int)(st:aA)(hS:e9 st c m q σ tr)(hl:tr.length+N≤1099511627776) :
 aD prog 186 [.ptr c 0,(Tm.mk 3 n s ks).av] st (kV c m st q tr (cQ σ s ks)):=by
 have L4:=aLK 3 n s ks
 have hcs:=QR hb
 have AA:=fun x y (hxy:ks= [x,y]) h=>aLJ n s x y h (hv x (by simp [hxy])).1 (hv y (by simp [hxy])).1
 simp only[aX] at L4 AA ⊢
 refine wF [1000000] 2 func186 ntmps186 rfl rfl ?_
 intro _
 simp -implicitDefEqProofs only[aB,seval,jZ]
 refine(L4 _).to ?_
 simp -implicitDefEqProofs only[aB,seval]
 refine aT (fun h=>?_) (fun h=>?_)
 · have h':ks.length=2∧eW pB s=true:=by simp at h;exact⟨by omega,h.2⟩
   obtain⟨x,y,rfl⟩:=sA h'.1
   have e:cQ σ s [x,y]=(vA s x y,σ,[]):=by simp only[cQ];rw[aK h'.2]
   rw[e]
   have hc:=AA x y rfl h'.2
   simp only[bK,bL] at hc
   simp -implicitDefEqProofs only[aB,↓aW,seval,jZ]
   refine(hc _).to ?_
   simp -implicitDefEqProofs only[aB,seval]
   exact kV.same hS _ rfl
 have hnc:ks.length=2→eW pB s=false:=fun h2=>by simpa [h2] using h
 clear L4 AA h
 simp -implicitDefEqProofs only[aB,seval,jZ]
 refine aT (fun h=>?_) (fun h=>?_)
 · have hs:s=⟨#[116,114,117,101]⟩:=by simpa using h
   have hk:=HN (ts:=ks) (by subst hs;simpa [isBuiltin] using hb)
   subst hk
   simp -implicitDefEqProofs only[aB,seval]
   exact kV.same hS _ (by simp [gD,hs])
 have ht:s≠⟨#[116,114,117,101]⟩:=by simpa using h
 simp -implicitDefEqProofs only[aB,seval]
 refine aT (fun h=>?_) (fun h=>?_)
 · have hs:s=⟨#[102,97,105,108]⟩:=by simpa using h
   have hk:=HN (ts:=ks) (by subst hs;simpa [isBuiltin] using hb)
   subst hk
   simp -implicitDefEqProofs only[aB,seval]
   exact kV.same hS _ (by simp [gD,hs])
 have hf:s≠⟨#[102,97,105,108]⟩:=by simpa using h
 simp -implicitDefEqProofs only[aB,seval]
 refine aT (fun h=>?_) (fun h=>?_)
 · have hs:s=⟨#[61]⟩:=by simpa using h
   obtain⟨x,y,rfl⟩:=sA (ts:=ks) (by subst hs;simp [isBuiltin] at hb;omega)
   have e:cQ σ s [x,y]=pV σ x y:=by simp only[cQ];rw[aG (by rw[hnc rfl];simp),aK hs]
   rw[e]
   have dL:dF prog 28 (.slice [x.av,y.av]) (.int .i64 0)=some (.pptr x.av):=bG (av:=Tm.av) (l:=[x,y]) (i:=0) aP rfl (aO x)
   have fF:dF prog 28 (.slice [x.av,y.av]) (.int .i64 1)=some (.pptr y.av):=bG (av:=Tm.av) (l:=[x,y]) (i:=1) aP rfl (aO y)
   simp -implicitDefEqProofs only[aB,↓aW,seval]
   refine wX [(0,1),(1,1),(2,1),(3,1),(4,1),(5,1),(6,1),(7,0),(8,0),(9,1)] [0,1,2,3,4,5,6,9] c8 mixed rfl fC ?_
   simp -implicitDefEqProofs only[dL,fF,b7,aO,aB,seval,jZ]
   refine(CE hg ho x y (hv x (by simp)) (hv y (by simp)) c m q tr _ hS hl).mono ?_
   rintro _ s2 ⟨rfl,hP⟩
   simp -implicitDefEqProofs only[aB,seval]
   refine⟨fC,?_⟩
   refine(mZ _ _).to ?_
   simp -implicitDefEqProofs only[aB,seval]
   exact⟨fC,rfl,hP⟩
 have he:s≠⟨#[61]⟩:=by simpa using h
 simp -implicitDefEqProofs only[aB,seval]
 refine aT (fun h=>?_) (fun h=>?_)
 · have hs:s=⟨#[92,61]⟩:=by simpa using h
   obtain⟨x,y,rfl⟩:=sA (ts:=ks) (by subst hs;simp [isBuiltin] at hb;omega)
   have e:cQ σ s [x,y]=(gD (!(gW σ x y).1),σ,[]):=by simp only[cQ];rw[aG (by rw[hnc rfl];simp),aG he,aK hs]
   rw[e]
   have e1:=hS.sub.cells
   have hql:=hS.aIO f9
   obtain⟨hqa,hqw,hqj,hqc,hqs⟩:=hS.shape
   have dL:dF prog 28 (.slice [x.av,y.av]) (.int .i64 0)=some (.pptr x.av):=bG (av:=Tm.av) (l:=[x,y]) (i:=0) aP rfl (aO x)
   have fF:dF prog 28 (.slice [x.av,y.av]) (.int .i64 1)=some (.pptr y.av):=bG (av:=Tm.av) (l:=[x,y]) (i:=1) aP rfl (aO y)
   simp -implicitDefEqProofs only[e1,hql,hqa,aB,↓aW,seval,jZ]
   refine wX [(0,1),(1,1),(2,1),(3,1),(4,1),(5,1),(6,1),(7,0),(8,1)] [0,1,2,3,4,5,6,8] c8 mixed rfl fC ?_
   simp -implicitDefEqProofs only[dL,fF,b7,aO,aB,seval,jZ]
   refine(CE hg ho x y (hv x (by simp)) (hv y (by simp)) c m q tr _ hS hl).mono ?_
   rintro _ s2 ⟨rfl,hP⟩
   obtain⟨r,σ',add,hU⟩:=rA hg ho (hv x (by simp)) (hv y (by simp))
   rw[hU.eq] at hP ⊢
   obtain⟨q',hS2,hQ2⟩:=hP
   have aPT:=AP hU.lO.nodup hU.eW
   simp -implicitDefEqProofs only[aB,seval]
   refine⟨fC,?_⟩
   refine(K3 σ' (tr++add) tr.length (by simp) c m q' s2 hS2 (by rw[eC];omega)).mono ?_
   rintro _ s3 ⟨rfl,q2,hS3,hb3,hk3⟩
   rw[BH,BM,show σ'.out add=σ from funext fun n=>hU.out n] at hS3
   simp -implicitDefEqProofs only[aB,seval]
   refine(mZ _ _).to ?_
   simp -implicitDefEqProofs only[aB,seval]
   refine⟨rfl,q2,by rw[fN];exact hS3,fun b o h h1 h2 h3=>hk3 b o (hQ2.frame b o h h1 h2 h3) h1 h2,fun b hb'=>hQ2.fresh b (hb3 b hb')⟩
 have hne:s≠⟨#[92,61]⟩:=by simpa using h
 simp -implicitDefEqProofs only[aB,seval]
 refine aT (fun h=>?_) (fun h=>?_)
 · have hs:s=⟨#[61,61]⟩:=by simpa using h
   obtain⟨x,y,rfl⟩:=sA (ts:=ks) (by subst hs;simp [isBuiltin] at hb;omega)
   have e:cQ σ s [x,y]=(gD (x.same y),σ,[]):=by simp only[cQ];rw[aG (by rw[hnc rfl];simp),aG he,aG hne,aK hs]
   rw[e]
   have dL:dF prog 28 (.slice [x.av,y.av]) (.int .i64 0)=some (.pptr x.av):=bG (av:=Tm.av) (l:=[x,y]) (i:=0) aP rfl (aO x)
   have fF:dF prog 28 (.slice [x.av,y.av]) (.int .i64 1)=some (.pptr y.av):=bG (av:=Tm.av) (l:=[x,y]) (i:=1) aP rfl (aO y)
   simp -implicitDefEqProofs only[aB,↓aW,seval]
   refine B5 mixed (by decide +kernel) (by decide +kernel) ?_
   simp -implicitDefEqProofs only[dL,fF,b7,aO,aB,seval,jZ]
   refine jB (Q8 x y _) ?_
   simp -implicitDefEqProofs only[aB,seval]
   refine jB (mZ _ _) ?_
   simp -implicitDefEqProofs only[aB,seval]
   exact kV.same hS _ rfl
 have hee:s≠⟨#[61,61]⟩:=by simpa using h
 simp -implicitDefEqProofs only[aB,seval]
 refine aT (fun h=>?_) (fun h=>?_)
 · have hs:s=⟨#[105,115]⟩:=by simpa using h
   obtain⟨x,y,rfl⟩:=sA (ts:=ks) (by subst hs;simp [isBuiltin] at hb;omega)
   have e:cQ σ s [x,y]=if y.ev.2≠0 then(y.ev.2,σ,[]) else pV σ x (lZ y.ev.1):=by simp only[cQ];rw[aG (by rw[hnc rfl];simp),aG he,aG hne,aG hee]
   rw[e]
   have hy:=hv y (by simp)
   have hin:=HK (N:=N) (Tm.rU y hy.1)
   have har:=fun st=>FS y st hy.1
   generalize y.ev.1=a at *
   generalize y.ev.2=ca at *
   have dL:dF prog 28 (.slice [x.av,y.av]) (.int .i64 0)=some (.pptr x.av):=bG (av:=Tm.av) (l:=[x,y]) (i:=0) aP rfl (aO x)
   have fF:dF prog 28 (.slice [x.av,y.av]) (.int .i64 1)=some (.pptr y.av):=bG (av:=Tm.av) (l:=[x,y]) (i:=1) aP rfl (aO y)
   simp -implicitDefEqProofs only[fF,b7,aO,aB,↓aW,seval,jZ]
   refine(har _).to ?_
   simp -implicitDefEqProofs only[aB,seval]
   refine aT (fun h4=>?_) (fun h4=>?_)
   · simp -implicitDefEqProofs only[aB,seval]
     have h4':ca≠0:=by simpa using h4
     rw[aK h4']
     exact kV.same hS _ rfl
   have h4':ca=0:=by simpa using h4
   subst h4'
   rw[aG (by simp)]
   simp -implicitDefEqProofs only[aB,seval]
   refine wX [(0,1),(1,1),(2,1),(3,1),(4,1),(5,0),(6,0),(7,0),(8,1)] [0,1,2,3,4,8] c8 mixed rfl fC ?_
   simp -implicitDefEqProofs only[dL,b7,aO,aB,seval,jZ]
   refine(aM0 a _).to ?_
   simp -implicitDefEqProofs only[aB,seval]
   refine⟨fC,?_⟩
   refine(CE hg ho x (lZ a) (hv x (by simp)) hin c m q tr _ hS hl).mono ?_
   rintro _ s2 ⟨rfl,hP⟩
   simp -implicitDefEqProofs only[aB,seval]
   refine⟨fC,?_⟩
   refine(mZ _ _).to ?_
   simp -implicitDefEqProofs only[aB,seval]
   exact⟨fC,rfl,hP⟩
 have his:s≠⟨#[105,115]⟩:=by simpa using h
 simp -implicitDefEqProofs only[aB,seval]
 refine aT (fun h=>?_) (fun h=>?_)
 · have hs:s=⟨#[118,97,114]⟩:=by simpa using h
   obtain⟨x,rfl⟩:=DQ (ts:=ks) (by subst hs;simp [isBuiltin] at hb;omega)
   have e:cQ σ s [x]=(gD (qW s x),σ,[]):=rfl
   rw[e]
   subst hs
   obtain⟨xk,xn,xs,xt⟩:=x
   have dL:dF prog 28 (.slice [(Tm.mk xk xn xs xt).av]) (.int .i64 0)=some (.pptr (Tm.mk xk xn xs xt).av):=bG (av:=Tm.av) (l:=[Tm.mk xk xn xs xt]) (i:=0) aP rfl (aO _)
   have eat:=CB xk xn xs xt
   simp only[aX] at dL eat
   simp only[bK,bL,aX]
   simp -implicitDefEqProofs only[dL,aB,↓aW,seval,jZ]
   refine(mZ _ _).to ?_
   simp -implicitDefEqProofs only[aB,seval]
   exact kV.same hS _ rfl
 have hva:s≠⟨#[118,97,114]⟩:=by simpa using h
 simp -implicitDefEqProofs only[aB,seval]
 refine aT (fun h=>?_) (fun h=>?_)
 · have hs:s=⟨#[110,111,110,118,97,114]⟩:=by simpa using h
   obtain⟨x,rfl⟩:=DQ (ts:=ks) (by subst hs;simp [isBuiltin] at hb;omega)
   have e:cQ σ s [x]=(gD (qW s x),σ,[]):=rfl
   rw[e]
   subst hs
   obtain⟨xk,xn,xs,xt⟩:=x
   have dL:dF prog 28 (.slice [(Tm.mk xk xn xs xt).av]) (.int .i64 0)=some (.pptr (Tm.mk xk xn xs xt).av):=bG (av:=Tm.av) (l:=[Tm.mk xk xn xs xt]) (i:=0) aP rfl (aO _)
   have eat:=CB xk xn xs xt
   simp only[aX] at dL eat
   simp only[bK,bL,aX]
   simp -implicitDefEqProofs only[dL,aB,↓aW,seval,jZ]
   refine(mZ _ _).to ?_
   simp -implicitDefEqProofs only[aB,seval]
   exact kV.same hS _ rfl
 have hnv:s≠⟨#[110,111,110,118,97,114]⟩:=by simpa using h
 simp -implicitDefEqProofs only[aB,seval]
 refine aT (fun h=>?_) (fun h=>?_)
 · have hs:s=⟨#[97,116,111,109]⟩:=by simpa using h
   obtain⟨x,rfl⟩:=DQ (ts:=ks) (by subst hs;simp [isBuiltin] at hb;omega)
   have e:cQ σ s [x]=(gD (qW s x),σ,[]):=rfl
   rw[e]
   subst hs
   obtain⟨xk,xn,xs,xt⟩:=x
   have dL:dF prog 28 (.slice [(Tm.mk xk xn xs xt).av]) (.int .i64 0)=some (.pptr (Tm.mk xk xn xs xt).av):=bG (av:=Tm.av) (l:=[Tm.mk xk xn xs xt]) (i:=0) aP rfl (aO _)
   have eat:=CB xk xn xs xt
   simp only[aX] at dL eat
   simp only[bK,bL,aX]
   simp -implicitDefEqProofs only[dL,aB,↓aW,seval,jZ]
   refine(eat _).to ?_
   simp -implicitDefEqProofs only[aB,seval]
   refine(mZ _ _).to ?_
   simp -implicitDefEqProofs only[aB,seval]
   exact kV.same hS _ rfl
 have hat:s≠⟨#[97,116,111,109]⟩:=by simpa using h
 simp -implicitDefEqProofs only[aB,seval]
 refine aT (fun h=>?_) (fun h=>?_)
 · have hs:s=⟨#[105,110,116]⟩:=by simpa using h
   obtain⟨x,rfl⟩:=DQ (ts:=ks) (by subst hs;simp [isBuiltin] at hb;omega)
   have e:cQ σ s [x]=(gD (qW s x),σ,[]):=rfl
   rw[e]
   subst hs
   obtain⟨xk,xn,xs,xt⟩:=x
   have dL:dF prog 28 (.slice [(Tm.mk xk xn xs xt).av]) (.int .i64 0)=some (.pptr (Tm.mk xk xn xs xt).av):=bG (av:=Tm.av) (l:=[Tm.mk xk xn xs xt]) (i:=0) aP rfl (aO _)
   have eat:=CB xk xn xs xt
   simp only[aX] at dL eat
   simp only[bK,bL,aX]
   simp -implicitDefEqProofs only[dL,aB,↓aW,seval,jZ]
   refine(mZ _ _).to ?_
   simp -implicitDefEqProofs only[aB,seval]
   exact kV.same hS _ rfl
 have hint:s≠⟨#[105,110,116]⟩:=by simpa using h
 have hs:s=⟨#[97,114,103]⟩∧ks.length=3:=by
  rcases hcs with ⟨h2,h3⟩ | ⟨h2,h3⟩ | ⟨h2,h3⟩ | ⟨h2,h3⟩
  · rw[hnc h2] at h3
    simp [he,hne,hee,his] at h3
  · simp [ht,hf] at h3
  · simp [hva,hnv,hat,hint] at h3
  · exact⟨h3,h2⟩
 obtain⟨hs,hk3⟩:=hs
 obtain⟨x,y,z,rfl⟩:=aFH hk3
 have hz:=hv z (by simp)
 have hy:=hv y (by simp)
 have e:cQ σ s [x,y,z]=s8 σ x y z:=rfl
 rw[e]
 unfold s8
 have dL:dF prog 28 (.slice [x.av,y.av,z.av]) (.int .i64 0)=some (.pptr x.av):=bG (av:=Tm.av) (l:=[x,y,z]) (i:=0) aP rfl (aO x)
 have fF:dF prog 28 (.slice [x.av,y.av,z.av]) (.int .i64 1)=some (.pptr y.av):=bG (av:=Tm.av) (l:=[x,y,z]) (i:=1) aP rfl (aO y)
 have G1:dF prog 28 (.slice [x.av,y.av,z.av]) (.int .i64 2)=some (.pptr z.av):=bG (av:=Tm.av) (l:=[x,y,z]) (i:=2) aP rfl (aO z)
 clear hcs hb hnc hv e
 obtain⟨xk,xn,xs,xt⟩:=x
 obtain⟨yk,yn,ys,yt⟩:=y
 have hyl:yt.length≤4:=by
  exact hy.1.kind.2
 rw[aX] at dL
 simp only[aX xk,aX yk] at dL fF G1
 simp only[bK,bL,aX xk,aX yk,Tm.k,Tm.ts]
 simp -implicitDefEqProofs only[dL,aB,↓aW,seval,jZ]
 refine cS (fun h=>?_) (fun h=>?_)
 case refine_2=>
  have h':xk=1:=by simpa using h
  simp -implicitDefEqProofs only[h,aB,seval]
  rw[aK (.inl h')]
  exact kV.same hS _ rfl
 have hx1:xk≠1:=by simpa using h
 simp -implicitDefEqProofs only[h,fF,aB,seval,jZ]
 refine aT (fun h1=>?_) (fun h1=>?_)
 · have h':yk=1:=by simpa using h1
   simp -implicitDefEqProofs only[aB,seval]
   rw[aK (.inr h')]
   exact kV.same hS _ rfl
 have hy1:yk≠1:=by simpa using h1
 rw[aG (fun h2=>h2.elim hx1 hy1)]
 have h3:∀s2,(xk≠2∨yk≠3∨yt.length=0)→s2=st→kV c m st q tr (if xk≠2∨yk≠3∨yt.length=0 then((3:Int),σ,[]) else match k7 (.mk xk xn xs xt) (.mk yk yn ys yt) with | some u=>pV σ z u | none=>(1,σ,[])) (.int .i64 3) s2:=fun s2 hh e=>by
  subst e
  rw[aK hh]
  exact kV.same hS _ rfl
 simp -implicitDefEqProofs only[dL,aB,seval,jZ]
 refine cS (fun h4=>?_) (fun h4=>?_)
 case refine_2=>
  have h':xk≠2:=by simpa using h4
  simp -implicitDefEqProofs only[h4,aB,seval]
  exact h3 _ (.inl h') rfl
 have hx2:xk=2:=by simpa using h4
 simp -implicitDefEqProofs only[h4,fF,aB,seval,jZ]
 refine cS (fun h5=>?_) (fun h5=>?_)
 case refine_2=>
  have h':yk≠3:=by simpa using h5
  simp -implicitDefEqProofs only[h5,aB,seval]
  exact h3 _ (.inr (.inl h')) rfl
 have hy3:yk=3:=by simpa using h5
 simp -implicitDefEqProofs only[h5,fF,aE,aB,seval,jZ]
 refine aT (fun h6=>?_) (fun h6=>?_)
 · have h':yt.length=0:=by simp at h6;simp [h6]
   simp -implicitDefEqProofs only[aB,seval]
   exact h3 _ (.inr (.inr h')) rfl
 have hyt:yt.length≠0:=by simp at h6;simpa using h6
 clear h3
 rw[aG (by simp [hx2,hy3];intro h7;simp [h7] at hyt)]
 simp -implicitDefEqProofs only[aB,seval]
 refine B5 mixed (by decide +kernel) (by decide +kernel) ?_
 simp -implicitDefEqProofs only[dL,fF,aE,aB,seval,jZ]
 refine jB (wS xn 1 _ _) ?_
 simp -implicitDefEqProofs only[aB,seval]
 refine aT (fun h7=>?_) (fun h7=>?_)
 · have h':¬(1≤xn∧xn≤yt.length):=by simp at h7;omega
   have ea:k7 (.mk xk xn xs xt) (.mk yk yn ys yt)=none:=aG h'
   rw[ea]
   simp -implicitDefEqProofs only[aB,seval]
   exact kV.same hS _ rfl
 have h':1≤xn∧xn≤yt.length:=by simp at h7;omega
 obtain⟨i,hi⟩:∃i:Nat,xn - 1=i:=⟨(xn - 1).toNat,by omega⟩
 have hlt:i<yt.length:=by omega
 obtain⟨u,hu⟩:∃u,yt[i]?=some u:=⟨_,e7 hlt⟩
 have ea:k7 (.mk xk xn xs xt) (.mk yk yn ys yt)=some u:=by
  refine(aK h').trans ?_
  show yt[(xn - 1).toNat]?=some u
  rw[hi,j4,hu]
 rw[ea]
 have huv:a8 N u:=pL N (.mk yk yn ys yt) hy1 hy u (cI hu)
 have hw:IntKind.i64.wrap (xn - 1)=(i:Int):=by rw[wrap64 (by omega) (by omega)];exact hi
 have LU:=bG (av:=Tm.av) (P:=prog) aP hu (aO u)
 simp -implicitDefEqProofs only[aB,seval]
 refine wX [(0,1),(1,1),(2,1),(3,1),(4,1),(5,1),(6,1),(7,1),(8,1),(9,1),(10,1),(11,1),(12,1),(13,1),(14,1),(15,0),(16,0),(17,1)] [0,1,2,3,4,5,6,7,8,9,10,11,12,13,14,17] c8 mixed rfl fC ?_
 simp -implicitDefEqProofs only[dL,fF,G1,LU,hw,b7,aO,aB,seval,jZ]
 refine(CE hg ho z u hz huv c m q tr _ hS hl).mono ?_
 rintro _ s2 ⟨rfl,hP⟩
 simp -implicitDefEqProofs only[aB,seval]
 refine⟨fC,?_⟩
 refine(mZ _ _).to ?_
 simp -implicitDefEqProofs only[aB,seval]
 exact⟨fC,rfl,hP⟩
end Go.AW
