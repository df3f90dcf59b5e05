/- An owned slice that is handed to a call and never written again. -/
import Derived.Test.YtimfffmcljmfgaaGreatDoorUxn
import Derived.Test.YtimfffmcljmfgaaGreatDoorUxf
import Derived.Test.YtimfffmcljmfgaaGreatDoorUxj
import Derived.Test.YtimfffmcljmfgaaGreatDoorUxk
set_option linter.unusedSimpArgs false
set_option linter.unusedVariables false
set_option maxRecDepth 100000
namespace Go.AW
theorem dF.fz{h:bQ}{st:aA}{b:Nat}{es:List AV}(S:cS h st)(hb:st b=some (.cells (es.flatMap AV.cells)))(hj:∀e∈es,e.cE=false)(hE:iV es):∀ {us:List AV} {vs:List Value},dF h st us vs→dF h (st.erase b) (lK b es us) vs
 | [],vs,x=>by simp only[dF] at x;simp [lK,dF,x]
 | a::us,vs,x=>by
  simp only[dF] at x
  obtain⟨v,r,rfl,x1,x2⟩:=x
  simp only[lK,dF]
  exact⟨v,r,rfl,x1.fz S hb hj hE,dF.fz S hb hj hE x2⟩
theorem cC.unerase{h h':bQ}{st st':aA}{b:Nat}(x:cC h (st.erase b) h' st'):cC h st h' st':=
 ⟨x.size,fun c hc e=>x.aV c hc (aA.a1L st e),x.shape⟩
theorem aD.a2T{P:Program}{g:FuncId}{args:List AV}{st:aA}{Q:AV→aA→Prop}(b:Nat)(es:List AV)(hb:st b=some (.cells (es.flatMap AV.cells)))(hj:∀e∈es,e.cE=false)(hE:iV es)(x:aD P g (lK b es args) (st.erase b) Q):aD P g args st Q:=
 ⟨x.1,fun w vs S V=>(x.2 w vs ((kB st b).G2 S) (V.fz S hb hj hE)).mono fun _ _ ⟨v,r,st',e,a,b',c,d,q⟩=>⟨v,r,st',e,a,b',c.unerase,d,q⟩⟩
def Lit(st:aA)(w:Nat)(l:List AV)(q:AV)(s:aA):Prop:=(q=.fslice l∧s=st)∨∃b,st b=none∧q=.mslice b 0 l.length w∧s=st.aC b (.cells (l.flatMap AV.cells))
theorem aWD{P:Program}{t:TypeId}{ag:Bool}{w bytes:Nat}{zs:List AV}{st:aA}{es xs:List AV}{x:AV}{K:AV→aA→Prop}(hI:eI P t=some (ag,w))(hB:eB P t=some bytes)(hZ:eZ P t=some zs)(hz:zs.length=w)(hx:x=.slice xs∨x=.fslice xs)(hes:∀e∈es,e.width=w)(fB:wB w xs)(hl:(es.length+xs.length)*bytes≤140737488355328)(hl2:es.length+xs.length≤9223372036854775807)
 (hK:∀q s,Lit st w (es++xs) q s→K q s):jT P t st (.fslice es) x K:=by
 unfold jT
 have he:zZ x=some xs:=by rcases hx with rfl | rfl<;>rfl
 simp only[hI,hB,hZ,he]
 refine⟨hz,fB,hl,hl2,hes,fun h=>?_,fun _ b hb=>?_⟩
 · subst h
   exact hK _ _ (.inl ⟨by rw[gF],rfl⟩)
 · exact hK _ _ (.inr ⟨b,hb,by rw[dQ],rfl⟩)
theorem Lit.call{P:Program}{g:FuncId}{st s:aA}{w:Nat}{l:List AV}{q:AV}{post:List AV}{Q:AV→aA→Prop}(h:Lit st w l q s)(hj:∀e∈l,e.cE=false)(hw:∀e∈l,e.width=w)(hp:∀b,lK b l post=post)(x:aD P g (.slice l::post) st Q):aD P g (q::post) s Q:=by
 rcases h with ⟨rfl,rfl⟩ | ⟨b,hb,rfl,rfl⟩
 · refine aD.args x fun hp vs S V=>?_
   simp only[dF] at V ⊢
   obtain⟨v,r,rfl,V1,V2⟩:=V
   exact⟨v,r,rfl,V1.JM,V2⟩
 · refine aD.a2T b l (aA.aJ _ _ _) hj ⟨w,hw⟩ ?_
   rw[aA.AQ st b _ hb]
   have:lK b l (.mslice b 0 l.length w::post)=.slice l::post:=by
    show(AV.mslice b 0 l.length w).fz b l::lK b l post=_
    rw[hp]
    simp [AV.fz]
   rw[this]
   exact x
end Go.AW
namespace Go.AW
open Go.Proofs.Tryz
def nv(i:Nat):AV:=.int .i64 (i:Int)
def eY:RG→AV
 | ⟨.mk k n s ts,aV⟩=>.agg [.int .i64 k,.int .i64 n,.str s,.slice (ts.map Tm.av),.int .i64 (aV:Int)]
theorem DT(k n:Int)(s:ByteArray)(ts:List Tm)(aV:Nat):eY ⟨.mk k n s ts,aV⟩=.agg [.int .i64 k,.int .i64 n,.str s,.slice (ts.map Tm.av),.int .i64 (aV:Int)]:=rfl
theorem a8P(g:RG):eY g=.agg (g.t.av.cells++ [.int .i64 (g.aV:Int)]):=by obtain⟨⟨k,n,s,ts⟩,aV⟩:=g;rw[bA];try rfl
theorem GZ(g:RG):(eY g).width=5:=by obtain⟨⟨k,n,s,ts⟩,aV⟩:=g;rfl
theorem a8Q(g:RG):(eY g).cells.all AV.storable=true:=by obtain⟨⟨k,n,s,ts⟩,aV⟩:=g;rfl
theorem a8O(g:RG):(eY g).cE=false:=by obtain⟨⟨k,n,s,ts⟩,aV⟩:=g;rfl
def gD:RC→AV
 | ⟨.mk k n s ts,rest,left,σ,N⟩=>.agg [.int .i64 k,.int .i64 n,.str s,.slice (ts.map Tm.av),.slice (rest.map eY),.slice (left.map nv),.slice (dA N σ)]
theorem OX(g:RC):(gD g).width=7:=by obtain⟨⟨k,n,s,ts⟩,_,_,_,_⟩:=g;rfl
theorem a8D(g:RC):(gD g).cells.all AV.storable=true:=by obtain⟨⟨k,n,s,ts⟩,_,_,_,_⟩:=g;rfl
theorem a8C(g:RC):(gD g).cE=false:=by obtain⟨⟨k,n,s,ts⟩,_,_,_,_⟩:=g;rfl
def qB(s:RS):AV:=.agg [.slice (s.goals.map eY),.slice (dA s.N s.σ),.slice (s.chs.map gD)]
abbrev XO:=zi tI_3 (zi zI_3 (zi aY (zi tI_4 (zi zI_4 (zi cJ (zi tI_31 (zi zI_31 (zi aQ (zi bS (zi bT (zi cI (zi tI_66 (zi zI_66 (zi bZ (zi b9 (zi cA (zi cB bY)))))))))))))))))
theorem aB2:∀(t:Tm) (d:Nat) (st:aA),d≤1000→t.small=true→aD prog 303 [t.av,.int .i64 (d:Int)] st (fun r st'=>r=.bool (t.flat d)∧st'=st)
 | .mk k n s ts,d,st,hd,hsm=>by
  obtain⟨hlen,qY⟩:=Tm.rG hsm
  have IH:=fun(x:Tm) (hx:x∈ts) d st h=>aB2 x d st h (qY x hx)
  simp only[bA]
  refine wF [1000000] 2 func303 ntmps303 rfl rfl ?_
  intro _
  simp -implicitDefEqProofs only[aB,seval,XO]
  refine aP (fun h=>?_) (fun h=>?_)
  · simp only[bK] at h
    obtain rfl:d=0:=by omega
    simp -implicitDefEqProofs only[aB,↓aU,seval]
    rw[Tm.JK]
  simp only[dJ] at h
  obtain⟨e,rfl⟩:∃e,d=e+1:=⟨d - 1,by omega⟩
  rw[Tm.yG]
  have hw1:IntKind.i64.wrap ((e:Int)+1 - 1)=(e:Int):=by rw[wrap64 (by omega) (by omega)];omega
  simp -implicitDefEqProofs only[aB,seval]
  refine d8 (σ:=Unit) [1000000] [1,2] ts (fun i _=>((ts.drop i).all fun t=>t.flat e)=(ts.all fun t=>t.flat e)) (fun i _=>[(5,.int .i64 i)]) (fun _ _=>st) (by decide +kernel) ⟨(),rfl,aM.mk (by simp -implicitDefEqProofs only[aB,↓aU,seval])⟩ (fun i x _ hx hlt bL hdr hinv=>?_) (fun _ hge hinv=>?_)
  case refine_2=>
   simp -implicitDefEqProofs only[hge,aF,aB,seval,XO]
   rw[←hinv,kK]
   try rfl
  have hw:=bE (n:=(i:Int)+1)
  rw[hdr,kJ] at hinv
  simp -implicitDefEqProofs only[bL,aF,bP (av:=Tm.av) aQ hx (aO x),bG,aO,hw1,aB,seval,XO]
  refine(IH x (cM hx) e _ (by omega)).to ?_
  simp -implicitDefEqProofs only[aB,seval]
  refine aP (fun h2=>?_) (fun h2=>?_)
  · simp -implicitDefEqProofs only[aB,seval]
    simp only[mG] at h2
    rw[←hinv,h2]
    try rfl
  · simp only[rM] at h2
    rw[h2,eU] at hinv
    simp -implicitDefEqProofs only[aB,seval]
    exact⟨(),hinv,aM.mk (by simp -implicitDefEqProofs only[hw,aB,seval])⟩
termination_by t=>SizeOf.sizeOf t
decreasing_by have:=List.sizeOf_lt_of_mem hx;simp only[Tm.mk.sizeOf_spec];omega
abbrev K1:=zi tI_3 (zi zI_3 (zi aY (zi tI_4 (zi zI_4 (zi cJ (zi tI_31 (zi zI_31 (zi aQ (zi bS (zi bT (zi cI (zi tI_66 (zi zI_66 (zi bZ (zi b9 (zi cA (zi cB bY)))))))))))))))))
theorem aB4{N:Nat}{σ:Sub}(hg:cT σ)(ho:c9 (bJ N) σ)(t:Tm)(ht:bJ N t)(st:aA) :
 aD prog 238 [t.av,.slice (dA N σ)] st (fun r st'=>st'=st∧∃x:Tm,r=.tup [x.av,.bool (fA (t.aN (rs σ)))]∧(fA (t.aN (rs σ))=true→x=t.aN (rs σ))):=by
 obtain⟨rk,B,G⟩:=hg.rs
 have US:=fun st=>aAZ G ho 120 t st (cY _) ht
 have hV:=G.V0 ho.nP ht.1
 refine aD.nG (aD.soft ?_)
 refine wF [1000000] 2 func238 ntmps238 rfl rfl ?_
 intro _
 simp -implicitDefEqProofs only[bG,aO,cU,aB,seval,K1]
 intro b4 h4
 refine(US _).mono ?_
 rintro _ _ ⟨rfl,x,left,rfl,h1,h2⟩
 simp -implicitDefEqProofs only[aO,cP,cU,aB,↓aU,seval,K1]
 refine wP [(1,1),(2,1),(3,1),(4,2),(0,1),(5,0),(6,1),(7,0),(8,1)] [1,2,3,4,0,6,8] mixed ?_
 simp -implicitDefEqProofs only[aB,seval]
 refine cX (fun h=>?_) (fun h=>?_)
 · have h3:0≤left:=by simpa using h
   have h4:(t.aN (rs σ)).nodes≤120:=EG fun h5=>by rw[aE h5] at h2;omega
   rw[aH h4] at h2
   obtain⟨rfl,_⟩:=h2
   have h5:fA (t.aN (rs σ))=(t.aN (rs σ)).flat 30:=by unfold fA;simp [h4]
   simp -implicitDefEqProofs only[h,bG,aO,aB,seval,K1]
   refine(aB2 _ 30 _ (by omega) hV.small).to ?_
   simp -implicitDefEqProofs only[aK,cP,cU,cL,aB,seval,K1]
   refine⟨st,(aL.refl _).aC ‹_›,rfl,_,by simp only[jZ,sI,Tm.soft,bH,a7];rw[h5],fun _=>rfl⟩
 · have hx0:=trivial
   have h3:left<0:=by simpa using h
   have h4:¬(t.aN (rs σ)).nodes≤120:=fun h5=>by rw[aH h5] at h2;omega
   have h5:fA (t.aN (rs σ))=false:=by unfold fA;simp [h4]
   simp -implicitDefEqProofs only[h,aK,bG,aO,cP,cU,cL,gI (cL x),gG (bG x),aB,seval,K1]
   refine⟨st,(aL.refl _).aC ‹_›,rfl,x,by simp only[jZ,sI,Tm.soft,bH,a7];rw[h5],fun h6=>?_⟩
   rw[h5] at h6;cases h6
theorem a2Q(c:Cl):JL c=(cG (c.1::c.2) []).foldl (fun n v=>if n≤v then v+1 else n) 0:=rfl
abbrev PJ:=zi tI_3 (zi zI_3 (zi aY (zi tI_31 (zi zI_31 (zi aQ (zi bS (zi bT (zi cI (zi tI_46 (zi zI_46 (zi cZ (zi eG (zi eE (zi eT (zi tI_66 (zi zI_66 (zi bZ (zi b9 (zi cA (zi cB (zi bY (zi tI_84 (zi zI_84 (zi mA (zi mB l8)))))))))))))))))))))))))
theorem aZW(c:Cl)(hc:gQ c)(h6:c.2.length≤6)(st:aA):aD prog 305 [bR c] st (fun r st'=>r=.int .i64 (pW c:Int)∧st'=st):=by
 have hvr:=fun v=>hc.vars (v:=v)
 have hok:=hc.GM
 have hfr:(pW c:Int)=JL c:=by
  have:=(aOI (cG (c.1::c.2) []) 0).1
  unfold pW JL
  omega
 rw[hfr,a2Q]
 have hnd:bD Tm.nodes (c.1::c.2)≤1099511627776:=by
  have:∀l:List Tm,(∀t∈l,bJ 26 t)→bD Tm.nodes l≤l.length*120:=by
   intro l
   induction l with
   | nil=>intro _;simp [bD]
   | cons x l ih=>intro h;simp only[bD,aX];have:=ih fun y hy=>h y (by simp [hy]);have:=(h x (by simp)).2;omega
  have:=this _ hok
  simp only[aX] at this
  omega
 have hvl:=BP (c.1::c.2) []
 obtain⟨⟨k,n,s,ts⟩,bd⟩:=c
 simp only at h6 hnd hvl hvr hok
 rw[iL]
 refine aD.done ?_
 refine wF [1000000] 1 func305 ntmps305 rfl rfl ?_
 intro _
 simp -implicitDefEqProofs only[aB,seval,PJ]
 refine aWD aQ bS bT rfl (.inl rfl) (by intro e he;simp only[c7,dT,d4] at he;subst he;rfl) (fun e he=>by simp only[cH] at he;obtain⟨t,_,rfl⟩:=he;exact⟨aO _,cP _⟩) (by simp only[aX,a8,aF];omega) (by simp only[aX,a8,aF];omega) (fun q s2 hq=>?_)
 rw[←bA] at hq
 rw[show[(Tm.mk k n s ts).av]++bd.map Tm.av=((Tm.mk k n s ts)::bd).map Tm.av from rfl] at hq
 simp -implicitDefEqProofs only[aB,seval]
 refine Lit.call hq (pM _) (gZ _) (fun _=>rfl) ?_
 refine(aB6 _ _ (fun t ht=>Tm.wG t (hok t ht).1.2.1) hnd).to ?_
 generalize cG ((Tm.mk k n s ts)::bd) []=vs at *
 simp only[a8] at hvl
 simp -implicitDefEqProofs only[aB,seval]
 refine d8 (σ:=Int) [1000000] [2,3] vs (fun i n=>(vs.drop i).foldl (fun n v=>if n≤v then v+1 else n) n=vs.foldl (fun n v=>if n≤v then v+1 else n) 0) (fun i n=>[(4,.int .i64 n),(5,.int .i64 i)]) (fun _ _=>st) (by decide +kernel) ⟨0,rfl,aM.mk (by simp -implicitDefEqProofs only[aB,↓aU,seval])⟩ (fun i x n hx hlt bL hdr hinv=>?_) (fun n hge hinv=>?_)
 case refine_2=>
  rw[kK] at hinv
  simp -implicitDefEqProofs only[aF,hge,aB,seval,PJ]
  refine⟨?_,aL.refl _⟩
  rw[←hinv]
  try rfl
 rw[hdr,B3] at hinv
 have hw:=bE (n:=(i:Int)+1)
 obtain⟨t,ht,hv⟩:=(hvr x).1 (cM hx)
 have bDN:=(hok t ht).1.2.2 x hv
 have hw2:=bE (n:=x+1)
 have hat:dG prog 46 (.slice (vs.map iv)) (.int .i64 (i:Int))=some (.pptr (.int .i64 x)):=bP (av:=iv) cZ hx rfl
 simp -implicitDefEqProofs only[aF,bL,hat,aB,seval,PJ]
 refine aP (fun h=>?_) (fun h=>?_)
 · rw[aH (by simpa using h)] at hinv
   simp -implicitDefEqProofs only[hat,hw2,hw,aB,seval,PJ]
   exact⟨x+1,hinv,aM.mk (by simp -implicitDefEqProofs only[aB,seval])⟩
 · rw[aE (by simpa using h)] at hinv
   simp -implicitDefEqProofs only[hw,aB,seval]
   exact⟨n,hinv,aM.mk (by simp -implicitDefEqProofs only[aB,seval])⟩
theorem aR7{M:Int}(m:Nat)(hm:M+m≤1073741824):∀t:Tm,cO M t→t.sh (m:Int)=dO m t:=by
 intro t
 induction t using Tm.ind with
 | h k n s ts ih=>
  intro h
  rw[Tm.WZ]
  by_cases hk:k=1
  · subst hk
    obtain⟨h0,h1,rfl,rfl⟩:=h.var
    unfold dO
    rw[aH rfl,BD _ (t:=.mk 1 n ⟨#[]⟩ []) rfl,wrap64 (by omega) (by omega)]
    try rfl
  · obtain⟨_,h2⟩:=h.own hk
    unfold dO at ih ⊢
    rw[aE hk,y9 _ hk]
    congr 1
    exact sQ fun x hx=>ih x hx (h2 x hx)
abbrev PK:=zi tI_3 (zi zI_3 (zi aY (zi tI_31 (zi zI_31 (zi aQ (zi bS (zi bT (zi cI (zi tI_66 (zi zI_66 (zi bZ (zi b9 (zi cA (zi cB (zi bY (zi tI_163 (zi zI_163 (zi yC (zi CP (zi CR (zi LJ (zi tI_286 (zi zI_286 (zi aNP (zi aNQ aAL)))))))))))))))))))))))))
theorem aB3(bd:List Tm)(N aV:Nat)(rest:List RG)(hb:∀t∈bd,bJ 26 t)(h6:bd.length≤6)(hN:N≤1048576)(hr:rest.length≤1048576)(st:aA) :
 aD prog 237 [.slice (bd.map Tm.av),.int .i64 (N:Int),.int .i64 (aV:Int),.slice (rest.map eY)] st (fun r st'=>r=.slice ((bd.map (fun t=>(⟨dO N t,aV⟩:RG))++rest).map eY)∧st'=st):=by
 refine aD.oK (aD.fin ?_)
 refine wF [1000000] 4 func237 ntmps237 rfl rfl ?_
 intro _
 simp -implicitDefEqProofs only[aB,seval,PK]
 refine d8 (σ:=Nat) [1000000] [0,1,2,3,8] bd (fun i b=>((bd.take i).map (fun t=>(⟨dO N t,aV⟩:RG))).map eY≠[]→st b=none) (fun i b=>[(9,bU 5 b (((bd.take i).map (fun t=>(⟨dO N t,aV⟩:RG))).map eY)),(10,.int .i64 i)]) (fun i b=>aZ st b (((bd.take i).map (fun t=>(⟨dO N t,aV⟩:RG))).map eY)) (by decide +kernel) ⟨0,fun h=>absurd rfl h,aM.mk (by simp -implicitDefEqProofs only[jR,a7,iY,aB,↓aU,seval])⟩ (fun i x b hx hlt bL hdr hinv=>?_) (fun b hge hinv=>?_)
 case refine_1=>
  have hw:=bE (n:=(i:Int)+1)
  have c8:(((bd.take i).map (fun t=>(⟨dO N t,aV⟩:RG))).map eY).length=i:=by simp only[aF,dE];omega
  have htk:(((bd.take i).map (fun t=>(⟨dO N t,aV⟩:RG))).map eY)++ [eY ⟨dO N x,aV⟩]=(((bd.take (i+1)).map (fun t=>(⟨dO N t,aV⟩:RG))).map eY):=by rw[eD,hx];simp
  have hxo:=hb x (cM hx)
  have hsh:=aR7 N (by omega) x hxo.1
  have hcs:=SK (N:Int) x
  rw[hsh] at hcs
  have hgo:eY ⟨dO N x,aV⟩=.agg ((dO N x).av.cells++ [.int .i64 (aV:Int)]):=a8P _
  simp -implicitDefEqProofs only[bL,aF,bP (av:=Tm.av) aQ hx (aO x),bG,aO,aB,seval,PK]
  refine(hcs _ hxo.1.small).to ?_
  generalize dO N x=y at *
  obtain⟨yk,yn,ys,yt⟩:=y
  simp only[bA,DT] at htk hgo ⊢
  simp -implicitDefEqProofs only[aB,seval,PK]
  refine eQ yC CP CR rfl rfl (f9 rfl rfl) (by intro e he;simp only[cH] at he;obtain⟨t,_,rfl⟩:=he;exact GZ t) hinv (by simp only[c8,aX,a8];omega) (by simp only[c8,aX,a8];omega) (fun b' hb'=>?_)
  rw[htk] at hb' ⊢
  simp -implicitDefEqProofs only[hw,aB,seval]
  exact⟨b',hb',aM.mk (by simp -implicitDefEqProofs only[aB,seval])⟩
 rw[dZ] at hinv ⊢
 simp -implicitDefEqProofs only[aF,hge,aB,seval,PK]
 refine eQ (xs:=rest.map eY) yC CP CR rfl rfl (by intro e he;simp only[cH] at he;obtain⟨t,_,rfl⟩:=he;exact⟨GZ t,a8Q t⟩) (by intro e he;simp only[cH] at he;obtain⟨t,_,rfl⟩:=he;exact GZ t) hinv (by simp only[aF];omega) (by simp only[aF];omega) (fun b' hb'=>?_)
 rw[←nU] at hb' ⊢
 simp -implicitDefEqProofs only[aB,seval]
 exact⟨b',_,st,rfl,hb',by intro e he;simp only[cH] at he;obtain⟨t,_,rfl⟩:=he;exact a8O t,⟨5,by intro e he;simp only[cH] at he;obtain⟨t,_,rfl⟩:=he;exact GZ t⟩,by rw[oH],aL.refl _⟩
def rW(p:List Cl)(t:Tm)(i:Nat):Bool:=match p[i]? with
 | some c=>JU c t
 | none=>false
theorem NK(p:List Cl)(t:Tm):eR p t=(List.range p.length).filter (rW p t):=rfl
theorem aOH(p:List Cl)(t:Tm)(i:Nat):(List.range (i+1)).filter (rW p t)=(List.range i).filter (rW p t)++(if rW p t i=true then[i] else[]):=by
 rw[List.range_succ,List.filter_append]
 congr 1
 by_cases h:rW p t i=true<;>simp [h]
theorem NL(p:List Cl)(t:Tm)(i:Nat):((List.range i).filter (rW p t)).length≤i:=by
 have:=List.length_filter_le (rW p t) (List.range i)
 rw[List.length_range] at this
 exact this
theorem VX(l:List Nat):∀e∈l.map nv,e.width=1:=by intro e h;simp only[cH] at h;obtain⟨t,_,rfl⟩:=h;rfl
abbrev G9:=zi tI_3 (zi zI_3 (zi aY (zi tI_9 (zi zI_9 (zi cV (zi tI_29 (zi zI_29 (zi fN (zi iG (zi iI (zi jN (zi tI_31 (zi zI_31 (zi aQ (zi bS (zi bT (zi cI (zi tI_46 (zi zI_46 (zi cZ (zi eG (zi eE (zi eT (zi tI_66 (zi zI_66 (zi bZ (zi b9 (zi cA (zi cB (zi bY (zi tI_84 (zi zI_84 (zi mA (zi mB l8))))))))))))))))))))))))))))))))))
theorem aZJ(p:List Cl)(t:Tm)(hp:p.length≤1048576)(st:aA):aD prog 198 [.slice (p.map bR),t.av] st (fun r st'=>r=.slice ((eR p t).map nv)∧st'=st):=by
 rw[NK]
 refine aD.done ?_
 obtain⟨tk,tn,ts',tts⟩:=t
 simp only[bA]
 refine wF [1000000] 2 func198 ntmps198 rfl rfl ?_
 intro _
 simp -implicitDefEqProofs only[aB,seval,G9]
 refine rK (σ:=Unit) [1000000] [0,3,4] p 1 5 (fun i _=>((List.range i).filter (rW p (.mk tk tn ts' tts))).map nv) (fun _ _=>True) (fun i _=>[(6,.int .i64 i)]) (fun _ _=>st) (fun i _ _ e he=>by simp only[cH] at he;obtain⟨t,_,rfl⟩:=he;exact⟨rfl,rfl⟩) (by decide +kernel) ⟨(),0,trivial,fun h=>absurd rfl h,aM.mk (by simp -implicitDefEqProofs only[iY,List.range_zero,List.filter_nil,a7,aB,↓aU,seval])⟩ (fun i x s b hx hlt bL hdr hinv hb=>?_) (fun s b hge hinv=>?_)
 case refine_2=>
  simp -implicitDefEqProofs only[hge,fS,jW,oL,FM,lU,aF,aB,seval,G9]
  exact⟨rfl,aL.refl _⟩
 have hw:=bE (n:=(i:Int)+1)
 have hst:=aOH p (.mk tk tn ts' tts) i
 have hln:=NL p (.mk tk tn ts' tts) i
 have hat:=bP (av:=bR) (P:=prog) fN hx (kA x)
 obtain⟨⟨k,n,s',ts⟩,bd⟩:=x
 rw[iL] at hat
 have hP:rW p (.mk tk tn ts' tts) i=(decide (s'=ts')&&decide ((ts.length:Int)=(tts.length:Int))):=by unfold rW;rw[hx];try rfl
 rw[hP] at hst
 simp -implicitDefEqProofs only[bL,aF,aB,seval,G9]
 refine wP [(0,1),(1,1),(2,1),(3,1),(4,1),(6,1),(5,2),(7,2),(8,1),(9,1),(10,1),(11,1),(12,1),(13,1),(14,1),(17,1),(15,2),(16,1),(18,2),(19,1),(20,1),(21,1)] [0,1,2,3,4,6,5,7,8,9,10,11,12,13,14,17,15,16,18,19,20,21] mixed ?_
 simp -implicitDefEqProofs only[hat,aB,seval,G9]
 refine cX (fun h=>?_) (fun h=>?_)
 case refine_2=>
  have h':(decide (s'=ts')&&decide ((ts.length:Int)=(tts.length:Int)))=false:=by simp at h;simp [h]
  rw[h',aE (by simp),gF] at hst
  rw[←hst] at hb ⊢
  simp -implicitDefEqProofs only[h,hw,aB,seval]
  exact⟨(),b,hb,aM.mk (by simp -implicitDefEqProofs only[aB,seval])⟩
 have h1:decide (s'=ts')=true:=by simpa using h
 rw[h1,eU] at hst
 simp -implicitDefEqProofs only[h,aF,hat,aB,seval,G9]
 refine aP (fun h2=>?_) (fun h2=>?_)
 · rw[aH h2] at hst
   simp -implicitDefEqProofs only[aB,seval,G9]
   refine eQ cZ eG eE rfl rfl (f9 rfl rfl) (VX _) hb (by simp only[aF,aX,a8];omega) (by simp only[aF,aX,a8];omega) (fun b' hb'=>?_)
   rw[show ∀l:List Nat,l.map nv++ [AV.int .i64 (i:Int)]=(l++ [i]).map nv from fun l=>by simp [nv],←hst] at hb' ⊢
   simp -implicitDefEqProofs only[hw,aB,seval]
   exact⟨(),b',hb',aM.mk (by simp -implicitDefEqProofs only[aB,seval])⟩
 · rw[aE (by simp [h2]),gF] at hst
   rw[←hst] at hb ⊢
   simp -implicitDefEqProofs only[hw,aB,seval]
   exact⟨(),b,hb,aM.mk (by simp -implicitDefEqProofs only[aB,seval])⟩
theorem VG{n:Int}:∀ {l:List Int},l.Nodup→∀ {i:Nat},l[i]?=some n→∀j:Int,fE n l j=j+i
 | [],_,i,h,j=>by simp at h
 | x::l,hd,0,h,j=>by
  simp only[EL,Option.some.injEq] at h
  subst h
  simp [fE]
 | x::l,hd,i+1,h,j=>by
  rw[B5] at hd
  rw[EK] at h
  have hm:=cM h
  simp only[fE]
  rw[aE (fun e:n=x=>hd.1 (e▸hm)),VG hd.2 h (j+1)]
  omega
abbrev oU:=zi tI_3 (zi zI_3 (zi aY (zi tI_9 (zi zI_9 (zi cV (zi tI_31 (zi zI_31 (zi aQ (zi bS (zi bT (zi cI (zi tI_46 (zi zI_46 (zi cZ (zi eG (zi eE (zi eT (zi tI_66 (zi zI_66 (zi bZ (zi b9 (zi cA (zi cB bY)))))))))))))))))))))))
theorem aBN(vars:List Int)(hnd:vars.Nodup)(hvl:vars.length≤1048576):∀(t:Tm) (st:aA),t.small=true→t.cv=true→(∀v∈t.vl,v∈vars)→aD prog 304 [t.av,.slice (vars.map iv)] st (fun r st'=>r=(t.aN fun v=>vr (fE v vars 0)).av∧st'=st)
 | .mk k n s ts,st,hsm,hcv,hin=>by
  obtain⟨hlen,qY⟩:=Tm.rG hsm
  obtain⟨hc1,hcs⟩:=Tm.pU.1 hcv
  have IH:=fun(x:Tm) (hx:x∈ts) st=>aBN vars hnd hvl x st (qY x hx) (hcs x hx) (fun v hv=>by
   by_cases hk:k=1
   · rw[(hc1 hk).2] at hx;cases hx
   · exact hin v ((Tm.m8 hk).2 ⟨x,hx,hv⟩))
  generalize hg:(Tm.aN fun v=>vr (fE v vars 0))=g at IH
  refine aD.oK (aD.fin ?_)
  simp only[bA]
  refine wF [1000000,5] 2 func304 ntmps304 rfl rfl ?_
  intro _
  simp -implicitDefEqProofs only[aK,aB,↓aU,seval,oU]
  intro b4 h4 c hc
  have hne:c≠b4:=by rintro rfl;rw[aA.aJ] at hc;cases hc
  have hnc:st c=none:=by rw[aA.aG st _ hne] at hc;exact hc
  have UV:∀i:Nat,vars[i]?=some n→fE n vars 0=(i:Int):=fun i hi=>by
   have:=VG hnd hi 0
   omega
  generalize hW:st.aC b4 (.cells [AV.int .i64 0,AV.int .i64 0,AV.str ⟨#[]⟩,AV.fslice []])=W
  have hWc:W c=none:=by rw[←hW];exact hc
  have hW4:W b4=some (.cells [AV.int .i64 0,AV.int .i64 0,AV.str ⟨#[]⟩,AV.fslice []]):=by rw[←hW];exact aA.aJ _ _ _
  have hS:W b4≠none:=by rw[hW4];simp
  have NW:b4≠c:=dH hne
  refine iP (σ:=Nat×Int) [1000000,5] [1,2,4,5] (fun p=>p.1≤vars.length∧(k≠1→p.2=n)∧(k=1→(n∈vars.take p.1→p.2=fE n vars 0))) (fun p=>[(6,.int .i64 p.1)]) (fun p=>W.aC c (.cells [.int .i64 k,.int .i64 p.2,.str s,.fslice []])) (fun p=>vars.length - p.1) (by decide +kernel) ⟨(0,n),⟨jE _,fun _=>rfl,fun _ h=>by simp at h⟩,aM.mk (by simp -implicitDefEqProofs only[aB,↓aU,seval])⟩ ?_
  rintro⟨i,n'⟩ ⟨h1,h2,h3⟩
  simp only at h1 h2 h3
  have rest:(k=1→n'=fE n vars 0)→True:=fun _=>trivial
  simp -implicitDefEqProofs only[aF,aB,seval,oU]
  have fin:(k=1→n'=fE n vars 0)→g (.mk k n s ts)=.mk k n' s (ts.map g):=fun h4=>by
   rw[←hg]
   by_cases hk:k=1
   · obtain⟨rfl,rfl⟩:=hc1 hk
     rw[Tm.oO _ hk,h4 hk,hk];try rfl
   · rw[Tm.nM _ hk,h2 hk]
  refine cX (fun h=>?_) (fun h=>?_)
  case refine_2=>
   have h4:(k=1→n'=fE n vars 0):=fun hk=>h3 hk (by
    have:i=vars.length:=by simp at h;omega
    rw[this,dZ]
    exact hin n (by rw[Tm.o0 hk];simp))
   simp -implicitDefEqProofs only[h,aB,seval]
   refine d8 (σ:=Nat) [1000000,5] [1,2,4,5] ts (fun i b=>(((ts.take i).map g).map Tm.av≠[]→(aA.aC W c (.cells ([AV.int .i64 k,AV.int .i64 (n'),AV.str s]++ [bU 4 b (((ts.take i).map g).map Tm.av)]))) b=none)) (fun i b=>[(7,.int .i64 i)]) (fun i b=>mC W c b [AV.int .i64 k,AV.int .i64 (n'),AV.str s] (((ts.take i).map g).map Tm.av)) (by decide +kernel)
    ⟨0,fun h=>absurd rfl h,aM.mk (by simp -implicitDefEqProofs only[aB,↓aU,seval])⟩ (fun i x b hx hlt bL hdr hinv=>?_) (fun b hge hinv=>?_)
   case refine_1=>
    have hw:=bE (n:=(i:Int)+1)
    have c8:(((ts.take i).map g).map Tm.av).length=i:=by simp only[aF,dE];omega
    have htk:(ts.take (i+1)).map g=(ts.take i).map g++ [g x]:=by rw[eD,hx];simp
    have hbo:=nL hinv
    simp -implicitDefEqProofs only[aF,bL,aF,aB,seval,oU]
    refine wP [(0,1),(2,1),(4,1),(7,1),(1,2),(3,2),(5,1),(6,2),(8,2),(9,1),(10,0),(11,1),(12,0)] [0,2,4,7,1,3,5,6,8,9,11] mixed ?_
    simp -implicitDefEqProofs only[bP (av:=Tm.av) aQ hx (aO x),bG,aO,hbo,sV,aB,seval,oU]
    refine jC (IH x (cM hx) _) ?_
    simp -implicitDefEqProofs only[bG,aO,cU,aB,seval,oU]
    refine eQ aQ bS bT rfl rfl (f9 (aO _) (cP _)) (gZ _) hinv (by simp only[c8,aX,a8];omega) (by simp only[c8,aX,a8];omega) (fun b' hb'=>?_)
    rw[show(((ts.take i).map g).map Tm.av)++ [(g x).av]=((ts.take (i+1)).map g).map Tm.av by rw[htk];simp] at hb' ⊢
    obtain⟨g1,g2,g3⟩:=yV hb'
    simp only[iB,fF] at g1 g3
    simp -implicitDefEqProofs only[g3,rS,kU,aK,g1,hw,aK,aB,seval,oU]
    exact⟨b',g2,aM.mk (by simp -implicitDefEqProofs only[aB,seval])⟩
   have hbo:=nL hinv
   rw[dZ] at hinv hbo ⊢
   simp -implicitDefEqProofs only[aF,hge,aF,aB,seval,oU]
   simp -implicitDefEqProofs only[hbo,aK,aB,seval,oU]
   have g1:=pH hinv hS NW
   rw[hW4] at g1
   simp -implicitDefEqProofs only[g1,kU,aB,seval]
   obtain⟨g2,g3⟩:=wV (o:=.cells [AV.int .i64 k,AV.int .i64 (n'),AV.str s,bU 4 b ((ts.map g).map Tm.av)]) hinv hS NW
   refine⟨b,_,_,g2,g3,pM _,⟨4,gZ _⟩,?_,fun x=>?_⟩
   · simp only[jH,bH,a7,fS,pE,oH,←bA]
     rw[fin h4]
   · subst hW
     by_cases e3:x=b4<;>by_cases e4:x=c<;>simp_all [aA.aC]
  have hlt:i<vars.length:=by simpa using h
  simp -implicitDefEqProofs only[h,aB,seval,oU]
  refine aP (fun h5=>?_) (fun h5=>?_)
  case refine_2=>
   have h5':k≠1:=by simpa using h5
   have h4:(k=1→n'=fE n vars 0):=fun hk=>absurd hk h5'
   simp -implicitDefEqProofs only[aB,seval]
   refine d8 (σ:=Nat) [1000000,5] [1,2,4,5] ts (fun i b=>(((ts.take i).map g).map Tm.av≠[]→(aA.aC W c (.cells ([AV.int .i64 k,AV.int .i64 (n'),AV.str s]++ [bU 4 b (((ts.take i).map g).map Tm.av)]))) b=none)) (fun i b=>[(7,.int .i64 i)]) (fun i b=>mC W c b [AV.int .i64 k,AV.int .i64 (n'),AV.str s] (((ts.take i).map g).map Tm.av)) (by decide +kernel)
    ⟨0,fun h=>absurd rfl h,aM.mk (by simp -implicitDefEqProofs only[aB,↓aU,seval])⟩ (fun i x b hx hlt bL hdr hinv=>?_) (fun b hge hinv=>?_)
   case refine_1=>
    have hw:=bE (n:=(i:Int)+1)
    have c8:(((ts.take i).map g).map Tm.av).length=i:=by simp only[aF,dE];omega
    have htk:(ts.take (i+1)).map g=(ts.take i).map g++ [g x]:=by rw[eD,hx];simp
    have hbo:=nL hinv
    simp -implicitDefEqProofs only[aF,bL,aF,aB,seval,oU]
    refine wP [(0,1),(2,1),(4,1),(7,1),(1,2),(3,2),(5,1),(6,2),(8,2),(9,1),(10,0),(11,1),(12,0)] [0,2,4,7,1,3,5,6,8,9,11] mixed ?_
    simp -implicitDefEqProofs only[bP (av:=Tm.av) aQ hx (aO x),bG,aO,hbo,sV,aB,seval,oU]
    refine jC (IH x (cM hx) _) ?_
    simp -implicitDefEqProofs only[bG,aO,cU,aB,seval,oU]
    refine eQ aQ bS bT rfl rfl (f9 (aO _) (cP _)) (gZ _) hinv (by simp only[c8,aX,a8];omega) (by simp only[c8,aX,a8];omega) (fun b' hb'=>?_)
    rw[show(((ts.take i).map g).map Tm.av)++ [(g x).av]=((ts.take (i+1)).map g).map Tm.av by rw[htk];simp] at hb' ⊢
    obtain⟨g1,g2,g3⟩:=yV hb'
    simp only[iB,fF] at g1 g3
    simp -implicitDefEqProofs only[g3,rS,kU,aK,g1,hw,aK,aB,seval,oU]
    exact⟨b',g2,aM.mk (by simp -implicitDefEqProofs only[aB,seval])⟩
   have hbo:=nL hinv
   rw[dZ] at hinv hbo ⊢
   simp -implicitDefEqProofs only[aF,hge,aF,aB,seval,oU]
   simp -implicitDefEqProofs only[hbo,aK,aB,seval,oU]
   have g1:=pH hinv hS NW
   rw[hW4] at g1
   simp -implicitDefEqProofs only[g1,kU,aB,seval]
   obtain⟨g2,g3⟩:=wV (o:=.cells [AV.int .i64 k,AV.int .i64 (n'),AV.str s,bU 4 b ((ts.map g).map Tm.av)]) hinv hS NW
   refine⟨b,_,_,g2,g3,pM _,⟨4,gZ _⟩,?_,fun x=>?_⟩
   · simp only[jH,bH,a7,fS,pE,oH,←bA]
     rw[fin h4]
   · subst hW
     by_cases e3:x=b4<;>by_cases e4:x=c<;>simp_all [aA.aC]
  have hk:k=1:=by simpa using h5
  obtain⟨x,hx⟩:∃x,vars[i]?=some x:=⟨_,eA hlt⟩
  have hat:dG prog 46 (.slice (vars.map iv)) (.int .i64 (i:Int))=some (.pptr (.int .i64 x)):=bP (av:=iv) cZ hx rfl
  have hw:=bE (n:=(i:Int)+1)
  have htk:vars.take (i+1)=vars.take i++ [x]:=by rw[eD,hx];try rfl
  simp -implicitDefEqProofs only[aB,seval]
  refine wP [(0,1),(1,1),(2,1),(4,1),(3,2),(5,2),(6,1)] [0,1,2,4,3,5,6] mixed ?_
  simp -implicitDefEqProofs only[hat,aB,seval,oU]
  refine aP (fun h6=>?_) (fun h6=>?_)
  · have h6':x=n:=by simpa using h6
    subst h6'
    simp -implicitDefEqProofs only[aK,hw,aB,seval,oU]
    refine⟨(i+1,(i:Int)),by simp only;omega,⟨hlt,fun h=>absurd hk h,fun _ _=>(UV i hx).symm⟩,aM.mk (by simp -implicitDefEqProofs only[aB,seval])⟩
  · have h6':x≠n:=by simpa using h6
    simp -implicitDefEqProofs only[hw,aB,seval]
    refine⟨(i+1,n'),by simp only;omega,⟨hlt,h2,fun hk hm=>h3 hk ?_⟩,aM.mk (by simp -implicitDefEqProofs only[aB,seval])⟩
    rw[htk,d6] at hm
    rcases hm with hm | hm
    · exact hm
    · simp only[c7,dT,d4] at hm
      exact absurd hm.symm h6'
termination_by t=>SizeOf.sizeOf t
decreasing_by have:=List.sizeOf_lt_of_mem hx;simp only[Tm.mk.sizeOf_spec];omega
theorem P8:∀(ts:List Tm) (l:List Int),(∀t∈ts,t.wf=true)→l.Nodup→(cG ts l).Nodup
 | [],l,_,h=>h
 | t::ts,l,hw,h=>P8 ts _ (fun x hx=>hw x (by simp [hx])) ((YK t (hw t (by simp)) l).2.1 h)
theorem GH:∀l:List Tm,(∀t∈l,t.nodes≤120)→bD Tm.nodes l≤l.length*120
 | [],_=>by simp [bD]
 | x::l,h=>by
  simp only[bD,aX]
  have:=GH l fun y hy=>h y (by simp [hy])
  have:=h x (by simp)
  omega
abbrev HA:=zi tI_3 (zi zI_3 (zi aY (zi tI_31 (zi zI_31 (zi aQ (zi bS (zi bT (zi cI (zi tI_46 (zi zI_46 (zi cZ (zi eG (zi eE (zi eT (zi tI_66 (zi zI_66 (zi bZ (zi b9 (zi cA (zi cB bY))))))))))))))))))))
theorem aY3{N:Int}(l:List Tm)(hok:∀t∈l,bJ N t)(hl:l.length≤1000)(st:aA):aD prog 239 [.slice (l.map Tm.av)] st (fun r st'=>r=.slice ((rF l).map Tm.av)∧st'=st):=by
 have hnd:=GH l fun t ht=>(hok t ht).2
 have UN:=P8 l [] (fun t ht=>Tm.wG t (hok t ht).1.2.1) lZ
 have fT:=fun v=>BQ (v:=v) l [] fun t ht=>(hok t ht).1.2.1
 have hvl:=BP l []
 simp only[a8] at hvl
 refine aD.done ?_
 refine wF [1000000] 1 func239 ntmps239 rfl rfl ?_
 intro _
 simp -implicitDefEqProofs only[aB,seval,HA]
 refine rK (σ:=Unit) [1000000] [0,2] l 1 3 (fun i _=>(cG (l.take i) []).map iv) (fun _ _=>True) (fun i _=>[(4,.int .i64 i)]) (fun _ _=>st) (fun i _ _ e he=>by simp only[cH] at he;obtain⟨t,_,rfl⟩:=he;exact⟨rfl,rfl⟩) (by decide +kernel) ⟨(),0,trivial,fun h=>absurd rfl h,aM.mk (by simp -implicitDefEqProofs only[iY,jR,cG,a7,aB,↓aU,seval])⟩ (fun i x s b hx hlt bL hdr hinv hb=>?_) (fun s b hge hinv=>?_)
 case refine_1=>
  have hw:=bE (n:=(i:Int)+1)
  have hat:=bP (av:=Tm.av) aQ hx (aO x)
  have hst:=KX Tm.nodes hx
  have hvl:=BP (l.take i) []
  simp only[a8,iE] at hvl
  have htk:x.vars (cG (l.take i) [])=cG (l.take (i+1)) []:=by
   rw[eD,hx,X8]
   try rfl
  simp -implicitDefEqProofs only[bL,aF,hat,bG,aO,aB,seval,HA]
  refine(IR x (cG (l.take i) []) b st (Tm.wG x (hok x (cM hx)).1.2.1) hb (by omega)).mono ?_
  rintro _ _ ⟨b',rfl,rfl,hb'⟩
  rw[htk] at hb' ⊢
  simp -implicitDefEqProofs only[aB,seval]
  exact⟨(),b',hb',aM.mk (by simp -implicitDefEqProofs only[hw,aB,seval])⟩
 simp -implicitDefEqProofs only[hge,fS,jW,oL,lU,dZ,aF,aB,seval,HA]
 have hR:rF l=l.map fun t=>t.aN fun v=>vr (fE v (cG l []) 0):=rfl
 rw[hR]
 generalize cG l []=vars at *
 refine rK (σ:=Unit) [1000000] [0,2,3] l 4 5 (fun i _=>((l.take i).map fun t=>t.aN fun v=>vr (fE v vars 0)).map Tm.av) (fun _ _=>True) (fun i _=>[(6,.int .i64 i)]) (fun _ _=>st) (fun i _ _ e he=>by simp only[cH] at he;obtain⟨t,_,rfl⟩:=he;exact⟨cU _,aO _⟩) (by decide +kernel) ⟨(),0,trivial,fun h=>absurd rfl h,aM.mk (by simp -implicitDefEqProofs only[iY,jR,a7,aB,↓aU,seval])⟩ (fun i x s b hx hlt bL hdr hinv hb=>?_) (fun s b hge hinv=>?_)
 case refine_2=>
  simp -implicitDefEqProofs only[hge,fS,jW,lU,dZ,aF,aB,seval,HA]
  exact⟨rfl,aL.refl _⟩
 have hw:=bE (n:=(i:Int)+1)
 have hat:=bP (av:=Tm.av) aQ hx (aO x)
 have hxm:=cM hx
 have c8:(((l.take i).map fun t=>t.aN fun v=>vr (fE v vars 0)).map Tm.av).length=i:=by simp only[aF,dE];omega
 simp -implicitDefEqProofs only[bL,aF,hat,bG,aO,aB,seval,HA]
 refine(aBN vars UN (by omega) x _ (hok x hxm).1.small (hok x hxm).1.2.1 (fun v hv=>(fT v).2 (.inr ⟨x,hxm,hv⟩))).to ?_
 simp -implicitDefEqProofs only[bG,aO,cU,aB,seval,HA]
 refine eQ aQ bS bT rfl rfl (f9 (aO _) (cP _)) (gZ _) hb (by simp only[c8,aX,a8];omega) (by simp only[c8,aX,a8];omega) (fun b' hb'=>?_)
 rw[show(((l.take i).map fun t=>t.aN fun v=>vr (fE v vars 0)).map Tm.av)++ [(x.aN fun v=>vr (fE v vars 0)).av]=((l.take (i+1)).map fun t=>t.aN fun v=>vr (fE v vars 0)).map Tm.av by rw[eD,hx];simp] at hb' ⊢
 simp -implicitDefEqProofs only[aB,seval]
 exact⟨(),b',hb',aM.mk (by simp -implicitDefEqProofs only[hw,aB,seval])⟩
abbrev aTI:=zi tI_3 (zi zI_3 (zi aY (zi tI_4 (zi zI_4 (zi cJ (zi tI_31 (zi zI_31 (zi aQ (zi bS (zi bT (zi cI (zi tI_66 (zi zI_66 (zi bZ (zi b9 (zi cA (zi cB bY)))))))))))))))))
theorem aYU(l:List Tm)(st:aA):aD prog 134 [.slice (l.map Tm.av)] st (fun r st'=>r=.bool (l.all Tm.valid)∧st'=st):=by
 refine wF [1000000] 1 func134 ntmps134 rfl rfl ?_
 simp only[eW,AV.fits,fC,aF]
 intro ⟨hl,_⟩
 simp -implicitDefEqProofs only[aB,seval]
 refine d8 (σ:=Unit) [1000000] [0] l (fun i _=>((l.drop i).all Tm.valid)=(l.all Tm.valid)) (fun i _=>[(3,.int .i64 i)]) (fun _ _=>st) (by decide +kernel) ⟨(),rfl,aM.mk (by simp -implicitDefEqProofs only[aB,↓aU,seval])⟩ (fun i x _ hx hlt bL hdr hinv=>?_) (fun _ hge hinv=>?_)
 case refine_2=>
  simp -implicitDefEqProofs only[hge,aF,aB,seval,aTI]
  rw[←hinv,kK]
  try rfl
 have hw:=bE (n:=(i:Int)+1)
 rw[hdr,kJ] at hinv
 simp -implicitDefEqProofs only[bL,aF,bP (av:=Tm.av) aQ hx (aO x),bG,aO,aB,seval,aTI]
 refine(ST x _).to ?_
 simp -implicitDefEqProofs only[aB,seval]
 refine aP (fun h2=>?_) (fun h2=>?_)
 · simp -implicitDefEqProofs only[aB,seval]
   simp only[mG] at h2
   rw[←hinv,h2]
   try rfl
 · simp only[rM] at h2
   rw[h2,eU] at hinv
   simp -implicitDefEqProofs only[aB,seval]
   exact⟨(),hinv,aM.mk (by simp -implicitDefEqProofs only[hw,aB,seval])⟩
theorem aP6(v:Int):∀(l:List Int) (i:Int),v∈l→i≤fE v l i∧fE v l i<i+l.length
 | [],i,h=>by cases h
 | x::l,i,h=>by
  simp only[fE,aX]
  split
  · omega
  · rename_i e
    have h':v∈l:=by
     rcases c7.1 h with h | h
     · exact absurd h e
     · exact h
    have:=aP6 v l (i+1) h'
    omega
theorem aRT{N:Int}{l:List Tm}(hok:∀t∈l,bJ N t)(hf:l.all fA=true):(rF l).all Tm.valid=decide ((cG l []).length≤26):=by
 have fT:=fun v=>BQ (v:=v) l [] fun t ht=>(hok t ht).1.2.1
 have UN:=P8 l [] (fun t ht=>Tm.wG t (hok t ht).1.2.1) lZ
 have hro:∀t∈l,cO (cG l []).length (t.aN fun v=>vr (fE v (cG l []) 0)):=fun t ht=>
  (hok t ht).1.aN fun v hv=>by
   have:=aP6 v (cG l []) 0 ((fT v).2 (.inr ⟨t,ht,hv⟩))
   exact KH (by omega) (by omega)
 have fB:∀t∈l,fA (t.aN fun v=>vr (fE v (cG l []) 0))=true:=fun t ht=>by
  have:=eH.1 hf t ht
  unfold fA at this ⊢
  rw[show(t.aN fun v=>vr (fE v (cG l []) 0))=cD (fun v=>fE v (cG l []) 0) t from rfl,WU _ (hok t ht).1.2.1,OY _ (hok t ht).1.2.1]
  exact this
 rw[xF,eH,bK]
 constructor
 · intro h
   refine EG fun hn=>?_
   obtain⟨w,hw⟩:∃w,(cG l [])[26]?=some w:=⟨_,eA (by omega)⟩
   rcases (fT w).1 (cM hw) with h1 | ⟨t,ht,hv⟩
   · cases h1
   · have wU:=h _ (cH.2 ⟨t,ht,rfl⟩)
     have hin:=(Tm.LN wU).2.2 26 ((BS t).2 ⟨w,hv,by rw[VG UN hw 0,BT];simp⟩)
     omega
 · intro h x hx
   obtain⟨t,ht,rfl⟩:=cH.1 hx
   have h1:=aRB.2 ((hro t ht).mono (show((cG l []).length:Int)≤26 by omega))
   rw[Tm.aUU h1]
   exact fB t ht
theorem a8M{N:Int}{l:List Tm}(hok:∀t∈l,bJ N t):(rF l).length=l.length:=by unfold rF;rw[aF]
abbrev zG:=zi tI_3 (zi zI_3 (zi aY (zi tI_4 (zi zI_4 (zi cJ (zi tI_31 (zi zI_31 (zi aQ (zi bS (zi bT (zi cI (zi tI_46 (zi zI_46 (zi cZ (zi eG (zi eE (zi eT (zi tI_59 (zi zI_59 (zi yE (zi xX (zi tI_66 (zi zI_66 (zi bZ (zi b9 (zi cA (zi cB bY)))))))))))))))))))))))))))
theorem aZU{N:Nat}{σ:Sub}(hg:cT σ)(ho:c9 (bJ N) σ)(vars:List Int)(hv:∀v∈vars,0≤v∧v<(N:Int))(hl:vars.length≤1000)(st:aA) :
 aD prog 159 [.slice (vars.map iv),.slice (dA N σ)] st (fun r st'=>st'=st∧∃a,r=.tup [bO a,.bool (jV σ vars).isSome]∧∀x,jV σ vars=some x→a=x):=by
 obtain⟨rk,B,G⟩:=hg.rs
 refine aD.nG (aD.soft ?_)
 refine wF [1000000] 2 func159 ntmps159 rfl rfl ?_
 intro _
 simp -implicitDefEqProofs only[aB,seval,zG]
 intro b4 h4
 refine rK (σ:=Unit) [1000000] [0,1,4] vars 4 6 (fun i _=>((vars.take i).map (rs σ)).map Tm.av) (fun i _=>((vars.take i).map (rs σ)).all fA=true) (fun i _=>[(5,.bool false),(7,.int .i64 i)]) (fun _ _=>st.aC b4 (.cells [.fslice []])) (fun i _ _ e he=>by simp only[cH] at he;obtain⟨t,_,rfl⟩:=he;exact⟨cU _,aO _⟩) (by decide +kernel) ⟨(),0,rfl,fun h=>absurd rfl h,aM.mk (by simp -implicitDefEqProofs only[iY,jR,a7,aB,↓aU,seval])⟩ (fun i x s b hx hlt bL hdr hinv hb=>?_) (fun s b hge hinv=>?_)
 · have hw:=bE (n:=(i:Int)+1)
   have hxm:=cM hx
   obtain⟨hx0,hx1⟩:=hv x hxm
   have hvr:bJ N (vr x):=⟨KH hx0 hx1,by rw[vr,Tm.iD];simp [bD]⟩
   have hat:dG prog 46 (.slice (vars.map iv)) (.int .i64 (i:Int))=some (.pptr (.int .i64 x)):=bP (av:=iv) cZ hx rfl
   have c8:(((vars.take i).map (rs σ)).map Tm.av).length=i:=by simp only[aF,dE];omega
   have d7:((vars.take (i+1)).map (rs σ)).all fA=fA (rs σ x):=by
    rw[eD,hx]
    simp only[EO,nU,bH,a7,EH,hinv,kJ,HO,EF,eU]
   simp -implicitDefEqProofs only[bL,aF,hat,aB,seval,zG]
   refine(aBQ x _).to ?_
   simp -implicitDefEqProofs only[aB,seval]
   refine(aB4 hg ho (vr x) hvr _).mono ?_
   rintro _ _ ⟨rfl,y,rfl,hy⟩
   rw[yW] at hy ⊢
   simp -implicitDefEqProofs only[aO,cP,cU,aB,↓aU,seval,zG]
   refine aP (fun h=>?_) (fun h=>?_)
   · have h':fA (rs σ x)=false:=by simpa using h
     have rY:jV σ vars=none:=by
      unfold jV
      rw[aE]
      rintro⟨h1,_⟩
      have:=eH.1 h1 _ (cH.2 ⟨x,hxm,rfl⟩)
      rw[h'] at this;cases this
     have hbo:∀l,(l≠[]→st b=none)→(l≠[]→b≠b4)→(aZ (st.aC b4 (.cells [.fslice []])) b l) b4=some (.cells [.fslice []]):=fun l _ h2=>by
      cases l with
      | nil=>exact aA.aJ _ _ _
      | cons e l=>simp only[aZ];rw[aA.aG _ _ (dH (h2 (by simp)))];exact aA.aJ _ _ _
     have hnb:((vars.take i).map (rs σ)).map Tm.av≠[]→b≠b4:=fun h=>by rintro rfl;have:=hb h;rw[aA.aJ] at this;cases this
     have a4Q:((vars.take i).map (rs σ)).map Tm.av≠[]→st b=none:=fun h=>by have:=hb h;rw[aA.aG _ _ (hnb h)] at this;exact this
     have e1:=hbo _ a4Q hnb
     simp -implicitDefEqProofs only[aK,e1,aB,seval,zG]
     rw[rY]
     refine⟨st,?_,rfl,[],rfl,fun x h=>by cases h⟩
     intro z
     by_cases hz:z=b4
     · subst hz;simp [aA.aC,h4]
     · rw[aA.aG _ _ hz]
       exact((aL.aZ (aL.refl _) hb).trans ((aL.refl st).aC h4)) z
   · have h':fA (rs σ x)=true:=by simpa using h
     obtain rfl:=hy h'
     simp -implicitDefEqProofs only[bG,aO,cU,aB,seval,zG]
     refine eQ aQ bS bT rfl rfl (f9 (aO _) (cP _)) (gZ _) hb (by simp only[c8,aX,a8];omega) (by simp only[c8,aX,a8];omega) (fun b' hb'=>?_)
     rw[show(((vars.take i).map (rs σ)).map Tm.av)++ [(rs σ x).av]=((vars.take (i+1)).map (rs σ)).map Tm.av by rw[eD,hx];simp] at hb' ⊢
     simp -implicitDefEqProofs only[hw,aB,seval]
     exact⟨(),b',by rw[d7];exact h',hb',aM.mk (by simp -implicitDefEqProofs only[aB,seval])⟩
 · rw[dZ] at hinv
   have hok:∀t∈vars.map (rs σ),bJ N t:=fun t ht=>by
    obtain⟨v,h,rfl⟩:=cH.1 ht
    obtain⟨h0,h1⟩:=hv v h
    have hf:=eH.1 hinv _ ht
    unfold fA at hf
    simp only[cF,bK] at hf
    exact⟨G.nP ho.nP v h0 h1,hf.2⟩
   have wU:=aRT hok hinv
   have rY:jV σ vars=if(cG (vars.map (rs σ)) []).length≤26 then some (rF (vars.map (rs σ))) else none:=by
    unfold jV
    simp only[hinv,vP]
   have a41:=fun st=>aY3 _ hok (by rw[aF];exact hl) st
   have d7:=fun st=>aYU (rF (vars.map (rs σ))) st
   rw[wU] at d7
   generalize rF (vars.map (rs σ))=R at *
   generalize (cG (vars.map (rs σ)) []).length=m at *
   simp -implicitDefEqProofs only[hge,fS,rU,jW,JI,lU,dZ,yF,aF,aB,seval,zG]
   refine(a41 _).to ?_
   simp -implicitDefEqProofs only[aB,↓aU,seval,zG]
   refine wP [(1,1),(0,2),(2,2),(3,2),(4,0),(5,1)] [1,0,2,3,5] mixed ?_
   simp -implicitDefEqProofs only[aB,seval,zG]
   refine jC (d7 _) ?_
   simp -implicitDefEqProofs only[aK,aB,seval,zG]
   refine⟨st,(aL.refl _).aC h4,rfl,R,?_,fun x h=>?_⟩
   · rw[rY]
     simp only[iT,jZ,sI,n9,bH,a7]
     by_cases h:m≤26
     · simp [h]
     · simp [h]
   · rw[rY] at h
     split at h
     · cases h;rfl
     · cases h
theorem WQ(k n:Int)(s:ByteArray)(ts:List Tm)(rest:List RG)(left:List Nat)(σ:Sub)(N:Nat):gD ⟨.mk k n s ts,rest,left,σ,N⟩=.agg [.int .i64 k,.int .i64 n,.str s,.slice (ts.map Tm.av),.slice (rest.map eY),.slice (left.map nv),.slice (dA N σ)]:=rfl
structure zU (p:List Cl) (c:RC):Prop where
 iC:cT c.σ
 ok:c9 (bJ c.N) c.σ
 yB:∀n,¬(0≤n∧n<(c.N:Int))→c.σ n=none
 goal:bJ c.N c.goal
 rest:∀g∈c.rest,bJ c.N g.t∧g.t.k=3
 left:∀i∈c.left,i<p.length
 len:c.rest.length≤524288
 a6G:c.left.length≤1048576
structure rO (p:List Cl) (B:Nat) (s:RS):Prop where
 iC:cT s.σ
 ok:c9 (bJ s.N) s.σ
 yB:∀n,¬(0≤n∧n<(s.N:Int))→s.σ n=none
 goals:∀g∈s.goals,bJ s.N g.t∧g.t.k=3
 pos:0<s.N
 hN:s.N≤B
 gl:s.goals.length≤B
 qO:s.chs.length≤B
 chs:∀c∈s.chs,zU p c∧c.N+26≤B∧c.rest.length+26≤B∧0<c.N
theorem c9.upN{N M:Nat}{σ:Sub}(h:c9 (bJ N) σ)(hm:N≤M):c9 (bJ M) σ:=h.imp fun t ht=>ht.mono (by omega)
theorem aWM{N k:Nat}{σ:Sub}(hd:∀n,¬(0≤n∧n<(N:Int))→σ n=none):dA N σ++List.replicate k zt=dA (N+k) σ:=by
 apply EJ
 intro i
 have hl:=wC N σ
 by_cases hi:i<N
 · rw[YX (by omega),CH N σ hi,CH (N+k) σ (by omega)]
 · rw[YY (by omega),hl]
   by_cases h2:i<N+k
   · rw[CH (N+k) σ h2,hd (i:Int) (fun h=>hi (by omega)),List.getElem?_replicate,aH (by omega)]
     try rfl
   · rw[xI (by simp;omega),xI (by rw[wC];omega)]
theorem aWF{N k b:Nat}{σ:Sub}(hd:∀n,¬(0≤n∧n<(N:Int))→σ n=none)(hN:N+k≤1048576){st:aA}{K:AV→aA→Prop}(hb:st b=none)
 (hK:∀b',st b'=none→K (.mslice b' 0 (N+k) 4) (st.aC b' (.cells ((dA (N+k) σ).flatMap AV.cells)))) :
 uE prog 31 3 (st.aC b (.cells ((dA N σ).flatMap AV.cells))) (.mslice b 0 N 4) (.int .i64 (k:Int)) K:=by
 have hu:prog.underlying 3=some (.int .i64):=by kernel_rfl
 have hl:((dA N σ).flatMap AV.cells).length=N*4:=by rw[nI (fun e he=>(aAG N σ e he).1),wC]
 have jJ:((dA N σ).flatMap AV.cells).take (N*4)++kM [AV.int .i64 0,.int .i64 0,.str ⟨#[]⟩,.fslice []] k=(dA (N+k) σ).flatMap AV.cells:=by
  rw[←hl,dZ,aQK _ (by simp),←aWM hd,t8,List.flatMap_replicate]
  try rfl
 unfold uE
 simp only[aQ,bS,bT,hu,aA.aJ,jQ]
 refine⟨rfl,by omega,rfl,by omega,trivial,by omega,by omega,by omega,?_,fun b' hb'=>?_⟩
 · rw[jJ,dS]
   exact hK b hb
 · rw[jJ,aA.AQ st b _ hb]
   refine hK b' ?_
   by_cases h:b'=b
   · subst h;exact hb
   · rwa [aA.aG _ _ h] at hb'
theorem aUJ{st s2 V:aA}{o' o6:AO}{b6 b11 b13 b14 b:Nat}{L A:List AV}(hD:aL s2 st)(hA:s2 b11=some (.cells (A.flatMap AV.cells)))(h11:st b11=none)(h6:st b6=none)(h62:s2 b6≠none)(aOQ:b6≠b11)(h13:s2 b13=none)(h14:s2 b14=none)
 (hV:∀q,q≠b13→q≠b14→V q=s2 q) (NR:V b13≠none) (FT:V b14≠none) (hb:L≠[]→V b=none) (hne:A≠[]) :
 aL (((aZ V b L).aC b13 o').aC b6 o6) (aZ (aZ st b11 A) b L)∧(L≠[]→(aZ st b11 A) b=none):=by
 have aO1:b13≠b11:=by rintro rfl;rw[h13] at hA;cases hA
 have a3F:b14≠b11:=by rintro rfl;rw[h14] at hA;cases hA
 have NO:b13≠b6:=by rintro rfl;exact h62 h13
 have n13:st b13=none:=(hD b13).1 h13
 have n14:st b14=none:=(hD b14).1 h14
 rw[jU hne]
 have hbb:L≠[]→b≠b13∧b≠b11∧b≠b6∧b≠b14∧s2 b=none:=fun h=>by
  have h0:=hb h
  have e13:b≠b13:=by rintro rfl;exact NR h0
  have e14:b≠b14:=by rintro rfl;exact FT h0
  rw[hV b e13 e14] at h0
  exact⟨e13,(by rintro rfl;rw[h0] at hA;cases hA),(by rintro rfl;exact h62 h0),e14,h0⟩
 refine⟨fun q=>?_,fun h=>?_⟩
 · by_cases q6:q=b6
   · subst q6
     have:aZ (st.aC b11 (.cells (A.flatMap AV.cells))) b L q=none:=by
      by_cases hL:L= []
      · subst hL;simp only[aZ];rw[aA.aG _ _ aOQ,h6]
      · obtain⟨_,_,e6,_⟩:=hbb hL
        rw[jU hL,aA.aG _ _ (dH e6),aA.aG _ _ aOQ,h6]
     rw[this];simp
   rw[aA.aG _ _ q6]
   by_cases q13:q=b13
   · subst q13
     have:aZ (st.aC b11 (.cells (A.flatMap AV.cells))) b L q=none:=by
      by_cases hL:L= []
      · subst hL;simp only[aZ];rw[aA.aG _ _ aO1,n13]
      · obtain⟨e13,_⟩:=hbb hL
        rw[jU hL,aA.aG _ _ (dH e13),aA.aG _ _ aO1,n13]
     rw[this];simp
   rw[aA.aG _ _ q13]
   have rest:q≠b∨L= []→(V q=none→st.aC b11 (.cells (A.flatMap AV.cells)) q=none)∧∀o,st.aC b11 (.cells (A.flatMap AV.cells)) q=some o→V q=some o:=fun _=>by
    by_cases q14:q=b14
    · subst q14
      rw[aA.aG _ _ a3F,n14]
      simp
    rw[hV q q13 q14]
    by_cases q11:q=b11
    · subst q11;rw[aA.aJ,hA];simp
    rw[aA.aG _ _ q11]
    exact hD q
   by_cases hL:L= []
   · subst hL
     exact rest (.inr rfl)
   · rw[jU hL,jU hL]
     by_cases qb:q=b
     · subst qb;rw[aA.aJ,aA.aJ];simp
     rw[aA.aG _ _ qb,aA.aG _ _ qb]
     exact rest (.inl qb)
 · obtain⟨e13,e11,e6,e14,h0⟩:=hbb h
   rw[aA.aG _ _ e11]
   exact(hD b).1 h0
theorem CF{st:aA}{b q:Nat}{l:List AV}{o:AO}(hb:l≠[]→st b=none)(h:st q=some o):aZ st b l q=some o:=by
 cases l with
 | nil=>exact h
 | cons x l=>
  rw[jU (by simp),aA.aG _ _ (by rintro rfl;rw[hb (by simp)] at h;cases h)]
  exact h
theorem aOB{b b' o n w:Nat}{l:List AV}(h:l≠[]→b'≠b):(AV.mslice b' o n w).fin b l=.mslice b' o n w:=by
 unfold AV.fin
 cases l with
 | nil=>rfl
 | cons x l=>
  simp only[List.isEmpty_cons,iK,dY]
  cases o with
  | zero=>simp only[AV.fz];rw[aE (fun e=>h (by simp) e.1)];try rfl
  | succ o=>rfl
theorem NH{b N:Nat}{σ:Sub}(h0:0<N):(AV.mslice b 0 N 4).fin b (dA N σ)=.slice (dA N σ):=by
 have hl:=wC N σ
 have h:dA N σ≠[]:=by intro e;rw[e] at hl;simp at hl;omega
 have:bU 4 b (dA N σ)=.mslice b 0 N 4:=by rw[qK h,hl]
 rw[←this,oH]
theorem a8E(l:List RC):∀e∈l.map gD,e.cE=false:=by intro e he;simp only[cH] at he;obtain⟨t,_,rfl⟩:=he;exact a8C t
theorem a8F(l:List RC):∀e∈l.map gD,e.width=7:=by intro e he;simp only[cH] at he;obtain⟨t,_,rfl⟩:=he;exact OX t
theorem aSH{φ:AF}{d i:Nat}{l:List Nat}(hi:i+1<l.length)(h:φ d=.int .i64 ((i:Int)+1)):fH prog φ 46 (.slice (l.map nv)) (some (.tmp d)) none none=some (.slice ((l.drop (i+1)).map nv)):=by
 have he:φ.eval (.tmp d)=.int .i64 ((i:Int)+1):=h
 have hb:dK φ (some (.tmp d)) 0 l.length=some (i+1):=by
  simp only[dK,he]
  rw[aH (by omega)]
  congr 1
 have hwo:xE (l.map nv) (i+1) 1=true:=by
  unfold xE
  rw[lY,eA hi]
  try rfl
 unfold fH
 rw[aE (by simp [oN])]
 simp only[nE,cZ]
 rw[aE (by simp)]
 simp only[dK] at hb ⊢
 have ht:List.take l.length (l.map nv)=l.map nv:=nA (by simp)
 simp only[aF,hb,hwo,or_true,eX,ht]
 simp [zS]
abbrev tR:=zi tI_3 (zi zI_3 (zi aY (zi tI_4 (zi zI_4 (zi cJ (zi tI_29 (zi zI_29 (zi fN (zi iG (zi iI (zi jN (zi tI_31 (zi zI_31 (zi aQ (zi bS (zi bT (zi cI (zi tI_46 (zi zI_46 (zi cZ (zi eG (zi eE (zi eT (zi tI_66 (zi zI_66 (zi bZ (zi b9 (zi cA (zi cB (zi bY (zi tI_84 (zi zI_84 (zi mA (zi mB (zi l8 (zi tI_163 (zi zI_163 (zi yC (zi CP (zi CR (zi LJ (zi tI_164 (zi zI_164 (zi AM (zi I1 (zi I2 (zi YG (zi tI_166 (zi zI_166 (zi I3 (zi I4 (zi I5 (zi IK (zi tI_254 (zi zI_254 (zi TM (zi TN (zi TO (zi TP R5)))))))))))))))))))))))))))))))))))))))))))))))))))))))))))
theorem aB5(p:List Cl)(hp:∀c∈p,gQ c∧c.2.length≤6)(gs0:List RG)(σ0:List AV)(cs:List RC)(c:RC)(hc:zU p c)(h0:0<c.N)(hN:c.N≤524288)(hcl:cs.length≤524288)(st:aA) :
 aD prog 241 [.slice (p.map bR),.agg [.slice (gs0.map eY),.slice σ0,.slice (cs.map gD)],gD c] st (fun r st'=>st'=st∧r=match jM p cs c.goal c.rest c.σ c.N c.left with
  | some s=>.tup [qB s,.bool true]
  | none=>.tup [.agg [.slice (gs0.map eY),.slice σ0,.slice (cs.map gD)],.bool false]):=by
 obtain⟨goal,rest,left,σ,N⟩:=c
 obtain⟨hg,ho,hd,hgo,hr,hle,hrl,hll⟩:=hc
 simp only at hg ho hd hgo hr hle hrl hll h0 hN
 obtain⟨gk,gn,gs',gts⟩:=goal
 rw[WQ]
 refine aD.fin (aD.fin (aD.nG ?_))
 refine wF [1000000,13] 3 func241 ntmps241 rfl rfl ?_
 intro _
 simp -implicitDefEqProofs only[aB,seval,tR]
 intro b6 h6
 generalize hW:st.aC b6 (.cells [.fslice [],.fslice [],.fslice []])=W
 have hW6:W b6=some (.cells [.fslice [],.fslice [],.fslice []]):=by rw[←hW];exact aA.aJ _ _ _
 have hDW:aL W st:=by rw[←hW];exact(aL.refl _).aC h6
 refine d8 (σ:=Unit) [1000000] [0,4,5,6] left (fun i _=>jM p cs (.mk gk gn gs' gts) rest σ N (left.drop i)=jM p cs (.mk gk gn gs' gts) rest σ N left) (fun i _=>[(7,.bool false),(8,.int .i64 i)]) (fun _ _=>W) (by decide +kernel) ⟨(),rfl,aM.mk (by simp -implicitDefEqProofs only[aB,↓aU,seval])⟩ (fun i x _ hx hlt bL hdr hinv=>?_) (fun _ hge hinv=>?_)
 case refine_2=>
  simp -implicitDefEqProofs only[hge,aK,hW6,aF,aB,seval,tR]
  refine⟨st,?_,0,[],st,rfl,by simp,by simp,⟨0,by simp⟩,0,[],st,rfl,by simp,by simp,⟨0,by simp⟩,rfl,?_⟩
  · intro z
    have:=hDW z
    by_cases hz:z=b6
    · subst hz;simp [aA.aC,h6]
    · rw[aA.aG _ _ hz];exact this
  · rw[←hinv,kK]
    simp only[jH,kC,rU,jW,bH,a7,jM]
 have hw:=bE (n:=(i:Int)+1)
 have hxl:=hle x (cM hx)
 obtain⟨cl,hcx⟩:∃cl,p[x]?=some cl:=⟨_,eA hxl⟩
 obtain⟨uV,r8⟩:=hp cl (cM hcx)
 rw[hdr,jM.eq_def] at hinv
 simp only[hcx] at hinv
 have hat:dG prog 46 (.slice (left.map nv)) (.int .i64 (i:Int))=some (.pptr (.int .i64 (x:Int))):=bP (av:=nv) cZ hx rfl
 have CY:=bP (av:=bR) (P:=prog) fN hcx (kA cl)
 have hcf:=aZW cl uV r8
 obtain⟨⟨k,n,s',ts⟩,bd⟩:=cl
 rw[iL] at CY hcf
 simp only at hinv
 simp -implicitDefEqProofs only[bL,aF,wC,hat,CY,aB,↓aU,seval,tR]
 refine wX [(0,1),(1,1),(2,1),(4,1),(3,0),(5,0),(6,0),(7,1)] [0,1,2,4,7] d9 mixed rfl eK ?_
 simp -implicitDefEqProofs only[aB,seval,tR]
 have hfr:=uV.fr.1
 have hHd:=uV.dO N (.mk k n s' ts) (by simp)
 have hBd:=fun t ht=>(uV.GM t (LW _ ht))
 refine RV h0 (by omega) σ fun b hb hA0=>?_
 simp -implicitDefEqProofs only[aB,seval]
 refine⟨eK,?_⟩
 refine(hcf _).to ?_
 simp -implicitDefEqProofs only[aB,seval]
 refine⟨eK,?_⟩
 refine aWF hd (by omega) hb fun b11 h11=>?_
 simp -implicitDefEqProofs only[aB,seval]
 refine⟨eK,?_⟩
 have hA:=(show fV (N+pW (.mk k n s' ts,bd)) (W.aC b11 (.cells ((dA (N+pW (.mk k n s' ts,bd)) σ).flatMap AV.cells))) b11 σ from aA.aJ _ _ _)
 have hDT:aL (W.aC b11 (.cells ((dA (N+pW (.mk k n s' ts,bd)) σ).flatMap AV.cells))) W:=(aL.refl _).aC h11
 have hh:=uV.head
 generalize pW (.mk k n s' ts,bd)=fr at *
 generalize W.aC b11 (.cells ((dA (N+fr) σ).flatMap AV.cells))=T at *
 have hsh:Tm.sh (N:Int) (.mk k n s' ts)=dO N (.mk k n s' ts):=aR7 N (by omega) _ hh.1
 have hcs:=SK (N:Int) (.mk k n s' ts)
 rw[hsh] at hcs
 have hun:=IN (N:=N+fr) (by omega) hg (ho.upN (by omega)) (.mk gk gn gs' gts) (dO N (.mk k n s' ts)) (hgo.mono (by omega)) hHd b11
 generalize dO N (.mk k n s' ts)=y at *
 obtain⟨yk,yn,ys,yt⟩:=y
 refine wX [(0,1),(1,1),(2,1),(3,1),(4,1),(6,1),(5,0),(7,0),(8,1)] [0,1,2,3,4,6,8] d9 mixed rfl eK ?_
 simp -implicitDefEqProofs only[aB,seval,tR]
 have hsm:=hh.1.small
 simp only[bA] at hun hcs ⊢
 refine(hcs _ hsm).to ?_
 simp -implicitDefEqProofs only[aB,seval]
 refine⟨eK,?_⟩
 refine(hun _ hA).mono ?_
 rintro _ s2 ⟨rfl,hA2,hk2⟩
 simp -implicitDefEqProofs only[aB,seval]
 refine⟨eK,?_⟩
 generalize j5 σ (.mk gk gn gs' gts) (.mk yk yn ys yt)=u at *
 obtain⟨r,σ',tr⟩:=u
 simp only at hinv hA2 ⊢
 have NS:W b11=none:=h11
 have hDs:aL s2 W:=by
  intro q
  have key:∀o,W q=some o→s2 q=some o:=fun o h=>hk2 q o ((hDT q).2 o h) (by rintro rfl;rw[NS] at h;cases h)
  refine⟨fun h=>?_,key⟩
  cases hq:W q with
  | none=>rfl
  | some o=>rw[key o hq] at h;cases h
 refine aP (fun h=>?_) (fun h=>?_)
 · have hr:r=false:=by simpa using h
   rw[aE (by rw[hr];simp)] at hinv
   simp -implicitDefEqProofs only[hw,aB,seval]
   exact⟨(),hinv,aM.drop hDs (by simp -implicitDefEqProofs only[aB,seval])⟩
 have hr':r=true:=by simpa using h
 rw[aH hr'] at hinv
 have hg9:=aB3 bd N cs.length rest hBd r8 (by omega) (by omega)
 generalize hgs:bd.map (fun t=>(⟨dO N t,cs.length⟩:RG))++rest=gs2 at *
 simp -implicitDefEqProofs only[aF,aB,seval,tR]
 refine wP [(0,1),(1,1),(3,1),(5,1),(6,1),(7,1),(2,2),(4,2),(8,2),(9,1),(10,1),(11,0),(12,0)] [0,1,3,5,6,7,2,4,8,9,10] mixed ?_
 simp -implicitDefEqProofs only[aB,seval,tR]
 refine SX hg9 ?_
 simp -implicitDefEqProofs only[aK,aF,hw,aB,seval,tR]
 intro b13 h13
 have a2Z:b13≠b11:=by rintro rfl;rw[fV,h13] at hA2;cases hA2
 have h62:s2 b6≠none:=by rw[(hDs b6).2 _ hW6];simp
 have NO:b6≠b13:=by rintro rfl;exact h62 h13
 have aOP:b6≠b11:=by rintro rfl;rw[hW6] at NS;cases NS
 have N7:st b11=none:=(hDW b11).1 NS
 have aOU:=(hDs b6).2 _ hW6
 have hNf:0<N+fr:=by omega
 have pX:dA (N+fr) σ'≠[]:=by intro e;have:=wC (N+fr) σ';rw[e] at this;simp at this;omega
 refine aP (fun h=>?_) (fun h=>?_)
 · have h':i+1<left.length:=by simp at h;omega
   have hsl:=fun(φ:AF) (d:Nat) (h:φ d=.int .i64 ((i:Int)+1))=>aSH h' h
   simp -implicitDefEqProofs only[aB,seval]
   refine wP [(0,1),(2,1),(4,1),(6,1),(7,1),(9,1),(1,2),(3,2),(5,2),(8,1),(10,2),(11,1),(12,0),(13,0)] [0,2,4,6,7,9,1,3,5,8,10,11] mixed ?_
   simp -implicitDefEqProofs only[aK,hsl,hw,aB,seval,tR]
   intro b14 h14
   have aPN:b14≠b13:=by rintro rfl;rw[aA.aJ] at h14;cases h14
   have T7:s2 b14=none:=by rw[aA.aG _ _ aPN] at h14;exact h14
   have a21:b6≠b14:=by rintro rfl;exact h62 T7
   generalize hV:(s2.aC b13 (AO.cells [AV.slice (gs2.map eY),AV.mslice b11 0 (N+fr) 4,AV.slice (cs.map gD)])).aC b14 (.cells [.int .i64 gk,.int .i64 gn,.str gs',.slice (gts.map Tm.av),.slice (rest.map eY),.slice ((left.drop (i+1)).map nv),.slice (dA N σ)])=V
   have FT:V b14=some (.cells [.int .i64 gk,.int .i64 gn,.str gs',.slice (gts.map Tm.av),.slice (rest.map eY),.slice ((left.drop (i+1)).map nv),.slice (dA N σ)]):=by rw[←hV];exact aA.aJ _ _ _
   have NR:V b13=some (AO.cells [AV.slice (gs2.map eY),AV.mslice b11 0 (N+fr) 4,AV.slice (cs.map gD)]):=by rw[←hV,aA.aG _ _ (dH aPN)];exact aA.aJ _ _ _
   have hV6:V b6=some (.cells [.fslice [],.fslice [],.fslice []]):=by rw[←hV,aA.aG _ _ a21,aA.aG _ _ NO];exact aOU
   have hVq:∀q,q≠b13→q≠b14→V q=s2 q:=fun q e1 e2=>by rw[←hV,aA.aG _ _ e2,aA.aG _ _ e1]
   refine wX [(0,1),(1,1),(2,1),(4,1),(5,1),(3,0),(6,0),(7,1),(8,2)] [0,1,2,4,5,7] (one b14 (.cells [.int .i64 gk,.int .i64 gn,.str gs',.slice (gts.map Tm.av),.slice (rest.map eY),.slice ((left.drop (i+1)).map nv),.slice (dA N σ)])) mixed rfl (fR FT) ?_
   simp -implicitDefEqProofs only[wY,aB,seval,tR]
   have hlc:(cs.map gD).length=cs.length:=aF _
   refine eQ (P:=prog) (b:=0) (l:=[]) (xs:=cs.map gD) AM I1 I2 rfl rfl (by intro e he;simp only[cH] at he;obtain⟨t,_,rfl⟩:=he;exact⟨OX t,a8D t⟩) (by simp) (by simp) (by simp only[a8,hlc];omega) (by simp only[a8,hlc];omega) (fun b15 h15=>?_)
   rw[fF] at h15 ⊢
   simp -implicitDefEqProofs only[aB,seval]
   refine⟨fR (CF h15 FT),?_⟩
   refine eQ (P:=prog) (b:=b15) (l:=cs.map gD) (xs:=[gD ⟨.mk gk gn gs' gts,rest,left.drop (i+1),σ,N⟩]) AM I1 I2 rfl rfl (f9 rfl rfl) (by intro e he;simp only[cH] at he;obtain⟨t,_,rfl⟩:=he;exact OX t) h15 (by simp only[aX,a8,hlc];omega) (by simp only[aX,a8,hlc];omega) (fun b16 h16=>?_)
   rw[show(cs.map gD)++ [gD ⟨.mk gk gn gs' gts,rest,left.drop (i+1),σ,N⟩]=(cs++ [(⟨.mk gk gn gs' gts,rest,left.drop (i+1),σ,N⟩:RC)]).map gD by simp] at h16 ⊢
   have g13:=CF h16 NR
   have g14:=CF h16 FT
   have g6:=CF h16 hV6
   have hdn:left.drop (i+1)≠[]:=by intro e;have:=gH List.length e;simp at this;omega
   rw[aE hdn] at hinv
   generalize hLL:cs++ [(⟨.mk gk gn gs' gts,rest,left.drop (i+1),σ,N⟩:RC)]=LL at *
   have E:=aUJ (o':=.cells [AV.slice (gs2.map eY),AV.mslice b11 0 (N+fr) 4,bU 7 b16 (LL.map gD)]) (o6:=.cells [AV.slice (gs2.map eY),AV.mslice b11 0 (N+fr) 4,bU 7 b16 (LL.map gD)]) (hDs.trans hDW) hA2 N7 h6 h62 aOP h13 T7 hVq (by rw[NR];simp) (by rw[FT];simp) h16 pX
   simp -implicitDefEqProofs only[aK,NO,g13,g6,kU,rS,aB,seval,tR]
   have hms:LL.map gD≠[]→b11≠b16:=by rintro h rfl;have:=h16 h;rw[hVq b11 (dH a2Z) (by rintro rfl;rw[fV,T7] at hA2;cases hA2),hA2] at this;cases this
   refine⟨fR g14,_,E.1,b16,LL.map gD,_,rfl,fun h=>E.2 (by simpa using h),a8E LL,⟨7,a8F LL⟩,b11,dA (N+fr) σ',st,rfl,fun _=>N7,IJ _ _,⟨4,E4 _ _⟩,rfl,?_⟩
   rw[←hinv]
   simp only[jH,kC,rU,jW,lU,bH,a7,aOB hms,NH hNf]
   rfl
 · have h':left.drop (i+1)= []:=B2 (by simp at h;omega)
   have E:=aUJ (o6:=.cells [AV.slice (gs2.map eY),AV.mslice b11 0 (N+fr) 4,AV.slice (cs.map gD)]) (o':=.cells [AV.slice (gs2.map eY),AV.mslice b11 0 (N+fr) 4,AV.slice (cs.map gD)]) (b:=0) (L:=[]) (hDs.trans hDW) hA2 N7 h6 h62 aOP h13 h13 (fun q h _=>aA.aG s2 (.cells [AV.slice (gs2.map eY),AV.mslice b11 0 (N+fr) 4,AV.slice (cs.map gD)]) h) (by rw[aA.aJ];simp) (by rw[aA.aJ];simp) (by simp) pX
   simp -implicitDefEqProofs only[aK,NO,aOU,aA.aJ,aB,seval,tR]
   rw[aH h'] at hinv
   have E1:=E.1
   simp only[aZ,dS] at E1
   refine⟨_,E1,0,[],_,rfl,by simp,by simp,⟨0,by simp⟩,b11,dA (N+fr) σ',st,rfl,fun _=>N7,IJ _ _,⟨4,E4 _ _⟩,rfl,?_⟩
   rw[←hinv]
   simp only[jH,kC,rU,jW,bH,a7,aOB (l:=[]) (fun h=>absurd rfl h),NH hNf]
   rfl
theorem WO{p:List Cl}(hp:∀c∈p,gQ c∧c.2.length≤6){B:Nat}(hB:B≤524288){cs:List RC}{goal:Tm}{rest:List RG}{σ:Sub}{N:Nat}(hg:cT σ)(ho:c9 (bJ N) σ)(hd:∀n,¬(0≤n∧n<(N:Int))→σ n=none)
 (hgo:bJ N goal) (hr:∀g∈rest,bJ N g.t∧g.t.k=3) (h0:0<N) (hN:N+26≤B) (hrl:rest.length+26≤B) (hcl:cs.length+1≤B) (hcs:∀c∈cs,zU p c∧c.N+26≤B∧c.rest.length+26≤B∧0<c.N) :
 ∀(left:List Nat),(∀i∈left,i<p.length)→left.length≤1048576→∀s,jM p cs goal rest σ N left=some s→rO p B s
 | [],_,_,s,h=>by simp [jM] at h
 | i::l,hle,hll,s,h=>by
  have hil:=hle i (by simp)
  obtain⟨x,hx⟩:∃x,p[i]?=some x:=⟨_,eA hil⟩
  obtain⟨hX,h6⟩:=hp x (cM hx)
  have hl':∀j∈l,j<p.length:=fun j hj=>hle j (by simp [hj])
  rw[jM.eq_def] at h
  simp only[hx] at h
  split at h
  case isFalse=>exact WO hp hB hg ho hd hgo hr h0 hN hrl hcl hcs l hl' (by simp at hll;omega) s h
  cases h
  have hfr:=hX.fr.1
  have hsh:=hX.dO N
  obtain⟨r,σ',tr,U⟩:=vS (N:=N+pW x) hg (ho.upN (by omega)) (hgo.mono (by omega)) (hsh x.1 (by simp))
  rw[U.eq]
  have S:=U.zA
  refine⟨S.iC,S.ok,fun n hn=>?_,?_,by simp only;omega,by simp only;omega,?_,?_,?_⟩
  · simp only at hn ⊢
    rw[S.aV n (fun h=>hn (S.gO n h))]
    exact hd n (fun h=>hn (by omega))
  · intro g hg'
    simp only[d6,cH] at hg'
    rcases hg' with ⟨t,ht,rfl⟩ | hg'
    · exact⟨hsh t (LW _ ht),by rw[aR9];exact(hX.body t ht).2⟩
    · exact⟨(hr g hg').1.mono (by simp only;omega),(hr g hg').2⟩
  · simp only[dQ,aF];omega
  · simp only
    split
    · omega
    · simp only[dQ,aX,a8];omega
  · simp only
    split
    · exact hcs
    · intro c hc
      rcases d6.1 hc with hc | hc
      · exact hcs c hc
      · simp only[c7,dT,d4] at hc
        subst hc
        exact⟨⟨hg,ho,hd,hgo,hr,hl',by simp only;omega,by simp only;simp at hll;omega⟩,hN,hrl,h0⟩
theorem a75(p:List Cl)(chs:List RC):gC p chs.length chs=match chs.getLast? with
 | none=>none
 | some c=>match jM p chs.dropLast c.goal c.rest c.σ c.N c.left with
  | some s=>some s
  | none=>gC p chs.dropLast.length chs.dropLast:=by
 cases chs with
 | nil=>rfl
 | cons c l=>
  rw[aX,gC]
  have:(c::l).dropLast.length=l.length:=by simp
  rw[this]
  try rfl
theorem aRR{p:List Cl}(hp:∀c∈p,gQ c∧c.2.length≤6){B:Nat}(hB:B≤524288):∀(n:Nat) (chs:List RC),chs.length≤B→(∀c∈chs,zU p c∧c.N+26≤B∧c.rest.length+26≤B∧0<c.N)→∀s,gC p n chs=some s→rO p B s
 | 0,_,_,_,s,h=>by simp [gC] at h
 | n+1,chs,hl,hc,s,h=>by
  rw[gC] at h
  split at h
  · cases h
  · rename_i c wQ
    have hm:=Q0 wQ
    have hne:chs≠[]:=by rintro rfl;simp at hm
    have hdl:chs.dropLast.length+1=chs.length:=by
     have:=QY.2 hne
     simp;omega
    have hcd:∀c∈chs.dropLast,zU p c∧c.N+26≤B∧c.rest.length+26≤B∧0<c.N:=fun c h=>hc c (QW _ h)
    obtain⟨k,h1,h2,h3⟩:=hc c hm
    split at h
    · rename_i s' hs
      cases h
      exact WO hp hB k.iC k.ok k.yB k.goal k.rest h3 h1 h2 (by omega) hcd c.left k.left k.a6G s hs
    · exact aRR hp hB n _ (by omega) hcd s h
theorem rO.up{p:List Cl}{B C:Nat}{s:RS}(h:rO p B s)(hC:B≤C):rO p C s:=
 ⟨h.iC,h.ok,h.yB,h.goals,h.pos,by have:=h.hN;omega,by have:=h.gl;omega,by have:=h.qO;omega,fun c hc=>by
  obtain⟨h1,h2,h3,h4⟩:=h.chs c hc
  exact⟨h1,by omega,by omega,h4⟩⟩
theorem rO.back{p:List Cl}(hp:∀c∈p,gQ c∧c.2.length≤6){B:Nat}(hB:B≤524288){s s':RS}(h:rO p B s)(e:gC p s.chs.length s.chs=some s'):rO p B s':=
 aRR hp hB _ _ h.qO h.chs s' e
theorem NJ{N:Nat}{σ:Sub}(hg:cT σ)(ho:c9 (bJ N) σ){t:Tm}(ht:bJ N t)(hf:fA (t.aN (rs σ))=true):bJ N (t.aN (rs σ)):=by
 obtain⟨rk,B,G⟩:=hg.rs
 unfold fA at hf
 simp only[cF,bK] at hf
 exact⟨ht.1.aN fun v hv=>G.nP ho.nP v (ht.1.2.2 v hv).1 (ht.1.2.2 v hv).2,hf.2⟩
theorem rO.step{p:List Cl}(hp:∀c∈p,gQ c∧c.2.length≤6)(hpl:p.length≤1048576){B:Nat}(hB:B+26≤524288){cnd:Tm→List Nat→List Nat}(hc:∀t l,(∀i∈cnd t l,i∈l)∧(cnd t l).length≤l.length){s s':RS}{g:RG}{rest:List RG}(hgs:s.goals=g::rest)(h:rO p B s)
 (e:jL p cnd s g rest=.go s'):rO p (B+26) s':=by
 have hgm:g∈s.goals:=by rw[hgs];simp
 have hrm:∀x∈rest,x∈s.goals:=fun x hx=>by rw[hgs];simp [hx]
 have hgl:=h.gl
 rw[hgs,aX] at hgl
 have hU:=h.up (C:=B+26) (by omega)
 unfold jL at e
 split at e
 · cases e
 rename_i fB
 have UR:fA (g.t.aN (rs s.σ))=true:=by simpa using fB
 have hok:=NJ h.iC h.ok (h.goals g hgm).1 UR
 generalize g.t.aN (rs s.σ)=t at *
 split at e
 · cases e
   exact⟨hU.iC,hU.ok,hU.yB,fun x hx=>hU.goals x (hrm x hx),hU.pos,hU.hN,by simp only;omega,by simp only[dE];have:=hU.qO;omega,fun c hc=>hU.chs c (m9 hc)⟩
 split at e
 · split at e
   · cases e
     have S:=O6 h.iC h.ok t.s t.ts fun x hx=>by
      obtain⟨k,n,s',ts⟩:=t
      by_cases hk:k=1
      · obtain⟨_,_,_,h2⟩:=(show cO s.N (.mk 1 n s' ts) from hk▸hok.1).var
        simp only[Tm.ts] at hx
        rw[h2] at hx;cases hx
      · exact sE _ (.mk k n s' ts) hk hok x hx
     exact⟨S.iC,S.ok,fun n hn=>by simp only at hn ⊢;rw[S.aV n (fun h=>hn (S.gO n h))];exact hU.yB n hn,fun x hx=>hU.goals x (hrm x hx),hU.pos,hU.hN,by simp only;omega,hU.qO,hU.chs⟩
   · split at e<;>cases e
 split at e
 · cases e
 split at e
 case h_2=>cases e
 rename_i s2 hs
 cases e
 obtain⟨c1,c2⟩:=hc t (eR p t)
 have hfl:(eR p t).length≤p.length:=by rw[NK];exact NL p t p.length
 refine WO hp (by omega) h.iC h.ok h.yB hok (fun x hx=>h.goals x (hrm x hx)) h.pos (by have:=h.hN;omega) (by omega) (by have:=h.qO;omega) hU.chs _ (fun i hi=>?_) (by omega) s' hs
 have:=c1 i hi
 unfold eR at this
 have:=(List.mem_filter.1 this).1
 exact xJ.1 this
def o9(n:Nat)(l:List RG):Prop:=l.Pairwise (fun a b=>b.aV≤a.aV)∧∀g∈l,g.aV≤n
theorem o9.up{n m:Nat}{l:List RG}(h:o9 n l)(hm:n≤m):o9 m l:=⟨h.1,fun g hg=>mK (h.2 g hg) hm⟩
theorem o9.tail{n:Nat}{g:RG}{l:List RG}(h:o9 n (g::l)):o9 n l∧o9 g.aV l:=by
 obtain⟨h1,h2⟩:=h
 rw[List.pairwise_cons] at h1
 exact⟨⟨h1.2,fun x hx=>h2 x (by simp [hx])⟩,h1.2,h1.1⟩
theorem o9.body{n:Nat}{l:List RG}(h:o9 n l)(f:Tm→Tm)(bd:List Tm):o9 n (bd.map (fun t=>(⟨f t,n⟩:RG))++l):=by
 refine⟨List.pairwise_append.2 ⟨?_,h.1,fun a ha b hb=>?_⟩,fun g hg=>?_⟩
 · rw[List.pairwise_map]
   exact List.pairwise_of_forall fun _ _=>cY _
 · obtain⟨t,_,rfl⟩:=cH.1 ha
   exact h.2 b hb
 · rcases d6.1 hg with hg | hg
   · obtain⟨t,_,rfl⟩:=cH.1 hg
     exact cY _
   · exact h.2 g hg
structure B8 (s:RS):Prop where
 goals:o9 s.chs.length s.goals
 chs:∀i c,s.chs[i]?=some c→o9 i c.rest
theorem WM{p:List Cl}{cs:List RC}{goal:Tm}{rest:List RG}{σ:Sub}{N:Nat}(hr:o9 cs.length rest)(hc:∀i c,cs[i]?=some c→o9 i c.rest) :
 ∀(left:List Nat) s,jM p cs goal rest σ N left=some s→B8 s
 | [],s,h=>by simp [jM] at h
 | i::l,s,h=>by
  rw[jM.eq_def] at h
  simp only at h
  split at h
  · cases h
  rename_i x hx
  split at h
  case isFalse=>exact WM hr hc l s h
  cases h
  have hb:=hr.body (dO N) x.2
  refine⟨?_,?_⟩
  · simp only
    split
    · exact hb
    · exact hb.up (by simp)
  · simp only
    intro j c hj
    split at hj
    · exact hc j c hj
    · rw[List.getElem?_append] at hj
      split at hj
      · exact hc j c hj
      · rename_i hlt
        have hj0:j - cs.length=0:=by
         have:=(fL.1 hj).1
         simp at this;omega
        rw[hj0] at hj
        simp only[EL,Option.some.injEq] at hj
        subst hj
        exact hr.up (by omega)
theorem aRP{p:List Cl}:∀(n:Nat) (chs:List RC),(∀i c,chs[i]?=some c→o9 i c.rest)→∀s,gC p n chs=some s→B8 s
 | 0,_,_,s,h=>by simp [gC] at h
 | n+1,chs,hc,s,h=>by
  rw[gC] at h
  split at h
  · cases h
  · rename_i c wQ
    have hd:∀i c,chs.dropLast[i]?=some c→o9 i c.rest:=fun i c hi=>hc i c (by
     rw[List.dropLast_eq_take,List.getElem?_take] at hi
     split at hi
     · exact hi
     · cases hi)
    rw[YZ] at wQ
    have hk:=hc _ _ wQ
    split at h
    · rename_i s' hs
      cases h
      exact WM (by rw[List.length_dropLast];exact hk) hd _ s hs
    · exact aRP n _ hd s h
theorem B8.step{p:List Cl}{cnd:Tm→List Nat→List Nat}{s s':RS}{g:RG}{rest:List RG}(hgs:s.goals=g::rest)(h:B8 s)(e:jL p cnd s g rest=.go s'):B8 s':=by
 have hg:=h.goals
 rw[hgs] at hg
 obtain⟨h1,h2⟩:=hg.tail
 have h3:=hg.2 g (by simp)
 unfold jL at e
 split at e
 · cases e
 split at e
 · cases e
   refine⟨?_,fun i c hi=>?_⟩
   · simp only[dE]
     exact h2.up (by omega)
   · simp only[List.getElem?_take] at hi
     split at hi
     · exact h.chs i c hi
     · cases hi
 split at e
 · split at e
   · cases e
     exact⟨h1,h.chs⟩
   · split at e<;>cases e
 split at e
 · cases e
 split at e
 case h_2=>cases e
 rename_i s2 hs
 cases e
 exact WM h1 h.chs _ s' hs
def EP(s:RS):Prop:=26≤s.N∧∀c∈s.chs,26≤c.N
theorem WN{p:List Cl}{cs:List RC}{goal:Tm}{rest:List RG}{σ:Sub}{N:Nat}(hN:26≤N)(hc:∀c∈cs,26≤c.N) :
 ∀(left:List Nat) s,jM p cs goal rest σ N left=some s→EP s
 | [],s,h=>by simp [jM] at h
 | i::l,s,h=>by
  rw[jM.eq_def] at h
  simp only at h
  split at h
  · cases h
  rename_i x hx
  split at h
  case isFalse=>exact WN hN hc l s h
  cases h
  refine⟨by simp only;omega,?_⟩
  simp only
  split
  · exact hc
  · intro c h
    rcases d6.1 h with h | h
    · exact hc c h
    · simp only[c7,dT,d4] at h
      subst h;exact hN
theorem aRQ{p:List Cl}:∀(n:Nat) (chs:List RC),(∀c∈chs,26≤c.N)→∀s,gC p n chs=some s→EP s
 | 0,_,_,s,h=>by simp [gC] at h
 | n+1,chs,hc,s,h=>by
  rw[gC] at h
  split at h
  · cases h
  · rename_i c wQ
    have hd:∀c∈chs.dropLast,26≤c.N:=fun c h=>hc c (QW _ h)
    split at h
    · rename_i s' hs
      cases h
      exact WN (hc c (Q0 wQ)) hd _ s hs
    · exact aRQ n _ hd s h
theorem EP.step{p:List Cl}{cnd:Tm→List Nat→List Nat}{s s':RS}{g:RG}{rest:List RG}(h:EP s)(e:jL p cnd s g rest=.go s'):EP s':=by
 unfold jL at e
 split at e
 · cases e
 split at e
 · cases e
   exact⟨h.1,fun c hc=>h.2 c (m9 hc)⟩
 split at e
 · split at e
   · cases e
     exact h
   · split at e<;>cases e
 split at e
 · cases e
 split at e
 case h_2=>cases e
 rename_i s2 hs
 cases e
 exact WN h.1 h.2 _ s' hs
structure nX (p:List Cl) (B:Nat) (s:RS):Prop where
 a:rO p B s
 k:B8 s
 l:EP s
theorem nX.step{p:List Cl}(hp:∀c∈p,gQ c∧c.2.length≤6)(hpl:p.length≤1048576){B:Nat}(hB:B+26≤524288){cnd:Tm→List Nat→List Nat}(hc:∀t l,(∀i∈cnd t l,i∈l)∧(cnd t l).length≤l.length){s s':RS}{g:RG}{rest:List RG}(hgs:s.goals=g::rest)(h:nX p B s)
 (e:jL p cnd s g rest=.go s'):nX p (B+26) s':=⟨h.a.step hp hpl hB hc hgs e,h.k.step hgs e,h.l.step e⟩
theorem nX.back{p:List Cl}(hp:∀c∈p,gQ c∧c.2.length≤6){B:Nat}(hB:B≤524288){s s':RS}(h:nX p B s)(e:gC p s.chs.length s.chs=some s'):nX p B s':=
 ⟨h.a.back hp hB e,aRP _ _ h.k.chs s' e,aRQ _ _ h.l.2 s' e⟩
theorem nX.up{p:List Cl}{B C:Nat}{s:RS}(h:nX p B s)(hC:B≤C):nX p C s:=⟨h.a.up hC,h.k,h.l⟩
theorem nX.start{p:List Cl}{q:List Tm}(hq:∀t∈q,bJ 26 t∧t.k=3)(h6:q.length≤6):nX p 26 (nS q):=by
 refine⟨⟨cT.none,fun n u h=>(by cases h),fun n _=>rfl,?_,(by show 0<26;omega),cY _,?_,jE _,fun c hc=>(by cases hc)⟩,⟨⟨?_,?_⟩,fun i c hi=>(by cases hi)⟩,⟨cY _,fun c hc=>(by cases hc)⟩⟩
 · intro g hg
   simp only[nS,cH] at hg
   obtain⟨t,ht,rfl⟩:=hg
   exact hq t ht
 · simp only[nS,aF];omega
 · simp only[nS,List.pairwise_map]
   exact List.pairwise_of_forall fun _ _=>cY _
 · intro g hg
   simp only[nS,cH] at hg
   obtain⟨t,ht,rfl⟩:=hg
   exact jE _
theorem aSG{φ:AF}{t:TypeId}{ag:Bool}{w d k:Nat}{es:List AV}(hI:eI prog t=some (ag,w))(h:φ d=.int .i64 (k:Int))(hk:k≤es.length):fH prog φ t (.slice es) none (some (.tmp d)) none=some (.slice (es.take k)):=by
 have he:φ.eval (.tmp d)=.int .i64 (k:Int):=h
 unfold fH
 rw[aE (by simp [oN])]
 simp only[nE,hI]
 rw[aE (by simp)]
 simp only[dK,he]
 rw[aH (by omega)]
 simp
def LZ(a:AV):Prop:=(∃l,a=.slice l)∨a=.fslice []
theorem LZ.facts{a:AV}(h:LZ a):a.isAgg=false∧a.width=1∧a.cE=false∧a.cells= [a]∧a.storable=true∧∃l,a.soft=.slice l:=by
 rcases h with ⟨l,rfl⟩ | rfl
 · exact⟨rfl,rfl,rfl,rfl,rfl,l,rfl⟩
 · exact⟨rfl,rfl,rfl,rfl,rfl,[],rfl⟩
abbrev w9:=zi tI_3 (zi zI_3 (zi aY (zi tI_4 (zi zI_4 (zi cJ (zi tI_29 (zi zI_29 (zi fN (zi iG (zi iI (zi jN (zi tI_164 (zi zI_164 (zi AM (zi I1 (zi I2 (zi YG (zi tI_166 (zi zI_166 (zi I3 (zi I4 (zi I5 (zi IK (zi tI_254 (zi zI_254 (zi TM (zi TN (zi TO (zi TP R5)))))))))))))))))))))))))))))
theorem aB1{p:List Cl}(hp:∀c∈p,gQ c∧c.2.length≤6){B:Nat}(hB:B≤524288)(gs0:List RG)(σ0:List AV)(chs:List RC)(hl:chs.length≤B)(hc:∀c∈chs,zU p c∧c.N+26≤B∧c.rest.length+26≤B∧0<c.N)(st:aA) :
 aD prog 161 [.slice (p.map bR),.agg [.slice (gs0.map eY),.slice σ0,.slice (chs.map gD)]] st (fun r st'=>st'=st∧match gC p chs.length chs with
  | some s=>r=.tup [qB s,.bool true]
  | none=>∃l1 l2 l3,r=.tup [.agg [.slice l1,.slice l2,.slice l3],.bool false]):=by
 refine aD.nG (aD.soft ?_)
 refine wF [1000000,3] 2 func161 ntmps161 rfl rfl ?_
 intro _
 simp -implicitDefEqProofs only[aB,seval,w9]
 intro b3 h3 b4 h4
 have hne:b4≠b3:=by rintro rfl;rw[aA.aJ] at h4;cases h4
 have U6:st b4=none:=by rw[aA.aG _ _ hne] at h4;exact h4
 rw[aA.m7 _ _ _ (dH hne)]
 generalize hW:st.aC b4 (.cells [.fslice [],.fslice [],.fslice []])=W
 have hW4:W b4=some (.cells [.fslice [],.fslice [],.fslice []]):=by rw[←hW];exact aA.aJ _ _ _
 have hW3:W b3=none:=by rw[←hW,aA.aG _ _ (dH hne)];exact h3
 have hDW:∀o o',aL ((W.aC b3 o).aC b4 o') st:=fun o o' q=>by
  by_cases q4:q=b4
  · subst q4;rw[aA.aJ,U6];simp
  rw[aA.aG _ _ q4]
  by_cases q3:q=b3
  · subst q3;rw[aA.aJ,h3];simp
  rw[aA.aG _ _ q3,←hW,aA.aG _ _ q4]
  simp
 have aPM:b3≠b4:=dH hne
 refine iP (σ:=List RC×AV×AV) [1000000,3] [0,3,4] (fun s=>s.1.length≤B∧(∀c∈s.1,zU p c∧c.N+26≤B∧c.rest.length+26≤B∧0<c.N)∧LZ s.2.1∧LZ s.2.2∧gC p s.1.length s.1=gC p chs.length chs) (fun s=>[(5,.bool false)]) (fun s=>W.aC b3 (.cells [s.2.1,s.2.2,.slice (s.1.map gD)])) (fun s=>s.1.length) (by decide +kernel) ⟨(chs,.slice (gs0.map eY),.slice σ0),⟨hl,hc,.inl ⟨_,rfl⟩,.inl ⟨_,rfl⟩,rfl⟩,aM.mk (by simp -implicitDefEqProofs only[aB,seval])⟩ ?_
 rintro⟨l,a,b⟩ ⟨hl1,hlc,ha,hb,hinv⟩
 simp only at hl1 hlc ha hb hinv
 obtain⟨a1,a2,a3,a4,a5,la,a6⟩:=ha.facts
 obtain⟨b1,b2,b3',b4',b5,lb,b6⟩:=hb.facts
 simp only
 rw[a75] at hinv
 by_cases C6:l= []
 · subst C6
   simp only[List.getLast?_nil] at hinv
   simp -implicitDefEqProofs only[aA.aJ,yD,List.contains,List.elem,tX,iJ,sub,↓reduceIte,reduceCtorEq,Nat.reduceEqDiff,w9]
   refine aP (fun h=>absurd h (by decide)) (fun h=>?_)
   simp -implicitDefEqProofs only[aK,hne,aA.aJ,hW4,a5,b5,aB,seval,w9]
   rw[←hinv]
   exact⟨st,hDW _ _,rfl,la,lb,[],by simp only[iT,jZ,sI,n9,bH,a7,a6,b6]⟩
 obtain⟨c,wQ⟩:∃c,l.getLast?=some c:=by
  cases h:l.getLast? with
  | none=>exact absurd (List.getLast?_eq_none_iff.1 h) C6
  | some c=>exact⟨c,rfl⟩
 have hlp:=QY.2 C6
 have hcm:=Q0 wQ
 obtain⟨a3M,hcN,hcr,hc0⟩:=hlc c hcm
 rw[wQ] at hinv
 simp only at hinv
 have hat:=bP (av:=gD) (P:=prog) (l:=l) (i:=l.length - 1) (x:=c) AM (by rw[←YZ];exact wQ) (OX c)
 rw[show(((l.length - 1:Nat):Int))=(l.length:Int) - 1 by omega] at hat
 have hw:=bE (n:=(l.length:Int) - 1)
 have hdl:l.dropLast=l.take (l.length - 1):=List.dropLast_eq_take
 have bDC:l.dropLast.length+1=l.length:=by simp;omega
 have hct:=aB5 p hp [] [] l.dropLast c a3M hc0 (by omega) (by omega)
 have hcs:=fun(φ:AF) (d:Nat) (h:φ d=.int .i64 ((l.length:Int) - 1))=>aSG (es:=l.map gD) (k:=l.length - 1) AM (h.trans (by congr 1;omega)) (by simp)
 rw[←HR,←hdl] at hcs
 generalize hx:jM p l.dropLast c.goal c.rest c.σ c.N c.left=x at hinv hct
 obtain⟨⟨ck,cn,cs',cts⟩,aC1,aCY,cσ,cN⟩:=c
 rw[WQ] at hct hat
 simp only[a7] at hct
 simp -implicitDefEqProofs only[aF,aA.aJ,aB,seval,w9]
 refine aP (fun h=>?_) (fun h=>absurd hlp (by simpa using h))
 simp -implicitDefEqProofs only[aF,aA.aJ,hw,hat,aB,↓aU,seval,w9]
 cases x with
 | none=>
  have N0:∀st,aD prog 241 [.slice (p.map bR),.agg [.fslice [],.fslice [],.slice (l.dropLast.map gD)],.agg [.int .i64 ck,.int .i64 cn,.str cs',.slice (cts.map Tm.av),.slice (aC1.map eY),.slice (aCY.map nv),.slice (dA cN cσ)]] st (fun r st'=>r=.tup [.agg [.slice [],.slice [],.slice (l.dropLast.map gD)],.bool false]∧st'=st):=fun st=>
   aD.rH ((hct st).mono fun _ _ h=>⟨h.2,h.1⟩)
  simp only at hinv
  refine wP [(0,1),(1,1),(3,1),(2,2),(4,1),(5,1),(6,2),(7,1),(8,1),(9,1),(10,1),(11,0),(12,0),(13,1)] [0,1,3,2,4,5,6,7,8,9,10,13] mixed ?_
  simp -implicitDefEqProofs only[aA.aJ,hcs,aB,seval,w9]
  refine SX N0 ?_
  simp -implicitDefEqProofs only[aK,aA.aJ,aB,seval,w9]
  intro b8 h8
  have h83:b8≠b3:=by rintro rfl;rw[aA.aJ] at h8;cases h8
  rw[aA.aG _ _ h83] at h8
  have h84:b8≠b4:=by rintro rfl;rw[hW4] at h8;cases h8
  have hs8:st b8=none:=by rw[←hW,aA.aG _ _ h84] at h8;exact h8
  have h38:=dH h83
  have h48:=dH h84
  simp -implicitDefEqProofs only[aK,h38,aA.aJ,hcs,aB,seval,w9]
  refine⟨(l.dropLast,.fslice [],.fslice []),by simp only;omega,⟨by simp only;omega,fun c h=>hlc c (QW _ h),.inr rfl,.inr rfl,hinv⟩,aM.drop (fun q=>?_) (by simp -implicitDefEqProofs only[aB,seval])⟩
  by_cases q3:q=b3
  · subst q3;rw[aA.aJ,aA.aJ];simp
  rw[aA.aG _ _ q3,aA.aG _ _ q3]
  by_cases q8:q=b8
  · subst q8;rw[aA.aJ,h8];simp
  rw[aA.aG _ _ q8,aA.aG _ _ q3]
  simp
 | some s=>
  have N0:∀st,aD prog 241 [.slice (p.map bR),.agg [.fslice [],.fslice [],.slice (l.dropLast.map gD)],.agg [.int .i64 ck,.int .i64 cn,.str cs',.slice (cts.map Tm.av),.slice (aC1.map eY),.slice (aCY.map nv),.slice (dA cN cσ)]] st (fun r st'=>r=.tup [qB s,.bool true]∧st'=st):=fun st=>
   aD.rH ((hct st).mono fun _ _ h=>⟨h.2,h.1⟩)
  simp only at hinv
  simp only[qB] at N0
  refine wP [(0,1),(1,1),(3,1),(2,2),(4,1),(5,1),(6,2),(7,1),(8,1),(9,1),(10,1),(11,0),(12,0),(13,1)] [0,1,3,2,4,5,6,7,8,9,10,13] mixed ?_
  simp -implicitDefEqProofs only[aA.aJ,hcs,aB,seval,w9]
  refine SX N0 ?_
  simp -implicitDefEqProofs only[aK,aA.aJ,aB,seval,w9]
  intro b8 h8
  have h83:b8≠b3:=by rintro rfl;rw[aA.aJ] at h8;cases h8
  rw[aA.aG _ _ h83] at h8
  have h84:b8≠b4:=by rintro rfl;rw[hW4] at h8;cases h8
  have hs8:st b8=none:=by rw[←hW,aA.aG _ _ h84] at h8;exact h8
  have h38:=dH h83
  have h48:=dH h84
  simp -implicitDefEqProofs only[hne,h48,hW4,aB,seval]
  refine⟨st,?_,rfl,?_⟩
  · have d1:aL W st:=by rw[←hW];exact(aL.refl _).aC U6
    exact((d1.aC h3).aC hs8).aC U6
  · rw[←hinv]
    simp only[iT,jZ,sI,n9,bH,a7]
    rfl
theorem a9C{φ:AF}{t:TypeId}{ag:Bool}{w:Nat}{y:Operand}{e:AV}{es:List AV}(hI:eI prog t=some (ag,w))(h:φ.eval y=.int .i64 1)(hw:∀x∈es,x.width=w):fH prog φ t (.slice (e::es)) (some y) none none=some (.slice es):=by
 have hwo:xE (e::es) 1 w=true:=by
  unfold xE
  rw[EK]
  split
  · rename_i x hx
    simp [hw x (cM hx)]
  · rfl
 unfold fH
 rw[aE (by simp [oN])]
 simp only[nE,hI]
 rw[aE (by simp)]
 simp only[dK,h]
 rw[aH (by constructor<;>simp<;>omega)]
 simp [hwo]
abbrev bDT:=zi tI_3 (zi zI_3 aY)
theorem aZV(c:Int)(st:aA):aD prog 271 [.int .i64 c] st (fun r st'=>r=.int .i64 (qT c)∧st'=st):=by
 refine aD.done ?_
 refine wF [1000000] 1 func271 ntmps271 rfl rfl ?_
 intro _
 simp -implicitDefEqProofs only[aB,seval]
 unfold qT
 refine aP (fun h=>?_) (fun h=>?_)
 · simp -implicitDefEqProofs only[aB,seval]
   have h':c=2:=by simpa using h
   exact⟨by rw[aH h'];try rfl,aL.refl _⟩
 rw[aE (show ¬c=2 by simpa using h)]
 simp -implicitDefEqProofs only[aB,seval]
 refine aP (fun h=>?_) (fun h=>?_)
 · simp -implicitDefEqProofs only[aB,seval]
   have h':c=3:=by simpa using h
   exact⟨by rw[aH h'];try rfl,aL.refl _⟩
 rw[aE (show ¬c=3 by simpa using h)]
 simp -implicitDefEqProofs only[aB,seval]
 refine aP (fun h=>?_) (fun h=>?_)
 · simp -implicitDefEqProofs only[aB,seval]
   have h':c=4:=by simpa using h
   exact⟨by rw[aH h'];try rfl,aL.refl _⟩
 rw[aE (show ¬c=4 by simpa using h)]
 simp -implicitDefEqProofs only[aB,seval]
 exact⟨rfl,aL.refl _⟩
def v6(s0:RS)(x:RO)(r:AV):Prop:=match x with
 | .go s=>r=.tup [qB s,.int .i64 (-1)]
 | .fail=>r=.tup [qB s0,.int .i64 (-2)]
 | .stop e=>0≤e∧∃l1 l2 l3,r=.tup [.agg [.slice l1,.slice l2,.slice l3],.int .i64 e]
abbrev oV:=zi tI_2 (zi zI_2 (zi QI (zi tI_3 (zi zI_3 (zi aY (zi tI_4 (zi zI_4 (zi cJ (zi tI_9 (zi zI_9 (zi cV (zi tI_29 (zi zI_29 (zi fN (zi iG (zi iI (zi jN (zi tI_31 (zi zI_31 (zi aQ (zi bS (zi bT (zi cI (zi tI_46 (zi zI_46 (zi cZ (zi eG (zi eE (zi eT (zi tI_66 (zi zI_66 (zi bZ (zi b9 (zi cA (zi cB (zi bY (zi tI_163 (zi zI_163 (zi yC (zi CP (zi CR (zi LJ (zi tI_164 (zi zI_164 (zi AM (zi I1 (zi I2 (zi YG (zi tI_166 (zi zI_166 (zi I3 (zi I4 (zi I5 (zi IK (zi tI_254 (zi zI_254 (zi TM (zi TN (zi TO (zi TP (zi R5 (zi tI_286 (zi zI_286 (zi aNP (zi aNQ aAL)))))))))))))))))))))))))))))))))))))))))))))))))))))))))))))))))
theorem aZ2{p:List Cl}(hp:∀c∈p,gQ c∧c.2.length≤6)(hpl:p.length≤1048576){B:Nat}(hB:B+26≤524288)(goals:List RG)(σ:Sub)(N:Nat)(chs:List RC)(g:RG)(rest:List RG)(hgs:goals=g::rest)(h:rO p B ⟨goals,σ,N,chs⟩)(hK:B8 ⟨goals,σ,N,chs⟩)(st:aA) :
 aD prog 208 [.slice (p.map bR),.agg [.slice (goals.map eY),.slice (dA N σ),.slice (chs.map gD)]] st (fun r st'=>st'=st∧v6 ⟨goals,σ,N,chs⟩ (jL p (fun _ l=>l) ⟨goals,σ,N,chs⟩ g rest) r):=by
 subst hgs
 obtain⟨hg,ho,hd,hgo,h0,hN,hgl,hcl,hch⟩:=h
 simp only at hg ho hd hgo h0 hN hgl hcl hch
 obtain⟨hgx,hg3⟩:=hgo g (by simp)
 have F6:∀x∈rest,bJ N x.t∧x.t.k=3:=fun x hx=>hgo x (by simp [hx])
 have hkp:=hK.goals.2 g (by simp)
 simp only at hkp
 have hsm:=aB4 hg ho g.t hgx
 have hyk:(g.t.aN (rs σ)).k=3:=by rw[Tm.tJ _ (by omega)];exact hg3
 have hfo:=NJ hg ho hgx
 generalize hR:jL p (fun _ l=>l) ⟨g::rest,σ,N,chs⟩ g rest=R
 unfold jL at hR
 dsimp only at hR
 obtain⟨⟨gk,gn,gs',gts⟩,aV⟩:=g
 simp only at hgx hg3 hkp hsm hyk hfo
 dsimp only at hR
 generalize (Tm.mk gk gn gs' gts).aN (rs σ)=y at *
 obtain⟨yk,yn,ys,yts⟩:=y
 obtain rfl:yk=3:=hyk
 have hat:dG prog 163 (.slice ((⟨.mk gk gn gs' gts,aV⟩::rest).map eY)) (.int .i64 0)=some (.pptr (eY ⟨.mk gk gn gs' gts,aV⟩)):=bP (av:=eY) (l:=⟨.mk gk gn gs' gts,aV⟩::rest) (i:=0) yC rfl (GZ _)
 have hs1:=fun(φ:AF) (y:Operand) (h:φ.eval y=.int .i64 1)=>a9C (e:=eY ⟨.mk gk gn gs' gts,aV⟩) (es:=rest.map eY) yC h (by intro e he;simp only[cH] at he;obtain⟨t,_,rfl⟩:=he;exact GZ t)
 rw[bH,DT] at hat
 rw[DT] at hs1
 rw[bH,DT]
 simp only[bA] at hsm
 refine aD.fin (aD.nG ?_)
 refine wF [1000000] 2 func208 ntmps208 rfl rfl ?_
 intro _
 simp -implicitDefEqProofs only[aX,hat,hs1,aB,↓aU,seval,oV]
 intro b4 h4
 refine(hsm _).mono ?_
 rintro _ _ ⟨rfl,x,rfl,hx⟩
 generalize fB:fA (.mk 3 yn ys yts)=fit at *
 have CS:∀(o:AO) (r:AV) (x:RO),v6 ⟨⟨.mk gk gn gs' gts,aV⟩::rest,σ,N,chs⟩ x (r.fin 0 [])→∃s2,aL (st.aC b4 o) s2∧∃b l s0,s2=aZ s0 b l∧(l≠[]→s0 b=none)∧(∀e∈l,e.cE=false)∧iV l∧s0=st∧v6 ⟨⟨.mk gk gn gs' gts,aV⟩::rest,σ,N,chs⟩ x (r.fin b l):=fun o r x hr=>
  ⟨st,(aL.refl _).aC h4,0,[],st,rfl,by simp,by simp,⟨0,by simp⟩,rfl,hr⟩
 simp -implicitDefEqProofs only[aX,aO,cP,cU,aB,↓aU,seval,oV]
 refine aP (fun h=>?_) (fun h=>?_)
 · have h':fit=false:=by simpa using h
   subst h'
   rw[aH rfl] at hR
   subst hR
   simp -implicitDefEqProofs only[aK,aX,aB,seval,oV]
   exact CS _ _ _ ⟨by decide,_,_,_,by simp only[jH,kC,fS,jW,bH,a7];rfl⟩
 obtain rfl:fit=true:=by simpa using h
 obtain rfl:=hx rfl
 simp only[bA]
 have hyo:=hfo rfl
 rw[aE (by simp)] at hR
 have A0:∀st,aD prog 269 [.agg [.int .i64 3,.int .i64 yn,.str ys,.slice (yts.map Tm.av)]] st (fun r st'=>r=.bool (tB (.mk 3 yn ys yts))∧st'=st):=fun st=>by
  have:=aBX 3 yn ys yts st
  rw[bA] at this
  exact this
 have hbi:=fun st=>SR ys (yts.length:Int) st
 have aPE:=fun st=>aZJ p (.mk 3 yn ys yts) hpl st
 have aPY:=fun hb=>aW9 (N:=N) h0 (by omega) hg ho yn ys yts hb (sE N (.mk 3 yn ys yts) (by show(3:Int)≠1;decide) hyo)
 have htr:=aB5 p hp
 simp only[bA] at aPE aPY
 replace hR:(if tB (.mk 3 yn ys yts)=true then RO.go ⟨rest,σ,N,chs.take aV⟩ else if isBuiltin ys (yts.length:Int)=true then(if(dM σ ys yts).1=0 then RO.go ⟨rest,(dM σ ys yts).2.1,N,chs⟩ else if(dM σ ys yts).1=1 then RO.fail else RO.stop (qT (dM σ ys yts).1)) else if eR p (.mk 3 yn ys yts)= [] then RO.stop 8 else match jM p chs (.mk 3 yn ys yts) rest σ N (eR p (.mk 3 yn ys yts)) with | some s'=>RO.go s' | none=>RO.fail)=R:=hR
 generalize hcu:tB (.mk 3 yn ys yts)=cu at *
 have hs2:=fun(φ:AF) (d:Nat) (h:φ d=.int .i64 (aV:Int))=>aSG (es:=chs.map gD) (k:=aV) AM h (by simpa using hkp)
 rw[←HR] at hs2
 refine(A0 _).to ?_
 simp -implicitDefEqProofs only[aB,seval]
 refine aP (fun h=>?_) (fun h=>?_)
 · rw[aH h] at hR
   subst h hR
   simp -implicitDefEqProofs only[aB,seval]
   refine wP [(0,1),(1,1),(3,1),(5,1),(2,2),(4,2),(6,2),(7,1),(8,1),(9,0),(10,1)] [0,1,3,5,2,4,6,7,8,10] mixed ?_
   simp -implicitDefEqProofs only[aK,aX,hs2,aB,seval,oV]
   exact CS _ _ _ (by simp only[jH,kC,fS,jW,bH,a7];rfl)
 rw[aE (by rw[h];simp)] at hR
 subst h
 simp -implicitDefEqProofs only[aF,aB,seval,oV]
 refine(hbi _).to ?_
 simp -implicitDefEqProofs only[aB,seval]
 refine aP (fun h=>?_) (fun h=>?_)
 · have A4:=aPY h
   rw[aH h] at hR
   simp -implicitDefEqProofs only[aB,seval,oV]
   refine RV h0 (by omega) σ fun b hb hA0=>?_
   have hst:=aL.aC (aL.refl st) (o:=.cells [.fslice [],.fslice [],.fslice []]) h4
   generalize hW:st.aC b4 (.cells [.fslice [],.fslice [],.fslice []])=W at *
   have hW4:W b4=some (.cells [.fslice [],.fslice [],.fslice []]):=by rw[←hW];exact aA.aJ _ _ _
   have hT:aL (W.aC b (.cells ((dA N σ).flatMap AV.cells))) W:=(aL.refl _).aC hb
   generalize W.aC b (.cells ((dA N σ).flatMap AV.cells))=T at *
   have hb4:b≠b4:=by rintro rfl;rw[hW4] at hb;cases hb
   simp -implicitDefEqProofs only[aX,aB,seval,oV]
   refine(A4 b _ hA0).mono ?_
   rintro _ s2 ⟨rfl,hA,hk2⟩
   have a3L:=a9K σ ys yts
   generalize dM σ ys yts=S at *
   obtain⟨c,σ',tr⟩:=S
   simp only at hA a3L ⊢
   dsimp only at hR
   have hDs:aL s2 W:=by
    intro q
    have key:∀o,W q=some o→s2 q=some o:=fun o h=>hk2 q o ((hT q).2 o h) (by rintro rfl;rw[hb] at h;cases h)
    refine⟨fun h=>?_,key⟩
    cases hq:W q with
    | none=>rfl
    | some o=>rw[key o hq] at h;cases h
   have U5:=(hDs b4).2 _ hW4
   have a45:st b=none:=by rw[←hW,aA.aG _ _ hb4] at hb;exact hb
   have aN9:∀(o:AO) (r:AV) (x:RO),v6 ⟨⟨.mk gk gn gs' gts,aV⟩::rest,σ,N,chs⟩ x (r.fin 0 [])→∃s3,aL (s2.aC b4 o) s3∧∃b l s0,s3=aZ s0 b l∧(l≠[]→s0 b=none)∧(∀e∈l,e.cE=false)∧iV l∧s0=st∧v6 ⟨⟨.mk gk gn gs' gts,aV⟩::rest,σ,N,chs⟩ x (r.fin b l):=fun o r x hr=>
    ⟨st,(hDs.trans hst).aC h4,0,[],st,rfl,by simp,by simp,⟨0,by simp⟩,rfl,hr⟩
   simp -implicitDefEqProofs only[aB,seval]
   refine aP (fun h=>?_) (fun h=>?_)
   · have hc0:c=0:=by simpa using h
     subst hc0
     rw[aH rfl] at hR
     subst hR
     simp -implicitDefEqProofs only[aK,aX,U5,aB,seval,oV]
     have pX:dA N σ'≠[]:=by intro e;have:=wC N σ';rw[e] at this;simp at this;omega
     refine⟨st.aC b (.cells ((dA N σ').flatMap AV.cells)),fun q=>?_,b,dA N σ',st,by rw[jU pX],fun _=>a45,IJ _ _,⟨4,E4 _ _⟩,rfl,?_⟩
     · by_cases q4:q=b4
       · subst q4;rw[aA.aJ,aA.aG _ _ (dH hb4),h4];simp
       rw[aA.aG _ _ q4]
       by_cases qb:q=b
       · subst qb;rw[aA.aJ,show s2 q=_ from hA];simp
       rw[aA.aG _ _ qb]
       exact(hDs.trans hst) q
     · simp only[jH,kC,fS,jW,bH,a7,NH h0]
       rfl
   have hc0:c≠0:=by simpa using h
   rw[aE hc0] at hR
   simp -implicitDefEqProofs only[aB,seval]
   refine aP (fun h=>?_) (fun h=>?_)
   · have hc1:c=1:=by simpa using h
     subst hc1
     rw[aH rfl] at hR
     subst hR
     simp -implicitDefEqProofs only[aK,aX,U5,aB,seval,oV]
     exact aN9 _ _ _ (by simp only[v6,qB,bH,DT];simp only[jH,kC,fS,jW,bH,a7])
   have hc1:c≠1:=by simpa using h
   rw[aE hc1] at hR
   subst hR
   have wN:0≤qT c:=by unfold qT;split;omega;split;omega;split;omega;omega
   simp -implicitDefEqProofs only[aB,seval]
   refine wP [(1,1),(0,2),(2,2),(3,0),(4,1)] [1,0,2,4] mixed ?_
   simp -implicitDefEqProofs only[aX,aB,seval,oV]
   refine jC (aZV c _) ?_
   simp -implicitDefEqProofs only[aK,aX,U5,aB,seval,oV]
   exact aN9 _ _ _ ⟨wN,_,_,_,by simp only[jH,kC,fS,jW,bH,a7];rfl⟩
 rw[aE (by rw[h];simp)] at hR
 simp -implicitDefEqProofs only[aX,aB,seval,oV]
 refine(aPE _).to ?_
 have hcx:zU p ⟨.mk 3 yn ys yts,rest,eR p (.mk 3 yn ys yts),σ,N⟩:=⟨hg,ho,hd,hyo,F6,fun i hi=>by
  unfold eR at hi
  exact xJ.1 (List.mem_filter.1 hi).1,by simp only;simp only[aX] at hgl;omega,by
  have:=NL p (.mk 3 yn ys yts) p.length
  rw[←NK] at this
  simp only;omega⟩
 have F7:=fun st=>htr (⟨.mk gk gn gs' gts,aV⟩::rest) (dA N σ) chs _ hcx h0 (by simp only;omega) (by omega) st
 rw[bH,DT,WQ] at F7
 simp only at F7
 generalize eR p (.mk 3 yn ys yts)=left at *
 simp -implicitDefEqProofs only[aF,aB,seval,oV]
 refine aP (fun h=>?_) (fun h=>?_)
 · have h':left= []:=by
    have:(left.length:Int)=0:=by simpa using h
    exact pQ (by omega)
   rw[aH h'] at hR
   subst hR
   simp -implicitDefEqProofs only[aK,aX,aB,seval,oV]
   exact CS _ _ _ ⟨by decide,_,_,_,by simp only[jH,kC,fS,jW,bH,a7];rfl⟩
 have h':left≠[]:=by
  rintro rfl
  simp at h
 rw[aE h'] at hR
 generalize jM p chs (.mk 3 yn ys yts) rest σ N left=x at *
 simp -implicitDefEqProofs only[aX,aB,seval,oV]
 cases x with
 | none=>
  simp only at hR F7
  subst hR
  refine(F7 _).mono ?_
  rintro _ _ ⟨rfl,rfl⟩
  simp -implicitDefEqProofs only[aK,aX,aB,↓aU,seval,oV]
  exact CS _ _ _ (by simp only[v6,qB,bH,DT];simp only[jH,kC,fS,jW,bH,a7])
 | some s=>
  simp only[qB] at hR F7
  subst hR
  refine(F7 _).mono ?_
  rintro _ _ ⟨rfl,rfl⟩
  simp -implicitDefEqProofs only[aK,aX,aB,↓aU,seval,oV]
  exact CS _ _ _ (by simp only[jH,kC,fS,jW,bH,a7];rfl)
theorem a86{N:Int}{t:Tm}(h:cO N t):dO 0 t=t:=by
 have h1:dO 0 t=t.aN vr:=by
  unfold dO cD
  congr 1
  funext v
  congr 1
  simp
 rw[h1,VO t h.2.1]
theorem aAH(N:Nat):dA N Sub.none=List.replicate N zt:=by
 apply EJ
 intro i
 by_cases h:i<N
 · rw[CH N _ h,List.getElem?_replicate,aH h];try rfl
 · rw[xI (by rw[wC];omega),xI (by simp;omega)]
abbrev XP:=zi tI_3 (zi zI_3 (zi aY (zi tI_31 (zi zI_31 (zi aQ (zi bS (zi bT (zi cI (zi tI_163 (zi zI_163 (zi yC (zi CP (zi CR (zi LJ (zi tI_166 (zi zI_166 (zi I3 (zi I4 (zi I5 IK)))))))))))))))))))
theorem aZ1(q:List Tm)(hq:∀t∈q,bJ 26 t)(h6:q.length≤6)(st:aA):aD prog 158 [.slice (q.map Tm.av)] st (fun r st'=>r=qB (nS q)∧st'=st):=by
 have hgo:∀st,aD prog 237 [.slice (q.map Tm.av),.int .i64 0,.int .i64 0,.fslice []] st (fun r st'=>r=.slice ((nS q).goals.map eY)∧st'=st):=fun st=>
  aD.rH ((aB3 q 0 0 [] hq h6 (by omega) (by simp) st).mono fun _ _ h=>⟨by
   rw[h.1]
   unfold nS
   rw[gF]
   congr 2
   exact sQ fun t ht=>by rw[a86 (hq t ht).1],h.2⟩)
 refine aD.oK (aD.fin (aD.nG ?_))
 refine wF [1000000,3] 1 func158 ntmps158 rfl rfl ?_
 intro _
 simp -implicitDefEqProofs only[aB,seval,XP]
 intro b2 h2
 simp -implicitDefEqProofs only[z8,aK,yD,↓NB,↓LT,List.contains,List.elem,BV,rL,sO,↓reduceIte,reduceCtorEq,Nat.reduceEqDiff,Nat.reduceAdd,Nat.reduceLT,Nat.reduceBEq,XP]
 refine⟨by omega,by omega,by omega,fun bb hbb=>?_⟩
 rw[show Int.toNat 26=26 from rfl,aQK _ (by simp)]
 have hb2:bb≠b2:=by rintro rfl;rw[aA.aJ] at hbb;cases hbb
 have NZ:(List.replicate 26 [AV.int .i64 0,.int .i64 0,.str ⟨#[]⟩,.fslice []]).flatten=(dA 26 Sub.none).flatMap AV.cells:=by
  rw[aAH];try rfl
 rw[NZ]
 have h22:(st.aC b2 (AO.cells [AV.fslice [],AV.fslice [],AV.fslice []])) b2=some (AO.cells [AV.fslice [],AV.fslice [],AV.fslice []]):=aA.aJ _ _ _
 have hD2:aL (st.aC b2 (AO.cells [AV.fslice [],AV.fslice [],AV.fslice []])) st:=(aL.refl _).aC h2
 intro b3 h3
 have h3b:b3≠bb:=by rintro rfl;rw[aA.aJ] at h3;cases h3
 rw[aA.aG _ _ h3b] at h3
 have h32:b3≠b2:=by rintro rfl;rw[aA.aJ] at h3;cases h3
 have hs3:st b3=none:=by rw[aA.aG _ _ h32] at h3;exact h3
 have hsb:st bb=none:=by rw[aA.aG _ _ hb2] at hbb;exact hbb
 refine(hgo _).to ?_
 have e1:=dH h3b
 have e2:=dH h32
 have e3:=dH hb2
 simp -implicitDefEqProofs only[aK,e2,e3,aA.aJ,aB,seval,XP]
 have pX:dA 26 Sub.none≠[]:=by rw[aAH];simp
 refine⟨st.aC bb (.cells ((dA 26 Sub.none).flatMap AV.cells)),fun q'=>?_,bb,dA 26 Sub.none,st,by rw[jU pX],fun _=>hsb,IJ _ _,⟨4,E4 _ _⟩,?_,aL.refl _⟩
 · by_cases q2:q'=b2
   · subst q2;rw[aA.aJ,aA.aG _ _ e3,h2];simp
   rw[aA.aG _ _ q2]
   by_cases q3:q'=b3
   · subst q3;rw[aA.aJ,aA.aG _ _ h3b,hs3];simp
   simp only[aA.aG _ _ q3]
   by_cases qb:q'=bb
   · subst qb;rw[aA.aJ,aA.aJ];simp
   rw[aA.aG _ _ qb,aA.aG _ _ qb,aA.aG _ _ q2]
   simp
 · simp only[jH,jW,oL,bH,a7,NH (show 0<26 by omega)]
   rfl
end Go.AW
