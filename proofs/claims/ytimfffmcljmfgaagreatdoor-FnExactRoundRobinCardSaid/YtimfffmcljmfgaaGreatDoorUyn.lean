/- An owned slice that is handed to a call and never written again. -/
import Derived.Test.YtimfffmcljmfgaaGreatDoorUym
import Derived.Test.YtimfffmcljmfgaaGreatDoorUyf
import Derived.Test.YtimfffmcljmfgaaGreatDoorUyl
import Derived.Test.YtimfffmcljmfgaaGreatDoorUyj
set_option linter.unusedSimpArgs false
set_option linter.unusedVariables false
set_option maxRecDepth 100000
namespace Go.AW
theorem cV.fz{h:bF}{st:aA}{b:Nat}{es:List AV}(S:cI h st)(hb:st b=some (.cells (es.flatMap AV.cells)))(hj:∀e∈es,e.cD=false)(hE:jG es):∀ {us:List AV} {vs:List Value},cV h st us vs→cV h (st.erase b) (j8 b es us) vs
 | [],vs,x=>by simp only[cV] at x;simp [j8,cV,x]
 | a::us,vs,x=>by
  simp only[cV] at x
  obtain⟨v,r,rfl,x1,x2⟩:=x
  simp only[j8,cV]
  exact⟨v,r,rfl,x1.fz S hb hj hE,cV.fz S hb hj hE x2⟩
theorem bU.unerase{h h':bF}{st st':aA}{b:Nat}(x:bU h (st.erase b) h' st'):bU h st h' st':=
 ⟨x.size,fun c hc e=>x.aU c hc (aA.aUA st e),x.shape⟩
theorem aD.aVF{P:Program}{g:FuncId}{args:List AV}{st:aA}{Q:AV→aA→Prop}(b:Nat)(es:List AV)(hb:st b=some (.cells (es.flatMap AV.cells)))(hj:∀e∈es,e.cD=false)(hE:jG es)(x:aD P g (j8 b es args) (st.erase b) Q):aD P g args st Q:=
 ⟨x.1,fun w vs S V=>(x.2 w vs ((jP st b).GW S) (V.fz S hb hj hE)).mono fun _ _ ⟨v,r,st',e,a,b',c,d,q⟩=>⟨v,r,st',e,a,b',c.unerase,d,q⟩⟩
def Lit(st:aA)(w:Nat)(l:List AV)(q:AV)(s:aA):Prop:=(q=.fslice l∧s=st)∨∃b,st b=none∧q=.mslice b 0 l.length w∧s=st.aC b (.cells (l.flatMap AV.cells))
theorem aPC{P:Program}{t:TypeId}{ag:Bool}{w bytes:Nat}{zs:List AV}{st:aA}{es xs:List AV}{x:AV}{K:AV→aA→Prop}(hI:eI P t=some (ag,w))(hB:eB P t=some bytes)(hZ:eZ P t=some zs)(hz:zs.length=w)(hx:x=.slice xs∨x=.fslice xs)(hes:∀e∈es,e.width=w)(eL:uV w xs)(hl:(es.length+xs.length)*bytes≤140737488355328)(hl2:es.length+xs.length≤9223372036854775807)
 (hK:∀q s,Lit st w (es++xs) q s→K q s):iZ P t st (.fslice es) x K:=by
 unfold iZ
 have he:wJ x=some xs:=by rcases hx with rfl | rfl<;>rfl
 simp only[hI,hB,hZ,he]
 refine⟨hz,eL,hl,hl2,hes,fun h=>?_,fun _ b hb=>?_⟩
 · subst h
   exact hK _ _ (.inl ⟨by rw[fA],rfl⟩)
 · exact hK _ _ (.inr ⟨b,hb,by rw[dP],rfl⟩)
theorem Lit.call{P:Program}{g:FuncId}{st s:aA}{w:Nat}{l:List AV}{q:AV}{post:List AV}{Q:AV→aA→Prop}(h:Lit st w l q s)(hj:∀e∈l,e.cD=false)(hw:∀e∈l,e.width=w)(hp:∀b,j8 b l post=post)(x:aD P g (.slice l::post) st Q):aD P g (q::post) s Q:=by
 rcases h with ⟨rfl,rfl⟩ | ⟨b,hb,rfl,rfl⟩
 · refine aD.args x fun hp vs S V=>?_
   simp only[cV] at V ⊢
   obtain⟨v,r,rfl,V1,V2⟩:=V
   exact⟨v,r,rfl,V1.FO,V2⟩
 · refine aD.aVF b l (aA.aJ _ _ _) hj ⟨w,hw⟩ ?_
   rw[aA.yX st b _ hb]
   have:j8 b l (.mslice b 0 l.length w::post)=.slice l::post:=by
    show(AV.mslice b 0 l.length w).fz b l::j8 b l post=_
    rw[hp]
    simp [AV.fz]
   rw[this]
   exact x
end Go.AW
namespace Go.AW
open Go.Proofs.Tryz
def nv(i:Nat):AV:=.int .i64 (i:Int)
def eG:RG→AV
 | ⟨.mk k n s ts,aU⟩=>.agg [.int .i64 k,.int .i64 n,.str s,.slice (ts.map Tm.av),.int .i64 (aU:Int)]
theorem zY(k n:Int)(s:ByteArray)(ts:List Tm)(aU:Nat):eG ⟨.mk k n s ts,aU⟩=.agg [.int .i64 k,.int .i64 n,.str s,.slice (ts.map Tm.av),.int .i64 (aU:Int)]:=rfl
theorem a00(g:RG):eG g=.agg (g.t.av.cells++ [.int .i64 (g.aU:Int)]):=by obtain⟨⟨k,n,s,ts⟩,aU⟩:=g;rw[bA];try rfl
theorem DB(g:RG):(eG g).width=5:=by obtain⟨⟨k,n,s,ts⟩,aU⟩:=g;rfl
theorem a01(g:RG):(eG g).cells.all AV.storable=true:=by obtain⟨⟨k,n,s,ts⟩,aU⟩:=g;rfl
theorem a0Z(g:RG):(eG g).cD=false:=by obtain⟨⟨k,n,s,ts⟩,aU⟩:=g;rfl
def fG:RC→AV
 | ⟨.mk k n s ts,rest,left,σ,N⟩=>.agg [.int .i64 k,.int .i64 n,.str s,.slice (ts.map Tm.av),.slice (rest.map eG),.slice (left.map nv),.slice (cP N σ)]
theorem KU(g:RC):(fG g).width=7:=by obtain⟨⟨k,n,s,ts⟩,_,_,_,_⟩:=g;rfl
theorem a0O(g:RC):(fG g).cells.all AV.storable=true:=by obtain⟨⟨k,n,s,ts⟩,_,_,_,_⟩:=g;rfl
theorem a0N(g:RC):(fG g).cD=false:=by obtain⟨⟨k,n,s,ts⟩,_,_,_,_⟩:=g;rfl
def nW(s:RS):AV:=.agg [.slice (s.goals.map eG),.slice (cP s.N s.σ),.slice (s.chs.map fG)]
abbrev SA:=zi tI_3 (zi zI_3 (zi a7 (zi tI_4 (zi zI_4 (zi cL (zi tI_31 (zi zI_31 (zi aR (zi bO (zi bP (zi cF (zi tI_66 (zi zI_66 (zi b9 (zi cA (zi cB (zi cC bZ)))))))))))))))))
theorem VZ:∀(t:Tm) (d:Nat) (st:aA),d≤1000→t.small=true→aD prog 303 [t.av,.int .i64 (d:Int)] st (fun r st'=>r=.bool (t.flat d)∧st'=st)
 | .mk k n s ts,d,st,hd,hsm=>by
  obtain⟨hlen,oQ⟩:=Tm.o9 hsm
  have IH:=fun(x:Tm) (hx:x∈ts) d st h=>VZ x d st h (oQ x hx)
  simp only[bA]
  refine wF [1000000] 2 func303 ntmps303 rfl rfl ?_
  intro _
  simp -implicitDefEqProofs only[aB,seval,SA]
  refine aT (fun h=>?_) (fun h=>?_)
  · simp only[bM] at h
    obtain rfl:d=0:=by omega
    simp -implicitDefEqProofs only[aB,↓aY,seval]
    rw[Tm.FM]
  simp only[cM] at h
  obtain⟨e,rfl⟩:∃e,d=e+1:=⟨d - 1,by omega⟩
  rw[Tm.vD]
  have hw1:IntKind.i64.wrap ((e:Int)+1 - 1)=(e:Int):=by rw[wrap64 (by omega) (by omega)];omega
  simp -implicitDefEqProofs only[aB,seval]
  refine dL (σ:=Unit) [1000000] [1,2] ts (fun i _=>((ts.drop i).all fun t=>t.flat e)=(ts.all fun t=>t.flat e)) (fun i _=>[(5,.int .i64 i)]) (fun _ _=>st) (by decide +kernel) ⟨(),rfl,aN.mk (by simp -implicitDefEqProofs only[aB,↓aY,seval])⟩ (fun i x _ hx hlt bB hdr hinv=>?_) (fun _ hge hinv=>?_)
  case refine_2=>
   simp -implicitDefEqProofs only[hge,aE,aB,seval,SA]
   rw[←hinv,gT]
   try rfl
  have hw:=bG (n:=(i:Int)+1)
  rw[hdr,jI] at hinv
  simp -implicitDefEqProofs only[bB,aE,bH (av:=Tm.av) aR hx (aO x),cE,aO,hw1,aB,seval,SA]
  refine(IH x (cG hx) e _ (by omega)).to ?_
  simp -implicitDefEqProofs only[aB,seval]
  refine aT (fun h2=>?_) (fun h2=>?_)
  · simp -implicitDefEqProofs only[aB,seval]
    simp only[gW] at h2
    rw[←hinv,h2]
    try rfl
  · simp only[kJ] at h2
    rw[h2,iY] at hinv
    simp -implicitDefEqProofs only[aB,seval]
    exact⟨(),hinv,aN.mk (by simp -implicitDefEqProofs only[hw,aB,seval])⟩
termination_by t=>SizeOf.sizeOf t
decreasing_by have:=List.sizeOf_lt_of_mem hx;simp only[Tm.mk.sizeOf_spec];omega
abbrev G0:=zi tI_3 (zi zI_3 (zi a7 (zi tI_4 (zi zI_4 (zi cL (zi tI_31 (zi zI_31 (zi aR (zi bO (zi bP (zi cF (zi tI_66 (zi zI_66 (zi b9 (zi cA (zi cB (zi cC bZ)))))))))))))))))
theorem V3{N:Nat}{σ:Sub}(hg:cJ σ)(ho:cK (bD N) σ)(t:Tm)(ht:bD N t)(st:aA) :
 aD prog 238 [t.av,.slice (cP N σ)] st (fun r st'=>st'=st∧∃x:Tm,r=.tup [x.av,.bool (eK (t.aK (rs σ)))]∧(eK (t.aK (rs σ))=true→x=t.aK (rs σ))):=by
 obtain⟨rk,B,G⟩:=hg.rs
 have PL:=fun st=>U3 G ho 120 t st (cO _) ht
 have hV:=G.QK ho.lP ht.1
 refine aD.oJ (aD.soft ?_)
 refine wF [1000000] 2 func238 ntmps238 rfl rfl ?_
 intro _
 simp -implicitDefEqProofs only[cE,aO,Tm.eN,aB,seval,G0]
 intro b4 h4
 refine(PL _).mono ?_
 rintro _ _ ⟨rfl,x,left,rfl,h1,h2⟩
 simp -implicitDefEqProofs only[aO,Tm.d5,Tm.eN,aB,↓aY,seval,G0]
 refine wP [(1,1),(2,1),(3,1),(4,2),(0,1),(5,0),(6,1),(7,0),(8,1)] [1,2,3,4,0,6,8] mixed ?_
 simp -implicitDefEqProofs only[aB,seval]
 refine cU (fun h=>?_) (fun h=>?_)
 · have h3:0≤left:=by simpa using h
   have h4:(t.aK (rs σ)).nodes≤120:=AY fun h5=>by rw[aG h5] at h2;omega
   rw[aH h4] at h2
   obtain⟨rfl,_⟩:=h2
   have h5:eK (t.aK (rs σ))=(t.aK (rs σ)).flat 30:=by unfold eK;simp [h4]
   simp -implicitDefEqProofs only[h,cE,aO,aB,seval,G0]
   refine(VZ _ 30 _ (by omega) hV.small).to ?_
   simp -implicitDefEqProofs only[aP,Tm.d5,Tm.eN,Tm.fN,aB,seval,G0]
   refine⟨st,(aM.refl _).aC ‹_›,rfl,_,by simp only[sZ,vV,Tm.soft,bR,bQ];rw[h5],fun _=>rfl⟩
 · have hx0:=trivial
   have h3:left<0:=by simpa using h
   have h4:¬(t.aK (rs σ)).nodes≤120:=fun h5=>by rw[aH h5] at h2;omega
   have h5:eK (t.aK (rs σ))=false:=by unfold eK;simp [h4]
   simp -implicitDefEqProofs only[h,aP,cE,aO,Tm.d5,Tm.eN,Tm.fN,rO (Tm.fN x),qU (cE x),aB,seval,G0]
   refine⟨st,(aM.refl _).aC ‹_›,rfl,x,by simp only[sZ,vV,Tm.soft,bR,bQ];rw[h5],fun h6=>?_⟩
   rw[h5] at h6;cases h6
theorem aVC(c:Cl):FN c=(bX (c.1::c.2) []).foldl (fun n v=>if n≤v then v+1 else n) 0:=rfl
abbrev LE:=zi tI_3 (zi zI_3 (zi a7 (zi tI_31 (zi zI_31 (zi aR (zi bO (zi bP (zi cF (zi tI_46 (zi zI_46 (zi cW (zi eJ (zi eF (zi eY (zi tI_66 (zi zI_66 (zi b9 (zi cA (zi cB (zi cC (zi bZ (zi tI_84 (zi zI_84 (zi lB (zi lC kV)))))))))))))))))))))))))
theorem aSA(c:Cl)(hc:fQ c)(h6:c.2.length≤6)(st:aA):aD prog 305 [bK c] st (fun r st'=>r=.int .i64 (nO c:Int)∧st'=st):=by
 have hvr:=fun v=>hc.vars (v:=v)
 have hok:=hc.CZ
 have hfr:(nO c:Int)=FN c:=by
  have:=(aHV (bX (c.1::c.2) []) 0).1
  unfold nO FN
  omega
 rw[hfr,aVC]
 have hnd:aL Tm.nodes (c.1::c.2)≤1099511627776:=by
  have:∀l:List Tm,(∀t∈l,bD 26 t)→aL Tm.nodes l≤l.length*120:=by
   intro l
   induction l with
   | nil=>intro _;simp [aL]
   | cons x l ih=>intro h;simp only[aL,a8];have:=ih fun y hy=>h y (by simp [hy]);have:=(h x (by simp)).2;omega
  have:=this _ hok
  simp only[a8] at this
  omega
 have hvl:=xU (c.1::c.2) []
 obtain⟨⟨k,n,s,ts⟩,bd⟩:=c
 simp only at h6 hnd hvl hvr hok
 rw[m7]
 refine aD.done ?_
 refine wF [1000000] 1 func305 ntmps305 rfl rfl ?_
 intro _
 simp -implicitDefEqProofs only[aB,seval,LE]
 refine aPC aR bO bP rfl (.inl rfl) (by intro e he;simp only[cQ,dD,dN] at he;subst he;rfl) (fun e he=>by simp only[bY] at he;obtain⟨t,_,rfl⟩:=he;exact⟨aO _,Tm.d5 _⟩) (by simp only[a8,bL,aE];omega) (by simp only[a8,bL,aE];omega) (fun q s2 hq=>?_)
 rw[←bA] at hq
 rw[show[(Tm.mk k n s ts).av]++bd.map Tm.av=((Tm.mk k n s ts)::bd).map Tm.av from rfl] at hq
 simp -implicitDefEqProofs only[aB,seval]
 refine Lit.call hq (rT _) (iP _) (fun _=>rfl) ?_
 refine(V8 _ _ (fun t ht=>Tm.tM t (hok t ht).1.2.1) hnd).to ?_
 generalize bX ((Tm.mk k n s ts)::bd) []=vs at *
 simp only[bL] at hvl
 simp -implicitDefEqProofs only[aB,seval]
 refine dL (σ:=Int) [1000000] [2,3] vs (fun i n=>(vs.drop i).foldl (fun n v=>if n≤v then v+1 else n) n=vs.foldl (fun n v=>if n≤v then v+1 else n) 0) (fun i n=>[(4,.int .i64 n),(5,.int .i64 i)]) (fun _ _=>st) (by decide +kernel) ⟨0,rfl,aN.mk (by simp -implicitDefEqProofs only[aB,↓aY,seval])⟩ (fun i x n hx hlt bB hdr hinv=>?_) (fun n hge hinv=>?_)
 case refine_2=>
  rw[gT] at hinv
  simp -implicitDefEqProofs only[aE,hge,aB,seval,LE]
  refine⟨?_,aM.refl _⟩
  rw[←hinv]
  try rfl
 rw[hdr,List.foldl_cons] at hinv
 have hw:=bG (n:=(i:Int)+1)
 obtain⟨t,ht,hv⟩:=(hvr x).1 (cG hx)
 have a6I:=(hok t ht).1.2.2 x hv
 have hw2:=bG (n:=x+1)
 have hat:dM prog 46 (.slice (vs.map iv)) (.int .i64 (i:Int))=some (.pptr (.int .i64 x)):=bH (av:=iv) cW hx rfl
 simp -implicitDefEqProofs only[aE,bB,hat,aB,seval,LE]
 refine aT (fun h=>?_) (fun h=>?_)
 · rw[aH (by simpa using h)] at hinv
   simp -implicitDefEqProofs only[hat,hw2,hw,aB,seval,LE]
   exact⟨x+1,hinv,aN.mk (by simp -implicitDefEqProofs only[aB,seval])⟩
 · rw[aG (by simpa using h)] at hinv
   simp -implicitDefEqProofs only[hw,aB,seval]
   exact⟨n,hinv,aN.mk (by simp -implicitDefEqProofs only[aB,seval])⟩
theorem aLG{M:Int}(m:Nat)(hm:M+m≤1073741824):∀t:Tm,cH M t→t.sh (m:Int)=c8 m t:=by
 intro t
 induction t using Tm.ind with
 | h k n s ts ih=>
  intro h
  rw[Tm.RA]
  by_cases hk:k=1
  · subst hk
    obtain⟨h0,h1,rfl,rfl⟩:=h.var
    unfold c8
    rw[aH rfl,xN _ (t:=.mk 1 n ⟨#[]⟩ []) rfl,wrap64 (by omega) (by omega)]
    try rfl
  · obtain⟨_,h2⟩:=h.own hk
    unfold c8 at ih ⊢
    rw[aG hk,vT _ hk]
    congr 1
    exact qM fun x hx=>ih x hx (h2 x hx)
abbrev LF:=zi tI_3 (zi zI_3 (zi a7 (zi tI_31 (zi zI_31 (zi aR (zi bO (zi bP (zi cF (zi tI_66 (zi zI_66 (zi b9 (zi cA (zi cB (zi cC (zi bZ (zi tI_163 (zi zI_163 (zi u9 (zi yU (zi yW (zi HB (zi tI_286 (zi zI_286 (zi aG7 (zi aG8 US)))))))))))))))))))))))))
theorem V0(bd:List Tm)(N aU:Nat)(rest:List RG)(hb:∀t∈bd,bD 26 t)(h6:bd.length≤6)(hN:N≤1048576)(hr:rest.length≤1048576)(st:aA) :
 aD prog 237 [.slice (bd.map Tm.av),.int .i64 (N:Int),.int .i64 (aU:Int),.slice (rest.map eG)] st (fun r st'=>r=.slice ((bd.map (fun t=>(⟨c8 N t,aU⟩:RG))++rest).map eG)∧st'=st):=by
 refine aD.pQ (aD.fin ?_)
 refine wF [1000000] 4 func237 ntmps237 rfl rfl ?_
 intro _
 simp -implicitDefEqProofs only[aB,seval,LF]
 refine dL (σ:=Nat) [1000000] [0,1,2,3,8] bd (fun i b=>((bd.take i).map (fun t=>(⟨c8 N t,aU⟩:RG))).map eG≠[]→st b=none) (fun i b=>[(9,bS 5 b (((bd.take i).map (fun t=>(⟨c8 N t,aU⟩:RG))).map eG)),(10,.int .i64 i)]) (fun i b=>bV st b (((bd.take i).map (fun t=>(⟨c8 N t,aU⟩:RG))).map eG)) (by decide +kernel) ⟨0,fun h=>absurd rfl h,aN.mk (by simp -implicitDefEqProofs only[jJ,bQ,lJ,aB,↓aY,seval])⟩ (fun i x b hx hlt bB hdr hinv=>?_) (fun b hge hinv=>?_)
 case refine_1=>
  have hw:=bG (n:=(i:Int)+1)
  have c7:(((bd.take i).map (fun t=>(⟨c8 N t,aU⟩:RG))).map eG).length=i:=by simp only[aE,dI];omega
  have htk:(((bd.take i).map (fun t=>(⟨c8 N t,aU⟩:RG))).map eG)++ [eG ⟨c8 N x,aU⟩]=(((bd.take (i+1)).map (fun t=>(⟨c8 N t,aU⟩:RG))).map eG):=by rw[eH,hx];simp
  have hxo:=hb x (cG hx)
  have hsh:=aLG N (by omega) x hxo.1
  have hcs:=NU (N:Int) x
  rw[hsh] at hcs
  have hgo:eG ⟨c8 N x,aU⟩=.agg ((c8 N x).av.cells++ [.int .i64 (aU:Int)]):=a00 _
  simp -implicitDefEqProofs only[bB,aE,bH (av:=Tm.av) aR hx (aO x),cE,aO,aB,seval,LF]
  refine(hcs _ hxo.1.small).to ?_
  generalize c8 N x=y at *
  obtain⟨yk,yn,ys,yt⟩:=y
  simp only[bA,zY] at htk hgo ⊢
  simp -implicitDefEqProofs only[aB,seval,LF]
  refine f9 u9 yU yW rfl rfl (g9 rfl rfl) (by intro e he;simp only[bY] at he;obtain⟨t,_,rfl⟩:=he;exact DB t) hinv (by simp only[c7,a8,bL];omega) (by simp only[c7,a8,bL];omega) (fun b' hb'=>?_)
  rw[htk] at hb' ⊢
  simp -implicitDefEqProofs only[hw,aB,seval]
  exact⟨b',hb',aN.mk (by simp -implicitDefEqProofs only[aB,seval])⟩
 rw[dQ] at hinv ⊢
 simp -implicitDefEqProofs only[aE,hge,aB,seval,LF]
 refine f9 (xs:=rest.map eG) u9 yU yW rfl rfl (by intro e he;simp only[bY] at he;obtain⟨t,_,rfl⟩:=he;exact⟨DB t,a01 t⟩) (by intro e he;simp only[bY] at he;obtain⟨t,_,rfl⟩:=he;exact DB t) hinv (by simp only[aE];omega) (by simp only[aE];omega) (fun b' hb'=>?_)
 rw[←mX] at hb' ⊢
 simp -implicitDefEqProofs only[aB,seval]
 exact⟨b',_,st,rfl,hb',by intro e he;simp only[bY] at he;obtain⟨t,_,rfl⟩:=he;exact a0Z t,⟨5,by intro e he;simp only[bY] at he;obtain⟨t,_,rfl⟩:=he;exact DB t⟩,by rw[nL],aM.refl _⟩
def pT(p:List Cl)(t:Tm)(i:Nat):Bool:=match p[i]? with
 | some c=>FU c t
 | none=>false
theorem JR(p:List Cl)(t:Tm):d6 p t=(List.range p.length).filter (pT p t):=rfl
theorem aHU(p:List Cl)(t:Tm)(i:Nat):(List.range (i+1)).filter (pT p t)=(List.range i).filter (pT p t)++(if pT p t i=true then[i] else[]):=by
 rw[List.range_succ,List.filter_append]
 congr 1
 by_cases h:pT p t i=true<;>simp [h]
theorem JS(p:List Cl)(t:Tm)(i:Nat):((List.range i).filter (pT p t)).length≤i:=by
 have:=List.length_filter_le (pT p t) (List.range i)
 rw[List.length_range] at this
 exact this
theorem QG(l:List Nat):∀e∈l.map nv,e.width=1:=by intro e h;simp only[bY] at h;obtain⟨t,_,rfl⟩:=h;rfl
abbrev DL:=zi tI_3 (zi zI_3 (zi a7 (zi tI_9 (zi zI_9 (zi d9 (zi tI_29 (zi zI_29 (zi eP (zi gO (zi gP (zi gV (zi tI_31 (zi zI_31 (zi aR (zi bO (zi bP (zi cF (zi tI_46 (zi zI_46 (zi cW (zi eJ (zi eF (zi eY (zi tI_66 (zi zI_66 (zi b9 (zi cA (zi cB (zi cC (zi bZ (zi tI_84 (zi zI_84 (zi lB (zi lC kV))))))))))))))))))))))))))))))))))
theorem aRZ(p:List Cl)(t:Tm)(hp:p.length≤1048576)(st:aA):aD prog 198 [.slice (p.map bK),t.av] st (fun r st'=>r=.slice ((d6 p t).map nv)∧st'=st):=by
 rw[JR]
 refine aD.done ?_
 obtain⟨tk,tn,ts',tts⟩:=t
 simp only[bA]
 refine wF [1000000] 2 func198 ntmps198 rfl rfl ?_
 intro _
 simp -implicitDefEqProofs only[aB,seval,DL]
 refine qJ (σ:=Unit) [1000000] [0,3,4] p 1 5 (fun i _=>((List.range i).filter (pT p (.mk tk tn ts' tts))).map nv) (fun _ _=>True) (fun i _=>[(6,.int .i64 i)]) (fun _ _=>st) (fun i _ _ e he=>by simp only[bY] at he;obtain⟨t,_,rfl⟩:=he;exact⟨rfl,rfl⟩) (by decide +kernel) ⟨(),0,trivial,fun h=>absurd rfl h,aN.mk (by simp -implicitDefEqProofs only[lJ,List.range_zero,List.filter_nil,bQ,aB,↓aY,seval])⟩ (fun i x s b hx hlt bB hdr hinv hb=>?_) (fun s b hge hinv=>?_)
 case refine_2=>
  simp -implicitDefEqProofs only[hge,f7,iL,pR,CB,nN,aE,aB,seval,DL]
  exact⟨rfl,aM.refl _⟩
 have hw:=bG (n:=(i:Int)+1)
 have hst:=aHU p (.mk tk tn ts' tts) i
 have hln:=JS p (.mk tk tn ts' tts) i
 have hat:=bH (av:=bK) (P:=prog) eP hx (gA x)
 obtain⟨⟨k,n,s',ts⟩,bd⟩:=x
 rw[m7] at hat
 have hP:pT p (.mk tk tn ts' tts) i=(decide (s'=ts')&&decide ((ts.length:Int)=(tts.length:Int))):=by unfold pT;rw[hx];try rfl
 rw[hP] at hst
 simp -implicitDefEqProofs only[bB,aE,aB,seval,DL]
 refine wP [(0,1),(1,1),(2,1),(3,1),(4,1),(6,1),(5,2),(7,2),(8,1),(9,1),(10,1),(11,1),(12,1),(13,1),(14,1),(17,1),(15,2),(16,1),(18,2),(19,1),(20,1),(21,1)] [0,1,2,3,4,6,5,7,8,9,10,11,12,13,14,17,15,16,18,19,20,21] mixed ?_
 simp -implicitDefEqProofs only[hat,aB,seval,DL]
 refine cU (fun h=>?_) (fun h=>?_)
 case refine_2=>
  have h':(decide (s'=ts')&&decide ((ts.length:Int)=(tts.length:Int)))=false:=by simp at h;simp [h]
  rw[h',aG (by simp),fA] at hst
  rw[←hst] at hb ⊢
  simp -implicitDefEqProofs only[h,hw,aB,seval]
  exact⟨(),b,hb,aN.mk (by simp -implicitDefEqProofs only[aB,seval])⟩
 have h1:decide (s'=ts')=true:=by simpa using h
 rw[h1,iY] at hst
 simp -implicitDefEqProofs only[h,aE,hat,aB,seval,DL]
 refine aT (fun h2=>?_) (fun h2=>?_)
 · rw[aH h2] at hst
   simp -implicitDefEqProofs only[aB,seval,DL]
   refine f9 cW eJ eF rfl rfl (g9 rfl rfl) (QG _) hb (by simp only[aE,a8,bL];omega) (by simp only[aE,a8,bL];omega) (fun b' hb'=>?_)
   rw[show ∀l:List Nat,l.map nv++ [AV.int .i64 (i:Int)]=(l++ [i]).map nv from fun l=>by simp [nv],←hst] at hb' ⊢
   simp -implicitDefEqProofs only[hw,aB,seval]
   exact⟨(),b',hb',aN.mk (by simp -implicitDefEqProofs only[aB,seval])⟩
 · rw[aG (by simp [h2]),fA] at hst
   rw[←hst] at hb ⊢
   simp -implicitDefEqProofs only[hw,aB,seval]
   exact⟨(),b,hb,aN.mk (by simp -implicitDefEqProofs only[aB,seval])⟩
theorem P4{n:Int}:∀ {l:List Int},l.Nodup→∀ {i:Nat},l[i]?=some n→∀j:Int,eQ n l j=j+i
 | [],_,i,h,j=>by simp at h
 | x::l,hd,0,h,j=>by
  simp only[A5,Option.some.injEq] at h
  subst h
  simp [eQ]
 | x::l,hd,i+1,h,j=>by
  rw[yF] at hd
  rw[A4] at h
  have hm:=cG h
  simp only[eQ]
  rw[aG (fun e:n=x=>hd.1 (e▸hm)),P4 hd.2 h (j+1)]
  omega
abbrev mP:=zi tI_3 (zi zI_3 (zi a7 (zi tI_9 (zi zI_9 (zi d9 (zi tI_31 (zi zI_31 (zi aR (zi bO (zi bP (zi cF (zi tI_46 (zi zI_46 (zi cW (zi eJ (zi eF (zi eY (zi tI_66 (zi zI_66 (zi b9 (zi cA (zi cB (zi cC bZ)))))))))))))))))))))))
theorem VR(vars:List Int)(hnd:vars.Nodup)(hvl:vars.length≤1048576):∀(t:Tm) (st:aA),t.small=true→t.cv=true→(∀v∈t.vl,v∈vars)→aD prog 304 [t.av,.slice (vars.map iv)] st (fun r st'=>r=(t.aK fun v=>vr (eQ v vars 0)).av∧st'=st)
 | .mk k n s ts,st,hsm,hcv,hin=>by
  obtain⟨hlen,oQ⟩:=Tm.o9 hsm
  obtain⟨hc1,hcs⟩:=Tm.pP.1 hcv
  have IH:=fun(x:Tm) (hx:x∈ts) st=>VR vars hnd hvl x st (oQ x hx) (hcs x hx) (fun v hv=>by
   by_cases hk:k=1
   · rw[(hc1 hk).2] at hx;cases hx
   · exact hin v ((Tm.lH hk).2 ⟨x,hx,hv⟩))
  generalize hg:(Tm.aK fun v=>vr (eQ v vars 0))=g at IH
  refine aD.pQ (aD.fin ?_)
  simp only[bA]
  refine wF [1000000,5] 2 func304 ntmps304 rfl rfl ?_
  intro _
  simp -implicitDefEqProofs only[aP,aB,↓aY,seval,mP]
  intro b4 h4 c hc
  have hne:c≠b4:=by rintro rfl;rw[aA.aJ] at hc;cases hc
  have hnc:st c=none:=by rw[aA.aF st _ hne] at hc;exact hc
  have PN:∀i:Nat,vars[i]?=some n→eQ n vars 0=(i:Int):=fun i hi=>by
   have:=P4 hnd hi 0
   omega
  generalize hW:st.aC b4 (.cells [AV.int .i64 0,AV.int .i64 0,AV.str ⟨#[]⟩,AV.fslice []])=W
  have hWc:W c=none:=by rw[←hW];exact hc
  have hW4:W b4=some (.cells [AV.int .i64 0,AV.int .i64 0,AV.str ⟨#[]⟩,AV.fslice []]):=by rw[←hW];exact aA.aJ _ _ _
  have hS:W b4≠none:=by rw[hW4];simp
  have JZ:b4≠c:=dF hne
  refine pC (σ:=Nat×Int) [1000000,5] [1,2,4,5] (fun p=>p.1≤vars.length∧(k≠1→p.2=n)∧(k=1→(n∈vars.take p.1→p.2=eQ n vars 0))) (fun p=>[(6,.int .i64 p.1)]) (fun p=>W.aC c (.cells [.int .i64 k,.int .i64 p.2,.str s,.fslice []])) (fun p=>vars.length - p.1) (by decide +kernel) ⟨(0,n),⟨nI _,fun _=>rfl,fun _ h=>by simp at h⟩,aN.mk (by simp -implicitDefEqProofs only[aB,↓aY,seval])⟩ ?_
  rintro⟨i,n'⟩ ⟨h1,h2,h3⟩
  simp only at h1 h2 h3
  have rest:(k=1→n'=eQ n vars 0)→True:=fun _=>trivial
  simp -implicitDefEqProofs only[aE,aB,seval,mP]
  have fin:(k=1→n'=eQ n vars 0)→g (.mk k n s ts)=.mk k n' s (ts.map g):=fun h4=>by
   rw[←hg]
   by_cases hk:k=1
   · obtain⟨rfl,rfl⟩:=hc1 hk
     rw[Tm.mK _ hk,h4 hk,hk];try rfl
   · rw[Tm.lN _ hk,h2 hk]
  refine cU (fun h=>?_) (fun h=>?_)
  case refine_2=>
   have h4:(k=1→n'=eQ n vars 0):=fun hk=>h3 hk (by
    have:i=vars.length:=by simp at h;omega
    rw[this,dQ]
    exact hin n (by rw[Tm.mV hk];simp))
   simp -implicitDefEqProofs only[h,aB,seval]
   refine dL (σ:=Nat) [1000000,5] [1,2,4,5] ts (fun i b=>(((ts.take i).map g).map Tm.av≠[]→(aA.aC W c (.cells ([AV.int .i64 k,AV.int .i64 (n'),AV.str s]++ [bS 4 b (((ts.take i).map g).map Tm.av)]))) b=none)) (fun i b=>[(7,.int .i64 i)]) (fun i b=>kO W c b [AV.int .i64 k,AV.int .i64 (n'),AV.str s] (((ts.take i).map g).map Tm.av)) (by decide +kernel)
    ⟨0,fun h=>absurd rfl h,aN.mk (by simp -implicitDefEqProofs only[aB,↓aY,seval])⟩ (fun i x b hx hlt bB hdr hinv=>?_) (fun b hge hinv=>?_)
   case refine_1=>
    have hw:=bG (n:=(i:Int)+1)
    have c7:(((ts.take i).map g).map Tm.av).length=i:=by simp only[aE,dI];omega
    have htk:(ts.take (i+1)).map g=(ts.take i).map g++ [g x]:=by rw[eH,hx];simp
    have hbo:=lM hinv
    simp -implicitDefEqProofs only[aE,bB,aE,aB,seval,mP]
    refine wP [(0,1),(2,1),(4,1),(7,1),(1,2),(3,2),(5,1),(6,2),(8,2),(9,1),(10,0),(11,1),(12,0)] [0,2,4,7,1,3,5,6,8,9,11] mixed ?_
    simp -implicitDefEqProofs only[bH (av:=Tm.av) aR hx (aO x),cE,aO,hbo,qR,aB,seval,mP]
    refine kC (IH x (cG hx) _) ?_
    simp -implicitDefEqProofs only[cE,aO,Tm.eN,aB,seval,mP]
    refine f9 aR bO bP rfl rfl (g9 (aO _) (Tm.d5 _)) (iP _) hinv (by simp only[c7,a8,bL];omega) (by simp only[c7,a8,bL];omega) (fun b' hb'=>?_)
    rw[show(((ts.take i).map g).map Tm.av)++ [(g x).av]=((ts.take (i+1)).map g).map Tm.av by rw[htk];simp] at hb' ⊢
    obtain⟨g1,g2,g3⟩:=vM hb'
    simp only[gH,eU] at g1 g3
    simp -implicitDefEqProofs only[g3,qS,j5,aP,g1,hw,aP,aB,seval,mP]
    exact⟨b',g2,aN.mk (by simp -implicitDefEqProofs only[aB,seval])⟩
   have hbo:=lM hinv
   rw[dQ] at hinv hbo ⊢
   simp -implicitDefEqProofs only[aE,hge,aE,aB,seval,mP]
   simp -implicitDefEqProofs only[hbo,aP,aB,seval,mP]
   have g1:=nC hinv hS JZ
   rw[hW4] at g1
   simp -implicitDefEqProofs only[g1,j5,aB,seval]
   obtain⟨g2,g3⟩:=t7 (o:=.cells [AV.int .i64 k,AV.int .i64 (n'),AV.str s,bS 4 b ((ts.map g).map Tm.av)]) hinv hS JZ
   refine⟨b,_,_,g2,g3,rT _,⟨4,iP _⟩,?_,fun x=>?_⟩
   · simp only[iK,bR,bQ,f7,oL,nL,←bA]
     rw[fin h4]
   · subst hW
     by_cases e3:x=b4<;>by_cases e4:x=c<;>simp_all [aA.aC]
  have hlt:i<vars.length:=by simpa using h
  simp -implicitDefEqProofs only[h,aB,seval,mP]
  refine aT (fun h5=>?_) (fun h5=>?_)
  case refine_2=>
   have h5':k≠1:=by simpa using h5
   have h4:(k=1→n'=eQ n vars 0):=fun hk=>absurd hk h5'
   simp -implicitDefEqProofs only[aB,seval]
   refine dL (σ:=Nat) [1000000,5] [1,2,4,5] ts (fun i b=>(((ts.take i).map g).map Tm.av≠[]→(aA.aC W c (.cells ([AV.int .i64 k,AV.int .i64 (n'),AV.str s]++ [bS 4 b (((ts.take i).map g).map Tm.av)]))) b=none)) (fun i b=>[(7,.int .i64 i)]) (fun i b=>kO W c b [AV.int .i64 k,AV.int .i64 (n'),AV.str s] (((ts.take i).map g).map Tm.av)) (by decide +kernel)
    ⟨0,fun h=>absurd rfl h,aN.mk (by simp -implicitDefEqProofs only[aB,↓aY,seval])⟩ (fun i x b hx hlt bB hdr hinv=>?_) (fun b hge hinv=>?_)
   case refine_1=>
    have hw:=bG (n:=(i:Int)+1)
    have c7:(((ts.take i).map g).map Tm.av).length=i:=by simp only[aE,dI];omega
    have htk:(ts.take (i+1)).map g=(ts.take i).map g++ [g x]:=by rw[eH,hx];simp
    have hbo:=lM hinv
    simp -implicitDefEqProofs only[aE,bB,aE,aB,seval,mP]
    refine wP [(0,1),(2,1),(4,1),(7,1),(1,2),(3,2),(5,1),(6,2),(8,2),(9,1),(10,0),(11,1),(12,0)] [0,2,4,7,1,3,5,6,8,9,11] mixed ?_
    simp -implicitDefEqProofs only[bH (av:=Tm.av) aR hx (aO x),cE,aO,hbo,qR,aB,seval,mP]
    refine kC (IH x (cG hx) _) ?_
    simp -implicitDefEqProofs only[cE,aO,Tm.eN,aB,seval,mP]
    refine f9 aR bO bP rfl rfl (g9 (aO _) (Tm.d5 _)) (iP _) hinv (by simp only[c7,a8,bL];omega) (by simp only[c7,a8,bL];omega) (fun b' hb'=>?_)
    rw[show(((ts.take i).map g).map Tm.av)++ [(g x).av]=((ts.take (i+1)).map g).map Tm.av by rw[htk];simp] at hb' ⊢
    obtain⟨g1,g2,g3⟩:=vM hb'
    simp only[gH,eU] at g1 g3
    simp -implicitDefEqProofs only[g3,qS,j5,aP,g1,hw,aP,aB,seval,mP]
    exact⟨b',g2,aN.mk (by simp -implicitDefEqProofs only[aB,seval])⟩
   have hbo:=lM hinv
   rw[dQ] at hinv hbo ⊢
   simp -implicitDefEqProofs only[aE,hge,aE,aB,seval,mP]
   simp -implicitDefEqProofs only[hbo,aP,aB,seval,mP]
   have g1:=nC hinv hS JZ
   rw[hW4] at g1
   simp -implicitDefEqProofs only[g1,j5,aB,seval]
   obtain⟨g2,g3⟩:=t7 (o:=.cells [AV.int .i64 k,AV.int .i64 (n'),AV.str s,bS 4 b ((ts.map g).map Tm.av)]) hinv hS JZ
   refine⟨b,_,_,g2,g3,rT _,⟨4,iP _⟩,?_,fun x=>?_⟩
   · simp only[iK,bR,bQ,f7,oL,nL,←bA]
     rw[fin h4]
   · subst hW
     by_cases e3:x=b4<;>by_cases e4:x=c<;>simp_all [aA.aC]
  have hk:k=1:=by simpa using h5
  obtain⟨x,hx⟩:∃x,vars[i]?=some x:=⟨_,dZ hlt⟩
  have hat:dM prog 46 (.slice (vars.map iv)) (.int .i64 (i:Int))=some (.pptr (.int .i64 x)):=bH (av:=iv) cW hx rfl
  have hw:=bG (n:=(i:Int)+1)
  have htk:vars.take (i+1)=vars.take i++ [x]:=by rw[eH,hx];try rfl
  simp -implicitDefEqProofs only[aB,seval]
  refine wP [(0,1),(1,1),(2,1),(4,1),(3,2),(5,2),(6,1)] [0,1,2,4,3,5,6] mixed ?_
  simp -implicitDefEqProofs only[hat,aB,seval,mP]
  refine aT (fun h6=>?_) (fun h6=>?_)
  · have h6':x=n:=by simpa using h6
    subst h6'
    simp -implicitDefEqProofs only[aP,hw,aB,seval,mP]
    refine⟨(i+1,(i:Int)),by simp only;omega,⟨hlt,fun h=>absurd hk h,fun _ _=>(PN i hx).symm⟩,aN.mk (by simp -implicitDefEqProofs only[aB,seval])⟩
  · have h6':x≠n:=by simpa using h6
    simp -implicitDefEqProofs only[hw,aB,seval]
    refine⟨(i+1,n'),by simp only;omega,⟨hlt,h2,fun hk hm=>h3 hk ?_⟩,aN.mk (by simp -implicitDefEqProofs only[aB,seval])⟩
    rw[htk,dS] at hm
    rcases hm with hm | hm
    · exact hm
    · simp only[cQ,dD,dN] at hm
      exact absurd hm.symm h6'
termination_by t=>SizeOf.sizeOf t
decreasing_by have:=List.sizeOf_lt_of_mem hx;simp only[Tm.mk.sizeOf_spec];omega
theorem L5:∀(ts:List Tm) (l:List Int),(∀t∈ts,t.wf=true)→l.Nodup→(bX ts l).Nodup
 | [],l,_,h=>h
 | t::ts,l,hw,h=>L5 ts _ (fun x hx=>hw x (by simp [hx])) ((S5 t (hw t (by simp)) l).2.1 h)
theorem CV:∀l:List Tm,(∀t∈l,t.nodes≤120)→aL Tm.nodes l≤l.length*120
 | [],_=>by simp [aL]
 | x::l,h=>by
  simp only[aL,a8]
  have:=CV l fun y hy=>h y (by simp [hy])
  have:=h x (by simp)
  omega
abbrev DM:=zi tI_3 (zi zI_3 (zi a7 (zi tI_31 (zi zI_31 (zi aR (zi bO (zi bP (zi cF (zi tI_46 (zi zI_46 (zi cW (zi eJ (zi eF (zi eY (zi tI_66 (zi zI_66 (zi b9 (zi cA (zi cB (zi cC bZ))))))))))))))))))))
theorem aRV{N:Int}(l:List Tm)(hok:∀t∈l,bD N t)(hl:l.length≤1000)(st:aA):aD prog 239 [.slice (l.map Tm.av)] st (fun r st'=>r=.slice ((oZ l).map Tm.av)∧st'=st):=by
 have hnd:=CV l fun t ht=>(hok t ht).2
 have PG:=L5 l [] (fun t ht=>Tm.tM t (hok t ht).1.2.1) lS
 have eX:=fun v=>xV (v:=v) l [] fun t ht=>(hok t ht).1.2.1
 have hvl:=xU l []
 simp only[bL] at hvl
 refine aD.done ?_
 refine wF [1000000] 1 func239 ntmps239 rfl rfl ?_
 intro _
 simp -implicitDefEqProofs only[aB,seval,DM]
 refine qJ (σ:=Unit) [1000000] [0,2] l 1 3 (fun i _=>(bX (l.take i) []).map iv) (fun _ _=>True) (fun i _=>[(4,.int .i64 i)]) (fun _ _=>st) (fun i _ _ e he=>by simp only[bY] at he;obtain⟨t,_,rfl⟩:=he;exact⟨rfl,rfl⟩) (by decide +kernel) ⟨(),0,trivial,fun h=>absurd rfl h,aN.mk (by simp -implicitDefEqProofs only[lJ,jJ,bX,bQ,aB,↓aY,seval])⟩ (fun i x s b hx hlt bB hdr hinv hb=>?_) (fun s b hge hinv=>?_)
 case refine_1=>
  have hw:=bG (n:=(i:Int)+1)
  have hat:=bH (av:=Tm.av) aR hx (aO x)
  have hst:=uD Tm.nodes hx
  have hvl:=xU (l.take i) []
  simp only[bL,gU] at hvl
  have htk:x.vars (bX (l.take i) [])=bX (l.take (i+1)) []:=by
   rw[eH,hx,SS]
   try rfl
  simp -implicitDefEqProofs only[bB,aE,hat,cE,aO,aB,seval,DM]
  refine(ET x (bX (l.take i) []) b st (Tm.tM x (hok x (cG hx)).1.2.1) hb (by omega)).mono ?_
  rintro _ _ ⟨b',rfl,rfl,hb'⟩
  rw[htk] at hb' ⊢
  simp -implicitDefEqProofs only[aB,seval]
  exact⟨(),b',hb',aN.mk (by simp -implicitDefEqProofs only[hw,aB,seval])⟩
 simp -implicitDefEqProofs only[hge,f7,iL,pR,nN,dQ,aE,aB,seval,DM]
 have hR:oZ l=l.map fun t=>t.aK fun v=>vr (eQ v (bX l []) 0):=rfl
 rw[hR]
 generalize bX l []=vars at *
 refine qJ (σ:=Unit) [1000000] [0,2,3] l 4 5 (fun i _=>((l.take i).map fun t=>t.aK fun v=>vr (eQ v vars 0)).map Tm.av) (fun _ _=>True) (fun i _=>[(6,.int .i64 i)]) (fun _ _=>st) (fun i _ _ e he=>by simp only[bY] at he;obtain⟨t,_,rfl⟩:=he;exact⟨Tm.eN _,aO _⟩) (by decide +kernel) ⟨(),0,trivial,fun h=>absurd rfl h,aN.mk (by simp -implicitDefEqProofs only[lJ,jJ,bQ,aB,↓aY,seval])⟩ (fun i x s b hx hlt bB hdr hinv hb=>?_) (fun s b hge hinv=>?_)
 case refine_2=>
  simp -implicitDefEqProofs only[hge,f7,iL,nN,dQ,aE,aB,seval,DM]
  exact⟨rfl,aM.refl _⟩
 have hw:=bG (n:=(i:Int)+1)
 have hat:=bH (av:=Tm.av) aR hx (aO x)
 have hxm:=cG hx
 have c7:(((l.take i).map fun t=>t.aK fun v=>vr (eQ v vars 0)).map Tm.av).length=i:=by simp only[aE,dI];omega
 simp -implicitDefEqProofs only[bB,aE,hat,cE,aO,aB,seval,DM]
 refine(VR vars PG (by omega) x _ (hok x hxm).1.small (hok x hxm).1.2.1 (fun v hv=>(eX v).2 (.inr ⟨x,hxm,hv⟩))).to ?_
 simp -implicitDefEqProofs only[cE,aO,Tm.eN,aB,seval,DM]
 refine f9 aR bO bP rfl rfl (g9 (aO _) (Tm.d5 _)) (iP _) hb (by simp only[c7,a8,bL];omega) (by simp only[c7,a8,bL];omega) (fun b' hb'=>?_)
 rw[show(((l.take i).map fun t=>t.aK fun v=>vr (eQ v vars 0)).map Tm.av)++ [(x.aK fun v=>vr (eQ v vars 0)).av]=((l.take (i+1)).map fun t=>t.aK fun v=>vr (eQ v vars 0)).map Tm.av by rw[eH,hx];simp] at hb' ⊢
 simp -implicitDefEqProofs only[aB,seval]
 exact⟨(),b',hb',aN.mk (by simp -implicitDefEqProofs only[hw,aB,seval])⟩
abbrev aMO:=zi tI_3 (zi zI_3 (zi a7 (zi tI_4 (zi zI_4 (zi cL (zi tI_31 (zi zI_31 (zi aR (zi bO (zi bP (zi cF (zi tI_66 (zi zI_66 (zi b9 (zi cA (zi cB (zi cC bZ)))))))))))))))))
theorem aRQ(l:List Tm)(st:aA):aD prog 134 [.slice (l.map Tm.av)] st (fun r st'=>r=.bool (l.all Tm.valid)∧st'=st):=by
 refine wF [1000000] 1 func134 ntmps134 rfl rfl ?_
 simp only[dK,AV.fits,dT,aE]
 intro ⟨hl,_⟩
 simp -implicitDefEqProofs only[aB,seval]
 refine dL (σ:=Unit) [1000000] [0] l (fun i _=>((l.drop i).all Tm.valid)=(l.all Tm.valid)) (fun i _=>[(3,.int .i64 i)]) (fun _ _=>st) (by decide +kernel) ⟨(),rfl,aN.mk (by simp -implicitDefEqProofs only[aB,↓aY,seval])⟩ (fun i x _ hx hlt bB hdr hinv=>?_) (fun _ hge hinv=>?_)
 case refine_2=>
  simp -implicitDefEqProofs only[hge,aE,aB,seval,aMO]
  rw[←hinv,gT]
  try rfl
 have hw:=bG (n:=(i:Int)+1)
 rw[hdr,jI] at hinv
 simp -implicitDefEqProofs only[bB,aE,bH (av:=Tm.av) aR hx (aO x),cE,aO,aB,seval,aMO]
 refine(N2 x _).to ?_
 simp -implicitDefEqProofs only[aB,seval]
 refine aT (fun h2=>?_) (fun h2=>?_)
 · simp -implicitDefEqProofs only[aB,seval]
   simp only[gW] at h2
   rw[←hinv,h2]
   try rfl
 · simp only[kJ] at h2
   rw[h2,iY] at hinv
   simp -implicitDefEqProofs only[aB,seval]
   exact⟨(),hinv,aN.mk (by simp -implicitDefEqProofs only[hw,aB,seval])⟩
theorem aJG(v:Int):∀(l:List Int) (i:Int),v∈l→i≤eQ v l i∧eQ v l i<i+l.length
 | [],i,h=>by cases h
 | x::l,i,h=>by
  simp only[eQ,a8]
  split
  · omega
  · rename_i e
    have h':v∈l:=by
     rcases cQ.1 h with h | h
     · exact absurd h e
     · exact h
    have:=aJG v l (i+1) h'
    omega
theorem aK2{N:Int}{l:List Tm}(hok:∀t∈l,bD N t)(hf:l.all eK=true):(oZ l).all Tm.valid=decide ((bX l []).length≤26):=by
 have eX:=fun v=>xV (v:=v) l [] fun t ht=>(hok t ht).1.2.1
 have PG:=L5 l [] (fun t ht=>Tm.tM t (hok t ht).1.2.1) lS
 have hro:∀t∈l,cH (bX l []).length (t.aK fun v=>vr (eQ v (bX l []) 0)):=fun t ht=>
  (hok t ht).1.aK fun v hv=>by
   have:=aJG v (bX l []) 0 ((eX v).2 (.inr ⟨t,ht,hv⟩))
   exact GH (by omega) (by omega)
 have eL:∀t∈l,eK (t.aK fun v=>vr (eQ v (bX l []) 0))=true:=fun t ht=>by
  have:=eD.1 hf t ht
  unfold eK at this ⊢
  rw[show(t.aK fun v=>vr (eQ v (bX l []) 0))=bT (fun v=>eQ v (bX l []) 0) t from rfl,Q7 _ (hok t ht).1.2.1,KW _ (hok t ht).1.2.1]
  exact this
 rw[x9,eD,bM]
 constructor
 · intro h
   refine AY fun hn=>?_
   obtain⟨w,hw⟩:∃w,(bX l [])[26]?=some w:=⟨_,dZ (by omega)⟩
   rcases (eX w).1 (cG hw) with h1 | ⟨t,ht,hv⟩
   · cases h1
   · have zH:=h _ (bY.2 ⟨t,ht,rfl⟩)
     have hin:=(Tm.HF zH).2.2 26 ((xX t).2 ⟨w,hv,by rw[P4 PG hw 0,xY];simp⟩)
     omega
 · intro h x hx
   obtain⟨t,ht,rfl⟩:=bY.1 hx
   have h1:=aKN.2 ((hro t ht).mono (show((bX l []).length:Int)≤26 by omega))
   rw[Tm.aNT h1]
   exact eL t ht
theorem a0X{N:Int}{l:List Tm}(hok:∀t∈l,bD N t):(oZ l).length=l.length:=by unfold oZ;rw[aE]
abbrev v8:=zi tI_3 (zi zI_3 (zi a7 (zi tI_4 (zi zI_4 (zi cL (zi tI_31 (zi zI_31 (zi aR (zi bO (zi bP (zi cF (zi tI_46 (zi zI_46 (zi cW (zi eJ (zi eF (zi eY (zi tI_59 (zi zI_59 (zi tT (zi tK (zi tI_66 (zi zI_66 (zi b9 (zi cA (zi cB (zi cC bZ)))))))))))))))))))))))))))
theorem aR8{N:Nat}{σ:Sub}(hg:cJ σ)(ho:cK (bD N) σ)(vars:List Int)(hv:∀v∈vars,0≤v∧v<(N:Int))(hl:vars.length≤1000)(st:aA) :
 aD prog 159 [.slice (vars.map iv),.slice (cP N σ)] st (fun r st'=>st'=st∧∃a,r=.tup [bJ a,.bool (iJ σ vars).isSome]∧∀x,iJ σ vars=some x→a=x):=by
 obtain⟨rk,B,G⟩:=hg.rs
 refine aD.oJ (aD.soft ?_)
 refine wF [1000000] 2 func159 ntmps159 rfl rfl ?_
 intro _
 simp -implicitDefEqProofs only[aB,seval,v8]
 intro b4 h4
 refine qJ (σ:=Unit) [1000000] [0,1,4] vars 4 6 (fun i _=>((vars.take i).map (rs σ)).map Tm.av) (fun i _=>((vars.take i).map (rs σ)).all eK=true) (fun i _=>[(5,.bool false),(7,.int .i64 i)]) (fun _ _=>st.aC b4 (.cells [.fslice []])) (fun i _ _ e he=>by simp only[bY] at he;obtain⟨t,_,rfl⟩:=he;exact⟨Tm.eN _,aO _⟩) (by decide +kernel) ⟨(),0,rfl,fun h=>absurd rfl h,aN.mk (by simp -implicitDefEqProofs only[lJ,jJ,bQ,aB,↓aY,seval])⟩ (fun i x s b hx hlt bB hdr hinv hb=>?_) (fun s b hge hinv=>?_)
 · have hw:=bG (n:=(i:Int)+1)
   have hxm:=cG hx
   obtain⟨hx0,hx1⟩:=hv x hxm
   have hvr:bD N (vr x):=⟨GH hx0 hx1,by rw[vr,Tm.kG];simp [aL]⟩
   have hat:dM prog 46 (.slice (vars.map iv)) (.int .i64 (i:Int))=some (.pptr (.int .i64 x)):=bH (av:=iv) cW hx rfl
   have c7:(((vars.take i).map (rs σ)).map Tm.av).length=i:=by simp only[aE,dI];omega
   have dC:((vars.take (i+1)).map (rs σ)).all eK=eK (rs σ x):=by
    rw[eH,hx]
    simp only[HP,mX,bR,bQ,A0,hinv,jI,List.all_nil,AT,iY]
   simp -implicitDefEqProofs only[bB,aE,hat,aB,seval,v8]
   refine(aRX x _).to ?_
   simp -implicitDefEqProofs only[aB,seval]
   refine(V3 hg ho (vr x) hvr _).mono ?_
   rintro _ _ ⟨rfl,y,rfl,hy⟩
   rw[vN] at hy ⊢
   simp -implicitDefEqProofs only[aO,Tm.d5,Tm.eN,aB,↓aY,seval,v8]
   refine aT (fun h=>?_) (fun h=>?_)
   · have h':eK (rs σ x)=false:=by simpa using h
     have pV:iJ σ vars=none:=by
      unfold iJ
      rw[aG]
      rintro⟨h1,_⟩
      have:=eD.1 h1 _ (bY.2 ⟨x,hxm,rfl⟩)
      rw[h'] at this;cases this
     have hbo:∀l,(l≠[]→st b=none)→(l≠[]→b≠b4)→(bV (st.aC b4 (.cells [.fslice []])) b l) b4=some (.cells [.fslice []]):=fun l _ h2=>by
      cases l with
      | nil=>exact aA.aJ _ _ _
      | cons e l=>simp only[bV];rw[aA.aF _ _ (dF (h2 (by simp)))];exact aA.aJ _ _ _
     have hnb:((vars.take i).map (rs σ)).map Tm.av≠[]→b≠b4:=fun h=>by rintro rfl;have:=hb h;rw[aA.aJ] at this;cases this
     have aW3:((vars.take i).map (rs σ)).map Tm.av≠[]→st b=none:=fun h=>by have:=hb h;rw[aA.aF _ _ (hnb h)] at this;exact this
     have e1:=hbo _ aW3 hnb
     simp -implicitDefEqProofs only[aP,e1,aB,seval,v8]
     rw[pV]
     refine⟨st,?_,rfl,[],rfl,fun x h=>by cases h⟩
     intro z
     by_cases hz:z=b4
     · subst hz;simp [aA.aC,h4]
     · rw[aA.aF _ _ hz]
       exact((aM.bV (aM.refl _) hb).trans ((aM.refl st).aC h4)) z
   · have h':eK (rs σ x)=true:=by simpa using h
     obtain rfl:=hy h'
     simp -implicitDefEqProofs only[cE,aO,Tm.eN,aB,seval,v8]
     refine f9 aR bO bP rfl rfl (g9 (aO _) (Tm.d5 _)) (iP _) hb (by simp only[c7,a8,bL];omega) (by simp only[c7,a8,bL];omega) (fun b' hb'=>?_)
     rw[show(((vars.take i).map (rs σ)).map Tm.av)++ [(rs σ x).av]=((vars.take (i+1)).map (rs σ)).map Tm.av by rw[eH,hx];simp] at hb' ⊢
     simp -implicitDefEqProofs only[hw,aB,seval]
     exact⟨(),b',by rw[dC];exact h',hb',aN.mk (by simp -implicitDefEqProofs only[aB,seval])⟩
 · rw[dQ] at hinv
   have hok:∀t∈vars.map (rs σ),bD N t:=fun t ht=>by
    obtain⟨v,h,rfl⟩:=bY.1 ht
    obtain⟨h0,h1⟩:=hv v h
    have hf:=eD.1 hinv _ ht
    unfold eK at hf
    simp only[cT,bM] at hf
    exact⟨G.lP ho.lP v h0 h1,hf.2⟩
   have zH:=aK2 hok hinv
   have pV:iJ σ vars=if(bX (vars.map (rs σ)) []).length≤26 then some (oZ (vars.map (rs σ))) else none:=by
    unfold iJ
    simp only[hinv,true_and]
   have aXI:=fun st=>aRV _ hok (by rw[aE];exact hl) st
   have dC:=fun st=>aRQ (oZ (vars.map (rs σ))) st
   rw[zH] at dC
   generalize oZ (vars.map (rs σ))=R at *
   generalize (bX (vars.map (rs σ)) []).length=m at *
   simp -implicitDefEqProofs only[hge,f7,vC,iL,JN,nN,dQ,vB,aE,aB,seval,v8]
   refine(aXI _).to ?_
   simp -implicitDefEqProofs only[aB,↓aY,seval,v8]
   refine wP [(1,1),(0,2),(2,2),(3,2),(4,0),(5,1)] [1,0,2,3,5] mixed ?_
   simp -implicitDefEqProofs only[aB,seval,v8]
   refine kC (dC _) ?_
   simp -implicitDefEqProofs only[aP,aB,seval,v8]
   refine⟨st,(aM.refl _).aC h4,rfl,R,?_,fun x h=>?_⟩
   · rw[pV]
     simp only[rM,sZ,vV,DE,bR,bQ]
     by_cases h:m≤26
     · simp [h]
     · simp [h]
   · rw[pV] at h
     split at h
     · cases h;rfl
     · cases h
theorem Q5(k n:Int)(s:ByteArray)(ts:List Tm)(rest:List RG)(left:List Nat)(σ:Sub)(N:Nat):fG ⟨.mk k n s ts,rest,left,σ,N⟩=.agg [.int .i64 k,.int .i64 n,.str s,.slice (ts.map Tm.av),.slice (rest.map eG),.slice (left.map nv),.slice (cP N σ)]:=rfl
structure wI (p:List Cl) (c:RC):Prop where
 gJ:cJ c.σ
 ok:cK (bD c.N) c.σ
 uZ:∀n,¬(0≤n∧n<(c.N:Int))→c.σ n=none
 goal:bD c.N c.goal
 rest:∀g∈c.rest,bD c.N g.t∧g.t.k=3
 left:∀i∈c.left,i<p.length
 len:c.rest.length≤524288
 aYV:c.left.length≤1048576
structure pJ (p:List Cl) (B:Nat) (s:RS):Prop where
 gJ:cJ s.σ
 ok:cK (bD s.N) s.σ
 uZ:∀n,¬(0≤n∧n<(s.N:Int))→s.σ n=none
 goals:∀g∈s.goals,bD s.N g.t∧g.t.k=3
 pos:0<s.N
 hN:s.N≤B
 gl:s.goals.length≤B
 oI:s.chs.length≤B
 chs:∀c∈s.chs,wI p c∧c.N+26≤B∧c.rest.length+26≤B∧0<c.N
theorem cK.upN{N M:Nat}{σ:Sub}(h:cK (bD N) σ)(hm:N≤M):cK (bD M) σ:=h.imp fun t ht=>ht.mono (by omega)
theorem aPK{N k:Nat}{σ:Sub}(hd:∀n,¬(0≤n∧n<(N:Int))→σ n=none):cP N σ++List.replicate k zt=cP (N+k) σ:=by
 apply A3
 intro i
 have hl:=tJ N σ
 by_cases hi:i<N
 · rw[TH (by omega),yP N σ hi,yP (N+k) σ (by omega)]
 · rw[TI (by omega),hl]
   by_cases h2:i<N+k
   · rw[yP (N+k) σ h2,hd (i:Int) (fun h=>hi (by omega)),List.getElem?_replicate,aH (by omega)]
     try rfl
   · rw[A6 (by simp;omega),A6 (by rw[tJ];omega)]
theorem aPE{N k b:Nat}{σ:Sub}(hd:∀n,¬(0≤n∧n<(N:Int))→σ n=none)(hN:N+k≤1048576){st:aA}{K:AV→aA→Prop}(hb:st b=none)
 (hK:∀b',st b'=none→K (.mslice b' 0 (N+k) 4) (st.aC b' (.cells ((cP (N+k) σ).flatMap AV.cells)))) :
 sB prog 31 3 (st.aC b (.cells ((cP N σ).flatMap AV.cells))) (.mslice b 0 N 4) (.int .i64 (k:Int)) K:=by
 have hu:prog.underlying 3=some (.int .i64):=by kernel_rfl
 have hl:((cP N σ).flatMap AV.cells).length=N*4:=by rw[lK (fun e he=>(UO N σ e he).1),tJ]
 have hH:((cP N σ).flatMap AV.cells).take (N*4)++jB [AV.int .i64 0,.int .i64 0,.str ⟨#[]⟩,.fslice []] k=(cP (N+k) σ).flatMap AV.cells:=by
  rw[←hl,dQ,F9 _ (by simp),←aPK hd,r7,List.flatMap_replicate]
  try rfl
 unfold sB
 simp only[aR,bO,bP,hu,aA.aJ,jV]
 refine⟨rfl,by omega,rfl,by omega,trivial,by omega,by omega,by omega,?_,fun b' hb'=>?_⟩
 · rw[hH,eA]
   exact hK b hb
 · rw[hH,aA.yX st b _ hb]
   refine hK b' ?_
   by_cases h:b'=b
   · subst h;exact hb
   · rwa [aA.aF _ _ h] at hb'
theorem aNM{st s2 V:aA}{o' o6:AO}{b6 b11 b13 b14 b:Nat}{L A:List AV}(hD:aM s2 st)(hA:s2 b11=some (.cells (A.flatMap AV.cells)))(h11:st b11=none)(h6:st b6=none)(h62:s2 b6≠none)(aH2:b6≠b11)(h13:s2 b13=none)(h14:s2 b14=none)
 (hV:∀q,q≠b13→q≠b14→V q=s2 q) (JV:V b13≠none) (CF:V b14≠none) (hb:L≠[]→V b=none) (hne:A≠[]) :
 aM (((bV V b L).aC b13 o').aC b6 o6) (bV (bV st b11 A) b L)∧(L≠[]→(bV st b11 A) b=none):=by
 have aIC:b13≠b11:=by rintro rfl;rw[h13] at hA;cases hA
 have aVV:b14≠b11:=by rintro rfl;rw[h14] at hA;cases hA
 have JT:b13≠b6:=by rintro rfl;exact h62 h13
 have n13:st b13=none:=(hD b13).1 h13
 have n14:st b14=none:=(hD b14).1 h14
 rw[j4 hne]
 have hbb:L≠[]→b≠b13∧b≠b11∧b≠b6∧b≠b14∧s2 b=none:=fun h=>by
  have h0:=hb h
  have e13:b≠b13:=by rintro rfl;exact JV h0
  have e14:b≠b14:=by rintro rfl;exact CF h0
  rw[hV b e13 e14] at h0
  exact⟨e13,(by rintro rfl;rw[h0] at hA;cases hA),(by rintro rfl;exact h62 h0),e14,h0⟩
 refine⟨fun q=>?_,fun h=>?_⟩
 · by_cases q6:q=b6
   · subst q6
     have:bV (st.aC b11 (.cells (A.flatMap AV.cells))) b L q=none:=by
      by_cases hL:L= []
      · subst hL;simp only[bV];rw[aA.aF _ _ aH2,h6]
      · obtain⟨_,_,e6,_⟩:=hbb hL
        rw[j4 hL,aA.aF _ _ (dF e6),aA.aF _ _ aH2,h6]
     rw[this];simp
   rw[aA.aF _ _ q6]
   by_cases q13:q=b13
   · subst q13
     have:bV (st.aC b11 (.cells (A.flatMap AV.cells))) b L q=none:=by
      by_cases hL:L= []
      · subst hL;simp only[bV];rw[aA.aF _ _ aIC,n13]
      · obtain⟨e13,_⟩:=hbb hL
        rw[j4 hL,aA.aF _ _ (dF e13),aA.aF _ _ aIC,n13]
     rw[this];simp
   rw[aA.aF _ _ q13]
   have rest:q≠b∨L= []→(V q=none→st.aC b11 (.cells (A.flatMap AV.cells)) q=none)∧∀o,st.aC b11 (.cells (A.flatMap AV.cells)) q=some o→V q=some o:=fun _=>by
    by_cases q14:q=b14
    · subst q14
      rw[aA.aF _ _ aVV,n14]
      simp
    rw[hV q q13 q14]
    by_cases q11:q=b11
    · subst q11;rw[aA.aJ,hA];simp
    rw[aA.aF _ _ q11]
    exact hD q
   by_cases hL:L= []
   · subst hL
     exact rest (.inr rfl)
   · rw[j4 hL,j4 hL]
     by_cases qb:q=b
     · subst qb;rw[aA.aJ,aA.aJ];simp
     rw[aA.aF _ _ qb,aA.aF _ _ qb]
     exact rest (.inl qb)
 · obtain⟨e13,e11,e6,e14,h0⟩:=hbb h
   rw[aA.aF _ _ e11]
   exact(hD b).1 h0
theorem yO{st:aA}{b q:Nat}{l:List AV}{o:AO}(hb:l≠[]→st b=none)(h:st q=some o):bV st b l q=some o:=by
 cases l with
 | nil=>exact h
 | cons x l=>
  rw[j4 (by simp),aA.aF _ _ (by rintro rfl;rw[hb (by simp)] at h;cases h)]
  exact h
theorem aHP{b b' o n w:Nat}{l:List AV}(h:l≠[]→b'≠b):(AV.mslice b' o n w).fin b l=.mslice b' o n w:=by
 unfold AV.fin
 cases l with
 | nil=>rfl
 | cons x l=>
  simp only[List.isEmpty_cons,jF,cS]
  cases o with
  | zero=>simp only[AV.fz];rw[aG (fun e=>h (by simp) e.1)];try rfl
  | succ o=>rfl
theorem JM{b N:Nat}{σ:Sub}(h0:0<N):(AV.mslice b 0 N 4).fin b (cP N σ)=.slice (cP N σ):=by
 have hl:=tJ N σ
 have h:cP N σ≠[]:=by intro e;rw[e] at hl;simp at hl;omega
 have:bS 4 b (cP N σ)=.mslice b 0 N 4:=by rw[oF h,hl]
 rw[←this,nL]
theorem a0P(l:List RC):∀e∈l.map fG,e.cD=false:=by intro e he;simp only[bY] at he;obtain⟨t,_,rfl⟩:=he;exact a0N t
theorem a0Q(l:List RC):∀e∈l.map fG,e.width=7:=by intro e he;simp only[bY] at he;obtain⟨t,_,rfl⟩:=he;exact KU t
theorem aLO{φ:AF}{d i:Nat}{l:List Nat}(hi:i+1<l.length)(h:φ d=.int .i64 ((i:Int)+1)):fD prog φ 46 (.slice (l.map nv)) (some (.tmp d)) none none=some (.slice ((l.drop (i+1)).map nv)):=by
 have he:φ.eval (.tmp d)=.int .i64 ((i:Int)+1):=h
 have hb:dB φ (some (.tmp d)) 0 l.length=some (i+1):=by
  simp only[dB,he]
  rw[aH (by omega)]
  congr 1
 have hwo:uH (l.map nv) (i+1) 1=true:=by
  unfold uH
  rw[kS,dZ hi]
  try rfl
 unfold fD
 rw[aG (by simp [nT])]
 simp only[mF,cW]
 rw[aG (by simp)]
 simp only[dB] at hb ⊢
 have ht:List.take l.length (l.map nv)=l.map nv:=mY (by simp)
 simp only[aE,hb,hwo,or_true,dX,ht]
 simp [yE]
abbrev rQ:=zi tI_3 (zi zI_3 (zi a7 (zi tI_4 (zi zI_4 (zi cL (zi tI_29 (zi zI_29 (zi eP (zi gO (zi gP (zi gV (zi tI_31 (zi zI_31 (zi aR (zi bO (zi bP (zi cF (zi tI_46 (zi zI_46 (zi cW (zi eJ (zi eF (zi eY (zi tI_66 (zi zI_66 (zi b9 (zi cA (zi cB (zi cC (zi bZ (zi tI_84 (zi zI_84 (zi lB (zi lC (zi kV (zi tI_163 (zi zI_163 (zi u9 (zi yU (zi yW (zi HB (zi tI_164 (zi zI_164 (zi wY (zi E2 (zi E3 (zi SX (zi tI_166 (zi zI_166 (zi E4 (zi E5 (zi E6 (zi EO (zi tI_254 (zi zI_254 (zi OH (zi OI (zi OJ (zi OK NO)))))))))))))))))))))))))))))))))))))))))))))))))))))))))))
theorem V4(p:List Cl)(hp:∀c∈p,fQ c∧c.2.length≤6)(gs0:List RG)(σ0:List AV)(cs:List RC)(c:RC)(hc:wI p c)(h0:0<c.N)(hN:c.N≤524288)(hcl:cs.length≤524288)(st:aA) :
 aD prog 241 [.slice (p.map bK),.agg [.slice (gs0.map eG),.slice σ0,.slice (cs.map fG)],fG c] st (fun r st'=>st'=st∧r=match iD p cs c.goal c.rest c.σ c.N c.left with
  | some s=>.tup [nW s,.bool true]
  | none=>.tup [.agg [.slice (gs0.map eG),.slice σ0,.slice (cs.map fG)],.bool false]):=by
 obtain⟨goal,rest,left,σ,N⟩:=c
 obtain⟨hg,ho,hd,hgo,hr,hle,hrl,hll⟩:=hc
 simp only at hg ho hd hgo hr hle hrl hll h0 hN
 obtain⟨gk,gn,gs',gts⟩:=goal
 rw[Q5]
 refine aD.fin (aD.fin (aD.oJ ?_))
 refine wF [1000000,13] 3 func241 ntmps241 rfl rfl ?_
 intro _
 simp -implicitDefEqProofs only[aB,seval,rQ]
 intro b6 h6
 generalize hW:st.aC b6 (.cells [.fslice [],.fslice [],.fslice []])=W
 have hW6:W b6=some (.cells [.fslice [],.fslice [],.fslice []]):=by rw[←hW];exact aA.aJ _ _ _
 have hDW:aM W st:=by rw[←hW];exact(aM.refl _).aC h6
 refine dL (σ:=Unit) [1000000] [0,4,5,6] left (fun i _=>iD p cs (.mk gk gn gs' gts) rest σ N (left.drop i)=iD p cs (.mk gk gn gs' gts) rest σ N left) (fun i _=>[(7,.bool false),(8,.int .i64 i)]) (fun _ _=>W) (by decide +kernel) ⟨(),rfl,aN.mk (by simp -implicitDefEqProofs only[aB,↓aY,seval])⟩ (fun i x _ hx hlt bB hdr hinv=>?_) (fun _ hge hinv=>?_)
 case refine_2=>
  simp -implicitDefEqProofs only[hge,aP,hW6,aE,aB,seval,rQ]
  refine⟨st,?_,0,[],st,rfl,by simp,by simp,⟨0,by simp⟩,0,[],st,rfl,by simp,by simp,⟨0,by simp⟩,rfl,?_⟩
  · intro z
    have:=hDW z
    by_cases hz:z=b6
    · subst hz;simp [aA.aC,h6]
    · rw[aA.aF _ _ hz];exact this
  · rw[←hinv,gT]
    simp only[iK,mH,vC,iL,bR,bQ,iD]
 have hw:=bG (n:=(i:Int)+1)
 have hxl:=hle x (cG hx)
 obtain⟨cl,hcx⟩:∃cl,p[x]?=some cl:=⟨_,dZ hxl⟩
 obtain⟨sQ,pY⟩:=hp cl (cG hcx)
 rw[hdr,iD.eq_def] at hinv
 simp only[hcx] at hinv
 have hat:dM prog 46 (.slice (left.map nv)) (.int .i64 (i:Int))=some (.pptr (.int .i64 (x:Int))):=bH (av:=nv) cW hx rfl
 have y9:=bH (av:=bK) (P:=prog) eP hcx (gA cl)
 have hcf:=aSA cl sQ pY
 obtain⟨⟨k,n,s',ts⟩,bd⟩:=cl
 rw[m7] at y9 hcf
 simp only at hinv
 simp -implicitDefEqProofs only[bB,aE,tJ,hat,y9,aB,↓aY,seval,rQ]
 refine wX [(0,1),(1,1),(2,1),(4,1),(3,0),(5,0),(6,0),(7,1)] [0,1,2,4,7] dH mixed rfl fV ?_
 simp -implicitDefEqProofs only[aB,seval,rQ]
 have hfr:=sQ.fr.1
 have hHd:=sQ.c8 N (.mk k n s' ts) (by simp)
 have hBd:=fun t ht=>(sQ.CZ t (MR _ ht))
 refine NI h0 (by omega) σ fun b hb hA0=>?_
 simp -implicitDefEqProofs only[aB,seval]
 refine⟨fV,?_⟩
 refine(hcf _).to ?_
 simp -implicitDefEqProofs only[aB,seval]
 refine⟨fV,?_⟩
 refine aPE hd (by omega) hb fun b11 h11=>?_
 simp -implicitDefEqProofs only[aB,seval]
 refine⟨fV,?_⟩
 have hA:=(show e9 (N+nO (.mk k n s' ts,bd)) (W.aC b11 (.cells ((cP (N+nO (.mk k n s' ts,bd)) σ).flatMap AV.cells))) b11 σ from aA.aJ _ _ _)
 have hDT:aM (W.aC b11 (.cells ((cP (N+nO (.mk k n s' ts,bd)) σ).flatMap AV.cells))) W:=(aM.refl _).aC h11
 have hh:=sQ.head
 generalize nO (.mk k n s' ts,bd)=fr at *
 generalize W.aC b11 (.cells ((cP (N+fr) σ).flatMap AV.cells))=T at *
 have hsh:Tm.sh (N:Int) (.mk k n s' ts)=c8 N (.mk k n s' ts):=aLG N (by omega) _ hh.1
 have hcs:=NU (N:Int) (.mk k n s' ts)
 rw[hsh] at hcs
 have hun:=EQ (N:=N+fr) (by omega) hg (ho.upN (by omega)) (.mk gk gn gs' gts) (c8 N (.mk k n s' ts)) (hgo.mono (by omega)) hHd b11
 generalize c8 N (.mk k n s' ts)=y at *
 obtain⟨yk,yn,ys,yt⟩:=y
 refine wX [(0,1),(1,1),(2,1),(3,1),(4,1),(6,1),(5,0),(7,0),(8,1)] [0,1,2,3,4,6,8] dH mixed rfl fV ?_
 simp -implicitDefEqProofs only[aB,seval,rQ]
 have hsm:=hh.1.small
 simp only[bA] at hun hcs ⊢
 refine(hcs _ hsm).to ?_
 simp -implicitDefEqProofs only[aB,seval]
 refine⟨fV,?_⟩
 refine(hun _ hA).mono ?_
 rintro _ s2 ⟨rfl,hA2,hk2⟩
 simp -implicitDefEqProofs only[aB,seval]
 refine⟨fV,?_⟩
 generalize iQ σ (.mk gk gn gs' gts) (.mk yk yn ys yt)=u at *
 obtain⟨r,σ',tr⟩:=u
 simp only at hinv hA2 ⊢
 have JW:W b11=none:=h11
 have hDs:aM s2 W:=by
  intro q
  have key:∀o,W q=some o→s2 q=some o:=fun o h=>hk2 q o ((hDT q).2 o h) (by rintro rfl;rw[JW] at h;cases h)
  refine⟨fun h=>?_,key⟩
  cases hq:W q with
  | none=>rfl
  | some o=>rw[key o hq] at h;cases h
 refine aT (fun h=>?_) (fun h=>?_)
 · have hr:r=false:=by simpa using h
   rw[aG (by rw[hr];simp)] at hinv
   simp -implicitDefEqProofs only[hw,aB,seval]
   exact⟨(),hinv,aN.drop hDs (by simp -implicitDefEqProofs only[aB,seval])⟩
 have hr':r=true:=by simpa using h
 rw[aH hr'] at hinv
 have hg9:=V0 bd N cs.length rest hBd pY (by omega) (by omega)
 generalize hgs:bd.map (fun t=>(⟨c8 N t,cs.length⟩:RG))++rest=gs2 at *
 simp -implicitDefEqProofs only[aE,aB,seval,rQ]
 refine wP [(0,1),(1,1),(3,1),(5,1),(6,1),(7,1),(2,2),(4,2),(8,2),(9,1),(10,1),(11,0),(12,0)] [0,1,3,5,6,7,2,4,8,9,10] mixed ?_
 simp -implicitDefEqProofs only[aB,seval,rQ]
 refine N7 hg9 ?_
 simp -implicitDefEqProofs only[aP,aE,hw,aB,seval,rQ]
 intro b13 h13
 have aVK:b13≠b11:=by rintro rfl;rw[e9,h13] at hA2;cases hA2
 have h62:s2 b6≠none:=by rw[(hDs b6).2 _ hW6];simp
 have JT:b6≠b13:=by rintro rfl;exact h62 h13
 have aH1:b6≠b11:=by rintro rfl;rw[hW6] at JW;cases JW
 have J8:st b11=none:=(hDW b11).1 JW
 have aH6:=(hDs b6).2 _ hW6
 have hNf:0<N+fr:=by omega
 have nP:cP (N+fr) σ'≠[]:=by intro e;have:=tJ (N+fr) σ';rw[e] at this;simp at this;omega
 refine aT (fun h=>?_) (fun h=>?_)
 · have h':i+1<left.length:=by simp at h;omega
   have hsl:=fun(φ:AF) (d:Nat) (h:φ d=.int .i64 ((i:Int)+1))=>aLO h' h
   simp -implicitDefEqProofs only[aB,seval]
   refine wP [(0,1),(2,1),(4,1),(6,1),(7,1),(9,1),(1,2),(3,2),(5,2),(8,1),(10,2),(11,1),(12,0),(13,0)] [0,2,4,6,7,9,1,3,5,8,10,11] mixed ?_
   simp -implicitDefEqProofs only[aP,hsl,hw,aB,seval,rQ]
   intro b14 h14
   have aIZ:b14≠b13:=by rintro rfl;rw[aA.aJ] at h14;cases h14
   have OU:s2 b14=none:=by rw[aA.aF _ _ aIZ] at h14;exact h14
   have aVM:b6≠b14:=by rintro rfl;exact h62 OU
   generalize hV:(s2.aC b13 (AO.cells [AV.slice (gs2.map eG),AV.mslice b11 0 (N+fr) 4,AV.slice (cs.map fG)])).aC b14 (.cells [.int .i64 gk,.int .i64 gn,.str gs',.slice (gts.map Tm.av),.slice (rest.map eG),.slice ((left.drop (i+1)).map nv),.slice (cP N σ)])=V
   have CF:V b14=some (.cells [.int .i64 gk,.int .i64 gn,.str gs',.slice (gts.map Tm.av),.slice (rest.map eG),.slice ((left.drop (i+1)).map nv),.slice (cP N σ)]):=by rw[←hV];exact aA.aJ _ _ _
   have JV:V b13=some (AO.cells [AV.slice (gs2.map eG),AV.mslice b11 0 (N+fr) 4,AV.slice (cs.map fG)]):=by rw[←hV,aA.aF _ _ (dF aIZ)];exact aA.aJ _ _ _
   have hV6:V b6=some (.cells [.fslice [],.fslice [],.fslice []]):=by rw[←hV,aA.aF _ _ aVM,aA.aF _ _ JT];exact aH6
   have hVq:∀q,q≠b13→q≠b14→V q=s2 q:=fun q e1 e2=>by rw[←hV,aA.aF _ _ e2,aA.aF _ _ e1]
   refine wX [(0,1),(1,1),(2,1),(4,1),(5,1),(3,0),(6,0),(7,1),(8,2)] [0,1,2,4,5,7] (one b14 (.cells [.int .i64 gk,.int .i64 gn,.str gs',.slice (gts.map Tm.av),.slice (rest.map eG),.slice ((left.drop (i+1)).map nv),.slice (cP N σ)])) mixed rfl (g8 CF) ?_
   simp -implicitDefEqProofs only[vP,aB,seval,rQ]
   have hlc:(cs.map fG).length=cs.length:=aE _
   refine f9 (P:=prog) (b:=0) (l:=[]) (xs:=cs.map fG) wY E2 E3 rfl rfl (by intro e he;simp only[bY] at he;obtain⟨t,_,rfl⟩:=he;exact⟨KU t,a0O t⟩) (by simp) (by simp) (by simp only[bL,hlc];omega) (by simp only[bL,hlc];omega) (fun b15 h15=>?_)
   rw[eU] at h15 ⊢
   simp -implicitDefEqProofs only[aB,seval]
   refine⟨g8 (yO h15 CF),?_⟩
   refine f9 (P:=prog) (b:=b15) (l:=cs.map fG) (xs:=[fG ⟨.mk gk gn gs' gts,rest,left.drop (i+1),σ,N⟩]) wY E2 E3 rfl rfl (g9 rfl rfl) (by intro e he;simp only[bY] at he;obtain⟨t,_,rfl⟩:=he;exact KU t) h15 (by simp only[a8,bL,hlc];omega) (by simp only[a8,bL,hlc];omega) (fun b16 h16=>?_)
   rw[show(cs.map fG)++ [fG ⟨.mk gk gn gs' gts,rest,left.drop (i+1),σ,N⟩]=(cs++ [(⟨.mk gk gn gs' gts,rest,left.drop (i+1),σ,N⟩:RC)]).map fG by simp] at h16 ⊢
   have g13:=yO h16 JV
   have g14:=yO h16 CF
   have g6:=yO h16 hV6
   have hdn:left.drop (i+1)≠[]:=by intro e;have:=gI List.length e;simp at this;omega
   rw[aG hdn] at hinv
   generalize hLL:cs++ [(⟨.mk gk gn gs' gts,rest,left.drop (i+1),σ,N⟩:RC)]=LL at *
   have E:=aNM (o':=.cells [AV.slice (gs2.map eG),AV.mslice b11 0 (N+fr) 4,bS 7 b16 (LL.map fG)]) (o6:=.cells [AV.slice (gs2.map eG),AV.mslice b11 0 (N+fr) 4,bS 7 b16 (LL.map fG)]) (hDs.trans hDW) hA2 J8 h6 h62 aH1 h13 OU hVq (by rw[JV];simp) (by rw[CF];simp) h16 nP
   simp -implicitDefEqProofs only[aP,JT,g13,g6,j5,qS,aB,seval,rQ]
   have hms:LL.map fG≠[]→b11≠b16:=by rintro h rfl;have:=h16 h;rw[hVq b11 (dF aVK) (by rintro rfl;rw[e9,OU] at hA2;cases hA2),hA2] at this;cases this
   refine⟨g8 g14,_,E.1,b16,LL.map fG,_,rfl,fun h=>E.2 (by simpa using h),a0P LL,⟨7,a0Q LL⟩,b11,cP (N+fr) σ',st,rfl,fun _=>J8,EM _ _,⟨4,BQ _ _⟩,rfl,?_⟩
   rw[←hinv]
   simp only[iK,mH,vC,iL,nN,bR,bQ,aHP hms,JM hNf]
   rfl
 · have h':left.drop (i+1)= []:=D0 (by simp at h;omega)
   have E:=aNM (o6:=.cells [AV.slice (gs2.map eG),AV.mslice b11 0 (N+fr) 4,AV.slice (cs.map fG)]) (o':=.cells [AV.slice (gs2.map eG),AV.mslice b11 0 (N+fr) 4,AV.slice (cs.map fG)]) (b:=0) (L:=[]) (hDs.trans hDW) hA2 J8 h6 h62 aH1 h13 h13 (fun q h _=>aA.aF s2 (.cells [AV.slice (gs2.map eG),AV.mslice b11 0 (N+fr) 4,AV.slice (cs.map fG)]) h) (by rw[aA.aJ];simp) (by rw[aA.aJ];simp) (by simp) nP
   simp -implicitDefEqProofs only[aP,JT,aH6,aA.aJ,aB,seval,rQ]
   rw[aH h'] at hinv
   have E1:=E.1
   simp only[bV,eA] at E1
   refine⟨_,E1,0,[],_,rfl,by simp,by simp,⟨0,by simp⟩,b11,cP (N+fr) σ',st,rfl,fun _=>J8,EM _ _,⟨4,BQ _ _⟩,rfl,?_⟩
   rw[←hinv]
   simp only[iK,mH,vC,iL,bR,bQ,aHP (l:=[]) (fun h=>absurd rfl h),JM hNf]
   rfl
def d7:List IG→AV
 | []=>.nilptr
 | ⟨.mk k n s ts,cut,up⟩::l=>.pptr (.agg [.int .i64 k,.int .i64 n,.str s,.slice (ts.map Tm.av),.int .i64 (cut:Int),.int .i64 up,d7 l])
theorem sO(k n:Int)(s:ByteArray)(ts:List Tm)(cut:Nat)(up:Int)(l:List IG):d7 (⟨.mk k n s ts,cut,up⟩::l)=.pptr (.agg [.int .i64 k,.int .i64 n,.str s,.slice (ts.map Tm.av),.int .i64 (cut:Int),.int .i64 up,d7 l]):=by rw[d7]
theorem oM(l:List IG):(d7 l).isAgg=false∧(d7 l).width=1∧(d7 l).cD=false∧(d7 l).cells= [d7 l]∧(d7 l).storable=true∧(d7 l).soft=d7 l:=by
 cases l with
 | nil=>rw[d7];exact⟨rfl,rfl,rfl,rfl,rfl,rfl⟩
 | cons g l=>obtain⟨⟨k,n,s,ts⟩,cut,up⟩:=g;rw[sO];exact⟨rfl,rfl,rfl,rfl,rfl,rfl⟩
abbrev aMW:=zi tI_3 (zi zI_3 (zi a7 (zi tI_31 (zi zI_31 (zi aR (zi bO (zi bP (zi cF (zi tI_66 (zi zI_66 (zi b9 (zi cA (zi cB (zi cC (zi bZ (zi tI_256 (zi zI_256 (zi tI_321 (zi zI_321 (zi aG9 (zi aHA (zi aHB (zi aHC UT)))))))))))))))))))))))
theorem NZ(bd:List Tm)(cut:Nat)(up:Int)(rest:List IG)(hl:bd.length≤1048576)(st:aA) :
 aD prog 242 [.slice (bd.map Tm.av),.int .i64 (cut:Int),.int .i64 up,d7 rest] st (fun r st'=>r=d7 (bd.map (fun t=>(⟨t,cut,up⟩:IG))++rest)∧st'=st):=by
 obtain⟨r1,r2,r3,r4,r5,r6⟩:=oM rest
 refine aD.done ?_
 refine wF [1000000] 4 func242 ntmps242 rfl rfl ?_
 intro _
 have hw0:=bG (n:=(bd.length:Int) - 1)
 simp -implicitDefEqProofs only[aE,hw0,aB,seval,aMW]
 refine pC (σ:=Nat) [1000000] [0,1,2,8] (fun j=>j≤bd.length) (fun j=>[(3,d7 ((bd.drop j).map (fun t=>(⟨t,cut,up⟩:IG))++rest)),(9,.int .i64 ((j:Int) - 1))]) (fun _=>st) (fun j=>j) (by decide +kernel) ⟨bd.length,cO _,aN.mk (by simp -implicitDefEqProofs only[gT,bQ,eU,aB,seval])⟩ ?_
 intro j hj
 cases j with
 | zero=>
  rw[r0]
  obtain⟨s1,s2,s3,s4,s5,s6⟩:=oM (bd.map (fun t=>(⟨t,cut,up⟩:IG))++rest)
  simp -implicitDefEqProofs only[vA,↓HK,List.contains,List.elem,↓reduceIte,reduceCtorEq,Nat.reduceEqDiff]
  refine aT (fun h=>absurd h (by simp)) (fun h=>?_)
  simp -implicitDefEqProofs only[aB,seval]
  exact⟨s6,aM.refl _⟩
 | succ j=>
 obtain⟨s1,s2,s3,s4,s5,s6⟩:=oM ((bd.drop (j+1)).map (fun t=>(⟨t,cut,up⟩:IG))++rest)
 obtain⟨x,hx⟩:∃x,bd[j]?=some x:=⟨_,dZ (by omega)⟩
 have hat:=bH (av:=Tm.av) (P:=prog) aR hx (aO x)
 have hdr:bd.drop j=x::bd.drop (j+1):=by
  obtain⟨h1,h2⟩:=eE.1 hx
  rw[pE h1,h2]
 have hc:((j+1:Nat):Int) - 1=(j:Int):=by omega
 have hw:=bG (n:=(j:Int) - 1)
 have hnx:d7 ((bd.drop j).map (fun t=>(⟨t,cut,up⟩:IG))++rest)=.pptr (.agg (x.av.cells++ [.int .i64 (cut:Int),.int .i64 up,d7 ((bd.drop (j+1)).map (fun t=>(⟨t,cut,up⟩:IG))++rest)])):=by
  rw[hdr]
  obtain⟨k,n,s,ts⟩:=x
  rw[bR,gH,sO,bA]
  try rfl
 generalize d7 ((bd.drop (j+1)).map (fun t=>(⟨t,cut,up⟩:IG))++rest)=A at *
 obtain⟨k,n,s,ts⟩:=x
 simp only[bA] at hat hnx
 rw[hc]
 simp -implicitDefEqProofs only[aB,seval]
 refine aT (fun h=>?_) (fun h=>absurd h (by simp))
 simp -implicitDefEqProofs only[s3,s4,hat,hw,aB,seval,aMW]
 trace_state
 refine⟨j,by omega,by omega,aN.mk (by rw[hnx];simp -implicitDefEqProofs only[aB,seval])⟩
theorem aQS(c:Int)(st:aA):aD prog 309 [.int .i64 c] st (fun r st'=>r=.int .i64 (oK c)∧st'=st):=by
 refine aD.done ?_
 refine wF [1000000] 1 func309 ntmps309 rfl rfl ?_
 intro _
 simp -implicitDefEqProofs only[aB,seval]
 unfold oK
 refine aT (fun h=>?_) (fun h=>?_)
 · simp -implicitDefEqProofs only[aB,seval]
   have h':c=2:=by simpa using h
   exact⟨by rw[aH h'];try rfl,aM.refl _⟩
 rw[aG (show ¬c=2 by simpa using h)]
 simp -implicitDefEqProofs only[aB,seval]
 refine aT (fun h=>?_) (fun h=>?_)
 · simp -implicitDefEqProofs only[aB,seval]
   have h':c=3:=by simpa using h
   exact⟨by rw[aH h'];try rfl,aM.refl _⟩
 rw[aG (show ¬c=3 by simpa using h)]
 simp -implicitDefEqProofs only[aB,seval]
 refine aT (fun h=>?_) (fun h=>?_)
 · simp -implicitDefEqProofs only[aB,seval]
   have h':c=4:=by simpa using h
   exact⟨by rw[aH h'];try rfl,aM.refl _⟩
 rw[aG (show ¬c=4 by simpa using h)]
 simp -implicitDefEqProofs only[aB,seval]
 exact⟨rfl,aM.refl _⟩
abbrev a21:=zi tI_9 (zi zI_9 (zi d9 (zi tI_31 (zi zI_31 (zi aR (zi bO (zi bP (zi cF (zi tI_66 (zi zI_66 (zi b9 (zi cA (zi cB (zi cC (zi bZ (zi tI_199 (zi zI_199 (zi OF (zi OG NN)))))))))))))))))))
theorem WA(k n:Int)(s:ByteArray)(ts:List Tm)(st:aA):aD prog 191 [(Tm.mk k n s ts).av] st (fun r st'=>r=.agg [.str s,.int .i64 (ts.length:Int)]∧st'=st):=by
 refine aD.done ?_
 simp only[bA]
 refine wF [1000000] 1 func191 ntmps191 rfl rfl ?_
 intro _
 simp -implicitDefEqProofs only[aP,aE,aB,seval,a21]
 intro b2 h2
 exact⟨by simp only[rM,uB,AA,bR,bQ],(aM.refl _).aC h2⟩
abbrev G1:=zi tI_3 (zi zI_3 (zi a7 (zi tI_29 (zi zI_29 (zi eP (zi gO (zi gP (zi gV (zi tI_46 (zi zI_46 (zi cW (zi eJ (zi eF (zi eY (zi tI_66 (zi zI_66 (zi b9 (zi cA (zi cB (zi cC (zi bZ (zi tI_84 (zi zI_84 (zi lB (zi lC (zi kV (zi tI_199 (zi zI_199 (zi OF (zi OG NN))))))))))))))))))))))))))))))
theorem aQM(p:List Cl)(t:Tm)(hp:p.length≤1048576)(st:aA):aD prog 190 [.slice (p.map bK),.agg [.str t.s,.int .i64 (t.ts.length:Int)]] st (fun r st'=>r=.slice ((d6 p t).map nv)∧st'=st):=by
 rw[JR]
 refine aD.done ?_
 obtain⟨tk,tn,ts',tts⟩:=t
 simp only[Tm.s,Tm.ts]
 refine wF [1000000] 2 func190 ntmps190 rfl rfl ?_
 intro _
 simp -implicitDefEqProofs only[aE,aB,seval,G1]
 refine qJ (σ:=Unit) [1000000] [3,4,8,9] p 1 5 (fun i _=>((List.range i).filter (pT p (.mk tk tn ts' tts))).map nv) (fun _ _=>True) (fun i _=>[(10,.int .i64 i)]) (fun _ _=>st) (fun i _ _ e he=>by simp only[bY] at he;obtain⟨t,_,rfl⟩:=he;exact⟨rfl,rfl⟩) (by decide +kernel) ⟨(),0,trivial,fun h=>absurd rfl h,aN.mk (by simp -implicitDefEqProofs only[lJ,List.range_zero,List.filter_nil,bQ,aB,↓aY,seval])⟩ (fun i x _ b hx hlt bB hdr hinv hb=>?_) (fun _ b hge hinv=>?_)
 case refine_2=>
  simp -implicitDefEqProofs only[hge,f7,iL,pR,CB,nN,aB,seval]
  exact⟨rfl,aM.refl _⟩
 have hw:=bG (n:=(i:Int)+1)
 have hst:=aHU p (.mk tk tn ts' tts) i
 have hln:=JS p (.mk tk tn ts' tts) i
 have hat:=bH (av:=bK) (P:=prog) eP hx (gA x)
 obtain⟨⟨k,n,s',ts⟩,bd⟩:=x
 rw[m7] at hat
 have hP:pT p (.mk tk tn ts' tts) i=(decide (s'=ts')&&decide ((ts.length:Int)=(tts.length:Int))):=by unfold pT;rw[hx];try rfl
 rw[hP] at hst
 have hpr:=fun st=>WA k n s' ts st
 have aWH:dU prog .eql 199 (.agg [.str s',.int .i64 (ts.length:Int)]) (.agg [.str ts',.int .i64 (tts.length:Int)])=some (.bool (decide (s'=ts')&&decide ((ts.length:Int)=(tts.length:Int)))):=by
  have h:I8 prog 199=true:=by kernel_rfl
  simp only[dU,h,and_self,dX]
 simp only[bA] at hpr
 simp -implicitDefEqProofs only[bB,hat,aB,↓aY,seval,G1]
 refine wP [(0,1),(1,2),(2,2),(3,2),(4,1)] [0,1,2,3,4] mixed ?_
 simp -implicitDefEqProofs only[aB,seval,G1]
 refine kC (hpr _) ?_
 simp -implicitDefEqProofs only[aWH,aB,seval,G1]
 refine aT (fun h2=>?_) (fun h2=>?_)
 · rw[aH h2] at hst
   simp -implicitDefEqProofs only[aB,seval,G1]
   refine f9 cW eJ eF rfl rfl (g9 rfl rfl) (QG _) hb (by simp only[aE,a8,bL];omega) (by simp only[aE,a8,bL];omega) (fun b' hb'=>?_)
   rw[show ∀l:List Nat,l.map nv++ [AV.int .i64 (i:Int)]=(l++ [i]).map nv from fun l=>by simp [nv],←hst] at hb' ⊢
   simp -implicitDefEqProofs only[hw,aB,seval]
   exact⟨(),b',hb',aN.mk (by simp -implicitDefEqProofs only[aB,seval])⟩
 · rw[aG (by rw[h2];simp),fA] at hst
   rw[←hst] at hb ⊢
   simp -implicitDefEqProofs only[hw,aB,seval]
   exact⟨(),b,hb,aN.mk (by simp -implicitDefEqProofs only[aB,seval])⟩
def rI:IC→AV
 | ⟨.mk k n s ts,node,rest,list,eT,taken⟩=>.agg [.int .i64 k,.int .i64 n,.str s,.slice (ts.map Tm.av),.int .i64 (node:Int),d7 rest,.slice (list.map nv),.int .i64 (eT:Int),.int .i64 (taken:Int)]
theorem aJF(k n:Int)(s:ByteArray)(ts:List Tm)(node:Nat)(rest:List IG)(list:List Nat)(eT taken:Nat):rI ⟨.mk k n s ts,node,rest,list,eT,taken⟩=.agg [.int .i64 k,.int .i64 n,.str s,.slice (ts.map Tm.av),.int .i64 (node:Int),d7 rest,.slice (list.map nv),.int .i64 (eT:Int),.int .i64 (taken:Int)]:=rfl
theorem aX4(c:IC):(rI c).width=9:=by obtain⟨⟨k,n,s,ts⟩,_,_,_,_,_⟩:=c;rfl
theorem P0(l:List IC):∀e∈l.map rI,e.width=9:=by intro e he;simp only[bY] at he;obtain⟨t,_,rfl⟩:=he;exact aX4 t
theorem aX3(c:IC):(rI c).cells.all AV.storable=true:=by
 obtain⟨⟨k,n,s,ts⟩,_,rest,_,_,_⟩:=c
 rw[aJF]
 have:=(oM rest).2.2.2.2.1
 rw[eD]
 intro e he
 simp only[AV.cells,cQ,dD,dN] at he
 rcases he with rfl | rfl | rfl | rfl | rfl | rfl | rfl | rfl | rfl<;>first | rfl | exact this
def gS(c:Nat)(p:List Cl)(q:List Tm)(idx:Bool)(fuel used fresh:Int)(gl qc qn:AV)(mx:Int):List AV:=
 [.ptr c 0,.slice (p.map bK),.slice (q.map Tm.av),.bool idx,.bool false,.int .i64 fuel,.int .i64 used,.int .i64 fresh,gl,qc,qn,.int .i64 mx]
def iN(S c m:Nat)(qt qc qn:AV):List Nat:=[S,c,m]++dE qt++aS qc++aS qn
theorem a2A(q:AV):dE q=aS q:=by cases q<;>rfl
theorem C5(q:AV):(aS q).Nodup:=by cases q<;>simp [aS]
structure dA (st0 st:aA) (S c m:Nat) (qt qc qn:AV) (p:List Cl) (q:List Tm) (idx:Bool) (fuel used mx:Int) (nd:List AV) (i:IS):Prop where
 cell:st S=some (.cells (gS c p q idx fuel used i.fresh (d7 i.goals) qc qn mx))
 sto:fR st c m qt i.σ i.tr
 acC:fH st 9 qc (i.chs.map rI)
 acN:fH st 6 qn nd
 ndl:nd.length=i.nn
 ndw:∀e∈nd,e.width=6
 dis:(iN S c m qt qc qn).Nodup
 new:∀b∈iN S c m qt qc qn,st0 b=none
 aU:∀b o,st0 b=some o→st b=some o
theorem dY{b S c m:Nat}{qt qc qn:AV}:b∈iN S c m qt qc qn↔b=S∨b=c∨b=m∨b∈dE qt∨b∈aS qc∨b∈aS qn:=by
 simp only[iN,dS,cQ,dD,dN,or_assoc]
section
variable {st0 st:aA} {S c m:Nat} {qt qc qn:AV} {p:List Cl} {q:List Tm} {idx:Bool} {fuel used mx:Int} {nd:List AV} {i:IS}
theorem dA.held(h:dA st0 st S c m qt qc qn p q idx fuel used mx nd i):∀b∈iN S c m qt qc qn,st b≠none:=fun b hb=>by
 rcases dY.1 hb with rfl | rfl | rfl | hb | hb | hb
 · rw[h.cell];simp
 · rw[h.sto.sub.cells];simp
 · rw[h.sto.sub.map];simp
 · obtain⟨cs,e⟩:=h.sto.GY b hb;rw[e];simp
 · obtain⟨cs,e⟩:=h.acC.some b hb;rw[e];simp
 · obtain⟨cs,e⟩:=h.acN.some b hb;rw[e];simp
theorem dA.sM(h:dA st0 st S c m qt qc qn p q idx fuel used mx nd i):aM st st0:=fun b=>by
 refine⟨fun e=>?_,h.aU b⟩
 cases hb:st0 b with
 | none=>rfl
 | some o=>rw[h.aU b o hb] at e;cases e
theorem dA.aHW(h:dA st0 st S c m qt qc qn p q idx fuel used mx nd i){b:Nat}(hb:st b=none):st0 b=none:=(h.sM b).1 hb
theorem dA.parts(h:dA st0 st S c m qt qc qn p q idx fuel used mx nd i):S≠c∧S≠m∧c≠m∧S∉dE qt∧S∉aS qc∧S∉aS qn∧c∉dE qt∧c∉aS qc∧c∉aS qn∧m∉dE qt∧m∉aS qc∧m∉aS qn∧(∀b∈dE qt,b∉aS qc∧b∉aS qn)∧∀b∈aS qc,b∉aS qn:=by
 have hd:=h.dis
 simp only[iN,jW,yF,cQ,dD,dN,kH,dS] at hd
 obtain⟨⟨⟨⟨⟨h1,h2⟩,h3,_⟩,h4,h5⟩,h6,h7⟩,h8,h9⟩:=hd
 refine⟨h1,h2,h3,fun hb=>h5 _ (.inl rfl) _ hb rfl,fun hb=>h7 _ (.inl (.inl rfl)) _ hb rfl,fun hb=>h9 _ (.inl (.inl (.inl rfl))) _ hb rfl,
  fun hb=>h5 _ (.inr (.inl rfl)) _ hb rfl,fun hb=>h7 _ (.inl (.inr (.inl rfl))) _ hb rfl,fun hb=>h9 _ (.inl (.inl (.inr (.inl rfl)))) _ hb rfl,
  fun hb=>h5 _ (.inr (.inr rfl)) _ hb rfl,fun hb=>h7 _ (.inl (.inr (.inr rfl))) _ hb rfl,fun hb=>h9 _ (.inl (.inl (.inr (.inr rfl)))) _ hb rfl,
  fun b hb=>⟨fun h'=>h7 b (.inr hb) b h' rfl,fun h'=>h9 b (.inl (.inr hb)) b h' rfl⟩,fun b hb h'=>h9 b (.inr hb) b h' rfl⟩
theorem QE{X A A' Y:List Nat}(h:(X++A++Y).Nodup)(hA:A'.Nodup)(hn:∀b∈A',b∈A∨b∉X++A++Y):(X++A'++Y).Nodup:=by
 simp only[jW,dS] at h ⊢
 obtain⟨⟨hX,hA0,hXA⟩,hY,hXY⟩:=h
 refine⟨⟨hX,hA,fun a ha b hb e=>?_⟩,hY,fun a ha b hb e=>?_⟩
 · subst e
   rcases hn a hb with h | h
   · exact hXA a ha a h rfl
   · simp only[dS,kH] at h;exact h.1.1 ha
 · subst e
   rcases ha with ha | ha
   · exact hXY a (.inl ha) a hb rfl
   · rcases hn a ha with h | h
     · exact hXY a (.inr h) a hb rfl
     · simp only[dS,kH] at h;exact h.2 hb
theorem dA.go{st':aA}{qt' qc' qn':AV}{fuel' used' mx':Int}{nd':List AV}{i':IS}(h:dA st0 st S c m qt qc qn p q idx fuel used mx nd i)
 (cell:st' S=some (.cells (gS c p q idx fuel' used' i'.fresh (d7 i'.goals) qc' qn' mx'))) (sto:fR st' c m qt' i'.σ i'.tr) (acC:fH st' 9 qc' (i'.chs.map rI)) (acN:fH st' 6 qn' nd') (ndl:nd'.length=i'.nn) (ndw:∀e∈nd',e.width=6)
 (dis:(iN S c m qt' qc' qn').Nodup) (new:∀b∈iN S c m qt' qc' qn',b∈iN S c m qt qc qn∨st b=none) (frame:∀b o,st b=some o→b∉iN S c m qt qc qn→st' b=some o) :
 dA st0 st' S c m qt' qc' qn' p q idx fuel' used' mx' nd' i':=
 ⟨cell,sto,acC,acN,ndl,ndw,dis,fun b hb=>by
  rcases new b hb with h1 | h1
  · exact h.new b h1
  · exact h.aHW h1,fun b o hb=>frame b o (h.aU b o hb) fun hm=>by rw[h.new b hm] at hb;cases hb⟩
theorem dA.put{fuel' used' mx':Int}{gl:List IG}{F:Nat}{cs:List AV}(h:dA st0 st S c m qt qc qn p q idx fuel used mx nd i)(hcs:cs=gS c p q idx fuel' used' F (d7 gl) qc qn mx') :
 dA st0 (st.aC S (.cells cs)) S c m qt qc qn p q idx fuel' used' mx' nd { i with goals:=gl,fresh:=F }:=by
 obtain⟨h1,h2,h3,h4,h5,h6,_⟩:=h.parts
 subst hcs
 refine h.go (aA.aJ _ _ _) (h.sto.aC h1 h2 h4) (h.acC.aU fun b hb=>aA.aF _ _ (by rintro rfl;exact h5 hb)) (h.acN.aU fun b hb=>aA.aF _ _ (by rintro rfl;exact h6 hb)) h.ndl h.ndw h.dis (fun b hb=>.inl hb) fun b o hb hn=>?_
 rw[aA.aF _ _ (by rintro rfl;exact hn (dY.2 (.inl rfl)))]
 exact hb
theorem dA.HA{st':aA}{qt':AV}{σ':Sub}{tr':List Int}(h:dA st0 st S c m qt qc qn p q idx fuel used mx nd i)(hS:fR st' c m qt' σ' tr')(hf:∀b o,st b=some o→b≠c→b≠m→b∉dE qt→st' b=some o)(hn:∀b∈dE qt',b∈dE qt∨st b=none) :
 dA st0 st' S c m qt' qc qn p q idx fuel used mx nd { i with σ:=σ',tr:=tr' }:=by
 obtain⟨h1,h2,h3,h4,h5,h6,h7,h8,h9,h10,h11,h12,h13,h14⟩:=h.parts
 have hC:∀b∈aS qc,st' b=st b:=fun b hb=>by
  obtain⟨cs,e⟩:=h.acC.some b hb
  rw[e,hf b _ e (by rintro rfl;exact h8 hb) (by rintro rfl;exact h11 hb) (fun hb'=>(h13 b hb').1 hb)]
 have hN:∀b∈aS qn,st' b=st b:=fun b hb=>by
  obtain⟨cs,e⟩:=h.acN.some b hb
  rw[e,hf b _ e (by rintro rfl;exact h9 hb) (by rintro rfl;exact h12 hb) (fun hb'=>(h13 b hb').2 hb)]
 refine h.go (hf S _ h.cell h1 h2 h4) hS (h.acC.aU hC) (h.acN.aU hN) h.ndl h.ndw ?_ (fun b hb=>?_) (fun b o hb hn'=>?_)
 · have hd:=h.dis
   unfold iN at hd ⊢
   rw[kK] at hd ⊢
   refine QE hd (by rw[a2A];exact C5 _) fun b hb=>?_
   rcases hn b hb with h' | h'
   · exact .inl h'
   · refine .inr fun hm=>h.held b ?_ h'
     unfold iN;rw[kK];exact hm
 · rcases dY.1 hb with rfl | rfl | rfl | hb | hb | hb
   · exact .inl (dY.2 (.inl rfl))
   · exact .inl (dY.2 (.inr (.inl rfl)))
   · exact .inl (dY.2 (.inr (.inr (.inl rfl))))
   · rcases hn b hb with h' | h'
     · exact .inl (dY.2 (.inr (.inr (.inr (.inl h')))))
     · exact .inr h'
   · exact .inl (dY.2 (.inr (.inr (.inr (.inr (.inl hb))))))
   · exact .inl (dY.2 (.inr (.inr (.inr (.inr (.inr hb))))))
 · have:=fun x=>hn' (dY.2 x)
   exact hf b o hb (by rintro rfl;exact this (.inr (.inl rfl))) (by rintro rfl;exact this (.inr (.inr (.inl rfl)))) fun hb'=>this (.inr (.inr (.inr (.inl hb'))))
theorem dA.post{st':aA}{σ':Sub}{tr':List Int}(h:dA st0 st S c m qt qc qn p q idx fuel used mx nd i)(hP:uO c m st qt σ' tr' st'):∃qt',dA st0 st' S c m qt' qc qn p q idx fuel used mx nd { i with σ:=σ',tr:=tr' }:=by
 obtain⟨q',hS,hQ⟩:=hP
 exact⟨q',h.HA hS (fun b o hb h1 h2 h3=>hQ.frame b o hb h1 h2 h3) hQ.fresh⟩
end
theorem fR.CQ{st st':aA}{c m:Nat}{q:AV}{σ:Sub}{tr:List Int}(h:fR st c m q σ tr)(hc:st' c=st c)(hm:st' m=st m)(ht:∀b∈dE q,st' b=st b):fR st' c m q σ tr:=by
 refine⟨⟨by rw[hc];exact h.sub.cells,by rw[hm];exact h.sub.map⟩,?_,h.apart⟩
 rcases h.eT with h1 | ⟨b,cs,h1,h2,h3⟩
 · exact .inl h1
 · exact .inr ⟨b,cs,h1,by rw[ht b (by rw[h1];simp [dE])];exact h2,h3⟩
section
variable {st0 st:aA} {S c m:Nat} {qt qc qn:AV} {p:List Cl} {q:List Tm} {idx:Bool} {fuel used mx:Int} {nd:List AV} {i:IS}
theorem dA.a0C{st':aA}{qc':AV}{WR:List IC}{cs:List AV}(h:dA st0 st S c m qt qc qn p q idx fuel used mx nd i)(gK:fH st' 9 qc' (WR.map rI))(hf:∀y,y∉aS qc→y∉aS qc'→st' y=st y)(hn:∀y∈aS qc',y∈aS qc∨st y=none)
 (hcs:cs=gS c p q idx fuel used i.fresh (d7 i.goals) qc' qn mx):dA st0 (st'.aC S (.cells cs)) S c m qt qc' qn p q idx fuel used mx nd { i with chs:=WR }:=by
 obtain⟨h1,h2,h3,h4,h5,h6,h7,h8,h9,h10,h11,h12,h13,h14⟩:=h.parts
 have same:∀b,st b≠none→b∉aS qc→st' b=st b:=fun b hb hq=>hf b hq fun hq'=>by
  rcases hn b hq' with h' | h'
  · exact hq h'
  · exact hb h'
 have hS:S∉aS qc':=fun hb=>by
  rcases hn S hb with h' | h'
  · exact h5 h'
  · rw[h.cell] at h';cases h'
 subst hcs
 have held:=fun b x=>h.held b (dY.2 x)
 refine h.go (aA.aJ _ _ _) (h.sto.CQ ?_ ?_ fun b hb=>?_) (gK.aU fun b hb=>aA.aF _ _ (by rintro rfl;exact hS hb)) (h.acN.aU fun b hb=>?_) h.ndl h.ndw ?_ (fun b hb=>?_) fun b o hb hn'=>?_
 · rw[aA.aF _ _ (dF h1)];exact same c (held c (.inr (.inl rfl))) h8
 · rw[aA.aF _ _ (dF h2)];exact same m (held m (.inr (.inr (.inl rfl)))) h11
 · rw[aA.aF _ _ (by rintro rfl;exact h4 hb)];exact same b (held b (.inr (.inr (.inr (.inl hb))))) (h13 b hb).1
 · rw[aA.aF _ _ (by rintro rfl;exact h6 hb)];exact same b (held b (.inr (.inr (.inr (.inr (.inr hb)))))) fun h'=>h14 b h' hb
 · have hd:=h.dis
   unfold iN at hd ⊢
   refine QE hd (C5 _) fun b hb=>?_
   rcases hn b hb with h' | h'
   · exact .inl h'
   · refine .inr fun hm=>h.held b ?_ h'
     unfold iN;exact hm
 · rcases dY.1 hb with rfl | rfl | rfl | hb | hb | hb
   · exact .inl (dY.2 (.inl rfl))
   · exact .inl (dY.2 (.inr (.inl rfl)))
   · exact .inl (dY.2 (.inr (.inr (.inl rfl))))
   · exact .inl (dY.2 (.inr (.inr (.inr (.inl hb)))))
   · rcases hn b hb with h' | h'
     · exact .inl (dY.2 (.inr (.inr (.inr (.inr (.inl h'))))))
     · exact .inr h'
   · exact .inl (dY.2 (.inr (.inr (.inr (.inr (.inr hb))))))
 · have hno:=fun x=>hn' (dY.2 x)
   rw[aA.aF _ _ (by rintro rfl;exact hno (.inl rfl)),same b (by rw[hb];simp) fun h'=>hno (.inr (.inr (.inr (.inr (.inl h')))))]
   exact hb
theorem dA.a0D{st':aA}{qn':AV}{nd':List AV}{n':Nat}{cs:List AV}(h:dA st0 st S c m qt qc qn p q idx fuel used mx nd i)(gK:fH st' 6 qn' nd')(hl:nd'.length=n')(hw:∀e∈nd',e.width=6)(hf:∀y,y∉aS qn→y∉aS qn'→st' y=st y)(hn:∀y∈aS qn',y∈aS qn∨st y=none)
 (hcs:cs=gS c p q idx fuel used i.fresh (d7 i.goals) qc qn' mx):dA st0 (st'.aC S (.cells cs)) S c m qt qc qn' p q idx fuel used mx nd' { i with nn:=n' }:=by
 obtain⟨h1,h2,h3,h4,h5,h6,h7,h8,h9,h10,h11,h12,h13,h14⟩:=h.parts
 have same:∀b,st b≠none→b∉aS qn→st' b=st b:=fun b hb hq=>hf b hq fun hq'=>by
  rcases hn b hq' with h' | h'
  · exact hq h'
  · exact hb h'
 have hS:S∉aS qn':=fun hb=>by
  rcases hn S hb with h' | h'
  · exact h6 h'
  · rw[h.cell] at h';cases h'
 subst hcs
 have held:=fun b x=>h.held b (dY.2 x)
 refine h.go (aA.aJ _ _ _) (h.sto.CQ ?_ ?_ fun b hb=>?_) (h.acC.aU fun b hb=>?_) (gK.aU fun b hb=>aA.aF _ _ (by rintro rfl;exact hS hb)) hl hw ?_ (fun b hb=>?_) fun b o hb hn'=>?_
 · rw[aA.aF _ _ (dF h1)];exact same c (held c (.inr (.inl rfl))) h9
 · rw[aA.aF _ _ (dF h2)];exact same m (held m (.inr (.inr (.inl rfl)))) h12
 · rw[aA.aF _ _ (by rintro rfl;exact h4 hb)];exact same b (held b (.inr (.inr (.inr (.inl hb))))) (h13 b hb).2
 · rw[aA.aF _ _ (by rintro rfl;exact h5 hb)];exact same b (held b (.inr (.inr (.inr (.inr (.inl hb)))))) (h14 b hb)
 · have hd:=h.dis
   unfold iN at hd ⊢
   have:=QE (X:=[S,c,m]++dE qt++aS qc) (A:=aS qn) (A':=aS qn') (Y:=[]) (by rw[fA];exact hd) (C5 _) fun b hb=>by
    rcases hn b hb with h' | h'
    · exact .inl h'
    · refine .inr fun hm=>h.held b ?_ h'
      rw[fA] at hm
      unfold iN;exact hm
   rwa [fA] at this
 · rcases dY.1 hb with rfl | rfl | rfl | hb | hb | hb
   · exact .inl (dY.2 (.inl rfl))
   · exact .inl (dY.2 (.inr (.inl rfl)))
   · exact .inl (dY.2 (.inr (.inr (.inl rfl))))
   · exact .inl (dY.2 (.inr (.inr (.inr (.inl hb)))))
   · exact .inl (dY.2 (.inr (.inr (.inr (.inr (.inl hb))))))
   · rcases hn b hb with h' | h'
     · exact .inl (dY.2 (.inr (.inr (.inr (.inr (.inr h'))))))
     · exact .inr h'
 · have hno:=fun x=>hn' (dY.2 x)
   rw[aA.aF _ _ (by rintro rfl;exact hno (.inl rfl)),same b (by rw[hb];simp) fun h'=>hno (.inr (.inr (.inr (.inr (.inr h')))))]
   exact hb
theorem dA.nodes{k:Nat}(h:dA st0 st S c m qt qc qn p q idx fuel used mx nd i)(hk:k<i.nn):∃b,qn=.mslice b 0 nd.length 6:=by
 have hl:=h.ndl
 rcases h.acN with ⟨_,e⟩ | ⟨b,cs,e,_⟩
 · subst e;simp at hl;omega
 · exact⟨b,e⟩
theorem dA.nodeAt{b n:Nat}(h:dA st0 st S c m qt qc (.mslice b 0 n 6) p q idx fuel used mx nd i):∃cs,st b=some (.cells cs)∧nd.length*6≤cs.length:=by
 rcases h.acN with ⟨e,_⟩ | ⟨b',cs,e,h2,_,h4⟩
 · cases e
 · cases e;exact⟨cs,h2,h4⟩
theorem aLK:∀(n:Nat) (cs:List AV),cs.length=n*6→∃nd:List AV,nd.length=n∧(∀e∈nd,e.width=6)∧nd.flatMap AV.cells=cs
 | 0,cs,h=>⟨[],rfl,by simp,by have:cs= []:=nG (by simpa using h);subst this;rfl⟩
 | n+1,cs,h=>by
  obtain⟨nd,h1,h2,h3⟩:=aLK n (cs.drop 6) (by rw[nH,h];omega)
  refine⟨.agg (cs.take 6)::nd,by simp [h1],fun e he=>?_,?_⟩
  · rcases cQ.1 he with rfl | he
    · show(cs.take 6).length=6
      rw[dI,h];omega
    · exact h2 e he
  · rw[pF,h3]
    exact n9 6 cs
theorem dA.aLF{b k:Nat}{cs:List AV}{x:AV}(h:dA st0 st S c m qt qc qn p q idx fuel used mx nd i)(hq:qn=.mslice b 0 nd.length 6)(hb:st b=some (.cells cs))(hk:k<nd.length*6) :
 ∃nd',dA st0 (st.aC b (.cells (aP cs k [x]))) S c m qt qc qn p q idx fuel used mx nd' i:=by
 obtain⟨h1,h2,h3,h4,h5,h6,h7,h8,h9,h10,h11,h12,h13,h14⟩:=h.parts
 have hbq:b∈aS qn:=by rw[hq];simp [aS]
 have hne:∀a,a∉aS qn→st.aC b (.cells (aP cs k [x])) a=st a:=fun a ha=>aA.aF _ _ (by rintro rfl;exact ha hbq)
 have hcl:nd.length*6≤cs.length:=by
  rcases h.acN with ⟨e,_⟩ | ⟨b',cs',e1,e2,e3,e4⟩
  · rw[hq] at e;cases e
  · rw[hq] at e1
    cases e1
    rw[hb] at e2;cases e2
    exact e4
 have hlen:(aP cs k [x]).length=cs.length:=by
  simp only[aP,dP,dI,nH,a8,bL]
  omega
 obtain⟨nd',n1,n2,n3⟩:=aLK nd.length ((aP cs k [x]).take (nd.length*6)) (by rw[dI,hlen];omega)
 refine⟨nd',h.go (by rw[hne S h6];exact h.cell) (h.sto.CQ (hne c h9) (hne m h12) fun b hb=>hne b (h13 b hb).2) (h.acC.aU fun b hb=>hne b (h14 b hb)) (.inr ⟨b,_,by rw[hq,n1],aA.aJ _ _ _,by rw[n1,n3],by rw[n1,hlen];exact hcl⟩) (by rw[n1];exact h.ndl) n2 h.dis (fun b hb=>.inl hb) fun a o ha hn=>?_⟩
 rw[hne a fun h'=>hn (dY.2 (.inr (.inr (.inr (.inr (.inr h'))))))]
 exact ha
end
theorem aLL{φ:AF}{t:TypeId}{ag:Bool}{w d k:Nat}{st:aA}{qc:AV}{l:List AV}(hI:eI prog t=some (ag,w))(hA:fH st w qc l)(h:φ d=.int .i64 (k:Int))(hk:k≤l.length):fD prog φ t qc none (some (.tmp d)) none=some (wV k qc):=by
 rcases hA with ⟨rfl,rfl⟩ | ⟨b,cs,rfl,_⟩
 · have h0:k=0:=by simpa using hk
   subst h0
   exact aLM hI h
 · exact RH hI h hk
section
variable {st0 st:aA} {S c m:Nat} {qt qc qn:AV} {p:List Cl} {q:List Tm} {idx:Bool} {fuel used mx:Int} {nd:List AV} {i:IS}
theorem dA.WX{k:Nat}{cs:List AV}{gl:List IG}(h:dA st0 st S c m qt qc qn p q idx fuel used mx nd i)(hk:k≤i.chs.length)(hcs:cs=gS c p q idx fuel used i.fresh (d7 gl) (wV k qc) qn mx) :
 dA st0 (st.aC S (.cells cs)) S c m qt (wV k qc) qn p q idx fuel used mx nd { i with goals:=gl,chs:=i.chs.take k }:=by
 obtain⟨h1,h2,h3,h4,h5,h6,_⟩:=h.parts
 subst hcs
 have hA:=h.acC.take (k:=k) (by rw[aE];exact hk) (P0 _)
 rw[←D3] at hA
 refine h.go (aA.aJ _ _ _) (h.sto.aC h1 h2 h4) (hA.aU fun b hb=>aA.aF _ _ (by rw[C4] at hb;rintro rfl;exact h5 hb)) (h.acN.aU fun b hb=>aA.aF _ _ (by rintro rfl;exact h6 hb)) h.ndl h.ndw (by unfold iN;rw[C4];exact h.dis) (fun b hb=>.inl (by unfold iN at hb;rw[C4] at hb;exact hb)) fun b o hb hn=>?_
 rw[aA.aF _ _ (by rintro rfl;exact hn (dY.2 (.inl rfl)))]
 exact hb
theorem dA.aTT{k:Nat}{cs:List AV}(h:dA st0 st S c m qt qc qn p q idx fuel used mx nd i)(hk:k≤i.nn)(hcs:cs=gS c p q idx fuel used i.fresh (d7 i.goals) qc (wV k qn) mx) :
 dA st0 (st.aC S (.cells cs)) S c m qt qc (wV k qn) p q idx fuel used mx (nd.take k) { i with nn:=k }:=by
 obtain⟨h1,h2,h3,h4,h5,h6,_⟩:=h.parts
 subst hcs
 have hnl:=h.ndl
 have hA:=h.acN.take (k:=k) (by rw[hnl];exact hk) h.ndw
 refine h.go (aA.aJ _ _ _) (h.sto.aC h1 h2 h4) (h.acC.aU fun b hb=>aA.aF _ _ (by rintro rfl;exact h5 hb)) (hA.aU fun b hb=>aA.aF _ _ (by rw[C4] at hb;rintro rfl;exact h6 hb)) (by rw[dI,hnl];simp only;omega) (fun e he=>h.ndw e (pG he)) (by unfold iN;rw[C4];exact h.dis) (fun b hb=>.inl (by unfold iN at hb;rw[C4] at hb;exact hb)) fun b o hb hn=>?_
 rw[aA.aF _ _ (by rintro rfl;exact hn (dY.2 (.inl rfl)))]
 exact hb
end
end Go.AW
