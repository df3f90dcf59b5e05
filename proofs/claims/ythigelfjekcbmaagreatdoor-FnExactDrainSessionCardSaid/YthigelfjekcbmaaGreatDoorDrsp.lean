import Derived.Test.YthigelfjekcbmaaGreatDoorDrso
import Derived.Test.YthigelfjekcbmaaGreatDoorDrsm
import Derived.Test.YthigelfjekcbmaaGreatDoorDrsf
import Derived.Test.YthigelfjekcbmaaGreatDoorDrsg
import Derived.Test.YthigelfjekcbmaaGreatDoorDrsk
import Derived.Test.YthigelfjekcbmaaGreatDoorDrsj
import Derived.Test.YthigelfjekcbmaaGreatDoorDrsi
import Derived.Test.YthigelfjekcbmaaGreatDoorDrsl
set_option linter.unusedSimpArgs false
set_option linter.unusedVariables false
set_option maxRecDepth 100000
namespace Go.AW
open Go.Proofs.Tryz
theorem aIR{φ:AF}{t:TypeId}{ag:Bool}{w d k:Nat}{es:List AV}(hI:eI prog t=some (ag,w))(h:φ d=.int .i64 (k:Int))(hk:k≤es.length):fS prog φ t (.slice es) none (some (.tmp d)) none=some (.slice (es.take k)):=by
 have he:φ.eval (.tmp d)=.int .i64 (k:Int):=h
 unfold fS
 rw[aG (by simp [pD])]
 simp only[m8,hI]
 rw[aG (by simp)]
 simp only[c8,he]
 rw[aK (by omega)]
 simp
def GB(a:AV):Prop:=(∃l,a=.slice l)∨a=.fslice []
theorem GB.facts{a:AV}(h:GB a):a.isAgg=false∧a.width=1∧a.b9=false∧a.cells= [a]∧a.storable=true∧∃l,a.soft=.slice l:=by
 rcases h with ⟨l,rfl⟩ | rfl
 · exact⟨rfl,rfl,rfl,rfl,rfl,l,rfl⟩
 · exact⟨rfl,rfl,rfl,rfl,rfl,[],rfl⟩
abbrev tE:=zi tI_3 (zi zI_3 (zi aZ (zi tI_4 (zi zI_4 (zi cG (zi tI_27 (zi zI_27 (zi eT (zi gO (zi gP (zi iD (zi tI_157 (zi zI_157 (zi vY (zi DM (zi DN (zi QB (zi tI_159 (zi zI_159 (zi DO (zi DP (zi DQ (zi C7 (zi tI_199 (zi zI_199 (zi MO (zi MP (zi MQ (zi MR LS)))))))))))))))))))))))))))))
theorem S6{p:List Cl}(hp:∀c∈p,fX c∧c.2.length≤6){B:Nat}(hB:B≤524288)(gs0:List RG)(σ0:List AV)(chs:List RC)(hl:chs.length≤B)(hc:∀c∈chs,vJ p c∧c.N+26≤B∧c.rest.length+26≤B∧0<c.N)(st:aA) :
 aD prog 131 [.slice (p.map bD),.agg [.slice (gs0.map d6),.slice σ0,.slice (chs.map eW)]] st (fun r st'=>st'=st∧match eV p chs.length chs with
  | some s=>r=.tup [rY s,.bool true]
  | none=>∃l1 l2 l3,r=.tup [.agg [.slice l1,.slice l2,.slice l3],.bool false]):=by
 refine aD.nB (aD.soft ?_)
 refine wF [1000000,3] 2 func131 ntmps131 rfl rfl ?_
 intro _
 simp -implicitDefEqProofs only[aB,seval,tE]
 intro b3 h3 b4 h4
 have hne:b4≠b3:=by rintro rfl;rw[aA.aH] at h4;cases h4
 have NX:st b4=none:=by rw[aA.aF _ _ hne] at h4;exact h4
 rw[aA.nN _ _ _ (dA hne)]
 generalize hW:st.aC b4 (.cells [.fslice [],.fslice [],.fslice []])=W
 have hW4:W b4=some (.cells [.fslice [],.fslice [],.fslice []]):=by rw[←hW];exact aA.aH _ _ _
 have hW3:W b3=none:=by rw[←hW,aA.aF _ _ (dA hne)];exact h3
 have hDW:∀o o',aL ((W.aC b3 o).aC b4 o') st:=fun o o' q=>by
  by_cases q4:q=b4
  · subst q4;rw[aA.aH,NX];simp
  rw[aA.aF _ _ q4]
  by_cases q3:q=b3
  · subst q3;rw[aA.aH,h3];simp
  rw[aA.aF _ _ q3,←hW,aA.aF _ _ q4]
  simp
 have aZ5:b3≠b4:=dA hne
 refine mW (σ:=List RC×AV×AV) [1000000,3] [0,3,4] (fun s=>s.1.length≤B∧(∀c∈s.1,vJ p c∧c.N+26≤B∧c.rest.length+26≤B∧0<c.N)∧GB s.2.1∧GB s.2.2∧eV p s.1.length s.1=eV p chs.length chs) (fun s=>[(5,.bool false)]) (fun s=>W.aC b3 (.cells [s.2.1,s.2.2,.slice (s.1.map eW)])) (fun s=>s.1.length) (by decide +kernel) ⟨(chs,.slice (gs0.map d6),.slice σ0),⟨hl,hc,.inl ⟨_,rfl⟩,.inl ⟨_,rfl⟩,rfl⟩,aP.mk (by simp -implicitDefEqProofs only[aB,seval])⟩ ?_
 rintro⟨l,a,b⟩ ⟨hl1,hlc,ha,hb,hinv⟩
 simp only at hl1 hlc ha hb hinv
 obtain⟨a1,a2,a3,a4,a5,la,a6⟩:=ha.facts
 obtain⟨b1,b2,b3',b4',b5,lb,b6⟩:=hb.facts
 simp only
 rw[aUZ] at hinv
 by_cases xZ:l= []
 · subst xZ
   simp only[List.getLast?_nil] at hinv
   simp -implicitDefEqProofs only[aA.aH,t0,List.contains,List.elem,qO,gG,sub,↓reduceIte,reduceCtorEq,Nat.reduceEqDiff,tE]
   refine aT (fun h=>absurd h (by decide)) (fun h=>?_)
   simp -implicitDefEqProofs only[aS,hne,aA.aH,hW4,a5,b5,aB,seval,tE]
   rw[←hinv]
   exact⟨st,hDW _ _,rfl,la,lb,[],by simp only[mU,nK,uQ,tB,bH,bG,a6,b6]⟩
 obtain⟨c,nG⟩:∃c,l.getLast?=some c:=by
  cases h:l.getLast? with
  | none=>exact absurd (List.getLast?_eq_none_iff.1 h) xZ
  | some c=>exact⟨c,rfl⟩
 have hlp:=List.length_pos_iff.2 xZ
 have hcm:=KZ nG
 obtain⟨aRJ,hcN,hcr,hc0⟩:=hlc c hcm
 rw[nG] at hinv
 simp only at hinv
 have hat:=bJ (av:=eW) (P:=prog) (l:=l) (i:=l.length - 1) (x:=c) vY (by rw[←List.getLast?_eq_getElem?];exact nG) (JB c)
 rw[show(((l.length - 1:Nat):Int))=(l.length:Int) - 1 by omega] at hat
 have hw:=bK (n:=(l.length:Int) - 1)
 have hdl:l.dropLast=l.take (l.length - 1):=List.dropLast_eq_take
 have aZY:l.dropLast.length+1=l.length:=by simp;omega
 have hct:=TA p hp [] [] l.dropLast c aRJ hc0 (by omega) (by omega)
 have hcs:=fun(φ:AF) (d:Nat) (h:φ d=.int .i64 ((l.length:Int) - 1))=>aIR (es:=l.map eW) (k:=l.length - 1) vY (h.trans (by congr 1;omega)) (by simp)
 rw[←List.map_take,←hdl] at hcs
 generalize hx:gR p l.dropLast c.goal c.rest c.σ c.N c.left=x at hinv hct
 obtain⟨⟨ck,cn,cs',cts⟩,TW,TV,cσ,cN⟩:=c
 rw[OU] at hct hat
 simp only[bG] at hct
 simp -implicitDefEqProofs only[aE,aA.aH,aB,seval,tE]
 refine aT (fun h=>?_) (fun h=>absurd hlp (by simpa using h))
 simp -implicitDefEqProofs only[aE,aA.aH,hw,hat,aB,↓aX,seval,tE]
 cases x with
 | none=>
  have H9:∀st,aD prog 168 [.slice (p.map bD),.agg [.fslice [],.fslice [],.slice (l.dropLast.map eW)],.agg [.int .i64 ck,.int .i64 cn,.str cs',.slice (cts.map Tm.av),.slice (TW.map d6),.slice (TV.map nv),.slice (cH cN cσ)]] st (fun r st'=>r=.tup [.agg [.slice [],.slice [],.slice (l.dropLast.map eW)],.bool false]∧st'=st):=fun st=>
   aD.FF ((hct st).mono fun _ _ h=>⟨h.2,h.1⟩)
  simp only at hinv
  refine wP [(0,1),(1,1),(3,1),(2,2),(4,1),(5,1),(6,2),(7,1),(8,1),(9,1),(10,1),(11,0),(12,0),(13,1)] [0,1,3,2,4,5,6,7,8,9,10,13] mixed ?_
  simp -implicitDefEqProofs only[aA.aH,hcs,aB,seval,tE]
  refine MF H9 ?_
  simp -implicitDefEqProofs only[aS,aA.aH,aB,seval,tE]
  intro b8 h8
  have h83:b8≠b3:=by rintro rfl;rw[aA.aH] at h8;cases h8
  rw[aA.aF _ _ h83] at h8
  have h84:b8≠b4:=by rintro rfl;rw[hW4] at h8;cases h8
  have hs8:st b8=none:=by rw[←hW,aA.aF _ _ h84] at h8;exact h8
  have h38:=dA h83
  have h48:=dA h84
  simp -implicitDefEqProofs only[aS,h38,aA.aH,hcs,aB,seval,tE]
  refine⟨(l.dropLast,.fslice [],.fslice []),by simp only;omega,⟨by simp only;omega,fun c h=>hlc c (KW _ h),.inr rfl,.inr rfl,hinv⟩,aP.drop (fun q=>?_) (by simp -implicitDefEqProofs only[aB,seval])⟩
  by_cases q3:q=b3
  · subst q3;rw[aA.aH,aA.aH];simp
  rw[aA.aF _ _ q3,aA.aF _ _ q3]
  by_cases q8:q=b8
  · subst q8;rw[aA.aH,h8];simp
  rw[aA.aF _ _ q8,aA.aF _ _ q3]
  simp
 | some s=>
  have H9:∀st,aD prog 168 [.slice (p.map bD),.agg [.fslice [],.fslice [],.slice (l.dropLast.map eW)],.agg [.int .i64 ck,.int .i64 cn,.str cs',.slice (cts.map Tm.av),.slice (TW.map d6),.slice (TV.map nv),.slice (cH cN cσ)]] st (fun r st'=>r=.tup [rY s,.bool true]∧st'=st):=fun st=>
   aD.FF ((hct st).mono fun _ _ h=>⟨h.2,h.1⟩)
  simp only at hinv
  simp only[rY] at H9
  refine wP [(0,1),(1,1),(3,1),(2,2),(4,1),(5,1),(6,2),(7,1),(8,1),(9,1),(10,1),(11,0),(12,0),(13,1)] [0,1,3,2,4,5,6,7,8,9,10,13] mixed ?_
  simp -implicitDefEqProofs only[aA.aH,hcs,aB,seval,tE]
  refine MF H9 ?_
  simp -implicitDefEqProofs only[aS,aA.aH,aB,seval,tE]
  intro b8 h8
  have h83:b8≠b3:=by rintro rfl;rw[aA.aH] at h8;cases h8
  rw[aA.aF _ _ h83] at h8
  have h84:b8≠b4:=by rintro rfl;rw[hW4] at h8;cases h8
  have hs8:st b8=none:=by rw[←hW,aA.aF _ _ h84] at h8;exact h8
  have h38:=dA h83
  have h48:=dA h84
  simp -implicitDefEqProofs only[hne,h48,hW4,aB,seval]
  refine⟨st,?_,rfl,?_⟩
  · have d1:aL W st:=by rw[←hW];exact(aL.refl _).aC NX
    exact((d1.aC h3).aC hs8).aC NX
  · rw[←hinv]
    simp only[mU,nK,uQ,tB,bH,bG]
    rfl
theorem aVZ{φ:AF}{t:TypeId}{ag:Bool}{w:Nat}{y:Operand}{e:AV}{es:List AV}(hI:eI prog t=some (ag,w))(h:φ.eval y=.int .i64 1)(hw:∀x∈es,x.width=w):fS prog φ t (.slice (e::es)) (some y) none none=some (.slice es):=by
 have hwo:tJ (e::es) 1 w=true:=by
  unfold tJ
  rw[KX]
  split
  · rename_i x hx
    simp [hw x (cL hx)]
  · rfl
 unfold fS
 rw[aG (by simp [pD])]
 simp only[m8,hI]
 rw[aG (by simp)]
 simp only[c8,h]
 rw[aK (by constructor<;>simp<;>omega)]
 simp [hwo]
abbrev a0D:=zi tI_3 (zi zI_3 aZ)
theorem aOA(c:Int)(st:aA):aD prog 166 [.int .i64 c] st (fun r st'=>r=.int .i64 (nV c)∧st'=st):=by
 refine aD.done ?_
 refine wF [1000000] 1 func166 ntmps166 rfl rfl ?_
 intro _
 simp -implicitDefEqProofs only[aB,seval]
 unfold nV
 refine aT (fun h=>?_) (fun h=>?_)
 · simp -implicitDefEqProofs only[aB,seval]
   have h':c=2:=by simpa using h
   exact⟨by rw[aK h'];try rfl,aL.refl _⟩
 rw[aG (show ¬c=2 by simpa using h)]
 simp -implicitDefEqProofs only[aB,seval]
 refine aT (fun h=>?_) (fun h=>?_)
 · simp -implicitDefEqProofs only[aB,seval]
   have h':c=3:=by simpa using h
   exact⟨by rw[aK h'];try rfl,aL.refl _⟩
 rw[aG (show ¬c=3 by simpa using h)]
 simp -implicitDefEqProofs only[aB,seval]
 refine aT (fun h=>?_) (fun h=>?_)
 · simp -implicitDefEqProofs only[aB,seval]
   have h':c=4:=by simpa using h
   exact⟨by rw[aK h'];try rfl,aL.refl _⟩
 rw[aG (show ¬c=4 by simpa using h)]
 simp -implicitDefEqProofs only[aB,seval]
 exact⟨rfl,aL.refl _⟩
def vK(x:RO)(r:AV):Prop:=match x with
 | .go s=>r=.tup [rY s,.int .i64 (-1)]
 | .fail=>∃l1 l2 l3,r=.tup [.agg [.slice l1,.slice l2,.slice l3],.int .i64 (-2)]
 | .stop e=>0≤e∧∃l1 l2 l3,r=.tup [.agg [.slice l1,.slice l2,.slice l3],.int .i64 e]
abbrev mD:=zi tI_2 (zi zI_2 (zi KI (zi tI_3 (zi zI_3 (zi aZ (zi tI_4 (zi zI_4 (zi cG (zi tI_9 (zi zI_9 (zi eF (zi tI_27 (zi zI_27 (zi eT (zi gO (zi gP (zi iD (zi tI_28 (zi zI_28 (zi aQ (zi bM (zi bO (zi cA (zi tI_40 (zi zI_40 (zi dC (zi fH (zi fJ (zi fL (zi tI_52 (zi zI_52 (zi bX (zi bY (zi bZ (zi b7 (zi bV (zi tI_156 (zi zI_156 (zi tZ (zi xL (zi xN (zi FW (zi tI_157 (zi zI_157 (zi vY (zi DM (zi DN (zi QB (zi tI_159 (zi zI_159 (zi DO (zi DP (zi DQ (zi C7 (zi tI_193 (zi zI_193 (zi aEH (zi aEI (zi RW (zi tI_199 (zi zI_199 (zi MO (zi MP (zi MQ (zi MR LS)))))))))))))))))))))))))))))))))))))))))))))))))))))))))))))))))
theorem aOE{p:List Cl}(hp:∀c∈p,fX c∧c.2.length≤6)(hpl:p.length≤1048576){B:Nat}(hB:B+26≤524288)(goals:List RG)(σ:Sub)(N:Nat)(chs:List RC)(g:RG)(rest:List RG)(hgs:goals=g::rest)(h:oK p B ⟨goals,σ,N,chs⟩)(hK:xB ⟨goals,σ,N,chs⟩)(st:aA) :
 aD prog 130 [.slice (p.map bD),.agg [.slice (goals.map d6),.slice (cH N σ),.slice (chs.map eW)]] st (fun r st'=>st'=st∧vK (gQ p (fun _ l=>l) ⟨goals,σ,N,chs⟩ g rest) r):=by
 subst hgs
 obtain⟨hg,ho,hd,hgo,h0,hN,hgl,hcl,hch⟩:=h
 simp only at hg ho hd hgo h0 hN hgl hcl hch
 obtain⟨hgx,hg3⟩:=hgo g (by simp)
 have uD:∀x∈rest,a9 N x.t∧x.t.k=3:=fun x hx=>hgo x (by simp [hx])
 have hkp:=hK.goals.2 g (by simp)
 simp only at hkp
 have hsm:=S9 hg ho g.t hgx
 have hyk:(g.t.aJ (rs σ)).k=3:=by rw[Tm.qA _ (by omega)];exact hg3
 have hfo:=HV hg ho hgx
 generalize hR:gQ p (fun _ l=>l) ⟨g::rest,σ,N,chs⟩ g rest=R
 unfold gQ at hR
 dsimp only at hR
 obtain⟨⟨gk,gn,gs',gts⟩,aV⟩:=g
 simp only at hgx hg3 hkp hsm hyk hfo
 dsimp only at hR
 generalize (Tm.mk gk gn gs' gts).aJ (rs σ)=y at *
 obtain⟨yk,yn,ys,yts⟩:=y
 obtain rfl:yk=3:=hyk
 have hat:dG prog 156 (.slice ((⟨.mk gk gn gs' gts,aV⟩::rest).map d6)) (.int .i64 0)=some (.pptr (d6 ⟨.mk gk gn gs' gts,aV⟩)):=bJ (av:=d6) (l:=⟨.mk gk gn gs' gts,aV⟩::rest) (i:=0) tZ rfl (BX _)
 have hs1:=fun(φ:AF) (y:Operand) (h:φ.eval y=.int .i64 1)=>aVZ (e:=d6 ⟨.mk gk gn gs' gts,aV⟩) (es:=rest.map d6) tZ h (by intro e he;simp only[cE] at he;obtain⟨t,_,rfl⟩:=he;exact BX t)
 rw[bH,E9] at hat
 rw[E9] at hs1
 rw[bH,E9]
 simp only[a7] at hsm
 refine aD.fin (aD.nB ?_)
 refine wF [1000000] 2 func130 ntmps130 rfl rfl ?_
 intro _
 simp -implicitDefEqProofs only[bA,hat,hs1,aB,↓aX,seval,mD]
 intro b4 h4
 refine(hsm _).mono ?_
 rintro _ _ ⟨rfl,x,rfl,hx⟩
 generalize fY:eA (.mk 3 yn ys yts)=fit at *
 have xO:∀(o:AO) (r:AV) (x:RO),vK x (r.fin 0 [])→∃s2,aL (st.aC b4 o) s2∧∃b l s0,s2=bE s0 b l∧(l≠[]→s0 b=none)∧(∀e∈l,e.b9=false)∧jD l∧s0=st∧vK x (r.fin b l):=fun o r x hr=>
  ⟨st,(aL.refl _).aC h4,0,[],st,rfl,by simp,by simp,⟨0,by simp⟩,rfl,hr⟩
 simp -implicitDefEqProofs only[bA,aN,Tm.d8,Tm.eO,aB,↓aX,seval,mD]
 refine aT (fun h=>?_) (fun h=>?_)
 · have h':fit=false:=by simpa using h
   subst h'
   rw[aK rfl] at hR
   subst hR
   simp -implicitDefEqProofs only[aS,bA,aB,seval,mD]
   exact xO _ _ _ ⟨by decide,_,_,_,by simp only[g7,jZ,fQ,jA,bH,bG];rfl⟩
 obtain rfl:fit=true:=by simpa using h
 obtain rfl:=hx rfl
 simp only[a7]
 have hyo:=hfo rfl
 rw[aG (by simp)] at hR
 have ED:∀st,aD prog 163 [.agg [.int .i64 3,.int .i64 yn,.str ys,.slice (yts.map Tm.av)]] st (fun r st'=>r=.bool (pY (.mk 3 yn ys yts))∧st'=st):=fun st=>by
  have:=S3 3 yn ys yts st
  rw[a7] at this
  exact this
 have hbi:=fun st=>L8 ys (yts.length:Int) st
 have aF6:=fun st=>aN0 p (.mk 3 yn ys yts) hpl st
 have aGK:=fun hb=>aMG (N:=N) h0 (by omega) hg ho yn ys yts hb (qD N (.mk 3 yn ys yts) (by show(3:Int)≠1;decide) hyo)
 have htr:=TA p hp
 simp only[a7] at aF6 aGK
 replace hR:(if pY (.mk 3 yn ys yts)=true then RO.go ⟨rest,σ,N,chs.take aV⟩ else if isBuiltin ys (yts.length:Int)=true then(if(cS σ ys yts).1=0 then RO.go ⟨rest,(cS σ ys yts).2.1,N,chs⟩ else if(cS σ ys yts).1=1 then RO.fail else RO.stop (nV (cS σ ys yts).1)) else if eU p (.mk 3 yn ys yts)= [] then RO.stop 8 else match gR p chs (.mk 3 yn ys yts) rest σ N (eU p (.mk 3 yn ys yts)) with | some s'=>RO.go s' | none=>RO.fail)=R:=hR
 generalize hcu:pY (.mk 3 yn ys yts)=cu at *
 have hs2:=fun(φ:AF) (d:Nat) (h:φ d=.int .i64 (aV:Int))=>aIR (es:=chs.map eW) (k:=aV) vY h (by simpa using hkp)
 rw[←List.map_take] at hs2
 refine(ED _).to ?_
 simp -implicitDefEqProofs only[aB,seval]
 refine aT (fun h=>?_) (fun h=>?_)
 · rw[aK h] at hR
   subst h hR
   simp -implicitDefEqProofs only[aB,seval]
   refine wP [(0,1),(1,1),(3,1),(5,1),(2,2),(4,2),(6,2),(7,1),(8,1),(9,0),(10,1)] [0,1,3,5,2,4,6,7,8,10] mixed ?_
   simp -implicitDefEqProofs only[aS,bA,hs2,aB,seval,mD]
   exact xO _ _ _ (by simp only[g7,jZ,fQ,jA,bH,bG];rfl)
 rw[aG (by rw[h];simp)] at hR
 subst h
 simp -implicitDefEqProofs only[aE,aB,seval,mD]
 refine(hbi _).to ?_
 simp -implicitDefEqProofs only[aB,seval]
 refine aT (fun h=>?_) (fun h=>?_)
 · have sY:=aGK h
   rw[aK h] at hR
   simp -implicitDefEqProofs only[aB,seval,mD]
   refine LQ h0 (by omega) σ fun b hb hA0=>?_
   have hst:=aL.aC (aL.refl st) (o:=.cells [.fslice [],.fslice [],.fslice []]) h4
   generalize hW:st.aC b4 (.cells [.fslice [],.fslice [],.fslice []])=W at *
   have hW4:W b4=some (.cells [.fslice [],.fslice [],.fslice []]):=by rw[←hW];exact aA.aH _ _ _
   have hT:aL (W.aC b (.cells ((cH N σ).flatMap AV.cells))) W:=(aL.refl _).aC hb
   generalize W.aC b (.cells ((cH N σ).flatMap AV.cells))=T at *
   have hb4:b≠b4:=by rintro rfl;rw[hW4] at hb;cases hb
   simp -implicitDefEqProofs only[bA,aB,seval,mD]
   refine(sY b _ hA0).mono ?_
   rintro _ s2 ⟨rfl,hA,hk2⟩
   have aRI:=aV5 σ ys yts
   generalize cS σ ys yts=S at *
   obtain⟨c,σ',tr⟩:=S
   simp only at hA aRI ⊢
   dsimp only at hR
   have hDs:aL s2 W:=by
    intro q
    have key:∀o,W q=some o→s2 q=some o:=fun o h=>hk2 q o ((hT q).2 o h) (by rintro rfl;rw[hb] at h;cases h)
    refine⟨fun h=>?_,key⟩
    cases hq:W q with
    | none=>rfl
    | some o=>rw[key o hq] at h;cases h
   have NW:=(hDs b4).2 _ hW4
   have aSX:st b=none:=by rw[←hW,aA.aF _ _ hb4] at hb;exact hb
   have aE8:∀(o:AO) (r:AV) (x:RO),vK x (r.fin 0 [])→∃s3,aL (s2.aC b4 o) s3∧∃b l s0,s3=bE s0 b l∧(l≠[]→s0 b=none)∧(∀e∈l,e.b9=false)∧jD l∧s0=st∧vK x (r.fin b l):=fun o r x hr=>
    ⟨st,(hDs.trans hst).aC h4,0,[],st,rfl,by simp,by simp,⟨0,by simp⟩,rfl,hr⟩
   simp -implicitDefEqProofs only[aB,seval]
   refine aT (fun h=>?_) (fun h=>?_)
   · have hc0:c=0:=by simpa using h
     subst hc0
     rw[aK rfl] at hR
     subst hR
     simp -implicitDefEqProofs only[aS,bA,NW,aB,seval,mD]
     have nE:cH N σ'≠[]:=by intro e;have:=sH N σ';rw[e] at this;simp at this;omega
     refine⟨st.aC b (.cells ((cH N σ').flatMap AV.cells)),fun q=>?_,b,cH N σ',st,by rw[jE nE],fun _=>aSX,C5 _ _,⟨4,z8 _ _⟩,rfl,?_⟩
     · by_cases q4:q=b4
       · subst q4;rw[aA.aH,aA.aF _ _ (dA hb4),h4];simp
       rw[aA.aF _ _ q4]
       by_cases qb:q=b
       · subst qb;rw[aA.aH,show s2 q=_ from hA];simp
       rw[aA.aF _ _ qb]
       exact(hDs.trans hst) q
     · simp only[g7,jZ,fQ,jA,bH,bG,HT h0]
       rfl
   have hc0:c≠0:=by simpa using h
   rw[aG hc0] at hR
   simp -implicitDefEqProofs only[aB,seval]
   refine aT (fun h=>?_) (fun h=>?_)
   · have hc1:c=1:=by simpa using h
     subst hc1
     rw[aK rfl] at hR
     subst hR
     simp -implicitDefEqProofs only[aS,bA,NW,aB,seval,mD]
     exact aE8 _ _ _ ⟨_,_,_,by simp only[g7,jZ,fQ,jA,bH,bG];rfl⟩
   have hc1:c≠1:=by simpa using h
   rw[aG hc1] at hR
   subst hR
   have sU:0≤nV c:=by unfold nV;split;omega;split;omega;split;omega;omega
   simp -implicitDefEqProofs only[aB,seval]
   refine wP [(1,1),(0,2),(2,2),(3,0),(4,1)] [1,0,2,4] mixed ?_
   simp -implicitDefEqProofs only[bA,aB,seval,mD]
   refine jW (aOA c _) ?_
   simp -implicitDefEqProofs only[aS,bA,NW,aB,seval,mD]
   exact aE8 _ _ _ ⟨sU,_,_,_,by simp only[g7,jZ,fQ,jA,bH,bG];rfl⟩
 rw[aG (by rw[h];simp)] at hR
 simp -implicitDefEqProofs only[bA,aB,seval,mD]
 refine(aF6 _).to ?_
 have hcx:vJ p ⟨.mk 3 yn ys yts,rest,eU p (.mk 3 yn ys yts),σ,N⟩:=⟨hg,ho,hd,hyo,uD,fun i hi=>by
  unfold eU at hi
  exact vG.1 (List.mem_filter.1 hi).1,by simp only;simp only[bA] at hgl;omega,by
  have:=HY p (.mk 3 yn ys yts) p.length
  rw[←HX] at this
  simp only;omega⟩
 have BC:=fun st=>htr (⟨.mk gk gn gs' gts,aV⟩::rest) (cH N σ) chs _ hcx h0 (by simp only;omega) (by omega) st
 rw[bH,E9,OU] at BC
 simp only at BC
 generalize eU p (.mk 3 yn ys yts)=left at *
 simp -implicitDefEqProofs only[aE,aB,seval,mD]
 refine aT (fun h=>?_) (fun h=>?_)
 · have h':left= []:=by
    have:(left.length:Int)=0:=by simpa using h
    exact qQ (by omega)
   rw[aK h'] at hR
   subst hR
   simp -implicitDefEqProofs only[aS,bA,aB,seval,mD]
   exact xO _ _ _ ⟨by decide,_,_,_,by simp only[g7,jZ,fQ,jA,bH,bG];rfl⟩
 have h':left≠[]:=by
  rintro rfl
  simp at h
 rw[aG h'] at hR
 generalize gR p chs (.mk 3 yn ys yts) rest σ N left=x at *
 simp -implicitDefEqProofs only[bA,aB,seval,mD]
 cases x with
 | none=>
  simp only at hR BC
  subst hR
  refine(BC _).mono ?_
  rintro _ _ ⟨rfl,rfl⟩
  simp -implicitDefEqProofs only[aS,bA,aB,↓aX,seval,mD]
  exact xO _ _ _ ⟨_,_,_,by simp only[g7,jZ,fQ,jA,bH,bG];rfl⟩
 | some s=>
  simp only[rY] at hR BC
  subst hR
  refine(BC _).mono ?_
  rintro _ _ ⟨rfl,rfl⟩
  simp -implicitDefEqProofs only[aS,bA,aB,↓aX,seval,mD]
  exact xO _ _ _ (by simp only[g7,jZ,fQ,jA,bH,bG];rfl)
theorem aVT{N:Int}{t:Tm}(h:cB N t):cU 0 t=t:=by
 have h1:cU 0 t=t.aJ vr:=by
  unfold cU bP
  congr 1
  funext v
  congr 1
  simp
 rw[h1,N4 t h.2.1]
theorem RU(N:Nat):cH N Sub.none=List.replicate N zt:=by
 apply F9
 intro i
 by_cases h:i<N
 · rw[xH N _ h,List.getElem?_replicate,aK h];try rfl
 · rw[CG (by rw[sH];omega),CG (by simp;omega)]
abbrev PU:=zi tI_3 (zi zI_3 (zi aZ (zi tI_28 (zi zI_28 (zi aQ (zi bM (zi bO (zi cA (zi tI_156 (zi zI_156 (zi tZ (zi xL (zi xN (zi FW (zi tI_159 (zi zI_159 (zi DO (zi DP (zi DQ C7)))))))))))))))))))
theorem aOD(q:List Tm)(hq:∀t∈q,a9 26 t)(h6:q.length≤6)(st:aA):aD prog 128 [.slice (q.map Tm.av)] st (fun r st'=>r=rY (k8 q)∧st'=st):=by
 have hgo:∀st,aD prog 158 [.slice (q.map Tm.av),.int .i64 0,.int .i64 0,.fslice []] st (fun r st'=>r=.slice ((k8 q).goals.map d6)∧st'=st):=fun st=>
  aD.FF ((S8 q 0 0 [] hq h6 (by omega) (by simp) st).mono fun _ _ h=>⟨by
   rw[h.1]
   unfold k8
   rw[fM]
   congr 2
   exact pO fun t ht=>by rw[aVT (hq t ht).1],h.2⟩)
 refine aD.rH (aD.fin (aD.nB ?_))
 refine wF [1000000,3] 1 func128 ntmps128 rfl rfl ?_
 intro _
 simp -implicitDefEqProofs only[aB,seval,PU]
 intro b2 h2
 simp -implicitDefEqProofs only[qX,aS,t0,↓HI,↓F7,List.contains,List.elem,wV,oH,pM,↓reduceIte,reduceCtorEq,Nat.reduceEqDiff,Nat.reduceAdd,Nat.reduceLT,Nat.reduceBEq,PU]
 refine⟨by omega,by omega,by omega,fun bb hbb=>?_⟩
 rw[show Int.toNat 26=26 from rfl,ER _ (by simp)]
 have hb2:bb≠b2:=by rintro rfl;rw[aA.aH] at hbb;cases hbb
 have H8:(List.replicate 26 [AV.int .i64 0,.int .i64 0,.str ⟨#[]⟩,.fslice []]).flatten=(cH 26 Sub.none).flatMap AV.cells:=by
  rw[RU];try rfl
 rw[H8]
 have h22:(st.aC b2 (AO.cells [AV.fslice [],AV.fslice [],AV.fslice []])) b2=some (AO.cells [AV.fslice [],AV.fslice [],AV.fslice []]):=aA.aH _ _ _
 have hD2:aL (st.aC b2 (AO.cells [AV.fslice [],AV.fslice [],AV.fslice []])) st:=(aL.refl _).aC h2
 intro b3 h3
 have h3b:b3≠bb:=by rintro rfl;rw[aA.aH] at h3;cases h3
 rw[aA.aF _ _ h3b] at h3
 have h32:b3≠b2:=by rintro rfl;rw[aA.aH] at h3;cases h3
 have hs3:st b3=none:=by rw[aA.aF _ _ h32] at h3;exact h3
 have hsb:st bb=none:=by rw[aA.aF _ _ hb2] at hbb;exact hbb
 refine(hgo _).to ?_
 have e1:=dA h3b
 have e2:=dA h32
 have e3:=dA hb2
 simp -implicitDefEqProofs only[aS,e2,e3,aA.aH,aB,seval,PU]
 have nE:cH 26 Sub.none≠[]:=by rw[RU];simp
 refine⟨st.aC bb (.cells ((cH 26 Sub.none).flatMap AV.cells)),fun q'=>?_,bb,cH 26 Sub.none,st,by rw[jE nE],fun _=>hsb,C5 _ _,⟨4,z8 _ _⟩,?_,aL.refl _⟩
 · by_cases q2:q'=b2
   · subst q2;rw[aA.aH,aA.aF _ _ e3,h2];simp
   rw[aA.aF _ _ q2]
   by_cases q3:q'=b3
   · subst q3;rw[aA.aH,aA.aF _ _ h3b,hs3];simp
   simp only[aA.aF _ _ q3]
   by_cases qb:q'=bb
   · subst qb;rw[aA.aH,aA.aH];simp
   rw[aA.aF _ _ qb,aA.aF _ _ qb,aA.aF _ _ q2]
   simp
 · simp only[g7,jA,rJ,bH,bG,HT (show 0<26 by omega)]
   rfl
theorem LI{S:aA}{b c:Nat}{l:List AV}{o:AO}(h:l≠[]→b≠c):(bE S b l).aC c o=bE (S.aC c o) b l:=by
 cases l with
 | nil=>rfl
 | cons x l=>rw[jE (by simp),jE (by simp),aA.nN _ _ _ (h (by simp))]
theorem rX{p:List Cl}{cnd:Tm→List Nat→List Nat}{vars:List Int}{most fuel:Nat}{s:RS}(hg:s.goals= []):gL p cnd vars most fuel s=if most=0 then([],1) else match gW s.σ vars with
 | none=>([],3)
 | some a=>match eV p s.chs.length s.chs with
  | none=>([a],0)
  | some s'=>(a::(gL p cnd vars (most - 1) fuel s').1,(gL p cnd vars (most - 1) fuel s').2):=by
 rw[gL.eq_def,hg]
 simp only
 split<;>rfl
theorem pH{p:List Cl}{cnd:Tm→List Nat→List Nat}{vars:List Int}{most fuel:Nat}{s:RS}{g:RG}{rest:List RG}(hg:s.goals=g::rest):gL p cnd vars most fuel s=if fuel=0 then([],2) else match gQ p cnd s g rest with
 | .stop e=>([],e)
 | .go s'=>gL p cnd vars most (fuel - 1) s'
 | .fail=>match eV p s.chs.length s.chs with
  | none=>([],0)
  | some s'=>gL p cnd vars most (fuel - 1) s':=by
 rw[gL.eq_def,hg]
 simp only
 split<;>rfl
structure QT (p:List Cl) (vars:List Int) (most fuel:Nat) (T:List (List Tm)×Int) (s:RS) (out:List (List Tm)) (f B:Nat):Prop where
 tot:T=(out++(gL p (fun _ l=>l) vars (most - out.length) f s).1,(gL p (fun _ l=>l) vars (most - out.length) f s).2)
 len:out.length≤most
 ok:lG p B s
 bd:B+26*f≤8000
abbrev lU:=zi tI_2 (zi zI_2 (zi KI (zi tI_3 (zi zI_3 (zi aZ (zi tI_4 (zi zI_4 (zi cG (zi tI_27 (zi zI_27 (zi eT (zi gO (zi gP (zi iD (zi tI_28 (zi zI_28 (zi aQ (zi bM (zi bO (zi cA (zi tI_31 (zi zI_31 (zi fA (zi gY (zi gZ (zi k9 (zi tI_40 (zi zI_40 (zi dC (zi fH (zi fJ (zi fL (zi tI_55 (zi zI_55 (zi v7 (zi vR (zi tI_156 (zi zI_156 (zi tZ (zi xL (zi xN (zi FW (zi tI_159 (zi zI_159 (zi DO (zi DP (zi DQ C7)))))))))))))))))))))))))))))))))))))))))))))))
theorem aOC{p:List Cl}(hp:∀c∈p,fX c∧c.2.length≤6)(hpl:p.length≤20){q:List Tm}(hq:∀t∈q,a9 26 t∧t.k=3)(h6:q.length≤6){most fuel:Nat}(hm:most≤20)(hf:fuel≤300)(st:aA) :
 aD prog 80 [.slice (p.map bD),.slice (q.map Tm.av),.int .i64 (most:Int),.int .i64 (fuel:Int)] st (fun r st'=>r=.tup [.slice ((tC p (fun _ l=>l) q most fuel).1.map aY),.int .i64 (tC p (fun _ l=>l) q most fuel).2]∧st'=st):=by
 have hnd:aM Tm.nodes q≤1099511627776:=by
  have:=BK q fun t ht=>(hq t ht).1.2
  omega
 have hva:=fun st=>TB q st (fun t ht=>Tm.sK t (hq t ht).1.1.2.1) hnd
 have EK:=fun st=>aOD q (fun t ht=>(hq t ht).1) h6 st
 have hv:∀v∈bR q [],0≤v∧v<26:=fun v hv=>by
  rcases (wR q [] fun t ht=>(hq t ht).1.1.2.1).1 hv with h | ⟨t,ht,h⟩
  · cases h
  · exact(hq t ht).1.1.2.2 v h
 have hvl:(bR q []).length≤1000:=by
  have h1:=wQ q []
  have h2:=BK q fun t ht=>(hq t ht).1.2
  simp only[bS] at h1
  omega
 have IK:=lG.start (p:=p) hq h6
 generalize hT:tC p (fun _ l=>l) q most fuel=T
 unfold tC at hT
 generalize bR q []=vars at *
 have hI0:QT p vars most fuel T (k8 q) [] fuel 26:=⟨by rw[←hT];try rfl,lY _,IK,by omega⟩
 generalize k8 q=s0 at *
 simp only[rY] at EK
 refine aD.rH (aD.fin (aD.nB ?_))
 refine wF [1000000,12] 4 func80 ntmps80 rfl rfl ?_
 intro _
 simp -implicitDefEqProofs only[aB,seval,lU]
 refine(hva _).to ?_
 simp -implicitDefEqProofs only[aB,seval]
 refine(EK _).to ?_
 simp -implicitDefEqProofs only[aS,aB,↓aX,seval,lU]
 intro b12 h12
 refine mW (σ:=RS×List (List Tm)×Nat×Nat×Nat) [1000000,12] [0,2,11,12] (fun x=>QT p vars most fuel T x.1 x.2.1 x.2.2.1 x.2.2.2.1∧(x.2.1.map aY≠[]→(st.aC b12 (.cells [.slice (x.1.goals.map d6),.slice (cH x.1.N x.1.σ),.slice (x.1.chs.map eW)])) x.2.2.2.2=none))
  (fun x=>[(3,.int .i64 (x.2.2.1:Int)),(8,.fslice []),(9,.int .i64 0),(10,bQ 1 x.2.2.2.2 (x.2.1.map aY))])
  (fun x=>bE (st.aC b12 (.cells [.slice (x.1.goals.map d6),.slice (cH x.1.N x.1.σ),.slice (x.1.chs.map eW)])) x.2.2.2.2 (x.2.1.map aY))
  (fun x=>(most - x.2.1.length)+x.2.2.1) (by decide +kernel) ⟨(s0,[],fuel,26,0),⟨hI0,by simp⟩,aP.mk (by simp -implicitDefEqProofs only[kP,bG,aB,seval])⟩ ?_
 rintro⟨s,out,f,B,b⟩ ⟨⟨tot,hlen,hok,hbd⟩,hb⟩
 simp only at tot hlen hok hbd hb
 simp only
 have hbc:out.map aY≠[]→b≠b12:=fun h=>by rintro rfl;have:=hb h;rw[aA.aH] at this;cases this
 have oY:=z5 hb (aA.aH st b12 (.cells [.slice (s.goals.map d6),.slice (cH s.N s.σ),.slice (s.chs.map eW)]))
 have hlo:(out.map aY).length=out.length:=aE _
 have aR2:∀l:List (List Tm),∀e∈l.map aY,e.b9=false:=fun l e he=>by simp only[cE] at he;obtain⟨t,_,rfl⟩:=he;rfl
 have IL:∀l:List (List Tm),∀e∈l.map aY,e.width=1:=fun l e he=>by simp only[cE] at he;obtain⟨t,_,rfl⟩:=he;rfl
 have fin:∀(S:aA) (b:Nat) (l:List (List Tm)) (e:Int),(l.map aY≠[]→S b=none)→aL S st→T=(l,e)→∃s2,aL (bE S b (l.map aY)) s2∧∃b' l' s0,s2=bE s0 b' l'∧(l'≠[]→s0 b'=none)∧(∀e∈l',e.b9=false)∧jD l'∧(AV.tup [bQ 1 b (l.map aY),.int .i64 e]).fin b' l'=.tup [.slice (T.1.map aY),.int .i64 T.2]∧aL s0 st:=fun S b l e h1 h2 h3=>
  ⟨_,aL.refl _,b,l.map aY,S,rfl,h1,aR2 l,⟨1,IL l⟩,by subst h3;simp only[jZ,fQ,nC,bH,bG],h2⟩
 have hSD:∀o,aL (st.aC b12 o) st:=fun o=>(aL.refl _).aC h12
 generalize hX:(AO.cells [.slice (s.goals.map d6),.slice (cH s.N s.σ),.slice (s.chs.map eW)])=X at oY hb
 have oY:=oY.trans (rF some hX.symm)
 have hun:prog.underlying 31=some (.slice 55):=by kernel_rfl
 have sW:=CY (w:=1) (b:=b) (l:=out.map aY) hun
 rw[hlo] at sW
 cases hgs:s.goals with
 | nil=>
  rw[hgs] at hX oY
  simp only[bG] at hX oY
  rw[rX hgs] at tot
  simp -implicitDefEqProofs only[bS,sW,oY,aB,seval,lU]
  refine aT (fun h=>?_) (fun h=>?_)
  · have h':out.length=most:=by simp at h;omega
    rw[aK (by omega)] at tot
    simp -implicitDefEqProofs only[nS,aB,seval]
    exact fin _ b out 1 hb (hSD _) (by rw[tot,fM])
  have h':out.length<most:=by simp at h;omega
  rw[aG (by omega)] at tot
  simp -implicitDefEqProofs only[oY,aB,seval,lU]
  refine(aN9 (N:=s.N) hok.a.gA hok.a.ok vars (fun v h=>⟨(hv v h).1,by have:=(hv v h).2;have:=hok.l.1;omega⟩) hvl _).mono ?_
  rintro _ _ ⟨rfl,a,rfl,ha⟩
  cases oZ:gW s.σ vars with
  | none=>
   rw[oZ] at tot
   simp only[Option.isSome_none,aY]
   simp -implicitDefEqProofs only[bS,bA,nS,aB,↓aX,seval,lU]
   exact fin _ b out 3 hb (hSD _) (by rw[tot,fM])
  | some x=>
   obtain rfl:=ha x oZ
   rw[oZ] at tot
   simp only[Option.isSome_some,aY] at tot ⊢
   simp -implicitDefEqProofs only[bS,bA,aB,↓aX,seval,lU]
   refine fT (P:=prog) (b:=b) (l:=out.map aY) (xs:=[aY a]) fA gY gZ rfl rfl (g9 rfl rfl) (IL out) hb (by simp only[bA,bS,hlo];omega) (by simp only[bA,bS,hlo];omega) (fun b' hb'=>?_)
   rw[show(out.map aY)++ [aY a]=(out++ [a]).map aY by simp] at hb' ⊢
   have aFO:=(z5 hb' (aA.aH st b12 X)).trans (rF some hX.symm)
   simp -implicitDefEqProofs only[bS,bA,aFO,aB,seval,lU]
   have H7:(f:Int)=(f:Int):=rfl
   refine(S6 hp (B:=B) (by omega) [] (cH s.N s.σ) s.chs hok.a.oR hok.a.chs _).mono ?_
   rintro r _ ⟨rfl,hr⟩
   cases hbk:eV p s.chs.length s.chs with
   | none=>
    rw[hbk] at hr tot
    simp only at hr tot
    obtain⟨l1,l2,l3,rfl⟩:=hr
    simp -implicitDefEqProofs only[bS,bA,nS,aB,↓aX,seval,lU]
    exact fin _ b' (out++ [a]) 0 hb' (hSD _) (by rw[tot];try rw[fM])
   | some s'=>
    rw[hbk] at hr tot
    simp only[rY] at hr tot
    subst hr
    simp -implicitDefEqProofs only[aS,bS,bA,aFO,aB,↓aX,seval,lU]
    rw[LI (fun h=>by rintro rfl;have:=hb' h;rw[aA.aH] at this;cases this),d4]
    have hne:(out++ [a]).map aY≠[]→b'≠b12:=fun h=>by rintro rfl;have:=hb' h;rw[aA.aH] at this;cases this
    refine⟨(s',out++ [a],f,B,b'),by simp only[dX,bA,bS];omega,⟨⟨by rw[tot];try simp only[lA,gF,e9,dX,bA,bS,Nat.sub_sub];try rfl,by simp only[dX,bA,bS];omega,hok.back hp (by omega) hbk,by simp only;omega⟩,fun h=>by rw[aA.aF _ _ (hne h)];have:=hb' h;rwa [aA.aF _ _ (hne h)] at this⟩,aP.mk (by simp -implicitDefEqProofs only[aB,seval])⟩
 | cons g rest=>
  rw[hgs] at hX oY
  rw[pH hgs] at tot
  simp -implicitDefEqProofs only[aE,bA,oY,aB,seval,lU]
  refine aT (fun h=>absurd h (by simp;omega)) (fun h=>?_)
  simp -implicitDefEqProofs only[aB,seval]
  refine aT (fun h=>?_) (fun h=>?_)
  · have h':f=0:=by simp at h;omega
    rw[aK h'] at tot
    simp -implicitDefEqProofs only[nS,aB,seval]
    exact fin _ b out 2 hb (hSD _) (by rw[tot,fM])
  have h':f≠0:=by simp at h;omega
  rw[aG h'] at tot
  have hw:=bK (n:=(f:Int) - 1)
  simp -implicitDefEqProofs only[hw,bS,bA,oY,aB,seval,lU]
  have hst:=aOE hp (by omega) (B:=B) (by omega) s.goals s.σ s.N s.chs g rest hgs hok.a hok.k
  rw[hgs,bH] at hst
  refine(hst _).mono ?_
  rintro r _ ⟨rfl,hr⟩
  have hse:(⟨g::rest,s.σ,s.N,s.chs⟩:RS)=s:=by rw[←hgs]
  rw[hse] at hr
  cases rS:gQ p (fun _ l=>l) s g rest with
  | go s'=>
   rw[rS] at hr tot
   simp only[vK,rY] at hr tot
   subst hr
   simp -implicitDefEqProofs only[bS,bA,t0,↓HI,List.contains,List.elem,yX,↓reduceIte,Nat.reduceEqDiff,Nat.reduceAdd,Nat.reduceBEq,lU]
   refine aT (fun h=>absurd h (by decide)) (fun h=>?_)
   simp -implicitDefEqProofs only[aS,bS,bA,oY,aB,seval,lU]
   rw[LI hbc,d4]
   have H7:((f - 1:Nat):Int)=(f:Int) - 1:=by omega
   refine⟨(s',out,f - 1,B+26,b),by simp only;omega,⟨⟨tot,hlen,hok.step hp (by omega) (by omega) (cnd:=fun _ l=>l) (fun _ _=>⟨fun _ h=>h,cQ _⟩) hgs rS,by simp only;omega⟩,fun h=>by rw[aA.aF _ _ (hbc h)];have:=hb h;rwa [aA.aF _ _ (hbc h)] at this⟩,aP.mk (by simp -implicitDefEqProofs only[H7,aB,seval])⟩
  | fail=>
   rw[rS] at hr tot
   simp only[vK] at hr tot
   obtain⟨l1,l2,l3,rfl⟩:=hr
   simp -implicitDefEqProofs only[bS,bA,t0,↓HI,List.contains,List.elem,yX,↓reduceIte,Nat.reduceEqDiff,Nat.reduceAdd,Nat.reduceBEq,lU]
   refine aT (fun h=>absurd h (by decide)) (fun h=>?_)
   simp -implicitDefEqProofs only[bS,bA,oY,aB,seval,lU]
   have H7:((f - 1:Nat):Int)=(f:Int) - 1:=by omega
   refine(S6 hp (B:=B) (by omega) (g::rest) (cH s.N s.σ) s.chs hok.a.oR hok.a.chs _).mono ?_
   rintro r _ ⟨rfl,hr⟩
   cases hbk:eV p s.chs.length s.chs with
   | none=>
    rw[hbk] at hr tot
    simp only at hr tot
    obtain⟨l1,l2,l3,rfl⟩:=hr
    simp -implicitDefEqProofs only[bS,bA,nS,aB,↓aX,seval,lU]
    exact fin _ b (out) 0 hb (hSD _) (by rw[tot];try rw[fM])
   | some s'=>
    rw[hbk] at hr tot
    simp only[rY] at hr tot
    subst hr
    simp -implicitDefEqProofs only[aS,bS,bA,oY,aB,↓aX,seval,lU]
    rw[LI (fun h=>by rintro rfl;have:=hb h;rw[aA.aH] at this;cases this),d4]
    have hne:(out).map aY≠[]→b≠b12:=fun h=>by rintro rfl;have:=hb h;rw[aA.aH] at this;cases this
    refine⟨(s',out,f - 1,B,b),by simp only[];omega,⟨⟨by rw[tot];try simp only[lA,gF,e9,dX,bA,bS,Nat.sub_sub];try rfl,by simp only[];omega,hok.back hp (by omega) hbk,by simp only;omega⟩,fun h=>by rw[aA.aF _ _ (hne h)];have:=hb h;rwa [aA.aF _ _ (hne h)] at this⟩,aP.mk (by simp -implicitDefEqProofs only[H7,aB,seval])⟩
  | stop e=>
   rw[rS] at hr tot
   simp only[vK] at hr tot
   obtain⟨he0,l1,l2,l3,rfl⟩:=hr
   simp -implicitDefEqProofs only[bS,bA,aB,↓aX,seval,lU]
   refine aT (fun h=>?_) (fun h=>absurd he0 (by simpa using h))
   simp -implicitDefEqProofs only[nS,aB,seval]
   exact fin _ b out e hb (hSD _) (by rw[tot,fM])
end Go.AW
namespace Go.AW
def jO(st:aA)(xs:List AV)(r:AV)(st':aA):Prop:=∃(os:List AV) (bs:List Nat),r=.tup os∧bs.Nodup∧(∀b∈bs,st b=none)∧aU st' xs os bs∧∀b,b∉bs→st' b=st b
theorem aU.aKN{h:bB}{st s0:aA}(S:cJ h st)(D:aL st s0):∀(xs os:List AV) (bs:List Nat) (vs:List Value),aU st xs os bs→(∀b∈bs,s0 b=none)→dF h st os vs→dF h s0 xs vs
 | [],os,bs,vs,x,_,y=>by simp only[aU] at x;rw[x.1] at y;exact y
 | a::xs,os,bs,vs,x,hb,y=>by
  simp only[aU] at x
  obtain⟨o,os',b1,b2,rfl,rfl,x1,x2⟩:=x
  simp only[dF] at y ⊢
  obtain⟨v,r,e,⟨y0,y1⟩,y2⟩:=y
  exact⟨v,r,e,⟨x1.shape.1.symm.trans y0,aR.view S D a o b1 _ x1 (fun q hq=>hb q (by simp [hq])) y1⟩,aU.aKN S D xs os' b2 r x2 (fun q hq=>hb q (by simp [hq])) y2⟩
theorem aD.aG8{P:Program}{g:FuncId}{args:List AV}{st:aA}{xs:List AV}(x:aD P g args st (jO st xs)):aD P g args st (fun r st'=>r=.tup xs∧st'=st):=
 x.mI fun r st' ⟨os,bs,hr,_,h2,h3,h4⟩=>by
  have D:aL st' st:=fun b=>⟨fun e=>by
   by_cases hb:b∈bs
   · exact h2 b hb
   · rw[←h4 b hb];exact e,fun o e=>by
   by_cases hb:b∈bs
   · rw[h2 b hb] at e;cases e
   · rw[h4 b hb];exact e⟩
  refine⟨.tup xs,st,D.uZ,fun h v S y=>?_,rfl,rfl⟩
  subst hr
  obtain⟨y0,y1⟩:=y
  refine⟨y0,?_⟩
  unfold VC at y1 ⊢
  obtain⟨vs,e,y2⟩:=y1
  exact⟨vs,e,aU.aKN S D xs os bs vs h3 h2 y2⟩
def u9(b1 b2:List Nat):Prop:=∀b∈b1,b∉b2
theorem u9.symm{b1 b2:List Nat}(h:u9 b1 b2):u9 b2 b1:=fun b h2 h1=>h b h1 h2
theorem aR.aIT{s:aA}{a o:AV}{bs:List Nat}(h:aR s a o bs):∀b∈bs,s b≠none:=fun b hb=>by
 obtain⟨cs,e,_⟩:=(aR.eX _ _ _ h).2.2 b hb
 rw[e];simp
theorem aR.apart{s:aA}{a o:AV}{bs bs':List Nat}(h:aR s a o bs)(hf:∀b∈bs',s b=none):u9 bs bs':=fun b hb hb'=>h.aIT b hb (hf b hb')
theorem aR.beside{s s':aA}{a o:AV}{bs bs':List Nat}(h:aR s a o bs)(k:∀b,b∉bs'→s' b=s b)(d:u9 bs bs'):aR s' a o bs:=aR.aV _ _ _ (fun b hb=>k b (d b hb)) h
theorem aR.jT{st:aA}{es:List AV}{q:AV}{bs:List Nat}(h:aR st (.slice es) q bs):q.cells= [q]∧q.storable=true∧q.isAgg=false∧q.width=1∧q.b9=false:=by
 simp only[aR] at h
 rcases h with ⟨_,rfl,_⟩ | ⟨_,_,_,_,rfl,_⟩<;>exact⟨rfl,rfl,rfl,rfl,rfl⟩
theorem aR.fits{s:aA}{a o:AV}{bs:List Nat}{w:Nat}(h:aR s a o bs)(hw:a.width=w)(hs:a.cells.all AV.storable=true):o.width=w∧o.cells.length=w∧o.cells.all AV.storable=true∧o.b9=false∧o.isAgg=a.isAgg:=by
 obtain⟨h1,h2,h3⟩:=h.MG hw hs
 exact⟨h1,h2,h3,h.shape.2.2.1,h.shape.1⟩
theorem I7{s:aA}{x o:AV}{bs:List Nat}:aR s (.agg [x]) o bs↔∃q,o=.agg [q]∧aR s x q bs:=by
 simp only[aR,aU]
 constructor
 · rintro⟨os,rfl,o1,os1,b1,b2,rfl,rfl,h,rfl,rfl⟩
   exact⟨o1,rfl,by simpa using h⟩
 · rintro⟨q,rfl,h⟩
   exact⟨_,rfl,q,[],bs,[],rfl,by simp,h,rfl,rfl⟩
theorem I5{s:aA}{x y:AV}{os:List AV}{bs:List Nat}:aU s [x,y] os bs↔∃o1 o2 b1 b2,os= [o1,o2]∧bs=b1++b2∧aR s x o1 b1∧aR s y o2 b2:=by
 simp only[aU]
 constructor
 · rintro⟨o1,os1,b1,b1',rfl,rfl,h1,o2,os2,b2,b2',rfl,rfl,h2,rfl,rfl⟩
   exact⟨o1,o2,b1,b2,rfl,by simp,h1,h2⟩
 · rintro⟨o1,o2,b1,b2,rfl,rfl,h1,h2⟩
   exact⟨o1,[o2],b1,b2,rfl,rfl,h1,o2,[],b2,[],rfl,by simp,h2,rfl,rfl⟩
end Go.AW
namespace Go.AW
open Go.Proofs.Tryz
abbrev AG (c:Cl):Prop:=c.1.small=true∧c.2.length≤1048576∧∀x∈c.2,x.small=true
abbrev PN:=zi tI_3 (zi zI_3 (zi aZ (zi tI_27 (zi zI_27 (zi eT (zi gO (zi gP (zi iD (zi tI_111 (zi zI_111 (zi kS (zi kT kQ))))))))))))
theorem aUL(l:List Cl)(st:aA)(hb:l.length≤1048576)(hc:∀x∈l,∀(st:aA),aD prog 136 [bD x] st (Made st (bD x))) :
 aD prog 96 [.slice (l.map bD)] st (Made st (.slice (l.map bD))):=by
 have hws:∀e∈l.map bD,e.width=5:=fun e he=>by simp only[cE] at he;obtain⟨t,_,rfl⟩:=he;exact gD t
 refine wF [] 1 func96 ntmps96 rfl rfl ?_
 intro _
 simp -implicitDefEqProofs only[aE,aB,seval,PN]
 refine dW (σ:=List AV×List Nat×Nat×aA) [] [2,6,7] l (fun i p=>qP (l.map bD) st i p.1 p.2.1 p.2.2.1 p.2.2.2) (fun i p=>[(3,bQ 5 p.2.2.1 p.1),(8,.int .i64 i)]) (fun _ p=>p.2.2.2) (by decide +kernel)
  ⟨([],[],0,st),qP.start,aP.mk (by simp -implicitDefEqProofs only[kP,aB,↓aX,seval])⟩ (fun i x p hx hlt bF hdr hinv=>?_) (fun p hge hinv=>?_)
 case refine_2=>
  obtain⟨os,bs,b,s⟩:=p
  simp -implicitDefEqProofs only[hge,aB,seval]
  exact hinv.done (aE _) hws
 obtain⟨os,bs,b,s⟩:=p
 simp only at hinv
 have hw:=bK (n:=(i:Int)+1)
 have sX:∀zs:List AV,zs.length=5→aS zs 0 (bD x).cells=(bD x).cells:=fun zs h=>wH (MI x) h
 simp -implicitDefEqProofs only[bF,bJ (av:=bD) eT hx (gD x),pW,gD,MI,G5,d4,sX,aB,seval,PN]
 intro b2 hb2
 try simp -implicitDefEqProofs only[pJ (MI x),oO (pW x),seval]
 refine(hc x (cL hx) _).mono ?_
 rintro r s2 ⟨bx,m1,m2,m3,m4⟩
 obtain⟨f1,f2,f3⟩:=m3.MG (gD x) (G5 x)
 have hra:r.isAgg=true:=by rw[(aR.shape m3).1,pW]
 have hrj:r.b9=false:=(aR.shape m3).2.2.1
 simp -implicitDefEqProofs only[f1,hra,hrj,aB,seval,PN]
 have hlen:os.length=i:=hinv.1
 have NV:∀e∈os,e.width=5:=fun e he=>by
  obtain⟨k,hk,rfl⟩:=List.getElem_of_mem he
  exact hinv.2.1.yV (fun q hq=>hws q (nP hq)) _ he
 have hkb:os≠[]→s2 b=some (.cells (os.flatMap AV.cells)):=fun hne=>by
  have h:=(hinv.2.2.2.2.1 hne).2.2
  have hbx:b∉bx:=fun hq=>by
   have:=m2 b hq
   have uC:b≠b2:=fun e=>by rw[e,hb2] at h;cases h
   rw[aA.aF _ _ uC,h] at this;cases this
  have uC:b≠b2:=fun e=>by rw[e,hb2] at h;cases h
  rw[m4 b hbx,aA.aF _ _ uC,h]
 refine RE eT gO gP rfl rfl (g9 f1 f3) NV hkb (by simp only[bA,bS,hlen];omega) (by simp only[bA,bS,hlen];omega) (fun b' s' k1 k2 k3 k4=>?_)
 have rS:=hinv.step hb2 (show(l.map bD)[i]?=some (bD x) by rw[lX,hx];try rfl) m1 m2 m3 m4 (k1 (by simp)) (k2 (by simp)) (fun q h1 h2=>k3 q (fun _=>h1) h2) k4
 simp -implicitDefEqProofs only[hw,aB,seval]
 exact⟨(os++ [r],bs++bx,b',s'.erase b2),rS,aP.drop (iZ _ _) (by simp -implicitDefEqProofs only[aB,seval])⟩
abbrev PM:=zi tI_28 (zi zI_28 (zi aQ (zi bM (zi bO (zi cA (zi tI_52 (zi zI_52 (zi bX (zi bY (zi bZ (zi b7 (zi bV (zi tI_111 (zi zI_111 (zi kS (zi kT kQ))))))))))))))))
theorem aUK(c:Cl)(st:aA)(hsm:AG c):aD prog 136 [bD c] st (Made st (bD c)):=by
 obtain⟨⟨k,n,s,ts⟩,bd⟩:=c
 obtain⟨h1,h2,h3⟩:=hsm
 have hg:=fun st=>EZ (.mk k n s ts) st h1
 have hc:=fun st=>IZ bd st h2 fun x hx st=>EZ x st (h3 x hx)
 simp only[a7] at hg
 simp only[mK]
 refine aD.BG ?_
 refine wF [1000000] 1 func136 ntmps136 rfl rfl ?_
 intro _
 simp -implicitDefEqProofs only[aB,seval,PM]
 intro b hb1
 refine wX [(0,1),(1,1),(3,1),(4,1),(2,0),(5,0),(6,1),(7,2)] [0,1,3,4,6] cY mixed rfl d9 ?_
 simp -implicitDefEqProofs only[aB,seval,PM]
 refine(hg _).mono ?_
 rintro q0 s2 ⟨bs,m1,m2,m3,m4⟩
 rw[←a7] at m3
 obtain⟨q,rfl,m3'⟩:=BT.1 m3
 have hbb:b∉bs:=fun h=>by have:=m2 b h;simp [dP] at this
 have e1:=m4 b hbb
 rw[aA.aH] at e1
 obtain⟨hqc,hqs,hqa,hqw,hqj⟩:=aR.jT m3'
 simp -implicitDefEqProofs only[aB,seval]
 refine⟨d9,?_⟩
 refine(hc _).mono ?_
 rintro r s3 ⟨cs,n1,n2,n3,n4⟩
 have hcb:b∉cs:=fun h=>by have:=n2 b h;rw[e1] at this;cases this
 have f1:=n4 b hcb
 rw[e1] at f1
 obtain⟨hrc,hrs,hra,hrw,hrj⟩:=aR.jT n3
 simp -implicitDefEqProofs only[aS,f1,hqs,hrc,hrs,hrj,aB,seval,PM]
 have uE:=(aR.eX _ _ _ m3').2.2
 have kH:∀x∈bs,x∉cs:=fun x hx hx'=>by
  obtain⟨u,e,_⟩:=uE x hx
  have:=n2 x hx'
  rw[e] at this;cases this
 have hcs:∀x∈cs,x≠b:=fun x hx e=>hcb (e▸hx)
 have hbs:∀x∈bs,x≠b:=fun x hx e=>hbb (e▸hx)
 refine⟨d9,[b],bs++cs,jN.2 ⟨m1,n1,fun x hx y hy e=>kH x hx (e▸hy)⟩,fun x hx=>?_,?_,?_,?_⟩
 · rcases dQ.1 hx with hx | hx
   · have:=m2 x hx
     rwa [aA.aF _ _ (hbs x hx)] at this
   · have:=n2 x hx
     rw[m4 x (fun h=>kH x h hx),aA.aF _ _ (hcs x hx)] at this
     exact this
 · simp [hb1,hbb,hcb]
 · rw[←mK]
   refine I6.2 ⟨q,bs,r,cs,rfl,rfl,aR.aV _ _ _ (fun x hx=>?_) m3',aR.aV _ _ _ (fun x hx=>?_) n3⟩
   · rw[aA.aF _ _ (hbs x hx),n4 x (kH x hx)]
   · rw[aA.aF _ _ (hcs x hx)]
 · intro x hx hd
   simp only[cP,dI,dN] at hd
   simp only[dQ,jJ] at hx
   rw[aA.aF _ _ hd,n4 x hx.2,m4 x hx.1,aA.aF _ _ hd]
def oC(S:aA)(c b w:Nat)(hd tl:List AV)(l:List AV):aA:=bE (S.aC c (.cells (hd++bQ w b l::tl))) b l
section
variable {S:aA} {c b w:Nat} {hd tl l:List AV}
theorem EU(hb:l≠[]→(S.aC c (.cells (hd++bQ w b l::tl))) b=none):oC S c b w hd tl l c=some (.cells (hd++bQ w b l::tl)):=by
 unfold oC
 by_cases h:l= []
 · rw[h,lJ,aA.aH]
 · have h0:=hb h
   have hne:c≠b:=fun e=>by rw[←e,aA.aH] at h0;cases h0
   rw[iW hne,aA.aH]
theorem aHD{b':Nat}{l':List AV}(hb:l'≠[]→(S.aC c (.cells (hd++bQ w b l::tl))) b'=none) :
 (bE (S.aC c (.cells (hd++bQ w b l::tl))) b' l').aC c (.cells (hd++bQ w b' l'::tl))=oC S c b' w hd tl l'∧(l'≠[]→(S.aC c (.cells (hd++bQ w b' l'::tl))) b'=none)∧bE (S.aC c (.cells (hd++bQ w b l::tl))) b' l' c=some (.cells (hd++bQ w b l::tl)):=by
 have hne:l'≠[]→c≠b':=fun h e=>by have:=hb h;rw[←e,aA.aH] at this;cases this
 refine⟨?_,fun h=>?_,?_⟩
 · rw[kO hne,d4];try rfl
 · have:=hb h
   rw[aA.aF _ _ (dA (hne h))] at this ⊢
   exact this
 · by_cases h:l'= []
   · rw[h,lJ,aA.aH]
   · rw[iW (hne h),aA.aH]
theorem aUE{x:Nat}(hb:l≠[]→(S.aC c (.cells (hd++bQ w b l::tl))) b=none)(hx:S x≠none)(hxc:x≠c):oC S c b w hd tl l x=S x:=by
 unfold oC
 by_cases h:l= []
 · rw[h,lJ,aA.aF _ _ hxc]
 · have h0:=hb h
   have hne:x≠b:=fun e=>by rw[←e,aA.aF _ _ hxc] at h0;exact hx h0
   rw[iW hne,aA.aF _ _ hxc]
theorem QX{h:bB}{st:aA}{a a':AV}(hv:∀v,VC h st a [v]→VC h st a' [v]):∀(hd:List AV) {tl:List AV} {vs:List Value},aW h st (hd++a::tl) vs→aW h st (hd++a'::tl) vs
 | [],tl,vs,x=>by
  simp only[e9,aW] at x ⊢
  obtain⟨c,r,e,x1,x2⟩:=x
  exact⟨c,r,e,hv c x1,x2⟩
 | y::hd,tl,vs,x=>by
  simp only[gF,aW] at x ⊢
  obtain⟨c,r,e,x1,x2⟩:=x
  exact⟨c,r,e,x1,QX hv hd x2⟩
theorem fR.aV3{φ:AF}{st:aA}{c:Nat}{hd tl:List AV}{a:AV}(hc:st c=some (.cells (hd++a::tl))):fR φ st φ (st.aC c (.cells (hd++a.soft::tl))):=fun h tmps S F=>by
 have T:bT h st h (st.aC c (.cells (hd++a.soft::tl))):=bT.of fun x hx=>by
  have:x≠c:=by rintro rfl;rw[hc] at hx;cases hx
  rw[aA.aF _ _ this];exact hx
 refine⟨fun x o hx=>?_,T,fun d=>(F d).mono T⟩
 by_cases e:x=c
 · subst e
   rw[aA.aH] at hx
   cases hx
   obtain⟨hl,c0,t,e1,e2,vs,e3,e4⟩:=S x _ hc
   refine⟨hl,c0,t,e1,?_,vs,e3,aW.mono T _ _ (QX (fun v hv=>VC.soft a [v] hv) hd e4)⟩
   simpa using e2
 · rw[aA.aF _ _ e] at hx
   obtain⟨hl,y⟩:=S x o hx
   exact⟨hl,lD.mono T rfl y⟩
theorem MY{es:List AV}:∀ {l:List AV},(∀a∈l,a.fz b es=a)→jH b es l=l
 | [],_=>rfl
 | a::l,h=>by rw[jH,h a (by simp),MY fun x hx=>h x (by simp [hx])]
theorem aTV{φ:AF}(hb:l≠[]→(S.aC c (.cells (hd++bQ w b l::tl))) b=none)(hj:∀e∈l,e.b9=false)(hE:jD l)
 (hh:∀a∈hd++tl,∀b es,a.fz b es=a) :
 fR φ (oC S c b w hd tl l) φ (S.aC c (.cells (hd++ .slice l::tl))):=by
 have hcc:=EU hb
 cases l with
 | nil=>
  have:=fR.aV3 (φ:=φ) hcc
  unfold oC at this ⊢
  simp only[lJ,d4] at this
  exact this
 | cons y l=>
  have h0:=hb (by simp)
  have hne:b≠c:=by rintro rfl;rw[aA.aH] at h0;cases h0
  have h1:oC S c b w hd tl (y::l) b=some (.cells ((y::l).flatMap AV.cells)):=by unfold oC;simp only[bE];exact aA.aH _ _ _
  have:=fR.aQV (φ:=φ) hne h1 hj hE hcc
  have e:(oC S c b w hd tl (y::l)).erase b=S.aC c (.cells (hd++bQ w b (y::l)::tl)):=by unfold oC;simp only[bE];exact aA.AT _ _ _ h0
  have f1:jH b (y::l) hd=hd:=MY fun a ha=>hh a (by simp [ha]) _ _
  have f2:jH b (y::l) tl=tl:=MY fun a ha=>hh a (by simp [ha]) _ _
  have f3:(bQ w b (y::l)).fz b (y::l)=.slice (y::l):=by simp [bQ,AV.fz]
  rw[e,d4,xQ,lB,bH,←xQ,←xQ,f1,f2,f3] at this
  exact this
end
abbrev wL:=zi tI_3 (zi zI_3 (zi aZ (zi tI_28 (zi zI_28 (zi aQ (zi bM (zi bO (zi cA (zi tI_52 (zi zI_52 (zi bX (zi bY (zi bZ (zi b7 (zi bV (zi tI_111 (zi zI_111 (zi kS (zi kT kQ)))))))))))))))))))
theorem aNZ(cl:Cl)(h1:cl.1.small=true)(h2:cl.2.length≤1048576)(h3:∀x∈cl.2,x.small=true)(st:aA):aD prog 111 [bD cl] st (fun r st'=>r=bD cl∧st'=st):=by
 obtain⟨⟨k,n,s,ks⟩,ts⟩:=cl
 have hhd:=fun st=>GZ (.mk k n s ks) st h1
 simp only[a7] at hhd
 have IH:=fun(x:Tm) (hx:x∈ts) st=>GZ x st (h3 x hx)
 have hlen:ts.length≤1048576:=h2
 refine aD.rH (aD.fin ?_)
 simp only[mK]
 refine wF [] 1 func111 ntmps111 rfl rfl ?_
 simp only[dK,AV.fits,dZ,aE]
 intro ⟨_,_,_,_,hl,_⟩
 simp -implicitDefEqProofs only[aB,seval,wL]
 intro b2 hb2
 refine(hhd _).to ?_
 simp -implicitDefEqProofs only[aS,aB,seval,wL]
 intro c hc
 have hne:c≠b2:=by rintro rfl;rw[aA.aH] at hc;cases hc
 have hn2:st c=none:=by rw[aA.aF st _ hne] at hc;exact hc
 have o7:b2≠c:=dA hne
 refine dW (σ:=Nat) [] [1,2,3] ts (fun i b=>(((ts.take i).map (fun y=>y)).map Tm.av≠[]→(aA.aC (st.aC b2 (.cells [AV.int .i64 0,AV.int .i64 0,AV.str ⟨#[]⟩,AV.fslice [],AV.fslice []])) c (.cells ([AV.int .i64 k,AV.int .i64 n,AV.str s,AV.slice (ks.map Tm.av)]++ [bQ 4 b (((ts.take i).map (fun y=>y)).map Tm.av)]))) b=none)) (fun i b=>[(4,.int .i64 i)]) (fun i b=>j0 (st.aC b2 (.cells [AV.int .i64 0,AV.int .i64 0,AV.str ⟨#[]⟩,AV.fslice [],AV.fslice []])) c b [AV.int .i64 k,AV.int .i64 n,AV.str s,AV.slice (ks.map Tm.av)] (((ts.take i).map (fun y=>y)).map Tm.av)) (by decide +kernel)
  ⟨0,fun h=>absurd rfl h,aP.mk (by simp -implicitDefEqProofs only[aB,↓aX,seval])⟩ (fun i x b hx hlt bF hdr hinv=>?_) (fun b hge hinv=>?_)
 case refine_1=>
  have hw:=bK (n:=(i:Int)+1)
  have dH:(((ts.take i).map (fun y=>y)).map Tm.av).length=i:=by simp only[aE,dY];omega
  have htk:(ts.take (i+1)).map (fun y=>y)=(ts.take i).map (fun y=>y)++ [(fun y=>y) x]:=by rw[f8,hx];simp
  have hbo:=kW hinv
  simp -implicitDefEqProofs only[aE,bF,aB,seval,wL]
  refine wP [(0,1),(2,1),(4,1),(1,2),(3,2),(5,1),(6,2),(7,2),(8,1),(9,0),(10,1),(11,0)] [0,2,4,1,3,5,6,7,8,10] mixed ?_
  simp -implicitDefEqProofs only[bJ (av:=Tm.av) aQ hx (aN x),bU,aN,hbo,rA,gN,aB,seval,wL]
  refine jW (IH x (cL hx) _) ?_
  simp -implicitDefEqProofs only[bU,aN,Tm.eO,gN,aB,seval,wL]
  refine fT aQ bM bO rfl rfl (g9 (aN _) (Tm.d8 _)) (iC _) hinv (by simp only[dH,bA,bS];omega) (by simp only[dH,bA,bS];omega) (fun b' hb'=>?_)
  rw[show(((ts.take i).map (fun y=>y)).map Tm.av)++ [((fun y=>y) x).av]=((ts.take (i+1)).map (fun y=>y)).map Tm.av by rw[htk];simp] at hb' ⊢
  obtain⟨g1,g2,g3⟩:=uH hb'
  simp only[gF,e9] at g1 g3
  simp -implicitDefEqProofs only[g3,pS,jF,aS,g1,hw,aS,aB,seval,wL]
  exact⟨b',g2,aP.mk (by simp -implicitDefEqProofs only[aB,seval])⟩
 have hbo:=kW hinv
 rw[eM] at hinv hbo ⊢
 simp -implicitDefEqProofs only[aE,hge,aB,seval,wL]
 simp -implicitDefEqProofs only[hbo,aS,aB,seval,wL]
 have hS:(st.aC b2 (.cells [AV.int .i64 0,AV.int .i64 0,AV.str ⟨#[]⟩,AV.fslice [],AV.fslice []])) b2≠none:=by rw[aA.aH];simp
 have h1:=mR hinv hS o7
 rw[aA.aH] at h1
 simp -implicitDefEqProofs only[h1,jF,aB,seval]
 obtain⟨h2,h3⟩:=sZ (o:=.cells [AV.int .i64 k,AV.int .i64 n,AV.str s,AV.slice (ks.map Tm.av),bQ 4 b ((ts.map fun y=>y).map Tm.av)]) hinv hS o7
 refine⟨b,_,_,h2,h3,qL _,⟨4,iC _⟩,?_,?_⟩
 · simp only[g7,bH,bG,fQ,nW,jA,m9,List.map_id']
 · exact(((aL.refl _).aC hb2).aC hn2).aC hb2
structure Ss where
 p:List Cl
 q:List Tm
 dE:Int
 used:Int
 sent:Int
 fin:Int
def cZ(s:Ss):AV:=.agg [.slice (s.p.map bD),.slice (s.q.map Tm.av),.int .i64 s.dE,.int .i64 s.used,.int .i64 s.sent,.int .i64 s.fin]
abbrev TT (c:Cl):Prop:=c.1.small=true∧c.2.length≤1048576∧∀x∈c.2,x.small=true
theorem TU(l:List Cl):∀e∈l.map bD,e.width=5:=by intro e h;simp only[cE] at h;obtain⟨t,_,rfl⟩:=h;exact gD t
theorem aPJ(l:List Cl):∀e∈l.map bD,e.b9=false:=by intro e h;simp only[cE] at h;obtain⟨t,_,rfl⟩:=h;exact MJ t
abbrev r0:=zi tI_3 (zi zI_3 (zi aZ (zi tI_27 (zi zI_27 (zi eT (zi gO (zi gP (zi iD (zi tI_28 (zi zI_28 (zi aQ (zi bM (zi bO (zi cA (zi tI_30 (zi zI_30 (zi lM (zi lN (zi lO (zi lP (zi lQ (zi lR (zi lK (zi tI_52 (zi zI_52 (zi bX (zi bY (zi bZ (zi b7 (zi bV (zi tI_111 (zi zI_111 (zi kS (zi kT kQ))))))))))))))))))))))))))))))))))
theorem SU(s:Ss)(hp:s.p.length≤1048576)(hps:∀c∈s.p,TT c)(hq:s.q.length≤1048576)(hqs:∀t∈s.q,t.small=true)(st:aA):aD prog 64 [cZ s] st (fun r st'=>r=cZ s∧st'=st):=by
 obtain⟨ps,qs,i0,i1,i2,i3⟩:=s
 simp only at hp hps hq hqs
 refine aD.rH (aD.fin ?_)
 simp only[cZ]
 refine wF [1000000,3] 1 func64 ntmps64 rfl rfl ?_
 intro _
 simp -implicitDefEqProofs only[aS,aB,↓aX,seval,r0]
 intro b2 hb2 c hc
 have hne:c≠b2:=by rintro rfl;rw[aA.aH] at hc;cases hc
 have hn2:st c=none:=by rw[aA.aF st _ hne] at hc;exact hc
 have o7:b2≠c:=dA hne
 refine dW (σ:=Nat) [1000000,3] [1,2,3] ps
  (fun i b=>((ps.take i).map bD≠[]→((st.aC b2 (.cells [.fslice [],.fslice [],.int .i64 0,.int .i64 0,.int .i64 0,.int .i64 0])).aC c (.cells ([]++bQ 5 b ((ps.take i).map bD):: [.fslice [],.int .i64 i0,.int .i64 i1,.int .i64 i2,.int .i64 i3]))) b=none))
  (fun i _=>[(4,.int .i64 i)]) (fun i b=>oC (st.aC b2 (.cells [.fslice [],.fslice [],.int .i64 0,.int .i64 0,.int .i64 0,.int .i64 0])) c b 5 [] [.fslice [],.int .i64 i0,.int .i64 i1,.int .i64 i2,.int .i64 i3] ((ps.take i).map bD)) (by decide +kernel)
  ⟨0,fun h=>absurd rfl h,aP.mk (by simp -implicitDefEqProofs only[aB,↓aX,seval])⟩ (fun i x b hx hlt bF hdr hinv=>?_) (fun b hge hinv=>?_)
 · have hw:=bK (n:=(i:Int)+1)
   have dH:((ps.take i).map bD).length=i:=by simp only[aE,dY];omega
   have htk:(ps.take (i+1)).map bD=(ps.take i).map bD++ [bD x]:=by rw[f8,hx];simp
   have hbo:=EU hinv
   simp only[e9] at hbo
   have fV:=cL hx
   obtain⟨s1,s2,s3⟩:=hps x fV
   have hat:=bJ (av:=bD) eT hx (gD x)
   simp -implicitDefEqProofs only[bF,aE,aB,seval,r0]
   refine wP [(0,1),(2,1),(4,1),(1,2),(3,2),(5,1),(6,2),(7,2),(8,1),(9,0),(10,1),(11,0)] [0,2,4,1,3,5,6,7,8,10] mixed ?_
   simp -implicitDefEqProofs only[hat,pW,gD,hbo,rA,aB,seval,r0]
   refine jW (aNZ x s1 s2 s3 _) ?_
   simp -implicitDefEqProofs only[pW,gD,MJ,aB,seval,r0]
   refine fT eT gO gP rfl rfl (g9 (gD _) (G5 _)) (TU _) hinv (by simp only[dH,bA,bS];omega) (by simp only[dH,bA,bS];omega) (fun b' hb'=>?_)
   rw[←htk] at hb' ⊢
   obtain⟨g1,g2,g3⟩:=aHD hb'
   simp only[e9] at g1 g3
   simp -implicitDefEqProofs only[g3,pS,jF,g1,hw,aS,aB,seval,r0]
   exact⟨b',g2,aP.mk (by simp -implicitDefEqProofs only[aB,seval])⟩
 · rw[eM] at hinv ⊢
   have hbo:=EU hinv
   simp only[e9] at hbo
   simp -implicitDefEqProofs only[hge,aE,aB,seval,r0]
   refine dW (σ:=Nat) [1000000,3] [1,2,3] qs
    (fun i b=>((qs.take i).map Tm.av≠[]→((st.aC b2 (.cells [.fslice [],.fslice [],.int .i64 0,.int .i64 0,.int .i64 0,.int .i64 0])).aC c (.cells ([.slice (ps.map bD)]++bQ 4 b ((qs.take i).map Tm.av):: [.int .i64 i0,.int .i64 i1,.int .i64 i2,.int .i64 i3]))) b=none))
    (fun i _=>[(5,.int .i64 i)]) (fun i b=>oC (st.aC b2 (.cells [.fslice [],.fslice [],.int .i64 0,.int .i64 0,.int .i64 0,.int .i64 0])) c b 4 [.slice (ps.map bD)] [.int .i64 i0,.int .i64 i1,.int .i64 i2,.int .i64 i3] ((qs.take i).map Tm.av)) (by decide +kernel)
    ⟨0,fun h=>absurd rfl h,?_⟩ (fun i x b hx hlt bF hdr hinv=>?_) (fun b hge hinv=>?_)
   · exact(aTV hinv (aPJ _) ⟨5,TU _⟩ (by intro a ha;simp only[e9,cP,dI,dN] at ha;rcases ha with rfl | rfl | rfl | rfl | rfl<;>intro _ _<;>rfl)).trans (fR.jG (by simp -implicitDefEqProofs only[aB,↓aX,seval]))
   · have hw:=bK (n:=(i:Int)+1)
     have dH:((qs.take i).map Tm.av).length=i:=by simp only[aE,dY];omega
     have htk:(qs.take (i+1)).map Tm.av=(qs.take i).map Tm.av++ [x.av]:=by rw[f8,hx];simp
     have hbo:=EU hinv
     simp only[gF,e9] at hbo
     have hat:=bJ (av:=Tm.av) aQ hx (aN x)
     simp -implicitDefEqProofs only[bF,aE,aB,seval,r0]
     refine wP [(0,1),(2,1),(4,1),(1,2),(3,2),(5,1),(6,2),(7,2),(8,1),(9,0),(10,1),(11,0)] [0,2,4,1,3,5,6,7,8,10] mixed ?_
     simp -implicitDefEqProofs only[hat,bU,aN,hbo,rA,aB,seval,r0]
     refine jW (GZ x _ (hqs x (cL hx))) ?_
     simp -implicitDefEqProofs only[bU,aN,Tm.eO,aB,seval,r0]
     refine fT aQ bM bO rfl rfl (g9 (aN _) (Tm.d8 _)) (iC _) hinv (by simp only[dH,bA,bS];omega) (by simp only[dH,bA,bS];omega) (fun b' hb'=>?_)
     rw[←htk] at hb' ⊢
     obtain⟨g1,g2,g3⟩:=aHD hb'
     simp only[gF,e9] at g1 g3
     simp -implicitDefEqProofs only[g3,pS,jF,g1,hw,aS,aB,seval,r0]
     exact⟨b',g2,aP.mk (by simp -implicitDefEqProofs only[aB,seval])⟩
   · rw[eM] at hinv ⊢
     have hbo:=EU hinv
     simp only[gF,e9] at hbo
     have h2o:=aUE (x:=b2) hinv (by rw[aA.aH];simp) o7
     rw[aA.aH] at h2o
     simp -implicitDefEqProofs only[hge,aE,hbo,h2o,jF,aS,aB,seval,r0]
     have aFW:qs.map Tm.av≠[]→b2≠b:=fun h e=>by
      have:=hinv h
      rw[←e,aA.aF _ _ o7,aA.aH] at this
      cases this
     refine⟨b,qs.map Tm.av,_,by unfold oC;rw[kO aFW],fun h=>by rw[aA.aF _ _ (dA (aFW h))];exact hinv h,qL _,⟨4,iC _⟩,by simp only[g7,bH,bG,fQ,jA,m9],?_⟩
     exact(((aL.refl _).aC hb2).aC hn2).aC hb2
theorem aH1{p:List Cl}(h:nI p=true):p.length≤20∧∀c∈p,AG c:=by
 simp only[nI,cK,bL,eL] at h
 refine⟨h.1,fun c hc=>?_⟩
 have:=h.2 c hc
 simp only[oT,cK,bL,eL] at this
 refine⟨Tm.KN this.1.1,by omega,fun x hx=>?_⟩
 have hg:=this.2.2 x hx
 cases x
 simp only[Tm.goal,cK] at hg
 exact Tm.KN hg.1
theorem aH2{q:List Tm}(h:mA q=true):q.length≤6∧∀t∈q,t.small=true:=by
 simp only[mA,cK,bL,eL] at h
 refine⟨h.1,fun x hx=>?_⟩
 have hg:=h.2 x hx
 cases x
 simp only[Tm.goal,cK] at hg
 exact Tm.KN hg.1
theorem OG{st:aA}{s:Ss}{o:AV}{bs:List Nat} :
 aR st (cZ s) o bs↔∃q b1 q' b2,o=.agg [q,q',.int .i64 s.dE,.int .i64 s.used,.int .i64 s.sent,.int .i64 s.fin]∧bs=b1++b2∧aR st (.slice (s.p.map bD)) q b1∧aR st (.slice (s.q.map Tm.av)) q' b2:=by
 unfold cZ
 generalize AV.slice (s.p.map bD)=x
 generalize AV.slice (s.q.map Tm.av)=y
 simp only[aR,aU]
 constructor
 · rintro⟨os,rfl,o4,os4,b4,b4',rfl,rfl,h,o6,os6,b6,b6',rfl,rfl,h',o1,os1,b1,b1',rfl,rfl,⟨rfl,rfl⟩,o2,os2,b2,b2',rfl,rfl,⟨rfl,rfl⟩,o3,os3,b3,b3',rfl,rfl,⟨rfl,rfl⟩,o5,os5,b5,b5',rfl,rfl,⟨rfl,rfl⟩,rfl,rfl⟩
   exact⟨o4,b4,o6,b6,rfl,by simp,h,h'⟩
 · rintro⟨q,b1,q',b2,rfl,rfl,h,h'⟩
   exact⟨_,rfl,q,_,b1,b2,rfl,rfl,h,q',_,b2,[],rfl,by simp,h',_,_,[],[],rfl,rfl,⟨rfl,rfl⟩,_,_,[],[],rfl,rfl,⟨rfl,rfl⟩,_,_,[],[],rfl,rfl,⟨rfl,rfl⟩,_,_,[],[],rfl,rfl,⟨rfl,rfl⟩,rfl,rfl⟩
def jU(p:List Cl)(q:List Tm)(most fuel:Int):Bool:=nI p&&(mA q&&(decide (0≤most)&&(decide (most≤20)&&(decide (0≤fuel)&&decide (fuel≤300)))))
noncomputable def f7(p:List Cl)(cnd:Tm→List Nat→List Nat)(q:List Tm)(most fuel:Int):List (List Tm)×Int:=if jU p q most fuel=true then tC p cnd q most.toNat fuel.toNat else([],9)
theorem OO{p:List Cl}(h:nI p=true):p.length≤20∧∀c∈p,fX c∧c.2.length≤6:=by
 simp only[nI,cK,bL,eL] at h
 refine⟨h.1,fun c hc=>⟨aPH (h.2 c hc),?_⟩⟩
 have:=h.2 c hc
 simp only[oT,cK,bL,eL] at this
 exact this.2.1
theorem OP{q:List Tm}(h:mA q=true):q.length≤6∧∀t∈q,a9 26 t∧t.k=3:=by
 simp only[mA,cK,bL,eL] at h
 refine⟨h.1,fun t ht=>?_⟩
 have hg:=h.2 t ht
 have hk:t.valid=true∧t.k=3:=by
  obtain⟨k,n,s,ts⟩:=t
  simp only[Tm.goal,cK] at hg
  refine⟨hg.1,?_⟩
  have:=hg.2
  simp only[v8,pG,oJ,cK,bL] at this
  simp only[Tm.k]
  rcases this with (h | h) | h<;>first | exact h.1 | exact h.1.1 | exact h.1.1.1
 exact⟨⟨Tm.F0 hk.1,Tm.FZ hk.1⟩,hk.2⟩
end Go.AW
namespace Go.AW
def QJ(vars:List Int)(a:List Tm):Prop:=a.length=vars.length∧a.all Tm.valid=true
theorem aLS{N:Nat}{σ:Sub}(hg:cD σ)(ho:cF (a9 N) σ){vars:List Int}(hv:∀v∈vars,0≤v∧v<(N:Int)){a:List Tm}(h:gW σ vars=some a):QJ vars a:=by
 obtain⟨rk,B,G⟩:=hg.rs
 unfold gW at h
 split at h
 · rename_i hh
   cases h
   obtain⟨h1,h2⟩:=hh
   have hok:∀t∈vars.map (rs σ),a9 N t:=fun t ht=>by
    obtain⟨v,hvm,rfl⟩:=cE.1 ht
    have hf:=eL.1 h1 _ ht
    unfold eA at hf
    simp only[cK,bL] at hf
    exact⟨G.kZ ho.kZ v (hv v hvm).1 (hv v hvm).2,hf.2⟩
   exact⟨by rw[aVG hok,aE],by rw[aIA hok h1,bL];exact h2⟩
 · cases h
theorem aU3{p:List Cl}(hp:∀c∈p,fX c∧c.2.length≤6)(hpl:p.length≤20){cnd:Tm→List Nat→List Nat}(hd:∀t l,(∀i∈cnd t l,i∈l)∧(cnd t l).length≤l.length){vars:List Int}(hv:∀v∈vars,0≤v∧v<26) :
 ∀(n most fuel:Nat) (s:RS) (B:Nat),most+fuel≤n→lG p B s→B+26*fuel≤8000→(gL p cnd vars most fuel s).1.length≤most∧∀a∈(gL p cnd vars most fuel s).1,QJ vars a:=by
 intro n
 induction n with
 | zero=>
  intro most fuel s B hn hs hB
  obtain rfl:most=0:=by omega
  obtain rfl:fuel=0:=by omega
  cases hg:s.goals with
  | nil=>rw[rX hg];simp
  | cons g rest=>rw[pH hg];simp
 | succ n ih=>
  intro most fuel s B hn hs hB
  cases hg:s.goals with
  | nil=>
   rw[rX hg]
   by_cases hm:most=0
   · rw[aK hm];simp
   rw[aG hm]
   cases ha:gW s.σ vars with
   | none=>simp
   | some a=>
    have hok:=aLS hs.a.gA hs.a.ok (fun v h=>⟨(hv v h).1,by have:=(hv v h).2;have:=hs.l.1;omega⟩) ha
    simp only
    cases hb:eV p s.chs.length s.chs with
    | none=>
     simp only[bA,bS,cP,dI,dN]
     exact⟨by omega,fun x hx=>by rw[hx];exact hok⟩
    | some s'=>
     obtain⟨h1,h2⟩:=ih (most - 1) fuel s' B (by omega) (hs.back hp (by omega) hb) hB
     simp only[bA,cP]
     refine⟨by omega,fun x hx=>?_⟩
     rcases hx with rfl | hx
     · exact hok
     · exact h2 x hx
  | cons g rest=>
   rw[pH hg]
   by_cases hf:fuel=0
   · rw[aK hf];simp
   rw[aG hf]
   cases hst:gQ p cnd s g rest with
   | stop e=>simp
   | go s'=>exact ih most (fuel - 1) s' (B+26) (by omega) (hs.step hp (by omega) (by omega) hd hg hst) (by omega)
   | fail=>
    simp only
    cases hb:eV p s.chs.length s.chs with
    | none=>simp
    | some s'=>exact ih most (fuel - 1) s' B (by omega) (hs.back hp (by omega) hb) (by omega)
theorem aUY{q:List Tm}(hq:∀t∈q,a9 26 t∧t.k=3):(∀v∈bR q [],0≤v∧v<26)∧(bR q []).length≤26:=by
 have hv:∀v∈bR q [],0≤v∧v<26:=fun v hv=>by
  rcases (wR q [] fun t ht=>(hq t ht).1.1.2.1).1 hv with h | ⟨t,ht,h⟩
  · cases h
  · exact(hq t ht).1.1.2.2 v h
 refine⟨hv,?_⟩
 have hnd:=KE q [] (fun t ht=>Tm.sK t (hq t ht).1.1.2.1) kM
 exact BL (N:=26) hnd fun n hn=>hv n hn
theorem O5(p:List Cl){cnd:Tm→List Nat→List Nat}(hd:∀t l,(∀i∈cnd t l,i∈l)∧(cnd t l).length≤l.length)(q:List Tm)(most fuel:Int):(f7 p cnd q most fuel).1.length≤20∧∀a∈(f7 p cnd q most fuel).1,a.length≤26∧a.all Tm.valid=true:=by
 unfold f7
 split
 · rename_i h
   simp only[jU,cK,bL] at h
   obtain⟨hp,hq,h1,h2,h3,h4⟩:=h
   obtain⟨p1,p2⟩:=OO hp
   obtain⟨q1,q2⟩:=OP hq
   obtain⟨v1,v2⟩:=aUY q2
   obtain⟨r1,r2⟩:=aU3 p2 p1 hd v1 _ most.toNat fuel.toNat (k8 q) 26 (cQ _) (lG.start q2 q1) (by omega)
   unfold tC
   refine⟨by omega,fun a ha=>?_⟩
   obtain⟨h5,h6⟩:=r2 a ha
   exact⟨by omega,h6⟩
 · simp
theorem aUG(t:Tm):t.dB=3*t.nodes:=by
 induction t using Tm.ind with
 | h k n s ts ih=>
  rw[Tm.EV,Tm.jS]
  have:∀l:List Tm,(∀t∈l,t.dB=3*t.nodes)→aM Tm.dB l=3*aM Tm.nodes l:=by
   intro l
   induction l with
   | nil=>intro _;rfl
   | cons x l ih2=>intro h;simp only[aM,h x (by simp),ih2 fun y hy=>h y (by simp [hy])];omega
  rw[this ts ih];omega
theorem RM:∀ {a:List Tm},a.all Tm.valid=true→aM Tm.dB a≤360*a.length
 | [],_=>by simp [aM]
 | t::a,h=>by
  simp only[iS,cK] at h
  have h1:=RM h.2
  have h2:=Tm.FZ h.1
  simp only[aM,aUG t,bA]
  omega
theorem LO:∀ {l:List (List Tm)},(∀a∈l,a.length≤26∧a.all Tm.valid=true)→aM (fun a=>aM Tm.dB a) l≤9360*l.length
 | [],_=>by simp [aM]
 | a::l,h=>by
  have h1:=LO (l:=l) fun x hx=>h x (by simp [hx])
  obtain⟨h2,h3⟩:=h a (by simp)
  have h4:=RM h3
  simp only[aM,bA]
  omega
end Go.AW
namespace Go.AW
open Go.Proofs.Tryz
theorem jO.OB{st st':aA}{a o:AV}{k:IntKind}{n:Int}(h:Made st a o st'):jO st [a,.int k n] (.tup [o,.int k n]) st':=by
 obtain⟨bs,h1,h2,h3,h4⟩:=h
 exact⟨_,bs,rfl,h1,h2,I5.2 ⟨o,.int k n,bs,[],rfl,by simp,h3,⟨rfl,rfl⟩⟩,h4⟩
theorem jO.aXC{st st':aA}{a r:AV}{k:IntKind}{n:Int}(h:jO st [a,.int k n] r st'):∃o,r=.tup [o,.int k n]∧Made st a o st':=by
 obtain⟨os,bs,hr,h1,h2,h3,h4⟩:=h
 obtain⟨o1,o2,b1,b2,rfl,rfl,h5,h6⟩:=I5.1 h3
 simp only[aR] at h6
 obtain⟨rfl,rfl⟩:=h6
 rw[fM] at *
 exact⟨o1,hr,b1,h1,h2,h5,h4⟩
def K1(st:aA)(L:List AV)(e:Int)(r:AV)(st':aA):Prop:=∃o,r=.tup [o,.int .i64 e]∧Made st (.slice L) o st'∧(L= []→o=.fslice [])
structure sD (st:aA) (L:List AV) (b i:Nat) (os:List AV) (bs:List Nat) (s:aA):Prop where
 len:os.length=i
 own:aU s (L.take i) os bs
 nd:bs.Nodup
 new:∀q∈bs,st q=none
 bn:L≠[]→b∉bs
 cell:L≠[]→s b=some (.cells (os.flatMap AV.cells++(L.drop i).flatMap AV.cells))
 aV:∀q,q∉bs→(L≠[]→q≠b)→s q=st q
theorem sD.start{st:aA}{L:List AV}{b:Nat}:sD st L b 0 [] [] (bE st b L):=by
 refine⟨rfl,by simp [aU],kM,by simp,by simp,fun h=>?_,fun q _ h=>?_⟩
 · rw[jE h,aA.aH];try rfl
 · cases L with
   | nil=>rfl
   | cons x l=>exact iW (h (by simp))
theorem sD.done{st s:aA}{L os:List AV}{b w:Nat}{bs:List Nat}(h:sD st L b L.length os bs s)(hb:L≠[]→st b=none)(hw:∀e∈L,e.width=w):Made st (.slice L) (bQ w b L) s:=by
 obtain⟨h1,h2,h3,h4,h5,h6,h7⟩:=h
 rw[eM] at h2
 by_cases hL:L= []
 · subst hL
   simp only[aU] at h2
   obtain⟨rfl,rfl⟩:=h2
   exact⟨[],kM,by simp,.inl ⟨rfl,rfl,rfl⟩,fun q hq=>h7 q hq (fun h=>absurd rfl h)⟩
 · refine⟨b::bs,w6.2 ⟨h5 hL,h3⟩,fun q hq=>?_,?_,fun q hq=>?_⟩
   · rcases cP.1 hq with rfl | hq
     · exact hb hL
     · exact h4 q hq
   · rw[rB hL]
     refine .inr ⟨b,bs,os,w,rfl,rfl,?_,h2,hw⟩
     have:=h6 hL
     rw[gU] at this
     simpa using this
   · simp only[cP,jJ] at hq
     exact h7 q hq.2 fun _=>hq.1
theorem sD.step{st s s2:aA}{L os B:List AV}{b i:Nat}{bs bx:List Nat}{e r:AV}(h:sD st L b i os bs s)(he:L[i]?=some (.agg [e]))(hB:(L.drop (i+1)).flatMap AV.cells=B)(m1:bx.Nodup)(m2:∀q∈bx,s q=none)(m3:aR s2 e r bx)(m4:∀q,q∉bx→s2 q=s q) :
 sD st L b (i+1) (os++ [.agg [r]]) (bs++bx) (s2.aC b (.cells (os.flatMap AV.cells++ [r]++B))):=by
 obtain⟨h1,h2,h3,h4,h5,h6,h7⟩:=h
 have hi:i<L.length:=(fD.1 he).1
 have hL:L≠[]:=by rintro rfl;simp at hi
 have sY:=aU.eX _ _ _ h2
 have uE:∀q∈bs,s q≠none:=fun q hq=>by obtain⟨cs,e1,_⟩:=sY.2 q hq;rw[e1];simp
 have hsb:=h6 hL
 have hbx:b∉bx:=fun hq=>by have:=m2 b hq;rw[hsb] at this;cases this
 have kH:∀q∈bs,q∉bx:=fun q hq hq'=>uE q hq (m2 q hq')
 have hbs:∀q∈bs,(s2.aC b (.cells (os.flatMap AV.cells++ [r]++B))) q=s q:=fun q hq=>by
  rw[aA.aF _ _ (by rintro rfl;exact h5 hL hq),m4 q (kH q hq)]
 refine⟨by simp [h1],?_,jN.2 ⟨h3,m1,fun a ha c hc e=>kH a ha (e▸hc)⟩,fun q hq=>?_,fun _ hq=>?_,fun _=>?_,fun q hq hne=>?_⟩
 · rw[f8,he,K2]
   refine h2.snoc hbs ?_
   refine I7.2 ⟨r,rfl,aR.aV _ _ _ (fun x hx=>?_) m3⟩
   exact aA.aF _ _ (by rintro rfl;exact hbx hx)
 · rcases dQ.1 hq with hq | hq
   · exact h4 q hq
   · have h8:q∉bs:=fun h=>kH q h hq
     have h9:q≠b:=by rintro rfl;exact hbx hq
     rw[←h7 q h8 fun _=>h9]
     exact m2 q hq
 · rcases dQ.1 hq with hq | hq
   · exact h5 hL hq
   · exact hbx hq
 · rw[aA.aH,hB]
   simp [AV.cells]
 · simp only[dQ,jJ] at hq
   rw[aA.aF _ _ (hne hL),m4 q hq.2,h7 q hq.1 hne]
abbrev aJS:=zi tI_3 (zi zI_3 (zi aZ (zi tI_4 (zi zI_4 (zi cG (zi tI_27 (zi zI_27 (zi eT (zi gO (zi gP (zi iD (zi tI_28 (zi zI_28 (zi aQ (zi bM (zi bO (zi cA (zi tI_31 (zi zI_31 (zi fA (zi gY (zi gZ (zi k9 (zi tI_55 (zi zI_55 (zi v7 (zi vR (zi tI_150 zI_150))))))))))))))))))))))))))))
set_option maxHeartbeats 2000000 in
theorem aNO(p:List Cl){cnd:Tm→List Nat→List Nat}(hc:∀(ρ:Int→Int) (t:Tm) (l:List Nat),cnd (bP ρ t) l=cnd t l)(hd:∀t l,(∀i∈cnd t l,i∈l)∧(cnd t l).length≤l.length){idx:Bool}(BA:KT p idx cnd)(xX:idx=false)
 (q:List Tm) (most fuel:Int) (st:aA) :
 aD prog 77 [.slice (p.map bD),.slice (q.map Tm.av),.int .i64 most,.int .i64 fuel,.bool idx] st (K1 st ((f7 p cnd q most fuel).1.map aY) (f7 p cnd q most fuel).2):=by
 have A6:=aMY p q most fuel
 have D8:=O5 p hd q most fuel
 refine wF [1000000] 5 func77 ntmps77 rfl rfl ?_
 intro _
 simp -implicitDefEqProofs only[aB,seval]
 refine(A6 _).to ?_
 simp -implicitDefEqProofs only[aB,seval]
 refine aT (fun h=>?_) (fun h=>?_)
 · have hS:f7 p cnd q most fuel=([],9):=by
    unfold f7
    rw[aG (by rw[show jU p q most fuel=false from by unfold jU;simpa only[gH] using h];simp)]
   rw[hS]
   simp -implicitDefEqProofs only[aB,seval]
   exact⟨_,rfl,⟨[],kM,by simp,.inl ⟨rfl,rfl,rfl⟩,fun _ _=>rfl⟩,fun _=>rfl⟩
 have hok:jU p q most fuel=true:=by unfold jU;simpa using h
 have hk:=hok
 simp only[jU,cK,bL] at hk
 obtain⟨kp,kq,k1,k2,k3,k4⟩:=hk
 obtain⟨p1,p2⟩:=OO kp
 obtain⟨q1,q2⟩:=OP kq
 have hTT:f7 p cnd q most fuel=iJ p cnd (bR q []) most.toNat fuel.toNat (nH q):=by
  unfold f7
  rw[aK hok,aV7 (fun c h=>(p2 c h).1) hc q2]
 rw[hTT] at D8 ⊢
 clear hTT A6 hok h
 obtain⟨mo,rfl⟩:=zA k1
 obtain⟨fu,rfl⟩:=zA k3
 rw[jM,jM] at D8 ⊢
 simp -implicitDefEqProofs only[aB,seval]
 refine(aOJ p q (fu:Int) idx (by omega) st).mono ?_
 rintro _ s1 ⟨S,c,m,rfl,hA⟩
 simp -implicitDefEqProofs only[aB,seval]
 refine(aOP p2 p1 hc hd BA xX q2 q1 (most:=mo) (fuel:=fu) (by omega) (by omega) hA).mono ?_
 generalize iJ p cnd (bR q []) mo fu (nH q)=T at D8 ⊢
 rintro _ _ ⟨b,s2,rfl,rfl,hb,hD⟩
 obtain⟨L,e⟩:=T
 simp only at D8 hb ⊢
 have hb':L.map aY≠[]→st b=none:=fun h=>(hD b).1 (hb h)
 have hun:prog.underlying 31=some (.slice 55):=by kernel_rfl
 have sW:=CY (w:=1) (b:=b) (l:=L.map aY) hun
 rw[aE] at sW
 have hwd:∀e∈L.map aY,e.width=1:=fun e he=>by simp only[cE] at he;obtain⟨t,_,rfl⟩:=he;rfl
 simp -implicitDefEqProofs only[sW,aB,seval]
 refine dW (σ:=List AV×List Nat×aA) [1000000] [10,11,12,13,32,33] L (fun j x=>sD st (L.map aY) b j x.1 x.2.1 x.2.2) (fun j x=>[(34,.int .i64 j)]) (fun j x=>x.2.2) (by decide +kernel) ⟨([],[],bE st b (L.map aY)),sD.start,aP.drop (aPS hD) (by simp -implicitDefEqProofs only[aB,↓aX,seval])⟩ (fun j a x hx hlt bF hdr hinv=>?_) (fun x hge hinv=>?_)
 case refine_2=>
  simp -implicitDefEqProofs only[hge,nS,aB,seval]
  have aR1:sD st (L.map aY) b (L.map aY).length x.1 x.2.1 x.2.2:=by rw[aE];exact hinv
  exact⟨_,rfl,aR1.done hb' hwd,fun h=>by rw[h];try rfl⟩
 obtain⟨os,bs,s⟩:=x
 simp only at hinv
 have hw:=bK (n:=(j:Int)+1)
 have hne:L.map aY≠[]:=by intro h;have:=rF List.length h;simp at this;subst this;simp at hlt
 have mN:(L.map aY)[j]?=some (.agg [.slice (a.map Tm.av)]):=by rw[lX,hx];try rfl
 have hc2:=hinv.cell hne
 have aRP:((L.map aY).drop j).flatMap AV.cells= [.slice (a.map Tm.av)]++((L.map aY).drop (j+1)).flatMap AV.cells:=by
  rw[←CI,hdr,bH,qR,CI];try rfl
 rw[aRP,←lA] at hc2
 have hA2:(os.flatMap AV.cells).length=j*1:=by
  rw[hinv.own.HW (fun q hq=>hwd q (nP hq)),dY,aE,kC (by omega)]
 obtain⟨e1,e2,e3,e4,e5,e6⟩:=wC (B:=((L.map aY).drop (j+1)).flatMap AV.cells) hA2
 have hat:=n6 (P:=prog) (b:=b) (w:=1) (i:=j) fA (len:=(L.map aY).length) (by rw[aE];omega)
 have htk:List.take 1 (List.drop (j*1) (os.flatMap AV.cells++ [.slice (a.map Tm.av)]++((L.map aY).drop (j+1)).flatMap AV.cells))= [.slice (a.map Tm.av)]:=by
  rw[lA,List.drop_append,List.drop_of_length_le (by omega),hA2]
  simp
 obtain⟨hal,hav⟩:=D8.2 a (cL hx)
 rw[rB hne] at sW ⊢
 rw[aE] at hat sW ⊢
 simp -implicitDefEqProofs only[bF,hat,hc2,htk,e5,aB,↓aX,seval,aJS]
 refine(IZ a _ (by omega) fun x hx s=>EZ x s (Tm.KN (eL.1 hav x hx))).mono ?_
 rintro r s3 ⟨bx,m1,m2,m3,m4⟩
 have hbx:b∉bx:=fun h=>by have:=m2 b h;rw[hc2] at this;cases this
 have f1:=(m4 b hbx).trans hc2
 obtain⟨hqc,hqs,hqa,hqw,hqj⟩:=aR.jT m3
 simp -implicitDefEqProofs only[hat,f1,hqc,hqs,e4,e5,qT,w7,aB,seval,aJS]
 exact⟨(os++ [.agg [r]],bs++bx,s3.aC b (.cells (os.flatMap AV.cells++ [r]++((L.map aY).drop (j+1)).flatMap AV.cells))),hinv.step mN rfl m1 m2 m3 m4,aP.mk (by simp -implicitDefEqProofs only[hw,aB,seval])⟩
theorem aNN(p:List Cl)(q:List Tm)(most fuel:Int)(st:aA) :
 aD prog 31 [.slice (p.map bD),.slice (q.map Tm.av),.int .i64 most,.int .i64 fuel] st (K1 st ((f7 p (fun _ l=>l) q most fuel).1.map aY) (f7 p (fun _ l=>l) q most fuel).2):=by
 refine wF [1000000] 4 func31 ntmps31 rfl rfl ?_
 intro _
 simp -implicitDefEqProofs only[aB,seval]
 refine(aNO p (cnd:=fun _ l=>l) (fun _ _ _=>rfl) (fun _ l=>⟨fun _ h=>h,cQ _⟩) (idx:=false) (fun _=>rfl) rfl q most fuel st).mono ?_
 intro r s1 h
 obtain⟨o,rfl,hM,hN⟩:=h
 obtain⟨hqc,hqs,hqa,hqw,hqj⟩:=aR.jT hM.choose_spec.2.2.1
 simp -implicitDefEqProofs only[hqj,aB,seval]
 exact⟨_,rfl,hM,hN⟩
abbrev aW3:=zi tI_3 (zi zI_3 (zi aZ (zi tI_5 (zi zI_5 (zi QE (zi tI_9 (zi zI_9 (zi eF (zi tI_47 (zi zI_47 (zi aPU (zi aPT (zi aPV aXI)))))))))))))
theorem L4(k:Int)(st:aA)(h1:k≤1099511627776):aD prog 105 [.int .i64 k] st (fun r st'=>r=.str (mt k)∧st'=st):=by
 refine wF [] 1 func105 ntmps105 rfl rfl ?_
 intro _
 simp -implicitDefEqProofs only[aB,seval]
 refine aT (fun h=>?_) (fun h=>?_)
 · simp -implicitDefEqProofs only[aB,seval]
   simp only[bL] at h
   simp only[mt,h,d3]
 simp only[cI] at h
 obtain⟨n,rfl⟩:=zA (show 0≤k by omega)
 have hmt:mt (n:Int)=⟨(109::tA n []).toArray⟩:=by simp only[mt,h,cM,jM]
 rw[hmt]
 simp -implicitDefEqProofs only[aB,seval]
 refine mW (σ:=Nat×List UInt8) [] [2] (fun p=>tA p.1 p.2=tA n []∧p.2.length+p.1≤1099511627776) (fun p=>[(0,.int .i64 p.1),(3,.str ⟨p.2.toArray⟩)]) (fun _=>st) (fun p=>p.1) (by decide +kernel)
  ⟨(n,[]),⟨rfl,by simp;omega⟩,aP.mk (by simp -implicitDefEqProofs only[aB,seval])⟩ ?_
 rintro⟨k,acc⟩ ⟨hd,hb⟩
 simp only at hd hb
 simp -implicitDefEqProofs only[aB,seval]
 refine aT (fun h2=>?_) (fun h2=>?_)
 case refine_2=>
  simp only[cI] at h2
  obtain rfl:k=0:=by omega
  rw[aUI] at hd
  have hsz:(⟨#[109]⟩:ByteArray).size+(⟨acc.toArray⟩:ByteArray).size≤maxLen:=by
   show 1+acc.toArray.size≤maxLen
   unfold maxLen
   simp;omega
  simp -implicitDefEqProofs only[hsz,aB,↓aX,seval]
  rw[←hd]
  congr 1
 simp only[bL] at h2
 have hr:((k:Int)).tmod 10=((k % 10:Nat):Int):=by rw[Int.tmod_eq_emod_of_nonneg (by omega)];omega
 have hq:((k:Int)).tdiv 10=((k / 10:Nat):Int):=by rw[Int.tdiv_eq_ediv_of_nonneg (by omega)];omega
 have hw:=bK (n:=48+((k % 10:Nat):Int))
 have hw8:IntKind.wrap .u8 (48+((k % 10:Nat):Int))=((48+k % 10:Nat):Int):=by rw[IntKind.wrap_u8];omega
 have hw2:=bK (n:=((k / 10:Nat):Int))
 have hby:bytesOf [AV.int .u8 ((48+k % 10:Nat):Int)]=some [UInt8.ofNat (48+k % 10)]:=by
  simp only[bytesOf,jM,pP]
 have hsz:(⟨#[UInt8.ofNat (48+k % 10)]⟩:ByteArray).size+(⟨acc.toArray⟩:ByteArray).size≤maxLen:=by
  show 1+acc.toArray.size≤maxLen
  unfold maxLen
  simp;omega
 simp -implicitDefEqProofs only[CT,hr,hq,hw,hw8,hw2,hby,hsz,aB,seval,aW3]
 refine⟨(k / 10,UInt8.ofNat (48+k % 10)::acc),by omega,⟨by rw[←aUH (by omega)];exact hd,by simp only[bA];omega⟩,aP.mk (by simp -implicitDefEqProofs only[aL8,aB,seval])⟩
abbrev aJH:=zi tI_3 (zi zI_3 (zi aZ (zi tI_9 (zi zI_9 (zi eF (zi tI_28 (zi zI_28 (zi aQ (zi bM (zi bO (zi cA (zi tI_52 (zi zI_52 (zi bX (zi bY (zi bZ (zi b7 bV)))))))))))))))))
theorem DD:∀(l:List Tm) (j:Int) (o:AV) (bs:List Nat) (st:aA),aR st (.slice (l.map Tm.av)) o bs→bs.Nodup→0≤j→j+aM Tm.dB l≤1099511627776 →
 aD prog 55 [o,.int .i64 j] st (CL st (.slice ((fB Tm.mark Tm.dB l j).map Tm.av)) o bs (j+aM Tm.dB l))
 | l,j,o,bs,st,hO,hnd,hj0,hj1=>by
  have IH:=fun(k n:Int) (s:ByteArray) (ts:List Tm) (hm:Tm.mk k n s ts∈l)=>DD ts
  obtain⟨hlen,haL⟩:=hO.len
  rw[aE] at hlen
  have haL:=haL prog 28 _ cA
  rw[aE] at haL
  refine wF [] 2 func55 ntmps55 rfl rfl ?_
  simp only[dK]
  intro ⟨hf,_⟩
  have hl:=hlen hf
  clear hf hlen
  simp -implicitDefEqProofs only[aB,seval]
  refine dW (σ:=List Tm×Int×aA) [] [0,4] l
   (fun i p=>p.1.length=i∧p.1++fB Tm.mark Tm.dB (l.drop i) p.2.1=fB Tm.mark Tm.dB l j∧0≤p.2.1∧p.2.1+aM Tm.dB (l.drop i)=j+aM Tm.dB l∧aR p.2.2 (.slice ((p.1++l.drop i).map Tm.av)) o bs∧∀q,q∉bs→p.2.2 q=st q)
   (fun i p=>[(1,.int .i64 p.2.1),(5,.int .i64 i)]) (fun _ p=>p.2.2) (by decide +kernel)
   ⟨([],j,st),⟨rfl,rfl,hj0,rfl,hO,fun _ _=>rfl⟩,aP.mk (by simp -implicitDefEqProofs only[aB,↓aX,seval])⟩ (fun i x p hx hlt bF hdr hinv=>?_) (fun p hge hinv=>?_)
  case refine_2=>
   obtain⟨done,k,s⟩:=p
   obtain⟨i1,i2,i3,i4,i5,i6⟩:=hinv
   simp only at i1 i2 i3 i4 i5 i6
   simp -implicitDefEqProofs only[haL,hge,aB,seval]
   simp only[gU,fB,fM,aM] at i2 i4 i5
   exact⟨by rw[←i4];simp,by rw[←i2];exact i5,i6⟩
  obtain⟨done,k,s⟩:=p
  obtain⟨i1,i2,i3,i4,i5,i6⟩:=hinv
  simp only at i1 i2 i3 i4 i5 i6
  rw[hdr] at i2 i4 i5
  obtain⟨xk,xn,xs,xts⟩:=x
  simp only[aM,Tm.EV] at i4
  have mN:=IV (av:=Tm.av) (done:=done) (x:=.mk xk xn xs xts) (rest:=l.drop (i+1))
  obtain⟨b,bs',w,A,oe,bo,B,rfl,hbs,hsb,hA,hoe,hbo,hbn,iO,hw,hi,rP⟩:=i5.focus hnd mN
  rw[aN] at hw
  subst hw
  rw[i1] at hA
  obtain⟨q,rfl,hq⟩:=BT.1 hoe
  have xY:((done++Tm.mk xk xn xs xts::l.drop (i+1)).map Tm.av).length=l.length:=by
   rw[aE,dX,bA,pN,i1];omega
  rw[xY] at haL rP ⊢
  have hat:=n6 (b:=b) (len:=l.length) (w:=4) (i:=i) aQ hlt
  have aZV:∀(c:Nat),c<4→i*4+c+1≤A.length+(4+B.length):=fun c hc=>by rw[hA];omega
  have hw1:=bK (n:=k+1)
  have hw2:=bK (n:=k+1+1)
  have hw3:=bK (n:=k+1+1+1)
  have hw4:=bK (n:=(i:Int)+1)
  obtain⟨e1,e2,e3,e4,e5,e6⟩:=wC (B:=B) hA
  simp -implicitDefEqProofs only[haL,bF,hat,hsb,hw1,hw2,e1,e2,e4,e5,qT,w7,GA,d4,aB,seval,aJH]
  refine(L4 (k+1+1) _ (by omega)).to ?_
  simp -implicitDefEqProofs only[hat,e1,e2,e3,w7,GA,d4,hw3,aB,seval,aJH]
  have hqs:∀(o:AO),aR (s.aC b o) (.slice (xts.map Tm.av)) q bo:=fun o=>aR.aV _ _ _ (fun x hx=>aA.aF _ _ (fun e=>hbn (e▸hx))) hq
  have hqa:q.isAgg=false:=(aR.shape hq).1
  simp -implicitDefEqProofs only[hqa,aB,seval]
  refine(IH xk xn xs xts (cL hx) (k+1+1+1) q bo _ (hqs _) hbo (by omega) (by omega)).mono ?_
  rintro _ s2 ⟨rfl,hq2,hk2⟩
  simp -implicitDefEqProofs only[hw4,aB,seval]
  refine⟨(done++ [(Tm.mk xk xn xs xts).mark k],k+1+1+1+aM Tm.dB xts,s2),⟨?_,?_,?_,?_,?_,?_⟩,aP.mk (by simp -implicitDefEqProofs only[aB,seval])⟩
  · simp [i1]
  · simp only[fB,Tm.EV] at i2
    rw[←i2,show k+((3+aM Tm.dB xts:Nat):Int)=k+1+1+1+(aM Tm.dB xts:Int) by omega]
    simp
  · simp only;omega
  · simp only;omega
  · have:=rP s2 ((Tm.mk xk xn xs xts).mark k).av (.agg [.int .i64 k,.int .i64 (k+1),.str (mt (k+1+1)),q]) (aN _) (fun x hx hxb hxo=>by rw[hk2 x hxo,aA.aF _ _ hxb]) (by rw[hk2 b hbn,aA.aH];try rfl) (by rw[Tm.aHC];exact BT.2 ⟨q,rfl,hq2⟩)
    rw[IW] at this
    exact this
  · intro x hx
    have hxb:x≠b:=fun e=>hx (by rw[hbs];simp [e])
    have hxo:x∉bo:=fun e=>hx (iO x e)
    show s2 x=st x
    rw[hk2 x hxo,aA.aF _ _ hxb,i6 x hx]
termination_by l=>SizeOf.sizeOf l
decreasing_by have:=List.sizeOf_lt_of_mem hm;simp only[Tm.mk.sizeOf_spec] at this;omega
abbrev JQ:=zi tI_3 (zi zI_3 (zi aZ (zi tI_23 (zi zI_23 (zi pZ (zi sN (zi sP (zi qM (zi tI_28 (zi zI_28 (zi aQ (zi bM (zi bO (zi cA (zi tI_52 (zi zI_52 (zi bX (zi bY (zi bZ (zi b7 (zi bV (zi tI_118 (zi zI_118 (zi v3 (zi v4 (zi v5 (zi v6 vQ)))))))))))))))))))))))))))
theorem aHM(l:List Tm)(st:aA)(hb:l.length≤1048576)(hc:∀x∈l,∀(st:aA),aD prog 102 [Tm.av x] st (Made st (Tm.av x))) :
 aD prog 50 [.slice (l.map Tm.av)] st (Made st (.slice (l.map Tm.av))):=by
 refine wF [] 1 func50 ntmps50 rfl rfl ?_
 intro _
 simp -implicitDefEqProofs only[aE,qX,aB,↓aX,seval,JQ]
 refine⟨by omega,by omega,by omega,?_⟩
 intro b hn
 rw[jM,ER _ (by simp)]
 refine dW (σ:=List AV×List Nat×aA) [] [0,2,3] l (fun i p=>qU (l.map Tm.av) [.int .i64 0,.int .i64 0,.str ⟨#[]⟩,.fslice []] b st i p) (fun i _=>[(4,.int .i64 i)]) (fun _ p=>p.2.2) (by decide +kernel)
  ⟨([],[],_),?_,aP.mk (by simp -implicitDefEqProofs only[aB,↓aX,seval])⟩ (fun i x p hx hlt bF hdr hinv=>?_) (fun p hge hinv=>?_)
 · exact qU.start hn (by rw[aE])
 case refine_3=>
  obtain⟨os,bs,s⟩:=p
  simp -implicitDefEqProofs only[aE,hge,aB,seval,JQ]
  exact hinv.done (aE _) (fun e he=>by simp only[cE] at he;obtain⟨t,_,rfl⟩:=he;exact aN t)
 obtain⟨os,bs,s⟩:=p
 simp -implicitDefEqProofs only[aE,bF,bJ (av:=Tm.av) pZ hx (aN x),bU,aN,aB,seval,JQ]
 refine(hc x (cL hx) _).mono ?_
 rintro r s2 NQ
 obtain⟨A,B,hs2,hA,hrw,hrs,NT⟩:=hinv.step NQ (show(l.map Tm.av)[i]?=some (Tm.av x) by rw[lX,hx];try rfl) (aN x) (fun e he=>by simp only[cE] at he;obtain⟨t,_,rfl⟩:=he;exact aN t) rfl (Tm.d8 x) (.inl (bU x))
 have hat:=n6 (b:=b) (len:=l.length) (w:=4) (i:=i) aQ hlt
 obtain⟨hp1,hp2⟩:=OH (B:=B) (C:=[.int .i64 0,.int .i64 0,.str ⟨#[]⟩,.fslice []]) (x:=r.cells) hA rfl hrw
 have hw:=bK (n:=(i:Int)+1)
 simp -implicitDefEqProofs only[hat,hs2,hrw,hrs,hp1,hw,aB,seval,JQ]
 refine⟨hp2,?_⟩
 exact⟨_,NT,aP.mk (by simp -implicitDefEqProofs only[aB,seval])⟩
abbrev aJG:=zi tI_3 (zi zI_3 (zi aZ (zi tI_9 (zi zI_9 (zi eF (zi tI_23 (zi zI_23 (zi pZ (zi sN (zi sP (zi qM (zi tI_28 (zi zI_28 (zi aQ (zi bM (zi bO (zi cA (zi tI_52 (zi zI_52 (zi bX (zi bY (zi bZ (zi b7 (zi bV (zi tI_118 (zi zI_118 (zi v3 (zi v4 (zi v5 (zi v6 vQ))))))))))))))))))))))))))))))
theorem N9:∀(a:Tm) (st:aA),a.sz≤1048576→aD prog 102 [a.av] st (Made st a.av)
 | .mk k n s ts,st,hb=>by
  rw[Tm.JL] at hb
  have hc:=fun st=>aHM ts st (by omega) fun x hx st=>N9 x st (by have:=qF (f:=Tm.sz) hx;omega)
  refine aD.BG ?_
  refine wF [] 1 func102 ntmps102 rfl rfl ?_
  intro _
  simp only[a7]
  simp -implicitDefEqProofs only[aB,seval,aJG]
  intro b hb1 b2 hb2
  have hne:b2≠b:=by rintro rfl;rw[aA.aH] at hb2;cases hb2
  have hn2:st b2=none:=by rw[aA.aF st _ hne] at hb2;exact hb2
  simp -implicitDefEqProofs only[aS,aB,seval]
  refine(hc _).mono ?_
  rintro q s2 ⟨bs,m1,m2,m3,m4⟩
  have hbb:b∉bs:=fun h=>by have:=m2 b h;simp [dP,hne.symm] at this
  have nZ:b2∉bs:=fun h=>by have:=m2 b2 h;simp [dP] at this
  have e1:=m4 b hbb
  have e2:=m4 b2 nZ
  simp only[dP,hne,hne.symm,d3,cM] at e1 e2
  have hqc:q.cells= [q]:=by have:=(aR.shape m3).1;cases q<;>first | rfl | simp [AV.isAgg] at this
  have hqs:q.storable=true:=by
   have:=m3
   simp only[aR] at this
   rcases this with ⟨_,rfl,_⟩ | ⟨_,_,_,_,rfl,_⟩<;>rfl
  simp -implicitDefEqProofs only[dP,hne.symm,e1,e2,hqc,hqs,aS,aB,seval,aJG]
  refine⟨[b,b2],bs,m1,fun x hx=>?_,?_,?_,?_⟩
  · have:=m2 x hx
    have h1:x≠b:=fun e=>hbb (e▸hx)
    have h2:x≠b2:=fun e=>nZ (e▸hx)
    simpa [dP,h1,h2] using this
  · simp [hb1,hn2,hbb,nZ]
  · rw[←a7]
    refine BT.2 ⟨q,rfl,aR.aV _ _ _ (fun x hx=>?_) m3⟩
    have h1:x≠b:=fun e=>hbb (e▸hx)
    have h2:x≠b2:=fun e=>nZ (e▸hx)
    simp only[dP,h1,h2,cM]
  · intro x hx hd
    simp only[cP,dI,dN,jJ] at hd
    simp only[dP,hd.1,hd.2,cM]
    rw[m4 x hx]
    simp only[dP,hd.1,hd.2,cM]
termination_by a=>SizeOf.sizeOf a
decreasing_by have:=List.sizeOf_lt_of_mem hx;simp only[Tm.mk.sizeOf_spec];omega
abbrev P0:=zi tI_3 (zi zI_3 (zi aZ (zi tI_4 (zi zI_4 (zi cG (zi tI_28 (zi zI_28 (zi aQ (zi bM (zi bO (zi cA (zi tI_52 (zi zI_52 (zi bX (zi bY (zi bZ (zi b7 bV)))))))))))))))))
theorem GY(l l':List Tm)(st:aA)(hc:∀x∈l,∀(y:Tm) (st:aA),aD prog 104 [Tm.av x,Tm.av y] st (fun r st'=>r=.bool (Tm.same x y)∧st'=st)) :
 aD prog 53 [.slice (l.map Tm.av),.slice (l'.map Tm.av)] st (fun r st'=>r=.bool (gK Tm.same l l')∧st'=st):=by
 refine wF [] 2 func53 ntmps53 rfl rfl ?_
 simp only[dK,AV.fits,dZ,aE]
 intro ⟨⟨hl,_⟩,⟨hl',_⟩⟩
 simp -implicitDefEqProofs only[aE,aB,seval,P0]
 refine⟨fun h4=>?_,fun h4=>?_⟩
 · simp -implicitDefEqProofs only[aB,seval]
   simp only[gH,cI] at h4
   rw[AS _ (show l.length≠l'.length by omega)]
 simp -implicitDefEqProofs only[aB,seval]
 simp only[jY,bL] at h4
 have h4':l.length=l'.length:=by omega
 refine oI (α:=Nat) [] (fun i=>i≤l.length∧∀(j:Nat) (x y:Tm),j<i→l[j]?=some x→l'[j]?=some y→Tm.same x y=true)
  (fun i=>[(0,.slice (l.map Tm.av)),(1,.slice (l'.map Tm.av)),(5,.int .i64 i)]) (fun _=>st) (fun i=>l.length - i) (by decide +kernel)
  ⟨0,⟨by omega,by intro j x y h;omega⟩,aP.mk (by simp -implicitDefEqProofs only[aB,↓aX,seval])⟩ ?_
 intro i ⟨hi,c9⟩
 simp -implicitDefEqProofs only[aE,aB,seval,P0]
 refine⟨fun h5=>?_,fun h5=>?_⟩
 case refine_2=>
  simp -implicitDefEqProofs only[aB,seval]
  simp only[cI,gT] at h5
  rw[AP _ h4' (fun j x y h6 h7=>c9 j x y (by have:=(fD.1 h6).1;omega) h6 h7)]
 simp only[bL,gT] at h5
 obtain⟨x,hx⟩:∃x,l[i]?=some x:=⟨_,eQ h5⟩
 obtain⟨y,hy⟩:∃y,l'[i]?=some y:=⟨_,eQ (h4'▸h5)⟩
 simp -implicitDefEqProofs only[aB,seval]
 refine GU mixed (by decide +kernel) (by decide +kernel) ?_
 simp -implicitDefEqProofs only[bJ (av:=Tm.av) aQ hx (aN x),bJ (av:=Tm.av) aQ hy (aN y),bU,aN,aB,seval,P0]
 refine(hc x (cL hx) y st).to ?_
 simp -implicitDefEqProofs only[aB,seval]
 refine⟨fun h6=>?_,fun h6=>?_⟩
 · simp -implicitDefEqProofs only[aB,seval]
   have h7:Tm.same x y=false:=by simpa using h6
   rw[AQ _ i x y hx hy h7]
 have h7:Tm.same x y=true:=by simpa using h6
 simp -implicitDefEqProofs only[aB,seval]
 refine⟨i+1,by omega,⟨by omega,fun j u v hj hu hv=>?_⟩,aP.mk ?_⟩
 · rcases kN j i with h8 | h8
   · exact c9 j u v h8 hu hv
   · obtain rfl:j=i:=by omega
     rw[hx] at hu;rw[hy] at hv;cases hu;cases hv;exact h7
 · have:=bK (n:=(i:Int)+1)
   simp -implicitDefEqProofs only[this,aB,seval]
abbrev PZ:=zi tI_3 (zi zI_3 (zi aZ (zi tI_23 (zi zI_23 (zi pZ (zi sN (zi sP (zi qM (zi tI_118 (zi zI_118 (zi v3 (zi v4 (zi v5 (zi v6 vQ))))))))))))))
theorem TJ(l:List Tm)(left:Int)(st:aA)(h0:0≤left)(h1:left≤1048576)(hc:∀x∈l,∀(left:Int) (st:aA),0≤left→left≤1048576→aD prog 99 [Tm.av x,.int .i64 left] st (fun r st'=>r=.int .i64 (jK left (Tm.sz x))∧st'=st)) :
 aD prog 47 [.slice (l.map Tm.av),.int .i64 left] st (fun r st'=>r=.int .i64 (jK left (l.length+aM Tm.sz l))∧st'=st):=by
 refine wF [] 2 func47 ntmps47 rfl rfl ?_
 simp only[dK,AV.fits,dZ,aE]
 intro ⟨hl,_⟩
 have hw:=bK (n:=left - (l.length:Int))
 simp -implicitDefEqProofs only[aE,hw,aB,seval,PZ]
 refine⟨fun h4=>?_,fun h4=>?_⟩
 · simp -implicitDefEqProofs only[aB,seval]
   simp only[bL] at h4
   simp only[jK]
   rw[aK (by omega)]
 simp only[cI] at h4
 simp -implicitDefEqProofs only[aB,seval]
 refine oI (α:=Nat) [] (fun i=>i≤l.length∧((l.length+aM Tm.sz (l.take i):Nat):Int)≤left)
  (fun i=>[(0,.slice (l.map Tm.av)),(1,.int .i64 (left - ((l.length+aM Tm.sz (l.take i):Nat):Int))),(5,.int .i64 i)]) (fun _=>st) (fun i=>l.length - i) (by decide +kernel)
  ⟨0,⟨by omega,by simp only[lC,aM];omega⟩,aP.mk (by simp -implicitDefEqProofs only[aM,qT,aB,↓aX,seval])⟩ ?_
 intro i ⟨hi,hle⟩
 simp -implicitDefEqProofs only[aE,aB,seval,PZ]
 refine⟨fun h5=>?_,fun h5=>?_⟩
 case refine_2=>
  simp -implicitDefEqProofs only[aB,seval]
  simp only[cI,gT] at h5
  rw[show i=l.length by omega,eM] at hle ⊢
  rw[qH (by omega)]
 simp only[bL,gT] at h5
 obtain⟨x,hx⟩:∃x,l[i]?=some x:=⟨_,eQ h5⟩
 simp -implicitDefEqProofs only[bJ (av:=Tm.av) pZ hx (aN x),bU,aN,aB,seval,PZ]
 refine(hc x (cL hx) _ st (by omega) (by omega)).to ?_
 have hs:=uT Tm.sz hx
 simp -implicitDefEqProofs only[aB,seval]
 refine⟨fun h6=>?_,fun h6=>?_⟩
 · simp -implicitDefEqProofs only[aB,seval]
   simp only[bL,nL] at h6
   simp only[jK]
   rw[aK (by omega)]
 simp only[cI,nL] at h6
 rw[qH h6]
 simp -implicitDefEqProofs only[aB,seval]
 refine⟨i+1,by omega,⟨by omega,by omega⟩,aP.mk ?_⟩
 · have:=bK (n:=(i:Int)+1)
   have e:(left - ((l.length+aM Tm.sz (l.take (i+1)):Nat):Int))=left - ((l.length+aM Tm.sz (l.take i):Nat):Int) - ((Tm.sz x:Nat):Int):=by omega
   simp -implicitDefEqProofs only[this,e,aB,seval]
abbrev JW:=zi tI_3 (zi zI_3 (zi aZ (zi tI_4 (zi zI_4 (zi cG (zi tI_9 (zi zI_9 (zi eF (zi tI_28 (zi zI_28 (zi aQ (zi bM (zi bO (zi cA (zi tI_52 (zi zI_52 (zi bX (zi bY (zi bZ (zi b7 bV))))))))))))))))))))
theorem DA:∀(a b:Tm) (st:aA),aD prog 104 [a.av,b.av] st (fun r st'=>r=.bool (a.same b)∧st'=st)
 | .mk k n s ts,.mk k' n' s' ts',st=>by
  have hc:=GY ts ts' st fun x hx y st=>DA x y st
  refine wF [] 2 func104 ntmps104 rfl rfl ?_
  intro _
  simp only[a7,Tm.JF]
  simp -implicitDefEqProofs only[aB,seval,JW]
  refine⟨fun h1=>?_,fun h1=>?_⟩
  · simp -implicitDefEqProofs only[aB,seval]
    simp only[gH] at h1
    simp [h1]
  simp only[jY] at h1
  simp -implicitDefEqProofs only[aB,seval,JW]
  refine⟨fun h2=>?_,fun h2=>?_⟩
  · simp -implicitDefEqProofs only[aB,seval]
    simp only[gH] at h2
    simp [h2]
  simp only[jY] at h2
  simp -implicitDefEqProofs only[aB,seval,JW]
  refine⟨fun h3=>?_,fun h3=>?_⟩
  · simp -implicitDefEqProofs only[aB,seval]
    simp only[gH] at h3
    simp [h3]
  simp only[jY] at h3
  simp -implicitDefEqProofs only[aB,seval,JW]
  refine hc.to ?_
  simp -implicitDefEqProofs only[aB,seval]
  refine⟨fun h4=>?_,fun h4=>?_⟩<;>simp -implicitDefEqProofs only[aB,seval]
  · simp only[gH] at h4
    simp [h4]
  · simp only[jY] at h4
    simp [h1,h2,h3,h4]
termination_by a=>SizeOf.sizeOf a
decreasing_by have:=List.sizeOf_lt_of_mem hx;simp only[Tm.mk.sizeOf_spec];omega
abbrev aJT:=zi tI_3 (zi zI_3 (zi aZ (zi tI_9 (zi zI_9 (zi eF (zi tI_23 (zi zI_23 (zi pZ (zi sN (zi sP (zi qM (zi tI_118 (zi zI_118 (zi v3 (zi v4 (zi v5 (zi v6 vQ)))))))))))))))))
theorem MA:∀(a:Tm) (left:Int) (st:aA),0≤left→left≤1048576→aD prog 99 [a.av,.int .i64 left] st (fun r st'=>r=.int .i64 (jK left a.sz)∧st'=st)
 | .mk k n s ts,left,st,h0,h1=>by
  have hc:=fun(left:Int) h0 h1=>TJ ts left st h0 h1 fun x hx left st h0 h1=>MA x left st h0 h1
  refine wF [] 2 func99 ntmps99 rfl rfl ?_
  simp only[a7,Tm.JL,dK,AV.fits,dZ]
  intro ⟨_,_,hs,_⟩
  have hw:=bK (n:=left - (s.size:Int))
  simp -implicitDefEqProofs only[hw,aB,seval,aJT]
  refine⟨fun h2=>?_,fun h2=>?_⟩
  · simp -implicitDefEqProofs only[aB,seval]
    simp only[bL] at h2
    simp only[jK]
    rw[aK (by omega)]
  simp only[cI] at h2
  simp -implicitDefEqProofs only[aB,seval,aJT]
  refine(hc _ (by omega) (by omega)).to ?_
  simp -implicitDefEqProofs only[aB,seval]
  refine⟨fun h3=>?_,fun h3=>?_⟩
  · simp -implicitDefEqProofs only[aB,seval]
    simp only[bL,nL] at h3
    simp only[jK]
    rw[aK (by omega)]
  simp only[cI,nL] at h3
  simp -implicitDefEqProofs only[aB,seval]
  rw[qH h3,qH (by omega)]
  simp only[AV.int.injEq,true_and]
  omega
termination_by a=>SizeOf.sizeOf a
decreasing_by have:=List.sizeOf_lt_of_mem hx;simp only[Tm.mk.sizeOf_spec];omega
theorem N5{α:Type}(mk:α→Int→α)(n:α→Nat):∀(l:List α) (j:Int) (i:Nat),(fB mk n l j).drop i=fB mk n (l.drop i) (j+aM n (l.take i))
 | [],_,i=>by simp [fB]
 | x::l,j,0=>by simp [aM]
 | x::l,j,i+1=>by
  simp only[fB,List.drop_succ_cons,vH,aM,N5 mk n l _ i]
  congr 1
  omega
abbrev JO:=zi tI_3 (zi zI_3 (zi aZ (zi tI_9 (zi zI_9 (zi eF (zi tI_28 (zi zI_28 (zi aQ (zi bM (zi bO (zi cA (zi tI_52 (zi zI_52 (zi bX (zi bY (zi bZ (zi b7 bV)))))))))))))))))
theorem SK:∀(l:List Tm) (j:Int) (st:aA),0≤j→j+aM Tm.dB l≤1099511627776 →
 aD prog 70 [.slice ((fB Tm.mark Tm.dB l j).map Tm.av),.int .i64 j] st (fun r st'=>r=.int .i64 (j+aM Tm.dB l)∧st'=st)
 | l,j,st,h0,h1=>by
  have IH:=fun(k n:Int) (s:ByteArray) (ts:List Tm) (hm:Tm.mk k n s ts∈l)=>SK ts
  refine wF [1000000] 2 func70 ntmps70 rfl rfl ?_
  simp only[dK,AV.fits,dZ,aE,ES]
  intro ⟨hl,_⟩
  have hML:(fB Tm.mark Tm.dB l j).length=l.length:=ES _ _ _ _
  simp -implicitDefEqProofs only[aB,seval]
  refine dW (σ:=Unit) [1000000] [0] (fB Tm.mark Tm.dB l j) (fun i _=>True) (fun i _=>[(1,.int .i64 (j+aM Tm.dB (l.take i))),(5,.int .i64 i)]) (fun _ _=>st) (by decide +kernel) ⟨(),trivial,aP.mk (by simp -implicitDefEqProofs only[aM,lC,Int.add_zero,aB,↓aX,seval])⟩ (fun i x _ hx hlt bF hdr _=>?_) (fun _ hge _=>?_)
  case refine_2=>
   rw[hML] at hge
   simp -implicitDefEqProofs only[hge,eM,aE,hML,aB,seval,JO]
  rw[hML] at hlt bF
  obtain⟨y,hy⟩:∃y,l[i]?=some y:=⟨_,eQ hlt⟩
  obtain⟨k,n,s,ts⟩:=y
  have hxy:x=(Tm.mk k n s ts).mark (j+aM Tm.dB (l.take i)):=by
   have:=N5 Tm.mark Tm.dB l j i
   rw[hdr,nO hlt,fB,(fD.1 hy).2] at this
   exact(vE this).1
  have hs:=uT Tm.dB hy
  rw[Tm.EV] at hs
  rw[Tm.aHC] at hxy
  have hat:=bJ (av:=Tm.av) aQ hx (aN x)
  rw[hxy,a7] at hat
  obtain⟨hs1,hs2⟩:=hs
  generalize hk:j+(aM Tm.dB (l.take i):Int)=m at *
  have hw1:=bK (n:=m+1)
  have hw2:=bK (n:=m+1+1)
  have hw3:=bK (n:=m+1+1+1)
  have hw:=bK (n:=(i:Int)+1)
  simp -implicitDefEqProofs only[bF,dU,mY,aE,hML,hat,hw1,hw2,aB,seval,JO]
  refine wP [(0,1),(1,1),(2,1),(3,1),(5,1),(4,2),(6,2),(7,1)] [0,1,2,3,5,4,6,7] mixed ?_
  simp -implicitDefEqProofs only[hat,aB,seval,JO]
  refine jW (L4 (m+1+1) _ (by omega)) ?_
  simp -implicitDefEqProofs only[dU,mY,hat,hw3,aB,seval,JO]
  refine(IH k n s ts (cL hy) (m+1+1+1) _ (by omega) (by omega)).to ?_
  have mO:¬(m+1+1+1+(aM Tm.dB ts:Int)<0):=by omega
  simp -implicitDefEqProofs only[mO,eK,aB,seval]
  refine⟨(),aP.mk ?_⟩
  have e:j+(aM Tm.dB (l.take (i+1)):Int)=m+1+1+1+(aM Tm.dB ts:Int):=by omega
  simp -implicitDefEqProofs only[hw,e,aB,seval]
termination_by l=>SizeOf.sizeOf l
decreasing_by have:=List.sizeOf_lt_of_mem hm;simp only[Tm.mk.sizeOf_spec] at this;omega
abbrev qG (l:List Tm):Nat:=l.length+aM Tm.sz l
theorem TK(l:List Tm)(left:Int)(st:aA)(h0:0≤left)(h1:left≤1048576):aD prog 47 [.slice (l.map Tm.av),.int .i64 left] st (fun r st'=>r=.int .i64 (jK left (qG l))∧st'=st):=
 TJ l left st h0 h1 fun x _ left st h0 h1=>MA x left st h0 h1
theorem aND(l:List Tm)(st:aA):aD prog 53 [.slice (l.map Tm.av),.slice (l.map Tm.av)] st (fun r st'=>r=.bool true∧st'=st):=by
 refine(GY l l st fun x _ y st=>DA x y st).mono ?_
 rintro _ _ ⟨rfl,rfl⟩
 refine⟨?_,rfl⟩
 rw[(AR (fun x _ y=>Tm.yH x y)).2 rfl]
theorem aWG{l:List Tm}{x:Tm}(hx:x∈l):x.sz≤qG l:=by have:=qF (f:=Tm.sz) hx;unfold qG;omega
theorem aHN(l:List Tm)(st:aA)(hb:qG l≤1048576):aD prog 50 [.slice (l.map Tm.av)] st (Made st (.slice (l.map Tm.av))):=
 aHM l st (by unfold qG at hb;omega) fun x hx st=>N9 x st (by have:=aWG hx;omega)
mutual
theorem Tm.aHE:∀(t:Tm),t.dB≤3+3*t.sz
 | .mk k n s ts=>by
  have:=P4 ts
  rw[Tm.dB,Tm.JL]
  omega
theorem P4:∀(ts:List Tm),yR ts≤3*(ts.length+aM Tm.sz ts)
 | []=>by simp [yR]
 | t::ts=>by
  have h1:=Tm.aHE t
  have h2:=P4 ts
  simp only[yR,bA,aM]
  omega
end
theorem aHF(l:List Tm):aM Tm.dB l≤3*qG l:=by rw[←P3];exact P4 l
end Go.AW
