import Derived.Test.YtimfffmcljmfgaaGreatDoorUzo
import Derived.Test.YtimfffmcljmfgaaGreatDoorUzm
import Derived.Test.YtimfffmcljmfgaaGreatDoorUzf
import Derived.Test.YtimfffmcljmfgaaGreatDoorUzg
import Derived.Test.YtimfffmcljmfgaaGreatDoorUzk
import Derived.Test.YtimfffmcljmfgaaGreatDoorUzj
import Derived.Test.YtimfffmcljmfgaaGreatDoorUzn
import Derived.Shelf.LaysM
import Derived.Shelf.Strconv.Itoa3
set_option linter.unusedSimpArgs false
set_option linter.unusedVariables false
set_option maxRecDepth 100000
namespace Go.AW
open Go.Proofs.Tryz
theorem aQT{φ:AF}{t:TypeId}{ag:Bool}{w d k:Nat}{es:List AV}(hI:eI prog t=some (ag,w))(h:φ d=.int .i64 (k:Int))(hk:k≤es.length):iK prog φ t (.slice es) none (some (.tmp d)) none=some (.slice (es.take k)):=by
 have he:φ.eval (.tmp d)=.int .i64 (k:Int):=h
 unfold iK
 rw[aE (by simp [rH])]
 simp only[oY,hI]
 rw[aE (by simp)]
 simp only[d8,he]
 rw[aH (by omega)]
 simp
def KZ(a:AV):Prop:=(∃l,a=.slice l)∨a=.fslice []
theorem KZ.facts{a:AV}(h:KZ a):a.isAgg=false∧a.width=1∧a.cH=false∧a.cells= [a]∧a.storable=true∧∃l,a.soft=.slice l:=by
 rcases h with ⟨l,rfl⟩ | rfl
 · exact⟨rfl,rfl,rfl,rfl,rfl,l,rfl⟩
 · exact⟨rfl,rfl,rfl,rfl,rfl,[],rfl⟩
abbrev wI:=zi tI_3 (zi zI_3 (zi aZ (zi tI_4 (zi zI_4 (zi cG (zi tI_29 (zi zI_29 (zi fN (zi iT (zi iU (zi jK (zi tI_164 (zi zI_164 (zi xJ (zi EL (zi EN (zi PK (zi tI_166 (zi zI_166 (zi B1 (zi B2 (zi B3 (zi BQ (zi tI_254 (zi zI_254 (zi MM (zi MN (zi MO (zi MP LK)))))))))))))))))))))))))))))
theorem aAS{p:List Cl}(hp:∀c∈p,fL c∧c.2.length≤6){B:Nat}(hB:B≤524288)(gs0:List RG)(σ0:List AV)(chs:List RC)(hl:chs.length≤B)(hc:∀c∈chs,r0 p c∧c.N+26≤B∧c.rest.length+26≤B∧0<c.N)(st:aB) :
 aD prog 161 [.slice (p.map bB),.agg [.slice (gs0.map eO),.slice σ0,.slice (chs.map gO)]] st (fun r st'=>st'=st∧match gC p chs.length chs with
  | some s=>r=.tup [d6 s,.bool true]
  | none=>∃l1 l2 l3,r=.tup [.agg [.slice l1,.slice l2,.slice l3],.bool false]):=by
 refine aD.nB (aD.soft ?_)
 refine wF [1000000,3] 2 func161 ntmps161 rfl rfl ?_
 intro _
 simp -implicitDefEqProofs only[aA,seval,wI]
 intro b3 h3 b4 h4
 have hne:b4≠b3:=by rintro rfl;rw[aB.aP] at h4;cases h4
 have UA:st b4=none:=by rw[aB.aJ _ _ hne] at h4;exact h4
 rw[aB.nL _ _ _ (c9 hne)]
 generalize hW:st.aC b4 (.cells [.fslice [],.fslice [],.fslice []])=W
 have hW4:W b4=some (.cells [.fslice [],.fslice [],.fslice []]):=by rw[←hW];exact aB.aP _ _ _
 have hW3:W b3=none:=by rw[←hW,aB.aJ _ _ (c9 hne)];exact h3
 have hDW:∀o o',aL ((W.aC b3 o).aC b4 o') st:=fun o o' q=>by
  by_cases q4:q=b4
  · subst q4;rw[aB.aP,UA];simp
  rw[aB.aJ _ _ q4]
  by_cases q3:q=b3
  · subst q3;rw[aB.aP,h3];simp
  rw[aB.aJ _ _ q3,←hW,aB.aJ _ _ q4]
  simp
 have bBG:b3≠b4:=c9 hne
 refine iN (σ:=List RC×AV×AV) [1000000,3] [0,3,4] (fun s=>s.1.length≤B∧(∀c∈s.1,r0 p c∧c.N+26≤B∧c.rest.length+26≤B∧0<c.N)∧KZ s.2.1∧KZ s.2.2∧gC p s.1.length s.1=gC p chs.length chs) (fun s=>[(5,.bool false)]) (fun s=>W.aC b3 (.cells [s.2.1,s.2.2,.slice (s.1.map gO)])) (fun s=>s.1.length) (by decide +kernel) ⟨(chs,.slice (gs0.map eO),.slice σ0),⟨hl,hc,.inl ⟨_,rfl⟩,.inl ⟨_,rfl⟩,rfl⟩,aN.mk (by simp -implicitDefEqProofs only[aA,seval])⟩ ?_
 rintro⟨l,a,b⟩ ⟨hl1,hlc,ha,hb,hinv⟩
 simp only at hl1 hlc ha hb hinv
 obtain⟨a1,a2,a3,a4,a5,la,a6⟩:=ha.facts
 obtain⟨b1,b2,b3',b4',b5,lb,b6⟩:=hb.facts
 simp only
 rw[a5V] at hinv
 by_cases CE:l= []
 · subst CE
   simp only[List.getLast?_nil] at hinv
   simp -implicitDefEqProofs only[aB.aP,B0,List.contains,List.elem,tF,iM,sub,↓reduceIte,reduceCtorEq,Nat.reduceEqDiff,wI]
   refine aS (fun h=>absurd h (by decide)) (fun h=>?_)
   simp -implicitDefEqProofs only[aG,hne,aB.aP,hW4,a5,b5,aA,seval,wI]
   rw[←hinv]
   exact⟨st,hDW _ _,rfl,la,lb,[],by simp only[eG,eJ,uP,fV,aW,aU,a6,b6]⟩
 obtain⟨c,vX⟩:∃c,l.getLast?=some c:=by
  cases h:l.getLast? with
  | none=>exact absurd (List.getLast?_eq_none_iff.1 h) CE
  | some c=>exact⟨c,rfl⟩
 have hlp:=List.length_pos_iff.2 CE
 have hcm:=P4 vX
 obtain⟨a1L,hcN,hcr,hc0⟩:=hlc c hcm
 rw[vX] at hinv
 simp only at hinv
 have hat:=bO (av:=gO) (P:=prog) (l:=l) (i:=l.length - 1) (x:=c) xJ (by rw[←XX];exact vX) (N2 c)
 rw[show(((l.length - 1:Nat):Int))=(l.length:Int) - 1 by omega] at hat
 have hw:=bE (n:=(l.length:Int) - 1)
 have hdl:l.dropLast=l.take (l.length - 1):=List.dropLast_eq_take
 have bA9:l.dropLast.length+1=l.length:=by simp;omega
 have hct:=LX p hp [] [] l.dropLast c a1L hc0 (by omega) (by omega)
 have hcs:=fun(φ:AF) (d:Nat) (h:φ d=.int .i64 ((l.length:Int) - 1))=>aQT (es:=l.map gO) (k:=l.length - 1) xJ (h.trans (by congr 1;omega)) (by simp)
 rw[←GK,←hdl] at hcs
 generalize hx:fK p l.dropLast c.goal c.rest c.σ c.N c.left=x at hinv hct
 obtain⟨⟨ck,cn,cs',cts⟩,aBZ,aBW,cσ,cN⟩:=c
 rw[JC] at hct hat
 simp only[aU] at hct
 simp -implicitDefEqProofs only[aF,aB.aP,aA,seval,wI]
 refine aS (fun h=>?_) (fun h=>absurd hlp (by simpa using h))
 simp -implicitDefEqProofs only[aF,aB.aP,hw,hat,aA,↓aX,seval,wI]
 cases x with
 | none=>
  have M9:∀st,aD prog 241 [.slice (p.map bB),.agg [.fslice [],.fslice [],.slice (l.dropLast.map gO)],.agg [.int .i64 ck,.int .i64 cn,.str cs',.slice (cts.map Tm.av),.slice (aBZ.map eO),.slice (aBW.map nv),.slice (cY cN cσ)]] st (fun r st'=>r=.tup [.agg [.slice [],.slice [],.slice (l.dropLast.map gO)],.bool false]∧st'=st):=fun st=>
   aD.qP ((hct st).mono fun _ _ h=>⟨h.2,h.1⟩)
  simp only at hinv
  refine wP [(0,1),(1,1),(3,1),(2,2),(4,1),(5,1),(6,2),(7,1),(8,1),(9,1),(10,1),(11,0),(12,0),(13,1)] [0,1,3,2,4,5,6,7,8,9,10,13] mixed ?_
  simp -implicitDefEqProofs only[aB.aP,hcs,aA,seval,wI]
  refine R7 M9 ?_
  simp -implicitDefEqProofs only[aG,aB.aP,aA,seval,wI]
  intro b8 h8
  have h83:b8≠b3:=by rintro rfl;rw[aB.aP] at h8;cases h8
  rw[aB.aJ _ _ h83] at h8
  have h84:b8≠b4:=by rintro rfl;rw[hW4] at h8;cases h8
  have hs8:st b8=none:=by rw[←hW,aB.aJ _ _ h84] at h8;exact h8
  have h38:=c9 h83
  have h48:=c9 h84
  simp -implicitDefEqProofs only[aG,h38,aB.aP,hcs,aA,seval,wI]
  refine⟨(l.dropLast,.fslice [],.fslice []),by simp only;omega,⟨by simp only;omega,fun c h=>hlc c (PZ _ h),.inr rfl,.inr rfl,hinv⟩,aN.drop (fun q=>?_) (by simp -implicitDefEqProofs only[aA,seval])⟩
  by_cases q3:q=b3
  · subst q3;rw[aB.aP,aB.aP];simp
  rw[aB.aJ _ _ q3,aB.aJ _ _ q3]
  by_cases q8:q=b8
  · subst q8;rw[aB.aP,h8];simp
  rw[aB.aJ _ _ q8,aB.aJ _ _ q3]
  simp
 | some s=>
  have M9:∀st,aD prog 241 [.slice (p.map bB),.agg [.fslice [],.fslice [],.slice (l.dropLast.map gO)],.agg [.int .i64 ck,.int .i64 cn,.str cs',.slice (cts.map Tm.av),.slice (aBZ.map eO),.slice (aBW.map nv),.slice (cY cN cσ)]] st (fun r st'=>r=.tup [d6 s,.bool true]∧st'=st):=fun st=>
   aD.qP ((hct st).mono fun _ _ h=>⟨h.2,h.1⟩)
  simp only at hinv
  simp only[d6] at M9
  refine wP [(0,1),(1,1),(3,1),(2,2),(4,1),(5,1),(6,2),(7,1),(8,1),(9,1),(10,1),(11,0),(12,0),(13,1)] [0,1,3,2,4,5,6,7,8,9,10,13] mixed ?_
  simp -implicitDefEqProofs only[aB.aP,hcs,aA,seval,wI]
  refine R7 M9 ?_
  simp -implicitDefEqProofs only[aG,aB.aP,aA,seval,wI]
  intro b8 h8
  have h83:b8≠b3:=by rintro rfl;rw[aB.aP] at h8;cases h8
  rw[aB.aJ _ _ h83] at h8
  have h84:b8≠b4:=by rintro rfl;rw[hW4] at h8;cases h8
  have hs8:st b8=none:=by rw[←hW,aB.aJ _ _ h84] at h8;exact h8
  have h38:=c9 h83
  have h48:=c9 h84
  simp -implicitDefEqProofs only[hne,h48,hW4,aA,seval]
  refine⟨st,?_,rfl,?_⟩
  · have d1:aL W st:=by rw[←hW];exact(aL.refl _).aC UA
    exact((d1.aC h3).aC hs8).aC UA
  · rw[←hinv]
    simp only[eG,eJ,uP,fV,aW,aU]
    rfl
theorem aQU{φ:AF}{t:TypeId}{ag:Bool}{w:Nat}{y:Operand}{e:AV}{es:List AV}(hI:eI prog t=some (ag,w))(h:φ.eval y=.int .i64 1)(hw:∀x∈es,x.width=w):iK prog φ t (.slice (e::es)) (some y) none none=some (.slice es):=by
 have hwo:DH (e::es) 1 w=true:=by
  unfold DH
  rw[KO]
  split
  · rename_i x hx
    simp [hw x (cJ hx)]
  · rfl
 unfold iK
 rw[aE (by simp [rH])]
 simp only[oY,hI]
 rw[aE (by simp)]
 simp only[d8,h]
 rw[aH (by constructor<;>simp<;>omega)]
 simp [hwo]
abbrev bBS:=zi tI_3 (zi zI_3 aZ)
theorem aXQ(c:Int)(st:aB):aD prog 271 [.int .i64 c] st (fun r st'=>r=.int .i64 (sK c)∧st'=st):=by
 refine aD.done ?_
 refine wF [1000000] 1 func271 ntmps271 rfl rfl ?_
 intro _
 simp -implicitDefEqProofs only[aA,seval]
 unfold sK
 refine aS (fun h=>?_) (fun h=>?_)
 · simp -implicitDefEqProofs only[aA,seval]
   have h':c=2:=by simpa using h
   exact⟨by rw[aH h'];try rfl,aL.refl _⟩
 rw[aE (show ¬c=2 by simpa using h)]
 simp -implicitDefEqProofs only[aA,seval]
 refine aS (fun h=>?_) (fun h=>?_)
 · simp -implicitDefEqProofs only[aA,seval]
   have h':c=3:=by simpa using h
   exact⟨by rw[aH h'];try rfl,aL.refl _⟩
 rw[aE (show ¬c=3 by simpa using h)]
 simp -implicitDefEqProofs only[aA,seval]
 refine aS (fun h=>?_) (fun h=>?_)
 · simp -implicitDefEqProofs only[aA,seval]
   have h':c=4:=by simpa using h
   exact⟨by rw[aH h'];try rfl,aL.refl _⟩
 rw[aE (show ¬c=4 by simpa using h)]
 simp -implicitDefEqProofs only[aA,seval]
 exact⟨rfl,aL.refl _⟩
def eF(s0:RS)(x:RO)(r:AV):Prop:=match x with
 | .go s=>r=.tup [d6 s,.int .i64 (-1)]
 | .fail=>r=.tup [d6 s0,.int .i64 (-2)]
 | .stop e=>0≤e∧∃l1 l2 l3,r=.tup [.agg [.slice l1,.slice l2,.slice l3],.int .i64 e]
abbrev n6:=zi tI_2 (zi zI_2 (zi KA (zi tI_3 (zi zI_3 (zi aZ (zi tI_4 (zi zI_4 (zi cG (zi tI_9 (zi zI_9 (zi cF (zi tI_29 (zi zI_29 (zi fN (zi iT (zi iU (zi jK (zi tI_31 (zi zI_31 (zi aO (zi bH (zi bJ (zi bZ (zi tI_46 (zi zI_46 (zi dK (zi fM (zi fJ (zi fX (zi tI_66 (zi zI_66 (zi bS (zi bT (zi bU (zi bV (zi bR (zi tI_163 (zi zI_163 (zi sH (zi zH (zi zL (zi F9 (zi tI_164 (zi zI_164 (zi xJ (zi EL (zi EN (zi PK (zi tI_166 (zi zI_166 (zi B1 (zi B2 (zi B3 (zi BQ (zi tI_254 (zi zI_254 (zi MM (zi MN (zi MO (zi MP (zi LK (zi tI_286 (zi zI_286 (zi SS (zi ST Q0)))))))))))))))))))))))))))))))))))))))))))))))))))))))))))))))))
theorem aXZ{p:List Cl}(hp:∀c∈p,fL c∧c.2.length≤6)(hpl:p.length≤1048576){B:Nat}(hB:B+26≤524288)(goals:List RG)(σ:Sub)(N:Nat)(chs:List RC)(g:RG)(rest:List RG)(hgs:goals=g::rest)(h:oE p B ⟨goals,σ,N,chs⟩)(hK:vB ⟨goals,σ,N,chs⟩)(st:aB) :
 aD prog 208 [.slice (p.map bB),.agg [.slice (goals.map eO),.slice (cY N σ),.slice (chs.map gO)]] st (fun r st'=>st'=st∧eF ⟨goals,σ,N,chs⟩ (iB p (fun _ l=>l) ⟨goals,σ,N,chs⟩ g rest) r):=by
 subst hgs
 obtain⟨hg,ho,hd,hgo,h0,hN,hgl,hcl,hch⟩:=h
 simp only at hg ho hd hgo h0 hN hgl hcl hch
 obtain⟨hgx,hg3⟩:=hgo g (by simp)
 have xW:∀x∈rest,bF N x.t∧x.t.k=3:=fun x hx=>hgo x (by simp [hx])
 have hkp:=hK.goals.2 g (by simp)
 simp only at hkp
 have hsm:=RN hg ho g.t hgx
 have hyk:(g.t.aM (rs σ)).k=3:=by rw[Tm.rK _ (by omega)];exact hg3
 have hfo:=ET hg ho hgx
 generalize hR:iB p (fun _ l=>l) ⟨g::rest,σ,N,chs⟩ g rest=R
 unfold iB at hR
 dsimp only at hR
 obtain⟨⟨gk,gn,gs',gts⟩,aV⟩:=g
 simp only at hgx hg3 hkp hsm hyk hfo
 dsimp only at hR
 generalize (Tm.mk gk gn gs' gts).aM (rs σ)=y at *
 obtain⟨yk,yn,ys,yts⟩:=y
 obtain rfl:yk=3:=hyk
 have hat:dM prog 163 (.slice ((⟨.mk gk gn gs' gts,aV⟩::rest).map eO)) (.int .i64 0)=some (.pptr (eO ⟨.mk gk gn gs' gts,aV⟩)):=bO (av:=eO) (l:=⟨.mk gk gn gs' gts,aV⟩::rest) (i:=0) sH rfl (AJ _)
 have hs1:=fun(φ:AF) (y:Operand) (h:φ.eval y=.int .i64 1)=>aQU (e:=eO ⟨.mk gk gn gs' gts,aV⟩) (es:=rest.map eO) sH h (by intro e he;simp only[cU] at he;obtain⟨t,_,rfl⟩:=he;exact AJ t)
 rw[aW,pM] at hat
 rw[pM] at hs1
 rw[aW,pM]
 simp only[aY] at hsm
 refine aD.fin (aD.nB ?_)
 refine wF [1000000] 2 func208 ntmps208 rfl rfl ?_
 intro _
 simp -implicitDefEqProofs only[aQ,hat,hs1,aA,↓aX,seval,n6]
 intro b4 h4
 refine(hsm _).mono ?_
 rintro _ _ ⟨rfl,x,rfl,hx⟩
 generalize fD:eQ (.mk 3 yn ys yts)=fit at *
 have xL:∀(o:AO) (r:AV) (x:RO),eF ⟨⟨.mk gk gn gs' gts,aV⟩::rest,σ,N,chs⟩ x (r.fin 0 [])→∃s2,aL (st.aC b4 o) s2∧∃b l s0,s2=a8 s0 b l∧(l≠[]→s0 b=none)∧(∀e∈l,e.cH=false)∧iR l∧s0=st∧eF ⟨⟨.mk gk gn gs' gts,aV⟩::rest,σ,N,chs⟩ x (r.fin b l):=fun o r x hr=>
  ⟨st,(aL.refl _).aC h4,0,[],st,rfl,by simp,by simp,⟨0,by simp⟩,rfl,hr⟩
 simp -implicitDefEqProofs only[aQ,aK,cB,cM,aA,↓aX,seval,n6]
 refine aS (fun h=>?_) (fun h=>?_)
 · have h':fit=false:=by simpa using h
   subst h'
   rw[aH rfl] at hR
   subst hR
   simp -implicitDefEqProofs only[aG,aQ,aA,seval,n6]
   exact xL _ _ _ ⟨by decide,_,_,_,by simp only[gJ,kS,eT,jB,aW,aU];rfl⟩
 obtain rfl:fit=true:=by simpa using h
 obtain rfl:=hx rfl
 simp only[aY]
 have hyo:=hfo rfl
 rw[aE (by simp)] at hR
 have uG:∀st,aD prog 269 [.agg [.int .i64 3,.int .i64 yn,.str ys,.slice (yts.map Tm.av)]] st (fun r st'=>r=.bool (lX (.mk 3 yn ys yts))∧st'=st):=fun st=>by
  have:=RK 3 yn ys yts st
  rw[aY] at this
  exact this
 have hbi:=fun st=>LY ys (yts.length:Int) st
 have xV:=fun st=>RL p (.mk 3 yn ys yts) hpl st
 have aN8:=fun hb=>aU7 (N:=N) h0 (by omega) hg ho yn ys yts hb (rL N (.mk 3 yn ys yts) (by show(3:Int)≠1;decide) hyo)
 have htr:=LX p hp
 simp only[aY] at xV aN8
 replace hR:(if lX (.mk 3 yn ys yts)=true then RO.go ⟨rest,σ,N,chs.take aV⟩ else if isBuiltin ys (yts.length:Int)=true then(if(dH σ ys yts).1=0 then RO.go ⟨rest,(dH σ ys yts).2.1,N,chs⟩ else if(dH σ ys yts).1=1 then RO.fail else RO.stop (sK (dH σ ys yts).1)) else if dG p (.mk 3 yn ys yts)= [] then RO.stop 8 else match fK p chs (.mk 3 yn ys yts) rest σ N (dG p (.mk 3 yn ys yts)) with | some s'=>RO.go s' | none=>RO.fail)=R:=hR
 generalize hcu:lX (.mk 3 yn ys yts)=cu at *
 have hs2:=fun(φ:AF) (d:Nat) (h:φ d=.int .i64 (aV:Int))=>aQT (es:=chs.map gO) (k:=aV) xJ h (by simpa using hkp)
 rw[←GK] at hs2
 refine(uG _).to ?_
 simp -implicitDefEqProofs only[aA,seval]
 refine aS (fun h=>?_) (fun h=>?_)
 · rw[aH h] at hR
   subst h hR
   simp -implicitDefEqProofs only[aA,seval]
   refine wP [(0,1),(1,1),(3,1),(5,1),(2,2),(4,2),(6,2),(7,1),(8,1),(9,0),(10,1)] [0,1,3,5,2,4,6,7,8,10] mixed ?_
   simp -implicitDefEqProofs only[aG,aQ,hs2,aA,seval,n6]
   exact xL _ _ _ (by simp only[gJ,kS,eT,jB,aW,aU];rfl)
 rw[aE (by rw[h];simp)] at hR
 subst h
 simp -implicitDefEqProofs only[aF,aA,seval,n6]
 refine(hbi _).to ?_
 simp -implicitDefEqProofs only[aA,seval]
 refine aS (fun h=>?_) (fun h=>?_)
 · have z7:=aN8 h
   rw[aH h] at hR
   simp -implicitDefEqProofs only[aA,seval,n6]
   refine QW h0 (by omega) σ fun b hb hA0=>?_
   have hst:=aL.aC (aL.refl st) (o:=.cells [.fslice [],.fslice [],.fslice []]) h4
   generalize hW:st.aC b4 (.cells [.fslice [],.fslice [],.fslice []])=W at *
   have hW4:W b4=some (.cells [.fslice [],.fslice [],.fslice []]):=by rw[←hW];exact aB.aP _ _ _
   have hT:aL (W.aC b (.cells ((cY N σ).flatMap AV.cells))) W:=(aL.refl _).aC hb
   generalize W.aC b (.cells ((cY N σ).flatMap AV.cells))=T at *
   have hb4:b≠b4:=by rintro rfl;rw[hW4] at hb;cases hb
   simp -implicitDefEqProofs only[aQ,aA,seval,n6]
   refine(z7 b _ hA0).mono ?_
   rintro _ s2 ⟨rfl,hA,hk2⟩
   have a1K:=a67 σ ys yts
   generalize dH σ ys yts=S at *
   obtain⟨c,σ',tr⟩:=S
   simp only at hA a1K ⊢
   dsimp only at hR
   have hDs:aL s2 W:=by
    intro q
    have key:∀o,W q=some o→s2 q=some o:=fun o h=>hk2 q o ((hT q).2 o h) (by rintro rfl;rw[hb] at h;cases h)
    refine⟨fun h=>?_,key⟩
    cases hq:W q with
    | none=>rfl
    | some o=>rw[key o hq] at h;cases h
   have T8:=(hDs b4).2 _ hW4
   have a26:st b=none:=by rw[←hW,aB.aJ _ _ hb4] at hb;exact hb
   have aMX:∀(o:AO) (r:AV) (x:RO),eF ⟨⟨.mk gk gn gs' gts,aV⟩::rest,σ,N,chs⟩ x (r.fin 0 [])→∃s3,aL (s2.aC b4 o) s3∧∃b l s0,s3=a8 s0 b l∧(l≠[]→s0 b=none)∧(∀e∈l,e.cH=false)∧iR l∧s0=st∧eF ⟨⟨.mk gk gn gs' gts,aV⟩::rest,σ,N,chs⟩ x (r.fin b l):=fun o r x hr=>
    ⟨st,(hDs.trans hst).aC h4,0,[],st,rfl,by simp,by simp,⟨0,by simp⟩,rfl,hr⟩
   simp -implicitDefEqProofs only[aA,seval]
   refine aS (fun h=>?_) (fun h=>?_)
   · have hc0:c=0:=by simpa using h
     subst hc0
     rw[aH rfl] at hR
     subst hR
     simp -implicitDefEqProofs only[aG,aQ,T8,aA,seval,n6]
     have pA:cY N σ'≠[]:=by intro e;have:=vH N σ';rw[e] at this;simp at this;omega
     refine⟨st.aC b (.cells ((cY N σ').flatMap AV.cells)),fun q=>?_,b,cY N σ',st,by rw[jY pA],fun _=>a26,G9 _ _,⟨4,D7 _ _⟩,rfl,?_⟩
     · by_cases q4:q=b4
       · subst q4;rw[aB.aP,aB.aJ _ _ (c9 hb4),h4];simp
       rw[aB.aJ _ _ q4]
       by_cases qb:q=b
       · subst qb;rw[aB.aP,show s2 q=_ from hA];simp
       rw[aB.aJ _ _ qb]
       exact(hDs.trans hst) q
     · simp only[gJ,kS,eT,jB,aW,aU,MS h0]
       rfl
   have hc0:c≠0:=by simpa using h
   rw[aE hc0] at hR
   simp -implicitDefEqProofs only[aA,seval]
   refine aS (fun h=>?_) (fun h=>?_)
   · have hc1:c=1:=by simpa using h
     subst hc1
     rw[aH rfl] at hR
     subst hR
     simp -implicitDefEqProofs only[aG,aQ,T8,aA,seval,n6]
     exact aMX _ _ _ (by simp only[eF,d6,aW,pM];simp only[gJ,kS,eT,jB,aW,aU])
   have hc1:c≠1:=by simpa using h
   rw[aE hc1] at hR
   subst hR
   have kT:0≤sK c:=by unfold sK;split;omega;split;omega;split;omega;omega
   simp -implicitDefEqProofs only[aA,seval]
   refine wP [(1,1),(0,2),(2,2),(3,0),(4,1)] [1,0,2,4] mixed ?_
   simp -implicitDefEqProofs only[aQ,aA,seval,n6]
   refine iE (aXQ c _) ?_
   simp -implicitDefEqProofs only[aG,aQ,T8,aA,seval,n6]
   exact aMX _ _ _ ⟨kT,_,_,_,by simp only[gJ,kS,eT,jB,aW,aU];rfl⟩
 rw[aE (by rw[h];simp)] at hR
 simp -implicitDefEqProofs only[aQ,aA,seval,n6]
 refine(xV _).to ?_
 have hcx:r0 p ⟨.mk 3 yn ys yts,rest,dG p (.mk 3 yn ys yts),σ,N⟩:=⟨hg,ho,hd,hyo,xW,fun i hi=>by
  unfold dG at hi
  exact qT.1 (u7.1 hi).1,by simp only;simp only[aQ] at hgl;omega,by
  have:=B6 p (.mk 3 yn ys yts) p.length
  rw[←B5] at this
  simp only;omega⟩
 have qH:=fun st=>htr (⟨.mk gk gn gs' gts,aV⟩::rest) (cY N σ) chs _ hcx h0 (by simp only;omega) (by omega) st
 rw[aW,pM,JC] at qH
 simp only at qH
 generalize dG p (.mk 3 yn ys yts)=left at *
 simp -implicitDefEqProofs only[aF,aA,seval,n6]
 refine aS (fun h=>?_) (fun h=>?_)
 · have h':left= []:=by
    have:(left.length:Int)=0:=by simpa using h
    exact oB (by omega)
   rw[aH h'] at hR
   subst hR
   simp -implicitDefEqProofs only[aG,aQ,aA,seval,n6]
   exact xL _ _ _ ⟨by decide,_,_,_,by simp only[gJ,kS,eT,jB,aW,aU];rfl⟩
 have h':left≠[]:=by
  rintro rfl
  simp at h
 rw[aE h'] at hR
 generalize fK p chs (.mk 3 yn ys yts) rest σ N left=x at *
 simp -implicitDefEqProofs only[aQ,aA,seval,n6]
 cases x with
 | none=>
  simp only at hR qH
  subst hR
  refine(qH _).mono ?_
  rintro _ _ ⟨rfl,rfl⟩
  simp -implicitDefEqProofs only[aG,aQ,aA,↓aX,seval,n6]
  exact xL _ _ _ (by simp only[eF,d6,aW,pM];simp only[gJ,kS,eT,jB,aW,aU])
 | some s=>
  simp only[d6] at hR qH
  subst hR
  refine(qH _).mono ?_
  rintro _ _ ⟨rfl,rfl⟩
  simp -implicitDefEqProofs only[aG,aQ,aA,↓aX,seval,n6]
  exact xL _ _ _ (by simp only[gJ,kS,eT,jB,aW,aU];rfl)
theorem a6T{N:Int}{t:Tm}(h:cL N t):cZ 0 t=t:=by
 have h1:cZ 0 t=t.aM vr:=by
  unfold cZ b7
  congr 1
  funext v
  congr 1
  simp
 rw[h1,UQ t h.2.1]
theorem ZA(N:Nat):cY N Sub.none=List.replicate N zt:=by
 apply KM
 intro i
 by_cases h:i<N
 · rw[BP N _ h,List.getElem?_replicate,aH h];try rfl
 · rw[yS (by rw[vH];omega),yS (by simp;omega)]
abbrev WL:=zi tI_3 (zi zI_3 (zi aZ (zi tI_31 (zi zI_31 (zi aO (zi bH (zi bJ (zi bZ (zi tI_163 (zi zI_163 (zi sH (zi zH (zi zL (zi F9 (zi tI_166 (zi zI_166 (zi B1 (zi B2 (zi B3 BQ)))))))))))))))))))
theorem aXY(q:List Tm)(hq:∀t∈q,bF 26 t)(h6:q.length≤6)(st:aB):aD prog 158 [.slice (q.map Tm.av)] st (fun r st'=>r=d6 (mQ q)∧st'=st):=by
 have hgo:∀st,aD prog 237 [.slice (q.map Tm.av),.int .i64 0,.int .i64 0,.fslice []] st (fun r st'=>r=.slice ((mQ q).goals.map eO)∧st'=st):=fun st=>
  aD.qP ((aAU q 0 0 [] hq h6 (by omega) (by simp) st).mono fun _ _ h=>⟨by
   rw[h.1]
   unfold mQ
   rw[gI]
   congr 2
   exact mV fun t ht=>by rw[a6T (hq t ht).1],h.2⟩)
 refine aD.sF (aD.fin (aD.nB ?_))
 refine wF [1000000,3] 1 func158 ntmps158 rfl rfl ?_
 intro _
 simp -implicitDefEqProofs only[aA,seval,WL]
 intro b2 h2
 simp -implicitDefEqProofs only[tQ,aG,B0,↓aCF,↓KK,List.contains,List.elem,A6,qR,rS,↓reduceIte,reduceCtorEq,Nat.reduceEqDiff,Nat.reduceAdd,Nat.reduceLT,Nat.reduceBEq,WL]
 refine⟨by omega,by omega,by omega,fun bb hbb=>?_⟩
 rw[show Int.toNat 26=26 from rfl,IZ _ (by simp)]
 have hb2:bb≠b2:=by rintro rfl;rw[aB.aP] at hbb;cases hbb
 have M8:(List.replicate 26 [AV.int .i64 0,.int .i64 0,.str ⟨#[]⟩,.fslice []]).flatten=(cY 26 Sub.none).flatMap AV.cells:=by
  rw[ZA];try rfl
 rw[M8]
 have h22:(st.aC b2 (AO.cells [AV.fslice [],AV.fslice [],AV.fslice []])) b2=some (AO.cells [AV.fslice [],AV.fslice [],AV.fslice []]):=aB.aP _ _ _
 have hD2:aL (st.aC b2 (AO.cells [AV.fslice [],AV.fslice [],AV.fslice []])) st:=(aL.refl _).aC h2
 intro b3 h3
 have h3b:b3≠bb:=by rintro rfl;rw[aB.aP] at h3;cases h3
 rw[aB.aJ _ _ h3b] at h3
 have h32:b3≠b2:=by rintro rfl;rw[aB.aP] at h3;cases h3
 have hs3:st b3=none:=by rw[aB.aJ _ _ h32] at h3;exact h3
 have hsb:st bb=none:=by rw[aB.aJ _ _ hb2] at hbb;exact hbb
 refine(hgo _).to ?_
 have e1:=c9 h3b
 have e2:=c9 h32
 have e3:=c9 hb2
 simp -implicitDefEqProofs only[aG,e2,e3,aB.aP,aA,seval,WL]
 have pA:cY 26 Sub.none≠[]:=by rw[ZA];simp
 refine⟨st.aC bb (.cells ((cY 26 Sub.none).flatMap AV.cells)),fun q'=>?_,bb,cY 26 Sub.none,st,by rw[jY pA],fun _=>hsb,G9 _ _,⟨4,D7 _ _⟩,?_,aL.refl _⟩
 · by_cases q2:q'=b2
   · subst q2;rw[aB.aP,aB.aJ _ _ e3,h2];simp
   rw[aB.aJ _ _ q2]
   by_cases q3:q'=b3
   · subst q3;rw[aB.aP,aB.aJ _ _ h3b,hs3];simp
   simp only[aB.aJ _ _ q3]
   by_cases qb:q'=bb
   · subst qb;rw[aB.aP,aB.aP];simp
   rw[aB.aJ _ _ qb,aB.aJ _ _ qb,aB.aJ _ _ q2]
   simp
 · simp only[gJ,jB,o7,aW,aU,MS (show 0<26 by omega)]
   rfl
theorem QP{S:aB}{b c:Nat}{l:List AV}{o:AO}(h:l≠[]→b≠c):(a8 S b l).aC c o=a8 (S.aC c o) b l:=by
 cases l with
 | nil=>rfl
 | cons x l=>rw[jY (by simp),jY (by simp),aB.nL _ _ _ (h (by simp))]
theorem QO{S:aB}{b c:Nat}{l:List AV}(h:l≠[]→b≠c):a8 S b l c=S c:=by
 cases l with
 | nil=>rfl
 | cons x l=>rw[jY (by simp),aB.aJ _ _ (c9 (h (by simp)))]
theorem CY{p:List Cl}{cnd:Tm→List Nat→List Nat}{vars:List Int}{most fuel:Nat}{s:RS}(hg:s.goals= []):kL p cnd vars most fuel s=if most=0 then([],1) else match kC s.σ vars with
 | none=>([],3)
 | some a=>match gC p s.chs.length s.chs with
  | none=>([a],0)
  | some s'=>(a::(kL p cnd vars (most - 1) fuel s').1,(kL p cnd vars (most - 1) fuel s').2):=by
 rw[kL.eq_def,hg]
 simp only
 split<;>rfl
theorem CX{p:List Cl}{cnd:Tm→List Nat→List Nat}{vars:List Int}{most fuel:Nat}{s:RS}{g:RG}{rest:List RG}(hg:s.goals=g::rest):kL p cnd vars most fuel s=if fuel=0 then([],2) else match iB p cnd s g rest with
 | .stop e=>([],e)
 | .go s'=>kL p cnd vars most (fuel - 1) s'
 | .fail=>match gC p s.chs.length s.chs with
  | none=>([],0)
  | some s'=>kL p cnd vars most (fuel - 1) s':=by
 rw[kL.eq_def,hg]
 simp only
 split<;>rfl
structure a9S (p:List Cl) (vars:List Int) (most fuel:Nat) (T:List (List Tm)×Int) (s:RS) (out:List (List Tm)) (f B:Nat):Prop where
 tot:T=(out++(kL p (fun _ l=>l) vars (most - out.length) f s).1,(kL p (fun _ l=>l) vars (most - out.length) f s).2)
 len:out.length≤most
 ok:lG p B s
 bd:B+26*f≤8000
end Go.AW
namespace Go.AW
def tL(st:aB)(xs:List AV)(r:AV)(st':aB):Prop:=∃(os:List AV) (bs:List Nat),r=.tup os∧bs.Nodup∧(∀b∈bs,st b=none)∧cA st' xs os bs∧∀b,b∉bs→st' b=st b
theorem cA.aS9{h:bP}{st s0:aB}(S:cX h st)(D:aL st s0):∀(xs os:List AV) (bs:List Nat) (vs:List Value),cA st xs os bs→(∀b∈bs,s0 b=none)→d4 h st os vs→d4 h s0 xs vs
 | [],os,bs,vs,x,_,y=>by simp only[cA] at x;rw[x.1] at y;exact y
 | a::xs,os,bs,vs,x,hb,y=>by
  simp only[cA] at x
  obtain⟨o,os',b1,b2,rfl,rfl,x1,x2⟩:=x
  simp only[d4] at y ⊢
  obtain⟨v,r,e,⟨y0,y1⟩,y2⟩:=y
  exact⟨v,r,e,⟨x1.shape.1.symm.trans y0,bG.view S D a o b1 _ x1 (fun q hq=>hb q (by simp [hq])) y1⟩,cA.aS9 S D xs os' b2 r x2 (fun q hq=>hb q (by simp [hq])) y2⟩
theorem aD.UP{P:Program}{g:FuncId}{args:List AV}{st:aB}{xs:List AV}(x:aD P g args st (tL st xs)):aD P g args st (fun r st'=>r=.tup xs∧st'=st):=
 x.mT fun r st' ⟨os,bs,hr,_,h2,h3,h4⟩=>by
  have D:aL st' st:=fun b=>⟨fun e=>by
   by_cases hb:b∈bs
   · exact h2 b hb
   · rw[←h4 b hb];exact e,fun o e=>by
   by_cases hb:b∈bs
   · rw[h2 b hb] at e;cases e
   · rw[h4 b hb];exact e⟩
  refine⟨.tup xs,st,D.tD,fun h v S y=>?_,rfl,rfl⟩
  subst hr
  obtain⟨y0,y1⟩:=y
  refine⟨y0,?_⟩
  unfold VC at y1 ⊢
  obtain⟨vs,e,y2⟩:=y1
  exact⟨vs,e,cA.aS9 S D xs os bs vs h3 h2 y2⟩
def yM(b1 b2:List Nat):Prop:=∀b∈b1,b∉b2
theorem yM.symm{b1 b2:List Nat}(h:yM b1 b2):yM b2 b1:=fun b h2 h1=>h b h1 h2
theorem bG.a7A{s:aB}{a o:AV}{bs:List Nat}(h:bG s a o bs):∀b∈bs,s b≠none:=fun b hb=>by
 obtain⟨cs,e,_⟩:=(bG.gY _ _ _ h).2.2 b hb
 rw[e];simp
theorem bG.apart{s:aB}{a o:AV}{bs bs':List Nat}(h:bG s a o bs)(hf:∀b∈bs',s b=none):yM bs bs':=fun b hb hb'=>h.a7A b hb (hf b hb')
theorem bG.beside{s s':aB}{a o:AV}{bs bs':List Nat}(h:bG s a o bs)(k:∀b,b∉bs'→s' b=s b)(d:yM bs bs'):bG s' a o bs:=bG.aV _ _ _ (fun b hb=>k b (d b hb)) h
theorem bG.AC{st:aB}{es:List AV}{q:AV}{bs:List Nat}(h:bG st (.slice es) q bs):q.cells= [q]∧q.storable=true∧q.isAgg=false∧q.width=1∧q.cH=false:=by
 simp only[bG] at h
 rcases h with ⟨_,rfl,_⟩ | ⟨_,_,_,_,rfl,_⟩<;>exact⟨rfl,rfl,rfl,rfl,rfl⟩
theorem U9{s:aB}{x o:AV}{bs:List Nat}:bG s (.agg [x]) o bs↔∃q,o=.agg [q]∧bG s x q bs:=by
 simp only[bG,cA]
 constructor
 · rintro⟨os,rfl,o1,os1,b1,b2,rfl,rfl,h,rfl,rfl⟩
   exact⟨o1,rfl,by simpa using h⟩
 · rintro⟨q,rfl,h⟩
   exact⟨_,rfl,q,[],bs,[],rfl,by simp,h,rfl,rfl⟩
theorem aPQ{s:aB}{x y:AV}{os:List AV}{bs:List Nat}:cA s [x,y] os bs↔∃o1 o2 b1 b2,os= [o1,o2]∧bs=b1++b2∧bG s x o1 b1∧bG s y o2 b2:=by
 simp only[cA]
 constructor
 · rintro⟨o1,os1,b1,b1',rfl,rfl,h1,o2,os2,b2,b2',rfl,rfl,h2,rfl,rfl⟩
   exact⟨o1,o2,b1,b2,rfl,by simp,h1,h2⟩
 · rintro⟨o1,o2,b1,b2,rfl,rfl,h1,h2⟩
   exact⟨o1,[o2],b1,b2,rfl,rfl,h1,o2,[],b2,[],rfl,by simp,h2,rfl,rfl⟩
end Go.AW
namespace Go.AW
open Go.Proofs.Tryz

section
variable {S:aB} {c b w:Nat} {hd tl l:List AV}
theorem X8{h:bP}{st:aB}{a a':AV}(hv:∀v,VC h st a [v]→VC h st a' [v]):∀(hd:List AV) {tl:List AV} {vs:List Value},bD h st (hd++a::tl) vs→bD h st (hd++a'::tl) vs
 | [],tl,vs,x=>by
  simp only[eS,bD] at x ⊢
  obtain⟨c,r,e,x1,x2⟩:=x
  exact⟨c,r,e,hv c x1,x2⟩
 | y::hd,tl,vs,x=>by
  simp only[fQ,bD] at x ⊢
  obtain⟨c,r,e,x1,x2⟩:=x
  exact⟨c,r,e,x1,X8 hv hd x2⟩
theorem gM.a63{φ:AF}{st:aB}{c:Nat}{hd tl:List AV}{a:AV}(hc:st c=some (.cells (hd++a::tl))):gM φ st φ (st.aC c (.cells (hd++a.soft::tl))):=fun h tmps S F=>by
 have T:cC h st h (st.aC c (.cells (hd++a.soft::tl))):=cC.of fun x hx=>by
  have:x≠c:=by rintro rfl;rw[hc] at hx;cases hx
  rw[aB.aJ _ _ this];exact hx
 refine⟨fun x o hx=>?_,T,fun d=>(F d).mono T⟩
 by_cases e:x=c
 · subst e
   rw[aB.aP] at hx
   cases hx
   obtain⟨hl,c0,t,e1,e2,vs,e3,e4⟩:=S x _ hc
   refine⟨hl,c0,t,e1,?_,vs,e3,bD.mono T _ _ (X8 (fun v hv=>VC.soft a [v] hv) hd e4)⟩
   simpa using e2
 · rw[aB.aJ _ _ e] at hx
   obtain⟨hl,y⟩:=S x o hx
   exact⟨hl,lK.mono T rfl y⟩
end
abbrev AT:=zi tI_3 (zi zI_3 (zi aZ (zi tI_31 (zi zI_31 (zi aO (zi bH (zi bJ (zi bZ (zi tI_66 (zi zI_66 (zi bS (zi bT (zi bU (zi bV (zi bR (zi tI_84 (zi zI_84 (zi kG (zi kH kD)))))))))))))))))))
theorem RJ(cl:Cl)(h1:cl.1.small=true)(h2:cl.2.length≤1048576)(h3:∀x∈cl.2,x.small=true)(st:aB):aD prog 248 [bB cl] st (fun r st'=>r=bB cl∧st'=st):=by
 obtain⟨⟨k,n,s,ks⟩,ts⟩:=cl
 have hhd:=fun st=>BS (.mk k n s ks) st h1
 simp only[aY] at hhd
 have IH:=fun(x:Tm) (hx:x∈ts) st=>BS x st (h3 x hx)
 have hlen:ts.length≤1048576:=h2
 refine aD.sF (aD.fin ?_)
 simp only[fU]
 refine wF [] 1 func248 ntmps248 rfl rfl ?_
 simp only[d5,AV.fits,d9,aF]
 intro ⟨_,_,_,_,hl,_⟩
 simp -implicitDefEqProofs only[aA,seval,AT]
 intro b2 hb2
 refine(hhd _).to ?_
 simp -implicitDefEqProofs only[aG,aA,seval,AT]
 intro c hc
 have hne:c≠b2:=by rintro rfl;rw[aB.aP] at hc;cases hc
 have hn2:st c=none:=by rw[aB.aJ st _ hne] at hc;exact hc
 have oL:b2≠c:=c9 hne
 refine eH (σ:=Nat) [] [1,2,3] ts (fun i b=>(((ts.take i).map (fun y=>y)).map Tm.av≠[]→(aB.aC (st.aC b2 (.cells [AV.int .i64 0,AV.int .i64 0,AV.str ⟨#[]⟩,AV.fslice [],AV.fslice []])) c (.cells ([AV.int .i64 k,AV.int .i64 n,AV.str s,AV.slice (ks.map Tm.av)]++ [bM 4 b (((ts.take i).map (fun y=>y)).map Tm.av)]))) b=none)) (fun i b=>[(4,.int .i64 i)]) (fun i b=>f9 (st.aC b2 (.cells [AV.int .i64 0,AV.int .i64 0,AV.str ⟨#[]⟩,AV.fslice [],AV.fslice []])) c b [AV.int .i64 k,AV.int .i64 n,AV.str s,AV.slice (ks.map Tm.av)] (((ts.take i).map (fun y=>y)).map Tm.av)) (by decide +kernel)
  ⟨0,fun h=>absurd rfl h,aN.mk (by simp -implicitDefEqProofs only[aA,↓aX,seval])⟩ (fun i x b hx hlt bQ hdr hinv=>?_) (fun b hge hinv=>?_)
 case refine_1=>
  have hw:=bE (n:=(i:Int)+1)
  have dA:(((ts.take i).map (fun y=>y)).map Tm.av).length=i:=by simp only[aF,dQ];omega
  have htk:(ts.take (i+1)).map (fun y=>y)=(ts.take i).map (fun y=>y)++ [(fun y=>y) x]:=by rw[fS,hx];simp
  have hbo:=fA hinv
  simp -implicitDefEqProofs only[aF,bQ,aA,seval,AT]
  refine wP [(0,1),(2,1),(4,1),(1,2),(3,2),(5,1),(6,2),(7,2),(8,1),(9,0),(10,1),(11,0)] [0,2,4,1,3,5,6,7,8,10] mixed ?_
  simp -implicitDefEqProofs only[bO (av:=Tm.av) aO hx (aK x),a7,aK,hbo,mE,iJ,aA,seval,AT]
  refine iE (IH x (cJ hx) _) ?_
  simp -implicitDefEqProofs only[a7,aK,cM,iJ,aA,seval,AT]
  refine fG aO bH bJ rfl rfl (gA (aK _) (cB _)) (eD _) hinv (by simp only[dA,aQ,bA];omega) (by simp only[dA,aQ,bA];omega) (fun b' hb'=>?_)
  rw[show(((ts.take i).map (fun y=>y)).map Tm.av)++ [((fun y=>y) x).av]=((ts.take (i+1)).map (fun y=>y)).map Tm.av by rw[htk];simp] at hb' ⊢
  obtain⟨g1,g2,g3⟩:=pG hb'
  simp only[fQ,eS] at g1 g3
  simp -implicitDefEqProofs only[g3,m9,eP,aG,g1,hw,aG,aA,seval,AT]
  exact⟨b',g2,aN.mk (by simp -implicitDefEqProofs only[aA,seval])⟩
 have hbo:=fA hinv
 rw[eN] at hinv hbo ⊢
 simp -implicitDefEqProofs only[aF,hge,aA,seval,AT]
 simp -implicitDefEqProofs only[hbo,aG,aA,seval,AT]
 have hS:(st.aC b2 (.cells [AV.int .i64 0,AV.int .i64 0,AV.str ⟨#[]⟩,AV.fslice [],AV.fslice []])) b2≠none:=by rw[aB.aP];simp
 have h1:=iA hinv hS oL
 rw[aB.aP] at h1
 simp -implicitDefEqProofs only[h1,eP,aA,seval]
 obtain⟨h2,h3⟩:=lB (o:=.cells [AV.int .i64 k,AV.int .i64 n,AV.str s,AV.slice (ks.map Tm.av),bM 4 b ((ts.map fun y=>y).map Tm.av)]) hinv hS oL
 refine⟨b,_,_,h2,h3,jJ _,⟨4,eD _⟩,?_,?_⟩
 · simp only[gJ,aW,aU,eT,jP,jB,jE,List.map_id']
 · exact(((aL.refl _).aC hb2).aC hn2).aC hb2
structure Ss where
 p:List Cl
 q:List Tm
 bBM:Int
 used:Int
 bBN:Int
 fin:Int
theorem BU(l:List Cl):∀e∈l.map bB,e.width=5:=by intro e h;simp only[cU] at h;obtain⟨t,_,rfl⟩:=h;exact i8 t
theorem L5(l:List Cl):∀e∈l.map bB,e.cH=false:=by intro e h;simp only[cU] at h;obtain⟨t,_,rfl⟩:=h;exact L4 t

def nJ(p:List Cl)(q:List Tm)(most fuel:Int):Bool:=sT p&&(nH q&&(decide (0≤most)&&(decide (most≤20)&&(decide (0≤fuel)&&decide (fuel≤300)))))
noncomputable def jI(p:List Cl)(cnd:Tm→List Nat→List Nat)(q:List Tm)(most fuel:Int):List (List Tm)×Int:=if nJ p q most fuel=true then AQ p cnd q most.toNat fuel.toNat else([],9)
theorem N0{p:List Cl}(h:sT p=true):p.length≤20∧∀c∈p,fL c∧c.2.length≤6:=by
 simp only[sT,cK,bL,eW] at h
 refine⟨h.1,fun c hc=>⟨aY3 (h.2 c hc),?_⟩⟩
 have:=h.2 c hc
 simp only[mG,cK,bL,eW] at this
 exact this.2.1
theorem JA{q:List Tm}(h:nH q=true):q.length≤6∧∀t∈q,bF 26 t∧t.k=3:=by
 simp only[nH,cK,bL,eW] at h
 refine⟨h.1,fun t ht=>?_⟩
 have hg:=h.2 t ht
 have hk:t.valid=true∧t.k=3:=by
  obtain⟨k,n,s,ts⟩:=t
  simp only[Tm.goal,cK] at hg
  refine⟨hg.1,?_⟩
  have:=hg.2
  simp only[zY,rN,rU,cK,bL] at this
  simp only[Tm.k]
  rcases this with (h | h) | h<;>first | exact h.1 | exact h.1.1 | exact h.1.1.1
 exact⟨⟨Tm.KE hk.1,Tm.KD hk.1⟩,hk.2⟩
end Go.AW
namespace Go.AW

theorem a68{p:List Cl}{q:List Tm}{most fuel:Int}:nJ p q most fuel=true↔(sT p=true∧nH q=true∧0≤most∧most≤20∧0≤fuel∧fuel≤300):=by
 simp only[nJ,cK,bL]
def XQ(vars:List Int)(a:List Tm):Prop:=a.length=vars.length∧a.all Tm.valid=true
theorem aUB{N:Nat}{σ:Sub}(hg:cT σ)(ho:cW (bF N) σ){vars:List Int}(hv:∀v∈vars,0≤v∧v<(N:Int)){a:List Tm}(h:kC σ vars=some a):XQ vars a:=by
 obtain⟨rk,B,G⟩:=hg.rs
 unfold kC at h
 split at h
 · rename_i hh
   cases h
   obtain⟨h1,h2⟩:=hh
   have hok:∀t∈vars.map (rs σ),bF N t:=fun t ht=>by
    obtain⟨v,hvm,rfl⟩:=cU.1 ht
    have hf:=eW.1 h1 _ ht
    unfold eQ at hf
    simp only[cK,bL] at hf
    exact⟨G.mN ho.mN v (hv v hvm).1 (hv v hvm).2,hf.2⟩
   exact⟨by rw[a6B hok,aF],by rw[aP8 hok h1,bL];exact h2⟩
 · cases h
theorem a5W{p:List Cl}(hp:∀c∈p,fL c∧c.2.length≤6)(hpl:p.length≤20){cnd:Tm→List Nat→List Nat}(hd:∀t l,(∀i∈cnd t l,i∈l)∧(cnd t l).length≤l.length){vars:List Int}(hv:∀v∈vars,0≤v∧v<26) :
 ∀(n most fuel:Nat) (s:RS) (B:Nat),most+fuel≤n→lG p B s→B+26*fuel≤8000→(kL p cnd vars most fuel s).1.length≤most∧∀a∈(kL p cnd vars most fuel s).1,XQ vars a:=by
 intro n
 induction n with
 | zero=>
  intro most fuel s B hn hs hB
  obtain rfl:most=0:=by omega
  obtain rfl:fuel=0:=by omega
  cases hg:s.goals with
  | nil=>rw[CY hg];simp
  | cons g rest=>rw[CX hg];simp
 | succ n ih=>
  intro most fuel s B hn hs hB
  cases hg:s.goals with
  | nil=>
   rw[CY hg]
   by_cases hm:most=0
   · rw[aH hm];simp
   rw[aE hm]
   cases ha:kC s.σ vars with
   | none=>simp
   | some a=>
    have hok:=aUB hs.a.gW hs.a.ok (fun v h=>⟨(hv v h).1,by have:=(hv v h).2;have:=hs.l.1;omega⟩) ha
    simp only
    cases hb:gC p s.chs.length s.chs with
    | none=>
     simp only[aQ,bA,c8,dX,eC]
     exact⟨by omega,fun x hx=>by rw[hx];exact hok⟩
    | some s'=>
     obtain⟨h1,h2⟩:=ih (most - 1) fuel s' B (by omega) (hs.back hp (by omega) hb) hB
     simp only[aQ,c8]
     refine⟨by omega,fun x hx=>?_⟩
     rcases hx with rfl | hx
     · exact hok
     · exact h2 x hx
  | cons g rest=>
   rw[CX hg]
   by_cases hf:fuel=0
   · rw[aH hf];simp
   rw[aE hf]
   cases hst:iB p cnd s g rest with
   | stop e=>simp
   | go s'=>exact ih most (fuel - 1) s' (B+26) (by omega) (hs.step hp (by omega) (by omega) hd hg hst) (by omega)
   | fail=>
    simp only
    cases hb:gC p s.chs.length s.chs with
    | none=>simp
    | some s'=>exact ih most (fuel - 1) s' B (by omega) (hs.back hp (by omega) hb) (by omega)
theorem a5U{q:List Tm}(hq:∀t∈q,bF 26 t∧t.k=3):(∀v∈cD q [],0≤v∧v<26)∧(cD q []).length≤26:=by
 have hv:∀v∈cD q [],0≤v∧v<26:=fun v hv=>by
  rcases (A3 q [] fun t ht=>(hq t ht).1.1.2.1).1 hv with h | ⟨t,ht,h⟩
  · cases h
  · exact(hq t ht).1.1.2.2 v h
 refine⟨hv,?_⟩
 have hnd:=PD q [] (fun t ht=>Tm.vP t (hq t ht).1.1.2.1) pR
 exact FG (N:=26) hnd fun n hn=>hv n hn
theorem aQW(p:List Cl){cnd:Tm→List Nat→List Nat}(hd:∀t l,(∀i∈cnd t l,i∈l)∧(cnd t l).length≤l.length)(q:List Tm)(most fuel:Int):(jI p cnd q most fuel).1.length≤20∧∀a∈(jI p cnd q most fuel).1,a.length≤26∧a.all Tm.valid=true:=by
 unfold jI
 split
 · rename_i h
   simp only[nJ,cK,bL] at h
   obtain⟨hp,hq,h1,h2,h3,h4⟩:=h
   obtain⟨p1,p2⟩:=N0 hp
   obtain⟨q1,q2⟩:=JA hq
   obtain⟨v1,v2⟩:=a5U q2
   obtain⟨r1,r2⟩:=a5W p2 p1 hd v1 _ most.toNat fuel.toNat (mQ q) 26 (dB _) (lG.start q2 q1) (by omega)
   unfold AQ
   refine⟨by omega,fun a ha=>?_⟩
   obtain⟨h5,h6⟩:=r2 a ha
   exact⟨by omega,h6⟩
 · simp
theorem a4W(t:Tm):t.dV=3*t.nodes:=by
 induction t using Tm.ind with
 | h k n s ts ih=>
  rw[Tm.I3,Tm.iI]
  have:∀l:List Tm,(∀t∈l,t.dV=3*t.nodes)→aR Tm.dV l=3*aR Tm.nodes l:=by
   intro l
   induction l with
   | nil=>intro _;rfl
   | cons x l ih2=>intro h;simp only[aR,h x (by simp),ih2 fun y hy=>h y (by simp [hy])];omega
  rw[this ts ih];omega
theorem Y4:∀ {a:List Tm},a.all Tm.valid=true→aR Tm.dV a≤360*a.length
 | [],_=>by simp [aR]
 | t::a,h=>by
  simp only[lE,cK] at h
  have h1:=Y4 h.2
  have h2:=Tm.KD h.1
  simp only[aR,a4W t,aQ]
  omega
theorem Y5:∀ {l:List (List Tm)},(∀a∈l,a.length≤26∧a.all Tm.valid=true)→aR (fun a=>aR Tm.dV a) l≤9360*l.length
 | [],_=>by simp [aR]
 | a::l,h=>by
  have h1:=Y5 (l:=l) fun x hx=>h x (by simp [hx])
  obtain⟨h2,h3⟩:=h a (by simp)
  have h4:=Y4 h3
  simp only[aR,aQ]
  omega
abbrev ba (l:List UInt8):ByteArray:=⟨⟨l⟩⟩
def dY(x:UInt8):Bool:=decide (48≤x.toNat)&&decide (x.toNat≤57)
def uW(x:UInt8):Bool:=decide (65≤x.toNat)&&decide (x.toNat≤90)
def cV(l:List UInt8)(n c:Nat):Bool:=match l[n]? with | some x=>decide (x.toNat=c) | none=>false
def gR(l:List UInt8)(n:Nat)(p:UInt8→Bool):Bool:=match l[n]? with | some x=>p x | none=>false
def oK(l:List UInt8):Nat:=l.foldl (fun n x=>n*10+(x.toNat - 48)) 0
def iW(l:List UInt8):Nat×Bool:=if l.length=0∨(cV l 0 48=true∧1<l.length) then(0,false) else(oK l,true)
def wC(l:List UInt8)(a:Nat):Option (Int×Nat):=
 let f:=if cV l a 45 then a+1 else a
 let t:=((l.drop f).takeWhile dY).take 4
 if(iW t).2=false∨(a<f∧(iW t).1=0)∨999<(iW t).1 then none else some (if a<f then -((iW t).1:Int) else((iW t).1:Int),f+t.length)
def k7(l:List UInt8)(b g:ByteArray):ByteArray:=if l.take g.size=sb g∧b.size<g.size then g else b
def pL(l:List UInt8)(a:Nat):Option (ByteArray×Nat):=
 let t:=(l.drop a).takeWhile letter
 if 6<t.length then none else if 0<t.length then some (ba t,a+t.length)
 else let b:=jR.foldl (k7 (l.drop a)) ⟨#[]⟩
  if b.size=0 then none else some (b,a+b.size)
theorem aB4{l:List UInt8}{i:Nat}{x:UInt8}(h:l[i]?=some x):oK (l.take (i+1))=oK (l.take i)*10+(x.toNat - 48):=by
 simp [oK,fS,h,List.foldl_append]
theorem aB3:∀(l:List UInt8) (n:Nat),(∀x∈l,dY x=true)→l.foldl (fun n x=>n*10+(x.toNat - 48)) n+1≤(n+1)*10 ^ l.length
 | [],n,_=>by simp
 | x::l,n,h=>by
  have hx:=h x (by simp)
  simp only[dY,cK,bL] at hx
  have:=aB3 l (n*10+(x.toNat - 48)) (fun y hy=>h y (by simp [hy]))
  simp only[BD,aQ,Nat.pow_succ]
  refine lF this ?_
  rw[Nat.mul_comm (10 ^ l.length) 10,←Nat.mul_assoc]
  exact rZ _ (by omega)
theorem SH{l:List UInt8}(h:∀x∈l,dY x=true):oK l<10 ^ l.length:=Nat.lt_of_succ_le (by have:=aB3 l 0 h;simpa [oK] using this)
theorem a6M(s:ByteArray)(a b:Nat):sb (s.extract a b)=((sb s).drop a).take (b - a):=by
 simp only[sb,ByteArray.data_extract,Array.toList_extract,List.extract_eq_take_drop]
theorem aUW{g:ByteArray}(h:g.size=0):g=⟨#[]⟩:=by
 obtain⟨⟨l⟩⟩:=g
 have:l.length=0:=h
 rw[List.length_eq_zero_iff.1 this]
theorem ZH(s:ByteArray):ba (sb s)=s:=rfl
theorem HC(s:ByteArray)(a b:Nat):s.extract a b=ba (((sb s).drop a).take (b - a)):=by rw[←a6M]
theorem pE{l:List UInt8}{n c:Nat}(h:cV l n c=true):n<l.length:=by
 unfold cV at h
 rcases kX n l.length with h1 | h1
 · exact h1
 · rw[yS h1] at h;cases h
theorem a3X{l:List UInt8}{n:Nat}{p:UInt8→Bool}(h:gR l n p=true):n<l.length:=by
 unfold gR at h
 rcases kX n l.length with h1 | h1
 · exact h1
 · rw[yS h1] at h;cases h
theorem uL{l:List UInt8}{n c:Nat}{x:UInt8}(h:l[n]?=some x):cV l n c=decide (x.toNat=c):=by simp only[cV,h]
theorem xZ{l:List UInt8}{n:Nat}{p:UInt8→Bool}{x:UInt8}(h:l[n]?=some x):gR l n p=p x:=by simp only[gR,h]
theorem aO8{l:List UInt8}(h:∀x∈l,dY x=true)(hl:l.length≤4):(iW l).1<10000:=by
 unfold iW
 split
 · simp
 · exact u9 (SH h) (lF (P9 (by omega) hl) (by decide))
theorem XD{p:UInt8→Bool}{l:List UInt8}{i:Nat}(hi:i≤(l.takeWhile p).length)(h:gR l i p=true):i<(l.takeWhile p).length:=by
 induction l generalizing i with
 | nil=>simp [gR] at h
 | cons x l ih=>
  cases i with
  | zero=>simp [gR] at h;simp [GP,h]
  | succ i=>
   rw[GP] at hi ⊢
   split at hi
   · rename_i hx
     rw[aH hx]
     simp only[aQ] at hi ⊢
     have:=ih (i:=i) (by omega) (by simpa [gR] using h)
     omega
   · simp at hi
theorem XC{p:UInt8→Bool}{l:List UInt8}{i:Nat}(hi:i≤(l.takeWhile p).length)(h:gR l i p=false):i=(l.takeWhile p).length:=by
 induction l generalizing i with
 | nil=>simp at hi;simp [hi]
 | cons x l ih=>
  cases i with
  | zero=>simp [gR] at h;simp [GP,h]
  | succ i=>
   rw[GP] at hi ⊢
   split at hi
   · rename_i hx
     rw[aH hx]
     simp only[aQ] at hi ⊢
     have:=ih (i:=i) (by omega) (by simpa [gR] using h)
     omega
   · simp at hi
theorem aSY(p:UInt8→Bool)(l:List UInt8):l.take (l.takeWhile p).length=l.takeWhile p:=by
 induction l with
 | nil=>rfl
 | cons x l ih=>
  rw[GP]
  split
  · simp [ih]
  · rfl
theorem E8(l:List UInt8)(a i:Nat)(p:UInt8→Bool):gR (l.drop a) i p=gR l (a+i) p:=by simp only[gR,P1]
theorem aSW{p:UInt8→Bool}{l:List UInt8}:∀x∈l.takeWhile p,p x=true:=by
 induction l with
 | nil=>simp
 | cons y l ih=>
  rw[GP]
  split
  · rename_i h;intro x hx;simp only[c8] at hx;rcases hx with rfl | hx;exact h;exact ih x hx
  · simp
theorem aSX{p:UInt8→Bool}{l:List UInt8}{k:Nat}(hk:k≤(l.takeWhile p).length):l.take k=(l.takeWhile p).take k:=by
 rw[←aSY p l,wS,kN hk]
theorem J9(p:UInt8→Bool)(l:List UInt8):(l.takeWhile p).length≤l.length:=(List.takeWhile_sublist p).length_le
theorem ZJ(L:List UInt8):∀(gs:List ByteArray) (b:ByteArray),b.size≤3→(∀g∈gs,g.size≤3)→(gs.foldl (k7 L) b).size≤3
 | [],b,h,_=>h
 | g::gs,b,h,hg=>by
  rw[BD]
  refine ZJ L gs _ ?_ fun x hx=>hg x (by simp [hx])
  unfold k7
  split
  · exact hg g (by simp)
  · exact h
theorem aQP:∀g∈jR,g.size≤3:=by decide
theorem aUY(L:List UInt8)(i:Nat):((jR.take i).foldl (k7 L) ⟨#[]⟩).size≤3:=ZJ L _ _ (by decide) fun g hg=>aQP g (lS hg)
def jL(nm:ByteArray):Bool:=decide (nm=⟨#[105,115]⟩)||decide (nm=⟨#[109,111,100]⟩)
def rM(l:List UInt8)(a:Nat):Option (ByteArray×Nat):=
 let f:=if cV l a 32 then a+1 else a
 if l.length≤f then none else match pL l f with
 | none=>none
 | some (nm,e)=>if dU nm=0 then none else if jL nm≠decide (a<f)∨(jL nm=true∧cV l e 32=false) then none else some (nm,if jL nm then e+1 else e)
abbrev lU:=Nat→Option (Tm×Nat)
def tA(R:lU)(l:List UInt8)(c1 c2:Nat):Nat→Nat→List Tm→Option (List Tm×Nat)
 | 0,_,_=>none
 | n+1,a,acc=>match R a with
  | none=>none
  | some (t,e)=>if(cV l e c1||cV l e c2)=true then some (acc++ [t],e) else if cV l e 44 then tA R l c1 c2 n (e+1) (acc++ [t]) else none
abbrev pH (nm:ByteArray) (ts:List Tm):Tm:=.mk 3 0 nm ts
def xE:List Tm→Tm→Tm
 | [],t=>t
 | x::xs,t=>pH ⟨#[46]⟩ [x,xE xs t]
def CJ(R:lU)(l:List UInt8)(a:Nat):Option (Tm×Nat):=
 match tA R l 93 124 (l.length+1) a [] with
 | none=>none
 | some (ts,e)=>if cV l e 93 then some (xE ts (pH ⟨#[91,93]⟩ []),e+1) else match R (e+1) with
  | none=>none
  | some (t,e')=>if cV l e' 93 then some (xE ts t,e'+1) else none
def LQ(l:List UInt8)(a:Nat):Nat:=match l[a]? with | some x=>x.toNat | none=>0
def nV(R:Nat→lU)(l:List UInt8)(d a:Nat):Option (Tm×Nat):=
 if d<1∨l.length≤a then none
 else if cV l a 40 then match R d (a+1) with
  | none=>none
  | some (t,e)=>if cV l e 41 then some (t,e+1) else none
 else if(cV l a 91&& !cV l (a+1) 93)=true then CJ (R (d - 1)) l (a+1)
 else if gR l a uW then some (vr ((LQ l a - 65:Nat):Int),a+1)
 else if(gR l a dY||(cV l a 45&&gR l (a+1) dY))=true then match wC l a with
  | none=>none
  | some (n,e)=>some (.mk 2 n ⟨#[]⟩ [],e)
 else match pL l a with
  | none=>none
  | some (nm,e)=>if cV l e 40=false then some (pH nm [],e) else match tA (R (d - 1)) l 41 41 (l.length+1) (e+1) [] with
   | none=>none
   | some (ts,e')=>some (pH nm ts,e'+1)
def FL(R:lU)(l:List UInt8)(lev:Nat):Nat→Tm→Nat→Option (Tm×Nat)
 | 0,_,_=>none
 | n+1,left,e=>match rM l e with
  | none=>some (left,e)
  | some (nm,e1)=>if dU nm≠lev then some (left,e) else match R e1 with
   | none=>none
   | some (rt,e2)=>if lev=3 then some (pH nm [left,rt],e2) else FL R l lev n (pH nm [left,rt]) e2
def rd(l:List UInt8):Nat→Nat→Nat→Nat→Option (Tm×Nat)
 | 0,_,_,_=>none
 | n+1,d,a,0=>nV (fun d a=>rd l n d a 3) l d a
 | n+1,d,a,lv+1=>match rd l n d a lv with
  | none=>none
  | some (t,e)=>FL (fun a=>rd l n d a lv) l (lv+1) (l.length+1) t e
theorem a6V{l:List UInt8}{a c:Nat}(ha:a≤l.length):a≤(if cV l a c=true then a+1 else a)∧(if cV l a c=true then a+1 else a)≤l.length:=by
 split
 · have:=pE ‹_›;omega
 · omega
theorem a52{l:List UInt8}{a:Nat}{x:Int}{e:Nat}(ha:a≤l.length)(h:wC l a=some (x,e)):a<e∧e≤l.length:=by
 unfold wC at h
 have hf:=a6V (c:=45) ha
 simp only at h
 generalize (if cV l a 45=true then a+1 else a)=f at h hf
 split at h
 · cases h
 rename_i h1
 simp only[Option.some.injEq,Prod.mk.injEq] at h
 obtain⟨_,rfl⟩:=h
 have h2:(((l.drop f).takeWhile dY).take 4).length≠0:=by
  intro h0
  refine h1 (Or.inl ?_)
  unfold iW
  rw[aH (Or.inl h0)]
 have h3:=J9 dY (l.drop f)
 rw[lR] at h3
 have h4:(((l.drop f).takeWhile dY).take 4).length≤((l.drop f).takeWhile dY).length:=by rw[dQ];omega
 omega
theorem ZK(L:List UInt8):∀(gs:List ByteArray) (b:ByteArray),b.size≤L.length→(gs.foldl (k7 L) b).size≤L.length
 | [],b,h=>h
 | g::gs,b,h=>by
  rw[BD]
  refine ZK L gs _ ?_
  unfold k7
  split
  · rename_i h1
    have:=jG List.length h1.1
    rw[dQ,cQ] at this
    omega
  · exact h
theorem JD{l:List UInt8}{a:Nat}{x:ByteArray}{e:Nat}(ha:a≤l.length)(h:pL l a=some (x,e)):a<e∧e≤l.length:=by
 unfold pL at h
 simp only at h
 have h3:=J9 letter (l.drop a)
 rw[lR] at h3
 split at h
 · cases h
 split at h
 · cases h;omega
 split at h
 · cases h
 · have:=ZK (l.drop a) jR ⟨#[]⟩ (kA _)
   rw[lR] at this
   cases h;omega
theorem aPP{l:List UInt8}{a:Nat}{x:ByteArray}{e:Nat}(h:rM l a=some (x,e)):a<e∧e≤l.length∧dU x≠0:=by
 unfold rM at h
 have h6:a≤(if cV l a 32=true then a+1 else a):=by split<;>omega
 simp only at h
 generalize (if cV l a 32=true then a+1 else a)=f at h h6
 split at h
 · cases h
 rename_i h1
 split at h
 · cases h
 rename_i nm e0 h2
 have h3:=JD (by omega) h2
 split at h
 · cases h
 rename_i h7
 split at h
 · cases h
 rename_i h4
 simp only[Option.some.injEq,Prod.mk.injEq] at h
 obtain⟨rfl,rfl⟩:=h
 split
 · rename_i h5
   have:cV l e0 32=true:=by
    cases hb:cV l e0 32 with
    | true=>rfl
    | false=>exact absurd (Or.inr ⟨h5,hb⟩) h4
   have:=pE this
   exact⟨by omega,by omega,h7⟩
 · exact⟨by omega,by omega,h7⟩
def yU(R:lU)(l:List UInt8):Prop:=∀a t e,a≤l.length→R a=some (t,e)→a<e∧e≤l.length∧Dn t
theorem O7{R:lU}{l:List UInt8}{c1 c2:Nat}(hR:yU R l):∀(n a:Nat) (acc:List Tm) (ts:List Tm) (e:Nat),a≤l.length→(∀x∈acc,Dn x)→tA R l c1 c2 n a acc=some (ts,e)→a<e∧e<l.length∧(∀x∈ts,Dn x)∧ts.length≤acc.length+n∧(cV l e c1=true∨cV l e c2=true):=by
 intro n
 induction n with
 | zero=>intro a acc ts e _ _ h;cases h
 | succ n ih=>
  intro a acc ts e ha o9 h
  unfold tA at h
  split at h
  · cases h
  rename_i t e1 h1
  obtain⟨h2,h3,h4⟩:=hR a t e1 ha h1
  have H7:∀x∈acc++ [t],Dn x:=by intro x hx;rw[fF] at hx;rcases hx with hx | hx;exact o9 x hx;rw[GM] at hx;subst hx;exact h4
  split at h
  · rename_i h5
    cases h
    rw[rU] at h5
    refine⟨h2,?_,H7,by rw[dL,P3];omega,h5⟩
    rcases h5 with h5 | h5<;>exact pE h5
  split at h
  · rename_i h5
    have h6:=pE h5
    obtain⟨g1,g2,g3,g4,g5⟩:=ih (e1+1) _ ts e (by omega) H7 h
    rw[dL,P3] at g4
    exact⟨by omega,g2,g3,by omega,g5⟩
  · cases h
theorem SK{nm:ByteArray}{ts:List Tm}(hl:ts.length≤1048576)(h:∀x∈ts,Dn x):Dn (pH nm ts):=zE (by decide) hl h
theorem SL{nm:ByteArray}{x y:Tm}(hx:Dn x)(hy:Dn y):Dn (pH nm [x,y]):=SK (by simp) (by intro z hz;simp only[c8,dX,eC] at hz;rcases hz with rfl | rfl;exact hx;exact hy)
theorem aB5{nm:ByteArray}:Dn (pH nm []):=SK (by simp) (by simp)
theorem R8{t:Tm}(ht:Dn t):∀ts:List Tm,(∀x∈ts,Dn x)→Dn (xE ts t)
 | [],_=>ht
 | x::xs,h=>SL (h x (by simp)) (R8 ht xs fun y hy=>h y (by simp [hy]))
theorem a3Y{R:lU}{l:List UInt8}(hR:yU R l)(hl:l.length≤1000){a:Nat}{t:Tm}{e:Nat}(ha:a≤l.length)(h:CJ R l a=some (t,e)):a<e∧e≤l.length∧Dn t:=by
 unfold CJ at h
 split at h
 · cases h
 rename_i ts e1 h1
 obtain⟨g1,g2,g3,g4,g5⟩:=O7 hR _ _ _ _ _ ha (by simp) h1
 split at h
 · cases h
   exact⟨by omega,by omega,R8 aB5 _ g3⟩
 split at h
 · cases h
 rename_i t2 e2 h2
 obtain⟨k1,k2,k3⟩:=hR _ _ _ (by omega) h2
 split at h
 · rename_i h5
   cases h
   have:=pE h5
   exact⟨by omega,by omega,R8 k3 _ g3⟩
 · cases h
theorem a5L{R:Nat→lU}{l:List UInt8}(hR:∀d,yU (R d) l)(hl:l.length≤1000){d a:Nat}{t:Tm}{e:Nat}(h:nV R l d a=some (t,e)):a<e∧e≤l.length∧Dn t:=by
 unfold nV at h
 split at h
 · cases h
 rename_i h0
 have ha:a<l.length:=by omega
 split at h
 · split at h
   · cases h
   rename_i t1 e1 h1
   obtain⟨k1,k2,k3⟩:=hR _ _ _ _ (by omega) h1
   split at h
   · rename_i h5
     cases h
     have:=pE h5
     exact⟨by omega,by omega,k3⟩
   · cases h
 split at h
 · obtain⟨k1,k2,k3⟩:=a3Y (hR _) hl (by omega) h
   exact⟨by omega,k2,k3⟩
 split at h
 · cases h
   exact⟨by omega,by omega,SM _⟩
 split at h
 · split at h
   · cases h
   rename_i n e1 h1
   cases h
   have:=a52 (by omega) h1
   exact⟨this.1,this.2,zE (by decide) (by simp) (by simp)⟩
 split at h
 · cases h
 rename_i nm e1 h1
 have g:=JD (by omega) h1
 split at h
 · cases h
   exact⟨g.1,g.2,aB5⟩
 split at h
 · cases h
 rename_i h6 _ ts e2 h2
 have h7:cV l e1 40=true:=by simpa using h6
 have h8:=pE h7
 obtain⟨k1,k2,k3,k4,k5⟩:=O7 (hR _) _ _ _ _ _ (by omega) (by simp) h2
 cases h
 refine⟨by omega,by omega,SK ?_ k3⟩
 rw[bA] at k4
 omega
theorem a5C{R:lU}{l:List UInt8}(hR:yU R l)(lev:Nat):∀(n:Nat) (t0:Tm) (e0:Nat) (t:Tm) (e:Nat),e0≤l.length→Dn t0→FL R l lev n t0 e0=some (t,e)→e0≤e∧e≤l.length∧Dn t:=by
 intro n
 induction n with
 | zero=>intro t0 e0 t e _ _ h;cases h
 | succ n ih=>
  intro t0 e0 t e h0 ht h
  unfold FL at h
  split at h
  · cases h;exact⟨by omega,h0,ht⟩
  rename_i nm e1 h1
  have g:=aPP h1
  split at h
  · cases h;exact⟨by omega,h0,ht⟩
  split at h
  · cases h
  rename_i rt e2 h2
  obtain⟨k1,k2,k3⟩:=hR _ _ _ g.2.1 h2
  split at h
  · cases h;exact⟨by omega,k2,SL ht k3⟩
  · obtain⟨q1,q2,q3⟩:=ih _ _ _ _ k2 (SL ht k3) h
    exact⟨by omega,q2,q3⟩
theorem CZ{l:List UInt8}(hl:l.length≤1000):∀(n d lv:Nat),yU (fun a=>rd l n d a lv) l:=by
 intro n
 induction n with
 | zero=>intro d lv a t e _ h;cases h
 | succ n ih=>
  intro d lv a t e ha h
  cases lv with
  | zero=>
   simp only[rd] at h
   exact a5L (fun d=>ih d 3) hl h
  | succ lv=>
   simp only[rd] at h
   split at h
   · cases h
   rename_i t1 e1 h1
   obtain⟨k1,k2,k3⟩:=ih d lv a t1 e1 ha h1
   obtain⟨q1,q2,q3⟩:=a5C (ih d lv) _ _ _ _ _ _ k2 k3 h
   exact⟨by omega,q2,q3⟩
def kR:Nat→Nat→ByteArray→ByteArray
 | 0,_,acc=>acc
 | f+1,n,acc=>if 9<n then kR f (n / 10) (⟨#[UInt8.ofNat (48+n % 10)]⟩++acc) else⟨#[UInt8.ofNat (48+n)]⟩++acc
def nA(n:Int):ByteArray:=if n<0 then⟨#[45]⟩++kR 20 (-n).toNat ⟨#[]⟩ else kR 20 n.toNat ⟨#[]⟩
def NN(n:Int):ByteArray:=⟨#[UInt8.ofNat (65+n.toNat)]⟩
def sR(t:Tm):Bool:=decide (t.k=3)&&(decide (t.s=⟨#[46]⟩)&&decide (t.ts.length=2))
def NP(t:Tm):Bool:=decide (t.k=3)&&(decide (t.s=⟨#[91,93]⟩)&&decide (t.ts.length=0))
def xY(t:Tm):Bool:=decide (t.k=3)&&(decide (t.ts.length=2)&&decide (0<dU t.s))
def FU(t:Tm):Bool:=decide (t.k=3)&&(decide (t.ts.length=0)&&decide (0<dU t.s))
def QV(t:Tm):Bool:=decide (t.k=3)&&decide (0<t.ts.length)
def pF(t:Tm)(i:Nat):Tm:=t.ts.getD i a8K
 where a8K:Tm:=.mk 0 0 ⟨#[]⟩ []
def lW(T:Tm→ByteArray):List Tm→ByteArray
 | []=>⟨#[]⟩
 | x::xs=>xs.foldl (fun o y=>(o++⟨#[44]⟩)++T y) (⟨#[]⟩++T x)
def spine:Nat→Tm→List Tm×Tm
 | 0,t=>([],t)
 | n+1,t=>if sR t then(pF t 0::(spine n (pF t 1)).1,(spine n (pF t 1)).2) else([],t)
def sV(nm:ByteArray):ByteArray:=if jL nm then(⟨#[32]⟩++nm)++⟨#[32]⟩ else nm
def NY(l:List UInt8):Bool:=gR l 0 letter||(gR l 0 dY||(gR l 0 uW||(cV l 0 91||cV l 0 40)))
def vK(T:Tm→ByteArray)(t:Tm)(lv:Nat):ByteArray:=if xY t&&decide (lv<dU t.s) then(⟨#[40]⟩++T t)++⟨#[41]⟩ else T t
def CK(T:Tm→ByteArray)(t:Tm)(lv:Nat):ByteArray:=if FU t then(⟨#[40]⟩++T t)++⟨#[41]⟩ else vK T t lv
def C4(T:Tm→ByteArray)(t:Tm)(lv:Nat):ByteArray:=if FU t|| !NY (sb (vK T t lv)) then(⟨#[40]⟩++vK T t lv)++⟨#[41]⟩ else vK T t lv
def IY(T:Tm→ByteArray)(p:List Tm×Tm):ByteArray:=if NP p.2 then(⟨#[91]⟩++lW T p.1)++⟨#[93]⟩ else(((⟨#[91]⟩++lW T p.1)++⟨#[124]⟩)++T p.2)++⟨#[93]⟩
def FB(t:Tm):ByteArray:=if t.k=1 then NN t.n else if t.k=2 then nA t.n else t.s
def lvl(n:Nat):Nat:=if n=3 then 2 else n
def tx:Nat→Tm→ByteArray
 | 0,_=>⟨#[]⟩
 | n+1,t=>if sR t then IY (tx n) (spine n t) else if xY t then(CK (tx n) (pF t 0) (lvl (dU t.s))++sV t.s)++C4 (tx n) (pF t 1) (dU t.s - 1)
  else if QV t then((t.s++⟨#[40]⟩)++lW (tx n) t.ts)++⟨#[41]⟩ else FB t
theorem aUL{T:Tm→ByteArray}{l:List Tm}{i:Nat}{x:Tm}(hx:l[i]?=some x):lW T (l.take (i+1))=(if 0<i then lW T (l.take i)++⟨#[44]⟩ else lW T (l.take i))++T x:=by
 rw[fS,hx]
 cases l with
 | nil=>simp at hx
 | cons y l=>
  cases i with
  | zero=>simp at hx;subst hx;rfl
  | succ i=>
   rw[aH (by omega),tK]
   simp only[lW,DS,fQ,List.foldl_append,BD,List.foldl_nil]
theorem dJ(a b:ByteArray):(a++b).size=a.size+b.size:=ByteArray.size_append
theorem zC:∀(f n:Nat) (acc:ByteArray),(kR f n acc).size≤f+acc.size
 | 0,n,acc=>by simp [kR]
 | f+1,n,acc=>by
  unfold kR
  split
  · refine lF (zC f _ _) ?_
    rw[dJ]
    show f+(1+acc.size)≤_
    omega
  · rw[dJ]
    show 1+acc.size≤_
    omega
abbrev Ws (t:Tm):Prop:=∃d,t.shape d=true
theorem Ws.own{k n:Int}{s:ByteArray}{ts:List Tm}(h:Ws (.mk k n s ts)):eU k n s ts.length=true∧∀x∈ts,Ws x:=by
 obtain⟨d,h⟩:=h
 rw[Tm.FT,cK,cK,eW] at h
 exact⟨h.1.2,fun x hx=>⟨_,h.2 x hx⟩⟩
theorem I8{k n:Int}{s:ByteArray}{len:Int}(h:eU k n s len=true):(k=1∧0≤n∧n≤25∧s=⟨#[]⟩∧len=0)∨(k=2∧-999≤n∧n≤999∧s=⟨#[]⟩∧len=0)∨(k=3∧n=0∧AB s=true∧len≤4):=by
 unfold eU at h
 by_cases h1:k=1
 · rw[g8 h1] at h
   simp only[cond_true,cK,bL] at h
   exact Or.inl ⟨h1,h.1.1.1,h.1.1.2,h.1.2,h.2⟩
 rw[gG h1] at h
 by_cases h2:k=2
 · rw[g8 h2] at h
   simp only[cond_true,BW,cK,bL] at h
   exact Or.inr (Or.inl ⟨h2,h.1.1.1,h.1.1.2,h.1.2,h.2⟩)
 rw[gG h2] at h
 by_cases h3:k=3
 · rw[g8 h3] at h
   simp only[cond_true,BW,cK,bL] at h
   exact Or.inr (Or.inr ⟨h3,h.1.1,h.1.2,h.2⟩)
 · rw[gG h3] at h
   cases h
theorem UW{s:ByteArray}(h:AB s=true):1≤s.size∧s.size≤6:=by
 unfold AB at h
 rw[rU] at h
 rcases h with h | h
 · simp only[uM,cK,bL] at h
   omega
 · rw[List.any_eq_true] at h
   obtain⟨x,hx,h⟩:=h
   rw[bL] at h
   subst h
   revert hx
   revert s
   decide
theorem Ws.size{t:Tm}(h:Ws t):t.s.size≤6∧(t.k=3→1≤t.s.size):=by
 obtain⟨k,n,s,ts⟩:=t
 rcases I8 h.own.1 with h | h | h
 · rw[show(Tm.mk k n s ts).s=s from rfl,h.2.2.2.1];exact⟨by decide,fun h3=>by have:k=3:=h3;omega⟩
 · rw[show(Tm.mk k n s ts).s=s from rfl,h.2.2.2.1];exact⟨by decide,fun h3=>by have:k=3:=h3;omega⟩
 · have:=UW h.2.2.1;exact⟨this.2,fun _=>this.1⟩
theorem sQ(t:Tm):1≤t.nodes:=by obtain⟨k,n,s,ts⟩:=t;rw[Tm.iI];omega
theorem aO0{x:Tm}{l:List Tm}(h:x∈l):x.nodes≤aR Tm.nodes l:=by
 induction l with
 | nil=>cases h
 | cons y l ih=>
  simp only[aR]
  rcases c8.1 h with rfl | h
  · omega
  · have:=ih h;omega
theorem aQ7:∀(l:List Tm) (i:Nat),aR Tm.nodes (l.take i)≤aR Tm.nodes l
 | [],i=>by simp
 | x::l,0=>by simp [aR]
 | x::l,i+1=>by simp only[tK,aR];have:=aQ7 l i;omega
theorem LI{T:Tm→ByteArray}{l:List Tm}(h:∀x∈l,(T x).size≤32*x.nodes):(lW T l).size≤32*aR Tm.nodes l+l.length:=by
 have hg:∀(xs:List Tm) (o:ByteArray),(∀x∈xs,(T x).size≤32*x.nodes)→(xs.foldl (fun o y=>(o++⟨#[44]⟩)++T y) o).size≤o.size+32*aR Tm.nodes xs+xs.length:=by
  intro xs
  induction xs with
  | nil=>intro o _;simp [aR]
  | cons x xs ih=>
   intro o hx
   refine lF (ih _ fun y hy=>hx y (by simp [hy])) ?_
   rw[dJ,dJ]
   have:=hx x (by simp)
   simp only[aR,aQ]
   show o.size+1+_+_+_≤_
   omega
 cases l with
 | nil=>exact kA _
 | cons x l=>
  refine lF (hg l _ fun y hy=>h y (by simp [hy])) ?_
  rw[dJ]
  have:=h x (by simp)
  simp only[aR,aQ]
  show 0+_+_+_≤_
  omega
theorem FN{t:Tm}(h:sR t=true):∃n x y,t=.mk 3 n ⟨#[46]⟩ [x,y]:=by
 obtain⟨k,n,s,ts⟩:=t
 simp only[sR,cK,bL] at h
 simp only[Tm.k,Tm.s,Tm.ts] at h
 obtain⟨rfl,rfl,h3⟩:=h
 match ts,h3 with
 | [x,y],_=>exact⟨n,x,y,rfl⟩
theorem FA{k n:Int}{s:ByteArray}{x y:Tm}:pF (.mk k n s [x,y]) 0=x∧pF (.mk k n s [x,y]) 1=y:=⟨rfl,rfl⟩
theorem V0:∀(n:Nat) (t:Tm),Ws t→(∀x∈(spine n t).1,Ws x)∧Ws (spine n t).2∧aR Tm.nodes (spine n t).1+(spine n t).1.length+(spine n t).2.nodes=t.nodes
 | 0,t,h=>⟨by simp [spine],h,by simp [spine,aR]⟩
 | n+1,t,h=>by
  unfold spine
  split
  · rename_i hp
    obtain⟨m,x,y,rfl⟩:=FN hp
    have hk:=h.own.2
    obtain⟨h1,h2,h3⟩:=V0 n y (hk y (by simp))
    simp only[FA]
    refine⟨fun z hz=>?_,h2,?_⟩
    · rcases c8.1 hz with rfl | hz
      · exact hk z (by simp)
      · exact h1 z hz
    · simp only[aR,aQ,Tm.iI]
      omega
  · exact⟨by simp,h,by simp [aR]⟩
theorem UM{t:Tm}(h:xY t=true):∃n s x y,t=.mk 3 n s [x,y]∧0<dU s:=by
 obtain⟨k,n,s,ts⟩:=t
 simp only[xY,cK,bL] at h
 simp only[Tm.k,Tm.s,Tm.ts] at h
 obtain⟨rfl,h2,h3⟩:=h
 match ts,h2 with
 | [x,y],_=>exact⟨n,s,x,y,rfl,h3⟩
theorem Q4{T:Tm→ByteArray}{t:Tm}(lv:Nat):(T t).size≤(vK T t lv).size∧(vK T t lv).size≤(T t).size+2:=by
 unfold vK
 split
 · rw[dJ,dJ];show _≤1+_+1∧1+_+1≤_;omega
 · omega
theorem a39{T:Tm→ByteArray}{t:Tm}(lv:Nat):(T t).size≤(CK T t lv).size∧(CK T t lv).size≤(T t).size+2:=by
 unfold CK
 split
 · rw[dJ,dJ];show _≤1+_+1∧1+_+1≤_;omega
 · exact Q4 lv
theorem a6H{T:Tm→ByteArray}{t:Tm}(lv:Nat):(T t).size≤(C4 T t lv).size∧(C4 T t lv).size≤(T t).size+4:=by
 have:=Q4 (T:=T) (t:=t) lv
 unfold C4
 split
 · rw[dJ,dJ];show _≤1+_+1∧1+_+1≤_;omega
 · omega
theorem PI:∀(n:Nat) (t:Tm),Ws t→(tx n t).size≤32*t.nodes
 | 0,t,_=>kA _
 | n+1,t,h=>by
  have hT:=PI n
  unfold tx
  split
  · rename_i hp
    obtain⟨h1,h2,h3⟩:=V0 n t h
    have ha:=LI (T:=tx n) (l:=(spine n t).1) fun x hx=>hT x (h1 x hx)
    have hb:=hT _ h2
    have hq:=sQ (spine n t).2
    have hl:1≤(spine n t).1.length∨n=0:=by
     cases n with
     | zero=>exact Or.inr rfl
     | succ m=>left;unfold spine;rw[aH hp];simp
    have h4:3≤t.nodes:=by obtain⟨m,x,y,rfl⟩:=FN hp;simp only[Tm.iI,aR];have:=sQ x;have:=sQ y;omega
    have hb2:1≤(spine n t).1.length∨((tx n (spine n t).2).size=0∧(lW (tx n) (spine n t).1).size=0):=by
     rcases hl with hl | rfl
     · left;omega
     · right;exact⟨rfl,rfl⟩
    unfold IY
    split
    · rw[dJ,dJ];show 1+_+1≤_;omega
    · rw[dJ,dJ,dJ,dJ];show 1+_+1+_+1≤_;omega
  split
  · rename_i hp
    obtain⟨m,s,x,y,rfl,hs⟩:=UM hp
    have hk:=h.own.2
    have h6:=h.size.1
    simp only[FA,Tm.iI,aR,Tm.s]
    have hx:=hT x (hk x (by simp))
    have hy:=hT y (hk y (by simp))
    have hl:=(a39 (T:=tx n) (t:=x) (lvl (dU s))).2
    have hr:=(a6H (T:=tx n) (t:=y) (dU s - 1)).2
    rw[dJ,dJ]
    have hsp:(sV s).size≤8:=by
     have h6:s.size≤6:=h6
     unfold sV
     split
     · rw[dJ,dJ];show 1+_+1≤_;omega
     · omega
    show _+(sV s).size+_≤_
    omega
  split
  · obtain⟨k,m,s,ts⟩:=t
    have ha:=LI (T:=tx n) (l:=ts) fun x hx=>hT x (h.own.2 x hx)
    have h6:s.size≤6:=h.size.1
    have h4:ts.length≤4:=by rcases I8 h.own.1 with h | h | h<;>omega
    rw[dJ,dJ,dJ,Tm.iI]
    simp only[Tm.s,Tm.ts]
    show s.size+1+_+1≤_
    omega
  · have h6:=h.size.1
    have hp:=sQ t
    unfold FB
    split
    · show 1≤_;omega
    · split
      · unfold nA
        split
        · rw[dJ];have:=zC 20 (-t.n).toNat ⟨#[]⟩;have h0:(⟨#[]⟩:ByteArray).size=0:=rfl;show 1+_≤_;omega
        · have:=zC 20 t.n.toNat ⟨#[]⟩;have h0:(⟨#[]⟩:ByteArray).size=0:=rfl;omega
      · omega
def yE:Nat→Tm→Tm
 | 0,t=>t
 | i+1,t=>yE i (pF t 1)
theorem aQX:∀(i:Nat) (t:Tm),yE (i+1) t=pF (yE i t) 1
 | 0,t=>rfl
 | i+1,t=>by rw[yE,aQX i];try rfl
theorem aQY:∀(n:Nat) (t:Tm) (i:Nat) (x:Tm),(spine n t).1[i]?=some x→sR (yE i t)=true∧pF (yE i t) 0=x
 | 0,t,i,x,h=>by simp [spine] at h
 | n+1,t,i,x,h=>by
  unfold spine at h
  split at h
  · rename_i hp
    cases i with
    | zero=>simp at h;exact⟨hp,h⟩
    | succ i=>exact aQY n _ i x (by simpa using h)
  · simp at h
theorem aQZ:∀(n:Nat) (t:Tm),t.nodes≤n+1→(spine n t).2=yE (spine n t).1.length t∧sR (spine n t).2=false
 | 0,t,h=>by
  refine⟨rfl,?_⟩
  cases hp:sR t with
  | false=>exact hp
  | true=>obtain⟨m,x,y,rfl⟩:=FN hp;simp only[Tm.iI,aR] at h;have:=sQ x;omega
 | n+1,t,h=>by
  unfold spine
  split
  · rename_i hp
    obtain⟨m,x,y,rfl⟩:=FN hp
    simp only[Tm.iI,aR] at h
    have:=sQ x
    have:=aQZ n y (by omega)
    exact⟨this.1,this.2⟩
  · rename_i hp
    exact⟨rfl,by simpa using hp⟩
theorem a8R{n:Nat}{t:Tm}(h:Ws t)(hn:1≤n):1≤(tx n t).size:=by
 obtain⟨n,rfl⟩:∃m,n=m+1:=⟨n - 1,by omega⟩
 unfold tx
 split
 · unfold IY
   split
   · rw[dJ,dJ];show 1≤1+_+1;omega
   · rw[dJ];show 1≤_+1;omega
 split
 · rename_i hp
   obtain⟨m,s,x,y,rfl,hs⟩:=UM hp
   have h6:1≤s.size:=h.size.2 rfl
   rw[dJ,dJ]
   have:1≤(sV s).size:=by
    unfold sV
    split
    · rw[dJ,dJ];omega
    · exact h6
   show 1≤_+(sV s).size+_
   omega
 split
 · rw[dJ];show 1≤_+1;omega
 · obtain⟨k,m,s,ts⟩:=t
   rw[show FB (.mk k m s ts)=if k=1 then NN m else if k=2 then nA m else s from rfl]
   rcases I8 h.own.1 with h1 | h1 | h1
   · rw[aH h1.1];exact dB _
   · rw[aE (by omega),aH h1.1]
     unfold nA
     split
     · rw[dJ];show 1≤1+_;omega
     · have hf:∀f n acc,1≤(kR (f+1) n acc).size:=by
        intro f
        induction f with
        | zero=>
         intro n acc;unfold kR;split
         · simp only[kR];rw[dJ];show 1≤1+_;omega
         · rw[dJ];show 1≤1+_;omega
        | succ f ih=>
         intro n acc;unfold kR;split
         · exact ih _ _
         · rw[dJ];show 1≤1+_;omega
       exact hf 19 _ _
   · rw[aE (by omega),aE (by omega)];exact(UW h1.2.2.1).1
theorem wO{σ:Sub}{t:Tm}(h:t.k≠1):wk σ t=t:=(gN.stop (σ:=σ) (fun hk=>absurd hk h)).wk
def sP(x:Tm):ByteArray:=if x.k=1 then⟨#[]⟩ else if x.k=2 then nA x.n else x.s++⟨#[47]⟩++kR 20 x.ts.length ⟨#[]⟩
def kJ(t:Tm):ByteArray:=if t.k=1 then⟨#[]⟩ else match t.ts with
 | []=>⟨#[]⟩
 | x::_=>sP x
def vV(a b:ByteArray):Bool:=decide (a=⟨#[]⟩)||(decide (b=⟨#[]⟩)||decide (a=b))
def q9(p:List Cl)(key:ByteArray)(i:Nat):Bool:=match p[i]? with
 | some c=>vV (kJ c.1) key
 | none=>false
def dE(p:List Cl)(t:Tm)(l:List Nat):List Nat:=l.filter (q9 p (kJ t))
theorem a35(ρ:Int→Int)(x:Tm):sP (b7 ρ x)=sP x:=by
 unfold sP
 rw[wD]
 by_cases h1:x.k=1
 · rw[aH h1,aH h1]
 · rw[aE h1,aE h1,C3 ρ h1]
   simp only[Tm.n,Tm.s,Tm.ts,aF]
theorem aOO(ρ:Int→Int)(t:Tm):kJ (b7 ρ t)=kJ t:=by
 obtain⟨k,n,s,ts⟩:=t
 unfold kJ
 rw[wD]
 by_cases h1:(Tm.mk k n s ts).k=1
 · rw[aH h1,aH h1]
 · rw[aE h1,aE h1,show b7 ρ (.mk k n s ts)=.mk k n s (ts.map (b7 ρ)) from wE ρ h1]
   simp only[Tm.ts]
   cases ts with
   | nil=>rfl
   | cons x l=>exact a35 ρ x
theorem aZB(p:List Cl)(ρ:Int→Int)(t:Tm)(l:List Nat):dE p (b7 ρ t) l=dE p t l:=by unfold dE;rw[aOO]
theorem BV(p:List Cl)(t:Tm)(l:List Nat):(∀i∈dE p t l,i∈l)∧(dE p t l).length≤l.length:=⟨fun i h=>(u7.1 h).1,KS _ _⟩
theorem a1V{x y:Tm}(h:qA x y=true):sP x=sP y:=by
 simp only[qA,cK,bL] at h
 obtain⟨⟨⟨h1,h2⟩,h3⟩,h4⟩:=h
 unfold sP
 rw[h1,h2,h3,h4]
theorem aOM{t:Tm}(h:kJ t≠⟨#[]⟩):t.k≠1∧∃x l,t.ts=x::l∧kJ t=sP x∧x.k≠1:=by
 unfold kJ at h ⊢
 by_cases h1:t.k=1
 · rw[aH h1] at h;exact absurd rfl h
 rw[aE h1] at h ⊢
 refine⟨h1,?_⟩
 cases ht:t.ts with
 | nil=>rw[ht] at h;exact absurd rfl h
 | cons x l=>
  rw[ht] at h
  refine⟨x,l,rfl,rfl,fun hx=>h ?_⟩
  simp only[sP]
  rw[aH hx]
theorem a41{N:Nat}{σ:Sub}{a b:Tm}(hg:cT σ)(ho:cW (bF N) σ)(ha:bF N a)(hb:bF N b)(h:vV (kJ b) (kJ a)=false):(iD σ a b).1=false:=by
 obtain⟨r,σ',tr,U⟩:=tC hg ho ha hb
 rw[U.eq]
 simp only[vV,Bool.or_eq_false_iff,cP] at h
 obtain⟨h1,h2,h3⟩:=h
 obtain⟨kb,y,ys,eb,eyb,ky⟩:=aOM h1
 obtain⟨ka,x,xs,ea,exa,kx⟩:=aOM h2
 obtain⟨g,hr⟩:=U.run
 have hne:qA x y=false:=by
  cases hh:qA x y with
  | false=>rfl
  | true=>exact absurd (by rw[eyb,exa,a1V hh]) h3
 cases g with
 | zero=>rw[dD] at hr;cases hr
 | succ g=>
  rcases KC hr with ⟨h4,_⟩ | ⟨h4,_⟩ | ⟨_,h4,_⟩ | ⟨_,_,_,h4⟩ | ⟨_,_,_,h4,_⟩
  · rw[wO ka] at h4;exact absurd h4 ka
  · rw[wO ka] at h4;exact absurd h4 ka
  · rw[wO kb] at h4;exact absurd h4 kb
  · rw[wO ka,wO kb,ea,eb] at h4
    rw[eE] at h4
    cases g with
    | zero=>rw[dD] at h4;cases h4
    | succ g=>
     have hf:dD (g+1) σ x y=some (false,σ,[]):=by
      rw[dD,aE (by rw[wO kx];exact fun h=>kx h.1),aE (by rw[wO kx];exact kx),aE (by rw[wO ky];exact ky),aE (by rw[wO kx,wO ky,hne];decide)]
     rw[hf] at h4
     simp only[Option.some.injEq,Prod.mk.injEq] at h4
     exact h4.1.symm
  · exact h4.symm
section
variable (p:List Cl)
def alive(c:RC):Bool:=decide (dE p c.goal c.left≠[])
def EI(cs:List RC)(k:Nat):Nat:=((cs.take k).filter (alive p)).length
def kE(cs:List RC)(g:RG):RG:=⟨g.t,EI p cs g.aV⟩
def vO(cs:List RC)(c:RC):RC:=⟨c.goal,c.rest.map (kE p cs),dE p c.goal c.left,c.σ,c.N⟩
def mH(cs:List RC):List RC:=(cs.filter (alive p)).map (vO p cs)
def kF(s:RS):RS:=⟨s.goals.map (kE p s.chs),s.σ,s.N,mH p s.chs⟩
def SE:RO→RO
 | .go s=>.go (kF p s)
 | .fail=>.fail
 | .stop e=>.stop e
abbrev u0 (cs:List RC):Prop:=∀i c,cs[i]?=some c→lQ i c.rest
variable {p}
theorem SD{cs:List RC}{k:Nat}{g:RG}(h:g.aV≤k):kE p (cs.take k) g=kE p cs g:=by
 unfold kE EI
 rw[wS,kN h]
theorem L7{cs ds:List RC}{g:RG}(h:g.aV≤cs.length):kE p (cs++ds) g=kE p cs g:=by
 have:=SD (p:=p) (cs:=cs++ds) (k:=cs.length) h
 rw[DR] at this
 exact this.symm
theorem I0{cs cs':List RC}{l:List RG}(h:∀g∈l,kE p cs g=kE p cs' g):l.map (kE p cs)=l.map (kE p cs'):=mV h
theorem u0.mem{cs:List RC}(h:u0 cs){c:RC}(hc:c∈cs):∀g∈c.rest,g.aV≤cs.length:=fun g hg=>by
 obtain⟨i,hi⟩:=BE hc
 have:=(fR.1 hi).1
 exact lF ((h i c hi).2 g hg) (by omega)
theorem u0.take{cs:List RC}(h:u0 cs)(k:Nat):u0 (cs.take k):=fun i c hi=>by
 rw[P2] at hi
 split at hi
 · exact h i c hi
 · cases hi
theorem aZA{cs:List RC}(h:u0 cs)(k:Nat):mH p (cs.take k)=(mH p cs).take (EI p cs k):=by
 unfold mH EI
 have e:cs.filter (alive p)=(cs.take k).filter (alive p)++(cs.drop k).filter (alive p):=by rw[←GI,rX]
 rw[e,oC,GQ (by rw[aF])]
 refine mV fun c hc=>?_
 have hm:=(u7.1 hc).1
 unfold vO
 rw[I0 fun g hg=>SD (lF ((h.take k).mem hm g hg) (by rw[dQ];omega))]
theorem aBX{cs:List RC}{c:RC}(h:u0 cs)(hc:lQ cs.length c.rest):mH p (cs++ [c])=mH p cs++(if alive p c=true then[vO p cs c] else[]):=by
 unfold mH
 rw[GI,oC]
 congr 1
 · refine mV fun d hd=>?_
   have hm:=(u7.1 hd).1
   unfold vO
   rw[I0 fun g hg=>L7 (h.mem hm g hg)]
 · by_cases ha:alive p c=true
   · rw[aH ha,List.filter_cons_of_pos ha,KN,aW,aU]
     unfold vO
     rw[I0 fun g hg=>L7 (hc.2 g hg)]
   · rw[aE ha,List.filter_cons_of_neg ha]
     try rfl
theorem aBY(cs:List RC):EI p cs cs.length=(mH p cs).length:=by
 unfold EI mH
 rw[eN,aF]
theorem XA(hp:∀c∈p,fL c){cs:List RC}{goal:Tm}{rest:List RG}{σ:Sub}{N:Nat}(hg:cT σ)(ho:cW (bF N) σ)(hgo:bF N goal)(hr:lQ cs.length rest)(hK:u0 cs) :
 ∀l:List Nat,(∀i∈l,i<p.length)→fK p (mH p cs) goal (rest.map (kE p cs)) σ N (dE p goal l)=(fK p cs goal rest σ N l).map (kF p)
 | [],_=>rfl
 | i::l,hl=>by
  obtain⟨x,hx⟩:∃x,p[i]?=some x:=⟨_,dZ (hl i (by simp))⟩
  have IH:=XA hp hg ho hgo hr hK l fun j hj=>hl j (by simp [hj])
  have hX:=hp x (cJ hx)
  have e1:fK p cs goal rest σ N (i::l)=if(iD σ goal (cZ N x.1)).1=true then
   some ⟨x.2.map (fun t=>⟨cZ N t,cs.length⟩)++rest,(iD σ goal (cZ N x.1)).2.1,N+nF x,if l= [] then cs else cs++ [⟨goal,rest,l,σ,N⟩]⟩
   else fK p cs goal rest σ N l:=by rw[fK];simp only[hx]
  rw[e1]
  by_cases hf:q9 p (kJ goal) i=true
  · have hci:dE p goal (i::l)=i::dE p goal l:=List.filter_cons_of_pos hf
    have e2:fK p (mH p cs) goal (rest.map (kE p cs)) σ N (i::dE p goal l)=if(iD σ goal (cZ N x.1)).1=true then
     some ⟨x.2.map (fun t=>⟨cZ N t,(mH p cs).length⟩)++rest.map (kE p cs),(iD σ goal (cZ N x.1)).2.1,N+nF x,if dE p goal l= [] then mH p cs else mH p cs++ [⟨goal,rest.map (kE p cs),dE p goal l,σ,N⟩]⟩
     else fK p (mH p cs) goal (rest.map (kE p cs)) σ N (dE p goal l):=by rw[fK];simp only[hx]
    rw[hci,e2]
    by_cases hu:(iD σ goal (cZ N x.1)).1=true
    · rw[aH hu,aH hu]
      simp only[oD,Option.some.injEq]
      by_cases hl0:l= []
      · subst hl0
        rw[show dE p goal []= [] from rfl,aH rfl,aH rfl]
        unfold kF
        simp only[oC,rW,RS.mk.injEq,d9]
        congr 1
        refine mV fun t _=>?_
        simp only[BB,kE,aBY]
      · rw[aE hl0]
        unfold kF
        simp only[oC,rW,RS.mk.injEq]
        refine⟨?_,trivial,trivial,?_⟩
        · congr 1
          · refine mV fun t _=>?_
            simp only[BB]
            rw[L7 (dB _)]
            simp only[kE,aBY]
          · exact I0 fun g hg=>(L7 (hr.2 g hg)).symm
        · rw[aBX hK hr]
          by_cases hc0:dE p goal l= []
          · rw[aH hc0,aE (by unfold alive;simp [hc0]),gI]
          · rw[aE hc0,aH (by unfold alive;simp [hc0])]
            try rfl
    · rw[aE hu,aE hu]
      exact IH
  · have hci:dE p goal (i::l)=dE p goal l:=List.filter_cons_of_neg hf
    have hk:vV (kJ x.1) (kJ goal)=false:=by
     unfold q9 at hf
     rw[hx] at hf
     simpa using hf
    have hu:(iD σ goal (cZ N x.1)).1=false:=
     a41 (N:=N+nF x) hg (ho.imp fun t ht=>ht.mono (by omega)) (hgo.mono (by omega)) (hX.cZ N x.1 (by simp)) (by rw[show kJ (cZ N x.1)=kJ x.1 from aOO _ _];exact hk)
    rw[hci,aE (by rw[hu];decide)]
    exact IH
theorem Q1(hp:∀c∈p,fL c):∀(n:Nat) (cs:List RC) (m:Nat),cs.length≤n→(mH p cs).length≤m→u0 cs→(∀c∈cs,r0 p c)→gC p m (mH p cs)=(gC p n cs).map (kF p)
 | 0,cs,m,hn,hm,_,_=>by
  obtain rfl:cs= []:=oB (by omega)
  cases m<;>rfl
 | n+1,cs,m,hn,hm,hK,hc=>by
  rcases List.eq_nil_or_concat cs with rfl | ⟨cs',c,rfl⟩
  · cases m<;>rfl
  rw[List.concat_eq_append] at *
  have hK':u0 cs':=fun i d hi=>hK i d (by rw[P0 (fR.1 hi).1];exact hi)
  have hKc:lQ cs'.length c.rest:=hK cs'.length c (by simp)
  have hok:=hc c (by simp)
  have hT:=XA hp (cs:=cs') hok.gW hok.ok hok.goal hKc hK' c.left hok.left
  have hlen:cs'.length≤n:=by simp at hn;omega
  have hc':∀d∈cs',r0 p d:=fun d hd=>hc d (by simp [hd])
  rw[aBX hK' hKc] at hm ⊢
  conv=>rhs;unfold gC
  simp only[KQ,KR,KY,GF]
  by_cases ha:alive p c=true
  · rw[aH ha] at hm ⊢
    simp only[dL,aQ,bA] at hm
    obtain⟨m,rfl⟩:∃m',m=m'+1:=⟨m - 1,by omega⟩
    conv=>lhs;unfold gC
    simp only[KQ,KR,KY,GF]
    have e:fK p (mH p cs') (vO p cs' c).goal (vO p cs' c).rest (vO p cs' c).σ (vO p cs' c).N (vO p cs' c).left=(fK p cs' c.goal c.rest c.σ c.N c.left).map (kF p):=hT
    rw[e]
    cases fK p cs' c.goal c.rest c.σ c.N c.left with
    | some s=>rfl
    | none=>exact Q1 hp n cs' m hlen (by omega) hK' hc'
  · rw[aE ha,gI] at hm ⊢
    have hc0:dE p c.goal c.left= []:=by unfold alive at ha;simpa using ha
    rw[hc0] at hT
    have hn0:fK p cs' c.goal c.rest c.σ c.N c.left=none:=by
     cases h:fK p cs' c.goal c.rest c.σ c.N c.left with
     | none=>rfl
     | some s=>rw[h] at hT;simp [fK] at hT
    rw[hn0]
    exact Q1 hp n cs' m hlen hm hK' hc'
theorem a7B(hp:∀c∈p,fL c){s:RS}{g:RG}{rest:List RG}(hgs:s.goals=g::rest){B:Nat}(hA:oE p B s)(hk:vB s) :
 iB p (dE p) (kF p s) (kE p s.chs g) (rest.map (kE p s.chs))=SE p (iB p (fun _ l=>l) s g rest):=by
 have hgm:g∈s.goals:=by rw[hgs];simp
 have hkg:=hk.goals
 rw[hgs] at hkg
 obtain⟨hk1,hk2⟩:=hkg.tail
 unfold iB
 rw[show(kE p s.chs g).t=g.t from rfl,show(kF p s).σ=s.σ from rfl,show(kF p s).N=s.N from rfl,show(kF p s).chs=mH p s.chs from rfl]
 by_cases h1:eQ (g.t.aM (rs s.σ))=false
 · rw[aH h1,aH h1];try rfl
 rw[aE h1,aE h1]
 have hok:=ET hA.gW hA.ok (hA.goals g hgm).1 (by simpa using h1)
 generalize g.t.aM (rs s.σ)=t at *
 by_cases h2:lX t=true
 · rw[aH h2,aH h2]
   unfold SE kF
   simp only[RO.go.injEq,RS.mk.injEq]
   exact⟨I0 fun x hx=>(SD (hk2.2 x hx)).symm,trivial,trivial,(aZA hk.chs g.aV).symm⟩
 rw[aE h2,aE h2]
 by_cases h3:isBuiltin t.s (t.ts.length:Int)=true
 · rw[aH h3,aH h3]
   by_cases h4:(dH s.σ t.s t.ts).1=0
   · rw[aH h4,aH h4];try rfl
   rw[aE h4,aE h4]
   by_cases h5:(dH s.σ t.s t.ts).1=1
   · rw[aH h5];try rfl
   rw[aE h5];try rfl
 rw[aE h3,aE h3]
 by_cases h6:dG p t= []
 · rw[aH h6,aH h6];try rfl
 rw[aE h6,aE h6,XA hp hA.gW hA.ok hok hk1 hk.chs (dG p t) fun i hi=>qT.1 (u7.1 hi).1]
 cases fK p s.chs t rest s.σ s.N (dG p t)<;>rfl
theorem a6K(hp:∀c∈p,fL c∧c.2.length≤6)(hpl:p.length≤20)(vars:List Int):∀(n most fuel:Nat) (s:RS) (B:Nat),most+fuel≤n→lG p B s→B+26*fuel≤8000→kL p (dE p) vars most fuel (kF p s)=kL p (fun _ l=>l) vars most fuel s:=by
 have hp':∀c∈p,fL c:=fun c hc=>(hp c hc).1
 have hd:∀(t:Tm) (l:List Nat),(∀i∈(fun _ l=>l:Tm→List Nat→List Nat) t l,i∈l)∧((fun _ l=>l:Tm→List Nat→List Nat) t l).length≤l.length:=fun _ l=>⟨fun _ h=>h,dB _⟩
 have a1G:∀(s:RS) (B:Nat),lG p B s→gC p (kF p s).chs.length (kF p s).chs=(gC p s.chs.length s.chs).map (kF p):=fun s B hs=>Q1 hp' _ s.chs _ (dB _) (dB _) hs.k.chs fun c hc=>(hs.a.chs c hc).1
 intro n
 induction n with
 | zero=>
  intro most fuel s B hn hs hB
  obtain rfl:most=0:=by omega
  obtain rfl:fuel=0:=by omega
  cases hg:s.goals with
  | nil=>rw[CY hg,CY (s:=kF p s) (by simp only[kF,hg,aU])];try rfl
  | cons g rest=>rw[CX (fuel:=0) hg,CX (s:=kF p s) (g:=kE p s.chs g) (rest:=rest.map (kE p s.chs)) (by simp only[kF,hg,aW])];try rfl
 | succ n ih=>
  intro most fuel s B hn hs hB
  have hb:=a1G s B hs
  cases hg:s.goals with
  | nil=>
   rw[CY hg,CY (s:=kF p s) (by simp only[kF,hg,aU])]
   by_cases hm:most=0
   · rw[aH hm,aH hm]
   rw[aE hm,aE hm,hb,show(kF p s).σ=s.σ from rfl]
   cases kC s.σ vars with
   | none=>rfl
   | some a=>
    cases hbk:gC p s.chs.length s.chs with
    | none=>rfl
    | some s'=>
     simp only[oD]
     rw[ih (most - 1) fuel s' B (by omega) (hs.back hp (by omega) hbk) hB]
  | cons g rest=>
   rw[CX hg,CX (s:=kF p s) (g:=kE p s.chs g) (rest:=rest.map (kE p s.chs)) (by simp only[kF,hg,aW])]
   by_cases hf:fuel=0
   · rw[aH hf,aH hf]
   rw[aE hf,aE hf,a7B hp' hg hs.a hs.k]
   cases hst:iB p (fun _ l=>l) s g rest with
   | stop e=>rfl
   | go s'=>exact ih most (fuel - 1) s' (B+26) (by omega) (hs.step hp (by omega) (by omega) hd hg hst) (by omega)
   | fail=>
    simp only[SE]
    rw[hb]
    cases hbk:gC p s.chs.length s.chs with
    | none=>rfl
    | some s'=>exact ih most (fuel - 1) s' B (by omega) (hs.back hp (by omega) hbk) (by omega)
end
theorem a3S(p:List Cl)(q:List Tm)(most fuel:Int):jI p (dE p) q most fuel=jI p (fun _ l=>l) q most fuel:=by
 unfold jI
 split
 · rename_i h
   obtain⟨hp,hq,h1,h2,h3,h4⟩:=a68.1 h
   obtain⟨p1,p2⟩:=N0 hp
   obtain⟨q1,q2⟩:=JA hq
   have:=a6K p2 p1 (cD q []) _ most.toNat fuel.toNat (mQ q) 26 (dB _) (lG.start q2 q1) (by omega)
   unfold AQ
   rw[←this]
   congr 1
   unfold kF mQ
   simp only[rW,RS.mk.injEq,rQ]
   exact⟨mV fun t _=>rfl,rfl⟩
 · rfl
end Go.AW

namespace Go.AW
open Go.Proofs.Tryz
open Go.Shelf
set_option linter.unusedSimpArgs false
set_option linter.unusedVariables false
set_option maxRecDepth 100000
def a32:Go.Shelf.Ren:=⟨fun | 171=>258 | 243=>319 | 246=>365 | 283=>383 | 284=>384 | 285=>385 | 286=>386 | 129=>400 | 317=>399 | 318=>401 | 319=>402 | 320=>403 | 337=>407 | 338=>408 | n=>n,fun | 3=>3 | 9=>9 | 2=>2 | 4=>4 | 171=>370 | 0=>0 | 53=>371 | 37=>40 | 5=>5 | 173=>374 | 212=>391 | 51=>392 | 20=>20 | 213=>393 | 46=>394 | 232=>398 | 233=>399 | n=>n,fun | 17=>1 | 18=>2 | 19=>3 | n=>n⟩
theorem a31:Go.Proofs.LaysM.n171 prog a32:={
 mixed:=by kernel_rfl
 f129:=Go.Proofs.Tryz.func400.trans (jG some (by kernel_rfl))
 f171:=Go.Proofs.Tryz.func258.trans (jG some (by kernel_rfl))
 f243:=Go.Proofs.Tryz.func319.trans (jG some (by kernel_rfl))
 f246:=Go.Proofs.Tryz.func365.trans (jG some (by kernel_rfl))
 f283:=Go.Proofs.Tryz.func383.trans (jG some (by kernel_rfl))
 f284:=Go.Proofs.Tryz.func384.trans (jG some (by kernel_rfl))
 f285:=Go.Proofs.Tryz.func385.trans (jG some (by kernel_rfl))
 f286:=Go.Proofs.Tryz.func386.trans (jG some (by kernel_rfl))
 f317:=Go.Proofs.Tryz.func399.trans (jG some (by kernel_rfl))
 f318:=Go.Proofs.Tryz.func401.trans (jG some (by kernel_rfl))
 f319:=Go.Proofs.Tryz.func402.trans (jG some (by kernel_rfl))
 f320:=Go.Proofs.Tryz.func403.trans (jG some (by kernel_rfl))
 f337:=Go.Proofs.Tryz.func407.trans (jG some (by kernel_rfl))
 f338:=Go.Proofs.Tryz.func408.trans (jG some (by kernel_rfl))
 t0:=Go.Proofs.Tryz.underlying0
 a0:=Go.Proofs.Tryz.isAgg0
 z0:=Go.Proofs.Tryz.sizeOf0
 v0:=Go.Proofs.Tryz.zeroValue0
 t2:=Go.Proofs.Tryz.underlying2
 a2:=Go.Proofs.Tryz.isAgg2
 z2:=Go.Proofs.Tryz.sizeOf2
 v2:=Go.Proofs.Tryz.zeroValue2
 t3:=Go.Proofs.Tryz.underlying3
 a3:=Go.Proofs.Tryz.isAgg3
 z3:=Go.Proofs.Tryz.sizeOf3
 v3:=Go.Proofs.Tryz.zeroValue3
 t4:=Go.Proofs.Tryz.underlying4
 a4:=Go.Proofs.Tryz.isAgg4
 z4:=Go.Proofs.Tryz.sizeOf4
 v4:=Go.Proofs.Tryz.zeroValue4
 t5:=Go.Proofs.Tryz.underlying5
 a5:=Go.Proofs.Tryz.isAgg5
 z5:=Go.Proofs.Tryz.sizeOf5
 v5:=Go.Proofs.Tryz.zeroValue5
 t9:=Go.Proofs.Tryz.underlying9
 a9:=Go.Proofs.Tryz.isAgg9
 z9:=Go.Proofs.Tryz.sizeOf9
 v9:=Go.Proofs.Tryz.zeroValue9
 t20:=Go.Proofs.Tryz.underlying20
 a20:=Go.Proofs.Tryz.isAgg20
 z20:=Go.Proofs.Tryz.sizeOf20
 v20:=Go.Proofs.Tryz.zeroValue20
 t37:=Go.Proofs.Tryz.underlying40
 a37:=Go.Proofs.Tryz.isAgg40
 z37:=Go.Proofs.Tryz.sizeOf40
 v37:=Go.Proofs.Tryz.zeroValue40
 t46:=Go.Proofs.Tryz.underlying394
 a46:=Go.Proofs.Tryz.isAgg394
 z46:=Go.Proofs.Tryz.sizeOf394
 v46:=Go.Proofs.Tryz.zeroValue394
 t51:=Go.Proofs.Tryz.underlying392
 a51:=Go.Proofs.Tryz.isAgg392
 z51:=Go.Proofs.Tryz.sizeOf392
 v51:=Go.Proofs.Tryz.zeroValue392
 t53:=Go.Proofs.Tryz.underlying371
 a53:=Go.Proofs.Tryz.isAgg371
 z53:=Go.Proofs.Tryz.sizeOf371
 v53:=Go.Proofs.Tryz.zeroValue371
 t171:=Go.Proofs.Tryz.underlying370
 a171:=Go.Proofs.Tryz.isAgg370
 z171:=Go.Proofs.Tryz.sizeOf370
 v171:=Go.Proofs.Tryz.zeroValue370
 t173:=Go.Proofs.Tryz.underlying374
 a173:=Go.Proofs.Tryz.isAgg374
 z173:=Go.Proofs.Tryz.sizeOf374
 v173:=Go.Proofs.Tryz.zeroValue374
 t212:=Go.Proofs.Tryz.underlying391
 a212:=Go.Proofs.Tryz.isAgg391
 z212:=Go.Proofs.Tryz.sizeOf391
 v212:=Go.Proofs.Tryz.zeroValue391
 t213:=Go.Proofs.Tryz.underlying393
 a213:=Go.Proofs.Tryz.isAgg393
 z213:=Go.Proofs.Tryz.sizeOf393
 t232:=Go.Proofs.Tryz.underlying398
 a232:=Go.Proofs.Tryz.isAgg398
 z232:=Go.Proofs.Tryz.sizeOf398
 v232:=Go.Proofs.Tryz.zeroValue398
 t233:=Go.Proofs.Tryz.underlying399
 a233:=Go.Proofs.Tryz.isAgg399
 z233:=Go.Proofs.Tryz.sizeOf399
 v233:=Go.Proofs.Tryz.zeroValue399
 g17:=by kernel_rfl
 g18:=by kernel_rfl
 g19:=by kernel_rfl
 i0:=by kernel_rfl
 i2:=by kernel_rfl
 i3:=by kernel_rfl
 i4:=by kernel_rfl
 i5:=by kernel_rfl
 i9:=by kernel_rfl
 i20:=by kernel_rfl
 i37:=by kernel_rfl
 i46:=by kernel_rfl
 i51:=by kernel_rfl
 i53:=by kernel_rfl
 i171:=by kernel_rfl
 i173:=by kernel_rfl
 i212:=by kernel_rfl
 i232:=by kernel_rfl
 i233:=by kernel_rfl
 m17:=by kernel_rfl
 m18:=by kernel_rfl
 m19:=by kernel_rfl }
theorem SG:∀(f u:Nat) (acc:ByteArray),u<10 ^ f→0<f→kR f u acc=⟨(Lib.decDigits u).toArray⟩++acc
 | 0,_,_,_,h=>absurd h (by decide)
 | f+1,u,acc,h,_=>by
  rw[kR,Lib.decDigits]
  rw[Nat.pow_succ] at h
  by_cases h9:9<u
  · have hf:0<f:=by
     rcases P8 f with rfl | h'
     · simp at h;omega
     · exact h'
    rw[aH h9,dif_neg (by omega),SG f (u / 10) _ (by omega) hf]
    apply ByteArray.ext
    simp [PU]
  · rw[aE h9,dif_pos (by omega)]
theorem a33{n:Int}(h1: -999≤n)(h2:n≤999):(⟨(Lib.itoa n).toArray⟩:ByteArray)=nA n:=by
 unfold Lib.itoa nA
 by_cases h:n<0
 · rw[aH h,aH h,SG 20 _ _ (by omega) (by decide),show n.natAbs=(-n).toNat by omega]
   apply ByteArray.ext
   simp [PU]
 · rw[aE h,aE h,SG 20 _ _ (by omega) (by decide)]
   apply ByteArray.ext
   simp [PU]
theorem aZF(n:Int):(nA n).size≤21:=by
 have h0:(⟨#[]⟩:ByteArray).size=0:=rfl
 unfold nA
 split
 · have:=zC 20 (-n).toNat ⟨#[]⟩
   rw[dJ]
   show 1+_≤_
   omega
 · have:=zC 20 n.toNat ⟨#[]⟩
   omega
def nU:AO:=.tab (Lib.pow10Tab.map fun z=>Value.int .u64 z).toArray
abbrev j6:Nat:=1
def VL:String:= "internal/strconv.uint64pow10"
theorem a7G{P:Program}{w:World}{g:Nat}{name:String}{k:IntKind}{zs:List Int}{st:aB}(hg:P.globalNamed name=some g)(S:cX w.heap st)(h:st g=some (.tab (zs.map fun z=>Value.int k z).toArray)):Lib.TabIs P w name k zs:=by
 obtain⟨_,t,e⟩:=S g _ h
 unfold Lib.TabIs World.var?
 rw[hg,KX,e]
theorem aO9(n:Int)(h1: -999≤n)(h2:n≤999)(st:aB)(hT:st j6=some nU):aD prog 258 [.int .i64 n] st (fun r st'=>r=.str (nA n)∧st'=st):=by
 refine⟨⟨_,func258,rfl,by kernel_rfl⟩,fun w vs S V=>?_⟩
 obtain rfl:vs= [.int .i64 n]:=by
  obtain⟨v,r,rfl,v1,v2⟩:=V
  obtain rfl:r= []:=v2
  rw[v1.kU]
 refine(Go.Proofs.Any.strconv_Itoa a31 n (by omega) (by omega) w (a7G (by kernel_rfl) S hT)).mono ?_
 rintro e w' ⟨rfl,k,os,rfl⟩
 rw[a33 h1 h2]
 have X:Ext w.heap (Sort.grow (w.drewN k) os).heap:=⟨by simp [Sort.grow],fun b hb=>by simp only[Sort.grow,World.heap_drewN];rw[Array.getElem?_append_left hb]⟩
 exact⟨_,.str (nA n),st,rfl,⟨rfl,rfl,by have:=aZF n;show _≤(9223372036854775807:Nat);omega⟩,S.ext X,X.step st,⟨rfl,rfl,rfl⟩,rfl,rfl⟩
end Go.AW

namespace Go.AW
open Go.Proofs.Tryz
def pX(s:ByteArray)(a:Int)(p:UInt8→Bool):Bool:=decide (0≤a)&&(decide (a<(s.size:Int))&&(match (sb s)[a.toNat]? with | some x=>p x | none=>false))
def AL(s:ByteArray)(a:Int)(c:Nat):Bool:=pX s a fun x=>decide (x.toNat=c)
def zD(s:ByteArray)(a:Int):Bool:=pX s a fun x=>decide (48≤x.toNat)&&decide (x.toNat≤57)
def AM(s:ByteArray)(a:Int):Bool:=pX s a letter
theorem xC{s:ByteArray}{n:Nat}(h:n<s.size):∃x,(sb s)[n]?=some x:=⟨_,dZ (by rw[cQ];exact h)⟩
abbrev aSA:=zi tI_3 (zi zI_3 (zi aZ (zi tI_4 (zi zI_4 (zi cG (zi tI_5 (zi zI_5 (zi lO (zi tI_9 (zi zI_9 cF))))))))))
theorem aWW(s:ByteArray)(a:Int)(c:Nat)(st:aB):aD prog 323 [.str s,.int .i64 a,.int .u8 (c:Int)] st (fun r st'=>r=.bool (AL s a c)∧st'=st):=by
 by_cases h:0≤a∧a<(s.size:Int)
 · obtain⟨n,rfl⟩:=tJ h.1
   obtain⟨x,hx⟩:=xC (s:=s) (n:=n) (by omega)
   have hix:=uK (P:=prog) (t:=9) cF hx
   have hv:AL s (n:Int) c=decide (x.toNat=c):=by simp only[AL,pX,jU,hx,g8 h.1,g8 h.2,fP]
   rw[hv]
   refine wF [1000000] 3 func323 ntmps323 rfl rfl ?_
   intro _
   repeat' (first
    | (simp -implicitDefEqProofs only[*,aA,seval,aSA])
    | (refine cS (fun h=>?_) (fun h=>?_))
    | (refine aS (fun h=>?_) (fun h=>?_)))
   all_goals simp_all
   omega
 · by_cases h1:0≤a
   · have h2:¬a<(s.size:Int):=fun h2=>h ⟨h1,h2⟩
     have hv:AL s a c=false:=by simp only[AL,pX,gG h2,iF,uY]
     rw[hv]
     clear hv h
     refine wF [1000000] 3 func323 ntmps323 rfl rfl ?_
     intro _
     simp -implicitDefEqProofs only[h1,h2,bX,b9,aA,seval,aSA]
   · have hv:AL s a c=false:=by simp only[AL,pX,gG h1,iF]
     rw[hv]
     clear hv h
     refine wF [1000000] 3 func323 ntmps323 rfl rfl ?_
     intro _
     simp -implicitDefEqProofs only[h1,b9,aA,seval]
abbrev aSC:=zi tI_3 (zi zI_3 (zi aZ (zi tI_4 (zi zI_4 (zi cG (zi tI_5 (zi zI_5 (zi lO (zi tI_9 (zi zI_9 cF))))))))))
theorem aWO(s:ByteArray)(a:Int)(st:aB):aD prog 374 [.str s,.int .i64 a] st (fun r st'=>r=.bool (zD s a)∧st'=st):=by
 by_cases h:0≤a∧a<(s.size:Int)
 · obtain⟨n,rfl⟩:=tJ h.1
   obtain⟨x,hx⟩:=xC (s:=s) (n:=n) (by omega)
   have hix:=uK (P:=prog) (t:=9) cF hx
   have hv:zD s (n:Int)=(decide (48≤x.toNat)&&decide (x.toNat≤57)):=by simp only[zD,pX,jU,hx,g8 h.1,g8 h.2,fP]
   rw[hv]
   refine wF [1000000] 2 func374 ntmps374 rfl rfl ?_
   intro _
   repeat' (first
    | (simp -implicitDefEqProofs only[*,aA,seval,aSC])
    | (refine cS (fun h=>?_) (fun h=>?_))
    | (refine aS (fun h=>?_) (fun h=>?_)))
   all_goals clear hix hv hx
   all_goals (congr 1;rw[wQ];simp only[cK,bL,cP,nM,jC,false_iff,not_and] at *;omega)
 · by_cases h1:0≤a
   · have h2:¬a<(s.size:Int):=fun h2=>h ⟨h1,h2⟩
     have hv:zD s a=false:=by simp only[zD,pX,gG h2,iF,uY]
     rw[hv]
     clear hv h
     refine wF [1000000] 2 func374 ntmps374 rfl rfl ?_
     intro _
     simp -implicitDefEqProofs only[h1,h2,bX,b9,aA,seval,aSC]
   · have hv:zD s a=false:=by simp only[zD,pX,gG h1,iF]
     rw[hv]
     clear hv h
     refine wF [1000000] 2 func374 ntmps374 rfl rfl ?_
     intro _
     simp -implicitDefEqProofs only[h1,b9,aA,seval]
abbrev aSB:=zi tI_3 (zi zI_3 (zi aZ (zi tI_4 (zi zI_4 (zi cG (zi tI_5 (zi zI_5 (zi lO (zi tI_9 (zi zI_9 cF))))))))))
theorem aWY(s:ByteArray)(a:Int)(st:aB):aD prog 373 [.str s,.int .i64 a] st (fun r st'=>r=.bool (AM s a)∧st'=st):=by
 by_cases h:0≤a∧a<(s.size:Int)
 · obtain⟨n,rfl⟩:=tJ h.1
   obtain⟨x,hx⟩:=xC (s:=s) (n:=n) (by omega)
   have hix:=uK (P:=prog) (t:=9) cF hx
   have hv:AM s (n:Int)=(decide (97≤x.toNat)&&decide (x.toNat≤122)):=by simp only[AM,pX,letter,jU,hx,g8 h.1,g8 h.2,fP]
   rw[hv]
   refine wF [1000000] 2 func373 ntmps373 rfl rfl ?_
   intro _
   repeat' (first
    | (simp -implicitDefEqProofs only[*,aA,seval,aSB])
    | (refine cS (fun h=>?_) (fun h=>?_))
    | (refine aS (fun h=>?_) (fun h=>?_)))
   all_goals clear hix hv hx
   all_goals (congr 1;rw[wQ];simp only[cK,bL,cP,nM,jC,false_iff,not_and] at *;omega)
 · by_cases h1:0≤a
   · have h2:¬a<(s.size:Int):=fun h2=>h ⟨h1,h2⟩
     have hv:AM s a=false:=by simp only[AM,pX,gG h2,iF,uY]
     rw[hv]
     clear hv h
     refine wF [1000000] 2 func373 ntmps373 rfl rfl ?_
     intro _
     simp -implicitDefEqProofs only[h1,h2,bX,b9,aA,seval,aSB]
   · have hv:AM s a=false:=by simp only[AM,pX,gG h1,iF]
     rw[hv]
     clear hv h
     refine wF [1000000] 2 func373 ntmps373 rfl rfl ?_
     intro _
     simp -implicitDefEqProofs only[h1,b9,aA,seval]
end Go.AW
