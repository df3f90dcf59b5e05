import Derived.Test.YthigelfjekcbmaaGreatDoorSlso
import Derived.Test.YthigelfjekcbmaaGreatDoorSlsm
import Derived.Test.YthigelfjekcbmaaGreatDoorSlsf
import Derived.Test.YthigelfjekcbmaaGreatDoorSlsg
import Derived.Test.YthigelfjekcbmaaGreatDoorSlsk
import Derived.Test.YthigelfjekcbmaaGreatDoorSlsj
import Derived.Test.YthigelfjekcbmaaGreatDoorSlsi
import Derived.Test.YthigelfjekcbmaaGreatDoorSlsl
set_option linter.unusedSimpArgs false
set_option linter.unusedVariables false
set_option maxRecDepth 100000
namespace Go.AW
open Go.Proofs.Tryz
theorem aGZ{φ:AF}{t:TypeId}{ag:Bool}{w d k:Nat}{es:List AV}(hI:eI prog t=some (ag,w))(h:φ d=.int .i64 (k:Int))(hk:k≤es.length):fE prog φ t (.slice es) none (some (.tmp d)) none=some (.slice (es.take k)):=by
 have he:φ.eval (.tmp d)=.int .i64 (k:Int):=h
 unfold fE
 rw[aG (by simp [oK])]
 simp only[mG,hI]
 rw[aG (by simp)]
 simp only[cZ,he]
 rw[aK (by omega)]
 simp
def E9(a:AV):Prop:=(∃l,a=.slice l)∨a=.fslice []
theorem E9.facts{a:AV}(h:E9 a):a.isAgg=false∧a.width=1∧a.cA=false∧a.cells= [a]∧a.storable=true∧∃l,a.soft=.slice l:=by
 rcases h with ⟨l,rfl⟩ | rfl
 · exact⟨rfl,rfl,rfl,rfl,rfl,l,rfl⟩
 · exact⟨rfl,rfl,rfl,rfl,rfl,[],rfl⟩
abbrev sJ:=zi tI_3 (zi zI_3 (zi aY (zi tI_4 (zi zI_4 (zi cG (zi tI_27 (zi zI_27 (zi d8 (zi f6 (zi f7 (zi gG (zi tI_157 (zi zI_157 (zi vE (zi CM (zi CN (zi O2 (zi tI_159 (zi zI_159 (zi CO (zi CP (zi CQ (zi B6 (zi tI_199 (zi zI_199 (zi LE (zi LF (zi LG (zi LH KN)))))))))))))))))))))))))))))
theorem RT{p:List Cl}(hp:∀c∈p,fJ c∧c.2.length≤6){B:Nat}(hB:B≤524288)(gs0:List RG)(σ0:List AV)(chs:List RC)(hl:chs.length≤B)(hc:∀c∈chs,uP p c∧c.N+26≤B∧c.rest.length+26≤B∧0<c.N)(st:aA) :
 aD prog 131 [.slice (p.map bB),.agg [.slice (gs0.map dV),.slice σ0,.slice (chs.map eP)]] st (fun r st'=>st'=st∧match eX p chs.length chs with
  | some s=>r=.tup [qV s,.bool true]
  | none=>∃l1 l2 l3,r=.tup [.agg [.slice l1,.slice l2,.slice l3],.bool false]):=by
 refine aD.m7 (aD.soft ?_)
 refine wF [1000000,3] 2 func131 ntmps131 rfl rfl ?_
 intro _
 simp -implicitDefEqProofs only[aB,seval,sJ]
 intro b3 h3 b4 h4
 have hne:b4≠b3:=by rintro rfl;rw[aA.aL] at h4;cases h4
 have MN:st b4=none:=by rw[aA.aF _ _ hne] at h4;exact h4
 rw[aA.nO _ _ _ (c9 hne)]
 generalize hW:st.aC b4 (.cells [.fslice [],.fslice [],.fslice []])=W
 have hW4:W b4=some (.cells [.fslice [],.fslice [],.fslice []]):=by rw[←hW];exact aA.aL _ _ _
 have hW3:W b3=none:=by rw[←hW,aA.aF _ _ (c9 hne)];exact h3
 have hDW:∀o o',aM ((W.aC b3 o).aC b4 o') st:=fun o o' q=>by
  by_cases q4:q=b4
  · subst q4;rw[aA.aL,MN];simp
  rw[aA.aF _ _ q4]
  by_cases q3:q=b3
  · subst q3;rw[aA.aL,h3];simp
  rw[aA.aF _ _ q3,←hW,aA.aF _ _ q4]
  simp
 have aYL:b3≠b4:=c9 hne
 refine rB (σ:=List RC×AV×AV) [1000000,3] [0,3,4] (fun s=>s.1.length≤B∧(∀c∈s.1,uP p c∧c.N+26≤B∧c.rest.length+26≤B∧0<c.N)∧E9 s.2.1∧E9 s.2.2∧eX p s.1.length s.1=eX p chs.length chs) (fun s=>[(5,.bool false)]) (fun s=>W.aC b3 (.cells [s.2.1,s.2.2,.slice (s.1.map eP)])) (fun s=>s.1.length) (by decide +kernel) ⟨(chs,.slice (gs0.map dV),.slice σ0),⟨hl,hc,.inl ⟨_,rfl⟩,.inl ⟨_,rfl⟩,rfl⟩,aR.mk (by simp -implicitDefEqProofs only[aB,seval])⟩ ?_
 rintro⟨l,a,b⟩ ⟨hl1,hlc,ha,hb,hinv⟩
 simp only at hl1 hlc ha hb hinv
 obtain⟨a1,a2,a3,a4,a5,la,a6⟩:=ha.facts
 obtain⟨b1,b2,b3',b4',b5,lb,b6⟩:=hb.facts
 simp only
 rw[aTP] at hinv
 by_cases xB:l= []
 · subst xB
   simp only[List.getLast?_nil] at hinv
   simp -implicitDefEqProofs only[aA.aL,tF,List.contains,List.elem,pW,gA,sub,↓reduceIte,reduceCtorEq,Nat.reduceEqDiff,sJ]
   refine aT (fun h=>absurd h (by decide)) (fun h=>?_)
   simp -implicitDefEqProofs only[aS,hne,aA.aL,hW4,a5,b5,aB,seval,sJ]
   rw[←hinv]
   exact⟨st,hDW _ _,rfl,la,lb,[],by simp only[mA,mP,t7,sE,bK,bL,a6,b6]⟩
 obtain⟨c,r0⟩:∃c,l.getLast?=some c:=by
  cases h:l.getLast? with
  | none=>exact absurd (List.getLast?_eq_none_iff.1 h) xB
  | some c=>exact⟨c,rfl⟩
 have hlp:=List.length_pos_iff.2 xB
 have hcm:=JZ r0
 obtain⟨aP7,hcN,hcr,hc0⟩:=hlc c hcm
 rw[r0] at hinv
 simp only at hinv
 have hat:=bG (av:=eP) (P:=prog) (l:=l) (i:=l.length - 1) (x:=c) vE (by rw[←List.getLast?_eq_getElem?];exact r0) (H3 c)
 rw[show(((l.length - 1:Nat):Int))=(l.length:Int) - 1 by omega] at hat
 have hw:=bJ (n:=(l.length:Int) - 1)
 have hdl:l.dropLast=l.take (l.length - 1):=List.dropLast_eq_take
 have aYE:l.dropLast.length+1=l.length:=by simp;omega
 have hct:=RX p hp [] [] l.dropLast c aP7 hc0 (by omega) (by omega)
 have hcs:=fun(φ:AF) (d:Nat) (h:φ d=.int .i64 ((l.length:Int) - 1))=>aGZ (es:=l.map eP) (k:=l.length - 1) vE (h.trans (by congr 1;omega)) (by simp)
 rw[←List.map_take,←hdl] at hcs
 generalize hx:gM p l.dropLast c.goal c.rest c.σ c.N c.left=x at hinv hct
 obtain⟨⟨ck,cn,cs',cts⟩,SP,SO,cσ,cN⟩:=c
 rw[NO] at hct hat
 simp only[bL] at hct
 simp -implicitDefEqProofs only[aE,aA.aL,aB,seval,sJ]
 refine aT (fun h=>?_) (fun h=>absurd hlp (by simpa using h))
 simp -implicitDefEqProofs only[aE,aA.aL,hw,hat,aB,↓aW,seval,sJ]
 cases x with
 | none=>
  have G7:∀st,aD prog 168 [.slice (p.map bB),.agg [.fslice [],.fslice [],.slice (l.dropLast.map eP)],.agg [.int .i64 ck,.int .i64 cn,.str cs',.slice (cts.map Tm.av),.slice (SP.map dV),.slice (SO.map nv),.slice (cF cN cσ)]] st (fun r st'=>r=.tup [.agg [.slice [],.slice [],.slice (l.dropLast.map eP)],.bool false]∧st'=st):=fun st=>
   aD.EC ((hct st).mono fun _ _ h=>⟨h.2,h.1⟩)
  simp only at hinv
  refine wP [(0,1),(1,1),(3,1),(2,2),(4,1),(5,1),(6,2),(7,1),(8,1),(9,1),(10,1),(11,0),(12,0),(13,1)] [0,1,3,2,4,5,6,7,8,9,10,13] mixed ?_
  simp -implicitDefEqProofs only[aA.aL,hcs,aB,seval,sJ]
  refine K6 G7 ?_
  simp -implicitDefEqProofs only[aS,aA.aL,aB,seval,sJ]
  intro b8 h8
  have h83:b8≠b3:=by rintro rfl;rw[aA.aL] at h8;cases h8
  rw[aA.aF _ _ h83] at h8
  have h84:b8≠b4:=by rintro rfl;rw[hW4] at h8;cases h8
  have hs8:st b8=none:=by rw[←hW,aA.aF _ _ h84] at h8;exact h8
  have h38:=c9 h83
  have h48:=c9 h84
  simp -implicitDefEqProofs only[aS,h38,aA.aL,hcs,aB,seval,sJ]
  refine⟨(l.dropLast,.fslice [],.fslice []),by simp only;omega,⟨by simp only;omega,fun c h=>hlc c (JU _ h),.inr rfl,.inr rfl,hinv⟩,aR.drop (fun q=>?_) (by simp -implicitDefEqProofs only[aB,seval])⟩
  by_cases q3:q=b3
  · subst q3;rw[aA.aL,aA.aL];simp
  rw[aA.aF _ _ q3,aA.aF _ _ q3]
  by_cases q8:q=b8
  · subst q8;rw[aA.aL,h8];simp
  rw[aA.aF _ _ q8,aA.aF _ _ q3]
  simp
 | some s=>
  have G7:∀st,aD prog 168 [.slice (p.map bB),.agg [.fslice [],.fslice [],.slice (l.dropLast.map eP)],.agg [.int .i64 ck,.int .i64 cn,.str cs',.slice (cts.map Tm.av),.slice (SP.map dV),.slice (SO.map nv),.slice (cF cN cσ)]] st (fun r st'=>r=.tup [qV s,.bool true]∧st'=st):=fun st=>
   aD.EC ((hct st).mono fun _ _ h=>⟨h.2,h.1⟩)
  simp only at hinv
  simp only[qV] at G7
  refine wP [(0,1),(1,1),(3,1),(2,2),(4,1),(5,1),(6,2),(7,1),(8,1),(9,1),(10,1),(11,0),(12,0),(13,1)] [0,1,3,2,4,5,6,7,8,9,10,13] mixed ?_
  simp -implicitDefEqProofs only[aA.aL,hcs,aB,seval,sJ]
  refine K6 G7 ?_
  simp -implicitDefEqProofs only[aS,aA.aL,aB,seval,sJ]
  intro b8 h8
  have h83:b8≠b3:=by rintro rfl;rw[aA.aL] at h8;cases h8
  rw[aA.aF _ _ h83] at h8
  have h84:b8≠b4:=by rintro rfl;rw[hW4] at h8;cases h8
  have hs8:st b8=none:=by rw[←hW,aA.aF _ _ h84] at h8;exact h8
  have h38:=c9 h83
  have h48:=c9 h84
  simp -implicitDefEqProofs only[hne,h48,hW4,aB,seval]
  refine⟨st,?_,rfl,?_⟩
  · have d1:aM W st:=by rw[←hW];exact(aM.refl _).aC MN
    exact((d1.aC h3).aC hs8).aC MN
  · rw[←hinv]
    simp only[mA,mP,t7,sE,bK,bL]
    rfl
theorem aUN{φ:AF}{t:TypeId}{ag:Bool}{w:Nat}{y:Operand}{e:AV}{es:List AV}(hI:eI prog t=some (ag,w))(h:φ.eval y=.int .i64 1)(hw:∀x∈es,x.width=w):fE prog φ t (.slice (e::es)) (some y) none none=some (.slice es):=by
 have hwo:sN (e::es) 1 w=true:=by
  unfold sN
  rw[JX]
  split
  · rename_i x hx
    simp [hw x (cI hx)]
  · rfl
 unfold fE
 rw[aG (by simp [oK])]
 simp only[mG,hI]
 rw[aG (by simp)]
 simp only[cZ,h]
 rw[aK (by constructor<;>simp<;>omega)]
 simp [hwo]
abbrev aYS:=zi tI_3 (zi zI_3 aY)
theorem aMR(c:Int)(st:aA):aD prog 166 [.int .i64 c] st (fun r st'=>r=.int .i64 (oA c)∧st'=st):=by
 refine aD.done ?_
 refine wF [1000000] 1 func166 ntmps166 rfl rfl ?_
 intro _
 simp -implicitDefEqProofs only[aB,seval]
 unfold oA
 refine aT (fun h=>?_) (fun h=>?_)
 · simp -implicitDefEqProofs only[aB,seval]
   have h':c=2:=by simpa using h
   exact⟨by rw[aK h'];try rfl,aM.refl _⟩
 rw[aG (show ¬c=2 by simpa using h)]
 simp -implicitDefEqProofs only[aB,seval]
 refine aT (fun h=>?_) (fun h=>?_)
 · simp -implicitDefEqProofs only[aB,seval]
   have h':c=3:=by simpa using h
   exact⟨by rw[aK h'];try rfl,aM.refl _⟩
 rw[aG (show ¬c=3 by simpa using h)]
 simp -implicitDefEqProofs only[aB,seval]
 refine aT (fun h=>?_) (fun h=>?_)
 · simp -implicitDefEqProofs only[aB,seval]
   have h':c=4:=by simpa using h
   exact⟨by rw[aK h'];try rfl,aM.refl _⟩
 rw[aG (show ¬c=4 by simpa using h)]
 simp -implicitDefEqProofs only[aB,seval]
 exact⟨rfl,aM.refl _⟩
def uQ(x:RO)(r:AV):Prop:=match x with
 | .go s=>r=.tup [qV s,.int .i64 (-1)]
 | .fail=>∃l1 l2 l3,r=.tup [.agg [.slice l1,.slice l2,.slice l3],.int .i64 (-2)]
 | .stop e=>0≤e∧∃l1 l2 l3,r=.tup [.agg [.slice l1,.slice l2,.slice l3],.int .i64 e]
abbrev lL:=zi tI_2 (zi zI_2 (zi JG (zi tI_3 (zi zI_3 (zi aY (zi tI_4 (zi zI_4 (zi cG (zi tI_9 (zi zI_9 (zi d4 (zi tI_27 (zi zI_27 (zi d8 (zi f6 (zi f7 (zi gG (zi tI_28 (zi zI_28 (zi aP (zi bE (zi bF (zi b9 (zi tI_40 (zi zI_40 (zi dS (zi fV (zi fW (zi f9 (zi tI_52 (zi zI_52 (zi bU (zi bV (zi bX (zi bY (zi bT (zi tI_156 (zi zI_156 (zi tE (zi wT (zi wV (zi ET (zi tI_157 (zi zI_157 (zi vE (zi CM (zi CN (zi O2 (zi tI_159 (zi zI_159 (zi CO (zi CP (zi CQ (zi B6 (zi tI_193 (zi zI_193 (zi aDA (zi aDB (zi QM (zi tI_199 (zi zI_199 (zi LE (zi LF (zi LG (zi LH KN)))))))))))))))))))))))))))))))))))))))))))))))))))))))))))))))))
theorem aMV{p:List Cl}(hp:∀c∈p,fJ c∧c.2.length≤6)(hpl:p.length≤1048576){B:Nat}(hB:B+26≤524288)(goals:List RG)(σ:Sub)(N:Nat)(chs:List RC)(g:RG)(rest:List RG)(hgs:goals=g::rest)(h:nR p B ⟨goals,σ,N,chs⟩)(hK:wI ⟨goals,σ,N,chs⟩)(st:aA) :
 aD prog 130 [.slice (p.map bB),.agg [.slice (goals.map dV),.slice (cF N σ),.slice (chs.map eP)]] st (fun r st'=>st'=st∧uQ (iJ p (fun _ l=>l) ⟨goals,σ,N,chs⟩ g rest) r):=by
 subst hgs
 obtain⟨hg,ho,hd,hgo,h0,hN,hgl,hcl,hch⟩:=h
 simp only at hg ho hd hgo h0 hN hgl hcl hch
 obtain⟨hgx,hg3⟩:=hgo g (by simp)
 have AC:∀x∈rest,a8 N x.t∧x.t.k=3:=fun x hx=>hgo x (by simp [hx])
 have hkp:=hK.goals.2 g (by simp)
 simp only at hkp
 have hsm:=RW hg ho g.t hgx
 have hyk:(g.t.aH (rs σ)).k=3:=by rw[Tm.pI _ (by omega)];exact hg3
 have hfo:=GT hg ho hgx
 generalize hR:iJ p (fun _ l=>l) ⟨g::rest,σ,N,chs⟩ g rest=R
 unfold iJ at hR
 dsimp only at hR
 obtain⟨⟨gk,gn,gs',gts⟩,aU⟩:=g
 simp only at hgx hg3 hkp hsm hyk hfo
 dsimp only at hR
 generalize (Tm.mk gk gn gs' gts).aH (rs σ)=y at *
 obtain⟨yk,yn,ys,yts⟩:=y
 obtain rfl:yk=3:=hyk
 have hat:dF prog 156 (.slice ((⟨.mk gk gn gs' gts,aU⟩::rest).map dV)) (.int .i64 0)=some (.pptr (dV ⟨.mk gk gn gs' gts,aU⟩)):=bG (av:=dV) (l:=⟨.mk gk gn gs' gts,aU⟩::rest) (i:=0) tE rfl (A3 _)
 have hs1:=fun(φ:AF) (y:Operand) (h:φ.eval y=.int .i64 1)=>aUN (e:=dV ⟨.mk gk gn gs' gts,aU⟩) (es:=rest.map dV) tE h (by intro e he;simp only[cE] at he;obtain⟨t,_,rfl⟩:=he;exact A3 t)
 rw[bK,D7] at hat
 rw[D7] at hs1
 rw[bK,D7]
 simp only[aX] at hsm
 refine aD.fin (aD.m7 ?_)
 refine wF [1000000] 2 func130 ntmps130 rfl rfl ?_
 intro _
 simp -implicitDefEqProofs only[bA,hat,hs1,aB,↓aW,seval,lL]
 intro b4 h4
 refine(hsm _).mono ?_
 rintro _ _ ⟨rfl,x,rfl,hx⟩
 generalize fK:dZ (.mk 3 yn ys yts)=fit at *
 have wW:∀(o:AO) (r:AV) (x:RO),uQ x (r.fin 0 [])→∃s2,aM (st.aC b4 o) s2∧∃b l s0,s2=bS s0 b l∧(l≠[]→s0 b=none)∧(∀e∈l,e.cA=false)∧iV l∧s0=st∧uQ x (r.fin b l):=fun o r x hr=>
  ⟨st,(aM.refl _).aC h4,0,[],st,rfl,by simp,by simp,⟨0,by simp⟩,rfl,hr⟩
 simp -implicitDefEqProofs only[bA,aO,Tm.dY,Tm.eG,aB,↓aW,seval,lL]
 refine aT (fun h=>?_) (fun h=>?_)
 · have h':fit=false:=by simpa using h
   subst h'
   rw[aK rfl] at hR
   subst hR
   simp -implicitDefEqProofs only[aS,bA,aB,seval,lL]
   exact wW _ _ _ ⟨by decide,_,_,_,by simp only[gR,lG,fR,iR,bK,bL];rfl⟩
 obtain rfl:fit=true:=by simpa using h
 obtain rfl:=hx rfl
 simp only[aX]
 have hyo:=hfo rfl
 rw[aG (by simp)] at hR
 have DF:∀st,aD prog 163 [.agg [.int .i64 3,.int .i64 yn,.str ys,.slice (yts.map Tm.av)]] st (fun r st'=>r=.bool (pC (.mk 3 yn ys yts))∧st'=st):=fun st=>by
  have:=RN 3 yn ys yts st
  rw[aX] at this
  exact this
 have hbi:=fun st=>K0 ys (yts.length:Int) st
 have aEO:=fun st=>aMH p (.mk 3 yn ys yts) hpl st
 have aE1:=fun hb=>aKW (N:=N) h0 (by omega) hg ho yn ys yts hb (pL N (.mk 3 yn ys yts) (by show(3:Int)≠1;decide) hyo)
 have htr:=RX p hp
 simp only[aX] at aEO aE1
 replace hR:(if pC (.mk 3 yn ys yts)=true then RO.go ⟨rest,σ,N,chs.take aU⟩ else if isBuiltin ys (yts.length:Int)=true then(if(cQ σ ys yts).1=0 then RO.go ⟨rest,(cQ σ ys yts).2.1,N,chs⟩ else if(cQ σ ys yts).1=1 then RO.fail else RO.stop (oA (cQ σ ys yts).1)) else if eO p (.mk 3 yn ys yts)= [] then RO.stop 8 else match gM p chs (.mk 3 yn ys yts) rest σ N (eO p (.mk 3 yn ys yts)) with | some s'=>RO.go s' | none=>RO.fail)=R:=hR
 generalize hcu:pC (.mk 3 yn ys yts)=cu at *
 have hs2:=fun(φ:AF) (d:Nat) (h:φ d=.int .i64 (aU:Int))=>aGZ (es:=chs.map eP) (k:=aU) vE h (by simpa using hkp)
 rw[←List.map_take] at hs2
 refine(DF _).to ?_
 simp -implicitDefEqProofs only[aB,seval]
 refine aT (fun h=>?_) (fun h=>?_)
 · rw[aK h] at hR
   subst h hR
   simp -implicitDefEqProofs only[aB,seval]
   refine wP [(0,1),(1,1),(3,1),(5,1),(2,2),(4,2),(6,2),(7,1),(8,1),(9,0),(10,1)] [0,1,3,5,2,4,6,7,8,10] mixed ?_
   simp -implicitDefEqProofs only[aS,bA,hs2,aB,seval,lL]
   exact wW _ _ _ (by simp only[gR,lG,fR,iR,bK,bL];rfl)
 rw[aG (by rw[h];simp)] at hR
 subst h
 simp -implicitDefEqProofs only[aE,aB,seval,lL]
 refine(hbi _).to ?_
 simp -implicitDefEqProofs only[aB,seval]
 refine aT (fun h=>?_) (fun h=>?_)
 · have vM:=aE1 h
   rw[aK h] at hR
   simp -implicitDefEqProofs only[aB,seval,lL]
   refine KL h0 (by omega) σ fun b hb hA0=>?_
   have hst:=aM.aC (aM.refl st) (o:=.cells [.fslice [],.fslice [],.fslice []]) h4
   generalize hW:st.aC b4 (.cells [.fslice [],.fslice [],.fslice []])=W at *
   have hW4:W b4=some (.cells [.fslice [],.fslice [],.fslice []]):=by rw[←hW];exact aA.aL _ _ _
   have hT:aM (W.aC b (.cells ((cF N σ).flatMap AV.cells))) W:=(aM.refl _).aC hb
   generalize W.aC b (.cells ((cF N σ).flatMap AV.cells))=T at *
   have hb4:b≠b4:=by rintro rfl;rw[hW4] at hb;cases hb
   simp -implicitDefEqProofs only[bA,aB,seval,lL]
   refine(vM b _ hA0).mono ?_
   rintro _ s2 ⟨rfl,hA,hk2⟩
   have aP6:=aUT σ ys yts
   generalize cQ σ ys yts=S at *
   obtain⟨c,σ',tr⟩:=S
   simp only at hA aP6 ⊢
   dsimp only at hR
   have hDs:aM s2 W:=by
    intro q
    have key:∀o,W q=some o→s2 q=some o:=fun o h=>hk2 q o ((hT q).2 o h) (by rintro rfl;rw[hb] at h;cases h)
    refine⟨fun h=>?_,key⟩
    cases hq:W q with
    | none=>rfl
    | some o=>rw[key o hq] at h;cases h
   have MM:=(hDs b4).2 _ hW4
   have aRI:st b=none:=by rw[←hW,aA.aF _ _ hb4] at hb;exact hb
   have aDQ:∀(o:AO) (r:AV) (x:RO),uQ x (r.fin 0 [])→∃s3,aM (s2.aC b4 o) s3∧∃b l s0,s3=bS s0 b l∧(l≠[]→s0 b=none)∧(∀e∈l,e.cA=false)∧iV l∧s0=st∧uQ x (r.fin b l):=fun o r x hr=>
    ⟨st,(hDs.trans hst).aC h4,0,[],st,rfl,by simp,by simp,⟨0,by simp⟩,rfl,hr⟩
   simp -implicitDefEqProofs only[aB,seval]
   refine aT (fun h=>?_) (fun h=>?_)
   · have hc0:c=0:=by simpa using h
     subst hc0
     rw[aK rfl] at hR
     subst hR
     simp -implicitDefEqProofs only[aS,bA,MM,aB,seval,lL]
     have mJ:cF N σ'≠[]:=by intro e;have:=rL N σ';rw[e] at this;simp at this;omega
     refine⟨st.aC b (.cells ((cF N σ').flatMap AV.cells)),fun q=>?_,b,cF N σ',st,by rw[jR mJ],fun _=>aRI,B3 _ _,⟨4,y7 _ _⟩,rfl,?_⟩
     · by_cases q4:q=b4
       · subst q4;rw[aA.aL,aA.aF _ _ (c9 hb4),h4];simp
       rw[aA.aF _ _ q4]
       by_cases qb:q=b
       · subst qb;rw[aA.aL,show s2 q=_ from hA];simp
       rw[aA.aF _ _ qb]
       exact(hDs.trans hst) q
     · simp only[gR,lG,fR,iR,bK,bL,GR h0]
       rfl
   have hc0:c≠0:=by simpa using h
   rw[aG hc0] at hR
   simp -implicitDefEqProofs only[aB,seval]
   refine aT (fun h=>?_) (fun h=>?_)
   · have hc1:c=1:=by simpa using h
     subst hc1
     rw[aK rfl] at hR
     subst hR
     simp -implicitDefEqProofs only[aS,bA,MM,aB,seval,lL]
     exact aDQ _ _ _ ⟨_,_,_,by simp only[gR,lG,fR,iR,bK,bL];rfl⟩
   have hc1:c≠1:=by simpa using h
   rw[aG hc1] at hR
   subst hR
   have rY:0≤oA c:=by unfold oA;split;omega;split;omega;split;omega;omega
   simp -implicitDefEqProofs only[aB,seval]
   refine wP [(1,1),(0,2),(2,2),(3,0),(4,1)] [1,0,2,4] mixed ?_
   simp -implicitDefEqProofs only[bA,aB,seval,lL]
   refine jB (aMR c _) ?_
   simp -implicitDefEqProofs only[aS,bA,MM,aB,seval,lL]
   exact aDQ _ _ _ ⟨rY,_,_,_,by simp only[gR,lG,fR,iR,bK,bL];rfl⟩
 rw[aG (by rw[h];simp)] at hR
 simp -implicitDefEqProofs only[bA,aB,seval,lL]
 refine(aEO _).to ?_
 have hcx:uP p ⟨.mk 3 yn ys yts,rest,eO p (.mk 3 yn ys yts),σ,N⟩:=⟨hg,ho,hd,hyo,AC,fun i hi=>by
  unfold eO at hi
  exact uM.1 (List.mem_filter.1 hi).1,by simp only;simp only[bA] at hgl;omega,by
  have:=GW p (.mk 3 yn ys yts) p.length
  rw[←GV] at this
  simp only;omega⟩
 have AD:=fun st=>htr (⟨.mk gk gn gs' gts,aU⟩::rest) (cF N σ) chs _ hcx h0 (by simp only;omega) (by omega) st
 rw[bK,D7,NO] at AD
 simp only at AD
 generalize eO p (.mk 3 yn ys yts)=left at *
 simp -implicitDefEqProofs only[aE,aB,seval,lL]
 refine aT (fun h=>?_) (fun h=>?_)
 · have h':left= []:=by
    have:(left.length:Int)=0:=by simpa using h
    exact pY (by omega)
   rw[aK h'] at hR
   subst hR
   simp -implicitDefEqProofs only[aS,bA,aB,seval,lL]
   exact wW _ _ _ ⟨by decide,_,_,_,by simp only[gR,lG,fR,iR,bK,bL];rfl⟩
 have h':left≠[]:=by
  rintro rfl
  simp at h
 rw[aG h'] at hR
 generalize gM p chs (.mk 3 yn ys yts) rest σ N left=x at *
 simp -implicitDefEqProofs only[bA,aB,seval,lL]
 cases x with
 | none=>
  simp only at hR AD
  subst hR
  refine(AD _).mono ?_
  rintro _ _ ⟨rfl,rfl⟩
  simp -implicitDefEqProofs only[aS,bA,aB,↓aW,seval,lL]
  exact wW _ _ _ ⟨_,_,_,by simp only[gR,lG,fR,iR,bK,bL];rfl⟩
 | some s=>
  simp only[qV] at hR AD
  subst hR
  refine(AD _).mono ?_
  rintro _ _ ⟨rfl,rfl⟩
  simp -implicitDefEqProofs only[aS,bA,aB,↓aW,seval,lL]
  exact wW _ _ _ (by simp only[gR,lG,fR,iR,bK,bL];rfl)
theorem aUH{N:Int}{t:Tm}(h:cB N t):cU 0 t=t:=by
 have h1:cU 0 t=t.aH vr:=by
  unfold cU bH
  congr 1
  funext v
  congr 1
  simp
 rw[h1,MU t h.2.1]
theorem QK(N:Nat):cF N Sub.none=List.replicate N zt:=by
 apply E6
 intro i
 by_cases h:i<N
 · rw[wQ N _ h,List.getElem?_replicate,aK h];try rfl
 · rw[BI (by rw[rL];omega),BI (by simp;omega)]
abbrev OL:=zi tI_3 (zi zI_3 (zi aY (zi tI_28 (zi zI_28 (zi aP (zi bE (zi bF (zi b9 (zi tI_156 (zi zI_156 (zi tE (zi wT (zi wV (zi ET (zi tI_159 (zi zI_159 (zi CO (zi CP (zi CQ B6)))))))))))))))))))
theorem aMU(q:List Tm)(hq:∀t∈q,a8 26 t)(h6:q.length≤6)(st:aA):aD prog 128 [.slice (q.map Tm.av)] st (fun r st'=>r=qV (kG q)∧st'=st):=by
 have hgo:∀st,aD prog 158 [.slice (q.map Tm.av),.int .i64 0,.int .i64 0,.fslice []] st (fun r st'=>r=.slice ((kG q).goals.map dV)∧st'=st):=fun st=>
  aD.EC ((RV q 0 0 [] hq h6 (by omega) (by simp) st).mono fun _ _ h=>⟨by
   rw[h.1]
   unfold kG
   rw[fN]
   congr 2
   exact oW fun t ht=>by rw[aUH (hq t ht).1],h.2⟩)
 refine aD.rQ (aD.fin (aD.m7 ?_))
 refine wF [1000000,3] 1 func128 ntmps128 rfl rfl ?_
 intro _
 simp -implicitDefEqProofs only[aB,seval,OL]
 intro b2 h2
 simp -implicitDefEqProofs only[rH,aS,tF,↓GF,↓E5,List.contains,List.elem,v8,nP,oT,↓reduceIte,reduceCtorEq,Nat.reduceEqDiff,Nat.reduceAdd,Nat.reduceLT,Nat.reduceBEq,OL]
 refine⟨by omega,by omega,by omega,fun bb hbb=>?_⟩
 rw[show Int.toNat 26=26 from rfl,HP _ (by simp)]
 have hb2:bb≠b2:=by rintro rfl;rw[aA.aL] at hbb;cases hbb
 have G6:(List.replicate 26 [AV.int .i64 0,.int .i64 0,.str ⟨#[]⟩,.fslice []]).flatten=(cF 26 Sub.none).flatMap AV.cells:=by
  rw[QK];try rfl
 rw[G6]
 have h22:(st.aC b2 (AO.cells [AV.fslice [],AV.fslice [],AV.fslice []])) b2=some (AO.cells [AV.fslice [],AV.fslice [],AV.fslice []]):=aA.aL _ _ _
 have hD2:aM (st.aC b2 (AO.cells [AV.fslice [],AV.fslice [],AV.fslice []])) st:=(aM.refl _).aC h2
 intro b3 h3
 have h3b:b3≠bb:=by rintro rfl;rw[aA.aL] at h3;cases h3
 rw[aA.aF _ _ h3b] at h3
 have h32:b3≠b2:=by rintro rfl;rw[aA.aL] at h3;cases h3
 have hs3:st b3=none:=by rw[aA.aF _ _ h32] at h3;exact h3
 have hsb:st bb=none:=by rw[aA.aF _ _ hb2] at hbb;exact hbb
 refine(hgo _).to ?_
 have e1:=c9 h3b
 have e2:=c9 h32
 have e3:=c9 hb2
 simp -implicitDefEqProofs only[aS,e2,e3,aA.aL,aB,seval,OL]
 have mJ:cF 26 Sub.none≠[]:=by rw[QK];simp
 refine⟨st.aC bb (.cells ((cF 26 Sub.none).flatMap AV.cells)),fun q'=>?_,bb,cF 26 Sub.none,st,by rw[jR mJ],fun _=>hsb,B3 _ _,⟨4,y7 _ _⟩,?_,aM.refl _⟩
 · by_cases q2:q'=b2
   · subst q2;rw[aA.aL,aA.aF _ _ e3,h2];simp
   rw[aA.aF _ _ q2]
   by_cases q3:q'=b3
   · subst q3;rw[aA.aL,aA.aF _ _ h3b,hs3];simp
   simp only[aA.aF _ _ q3]
   by_cases qb:q'=bb
   · subst qb;rw[aA.aL,aA.aL];simp
   rw[aA.aF _ _ qb,aA.aF _ _ qb,aA.aF _ _ q2]
   simp
 · simp only[gR,iR,rW,bK,bL,GR (show 0<26 by omega)]
   rfl
theorem KG{S:aA}{b c:Nat}{l:List AV}{o:AO}(h:l≠[]→b≠c):(bS S b l).aC c o=bS (S.aC c o) b l:=by
 cases l with
 | nil=>rfl
 | cons x l=>rw[jR (by simp),jR (by simp),aA.nO _ _ _ (h (by simp))]
theorem tY{p:List Cl}{cnd:Tm→List Nat→List Nat}{vars:List Int}{most fuel:Nat}{s:RS}(hg:s.goals= []):gL p cnd vars most fuel s=if most=0 then([],1) else match g7 s.σ vars with
 | none=>([],3)
 | some a=>match eX p s.chs.length s.chs with
  | none=>([a],0)
  | some s'=>(a::(gL p cnd vars (most - 1) fuel s').1,(gL p cnd vars (most - 1) fuel s').2):=by
 rw[gL.eq_def,hg]
 simp only
 split<;>rfl
theorem sD{p:List Cl}{cnd:Tm→List Nat→List Nat}{vars:List Int}{most fuel:Nat}{s:RS}{g:RG}{rest:List RG}(hg:s.goals=g::rest):gL p cnd vars most fuel s=if fuel=0 then([],2) else match iJ p cnd s g rest with
 | .stop e=>([],e)
 | .go s'=>gL p cnd vars most (fuel - 1) s'
 | .fail=>match eX p s.chs.length s.chs with
  | none=>([],0)
  | some s'=>gL p cnd vars most (fuel - 1) s':=by
 rw[gL.eq_def,hg]
 simp only
 split<;>rfl
structure PN (p:List Cl) (vars:List Int) (most fuel:Nat) (T:List (List Tm)×Int) (s:RS) (out:List (List Tm)) (f B:Nat):Prop where
 tot:T=(out++(gL p (fun _ l=>l) vars (most - out.length) f s).1,(gL p (fun _ l=>l) vars (most - out.length) f s).2)
 len:out.length≤most
 ok:kJ p B s
 bd:B+26*f≤8000
abbrev kS:=zi tI_2 (zi zI_2 (zi JG (zi tI_3 (zi zI_3 (zi aY (zi tI_4 (zi zI_4 (zi cG (zi tI_27 (zi zI_27 (zi d8 (zi f6 (zi f7 (zi gG (zi tI_28 (zi zI_28 (zi aP (zi bE (zi bF (zi b9 (zi tI_31 (zi zI_31 (zi gE (zi kN (zi kO (zi mB (zi tI_40 (zi zI_40 (zi dS (zi fV (zi fW (zi f9 (zi tI_55 (zi zI_55 (zi vK (zi uY (zi tI_156 (zi zI_156 (zi tE (zi wT (zi wV (zi ET (zi tI_159 (zi zI_159 (zi CO (zi CP (zi CQ B6)))))))))))))))))))))))))))))))))))))))))))))))
theorem aMT{p:List Cl}(hp:∀c∈p,fJ c∧c.2.length≤6)(hpl:p.length≤20){q:List Tm}(hq:∀t∈q,a8 26 t∧t.k=3)(h6:q.length≤6){most fuel:Nat}(hm:most≤20)(hf:fuel≤300)(st:aA) :
 aD prog 80 [.slice (p.map bB),.slice (q.map Tm.av),.int .i64 (most:Int),.int .i64 (fuel:Int)] st (fun r st'=>r=.tup [.slice ((sF p (fun _ l=>l) q most fuel).1.map bP),.int .i64 (sF p (fun _ l=>l) q most fuel).2]∧st'=st):=by
 have hnd:aJ Tm.nodes q≤1099511627776:=by
  have:=AM q fun t ht=>(hq t ht).1.2
  omega
 have hva:=fun st=>RY q st (fun t ht=>Tm.rO t (hq t ht).1.1.2.1) hnd
 have DM:=fun st=>aMU q (fun t ht=>(hq t ht).1) h6 st
 have hv:∀v∈bO q [],0≤v∧v<26:=fun v hv=>by
  rcases (v4 q [] fun t ht=>(hq t ht).1.1.2.1).1 hv with h | ⟨t,ht,h⟩
  · cases h
  · exact(hq t ht).1.1.2.2 v h
 have hvl:(bO q []).length≤1000:=by
  have h1:=v3 q []
  have h2:=AM q fun t ht=>(hq t ht).1.2
  simp only[bQ] at h1
  omega
 have HG:=kJ.start (p:=p) hq h6
 generalize hT:sF p (fun _ l=>l) q most fuel=T
 unfold sF at hT
 generalize bO q []=vars at *
 have hI0:PN p vars most fuel T (kG q) [] fuel 26:=⟨by rw[←hT];try rfl,mV _,HG,by omega⟩
 generalize kG q=s0 at *
 simp only[qV] at DM
 refine aD.rQ (aD.fin (aD.m7 ?_))
 refine wF [1000000,12] 4 func80 ntmps80 rfl rfl ?_
 intro _
 simp -implicitDefEqProofs only[aB,seval,kS]
 refine(hva _).to ?_
 simp -implicitDefEqProofs only[aB,seval]
 refine(DM _).to ?_
 simp -implicitDefEqProofs only[aS,aB,↓aW,seval,kS]
 intro b12 h12
 refine rB (σ:=RS×List (List Tm)×Nat×Nat×Nat) [1000000,12] [0,2,11,12] (fun x=>PN p vars most fuel T x.1 x.2.1 x.2.2.1 x.2.2.2.1∧(x.2.1.map bP≠[]→(st.aC b12 (.cells [.slice (x.1.goals.map dV),.slice (cF x.1.N x.1.σ),.slice (x.1.chs.map eP)])) x.2.2.2.2=none))
  (fun x=>[(3,.int .i64 (x.2.2.1:Int)),(8,.fslice []),(9,.int .i64 0),(10,bR 1 x.2.2.2.2 (x.2.1.map bP))])
  (fun x=>bS (st.aC b12 (.cells [.slice (x.1.goals.map dV),.slice (cF x.1.N x.1.σ),.slice (x.1.chs.map eP)])) x.2.2.2.2 (x.2.1.map bP))
  (fun x=>(most - x.2.1.length)+x.2.2.1) (by decide +kernel) ⟨(s0,[],fuel,26,0),⟨hI0,by simp⟩,aR.mk (by simp -implicitDefEqProofs only[kZ,bL,aB,seval])⟩ ?_
 rintro⟨s,out,f,B,b⟩ ⟨⟨tot,hlen,hok,hbd⟩,hb⟩
 simp only at tot hlen hok hbd hb
 simp only
 have hbc:out.map bP≠[]→b≠b12:=fun h=>by rintro rfl;have:=hb h;rw[aA.aL] at this;cases this
 have oD:=yY hb (aA.aL st b12 (.cells [.slice (s.goals.map dV),.slice (cF s.N s.σ),.slice (s.chs.map eP)]))
 have hlo:(out.map bP).length=out.length:=aE _
 have aQP:∀l:List (List Tm),∀e∈l.map bP,e.cA=false:=fun l e he=>by simp only[cE] at he;obtain⟨t,_,rfl⟩:=he;rfl
 have HH:∀l:List (List Tm),∀e∈l.map bP,e.width=1:=fun l e he=>by simp only[cE] at he;obtain⟨t,_,rfl⟩:=he;rfl
 have fin:∀(S:aA) (b:Nat) (l:List (List Tm)) (e:Int),(l.map bP≠[]→S b=none)→aM S st→T=(l,e)→∃s2,aM (bS S b (l.map bP)) s2∧∃b' l' s0,s2=bS s0 b' l'∧(l'≠[]→s0 b'=none)∧(∀e∈l',e.cA=false)∧iV l'∧(AV.tup [bR 1 b (l.map bP),.int .i64 e]).fin b' l'=.tup [.slice (T.1.map bP),.int .i64 T.2]∧aM s0 st:=fun S b l e h1 h2 h3=>
  ⟨_,aM.refl _,b,l.map bP,S,rfl,h1,aQP l,⟨1,HH l⟩,by subst h3;simp only[lG,fR,pE,bK,bL],h2⟩
 have hSD:∀o,aM (st.aC b12 o) st:=fun o=>(aM.refl _).aC h12
 generalize hX:(AO.cells [.slice (s.goals.map dV),.slice (cF s.N s.σ),.slice (s.chs.map eP)])=X at oD hb
 have oD:=oD.trans (tA some hX.symm)
 have hun:prog.underlying 31=some (.slice 55):=by kernel_rfl
 have r7:=BZ (w:=1) (b:=b) (l:=out.map bP) hun
 rw[hlo] at r7
 cases hgs:s.goals with
 | nil=>
  rw[hgs] at hX oD
  simp only[bL] at hX oD
  rw[tY hgs] at tot
  simp -implicitDefEqProofs only[bQ,r7,oD,aB,seval,kS]
  refine aT (fun h=>?_) (fun h=>?_)
  · have h':out.length=most:=by simp at h;omega
    rw[aK (by omega)] at tot
    simp -implicitDefEqProofs only[rI,aB,seval]
    exact fin _ b out 1 hb (hSD _) (by rw[tot,fN])
  have h':out.length<most:=by simp at h;omega
  rw[aG (by omega)] at tot
  simp -implicitDefEqProofs only[oD,aB,seval,kS]
  refine(aMQ (N:=s.N) hok.a.fO hok.a.ok vars (fun v h=>⟨(hv v h).1,by have:=(hv v h).2;have:=hok.l.1;omega⟩) hvl _).mono ?_
  rintro _ _ ⟨rfl,a,rfl,ha⟩
  cases oE:g7 s.σ vars with
  | none=>
   rw[oE] at tot
   simp only[Option.isSome_none,bP]
   simp -implicitDefEqProofs only[bQ,bA,rI,aB,↓aW,seval,kS]
   exact fin _ b out 3 hb (hSD _) (by rw[tot,fN])
  | some x=>
   obtain rfl:=ha x oE
   rw[oE] at tot
   simp only[Option.isSome_some,bP] at tot ⊢
   simp -implicitDefEqProofs only[bQ,bA,aB,↓aW,seval,kS]
   refine gJ (P:=prog) (b:=b) (l:=out.map bP) (xs:=[bP a]) gE kN kO rfl rfl (gS rfl rfl) (HH out) hb (by simp only[bA,bQ,hlo];omega) (by simp only[bA,bQ,hlo];omega) (fun b' hb'=>?_)
   rw[show(out.map bP)++ [bP a]=(out++ [a]).map bP by simp] at hb' ⊢
   have aD6:=(yY hb' (aA.aL st b12 X)).trans (tA some hX.symm)
   simp -implicitDefEqProofs only[bQ,bA,aD6,aB,seval,kS]
   have G5:(f:Int)=(f:Int):=rfl
   refine(RT hp (B:=B) (by omega) [] (cF s.N s.σ) s.chs hok.a.nZ hok.a.chs _).mono ?_
   rintro r _ ⟨rfl,hr⟩
   cases hbk:eX p s.chs.length s.chs with
   | none=>
    rw[hbk] at hr tot
    simp only at hr tot
    obtain⟨l1,l2,l3,rfl⟩:=hr
    simp -implicitDefEqProofs only[bQ,bA,rI,aB,↓aW,seval,kS]
    exact fin _ b' (out++ [a]) 0 hb' (hSD _) (by rw[tot];try rw[fN])
   | some s'=>
    rw[hbk] at hr tot
    simp only[qV] at hr tot
    subst hr
    simp -implicitDefEqProofs only[aS,bQ,bA,aD6,aB,↓aW,seval,kS]
    rw[KG (fun h=>by rintro rfl;have:=hb' h;rw[aA.aL] at this;cases this),eH]
    have hne:(out++ [a]).map bP≠[]→b'≠b12:=fun h=>by rintro rfl;have:=hb' h;rw[aA.aL] at this;cases this
    refine⟨(s',out++ [a],f,B,b'),by simp only[eC,bA,bQ];omega,⟨⟨by rw[tot];try simp only[kW,gB,eR,eC,bA,bQ,Nat.sub_sub];try rfl,by simp only[eC,bA,bQ];omega,hok.back hp (by omega) hbk,by simp only;omega⟩,fun h=>by rw[aA.aF _ _ (hne h)];have:=hb' h;rwa [aA.aF _ _ (hne h)] at this⟩,aR.mk (by simp -implicitDefEqProofs only[aB,seval])⟩
 | cons g rest=>
  rw[hgs] at hX oD
  rw[sD hgs] at tot
  simp -implicitDefEqProofs only[aE,bA,oD,aB,seval,kS]
  refine aT (fun h=>absurd h (by simp;omega)) (fun h=>?_)
  simp -implicitDefEqProofs only[aB,seval]
  refine aT (fun h=>?_) (fun h=>?_)
  · have h':f=0:=by simp at h;omega
    rw[aK h'] at tot
    simp -implicitDefEqProofs only[rI,aB,seval]
    exact fin _ b out 2 hb (hSD _) (by rw[tot,fN])
  have h':f≠0:=by simp at h;omega
  rw[aG h'] at tot
  have hw:=bJ (n:=(f:Int) - 1)
  simp -implicitDefEqProofs only[hw,bQ,bA,oD,aB,seval,kS]
  have hst:=aMV hp (by omega) (B:=B) (by omega) s.goals s.σ s.N s.chs g rest hgs hok.a hok.k
  rw[hgs,bK] at hst
  refine(hst _).mono ?_
  rintro r _ ⟨rfl,hr⟩
  have hse:(⟨g::rest,s.σ,s.N,s.chs⟩:RS)=s:=by rw[←hgs]
  rw[hse] at hr
  cases qQ:iJ p (fun _ l=>l) s g rest with
  | go s'=>
   rw[qQ] at hr tot
   simp only[uQ,qV] at hr tot
   subst hr
   simp -implicitDefEqProofs only[bQ,bA,tF,↓GF,List.contains,List.elem,xZ,↓reduceIte,Nat.reduceEqDiff,Nat.reduceAdd,Nat.reduceBEq,kS]
   refine aT (fun h=>absurd h (by decide)) (fun h=>?_)
   simp -implicitDefEqProofs only[aS,bQ,bA,oD,aB,seval,kS]
   rw[KG hbc,eH]
   have G5:((f - 1:Nat):Int)=(f:Int) - 1:=by omega
   refine⟨(s',out,f - 1,B+26,b),by simp only;omega,⟨⟨tot,hlen,hok.step hp (by omega) (by omega) (cnd:=fun _ l=>l) (fun _ _=>⟨fun _ h=>h,cT _⟩) hgs qQ,by simp only;omega⟩,fun h=>by rw[aA.aF _ _ (hbc h)];have:=hb h;rwa [aA.aF _ _ (hbc h)] at this⟩,aR.mk (by simp -implicitDefEqProofs only[G5,aB,seval])⟩
  | fail=>
   rw[qQ] at hr tot
   simp only[uQ] at hr tot
   obtain⟨l1,l2,l3,rfl⟩:=hr
   simp -implicitDefEqProofs only[bQ,bA,tF,↓GF,List.contains,List.elem,xZ,↓reduceIte,Nat.reduceEqDiff,Nat.reduceAdd,Nat.reduceBEq,kS]
   refine aT (fun h=>absurd h (by decide)) (fun h=>?_)
   simp -implicitDefEqProofs only[bQ,bA,oD,aB,seval,kS]
   have G5:((f - 1:Nat):Int)=(f:Int) - 1:=by omega
   refine(RT hp (B:=B) (by omega) (g::rest) (cF s.N s.σ) s.chs hok.a.nZ hok.a.chs _).mono ?_
   rintro r _ ⟨rfl,hr⟩
   cases hbk:eX p s.chs.length s.chs with
   | none=>
    rw[hbk] at hr tot
    simp only at hr tot
    obtain⟨l1,l2,l3,rfl⟩:=hr
    simp -implicitDefEqProofs only[bQ,bA,rI,aB,↓aW,seval,kS]
    exact fin _ b (out) 0 hb (hSD _) (by rw[tot];try rw[fN])
   | some s'=>
    rw[hbk] at hr tot
    simp only[qV] at hr tot
    subst hr
    simp -implicitDefEqProofs only[aS,bQ,bA,oD,aB,↓aW,seval,kS]
    rw[KG (fun h=>by rintro rfl;have:=hb h;rw[aA.aL] at this;cases this),eH]
    have hne:(out).map bP≠[]→b≠b12:=fun h=>by rintro rfl;have:=hb h;rw[aA.aL] at this;cases this
    refine⟨(s',out,f - 1,B,b),by simp only[];omega,⟨⟨by rw[tot];try simp only[kW,gB,eR,eC,bA,bQ,Nat.sub_sub];try rfl,by simp only[];omega,hok.back hp (by omega) hbk,by simp only;omega⟩,fun h=>by rw[aA.aF _ _ (hne h)];have:=hb h;rwa [aA.aF _ _ (hne h)] at this⟩,aR.mk (by simp -implicitDefEqProofs only[G5,aB,seval])⟩
  | stop e=>
   rw[qQ] at hr tot
   simp only[uQ] at hr tot
   obtain⟨he0,l1,l2,l3,rfl⟩:=hr
   simp -implicitDefEqProofs only[bQ,bA,aB,↓aW,seval,kS]
   refine aT (fun h=>?_) (fun h=>absurd he0 (by simpa using h))
   simp -implicitDefEqProofs only[rI,aB,seval]
   exact fin _ b out e hb (hSD _) (by rw[tot,fN])
end Go.AW
namespace Go.AW
def lU(st:aA)(xs:List AV)(r:AV)(st':aA):Prop:=∃(os:List AV) (bs:List Nat),r=.tup os∧bs.Nodup∧(∀b∈bs,st b=none)∧a7 st' xs os bs∧∀b,b∉bs→st' b=st b
theorem a7.aIY{h:a9}{st s0:aA}(S:cH h st)(D:aM st s0):∀(xs os:List AV) (bs:List Nat) (vs:List Value),a7 st xs os bs→(∀b∈bs,s0 b=none)→dB h st os vs→dB h s0 xs vs
 | [],os,bs,vs,x,_,y=>by simp only[a7] at x;rw[x.1] at y;exact y
 | a::xs,os,bs,vs,x,hb,y=>by
  simp only[a7] at x
  obtain⟨o,os',b1,b2,rfl,rfl,x1,x2⟩:=x
  simp only[dB] at y ⊢
  obtain⟨v,r,e,⟨y0,y1⟩,y2⟩:=y
  exact⟨v,r,e,⟨x1.shape.1.symm.trans y0,aQ.view S D a o b1 _ x1 (fun q hq=>hb q (by simp [hq])) y1⟩,a7.aIY S D xs os' b2 r x2 (fun q hq=>hb q (by simp [hq])) y2⟩
theorem aD.aSQ{P:Program}{g:FuncId}{args:List AV}{st:aA}{xs:List AV}(x:aD P g args st (lU st xs)):aD P g args st (fun r st'=>r=.tup xs∧st'=st):=
 x.lQ fun r st' ⟨os,bs,hr,_,h2,h3,h4⟩=>by
  have D:aM st' st:=fun b=>⟨fun e=>by
   by_cases hb:b∈bs
   · exact h2 b hb
   · rw[←h4 b hb];exact e,fun o e=>by
   by_cases hb:b∈bs
   · rw[h2 b hb] at e;cases e
   · rw[h4 b hb];exact e⟩
  refine⟨.tup xs,st,D.uF,fun h v S y=>?_,rfl,rfl⟩
  subst hr
  obtain⟨y0,y1⟩:=y
  refine⟨y0,?_⟩
  unfold VC at y1 ⊢
  obtain⟨vs,e,y2⟩:=y1
  exact⟨vs,e,a7.aIY S D xs os bs vs h3 h2 y2⟩
def sP(b1 b2:List Nat):Prop:=∀b∈b1,b∉b2
theorem sP.symm{b1 b2:List Nat}(h:sP b1 b2):sP b2 b1:=fun b h2 h1=>h b h1 h2
theorem aQ.aG2{s:aA}{a o:AV}{bs:List Nat}(h:aQ s a o bs):∀b∈bs,s b≠none:=fun b hb=>by
 obtain⟨cs,e,_⟩:=(aQ.eY _ _ _ h).2.2 b hb
 rw[e];simp
theorem aQ.apart{s:aA}{a o:AV}{bs bs':List Nat}(h:aQ s a o bs)(hf:∀b∈bs',s b=none):sP bs bs':=fun b hb hb'=>h.aG2 b hb (hf b hb')
theorem aQ.beside{s s':aA}{a o:AV}{bs bs':List Nat}(h:aQ s a o bs)(k:∀b,b∉bs'→s' b=s b)(d:sP bs bs'):aQ s' a o bs:=aQ.aU _ _ _ (fun b hb=>k b (d b hb)) h
theorem aQ.kE{st:aA}{es:List AV}{q:AV}{bs:List Nat}(h:aQ st (.slice es) q bs):q.cells= [q]∧q.storable=true∧q.isAgg=false∧q.width=1∧q.cA=false:=by
 simp only[aQ] at h
 rcases h with ⟨_,rfl,_⟩ | ⟨_,_,_,_,rfl,_⟩<;>exact⟨rfl,rfl,rfl,rfl,rfl⟩
theorem aQ.fits{s:aA}{a o:AV}{bs:List Nat}{w:Nat}(h:aQ s a o bs)(hw:a.width=w)(hs:a.cells.all AV.storable=true):o.width=w∧o.cells.length=w∧o.cells.all AV.storable=true∧o.cA=false∧o.isAgg=a.isAgg:=by
 obtain⟨h1,h2,h3⟩:=h.K7 hw hs
 exact⟨h1,h2,h3,h.shape.2.2.1,h.shape.1⟩
theorem M9{s:aA}{x o:AV}{bs:List Nat}:aQ s (.agg [x]) o bs↔∃q,o=.agg [q]∧aQ s x q bs:=by
 simp only[aQ,a7]
 constructor
 · rintro⟨os,rfl,o1,os1,b1,b2,rfl,rfl,h,rfl,rfl⟩
   exact⟨o1,rfl,by simpa using h⟩
 · rintro⟨q,rfl,h⟩
   exact⟨_,rfl,q,[],bs,[],rfl,by simp,h,rfl,rfl⟩
theorem HY{s:aA}{x y:AV}{os:List AV}{bs:List Nat}:a7 s [x,y] os bs↔∃o1 o2 b1 b2,os= [o1,o2]∧bs=b1++b2∧aQ s x o1 b1∧aQ s y o2 b2:=by
 simp only[a7]
 constructor
 · rintro⟨o1,os1,b1,b1',rfl,rfl,h1,o2,os2,b2,b2',rfl,rfl,h2,rfl,rfl⟩
   exact⟨o1,o2,b1,b2,rfl,by simp,h1,h2⟩
 · rintro⟨o1,o2,b1,b2,rfl,rfl,h1,h2⟩
   exact⟨o1,[o2],b1,b2,rfl,rfl,h1,o2,[],b2,[],rfl,by simp,h2,rfl,rfl⟩
end Go.AW
namespace Go.AW
open Go.Proofs.Tryz
abbrev CK (c:Cl):Prop:=c.1.small=true∧c.2.length≤1048576∧∀x∈c.2,x.small=true
abbrev OF:=zi tI_3 (zi zI_3 (zi aY (zi tI_27 (zi zI_27 (zi d8 (zi f6 (zi f7 (zi gG (zi tI_111 (zi zI_111 (zi jT (zi jU jS))))))))))))
theorem aS7(l:List Cl)(st:aA)(hb:l.length≤1048576)(hc:∀x∈l,∀(st:aA),aD prog 136 [bB x] st (Made st (bB x))) :
 aD prog 96 [.slice (l.map bB)] st (Made st (.slice (l.map bB))):=by
 have hws:∀e∈l.map bB,e.width=5:=fun e he=>by simp only[cE] at he;obtain⟨t,_,rfl⟩:=he;exact fQ t
 refine wF [] 1 func96 ntmps96 rfl rfl ?_
 intro _
 simp -implicitDefEqProofs only[aE,aB,seval,OF]
 refine dQ (σ:=List AV×List Nat×Nat×aA) [] [2,6,7] l (fun i p=>pX (l.map bB) st i p.1 p.2.1 p.2.2.1 p.2.2.2) (fun i p=>[(3,bR 5 p.2.2.1 p.1),(8,.int .i64 i)]) (fun _ p=>p.2.2.2) (by decide +kernel)
  ⟨([],[],0,st),pX.start,aR.mk (by simp -implicitDefEqProofs only[kZ,aB,↓aW,seval])⟩ (fun i x p hx hlt bD hdr hinv=>?_) (fun p hge hinv=>?_)
 case refine_2=>
  obtain⟨os,bs,b,s⟩:=p
  simp -implicitDefEqProofs only[hge,aB,seval]
  exact hinv.done (aE _) hws
 obtain⟨os,bs,b,s⟩:=p
 simp only at hinv
 have hw:=bJ (n:=(i:Int)+1)
 have r8:∀zs:List AV,zs.length=5→aS zs 0 (bB x).cells=(bB x).cells:=fun zs h=>vT (K9 x) h
 simp -implicitDefEqProofs only[bD,bG (av:=bB) d8 hx (fQ x),pA,fQ,K9,F1,eH,r8,aB,seval,OF]
 intro b2 hb2
 try simp -implicitDefEqProofs only[oP (K9 x),nX (pA x),seval]
 refine(hc x (cI hx) _).mono ?_
 rintro r s2 ⟨bx,m1,m2,m3,m4⟩
 obtain⟨f1,f2,f3⟩:=m3.K7 (fQ x) (F1 x)
 have hra:r.isAgg=true:=by rw[(aQ.shape m3).1,pA]
 have hrj:r.cA=false:=(aQ.shape m3).2.2.1
 simp -implicitDefEqProofs only[f1,hra,hrj,aB,seval,OF]
 have hlen:os.length=i:=hinv.1
 have ML:∀e∈os,e.width=5:=fun e he=>by
  obtain⟨k,hk,rfl⟩:=List.getElem_of_mem he
  exact hinv.2.1.PB (fun q hq=>hws q (mS hq)) _ he
 have hkb:os≠[]→s2 b=some (.cells (os.flatMap AV.cells)):=fun hne=>by
  have h:=(hinv.2.2.2.2.1 hne).2.2
  have hbx:b∉bx:=fun hq=>by
   have:=m2 b hq
   have tO:b≠b2:=fun e=>by rw[e,hb2] at h;cases h
   rw[aA.aF _ _ tO,h] at this;cases this
  have tO:b≠b2:=fun e=>by rw[e,hb2] at h;cases h
  rw[m4 b hbx,aA.aF _ _ tO,h]
 refine P8 d8 f6 f7 rfl rfl (gS f1 f3) ML hkb (by simp only[bA,bQ,hlen];omega) (by simp only[bA,bQ,hlen];omega) (fun b' s' k1 k2 k3 k4=>?_)
 have qQ:=hinv.step hb2 (show(l.map bB)[i]?=some (bB x) by rw[lS,hx];try rfl) m1 m2 m3 m4 (k1 (by simp)) (k2 (by simp)) (fun q h1 h2=>k3 q (fun _=>h1) h2) k4
 simp -implicitDefEqProofs only[hw,aB,seval]
 exact⟨(os++ [r],bs++bx,b',s'.erase b2),qQ,aR.drop (iQ _ _) (by simp -implicitDefEqProofs only[aB,seval])⟩
abbrev OE:=zi tI_28 (zi zI_28 (zi aP (zi bE (zi bF (zi b9 (zi tI_52 (zi zI_52 (zi bU (zi bV (zi bX (zi bY (zi bT (zi tI_111 (zi zI_111 (zi jT (zi jU jS))))))))))))))))
theorem aS6(c:Cl)(st:aA)(hsm:CK c):aD prog 136 [bB c] st (Made st (bB c)):=by
 obtain⟨⟨k,n,s,ts⟩,bd⟩:=c
 obtain⟨h1,h2,h3⟩:=hsm
 have hg:=fun st=>DY (.mk k n s ts) st h1
 have hc:=fun st=>HS bd st h2 fun x hx st=>DY x st (h3 x hx)
 simp only[aX] at hg
 simp only[k9]
 refine aD.AH ?_
 refine wF [1000000] 1 func136 ntmps136 rfl rfl ?_
 intro _
 simp -implicitDefEqProofs only[aB,seval,OE]
 intro b hb1
 refine wX [(0,1),(1,1),(3,1),(4,1),(2,0),(5,0),(6,1),(7,2)] [0,1,3,4,6] c8 mixed rfl fC ?_
 simp -implicitDefEqProofs only[aB,seval,OE]
 refine(hg _).mono ?_
 rintro q0 s2 ⟨bs,m1,m2,m3,m4⟩
 rw[←aX] at m3
 obtain⟨q,rfl,m3'⟩:=AZ.1 m3
 have hbb:b∉bs:=fun h=>by have:=m2 b h;simp [dN] at this
 have e1:=m4 b hbb
 rw[aA.aL] at e1
 obtain⟨hqc,hqs,hqa,hqw,hqj⟩:=aQ.kE m3'
 simp -implicitDefEqProofs only[aB,seval]
 refine⟨fC,?_⟩
 refine(hc _).mono ?_
 rintro r s3 ⟨cs,n1,n2,n3,n4⟩
 have hcb:b∉cs:=fun h=>by have:=n2 b h;rw[e1] at this;cases this
 have f1:=n4 b hcb
 rw[e1] at f1
 obtain⟨hrc,hrs,hra,hrw,hrj⟩:=aQ.kE n3
 simp -implicitDefEqProofs only[aS,f1,hqs,hrc,hrs,hrj,aB,seval,OE]
 have tP:=(aQ.eY _ _ _ m3').2.2
 have jV:∀x∈bs,x∉cs:=fun x hx hx'=>by
  obtain⟨u,e,_⟩:=tP x hx
  have:=n2 x hx'
  rw[e] at this;cases this
 have hcs:∀x∈cs,x≠b:=fun x hx e=>hcb (e▸hx)
 have hbs:∀x∈bs,x≠b:=fun x hx e=>hbb (e▸hx)
 refine⟨fC,[b],bs++cs,jO.2 ⟨m1,n1,fun x hx y hy e=>jV x hx (e▸hy)⟩,fun x hx=>?_,?_,?_,?_⟩
 · rcases dR.1 hx with hx | hx
   · have:=m2 x hx
     rwa [aA.aF _ _ (hbs x hx)] at this
   · have:=n2 x hx
     rw[m4 x (fun h=>jV x h hx),aA.aF _ _ (hcs x hx)] at this
     exact this
 · simp [hb1,hbb,hcb]
 · rw[←k9]
   refine HZ.2 ⟨q,bs,r,cs,rfl,rfl,aQ.aU _ _ _ (fun x hx=>?_) m3',aQ.aU _ _ _ (fun x hx=>?_) n3⟩
   · rw[aA.aF _ _ (hbs x hx),n4 x (jV x hx)]
   · rw[aA.aF _ _ (hcs x hx)]
 · intro x hx hd
   simp only[cO,dD,dI] at hd
   simp only[dR,jL] at hx
   rw[aA.aF _ _ hd,n4 x hx.2,m4 x hx.1,aA.aF _ _ hd]
def nJ(S:aA)(c b w:Nat)(hd tl:List AV)(l:List AV):aA:=bS (S.aC c (.cells (hd++bR w b l::tl))) b l
section
variable {S:aA} {c b w:Nat} {hd tl l:List AV}
theorem DT(hb:l≠[]→(S.aC c (.cells (hd++bR w b l::tl))) b=none):nJ S c b w hd tl l c=some (.cells (hd++bR w b l::tl)):=by
 unfold nJ
 by_cases h:l= []
 · rw[h,BY,aA.aL]
 · have h0:=hb h
   have hne:c≠b:=fun e=>by rw[←e,aA.aL] at h0;cases h0
   rw[nV hne,aA.aL]
theorem aFQ{b':Nat}{l':List AV}(hb:l'≠[]→(S.aC c (.cells (hd++bR w b l::tl))) b'=none) :
 (bS (S.aC c (.cells (hd++bR w b l::tl))) b' l').aC c (.cells (hd++bR w b' l'::tl))=nJ S c b' w hd tl l'∧(l'≠[]→(S.aC c (.cells (hd++bR w b' l'::tl))) b'=none)∧bS (S.aC c (.cells (hd++bR w b l::tl))) b' l' c=some (.cells (hd++bR w b l::tl)):=by
 have hne:l'≠[]→c≠b':=fun h e=>by have:=hb h;rw[←e,aA.aL] at this;cases this
 refine⟨?_,fun h=>?_,?_⟩
 · rw[sY hne,eH];try rfl
 · have:=hb h
   rw[aA.aF _ _ (c9 (hne h))] at this ⊢
   exact this
 · by_cases h:l'= []
   · rw[h,BY,aA.aL]
   · rw[nV (hne h),aA.aL]
theorem aS0{x:Nat}(hb:l≠[]→(S.aC c (.cells (hd++bR w b l::tl))) b=none)(hx:S x≠none)(hxc:x≠c):nJ S c b w hd tl l x=S x:=by
 unfold nJ
 by_cases h:l= []
 · rw[h,BY,aA.aF _ _ hxc]
 · have h0:=hb h
   have hne:x≠b:=fun e=>by rw[←e,aA.aF _ _ hxc] at h0;exact hx h0
   rw[nV hne,aA.aF _ _ hxc]
theorem PQ{h:a9}{st:aA}{a a':AV}(hv:∀v,VC h st a [v]→VC h st a' [v]):∀(hd:List AV) {tl:List AV} {vs:List Value},aV h st (hd++a::tl) vs→aV h st (hd++a'::tl) vs
 | [],tl,vs,x=>by
  simp only[eR,aV] at x ⊢
  obtain⟨c,r,e,x1,x2⟩:=x
  exact⟨c,r,e,hv c x1,x2⟩
 | y::hd,tl,vs,x=>by
  simp only[gB,aV] at x ⊢
  obtain⟨c,r,e,x1,x2⟩:=x
  exact⟨c,r,e,x1,PQ hv hd x2⟩
theorem fD.aUR{φ:AF}{st:aA}{c:Nat}{hd tl:List AV}{a:AV}(hc:st c=some (.cells (hd++a::tl))):fD φ st φ (st.aC c (.cells (hd++a.soft::tl))):=fun h tmps S F=>by
 have T:bZ h st h (st.aC c (.cells (hd++a.soft::tl))):=bZ.of fun x hx=>by
  have:x≠c:=by rintro rfl;rw[hc] at hx;cases hx
  rw[aA.aF _ _ this];exact hx
 refine⟨fun x o hx=>?_,T,fun d=>(F d).mono T⟩
 by_cases e:x=c
 · subst e
   rw[aA.aL] at hx
   cases hx
   obtain⟨hl,c0,t,e1,e2,vs,e3,e4⟩:=S x _ hc
   refine⟨hl,c0,t,e1,?_,vs,e3,aV.mono T _ _ (PQ (fun v hv=>VC.soft a [v] hv) hd e4)⟩
   simpa using e2
 · rw[aA.aF _ _ e] at hx
   obtain⟨hl,y⟩:=S x o hx
   exact⟨hl,kH.mono T rfl y⟩
theorem LO{es:List AV}:∀ {l:List AV},(∀a∈l,a.fz b es=a)→iZ b es l=l
 | [],_=>rfl
 | a::l,h=>by rw[iZ,h a (by simp),LO fun x hx=>h x (by simp [hx])]
theorem aSF{φ:AF}(hb:l≠[]→(S.aC c (.cells (hd++bR w b l::tl))) b=none)(hj:∀e∈l,e.cA=false)(hE:iV l)
 (hh:∀a∈hd++tl,∀b es,a.fz b es=a) :
 fD φ (nJ S c b w hd tl l) φ (S.aC c (.cells (hd++ .slice l::tl))):=by
 have hcc:=DT hb
 cases l with
 | nil=>
  have:=fD.aUR (φ:=φ) hcc
  unfold nJ at this ⊢
  simp only[BY,eH] at this
  exact this
 | cons y l=>
  have h0:=hb (by simp)
  have hne:b≠c:=by rintro rfl;rw[aA.aL] at h0;cases h0
  have h1:nJ S c b w hd tl (y::l) b=some (.cells ((y::l).flatMap AV.cells)):=by unfold nJ;simp only[bS];exact aA.aL _ _ _
  have:=fD.aPI (φ:=φ) hne h1 hj hE hcc
  have e:(nJ S c b w hd tl (y::l)).erase b=S.aC c (.cells (hd++bR w b (y::l)::tl)):=by unfold nJ;simp only[bS];exact aA.zR _ _ _ h0
  have f1:iZ b (y::l) hd=hd:=LO fun a ha=>hh a (by simp [ha]) _ _
  have f2:iZ b (y::l) tl=tl:=LO fun a ha=>hh a (by simp [ha]) _ _
  have f3:(bR w b (y::l)).fz b (y::l)=.slice (y::l):=by simp [bR,AV.fz]
  rw[e,eH,wZ,pZ,bK,←wZ,←wZ,f1,f2,f3] at this
  exact this
end
abbrev vW:=zi tI_3 (zi zI_3 (zi aY (zi tI_28 (zi zI_28 (zi aP (zi bE (zi bF (zi b9 (zi tI_52 (zi zI_52 (zi bU (zi bV (zi bX (zi bY (zi bT (zi tI_111 (zi zI_111 (zi jT (zi jU jS)))))))))))))))))))
theorem aMG(cl:Cl)(h1:cl.1.small=true)(h2:cl.2.length≤1048576)(h3:∀x∈cl.2,x.small=true)(st:aA):aD prog 111 [bB cl] st (fun r st'=>r=bB cl∧st'=st):=by
 obtain⟨⟨k,n,s,ks⟩,ts⟩:=cl
 have hhd:=fun st=>FU (.mk k n s ks) st h1
 simp only[aX] at hhd
 have IH:=fun(x:Tm) (hx:x∈ts) st=>FU x st (h3 x hx)
 have hlen:ts.length≤1048576:=h2
 refine aD.rQ (aD.fin ?_)
 simp only[k9]
 refine wF [] 1 func111 ntmps111 rfl rfl ?_
 simp only[dK,AV.fits,dO,aE]
 intro ⟨_,_,_,_,hl,_⟩
 simp -implicitDefEqProofs only[aB,seval,vW]
 intro b2 hb2
 refine(hhd _).to ?_
 simp -implicitDefEqProofs only[aS,aB,seval,vW]
 intro c hc
 have hne:c≠b2:=by rintro rfl;rw[aA.aL] at hc;cases hc
 have hn2:st c=none:=by rw[aA.aF st _ hne] at hc;exact hc
 have oF:b2≠c:=c9 hne
 refine dQ (σ:=Nat) [] [1,2,3] ts (fun i b=>(((ts.take i).map (fun y=>y)).map Tm.av≠[]→(aA.aC (st.aC b2 (.cells [AV.int .i64 0,AV.int .i64 0,AV.str ⟨#[]⟩,AV.fslice [],AV.fslice []])) c (.cells ([AV.int .i64 k,AV.int .i64 n,AV.str s,AV.slice (ks.map Tm.av)]++ [bR 4 b (((ts.take i).map (fun y=>y)).map Tm.av)]))) b=none)) (fun i b=>[(4,.int .i64 i)]) (fun i b=>jK (st.aC b2 (.cells [AV.int .i64 0,AV.int .i64 0,AV.str ⟨#[]⟩,AV.fslice [],AV.fslice []])) c b [AV.int .i64 k,AV.int .i64 n,AV.str s,AV.slice (ks.map Tm.av)] (((ts.take i).map (fun y=>y)).map Tm.av)) (by decide +kernel)
  ⟨0,fun h=>absurd rfl h,aR.mk (by simp -implicitDefEqProofs only[aB,↓aW,seval])⟩ (fun i x b hx hlt bD hdr hinv=>?_) (fun b hge hinv=>?_)
 case refine_1=>
  have hw:=bJ (n:=(i:Int)+1)
  have dC:(((ts.take i).map (fun y=>y)).map Tm.av).length=i:=by simp only[aE,dX];omega
  have htk:(ts.take (i+1)).map (fun y=>y)=(ts.take i).map (fun y=>y)++ [(fun y=>y) x]:=by rw[fP,hx];simp
  have hbo:=kA hinv
  simp -implicitDefEqProofs only[aE,bD,aB,seval,vW]
  refine wP [(0,1),(2,1),(4,1),(1,2),(3,2),(5,1),(6,2),(7,2),(8,1),(9,0),(10,1),(11,0)] [0,2,4,1,3,5,6,7,8,10] mixed ?_
  simp -implicitDefEqProofs only[bG (av:=Tm.av) aP hx (aO x),b7,aO,hbo,qD,gI,aB,seval,vW]
  refine jB (IH x (cI hx) _) ?_
  simp -implicitDefEqProofs only[b7,aO,Tm.eG,gI,aB,seval,vW]
  refine gJ aP bE bF rfl rfl (gS (aO _) (Tm.dY _)) (gV _) hinv (by simp only[dC,bA,bQ];omega) (by simp only[dC,bA,bQ];omega) (fun b' hb'=>?_)
  rw[show(((ts.take i).map (fun y=>y)).map Tm.av)++ [((fun y=>y) x).av]=((ts.take (i+1)).map (fun y=>y)).map Tm.av by rw[htk];simp] at hb' ⊢
  obtain⟨g1,g2,g3⟩:=tS hb'
  simp only[gB,eR] at g1 g3
  simp -implicitDefEqProofs only[g3,oZ,iX,aS,g1,hw,aS,aB,seval,vW]
  exact⟨b',g2,aR.mk (by simp -implicitDefEqProofs only[aB,seval])⟩
 have hbo:=kA hinv
 rw[eD] at hinv hbo ⊢
 simp -implicitDefEqProofs only[aE,hge,aB,seval,vW]
 simp -implicitDefEqProofs only[hbo,aS,aB,seval,vW]
 have hS:(st.aC b2 (.cells [AV.int .i64 0,AV.int .i64 0,AV.str ⟨#[]⟩,AV.fslice [],AV.fslice []])) b2≠none:=by rw[aA.aL];simp
 have h1:=l7 hinv hS oF
 rw[aA.aL] at h1
 simp -implicitDefEqProofs only[h1,iX,aB,seval]
 obtain⟨h2,h3⟩:=r9 (o:=.cells [AV.int .i64 k,AV.int .i64 n,AV.str s,AV.slice (ks.map Tm.av),bR 4 b ((ts.map fun y=>y).map Tm.av)]) hinv hS oF
 refine⟨b,_,_,h2,h3,pT _,⟨4,gV _⟩,?_,?_⟩
 · simp only[gR,bK,bL,fR,m8,iR,mH,List.map_id']
 · exact(((aM.refl _).aC hb2).aC hn2).aC hb2
structure Ss where
 p:List Cl
 q:List Tm
 jF:Int
 used:Int
 sent:Int
 fin:Int
def dE(s:Ss):AV:=.agg [.slice (s.p.map bB),.slice (s.q.map Tm.av),.int .i64 s.jF,.int .i64 s.used,.int .i64 s.sent,.int .i64 s.fin]
abbrev SM (c:Cl):Prop:=c.1.small=true∧c.2.length≤1048576∧∀x∈c.2,x.small=true
theorem SN(l:List Cl):∀e∈l.map bB,e.width=5:=by intro e h;simp only[cE] at h;obtain⟨t,_,rfl⟩:=h;exact fQ t
theorem aNY(l:List Cl):∀e∈l.map bB,e.cA=false:=by intro e h;simp only[cE] at h;obtain⟨t,_,rfl⟩:=h;exact LA t
abbrev qX:=zi tI_3 (zi zI_3 (zi aY (zi tI_27 (zi zI_27 (zi d8 (zi f6 (zi f7 (zi gG (zi tI_28 (zi zI_28 (zi aP (zi bE (zi bF (zi b9 (zi tI_30 (zi zI_30 (zi lA (zi lB (zi lC (zi lD (zi lE (zi lF (zi k8 (zi tI_52 (zi zI_52 (zi bU (zi bV (zi bX (zi bY (zi bT (zi tI_111 (zi zI_111 (zi jT (zi jU jS))))))))))))))))))))))))))))))))))
theorem RF(s:Ss)(hp:s.p.length≤1048576)(hps:∀c∈s.p,SM c)(hq:s.q.length≤1048576)(hqs:∀t∈s.q,t.small=true)(st:aA):aD prog 64 [dE s] st (fun r st'=>r=dE s∧st'=st):=by
 obtain⟨ps,qs,i0,i1,i2,i3⟩:=s
 simp only at hp hps hq hqs
 refine aD.rQ (aD.fin ?_)
 simp only[dE]
 refine wF [1000000,3] 1 func64 ntmps64 rfl rfl ?_
 intro _
 simp -implicitDefEqProofs only[aS,aB,↓aW,seval,qX]
 intro b2 hb2 c hc
 have hne:c≠b2:=by rintro rfl;rw[aA.aL] at hc;cases hc
 have hn2:st c=none:=by rw[aA.aF st _ hne] at hc;exact hc
 have oF:b2≠c:=c9 hne
 refine dQ (σ:=Nat) [1000000,3] [1,2,3] ps
  (fun i b=>((ps.take i).map bB≠[]→((st.aC b2 (.cells [.fslice [],.fslice [],.int .i64 0,.int .i64 0,.int .i64 0,.int .i64 0])).aC c (.cells ([]++bR 5 b ((ps.take i).map bB):: [.fslice [],.int .i64 i0,.int .i64 i1,.int .i64 i2,.int .i64 i3]))) b=none))
  (fun i _=>[(4,.int .i64 i)]) (fun i b=>nJ (st.aC b2 (.cells [.fslice [],.fslice [],.int .i64 0,.int .i64 0,.int .i64 0,.int .i64 0])) c b 5 [] [.fslice [],.int .i64 i0,.int .i64 i1,.int .i64 i2,.int .i64 i3] ((ps.take i).map bB)) (by decide +kernel)
  ⟨0,fun h=>absurd rfl h,aR.mk (by simp -implicitDefEqProofs only[aB,↓aW,seval])⟩ (fun i x b hx hlt bD hdr hinv=>?_) (fun b hge hinv=>?_)
 · have hw:=bJ (n:=(i:Int)+1)
   have dC:((ps.take i).map bB).length=i:=by simp only[aE,dX];omega
   have htk:(ps.take (i+1)).map bB=(ps.take i).map bB++ [bB x]:=by rw[fP,hx];simp
   have hbo:=DT hinv
   simp only[eR] at hbo
   have fG:=cI hx
   obtain⟨s1,s2,s3⟩:=hps x fG
   have hat:=bG (av:=bB) d8 hx (fQ x)
   simp -implicitDefEqProofs only[bD,aE,aB,seval,qX]
   refine wP [(0,1),(2,1),(4,1),(1,2),(3,2),(5,1),(6,2),(7,2),(8,1),(9,0),(10,1),(11,0)] [0,2,4,1,3,5,6,7,8,10] mixed ?_
   simp -implicitDefEqProofs only[hat,pA,fQ,hbo,qD,aB,seval,qX]
   refine jB (aMG x s1 s2 s3 _) ?_
   simp -implicitDefEqProofs only[pA,fQ,LA,aB,seval,qX]
   refine gJ d8 f6 f7 rfl rfl (gS (fQ _) (F1 _)) (SN _) hinv (by simp only[dC,bA,bQ];omega) (by simp only[dC,bA,bQ];omega) (fun b' hb'=>?_)
   rw[←htk] at hb' ⊢
   obtain⟨g1,g2,g3⟩:=aFQ hb'
   simp only[eR] at g1 g3
   simp -implicitDefEqProofs only[g3,oZ,iX,g1,hw,aS,aB,seval,qX]
   exact⟨b',g2,aR.mk (by simp -implicitDefEqProofs only[aB,seval])⟩
 · rw[eD] at hinv ⊢
   have hbo:=DT hinv
   simp only[eR] at hbo
   simp -implicitDefEqProofs only[hge,aE,aB,seval,qX]
   refine dQ (σ:=Nat) [1000000,3] [1,2,3] qs
    (fun i b=>((qs.take i).map Tm.av≠[]→((st.aC b2 (.cells [.fslice [],.fslice [],.int .i64 0,.int .i64 0,.int .i64 0,.int .i64 0])).aC c (.cells ([.slice (ps.map bB)]++bR 4 b ((qs.take i).map Tm.av):: [.int .i64 i0,.int .i64 i1,.int .i64 i2,.int .i64 i3]))) b=none))
    (fun i _=>[(5,.int .i64 i)]) (fun i b=>nJ (st.aC b2 (.cells [.fslice [],.fslice [],.int .i64 0,.int .i64 0,.int .i64 0,.int .i64 0])) c b 4 [.slice (ps.map bB)] [.int .i64 i0,.int .i64 i1,.int .i64 i2,.int .i64 i3] ((qs.take i).map Tm.av)) (by decide +kernel)
    ⟨0,fun h=>absurd rfl h,?_⟩ (fun i x b hx hlt bD hdr hinv=>?_) (fun b hge hinv=>?_)
   · exact(aSF hinv (aNY _) ⟨5,SN _⟩ (by intro a ha;simp only[eR,cO,dD,dI] at ha;rcases ha with rfl | rfl | rfl | rfl | rfl<;>intro _ _<;>rfl)).trans (fD.iY (by simp -implicitDefEqProofs only[aB,↓aW,seval]))
   · have hw:=bJ (n:=(i:Int)+1)
     have dC:((qs.take i).map Tm.av).length=i:=by simp only[aE,dX];omega
     have htk:(qs.take (i+1)).map Tm.av=(qs.take i).map Tm.av++ [x.av]:=by rw[fP,hx];simp
     have hbo:=DT hinv
     simp only[gB,eR] at hbo
     have hat:=bG (av:=Tm.av) aP hx (aO x)
     simp -implicitDefEqProofs only[bD,aE,aB,seval,qX]
     refine wP [(0,1),(2,1),(4,1),(1,2),(3,2),(5,1),(6,2),(7,2),(8,1),(9,0),(10,1),(11,0)] [0,2,4,1,3,5,6,7,8,10] mixed ?_
     simp -implicitDefEqProofs only[hat,b7,aO,hbo,qD,aB,seval,qX]
     refine jB (FU x _ (hqs x (cI hx))) ?_
     simp -implicitDefEqProofs only[b7,aO,Tm.eG,aB,seval,qX]
     refine gJ aP bE bF rfl rfl (gS (aO _) (Tm.dY _)) (gV _) hinv (by simp only[dC,bA,bQ];omega) (by simp only[dC,bA,bQ];omega) (fun b' hb'=>?_)
     rw[←htk] at hb' ⊢
     obtain⟨g1,g2,g3⟩:=aFQ hb'
     simp only[gB,eR] at g1 g3
     simp -implicitDefEqProofs only[g3,oZ,iX,g1,hw,aS,aB,seval,qX]
     exact⟨b',g2,aR.mk (by simp -implicitDefEqProofs only[aB,seval])⟩
   · rw[eD] at hinv ⊢
     have hbo:=DT hinv
     simp only[gB,eR] at hbo
     have h2o:=aS0 (x:=b2) hinv (by rw[aA.aL];simp) oF
     rw[aA.aL] at h2o
     simp -implicitDefEqProofs only[hge,aE,hbo,h2o,iX,aS,aB,seval,qX]
     have aEE:qs.map Tm.av≠[]→b2≠b:=fun h e=>by
      have:=hinv h
      rw[←e,aA.aF _ _ oF,aA.aL] at this
      cases this
     refine⟨b,qs.map Tm.av,_,by unfold nJ;rw[sY aEE],fun h=>by rw[aA.aF _ _ (c9 (aEE h))];exact hinv h,pT _,⟨4,gV _⟩,by simp only[gR,bK,bL,fR,iR,mH],?_⟩
     exact(((aM.refl _).aC hb2).aC hn2).aC hb2
theorem aTK{p:List Cl}(h:mN p=true):p.length≤20∧∀c∈p,CK c:=by
 simp only[mN,cL,bM,eE] at h
 refine⟨h.1,fun c hc=>?_⟩
 have:=h.2 c hc
 simp only[n7,cL,bM,eE] at this
 refine⟨Tm.JL this.1.1,by omega,fun x hx=>?_⟩
 have hg:=this.2.2 x hx
 cases x
 simp only[Tm.goal,cL] at hg
 exact Tm.JL hg.1
theorem aTN{q:List Tm}(h:lI q=true):q.length≤6∧∀t∈q,t.small=true:=by
 simp only[lI,cL,bM,eE] at h
 refine⟨h.1,fun x hx=>?_⟩
 have hg:=h.2 x hx
 cases x
 simp only[Tm.goal,cL] at hg
 exact Tm.JL hg.1
theorem M8{st:aA}{s:Ss}{o:AV}{bs:List Nat} :
 aQ st (dE s) o bs↔∃q b1 q' b2,o=.agg [q,q',.int .i64 s.jF,.int .i64 s.used,.int .i64 s.sent,.int .i64 s.fin]∧bs=b1++b2∧aQ st (.slice (s.p.map bB)) q b1∧aQ st (.slice (s.q.map Tm.av)) q' b2:=by
 unfold dE
 generalize AV.slice (s.p.map bB)=x
 generalize AV.slice (s.q.map Tm.av)=y
 simp only[aQ,a7]
 constructor
 · rintro⟨os,rfl,o4,os4,b4,b4',rfl,rfl,h,o6,os6,b6,b6',rfl,rfl,h',o1,os1,b1,b1',rfl,rfl,⟨rfl,rfl⟩,o2,os2,b2,b2',rfl,rfl,⟨rfl,rfl⟩,o3,os3,b3,b3',rfl,rfl,⟨rfl,rfl⟩,o5,os5,b5,b5',rfl,rfl,⟨rfl,rfl⟩,rfl,rfl⟩
   exact⟨o4,b4,o6,b6,rfl,by simp,h,h'⟩
 · rintro⟨q,b1,q',b2,rfl,rfl,h,h'⟩
   exact⟨_,rfl,q,_,b1,b2,rfl,rfl,h,q',_,b2,[],rfl,by simp,h',_,_,[],[],rfl,rfl,⟨rfl,rfl⟩,_,_,[],[],rfl,rfl,⟨rfl,rfl⟩,_,_,[],[],rfl,rfl,⟨rfl,rfl⟩,_,_,[],[],rfl,rfl,⟨rfl,rfl⟩,rfl,rfl⟩
def jX(p:List Cl)(q:List Tm)(most fuel:Int):Bool:=mN p&&(lI q&&(decide (0≤most)&&(decide (most≤20)&&(decide (0≤fuel)&&decide (fuel≤300)))))
noncomputable def iB(p:List Cl)(cnd:Tm→List Nat→List Nat)(q:List Tm)(most fuel:Int):List (List Tm)×Int:=if jX p q most fuel=true then sF p cnd q most.toNat fuel.toNat else([],9)
theorem NI{p:List Cl}(h:mN p=true):p.length≤20∧∀c∈p,fJ c∧c.2.length≤6:=by
 simp only[mN,cL,bM,eE] at h
 refine⟨h.1,fun c hc=>⟨aNW (h.2 c hc),?_⟩⟩
 have:=h.2 c hc
 simp only[n7,cL,bM,eE] at this
 exact this.2.1
theorem NJ{q:List Tm}(h:lI q=true):q.length≤6∧∀t∈q,a8 26 t∧t.k=3:=by
 simp only[lI,cL,bM,eE] at h
 refine⟨h.1,fun t ht=>?_⟩
 have hg:=h.2 t ht
 have hk:t.valid=true∧t.k=3:=by
  obtain⟨k,n,s,ts⟩:=t
  simp only[Tm.goal,cL] at hg
  refine⟨hg.1,?_⟩
  have:=hg.2
  simp only[vL,oN,oU,cL,bM] at this
  simp only[Tm.k]
  rcases this with (h | h) | h<;>first | exact h.1 | exact h.1.1 | exact h.1.1.1
 exact⟨⟨Tm.EX hk.1,Tm.EW hk.1⟩,hk.2⟩
end Go.AW
namespace Go.AW
def PD(vars:List Int)(a:List Tm):Prop:=a.length=vars.length∧a.all Tm.valid=true
theorem aJ5{N:Nat}{σ:Sub}(hg:cC σ)(ho:cD (a8 N) σ){vars:List Int}(hv:∀v∈vars,0≤v∧v<(N:Int)){a:List Tm}(h:g7 σ vars=some a):PD vars a:=by
 obtain⟨rk,B,G⟩:=hg.rs
 unfold g7 at h
 split at h
 · rename_i hh
   cases h
   obtain⟨h1,h2⟩:=hh
   have hok:∀t∈vars.map (rs σ),a8 N t:=fun t ht=>by
    obtain⟨v,hvm,rfl⟩:=cE.1 ht
    have hf:=eE.1 h1 _ ht
    unfold dZ at hf
    simp only[cL,bM] at hf
    exact⟨G.kD ho.kD v (hv v hvm).1 (hv v hvm).2,hf.2⟩
   exact⟨by rw[aT4 hok,aE],by rw[aGI hok h1,bM];exact h2⟩
 · cases h
theorem aTS{p:List Cl}(hp:∀c∈p,fJ c∧c.2.length≤6)(hpl:p.length≤20){cnd:Tm→List Nat→List Nat}(hd:∀t l,(∀i∈cnd t l,i∈l)∧(cnd t l).length≤l.length){vars:List Int}(hv:∀v∈vars,0≤v∧v<26) :
 ∀(n most fuel:Nat) (s:RS) (B:Nat),most+fuel≤n→kJ p B s→B+26*fuel≤8000→(gL p cnd vars most fuel s).1.length≤most∧∀a∈(gL p cnd vars most fuel s).1,PD vars a:=by
 intro n
 induction n with
 | zero=>
  intro most fuel s B hn hs hB
  obtain rfl:most=0:=by omega
  obtain rfl:fuel=0:=by omega
  cases hg:s.goals with
  | nil=>rw[tY hg];simp
  | cons g rest=>rw[sD hg];simp
 | succ n ih=>
  intro most fuel s B hn hs hB
  cases hg:s.goals with
  | nil=>
   rw[tY hg]
   by_cases hm:most=0
   · rw[aK hm];simp
   rw[aG hm]
   cases ha:g7 s.σ vars with
   | none=>simp
   | some a=>
    have hok:=aJ5 hs.a.fO hs.a.ok (fun v h=>⟨(hv v h).1,by have:=(hv v h).2;have:=hs.l.1;omega⟩) ha
    simp only
    cases hb:eX p s.chs.length s.chs with
    | none=>
     simp only[bA,bQ,cO,dD,dI]
     exact⟨by omega,fun x hx=>by rw[hx];exact hok⟩
    | some s'=>
     obtain⟨h1,h2⟩:=ih (most - 1) fuel s' B (by omega) (hs.back hp (by omega) hb) hB
     simp only[bA,cO]
     refine⟨by omega,fun x hx=>?_⟩
     rcases hx with rfl | hx
     · exact hok
     · exact h2 x hx
  | cons g rest=>
   rw[sD hg]
   by_cases hf:fuel=0
   · rw[aK hf];simp
   rw[aG hf]
   cases hst:iJ p cnd s g rest with
   | stop e=>simp
   | go s'=>exact ih most (fuel - 1) s' (B+26) (by omega) (hs.step hp (by omega) (by omega) hd hg hst) (by omega)
   | fail=>
    simp only
    cases hb:eX p s.chs.length s.chs with
    | none=>simp
    | some s'=>exact ih most (fuel - 1) s' B (by omega) (hs.back hp (by omega) hb) (by omega)
theorem aTO{q:List Tm}(hq:∀t∈q,a8 26 t∧t.k=3):(∀v∈bO q [],0≤v∧v<26)∧(bO q []).length≤26:=by
 have hv:∀v∈bO q [],0≤v∧v<26:=fun v hv=>by
  rcases (v4 q [] fun t ht=>(hq t ht).1.1.2.1).1 hv with h | ⟨t,ht,h⟩
  · cases h
  · exact(hq t ht).1.1.2.2 v h
 refine⟨hv,?_⟩
 have hnd:=JC q [] (fun t ht=>Tm.rO t (hq t ht).1.1.2.1) lT
 exact AP (N:=26) hnd fun n hn=>hv n hn
theorem aG1(p:List Cl){cnd:Tm→List Nat→List Nat}(hd:∀t l,(∀i∈cnd t l,i∈l)∧(cnd t l).length≤l.length)(q:List Tm)(most fuel:Int):(iB p cnd q most fuel).1.length≤20∧∀a∈(iB p cnd q most fuel).1,a.length≤26∧a.all Tm.valid=true:=by
 unfold iB
 split
 · rename_i h
   simp only[jX,cL,bM] at h
   obtain⟨hp,hq,h1,h2,h3,h4⟩:=h
   obtain⟨p1,p2⟩:=NI hp
   obtain⟨q1,q2⟩:=NJ hq
   obtain⟨v1,v2⟩:=aTO q2
   obtain⟨r1,r2⟩:=aTS p2 p1 hd v1 _ most.toNat fuel.toNat (kG q) 26 (cT _) (kJ.start q2 q1) (by omega)
   unfold sF
   refine⟨by omega,fun a ha=>?_⟩
   obtain⟨h5,h6⟩:=r2 a ha
   exact⟨by omega,h6⟩
 · simp
theorem aS2(t:Tm):t.cP=3*t.nodes:=by
 induction t using Tm.ind with
 | h k n s ts ih=>
  rw[Tm.DU,Tm.jE]
  have:∀l:List Tm,(∀t∈l,t.cP=3*t.nodes)→aJ Tm.cP l=3*aJ Tm.nodes l:=by
   intro l
   induction l with
   | nil=>intro _;rfl
   | cons x l ih2=>intro h;simp only[aJ,h x (by simp),ih2 fun y hy=>h y (by simp [hy])];omega
  rw[this ts ih];omega
theorem QE:∀ {a:List Tm},a.all Tm.valid=true→aJ Tm.cP a≤360*a.length
 | [],_=>by simp [aJ]
 | t::a,h=>by
  simp only[iW,cL] at h
  have h1:=QE h.2
  have h2:=Tm.EW h.1
  simp only[aJ,aS2 t,bA]
  omega
theorem QF:∀ {l:List (List Tm)},(∀a∈l,a.length≤26∧a.all Tm.valid=true)→aJ (fun a=>aJ Tm.cP a) l≤9360*l.length
 | [],_=>by simp [aJ]
 | a::l,h=>by
  have h1:=QF (l:=l) fun x hx=>h x (by simp [hx])
  obtain⟨h2,h3⟩:=h a (by simp)
  have h4:=QE h3
  simp only[aJ,bA]
  omega
end Go.AW
namespace Go.AW
open Go.Proofs.Tryz
theorem lU.aTB{st st':aA}{a o:AV}{k:IntKind}{n:Int}(h:Made st a o st'):lU st [a,.int k n] (.tup [o,.int k n]) st':=by
 obtain⟨bs,h1,h2,h3,h4⟩:=h
 exact⟨_,bs,rfl,h1,h2,HY.2 ⟨o,.int k n,bs,[],rfl,by simp,h3,⟨rfl,rfl⟩⟩,h4⟩
def J0(st:aA)(L:List AV)(e:Int)(r:AV)(st':aA):Prop:=∃o,r=.tup [o,.int .i64 e]∧Made st (.slice L) o st'∧(L= []→o=.fslice [])
structure rD (st:aA) (L:List AV) (b i:Nat) (os:List AV) (bs:List Nat) (s:aA):Prop where
 len:os.length=i
 own:a7 s (L.take i) os bs
 nd:bs.Nodup
 new:∀q∈bs,st q=none
 bn:L≠[]→b∉bs
 cell:L≠[]→s b=some (.cells (os.flatMap AV.cells++(L.drop i).flatMap AV.cells))
 aU:∀q,q∉bs→(L≠[]→q≠b)→s q=st q
theorem rD.start{st:aA}{L:List AV}{b:Nat}:rD st L b 0 [] [] (bS st b L):=by
 refine⟨rfl,by simp [a7],lT,by simp,by simp,fun h=>?_,fun q _ h=>?_⟩
 · rw[jR h,aA.aL];try rfl
 · cases L with
   | nil=>rfl
   | cons x l=>exact nV (h (by simp))
theorem rD.done{st s:aA}{L os:List AV}{b w:Nat}{bs:List Nat}(h:rD st L b L.length os bs s)(hb:L≠[]→st b=none)(hw:∀e∈L,e.width=w):Made st (.slice L) (bR w b L) s:=by
 obtain⟨h1,h2,h3,h4,h5,h6,h7⟩:=h
 rw[eD] at h2
 by_cases hL:L= []
 · subst hL
   simp only[a7] at h2
   obtain⟨rfl,rfl⟩:=h2
   exact⟨[],lT,by simp,.inl ⟨rfl,rfl,rfl⟩,fun q hq=>h7 q hq (fun h=>absurd rfl h)⟩
 · refine⟨b::bs,BK.2 ⟨h5 hL,h3⟩,fun q hq=>?_,?_,fun q hq=>?_⟩
   · rcases cO.1 hq with rfl | hq
     · exact hb hL
     · exact h4 q hq
   · rw[qE hL]
     refine .inr ⟨b,bs,os,w,rfl,rfl,?_,h2,hw⟩
     have:=h6 hL
     rw[iD] at this
     simpa using this
   · simp only[cO,jL] at hq
     exact h7 q hq.2 fun _=>hq.1
theorem rD.step{st s s2:aA}{L os B:List AV}{b i:Nat}{bs bx:List Nat}{e r:AV}(h:rD st L b i os bs s)(he:L[i]?=some (.agg [e]))(hB:(L.drop (i+1)).flatMap AV.cells=B)(m1:bx.Nodup)(m2:∀q∈bx,s q=none)(m3:aQ s2 e r bx)(m4:∀q,q∉bx→s2 q=s q) :
 rD st L b (i+1) (os++ [.agg [r]]) (bs++bx) (s2.aC b (.cells (os.flatMap AV.cells++ [r]++B))):=by
 obtain⟨h1,h2,h3,h4,h5,h6,h7⟩:=h
 have hi:i<L.length:=(eS.1 he).1
 have hL:L≠[]:=by rintro rfl;simp at hi
 have vM:=a7.eY _ _ _ h2
 have tP:∀q∈bs,s q≠none:=fun q hq=>by obtain⟨cs,e1,_⟩:=vM.2 q hq;rw[e1];simp
 have hsb:=h6 hL
 have hbx:b∉bx:=fun hq=>by have:=m2 b hq;rw[hsb] at this;cases this
 have jV:∀q∈bs,q∉bx:=fun q hq hq'=>tP q hq (m2 q hq')
 have hbs:∀q∈bs,(s2.aC b (.cells (os.flatMap AV.cells++ [r]++B))) q=s q:=fun q hq=>by
  rw[aA.aF _ _ (by rintro rfl;exact h5 hL hq),m4 q (jV q hq)]
 refine⟨by simp [h1],?_,jO.2 ⟨h3,m1,fun a ha c hc e=>jV a ha (e▸hc)⟩,fun q hq=>?_,fun _ hq=>?_,fun _=>?_,fun q hq hne=>?_⟩
 · rw[fP,he,J1]
   refine h2.snoc hbs ?_
   refine M9.2 ⟨r,rfl,aQ.aU _ _ _ (fun x hx=>?_) m3⟩
   exact aA.aF _ _ (by rintro rfl;exact hbx hx)
 · rcases dR.1 hq with hq | hq
   · exact h4 q hq
   · have h8:q∉bs:=fun h=>jV q h hq
     have h9:q≠b:=by rintro rfl;exact hbx hq
     rw[←h7 q h8 fun _=>h9]
     exact m2 q hq
 · rcases dR.1 hq with hq | hq
   · exact h5 hL hq
   · exact hbx hq
 · rw[aA.aL,hB]
   simp [AV.cells]
 · simp only[dR,jL] at hq
   rw[aA.aF _ _ (hne hL),m4 q hq.2,h7 q hq.1 hne]
abbrev aH3:=zi tI_3 (zi zI_3 (zi aY (zi tI_4 (zi zI_4 (zi cG (zi tI_27 (zi zI_27 (zi d8 (zi f6 (zi f7 (zi gG (zi tI_28 (zi zI_28 (zi aP (zi bE (zi bF (zi b9 (zi tI_31 (zi zI_31 (zi gE (zi kN (zi kO (zi mB (zi tI_55 (zi zI_55 (zi vK (zi uY (zi tI_150 zI_150))))))))))))))))))))))))))))
set_option maxHeartbeats 2000000 in
theorem aL4(p:List Cl){cnd:Tm→List Nat→List Nat}(hc:∀(ρ:Int→Int) (t:Tm) (l:List Nat),cnd (bH ρ t) l=cnd t l)(hd:∀t l,(∀i∈cnd t l,i∈l)∧(cnd t l).length≤l.length){idx:Bool}(z9:JR p idx cnd)(xA:idx=false)
 (q:List Tm) (most fuel:Int) (st:aA) :
 aD prog 77 [.slice (p.map bB),.slice (q.map Tm.av),.int .i64 most,.int .i64 fuel,.bool idx] st (J0 st ((iB p cnd q most fuel).1.map bP) (iB p cnd q most fuel).2):=by
 have z5:=aLE p q most fuel
 have DA:=aG1 p hd q most fuel
 refine wF [1000000] 5 func77 ntmps77 rfl rfl ?_
 intro _
 simp -implicitDefEqProofs only[aB,seval]
 refine(z5 _).to ?_
 simp -implicitDefEqProofs only[aB,seval]
 refine aT (fun h=>?_) (fun h=>?_)
 · have hS:iB p cnd q most fuel=([],9):=by
    unfold iB
    rw[aG (by rw[show jX p q most fuel=false from by unfold jX;simpa only[gN] using h];simp)]
   rw[hS]
   simp -implicitDefEqProofs only[aB,seval]
   exact⟨_,rfl,⟨[],lT,by simp,.inl ⟨rfl,rfl,rfl⟩,fun _ _=>rfl⟩,fun _=>rfl⟩
 have hok:jX p q most fuel=true:=by unfold jX;simpa using h
 have hk:=hok
 simp only[jX,cL,bM] at hk
 obtain⟨kp,kq,k1,k2,k3,k4⟩:=hk
 obtain⟨p1,p2⟩:=NI kp
 obtain⟨q1,q2⟩:=NJ kq
 have hTT:iB p cnd q most fuel=hH p cnd (bO q []) most.toNat fuel.toNat (mM q):=by
  unfold iB
  rw[aK hok,aUV (fun c h=>(p2 c h).1) hc q2]
 rw[hTT] at DA ⊢
 clear hTT z5 hok h
 obtain⟨mo,rfl⟩:=yB k1
 obtain⟨fu,rfl⟩:=yB k3
 rw[j4,j4] at DA ⊢
 simp -implicitDefEqProofs only[aB,seval]
 refine(aMY p q (fu:Int) idx (by omega) st).mono ?_
 rintro _ s1 ⟨S,c,m,rfl,hA⟩
 simp -implicitDefEqProofs only[aB,seval]
 refine(aM4 p2 p1 hc hd z9 xA q2 q1 (most:=mo) (fuel:=fu) (by omega) (by omega) hA).mono ?_
 generalize hH p cnd (bO q []) mo fu (mM q)=T at DA ⊢
 rintro _ _ ⟨b,s2,rfl,rfl,hb,hD⟩
 obtain⟨L,e⟩:=T
 simp only at DA hb ⊢
 have hb':L.map bP≠[]→st b=none:=fun h=>(hD b).1 (hb h)
 have hun:prog.underlying 31=some (.slice 55):=by kernel_rfl
 have r7:=BZ (w:=1) (b:=b) (l:=L.map bP) hun
 rw[aE] at r7
 have hwd:∀e∈L.map bP,e.width=1:=fun e he=>by simp only[cE] at he;obtain⟨t,_,rfl⟩:=he;rfl
 simp -implicitDefEqProofs only[r7,aB,seval]
 refine dQ (σ:=List AV×List Nat×aA) [1000000] [10,11,12,13,32,33] L (fun j x=>rD st (L.map bP) b j x.1 x.2.1 x.2.2) (fun j x=>[(34,.int .i64 j)]) (fun j x=>x.2.2) (by decide +kernel) ⟨([],[],bS st b (L.map bP)),rD.start,aR.drop (aN6 hD) (by simp -implicitDefEqProofs only[aB,↓aW,seval])⟩ (fun j a x hx hlt bD hdr hinv=>?_) (fun x hge hinv=>?_)
 case refine_2=>
  simp -implicitDefEqProofs only[hge,rI,aB,seval]
  have aQO:rD st (L.map bP) b (L.map bP).length x.1 x.2.1 x.2.2:=by rw[aE];exact hinv
  exact⟨_,rfl,aQO.done hb' hwd,fun h=>by rw[h];try rfl⟩
 obtain⟨os,bs,s⟩:=x
 simp only at hinv
 have hw:=bJ (n:=(j:Int)+1)
 have hne:L.map bP≠[]:=by intro h;have:=tA List.length h;simp at this;subst this;simp at hlt
 have nC:(L.map bP)[j]?=some (.agg [.slice (a.map Tm.av)]):=by rw[lS,hx];try rfl
 have hc2:=hinv.cell hne
 have aQD:((L.map bP).drop j).flatMap AV.cells= [.slice (a.map Tm.av)]++((L.map bP).drop (j+1)).flatMap AV.cells:=by
  rw[←yE,hdr,bK,rF,yE];try rfl
 rw[aQD,←kW] at hc2
 have hA2:(os.flatMap AV.cells).length=j*1:=by
  rw[hinv.own.GU (fun q hq=>hwd q (mS hq)),dX,aE,jJ (by omega)]
 obtain⟨e1,e2,e3,e4,e5,e6⟩:=AK (B:=((L.map bP).drop (j+1)).flatMap AV.cells) hA2
 have hat:=qN (P:=prog) (b:=b) (w:=1) (i:=j) gE (len:=(L.map bP).length) (by rw[aE];omega)
 have htk:List.take 1 (List.drop (j*1) (os.flatMap AV.cells++ [.slice (a.map Tm.av)]++((L.map bP).drop (j+1)).flatMap AV.cells))= [.slice (a.map Tm.av)]:=by
  rw[kW,List.drop_append,JW (by omega),hA2]
  simp
 obtain⟨hal,hav⟩:=DA.2 a (cI hx)
 rw[qE hne] at r7 ⊢
 rw[aE] at hat r7 ⊢
 simp -implicitDefEqProofs only[bD,hat,hc2,htk,e5,aB,↓aW,seval,aH3]
 refine(HS a _ (by omega) fun x hx s=>DY x s (Tm.JL (eE.1 hav x hx))).mono ?_
 rintro r s3 ⟨bx,m1,m2,m3,m4⟩
 have hbx:b∉bx:=fun h=>by have:=m2 b h;rw[hc2] at this;cases this
 have f1:=(m4 b hbx).trans hc2
 obtain⟨hqc,hqs,hqa,hqw,hqj⟩:=aQ.kE m3
 simp -implicitDefEqProofs only[hat,f1,hqc,hqs,e4,e5,p5,BL,aB,seval,aH3]
 exact⟨(os++ [.agg [r]],bs++bx,s3.aC b (.cells (os.flatMap AV.cells++ [r]++((L.map bP).drop (j+1)).flatMap AV.cells))),hinv.step nC rfl m1 m2 m3 m4,aR.mk (by simp -implicitDefEqProofs only[hw,aB,seval])⟩
theorem aL3(p:List Cl)(q:List Tm)(most fuel:Int)(st:aA) :
 aD prog 31 [.slice (p.map bB),.slice (q.map Tm.av),.int .i64 most,.int .i64 fuel] st (J0 st ((iB p (fun _ l=>l) q most fuel).1.map bP) (iB p (fun _ l=>l) q most fuel).2):=by
 refine wF [1000000] 4 func31 ntmps31 rfl rfl ?_
 intro _
 simp -implicitDefEqProofs only[aB,seval]
 refine(aL4 p (cnd:=fun _ l=>l) (fun _ _ _=>rfl) (fun _ l=>⟨fun _ h=>h,cT _⟩) (idx:=false) (fun _=>rfl) rfl q most fuel st).mono ?_
 intro r s1 h
 obtain⟨o,rfl,hM,hN⟩:=h
 obtain⟨hqc,hqs,hqa,hqw,hqj⟩:=aQ.kE hM.choose_spec.2.2.1
 simp -implicitDefEqProofs only[hqj,aB,seval]
 exact⟨_,rfl,hM,hN⟩
abbrev aVN:=zi tI_3 (zi zI_3 (zi aY (zi tI_5 (zi zI_5 (zi O5 (zi tI_9 (zi zI_9 (zi d4 (zi tI_47 (zi zI_47 (zi aN8 (zi aN7 (zi aN9 aV0)))))))))))))
theorem FW(k:Int)(st:aA)(h1:k≤1099511627776):aD prog 105 [.int .i64 k] st (fun r st'=>r=.str (mt k)∧st'=st):=by
 refine wF [] 1 func105 ntmps105 rfl rfl ?_
 intro _
 simp -implicitDefEqProofs only[aB,seval]
 refine aT (fun h=>?_) (fun h=>?_)
 · simp -implicitDefEqProofs only[aB,seval]
   simp only[bM] at h
   simp only[mt,h,dP]
 simp only[cM] at h
 obtain⟨n,rfl⟩:=yB (show 0≤k by omega)
 have hmt:mt (n:Int)=⟨(109::sC n []).toArray⟩:=by simp only[mt,h,cJ,j4]
 rw[hmt]
 simp -implicitDefEqProofs only[aB,seval]
 refine rB (σ:=Nat×List UInt8) [] [2] (fun p=>sC p.1 p.2=sC n []∧p.2.length+p.1≤1099511627776) (fun p=>[(0,.int .i64 p.1),(3,.str ⟨p.2.toArray⟩)]) (fun _=>st) (fun p=>p.1) (by decide +kernel)
  ⟨(n,[]),⟨rfl,by simp;omega⟩,aR.mk (by simp -implicitDefEqProofs only[aB,seval])⟩ ?_
 rintro⟨k,acc⟩ ⟨hd,hb⟩
 simp only at hd hb
 simp -implicitDefEqProofs only[aB,seval]
 refine aT (fun h2=>?_) (fun h2=>?_)
 case refine_2=>
  simp only[cM] at h2
  obtain rfl:k=0:=by omega
  rw[aS4] at hd
  have hsz:(⟨#[109]⟩:ByteArray).size+(⟨acc.toArray⟩:ByteArray).size≤maxLen:=by
   show 1+acc.toArray.size≤maxLen
   unfold maxLen
   simp;omega
  simp -implicitDefEqProofs only[hsz,aB,↓aW,seval]
  rw[←hd]
  congr 1
 simp only[bM] at h2
 have hr:((k:Int)).tmod 10=((k % 10:Nat):Int):=by rw[Int.tmod_eq_emod_of_nonneg (by omega)];omega
 have hq:((k:Int)).tdiv 10=((k / 10:Nat):Int):=by rw[Int.tdiv_eq_ediv_of_nonneg (by omega)];omega
 have hw:=bJ (n:=48+((k % 10:Nat):Int))
 have hw8:IntKind.wrap .u8 (48+((k % 10:Nat):Int))=((48+k % 10:Nat):Int):=by rw[IntKind.wrap_u8];omega
 have hw2:=bJ (n:=((k / 10:Nat):Int))
 have hby:bytesOf [AV.int .u8 ((48+k % 10:Nat):Int)]=some [UInt8.ofNat (48+k % 10)]:=by
  simp only[bytesOf,j4,p6]
 have hsz:(⟨#[UInt8.ofNat (48+k % 10)]⟩:ByteArray).size+(⟨acc.toArray⟩:ByteArray).size≤maxLen:=by
  show 1+acc.toArray.size≤maxLen
  unfold maxLen
  simp;omega
 simp -implicitDefEqProofs only[BU,hr,hq,hw,hw8,hw2,hby,hsz,aB,seval,aVN]
 refine⟨(k / 10,UInt8.ofNat (48+k % 10)::acc),by omega,⟨by rw[←aS3 (by omega)];exact hd,by simp only[bA];omega⟩,aR.mk (by simp -implicitDefEqProofs only[aKO,aB,seval])⟩
abbrev aHS:=zi tI_3 (zi zI_3 (zi aY (zi tI_9 (zi zI_9 (zi d4 (zi tI_28 (zi zI_28 (zi aP (zi bE (zi bF (zi b9 (zi tI_52 (zi zI_52 (zi bU (zi bV (zi bX (zi bY bT)))))))))))))))))
theorem CD:∀(l:List Tm) (j:Int) (o:AV) (bs:List Nat) (st:aA),aQ st (.slice (l.map Tm.av)) o bs→bs.Nodup→0≤j→j+aJ Tm.cP l≤1099511627776 →
 aD prog 55 [o,.int .i64 j] st (E8 st (.slice ((dU Tm.mark Tm.cP l j).map Tm.av)) o bs (j+aJ Tm.cP l))
 | l,j,o,bs,st,hO,hnd,hj0,hj1=>by
  have IH:=fun(k n:Int) (s:ByteArray) (ts:List Tm) (hm:Tm.mk k n s ts∈l)=>CD ts
  obtain⟨hlen,haL⟩:=hO.len
  rw[aE] at hlen
  have haL:=haL prog 28 _ b9
  rw[aE] at haL
  refine wF [] 2 func55 ntmps55 rfl rfl ?_
  simp only[dK]
  intro ⟨hf,_⟩
  have hl:=hlen hf
  clear hf hlen
  simp -implicitDefEqProofs only[aB,seval]
  refine dQ (σ:=List Tm×Int×aA) [] [0,4] l
   (fun i p=>p.1.length=i∧p.1++dU Tm.mark Tm.cP (l.drop i) p.2.1=dU Tm.mark Tm.cP l j∧0≤p.2.1∧p.2.1+aJ Tm.cP (l.drop i)=j+aJ Tm.cP l∧aQ p.2.2 (.slice ((p.1++l.drop i).map Tm.av)) o bs∧∀q,q∉bs→p.2.2 q=st q)
   (fun i p=>[(1,.int .i64 p.2.1),(5,.int .i64 i)]) (fun _ p=>p.2.2) (by decide +kernel)
   ⟨([],j,st),⟨rfl,rfl,hj0,rfl,hO,fun _ _=>rfl⟩,aR.mk (by simp -implicitDefEqProofs only[aB,↓aW,seval])⟩ (fun i x p hx hlt bD hdr hinv=>?_) (fun p hge hinv=>?_)
  case refine_2=>
   obtain⟨done,k,s⟩:=p
   obtain⟨i1,i2,i3,i4,i5,i6⟩:=hinv
   simp only at i1 i2 i3 i4 i5 i6
   simp -implicitDefEqProofs only[haL,hge,aB,seval]
   simp only[iD,dU,fN,aJ] at i2 i4 i5
   exact⟨by rw[←i4];simp,by rw[←i2];exact i5,i6⟩
  obtain⟨done,k,s⟩:=p
  obtain⟨i1,i2,i3,i4,i5,i6⟩:=hinv
  simp only at i1 i2 i3 i4 i5 i6
  rw[hdr] at i2 i4 i5
  obtain⟨xk,xn,xs,xts⟩:=x
  simp only[aJ,Tm.DU] at i4
  have nC:=MV (av:=Tm.av) (done:=done) (x:=.mk xk xn xs xts) (rest:=l.drop (i+1))
  obtain⟨b,bs',w,A,oe,bo,B,rfl,hbs,hsb,hA,hoe,hbo,hbn,nF,hw,hi,w9⟩:=i5.focus hnd nC
  rw[aO] at hw
  subst hw
  rw[i1] at hA
  obtain⟨q,rfl,hq⟩:=AZ.1 hoe
  have G9:((done++Tm.mk xk xn xs xts::l.drop (i+1)).map Tm.av).length=l.length:=by
   rw[aE,eC,bA,rG,i1];omega
  rw[G9] at haL w9 ⊢
  have hat:=qN (b:=b) (len:=l.length) (w:=4) (i:=i) aP hlt
  have aYB:∀(c:Nat),c<4→i*4+c+1≤A.length+(4+B.length):=fun c hc=>by rw[hA];omega
  have hw1:=bJ (n:=k+1)
  have hw2:=bJ (n:=k+1+1)
  have hw3:=bJ (n:=k+1+1+1)
  have hw4:=bJ (n:=(i:Int)+1)
  obtain⟨e1,e2,e3,e4,e5,e6⟩:=AK (B:=B) hA
  simp -implicitDefEqProofs only[haL,bD,hat,hsb,hw1,hw2,e1,e2,e4,e5,p5,BL,E7,eH,aB,seval,aHS]
  refine(FW (k+1+1) _ (by omega)).to ?_
  simp -implicitDefEqProofs only[hat,e1,e2,e3,BL,E7,eH,hw3,aB,seval,aHS]
  have hqs:∀(o:AO),aQ (s.aC b o) (.slice (xts.map Tm.av)) q bo:=fun o=>aQ.aU _ _ _ (fun x hx=>aA.aF _ _ (fun e=>hbn (e▸hx))) hq
  have hqa:q.isAgg=false:=(aQ.shape hq).1
  simp -implicitDefEqProofs only[hqa,aB,seval]
  refine(IH xk xn xs xts (cI hx) (k+1+1+1) q bo _ (hqs _) hbo (by omega) (by omega)).mono ?_
  rintro _ s2 ⟨rfl,hq2,hk2⟩
  simp -implicitDefEqProofs only[hw4,aB,seval]
  refine⟨(done++ [(Tm.mk xk xn xs xts).mark k],k+1+1+1+aJ Tm.cP xts,s2),⟨?_,?_,?_,?_,?_,?_⟩,aR.mk (by simp -implicitDefEqProofs only[aB,seval])⟩
  · simp [i1]
  · simp only[dU,Tm.DU] at i2
    rw[←i2,show k+((3+aJ Tm.cP xts:Nat):Int)=k+1+1+1+(aJ Tm.cP xts:Int) by omega]
    simp
  · simp only;omega
  · simp only;omega
  · have:=w9 s2 ((Tm.mk xk xn xs xts).mark k).av (.agg [.int .i64 k,.int .i64 (k+1),.str (mt (k+1+1)),q]) (aO _) (fun x hx hxb hxo=>by rw[hk2 x hxo,aA.aF _ _ hxb]) (by rw[hk2 b hbn,aA.aL];try rfl) (by rw[Tm.aFP];exact AZ.2 ⟨q,rfl,hq2⟩)
    rw[MW] at this
    exact this
  · intro x hx
    have hxb:x≠b:=fun e=>hx (by rw[hbs];simp [e])
    have hxo:x∉bo:=fun e=>hx (nF x e)
    show s2 x=st x
    rw[hk2 x hxo,aA.aF _ _ hxb,i6 x hx]
termination_by l=>SizeOf.sizeOf l
decreasing_by have:=List.sizeOf_lt_of_mem hm;simp only[Tm.mk.sizeOf_spec] at this;omega
abbrev IL:=zi tI_3 (zi zI_3 (zi aY (zi tI_23 (zi zI_23 (zi pD (zi rR (zi rT (zi pU (zi tI_28 (zi zI_28 (zi aP (zi bE (zi bF (zi b9 (zi tI_52 (zi zI_52 (zi bU (zi bV (zi bX (zi bY (zi bT (zi tI_118 (zi zI_118 (zi vG (zi vH (zi vI (zi vJ uX)))))))))))))))))))))))))))
theorem aFY(l:List Tm)(st:aA)(hb:l.length≤1048576)(hc:∀x∈l,∀(st:aA),aD prog 102 [Tm.av x] st (Made st (Tm.av x))) :
 aD prog 50 [.slice (l.map Tm.av)] st (Made st (.slice (l.map Tm.av))):=by
 refine wF [] 1 func50 ntmps50 rfl rfl ?_
 intro _
 simp -implicitDefEqProofs only[aE,rH,aB,↓aW,seval,IL]
 refine⟨by omega,by omega,by omega,?_⟩
 intro b hn
 rw[j4,HP _ (by simp)]
 refine dQ (σ:=List AV×List Nat×aA) [] [0,2,3] l (fun i p=>p7 (l.map Tm.av) [.int .i64 0,.int .i64 0,.str ⟨#[]⟩,.fslice []] b st i p) (fun i _=>[(4,.int .i64 i)]) (fun _ p=>p.2.2) (by decide +kernel)
  ⟨([],[],_),?_,aR.mk (by simp -implicitDefEqProofs only[aB,↓aW,seval])⟩ (fun i x p hx hlt bD hdr hinv=>?_) (fun p hge hinv=>?_)
 · exact p7.start hn (by rw[aE])
 case refine_3=>
  obtain⟨os,bs,s⟩:=p
  simp -implicitDefEqProofs only[aE,hge,aB,seval,IL]
  exact hinv.done (aE _) (fun e he=>by simp only[cE] at he;obtain⟨t,_,rfl⟩:=he;exact aO t)
 obtain⟨os,bs,s⟩:=p
 simp -implicitDefEqProofs only[aE,bD,bG (av:=Tm.av) pD hx (aO x),b7,aO,aB,seval,IL]
 refine(hc x (cI hx) _).mono ?_
 rintro r s2 MG
 obtain⟨A,B,hs2,hA,hrw,hrs,MJ⟩:=hinv.step MG (show(l.map Tm.av)[i]?=some (Tm.av x) by rw[lS,hx];try rfl) (aO x) (fun e he=>by simp only[cE] at he;obtain⟨t,_,rfl⟩:=he;exact aO t) rfl (Tm.dY x) (.inl (b7 x))
 have hat:=qN (b:=b) (len:=l.length) (w:=4) (i:=i) aP hlt
 obtain⟨hp1,hp2⟩:=NA (B:=B) (C:=[.int .i64 0,.int .i64 0,.str ⟨#[]⟩,.fslice []]) (x:=r.cells) hA rfl hrw
 have hw:=bJ (n:=(i:Int)+1)
 simp -implicitDefEqProofs only[hat,hs2,hrw,hrs,hp1,hw,aB,seval,IL]
 refine⟨hp2,?_⟩
 exact⟨_,MJ,aR.mk (by simp -implicitDefEqProofs only[aB,seval])⟩
abbrev aHR:=zi tI_3 (zi zI_3 (zi aY (zi tI_9 (zi zI_9 (zi d4 (zi tI_23 (zi zI_23 (zi pD (zi rR (zi rT (zi pU (zi tI_28 (zi zI_28 (zi aP (zi bE (zi bF (zi b9 (zi tI_52 (zi zI_52 (zi bU (zi bV (zi bX (zi bY (zi bT (zi tI_118 (zi zI_118 (zi vG (zi vH (zi vI (zi vJ uX))))))))))))))))))))))))))))))
theorem M1:∀(a:Tm) (st:aA),a.sz≤1048576→aD prog 102 [a.av] st (Made st a.av)
 | .mk k n s ts,st,hb=>by
  rw[Tm.IE] at hb
  have hc:=fun st=>aFY ts st (by omega) fun x hx st=>M1 x st (by have:=pN (f:=Tm.sz) hx;omega)
  refine aD.AH ?_
  refine wF [] 1 func102 ntmps102 rfl rfl ?_
  intro _
  simp only[aX]
  simp -implicitDefEqProofs only[aB,seval,aHR]
  intro b hb1 b2 hb2
  have hne:b2≠b:=by rintro rfl;rw[aA.aL] at hb2;cases hb2
  have hn2:st b2=none:=by rw[aA.aF st _ hne] at hb2;exact hb2
  simp -implicitDefEqProofs only[aS,aB,seval]
  refine(hc _).mono ?_
  rintro q s2 ⟨bs,m1,m2,m3,m4⟩
  have hbb:b∉bs:=fun h=>by have:=m2 b h;simp [dN,hne.symm] at this
  have nB:b2∉bs:=fun h=>by have:=m2 b2 h;simp [dN] at this
  have e1:=m4 b hbb
  have e2:=m4 b2 nB
  simp only[dN,hne,hne.symm,dP,cJ] at e1 e2
  have hqc:q.cells= [q]:=by have:=(aQ.shape m3).1;cases q<;>first | rfl | simp [AV.isAgg] at this
  have hqs:q.storable=true:=by
   have:=m3
   simp only[aQ] at this
   rcases this with ⟨_,rfl,_⟩ | ⟨_,_,_,_,rfl,_⟩<;>rfl
  simp -implicitDefEqProofs only[dN,hne.symm,e1,e2,hqc,hqs,aS,aB,seval,aHR]
  refine⟨[b,b2],bs,m1,fun x hx=>?_,?_,?_,?_⟩
  · have:=m2 x hx
    have h1:x≠b:=fun e=>hbb (e▸hx)
    have h2:x≠b2:=fun e=>nB (e▸hx)
    simpa [dN,h1,h2] using this
  · simp [hb1,hn2,hbb,nB]
  · rw[←aX]
    refine AZ.2 ⟨q,rfl,aQ.aU _ _ _ (fun x hx=>?_) m3⟩
    have h1:x≠b:=fun e=>hbb (e▸hx)
    have h2:x≠b2:=fun e=>nB (e▸hx)
    simp only[dN,h1,h2,cJ]
  · intro x hx hd
    simp only[cO,dD,dI,jL] at hd
    simp only[dN,hd.1,hd.2,cJ]
    rw[m4 x hx]
    simp only[dN,hd.1,hd.2,cJ]
termination_by a=>SizeOf.sizeOf a
decreasing_by have:=List.sizeOf_lt_of_mem hx;simp only[Tm.mk.sizeOf_spec];omega
abbrev OQ:=zi tI_3 (zi zI_3 (zi aY (zi tI_4 (zi zI_4 (zi cG (zi tI_28 (zi zI_28 (zi aP (zi bE (zi bF (zi b9 (zi tI_52 (zi zI_52 (zi bU (zi bV (zi bX (zi bY bT)))))))))))))))))
theorem FT(l l':List Tm)(st:aA)(hc:∀x∈l,∀(y:Tm) (st:aA),aD prog 104 [Tm.av x,Tm.av y] st (fun r st'=>r=.bool (Tm.same x y)∧st'=st)) :
 aD prog 53 [.slice (l.map Tm.av),.slice (l'.map Tm.av)] st (fun r st'=>r=.bool (gF Tm.same l l')∧st'=st):=by
 refine wF [] 2 func53 ntmps53 rfl rfl ?_
 simp only[dK,AV.fits,dO,aE]
 intro ⟨⟨hl,_⟩,⟨hl',_⟩⟩
 simp -implicitDefEqProofs only[aE,aB,seval,OQ]
 refine⟨fun h4=>?_,fun h4=>?_⟩
 · simp -implicitDefEqProofs only[aB,seval]
   simp only[gN,cM] at h4
   rw[zQ _ (show l.length≠l'.length by omega)]
 simp -implicitDefEqProofs only[aB,seval]
 simp only[j3,bM] at h4
 have h4':l.length=l'.length:=by omega
 refine nQ (α:=Nat) [] (fun i=>i≤l.length∧∀(j:Nat) (x y:Tm),j<i→l[j]?=some x→l'[j]?=some y→Tm.same x y=true)
  (fun i=>[(0,.slice (l.map Tm.av)),(1,.slice (l'.map Tm.av)),(5,.int .i64 i)]) (fun _=>st) (fun i=>l.length - i) (by decide +kernel)
  ⟨0,⟨by omega,by intro j x y h;omega⟩,aR.mk (by simp -implicitDefEqProofs only[aB,↓aW,seval])⟩ ?_
 intro i ⟨hi,c7⟩
 simp -implicitDefEqProofs only[aE,aB,seval,OQ]
 refine⟨fun h5=>?_,fun h5=>?_⟩
 case refine_2=>
  simp -implicitDefEqProofs only[aB,seval]
  simp only[cM,gP] at h5
  rw[zN _ h4' (fun j x y h6 h7=>c7 j x y (by have:=(eS.1 h6).1;omega) h6 h7)]
 simp only[bM,gP] at h5
 obtain⟨x,hx⟩:∃x,l[i]?=some x:=⟨_,e7 h5⟩
 obtain⟨y,hy⟩:∃y,l'[i]?=some y:=⟨_,e7 (h4'▸h5)⟩
 simp -implicitDefEqProofs only[aB,seval]
 refine FP mixed (by decide +kernel) (by decide +kernel) ?_
 simp -implicitDefEqProofs only[bG (av:=Tm.av) aP hx (aO x),bG (av:=Tm.av) aP hy (aO y),b7,aO,aB,seval,OQ]
 refine(hc x (cI hx) y st).to ?_
 simp -implicitDefEqProofs only[aB,seval]
 refine⟨fun h6=>?_,fun h6=>?_⟩
 · simp -implicitDefEqProofs only[aB,seval]
   have h7:Tm.same x y=false:=by simpa using h6
   rw[zO _ i x y hx hy h7]
 have h7:Tm.same x y=true:=by simpa using h6
 simp -implicitDefEqProofs only[aB,seval]
 refine⟨i+1,by omega,⟨by omega,fun j u v hj hu hv=>?_⟩,aR.mk ?_⟩
 · rcases j6 j i with h8 | h8
   · exact c7 j u v h8 hu hv
   · obtain rfl:j=i:=by omega
     rw[hx] at hu;rw[hy] at hv;cases hu;cases hv;exact h7
 · have:=bJ (n:=(i:Int)+1)
   simp -implicitDefEqProofs only[this,aB,seval]
abbrev OP:=zi tI_3 (zi zI_3 (zi aY (zi tI_23 (zi zI_23 (zi pD (zi rR (zi rT (zi pU (zi tI_118 (zi zI_118 (zi vG (zi vH (zi vI (zi vJ uX))))))))))))))
theorem SB(l:List Tm)(left:Int)(st:aA)(h0:0≤left)(h1:left≤1048576)(hc:∀x∈l,∀(left:Int) (st:aA),0≤left→left≤1048576→aD prog 99 [Tm.av x,.int .i64 left] st (fun r st'=>r=.int .i64 (i9 left (Tm.sz x))∧st'=st)) :
 aD prog 47 [.slice (l.map Tm.av),.int .i64 left] st (fun r st'=>r=.int .i64 (i9 left (l.length+aJ Tm.sz l))∧st'=st):=by
 refine wF [] 2 func47 ntmps47 rfl rfl ?_
 simp only[dK,AV.fits,dO,aE]
 intro ⟨hl,_⟩
 have hw:=bJ (n:=left - (l.length:Int))
 simp -implicitDefEqProofs only[aE,hw,aB,seval,OP]
 refine⟨fun h4=>?_,fun h4=>?_⟩
 · simp -implicitDefEqProofs only[aB,seval]
   simp only[bM] at h4
   simp only[i9]
   rw[aK (by omega)]
 simp only[cM] at h4
 simp -implicitDefEqProofs only[aB,seval]
 refine nQ (α:=Nat) [] (fun i=>i≤l.length∧((l.length+aJ Tm.sz (l.take i):Nat):Int)≤left)
  (fun i=>[(0,.slice (l.map Tm.av)),(1,.int .i64 (left - ((l.length+aJ Tm.sz (l.take i):Nat):Int))),(5,.int .i64 i)]) (fun _=>st) (fun i=>l.length - i) (by decide +kernel)
  ⟨0,⟨by omega,by simp only[j5,aJ];omega⟩,aR.mk (by simp -implicitDefEqProofs only[aJ,p5,aB,↓aW,seval])⟩ ?_
 intro i ⟨hi,hle⟩
 simp -implicitDefEqProofs only[aE,aB,seval,OP]
 refine⟨fun h5=>?_,fun h5=>?_⟩
 case refine_2=>
  simp -implicitDefEqProofs only[aB,seval]
  simp only[cM,gP] at h5
  rw[show i=l.length by omega,eD] at hle ⊢
  rw[pP (by omega)]
 simp only[bM,gP] at h5
 obtain⟨x,hx⟩:∃x,l[i]?=some x:=⟨_,e7 h5⟩
 simp -implicitDefEqProofs only[bG (av:=Tm.av) pD hx (aO x),b7,aO,aB,seval,OP]
 refine(hc x (cI hx) _ st (by omega) (by omega)).to ?_
 have hs:=sI Tm.sz hx
 simp -implicitDefEqProofs only[aB,seval]
 refine⟨fun h6=>?_,fun h6=>?_⟩
 · simp -implicitDefEqProofs only[aB,seval]
   simp only[bM,mQ] at h6
   simp only[i9]
   rw[aK (by omega)]
 simp only[cM,mQ] at h6
 rw[pP h6]
 simp -implicitDefEqProofs only[aB,seval]
 refine⟨i+1,by omega,⟨by omega,by omega⟩,aR.mk ?_⟩
 · have:=bJ (n:=(i:Int)+1)
   have e:(left - ((l.length+aJ Tm.sz (l.take (i+1)):Nat):Int))=left - ((l.length+aJ Tm.sz (l.take i):Nat):Int) - ((Tm.sz x:Nat):Int):=by omega
   simp -implicitDefEqProofs only[this,e,aB,seval]
abbrev IT:=zi tI_3 (zi zI_3 (zi aY (zi tI_4 (zi zI_4 (zi cG (zi tI_9 (zi zI_9 (zi d4 (zi tI_28 (zi zI_28 (zi aP (zi bE (zi bF (zi b9 (zi tI_52 (zi zI_52 (zi bU (zi bV (zi bX (zi bY bT))))))))))))))))))))
theorem B9:∀(a b:Tm) (st:aA),aD prog 104 [a.av,b.av] st (fun r st'=>r=.bool (a.same b)∧st'=st)
 | .mk k n s ts,.mk k' n' s' ts',st=>by
  have hc:=FT ts ts' st fun x hx y st=>B9 x y st
  refine wF [] 2 func104 ntmps104 rfl rfl ?_
  intro _
  simp only[aX,Tm.H6]
  simp -implicitDefEqProofs only[aB,seval,IT]
  refine⟨fun h1=>?_,fun h1=>?_⟩
  · simp -implicitDefEqProofs only[aB,seval]
    simp only[gN] at h1
    simp [h1]
  simp only[j3] at h1
  simp -implicitDefEqProofs only[aB,seval,IT]
  refine⟨fun h2=>?_,fun h2=>?_⟩
  · simp -implicitDefEqProofs only[aB,seval]
    simp only[gN] at h2
    simp [h2]
  simp only[j3] at h2
  simp -implicitDefEqProofs only[aB,seval,IT]
  refine⟨fun h3=>?_,fun h3=>?_⟩
  · simp -implicitDefEqProofs only[aB,seval]
    simp only[gN] at h3
    simp [h3]
  simp only[j3] at h3
  simp -implicitDefEqProofs only[aB,seval,IT]
  refine hc.to ?_
  simp -implicitDefEqProofs only[aB,seval]
  refine⟨fun h4=>?_,fun h4=>?_⟩<;>simp -implicitDefEqProofs only[aB,seval]
  · simp only[gN] at h4
    simp [h4]
  · simp only[j3] at h4
    simp [h1,h2,h3,h4]
termination_by a=>SizeOf.sizeOf a
decreasing_by have:=List.sizeOf_lt_of_mem hx;simp only[Tm.mk.sizeOf_spec];omega
abbrev aH5:=zi tI_3 (zi zI_3 (zi aY (zi tI_9 (zi zI_9 (zi d4 (zi tI_23 (zi zI_23 (zi pD (zi rR (zi rT (zi pU (zi tI_118 (zi zI_118 (zi vG (zi vH (zi vI (zi vJ uX)))))))))))))))))
theorem K2:∀(a:Tm) (left:Int) (st:aA),0≤left→left≤1048576→aD prog 99 [a.av,.int .i64 left] st (fun r st'=>r=.int .i64 (i9 left a.sz)∧st'=st)
 | .mk k n s ts,left,st,h0,h1=>by
  have hc:=fun(left:Int) h0 h1=>SB ts left st h0 h1 fun x hx left st h0 h1=>K2 x left st h0 h1
  refine wF [] 2 func99 ntmps99 rfl rfl ?_
  simp only[aX,Tm.IE,dK,AV.fits,dO]
  intro ⟨_,_,hs,_⟩
  have hw:=bJ (n:=left - (s.size:Int))
  simp -implicitDefEqProofs only[hw,aB,seval,aH5]
  refine⟨fun h2=>?_,fun h2=>?_⟩
  · simp -implicitDefEqProofs only[aB,seval]
    simp only[bM] at h2
    simp only[i9]
    rw[aK (by omega)]
  simp only[cM] at h2
  simp -implicitDefEqProofs only[aB,seval,aH5]
  refine(hc _ (by omega) (by omega)).to ?_
  simp -implicitDefEqProofs only[aB,seval]
  refine⟨fun h3=>?_,fun h3=>?_⟩
  · simp -implicitDefEqProofs only[aB,seval]
    simp only[bM,mQ] at h3
    simp only[i9]
    rw[aK (by omega)]
  simp only[cM,mQ] at h3
  simp -implicitDefEqProofs only[aB,seval]
  rw[pP h3,pP (by omega)]
  simp only[AV.int.injEq,true_and]
  omega
termination_by a=>SizeOf.sizeOf a
decreasing_by have:=List.sizeOf_lt_of_mem hx;simp only[Tm.mk.sizeOf_spec];omega
theorem HQ{α:Type}(mk:α→Int→α)(n:α→Nat):∀(l:List α) (j:Int) (i:Nat),(dU mk n l j).drop i=dU mk n (l.drop i) (j+aJ n (l.take i))
 | [],_,i=>by simp [dU]
 | x::l,j,0=>by simp [aJ]
 | x::l,j,i+1=>by
  simp only[dU,List.drop_succ_cons,uN,aJ,HQ mk n l _ i]
  congr 1
  omega
abbrev IK:=zi tI_3 (zi zI_3 (zi aY (zi tI_9 (zi zI_9 (zi d4 (zi tI_28 (zi zI_28 (zi aP (zi bE (zi bF (zi b9 (zi tI_52 (zi zI_52 (zi bU (zi bV (zi bX (zi bY bT)))))))))))))))))
theorem CA:∀(l:List Tm) (j:Int) (st:aA),0≤j→j+aJ Tm.cP l≤1099511627776 →
 aD prog 70 [.slice ((dU Tm.mark Tm.cP l j).map Tm.av),.int .i64 j] st (fun r st'=>r=.int .i64 (j+aJ Tm.cP l)∧st'=st)
 | l,j,st,h0,h1=>by
  have IH:=fun(k n:Int) (s:ByteArray) (ts:List Tm) (hm:Tm.mk k n s ts∈l)=>CA ts
  refine wF [1000000] 2 func70 ntmps70 rfl rfl ?_
  simp only[dK,AV.fits,dO,aE,vP]
  intro ⟨hl,_⟩
  have hML:(dU Tm.mark Tm.cP l j).length=l.length:=vP _ _ _ _
  simp -implicitDefEqProofs only[aB,seval]
  refine dQ (σ:=Unit) [1000000] [0] (dU Tm.mark Tm.cP l j) (fun i _=>True) (fun i _=>[(1,.int .i64 (j+aJ Tm.cP (l.take i))),(5,.int .i64 i)]) (fun _ _=>st) (by decide +kernel) ⟨(),trivial,aR.mk (by simp -implicitDefEqProofs only[aJ,j5,Int.add_zero,aB,↓aW,seval])⟩ (fun i x _ hx hlt bD hdr _=>?_) (fun _ hge _=>?_)
  case refine_2=>
   rw[hML] at hge
   simp -implicitDefEqProofs only[hge,eD,aE,hML,aB,seval,IK]
  rw[hML] at hlt bD
  obtain⟨y,hy⟩:∃y,l[i]?=some y:=⟨_,e7 hlt⟩
  obtain⟨k,n,s,ts⟩:=y
  have hxy:x=(Tm.mk k n s ts).mark (j+aJ Tm.cP (l.take i)):=by
   have:=HQ Tm.mark Tm.cP l j i
   rw[hdr,oV hlt,dU,(eS.1 hy).2] at this
   exact(sR this).1
  have hs:=sI Tm.cP hy
  rw[Tm.DU] at hs
  rw[Tm.aFP] at hxy
  have hat:=bG (av:=Tm.av) aP hx (aO x)
  rw[hxy,aX] at hat
  obtain⟨hs1,hs2⟩:=hs
  generalize hk:j+(aJ Tm.cP (l.take i):Int)=m at *
  have hw1:=bJ (n:=m+1)
  have hw2:=bJ (n:=m+1+1)
  have hw3:=bJ (n:=m+1+1+1)
  have hw:=bJ (n:=(i:Int)+1)
  simp -implicitDefEqProofs only[bD,eM,kU,aE,hML,hat,hw1,hw2,aB,seval,IK]
  refine wP [(0,1),(1,1),(2,1),(3,1),(5,1),(4,2),(6,2),(7,1)] [0,1,2,3,5,4,6,7] mixed ?_
  simp -implicitDefEqProofs only[hat,aB,seval,IK]
  refine jB (FW (m+1+1) _ (by omega)) ?_
  simp -implicitDefEqProofs only[eM,kU,hat,hw3,aB,seval,IK]
  refine(IH k n s ts (cI hy) (m+1+1+1) _ (by omega) (by omega)).to ?_
  have mL:¬(m+1+1+1+(aJ Tm.cP ts:Int)<0):=by omega
  simp -implicitDefEqProofs only[mL,eN,aB,seval]
  refine⟨(),aR.mk ?_⟩
  have e:j+(aJ Tm.cP (l.take (i+1)):Int)=m+1+1+1+(aJ Tm.cP ts:Int):=by omega
  simp -implicitDefEqProofs only[hw,e,aB,seval]
termination_by l=>SizeOf.sizeOf l
decreasing_by have:=List.sizeOf_lt_of_mem hm;simp only[Tm.mk.sizeOf_spec] at this;omega
abbrev pO (l:List Tm):Nat:=l.length+aJ Tm.sz l
theorem SC(l:List Tm)(left:Int)(st:aA)(h0:0≤left)(h1:left≤1048576):aD prog 47 [.slice (l.map Tm.av),.int .i64 left] st (fun r st'=>r=.int .i64 (i9 left (pO l))∧st'=st):=
 SB l left st h0 h1 fun x _ left st h0 h1=>K2 x left st h0 h1
theorem aLS(l:List Tm)(st:aA):aD prog 53 [.slice (l.map Tm.av),.slice (l.map Tm.av)] st (fun r st'=>r=.bool true∧st'=st):=by
 refine(FT l l st fun x _ y st=>B9 x y st).mono ?_
 rintro _ _ ⟨rfl,rfl⟩
 refine⟨?_,rfl⟩
 rw[(zP (fun x _ y=>Tm.xN x y)).2 rfl]
theorem aU1{l:List Tm}{x:Tm}(hx:x∈l):x.sz≤pO l:=by have:=pN (f:=Tm.sz) hx;unfold pO;omega
theorem aFZ(l:List Tm)(st:aA)(hb:pO l≤1048576):aD prog 50 [.slice (l.map Tm.av)] st (Made st (.slice (l.map Tm.av))):=
 aFY l st (by unfold pO at hb;omega) fun x hx st=>M1 x st (by have:=aU1 hx;omega)
mutual
theorem Tm.aFR:∀(t:Tm),t.cP≤3+3*t.sz
 | .mk k n s ts=>by
  have:=OU ts
  rw[Tm.cP,Tm.IE]
  omega
theorem OU:∀(ts:List Tm),xU ts≤3*(ts.length+aJ Tm.sz ts)
 | []=>by simp [xU]
 | t::ts=>by
  have h1:=Tm.aFR t
  have h2:=OU ts
  simp only[xU,bA,aJ]
  omega
end
theorem aFS(l:List Tm):aJ Tm.cP l≤3*pO l:=by rw[←OT];exact OU l
end Go.AW
