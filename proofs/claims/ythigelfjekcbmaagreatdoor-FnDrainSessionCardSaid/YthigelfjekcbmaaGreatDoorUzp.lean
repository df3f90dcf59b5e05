import Derived.Test.YthigelfjekcbmaaGreatDoorUzo
import Derived.Test.YthigelfjekcbmaaGreatDoorUzm
import Derived.Test.YthigelfjekcbmaaGreatDoorUzk
import Derived.Test.YthigelfjekcbmaaGreatDoorUzj
import Derived.Test.YthigelfjekcbmaaGreatDoorUzi
import Derived.Test.YthigelfjekcbmaaGreatDoorUzn
import Derived.Test.YthigelfjekcbmaaGreatDoorUzf
import Derived.Test.YthigelfjekcbmaaGreatDoorUzh
import Derived.Test.YthigelfjekcbmaaGreatDoorUzl
set_option linter.unusedSimpArgs false
set_option linter.unusedVariables false
set_option maxRecDepth 100000
namespace Go.AW
open Go.Proofs.Tryz
def LR(st0 st':aB)(S c m:Nat)(p:List Cl)(q:List Tm)(idx:Bool)(fuel used:Int)(r:AV):yS→Prop
 | .go i'=>r=.int .i64 (-1)∧∃qt qc qn mx nd,dO st0 st' S c m qt qc qn p q idx fuel used mx nd i'
 | .fail i'=>X6 st0 st' S c m p q idx fuel used r (iY p i'.chs.length i')
 | .stop e=>r=.int .i64 e∧∃qt qc qn mx nd i',dO st0 st' S c m qt qc qn p q idx fuel used mx nd i'
def QF(p:List Cl)(idx:Bool)(cnd:Tm→List Nat→List Nat):Prop:=
 (idx=false→cnd=fun _ l=>l)
theorem a3P(yn:Int)(ys:ByteArray)(yts:List Tm)(st:aB):aD prog 184 [(Tm.mk 3 yn ys yts).av] st (fun r st'=>r=.bool (pR (.mk 3 yn ys yts))∧st'=st):=by
 have h:=aAG 3 yn ys yts st
 have e:(decide ((3:Int)=3)&&decide ((yts.length:Int)=0)&&decide (ys=⟨#[33]⟩))=pR (.mk 3 yn ys yts):=by
  rw[vI]
  simp [pR,Tm.k,Tm.s,Tm.ts,and_comm]
  exact fun _=>⟨fun h=>gJ h,fun h=>AH h⟩
 rw[e] at h
 exact h
theorem a3O(yn:Int)(ys:ByteArray)(yts:List Tm)(st:aB):aD prog 185 [(Tm.mk 3 yn ys yts).av] st (fun r st'=>r=.bool (isBuiltin ys (yts.length:Int))∧st'=st):=by
 have h:=R9 3 yn ys yts st
 rw[show(decide ((3:Int)=3)&&isBuiltin ys (yts.length:Int))=isBuiltin ys (yts.length:Int) from rfl] at h
 exact h
abbrev oQ:=zi tI_3 (zi zI_3 (zi aU (zi tI_4 (zi zI_4 (zi cI (zi tI_27 (zi zI_27 (zi eH (zi gK (zi gN (zi iJ (zi tI_40 (zi zI_40 (zi dT (zi fJ (zi fK (zi fU (zi tI_52 (zi zI_52 (zi bU (zi bV (zi bX (zi bY (zi bT (zi tI_150 (zi zI_150 (zi tI_178 (zi zI_178 (zi tI_180 (zi zI_180 (zi tI_181 (zi zI_181 (zi CG (zi MY (zi M0 (zi XU (zi tI_182 (zi zI_182 (zi E8 (zi MZ (zi M1 (zi XV (zi tI_184 (zi zI_184 (zi IT (zi IU (zi IY (zi IZ (zi I0 (zi I1 (zi I2 (zi I3 (zi I4 (zi I5 (zi IV (zi IW (zi H0 (zi tI_211 (zi zI_211 (zi aMQ (zi aMR (zi aMS (zi aMT (zi ZR (zi tI_215 (zi zI_215 (zi aMU (zi aMV (zi aMW (zi ZS (zi tI_219 (zi zI_219 (zi TC (zi TD RN))))))))))))))))))))))))))))))))))))))))))))))))))))))))))))))))))))))))))
set_option maxHeartbeats 2000000 in
theorem aYN{p:List Cl}(hp:∀c∈p,iC c∧c.2.length≤6)(hpl:p.length≤20){cnd:Tm→List Nat→List Nat}(hc:∀(ρ:Int→Int) (t:Tm) (l:List Nat),cnd (cC ρ t) l=cnd t l)(hd:∀t l,(∀i∈cnd t l,i∈l)∧(cnd t l).length≤l.length){idx:Bool}(sU:QF p idx cnd)(CX:idx=false)
 {B M k:Nat} (hB:B+26≤524288) (hM:M+520≤16777216) (hk:k+1≤524288) {st0 st:aB} {S c m:Nat} {qt qc qn:AV} {q:List Tm} {fuel used:Int} {mx:Int} {nd:List AV} {s:RS} {i:IS} {g:IG} {rest:List IG}
 (h:dO st0 st S c m qt qc qn p q idx fuel used mx nd i) (hR:RI p B M k s i) (hg:i.goals=g::rest) (hu0:0≤used) (hu:used≤1000000) :
 aD prog 151 [.ptr S 0] st (fun r st'=>if used=fuel then r=.int .i64 2∧dO st0 st' S c m qt qc qn p q idx fuel used mx nd i else LR st0 st' S c m p q idx fuel (used+1) r (mY p cnd i g rest)):=by
 have hp1:=fun c h=>(hp c h).1
 obtain⟨hgd,ho,hcl,_⟩:=hR.r.facts
 obtain⟨hgo,hg3,_⟩:=hR.r.goal hg
 have hct:=hR.cut hg
 have hst:=hR.step hp hpl hc hd hB hg
 have bAH:=hR.rN
 have hnn:=hR.n
 have hX:=hR.x
 obtain⟨rk,D,G⟩:=hgd.rs
 have hfo:=NB hgd ho hgo
 have hyk:(g.t.aN (rs i.σ)).k=3:=by rw[Tm.sX _ (by omega)];exact hg3
 have C4:=aBD G (ho.imp fun t ht=>ht.1.2.1) (ho.imp fun t ht=>ht.1.small) c m qt g.t hgo.1.2.1 hgo.1.small
 generalize hT:mY p cnd i g rest=T at *
 unfold mY at hT
 obtain⟨⟨gk,gn,gs',gts⟩,cut,up⟩:=g
 simp only at hgo hg3 hct hfo hyk C4 hT
 generalize (Tm.mk gk gn gs' gts).aN (rs i.σ)=y at *
 obtain⟨yk,yn,ys,yts⟩:=y
 obtain rfl:yk=3:=hyk
 simp only[Tm.s,Tm.ts] at hT
 have gO:=h.cell
 rw[hg,uF] at gO
 simp only[jC] at gO
 obtain⟨t1,t2,t3,t4,t5⟩:=h.sto.shape
 obtain⟨n1,n2,n3,n4,n5⟩:=h.acC.shape
 obtain⟨m1,m2,m3,m4,m5⟩:=h.acN.shape
 obtain⟨l1,l2,l3,l4,l5,l6⟩:=qQ rest
 refine aD.kS ?_
 refine wF [1000000] 1 func151 ntmps151 rfl rfl ?_
 intro _
 simp -implicitDefEqProofs only[aA,seval]
 refine wX [(0,1),(1,1),(2,1),(3,1),(4,1),(5,1),(6,1),(7,1),(8,1)] [0,1,2,3,4,5,6,7,8] _ mixed rfl (eV gO) ?_
 simp -implicitDefEqProofs only[wC,aA,seval,oQ]
 refine aQ (fun h1=>?_) (fun h1=>?_)
 · have h1':used=fuel:=by simpa using h1
   simp -implicitDefEqProofs only[aA,seval]
   exact⟨st,aL.refl _,by rw[aH h1'];exact h⟩
 have h1':used≠fuel:=by simpa using h1
 have hw:=bO (n:=used+1)
 simp -implicitDefEqProofs only[aK,gO,hw,aB.aJ,aA,seval,oQ]
 have h2:=h.put (gl:=i.goals) (F:=i.fresh) (fuel':=fuel) (used':=used+1) (mx':=mx) rfl
 rw[hg,uF] at h2
 simp only[jC] at h2
 generalize aB.aC st S _=V at h2 ⊢
 have sT:=h2.cell
 rw[uF] at sT
 simp only[jC] at sT
 have hSV:=h2.sto
 have hr:=fun(s2:aB) (hs2:eT V s2)=>C4 s2 ⟨hs2 _ _ hSV.sub.cells,hs2 _ _ hSV.sub.map⟩
 unfold OH at hr
 by_cases hf:eX (.mk 3 yn ys yts)=true
 case neg=>
  rw[aE (by unfold eX at hf;simpa using hf)] at hr
  rw[aH (by simpa using hf)] at hT
  subst hT
  simp only[a8,Tm.zero,aW] at hr
  refine wX [(0,1),(1,1),(2,1),(3,1),(4,1),(5,1),(6,1),(7,1),(8,1),(9,1),(10,1),(11,1),(12,0),(13,0),(14,1)] [0,1,2,3,4,5,6,7,8,9,10,11,14] V mixed rfl (eT.refl V) ?_
  simp -implicitDefEqProofs only[sT,aA,seval,oQ]
  refine MP hr ?_
  simp -implicitDefEqProofs only[aK,aB.aJ,aA,seval,oQ]
  exact fun b hb=>⟨M9 hb,M9 hb,V,(aL.refl _).aC hb,by rw[aE h1'];exact⟨rfl,_,_,_,_,_,_,h2⟩⟩
 rw[aH (by unfold eX at hf;simpa using hf)] at hr
 rw[aE (by rw[hf];simp)] at hT
 have hyo:=hfo hf
 simp only[a8] at hr
 have U4:prog.underlying 182=some (.slice 215):=by kernel_rfl
 refine wX [(0,1),(1,1),(2,1),(3,1),(4,1),(5,1),(6,1),(7,1),(8,1),(9,1),(10,1),(11,1),(12,0),(13,0),(14,1)] [0,1,2,3,4,5,6,7,8,9,10,11,14] V mixed rfl (eT.refl V) ?_
 simp -implicitDefEqProofs only[sT,aA,seval,oQ]
 refine MP hr ?_
 simp -implicitDefEqProofs only[aK,aB.aJ,aA,seval,oQ]
 intro b4 h4
 refine⟨M9 h4,M9 h4,?_⟩
 have h40:=h2.aNI h4
 have NI:S≠b4:=by rintro rfl;rw[sT] at h4;cases h4
 have h3:=h2.box (o:=.cells [AV.int IntKind.i64 3,AV.int IntKind.i64 yn,AV.str ys,AV.slice (List.map Tm.av yts)]) h4
 have JD:(st0.aC b4 (.cells [AV.int IntKind.i64 3,AV.int IntKind.i64 yn,AV.str ys,AV.slice (List.map Tm.av yts)])) b4=some (.cells [AV.int IntKind.i64 3,AV.int IntKind.i64 yn,AV.str ys,AV.slice (List.map Tm.av yts)]):=aB.aJ _ _ _
 have hun:=fun {st' qt qc qn q idx fuel used mx nd i}=>dO.unbox (st0:=st0) (st:=st') (S:=S) (c:=c) (m:=m) (qt:=qt) (qc:=qc) (qn:=qn) (p:=p) (q:=q) (idx:=idx) (fuel:=fuel) (used:=used) (mx:=mx) (nd:=nd) (i:=i) (b:=b4) (o:=.cells [AV.int IntKind.i64 3,AV.int IntKind.i64 yn,AV.str ys,AV.slice (List.map Tm.av yts)]) (hn:=h40)
 generalize V.aC b4 (.cells [AV.int IntKind.i64 3,AV.int IntKind.i64 yn,AV.str ys,AV.slice (List.map Tm.av yts)])=W at h3 ⊢
 generalize st0.aC b4 (.cells [AV.int IntKind.i64 3,AV.int IntKind.i64 yn,AV.str ys,AV.slice (List.map Tm.av yts)])=W0 at h3 JD hun
 clear sT hSV hr h2
 have FM:=h3.cell
 rw[uF] at FM
 simp only[jC] at FM
 have hbW:=h3.a7 b4 _ JD
 have hlN:=h3.acN.len U4
 rw[h3.ndl] at hlN
 simp only at hlN
 simp -implicitDefEqProofs only[FM,hlN,m1,aA,seval]
 obtain⟨s0,z1,z2,z3⟩:=LA NI _ _
 refine wX [(0,1),(1,1),(2,1),(3,1),(4,1),(5,1),(6,1),(7,1),(8,1),(9,1),(10,1),(11,1),(12,0),(13,1),(14,1),(15,2)] [0,1,2,3,4,5,6,7,8,9,10,11,13,14] s0 mixed rfl (z3 _ FM hbW) ?_
 simp -implicitDefEqProofs only[z1,z2,m1,aA,seval,oQ]
 refine kE.append E8 MZ M1 rfl (by decide) h3.acN rfl rfl (by rw[h3.ndl];simp only;omega) (fun qn5 s5 pW hf hn=>?_)
 have hbo:b4∉kD S c m qt qc qn:=fun hm=>by have:=h3.new b4 hm;rw[JD] at this;cases this
 have hold:∀y o,W y=some o→y∉d5 qn→s5 y=some o:=fun y o hy hq=>by
  rw[hf y hq fun hq'=>by
   rcases hn y hq' with h' | h'
   · exact hq h'
   · rw[hy] at h';cases h']
  exact hy
 have uI:=hold S _ FM h3.parts.2.2.2.2.2.1
 have hb5:=hold b4 _ hbW fun hm=>hbo (eO.2 (.inr (.inr (.inr (.inr (.inr hm))))))
 obtain⟨m1,m2,m3,m4,m5⟩:=pW.shape
 simp -implicitDefEqProofs only[aK,uI,m4,m5,aA,seval,oQ]
 refine⟨z3 _ uI hb5,?_⟩
 have h5:=h3.a5E (n':=i.nn+1) pW (by rw[dW,h3.ndl];try rfl) (fun e he=>by
  rcases eK.1 he with he | he
  · exact h3.ndw e he
  · simp only[dB,dV,eA] at he;subst he;rfl) hf hn rfl
 rw[uF] at h5
 simp only[jC] at h5
 generalize aB.aC s5 S _=W5 at h5 ⊢
 clear uI hb5 hold hf hn FM hbW
 have mX:=h5.cell
 rw[uF] at mX
 simp only[jC] at mX
 have hb6:=h5.a7 b4 _ JD
 have aN5:=a3P yn ys yts
 have aN1:=a3O yn ys yts
 simp only[a8] at aN5 aN1
 simp -implicitDefEqProofs only[hb6,aA,seval]
 refine(aN5 _).to ?_
 simp -implicitDefEqProofs only[aA,seval]
 refine aQ (fun hcu=>?_) (fun hcu=>?_)
 · simp only[hcu,fS] at hT
   subst hT
   simp -implicitDefEqProofs only[mX,aA,seval,oQ]
   have hsl:=fun(φ:AF) (dd:Nat) (h:φ dd=.int .i64 (cut:Int))=>aQT CG h5.acC h (by rw[aF];exact hct)
   have hQ:=(h5.acC.take (k:=cut) (by rw[aF];exact hct) (VA _)).shape
   obtain⟨c1,c2,c3,c4,c5⟩:=hQ
   obtain⟨s1,y1,y2,y3⟩:=LA NI _ _
   refine wX [(0,1),(1,1),(2,1),(3,1),(4,1),(5,1),(6,1),(7,1),(8,1),(9,1),(10,1),(11,1),(12,2)] [0,1,2,3,4,5,6,7,8,9,10,11] s1 mixed rfl (y3 _ mX hb6) ?_
   simp -implicitDefEqProofs only[aK,y1,mX,hsl,c4,c5,n1,l1,l2,l4,l5,aB.aJ,aA,seval,oQ]
   refine⟨_,aL.refl _,?_⟩
   rw[aE h1']
   have h6:=h5.aBV (k:=cut) (gl:=rest) hct rfl
   exact⟨rfl,_,_,_,_,_,hun h6⟩
 simp only[hcu,jR,d4] at hT
 simp -implicitDefEqProofs only[hb6,aA,seval,oQ]
 refine(aN1 _).to ?_
 simp -implicitDefEqProofs only[aA,seval]
 refine aQ (fun hbl=>?_) (fun hbl=>?_)
 · simp only[hbl,fS] at hT
   have hks:∀x∈yts,bP i.fresh x:=s8 _ (.mk 3 yn ys yts) (show(3:Int)≠1 by decide) hyo
   have JF:=aV4 hgd ho yn ys yts hbl hks c m qt i.tr W5 h5.sto (by have:=hX.XN;have:=hX.phi;omega)
   simp only[a8] at JF
   replace hT:(if(dI i.σ ys yts).1=0 then yS.go { goals:=rest,σ:=(dI i.σ ys yts).2.1,tr:=i.tr++(dI i.σ ys yts).2.2,chs:=i.chs,fresh:=i.fresh,nn:=i.nn+1 } else if(dI i.σ ys yts).1=1 then yS.fail { goals:=i.goals,σ:=(dI i.σ ys yts).2.1,tr:=i.tr++(dI i.σ ys yts).2.2,chs:=i.chs,fresh:=i.fresh,nn:=i.nn+1 } else yS.stop (qN (dI i.σ ys yts).1))=T:=hT
   generalize AA:dI i.σ ys yts=Z at JF hT
   obtain⟨code,σ',add⟩:=Z
   simp only at hT
   obtain⟨s1,y1,y2,y3⟩:=LA NI _ _
   refine wX [(0,1),(1,1),(2,1),(3,1),(4,1),(5,0),(6,1)] [0,1,2,3,4,6] s1 mixed rfl (y3 _ mX hb6) ?_
   simp -implicitDefEqProofs only[y1,y2,aA,seval,oQ]
   refine JF.mono ?_
   rintro _ s6 ⟨rfl,hP⟩
   obtain⟨qt6,h6⟩:=h5.post hP
   have pC:=h6.cell
   rw[uF] at pC
   simp only[jC] at pC
   have hb7:=h6.a7 b4 _ JD
   obtain⟨t1,t2,t3,t4,t5⟩:=h6.sto.shape
   simp -implicitDefEqProofs only[aA,seval]
   refine⟨y3 _ pC hb7,?_⟩
   refine aQ (fun hc0=>?_) (fun hc0=>?_)
   · have UB:code=0:=by simpa using hc0
     rw[aH UB] at hT
     subst hT
     simp -implicitDefEqProofs only[aK,pC,l1,l2,l4,l5,aA,seval,oQ]
     refine⟨_,aL.refl _,?_⟩
     rw[aE h1']
     exact⟨rfl,_,_,_,_,_,hun (h6.put (gl:=rest) (F:=i.fresh) (fuel':=fuel) (used':=used+1) (mx':=mx) rfl)⟩
   have UB:code≠0:=by simpa using hc0
   rw[aE UB] at hT
   simp -implicitDefEqProofs only[aA,seval]
   refine aQ (fun hc1=>?_) (fun hc1=>?_)
   · have UC:code=1:=by simpa using hc1
     rw[aH UC] at hT
     subst hT
     simp only at hst
     rw[←hg] at h6
     have hbk:=R5 hp (M:=M+520) (by omega) _ _ _ _ _ _ ({ goals:=i.goals,σ:=σ',tr:=i.tr++add,chs:=i.chs,fresh:=i.fresh,nn:=i.nn+1 }:IS) s.chs (T:=iY p (({ goals:=i.goals,σ:=σ',tr:=i.tr++add,chs:=i.chs,fresh:=i.fresh,nn:=i.nn+1 }:IS)).chs.length ({ goals:=i.goals,σ:=σ',tr:=i.tr++add,chs:=i.chs,fresh:=i.fresh,nn:=i.nn+1 }:IS)) ⟨h6,hst.1,hst.2.1,rfl,⟨by rw[hst.1.len];have:=hR.a.a.rN;omega,oZ hst.2.2.1 (by omega)⟩⟩
     simp -implicitDefEqProofs only[aA,seval]
     refine hbk.mono ?_
     rintro r s7 hr
     simp -implicitDefEqProofs only[aA,seval]
     refine⟨s7,aL.refl _,?_⟩
     rw[aE h1']
     simp only[LR]
     cases hB2:iY p (({ goals:=i.goals,σ:=σ',tr:=i.tr++add,chs:=i.chs,fresh:=i.fresh,nn:=i.nn+1 }:IS)).chs.length ({ goals:=i.goals,σ:=σ',tr:=i.tr++add,chs:=i.chs,fresh:=i.fresh,nn:=i.nn+1 }:IS) with
     | none=>
      rw[hB2] at hr
      obtain⟨e1,qt7,qc7,qn7,mx7,nd7,i7,h7⟩:=hr
      exact⟨e1,_,_,_,_,_,_,hun h7⟩
     | some i7=>
      rw[hB2] at hr
      obtain⟨e1,qt7,qc7,qn7,mx7,nd7,h7⟩:=hr
      exact⟨e1,_,_,_,_,_,hun h7⟩
   have UC:code≠1:=by simpa using hc1
   rw[aE UC] at hT
   subst hT
   simp -implicitDefEqProofs only[aA,seval]
   refine(aWC code _).to ?_
   simp -implicitDefEqProofs only[aA,seval]
   refine⟨_,aL.refl _,?_⟩
   rw[aE h1']
   exact⟨rfl,_,_,_,_,_,_,hun h6⟩
 simp only[hbl,jR,d4] at hT
 have hpr:=aBB 3 yn ys yts
 have hcf:=aV6 p (.mk 3 yn ys yts) (by omega)
 simp only[a8,Tm.s,Tm.ts] at hpr hcf
 obtain⟨s1,y1,y2,y3⟩:=LA NI _ _
 simp -implicitDefEqProofs only[aA,seval]
 refine wX [(0,1),(1,1),(2,1),(3,1),(4,1),(5,0),(6,0),(7,1)] [0,1,2,3,4,7] s1 mixed rfl (y3 _ mX hb6) ?_
 simp -implicitDefEqProofs only[y1,y2,aA,seval,oQ]
 refine(hpr _).to ?_
 simp -implicitDefEqProofs only[aA,seval]
 refine⟨y3 _ mX hb6,?_⟩
 refine(hcf _).to ?_
 simp -implicitDefEqProofs only[aF,aA,seval,oQ]
 refine⟨y3 _ mX hb6,?_⟩
 refine aQ (fun hl0=>?_) (fun hl0=>?_)
 · have rW:gA p (.mk 3 yn ys yts)= []:=by simpa using hl0
   rw[aH rW] at hT
   subst hT
   simp -implicitDefEqProofs only[aA,seval]
   refine⟨_,aL.refl _,?_⟩
   rw[aE h1']
   exact⟨rfl,_,_,_,_,_,_,hun h5⟩
 have rW:gA p (.mk 3 yn ys yts)≠[]:=by simpa using hl0
 rw[aE rW] at hT
 subst CX
 obtain rfl:=sU rfl
 have hfl:=a0P p (.mk 3 yn ys yts)
 have h5':=h5
 rw[←hg] at h5'
 have JQ:=aBK hp (M:=M+520) (by omega) h5' (.mk 3 yn ys yts) i.nn rest (gA p (.mk 3 yn ys yts)) hgd ho hyo (a0Q _ _) (by omega) (by simp only;omega) (hX.up (Nat.le_add_right M 520)).node (by have:=hX.phi;simp only;omega) (by simp only;omega) (by simp only;omega)
 simp only[a8] at JQ
 simp -implicitDefEqProofs only[mX,aA,seval,oQ]
 refine wX [(0,1),(1,1),(2,1),(3,1),(4,1),(5,1),(6,1),(7,1),(8,2)] [0,1,2,3,4,5,6,7] s1 mixed rfl (y3 _ mX hb6) ?_
 simp -implicitDefEqProofs only[y2,l1,l2,aA,seval,oQ]
 refine JQ.mono ?_
 rintro _ s6 ⟨rfl,qt6,qc6,mx6,nd6,h6⟩
 simp -implicitDefEqProofs only[aA,seval]
 refine aQ (fun ht0=>?_) (fun ht0=>?_)
 · simp only[ht0,fS] at hT
   subst hT
   simp -implicitDefEqProofs only[aA,seval]
   refine⟨_,aL.refl _,?_⟩
   rw[aE h1']
   exact⟨rfl,_,_,_,_,_,hun h6⟩
 simp only[ht0,jR,d4] at hT
 subst hT
 simp only at hst
 have hbk:=R5 hp (M:=M+520) (by omega) _ _ _ _ _ _ (iD p (.mk 3 yn ys yts) i.nn rest (gA p (.mk 3 yn ys yts)) { i with nn:=i.nn+1 }).2 s.chs (T:=iY p ((iD p (.mk 3 yn ys yts) i.nn rest (gA p (.mk 3 yn ys yts)) { i with nn:=i.nn+1 }).2).chs.length (iD p (.mk 3 yn ys yts) i.nn rest (gA p (.mk 3 yn ys yts)) { i with nn:=i.nn+1 }).2) ⟨h6,hst.1,hst.2.1,rfl,⟨by rw[hst.1.len];have:=hR.a.a.rN;omega,oZ hst.2.2.1 (by omega)⟩⟩
 simp -implicitDefEqProofs only[aA,seval]
 refine hbk.mono ?_
 rintro r s7 hr
 simp -implicitDefEqProofs only[aA,seval]
 refine⟨s7,aL.refl _,?_⟩
 rw[aE h1']
 simp only[LR]
 cases hB2:iY p ((iD p (.mk 3 yn ys yts) i.nn rest (gA p (.mk 3 yn ys yts)) { i with nn:=i.nn+1 }).2).chs.length (iD p (.mk 3 yn ys yts) i.nn rest (gA p (.mk 3 yn ys yts)) { i with nn:=i.nn+1 }).2 with
 | none=>
  rw[hB2] at hr
  obtain⟨e1,qt7,qc7,qn7,mx7,nd7,i7,h7⟩:=hr
  exact⟨e1,_,_,_,_,_,_,hun h7⟩
 | some i7=>
  rw[hB2] at hr
  obtain⟨e1,qt7,qc7,qn7,mx7,nd7,h7⟩:=hr
  exact⟨e1,_,_,_,_,_,hun h7⟩


abbrev aRR:=zi tI_3 (zi zI_3 (zi aU (zi tI_40 (zi zI_40 (zi dT (zi fJ (zi fK (zi fU (zi tI_52 (zi zI_52 (zi bU (zi bV (zi bX (zi bY bT))))))))))))))
theorem aYE(vars:List Int)(n:Int)(st:aB):aD prog 238 [.int .i64 n,.pptr (.slice (vars.map iv))] st (fun r st'=>r=(vr (fP n vars 0)).av∧st'=st):=by
 refine aD.done ?_
 refine wF [1000000] 2 func238 ntmps238 rfl rfl ?_
 intro _
 simp -implicitDefEqProofs only[aA,seval,aRR]
 intro b hb
 refine(Z8 vars n _).to ?_
 simp -implicitDefEqProofs only[aA,seval]
 refine(SM _ _).to ?_
 simp -implicitDefEqProofs only[aK,cH,b9,eW (b9 _),eU (aY _),aA,seval,aRR]
 exact⟨Tm.soft _,(aL.refl _).aC hb⟩
abbrev W3:=zi tI_3 (zi zI_3 (zi aU (zi tI_28 (zi zI_28 (zi aO (zi bF (zi bG (zi bZ (zi tI_40 (zi zI_40 (zi dT (zi fJ (zi fK (zi fU (zi tI_52 (zi zI_52 (zi bU (zi bV (zi bX (zi bY bT))))))))))))))))))))
theorem aYD(l:List Tm)(hln:l.length≤1048576)(hsz:bH Tm.nodes l≤1099511627776)(hsm:∀t∈l,t.small=true)(st:aB):aD prog 193 [.slice (l.map Tm.av)] st (fun r st'=>r=.slice ((rB l).map Tm.av)∧st'=st):=by
 refine aD.done ?_
 refine wF [1000000] 1 func193 ntmps193 rfl rfl ?_
 simp only[eQ,AV.fits,eR,aF]
 intro ⟨hl,_⟩
 simp -implicitDefEqProofs only[aA,seval]
 refine(SN l _ hsz).to ?_
 simp -implicitDefEqProofs only[aF,aA,↓aS,seval,W3]
 generalize hv:cF l []=vars
 have hR:rB l=l.map fun t=>t.aN fun v=>vr (fP v vars 0):=by rw[←hv];try rfl
 rw[hR]
 refine vG (σ:=Unit) [1000000] [2,3,9,10] (l) 4 4 (fun i _=>(((l).take i).map (fun t=>t.aN fun v=>vr (fP v vars 0))).map Tm.av) (fun _ _=>True) (fun i _=>[(11,.int .i64 i)]) (fun _ _=>st) (fun i _ _ e he=>by simp only[cY] at he;obtain⟨t,_,rfl⟩:=he;exact⟨cP t,aM t⟩) (by decide +kernel) ⟨(),0,trivial,fun h=>absurd rfl h,aP.mk (by simp -implicitDefEqProofs only[jV,l7,aW,aA,↓aS,seval])⟩ (fun i x s b hx hlt bR hdr hinv hb=>?_) (fun s b hge hinv=>?_)
 case refine_1=>
  have hw:=bO (n:=(i:Int)+1)
  have c8:((((l).take i).map (fun t=>t.aN fun v=>vr (fP v vars 0))).map Tm.av).length=i:=by simp only[aF,eC];omega
  have htk:((((l).take i).map (fun t=>t.aN fun v=>vr (fP v vars 0))).map Tm.av)++ [Tm.av ((fun t=>t.aN fun v=>vr (fP v vars 0)) x)]=(((l).take (i+1)).map (fun t=>t.aN fun v=>vr (fP v vars 0))).map Tm.av:=by rw[gC,hx];simp
  have hat:=bQ (av:=Tm.av) aO hx (aM x)
  simp -implicitDefEqProofs only[bR,hat,aA,↓aS,seval,W3]
  refine(SE (fun v=>vr (fP v vars 0)) _ [.pptr (.slice (vars.map iv))] rfl x _ (hsm x (dA hx)) (fun n _ s=>aYE vars n s)).to ?_
  simp -implicitDefEqProofs only[aA,seval,W3]
  refine eE aO bF bG rfl rfl (fL (aM _) (cH _)) (by intro e he;simp only[cY] at he;obtain⟨t,_,rfl⟩:=he;exact aM t) hb (by simp only[c8,aT,aX];omega) (by simp only[c8,aT,aX];omega) (fun b' hb'=>?_)
  rw[htk] at hb' ⊢
  simp -implicitDefEqProofs only[aA,seval]
  exact⟨(),b',hb',aP.mk (by simp -implicitDefEqProofs only[hw,aA,seval])⟩
 simp -implicitDefEqProofs only[hge,eS,jF,qO,FC,mV,fG,aA,seval]
 exact⟨rfl,aL.refl _⟩
def XX:Option (List Tm)→AV
 | none=>.tup [.slice [],.bool false]
 | some l=>.tup [.slice (l.map Tm.av),.bool true]
theorem aPW:∀ {l:List Tm},(∀t∈l,t.nodes≤120)→bH Tm.nodes l≤120*l.length
 | [],_=>by simp [bH]
 | t::l,h=>by
  have h1:=h t (by simp)
  have h2:=aPW (l:=l) fun x hx=>h x (by simp [hx])
  simp only[bH,aT];omega
abbrev KS:=zi tI_3 (zi zI_3 (zi aU (zi tI_4 (zi zI_4 (zi cI (zi tI_28 (zi zI_28 (zi aO (zi bF (zi bG (zi bZ (zi tI_40 (zi zI_40 (zi dT (zi fJ (zi fK (zi fU (zi tI_52 (zi zI_52 (zi bU (zi bV (zi bX (zi bY (zi bT (zi tI_178 zI_178)))))))))))))))))))))))))
theorem aYQ{N:Nat}{σ:Sub}(hg:cX σ)(ho:c9 (bP N) σ)(vars:List Int)(hv:∀v∈vars,0≤v∧v<(N:Int))(hl:vars.length≤1000)(c m:Nat)(q:AV)(st:aB)(hS:j8 st c m q σ) :
 aD prog 152 [.ptr c 0,.slice (vars.map iv)] st (fun r st'=>r=XX (jW σ vars)∧st'=st):=by
 obtain⟨rk,B,G⟩:=hg.rs
 have C4:=fun(t:Tm) (ht:bP N t) st hS=>aBD G (ho.imp fun t ht=>ht.1.2.1) (ho.imp fun t ht=>ht.1.small) c m q t ht.1.2.1 ht.1.small st hS
 refine aD.done ?_
 refine wF [1000000] 2 func152 ntmps152 rfl rfl ?_
 intro _
 simp -implicitDefEqProofs only[aF,aA,seval,KS]
 refine vG (σ:=Unit) [1000000] [0,11,12] vars 4 6 (fun i _=>((vars.take i).map (rs σ)).map Tm.av) (fun i _=>((vars.take i).map (rs σ)).all eX=true) (fun i _=>[(4,.fslice []),(5,.bool false),(13,.int .i64 i)]) (fun _ _=>st) (fun i _ _ e he=>by simp only[cY] at he;obtain⟨t,_,rfl⟩:=he;exact⟨cP _,aM _⟩) (by decide +kernel) ⟨(),0,rfl,fun h=>absurd rfl h,aP.mk (by simp -implicitDefEqProofs only[jV,l7,aW,aA,↓aS,seval])⟩ (fun i x s b hx hlt bR hdr hinv hb=>?_) (fun s b hge hinv=>?_)
 · have hw:=bO (n:=(i:Int)+1)
   have hxm:=dA hx
   obtain⟨hx0,hx1⟩:=hv x hxm
   have hvr:bP N (vr x):=⟨J2 hx0 hx1,by rw[vr,Tm.iS];simp [bH]⟩
   have hat:dN prog 40 (.slice (vars.map iv)) (.int .i64 (i:Int))=some (.pptr (.int .i64 x)):=bQ (av:=iv) dT hx rfl
   have c8:(((vars.take i).map (rs σ)).map Tm.av).length=i:=by simp only[aF,eC];omega
   have cS:((vars.take (i+1)).map (rs σ)).all eX=eX (rs σ x):=by
    rw[gC,hx]
    simp only[HF,oY,bB,aW,EA,hinv,k0,List.all_nil,BA,eP]
   have hr:=C4 (vr x) hvr _ (hS.acc hb)
   rw[xY] at hr
   unfold OH at hr
   simp -implicitDefEqProofs only[bR,hat,aA,seval,KS]
   refine(SM x _).to ?_
   simp -implicitDefEqProofs only[aA,seval]
   by_cases hf:eX (rs σ x)=true
   · rw[aH (by unfold eX at hf;simpa using hf)] at hr
     refine hr.to ?_
     simp -implicitDefEqProofs only[aY,aM,cH,cP,aA,↓aS,seval,KS]
     refine eE aO bF bG rfl rfl (fL (aM _) (cH _)) (d9 _) hb (by simp only[c8,aT,aX];omega) (by simp only[c8,aT,aX];omega) (fun b' hb'=>?_)
     rw[show(((vars.take i).map (rs σ)).map Tm.av)++ [(rs σ x).av]=((vars.take (i+1)).map (rs σ)).map Tm.av by rw[gC,hx];simp] at hb' ⊢
     simp -implicitDefEqProofs only[hw,aA,seval]
     exact⟨(),b',by rw[cS];exact hf,hb',aP.mk (by simp -implicitDefEqProofs only[aA,seval])⟩
   · rw[aE (by unfold eX at hf;simpa using hf)] at hr
     refine hr.to ?_
     simp -implicitDefEqProofs only[aM,cH,cP,aA,↓aS,seval,KS]
     have rT:jW σ vars=none:=by
      unfold jW
      rw[aE]
      rintro⟨h1,_⟩
      exact hf (eM.1 h1 _ (cY.2 ⟨x,hxm,rfl⟩))
     rw[rT]
     exact⟨rfl,aL.aV (aL.refl _) hb⟩
 · rw[fG] at hinv
   have hok:∀t∈vars.map (rs σ),bP N t:=fun t ht=>by
    obtain⟨v,hvm,rfl⟩:=cY.1 ht
    have hf:=eM.1 hinv _ ht
    unfold eX at hf
    simp only[cE,bK] at hf
    exact⟨G.m7 ho.m7 v (hv v hvm).1 (hv v hvm).2,hf.2⟩
   have hsz:bH Tm.nodes (vars.map (rs σ))≤1099511627776:=by
    have:=aPW (l:=vars.map (rs σ)) fun t ht=>(hok t ht).2
    rw[aF] at this
    omega
   simp -implicitDefEqProofs only[hge,eS,rP,jF,qO,I6,mV,fG,aA,seval]
   refine(SN (vars.map (rs σ)) _ hsz).to ?_
   simp -implicitDefEqProofs only[aF,aF,aA,seval,KS]
   refine aQ (fun h=>?_) (fun h=>?_)
   · simp -implicitDefEqProofs only[aA,seval]
     have h':¬(cF (vars.map (rs σ)) []).length≤26:=by simp at h;omega
     unfold jW
     rw[aE (fun hh=>h' hh.2)]
     exact⟨rfl,aL.refl _⟩
   · simp -implicitDefEqProofs only[aA,seval]
     have h':(cF (vars.map (rs σ)) []).length≤26:=by simp at h;omega
     refine(aYD (vars.map (rs σ)) (by rw[aF];omega) hsz (fun t ht=>(hok t ht).1.small) _).to ?_
     simp -implicitDefEqProofs only[aA,seval]
     unfold jW
     rw[aH ⟨hinv,h'⟩]
     exact⟨rfl,aL.refl _⟩
abbrev aR2:=zi tI_3 (zi zI_3 (zi aU (zi tI_4 (zi zI_4 (zi cI (zi tI_27 (zi zI_27 (zi eH (zi gK (zi gN (zi iJ (zi tI_28 (zi zI_28 (zi aO (zi bF (zi bG (zi bZ (zi tI_150 (zi zI_150 (zi tI_180 (zi zI_180 (zi tI_184 (zi zI_184 (zi IT (zi IU (zi IY (zi IZ (zi I0 (zi I1 (zi I2 (zi I3 (zi I4 (zi I5 (zi IV (zi IW H0)))))))))))))))))))))))))))))))))))
theorem aX7(p:List Cl)(q:List Tm)(fuel:Int)(idx:Bool)(hq:q.length≤1048576)(st:aB) :
 aD prog 122 [.slice (p.map a9),.slice (q.map Tm.av),.int .i64 fuel,.bool idx] st (fun r st'=>∃S c m,r=.ptr S 0∧dO st st' S c m (.fslice []) (.fslice []) (.fslice []) p q idx fuel 0 0 [] (pY q)):=by
 have C3:=fun st=>SG q 0 (-1) [] hq st
 simp only[iV] at C3
 rw[eY] at C3
 refine wF [1000000,16] 4 func122 ntmps122 rfl rfl ?_
 intro _
 simp -implicitDefEqProofs only[aA,seval]
 refine(aX8 st).mono ?_
 rintro _ s1 ⟨c,m,rfl,hS,hQ,hc,hm⟩
 simp -implicitDefEqProofs only[aA,seval,aR2]
 intro S hS0
 have hSc:S≠c:=by rintro rfl;rw[hS.sub.cells] at hS0;cases hS0
 have hSm:S≠m:=by rintro rfl;rw[hS.sub.map] at hS0;cases hS0
 refine(C3 _).to ?_
 obtain⟨l1,l2,l3,l4,l5,l6⟩:=qQ (q.map (fun t=>(⟨t,0,-1⟩:IG)))
 simp -implicitDefEqProofs only[aK,aB.aJ,l4,l5,aA,seval,aR2]
 refine⟨S,c,m,rfl,?_⟩
 have hcm:c≠m:=by rintro rfl;have:=hS.sub.cells;rw[hS.sub.map] at this;cases this
 have aNP:st S=none:=by
  cases hh:st S with
  | none=>rfl
  | some o=>have:=hQ.frame S o hh hSc hSm (by simp [dU]);rw[hS0] at this;cases this
 refine⟨aB.aJ _ _ _,hS.aC hSc hSm (by simp [dU]),.inl ⟨rfl,rfl⟩,.inl ⟨rfl,rfl⟩,rfl,by simp,?_,?_,?_⟩
 · simp [kD,dU,d5,hSc,hSm,hcm]
 · intro b hb
   rcases eO.1 hb with rfl | rfl | rfl | hb | hb | hb
   · exact aNP
   · exact hc
   · exact hm
   · simp [dU] at hb
   · simp [d5] at hb
   · simp [d5] at hb
 · intro b o hb
   have e1:b≠S:=by rintro rfl;rw[aNP] at hb;cases hb
   rw[aB.aG _ _ e1]
   exact hQ.frame b o hb (by rintro rfl;rw[hc] at hb;cases hb) (by rintro rfl;rw[hm] at hb;cases hb) (by simp [dU])
theorem aV5(p:List Cl)(q:List Tm)(most fuel:Int)(st:aB) :
 aD prog 121 [.slice (p.map a9),.slice (q.map Tm.av),.int .i64 most,.int .i64 fuel] st (fun r st'=>r=.bool (oJ p&&(kY q&&(decide (0≤most)&&(decide (most≤20)&&(decide (0≤fuel)&&decide (fuel≤300))))))∧st'=st):=by
 have h1:=fun st=>R6 p st
 have h2:=fun st=>R7 q st
 have h3:=fun n lo hi st=>zP n lo hi st
 refine wF [] 4 func121 ntmps121 rfl rfl ?_
 intro _
 simp -implicitDefEqProofs only[aA,seval]
 refine(h1 _).to ?_
 simp -implicitDefEqProofs only[aA,seval]
 refine cU (fun h=>?_) (fun h=>?_)
 · simp -implicitDefEqProofs only[h,aA,seval]
   refine(h2 _).to ?_
   simp -implicitDefEqProofs only[aA,seval]
   refine cU (fun h5=>?_) (fun h5=>?_)
   · simp -implicitDefEqProofs only[h5,aA,seval]
     refine(h3 _ _ _ _).to ?_
     simp -implicitDefEqProofs only[aA,seval]
     refine cU (fun h6=>?_) (fun h6=>?_)
     · simp -implicitDefEqProofs only[h6,aA,seval]
       refine(h3 _ _ _ _).to ?_
       simp -implicitDefEqProofs only[aA,seval]
       rw[←Bool.and_assoc (decide (0≤most)),h6,eP]
     · simp -implicitDefEqProofs only[h6,aA,seval]
       rw[←Bool.and_assoc (decide (0≤most)),h6]
       try rfl
   · simp -implicitDefEqProofs only[h5,aA,seval]
     rw[g9]
 · simp -implicitDefEqProofs only[h,aA,seval]
   rw[g9]
theorem aYI(st:aB):aD prog 124 [] st (fun r st'=>r=.tup []∧st'=st):=by
 refine wF [1000000] 0 func124 ntmps124 rfl rfl ?_
 intro _
 simp -implicitDefEqProofs only[aA,seval,]
structure QV where
 st:aB
 qt:AV
 qc:AV
 qn:AV
 mx:Int
 nd:List AV
 s:RS
 i:IS
 out:List (List Tm)
 b:Nat
 u:Nat
 B:Nat
 M:Nat
 e:Int
structure aTK (st0:aB) (S c m:Nat) (p:List Cl) (q:List Tm) (idx:Bool) (cnd:Tm→List Nat→List Nat) (vars:List Int) (most fuel:Nat) (T:List (List Tm)×Int) (x:QV):Prop where
 a:dO st0 x.st S c m x.qt x.qc x.qn p q idx fuel x.u x.mx x.nd x.i
 r:RI p x.B x.M x.u x.s x.i
 t:T=(x.out++(kM p cnd vars (most - x.out.length) (fuel - x.u) x.i).1,(kM p cnd vars (most - x.out.length) (fuel - x.u) x.i).2)
 u:x.u≤fuel
 B:x.B≤26+26*x.u
 M:x.M≤26+520*x.u
structure YG (st0:aB) (S c m:Nat) (p:List Cl) (q:List Tm) (idx:Bool) (cnd:Tm→List Nat→List Nat) (vars:List Int) (most fuel:Nat) (T:List (List Tm)×Int) (x:QV):Prop where
 d:aL x.st st0
 b:x.out.map cD≠[]→x.st x.b=none
 l:x.out.length≤most
 g:x.e= -1→aTK st0 S c m p q idx cnd vars most fuel T x
 f:x.e≠-1→T=(x.out,x.e)
abbrev O9:=zi tI_3 (zi zI_3 (zi aU (zi tI_4 (zi zI_4 (zi cI (zi tI_28 (zi zI_28 (zi aO (zi bF (zi bG (zi bZ (zi tI_31 (zi zI_31 (zi gM (zi jX (zi jY (zi lX (zi tI_40 (zi zI_40 (zi dT (zi fJ (zi fK (zi fU (zi tI_55 (zi zI_55 (zi CL (zi B1 (zi tI_150 (zi zI_150 (zi tI_178 (zi zI_178 (zi tI_180 (zi zI_180 (zi tI_184 (zi zI_184 (zi IT (zi IU (zi IY (zi IZ (zi I0 (zi I1 (zi I2 (zi I3 (zi I4 (zi I5 (zi IV (zi IW H0)))))))))))))))))))))))))))))))))))))))))))))))
set_option maxHeartbeats 2000000 in
theorem aYF{p:List Cl}(hp:∀c∈p,iC c∧c.2.length≤6)(hpl:p.length≤20){cnd:Tm→List Nat→List Nat}(hc:∀(ρ:Int→Int) (t:Tm) (l:List Nat),cnd (cC ρ t) l=cnd t l)(hd:∀t l,(∀i∈cnd t l,i∈l)∧(cnd t l).length≤l.length){idx:Bool}(sU:QF p idx cnd)(CX:idx=false)
 {q:List Tm} (hq:∀t∈q,bP 26 t∧t.k=3) (h6:q.length≤6) {most fuel:Nat} (hm:most≤20) (hf:fuel≤300) {st0 st:aB} {S c m:Nat} (h:dO st0 st S c m (.fslice []) (.fslice []) (.fslice []) p q idx fuel 0 0 [] (pY q)) :
 aD prog 123 [.ptr S 0,.int .i64 (most:Int),.func 124 []] st (fun r st'=>∃b s,r=.tup [aZ 1 b ((kM p cnd (cF q []) most fuel (pY q)).1.map cD),.int .i64 (kM p cnd (cF q []) most fuel (pY q)).2]∧st'=aV s b ((kM p cnd (cF q []) most fuel (pY q)).1.map cD)∧((kM p cnd (cF q []) most fuel (pY q)).1.map cD≠[]→s b=none)∧aL s st0):=by
 have hnd:bH Tm.nodes q≤1099511627776:=by
  have:=FY q fun t ht=>(hq t ht).1.2
  omega
 have hva:=fun st=>SN q st hnd
 have hv:∀v∈cF q [],0≤v∧v<26:=fun v hv=>by
  rcases (A5 q [] fun t ht=>(hq t ht).1.1.2.1).1 hv with h | ⟨t,ht,h⟩
  · cases h
  · exact(hq t ht).1.1.2.2 v h
 have hvl:(cF q []).length≤1000:=by
  have h1:=A4 q []
  have h2:=FY q fun t ht=>(hq t ht).1.2
  simp only[aX] at h1
  omega
 have N2:=RI.start (p:=p) hq h6
 generalize hT:kM p cnd (cF q []) most fuel (pY q)=T
 generalize cF q []=vars at *
 have hI0:YG st0 S c m p q idx cnd vars most fuel T ⟨st,.fslice [],.fslice [],.fslice [],0,[],lL q,pY q,[],0,0,26,26,-1⟩:=
  ⟨h.xF,by simp,jU _,fun _=>⟨h,N2,by rw[←hT];try rfl,jU _,dC _,dC _⟩,fun h=>absurd rfl h⟩
 have UD:=h.cell
 simp only[jC] at UD
 obtain⟨l1,l2,l3,l4,l5,l6⟩:=qQ (pY q).goals
 refine wF [1000000] 3 func123 ntmps123 rfl rfl ?_
 intro _
 simp -implicitDefEqProofs only[UD,aA,seval,O9]
 refine(hva _).to ?_
 simp -implicitDefEqProofs only[aA,seval]
 clear UD l1 l2 l3 l4 l5 l6
 have hne:∀l:List IG,eN prog .neq 180 (eY l) .nilptr=some (.bool (!l.isEmpty)):=fun l=>by
  have h:prog.underlying 180=some (.pointer 211):=by kernel_rfl
  cases l with
  | nil=>rw[eY];simp only[eN,h];rfl
  | cons g l=>obtain⟨⟨k,n,s,ts⟩,cut,up⟩:=g;rw[uF];simp only[eN,h];rfl
 refine iT (σ:=QV) [1000000] [0,1,2,8] (fun x=>YG st0 S c m p q idx cnd vars most fuel T x)
  (fun x=>[(6,.fslice []),(7,.int .i64 0),(9,aZ 1 x.b (x.out.map cD)),(10,.int .i64 x.e)])
  (fun x=>aV x.st x.b (x.out.map cD))
  (fun x=>(most - x.out.length)+(fuel - x.u)+(if x.e= -1 then 1 else 0)) (by decide +kernel) ⟨_,hI0,aP.mk (by simp -implicitDefEqProofs only[jV,aW,aA,seval])⟩ ?_
 clear hI0 h hT N2
 rintro⟨st,qt,qc,qn,mx,nd,s,i,out,b,u,B,M,e⟩ ⟨hdr,hb,hlen,hgo,fW⟩
 simp only at hdr hb hlen hgo fW
 simp only
 simp -implicitDefEqProofs only[aA,seval]
 refine aQ (fun h=>?_) (fun h=>?_)
 case refine_2=>
  have h':e≠-1:=by simpa using h
  have hTe:=fW h'
  subst hTe
  simp -implicitDefEqProofs only[nM,aA,seval]
  exact⟨b,st,rfl,rfl,hb,hdr⟩
 obtain rfl:e= -1:=by simpa using h
 obtain⟨ha,hR,ht,hu,hBB,hMM⟩:=hgo rfl
 simp only at ha hR ht hu hBB hMM
 have hb0:out.map cD≠[]→st0 b=none:=fun h=>(hdr b).1 (hb h)
 have hA:=ha.acc hb
 have hlo:(out.map cD).length=out.length:=aF _
 have hun:prog.underlying 31=some (.slice 55):=by kernel_rfl
 have v8:=vO (w:=1) (b:=b) (l:=out.map cD) hun
 rw[hlo] at v8
 have N3:∀l:List (List Tm),∀e∈l.map cD,e.width=1:=fun l e he=>by simp only[cY] at he;obtain⟨t,_,rfl⟩:=he;rfl
 have gO:=hA.cell
 simp only[jC] at gO
 obtain⟨l1,l2,l3,l4,l5,l6⟩:=qQ i.goals
 have xT:=hne i.goals
 simp -implicitDefEqProofs only[aA,seval]
 refine(aYI _).to ?_
 simp -implicitDefEqProofs only[gO,l1,xT,aA,seval,O9]
 cases hg:i.goals with
 | cons g rest=>
  rw[hg] at xT
  simp only[List.isEmpty_cons,oU] at xT
  refine aQ (fun h2=>?_) (fun h2=>absurd h2 (by first | rw[hg];simp | simp))
  simp -implicitDefEqProofs only[aA,seval]
  rw[a29 hg] at ht
  have jG:=aYN hp hpl hc hd sU CX (B:=B) (M:=M) (k:=u) (by omega) (by omega) (by omega) hA hR hg (by omega) (by omega)
  have hRs:=hR.step hp hpl hc hd (by omega) hg
  have hse:=a3D (p:=p) (cnd:=cnd) (i:=i) (g:=g) (rest:=rest)
  refine jG.mono ?_
  clear jG
  rintro r s2 hr
  split at hr
  · rename_i hfu
    obtain⟨rfl,hA2⟩:=hr
    obtain⟨s3,rfl,hb3,hA3⟩:=hA2.D1 hb0
    rw[aH (by omega)] at ht
    simp -implicitDefEqProofs only[aA,seval]
    exact⟨⟨s3,qt,qc,qn,mx,nd,s,i,out,b,u,B,M,2⟩,by simp,⟨hA3.xF,hb3,hlen,fun h=>absurd h (by simp),fun _=>by rw[ht];simp⟩,aP.mk (by simp -implicitDefEqProofs only[aA,seval])⟩
  · rename_i hfu
    have bAK:u<fuel:=by omega
    rw[aE (by omega)] at ht
    cases hS:mY p cnd i g rest with
    | stop e=>
     rw[hS] at hr ht hse
     simp only[YI] at hse
     simp only at ht
     obtain⟨rfl,qt2,qc2,qn2,mx2,nd2,i2,hA2⟩:=hr
     obtain⟨s3,rfl,hb3,hA3⟩:=hA2.D1 hb0
     simp -implicitDefEqProofs only[aA,seval]
     exact⟨⟨s3,qt,qc,qn,mx,nd,s,i,out,b,u,B,M,e⟩,by simp [hse],⟨hA3.xF,hb3,hlen,fun h=>absurd h hse,fun _=>by rw[ht];simp⟩,aP.mk (by simp -implicitDefEqProofs only[aA,seval])⟩
    | go i'=>
     rw[hS] at hr ht hRs
     simp only at ht hRs
     obtain⟨s',hR'⟩:=hRs
     obtain⟨rfl,qt2,qc2,qn2,mx2,nd2,hA2⟩:=hr
     obtain⟨s3,rfl,hb3,hA3⟩:=hA2.D1 hb0
     simp -implicitDefEqProofs only[aA,seval]
     exact⟨⟨s3,qt2,qc2,qn2,mx2,nd2,s',i',out,b,u+1,B+26,M+520,-1⟩,by simp;omega,⟨hA3.xF,hb3,hlen,fun _=>⟨hA3,hR',by rw[ht,Nat.sub_sub],by simp only;omega,by simp only;omega,by simp only;omega⟩,fun h=>absurd rfl h⟩,aP.mk (by simp -implicitDefEqProofs only[aA,seval])⟩
    | fail i'=>
     rw[hS] at hr ht hRs
     simp only[LR] at ht hRs hr
     obtain⟨_,_,_,hRb⟩:=hRs
     cases hbk:iY p i'.chs.length i' with
     | none=>
      rw[hbk] at hr ht
      simp only at ht
      obtain⟨rfl,qt2,qc2,qn2,mx2,nd2,i2,hA2⟩:=hr
      obtain⟨s3,rfl,hb3,hA3⟩:=hA2.D1 hb0
      simp -implicitDefEqProofs only[aA,seval]
      exact⟨⟨s3,qt,qc,qn,mx,nd,s,i,out,b,u,B,M,0⟩,by simp,⟨hA3.xF,hb3,hlen,fun h=>absurd h (by simp),fun _=>by rw[ht];simp⟩,aP.mk (by simp -implicitDefEqProofs only[aA,seval])⟩
     | some i2=>
      rw[hbk] at hr ht
      simp only at ht
      obtain⟨s',hR'⟩:=hRb i2 hbk
      obtain⟨rfl,qt2,qc2,qn2,mx2,nd2,hA2⟩:=hr
      obtain⟨s3,rfl,hb3,hA3⟩:=hA2.D1 hb0
      simp -implicitDefEqProofs only[aA,seval]
      exact⟨⟨s3,qt2,qc2,qn2,mx2,nd2,s',i2,out,b,u+1,B+26,M+520,-1⟩,by simp;omega,⟨hA3.xF,hb3,hlen,fun _=>⟨hA3,hR',by rw[ht,Nat.sub_sub],by simp only;omega,by simp only;omega,by simp only;omega⟩,fun h=>absurd rfl h⟩,aP.mk (by simp -implicitDefEqProofs only[aA,seval])⟩
 | nil=>
  rw[hg] at xT
  simp only[List.isEmpty_nil,pM] at xT
  refine aQ (fun h2=>absurd h2 (by first | rw[hg];simp | simp)) (fun h2=>?_)
  simp -implicitDefEqProofs only[v8,aA,seval]
  rw[a3A hg] at ht
  refine aQ (fun h2=>?_) (fun h2=>?_)
  · have h':out.length=most:=by simp at h2;omega
    rw[aH (by omega)] at ht
    simp -implicitDefEqProofs only[nM,aA,seval]
    have hTe:T=(out,1):=by rw[ht];simp
    subst hTe
    exact⟨b,st,rfl,rfl,hb,hdr⟩
  have h':out.length<most:=by simp at h2;omega
  rw[aE (by omega)] at ht
  simp -implicitDefEqProofs only[gO,hg,aA,seval,O9]
  obtain⟨hgd,ho,_,_⟩:=hR.r.facts
  have hfr:26≤i.fresh:=by
   obtain⟨ρ,S',_⟩:=hR.r
   have h1:=S'.rng 25 (by omega) (by have:=S'.h26;omega)
   rw[S'.idn 25 (by omega) (by omega)] at h1
   omega
  refine(aYQ (N:=i.fresh) hgd ho vars (fun v h=>⟨(hv v h).1,by have:=(hv v h).2;omega⟩) hvl c m qt _ hA.sto.sub).to ?_
  cases rT:jW i.σ vars with
  | none=>
   rw[rT] at ht
   simp only[XX]
   simp only at ht
   simp -implicitDefEqProofs only[nM,aA,seval]
   have hTe:T=(out,3):=by rw[ht];simp
   subst hTe
   exact⟨b,st,rfl,rfl,hb,hdr⟩
  | some a=>
   rw[rT] at ht
   simp only[XX]
   simp only at ht
   simp -implicitDefEqProofs only[aA,seval,O9]
   refine eE (P:=prog) (b:=b) (l:=out.map cD) (xs:=[cD a]) gM jX jY rfl rfl (fL rfl rfl) (N3 out) hb (by simp only[aT,aX,hlo];omega) (by simp only[aT,aX,hlo];omega) (fun b' hb'=>?_)
   rw[show(out.map cD)++ [cD a]=(out++ [a]).map cD by simp] at hb' ⊢
   have hA':=ha.acc hb'
   have aNX:(out++ [a]).map cD≠[]→st0 b'=none:=fun h=>(hdr b').1 (hb' h)
   have a1C:=hA'.cell
   simp only[jC] at a1C
   simp -implicitDefEqProofs only[aA,seval]
   have hbk:=R5 hp (M:=M) (by omega) _ qt qc qn mx nd i s.chs (st0:=aV st0 b' ((out++ [a]).map cD)) (S:=S) (c:=c) (m:=m) (q:=q) (idx:=idx) (fuel:=fuel) (used:=u) (T:=iY p i.chs.length i) ⟨hA',hR.cr,hR.x,rfl,by have:=hR.rN;have:=hR.n;constructor<;>omega⟩
   refine hbk.mono ?_
   rintro r s2 hr
   have hln:(out++ [a]).length=out.length+1:=by simp
   cases hbk:iY p i.chs.length i with
   | none=>
    rw[hbk] at hr ht
    simp only at ht
    obtain⟨rfl,qt2,qc2,qn2,mx2,nd2,i2,hA2⟩:=hr
    obtain⟨s3,rfl,hb3,hA3⟩:=hA2.D1 aNX
    simp -implicitDefEqProofs only[aA,seval]
    exact⟨⟨s3,qt,qc,qn,mx,nd,s,i,out++ [a],b',u,B,M,0⟩,by simp only[hln];simp;omega,⟨hA3.xF,hb3,by simp only[hln];omega,fun h=>absurd h (by simp),fun _=>by rw[ht]⟩,aP.mk (by simp -implicitDefEqProofs only[aA,seval])⟩
   | some i2=>
    rw[hbk] at hr ht
    simp only at ht
    obtain⟨s',hR'⟩:=hR.back hp (by omega) hbk
    obtain⟨rfl,qt2,qc2,qn2,mx2,nd2,hA2⟩:=hr
    obtain⟨s3,rfl,hb3,hA3⟩:=hA2.D1 aNX
    simp -implicitDefEqProofs only[aA,seval]
    exact⟨⟨s3,qt2,qc2,qn2,mx2,nd2,s',i2,out++ [a],b',u,B,M,-1⟩,by simp [hln];omega,⟨hA3.xF,hb3,by simp only[hln];omega,fun _=>⟨hA3,hR',by rw[ht];simp only[hln,nE,fE,eD,Nat.sub_sub],hu,hBB,hMM⟩,fun h=>absurd rfl h⟩,aP.mk (by simp -implicitDefEqProofs only[aA,seval])⟩
end Go.AW
namespace Go.AW
def X3(vars:List Int)(a:List Tm):Prop:=a.length=vars.length∧a.all Tm.valid=true
theorem aUE{N:Nat}{σ:Sub}(hg:cX σ)(ho:c9 (bP N) σ){vars:List Int}(hv:∀v∈vars,0≤v∧v<(N:Int)){a:List Tm}(h:jW σ vars=some a):X3 vars a:=by
 obtain⟨rk,B,G⟩:=hg.rs
 unfold jW at h
 split at h
 · rename_i hh
   cases h
   obtain⟨h1,h2⟩:=hh
   have hok:∀t∈vars.map (rs σ),bP N t:=fun t ht=>by
    obtain⟨v,hvm,rfl⟩:=cY.1 ht
    have hf:=eM.1 h1 _ ht
    unfold eX at hf
    simp only[cE,bK] at hf
    exact⟨G.m7 ho.m7 v (hv v hvm).1 (hv v hvm).2,hf.2⟩
   exact⟨by rw[a5X hok,aF],by rw[aQE hok h1,bK];exact h2⟩
 · cases h
theorem a5J{p:List Cl}(hp:∀c∈p,iC c∧c.2.length≤6)(hpl:p.length≤20){cnd:Tm→List Nat→List Nat}(hd:∀t l,(∀i∈cnd t l,i∈l)∧(cnd t l).length≤l.length){vars:List Int}(hv:∀v∈vars,0≤v∧v<26) :
 ∀(n most fuel:Nat) (s:RS) (B:Nat),most+fuel≤n→nH p B s→B+26*fuel≤8000→(iZ p cnd vars most fuel s).1.length≤most∧∀a∈(iZ p cnd vars most fuel s).1,X3 vars a:=by
 intro n
 induction n with
 | zero=>
  intro most fuel s B hn hs hB
  obtain rfl:most=0:=by omega
  obtain rfl:fuel=0:=by omega
  cases hg:s.goals with
  | nil=>rw[rA hg];simp
  | cons g rest=>rw[oK hg];simp
 | succ n ih=>
  intro most fuel s B hn hs hB
  cases hg:s.goals with
  | nil=>
   rw[rA hg]
   by_cases hm:most=0
   · rw[aH hm];simp
   rw[aE hm]
   cases ha:jW s.σ vars with
   | none=>simp
   | some a=>
    have hok:=aUE hs.a.iR hs.a.ok (fun v h=>⟨(hv v h).1,by have:=(hv v h).2;have:=hs.l.1;omega⟩) ha
    simp only
    cases hb:fM p s.chs.length s.chs with
    | none=>
     simp only[aT,aX,dB,dV,eA]
     exact⟨by omega,fun x hx=>by rw[hx];exact hok⟩
    | some s'=>
     obtain⟨h1,h2⟩:=ih (most - 1) fuel s' B (by omega) (hs.back hp (by omega) hb) hB
     simp only[aT,dB]
     refine⟨by omega,fun x hx=>?_⟩
     rcases hx with rfl | hx
     · exact hok
     · exact h2 x hx
  | cons g rest=>
   rw[oK hg]
   by_cases hf:fuel=0
   · rw[aH hf];simp
   rw[aE hf]
   cases hst:iF p cnd s g rest with
   | stop e=>simp
   | go s'=>exact ih most (fuel - 1) s' (B+26) (by omega) (hs.step hp (by omega) (by omega) hd hg hst) (by omega)
   | fail=>
    simp only
    cases hb:fM p s.chs.length s.chs with
    | none=>simp
    | some s'=>exact ih most (fuel - 1) s' B (by omega) (hs.back hp (by omega) hb) (by omega)
theorem a5F{q:List Tm}(hq:∀t∈q,bP 26 t∧t.k=3):(∀v∈cF q [],0≤v∧v<26)∧(cF q []).length≤26:=by
 have hv:∀v∈cF q [],0≤v∧v<26:=fun v hv=>by
  rcases (A5 q [] fun t ht=>(hq t ht).1.1.2.1).1 hv with h | ⟨t,ht,h⟩
  · cases h
  · exact(hq t ht).1.1.2.2 v h
 refine⟨hv,?_⟩
 have hnd:=PY q [] (fun t ht=>Tm.vV t (hq t ht).1.1.2.1) mK
 exact FZ (N:=26) hnd fun n hn=>hv n hn
theorem WO(p:List Cl){cnd:Tm→List Nat→List Nat}(hd:∀t l,(∀i∈cnd t l,i∈l)∧(cnd t l).length≤l.length)(q:List Tm)(most fuel:Int):(d8 p cnd q most fuel).1.length≤20∧∀a∈(d8 p cnd q most fuel).1,a.length≤26∧a.all Tm.valid=true:=by
 unfold d8
 split
 · rename_i h
   simp only[gH,cE,bK] at h
   obtain⟨hp,hq,h1,h2,h3,h4⟩:=h
   obtain⟨p1,p2⟩:=OL hp
   obtain⟨q1,q2⟩:=J6 hq
   obtain⟨v1,v2⟩:=a5F q2
   obtain⟨r1,r2⟩:=a5J p2 p1 hd v1 _ most.toNat fuel.toNat (lL q) 26 (dC _) (nH.start q2 q1) (by omega)
   unfold uV
   refine⟨by omega,fun a ha=>?_⟩
   obtain⟨h5,h6⟩:=r2 a ha
   exact⟨by omega,h6⟩
 · simp
theorem a4O(t:Tm):t.uS=3*t.nodes:=by
 induction t using Tm.ind with
 | h k n s ts ih=>
  rw[Tm.a4N,Tm.iS]
  have:∀l:List Tm,(∀t∈l,t.uS=3*t.nodes)→bH Tm.uS l=3*bH Tm.nodes l:=by
   intro l
   induction l with
   | nil=>intro _;rfl
   | cons x l ih2=>intro h;simp only[bH,h x (by simp),ih2 fun y hy=>h y (by simp [hy])];omega
  rw[this ts ih];omega
theorem ZD:∀ {a:List Tm},a.all Tm.valid=true→bH Tm.uS a≤360*a.length
 | [],_=>by simp [bH]
 | t::a,h=>by
  simp only[k0,cE] at h
  have h1:=ZD h.2
  have h2:=Tm.LE h.1
  simp only[bH,a4O t,aT]
  omega
theorem ZE:∀ {l:List (List Tm)},(∀a∈l,a.length≤26∧a.all Tm.valid=true)→bH (fun a=>bH Tm.uS a) l≤9360*l.length
 | [],_=>by simp [bH]
 | a::l,h=>by
  have h1:=ZE (l:=l) fun x hx=>h x (by simp [hx])
  obtain⟨h2,h3⟩:=h a (by simp)
  have h4:=ZD h3
  simp only[bH,aT]
  omega
end Go.AW
namespace Go.AW
open Go.Proofs.Tryz
theorem k6.VP{st st':aB}{a o:AV}{k:IntKind}{n:Int}(h:Made st a o st'):k6 st [a,.int k n] (.tup [o,.int k n]) st':=by
 obtain⟨bs,h1,h2,h3,h4⟩:=h
 exact⟨_,bs,rfl,h1,h2,J3.2 ⟨o,.int k n,bs,[],rfl,by simp,h3,⟨rfl,rfl⟩⟩,h4⟩
def QS(st:aB)(L:List AV)(e:Int)(r:AV)(st':aB):Prop:=∃o,r=.tup [o,.int .i64 e]∧Made st (.slice L) o st'∧(L= []→o=.fslice [])
structure vJ (st:aB) (L:List AV) (b i:Nat) (os:List AV) (bs:List Nat) (s:aB):Prop where
 len:os.length=i
 own:bA s (L.take i) os bs
 nd:bs.Nodup
 new:∀q∈bs,st q=none
 bn:L≠[]→b∉bs
 cell:L≠[]→s b=some (.cells (os.flatMap AV.cells++(L.drop i).flatMap AV.cells))
 a7:∀q,q∉bs→(L≠[]→q≠b)→s q=st q
theorem vJ.start{st:aB}{L:List AV}{b:Nat}:vJ st L b 0 [] [] (aV st b L):=by
 refine⟨rfl,by simp [bA],mK,by simp,by simp,fun h=>?_,fun q _ h=>?_⟩
 · rw[jD h,aB.aJ];try rfl
 · cases L with
   | nil=>rfl
   | cons x l=>exact nL (h (by simp))
theorem vJ.done{st s:aB}{L os:List AV}{b w:Nat}{bs:List Nat}(h:vJ st L b L.length os bs s)(hb:L≠[]→st b=none)(hw:∀e∈L,e.width=w):Made st (.slice L) (aZ w b L) s:=by
 obtain⟨h1,h2,h3,h4,h5,h6,h7⟩:=h
 rw[fG] at h2
 by_cases hL:L= []
 · subst hL
   simp only[bA] at h2
   obtain⟨rfl,rfl⟩:=h2
   exact⟨[],mK,by simp,.inl ⟨rfl,rfl,rfl⟩,fun q hq=>h7 q hq (fun h=>absurd rfl h)⟩
 · refine⟨b::bs,HA.2 ⟨h5 hL,h3⟩,fun q hq=>?_,?_,fun q hq=>?_⟩
   · rcases dB.1 hq with rfl | hq
     · exact hb hL
     · exact h4 q hq
   · rw[pQ hL]
     refine .inr ⟨b,bs,os,w,rfl,rfl,?_,h2,hw⟩
     have:=h6 hL
     rw[lH] at this
     simpa using this
   · simp only[dB,oG] at hq
     exact h7 q hq.2 fun _=>hq.1
theorem vJ.step{st s s2:aB}{L os B:List AV}{b i:Nat}{bs bx:List Nat}{e r:AV}(h:vJ st L b i os bs s)(he:L[i]?=some (.agg [e]))(hB:(L.drop (i+1)).flatMap AV.cells=B)(m1:bx.Nodup)(m2:∀q∈bx,s q=none)(m3:bL s2 e r bx)(m4:∀q,q∉bx→s2 q=s q) :
 vJ st L b (i+1) (os++ [.agg [r]]) (bs++bx) (s2.aC b (.cells (os.flatMap AV.cells++ [r]++B))):=by
 obtain⟨h1,h2,h3,h4,h5,h6,h7⟩:=h
 have hi:i<L.length:=(gW.1 he).1
 have hL:L≠[]:=by rintro rfl;simp at hi
 have AA:=bA.gV _ _ _ h2
 have sV:∀q∈bs,s q≠none:=fun q hq=>by obtain⟨cs,e1,_⟩:=AA.2 q hq;rw[e1];simp
 have hsb:=h6 hL
 have hbx:b∉bx:=fun hq=>by have:=m2 b hq;rw[hsb] at this;cases this
 have qS:∀q∈bs,q∉bx:=fun q hq hq'=>sV q hq (m2 q hq')
 have hbs:∀q∈bs,(s2.aC b (.cells (os.flatMap AV.cells++ [r]++B))) q=s q:=fun q hq=>by
  rw[aB.aG _ _ (by rintro rfl;exact h5 hL hq),m4 q (qS q hq)]
 refine⟨by simp [h1],?_,n6.2 ⟨h3,m1,fun a ha c hc e=>qS a ha (e▸hc)⟩,fun q hq=>?_,fun _ hq=>?_,fun _=>?_,fun q hq hne=>?_⟩
 · rw[gC,he,HF]
   refine h2.snoc hbs ?_
   refine aP1.2 ⟨r,rfl,bL.a7 _ _ _ (fun x hx=>?_) m3⟩
   exact aB.aG _ _ (by rintro rfl;exact hbx hx)
 · rcases eK.1 hq with hq | hq
   · exact h4 q hq
   · have h8:q∉bs:=fun h=>qS q h hq
     have h9:q≠b:=by rintro rfl;exact hbx hq
     rw[←h7 q h8 fun _=>h9]
     exact m2 q hq
 · rcases eK.1 hq with hq | hq
   · exact h5 hL hq
   · exact hbx hq
 · rw[aB.aJ,hB]
   simp [AV.cells]
 · simp only[eK,oG] at hq
   rw[aB.aG _ _ (hne hL),m4 q hq.2,h7 q hq.1 hne]
abbrev aR3:=zi tI_3 (zi zI_3 (zi aU (zi tI_4 (zi zI_4 (zi cI (zi tI_27 (zi zI_27 (zi eH (zi gK (zi gN (zi iJ (zi tI_28 (zi zI_28 (zi aO (zi bF (zi bG (zi bZ (zi tI_31 (zi zI_31 (zi gM (zi jX (zi jY (zi lX (zi tI_55 (zi zI_55 (zi CL (zi B1 (zi tI_150 zI_150))))))))))))))))))))))))))))
set_option maxHeartbeats 2000000 in
theorem aWN(p:List Cl){cnd:Tm→List Nat→List Nat}(hc:∀(ρ:Int→Int) (t:Tm) (l:List Nat),cnd (cC ρ t) l=cnd t l)(hd:∀t l,(∀i∈cnd t l,i∈l)∧(cnd t l).length≤l.length){idx:Bool}(sU:QF p idx cnd)(CX:idx=false)
 (q:List Tm) (most fuel:Int) (st:aB) :
 aD prog 77 [.slice (p.map a9),.slice (q.map Tm.av),.int .i64 most,.int .i64 fuel,.bool idx] st (QS st ((d8 p cnd q most fuel).1.map cD) (d8 p cnd q most fuel).2):=by
 have xR:=aV5 p q most fuel
 have JB:=WO p hd q most fuel
 refine wF [1000000] 5 func77 ntmps77 rfl rfl ?_
 intro _
 simp -implicitDefEqProofs only[aA,seval]
 refine(xR _).to ?_
 simp -implicitDefEqProofs only[aA,seval]
 refine aQ (fun h=>?_) (fun h=>?_)
 · have hS:d8 p cnd q most fuel=([],9):=by
    unfold d8
    rw[aE (by rw[show gH p q most fuel=false from by unfold gH;simpa only[lT] using h];simp)]
   rw[hS]
   simp -implicitDefEqProofs only[aA,seval]
   exact⟨_,rfl,⟨[],mK,by simp,.inl ⟨rfl,rfl,rfl⟩,fun _ _=>rfl⟩,fun _=>rfl⟩
 have hok:gH p q most fuel=true:=by unfold gH;simpa using h
 have hk:=hok
 simp only[gH,cE,bK] at hk
 obtain⟨kp,kq,k1,k2,k3,k4⟩:=hk
 obtain⟨p1,p2⟩:=OL kp
 obtain⟨q1,q2⟩:=J6 kq
 have hTT:d8 p cnd q most fuel=kM p cnd (cF q []) most.toNat fuel.toNat (pY q):=by
  unfold d8
  rw[aH hok,a6W (fun c h=>(p2 c h).1) hc q2]
 rw[hTT] at JB ⊢
 clear hTT xR hok h
 obtain⟨mo,rfl⟩:=qF k1
 obtain⟨fu,rfl⟩:=qF k3
 rw[jT,jT] at JB ⊢
 simp -implicitDefEqProofs only[aA,seval]
 refine(aX7 p q (fu:Int) idx (by omega) st).mono ?_
 rintro _ s1 ⟨S,c,m,rfl,hA⟩
 simp -implicitDefEqProofs only[aA,seval]
 refine(aYF p2 p1 hc hd sU CX q2 q1 (most:=mo) (fuel:=fu) (by omega) (by omega) hA).mono ?_
 generalize kM p cnd (cF q []) mo fu (pY q)=T at JB ⊢
 rintro _ _ ⟨b,s2,rfl,rfl,hb,hD⟩
 obtain⟨L,e⟩:=T
 simp only at JB hb ⊢
 have hb':L.map cD≠[]→st b=none:=fun h=>(hD b).1 (hb h)
 have hun:prog.underlying 31=some (.slice 55):=by kernel_rfl
 have v8:=vO (w:=1) (b:=b) (l:=L.map cD) hun
 rw[aF] at v8
 have hwd:∀e∈L.map cD,e.width=1:=fun e he=>by simp only[cY] at he;obtain⟨t,_,rfl⟩:=he;rfl
 simp -implicitDefEqProofs only[v8,aA,seval]
 refine eL (σ:=List AV×List Nat×aB) [1000000] [10,11,12,13,32,33] L (fun j x=>vJ st (L.map cD) b j x.1 x.2.1 x.2.2) (fun j x=>[(34,.int .i64 j)]) (fun j x=>x.2.2) (by decide +kernel) ⟨([],[],aV st b (L.map cD)),vJ.start,aP.drop (S5 hD) (by simp -implicitDefEqProofs only[aA,↓aS,seval])⟩ (fun j a x hx hlt bR hdr hinv=>?_) (fun x hge hinv=>?_)
 case refine_2=>
  simp -implicitDefEqProofs only[hge,nM,aA,seval]
  have a10:vJ st (L.map cD) b (L.map cD).length x.1 x.2.1 x.2.2:=by rw[aF];exact hinv
  exact⟨_,rfl,a10.done hb' hwd,fun h=>by rw[h];try rfl⟩
 obtain⟨os,bs,s⟩:=x
 simp only at hinv
 have hw:=bO (n:=(j:Int)+1)
 have hne:L.map cD≠[]:=by intro h;have:=oC List.length h;simp at this;subst this;simp at hlt
 have z9:(L.map cD)[j]?=some (.agg [.slice (a.map Tm.av)]):=by rw[oX,hx];try rfl
 have hc2:=hinv.cell hne
 have a1M:((L.map cD).drop j).flatMap AV.cells= [.slice (a.map Tm.av)]++((L.map cD).drop (j+1)).flatMap AV.cells:=by
  rw[←yW,hdr,bB,vL,yW];try rfl
 rw[a1M,←nE] at hc2
 have hA2:(os.flatMap AV.cells).length=j*1:=by
  rw[hinv.own.aM9 (fun q hq=>hwd q (mJ hq)),eC,aF,mL (by omega)]
 obtain⟨e1,e2,e3,e4,e5,e6⟩:=VJ (B:=((L.map cD).drop (j+1)).flatMap AV.cells) hA2
 have hat:=CW (P:=prog) (b:=b) (w:=1) (i:=j) gM (len:=(L.map cD).length) (by rw[aF];omega)
 have htk:List.take 1 (List.drop (j*1) (os.flatMap AV.cells++ [.slice (a.map Tm.av)]++((L.map cD).drop (j+1)).flatMap AV.cells))= [.slice (a.map Tm.av)]:=by
  rw[nE,List.drop_append,List.drop_of_length_le (by omega),hA2]
  simp
 obtain⟨hal,hav⟩:=JB.2 a (dA hx)
 rw[pQ hne] at v8 ⊢
 rw[aF] at hat v8 ⊢
 simp -implicitDefEqProofs only[bR,hat,hc2,htk,e5,aA,↓aS,seval,aR3]
 refine(J1 a _ (by omega) fun x hx s=>F0 x s (Tm.P8 (eM.1 hav x hx))).mono ?_
 rintro r s3 ⟨bx,m1,m2,m3,m4⟩
 have hbx:b∉bx:=fun h=>by have:=m2 b h;rw[hc2] at this;cases this
 have f1:=(m4 b hbx).trans hc2
 obtain⟨hqc,hqs,hqa,hqw,hqj⟩:=bL.nT m3
 simp -implicitDefEqProofs only[hat,f1,hqc,hqs,e4,e5,HD,List.set_cons_zero,aA,seval,aR3]
 exact⟨(os++ [.agg [r]],bs++bx,s3.aC b (.cells (os.flatMap AV.cells++ [r]++((L.map cD).drop (j+1)).flatMap AV.cells))),hinv.step z9 rfl m1 m2 m3 m4,aP.mk (by simp -implicitDefEqProofs only[hw,aA,seval])⟩
theorem aAE(p:List Cl)(q:List Tm)(most fuel:Int)(st:aB) :
 aD prog 31 [.slice (p.map a9),.slice (q.map Tm.av),.int .i64 most,.int .i64 fuel] st (QS st ((d8 p (fun _ l=>l) q most fuel).1.map cD) (d8 p (fun _ l=>l) q most fuel).2):=by
 refine wF [1000000] 4 func31 ntmps31 rfl rfl ?_
 intro _
 simp -implicitDefEqProofs only[aA,seval]
 refine(aWN p (cnd:=fun _ l=>l) (fun _ _ _=>rfl) (fun _ l=>⟨fun _ h=>h,dC _⟩) (idx:=false) (fun _=>rfl) rfl q most fuel st).mono ?_
 intro r s1 h
 obtain⟨o,rfl,hM,hN⟩:=h
 obtain⟨hqc,hqs,hqa,hqw,hqj⟩:=bL.nT hM.choose_spec.2.2.1
 simp -implicitDefEqProofs only[hqj,aA,seval]
 exact⟨_,rfl,hM,hN⟩
theorem H3(p:List Cl)(q:List Tm)(most fuel:Int)(st:aB) :
 aD prog 31 [.slice (p.map a9),.slice (q.map Tm.av),.int .i64 most,.int .i64 fuel] st (k6 st [.slice ((d8 p (fun _ l=>l) q most fuel).1.map cD),.int .i64 (d8 p (fun _ l=>l) q most fuel).2]):=
 (aAE p q most fuel st).mono fun _ _ ⟨o,h1,h2,_⟩=>by subst h1;exact k6.VP h2





end Go.AW
namespace Go.AW
mutual
def AV.deep:AV→AV
 | .fslice es=>.slice (lU es)
 | .slice es=>.slice (lU es)
 | .agg cs=>.agg (lU cs)
 | a=>a
def lU:List AV→List AV
 | []=>[]
 | a::us=>a.deep::lU us
end
theorem zT:∀us:List AV,(lU us).length=us.length
 | []=>rfl
 | a::us=>by simp [lU,zT us]
theorem aB2(a:AV):a.deep.width=a.width:=by cases a<;>simp [AV.deep,AV.width,zT]
theorem aB0:∀ {us:List AV} {e:AV},e∈lU us→∃x∈us,e=x.deep
 | [],e,h=>by simp [lU] at h
 | a::us,e,h=>by
  simp only[lU,dB] at h
  rcases h with rfl | h
  · exact⟨a,by simp,rfl⟩
  · obtain⟨x,hx,rfl⟩:=aB0 h
    exact⟨x,by simp [hx],rfl⟩
theorem SV{us:List AV}(h:iU us):iU (lU us):=by
 obtain⟨k,hk⟩:=h
 refine⟨k,fun e he=>?_⟩
 obtain⟨x,hx,rfl⟩:=aB0 he
 rw[aB2];exact hk x hx
section
variable {h:bS} {st:aB}
mutual
theorem VC.deep:∀(a:AV) (cs:List Value),VC h st a cs→VC h st a.deep cs
 | .fslice es,cs,x=>by
  simp only[AV.deep]
  unfold VC at x ⊢
  rcases x with ⟨x,rfl⟩ | ⟨b,off,e,l,r1,r2,r3,r4⟩
  · exact .inl ⟨x,rfl⟩
  · exact .inr ⟨b,off,es.length,by rw[zT];exact e,by rw[zT];exact dC _,l,r1,r2,SV r3,dF.deep es b off r4⟩
 | .slice es,cs,x=>by
  simp only[AV.deep]
  unfold VC at x ⊢
  rcases x with ⟨x,rfl⟩ | ⟨b,off,cap,e,l1,l2,r1,r2,r3,r4⟩
  · exact .inl ⟨x,rfl⟩
  · exact .inr ⟨b,off,cap,by rw[zT];exact e,by rw[zT];exact l1,l2,r1,r2,SV r3,dF.deep es b off r4⟩
 | .agg us,cs,x=>by simp only[VC,AV.deep] at x ⊢;exact bD.deep us cs x
 | .tup _,cs,x=>x
 | .mslice _ _ _ _,cs,x=>x
 | .junk,cs,x=>x
 | .undef,cs,x=>x
 | .int _ _,cs,x=>x
 | .bool _,cs,x=>x
 | .str _,cs,x=>x
 | .nilptr,cs,x=>x
 | .ptr _ _,cs,x=>x
 | .pptr _,cs,x=>x
 | .nilmap,cs,x=>x
 | .map _,cs,x=>x
 | .func _ _,cs,x=>x
 | .raw _,cs,x=>x
 | .eslice,cs,x=>x
theorem bD.deep:∀(us:List AV) (cs:List Value),bD h st us cs→bD h st (lU us) cs
 | [],_,x=>x
 | a::us,cs,x=>by
  simp only[bD,lU] at x ⊢
  obtain⟨c,r,e,x1,x2⟩:=x
  exact⟨c,r,e,VC.deep a [c] x1,bD.deep us r x2⟩
theorem dF.deep:∀(us:List AV) (b off:Nat),dF h st b off us→dF h st b off (lU us)
 | [],_,_,x=>x
 | a::us,b,off,x=>by
  simp only[dF,lU,aB2] at x ⊢
  obtain⟨⟨cs,x1,x2,x3⟩,x4⟩:=x
  exact⟨⟨cs,x1,x2,VC.deep a cs x3⟩,dF.deep us b _ x4⟩
end
end
end Go.AW
namespace Go.AW
open Go.Proofs.Tryz
mutual
theorem Tm.ZL:∀t:Tm,t.av.deep=t.av
 | .mk k n s ts=>by rw[a8];simp only[AV.deep,lU,aSR ts]
theorem aSR:∀ts:List Tm,lU (ts.map Tm.av)=ts.map Tm.av
 | []=>rfl
 | t::ts=>by simp only[bB,lU,Tm.ZL t,aSR ts]
end
theorem aCD(l:List Tm):jP Tm.same l l=true:=(E9 (fun x _ y=>Tm.DN x y)).2 rfl
abbrev a7R:=zi tI_4 (zi zI_4 (zi cI (zi tI_28 (zi zI_28 (zi aO (zi bF (zi bG (zi bZ (zi tI_55 (zi zI_55 (zi CL B1)))))))))))
theorem Z6(l l':List Tm)(st:aB):aD prog 34 [cD l,cD l'] st (fun r st'=>r=.bool (jP Tm.same l l')∧st'=st):=by
 refine wF [1000000] 2 func34 ntmps34 rfl rfl ?_
 intro _
 simp -implicitDefEqProofs only[cD,aA,seval,a7R]
 refine(ME l l' 82 _ fun x _ y s=>EY x y s).to ?_
 simp -implicitDefEqProofs only[aA,seval]
abbrev O5:=zi tI_3 (zi zI_3 (zi aU (zi tI_4 (zi zI_4 (zi cI (zi tI_31 (zi zI_31 (zi gM (zi jX (zi jY (zi lX (zi tI_55 (zi zI_55 (zi CL B1))))))))))))))
theorem o0(L:List (List Tm))(st:aB):aD prog 33 [.slice (L.map cD),.slice (L.map cD)] st (fun r st'=>r=.bool true∧st'=st):=by
 refine wF [1000000] 2 func33 ntmps33 rfl rfl ?_
 simp only[eQ,AV.fits,eR,aF]
 intro ⟨⟨hl,_⟩,_⟩
 simp -implicitDefEqProofs only[bE,aF,aA,seval,O5]
 refine eL (σ:=Unit) [1000000] [0,1] L (fun _ _=>True) (fun i _=>[(4,.bool false),(5,.int .i64 i)]) (fun _ _=>st) (by decide +kernel) ⟨(),trivial,aP.mk (by simp -implicitDefEqProofs only[aA,↓aS,seval])⟩ (fun i x _ hx hlt bR hdr _=>?_) (fun _ hge _=>?_)
 case refine_2=>
  simp -implicitDefEqProofs only[hge,aF,aA,seval,O5]
 have hw:=bO (n:=(i:Int)+1)
 have hat:dN prog 31 (.slice (L.map cD)) (.int .i64 (i:Int))=some (.pptr (cD x)):=bQ (av:=cD) gM hx rfl
 simp -implicitDefEqProofs only[bR,aF,aA,seval,O5]
 refine wX [(0,1),(1,1),(2,1),(3,1),(4,1),(5,1),(6,1),(7,1),(8,0),(9,1)] [0,1,2,3,4,5,6,7,9] dQ mixed rfl dY ?_
 simp -implicitDefEqProofs only[hat,aA,seval,O5]
 refine(Z6 x x _).to ?_
 rw[aCD]
 simp -implicitDefEqProofs only[hw,aA,seval]
 refine⟨dY,?_⟩
 exact⟨(),aP.mk (by simp -implicitDefEqProofs only[aA,seval])⟩

def qJ(s:ByteArray)(a:Int)(p:UInt8→Bool):Bool:=decide (0≤a)&&(decide (a<(s.size:Int))&&(match (sb s)[a.toNat]? with | some x=>p x | none=>false))
def AQ(s:ByteArray)(a:Int)(c:Nat):Bool:=qJ s a fun x=>decide (x.toNat=c)
def zU(s:ByteArray)(a:Int):Bool:=qJ s a fun x=>decide (48≤x.toNat)&&decide (x.toNat≤57)
def AR(s:ByteArray)(a:Int):Bool:=qJ s a letter
theorem w6{s:ByteArray}{n:Nat}(h:n<s.size):∃x,(sb s)[n]?=some x:=⟨_,fF (by rw[cV];exact h)⟩
abbrev aR9:=zi tI_3 (zi zI_3 (zi aU (zi tI_4 (zi zI_4 (zi cI (zi tI_5 (zi zI_5 (zi mH (zi tI_9 (zi zI_9 cT))))))))))
theorem aW3(s:ByteArray)(a:Int)(c:Nat)(st:aB):aD prog 179 [.str s,.int .i64 a,.int .u8 (c:Int)] st (fun r st'=>r=.bool (AQ s a c)∧st'=st):=by
 by_cases h:0≤a∧a<(s.size:Int)
 · obtain⟨n,rfl⟩:=qF h.1
   obtain⟨x,hx⟩:=w6 (s:=s) (n:=n) (by omega)
   have hix:=uP (P:=prog) (t:=9) cT hx
   have hv:AQ s (n:Int) c=decide (x.toNat=c):=by simp only[AQ,qJ,jT,hx,gJ h.1,gJ h.2,eP]
   rw[hv]
   refine wF [1000000] 3 func179 ntmps179 rfl rfl ?_
   intro _
   repeat' (first
    | (simp -implicitDefEqProofs only[*,aA,seval,aR9])
    | (refine cU (fun h=>?_) (fun h=>?_))
    | (refine aQ (fun h=>?_) (fun h=>?_)))
   all_goals simp_all
   omega
 · by_cases h1:0≤a
   · have h2:¬a<(s.size:Int):=fun h2=>h ⟨h1,h2⟩
     have hv:AQ s a c=false:=by simp only[AQ,qJ,f0 h2,g9,vH]
     rw[hv]
     clear hv h
     refine wF [1000000] 3 func179 ntmps179 rfl rfl ?_
     intro _
     simp -implicitDefEqProofs only[h1,h2,bE,bM,aA,seval,aR9]
   · have hv:AQ s a c=false:=by simp only[AQ,qJ,f0 h1,g9]
     rw[hv]
     clear hv h
     refine wF [1000000] 3 func179 ntmps179 rfl rfl ?_
     intro _
     simp -implicitDefEqProofs only[h1,bM,aA,seval]
abbrev aSA:=zi tI_3 (zi zI_3 (zi aU (zi tI_4 (zi zI_4 (zi cI (zi tI_5 (zi zI_5 (zi mH (zi tI_9 (zi zI_9 cT))))))))))
theorem aWV(s:ByteArray)(a:Int)(st:aB):aD prog 252 [.str s,.int .i64 a] st (fun r st'=>r=.bool (zU s a)∧st'=st):=by
 by_cases h:0≤a∧a<(s.size:Int)
 · obtain⟨n,rfl⟩:=qF h.1
   obtain⟨x,hx⟩:=w6 (s:=s) (n:=n) (by omega)
   have hix:=uP (P:=prog) (t:=9) cT hx
   have hv:zU s (n:Int)=(decide (48≤x.toNat)&&decide (x.toNat≤57)):=by simp only[zU,qJ,jT,hx,gJ h.1,gJ h.2,eP]
   rw[hv]
   refine wF [1000000] 2 func252 ntmps252 rfl rfl ?_
   intro _
   repeat' (first
    | (simp -implicitDefEqProofs only[*,aA,seval,aSA])
    | (refine cU (fun h=>?_) (fun h=>?_))
    | (refine aQ (fun h=>?_) (fun h=>?_)))
   all_goals clear hix hv hx
   all_goals (congr 1;rw[vI];simp only[cE,bK,dL,pM,jR,false_iff,not_and] at *;omega)
 · by_cases h1:0≤a
   · have h2:¬a<(s.size:Int):=fun h2=>h ⟨h1,h2⟩
     have hv:zU s a=false:=by simp only[zU,qJ,f0 h2,g9,vH]
     rw[hv]
     clear hv h
     refine wF [1000000] 2 func252 ntmps252 rfl rfl ?_
     intro _
     simp -implicitDefEqProofs only[h1,h2,bE,bM,aA,seval,aSA]
   · have hv:zU s a=false:=by simp only[zU,qJ,f0 h1,g9]
     rw[hv]
     clear hv h
     refine wF [1000000] 2 func252 ntmps252 rfl rfl ?_
     intro _
     simp -implicitDefEqProofs only[h1,bM,aA,seval]
abbrev aSB:=zi tI_3 (zi zI_3 (zi aU (zi tI_4 (zi zI_4 (zi cI (zi tI_5 (zi zI_5 (zi mH (zi tI_9 (zi zI_9 cT))))))))))
theorem aW5(s:ByteArray)(a:Int)(st:aB):aD prog 271 [.str s,.int .i64 a] st (fun r st'=>r=.bool (AR s a)∧st'=st):=by
 by_cases h:0≤a∧a<(s.size:Int)
 · obtain⟨n,rfl⟩:=qF h.1
   obtain⟨x,hx⟩:=w6 (s:=s) (n:=n) (by omega)
   have hix:=uP (P:=prog) (t:=9) cT hx
   have hv:AR s (n:Int)=(decide (97≤x.toNat)&&decide (x.toNat≤122)):=by simp only[AR,qJ,letter,jT,hx,gJ h.1,gJ h.2,eP]
   rw[hv]
   refine wF [1000000] 2 func271 ntmps271 rfl rfl ?_
   intro _
   repeat' (first
    | (simp -implicitDefEqProofs only[*,aA,seval,aSB])
    | (refine cU (fun h=>?_) (fun h=>?_))
    | (refine aQ (fun h=>?_) (fun h=>?_)))
   all_goals clear hix hv hx
   all_goals (congr 1;rw[vI];simp only[cE,bK,dL,pM,jR,false_iff,not_and] at *;omega)
 · by_cases h1:0≤a
   · have h2:¬a<(s.size:Int):=fun h2=>h ⟨h1,h2⟩
     have hv:AR s a=false:=by simp only[AR,qJ,f0 h2,g9,vH]
     rw[hv]
     clear hv h
     refine wF [1000000] 2 func271 ntmps271 rfl rfl ?_
     intro _
     simp -implicitDefEqProofs only[h1,h2,bE,bM,aA,seval,aSB]
   · have hv:AR s a=false:=by simp only[AR,qJ,f0 h1,g9]
     rw[hv]
     clear hv h
     refine wF [1000000] 2 func271 ntmps271 rfl rfl ?_
     intro _
     simp -implicitDefEqProofs only[h1,bM,aA,seval]
end Go.AW
namespace Go.AW
abbrev ba (l:List UInt8):ByteArray:=⟨⟨l⟩⟩
def d7(x:UInt8):Bool:=decide (48≤x.toNat)&&decide (x.toNat≤57)
def vE(x:UInt8):Bool:=decide (65≤x.toNat)&&decide (x.toNat≤90)
def c7(l:List UInt8)(n c:Nat):Bool:=match l[n]? with | some x=>decide (x.toNat=c) | none=>false
def gT(l:List UInt8)(n:Nat)(p:UInt8→Bool):Bool:=match l[n]? with | some x=>p x | none=>false
def pB(l:List UInt8):Nat:=l.foldl (fun n x=>n*10+(x.toNat - 48)) 0
def jH(l:List UInt8):Nat×Bool:=if l.length=0∨(c7 l 0 48=true∧1<l.length) then(0,false) else(pB l,true)
def wD(l:List UInt8)(a:Nat):Option (Int×Nat):=
 let f:=if c7 l a 45 then a+1 else a
 let t:=((l.drop f).takeWhile d7).take 4
 if(jH t).2=false∨(a<f∧(jH t).1=0)∨999<(jH t).1 then none else some (if a<f then -((jH t).1:Int) else((jH t).1:Int),f+t.length)
def lI(l:List UInt8)(b g:ByteArray):ByteArray:=if l.take g.size=sb g∧b.size<g.size then g else b
def qA(l:List UInt8)(a:Nat):Option (ByteArray×Nat):=
 let t:=(l.drop a).takeWhile letter
 if 6<t.length then none else if 0<t.length then some (ba t,a+t.length)
 else let b:=kC.foldl (lI (l.drop a)) ⟨#[]⟩
  if b.size=0 then none else some (b,a+b.size)
theorem aBZ{l:List UInt8}{i:Nat}{x:UInt8}(h:l[i]?=some x):pB (l.take (i+1))=pB (l.take i)*10+(x.toNat - 48):=by
 simp [pB,gC,h,List.foldl_append]
theorem aBY:∀(l:List UInt8) (n:Nat),(∀x∈l,d7 x=true)→l.foldl (fun n x=>n*10+(x.toNat - 48)) n+1≤(n+1)*10 ^ l.length
 | [],n,_=>by simp
 | x::l,n,h=>by
  have hx:=h x (by simp)
  simp only[d7,cE,bK] at hx
  have:=aBY l (n*10+(x.toNat - 48)) (fun y hy=>h y (by simp [hy]))
  simp only[BG,aT,Nat.pow_succ]
  refine oZ this ?_
  rw[Nat.mul_comm (10 ^ l.length) 10,←Nat.mul_assoc]
  exact tU _ (by omega)
theorem SU{l:List UInt8}(h:∀x∈l,d7 x=true):pB l<10 ^ l.length:=Nat.lt_of_succ_le (by have:=aBY l 0 h;simpa [pB] using this)
theorem a57(s:ByteArray)(a b:Nat):sb (s.extract a b)=((sb s).drop a).take (b - a):=by
 simp only[sb,ByteArray.data_extract,Array.toList_extract,List.extract_eq_take_drop]
theorem aU0{g:ByteArray}(h:g.size=0):g=⟨#[]⟩:=by
 obtain⟨⟨l⟩⟩:=g
 have:l.length=0:=h
 rw[List.length_eq_zero_iff.1 this]
theorem ZU(s:ByteArray):ba (sb s)=s:=rfl
theorem H1(s:ByteArray)(a b:Nat):s.extract a b=ba (((sb s).drop a).take (b - a)):=by rw[←a57]
theorem pZ{l:List UInt8}{n c:Nat}(h:c7 l n c=true):n<l.length:=by
 unfold c7 at h
 rcases k7 n l.length with h1 | h1
 · exact h1
 · rw[yU h1] at h;cases h
theorem a3Q{l:List UInt8}{n:Nat}{p:UInt8→Bool}(h:gT l n p=true):n<l.length:=by
 unfold gT at h
 rcases k7 n l.length with h1 | h1
 · exact h1
 · rw[yU h1] at h;cases h
theorem uQ{l:List UInt8}{n c:Nat}{x:UInt8}(h:l[n]?=some x):c7 l n c=decide (x.toNat=c):=by simp only[c7,h]
theorem xW{l:List UInt8}{n:Nat}{p:UInt8→Bool}{x:UInt8}(h:l[n]?=some x):gT l n p=p x:=by simp only[gT,h]
theorem aPK{l:List UInt8}(h:∀x∈l,d7 x=true)(hl:l.length≤4):(jH l).1<10000:=by
 unfold jH
 split
 · simp
 · exact wR (SU h) (oZ (QT (by omega) hl) (by decide))
theorem XQ{p:UInt8→Bool}{l:List UInt8}{i:Nat}(hi:i≤(l.takeWhile p).length)(h:gT l i p=true):i<(l.takeWhile p).length:=by
 induction l generalizing i with
 | nil=>simp [gT] at h
 | cons x l ih=>
  cases i with
  | zero=>simp [gT] at h;simp [HB,h]
  | succ i=>
   rw[HB] at hi ⊢
   split at hi
   · rename_i hx
     rw[aH hx]
     simp only[aT] at hi ⊢
     have:=ih (i:=i) (by omega) (by simpa [gT] using h)
     omega
   · simp at hi
theorem XP{p:UInt8→Bool}{l:List UInt8}{i:Nat}(hi:i≤(l.takeWhile p).length)(h:gT l i p=false):i=(l.takeWhile p).length:=by
 induction l generalizing i with
 | nil=>simp at hi;simp [hi]
 | cons x l ih=>
  cases i with
  | zero=>simp [gT] at h;simp [HB,h]
  | succ i=>
   rw[HB] at hi ⊢
   split at hi
   · rename_i hx
     rw[aH hx]
     simp only[aT] at hi ⊢
     have:=ih (i:=i) (by omega) (by simpa [gT] using h)
     omega
   · simp at hi
theorem aSY(p:UInt8→Bool)(l:List UInt8):l.take (l.takeWhile p).length=l.takeWhile p:=by
 induction l with
 | nil=>rfl
 | cons x l ih=>
  rw[HB]
  split
  · simp [ih]
  · rfl
theorem FR(l:List UInt8)(a i:Nat)(p:UInt8→Bool):gT (l.drop a) i p=gT l (a+i) p:=by simp only[gT,QO]
theorem aSW{p:UInt8→Bool}{l:List UInt8}:∀x∈l.takeWhile p,p x=true:=by
 induction l with
 | nil=>simp
 | cons y l ih=>
  rw[HB]
  split
  · rename_i h;intro x hx;simp only[dB] at hx;rcases hx with rfl | hx;exact h;exact ih x hx
  · simp
theorem aSX{p:UInt8→Bool}{l:List UInt8}{k:Nat}(hk:k≤(l.takeWhile p).length):l.take k=(l.takeWhile p).take k:=by
 rw[←aSY p l,yZ,mL hk]
theorem K9(p:UInt8→Bool)(l:List UInt8):(l.takeWhile p).length≤l.length:=(List.takeWhile_sublist p).length_le
theorem ZW(L:List UInt8):∀(gs:List ByteArray) (b:ByteArray),b.size≤3→(∀g∈gs,g.size≤3)→(gs.foldl (lI L) b).size≤3
 | [],b,h,_=>h
 | g::gs,b,h,hg=>by
  rw[BG]
  refine ZW L gs _ ?_ fun x hx=>hg x (by simp [hx])
  unfold lI
  split
  · exact hg g (by simp)
  · exact h
theorem aQR:∀g∈kC,g.size≤3:=by decide
theorem aU3(L:List UInt8)(i:Nat):((kC.take i).foldl (lI L) ⟨#[]⟩).size≤3:=ZW L _ _ (by decide) fun g hg=>aQR g (mJ hg)
end Go.AW
namespace Go.AW
open Go.Proofs.Tryz
theorem KH{φ:AF}{y z:Operand}{s:ByteArray}{k m:Nat}(h:φ.eval y=.int .i64 (k:Int))(h':φ.eval z=.int .i64 (m:Int))(hk:k≤m)(hm:m≤s.size):fY prog φ 9 (.str s) (some y) (some z) none=some (.str (s.extract k m)):=by
 unfold fY nK
 rw[aE (by simp [pE])]
 simp only[show prog.underlying 9=some .string from cT,dJ,h,h']
 rw[aH (by omega)]
 simp only[jT]
 rw[aH (by omega)]
 try simp
theorem RV(s:ByteArray)(n:Nat)(p:UInt8→Bool):qJ s (n:Int) p=gT (sb s) n p:=by
 unfold qJ gT
 rw[jT]
 by_cases h:n<s.size
 · rw[gJ (by omega:(0:Int)≤(n:Int)),gJ (by omega:(n:Int)<(s.size:Int))];try rfl
 · rw[f0 (by omega:¬(n:Int)<(s.size:Int)),yU (by rw[cV];omega)];simp
theorem lV(s:ByteArray)(n c:Nat)(st:aB):aD prog 179 [.str s,.int .i64 (n:Int),.int .u8 (c:Int)] st (fun r st'=>r=.bool (c7 (sb s) n c)∧st'=st):=by
 have h:=aW3 s n c st
 rwa [show AQ s n c=c7 (sb s) n c from RV s n _] at h
theorem DC(s:ByteArray)(n:Nat)(st:aB):aD prog 252 [.str s,.int .i64 (n:Int)] st (fun r st'=>r=.bool (gT (sb s) n d7)∧st'=st):=by
 have h:=aWV s n st
 rwa [show zU s n=gT (sb s) n d7 from RV s n _] at h
theorem aPF(s:ByteArray)(n:Nat)(st:aB):aD prog 271 [.str s,.int .i64 (n:Int)] st (fun r st'=>r=.bool (gT (sb s) n letter)∧st'=st):=by
 have h:=aW5 s n st
 rwa [show AR s n=gT (sb s) n letter from RV s n _] at h
theorem Y7{n k:Nat}(h:n≤1048576)(hk:k≤1048576):IntKind.wrap .i64 ((n:Int)+(k:Int))=((n+k:Nat):Int):=by
 rw[wrap64 (by omega) (by omega)];try rfl
abbrev GZ:=zi tI_3 (zi zI_3 (zi aU (zi tI_4 (zi zI_4 (zi cI (zi tI_5 (zi zI_5 (zi mH (zi tI_9 (zi zI_9 cT))))))))))
theorem aAL(s:ByteArray)(hd:∀x∈sb s,d7 x=true)(hl:s.size≤4)(st:aB):aD prog 270 [.str s] st (fun r st'=>r=.tup [.int .i64 ((jH (sb s)).1:Int),.bool (jH (sb s)).2]∧st'=st):=by
 refine wF [1000000] 1 func270 ntmps270 rfl rfl ?_
 intro _
 by_cases hs:s.size=0
 · have e:jH (sb s)=(0,false):=by unfold jH;rw[aH (Or.inl (by rw[cV];exact hs))]
   rw[e]
   simp -implicitDefEqProofs only[hs,aA,↓aS,seval,GZ]
 have FO:(0:Int)<(s.size:Int):=by omega
 obtain⟨x0,hx0⟩:=w6 (s:=s) (n:=0) (by omega)
 have hix:=uP (P:=prog) (t:=9) cT hx0
 rw[show((0:Nat):Int)=0 from rfl] at hix
 have hdx:=hd x0 (dA hx0)
 simp only[d7,cE,bK] at hdx
 have h45:((x0.toNat:Int)=45)=False:=cB (by omega)
 have h0:((s.size:Int)=0)=False:=cB (by omega)
 have h17:((17:Int)<(s.size:Int))=False:=cB (by omega)
 simp -implicitDefEqProofs only[FO,hix,h45,h0,h17,bE,bM,aA,seval,GZ]
 by_cases h48:x0.toNat=48
 case pos=>
  have FH:((x0.toNat:Int)=48)=True:=cM (by omega)
  by_cases h1:1<s.size
  case pos=>
   have h1':((1:Int)<(s.size:Int))=True:=cM (by omega)
   have e:jH (sb s)=(0,false):=by unfold jH;rw[aH (Or.inr ⟨by rw[uQ hx0,h48];try rfl,by rw[cV];exact h1⟩)]
   rw[e]
   simp -implicitDefEqProofs only[FH,h1',bE,aA,↓aS,seval,GZ]
  have h1':((1:Int)<(s.size:Int))=False:=cB (by omega)
  have hnd:jH (sb s)=(pB (sb s),true):=by unfold jH;rw[aE (by rw[cV];rintro(h | ⟨_,h⟩)<;>omega)]
  simp -implicitDefEqProofs only[FH,h1',bE,bM,aA,seval,GZ]
  rw[hnd]
  refine iT (σ:=Nat) [1000000] [0,4] (fun i=>i≤s.size) (fun i=>[(5,.int .i64 (pB ((sb s).take i):Int)),(6,.int .i64 (i:Int))]) (fun _=>st) (fun i=>s.size - i) (by decide +kernel) ⟨0,by omega,aP.mk (by simp -implicitDefEqProofs only[l7,aA,↓aS,seval];rfl)⟩ ?_
  intro i hi
  have hb:pB ((sb s).take i)<10000:=wR (SU fun x hx=>hd x (mJ hx)) (oZ (QT (by omega) (by rw[eC];omega:((sb s).take i).length≤4)) (by decide))
  simp -implicitDefEqProofs only[aA,seval,GZ]
  refine aQ (fun h5=>?_) (fun h5=>?_)
  case refine_2=>
   simp only[dL] at h5
   obtain rfl:i=s.size:=by omega
   rw[n7 (by rw[cV];omega)]
   simp -implicitDefEqProofs only[aA,seval]
  simp only[bK] at h5
  obtain⟨c,hc⟩:=w6 (s:=s) (n:=i) (by omega)
  have hic:=uP (P:=prog) (t:=9) cT hc
  have hdc:=hd c (dA hc)
  simp only[d7,cE,bK] at hdc
  have c48:((c.toNat:Int)<48)=False:=cB (by omega)
  have c57:((57:Int)<(c.toNat:Int))=False:=cB (by omega)
  have hw0:=Y7 (n:=i) (k:=1) (by omega) (by omega)
  rw[show((1:Nat):Int)=1 from rfl] at hw0
  have hw1:=bO (n:=(pB ((sb s).take i):Int)*10)
  have hw2:IntKind.wrap .u8 ((c.toNat:Int) - 48)=((c.toNat - 48:Nat):Int):=by rw[IntKind.wrap_u8];omega
  have hw3:=bO (n:=((c.toNat - 48:Nat):Int))
  have hw4:=bO (n:=(pB ((sb s).take i):Int)*10+((c.toNat - 48:Nat):Int))
  have jG:=aBZ hc
  simp -implicitDefEqProofs only[hic,c48,c57,hw1,hw2,bM,aA,seval]
  refine⟨i+1,by omega,by omega,aP.mk ?_⟩
  rw[jG]
  simp -implicitDefEqProofs only[hw0,hw3,hw4,aA,seval]
  rfl
 have FH:((x0.toNat:Int)=48)=False:=cB (by omega)
 have hnd:jH (sb s)=(pB (sb s),true):=by unfold jH;rw[aE (by rw[cV,uQ hx0];rintro(h | ⟨h,_⟩);omega;exact h48 (AH h))]
 simp -implicitDefEqProofs only[FH,bM,aA,seval]
 rw[hnd]
 refine iT (σ:=Nat) [1000000] [0,4] (fun i=>i≤s.size) (fun i=>[(5,.int .i64 (pB ((sb s).take i):Int)),(6,.int .i64 (i:Int))]) (fun _=>st) (fun i=>s.size - i) (by decide +kernel) ⟨0,by omega,aP.mk (by simp -implicitDefEqProofs only[l7,aA,↓aS,seval];rfl)⟩ ?_
 intro i hi
 have hb:pB ((sb s).take i)<10000:=wR (SU fun x hx=>hd x (mJ hx)) (oZ (QT (by omega) (by rw[eC];omega:((sb s).take i).length≤4)) (by decide))
 simp -implicitDefEqProofs only[aA,seval,GZ]
 refine aQ (fun h5=>?_) (fun h5=>?_)
 case refine_2=>
  simp only[dL] at h5
  obtain rfl:i=s.size:=by omega
  rw[n7 (by rw[cV];omega)]
  simp -implicitDefEqProofs only[aA,seval]
 simp only[bK] at h5
 obtain⟨c,hc⟩:=w6 (s:=s) (n:=i) (by omega)
 have hic:=uP (P:=prog) (t:=9) cT hc
 have hdc:=hd c (dA hc)
 simp only[d7,cE,bK] at hdc
 have c48:((c.toNat:Int)<48)=False:=cB (by omega)
 have c57:((57:Int)<(c.toNat:Int))=False:=cB (by omega)
 have hw0:=Y7 (n:=i) (k:=1) (by omega) (by omega)
 rw[show((1:Nat):Int)=1 from rfl] at hw0
 have hw1:=bO (n:=(pB ((sb s).take i):Int)*10)
 have hw2:IntKind.wrap .u8 ((c.toNat:Int) - 48)=((c.toNat - 48:Nat):Int):=by rw[IntKind.wrap_u8];omega
 have hw3:=bO (n:=((c.toNat - 48:Nat):Int))
 have hw4:=bO (n:=(pB ((sb s).take i):Int)*10+((c.toNat - 48:Nat):Int))
 have jG:=aBZ hc
 simp -implicitDefEqProofs only[hic,c48,c57,hw1,hw2,bM,aA,seval]
 refine⟨i+1,by omega,by omega,aP.mk ?_⟩
 rw[jG]
 simp -implicitDefEqProofs only[hw0,hw3,hw4,aA,seval]
 rfl
theorem pK{x:Int}{m:Nat}(h:x=(m:Int))(hm:m≤1099511627776):IntKind.wrap .i64 x=(m:Int):=by rw[wrap64 (by omega) (by omega)];exact h
abbrev K4:Tm:=.mk 0 0 ⟨#[]⟩ []
def DE(o:Option (Int×Nat)):AV:=match o with | some (n,e)=>.tup [(Tm.mk 2 n ⟨#[]⟩ []).av,.int .i64 (e:Int)] | none=>.tup [K4.av,.int .i64 (-1)]
abbrev DW:=zi tI_3 (zi zI_3 (zi aU (zi tI_4 (zi zI_4 (zi cI (zi tI_5 (zi zI_5 (zi mH (zi tI_8 (zi zI_8 (zi zZ (zi z5 (zi z6 (zi z7 (zi zL (zi tI_9 (zi zI_9 (zi cT (zi tI_52 (zi zI_52 (zi bU (zi bV (zi bX (zi bY bT))))))))))))))))))))))))
set_option maxHeartbeats 1000000 in
theorem aW0(s:ByteArray)(hs:s.size≤1000)(a:Nat)(ha:a≤s.size)(st:aB):aD prog 253 [.str s,.int .i64 (a:Int)] st (fun r st'=>r=DE (wD (sb s) a)∧st'=st):=by
 refine aD.done ?_
 refine wF [1000000] 2 func253 ntmps253 rfl rfl ?_
 intro _
 simp -implicitDefEqProofs only[aA,seval,DW]
 intro b hb
 refine(lV s a 45 _).to ?_
 obtain⟨f1,hf1⟩:∃f,f=a+1:=⟨_,rfl⟩
 have hw1:=pK (x:=(a:Int)+1) (m:=f1) (by omega) (by omega)
 simp -implicitDefEqProofs only[aA,seval]
 refine aQ (fun h1=>?_) (fun h1=>?_)
 · have hf:=pZ h1
   rw[cV] at hf
   simp -implicitDefEqProofs only[hw1,aA,seval]
   obtain⟨f,rfl⟩:∃f,f=f1:=⟨_,rfl⟩
   replace hf:f≤s.size:=by omega
   refine iT (σ:=Nat) [1000000] [0,1,4,5,7] (fun j=>f≤j∧j≤f+4∧j - f≤(((sb s).drop f).takeWhile d7).length) (fun j=>[(6,.int .i64 (j:Int))]) (fun _=>st.aC b (.cells [.int .i64 0,.int .i64 0,.str ⟨#[]⟩,.fslice []])) (fun j=>f+4 - j) (by decide +kernel) ⟨f,⟨by omega,by omega,by omega⟩,aP.mk (by simp -implicitDefEqProofs only[aA,seval])⟩ ?_
   rintro j ⟨hj1,hj4,hj⟩
   have hfi:j≤s.size:=by have:=K9 d7 ((sb s).drop f);rw[lO,cV] at this;omega
   simp -implicitDefEqProofs only[aA,seval]
   refine(DC s j _).to ?_
   have hw4:=bO (n:=(f:Int)+4)
   have JS:=bO (n:=(j:Int)+1)
   simp -implicitDefEqProofs only[aA,seval]
   refine cU (fun h5=>?_) (fun h5=>?_)
   simp -implicitDefEqProofs only[h5,hw4,aA,seval]
   refine aQ (fun h6=>?_) (fun h6=>?_)
   case' refine_1.refine_1=>
    rw[show j=f+(j - f) by omega,←FR] at h5
    simp only[bK] at h6
    simp -implicitDefEqProofs only[JS,aA,seval]
    exact⟨j+1,by omega,⟨by omega,by omega,by have:=XQ hj h5;omega⟩,aP.mk (by simp -implicitDefEqProofs only[aA,seval]<;>rfl)⟩
   all_goals
    have ht:(((sb s).drop f).takeWhile d7).take 4=((sb s).drop f).take (j - f):=by
     rw[aSX hj]
     rcases k7 (j - f) 4 with h7 | h7
     · have h8:j - f=(((sb s).drop f).takeWhile d7).length:=by
        refine XP hj ?_
        rw[FR,show f+(j - f)=j by omega]
        first | exact h5 | (simp only[dL] at h6;omega)
       rw[h8,fG,n7 (by omega)]
     · rw[show j - f=4 by omega]
    have hex:s.extract f j=ba ((((sb s).drop f).takeWhile d7).take 4):=by rw[H1,ht]
    have hln:((((sb s).drop f).takeWhile d7).take 4).length=j - f:=by rw[ht,eC,lO,cV];omega
    have hdg:∀x∈(((sb s).drop f).takeWhile d7).take 4,d7 x=true:=fun x hx=>aSW x (mJ hx)
    have hsl:=fun(φ:AF) (y z:Operand) (h:φ.eval y=.int .i64 (f:Int)) (h':φ.eval z=.int .i64 (j:Int))=>KH (s:=s) h h' hj1 hfi
    rw[hex] at hsl
    have hrd:wD (sb s) a=if(jH ((((sb s).drop f).takeWhile d7).take 4)).2=false∨(a<f∧(jH ((((sb s).drop f).takeWhile d7).take 4)).1=0)∨999<(jH ((((sb s).drop f).takeWhile d7).take 4)).1 then none else some (if a<f then -((jH ((((sb s).drop f).takeWhile d7).take 4)).1:Int) else((jH ((((sb s).drop f).takeWhile d7).take 4)).1:Int),f+((((sb s).drop f).takeWhile d7).take 4).length):=by
     unfold wD
     simp only[h1,↓reduceIte,←hf1]
    rw[hrd]
    clear hrd
    generalize (((sb s).drop f).takeWhile d7).take 4=t at *
    simp -implicitDefEqProofs only[hsl,h5,aA,seval]
    refine(aAL (ba t) hdg (by show t.length≤4;omega) _).to ?_
    have hn:=aPK hdg (by omega)
    rw[show sb (ba t)=t from rfl]
    generalize jH t=nd at *
    obtain⟨n,ok⟩:=nd
    simp only at hn ⊢
    have hw5:=bO (n:=0 - (n:Int))
    have hw6:=bO (n:= -(n:Int))
    have hfa:((a:Int)<(f:Int))=True:=cM (by omega)
    have hfn:(a<f)=True:=cM (by omega)
    cases ok
    case false=>
     simp -implicitDefEqProofs only[aK,aA,seval,DW]
     refine⟨?_,(aL.refl _).aC hb⟩
     rw[aH (Or.inl trivial)]
     simp only[DE,a8,jI,jQ,jB,nB,lW,bB,aW,aW]
    by_cases hz:(n:Int)=0
    case' pos=>have hz':n=0:=by omega
    case' neg=>have hz':n≠0:=by omega
    all_goals
     by_cases h9:(999:Int)<(n:Int)
     case' pos=>have h9':999<n:=by omega
     case' neg=>have h9':¬ 999<n:=by omega
     all_goals try (exfalso;omega)
     all_goals
      simp -implicitDefEqProofs only[aK,hw5,hz,h9,hfa,aA,seval,DW]
      try
       refine(EZ _ _).to ?_
       simp -implicitDefEqProofs only[aK,aA,seval,DW]
      refine⟨?_,(aL.refl _).aC hb⟩
      first
       | rw[aH (by omega)]
       | rw[aE (by omega),aH (by omega),show f+t.length=j by omega]
       | rw[aE (by omega),aE (by omega),show f+t.length=j by omega]
      simp only[DE,a8,jI,jQ,jB,nB,nA,lW,bB,aW,aW,Int.zero_sub]
 · skip
   simp -implicitDefEqProofs only[aA,seval]
   obtain⟨f,rfl⟩:∃f,f=a:=⟨_,rfl⟩
   have hf:=ha
   refine iT (σ:=Nat) [1000000] [0,1,4,5,7] (fun j=>f≤j∧j≤f+4∧j - f≤(((sb s).drop f).takeWhile d7).length) (fun j=>[(6,.int .i64 (j:Int))]) (fun _=>st.aC b (.cells [.int .i64 0,.int .i64 0,.str ⟨#[]⟩,.fslice []])) (fun j=>f+4 - j) (by decide +kernel) ⟨f,⟨by omega,by omega,by omega⟩,aP.mk (by simp -implicitDefEqProofs only[aA,seval])⟩ ?_
   rintro j ⟨hj1,hj4,hj⟩
   have hfi:j≤s.size:=by have:=K9 d7 ((sb s).drop f);rw[lO,cV] at this;omega
   simp -implicitDefEqProofs only[aA,seval]
   refine(DC s j _).to ?_
   have hw4:=bO (n:=(f:Int)+4)
   have JS:=bO (n:=(j:Int)+1)
   simp -implicitDefEqProofs only[aA,seval]
   refine cU (fun h5=>?_) (fun h5=>?_)
   simp -implicitDefEqProofs only[h5,hw4,aA,seval]
   refine aQ (fun h6=>?_) (fun h6=>?_)
   case' refine_1.refine_1=>
    rw[show j=f+(j - f) by omega,←FR] at h5
    simp only[bK] at h6
    simp -implicitDefEqProofs only[JS,aA,seval]
    exact⟨j+1,by omega,⟨by omega,by omega,by have:=XQ hj h5;omega⟩,aP.mk (by simp -implicitDefEqProofs only[aA,seval]<;>rfl)⟩
   all_goals
    have ht:(((sb s).drop f).takeWhile d7).take 4=((sb s).drop f).take (j - f):=by
     rw[aSX hj]
     rcases k7 (j - f) 4 with h7 | h7
     · have h8:j - f=(((sb s).drop f).takeWhile d7).length:=by
        refine XP hj ?_
        rw[FR,show f+(j - f)=j by omega]
        first | exact h5 | (simp only[dL] at h6;omega)
       rw[h8,fG,n7 (by omega)]
     · rw[show j - f=4 by omega]
    have hex:s.extract f j=ba ((((sb s).drop f).takeWhile d7).take 4):=by rw[H1,ht]
    have hln:((((sb s).drop f).takeWhile d7).take 4).length=j - f:=by rw[ht,eC,lO,cV];omega
    have hdg:∀x∈(((sb s).drop f).takeWhile d7).take 4,d7 x=true:=fun x hx=>aSW x (mJ hx)
    have hsl:=fun(φ:AF) (y z:Operand) (h:φ.eval y=.int .i64 (f:Int)) (h':φ.eval z=.int .i64 (j:Int))=>KH (s:=s) h h' hj1 hfi
    rw[hex] at hsl
    have hrd:wD (sb s) f=if(jH ((((sb s).drop f).takeWhile d7).take 4)).2=false∨(f<f∧(jH ((((sb s).drop f).takeWhile d7).take 4)).1=0)∨999<(jH ((((sb s).drop f).takeWhile d7).take 4)).1 then none else some (if f<f then -((jH ((((sb s).drop f).takeWhile d7).take 4)).1:Int) else((jH ((((sb s).drop f).takeWhile d7).take 4)).1:Int),f+((((sb s).drop f).takeWhile d7).take 4).length):=by
     unfold wD
     simp only[h1,↓reduceIte,jR]
    rw[hrd]
    clear hrd
    generalize (((sb s).drop f).takeWhile d7).take 4=t at *
    simp -implicitDefEqProofs only[hsl,h5,aA,seval]
    refine(aAL (ba t) hdg (by show t.length≤4;omega) _).to ?_
    have hn:=aPK hdg (by omega)
    rw[show sb (ba t)=t from rfl]
    generalize jH t=nd at *
    obtain⟨n,ok⟩:=nd
    simp only at hn ⊢
    have hw5:=bO (n:=0 - (n:Int))
    have hw6:=bO (n:= -(n:Int))
    have hfa:((f:Int)<(f:Int))=False:=cB (by omega)
    have hfn:(f<f)=False:=cB (by omega)
    cases ok
    case false=>
     simp -implicitDefEqProofs only[aK,aA,seval,DW]
     refine⟨?_,(aL.refl _).aC hb⟩
     rw[aH (Or.inl trivial)]
     simp only[DE,a8,jI,jQ,jB,nB,lW,bB,aW,aW]
    by_cases hz:(n:Int)=0
    case' pos=>have hz':n=0:=by omega
    case' neg=>have hz':n≠0:=by omega
    all_goals
     by_cases h9:(999:Int)<(n:Int)
     case' pos=>have h9':999<n:=by omega
     case' neg=>have h9':¬ 999<n:=by omega
     all_goals try (exfalso;omega)
     all_goals
      simp -implicitDefEqProofs only[aK,hz,h9,hfa,aA,seval,DW]
      try
       refine(EZ _ _).to ?_
       simp -implicitDefEqProofs only[aK,aA,seval,DW]
      refine⟨?_,(aL.refl _).aC hb⟩
      first
       | rw[aH (by omega)]
       | rw[aE (by omega),aH (by omega),show f+t.length=j by omega]
       | rw[aE (by omega),aE (by omega),show f+t.length=j by omega]
      simp only[DE,a8,jI,jQ,jB,nB,nA,lW,bB,aW,aW]
def DD(o:Option (ByteArray×Nat)):AV:=match o with | some (b,e)=>.tup [.str b,.int .i64 (e:Int)] | none=>.tup [.str ⟨#[]⟩,.int .i64 (-1)]
theorem aW4(st:aB):aD prog 272 [] st (fun r st'=>r=.slice (kC.map .str)∧st'=st):=aD.done ((aAR st).mono (by rintro _ _ ⟨rfl,rfl⟩;exact⟨rfl,aL.refl _⟩))
abbrev DX:=zi tI_3 (zi zI_3 (zi aU (zi tI_9 (zi zI_9 (zi cT (zi tI_138 (zi zI_138 (zi j9 (zi nQ (zi nR oR))))))))))
set_option maxHeartbeats 1000000 in
theorem SB(s:ByteArray)(hs:s.size≤1000)(a:Nat)(ha:a≤s.size)(st:aB):aD prog 254 [.str s,.int .i64 (a:Int)] st (fun r st'=>r=DD (qA (sb s) a)∧st'=st):=by
 refine wF [1000000] 2 func254 ntmps254 rfl rfl ?_
 intro _
 simp -implicitDefEqProofs only[aA,seval]
 refine iT (σ:=Nat) [1000000] [0,1,4,5] (fun j=>a≤j∧j - a≤(((sb s).drop a).takeWhile letter).length) (fun j=>[(6,.int .i64 (j:Int))]) (fun _=>st) (fun j=>s.size - j) (by decide +kernel) ⟨a,⟨by omega,by omega⟩,aP.mk (by simp -implicitDefEqProofs only[aA,seval])⟩ ?_
 rintro j ⟨hj1,hj⟩
 have hfi:j≤s.size:=by have:=K9 letter ((sb s).drop a);rw[lO,cV] at this;omega
 simp -implicitDefEqProofs only[aA,seval]
 refine(aPF s j _).to ?_
 have hw6:=bO (n:=(a:Int)+6)
 have JS:=bO (n:=(j:Int)+1)
 simp -implicitDefEqProofs only[aA,seval]
 refine aQ (fun h5=>?_) (fun h5=>?_)
 · have hlt:=a3Q h5
   rw[show j=a+(j - a) by omega,←FR] at h5
   simp -implicitDefEqProofs only[JS,aA,seval]
   exact⟨j+1,by rw[cV] at hlt;omega,⟨by omega,by have:=XQ hj h5;omega⟩,aP.mk (by simp -implicitDefEqProofs only[aA,seval]<;>rfl)⟩
 rw[show j=a+(j - a) by omega,←FR] at h5
 have he:=XP hj h5
 have hex:s.extract a j=ba (((sb s).drop a).takeWhile letter):=by rw[H1,he,aSY]
 have hsl:=fun(φ:AF) (y z:Operand) (h:φ.eval y=.int .i64 (a:Int)) (h':φ.eval z=.int .i64 (j:Int))=>KH (s:=s) h h' hj1 hfi
 rw[hex] at hsl
 simp -implicitDefEqProofs only[hw6,aA,seval]
 refine aQ (fun h6=>?_) (fun h6=>?_)
 · simp only[bK] at h6
   simp -implicitDefEqProofs only[aA,seval]
   unfold qA
   rw[aH (by omega)]
   try rfl
 simp only[dL] at h6
 simp -implicitDefEqProofs only[aA,seval]
 refine aQ (fun h7=>?_) (fun h7=>?_)
 · simp only[bK] at h7
   simp -implicitDefEqProofs only[hsl,aA,seval]
   unfold qA
   rw[aE (by omega),aH (by omega),←he,show a+(j - a)=j by omega]
   try rfl
 simp only[dL] at h7
 obtain rfl:j=a:=by omega
 have hrd:qA (sb s) j=if(kC.foldl (lI ((sb s).drop j)) ⟨#[]⟩).size=0 then none else some (kC.foldl (lI ((sb s).drop j)) ⟨#[]⟩,j+(kC.foldl (lI ((sb s).drop j)) ⟨#[]⟩).size):=by
  unfold qA
  rw[aE (by omega),aE (by omega)]
 rw[hrd]
 clear hrd
 simp -implicitDefEqProofs only[aA,seval]
 refine(aW4 _).to ?_
 simp -implicitDefEqProofs only[aA,seval]
 refine iT (σ:=Nat) [1000000] [0,1,4,5,8] (fun i=>i≤kC.length) (fun i=>[(7,.str ((kC.take i).foldl (lI ((sb s).drop j)) ⟨#[]⟩)),(9,.int .i64 (i:Int))]) (fun _=>st) (fun i=>kC.length - i) (by decide +kernel) ⟨0,by omega,aP.mk (by simp -implicitDefEqProofs only[l7,List.foldl_nil,aA,↓aS,seval])⟩ ?_
 intro i hi
 have hbl:=aU3 ((sb s).drop j) i
 simp -implicitDefEqProofs only[aF,aA,seval,DX]
 refine aQ (fun h8=>?_) (fun h8=>?_)
 case refine_2=>
  simp only[dL] at h8
  rw[show i=kC.length by omega,fG] at hbl ⊢
  generalize kC.foldl (lI ((sb s).drop j)) ⟨#[]⟩=g at *
  have hw7:=bO (n:=(j:Int)+(g.size:Int))
  simp -implicitDefEqProofs only[aA,seval]
  refine aQ (fun h9=>?_) (fun h9=>?_)
  · simp only[bK] at h9
    subst h9
    simp -implicitDefEqProofs only[aA,seval]
    rfl
  · simp only[dL] at h9
    simp -implicitDefEqProofs only[hw7,aA,seval,DX]
    rw[aE fun h=>h9 (aU0 h)]
    try rfl
 simp only[bK] at h8
 obtain⟨g,hg⟩:∃g,kC[i]?=some g:=⟨_,fF (by omega)⟩
 have hat:=bQ (av:=AV.str) j9 hg rfl
 have hgl:=aQR g (dA hg)
 have h15:kC.length=15:=rfl
 obtain⟨m,hm⟩:∃m,m=j+g.size:=⟨_,rfl⟩
 have hwn:=pK (x:=(j:Int)+(g.size:Int)) (m:=m) (by omega) (by omega)
 have hw1:=bO (n:=(i:Int)+1)
 have jG:(kC.take (i+1)).foldl (lI ((sb s).drop j)) ⟨#[]⟩=lI ((sb s).drop j) ((kC.take i).foldl (lI ((sb s).drop j)) ⟨#[]⟩) g:=by
  rw[gC,hg,List.foldl_append];try rfl
 generalize hB:(kC.take i).foldl (lI ((sb s).drop j)) ⟨#[]⟩=B at *
 simp -implicitDefEqProofs only[hat,aA,seval,DX]
 refine wP [(0,1),(1,1),(2,1),(3,1),(4,1),(5,1),(6,1),(7,1),(8,1),(9,1),(10,1),(11,1),(12,1),(13,1),(14,1),(15,1),(16,2),(17,1),(18,1),(19,1),(20,1),(21,1),(22,1),(23,1),(24,1)] [0,1,2,3,4,5,6,7,8,9,10,11,12,13,14,15,16,17,18,19,20,21,22,23,24] mixed ?_
 by_cases hle:m≤s.size
 · have hex:s.extract j m=ba (((sb s).drop j).take g.size):=by rw[H1,hm,Nat.add_sub_cancel_left]
   have hsl:=fun(φ:AF) (y z:Operand) (h:φ.eval y=.int .i64 (j:Int)) (h':φ.eval z=.int .i64 (m:Int))=>KH (s:=s) h h' (by omega) hle
   rw[hex] at hsl
   have JK:((m:Int)≤(s.size:Int))=True:=cM (by omega)
   by_cases heq:ba (((sb s).drop j).take g.size)=g
   · by_cases hlt:B.size<g.size
     · have bR:((B.size:Int)<(g.size:Int))=True:=cM (by omega)
       have hb:lI ((sb s).drop j) B g=g:=by unfold lI;rw[aH ⟨oC sb heq,hlt⟩]
       simp -implicitDefEqProofs only[hat,hwn,hw1,JK,hsl,heq,bR,bE,aA,seval,DX]
       exact⟨i+1,by omega,by omega,aP.mk (by simp -implicitDefEqProofs only[jG,hb,aA,seval])⟩
     · have bR:((B.size:Int)<(g.size:Int))=False:=cB (by omega)
       have hb:lI ((sb s).drop j) B g=B:=by unfold lI;rw[aE fun h=>hlt h.2]
       simp -implicitDefEqProofs only[hat,hwn,hw1,JK,hsl,heq,bR,bE,bM,aA,seval,DX]
       exact⟨i+1,by omega,by omega,aP.mk (by simp -implicitDefEqProofs only[jG,hb,aA,seval])⟩
   · have hb:lI ((sb s).drop j) B g=B:=by unfold lI;rw[aE fun h=>heq (by rw[h.1])]
     simp -implicitDefEqProofs only[hat,hwn,hw1,JK,hsl,heq,bE,bM,aA,seval,DX]
     exact⟨i+1,by omega,by omega,aP.mk (by simp -implicitDefEqProofs only[jG,hb,aA,seval])⟩
 · have JK:((m:Int)≤(s.size:Int))=False:=cB (by omega)
   have hb:lI ((sb s).drop j) B g=B:=by
    unfold lI
    rw[aE]
    rintro⟨h,_⟩
    have:=oC List.length h
    rw[eC,lO,cV,cV] at this
    omega
   simp -implicitDefEqProofs only[hwn,hw1,JK,bM,aA,seval,DX]
   exact⟨i+1,by omega,by omega,aP.mk (by simp -implicitDefEqProofs only[jG,hb,aA,seval])⟩
end Go.AW
