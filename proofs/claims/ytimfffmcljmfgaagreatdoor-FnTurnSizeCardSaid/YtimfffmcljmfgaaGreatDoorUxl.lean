import Derived.Test.YtimfffmcljmfgaaGreatDoorUxk
import Derived.Test.YtimfffmcljmfgaaGreatDoorUxf
import Derived.Test.YtimfffmcljmfgaaGreatDoorUxi
set_option linter.unusedSimpArgs false
set_option linter.unusedVariables false
set_option maxRecDepth 100000
namespace Go.AW
open Go.Proofs.Tryz
def nR(p:List UInt8):AV:=.str (ba p)
theorem aRK(l:List (List UInt8)):∀e∈l.map nR,e.width=1:=by intro e h;simp only[cH] at h;obtain⟨t,_,rfl⟩:=h;rfl
theorem a7T(l:List (List UInt8)):∀e∈l.map nR,e.cE=false:=by intro e h;simp only[cH] at h;obtain⟨t,_,rfl⟩:=h;rfl
abbrev K9:=zi tI_3 (zi zI_3 (zi aY (zi tI_5 (zi zI_5 (zi m6 (zi tI_9 (zi zI_9 (zi cV (zi tI_147 (zi zI_147 (zi lT (zi qP (zi qR sN)))))))))))))
set_option maxHeartbeats 1000000 in
theorem aYN(s:ByteArray)(c:Nat)(hs:s.size≤1048576)(st:aA):aD prog 265 [.str s,.int .u8 (c:Int)] st (fun r st'=>r=.slice ((pC c (sb s) []).map nR)∧st'=st):=by
 generalize hT:pC c (sb s) []=T
 refine aD.oK (aD.fin ?_)
 refine wF [1000000] 2 func265 ntmps265 rfl rfl ?_
 intro _
 simp -implicitDefEqProofs only[aB,seval,K9]
 refine iP (σ:=List (List UInt8)×Nat×Nat×Nat) [1000000] [0,1,4] (fun x=>((x.2.2.1≤s.size∧x.2.1≤x.2.2.1∧x.1++pC c ((sb s).drop x.2.2.1) (((sb s).drop x.2.1).take (x.2.2.1 - x.2.1))=T)∨(x.2.2.1=s.size+1∧x.2.1≤s.size+1∧x.1=T))∧x.1.length≤x.2.2.1∧(x.1.map nR≠[]→st x.2.2.2=none)) (fun x=>[(5,bU 1 x.2.2.2 (x.1.map nR)),(6,.int .i64 (x.2.1:Int)),(7,.int .i64 (x.2.2.1:Int))]) (fun x=>aZ st x.2.2.2 (x.1.map nR)) (fun x=>s.size+1 - x.2.2.1) (by decide +kernel) ⟨([],0,0,0),⟨Or.inl ⟨jE _,cY _,hT⟩,jE _,by simp⟩,aM.mk (by simp -implicitDefEqProofs only[a7,iY,aB,↓aU,seval])⟩ ?_
 rintro⟨out,f,i,b⟩ ⟨ht,hlen,hb⟩
 simp only at ht hlen hb ⊢
 by_cases hi:i≤s.size
 case neg=>
  obtain⟨h1,h2,rfl⟩:i=s.size+1∧f≤s.size+1∧out=T:=by
   rcases ht with h | h
   · exact absurd h.1 hi
   · exact h
  have hi':((i:Int)≤(s.size:Int))=False:=cK (by omega)
  simp -implicitDefEqProofs only[hi',bX,aB,seval,K9]
  exact⟨b,_,st,rfl,hb,a7T _,⟨1,aRK _⟩,by rw[oH],aL.refl _⟩
 obtain⟨-,hfi,ht⟩:i≤s.size∧f≤i∧out++pC c ((sb s).drop i) (((sb s).drop f).take (i - f))=T:=by
  rcases ht with h | h
  · exact h
  · omega
 have hi':((i:Int)≤(s.size:Int))=True:=dC (by omega)
 have hw:=bE (n:=(i:Int)+1)
 have hsl:=fun(φ:AF) (y z:Operand) (h:φ.eval y=.int .i64 (f:Int)) (h':φ.eval z=.int .i64 (i:Int))=>KV (s:=s) h h' hfi hi
 rw[IM] at hsl
 generalize hp:((sb s).drop f).take (i - f)=p at *
 have NT:∀(K:AV→aA→Prop),(∀b',((out++ [p]).map nR≠[]→st b'=none)→K (bU 1 b' ((out++ [p]).map nR)) (aZ st b' ((out++ [p]).map nR)))→jT prog 147 (aZ st b (out.map nR)) (bU 1 b (out.map nR)) (.fslice [.str (ba p)]) K:=by
  intro K hK
  refine eQ lT qP qR rfl rfl (f9 rfl rfl) (aRK _) hb (by simp only[aF,aX,a8];omega) (by simp only[aF,aX,a8];omega) (fun b' hb'=>?_)
  rw[show out.map nR++ [AV.str (ba p)]=(out++ [p]).map nR by simp [nR]] at hb' ⊢
  exact hK b' hb'
 by_cases hie:i=s.size
 case pos=>
  have N2:((i:Int)=(s.size:Int))=True:=dC (by omega)
  rw[B2 (by rw[cQ];omega)] at ht
  simp only[pC] at ht
  simp -implicitDefEqProofs only[hi',N2,hsl,bV,aB,seval,K9]
  refine NT _ fun b' hb'=>?_
  simp -implicitDefEqProofs only[hw,aB,seval]
  refine⟨(out++ [p],i+1,i+1,b'),by simp only;omega,⟨Or.inr ⟨by simp only;omega,by simp only;omega,ht⟩,by simp only[dQ,aX,a8];omega,hb'⟩,aM.mk (by simp -implicitDefEqProofs only[aB,seval]<;>exact⟨rfl,rfl⟩)⟩
 have N2:((i:Int)=(s.size:Int))=False:=cK (by omega)
 obtain⟨x,hx⟩:=xZ (s:=s) (n:=i) (by omega)
 have hix:=u9 (P:=prog) (t:=9) cV hx
 obtain⟨hx1,hx2⟩:=fL.1 hx
 rw[qF hx1,hx2] at ht
 unfold pC at ht
 by_cases hxc:x.toNat=c
 · rw[aH hxc] at ht
   have VB:((x.toNat:Int)=(c:Int))=True:=dC (by omega)
   simp -implicitDefEqProofs only[hi',N2,hsl,hix,VB,bV,bX,aB,seval,K9]
   refine NT _ fun b' hb'=>?_
   simp -implicitDefEqProofs only[hw,aB,seval]
   refine⟨(out++ [p],i+1,i+1,b'),by simp only;omega,⟨Or.inl ⟨by simp only;omega,cY _,by rw[←ht];simp⟩,by simp only[dQ,aX,a8];omega,hb'⟩,aM.mk (by simp -implicitDefEqProofs only[aB,seval]<;>exact⟨rfl,rfl⟩)⟩
 · rw[aE hxc] at ht
   have VB:((x.toNat:Int)=(c:Int))=False:=cK (by omega)
   have hp':((sb s).drop f).take (i+1 - f)=p++ [x]:=by
    rw[show i+1 - f=(i - f)+1 by omega,eD,hp,QX,show f+(i - f)=i by omega,hx];try rfl
   simp -implicitDefEqProofs only[hi',N2,hw,hix,VB,bV,bX,aB,seval,K9]
   refine⟨(out,f,i+1,b),by simp only;omega,⟨Or.inl ⟨by simp only;omega,by simp only;omega,by simp only;rw[hp'];exact ht⟩,by simp only;omega,hb⟩,aM.mk (by simp -implicitDefEqProofs only[aB,seval]<;>rfl)⟩
def HZ(o:Option (List Cl))(r:AV):Prop:=match o with | some l=>r=.tup [.slice (l.map bR),.bool true] | none=>r=.tup [.slice [],.bool false]
theorem aCR:∀(ls:List (List UInt8)) (acc r:List Cl),(∀c∈acc,yA c∧mS c=true)→DE ls acc=some r→(∀c∈r,yA c∧mS c=true)∧r.length=acc.length+ls.length
 | [],acc,r,h,h1=>by cases h1;exact⟨h,rfl⟩
 | l::ls,acc,r,h,h1=>by
  unfold DE at h1
  split at h1
  · cases h1
  rename_i c h2
  have:=aCR ls (acc++ [c]) r (by intro x hx;rw[d6,HS] at hx;rcases hx with hx | rfl;exact h x hx;exact aRJ h2) h1
  refine⟨this.1,?_⟩
  rw[this.2]
  simp only[dQ,aX,a8]
  omega
abbrev BN:=zi tI_3 (zi zI_3 (zi aY (zi tI_4 (zi zI_4 (zi cJ (zi tI_5 (zi zI_5 (zi m6 (zi tI_8 (zi zI_8 (zi AS (zi AT (zi AU (zi AX (zi AD (zi tI_9 (zi zI_9 (zi cV (zi tI_10 (zi zI_10 (zi bA2 (zi tI_29 (zi zI_29 (zi fN (zi iG (zi iI (zi jN (zi tI_84 (zi zI_84 (zi mA (zi mB (zi l8 (zi tI_147 (zi zI_147 (zi lT (zi qP (zi qR sN)))))))))))))))))))))))))))))))))))))
set_option maxHeartbeats 1000000 in
theorem aXT(s:ByteArray)(hs:s.size≤100000)(st:aA):aD prog 205 [.str s] st (fun r st'=>HZ (DO (sb s)) r∧st'=st):=by
 generalize hP:DO (sb s)=T
 unfold DO at hP
 simp only at hP
 have A0:=fun st=>aYN s 10 (by omega) st
 rw[show((10:Nat):Int)=10 from rfl] at A0
 have hne:=aC3 10 (sb s) []
 have hcl:=S5 10 (sb s) []
 rw[cQ] at hcl
 generalize pC 10 (sb s) []=L at *
 obtain⟨m,hm⟩:∃m,L.length=m+1:=⟨L.length - 1,by have:=QY.2 hne;omega⟩
 obtain⟨y,hy⟩:∃y,L[m]?=some y:=⟨_,eA (by omega)⟩
 have hgl:L.getLast?=some y:=by rw[YZ,hm];exact hy
 rw[hgl] at hP
 refine aD.drop (Q:=HZ T) (aD.fin ?_)
 have wS:T=none→∀(b:Nat) (l:List Cl) (s0:aA),(l.map bR≠[]→s0 b=none)→aL s0 st→∃b2 l2 s1,aZ s0 b (l.map bR)=aZ s1 b2 l2∧(l2≠[]→s1 b2=none)∧(∀e∈l2,e.cE=false)∧iV l2∧aL s1 st∧HZ T ((AV.tup [.fslice [],.bool false]).fin b2 l2):=by
  rintro rfl b l s0 hb hD
  exact⟨b,_,s0,rfl,hb,S3 _,⟨5,IZ _⟩,hD,by simp only[HZ,kC,rU,oL,bH,a7]⟩
 refine wF [1000000] 1 func205 ntmps205 rfl rfl ?_
 intro _
 simp -implicitDefEqProofs only[aB,seval,BN]
 refine(A0 _).to ?_
 have hat:=bP (av:=nR) lT hy rfl
 have hw0:=pN (x:=(L.length:Int) - 1) (m:=m) (by omega) (by omega)
 by_cases h21:21<L.length
 case pos=>
  rw[aH (Or.inl h21)] at hP
  have NP:((21:Int)<(L.length:Int))=True:=dC (by omega)
  simp -implicitDefEqProofs only[aF,NP,bV,aB,seval,BN]
  exact wS hP.symm 0 [] st (by simp) (aL.refl _)
 have NP:((21:Int)<(L.length:Int))=False:=cK (by omega)
 by_cases hye:y= []
 case neg=>
  rw[aH (Or.inr (by simpa using hye))] at hP
  have VD:(ba y=⟨#[]⟩)=False:=cK fun h=>hye (by have:=gH sb h;exact this)
  simp -implicitDefEqProofs only[aF,NP,hw0,hat,nR,VD,bX,aB,seval,BN]
  exact wS hP.symm 0 [] st (by simp) (aL.refl _)
 rw[aE (by rintro(h | h);exact h21 h;exact h (by rw[hye]))] at hP
 have VD:(ba y=⟨#[]⟩)=True:=dC (by rw[hye])
 simp -implicitDefEqProofs only[aF,NP,hw0,hat,nR,VD,bV,bX,aB,seval,BN]
 refine iP (σ:=Nat×List Cl×Nat) [1000000] [5] (fun x=>x.1≤m∧DE (L.dropLast.drop x.1) x.2.1=T∧x.2.1.length=x.1∧(∀c∈x.2.1,yA c)∧(x.2.1.map bR≠[]→st x.2.2=none)) (fun x=>[(2,.fslice []),(3,.bool false),(4,bU 5 x.2.2 (x.2.1.map bR)),(6,.int .i64 (x.1:Int))]) (fun x=>aZ st x.2.2 (x.2.1.map bR)) (fun x=>m - x.1) (by decide +kernel) ⟨(0,[],0),⟨jE _,hP,rfl,by simp,by simp⟩,aM.mk (by simp -implicitDefEqProofs only[a7,iY,aB,↓aU,seval])⟩ ?_
 rintro⟨i,acc,b⟩ ⟨hi,ht,hlen,hdn,hb⟩
 simp only at hi ht hlen hdn hb ⊢
 have hdl:L.dropLast.length=m:=by rw[List.length_dropLast,hm];try rfl
 have hw1:=bE (n:=(i:Int)+1)
 by_cases him:i<m
 case neg=>
  have C5:((i:Int)+1<(L.length:Int))=False:=cK (by omega)
  rw[B2 (by omega)] at ht
  simp only[DE] at ht
  simp -implicitDefEqProofs only[aF,C5,hw1,nF,o7,vP,bX,aB,seval,BN]
  exact⟨b,_,st,rfl,hb,S3 _,⟨5,IZ _⟩,aL.refl _,by rw[←ht];simp only[HZ,kC,rU,lU,bH,a7]⟩
 have C5:((i:Int)+1<(L.length:Int))=True:=dC (by omega)
 obtain⟨z,hz⟩:∃z,L[i]?=some z:=⟨_,eA (by omega)⟩
 have hz2:L.dropLast[i]?=some z:=by rw[List.getElem?_dropLast,aH (by omega)];exact hz
 obtain⟨hz3,hz4⟩:=fL.1 hz2
 rw[qF hz3,hz4] at ht
 unfold DE at ht
 have a3D:=bP (av:=nR) lT hz rfl
 have hpc:=aXS (ba z)
 rw[show sb (ba z)=z from rfl] at hpc
 simp -implicitDefEqProofs only[aF,C5,hw1,a3D,nR,bV,aB,seval,BN]
 refine(hpc _).to ?_
 cases hc:p9 z with
 | none=>
  rw[hc] at ht
  simp -implicitDefEqProofs only[BZ,iL,aB,↓aU,seval,BN]
  exact wS ht.symm b acc st hb (aL.refl _)
 | some c=>
  rw[hc] at ht
  simp only at ht
  have hcd:=(aRJ hc).1
  have hca:=uM c
  have hcw:=kA c
  have hcj:=CL c
  have hcs:=FC c
  have hcc:=MZ c
  simp -implicitDefEqProofs only[BZ,hca,hcw,hcj,hcs,aB,↓aU,seval,BN]
  refine eQ fN iG iI rfl rfl (f9 hcw hcs) (IZ _) hb (by simp only[aF,aX,a8];omega) (by simp only[aF,aX,a8];omega) (fun b' hb'=>?_)
  rw[show acc.map bR++ [bR c]=(acc++ [c]).map bR by simp] at hb' ⊢
  simp -implicitDefEqProofs only[hw1,aB,seval]
  refine⟨(i+1,acc++ [c],b'),by simp only;omega,⟨by simp only;omega,ht,by simp only[dQ,aX,a8];omega,?_,hb'⟩,aM.mk (by simp -implicitDefEqProofs only[aB,seval]<;>rfl)⟩
  intro x hx
  rw[d6,HS] at hx
  rcases hx with hx | rfl
  · exact hdn x hx
  · exact hcd
def H0(o:Option (List Tm)):AV:=match o with | some l=>.tup [.slice (l.map Tm.av),.bool true] | none=>.tup [.slice [],.bool false]
theorem a7R{l:List UInt8}{q:List Tm}(h:oR l=some q):lM q=true∧∀t∈q,Dn t:=by
 unfold oR at h
 split at h
 · cases h
 rename_i g e h1
 split at h
 · rename_i h2
   cases h
   exact⟨h2.2.2,(NN h2.1 7 0 [] _ _ (jE _) (by simp) h1).2.2.1⟩
 · cases h
abbrev xC:=zi tI_3 (zi zI_3 (zi aY (zi tI_4 (zi zI_4 (zi cJ (zi tI_9 (zi zI_9 (zi cV (zi tI_31 (zi zI_31 (zi aQ (zi bS (zi bT (zi cI (zi tI_66 (zi zI_66 (zi bZ (zi b9 (zi cA (zi cB bY))))))))))))))))))))
set_option maxHeartbeats 1000000 in
theorem aA5(s:ByteArray)(st:aA):aD prog 207 [.str s] st (fun r st'=>r=H0 (oR (sb s))∧st'=st):=by
 refine aD.oK (aD.fin ?_)
 have wS:oR (sb s)=none→∃b l s0,st=aZ s0 b l∧(l≠[]→s0 b=none)∧(∀e∈l,e.cE=false)∧iV l∧(AV.tup [.fslice [],.bool false]).fin b l=H0 (oR (sb s))∧aL s0 st:=fun h=>by
  rw[h]
  exact⟨0,[],st,rfl,by simp,by simp,⟨4,by simp⟩,by simp only[H0,kC,rU,oL,bH,a7],aL.refl _⟩
 refine wF [1000000] 1 func207 ntmps207 rfl rfl ?_
 intro _
 by_cases hs:s.size≤1000
 case neg=>
  have hs':((1000:Int)<(s.size:Int))=True:=dC (by omega)
  have hP:oR (sb s)=none:=by
   unfold oR
   split
   · rfl
   · rw[aE fun h=>hs (by rw[←cQ];exact h.1)]
  simp -implicitDefEqProofs only[hs',bV,aB,seval,xC]
  exact wS hP
 have hs':((1000:Int)<(s.size:Int))=False:=cK (by omega)
 have h0:=fun st=>aBY hs 0 (jE _) st
 rw[show((0:Nat):Int)=0 from rfl] at h0
 simp -implicitDefEqProofs only[hs',bX,aB,seval,xC]
 refine(h0 _).mono ?_
 rintro r st ⟨hr,rfl⟩
 cases hG:uS (sb s) 7 0 [] with
 | none=>
  have hP:oR (sb s)=none:=by unfold oR;rw[hG]
  rw[hG] at hr
  simp only[t6] at hr
  subst hr
  have he:((-1:Int)=(s.size:Int))=False:=cK (by omega)
  simp -implicitDefEqProofs only[he,bX,aB,seval,xC]
  exact wS hP
 | some p=>
  obtain⟨g,e⟩:=p
  rw[hG] at hr
  simp only[t6] at hr
  subst hr
  have hg:=NN (by rw[cQ];exact hs) 7 0 [] _ _ (jE _) (by simp) hG
  rw[cQ] at hg
  simp -implicitDefEqProofs only[aB,seval,xC]
  by_cases he:e=s.size
  case neg=>
   have hP:oR (sb s)=none:=by
    unfold oR
    rw[hG]
    simp only
    rw[aE fun h=>he (by rw[←cQ];exact h.2.1)]
   have he':((e:Int)=(s.size:Int))=False:=cK (by omega)
   simp -implicitDefEqProofs only[he',bX,aB,seval,xC]
   exact wS hP
  have he':((e:Int)=(s.size:Int))=True:=dC (by omega)
  simp -implicitDefEqProofs only[he',bV,aB,seval]
  refine(SS g _).to ?_
  cases hq:lM g with
  | false=>
   have hP:oR (sb s)=none:=by
    unfold oR
    rw[hG]
    simp only
    rw[aE fun h=>by rw[hq] at h;exact absurd h.2.2 (by decide)]
   simp -implicitDefEqProofs only[aB,seval,xC]
   exact wS hP
  | true=>
   have hP:oR (sb s)=some g:=by
    unfold oR
    rw[hG]
    simp only
    rw[aH ⟨by rw[cQ];exact hs,by rw[cQ];exact he,hq⟩]
   have hg6:g.length≤6:=by
    simp only[lM,cF,bK] at hq
    exact hq.1
   simp -implicitDefEqProofs only[aB,seval,xC]
   refine d8 (σ:=Nat) [1000000] [2,3,4] g (fun i b=>((g.take i).map Tm.av≠[]→st b=none)) (fun i b=>[(6,bU 4 b ((g.take i).map Tm.av)),(7,.int .i64 i)]) (fun i b=>aZ st b ((g.take i).map Tm.av)) (by decide +kernel) ⟨0,fun h=>absurd rfl h,aM.mk (by simp -implicitDefEqProofs only[iY,aB,↓aU,seval])⟩ (fun i x b hx hlt bL hdr hinv=>?_) (fun b hge hinv=>?_)
   case refine_1=>
    have hw:=bE (n:=(i:Int)+1)
    have c8:((g.take i).map Tm.av).length=i:=by simp only[aF,dE];omega
    have htk:(g.take i).map Tm.av++ [x.av]=(g.take (i+1)).map Tm.av:=by rw[eD,hx];simp
    have hat:=bP (av:=Tm.av) aQ hx (aO x)
    simp -implicitDefEqProofs only[bL,aF,hat,bG,aO,aB,seval,xC]
    refine(IQ x _ (hg.2.2.1 x (cM hx)).2).to ?_
    simp -implicitDefEqProofs only[bG,aO,cU,aB,seval,xC]
    refine eQ aQ bS bT rfl rfl (f9 (aO _) (cP _)) (gZ _) hinv (by simp only[c8,aX,a8];omega) (by simp only[c8,aX,a8];omega) (fun b' hb'=>?_)
    rw[htk] at hb' ⊢
    simp -implicitDefEqProofs only[hw,aB,seval]
    exact⟨b',hb',aM.mk (by simp -implicitDefEqProofs only[aB,seval])⟩
   rw[dZ] at hinv ⊢
   simp -implicitDefEqProofs only[aF,hge,nF,o7,vP,aB,seval,xC]
   rw[hP]
   exact⟨b,_,st,rfl,hinv,pM _,⟨4,gZ _⟩,by simp only[H0,kC,rU,lU,bH,a7],aL.refl _⟩
end Go.AW
namespace Go.AW
section
variable {h:bQ} {st:aA}
end
def L0(n k:Nat)(q o:AV):Prop:=(k≤n∧∃b w,q=.mslice b 0 n w∧o=.mslice b (k*w) (n - k) w)∨(k=n∧o=.fslice [])
def qH(st s0:aA)(os us:List AV):Prop:=∀h vs,cS h st→dF h st os vs→dF h s0 us vs
theorem qH.nil{st s0:aA}:qH st s0 [] []:=fun _ _ _ y=>y
theorem qH.cons{st s0:aA}{o a:AV}{os us:List AV}(x:∀h v,cS h st→aR h st o v→aR h s0 a v)(h:qH st s0 os us):qH st s0 (o::os) (a::us):=fun hp vs S y=>by
 simp only[dF] at y ⊢
 obtain⟨v,r,rfl,y1,y2⟩:=y
 exact⟨v,r,rfl,x hp v S y1,h hp r S y2⟩
theorem PE{n k:Nat}{q o:AV}(h:L0 n k q o):o.isAgg=false∧o.cE=false∧o.width=1∧o.cells= [o]∧o.storable=true:=by
 rcases h with ⟨_,b,w,_,rfl⟩ | ⟨_,rfl⟩<;>exact⟨rfl,rfl,rfl,rfl,rfl⟩
theorem CA.fin{s0:aA}{b:Nat}{l:List AV}{r:AV}(h0:l≠[]→s0 b=none)(h2:∀e∈l,e.cE=false)(h3:iV l):H4 (aZ s0 b l) s0∧CA (aZ s0 b l) r s0 (r.fin b l):=by
 cases l with
 | nil=>exact⟨(aL.refl _).rJ,fun h v S y=>y.soft⟩
 | cons e l=>
  have hb:=h0 (by simp)
  have h1:aZ s0 b (e::l) b=some (.cells ((e::l).flatMap AV.cells)):=by simp only[aZ,aA.aJ]
  have e1:(aZ s0 b (e::l)).erase b=s0:=by simp only[aZ];exact aA.AQ _ _ _ hb
  refine⟨?_,fun h v S y=>?_⟩
  · have:=(kB (aZ s0 b (e::l)) b).rJ
    rwa [e1] at this
  · have:=y.fz S h1 h2 h3
    rw[e1] at this
    exact this.soft
end Go.AW
namespace Go.AW
open Go.Proofs.Tryz
abbrev bAP:=zi tI_147 (zi zI_147 (zi lT (zi qP (zi qR sN))))
theorem aZM(st:aA):aD prog 204 [] st (fun r st'=>r=.slice (QF.map AV.str)∧st'=st):=by
 refine aD.done ?_
 refine wF [1000000] 0 func204 ntmps204 rfl rfl ?_
 intro _
 simp -implicitDefEqProofs only[aB,seval,bAP]
 exact⟨rfl,aL.refl _⟩
abbrev bAQ:=zi tI_147 (zi zI_147 (zi lT (zi qP (zi qR sN))))
theorem aZY(st:aA):aD prog 267 [] st (fun r st'=>r=.slice (YF.map AV.str)∧st'=st):=by
 refine aD.done ?_
 refine wF [1000000] 0 func267 ntmps267 rfl rfl ?_
 intro _
 simp -implicitDefEqProofs only[aB,seval,bAQ]
 exact⟨rfl,aL.refl _⟩
end Go.AW
namespace Go.AW
abbrev cT (σ:Sub):Prop:=∃R rk B,Good σ R rk B
theorem cT.rs{σ:Sub}(h:cT σ):∃rk B,Good σ (rs σ) rk B:=by
 obtain⟨R,rk,B,G⟩:=h
 exact⟨rk,B,by rw[G.rs];exact G⟩
theorem cT.none:cT Sub.none:=⟨_,_,_,Good.none⟩
structure pS (σ:Sub) (a b:List Tm) (r:Bool) (σ':Sub) (tr:List Int):Prop where
 iC:cT σ'
 aV:∀m,m∉tr→σ' m=σ m
 new:∀m∈tr,σ m=none∧σ' m≠none
 nodup:tr.Nodup
 eq:r=true→a.map (Tm.aN (rs σ'))=b.map (Tm.aN (rs σ'))
 gen:∀θ,sR θ σ→a.map (Tm.aN θ)=b.map (Tm.aN θ)→r=true∧sR θ σ'
 same:tr= []→σ'=σ
theorem sR.sub{σ σ':Sub}{θ:Int→Tm}{tr:List Int}(S:sR θ σ')(aV:∀m,m∉tr→σ' m=σ m)(new:∀m∈tr,σ m=none∧σ' m≠none):sR θ σ:=fun n u h=>by
 by_cases hn:n∈tr
 · rw[(new n hn).1] at h;cases h
 · exact S n u (by rw[aV n hn];exact h)
theorem pS.yU{σ σ':Sub}{a b:List Tm}{r:Bool}{tr:List Int}(h:pS σ a b r σ' tr):sR (rs σ') σ:=by
 obtain⟨rk,B,G⟩:=h.iC.rs
 exact G.yU.sub h.aV h.new
theorem pS.stays{σ σ':Sub}{a b:List Tm}{r:Bool}{tr:List Int}(h:pS σ a b r σ' tr)(hg:cT σ){x y:Tm}(e:x.aN (rs σ)=y.aN (rs σ)):x.aN (rs σ')=y.aN (rs σ'):=by
 obtain⟨rk,B,G⟩:=hg.rs
 rw[←G.TQ h.yU x,←G.TQ h.yU y,e]
theorem aAV{σ:Sub}(hg:cT σ){a b:Tm}{n:Int}(ha:a.k=1)(han:a.n=n)(hn:σ n=none)(hb:b.k=1→σ b.n=none∧b.n≠n){r:Bool}{σ':Sub}{tr:List Int}(h:kV σ n b=(r,σ',tr)):pS σ [a] [b] r σ' tr:=by
 obtain⟨rk,B,G⟩:=hg.rs
 have hav:∀θ,a.aN θ=θ n:=fun θ=>by rw[Tm.GE θ ha,han]
 unfold kV at h
 split at h
 · rename_i fT
   cases h
   refine⟨hg,fun _ _=>rfl,fun _ h=>absurd h (dT),lZ,fun h=>(by cases h),fun θ S e=>?_,fun _=>rfl⟩
   exfalso
   simp only[bH,a7,List.cons.injEq,fC] at e
   rw[hav] at e
   by_cases hbk:b.k=1
   · rw[Tm.GE _ hbk,G.free (hb hbk).1,BT] at fT
     simp only[c7,dT,d4] at fT
     exact(hb hbk).2 fT.symm
   · rw[←G.TQ S b] at e
     have h1:((b.aN (rs σ)).aN θ)=(b.aN (rs σ)).aN θ:=rfl
     have hk:(b.aN (rs σ)).k≠1:=by rw[Tm.tJ _ hbk];exact hbk
     have:=(a66 (f:=θ) (b.aN (rs σ)) fT).2 hk
     rw[e] at this
     exact absurd this (Nat.lt_irrefl _)
 · rename_i fT
   cases h
   obtain⟨rk',B',G'⟩:=G.bind hn fT
   have hR:=G'.rs
   refine⟨⟨_,_,_,G'⟩,fun m hm=>?_,fun m hm=>?_,by simp,fun _=>?_,fun θ S e=>⟨rfl,fun m u hu=>?_⟩,fun h=>(by cases h)⟩
   · simp only[c7,dT,d4] at hm
     simp only[Sub.set,hm,dY]
   · simp only[c7,dT,d4] at hm
     subst hm
     exact⟨hn,by simp [Sub.set]⟩
   · simp only[bH,a7,List.cons.injEq,fC]
     rw[hav,hR]
     exact G'.bound (by simp [Sub.set])
   · simp only[bH,a7,List.cons.injEq,fC] at e
     rw[hav] at e
     simp only[Sub.set] at hu
     split at hu
     · rename_i hmn
       cases hu
       rw[hmn,e]
     · exact S m u hu
theorem uW{a b:Tm}:wM a b=true↔a.k=b.k∧a.n=b.n∧a.s=b.s∧a.ts.length=b.ts.length:=by
 simp only[wM,cF,bK,and_assoc]
theorem aUR(g:Nat)(a5Q:∀σ a b r σ' tr,cT σ→dP g σ a b=some (r,σ',tr)→pS σ [a] [b] r σ' tr):∀xs ys σ r σ' tr,cT σ→xs.length=ys.length→eF g σ xs ys=some (r,σ',tr)→pS σ xs ys r σ' tr:=by
 intro xs
 have ihU:=a5Q
 induction xs with
 | nil=>
  intro ys σ r σ' tr hg hl h
  cases ys with
  | cons _ _=>simp at hl
  | nil=>
   simp only[eF,Option.some.injEq,Prod.mk.injEq] at h
   obtain⟨rfl,rfl,rfl⟩:=h
   exact⟨hg,fun _ _=>rfl,fun _ h=>absurd h (dT),lZ,fun _=>rfl,fun θ S _=>⟨rfl,S⟩,fun _=>rfl⟩
 | cons a xs ih=>
  intro ys σ r σ' tr hg hl h
  cases ys with
  | nil=>simp at hl
  | cons b ys=>
   rw[eF] at h
   cases h1:dP g σ a b with
   | none=>rw[h1] at h;cases h
   | some p=>
    obtain⟨r1,σ1,tr1⟩:=p
    have U1:=ihU σ a b r1 σ1 tr1 hg h1
    rw[h1] at h
    cases r1 with
    | false=>
     simp only[Option.some.injEq,Prod.mk.injEq] at h
     obtain⟨rfl,rfl,rfl⟩:=h
     refine⟨U1.iC,U1.aV,U1.new,U1.nodup,fun h=>(by cases h),fun θ S e=>?_,U1.same⟩
     simp only[bH,List.cons.injEq] at e
     exact U1.gen θ S (by simp [e.1])
    | true=>
     simp only at h
     cases h2:eF g σ1 xs ys with
     | none=>rw[h2] at h;cases h
     | some p2=>
      obtain⟨r2,σ2,tr2⟩:=p2
      rw[h2] at h
      simp only[Option.some.injEq,Prod.mk.injEq] at h
      obtain⟨rfl,rfl,rfl⟩:=h
      have U2:=ih ys σ1 r2 σ2 tr2 U1.iC (by simpa using hl) h2
      refine⟨U2.iC,fun m hm=>?_,fun m hm=>?_,?_,fun hr=>?_,fun θ S e=>?_,fun h=>?_⟩
      · simp only[d6,nO] at hm
        rw[U2.aV m hm.2,U1.aV m hm.1]
      · rcases d6.1 hm with hm | hm
        · refine⟨(U1.new m hm).1,fun h=>(U1.new m hm).2 ?_⟩
          by_cases h3:m∈tr2
          · exact(U2.new m h3).1
          · rw[←U2.aV m h3];exact h
        · refine⟨?_,(U2.new m hm).2⟩
          by_cases h3:m∈tr1
          · exact(U1.new m h3).1
          · rw[←U1.aV m h3];exact(U2.new m hm).1
      · rw[mJ]
        refine⟨U1.nodup,U2.nodup,fun x hx y hy e=>?_⟩
        subst e
        exact(U1.new x hx).2 (U2.new x hy).1
      · have e1:=U1.eq rfl
        simp only[bH,a7,List.cons.injEq,fC] at e1
        simp only[bH]
        rw[U2.stays U1.iC e1,U2.eq hr]
      · simp only[bH,List.cons.injEq] at e
        obtain⟨_,S1⟩:=U1.gen θ S (by simp [e.1])
        exact U2.gen θ S1 e.2
      · simp only[List.append_eq_nil_iff] at h
        rw[U2.same h.2,U1.same h.1]
theorem bA9:∀(g:Nat),(∀σ a b r σ' tr,cT σ→dP g σ a b=some (r,σ',tr)→pS σ [a] [b] r σ' tr) ∧
 ∀xs ys σ r σ' tr,cT σ→xs.length=ys.length→eF g σ xs ys=some (r,σ',tr)→pS σ xs ys r σ' tr:=by
 intro g
 induction g with
 | zero=>
  have h0:∀σ a b r σ' tr,cT σ→dP 0 σ a b=some (r,σ',tr)→pS σ [a] [b] r σ' tr:=fun σ a b r σ' tr hg h=>by simp only[dP] at h;cases h
  exact⟨h0,aUR _ h0⟩
 | succ g ih=>
  suffices hU:∀σ a b r σ' tr,cT σ→dP (g+1) σ a b=some (r,σ',tr)→pS σ [a] [b] r σ' tr from ⟨hU,aUR _ hU⟩
  intro σ a b r σ' tr hg h
  obtain⟨ihU,ihL⟩:=ih
  have a5P:=fun xs ys σ r σ' tr hg hl h=>ihL xs ys σ r σ' tr hg hl h
  obtain⟨rk,B,G⟩:=hg.rs
  obtain⟨fa,wa⟩:=G.wk a
  obtain⟨fb,wb⟩:=G.wk b
  have hma:∀θ,sR θ σ→(wk σ a).aN θ=a.aN θ:=fun θ S=>wa.aN S
  have hmb:∀θ,sR θ σ→(wk σ b).aN θ=b.aN θ:=fun θ S=>wb.aN S
  -- it suffices to speak of the walked terms
  suffices hw:pS σ [wk σ a] [wk σ b] r σ' tr by
   refine⟨hw.iC,hw.aV,hw.new,hw.nodup,fun hr=>?_,fun θ S e=>?_,hw.same⟩
   · have:=hw.eq hr
     simp only[bH,a7,List.cons.injEq,fC] at this ⊢
     rw[←hma _ hw.yU,←hmb _ hw.yU];exact this
   · refine hw.gen θ S ?_
     simp only[bH,a7,List.cons.injEq,fC] at e ⊢
     rw[hma θ S,hmb θ S];exact e
  have ea:=wa.end
  have eb:=wb.end
  rw[dP] at h
  generalize wk σ a=a at *
  generalize wk σ b=b at *
  split at h
  · rename_i hc
    simp only[Option.some.injEq,Prod.mk.injEq] at h
    obtain⟨rfl,rfl,rfl⟩:=h
    have he:∀θ,a.aN θ=b.aN θ:=fun θ=>by rw[Tm.GE θ hc.1,Tm.GE θ hc.2.1,hc.2.2]
    exact⟨hg,fun _ _=>rfl,fun _ h=>absurd h (dT),lZ,fun _=>by simp [he],fun θ S _=>⟨rfl,S⟩,fun _=>rfl⟩
  · rename_i hc
    split at h
    · rename_i ha
      exact aAV hg ha rfl (ea ha) (fun hb=>⟨eb hb,fun e=>hc ⟨ha,hb,e.symm⟩⟩) (nC h)
    · rename_i ha
      split at h
      · rename_i hb
        have U:=aAV hg hb rfl (eb hb) (fun ha'=>absurd ha' ha) (nC h)
        exact⟨U.iC,U.aV,U.new,U.nodup,fun hr=>(U.eq hr).symm,fun θ S e=>U.gen θ S e.symm,U.same⟩
      · rename_i hb
        split at h
        · rename_i hh
          rw[uW] at hh
          have U:=a5P a.ts b.ts σ r σ' tr hg hh.2.2.2 h
          refine⟨U.iC,U.aV,U.new,U.nodup,fun hr=>?_,fun θ S e=>?_,U.same⟩
          · simp only[bH,a7,List.cons.injEq,fC]
            rw[Tm.tJ _ ha,Tm.tJ _ hb,hh.1,hh.2.1,hh.2.2.1,U.eq hr]
          · simp only[bH,a7,List.cons.injEq,fC] at e
            rw[Tm.tJ _ ha,Tm.tJ _ hb] at e
            exact U.gen θ S (by injection e)
        · rename_i hh
          simp only[Option.some.injEq,Prod.mk.injEq] at h
          obtain⟨rfl,rfl,rfl⟩:=h
          refine⟨hg,fun _ _=>rfl,fun _ h=>absurd h (dT),lZ,fun h=>(by cases h),fun θ S e=>?_,fun _=>rfl⟩
          exfalso
          simp only[bH,a7,List.cons.injEq,fC] at e
          rw[Tm.tJ _ ha,Tm.tJ _ hb] at e
          injection e with e1 e2 e3 e4
          exact hh (uW.2 ⟨e1,e2,e3,by simpa using gH List.length e4⟩)
theorem zJ{g:Nat}{σ:Sub}{a b:Tm}{r:Bool}{σ':Sub}{tr:List Int}(hg:cT σ)(h:dP g σ a b=some (r,σ',tr)):pS σ [a] [b] r σ' tr:=(bA9 g).1 σ a b r σ' tr hg h
theorem aUS(g g':Nat)(ih:∀σ a b x,dP g σ a b=some x→dP g' σ a b=some x):∀xs ys σ x,eF g σ xs ys=some x→eF g' σ xs ys=some x:=by
 intro xs
 induction xs with
 | nil=>intro ys σ x h;cases ys<;>simpa only[eF] using h
 | cons a xs ihx=>
  intro ys σ x h
  cases ys with
  | nil=>simpa only[eF] using h
  | cons b ys=>
   rw[eF] at h ⊢
   cases h1:dP g σ a b with
   | none=>rw[h1] at h;cases h
   | some p=>
    rw[h1] at h
    rw[ih _ _ _ _ h1]
    obtain⟨r1,σ1,tr1⟩:=p
    cases r1 with
    | false=>exact h
    | true=>
     simp only at h ⊢
     cases h2:eF g σ1 xs ys with
     | none=>rw[h2] at h;cases h
     | some p2=>rw[h2] at h;rw[ihx ys σ1 p2 h2];exact h
theorem bBB:∀(g:Nat) σ a b x,dP g σ a b=some x→dP (g+1) σ a b=some x:=by
 intro g
 induction g with
 | zero=>intro σ a b x h;simp only[dP] at h;cases h
 | succ g ih=>
  intro σ a b x h
  rw[dP] at h ⊢
  split
  · rename_i hc;rw[aH hc] at h;exact h
  · rename_i hc
    rw[aE hc] at h
    split
    · rename_i hc;rw[aH hc] at h;exact h
    · rename_i hc
      rw[aE hc] at h
      split
      · rename_i hc;rw[aH hc] at h;exact h
      · rename_i hc
        rw[aE hc] at h
        split
        · rename_i hc;rw[aH hc] at h;exact aUS g (g+1) ih _ _ _ _ h
        · rename_i hc;rw[aE hc] at h;exact h
theorem QK{g g':Nat}(hle:g≤g'){σ:Sub}{a b:Tm}{x:Bool×Sub×List Int}(h:dP g σ a b=some x):dP g' σ a b=some x:=by
 induction hle with
 | refl=>exact h
 | step _ ih=>exact bBB _ _ _ _ _ ih
theorem bBE{g g':Nat}(hle:g≤g'){σ:Sub}{xs ys:List Tm}{x:Bool×Sub×List Int}(h:eF g σ xs ys=some x):eF g' σ xs ys=some x:=
 aUS g g' (fun _ _ _ _ h=>QK hle h) xs ys σ x h
def vR(σ:Sub)(V:List Int):Nat:=V.countP fun v=>(σ v).isNone
def jP(V:List Int)(t:Tm):Prop:=∀v∈t.vl,v∈V
def nV(V:List Int)(σ:Sub):Prop:=∀n u,σ n=some u→jP V u
theorem bA7{σ σ':Sub}{tr:List Int}{V:List Int}(aV:∀m,m∉tr→σ' m=σ m)(new:∀m∈tr,σ m=none∧σ' m≠none){m:Int}(hm:m∈tr)(hV:m∈V):vR σ' V<vR σ V:=by
 have mono:∀v,(σ' v).isNone=true→(σ v).isNone=true:=fun v h=>by
  by_cases hv:v∈tr
  · rw[(new v hv).1];try rfl
  · rw[←aV v hv];exact h
 have le:∀W:List Int,vR σ' W≤vR σ W:=fun W=>List.countP_mono_left fun v _ h=>mono v h
 unfold vR at *
 induction V with
 | nil=>cases hV
 | cons v V ih=>
  simp only[List.countP_cons]
  have hle:=le V
  rcases c7.1 hV with rfl | hV
  · have h1:(σ m).isNone=true:=by rw[(new m hm).1];try rfl
    have h2:(σ' m).isNone=false:=by
     cases h:σ' m with
     | none=>exact absurd h (new m hm).2
     | some _=>rfl
    simp only[h1,h2,eX,iK,dY]
    omega
  · have:=ih hV
    have h3:=mono v
    by_cases h4:(σ' v).isNone=true
    · rw[aH h4,aH (h3 h4)];omega
    · rw[aE h4];split<;>omega
theorem gK.J7{σ:Sub}{V:List Int}(hr:nV V σ){f:Nat}{t u:Tm}(h:gK σ f t u)(ht:jP V t):jP V u:=h.all (p:=jP V) (fun n u hu=>hr n u hu) ht
theorem jP.p6{V:List Int}{t x:Tm}(h:jP V t)(hk:t.k≠1)(hx:x∈t.ts):jP V x:=fun v hv=>h v (by cases t;exact(Tm.m8 hk).2 ⟨x,hx,hv⟩)
theorem aUQ:∀(g:Nat),(∀σ a b r σ' tr V,cT σ→dP g σ a b=some (r,σ',tr)→nV V σ→jP V a→jP V b→nV V σ'∧∀m∈tr,m∈V) ∧
 ∀xs ys σ r σ' tr V,cT σ→xs.length=ys.length→eF g σ xs ys=some (r,σ',tr)→nV V σ→(∀x∈xs,jP V x)→(∀y∈ys,jP V y)→nV V σ'∧∀m∈tr,m∈V:=by
 intro g
 have list:∀g,(∀σ a b r σ' tr V,cT σ→dP g σ a b=some (r,σ',tr)→nV V σ→jP V a→jP V b→nV V σ'∧∀m∈tr,m∈V) →
  ∀xs ys σ r σ' tr V,cT σ→xs.length=ys.length→eF g σ xs ys=some (r,σ',tr)→nV V σ→(∀x∈xs,jP V x)→(∀y∈ys,jP V y)→nV V σ'∧∀m∈tr,m∈V:=by
  intro g ihU xs
  induction xs with
  | nil=>
   intro ys σ r σ' tr V hg hl h hr _ _
   cases ys with
   | cons _ _=>simp at hl
   | nil=>
    simp only[eF,Option.some.injEq,Prod.mk.injEq] at h
    obtain⟨rfl,rfl,rfl⟩:=h
    exact⟨hr,fun _ h=>absurd h (dT)⟩
  | cons a xs ih=>
   intro ys σ r σ' tr V hg hl h hr hx hy
   cases ys with
   | nil=>simp at hl
   | cons b ys=>
    rw[eF] at h
    cases h1:dP g σ a b with
    | none=>rw[h1] at h;cases h
    | some p=>
     obtain⟨r1,σ1,tr1⟩:=p
     have U1:=zJ hg h1
     obtain⟨i1,i2⟩:=ihU σ a b r1 σ1 tr1 V hg h1 hr (hx a (by simp)) (hy b (by simp))
     rw[h1] at h
     cases r1 with
     | false=>
      simp only[Option.some.injEq,Prod.mk.injEq] at h
      obtain⟨rfl,rfl,rfl⟩:=h
      exact⟨i1,i2⟩
     | true=>
      simp only at h
      cases h2:eF g σ1 xs ys with
      | none=>rw[h2] at h;cases h
      | some p2=>
       obtain⟨r2,σ2,tr2⟩:=p2
       rw[h2] at h
       simp only[Option.some.injEq,Prod.mk.injEq] at h
       obtain⟨rfl,rfl,rfl⟩:=h
       obtain⟨j1,j2⟩:=ih ys σ1 r2 σ2 tr2 V U1.iC (by simpa using hl) h2 i1 (fun x h=>hx x (by simp [h])) (fun y h=>hy y (by simp [h]))
       exact⟨j1,fun m hm=>(d6.1 hm).elim (i2 m) (j2 m)⟩
 induction g with
 | zero=>
  have h0:∀σ a b r σ' tr V,cT σ→dP 0 σ a b=some (r,σ',tr)→nV V σ→jP V a→jP V b→nV V σ'∧∀m∈tr,m∈V:=fun σ a b r σ' tr V hg h=>by simp only[dP] at h;cases h
  exact⟨h0,list 0 h0⟩
 | succ g ih=>
  suffices hU:∀σ a b r σ' tr V,cT σ→dP (g+1) σ a b=some (r,σ',tr)→nV V σ→jP V a→jP V b→nV V σ'∧∀m∈tr,m∈V from ⟨hU,list _ hU⟩
  intro σ a b r σ' tr V hg h hr ha hb
  obtain⟨_,ihL⟩:=ih
  obtain⟨rk,B,G⟩:=hg.rs
  obtain⟨fa,wa⟩:=G.wk a
  obtain⟨fb,wb⟩:=G.wk b
  have va:=wa.J7 hr ha
  have vb:=wb.J7 hr hb
  have bn:∀n (t:Tm) r σ' tr,n∈V→jP V t→kV σ n t=(r,σ',tr)→nV V σ'∧∀m∈tr,m∈V:=by
   intro n t r σ' tr hn ht h
   unfold kV at h
   split at h<;>cases h
   · exact⟨hr,fun _ h=>absurd h (dT)⟩
   · refine⟨fun m u hu=>?_,fun m hm=>by simp only[c7,dT,d4] at hm;rw[hm];exact hn⟩
     simp only[Sub.set] at hu
     split at hu
     · cases hu;exact ht
     · exact hr m u hu
  rw[dP] at h
  generalize wk σ a=a at *
  generalize wk σ b=b at *
  split at h
  · simp only[Option.some.injEq,Prod.mk.injEq] at h
    obtain⟨rfl,rfl,rfl⟩:=h
    exact⟨hr,fun _ h=>absurd h (dT)⟩
  · split at h
    · rename_i hk
      exact bn _ _ _ _ _ (va _ (by rw[Tm.HM hk];simp)) vb (nC h)
    · rename_i hka
      split at h
      · rename_i hk
        exact bn _ _ _ _ _ (vb _ (by rw[Tm.HM hk];simp)) va (nC h)
      · rename_i hkb
        split at h
        · rename_i hh
          exact ihL a.ts b.ts σ r σ' tr V hg (uW.1 hh).2.2.2 h hr (fun x hx=>va.p6 hka hx) (fun y hy=>vb.p6 hkb hy)
        · simp only[Option.some.injEq,Prod.mk.injEq] at h
          obtain⟨rfl,rfl,rfl⟩:=h
          exact⟨hr,fun _ h=>absurd h (dT)⟩
def c9(p:Tm→Prop)(σ:Sub):Prop:=∀n u,σ n=some u→p u
theorem QL{p:Tm→Prop}(hp:∀t:Tm,t.k≠1→p t→∀x∈t.ts,p x):∀(g:Nat),(∀σ a b r σ' tr,cT σ→dP g σ a b=some (r,σ',tr)→c9 p σ→p a→p b→c9 p σ') ∧
 ∀xs ys σ r σ' tr,cT σ→xs.length=ys.length→eF g σ xs ys=some (r,σ',tr)→c9 p σ→(∀x∈xs,p x)→(∀y∈ys,p y)→c9 p σ':=by
 intro g
 have list:∀g,(∀σ a b r σ' tr,cT σ→dP g σ a b=some (r,σ',tr)→c9 p σ→p a→p b→c9 p σ') →
  ∀xs ys σ r σ' tr,cT σ→xs.length=ys.length→eF g σ xs ys=some (r,σ',tr)→c9 p σ→(∀x∈xs,p x)→(∀y∈ys,p y)→c9 p σ':=by
  intro g ihU xs
  induction xs with
  | nil=>
   intro ys σ r σ' tr hg hl h hr _ _
   cases ys with
   | cons _ _=>simp at hl
   | nil=>
    simp only[eF,Option.some.injEq,Prod.mk.injEq] at h
    obtain⟨rfl,rfl,rfl⟩:=h
    exact hr
  | cons a xs ih=>
   intro ys σ r σ' tr hg hl h hr hx hy
   cases ys with
   | nil=>simp at hl
   | cons b ys=>
    rw[eF] at h
    cases h1:dP g σ a b with
    | none=>rw[h1] at h;cases h
    | some p=>
     obtain⟨r1,σ1,tr1⟩:=p
     have U1:=zJ hg h1
     have i1:=ihU σ a b r1 σ1 tr1 hg h1 hr (hx a (by simp)) (hy b (by simp))
     rw[h1] at h
     cases r1 with
     | false=>
      simp only[Option.some.injEq,Prod.mk.injEq] at h
      obtain⟨rfl,rfl,rfl⟩:=h
      exact i1
     | true=>
      simp only at h
      cases h2:eF g σ1 xs ys with
      | none=>rw[h2] at h;cases h
      | some p2=>
       obtain⟨r2,σ2,tr2⟩:=p2
       rw[h2] at h
       simp only[Option.some.injEq,Prod.mk.injEq] at h
       obtain⟨rfl,rfl,rfl⟩:=h
       have j1:=ih ys σ1 r2 σ2 tr2 U1.iC (by simpa using hl) h2 i1 (fun x h=>hx x (by simp [h])) (fun y h=>hy y (by simp [h]))
       exact j1
 induction g with
 | zero=>
  have h0:∀σ a b r σ' tr,cT σ→dP 0 σ a b=some (r,σ',tr)→c9 p σ→p a→p b→c9 p σ':=fun σ a b r σ' tr hg h=>by simp only[dP] at h;cases h
  exact⟨h0,list 0 h0⟩
 | succ g ih=>
  suffices hU:∀σ a b r σ' tr,cT σ→dP (g+1) σ a b=some (r,σ',tr)→c9 p σ→p a→p b→c9 p σ' from ⟨hU,list _ hU⟩
  intro σ a b r σ' tr hg h hr ha hb
  obtain⟨_,ihL⟩:=ih
  obtain⟨rk,B,G⟩:=hg.rs
  obtain⟨fa,wa⟩:=G.wk a
  obtain⟨fb,wb⟩:=G.wk b
  have va:=wa.all hr ha
  have vb:=wb.all hr hb
  have bn:∀n (t:Tm) r σ' tr,p t→kV σ n t=(r,σ',tr)→c9 p σ':=by
   intro n t r σ' tr ht h
   unfold kV at h
   split at h<;>cases h
   · exact hr
   · intro m u hu
     simp only[Sub.set] at hu
     split at hu
     · cases hu;exact ht
     · exact hr m u hu
  rw[dP] at h
  generalize wk σ a=a at *
  generalize wk σ b=b at *
  split at h
  · simp only[Option.some.injEq,Prod.mk.injEq] at h
    obtain⟨rfl,rfl,rfl⟩:=h
    exact hr
  · split at h
    · rename_i hk
      exact bn _ _ _ _ _ vb (nC h)
    · rename_i hka
      split at h
      · rename_i hk
        exact bn _ _ _ _ _ va (nC h)
      · rename_i hkb
        split at h
        · rename_i hh
          exact ihL a.ts b.ts σ r σ' tr hg (uW.1 hh).2.2.2 h hr (fun x hx=>hp _ hka va x hx) (fun y hy=>hp _ hkb vb y hy)
        · simp only[Option.some.injEq,Prod.mk.injEq] at h
          obtain⟨rfl,rfl,rfl⟩:=h
          exact hr
theorem bBC(V:List Int):∀(N M:Nat) (σ:Sub) (a b:Tm),cT σ→nV V σ→jP V a→jP V b→vR σ V≤N→(a.aN (rs σ)).nodes≤M→∃g x,dP g σ a b=some x:=by
 intro N
 induction N using Nat.strongRecOn with
 | _ N ihN=>
 intro M
 induction M using Nat.strongRecOn with
 | _ M ihM=>
 intro σ a b hg hr ha hb hN hM
 have list:∀(xs ys:List Tm) (σ1:Sub),xs.length=ys.length→cT σ1→nV V σ1→(σ1=σ∨vR σ1 V<vR σ V)→(∀x∈xs,jP V x∧(x.aN (rs σ)).nodes<M)→(∀y∈ys,jP V y)→∃g x,eF g σ1 xs ys=some x:=by
  intro xs
  induction xs with
  | nil=>
   intro ys σ1 hl _ _ _ _ _
   cases ys with
   | cons _ _=>simp at hl
   | nil=>exact⟨0,(true,σ1,[]),by simp only[eF]⟩
  | cons x xs ih=>
   intro ys σ1 hl hg1 hr1 hc hx hy
   cases ys with
   | nil=>simp at hl
   | cons y ys=>
    have h1:∃g p,dP g σ1 x y=some p:=by
     rcases hc with rfl | hlt
     · exact ihM _ (hx x (by simp)).2 σ1 x y hg1 hr1 (hx x (by simp)).1 (hy y (by simp)) hN (cY _)
     · exact ihN (vR σ1 V) (by omega) _ σ1 x y hg1 hr1 (hx x (by simp)).1 (hy y (by simp)) (cY _) (cY _)
    obtain⟨g1,⟨r1,σ2,tr1⟩,h1⟩:=h1
    have U1:=zJ hg1 h1
    obtain⟨i1,i2⟩:=(aUQ g1).1 σ1 x y r1 σ2 tr1 V hg1 h1 hr1 (hx x (by simp)).1 (hy y (by simp))
    cases r1 with
    | false=>exact⟨g1,(false,σ2,tr1),by rw[eF,h1]⟩
    | true=>
     have hc2:σ2=σ∨vR σ2 V<vR σ V:=by
      cases htr:tr1 with
      | nil=>rw[U1.same htr];exact hc
      | cons m _=>
       have:=bA7 (V:=V) U1.aV U1.new (m:=m) (by rw[htr];simp) (i2 m (by rw[htr];simp))
       rcases hc with rfl | hlt
       · exact .inr this
       · exact .inr (Nat.lt_trans this hlt)
     obtain⟨g2,p2,h2⟩:=ih ys σ2 (by simpa using hl) U1.iC i1 hc2 (fun z hz=>hx z (by simp [hz])) (fun z hz=>hy z (by simp [hz]))
     obtain⟨r2,σ3,tr2⟩:=p2
     refine⟨max g1 g2,(r2,σ3,tr1++tr2),?_⟩
     rw[eF,QK (Nat.le_max_left g1 g2) h1]
     simp only
     rw[bBE (Nat.le_max_right g1 g2) h2]
 obtain⟨rk,B,G⟩:=hg.rs
 obtain⟨fa,wa⟩:=G.wk a
 obtain⟨fb,wb⟩:=G.wk b
 have va:=wa.J7 hr ha
 have vb:=wb.J7 hr hb
 have hma:=wa.aN G.yU
 rw[←hma] at hM
 by_cases h1:(wk σ a).k=1∧(wk σ b).k=1∧(wk σ a).n=(wk σ b).n
 · exact⟨1,_,by rw[dP,aH h1]⟩
 by_cases h2:(wk σ a).k=1
 · exact⟨1,_,by rw[dP,aE h1,aH h2]⟩
 by_cases h3:(wk σ b).k=1
 · exact⟨1,_,by rw[dP,aE h1,aE h2,aH h3]⟩
 by_cases h4:wM (wk σ a) (wk σ b)=true
 · have a4E:∀x∈(wk σ a).ts,jP V x∧(x.aN (rs σ)).nodes<M:=fun x hx=>by
    refine⟨va.p6 h2 hx,?_⟩
    rw[Tm.tJ _ h2,Tm.iD] at hM
    have:=KW (f:=Tm.nodes) (cH.2 ⟨x,hx,rfl⟩:x.aN (rs σ)∈(wk σ a).ts.map (Tm.aN (rs σ)))
    omega
   obtain⟨g,x,h⟩:=list (wk σ a).ts (wk σ b).ts σ (uW.1 h4).2.2.2 hg hr (.inl rfl) a4E (fun y hy=>vb.p6 h3 hy)
   exact⟨g+1,x,by rw[dP,aE h1,aE h2,aE h3,aH h4];exact h⟩
 · exact⟨1,_,by rw[dP,aE h1,aE h2,aE h3,aE h4]⟩
mutual
def Tm.flat:Tm→Nat→Bool
 | .mk _ _ _ _,0=>false
 | .mk _ _ _ ts,d+1=>PZ ts d
def PZ:List Tm→Nat→Bool
 | [],_=>true
 | t::ts,d=>t.flat d&&PZ ts d
end
theorem aT6:∀(ts:List Tm) (d:Nat),PZ ts d=ts.all fun t=>t.flat d
 | [],_=>rfl
 | t::ts,d=>by simp only[PZ,kJ,aT6 ts d]
theorem Tm.JK(t:Tm):t.flat 0=false:=by cases t;simp only[Tm.flat]
theorem Tm.yG(k n:Int)(s:ByteArray)(ts:List Tm)(d:Nat):(Tm.mk k n s ts).flat (d+1)=ts.all fun t=>t.flat d:=by simp only[Tm.flat,aT6]
mutual
def Tm.kN:Tm→Bool
 | .mk k n s ts=>eO k n s ts.length&&P3 ts
def P3:List Tm→Bool
 | []=>true
 | t::ts=>t.kN&&P3 ts
end
theorem aUA:∀(ts:List Tm),P3 ts=ts.all Tm.kN
 | []=>rfl
 | t::ts=>by simp only[P3,kJ,aUA ts]
theorem Tm.DL(k n:Int)(s:ByteArray)(ts:List Tm):(Tm.mk k n s ts).kN=(eO k n s ts.length&&ts.all Tm.kN):=by simp only[Tm.kN,aUA]
theorem aAA{α:Type}(p q:α→Bool):∀l:List α,(l.all fun x=>p x&&q x)=(l.all p&&l.all q)
 | []=>rfl
 | x::l=>by simp only[kJ,aAA p q l];cases p x<;>cases q x<;>cases l.all p<;>simp
theorem Tm.aR8:∀(t:Tm) (d:Nat),t.shape (d:Int)=(t.kN&&t.flat d):=by
 intro t
 induction t using Tm.ind with
 | h k n s ts ih=>
  intro d
  cases d with
  | zero=>rw[Tm.JK,vW,Tm.G0];try rfl
  | succ d=>
   rw[Tm.G0,Tm.DL,Tm.yG,show decide ((1:Int)≤((d+1:Nat):Int))=true by simp;omega,eU,Bool.and_assoc,←aAA]
   congr 1
   rw[show(((d+1:Nat):Int) - 1)=(d:Int) by omega]
   have:∀l:List Tm,(∀x∈l,x∈ts)→(l.all fun t=>t.shape (d:Int))=l.all fun x=>x.kN&&x.flat d:=by
    intro l
    induction l with
    | nil=>intro _;rfl
    | cons x l ihl=>intro h;rw[kJ,kJ,ih x (h x (by simp)),ihl fun y hy=>h y (by simp [hy])]
   exact this ts fun _ h=>h
theorem Tm.bBK{t:Tm}(h:t.valid=true):t.kN=true:=by
 simp only[Tm.valid,cF] at h
 have:=h.1
 rw[show(30:Int)=((30:Nat):Int) from rfl,Tm.aR8,cF] at this
 exact this.1
theorem Tm.aUU{t:Tm}(h:t.kN=true):t.valid=(t.flat 30&&decide (t.nodes≤120)):=by
 unfold Tm.valid
 rw[show(30:Int)=((30:Nat):Int) from rfl,Tm.aR8,h,eU]
theorem Tm.OM{k n:Int}{s:ByteArray}{ts:List Tm}(h:(Tm.mk k n s ts).kN=true):eO k n s ts.length=true∧∀x∈ts,x.kN=true:=by
 rw[Tm.DL,cF] at h
 exact⟨h.1,eH.1 h.2⟩
theorem aRE{n:Int}{s:ByteArray}{len:Int}(h:eO 1 n s len=true):0≤n∧n≤25∧s=⟨#[]⟩∧len=0:=by
 simp [eO] at h
 exact⟨h.1.1.1,h.1.1.2,h.1.2,h.2⟩
theorem a7N{k n:Int}{s:ByteArray}{len:Int}(h:eO k n s len=true):(k=1∨k=2∨k=3)∧len≤4:=by
 unfold eO at h
 by_cases h1:k=1
 · simp [h1] at h;omega
 · by_cases h2:k=2
   · simp [h2] at h;omega
   · by_cases h3:k=3
     · simp [h3] at h;omega
     · simp [h1,h2,h3] at h
theorem Tm.a7F:∀(t:Tm),t.kN=true→t.cv=true:=by
 intro t
 induction t using Tm.ind with
 | h k n s ts ih=>
  intro h
  obtain⟨h1,h2⟩:=Tm.OM h
  refine Tm.pU.2 ⟨fun hk=>?_,fun x hx=>ih x hx (h2 x hx)⟩
  subst hk
  obtain⟨_,_,h3,h4⟩:=aRE h1
  exact⟨h3,pQ (by omega)⟩
def ER:List Int:=(List.range 26).map fun i:Nat=>(i:Int)
theorem KC{n:Int}:n∈ER↔0≤n∧n≤25:=by
 simp only[ER,cH,xJ]
 constructor
 · rintro⟨i,h,rfl⟩;omega
 · intro h;exact⟨n.toNat,by omega,by omega⟩
theorem Tm.a7G:∀(t:Tm),t.kN=true→jP ER t:=by
 intro t
 induction t using Tm.ind with
 | h k n s ts ih=>
  intro h v hv
  obtain⟨h1,h2⟩:=Tm.OM h
  by_cases hk:k=1
  · rw[Tm.o0 hk] at hv
    simp only[c7,dT,d4] at hv
    subst hv hk
    obtain⟨h3,h4,_⟩:=aRE h1
    exact KC.2 ⟨h3,h4⟩
  · obtain⟨x,hx,hvx⟩:=(Tm.m8 hk).1 hv
    exact ih x hx (h2 x hx) v hvx
theorem a6U{f:Int→Tm}:∀(t:Tm),t.kN=true→(∀v∈t.vl,(f v).kN=true)→(t.aN f).kN=true:=by
 intro t
 induction t using Tm.ind with
 | h k n s ts ih=>
  intro h hf
  obtain⟨h1,h2⟩:=Tm.OM h
  by_cases hk:k=1
  · rw[Tm.oO f hk];exact hf n (by rw[Tm.o0 hk];simp)
  · rw[Tm.nM f hk,Tm.DL,aF,h1,eU,List.all_map,eH]
    exact fun x hx=>ih x hx (h2 x hx) fun v hv=>hf v ((Tm.m8 hk).2 ⟨x,hx,hv⟩)
theorem aU0{n:Int}(h:n∈ER):(vr n).kN=true:=by
 rw[KC] at h
 rw[vr,Tm.DL]
 simp [eO,h]
theorem bBA{g g':Nat}{σ:Sub}{a b:Tm}{x y:Bool×Sub×List Int}(h:dP g σ a b=some x)(h':dP g' σ a b=some y):x=y:=by
 have h1:=QK (Nat.le_max_left g g') h
 rw[QK (Nat.le_max_right g g') h'] at h1
 exact(nC h1).symm
structure bB0 (a b:Tm) (r:Bool) (σ:Sub) (tr:List Int):Prop where
 run:∃g,dP g Sub.none a b=some (r,σ,tr)
 oZ:pS Sub.none [a] [b] r σ tr
 kN:c9 (fun t=>t.kN=true) σ
 J7:nV ER σ
 trV:∀m∈tr,m∈ER
theorem aQZ:∀ {l V:List Int},l.Nodup→(∀x∈l,x∈V)→l.length≤V.length
 | [],_,_,_=>jE _
 | x::l,V,h,hV=>by
  rw[B5] at h
  have hx:=hV x (by simp)
  have:=aQZ (V:=V.erase x) h.2 fun y hy=>(List.mem_erase_of_ne (by rintro rfl;exact h.1 hy)).2 (hV y (by simp [hy]))
  rw[List.length_erase_of_mem hx] at this
  have:=List.length_pos_of_mem hx
  simp only[aX]
  omega
structure bBW (a b:Tm) (bs:List Bd):Prop where
 va:a.valid=true
 vb:b.valid=true
 vs:(bs.all fun x=>x.2.valid)=true
 eq:a.aN (XC bs)=b.aN (XC bs)
 idem:∀x∈bs,x.2.aN (XC bs)=x.2
 sorted:bs.Pairwise fun x y=>x.1<y.1
abbrev zt:AV:=.agg [.int .i64 0,.int .i64 0,.str ⟨#[]⟩,.fslice []]
def mapOf(σ:Sub):Int→Option AV:=fun n=>(σ n).map Tm.av
def found:Option Tm→AV
 | some u=>.tup [u.av,.bool true]
 | none=>.tup [zt,.bool false]
theorem a6L{P:Program}{st:aA}{m:Nat}{σ:Sub}{t kt et:TypeId}{n:Int}(hm:st m=some (.map (mapOf σ)))(hu:P.underlying t=some (.map kt et))(hk:P.underlying kt=some (.int .i64))(hz:zV P et=some zt) :
 qI P st t true (.map m) (.int .i64 n)=some (found (σ n)):=by
 unfold qI
 simp only[hm,hu,hk,mapOf]
 cases h:σ n with
 | none=>simp [hz,found,AV.cE]
 | some u=>simp [found,cU]
theorem bBH{P:Program}{st:aA}{m:Nat}{σ:Sub}{t kt et:TypeId}{n:Int}{u:Tm}{K:AV→aA→Prop}(hm:st m=some (.map (mapOf σ)))(hu:P.underlying t=some (.map kt et))(hk:P.underlying kt=some (.int .i64))
 (h:K .undef (st.aC m (.map (mapOf (σ.set n u))))):uF P t st (.map m) (.int .i64 n) u.av K:=by
 unfold uF
 simp only[hu,hm,hk]
 refine⟨cU u,?_⟩
 have:pI (mapOf σ) n (some u.av)=mapOf (σ.set n u):=by
  funext x
  unfold pI mapOf Sub.set
  split<;>rfl
 rw[this]
 exact h
structure jS (st:aA) (c m:Nat) (q:AV) (σ:Sub):Prop where
 cells:st c=some (.cells [.map m,q])
 map:st m=some (.map (mapOf σ))
theorem jS.aC{st:aA}{c m b:Nat}{q:AV}{σ:Sub}{o:AO}(h:jS st c m q σ)(hb:st b=none):jS (st.aC b o) c m q σ:=
 ⟨(by rw[aA.aG _ _ (by rintro rfl;rw[h.cells] at hb;cases hb)];exact h.cells),(by rw[aA.aG _ _ (by rintro rfl;rw[h.map] at hb;cases hb)];exact h.map)⟩
theorem jS.QM{st:aA}{c m b:Nat}{q:AV}{σ:Sub}{o:AO}(h:jS st c m q σ)(h1:b≠c)(h2:b≠m):jS (st.aC b o) c m q σ:=
 ⟨(by rw[aA.aG _ _ (dH h1)];exact h.cells),by rw[aA.aG _ _ (dH h2)];exact h.map⟩
theorem jS.ne{st:aA}{c m b:Nat}{q:AV}{σ:Sub}(h:jS st c m q σ)(hb:st b=none):b≠c∧b≠m:=⟨(by rintro rfl;rw[h.cells] at hb;cases hb),(by rintro rfl;rw[h.map] at hb;cases hb)⟩
theorem jS.cm{st:aA}{c m:Nat}{q:AV}{σ:Sub}(h:jS st c m q σ):c≠m:=by rintro rfl;have:=h.cells;rw[h.map] at this;cases this
def nN(M:List Int):Int→Option AV:=fun x=>if x∈M then some (.bool true) else none
theorem a6K{P:Program}{st:aA}{mm:Nat}{M:List Int}{t kt et:TypeId}{n:Int}(hm:st mm=some (.map (nN M)))(hu:P.underlying t=some (.map kt et))(hk:P.underlying kt=some (.int .i64))(hz:zV P et=some (.bool false)) :
 qI P st t false (.map mm) (.int .i64 n)=some (.bool (decide (n∈M))):=by
 unfold qI
 simp only[hm,hu,hk,nN]
 by_cases h:n∈M
 · simp [h,AV.cE]
 · simp [h,hz,AV.cE]
theorem bBF{P:Program}{st:aA}{mm:Nat}{M:List Int}{t kt et:TypeId}{n:Int}{K:AV→aA→Prop}(hm:st mm=some (.map (nN M)))(hu:P.underlying t=some (.map kt et))(hk:P.underlying kt=some (.int .i64))
 (h:K .undef (st.aC mm (.map (nN (n::M))))):uF P t st (.map mm) (.int .i64 n) (.bool true) K:=by
 unfold uF
 simp only[hu,hm,hk]
 refine⟨rfl,?_⟩
 have:pI (nN M) n (some (.bool true))=nN (n::M):=by
  funext x
  unfold pI nN
  by_cases e:x=n
  · simp [e]
  · simp [e]
 rw[this]
 exact h
theorem a6X:nN []=fun _=>none:=by funext x;simp [nN]
theorem YK(t:Tm):t.wf=true→∀l:List Int,(∀v,v∈t.vars l↔v∈l∨v∈t.vl)∧(l.Nodup→(t.vars l).Nodup)∧∃m,t.vars l=l++m:=by
 induction t using Tm.ind with
 | h k n s ts ih=>
  intro h l
  obtain⟨hk,hw⟩:=Tm.YL h
  have list:∀xs:List Tm,(∀x∈xs,x∈ts)→∀l:List Int,(∀v,v∈cG xs l↔v∈l∨∃x∈xs,v∈x.vl)∧(l.Nodup→(cG xs l).Nodup)∧∃m,cG xs l=l++m:=by
   intro xs
   induction xs with
   | nil=>intro _ l;exact⟨by simp [cG],fun h=>h,[],by simp [cG]⟩
   | cons x xs ihx=>
    intro hs l
    obtain⟨a1,a2,m1,a3⟩:=ih x (hs x (by simp)) (hw x (hs x (by simp))) l
    obtain⟨b1,b2,m2,b3⟩:=ihx (fun y hy=>hs y (by simp [hy])) (x.vars l)
    simp only[cG]
    refine⟨fun v=>?_,fun hn=>b2 (a2 hn),m1++m2,by rw[b3,a3,lX]⟩
    rw[b1,a1]
    simp [or_assoc]
  rw[Tm.vars]
  by_cases hk1:k=1
  · obtain rfl:=hk hk1
    rw[Tm.o0 hk1]
    simp only[cG]
    split
    · rename_i hc
      refine⟨fun v=>by simp,fun hn=>?_,[n],rfl⟩
      rw[mJ]
      refine⟨hn,by simp,fun x hx y hy e=>?_⟩
      simp only[c7,dT,d4] at hy
      subst hy e
      exact hc.2 hx
    · rename_i hc
      refine⟨fun v=>?_,fun hn=>hn,[],by simp⟩
      have hm:n∈l:=EG fun h=>hc ⟨hk1,h⟩
      simp only[c7,dT,d4]
      exact⟨.inl,fun h=>h.elim id fun e=>e▸hm⟩
  · rw[aE (by simp [hk1])]
    obtain⟨c1,c2,c3⟩:=list ts (fun _ h=>h) l
    exact⟨fun v=>by rw[c1,Tm.m8 hk1],c2,c3⟩
theorem Tm.bBM{v:Int}:∀(t:Tm) (l:List Int),t.cv=true→(v∈t.vars l↔v∈l∨v∈t.vl):=by
 intro t
 induction t using Tm.ind with
 | h k n s ts ih=>
  intro l hcv
  obtain⟨h1,h2⟩:=Tm.pU.1 hcv
  have key:∀(ts:List Tm) (l:List Int),(∀t∈ts,∀l,v∈t.vars l↔v∈l∨v∈t.vl)→(v∈cG ts l↔v∈l∨∃t∈ts,v∈t.vl):=by
   intro ts
   induction ts with
   | nil=>intro l _;simp [cG]
   | cons t ts iht=>
    intro l h
    simp only[cG]
    rw[iht _ (fun x hx=>h x (by simp [hx])),h t (by simp)]
    simp [or_assoc]
  simp only[Tm.vars]
  rw[key ts _ (fun t ht l=>ih t ht l (h2 t ht))]
  by_cases hk:k=1
  · obtain⟨rfl,rfl⟩:=h1 hk
    rw[Tm.o0 hk]
    by_cases hn:n∈l
    · simp [hk,hn];exact fun e=>e▸hn
    · simp [hk,hn]
  · rw[Tm.m8 hk];simp [hk]
theorem BQ{v:Int}:∀(ts:List Tm) (l:List Int),(∀t∈ts,t.cv=true)→(v∈cG ts l↔v∈l∨∃t∈ts,v∈t.vl)
 | [],l,_=>by simp [cG]
 | t::ts,l,h=>by
  simp only[cG]
  rw[BQ ts _ (fun x hx=>h x (by simp [hx])),Tm.bBM t l (h t (by simp))]
  simp [or_assoc]
theorem bBO{σ:Sub}{R:Int→Tm}{rk:Int→Nat}{B:Nat}(G:Good σ R rk B){n:Int}{W:List Int}(hW:∀w∈W,w≠n∧∀u,σ w=some u→∀v∈u.vl,v∈W):∀w∈W,n∉(R w).vl:=by
 refine fun w=>G.ind (p:=fun w=>w∈W→n∉(R w).vl) (fun w h hw hm=>?_) (fun w u h ih hw hm=>?_) w
 · rw[G.free h,BT] at hm
   simp only[c7,dT,d4] at hm
   exact(hW w hw).1 hm.symm
 · rw[G.bound h] at hm
   obtain⟨v,hv,hnv⟩:=(BS u).1 hm
   exact ih v hv ((hW w hw).2 u h v hv) hnv
theorem a2K{w:Nat}{l:List AV}{i:Nat}{e:AV}(hw:∀e∈l,e.width=w)(h:l[i]?=some e) :
 ∃A B,l.flatMap AV.cells=A++e.cells++B∧A.length=i*w∧∀e',(l.set i e').flatMap AV.cells=A++e'.cells++B:=by
 obtain⟨hi,he⟩:=fL.1 h
 refine⟨(l.take i).flatMap AV.cells,(l.drop (i+1)).flatMap AV.cells,?_,?_,fun e'=>?_⟩
 · have:l=l.take i++e::l.drop (i+1):=by rw[←he,←qF hi,qG]
   conv=>lhs;rw[this]
   simp
 · rw[nI (fun e he=>hw e (m9 he)),dE,lQ (by omega)]
 · rw[Y0,aH hi]
   simp
def cellOf:Option Tm→AV
 | some u=>u.av
 | none=>zt
theorem MX(o:Option Tm):(cellOf o).width=4:=by cases o<;>first | rfl | exact aO _
theorem a0P(o:Option Tm):(cellOf o).cells.length=4:=by rw[s8,MX]
theorem VO:∀t:Tm,t.cv=true→t.aN vr=t:=by
 intro t
 induction t using Tm.ind with
 | h k n s ts ih=>
  intro h
  obtain⟨h1,h2⟩:=Tm.pU.1 h
  by_cases hk:k=1
  · obtain⟨rfl,rfl⟩:=h1 hk
    rw[Tm.oO vr hk,hk];try rfl
  · rw[Tm.nM vr hk]
    congr 1
    have:∀l:List Tm,(∀x∈l,x∈ts)→l.map (Tm.aN vr)=l:=by
     intro l
     induction l with
     | nil=>intro _;rfl
     | cons x l ihl=>intro hl;rw[bH,ih x (hl x (by simp)) (h2 x (hl x (by simp))),ihl fun y hy=>hl y (by simp [hy])]
    exact this ts fun _ h=>h
def rF(l:List Tm):List Tm:=l.map fun t=>t.aN fun v=>vr (fE v (cG l []) 0)
theorem bBL{D:Int→Prop}{h:Int→Int}(inj:∀v w,D v→D w→h v=h w→v=w){f:Int→Tm}(hf:∀v,D v→f v=vr (h v)) :
 ∀(t:Tm),t.wf=true→(∀v∈t.vl,D v)→∀l:List Int,(∀v∈l,D v)→(t.aN f).vars (l.map h)=(t.vars l).map h∧∀v∈t.vars l,D v:=by
 intro t
 induction t using Tm.ind with
 | h k n s ts ih=>
  intro hw hD l hl
  obtain⟨hk1,hws⟩:=Tm.YL hw
  by_cases hk:k=1
  · obtain rfl:=hk1 hk
    have hDn:D n:=hD n (by rw[Tm.o0 hk];simp)
    have fT:h n∈l.map h↔n∈l:=by
     rw[cH]
     exact⟨fun⟨m,hm,e⟩=>by rw[←inj m n (hl m hm) hDn e];exact hm,fun hm=>⟨n,hm,rfl⟩⟩
    rw[Tm.oO f hk,hf n hDn,vr,Tm.vars,Tm.vars]
    simp only[cG,hk,vP,fT]
    split
    · exact⟨by simp,fun v hv=>by
       rcases d6.1 hv with hv | hv
       · exact hl v hv
       · simp only[c7,dT,d4] at hv;rw[hv];exact hDn⟩
    · exact⟨rfl,hl⟩
  · rw[Tm.nM f hk,Tm.vars,Tm.vars,aE (fun h=>hk h.1),aE (fun h=>hk h.1)]
    have:∀xs:List Tm,(∀x∈xs,x∈ts)→∀l:List Int,(∀v∈l,D v)→cG (xs.map (Tm.aN f)) (l.map h)=(cG xs l).map h∧∀v∈cG xs l,D v:=by
     intro xs
     induction xs with
     | nil=>intro _ l hl;exact⟨rfl,hl⟩
     | cons x xs ihx=>
      intro hs l hl
      have hx:=hs x (by simp)
      obtain⟨e1,e2⟩:=ih x hx (hws x hx) (fun v hv=>hD v ((Tm.m8 hk).2 ⟨x,hx,hv⟩)) l hl
      simp only[bH,cG]
      rw[e1]
      exact ihx (fun y hy=>hs y (by simp [hy])) _ e2
    exact this ts (fun _ h=>h) l hl
theorem aP7{D:Int→Prop}{h:Int→Int}(inj:∀v w,D v→D w→h v=h w→v=w)(v:Int)(hv:D v):∀(l:List Int) (i:Int),(∀w∈l,D w)→fE (h v) (l.map h) i=fE v l i
 | [],i,_=>rfl
 | x::l,i,hl=>by
  simp only[bH,fE]
  by_cases e:v=x
  · rw[aH e,aH (by rw[e])]
  · rw[aE e,aE (fun e2=>e (inj v x hv (hl x (by simp)) e2))]
    exact aP7 inj v hv l (i+1) fun w hw=>hl w (by simp [hw])
def rT:List ByteArray:=[⟨#[43]⟩,⟨#[45]⟩,⟨#[42]⟩,⟨#[47,47]⟩,⟨#[109,111,100]⟩]
def tA:List ByteArray:=[⟨#[60]⟩,⟨#[62]⟩,⟨#[61,60]⟩,⟨#[62,61]⟩,⟨#[61,58,61]⟩]
def gO(l:List ByteArray)(s:ByteArray):Bool:=l.any fun x=>decide (s=x)
def jX(n:Int):Int×Int:=if -999≤n∧n≤999 then(n,0) else(0,5)
def rV(a b:Int):Int:=if a.tmod b≠0∧decide (a.tmod b<0)≠decide (b<0) then a.tmod b+b else a.tmod b
def sX(s:ByteArray)(a b:Int):Int×Int:=
 if s=⟨#[43]⟩ then jX (a+b) else if s=⟨#[45]⟩ then jX (a - b) else if s=⟨#[42]⟩ then jX (a*b) else if b=0 then(0,4) else if s=⟨#[109,111,100]⟩ then(rV a b,0) else(a.tdiv b,0)
def both(f:Int→Int→Int×Int)(x y:Int×Int):Int×Int:=if x.2≠0 then(0,x.2) else if y.2≠0 then(0,y.2) else f x.1 y.1
def two(f:Int→Int→Int×Int):List (Int×Int)→Int×Int
 | [x,y]=>both f x y
 | _=>(0,3)
mutual
def Tm.ev:Tm→Int×Int
 | .mk k n s ts=>if k=2 then(n,0) else if k=1 then(0,2) else if gO rT s=true then two (sX s) (PY ts) else(0,3)
def PY:List Tm→List (Int×Int)
 | []=>[]
 | t::ts=>t.ev::PY ts
end
theorem aT5:∀ts:List Tm,PY ts=ts.map Tm.ev
 | []=>rfl
 | t::ts=>by simp only[PY,bH,aT5 ts]
theorem Tm.AR(k n:Int)(s:ByteArray)(ts:List Tm):(Tm.mk k n s ts).ev=if k=2 then(n,0) else if k=1 then(0,2) else if gO rT s=true then two (sX s) (ts.map Tm.ev) else(0,3):=by simp only[Tm.ev,aT5]
theorem PU(a b:Int)(hb:b≠0):(0<b→-b<a.tmod b∧a.tmod b<b)∧(b<0→b<a.tmod b∧a.tmod b< -b):=by
 have h1:=QU (-a) (b:=b)
 have h2:=QU a (b:=b)
 have h3:=QU (-a) (b:= -b)
 have h4:=QU a (b:= -b)
 rw[Int.tmod_neg] at h3 h4
 rw[Int.neg_tmod] at h1 h3
 constructor
 · intro h;exact⟨by have:=h1 h;omega,h2 h⟩
 · intro h;exact⟨by have:=h3 (by omega);omega,h4 (by omega)⟩
theorem tdiv_le(a b:Int)(ha: -999≤a∧a≤999): -999≤a.tdiv b∧a.tdiv b≤999:=by
 have:(a.tdiv b).natAbs≤a.natAbs:=by rw[Int.natAbs_tdiv];exact Nat.div_le_self _ _
 omega
theorem WP(n:Int): -999≤(jX n).1∧(jX n).1≤999:=by unfold jX;split<;>simp_all
theorem aOF(a b:Int)(ha: -999≤a∧a≤999)(hb: -999≤b∧b≤999)(h0:b≠0): -999≤rV a b∧rV a b≤999:=by
 have h1:=PU a b h0
 unfold rV
 split
 · rename_i h
   have h2:=h.2
   by_cases hb':b<0
   · have:¬a.tmod b<0:=by intro hc;simp [hb',hc] at h2
     have:=h1.2 hb'
     omega
   · have:a.tmod b<0:=by
      apply EG;intro hc;simp [hb',hc] at h2
     have:=h1.1 (by omega)
     omega
 · rcases Int.lt_or_gt_of_ne h0 with h | h
   · have:=h1.2 h;omega
   · have:=h1.1 h;omega
theorem Z7(m b:Int)(h1:0≤m)(h2:m<b):(m+b).tmod b=m:=by
 obtain⟨x,rfl⟩:∃x:Nat,m=x:=⟨m.toNat,by omega⟩
 obtain⟨y,rfl⟩:∃y:Nat,b=y:=⟨b.toNat,by omega⟩
 rw[show(x:Int)+(y:Int)=((x+y:Nat):Int) by omega,←Int.ofNat_tmod,Nat.add_mod_right,Nat.mod_eq_of_lt (by omega)]
theorem a2L(a b:Int)(h0:b≠0):(a.tmod b+b).tmod b=rV a b:=by
 have h1:=PU a b h0
 have hs:∀x:Int,0≤x→x<b→x.tmod b=x:=fun x h2 h3=>Int.tmod_eq_of_lt h2 h3
 have hn:∀x:Int,x≤0→b<x→x.tmod b=x:=fun x h2 h3=>by
  have:=Int.tmod_eq_of_lt (a:= -x) (b:= -b) (by omega) (by omega)
  rw[Int.tmod_neg,Int.neg_tmod] at this
  omega
 unfold rV
 generalize a.tmod b=m at *
 by_cases hb:b<0
 · have h2:=h1.2 hb
   by_cases hm:m<0
   · rw[aE (by simp [hb,hm])]
     rw[show m+b=b+m by omega]
     have e:(b+m).tmod b=((-b)+(-m)).tmod (-b)*(-1):=by
      rw[show(-b)+(-m)= -(b+m) by omega,Int.neg_tmod,Int.tmod_neg];omega
     rw[e,Int.add_comm,Z7 (-m) (-b) (by omega) (by omega)]
     omega
   · by_cases hm0:m=0
     · subst hm0;rw[aE (by simp),Int.zero_add,Int.tmod_self]
     · rw[aH ⟨hm0,by simp [hb,hm]⟩]
       exact hn _ (by omega) (by omega)
 · have h2:=h1.1 (by omega)
   by_cases hm:m<0
   · rw[aH ⟨by omega,by simp [hb,hm]⟩]
     exact hs _ (by omega) (by omega)
   · rw[aE (by simp [hb,hm])]
     rw[Z7 m b (by omega) (by omega)]
def cO(N:Int)(t:Tm):Prop:=(t.aN fun _=>vr 0).kN=true∧t.cv=true∧∀v∈t.vl,0≤v∧v<N
theorem cO.mono{N M:Int}{t:Tm}(h:cO N t)(hm:N≤M):cO M t:=⟨h.1,h.2.1,fun v hv=>⟨(h.2.2 v hv).1,by have:=(h.2.2 v hv).2;omega⟩⟩
theorem cO.own{N k n:Int}{s:ByteArray}{ts:List Tm}(h:cO N (.mk k n s ts))(hk:k≠1):eO k n s ts.length=true∧∀x∈ts,cO N x:=by
 obtain⟨h1,h2,h3⟩:=h
 rw[Tm.nM _ hk] at h1
 obtain⟨h4,h5⟩:=Tm.OM h1
 rw[aF] at h4
 exact⟨h4,fun x hx=>⟨h5 _ (cH.2 ⟨x,hx,rfl⟩),(Tm.pU.1 h2).2 x hx,fun v hv=>h3 v ((Tm.m8 hk).2 ⟨x,hx,hv⟩)⟩⟩
theorem cO.var{N n:Int}{s:ByteArray}{ts:List Tm}(h:cO N (.mk 1 n s ts)):0≤n∧n<N∧s=⟨#[]⟩∧ts= []:=by
 obtain⟨_,h2,h3⟩:=h
 obtain⟨h4,h5⟩:=(Tm.pU.1 h2).1 rfl
 obtain⟨h6,h7⟩:=h3 n (by rw[Tm.o0 rfl];simp)
 exact⟨h6,h7,h4,h5⟩
theorem ON(N:Int):∀t:Tm,t.k≠1→cO N t→∀x∈t.ts,cO N x:=fun t hk h x hx=>by
 cases t
 exact(h.own hk).2 x hx
theorem cO.kind{N k n:Int}{s:ByteArray}{ts:List Tm}(h:cO N (.mk k n s ts)):(k=1∨k=2∨k=3)∧ts.length≤4:=by
 by_cases hk:k=1
 · subst hk
   rw[h.var.2.2.2]
   simp
 · have:=a7N (h.own hk).1
   omega
theorem a7M{n:Int}{s:ByteArray}{len:Int}(h:eO 2 n s len=true): -999≤n∧n≤999:=by
 simp [eO] at h
 omega
theorem cO.all{N k n:Int}{s:ByteArray}{ts:List Tm}(h:cO N (.mk k n s ts)):(k=2→-999≤n∧n≤999)∧∀x∈ts,cO N x:=by
 by_cases hk:k=1
 · subst hk
   rw[h.var.2.2.2]
   simp
 · obtain⟨h1,h2⟩:=h.own hk
   refine⟨fun h2=>?_,h2⟩
   subst h2
   exact a7M h1
theorem cO.small{N:Int}:∀ {t:Tm},cO N t→t.small=true:=by
 intro t
 induction t using Tm.ind with
 | h k n s ts ih=>
  intro h
  have h4:=h.kind.2
  simp only[Tm.small,LE,cF,bK,eH]
  refine⟨by omega,fun x hx=>?_⟩
  by_cases hk:k=1
  · subst hk;rw[h.var.2.2.2] at hx;cases hx
  · exact ih x hx ((h.own hk).2 x hx)
theorem cO.aN{N M:Int}{f:Int→Tm}{t:Tm}(h:cO N t)(hf:∀v∈t.vl,cO M (f v)):cO M (t.aN f):=by
 induction t using Tm.ind with
 | h k n s ts ih=>
  by_cases hk:k=1
  · rw[Tm.oO f hk];exact hf n (by rw[Tm.o0 hk];simp)
  · obtain⟨h1,h2⟩:=h.own hk
    have key:∀x∈ts,cO M (x.aN f):=fun x hx=>ih x hx (h2 x hx) fun v hv=>hf v ((Tm.m8 hk).2 ⟨x,hx,hv⟩)
    rw[Tm.nM f hk]
    refine⟨?_,Tm.pU.2 ⟨fun h=>absurd h hk,fun y hy=>?_⟩,fun v hv=>?_⟩
    · rw[Tm.nM _ hk,Tm.DL,aF,aF,h1,eU,eH]
      intro y hy
      simp only[uA,cH,HN] at hy
      obtain⟨x,hx,rfl⟩:=hy
      exact(key x hx).1
    · obtain⟨x,hx,rfl⟩:=cH.1 hy
      exact(key x hx).2.1
    · obtain⟨y,hy,hv⟩:=(Tm.m8 hk).1 hv
      obtain⟨x,hx,rfl⟩:=cH.1 hy
      exact(key x hx).2.2 v hv
theorem KH{N n:Int}(h0:0≤n)(h1:n<N):cO N (vr n):=by
 refine⟨by rw[yW];exact aU0 (KC.2 (by omega)),Tm.pU.2 ⟨fun _=>⟨rfl,rfl⟩,by simp⟩,fun v hv=>?_⟩
 rw[BT] at hv
 simp only[c7,dT,d4] at hv
 omega
theorem aRB{t:Tm}:t.kN=true↔cO 26 t:=by
 constructor
 · intro h
   refine⟨a6U t h fun v _=>aU0 (KC.2 (by omega)),Tm.a7F t h,fun v hv=>?_⟩
   have:=KC.1 (Tm.a7G t h v hv)
   omega
 · induction t using Tm.ind with
   | h k n s ts ih=>
    intro h
    rw[Tm.DL]
    by_cases hk:k=1
    · subst hk
      obtain⟨h0,h1,rfl,rfl⟩:=h.var
      have h1':n≤25:=by omega
      simp [eO,h0,h1']
    · obtain⟨h1,h2⟩:=h.own hk
      rw[h1,eU,eH]
      exact fun x hx=>ih x hx (h2 x hx)
theorem Tm.LN{t:Tm}(h:t.valid=true):cO 26 t:=aRB.1 (Tm.bBK h)
theorem Good.nP{σ:Sub}{R:Int→Tm}{rk:Int→Nat}{B:Nat}(G:Good σ R rk B){N:Int}(ho:c9 (cO N) σ):∀n,0≤n→n<N→cO N (R n):=by
 refine fun n=>G.ind (p:=fun n=>0≤n→n<N→cO N (R n)) (fun n h h0 h1=>?_) (fun n u h ih h0 h1=>?_) n
 · rw[G.free h];exact KH h0 h1
 · rw[G.bound h]
   exact(ho n u h).aN fun v hv=>ih v hv ((ho n u h).2.2 v hv).1 ((ho n u h).2.2 v hv).2
theorem Good.V0{σ:Sub}{R:Int→Tm}{rk:Int→Nat}{B:Nat}(G:Good σ R rk B){N:Int}(ho:c9 (cO N) σ){t:Tm}(h:cO N t):cO N (t.aN R):=
 h.aN fun v hv=>G.nP ho v (h.2.2 v hv).1 (h.2.2 v hv).2
def bJ(N:Int)(t:Tm):Prop:=cO N t∧t.nodes≤120
theorem sE(N:Int):∀t:Tm,t.k≠1→bJ N t→∀x∈t.ts,bJ N x:=fun t hk h x hx=>by
 refine⟨ON N t hk h.1 x hx,?_⟩
 have h2:=h.2
 cases t
 rw[Tm.iD] at h2
 have:=KW (f:=Tm.nodes) hx
 simp only[Tm.ts] at this
 omega
theorem bJ.mono{N M:Int}{t:Tm}(h:bJ N t)(hm:N≤M):bJ M t:=⟨h.1.mono hm,h.2⟩
theorem c9.nP{N:Int}{σ:Sub}(h:c9 (bJ N) σ):c9 (cO N) σ:=fun n u e=>(h n u e).1
theorem c9.imp{p q:Tm→Prop}{σ:Sub}(h:c9 p σ)(hpq:∀t,p t→q t):c9 q σ:=fun n u e=>hpq u (h n u e)
open Classical in
noncomputable def j5(σ:Sub)(a b:Tm):Bool×Sub×List Int:=if h:∃x g,dP g σ a b=some x then h.choose else(false,σ,[])
theorem aUP{g:Nat}{σ:Sub}{a b:Tm}{x:Bool×Sub×List Int}(h:dP g σ a b=some x):j5 σ a b=x:=by
 unfold j5
 have h':∃x g,dP g σ a b=some x:=⟨x,g,h⟩
 rw[dif_pos h']
 obtain⟨g',h''⟩:=h'.choose_spec
 exact bBA h'' h
def VN(N:Nat):List Int:=(List.range N).map fun i:Nat=>(i:Int)
theorem yX{N:Nat}{n:Int}:n∈VN N↔0≤n∧n<N:=by
 simp only[VN,cH,xJ]
 constructor
 · rintro⟨i,h,rfl⟩;omega
 · intro h;exact⟨n.toNat,by omega,by omega⟩
theorem GI{N:Nat}{tr:List Int}(h:tr.Nodup)(hV:∀m∈tr,0≤m∧m<N):tr.length≤N:=by
 have:=aQZ (V:=VN N) h fun x hx=>yX.2 (hV x hx)
 simpa [VN] using this
structure B9 (N:Int) (σ:Sub) (a b:Tm) (r:Bool) (σ':Sub) (tr:List Int):Prop where
 run:∃g,dP g σ a b=some (r,σ',tr)
 eq:j5 σ a b=(r,σ',tr)
 oZ:pS σ [a] [b] r σ' tr
 ok:c9 (bJ N) σ'
 gO:∀m∈tr,0≤m∧m<N
theorem vS{N:Nat}{σ:Sub}{a b:Tm}(hg:cT σ)(ho:c9 (bJ N) σ)(ha:bJ N a)(hb:bJ N b):∃r σ' tr,B9 N σ a b r σ' tr:=by
 have hin:∀ {t:Tm},bJ N t→jP (VN N) t:=fun h v hv=>yX.2 (h.1.2.2 v hv)
 have hr:nV (VN N) σ:=fun n u e=>hin (ho n u e)
 obtain⟨g,⟨r,σ',tr⟩,h⟩:=bBC (VN N) _ _ σ a b hg hr (hin ha) (hin hb) (cY _) (cY _)
 obtain⟨h1,h2⟩:=(aUQ g).1 σ a b r σ' tr (VN N) hg h hr (hin ha) (hin hb)
 exact⟨r,σ',tr,⟨g,h⟩,aUP h,zJ hg h,(QL (sE N) g).1 σ a b r σ' tr hg h ho ha hb,fun m hm=>yX.1 (h2 m hm)⟩
theorem B9.out{N:Int}{σ:Sub}{a b:Tm}{r:Bool}{σ':Sub}{tr:List Int}(h:B9 N σ a b r σ' tr)(n:Int):(if n∈tr then none else σ' n)=σ n:=by
 split
 · rename_i hn;exact((h.oZ.new n hn).1).symm
 · rename_i hn;exact h.oZ.aV n hn
def Sub.out(σ:Sub)(l:List Int):Sub:=fun n=>if n∈l then Option.none else σ n
theorem Sub.a7J(σ:Sub)(l m:List Int):(σ.out l).out m=σ.out (l++m):=by
 funext n
 unfold Sub.out
 by_cases h1:n∈m
 · rw[aH h1,aH (by simp [h1])]
 · rw[aE h1]
   by_cases h2:n∈l
   · rw[aH h2,aH (by simp [h2])]
   · rw[aE h2,aE (by simp [h1,h2])]
theorem Sub.a7K(σ:Sub){l m:List Int}(h:∀n,n∈l↔n∈m):σ.out l=σ.out m:=by
 funext n
 unfold Sub.out
 simp only[h n]
def cD(ρ:Int→Int)(t:Tm):Tm:=t.aN fun v=>vr (ρ v)
theorem a8L(ρ:Int→Int)(n:Int):cD ρ (vr n)=vr (ρ n):=yW _ n
theorem y9(ρ:Int→Int){k n:Int}{s:ByteArray}{ts:List Tm}(h:k≠1):cD ρ (.mk k n s ts)=.mk k n s (ts.map (cD ρ)):=Tm.nM _ h
theorem BD(ρ:Int→Int){t:Tm}(h:t.k=1):cD ρ t=vr (ρ t.n):=Tm.GE _ h
theorem GX(ρ:Int→Int){t:Tm}(h:t.k≠1):cD ρ t=.mk t.k t.n t.s (t.ts.map (cD ρ)):=Tm.tJ _ h
theorem BC(ρ:Int→Int)(t:Tm):(cD ρ t).k=t.k:=by
 by_cases h:t.k=1
 · rw[BD ρ h,h];try rfl
 · rw[GX ρ h];try rfl
theorem OY(ρ:Int→Int){t:Tm}(hc:t.cv=true):(cD ρ t).nodes=t.nodes:=by
 induction t using Tm.ind with
 | h k n s ts ih=>
  obtain⟨h1,h2⟩:=Tm.pU.1 hc
  by_cases hk:k=1
  · obtain⟨_,rfl⟩:=h1 hk
    rw[BD ρ (t:=.mk k n s []) hk,vr,Tm.iD,Tm.iD]
  · rw[y9 ρ hk,Tm.iD,Tm.iD]
    congr 1
    have:∀l:List Tm,(∀x∈l,x∈ts)→bD Tm.nodes (l.map (cD ρ))=bD Tm.nodes l:=by
     intro l
     induction l with
     | nil=>intro _;rfl
     | cons x l ihl=>intro h;simp only[bH,bD];rw[ih x (h x (by simp)) (h2 x (h x (by simp))),ihl fun y hy=>h y (by simp [hy])]
    exact this ts fun _ h=>h
theorem WU(ρ:Int→Int){t:Tm}(hc:t.cv=true):∀d,(cD ρ t).flat d=t.flat d:=by
 induction t using Tm.ind with
 | h k n s ts ih=>
  intro d
  obtain⟨h1,h2⟩:=Tm.pU.1 hc
  cases d with
  | zero=>rw[Tm.JK,Tm.JK]
  | succ d=>
   by_cases hk:k=1
   · obtain⟨_,rfl⟩:=h1 hk
     rw[BD ρ (t:=.mk k n s []) hk,vr,Tm.yG,Tm.yG]
   · rw[y9 ρ hk,Tm.yG,Tm.yG,List.all_map]
     rw[xF,eH,eH]
     constructor
     · intro h x hx;rw[←ih x hx (h2 x hx) d];exact h x hx
     · intro h x hx;simp only[HN];rw[ih x hx (h2 x hx) d];exact h x hx
theorem bBN{ρ:Int→Int}{t:Tm}{w:Int}:w∈(cD ρ t).vl↔∃v∈t.vl,w=ρ v:=by
 unfold cD
 rw[BS]
 simp only[BT,c7,dT,d4]
theorem WT{ρ ρ':Int→Int}{t:Tm}(h:∀v∈t.vl,ρ v=ρ' v):cD ρ t=cD ρ' t:=sC t fun v hv=>by rw[h v hv]
theorem KO(ρ:Int→Int)(f:Int→Tm)(t:Tm):(cD ρ t).aN f=t.aN fun v=>f (ρ v):=by
 unfold cD
 rw[A7]
 exact sC t fun v _=>yW f (ρ v)
theorem aQO(ρ:Int→Int)(f:Int→Tm)(t:Tm):cD ρ (t.aN f)=t.aN fun v=>cD ρ (f v):=by
 unfold cD
 rw[A7]
theorem cO.cD{N M:Int}{ρ:Int→Int}{t:Tm}(h:cO N t)(hr:∀v∈t.vl,0≤ρ v∧ρ v<M):cO M (AW.cD ρ t):=h.aN fun v hv=>KH (hr v hv).1 (hr v hv).2
theorem bJ.cD{N M:Int}{ρ:Int→Int}{t:Tm}(h:bJ N t)(hr:∀v∈t.vl,0≤ρ v∧ρ v<M):bJ M (AW.cD ρ t):=⟨h.1.cD hr,by rw[OY ρ h.1.2.1];exact h.2⟩
structure fW (ρ:Int→Int) (N:Int) (σ τ:Sub):Prop where
 inj:∀v w,0≤v→v<N→0≤w→w<N→ρ v=ρ w→v=w
 map:∀v,0≤v→v<N→τ (ρ v)=(σ v).map (cD ρ)
section
variable {ρ:Int→Int} {N:Int} {σ τ:Sub}
theorem fW.wk(S:fW ρ N σ τ)(ho:c9 (cO N) σ){f:Nat}{t u:Tm}(h:gK σ f t u):cO N t→gK τ f (cD ρ t) (cD ρ u):=by
 induction h with
 | @stop t h=>
  intro ht
  refine .stop fun hk=>?_
  rw[BC] at hk
  have hr:=ht.2.2 t.n (by rw[Tm.HM hk];simp)
  rw[BD ρ hk]
  show τ (ρ t.n)=none
  rw[S.map _ hr.1 hr.2,h hk];try rfl
 | @go f t u v h1 h2 _ ih=>
  intro ht
  have hr:=ht.2.2 t.n (by rw[Tm.HM h1];simp)
  refine .go (u:=cD ρ u) (by rw[BC];exact h1) ?_ (ih (ho _ _ h2))
  rw[BD ρ h1]
  show τ (ρ t.n)=_
  rw[S.map _ hr.1 hr.2,h2];try rfl
theorem fW.rs(S:fW ρ N σ τ)(hg:cT σ)(hg':cT τ)(ho:c9 (cO N) σ):∀v,0≤v→v<N→rs τ (ρ v)=cD ρ (rs σ v):=by
 obtain⟨rk,B,G⟩:=hg.rs
 obtain⟨rk',B',G'⟩:=hg'.rs
 refine fun v=>G.ind (p:=fun v=>0≤v→v<N→AW.rs τ (ρ v)=cD ρ (AW.rs σ v)) (fun v h h0 h1=>?_) (fun v u h ih h0 h1=>?_) v
 · rw[G.free h,a8L,G'.free (by rw[S.map v h0 h1,h];try rfl)]
 · rw[G.bound h,aQO,G'.bound (u:=cD ρ u) (by rw[S.map v h0 h1,h];try rfl),KO]
   refine sC u fun w hw=>?_
   have:=(ho v u h).2.2 w hw
   exact ih w hw this.1 this.2
theorem fW.rsT(S:fW ρ N σ τ)(hg:cT σ)(hg':cT τ)(ho:c9 (cO N) σ){t:Tm}(ht:cO N t):(cD ρ t).aN (AW.rs τ)=cD ρ (t.aN (AW.rs σ)):=by
 rw[KO,aQO]
 exact sC t fun v hv=>S.rs hg hg' ho v (ht.2.2 v hv).1 (ht.2.2 v hv).2
theorem fW.mem(S:fW ρ N σ τ){t:Tm}(ht:cO N t){n:Int}(h0:0≤n)(h1:n<N):ρ n∈(cD ρ t).vl↔n∈t.vl:=by
 rw[bBN]
 constructor
 · rintro⟨v,hv,e⟩
   rw[S.inj n v h0 h1 (ht.2.2 v hv).1 (ht.2.2 v hv).2 e];exact hv
 · exact fun h=>⟨n,h,rfl⟩
theorem fW.set(S:fW ρ N σ τ){n:Int}(h0:0≤n)(h1:n<N)(t:Tm):fW ρ N (σ.set n t) (τ.set (ρ n) (cD ρ t)):=by
 refine⟨S.inj,fun v hv0 hv1=>?_⟩
 unfold Sub.set
 by_cases h:v=n
 · subst h;simp
 · rw[aE (fun e=>h (S.inj v n hv0 hv1 h0 h1 e)),aE h,S.map v hv0 hv1]
theorem fW.kV(S:fW ρ N σ τ)(hg:cT σ)(hg':cT τ)(ho:c9 (cO N) σ){n:Int}(h0:0≤n)(h1:n<N){t:Tm}(ht:cO N t){r:Bool}{σ':Sub}{tr:List Int}(h:kV σ n t=(r,σ',tr)) :
 ∃τ',AW.kV τ (ρ n) (cD ρ t)=(r,τ',tr.map ρ)∧fW ρ N σ' τ':=by
 obtain⟨rk,B,G⟩:=hg.rs
 have e:=S.mem (G.V0 ho ht) h0 h1
 rw[←S.rsT hg hg' ho ht] at e
 unfold AW.kV at h ⊢
 by_cases hm:n∈(t.aN (AW.rs σ)).vl
 · rw[aH hm] at h
   rw[aH (e.2 hm)]
   cases h
   exact⟨τ,rfl,S⟩
 · rw[aE hm] at h
   rw[aE (fun h=>hm (e.1 h))]
   cases h
   exact⟨_,rfl,S.set h0 h1 t⟩
theorem aPB{a b:Tm}(ha:a.k≠1)(hb:b.k≠1):wM (cD ρ a) (cD ρ b)=wM a b:=by
 obtain⟨k,n,s,ts⟩:=a
 obtain⟨k',n',s',ts'⟩:=b
 simp only[Tm.k] at ha hb
 rw[y9 ρ ha,y9 ρ hb,xF,uW,uW]
 simp only[Tm.k,Tm.n,Tm.s,Tm.ts,aF]
theorem fW.aU1(S:fW ρ N σ τ)(hg:cT σ)(ho:c9 (cO N) σ){t:Tm}(ht:cO N t):AW.wk τ (cD ρ t)=cD ρ (AW.wk σ t):=by
 obtain⟨rk,B,G⟩:=hg.rs
 obtain⟨f,h⟩:=G.wk t
 exact(S.wk ho h ht).wk
theorem bBD(ρ:Int→Int)(N:Int):∀g:Nat,(∀(σ τ:Sub) (a b:Tm) (r:Bool) (σ':Sub) (tr:List Int),cT σ→cT τ→c9 (cO N) σ→cO N a→cO N b→fW ρ N σ τ→dP g σ a b=some (r,σ',tr)→∃τ',dP g τ (cD ρ a) (cD ρ b)=some (r,τ',tr.map ρ)∧fW ρ N σ' τ') ∧
 (∀(xs ys:List Tm) (σ τ:Sub) (r:Bool) (σ':Sub) (tr:List Int),cT σ→cT τ→c9 (cO N) σ→(∀x∈xs,cO N x)→(∀y∈ys,cO N y)→fW ρ N σ τ→eF g σ xs ys=some (r,σ',tr)→∃τ',eF g τ (xs.map (cD ρ)) (ys.map (cD ρ))=some (r,τ',tr.map ρ)∧fW ρ N σ' τ'):=by
 intro g
 induction g with
 | zero=>
  refine⟨fun σ τ a b r σ' tr _ _ _ _ _ _ h=>(by simp only[dP] at h;cases h),?_⟩
  intro xs ys σ τ r σ' tr _ _ _ _ _ S h
  match xs,ys with
  | [],_=>simp only[eF,Option.some.injEq,Prod.mk.injEq] at h;obtain⟨rfl,rfl,rfl⟩:=h;exact⟨τ,by simp only[a7,eF],S⟩
  | x::xs,[]=>simp only[eF,Option.some.injEq,Prod.mk.injEq] at h;obtain⟨rfl,rfl,rfl⟩:=h;exact⟨τ,by simp only[bH,a7,eF],S⟩
  | x::xs,y::ys=>simp only[eF,dP] at h;cases h
 | succ g ih=>
  have one:∀(σ τ:Sub) (a b:Tm) (r:Bool) (σ':Sub) (tr:List Int),cT σ→cT τ→c9 (cO N) σ→cO N a→cO N b→fW ρ N σ τ→dP (g+1) σ a b=some (r,σ',tr)→∃τ',dP (g+1) τ (cD ρ a) (cD ρ b)=some (r,τ',tr.map ρ)∧fW ρ N σ' τ':=by
   intro σ τ a b r σ' tr hg hg' ho ha hb S h
   obtain⟨rk,B,G⟩:=hg.rs
   obtain⟨fa,wa⟩:=G.wk a
   obtain⟨fb,wb⟩:=G.wk b
   have oa:=wa.all (p:=cO N) ho ha
   have ob:=wb.all (p:=cO N) ho hb
   have ea:=S.aU1 hg ho ha
   have eb:=S.aU1 hg ho hb
   have h:=QJ h
   generalize AW.wk σ a=a1 at *
   generalize AW.wk σ b=b1 at *
   rw[dP,ea,eb,BC,BC]
   have rng:∀ {t:Tm},cO N t→t.k=1→0≤t.n∧t.n<N:=fun ht hk=>ht.2.2 _ (by rw[Tm.HM hk];simp)
   have nn:∀ {t:Tm},t.k=1→(cD ρ t).n=ρ t.n:=fun hk=>by rw[BD ρ hk];try rfl
   rcases h with ⟨h1,h2,h3,rfl,rfl,rfl⟩ | ⟨h1,h2,h3⟩ | ⟨h1,h2,h3⟩ | ⟨h1,h2,h3,h4⟩ | ⟨h1,h2,h3,rfl,rfl,rfl⟩
   · exact⟨τ,by rw[aH ⟨h1,h2,by rw[nn h1,nn h2,h3]⟩];try rfl,S⟩
   · have ra:=rng oa h1
     obtain⟨τ',e,S'⟩:=S.kV hg hg' ho ra.1 ra.2 ob h3
     refine⟨τ',?_,S'⟩
     rw[aE,aH h1,nn h1,e]
     rintro⟨_,h5,h6⟩
     have rb:=rng ob h5
     rw[nn h1,nn h5] at h6
     exact h2 ⟨h5,S.inj _ _ ra.1 ra.2 rb.1 rb.2 h6⟩
   · have rb:=rng ob h2
     obtain⟨τ',e,S'⟩:=S.kV hg hg' ho rb.1 rb.2 oa h3
     refine⟨τ',?_,S'⟩
     rw[aE (fun h=>h1 h.1),aE h1,aH h2,nn h2,e]
   · obtain⟨τ',e,S'⟩:=ih.2 a1.ts b1.ts σ τ r σ' tr hg hg' ho (ON N a1 h1 oa) (ON N b1 h2 ob) S h4
     refine⟨τ',?_,S'⟩
     rw[aE (fun h=>h1 h.1),aE h1,aE h2,aH (by rw[aPB h1 h2];exact h3),GX ρ h1,GX ρ h2]
     exact e
   · refine⟨τ,?_,S⟩
     rw[aE (fun h=>h1 h.1),aE h1,aE h2,aE (by rw[aPB h1 h2,h3];simp)]
     try rfl
  refine⟨one,?_⟩
  intro xs
  induction xs with
  | nil=>
   intro ys σ τ r σ' tr _ _ _ _ _ S h
   simp only[eF,Option.some.injEq,Prod.mk.injEq] at h;obtain⟨rfl,rfl,rfl⟩:=h;exact⟨τ,by simp only[a7,eF],S⟩
  | cons x xs ihx=>
   intro ys σ τ r σ' tr hg hg' ho hx hy S h
   cases ys with
   | nil=>simp only[eF,Option.some.injEq,Prod.mk.injEq] at h;obtain⟨rfl,rfl,rfl⟩:=h;exact⟨τ,by simp only[bH,a7,eF],S⟩
   | cons y ys=>
    rw[eF] at h
    simp only[bH]
    rw[eF]
    cases hu:dP (g+1) σ x y with
    | none=>rw[hu] at h;cases h
    | some p=>
     obtain⟨r1,σ1,tr1⟩:=p
     rw[hu] at h
     obtain⟨τ1,e1,S1⟩:=one σ τ x y r1 σ1 tr1 hg hg' ho (hx x (by simp)) (hy y (by simp)) S hu
     rw[e1]
     cases r1 with
     | false=>
      simp only[Option.some.injEq,Prod.mk.injEq] at h ⊢
      obtain⟨rfl,rfl,rfl⟩:=h
      exact⟨τ1,⟨rfl,rfl,rfl⟩,S1⟩
     | true=>
      simp only at h ⊢
      cases hu2:eF (g+1) σ1 xs ys with
      | none=>rw[hu2] at h;cases h
      | some p2=>
       obtain⟨r2,σ2,tr2⟩:=p2
       rw[hu2] at h
       simp only[Option.some.injEq,Prod.mk.injEq] at h
       obtain⟨rfl,rfl,rfl⟩:=h
       have U1:=zJ hg hu
       have U1':=zJ hg' e1
       have ho1:=(QL (ON N) (g+1)).1 σ x y true σ1 tr1 hg hu ho (hx x (by simp)) (hy y (by simp))
       obtain⟨τ2,e2,S2⟩:=ihx ys σ1 τ1 r2 σ2 tr2 U1.iC U1'.iC ho1 (fun z hz=>hx z (by simp [hz])) (fun z hz=>hy z (by simp [hz])) S1 hu2
       rw[e2]
       exact⟨τ2,by simp only[nU],S2⟩
theorem fW.j5(S:fW ρ N σ τ)(hg:cT σ)(hg':cT τ)(ho:c9 (cO N) σ){a b:Tm}(ha:cO N a)(hb:cO N b){r:Bool}{σ':Sub}{tr:List Int}{g:Nat}(h:dP g σ a b=some (r,σ',tr)) :
 ∃τ',AW.j5 τ (cD ρ a) (cD ρ b)=(r,τ',tr.map ρ)∧fW ρ N σ' τ'∧cT τ':=by
 obtain⟨τ',e,S'⟩:=(bBD ρ N g).1 σ τ a b r σ' tr hg hg' ho ha hb S h
 exact⟨τ',aUP e,S',(zJ hg' e).iC⟩
end
end Go.AW
namespace Go.AW
open Go.Proofs.Tryz
def kQ(n:Int):Prop:= -999≤n∧n≤999
theorem aWI(s:ByteArray)(a b:Int)(ha:kQ a)(hb:kQ b):kQ (sX s a b).1:=by
 unfold sX kQ
 split
 · exact WP _
 split
 · exact WP _
 split
 · exact WP _
 split
 · simp
 rename_i h0
 split
 · exact aOF a b ha hb h0
 · exact tdiv_le a b ha
theorem aW3{f:Int→Int→Int×Int}{x y:Int×Int}(h:kQ (f x.1 y.1).1):kQ (both f x y).1:=by
 unfold both kQ
 split
 · simp
 split
 · simp
 · exact h
theorem Tm.wI{N:Int}:∀t:Tm,cO N t→kQ t.ev.1:=by
 intro t
 induction t using Tm.ind with
 | h k n s ts ih=>
  intro h
  obtain⟨h1,h2⟩:=h.all
  rw[Tm.AR]
  split
  · rename_i hk;exact h1 hk
  split
  · simp [kQ]
  split
  · match ts,h2,ih with
    | [],_,_=>simp [two,kQ]
    | [x],_,_=>simp [two,kQ]
    | [x,y],h2,ih=>exact aW3 (aWI _ _ _ (ih x (by simp) (h2 x (by simp))) (ih y (by simp) (h2 y (by simp))))
    | x::y::z::l,_,_=>simp [two,kQ]
  · simp [kQ]
theorem YE{ts:List Tm}(h:(ts.length:Int)=2):∃x y,ts= [x,y]:=by
 match ts,h with
 | [x,y],_=>exact⟨x,y,rfl⟩
 | [],h=>simp at h
 | [x],h=>simp at h
 | x::y::z::l,h=>simp at h;omega
abbrev zD:=zi tI_3 (zi zI_3 (zi aY (zi tI_4 (zi zI_4 (zi cJ (zi tI_9 (zi zI_9 (zi cV (zi tI_31 (zi zI_31 (zi aQ (zi bS (zi bT (zi cI (zi tI_66 (zi zI_66 (zi bZ (zi b9 (zi cA (zi cB (zi bY (zi tI_147 (zi zI_147 (zi lT (zi qP (zi qR sN))))))))))))))))))))))))))
theorem MM{N:Int}:∀(t:Tm) (st:aA),cO N t→aD prog 361 [t.av] st (fun r st'=>r=.tup [.int .i64 t.ev.1,.int .i64 t.ev.2]∧st'=st)
 | .mk k n s ts,st,hok=>by
  obtain⟨h1,h2⟩:=hok.all
  have IH:=fun(x:Tm) (hx:x∈ts) st=>MM x st (h2 x hx)
  rw[Tm.AR]
  simp only[bA]
  refine wF [1000000] 1 func361 ntmps361 rfl rfl ?_
  intro _
  simp -implicitDefEqProofs only[aB,seval,zD]
  refine aP (fun hk=>?_) (fun hk=>?_)
  · simp -implicitDefEqProofs only[aB,seval,zD]
    simp only[bK] at hk
    simp [hk]
  simp only[dJ] at hk
  rw[aE hk]
  simp -implicitDefEqProofs only[aB,seval,zD]
  refine aP (fun hk1=>?_) (fun hk1=>?_)
  · simp -implicitDefEqProofs only[aB,seval]
    simp only[bK] at hk1
    simp [hk1]
  simp only[dJ] at hk1
  rw[aE hk1]
  simp -implicitDefEqProofs only[aF,aB,seval,zD]
  have hty:∀s0:aA,ts.length≠2∨gO rT s=false→(if gO rT s=true then two (sX s) (ts.map Tm.ev) else(0,3))=((0:Int),(3:Int)):=fun _ h=>by
   split
   · rename_i h3
     rcases h with h | h
     · match ts,h with
       | [],_=>rfl
       | [x],_=>rfl
       | [x,y],h=>simp at h
       | x::y::z::l,_=>rfl
     · rw[h] at h3;cases h3
   · rfl
  refine cX (fun h=>?_) (fun h=>?_)
  case refine_2=>
   simp -implicitDefEqProofs only[h,aB,seval]
   rw[hty st (.inl (by simp at h;omega))]
  simp -implicitDefEqProofs only[h,aB,seval,zD]
  refine(SB rT s _).to ?_
  simp -implicitDefEqProofs only[aB,seval]
  refine aP (fun h3=>?_) (fun h3=>?_)
  · simp -implicitDefEqProofs only[aB,seval]
    rw[hty st (.inr (by simpa [gO] using h3))]
  have hin:gO rT s=true:=by simpa [gO] using h3
  rw[aH hin]
  clear hty
  obtain⟨x,y,rfl⟩:=YE (by simpa using h)
  have eC:dG prog 31 (.slice [x.av,y.av]) (.int .i64 0)=some (.pptr x.av):=bP (av:=Tm.av) (l:=[x,y]) (i:=0) aQ rfl (aO x)
  have gX:dG prog 31 (.slice [x.av,y.av]) (.int .i64 1)=some (.pptr y.av):=bP (av:=Tm.av) (l:=[x,y]) (i:=1) aQ rfl (aO y)
  have hx:=Tm.wI x (h2 x (by simp))
  have hy:=Tm.wI y (h2 y (by simp))
  have IHx:=fun st=>IH x (by simp) st
  have IHy:=fun st=>IH y (by simp) st
  simp -implicitDefEqProofs only[eC,bG,aO,aB,↓aU,seval,zD]
  refine(IHx _).to ?_
  simp only[two,both]
  generalize x.ev.1=a at *
  generalize x.ev.2=ca at *
  generalize y.ev.1=b at *
  generalize y.ev.2=cb at *
  simp -implicitDefEqProofs only[aB,seval]
  refine aP (fun h4=>?_) (fun h4=>?_)
  · simp -implicitDefEqProofs only[aB,seval]
    have h4':ca≠0:=by simpa using h4
    rw[aH h4']
  have h4':ca=0:=by simpa using h4
  subst h4'
  rw[aE (by simp)]
  simp -implicitDefEqProofs only[gX,bG,aO,aB,seval,zD]
  refine(IHy _).to ?_
  simp -implicitDefEqProofs only[aB,seval]
  refine aP (fun h5=>?_) (fun h5=>?_)
  · simp -implicitDefEqProofs only[aB,seval]
    have h5':cb≠0:=by simpa using h5
    rw[aH h5']
  have h5':cb=0:=by simpa using h5
  subst h5'
  rw[aE (by simp)]
  unfold kQ at hx hy
  have hmul: -998001≤a*b∧a*b≤998001:=by
   have h6:(a*b).natAbs≤998001:=by
    rw[Int.natAbs_mul]
    have:=LY (show a.natAbs≤999 by omega) (show b.natAbs≤999 by omega)
    omega
   omega
  have hw1:=bE (n:=a+b)
  have hw2:=bE (n:=a - b)
  have hw3:=bE (n:=a*b)
  have hrg:∀(v:Int) (st':aA),aD prog 170 [.int .i64 v,.int .i64 (-999),.int .i64 999] st' (fun r s'=>r=.bool (decide (jX v=(v,0)))∧s'=st'):=fun v st'=>by
   refine(CJ v (-999) 999 st').mono ?_
   rintro _ _ ⟨rfl,rfl⟩
   refine⟨?_,rfl⟩
   congr 1
   unfold jX
   split
   · rename_i h;simp [h.1,h.2]
   · rename_i h
     rw[show(decide (((0:Int),(5:Int))=(v,0)))=false from fP (by simp)]
     simp only[Bool.and_eq_false_iff,dJ]
     omega
  have hrn:∀v,jX v≠(v,0)→jX v=(0,5):=fun v h=>by
   unfold jX at h ⊢
   split
   · rename_i h';rw[aH h'] at h;exact absurd rfl h
   · rfl
  unfold sX
  simp -implicitDefEqProofs only[aB,seval,zD]
  refine aP (fun h6=>?_) (fun h6=>?_)
  · simp -implicitDefEqProofs only[hw1,aB,seval]
    rw[aH (by simpa using h6)]
    refine(hrg (a+b) _).to ?_
    simp -implicitDefEqProofs only[aB,seval]
    refine aP (fun h8=>?_) (fun h8=>?_)
    · simp -implicitDefEqProofs only[aB,seval]
      rw[hrn _ (by simpa using h8)]
    · simp -implicitDefEqProofs only[aB,seval]
      rw[show jX (a+b)=(a+b,0) by simpa using h8]
  rw[aE (by simpa using h6)]
  simp -implicitDefEqProofs only[aB,seval]
  refine aP (fun h7=>?_) (fun h7=>?_)
  · simp -implicitDefEqProofs only[hw2,aB,seval]
    rw[aH (by simpa using h7)]
    refine(hrg (a - b) _).to ?_
    simp -implicitDefEqProofs only[aB,seval]
    refine aP (fun h8=>?_) (fun h8=>?_)
    · simp -implicitDefEqProofs only[aB,seval]
      rw[hrn _ (by simpa using h8)]
    · simp -implicitDefEqProofs only[aB,seval]
      rw[show jX (a - b)=(a - b,0) by simpa using h8]
  rw[aE (by simpa using h7)]
  simp -implicitDefEqProofs only[aB,seval]
  refine aP (fun h9=>?_) (fun h9=>?_)
  · simp -implicitDefEqProofs only[hw3,aB,seval]
    rw[aH (by simpa using h9)]
    refine(hrg (a*b) _).to ?_
    simp -implicitDefEqProofs only[aB,seval]
    refine aP (fun h8=>?_) (fun h8=>?_)
    · simp -implicitDefEqProofs only[aB,seval]
      rw[hrn _ (by simpa using h8)]
    · simp -implicitDefEqProofs only[aB,seval]
      rw[show jX (a*b)=(a*b,0) by simpa using h8]
  rw[aE (by simpa using h9)]
  simp -implicitDefEqProofs only[aB,seval]
  refine aP (fun h0=>?_) (fun h0=>?_)
  · simp -implicitDefEqProofs only[aB,seval]
    rw[aH (by simpa using h0)]
  have h0':b≠0:=by simpa using h0
  rw[aE h0']
  have hq:=tdiv_le a b hx
  have hr:=PU a b h0'
  have hf:=aOF a b hx hy h0'
  have hfe:=a2L a b h0'
  have hw4:=bE (n:=a.tdiv b)
  have hw5:=bE (n:=a.tmod b+b)
  have a39:jX (a.tdiv b)=(a.tdiv b,0):=by unfold jX;rw[aH hq]
  have a4A:jX (rV a b)=(rV a b,0):=by unfold jX;rw[aH hf]
  simp -implicitDefEqProofs only[hw4,h0',aB,seval,zD]
  refine aP (fun h10=>?_) (fun h10=>?_)
  · simp -implicitDefEqProofs only[hw5,h0',hfe,aB,seval]
    rw[aH (by simpa using h10)]
    refine(hrg (rV a b) _).to ?_
    have hd:decide (jX (rV a b)=(rV a b,0))=true:=by rw[a4A];simp
    simp -implicitDefEqProofs only[hd,aB,seval]
  · simp -implicitDefEqProofs only[aB,seval]
    rw[aE (by simpa using h10)]
    refine(hrg (a.tdiv b) _).to ?_
    have hd:decide (jX (a.tdiv b)=(a.tdiv b,0))=true:=by rw[a39];simp
    simp -implicitDefEqProofs only[hd,aB,seval]
termination_by t=>SizeOf.sizeOf t
decreasing_by have:=List.sizeOf_lt_of_mem hx;simp only[Tm.mk.sizeOf_spec];omega
theorem SL(n:Int)(st:aA):aD prog 392 [.int .i64 n] st (fun r st'=>r=.tup [.int .i64 (jX n).1,.int .i64 (jX n).2]∧st'=st):=by
 refine wF [1000000] 1 func392 ntmps392 rfl rfl ?_
 intro _
 simp -implicitDefEqProofs only[aB,seval]
 refine cX (fun h=>?_) (fun h=>?_)
 · simp -implicitDefEqProofs only[h,aB,seval]
   have h1:¬n< -999:=by simpa using h
   refine aP (fun h2=>?_) (fun h2=>?_)
   · simp -implicitDefEqProofs only[aB,seval]
     have h2':999<n:=by simpa using h2
     unfold jX
     rw[aE (by omega)]
   · simp -implicitDefEqProofs only[aB,seval]
     have h2':¬ 999<n:=by simpa using h2
     unfold jX
     rw[aH (by omega)]
 · simp -implicitDefEqProofs only[h,aB,seval]
   have h1:n< -999:=by simpa using h
   unfold jX
   rw[aE (by omega)]
abbrev a9W:=zi tI_3 (zi zI_3 (zi aY (zi tI_4 (zi zI_4 cJ))))
theorem aZS(a b:Int)(ha:kQ a)(hb:kQ b)(h0:b≠0)(st:aA):aD prog 393 [.int .i64 a,.int .i64 b] st (fun r st'=>r=.int .i64 (rV a b)∧st'=st):=by
 have hl:=PU a b h0
 unfold kQ at ha hb
 have hw:=bE (n:=a.tmod b+b)
 refine wF [1000000] 2 func393 ntmps393 rfl rfl ?_
 intro _
 simp -implicitDefEqProofs only[h0,aB,seval]
 have hf:rV a b=if a.tmod b≠0∧decide (a.tmod b<0)≠decide (b<0) then a.tmod b+b else a.tmod b:=rfl
 rw[hf]
 clear hf
 generalize hm:a.tmod b=m at *
 refine cX (fun h=>?_) (fun h=>?_)
 · have h':m≠0:=by simpa using h
   simp -implicitDefEqProofs only[h,aB,seval,a9W]
   refine aP (fun h2=>?_) (fun h2=>?_)
   · simp -implicitDefEqProofs only[hw,aB,seval]
     rw[aH ⟨h',by simpa using h2⟩]
   · simp -implicitDefEqProofs only[aB,seval]
     rw[aE (by intro h3;exact h3.2 (by simpa using h2))]
 · have h':m=0:=by simpa using h
   simp -implicitDefEqProofs only[h,aB,seval]
   rw[aE (by intro h3;exact h3.1 h')]
theorem aZQ(a b:Int)(ha:kQ a)(hb:kQ b)(h0:b≠0)(st:aA):aD prog 394 [.int .i64 a,.int .i64 b] st (fun r st'=>r=.int .i64 (a.tdiv b)∧st'=st):=by
 have hl:=tdiv_le a b ha
 have hw:=bE (n:=a.tdiv b)
 refine wF [1000000] 2 func394 ntmps394 rfl rfl ?_
 intro _
 simp -implicitDefEqProofs only[h0,hw,aB,seval]
theorem aB0(s:ByteArray)(a b:Int)(hx:kQ a)(hy:kQ b)(st:aA):aD prog 371 [.str s,.int .i64 a,.int .i64 b] st (fun r st'=>r=.tup [.int .i64 (sX s a b).1,.int .i64 (sX s a b).2]∧st'=st):=by
 have hMod:=fun h0=>aZS a b hx hy h0
 have hDiv:=fun h0=>aZQ a b hx hy h0
 unfold kQ at hx hy
 have hmul: -998001≤a*b∧a*b≤998001:=by
  have h6:(a*b).natAbs≤998001:=by
   rw[Int.natAbs_mul]
   have:=LY (show a.natAbs≤999 by omega) (show b.natAbs≤999 by omega)
   omega
  omega
 have hw1:=bE (n:=a+b)
 have hw2:=bE (n:=a - b)
 have hw3:=bE (n:=a*b)
 unfold sX
 refine wF [1000000] 3 func371 ntmps371 rfl rfl ?_
 intro _
 simp -implicitDefEqProofs only[aB,seval]
 refine aP (fun h6=>?_) (fun h6=>?_)
 · simp -implicitDefEqProofs only[hw1,aB,seval]
   rw[aH (by simpa using h6)]
   refine(SL _ _).to ?_
   simp -implicitDefEqProofs only[aB,seval]
 rw[aE (by simpa using h6)]
 simp -implicitDefEqProofs only[aB,seval]
 refine aP (fun h7=>?_) (fun h7=>?_)
 · simp -implicitDefEqProofs only[hw2,aB,seval]
   rw[aH (by simpa using h7)]
   refine(SL _ _).to ?_
   simp -implicitDefEqProofs only[aB,seval]
 rw[aE (by simpa using h7)]
 simp -implicitDefEqProofs only[aB,seval]
 refine aP (fun h9=>?_) (fun h9=>?_)
 · simp -implicitDefEqProofs only[hw3,aB,seval]
   rw[aH (by simpa using h9)]
   refine(SL _ _).to ?_
   simp -implicitDefEqProofs only[aB,seval]
 rw[aE (by simpa using h9)]
 simp -implicitDefEqProofs only[aB,seval]
 refine aP (fun h0=>?_) (fun h0=>?_)
 · simp -implicitDefEqProofs only[aB,seval]
   rw[aH (by simpa using h0)]
 have h0':b≠0:=by simpa using h0
 rw[aE h0']
 simp -implicitDefEqProofs only[aB,seval]
 refine aP (fun h10=>?_) (fun h10=>?_)
 · simp -implicitDefEqProofs only[aB,seval]
   rw[aH (by simpa using h10)]
   refine(hMod h0' _).to ?_
   simp -implicitDefEqProofs only[aB,seval]
 · simp -implicitDefEqProofs only[aB,seval]
   rw[aE (by simpa using h10)]
   refine(hDiv h0' _).to ?_
   simp -implicitDefEqProofs only[aB,seval]
theorem MG(s:ByteArray):gO rT s=decide (dW s=1∨dW s=2):=by
 unfold gO rT dW
 simp only[B0,List.any_nil,BY]
 by_cases h1:s=⟨#[43]⟩
 · subst h1;decide
 by_cases h2:s=⟨#[45]⟩
 · subst h2;decide
 by_cases h3:s=⟨#[42]⟩
 · subst h3;decide
 by_cases h4:s=⟨#[47,47]⟩
 · subst h4;decide
 by_cases h5:s=⟨#[109,111,100]⟩
 · subst h5;decide
 simp only[h1,h2,h3,h4,h5,bX,BY,CM]
 cases (decide (s=⟨#[61]⟩)||decide (s=⟨#[92,61]⟩)||decide (s=⟨#[61,61]⟩)||decide (s=⟨#[60]⟩)||decide (s=⟨#[62]⟩)||decide (s=⟨#[61,60]⟩)||decide (s=⟨#[62,61]⟩)||decide (s=⟨#[61,58,61]⟩)||decide (s=⟨#[105,115]⟩))<;>rfl
abbrev tQ:=zi tI_3 (zi zI_3 (zi aY (zi tI_9 (zi zI_9 (zi cV (zi tI_31 (zi zI_31 (zi aQ (zi bS (zi bT (zi cI (zi tI_66 (zi zI_66 (zi bZ (zi b9 (zi cA (zi cB bY)))))))))))))))))
theorem MT{N:Int}:∀(t:Tm) (st:aA),cO N t→aD prog 327 [t.av] st (fun r st'=>r=.tup [.int .i64 t.ev.1,.int .i64 t.ev.2]∧st'=st)
 | .mk k n s ts,st,hok=>by
  obtain⟨h1,h2⟩:=hok.all
  have IH:=fun(x:Tm) (hx:x∈ts) st=>MT x st (h2 x hx)
  rw[Tm.AR]
  simp only[bA]
  refine wF [1000000] 1 func327 ntmps327 rfl rfl ?_
  intro _
  simp -implicitDefEqProofs only[aB,seval,tQ]
  refine aP (fun hk1=>?_) (fun hk1=>?_)
  · simp -implicitDefEqProofs only[aB,seval]
    simp only[bK] at hk1
    rw[aE (by omega),aH hk1]
  simp only[dJ] at hk1
  rw[aE hk1]
  simp -implicitDefEqProofs only[aB,seval]
  refine aP (fun hk=>?_) (fun hk=>?_)
  · simp -implicitDefEqProofs only[aB,seval,tQ]
    simp only[bK] at hk
    simp [hk]
  simp only[dJ] at hk
  rw[aE hk]
  simp -implicitDefEqProofs only[aB,seval,tQ]
  refine(x6 s _).to ?_
  simp -implicitDefEqProofs only[aF,aB,seval,tQ]
  have hty:∀s0:aA,ts.length≠2∨gO rT s=false→(if gO rT s=true then two (sX s) (ts.map Tm.ev) else(0,3))=((0:Int),(3:Int)):=fun _ h=>by
   split
   · rename_i h3
     rcases h with h | h
     · match ts,h with
       | [],_=>rfl
       | [x],_=>rfl
       | [x,y],h=>simp at h
       | x::y::z::l,_=>rfl
     · rw[h] at h3;cases h3
   · rfl
  refine cX (fun h=>?_) (fun h=>?_)
  case refine_2=>
   simp -implicitDefEqProofs only[h,aB,seval]
   rw[hty st (.inl (by simp at h;omega))]
  simp -implicitDefEqProofs only[h,aB,seval]
  have aPJ:gO rT s=false→dW s≠1∧dW s≠2:=fun h=>by
   rw[MG] at h
   have:=of_decide_eq_false h
   omega
  refine cX (fun h3=>?_) (fun h3=>?_)
  · simp -implicitDefEqProofs only[h3,aB,seval]
    have h3':dW s≠1:=by simp at h3;omega
    refine aP (fun h6=>?_) (fun h6=>?_)
    · have h6':dW s≠2:=by simp at h6;omega
      simp -implicitDefEqProofs only[aB,seval]
      rw[hty st (.inr (by rw[MG];simp [h3',h6']))]
    · have h6':dW s=2:=by simp at h6;omega
      have hin:gO rT s=true:=by rw[MG];simp [h6']
      simp -implicitDefEqProofs only[aB,seval,tQ]
      rw[aH hin]
      clear hty aPJ
      obtain⟨x,y,rfl⟩:=YE (by simpa using h)
      have eC:dG prog 31 (.slice [x.av,y.av]) (.int .i64 0)=some (.pptr x.av):=bP (av:=Tm.av) (l:=[x,y]) (i:=0) aQ rfl (aO x)
      have gX:dG prog 31 (.slice [x.av,y.av]) (.int .i64 1)=some (.pptr y.av):=bP (av:=Tm.av) (l:=[x,y]) (i:=1) aQ rfl (aO y)
      have hx:=Tm.wI x (h2 x (by simp))
      have hy:=Tm.wI y (h2 y (by simp))
      have IHx:=fun st=>IH x (by simp) st
      have IHy:=fun st=>IH y (by simp) st
      simp only[bH,a7,two,both]
      simp -implicitDefEqProofs only[eC,bG,aO,aB,↓aU,seval,tQ]
      refine(IHx _).to ?_
      generalize x.ev.1=a at *
      generalize x.ev.2=ca at *
      generalize y.ev.1=b at *
      generalize y.ev.2=cb at *
      simp -implicitDefEqProofs only[aB,seval]
      refine aP (fun h4=>?_) (fun h4=>?_)
      · simp -implicitDefEqProofs only[aB,seval]
        have h4':ca≠0:=by simpa using h4
        rw[aH h4']
      have h4':ca=0:=by simpa using h4
      subst h4'
      rw[aE (by simp)]
      simp -implicitDefEqProofs only[gX,bG,aO,aB,seval,tQ]
      refine(IHy _).to ?_
      simp -implicitDefEqProofs only[aB,seval]
      refine aP (fun h5=>?_) (fun h5=>?_)
      · simp -implicitDefEqProofs only[aB,seval]
        have h5':cb≠0:=by simpa using h5
        rw[aH h5']
      have h5':cb=0:=by simpa using h5
      subst h5'
      rw[aE (by simp)]
      simp -implicitDefEqProofs only[aB,seval,tQ]
      refine(aB0 s a b hx hy _).to ?_
      simp -implicitDefEqProofs only[aB,seval]
  · have h3':dW s=1:=by simp at h3;omega
    have hin:gO rT s=true:=by rw[MG];simp [h3']
    simp -implicitDefEqProofs only[h3,aB,seval,tQ]
    rw[aH hin]
    clear hty aPJ
    obtain⟨x,y,rfl⟩:=YE (by simpa using h)
    have eC:dG prog 31 (.slice [x.av,y.av]) (.int .i64 0)=some (.pptr x.av):=bP (av:=Tm.av) (l:=[x,y]) (i:=0) aQ rfl (aO x)
    have gX:dG prog 31 (.slice [x.av,y.av]) (.int .i64 1)=some (.pptr y.av):=bP (av:=Tm.av) (l:=[x,y]) (i:=1) aQ rfl (aO y)
    have hx:=Tm.wI x (h2 x (by simp))
    have hy:=Tm.wI y (h2 y (by simp))
    have IHx:=fun st=>IH x (by simp) st
    have IHy:=fun st=>IH y (by simp) st
    simp only[bH,a7,two,both]
    simp -implicitDefEqProofs only[eC,bG,aO,aB,↓aU,seval,tQ]
    refine(IHx _).to ?_
    generalize x.ev.1=a at *
    generalize x.ev.2=ca at *
    generalize y.ev.1=b at *
    generalize y.ev.2=cb at *
    simp -implicitDefEqProofs only[aB,seval]
    refine aP (fun h4=>?_) (fun h4=>?_)
    · simp -implicitDefEqProofs only[aB,seval]
      have h4':ca≠0:=by simpa using h4
      rw[aH h4']
    have h4':ca=0:=by simpa using h4
    subst h4'
    rw[aE (by simp)]
    simp -implicitDefEqProofs only[gX,bG,aO,aB,seval,tQ]
    refine(IHy _).to ?_
    simp -implicitDefEqProofs only[aB,seval]
    refine aP (fun h5=>?_) (fun h5=>?_)
    · simp -implicitDefEqProofs only[aB,seval]
      have h5':cb≠0:=by simpa using h5
      rw[aH h5']
    have h5':cb=0:=by simpa using h5
    subst h5'
    rw[aE (by simp)]
    simp -implicitDefEqProofs only[aB,seval,tQ]
    refine(aB0 s a b hx hy _).to ?_
    simp -implicitDefEqProofs only[aB,seval]
termination_by t=>SizeOf.sizeOf t
decreasing_by have:=List.sizeOf_lt_of_mem hx;simp only[Tm.mk.sizeOf_spec];omega
end Go.AW
