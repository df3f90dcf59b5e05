import Derived.Test.YthigelfjekcbmaaGreatDoorDrsk
import Derived.Test.YthigelfjekcbmaaGreatDoorDrsp
import Derived.Test.YthigelfjekcbmaaGreatDoorDrsm
import Derived.Test.YthigelfjekcbmaaGreatDoorDrsf
set_option linter.unusedSimpArgs false
set_option linter.unusedVariables false
set_option maxRecDepth 100000
namespace Go.AW
open Go.Proofs.Tryz
abbrev PI:=zi tI_3 (zi zI_3 (zi aZ (zi tI_4 (zi zI_4 (zi cG (zi tI_27 (zi zI_27 (zi eT (zi gO (zi gP (zi iD (zi tI_111 (zi zI_111 (zi kS (zi kT kQ)))))))))))))))
theorem aM9(l l':List Cl)(st:aA)(hc:∀x∈l,∀(y:Cl) (st:aA),aD prog 103 [bD x,bD y] st (fun r st'=>r=.bool (sJ x y)∧st'=st)) :
 aD prog 52 [.slice (l.map bD),.slice (l'.map bD)] st (fun r st'=>r=.bool (gK sJ l l')∧st'=st):=by
 refine wF [] 2 func52 ntmps52 rfl rfl ?_
 simp only[dK,AV.fits,dZ,aE]
 intro ⟨⟨hl,_⟩,⟨hl',_⟩⟩
 simp -implicitDefEqProofs only[aE,aB,seval,PI]
 refine⟨fun h4=>?_,fun h4=>?_⟩
 · simp -implicitDefEqProofs only[aB,seval]
   simp only[gH,cI] at h4
   rw[AS _ (show l.length≠l'.length by omega)]
 simp -implicitDefEqProofs only[aB,seval]
 simp only[jY,bL] at h4
 have h4':l.length=l'.length:=by omega
 refine oI (α:=Nat) [] (fun i=>i≤l.length∧∀(j:Nat) (x y:Cl),j<i→l[j]?=some x→l'[j]?=some y→sJ x y=true)
  (fun i=>[(0,.slice (l.map bD)),(1,.slice (l'.map bD)),(5,.int .i64 i)]) (fun _=>st) (fun i=>l.length - i) (by decide +kernel)
  ⟨0,⟨by omega,by intro j x y h;omega⟩,aP.mk (by simp -implicitDefEqProofs only[aB,↓aX,seval])⟩ ?_
 intro i ⟨hi,c9⟩
 simp -implicitDefEqProofs only[aE,aB,seval,PI]
 refine⟨fun h5=>?_,fun h5=>?_⟩
 case refine_2=>
  simp -implicitDefEqProofs only[aB,seval]
  simp only[cI,gT] at h5
  rw[AP _ h4' (fun j x y h6 h7=>c9 j x y (by have:=(fD.1 h6).1;omega) h6 h7)]
 simp only[bL,gT] at h5
 obtain⟨x,hx⟩:∃x,l[i]?=some x:=⟨_,eQ h5⟩
 obtain⟨y,hy⟩:∃y,l'[i]?=some y:=⟨_,eQ (h4'▸h5)⟩
 simp -implicitDefEqProofs only[aB,seval]
 refine GU mixed (by decide +kernel) (by decide +kernel) ?_
 simp -implicitDefEqProofs only[bJ (av:=bD) eT hx (gD x),bJ (av:=bD) eT hy (gD y),pW,gD,aB,seval,PI]
 refine(hc x (cL hx) y st).to ?_
 simp -implicitDefEqProofs only[aB,seval]
 refine⟨fun h6=>?_,fun h6=>?_⟩
 · simp -implicitDefEqProofs only[aB,seval]
   have h7:sJ x y=false:=by simpa using h6
   rw[AQ _ i x y hx hy h7]
 have h7:sJ x y=true:=by simpa using h6
 simp -implicitDefEqProofs only[aB,seval]
 refine⟨i+1,by omega,⟨by omega,fun j u v hj hu hv=>?_⟩,aP.mk ?_⟩
 · rcases kN j i with h8 | h8
   · exact c9 j u v h8 hu hv
   · obtain rfl:j=i:=by omega
     rw[hx] at hu;rw[hy] at hv;cases hu;cases hv;exact h7
 · have:=bK (n:=(i:Int)+1)
   simp -implicitDefEqProofs only[this,aB,seval]
abbrev PH:=zi tI_3 (zi zI_3 (zi aZ (zi tI_22 (zi zI_22 (zi AL (zi HC (zi HF (zi FX (zi tI_120 (zi zI_120 (zi AU (zi AX AA))))))))))))
theorem aO2(l:List Cl)(left:Int)(st:aA)(h0:0≤left)(h1:left≤1048576)(hc:∀x∈l,∀(left:Int) (st:aA),0≤left→left≤1048576→aD prog 98 [bD x,.int .i64 left] st (fun r st'=>r=.int .i64 (jK left (lL x))∧st'=st)) :
 aD prog 46 [.slice (l.map bD),.int .i64 left] st (fun r st'=>r=.int .i64 (jK left (l.length+aM lL l))∧st'=st):=by
 refine wF [] 2 func46 ntmps46 rfl rfl ?_
 simp only[dK,AV.fits,dZ,aE]
 intro ⟨hl,_⟩
 have hw:=bK (n:=left - (l.length:Int))
 simp -implicitDefEqProofs only[aE,hw,aB,seval,PH]
 refine⟨fun h4=>?_,fun h4=>?_⟩
 · simp -implicitDefEqProofs only[aB,seval]
   simp only[bL] at h4
   simp only[jK]
   rw[aK (by omega)]
 simp only[cI] at h4
 simp -implicitDefEqProofs only[aB,seval]
 refine oI (α:=Nat) [] (fun i=>i≤l.length∧((l.length+aM lL (l.take i):Nat):Int)≤left)
  (fun i=>[(0,.slice (l.map bD)),(1,.int .i64 (left - ((l.length+aM lL (l.take i):Nat):Int))),(5,.int .i64 i)]) (fun _=>st) (fun i=>l.length - i) (by decide +kernel)
  ⟨0,⟨by omega,by simp only[lC,aM];omega⟩,aP.mk (by simp -implicitDefEqProofs only[aM,qT,aB,↓aX,seval])⟩ ?_
 intro i ⟨hi,hle⟩
 simp -implicitDefEqProofs only[aE,aB,seval,PH]
 refine⟨fun h5=>?_,fun h5=>?_⟩
 case refine_2=>
  simp -implicitDefEqProofs only[aB,seval]
  simp only[cI,gT] at h5
  rw[show i=l.length by omega,eM] at hle ⊢
  rw[qH (by omega)]
 simp only[bL,gT] at h5
 obtain⟨x,hx⟩:∃x,l[i]?=some x:=⟨_,eQ h5⟩
 simp -implicitDefEqProofs only[bJ (av:=bD) AL hx (gD x),pW,gD,aB,seval,PH]
 refine(hc x (cL hx) _ st (by omega) (by omega)).to ?_
 have hs:=uT lL hx
 simp -implicitDefEqProofs only[aB,seval]
 refine⟨fun h6=>?_,fun h6=>?_⟩
 · simp -implicitDefEqProofs only[aB,seval]
   simp only[bL,nL] at h6
   simp only[jK]
   rw[aK (by omega)]
 simp only[cI,nL] at h6
 rw[qH h6]
 simp -implicitDefEqProofs only[aB,seval]
 refine⟨i+1,by omega,⟨by omega,by omega⟩,aP.mk ?_⟩
 · have:=bK (n:=(i:Int)+1)
   have e:(left - ((l.length+aM lL (l.take (i+1)):Nat):Int))=left - ((l.length+aM lL (l.take i):Nat):Int) - ((lL x:Nat):Int):=by omega
   simp -implicitDefEqProofs only[this,e,aB,seval]
abbrev JM:=zi tI_3 (zi zI_3 (zi aZ (zi tI_22 (zi zI_22 (zi AL (zi HC (zi HF (zi FX (zi tI_27 (zi zI_27 (zi eT (zi gO (zi gP (zi iD (zi tI_111 (zi zI_111 (zi kS (zi kT (zi kQ (zi tI_120 (zi zI_120 (zi AU (zi AX AA)))))))))))))))))))))))
theorem aUN(l:List Cl)(st:aA)(hb:l.length≤1048576)(hc:∀x∈l,∀(st:aA),aD prog 101 [bD x] st (Made st (bD x))) :
 aD prog 49 [.slice (l.map bD)] st (Made st (.slice (l.map bD))):=by
 refine wF [] 1 func49 ntmps49 rfl rfl ?_
 intro _
 simp -implicitDefEqProofs only[aE,qX,aB,↓aX,seval,JM]
 refine⟨by omega,by omega,by omega,?_⟩
 intro b hn
 rw[jM,ER _ (by simp)]
 refine dW (σ:=List AV×List Nat×aA) [] [0,2,3] l (fun i p=>qU (l.map bD) [.int .i64 0,.int .i64 0,.str ⟨#[]⟩,.fslice [],.fslice []] b st i p) (fun i _=>[(4,.int .i64 i)]) (fun _ p=>p.2.2) (by decide +kernel)
  ⟨([],[],_),?_,aP.mk (by simp -implicitDefEqProofs only[aB,↓aX,seval])⟩ (fun i x p hx hlt bF hdr hinv=>?_) (fun p hge hinv=>?_)
 · exact qU.start hn (by rw[aE])
 case refine_3=>
  obtain⟨os,bs,s⟩:=p
  simp -implicitDefEqProofs only[aE,hge,aB,seval,JM]
  exact hinv.done (aE _) (fun e he=>by simp only[cE] at he;obtain⟨t,_,rfl⟩:=he;exact gD t)
 obtain⟨os,bs,s⟩:=p
 simp -implicitDefEqProofs only[aE,bF,bJ (av:=bD) AL hx (gD x),pW,gD,aB,seval,JM]
 refine(hc x (cL hx) _).mono ?_
 rintro r s2 NQ
 obtain⟨A,B,hs2,hA,hrw,hrs,NT⟩:=hinv.step NQ (show(l.map bD)[i]?=some (bD x) by rw[lX,hx];try rfl) (gD x) (fun e he=>by simp only[cE] at he;obtain⟨t,_,rfl⟩:=he;exact gD t) rfl (G5 x) (.inl (pW x))
 have hat:=n6 (b:=b) (len:=l.length) (w:=5) (i:=i) eT hlt
 obtain⟨hp1,hp2⟩:=OH (B:=B) (C:=[.int .i64 0,.int .i64 0,.str ⟨#[]⟩,.fslice [],.fslice []]) (x:=r.cells) hA rfl hrw
 have hw:=bK (n:=(i:Int)+1)
 simp -implicitDefEqProofs only[hat,hs2,hrw,hrs,hp1,hw,aB,seval,JM]
 refine⟨hp2,?_⟩
 exact⟨_,NT,aP.mk (by simp -implicitDefEqProofs only[aB,seval])⟩
abbrev aI1:=zi tI_4 (zi zI_4 (zi cG (zi tI_28 (zi zI_28 (zi aQ (zi bM (zi bO (zi cA (zi tI_52 (zi zI_52 (zi bX (zi bY (zi bZ (zi b7 (zi bV (zi tI_111 (zi zI_111 (zi kS (zi kT kQ)))))))))))))))))))
theorem aM8(x y:Cl)(st:aA):aD prog 103 [bD x,bD y] st (fun r st'=>r=.bool (sJ x y)∧st'=st):=by
 obtain⟨⟨k,n,s,ts⟩,b⟩:=x
 obtain⟨⟨k',n',s',ts'⟩,b'⟩:=y
 have hg:=fun st=>DA (.mk k n s ts) (.mk k' n' s' ts') st
 simp only[a7] at hg
 have hc:=fun st=>GY b b' st fun x _ y st=>DA x y st
 simp only[mK]
 refine wF [1000000] 2 func103 ntmps103 rfl rfl ?_
 intro _
 simp -implicitDefEqProofs only[aB,seval,aI1]
 refine(hg _).to ?_
 simp only[sJ]
 simp -implicitDefEqProofs only[aB,seval]
 refine aT (fun h1=>?_) (fun h1=>?_)
 · simp -implicitDefEqProofs only[aB,seval]
   simp only[gH] at h1
   simp [h1]
 simp only[jY] at h1
 simp -implicitDefEqProofs only[aB,seval,aI1]
 refine(hc _).to ?_
 simp -implicitDefEqProofs only[aB,seval]
 refine aT (fun h2=>?_) (fun h2=>?_)<;>simp -implicitDefEqProofs only[aB,seval]
 · simp only[gH] at h2
   simp [h2]
 · simp only[jY] at h2
   simp [h1,h2]
abbrev aI2:=zi tI_3 (zi zI_3 (zi aZ (zi tI_23 (zi zI_23 (zi pZ (zi sN (zi sP (zi qM (zi tI_118 (zi zI_118 (zi v3 (zi v4 (zi v5 (zi v6 (zi vQ (zi tI_120 (zi zI_120 (zi AU (zi AX AA)))))))))))))))))))
theorem aO1(c:Cl)(left:Int)(st:aA)(h0:0≤left)(h1:left≤1048576):aD prog 98 [bD c,.int .i64 left] st (fun r st'=>r=.int .i64 (jK left (lL c))∧st'=st):=by
 obtain⟨⟨k,n,s,ts⟩,b⟩:=c
 have hg:=fun st=>MA (.mk k n s ts) left st h0 h1
 simp only[a7] at hg
 simp only[mK,lL]
 generalize (Tm.mk k n s ts).sz=z at hg ⊢
 have hsl:qG b=b.length+aM Tm.sz b:=rfl
 refine wF [1000000] 2 func98 ntmps98 rfl rfl ?_
 intro _
 simp -implicitDefEqProofs only[aB,seval,aI2]
 refine(hg _).to ?_
 simp -implicitDefEqProofs only[aB,seval]
 refine aT (fun h2=>?_) (fun h2=>?_)
 · simp -implicitDefEqProofs only[aB,seval]
   simp only[bL,nL] at h2
   simp only[jK]
   rw[aK (by omega)]
 simp only[cI,nL] at h2
 rw[qH h2]
 simp -implicitDefEqProofs only[aB,seval,aI2]
 refine(TK b _ _ (by omega) (by omega)).to ?_
 simp -implicitDefEqProofs only[aB,seval]
 refine aT (fun h3=>?_) (fun h3=>?_)
 · simp -implicitDefEqProofs only[aB,seval]
   simp only[bL,nL] at h3
   simp only[jK]
   rw[aK (by omega)]
 · simp -implicitDefEqProofs only[aB,seval]
   simp only[cI,nL] at h3
   rw[qH h3,qH (by omega)]
   congr 1
   omega
abbrev PG:=zi tI_23 (zi zI_23 (zi pZ (zi sN (zi sP (zi qM (zi tI_28 (zi zI_28 (zi aQ (zi bM (zi bO (zi cA (zi tI_52 (zi zI_52 (zi bX (zi bY (zi bZ (zi b7 (zi bV (zi tI_111 (zi zI_111 (zi kS (zi kT (zi kQ (zi tI_118 (zi zI_118 (zi v3 (zi v4 (zi v5 (zi v6 (zi vQ (zi tI_120 (zi zI_120 (zi AU (zi AX AA))))))))))))))))))))))))))))))))))
theorem aUM(c:Cl)(st:aA)(hb:lL c≤1048576):aD prog 101 [bD c] st (Made st (bD c)):=by
 obtain⟨⟨k,n,s,ts⟩,bd⟩:=c
 unfold lL at hb
 simp only at hb
 have hc:=fun st=>aHN bd st (by unfold qG;omega)
 have hg:=fun st=>N9 (.mk k n s ts) st (by omega)
 simp only[a7] at hg
 simp only[mK]
 refine aD.BG ?_
 refine wF [1000000] 1 func101 ntmps101 rfl rfl ?_
 intro _
 simp -implicitDefEqProofs only[aB,seval,PG]
 intro b hb1 b2 hb2
 have hne:b2≠b:=by rintro rfl;rw[aA.aH] at hb2;cases hb2
 have hn2:st b2=none:=by rw[aA.aF st _ hne] at hb2;exact hb2
 refine(hg _).mono ?_
 rintro q0 s2 ⟨bs,m1,m2,m3,m4⟩
 rw[←a7] at m3
 obtain⟨q,rfl,m3'⟩:=BT.1 m3
 have hbb:b∉bs:=fun h=>by have:=m2 b h;simp [dP,hne.symm] at this
 have nZ:b2∉bs:=fun h=>by have:=m2 b2 h;simp [dP] at this
 have e1:=m4 b hbb
 have e2:=m4 b2 nZ
 simp only[dP,hne,hne.symm,d3,cM] at e1 e2
 obtain⟨hqc,hqs,hqa,hqw,hqj⟩:=aR.jT m3'
 simp -implicitDefEqProofs only[aS,e2,hqs,aB,seval,PG]
 refine(hc _).mono ?_
 rintro r s3 ⟨cs,n1,n2,n3,n4⟩
 have NA:b2∉cs:=fun h=>by have:=n2 b2 h;simp [dP] at this
 have hcb:b∉cs:=fun h=>by have:=n2 b h;simp [dP,hne.symm,e1] at this
 have f1:=n4 b hcb
 have f2:=n4 b2 NA
 simp only[dP,hne.symm,d3,cM,e1] at f1 f2
 obtain⟨hrc,hrs,hra,hrw,hrj⟩:=aR.jT n3
 simp -implicitDefEqProofs only[aS,dP,hne.symm,f1,f2,hqs,hrc,hrs,aB,seval,PG]
 have uE:=(aR.eX _ _ _ m3').2.2
 have kH:∀x∈bs,x∉cs:=fun x hx hx'=>by
  obtain⟨u,e,_⟩:=uE x hx
  have:=n2 x hx'
  have h2:x≠b2:=fun e=>nZ (e▸hx)
  simp only[dP,h2,cM] at this
  rw[e] at this;cases this
 have hcs:∀x∈cs,x≠b∧x≠b2:=fun x hx=>⟨fun e=>hcb (e▸hx),fun e=>NA (e▸hx)⟩
 have hbs:∀x∈bs,x≠b∧x≠b2:=fun x hx=>⟨fun e=>hbb (e▸hx),fun e=>nZ (e▸hx)⟩
 refine⟨[b,b2],bs++cs,jN.2 ⟨m1,n1,fun x hx y hy e=>kH x hx (e▸hy)⟩,fun x hx=>?_,?_,?_,?_⟩
 · rcases dQ.1 hx with hx | hx
   · have:=m2 x hx
     simpa [dP,hbs x hx] using this
   · have:=n2 x hx
     simp only[dP,(hcs x hx).2,cM] at this
     by_cases hxb:x∈bs
     · exact absurd hx (kH x hxb)
     · rw[m4 x hxb] at this
       simpa [dP,hcs x hx] using this
 · simp [hb1,hn2,hbb,nZ,hcb,NA]
 · rw[←mK]
   refine I6.2 ⟨q,bs,r,cs,rfl,rfl,aR.aV _ _ _ (fun x hx=>?_) m3',aR.aV _ _ _ (fun x hx=>?_) n3⟩
   · simp only[dP,(hbs x hx).1,(hbs x hx).2,cM]
     rw[n4 x (kH x hx)]
     simp only[dP,(hbs x hx).2,cM]
   · simp only[dP,(hcs x hx).1,(hcs x hx).2,cM]
 · intro x hx hd
   simp only[cP,dI,dN,jJ] at hd
   simp only[dQ,jJ] at hx
   simp only[dP,hd.1,hd.2,cM]
   rw[n4 x hx.2]
   simp only[dP,hd.2,cM]
   rw[m4 x hx.1]
   simp only[dP,hd.1,hd.2,cM]
theorem aNA(l:List Cl)(st:aA):aD prog 52 [.slice (l.map bD),.slice (l.map bD)] st (fun r st'=>r=.bool true∧st'=st):=by
 refine(aM9 l l st fun x _ y st=>aM8 x y st).mono ?_
 rintro _ _ ⟨rfl,rfl⟩
 refine⟨?_,rfl⟩
 have:∀l:List Cl,gK sJ l l=true:=by
  intro l
  induction l with
  | nil=>rfl
  | cons x l ih=>simp [gK,aPI,ih]
 rw[this]
abbrev uU (l:List Cl):Nat:=l.length+aM lL l
theorem aO3(l:List Cl)(left:Int)(st:aA)(h0:0≤left)(h1:left≤1048576):aD prog 46 [.slice (l.map bD),.int .i64 left] st (fun r st'=>r=.int .i64 (jK left (uU l))∧st'=st):=
 aO2 l left st h0 h1 fun x _ left st h0 h1=>aO1 x left st h0 h1
theorem aUO(l:List Cl)(st:aA)(hb:uU l≤1048576):aD prog 49 [.slice (l.map bD)] st (Made st (.slice (l.map bD))):=
 aUN l st (by unfold uU at hb;omega) fun x hx st=>aUM x st (by have:=qF (f:=lL) hx;unfold uU at hb;omega)
theorem aPG(c:Cl):oS c≤3+3*lL c:=by
 obtain⟨⟨k,n,s,ts⟩,b⟩:=c
 have h1:=Tm.aHE (.mk k n s ts)
 have h2:=aHF b
 rw[Tm.EV] at h1
 rw[MK]
 have hsl:qG b=b.length+aM Tm.sz b:=rfl
 have hcs:lL (.mk k n s ts,b)=(Tm.mk k n s ts).sz+(b.length+aM Tm.sz b):=rfl
 omega
theorem TS:∀l:List Cl,aM oS l≤3*uU l
 | []=>by simp [aM]
 | x::l=>by
  have h1:=aPG x
  have h2:=TS l
  simp only[aM,uU,bA] at h2 ⊢
  omega
abbrev PJ:=zi tI_3 (zi zI_3 (zi aZ (zi tI_9 (zi zI_9 (zi eF (zi tI_27 (zi zI_27 (zi eT (zi gO (zi gP (zi iD (zi tI_28 (zi zI_28 (zi aQ (zi bM (zi bO (zi cA (zi tI_52 (zi zI_52 (zi bX (zi bY (zi bZ (zi b7 (zi bV (zi tI_111 (zi zI_111 (zi kS (zi kT kQ))))))))))))))))))))))))))))
theorem aOG(l:List Cl)(j:Int)(o:AV)(bs:List Nat)(st:aA)(hO:aR st (.slice (l.map bD)) o bs)(hnd:bs.Nodup)(hj0:0≤j)(hj1:j+aM oS l≤1099511627776) :
 aD prog 54 [o,.int .i64 j] st (CL st (.slice ((fB xK oS l j).map bD)) o bs (j+aM oS l)):=by
 obtain⟨hlen,haL⟩:=hO.len
 rw[aE] at hlen
 have haL:=haL prog 27 _ iD
 rw[aE] at haL
 refine wF [1000000] 2 func54 ntmps54 rfl rfl ?_
 simp only[dK]
 intro ⟨hf,_⟩
 have hl:=hlen hf
 clear hf hlen
 simp -implicitDefEqProofs only[aB,seval]
 refine dW (σ:=List Cl×Int×aA) [1000000] [0,4] l
  (fun i p=>p.1.length=i∧p.1++fB xK oS (l.drop i) p.2.1=fB xK oS l j∧0≤p.2.1∧p.2.1+aM oS (l.drop i)=j+aM oS l∧aR p.2.2 (.slice ((p.1++l.drop i).map bD)) o bs∧∀q,q∉bs→p.2.2 q=st q)
  (fun i p=>[(1,.int .i64 p.2.1),(5,.int .i64 i)]) (fun _ p=>p.2.2) (by decide +kernel)
  ⟨([],j,st),⟨rfl,rfl,hj0,rfl,hO,fun _ _=>rfl⟩,aP.mk (by simp -implicitDefEqProofs only[aB,↓aX,seval])⟩ (fun i x p hx hlt bF hdr hinv=>?_) (fun p hge hinv=>?_)
 case refine_2=>
  obtain⟨done,k,s⟩:=p
  obtain⟨i1,i2,i3,i4,i5,i6⟩:=hinv
  simp only at i1 i2 i3 i4 i5 i6
  simp -implicitDefEqProofs only[haL,hge,aB,seval]
  simp only[gU,fB,fM,aM] at i2 i4 i5
  exact⟨by rw[←i4];simp,by rw[←i2];exact i5,i6⟩
 obtain⟨done,k,s⟩:=p
 obtain⟨i1,i2,i3,i4,i5,i6⟩:=hinv
 simp only at i1 i2 i3 i4 i5 i6
 rw[hdr] at i2 i4 i5
 obtain⟨⟨xk,xn,xs,xts⟩,xb⟩:=x
 simp only[aM,MK] at i4
 have mN:=IV (av:=bD) (done:=done) (x:=(.mk xk xn xs xts,xb)) (rest:=l.drop (i+1))
 obtain⟨b,bs',w,A,oe,bo,B,rfl,hbs,hsb,hA,hoe,hbo,hbn,iO,hw,hi,rP⟩:=i5.focus hnd mN
 rw[gD] at hw
 subst hw
 rw[i1] at hA
 obtain⟨q,b1,q',b2,rfl,rfl,hq,hq'⟩:=I6.1 hoe
 rw[jN] at hbo
 obtain⟨aRC,aRD,kH⟩:=hbo
 simp only[dQ,jJ] at hbn
 have xY:((done++((Tm.mk xk xn xs xts,xb):Cl)::l.drop (i+1)).map bD).length=l.length:=by
  rw[aE,dX,bA,pN,i1];omega
 rw[xY] at haL rP ⊢
 have hat:=n6 (P:=prog) (b:=b) (len:=l.length) (w:=5) (i:=i) eT hlt
 have hw1:=bK (n:=k+1)
 have hw2:=bK (n:=k+1+1)
 have hw3:=bK (n:=k+1+1+1)
 have hw4:=bK (n:=(i:Int)+1)
 obtain⟨e1,e2,e3,e4,e5,e6⟩:=wC (B:=B) hA
 simp -implicitDefEqProofs only[haL,bF,hat,hsb,hw1,hw2,e1,e2,e4,e5,qT,w7,GA,d4,aB,seval,PJ]
 refine(L4 (k+1+1) _ (by omega)).to ?_
 simp -implicitDefEqProofs only[hat,e1,e2,e3,qT,w7,GA,d4,hw3,aB,seval,PJ]
 have hqs:∀(o:AO),aR (s.aC b o) (.slice (xts.map Tm.av)) q b1:=fun o=>aR.aV _ _ _ (fun x hx=>aA.aF _ _ (fun e=>hbn.1 (e▸hx))) hq
 have hqa:q.isAgg=false:=(aR.shape hq).1
 have aSP:q'.isAgg=false:=(aR.shape hq').1
 simp -implicitDefEqProofs only[hqa,aB,seval]
 refine(DD xts (k+1+1+1) q b1 _ (hqs _) aRC (by omega) (by omega)).mono ?_
 rintro _ s2 ⟨rfl,hq2,hk2⟩
 have f1:=hk2 b hbn.1
 rw[aA.aH] at f1
 simp -implicitDefEqProofs only[hat,f1,e3,aSP,aB,seval,PJ]
 have aSQ:aR s2 (.slice (xb.map Tm.av)) q' b2:=aR.aV _ _ _ (fun x hx=>by
  have hxb:x≠b:=fun e=>hbn.2 (e▸hx)
  rw[hk2 x (fun h=>kH x h x hx rfl),aA.aF _ _ hxb]) hq'
 refine(DD xb _ q' b2 _ aSQ aRD (by omega) (by omega)).mono ?_
 rintro _ s3 ⟨rfl,hq3,hk3⟩
 have hm:k+((3+aM Tm.dB xts+aM Tm.dB xb:Nat):Int)=k+1+1+1+(aM Tm.dB xts:Int)+(aM Tm.dB xb:Int):=by omega
 simp -implicitDefEqProofs only[hw4,aB,seval]
 refine⟨(done++ [xK (.mk xk xn xs xts,xb) k],k+1+1+1+(aM Tm.dB xts:Int)+(aM Tm.dB xb:Int),s3),⟨?_,?_,?_,?_,?_,?_⟩,aP.mk (by simp -implicitDefEqProofs only[aB,seval])⟩
 · simp [i1]
 · simp only[fB,MK] at i2
   rw[hm] at i2
   rw[←i2]
   simp
 · simp only;omega
 · simp only;omega
 · have:=rP s3 (bD (xK (.mk xk xn xs xts,xb) k)) (.agg [.int .i64 k,.int .i64 (k+1),.str (mt (k+1+1)),q,q']) (gD _)
    (fun x hx hxb hxo=>by
     simp only[dQ,jJ] at hxo
     rw[hk3 x hxo.2,hk2 x hxo.1,aA.aF _ _ hxb])
    (by rw[hk3 b hbn.2,f1];try rfl)
    (by
     unfold xK
     exact I6.2 ⟨q,b1,q',b2,rfl,rfl,aR.aV _ _ _ (fun x hx=>hk3 x (fun h=>kH x hx x h rfl)) hq2,hq3⟩)
   rw[IW] at this
   exact this
 · intro x hx
   have hxb:x≠b:=fun e=>hx (by rw[hbs];simp [e])
   have hx1:x∉b1:=fun e=>hx (iO x (by simp [e]))
   have hx2:x∉b2:=fun e=>hx (iO x (by simp [e]))
   show s3 x=st x
   rw[hk3 x hx2,hk2 x hx1,aA.aF _ _ hxb,i6 x hx]
theorem B1(s:Ss):(cZ s).width=6:=rfl
theorem aV9(s:Ss):(cZ s).cells.all AV.storable=true:=rfl
theorem aV8(s:Ss):(cZ s).b9=false:=rfl
theorem B0(s:Ss):(cZ s).isAgg=true:=rfl
abbrev PO:=zi tI_3 (zi zI_3 (zi aZ (zi tI_4 (zi zI_4 (zi cG (zi tI_27 (zi zI_27 (zi eT (zi gO (zi gP (zi iD (zi tI_28 (zi zI_28 (zi aQ (zi bM (zi bO (zi cA (zi tI_30 (zi zI_30 (zi lM (zi lN (zi lO (zi lP (zi lQ (zi lR lK)))))))))))))))))))))))))
theorem aNC(s:Ss)(st:aA):aD prog 19 [cZ s,cZ s] st (fun r st'=>r=.bool true∧st'=st):=by
 obtain⟨p,q,i0,i1,i2,i3⟩:=s
 simp only[cZ]
 refine wF [1000000] 2 func19 ntmps19 rfl rfl ?_
 intro _
 simp -implicitDefEqProofs only[aB,seval,PO]
 refine(aNA p _).to ?_
 simp -implicitDefEqProofs only[aB,seval,PO]
 refine(aND q _).to ?_
 simp -implicitDefEqProofs only[gX,aB,seval,PO]
def yM(s:Ss):Nat:=aM oS s.p+aM Tm.dB s.q
def aWA(s:Ss)(j:Int):Ss:={ s with p:=fB xK oS s.p j,q:=fB Tm.mark Tm.dB s.q (j+aM oS s.p) }
abbrev aI4:=zi tI_3 (zi zI_3 (zi aZ (zi tI_27 (zi zI_27 (zi eT (zi gO (zi gP (zi iD (zi tI_28 (zi zI_28 (zi aQ (zi bM (zi bO (zi cA (zi tI_30 (zi zI_30 (zi lM (zi lN (zi lO (zi lP (zi lQ (zi lR lK))))))))))))))))))))))
theorem aOI(s:Ss)(j:Int)(o:AV)(bs:List Nat)(st:aA)(hO:aR st (cZ s) o bs)(hnd:bs.Nodup)(h0:0≤j)(h1:j+yM s≤1099511627776) :
 aD prog 21 [o,.int .i64 j] st (CL st (cZ (aWA s j)) o bs (j+yM s)):=by
 obtain⟨p,qq,i0,i1,i2,i3⟩:=s
 obtain⟨q,b1,q',b2,rfl,rfl,hq,hq'⟩:=OG.1 hO
 obtain⟨n1,n2,hd⟩:=jN.1 hnd
 obtain⟨hqc,hqs,hqa,hqw,hqj⟩:=aR.jT hq
 obtain⟨hrc,hrs,hra,hrw,hrj⟩:=aR.jT hq'
 simp only[yM] at h1
 simp only at hq hq'
 refine wF [1000000] 2 func21 ntmps21 rfl rfl ?_
 intro _
 simp -implicitDefEqProofs only[hqa,hqw,aB,seval,aI4]
 refine(aOG p j q b1 st hq n1 h0 (by omega)).mono ?_
 rintro _ s2 ⟨rfl,hq2,hk⟩
 simp -implicitDefEqProofs only[hra,hrw,aB,seval,aI4]
 have aSO:=aR.beside hq' hk (fun x h h'=>hd x h' x h rfl)
 refine(DD qq _ q' b2 s2 aSO n2 (by omega) (by omega)).mono ?_
 rintro _ s3 ⟨rfl,hq3,hk3⟩
 simp -implicitDefEqProofs only[aB,seval]
 refine⟨?_,OG.2 ⟨q,b1,q',b2,rfl,rfl,?_,hq3⟩,fun x hx=>?_⟩
 · unfold yM;simp only;congr 1;omega
 · exact aR.beside hq2 hk3 (fun x h h'=>hd x h x h' rfl)
 · simp only[dQ,jJ] at hx
   rw[hk3 x hx.2,hk x hx.1]
end Go.AW
namespace Go.AW
def yA:AV→Bool
 | .int _ _ | .bool _ | .str _=>true
 | _=>false
theorem aHZ{st:aA}{a o:AV}{bs:List Nat}(h:yA a=true):aR st a o bs↔o=a∧bs= []:=by
 cases a<;>simp [yA] at h<;>simp [aR]
theorem aUT{st:aA}{a:AV}{es os:List AV}{bs:List Nat}(h:yA a=true):aU st (a::es) os bs↔∃os',os=a::os'∧aU st es os' bs:=by
 simp only[aU]
 constructor
 · rintro⟨o,os',b1,b2,rfl,rfl,x1,x2⟩
   obtain⟨rfl,rfl⟩:=(aHZ h).1 x1
   exact⟨os',rfl,x2⟩
 · rintro⟨os',rfl,x⟩
   exact⟨a,os',[],bs,rfl,rfl,(aHZ h).2 ⟨rfl,rfl⟩,x⟩
def yU:List AV→List AV→List AV
 | [],_=>[]
 | a::es,qs=>if yA a then a::yU es qs else match qs with
  | q::qs=>q::yU es qs
  | []=>[]
theorem BS{st:aA}:∀ {es os:List AV} {bs:List Nat},aU st es os bs↔∃qs,os=yU es qs∧aU st (es.filter fun a=> !yA a) qs bs
 | [],os,bs=>by
  simp only[aU,yU,List.filter_nil]
  constructor
  · rintro⟨rfl,rfl⟩;exact⟨[],rfl,rfl,rfl⟩
  · rintro⟨qs,rfl,rfl,rfl⟩;exact⟨rfl,rfl⟩
 | a::es,os,bs=>by
  cases h:yA a with
  | true=>
   rw[aUT h]
   simp only[yU,h,List.filter_cons,mY,jX,cM,d3]
   constructor
   · rintro⟨os',rfl,x⟩
     obtain⟨qs,rfl,y⟩:=BS.1 x
     exact⟨qs,rfl,y⟩
   · rintro⟨qs,rfl,y⟩
     exact⟨_,rfl,BS.2 ⟨qs,rfl,y⟩⟩
  | false=>
   simp only[yU,h,List.filter_cons,tM,jX,cM,d3,aU]
   constructor
   · rintro⟨o,os',b1,b2,rfl,rfl,x1,x2⟩
     obtain⟨qs,rfl,y⟩:=BS.1 x2
     exact⟨o::qs,rfl,o,qs,b1,b2,rfl,rfl,x1,y⟩
   · rintro⟨qs,rfl,o,os',b1,b2,rfl,rfl,x1,y⟩
     exact⟨o,_,b1,b2,rfl,rfl,x1,BS.2 ⟨os',rfl,y⟩⟩
theorem aHY{st:aA}{cs:List AV}{o:AV}{bs:List Nat}:aR st (.agg cs) o bs↔∃qs,o=.agg (yU cs qs)∧aU st (cs.filter fun a=> !yA a) qs bs:=by
 simp only[aR]
 constructor
 · rintro⟨os,rfl,x⟩
   obtain⟨qs,rfl,y⟩:=BS.1 x
   exact⟨qs,rfl,y⟩
 · rintro⟨qs,rfl,y⟩
   exact⟨_,rfl,BS.2 ⟨qs,rfl,y⟩⟩
def aGZ:AV→Bool
 | .slice _=>true
 | _=>false
def One(q:AV):Prop:=q.cells= [q]∧q.storable=true∧q.isAgg=false∧q.width=1∧q.b9=false
theorem aU.E2{st:aA}:∀ {es os:List AV} {bs:List Nat},aU st es os bs→es.all aGZ=true→∀q∈os,One q
 | [],os,bs,x,_=>by simp only[aU] at x;rw[x.1];simp
 | a::es,os,bs,x,h=>by
  simp only[aU] at x
  obtain⟨o,os',b1,b2,rfl,rfl,x1,x2⟩:=x
  simp only[iS,cK] at h
  intro q hq
  rcases cP.1 hq with rfl | hq
  · cases a<;>simp [aGZ] at h
    exact aR.jT x1
  · exact aU.E2 x2 h.2 q hq
structure mZ (st:aA) (ds:List Nat) (es os:List AV) (bs:List Nat) (s:aA):Prop where
 nd:bs.Nodup
 fresh:∀b∈bs,st b=none
 apart:∀d∈ds,st d=none∧d∉bs∧s d≠none
 own:aU s es os bs
 aV:∀x,x∉bs→x∉ds→s x=st x
theorem mZ.start{st:aA}{ds:List Nat}{s:aA}(h1:∀d∈ds,st d=none∧s d≠none)(h2:∀x,x∉ds→s x=st x):mZ st ds [] [] [] s:=
 ⟨kM,by simp,fun d hd=>⟨(h1 d hd).1,by simp,(h1 d hd).2⟩,⟨rfl,rfl⟩,fun x _ h=>h2 x h⟩
theorem mZ.aC{st:aA}{ds:List Nat}{es os:List AV}{bs:List Nat}{s:aA}(c:mZ st ds es os bs s){d:Nat}(hd:d∈ds)(o:AO):mZ st ds es os bs (s.aC d o):=by
 refine⟨c.nd,c.fresh,fun e he=>⟨(c.apart e he).1,(c.apart e he).2.1,?_⟩,aU.aV _ _ _ (fun b hb=>aA.aF _ _ (fun e=>(c.apart d hd).2.1 (e▸hb))) c.own,fun x h1 h2=>?_⟩
 · by_cases h:e=d
   · subst h;rw[aA.aH];simp
   · rw[aA.aF _ _ h];exact(c.apart e he).2.2
 · have hx:x≠d:=by rintro rfl;exact h2 hd
   rw[aA.aF _ _ hx];exact c.aV x h1 h2
theorem mZ.made{st:aA}{ds:List Nat}{es os:List AV}{bs:List Nat}{s s':aA}{a r:AV}(c:mZ st ds es os bs s)(m:Made s a r s'):(∀d∈ds,s' d=s d)∧∃bs',mZ st ds (es++ [a]) (os++ [r]) bs' s':=by
 obtain⟨b2,m1,m2,m3,m4⟩:=m
 have hb:∀b∈bs,b∉b2:=fun b hb hb'=>by
  obtain⟨cs,e,_⟩:=(aU.eX _ _ _ c.own).2 b hb
  rw[m2 b hb'] at e;cases e
 have hd:∀d∈ds,d∉b2:=fun d hd hd'=>(c.apart d hd).2.2 (m2 d hd')
 have hf:∀b∈b2,st b=none:=fun b h2=>by
  have h1:b∉bs:=fun h=>hb b h h2
  have h3:b∉ds:=fun h=>hd b h h2
  rw[←c.aV b h1 h3];exact m2 b h2
 refine⟨fun d h=>m4 d (hd d h),bs++b2,jN.2 ⟨c.nd,m1,fun x hx y hy e=>hb x hx (e▸hy)⟩,fun b h=>?_,fun d h=>⟨(c.apart d h).1,?_,?_⟩,?_,fun x h1 h2=>?_⟩
 · rcases dQ.1 h with h | h
   · exact c.fresh b h
   · exact hf b h
 · simp only[dQ,jJ];exact⟨(c.apart d h).2.1,hd d h⟩
 · rw[m4 d (hd d h)];exact(c.apart d h).2.2
 · exact aU.snoc c.own (fun b h=>m4 b (hb b h)) m3
 · simp only[dQ,jJ] at h1
   rw[m4 x h1.2,c.aV x h1.1 h2]
theorem mZ.done{st:aA}{ds:List Nat}{es os:List AV}{bs:List Nat}{s:aA}(c:mZ st ds es os bs s){a r:AV}(h:aU s es os bs→aR s a r bs):∃ds,QR st ds a r s:=
 ⟨ds,bs,c.nd,c.fresh,fun d hd=>⟨(c.apart d hd).1,(c.apart d hd).2.1⟩,h c.own,fun b h1 h2=>c.aV b h1 h2⟩
theorem mZ.two{st:aA}{b b2:Nat}{o o2:AO}(hb:st b=none)(hb2:(st.aC b o) b2=none):b2≠b∧mZ st [b,b2] [] [] [] ((st.aC b o).aC b2 o2):=by
 have hne:b2≠b:=by rintro rfl;rw[aA.aH] at hb2;cases hb2
 have hn2:st b2=none:=by rw[aA.aF st _ hne] at hb2;exact hb2
 refine⟨hne,mZ.start (fun d hd=>?_) (fun x hx=>?_)⟩
 · simp only[cP,dI,dN] at hd
   rcases hd with rfl | rfl
   · exact⟨hb,by rw[aA.aF _ _ (dA hne),aA.aH];simp⟩
   · exact⟨hn2,by rw[aA.aH];simp⟩
 · simp only[cP,dI,dN,jJ] at hx
   rw[aA.aF _ _ hx.2,aA.aF _ _ hx.1]
abbrev Fr:=Int×ByteArray
structure Clt where
 rest:List Bt
 brk:Bool
 wait:List Fr
 prog:List Cl
 act:Bool
 ses:Ss
 told:Bool
 out:List Fr
structure Sv where
 cs:List Clt
 dE:Int
def uS(s:Ss):Nat:=uU s.p+qG s.q
end Go.AW
namespace Go.AW
open Go.Proofs.Tryz

abbrev aI5:=zi tI_3 (zi zI_3 (zi aZ (zi tI_22 (zi zI_22 (zi AL (zi HC (zi HF (zi FX (zi tI_23 (zi zI_23 (zi pZ (zi sN (zi sP (zi qM (zi tI_25 (zi zI_25 (zi HN (zi HO (zi HP (zi HQ (zi HR (zi HS GV))))))))))))))))))))))
theorem aO4(s:Ss)(left:Int)(st:aA)(h0:0≤left)(h1:left≤1048576):aD prog 15 [cZ s,.int .i64 left] st (fun r' st'=>r'=.int .i64 (jK left (uS s))∧st'=st):=by
 obtain⟨p,q,i0,i1,i2,i3⟩:=s
 simp only[cZ,uS]
 generalize hp:uU p=np
 generalize hq:qG q=nq
 refine wF [1000000] 2 func15 ntmps15 rfl rfl ?_
 intro _
 simp -implicitDefEqProofs only[aB,seval,aI5]
 have hcp:=fun st=>aO3 p left st h0 h1
 rw[hp] at hcp
 refine(hcp _).to ?_
 simp -implicitDefEqProofs only[aB,seval]
 refine aT (fun h2=>?_) (fun h2=>?_)
 · simp -implicitDefEqProofs only[aB,seval]
   simp only[bL,nL] at h2
   simp only[jK]
   rw[aK (by skip;omega)]
 simp only[cI,nL] at h2
 rw[qH h2]
 simp -implicitDefEqProofs only[aB,seval,aI5]
 have hcq:=fun st=>TK q (left - (np:Int)) st (by omega) (by omega)
 rw[hq] at hcq
 refine(hcq _).to ?_
 simp -implicitDefEqProofs only[aB,seval]
 refine aT (fun h3=>?_) (fun h3=>?_)
 · simp -implicitDefEqProofs only[aB,seval]
   simp only[bL,nL] at h3
   simp only[jK]
   rw[aK (by skip;omega)]
 simp only[cI,nL] at h3
 rw[qH h3]
 simp -implicitDefEqProofs only[aB,seval]
 rw[qH (by omega)]
 congr 1
 omega
abbrev PP:=zi tI_3 (zi zI_3 (zi aZ (zi tI_22 (zi zI_22 (zi AL (zi HC (zi HF (zi FX (zi tI_23 (zi zI_23 (zi pZ (zi sN (zi sP (zi qM (zi tI_25 (zi zI_25 (zi HN (zi HO (zi HP (zi HQ (zi HR (zi HS (zi GV (zi tI_27 (zi zI_27 (zi eT (zi gO (zi gP (zi iD (zi tI_28 (zi zI_28 (zi aQ (zi bM (zi bO (zi cA (zi tI_30 (zi zI_30 (zi lM (zi lN (zi lO (zi lP (zi lQ (zi lR lK)))))))))))))))))))))))))))))))))))))))))))
theorem aHL(s:Ss)(st:aA)(hb:uS s≤1048576):aD prog 17 [cZ s] st (Made st (cZ s)):=by
 obtain⟨p,q,i0,i1,i2,i3⟩:=s
 unfold uS at hb
 simp only at hb
 simp only[cZ]
 refine aD.BG ?_
 refine wF [1000000] 1 func17 ntmps17 rfl rfl ?_
 intro _
 simp -implicitDefEqProofs only[aB,seval,PP]
 intro b hb1 b2 hb2
 obtain⟨hne,C0⟩:=mZ.two hb1 hb2
 refine(aUO p _ (by omega)).mono ?_
 rintro q0 s1 m1
 obtain⟨k1,bs1,C1⟩:=C0.made m1
 have e1:=k1 b (by simp)
 have e2:=k1 b2 (by simp)
 simp only[dP,hne,hne.symm,d3,cM] at e1 e2
 obtain⟨hqc,hqs,hqa,hqw,hqj⟩:=C1.own.E2 rfl q0 (by simp)
 simp -implicitDefEqProofs only[aS,e2,hqc,hqs,aB,seval,PP]
 refine(aHN q _ (by omega)).mono ?_
 rintro q1 s2 m2
 obtain⟨k2,bs2,C2⟩:=(C1.aC (d:=b2) (by simp) _).made m2
 have f1:=k2 b (by simp)
 have f2:=k2 b2 (by simp)
 simp only[dP,hne.symm,d3,cM,e1,e2] at f1 f2
 obtain⟨hrc,hrs,hra,hrw,hrj⟩:=C2.own.E2 rfl q1 (by simp)
 simp -implicitDefEqProofs only[d4,aS,dP,hne.symm,f1,f2,hqs,hrc,hrs,aB,seval,PP]
 refine((C2.aC (d:=b2) (by simp) _).aC (d:=b) (by simp) _).done fun h=>?_
 exact aHY.2 ⟨_,rfl,h⟩
noncomputable def dL(s:Ss)(u:Int):List (List Tm)×Int:=
 ((f7 s.p (fun _ l=>l) s.q 20 u).1,if(f7 s.p (fun _ l=>l) s.q 20 u).2=2∧u<s.dE then -1 else(f7 s.p (fun _ l=>l) s.q 20 u).2)
noncomputable def sS(s:Ss):List (List Tm)×Int:=dL s s.used
def tD(s:Ss):Bool:=nI s.p&&(mA s.q&&(decide (0≤s.dE)&&(decide (s.dE≤300)&&(decide (0≤s.used)&&decide (s.used≤s.dE)))))
def FH(s:Ss):Bool:=decide (s.used=0)&&(decide (s.sent=0)&&decide (s.fin= -1))
noncomputable def eY(s:Ss):Bool:=tD s&&(FH s||(decide (s.sent=((sS s).1.length:Int))&&decide (s.fin=(sS s).2)))
theorem O7{s:Ss}(h:tD s=true):jU s.p s.q 20 s.used=true:=by
 simp only[tD,cK,bL] at h
 obtain⟨h1,h2,h3,h4,h5,h6⟩:=h
 simp only[jU,h1,h2,iL]
 rw[sL h5,sL (show s.used≤300 by omega)]
 decide
abbrev aJN:=zi tI_3 (zi zI_3 (zi aZ (zi tI_27 (zi zI_27 (zi eT (zi gO (zi gP (zi iD (zi tI_28 (zi zI_28 (zi aQ (zi bM (zi bO (zi cA (zi tI_30 (zi zI_30 (zi lM (zi lN (zi lO (zi lP (zi lQ (zi lR (zi lK (zi tI_31 (zi zI_31 (zi fA (zi gY (zi gZ k9))))))))))))))))))))))))))))
theorem ST(s:Ss)(u:Int)(h:jU s.p s.q 20 u=true)(st:aA):aD prog 89 [cZ s,.int .i64 u] st (fun r st'=>r=.tup [.slice ((dL s u).1.map aY),.int .i64 (dL s u).2]∧st'=st):=by
 have hok:=h
 simp only[jU,cK,bL] at h
 obtain⟨kp,kq,_,_,k3,k4⟩:=h
 obtain⟨p1,p2⟩:=OO kp
 obtain⟨q1,q2⟩:=OP kq
 have hr:=aOC p2 p1 q2 q1 (most:=20) (fuel:=u.toNat) (by omega) (by omega)
 rw[show((20:Nat):Int)=20 from rfl,show((u.toNat:Nat):Int)=u by omega] at hr
 have hs:f7 s.p (fun _ l=>l) s.q 20 u=tC s.p (fun _ l=>l) s.q 20 u.toNat:=by
  unfold f7
  rw[aK hok]
  try rfl
 rw[←hs] at hr
 unfold dL
 generalize f7 s.p (fun _ l=>l) s.q 20 u=T at *
 obtain⟨L,e⟩:=T
 simp only at hr ⊢
 obtain⟨p,q,i0,i1,i2,i3⟩:=s
 simp only[cZ] at *
 refine wF [1000000] 2 func89 ntmps89 rfl rfl ?_
 intro _
 simp -implicitDefEqProofs only[aB,seval,aJN]
 refine(hr _).to ?_
 repeat' (first
  | (simp -implicitDefEqProofs only[*,aB,seval,aJN])
  | (refine cT (fun h=>?_) (fun h=>?_))
  | (refine aT (fun h=>?_) (fun h=>?_)))
 all_goals simp_all
theorem aNQ(s:Ss)(h:tD s=true)(st:aA):aD prog 89 [cZ s,.int .i64 s.used] st (fun r st'=>r=.tup [.slice ((sS s).1.map aY),.int .i64 (sS s).2]∧st'=st):=ST s s.used (O7 h) st
abbrev aJL:=zi tI_3 (zi zI_3 (zi aZ (zi tI_4 (zi zI_4 (zi cG (zi tI_27 (zi zI_27 (zi eT (zi gO (zi gP (zi iD (zi tI_28 (zi zI_28 (zi aQ (zi bM (zi bO (zi cA (zi tI_30 (zi zI_30 (zi lM (zi lN (zi lO (zi lP (zi lQ (zi lR (zi lK (zi tI_31 (zi zI_31 (zi fA (zi gY (zi gZ k9)))))))))))))))))))))))))))))))
theorem TH(s:Ss)(st:aA):aD prog 37 [cZ s] st (fun r st'=>r=.bool (eY s)∧st'=st):=by
 have ha:=aNQ s
 unfold eY
 generalize sS s=T at *
 obtain⟨L,e⟩:=T
 obtain⟨p,q,i0,i1,i2,i3⟩:=s
 simp only[cZ,tD,FH] at *
 refine aD.done ?_
 refine wF [1000000] 1 func37 ntmps37 rfl rfl ?_
 intro _
 simp -implicitDefEqProofs only[aB,seval,aJL]
 repeat' (first
  | (simp -implicitDefEqProofs only[*,aE,aB,seval,aJL])
  | (refine cT (fun h=>?_) (fun h=>?_))
  | (refine(aOW p _).to ?_) | (refine(aOX q _).to ?_) | (refine(ha (by simp_all) _).to ?_)
  | (refine aT (fun h=>?_) (fun h=>?_)))
 all_goals (refine⟨?_,aL.refl _⟩;simp only[AV.soft];first | (simp_all;done) | (simp_all;intros;omega))
abbrev aJM:=zi tI_3 (zi zI_3 (zi aZ (zi tI_27 (zi zI_27 (zi eT (zi gO (zi gP (zi iD (zi tI_28 (zi zI_28 (zi aQ (zi bM (zi bO (zi cA (zi tI_30 (zi zI_30 (zi lM (zi lN (zi lO (zi lP (zi lQ (zi lR (zi lK (zi tI_31 (zi zI_31 (zi fA (zi gY (zi gZ k9))))))))))))))))))))))))))))
theorem SH(s:Ss)(u:Int)(st:aA):aD prog 88 [cZ s,.int .i64 u] st (K1 st ((dL s u).1.map aY) (dL s u).2):=by
 have hr:=aNN s.p s.q 20 u
 unfold dL
 generalize f7 s.p (fun _ l=>l) s.q 20 u=T at *
 obtain⟨L,e⟩:=T
 simp only at hr ⊢
 obtain⟨p,q,i0,i1,i2,i3⟩:=s
 simp only[cZ] at *
 refine wF [1000000] 2 func88 ntmps88 rfl rfl ?_
 intro _
 simp -implicitDefEqProofs only[aB,seval,aJM]
 refine(hr _).mono ?_
 intro r s1 h
 obtain⟨o,rfl,hM,hN⟩:=h
 obtain⟨hqc,hqs,hqa,hqw,hqj⟩:=aR.jT hM.choose_spec.2.2.1
 repeat' (first
  | (simp -implicitDefEqProofs only[*,aB,seval,aJM])
  | (refine cT (fun h=>?_) (fun h=>?_))
  | (refine aT (fun h=>?_) (fun h=>?_)))
 all_goals exact⟨o,by simp_all,hM,hN⟩
theorem aNF(s:Ss)(u:Int)(st:aA):aD prog 88 [cZ s,.int .i64 u] st (jO st [.slice ((dL s u).1.map aY),.int .i64 (dL s u).2]):=
 (SH s u st).mono fun _ _ ⟨o,h1,h2,_⟩=>by subst h1;exact jO.OB h2
theorem aNE(s:Ss)(k:Int)(st:aA):aD prog 88 [cZ s,.int .i64 s.used] st (jO st [.slice ((sS s).1.map aY),.int .i64 (sS s).2]):=aNF s s.used st
abbrev aJK:=zi tI_3 (zi zI_3 (zi aZ (zi tI_4 (zi zI_4 (zi cG (zi tI_27 (zi zI_27 (zi eT (zi gO (zi gP (zi iD (zi tI_28 (zi zI_28 (zi aQ (zi bM (zi bO (zi cA (zi tI_30 (zi zI_30 (zi lM (zi lN (zi lO (zi lP (zi lQ (zi lR (zi lK (zi tI_31 (zi zI_31 (zi fA (zi gY (zi gZ (zi k9 (zi tI_300 (zi zI_300 (zi aEW (zi aEX (zi aEZ (zi aE0 (zi aE1 (zi aE2 (zi aE3 (zi aE4 (zi aE5 (zi aE6 (zi aEY R5)))))))))))))))))))))))))))))))))))))))))))))
theorem SN(s:Ss)(st:aA):aD prog 36 [cZ s] st (fun r st'=>r=.bool (eY s)∧st'=st):=by
 have ha:=fun st=>(aNE s 0 st).aG8
 unfold eY
 generalize sS s=T at *
 obtain⟨L,e⟩:=T
 obtain⟨p,q,i0,i1,i2,i3⟩:=s
 simp only[cZ,tD,FH] at *
 refine aD.done ?_
 refine wF [1000000] 1 func36 ntmps36 rfl rfl ?_
 intro _
 simp -implicitDefEqProofs only[aB,seval,aJK]
 repeat' (first
  | (simp -implicitDefEqProofs only[*,aE,aB,seval,aJK])
  | (refine cT (fun h=>?_) (fun h=>?_))
  | (refine(SL p _).to ?_) | (refine(SM q _).to ?_) | (refine(xJ _ _ _ _).to ?_) | (refine(ha _).to ?_)
  | (refine aT (fun h=>?_) (fun h=>?_)))
 all_goals (refine⟨?_,aL.refl _⟩;simp only[AV.soft];first | (simp_all;done) | (simp_all;intros;omega))
end Go.AW
namespace Go.AW
theorem aU2(p:List Cl)(cnd:Tm→List Nat→List Nat)(vars:List Int)(k:Nat):∀(n most f:Nat) (s:RS),most+f≤n →
 ((gL p cnd vars most f s).2≠2→gL p cnd vars most (f+k) s=gL p cnd vars most f s)∧(gL p cnd vars most f s).1 <+: (gL p cnd vars most (f+k) s).1:=by
 intro n
 induction n with
 | zero=>
  intro most f s hn
  obtain rfl:most=0:=by omega
  obtain rfl:f=0:=by omega
  cases hg:s.goals with
  | nil=>rw[rX hg,rX hg];simp
  | cons g rest=>rw[pH (fuel:=0) hg];simp
 | succ n ih=>
  intro most f s hn
  cases hg:s.goals with
  | nil=>
   rw[rX hg,rX hg]
   by_cases hm:most=0
   · rw[aK hm,aK hm];simp
   rw[aG hm,aG hm]
   cases ha:gW s.σ vars with
   | none=>simp
   | some a=>
    simp only
    cases hb:eV p s.chs.length s.chs with
    | none=>simp
    | some s'=>
     obtain⟨h1,h2⟩:=ih (most - 1) f s' (by omega)
     simp only
     refine⟨fun h=>by rw[h1 h],?_⟩
     rw[List.cons_prefix_cons]
     exact⟨rfl,h2⟩
  | cons g rest=>
   by_cases hf:f=0
   · subst hf
     rw[pH (fuel:=0) hg];simp
   rw[pH hg,pH hg,aG hf,aG (by omega)]
   cases hst:gQ p cnd s g rest with
   | stop e=>simp
   | go s'=>
    have:=ih most (f - 1) s' (by omega)
    rw[show f - 1+k=f+k - 1 by omega] at this
    exact this
   | fail=>
    simp only
    cases hb:eV p s.chs.length s.chs with
    | none=>simp
    | some s'=>
     have:=ih most (f - 1) s' (by omega)
     rw[show f - 1+k=f+k - 1 by omega] at this
     exact this
theorem O6{p:List Cl}{cnd:Tm→List Nat→List Nat}{q:List Tm}{most fuel:Int}(h:jU p q most fuel=true):f7 p cnd q most fuel=tC p cnd q most.toNat fuel.toNat:=by
 unfold f7
 rw[aK h]
theorem JI{p:List Cl}{q:List Tm}{most fuel:Int}:jU p q most fuel=true↔(nI p=true∧mA q=true∧0≤most∧most≤20∧0≤fuel∧fuel≤300):=by
 simp only[jU,cK,bL]
theorem aU4{p:List Cl}{cnd:Tm→List Nat→List Nat}{s:RS}{g:RG}{rest:List RG}{e:Int}(h:gQ p cnd s g rest=.stop e):e≠9:=by
 unfold gQ at h
 intro he
 subst he
 repeat' split at h
 all_goals first | (cases h;done) | (injection h with h;unfold nV at h;repeat' split at h;all_goals omega) | (injection h with h;omega)
theorem aU0(p:List Cl)(cnd:Tm→List Nat→List Nat)(vars:List Int):∀(n most f:Nat) (s:RS),most+f≤n→(gL p cnd vars most f s).2≠9∧(gL p cnd vars most f s).1.length≤most:=by
 intro n
 induction n with
 | zero=>
  intro most f s hn
  obtain rfl:most=0:=by omega
  obtain rfl:f=0:=by omega
  cases hg:s.goals with
  | nil=>rw[rX hg];simp
  | cons g rest=>rw[pH (fuel:=0) hg];simp
 | succ n ih=>
  intro most f s hn
  cases hg:s.goals with
  | nil=>
   rw[rX hg]
   by_cases hm:most=0
   · rw[aK hm];simp
   rw[aG hm]
   cases ha:gW s.σ vars with
   | none=>simp
   | some a=>
    simp only
    cases hb:eV p s.chs.length s.chs with
    | none=>simp;omega
    | some s'=>
     obtain⟨h1,h2⟩:=ih (most - 1) f s' (by omega)
     simp only[bA]
     exact⟨h1,by omega⟩
  | cons g rest=>
   by_cases hf:f=0
   · subst hf
     rw[pH (fuel:=0) hg];simp
   rw[pH hg,aG hf]
   cases hst:gQ p cnd s g rest with
   | stop e=>exact⟨aU4 hst,lY _⟩
   | go s'=>exact ih most (f - 1) s' (by omega)
   | fail=>
    simp only
    cases hb:eV p s.chs.length s.chs with
    | none=>simp
    | some s'=>exact ih most (f - 1) s' (by omega)
theorem aV6{p:List Cl}{cnd:Tm→List Nat→List Nat}{q:List Tm}{most fuel:Int}(h:jU p q most fuel=true):((f7 p cnd q most fuel).1.length:Int)≤most:=by
 rw[O6 h]
 have h1:=(aU0 p cnd (bR q []) _ most.toNat fuel.toNat (k8 q) (cQ _)).2
 have h2:=(JI.1 h).2.2.1
 unfold tC
 omega
theorem MX{p:List Cl}{cnd:Tm→List Nat→List Nat}{q:List Tm}{most fuel fuel':Int}(h:jU p q most fuel=true)(hf:fuel≤fuel')(hf':fuel'≤300) :
 ((f7 p cnd q most fuel).2≠2→f7 p cnd q most fuel'=f7 p cnd q most fuel)∧(f7 p cnd q most fuel).1 <+: (f7 p cnd q most fuel').1:=by
 obtain⟨h1,h2,h3,h4,h5,h6⟩:=JI.1 h
 have h':jU p q most fuel'=true:=JI.2 ⟨h1,h2,h3,h4,by omega,by omega⟩
 rw[O6 h,O6 h']
 obtain⟨k,hk⟩:∃k:Nat,fuel'.toNat=fuel.toNat+k:=⟨fuel'.toNat - fuel.toNat,by omega⟩
 rw[hk]
 exact aU2 p cnd (bR q []) k _ most.toNat fuel.toNat (k8 q) (cQ _)
end Go.AW
namespace Go.AW
open Go.Proofs.Tryz
def fC(s:Ss)(n:Int):Int:=if n<s.dE - s.used then s.used+n else s.dE
noncomputable def nA(s:Ss)(n:Int):Ss:={ s with used:=fC s n,sent:=((dL s (fC s n)).1.length:Int),fin:=(dL s (fC s n)).2 }
noncomputable def uK(s:Ss)(n:Int):List (List Tm):=(dL s (fC s n)).1.drop s.sent.toNat
noncomputable def kF(s:Ss)(n:Int):Bool:=eY s&&(decide (0≤n)&&decide (s.fin= -1))
noncomputable def cC(s:Ss)(n:Int):Ss×List (List Tm):=if kF s n=true then(nA s n,uK s n) else(s,[])
structure SlF (s:Ss) (n:Int):Prop where
 rng:tD s=true
 ok:jU s.p s.q 20 (fC s n)=true
 u0:0≤s.used
 u1:s.used≤fC s n
 u2:fC s n≤s.dE
 q1:s.dE≤300
 s0:0≤s.sent
 s1:s.sent≤((dL s (fC s n)).1.length:Int)
 l:(dL s (fC s n)).1.length≤20
 nxt:eY (nA s n)=true
theorem FI{s:Ss}:tD s=true↔nI s.p=true∧mA s.q=true∧0≤s.dE∧s.dE≤300∧0≤s.used∧s.used≤s.dE:=by
 simp only[tD,cK,bL]
theorem yN{s:Ss}{n:Int}(h:eY s=true)(hn:0≤n):SlF s n:=by
 have h':=h
 simp only[eY,cK] at h'
 obtain⟨hr,hs⟩:=h'
 obtain⟨kp,kq,k1,k2,k3,k4⟩:=FI.1 hr
 have hu1:s.used≤fC s n:=by unfold fC;split<;>omega
 have hu2:fC s n≤s.dE:=by unfold fC;split<;>omega
 have aSK:jU s.p s.q 20 s.used=true:=O7 hr
 have hok:jU s.p s.q 20 (fC s n)=true:=JI.2 ⟨kp,kq,by omega,by omega,by omega,by omega⟩
 have hl:=aV6 (cnd:=fun _ l=>l) hok
 have II:=(MX (cnd:=fun _ l=>l) aSK hu1 (by omega)).2.length_le
 have aGJ:0≤s.sent∧s.sent≤((dL s (fC s n)).1.length:Int):=by
  simp only[oJ,FH,cK,bL] at hs
  rcases hs with ⟨_,h2,_⟩ | ⟨h1,_⟩
  · omega
  · simp only[sS,dL] at h1 ⊢
    omega
 refine⟨hr,hok,k3,hu1,hu2,k2,aGJ.1,aGJ.2,by simp only[dL];omega,?_⟩
 simp only[eY,cK]
 refine⟨FI.2 ⟨kp,kq,k1,k2,?_,hu2⟩,?_⟩
 · show 0≤fC s n
   omega
 · rw[oJ]
   exact .inr (by rw[cK];exact⟨sL rfl,sL rfl⟩)
theorem aK9{P:Program}{t:TypeId}{ag:Bool}{w:Nat}{φ:AF}{y:Operand}{L:List AV}{n:Nat}(hI:eI P t=some (ag,w))(hn:n≤L.length)(hw:∀e∈L,e.width=w)(h:φ.eval y=.int .i64 (n:Int)):fS P φ t (.slice L) (some y) none none=some (.slice (L.drop n)):=by
 have h1:c8 φ none L.length L.length=some L.length:=rfl
 have h3:c8 φ (some y) 0 L.length=some n:=by
  simp only[c8,h]
  rw[aK ⟨by omega,by omega⟩]
  rw[jM]
 have hwd:tJ L n w=true:=by
  unfold tJ
  split
  · rename_i e he
    simp [hw e (cL he)]
  · rfl
 unfold fS m8
 rw[aG (by simp [pD])]
 simp only[hI,h1,h3,hwd]
 simp
theorem pT(l:List (List Tm)):∀e∈l.map aY,e.width=1:=by intro e h;simp only[cE] at h;obtain⟨t,_,rfl⟩:=h;rfl
theorem LN(l:List (List Tm)):∀e∈l.map aY,e.b9=false:=by intro e h;simp only[cE] at h;obtain⟨t,_,rfl⟩:=h;rfl
abbrev wO:=zi tI_3 (zi zI_3 (zi aZ (zi tI_30 (zi zI_30 (zi lM (zi lN (zi lO (zi lP (zi lQ (zi lR (zi lK (zi tI_31 (zi zI_31 (zi fA (zi gY (zi gZ k9))))))))))))))))
set_option maxHeartbeats 2000000 in
theorem SV(s:Ss)(n:Int)(h:eY s=true)(hn:0≤n)(st:aA):aD prog 65 [cZ s,.int .i64 n] st (fun r st'=>r=.tup [cZ (nA s n),.slice ((uK s n).map aY)]∧st'=st):=by
 have hF:=yN h hn
 obtain⟨kp,kq,k1,k2,k3,k4⟩:=FI.1 hF.rng
 obtain⟨p1,p2⟩:=aH1 kp
 obtain⟨q1,q2⟩:=aH2 kq
 have hcp:=SU s (by omega) p2 (by omega) q2
 have ha:=ST s (fC s n) hF.ok
 have hs0:=hF.s0
 have hs1:=hF.s1
 have hfl:=hF.l
 have hu0:=hF.u0
 have hu1:=hF.u1
 have hu2:=hF.u2
 have hq1:=hF.q1
 unfold nA uK
 generalize dL s (fC s n)=T at *
 obtain⟨L,e⟩:=T
 simp only at ha hs1 hfl ⊢
 have hnu:fC s n=if n<s.dE - s.used then s.used+n else s.dE:=rfl
 generalize fC s n=u at *
 obtain⟨p,q,i0,i1,i2,i3⟩:=s
 simp only[cZ] at *
 obtain⟨k,rfl⟩:=zA hs0
 refine aD.done ?_
 refine wF [1000000,6] 2 func65 ntmps65 rfl rfl ?_
 intro _
 simp -implicitDefEqProofs only[aB,seval,wO]
 intro b4 h4
 refine(hcp _).to ?_
 simp -implicitDefEqProofs only[aS,aB,↓aX,seval,wO]
 intro b6 h6
 have h64:b6≠b4:=by rintro rfl;rw[aA.aH] at h6;cases h6
 have h6':st b6=none:=by rwa [aA.aF _ _ h64] at h6
 have hw0:=bK (n:=i0 - i1)
 have hsl:=fun(φ:AF) (y:Operand) (h:φ.eval y=.int .i64 (k:Int))=>aK9 (P:=prog) (t:=31) (L:=L.map aY) fA (by rw[aE];omega) (pT L) h
 simp -implicitDefEqProofs only[hw0,seval]
 refine aT (fun h1=>?_) (fun h1=>?_)
 · have h1':n<i0 - i1:=by simpa using h1
   rw[aK h1'] at hnu
   have hw1:=bK (n:=i1+n)
   rw[←hnu] at hw1
   simp -implicitDefEqProofs only[aS,hw1,←hnu,d4,aB,seval,wO]
   refine(ha _).to ?_
   simp -implicitDefEqProofs only[aE,aS,d4,aB,seval,wO]
   have eC:∀(o:AO),((st.aC b4 (.cells [.fslice [],.fslice [],.int .i64 0,.int .i64 0,.int .i64 0,.int .i64 0])).aC b6 o) b6=some o:=fun o=>aA.aH _ _ _
   refine tK [(0,1),(1,1),(2,1),(3,1),(4,1),(5,0),(6,1)] [0,1,2,3,4,6] (cY.aC b6 (.cells [.slice (p.map bD),.slice (q.map Tm.av),.int .i64 i0,.int .i64 (u),.int .i64 (L.length:Int),.int .i64 e])) mixed (by decide +kernel) (by decide +kernel) (by decide +kernel) rfl (f9 (eC _)) ?_
   simp -implicitDefEqProofs only[aS,h64.symm,hsl,aB,seval,wO]
   exact⟨f9 (by rw[aA.aF _ _ h64,aA.aH]),by simp only[mU,nK,oF,tB,bH,bG,jM,CI],(((aL.refl _).aC h4).aC h6').aC h4⟩
 · have h1':¬n<i0 - i1:=by simpa using h1
   rw[aG h1'] at hnu
   obtain rfl:i0=u:=hnu.symm
   simp -implicitDefEqProofs only[aB,seval,wO]
   refine(ha _).to ?_
   simp -implicitDefEqProofs only[aE,aS,d4,aB,seval,wO]
   have eC:∀(o:AO),((st.aC b4 (.cells [.fslice [],.fslice [],.int .i64 0,.int .i64 0,.int .i64 0,.int .i64 0])).aC b6 o) b6=some o:=fun o=>aA.aH _ _ _
   refine tK [(0,1),(1,1),(2,1),(3,1),(4,1),(5,0),(6,1)] [0,1,2,3,4,6] (cY.aC b6 (.cells [.slice (p.map bD),.slice (q.map Tm.av),.int .i64 i0,.int .i64 (i0),.int .i64 (L.length:Int),.int .i64 e])) mixed (by decide +kernel) (by decide +kernel) (by decide +kernel) rfl (f9 (eC _)) ?_
   simp -implicitDefEqProofs only[aS,h64.symm,hsl,aB,seval,wO]
   exact⟨f9 (by rw[aA.aF _ _ h64,aA.aH]),by simp only[mU,nK,oF,tB,bH,bG,jM,CI],(((aL.refl _).aC h4).aC h6').aC h4⟩
theorem oQ{s:Ss}{n:Int}:kF s n=true↔eY s=true∧0≤n∧s.fin= -1:=by
 simp only[kF,cK,bL]
abbrev tF:=zi tI_3 (zi zI_3 (zi aZ (zi tI_4 (zi zI_4 (zi cG (zi tI_30 (zi zI_30 (zi lM (zi lN (zi lO (zi lP (zi lQ (zi lR (zi lK (zi tI_31 (zi zI_31 (zi fA (zi gY (zi gZ k9)))))))))))))))))))
set_option maxHeartbeats 1000000 in
theorem aOY(s:Ss)(n:Int)(hp:s.p.length≤1048576)(hps:∀c∈s.p,TT c)(hq:s.q.length≤1048576)(hqs:∀t∈s.q,t.small=true)(st:aA):aD prog 16 [cZ s,.int .i64 n] st (fun r st'=>r=.tup [cZ (cC s n).1,.slice ((cC s n).2.map aY)]∧st'=st):=by
 have hv:=TH s
 have hcp:=SU s hp hps hq hqs
 have hsl:=fun h hn=>SV s n h hn
 have nF:kF s n=false→cC s n=(s,[]):=fun h=>by unfold cC;rw[h];try rfl
 have NM:kF s n=true→cC s n=(nA s n,uK s n):=fun h=>by unfold cC;rw[h];try rfl
 have A6:eY s=true→0≤n→s.fin= -1→kF s n=true:=fun a b c=>oQ.2 ⟨a,b,c⟩
 have xW:kF s n=true→eY s=true∧0≤n∧s.fin= -1:=oQ.1
 generalize nA s n=A at *
 generalize uK s n=M at *
 generalize cC s n=R at *
 generalize kF s n=cs at *
 generalize eY s=ok at *
 have hE:∀(o:AO) (b4:Nat),st b4=none→aL (st.aC b4 o) st:=fun o b4 h=>(aL.refl _).aC h
 obtain⟨p,q,i0,i1,i2,i3⟩:=s
 obtain⟨ap,aq,a0,a1,a2,a3⟩:=A
 simp only[cZ] at *
 refine aD.done ?_
 refine wF [1000000] 2 func16 ntmps16 rfl rfl ?_
 intro _
 simp -implicitDefEqProofs only[aB,seval,tF]
 intro b4 h4
 refine(hv _).to ?_
 simp -implicitDefEqProofs only[aB,seval]
 cases ok with
 | false=>
  have:R=(⟨p,q,i0,i1,i2,i3⟩,[]):=nF (by cases cs with | false=>rfl | true=>exact absurd (xW rfl).1 (by decide))
  subst this
  simp -implicitDefEqProofs only[aB,seval,tF]
  refine(hcp _).to ?_
  simp -implicitDefEqProofs only[aS,aB,seval,tF]
  exact⟨by simp only[mU,nK,oF,tB,wJ,bH,bG],(aL.refl _).aC h4⟩
 | true=>
  simp -implicitDefEqProofs only[aB,seval]
  by_cases hn:0≤n
  case neg=>
   have:R=(⟨p,q,i0,i1,i2,i3⟩,[]):=nF (by cases cs with | false=>rfl | true=>exact absurd (xW rfl).2.1 hn)
   subst this
   have hn':(n<0)=True:=p6 (by omega)
   simp -implicitDefEqProofs only[hn',dU,aB,seval,tF]
   refine(hcp _).to ?_
   simp -implicitDefEqProofs only[aS,aB,seval,tF]
   exact⟨by simp only[mU,nK,oF,tB,wJ,bH,bG],(aL.refl _).aC h4⟩
  have hn':(n<0)=False:=p5 (by omega)
  simp -implicitDefEqProofs only[hn',eK,aB,seval,tF]
  by_cases h3:i3= -1
  case neg=>
   have:R=(⟨p,q,i0,i1,i2,i3⟩,[]):=nF (by cases cs with | false=>rfl | true=>exact absurd (xW rfl).2.2 h3)
   subst this
   have h3':=p5 h3
   simp -implicitDefEqProofs only[h3',eK,aB,seval,tF]
   refine(hcp _).to ?_
   simp -implicitDefEqProofs only[aS,aB,seval,tF]
   exact⟨by simp only[mU,nK,oF,tB,wJ,bH,bG],(aL.refl _).aC h4⟩
  have:R=(⟨ap,aq,a0,a1,a2,a3⟩,M):=NM (A6 rfl hn h3)
  subst this
  have h3':=p6 h3
  simp -implicitDefEqProofs only[h3',dU,aB,seval,tF]
  refine(hsl rfl hn _).to ?_
  simp -implicitDefEqProofs only[aS,aB,seval,tF]
  exact⟨by simp only[mU,nK,oF,tB,bH,bG],(aL.refl _).aC h4⟩
end Go.AW
namespace Go.AW
def dO(s:Ss):List AV:=[.slice (s.p.map bD),.slice (s.q.map Tm.av),.int .i64 s.dE,.int .i64 s.used,.int .i64 s.sent,.int .i64 s.fin]
theorem aU5{p:List Cl}{cnd:Tm→List Nat→List Nat}{s:RS}{g:RG}{rest:List RG}{e:Int}(h:gQ p cnd s g rest=.stop e):0≤e:=by
 unfold gQ at h
 repeat' split at h
 all_goals first | (cases h;done) | (injection h with h;subst h;unfold nV;repeat' split;all_goals omega) | (injection h with h;omega)
theorem aU1(p:List Cl)(cnd:Tm→List Nat→List Nat)(vars:List Int):∀(n most f:Nat) (s:RS),most+f≤n→0≤(gL p cnd vars most f s).2:=by
 intro n
 induction n with
 | zero=>
  intro most f s hn
  obtain rfl:most=0:=by omega
  obtain rfl:f=0:=by omega
  cases hg:s.goals with
  | nil=>rw[rX hg];simp
  | cons g rest=>rw[pH (fuel:=0) hg];simp
 | succ n ih=>
  intro most f s hn
  cases hg:s.goals with
  | nil=>
   rw[rX hg]
   by_cases hm:most=0
   · rw[aK hm];simp
   rw[aG hm]
   cases ha:gW s.σ vars with
   | none=>simp
   | some a=>
    simp only
    cases hb:eV p s.chs.length s.chs with
    | none=>simp
    | some s'=>exact ih (most - 1) f s' (by omega)
  | cons g rest=>
   by_cases hf:f=0
   · subst hf
     rw[pH (fuel:=0) hg];simp
   rw[pH hg,aG hf]
   cases hst:gQ p cnd s g rest with
   | stop e=>exact aU5 hst
   | go s'=>exact ih most (f - 1) s' (by omega)
   | fail=>
    simp only
    cases hb:eV p s.chs.length s.chs with
    | none=>simp
    | some s'=>exact ih most (f - 1) s' (by omega)
theorem JJ{p:List Cl}{cnd:Tm→List Nat→List Nat}{q:List Tm}{most fuel:Int}:0≤(f7 p cnd q most fuel).2:=by
 unfold f7
 split
 · exact aU1 p cnd _ _ _ _ _ (cQ _)
 · simp
theorem aQR{s:Ss}{u v:Int}(hok:jU s.p s.q 20 u=true)(huv:u≤v)(hv:v≤s.dE)(hq:s.dE≤300)(h:(dL s u).2≠-1):dL s v=dL s u:=by
 have hf:=(MX (cnd:=fun _ l=>l) hok huv (by omega)).1
 by_cases h2:(f7 s.p (fun _ l=>l) s.q 20 u).2=2
 · have hu:¬u<s.dE:=fun hu=>by
    unfold dL at h
    rw[aK ⟨h2,hu⟩] at h
    exact h rfl
   obtain rfl:v=u:=by omega
   rfl
 · have he:=hf h2
   unfold dL
   rw[he,aG (fun h=>h2 h.1),aG (fun h=>h2 h.1)]
theorem aQS{s:Ss}{u v:Int}(hok:jU s.p s.q 20 u=true)(huv:u≤v)(hv:v≤300):(dL s u).1 <+: (dL s v).1:=(MX (cnd:=fun _ l=>l) hok huv hv).2
theorem aXW{s:Ss}(h:eY s=true)(hf:s.fin≠-1):(f7 s.p (fun _ l=>l) s.q 20 s.dE).2=s.fin∧s.sent=((f7 s.p (fun _ l=>l) s.q 20 s.dE).1.length:Int):=by
 simp only[eY,cK] at h
 obtain⟨hr,hs⟩:=h
 obtain⟨kp,kq,k1,k2,k3,k4⟩:=FI.1 hr
 simp only[oJ,FH,cK,bL] at hs
 rcases hs with ⟨_,_,h3⟩ | ⟨h1,h2⟩
 · exact absurd h3 hf
 have he:(dL s s.used).2≠-1:=by rw[show dL s s.used=sS s from rfl,←h2];exact hf
 have:=aQR (O7 hr) k4 (Int.le_refl _) k2 he
 have hq:dL s s.dE=((f7 s.p (fun _ l=>l) s.q 20 s.dE).1,(f7 s.p (fun _ l=>l) s.q 20 s.dE).2):=by
  unfold dL
  rw[aG (by omega)]
 rw[hq] at this
 have e1:=rF Prod.fst this
 have e2:=rF Prod.snd this
 simp only at e1 e2
 rw[e1,e2]
 exact⟨h2.symm,h1⟩
theorem O3{s:Ss}{n:Int}(h:kF s n=false):cC s n=(s,[]):=by unfold cC;rw[h];try rfl
theorem FD{s:Ss}{n:Int}(h:kF s n=true):cC s n=(nA s n,uK s n):=by unfold cC;rw[h];try rfl
noncomputable def drain:List Int→Ss→List (List Tm)→List (List Tm)×Int
 | [],s,acc=>if s.fin= -1 then(acc++(cC s 300).2,(cC s 300).1.fin) else(acc,s.fin)
 | n::sl,s,acc=>if s.fin= -1 then drain sl (cC s n).1 (acc++(cC s n).2) else(acc,s.fin)
theorem yI(s:Ss)(n:Int):(cC s n).1.p=s.p∧(cC s n).1.q=s.q∧(cC s n).1.dE=s.dE:=by
 unfold cC
 split<;>exact⟨rfl,rfl,rfl⟩
theorem wI{s:Ss}{n:Int}(h:eY s=true):eY (cC s n).1=true:=by
 by_cases hc:kF s n=true
 · rw[FD hc]
   exact(yN h (oQ.1 hc).2.1).nxt
 · rw[O3 (by simpa using hc)]
   exact h
theorem A1(s:Ss):dL s s.dE=f7 s.p (fun _ l=>l) s.q 20 s.dE:=by
 unfold dL
 rw[aG (by omega)]
theorem aVV{s:Ss}{n:Int}(h:eY s=true):(cC s n).2++(dL s s.dE).1.drop (cC s n).1.sent.toNat=(dL s s.dE).1.drop s.sent.toNat:=by
 by_cases hc:kF s n=true
 · rw[FD hc]
   have hF:=yN h (oQ.1 hc).2.1
   have h0:=hF.s0
   have h1:=hF.s1
   obtain⟨M,hM⟩:=aQS hF.ok hF.u2 hF.q1
   show(dL s (fC s n)).1.drop s.sent.toNat++(dL s s.dE).1.drop ((dL s (fC s n)).1.length:Int).toNat=_
   rw[←hM,jM,zD,QO (by omega)]
 · rw[O3 (by simpa using hc)]
   try rfl
theorem HG{s:Ss}(h:eY s=true)(hf:s.fin≠-1):(dL s s.dE).1.drop s.sent.toNat= []∧(dL s s.dE).2=s.fin:=by
 obtain⟨h1,h2⟩:=aXW h hf
 rw[A1]
 exact⟨F8 (by omega),h1⟩
theorem BE{s:Ss}(h:eY s=true)(hf:s.fin= -1):(cC s 300).1.fin=(dL s s.dE).2∧(cC s 300).2=(dL s s.dE).1.drop s.sent.toNat:=by
 have hc:kF s 300=true:=oQ.2 ⟨h,by omega,hf⟩
 have hF:=yN (n:=300) h (by omega)
 have hu:fC s 300=s.dE:=by
  have:=hF.u0
  have:=hF.q1
  unfold fC
  rw[aG (by omega)]
 rw[FD hc]
 show(dL s (fC s 300)).2=_∧(dL s (fC s 300)).1.drop s.sent.toNat=_
 rw[hu]
 exact⟨rfl,rfl⟩
theorem TZ:∀(sl:List Int) (s:Ss) (acc:List (List Tm)),eY s=true→drain sl s acc=(acc++(dL s s.dE).1.drop s.sent.toNat,(dL s s.dE).2)
 | [],s,acc,h=>by
  unfold drain
  by_cases hf:s.fin= -1
  · rw[aK hf,(BE h hf).1,(BE h hf).2]
  · rw[aG hf,(HG h hf).1,(HG h hf).2,fM]
 | n::sl,s,acc,h=>by
  unfold drain
  by_cases hf:s.fin= -1
  · obtain⟨k1,k2,k3⟩:=yI s n
    have hq:dL (cC s n).1 (cC s n).1.dE=dL s s.dE:=by
     unfold dL
     rw[k1,k2,k3]
    rw[aK hf,TZ sl _ _ (wI h),hq,lA,aVV h]
  · rw[aG hf,(HG h hf).1,(HG h hf).2,fM]
section
variable {h:bB} {st:aA}
end
def GD(n k:Nat)(q o:AV):Prop:=(k≤n∧∃b w,q=.mslice b 0 n w∧o=.mslice b (k*w) (n - k) w)∨(k=n∧o=.fslice [])
def gI(st s0:aA)(os us:List AV):Prop:=∀h vs,cJ h st→cO h st os vs→cO h s0 us vs
theorem gI.nil{st s0:aA}:gI st s0 [] []:=fun _ _ _ y=>y
theorem gI.cons{st s0:aA}{o a:AV}{os us:List AV}(x:∀h v,cJ h st→aO h st o v→aO h s0 a v)(h:gI st s0 os us):gI st s0 (o::os) (a::us):=fun hp vs S y=>by
 simp only[cO] at y ⊢
 obtain⟨v,r,rfl,y1,y2⟩:=y
 exact⟨v,r,rfl,x hp v S y1,h hp r S y2⟩
theorem gI.same{st:aA}{x:AV}{os us:List AV}(h:gI st cY os us):gI st cY (x::os) (x::us):=
 gI.cons (fun hp v S y=>y.mono ((aL.cY st).step hp)) h
theorem gI.own{st:aA}{a o:AV}{bs:List Nat}{os us:List AV}(hO:aR st a o bs)(h:gI st cY os us):gI st cY (o::os) (a::us):=
 gI.cons (fun hp v S y=>hO.KO S (aL.cY st) (fun _ _=>rfl) y) h
theorem PB{n k:Nat}{q o:AV}(h:GD n k q o):o.isAgg=false∧o.b9=false∧o.width=1∧o.cells= [o]∧o.storable=true:=by
 rcases h with ⟨_,b,w,_,rfl⟩ | ⟨_,rfl⟩<;>exact⟨rfl,rfl,rfl,rfl,rfl⟩
theorem aD.BY{P:Program}{g:FuncId}{args args':List AV}{st:aA}{r:AV}(x:∀s,aD P g args s (fun r' s'=>r'=r∧s'=s))(hv:gI st cY args' args)(hs:r.eX=true):aD P g args' st (fun r' s'=>r'=r∧s'=st):=
 aD.MW hs (x cY) hv

end Go.AW
namespace Go.AW
open Go.Proofs.Tryz
theorem Made.OC{st S:aA}{a r:AV}{bs:List Nat}(hnd:bs.Nodup)(iN:∀b∈bs,st b=none)(hO:aR S a r bs)(hk:∀x o,st x=some o→S x=some o):∃s2,aL S s2∧Made st a r s2:=by
 refine⟨fun x=>if x∈bs then S x else st x,fun x=>?_,bs,hnd,iN,aR.aV _ _ _ (fun b hb=>aK hb) hO,fun b hb=>aG hb⟩
 dsimp only
 by_cases hx:x∈bs
 · rw[aK hx]
   exact⟨fun h=>h,fun o h=>h⟩
 · rw[aG hx]
   refine⟨fun h=>?_,fun o h=>hk x o h⟩
   cases hs:st x with
   | none=>rfl
   | some o=>rw[hk x o hs] at h;cases h
def zG(st:aA)(L:List AV)(k:Nat)(o:AV)(st':aA):Prop:=∃q,Made st (.slice L) q st'∧GD L.length k q o
def FS(b n k:Nat):AV:=if k<n then .mslice b (k*1) (n - k) 1 else .eslice
theorem aLI{P:Program}{t:TypeId}{ag:Bool}{φ:AF}{y:Operand}{b n k:Nat}(hI:eI P t=some (ag,1))(hk:k≤n)(hn:0<n)(h:φ.eval y=.int .i64 (k:Int)):fS P φ t (.mslice b 0 n 1) (some y) none none=some (FS b n k):=by
 have h1:c8 φ none n n=some n:=rfl
 have h3:c8 φ (some y) 0 n=some k:=by
  simp only[c8,h]
  rw[aK ⟨by omega,by omega⟩]
  rw[jM]
 unfold fS m8
 rw[aG (by simp [pD])]
 simp only[hI,h1,h3]
 rw[aK trivial]
 unfold FS
 by_cases h0:k=0
 · subst h0
   rw[aK rfl,aK hn]
   simp
 · rw[aG h0]
   by_cases hlt:k<n
   · rw[aK hlt,aK hlt,gN]
   · rw[aG hlt,aG hlt]
theorem aLH{P:Program}{t:TypeId}{ag:Bool}{w:Nat}{φ:AF}{y:Operand}(hI:eI P t=some (ag,w))(h:φ.eval y=.int .i64 0):fS P φ t (.fslice []) (some y) none none=some (.fslice []):=by
 have h1:c8 φ none 0 0=some 0:=rfl
 have h3:c8 φ (some y) 0 0=some 0:=by
  simp only[c8,h]
  rw[aK ⟨by omega,by omega⟩]
  try rfl
 unfold fS
 rw[aK ⟨rfl,rfl⟩]
 simp only[hI,h1,h3]
theorem aP0{P:Program}{t:TypeId}:jQ P t .eslice=match P.underlying t with | some (.slice _)=>some (.int .i64 ((0:Nat):Int)) | _=>none:=rfl
abbrev PX:=zi tI_31 (zi zI_31 (zi fA (zi gY (zi gZ k9))))
theorem aLE{P:Program}{t:TypeId}{ag:Bool}{φ:AF}{y z:Operand}{b n off:Nat}(hI:eI P t=some (ag,1))(h:φ.eval y=.int .i64 (n:Int))(h':φ.eval z=.int .i64 (n:Int)):fS P φ t (.mslice b off n 1) none (some y) (some z)=some (.mslice b off n 1):=by
 have h3:∀y,φ.eval y=.int .i64 (n:Int)→c8 φ (some y) n n=some n:=fun y h=>by
  simp only[c8,h]
  rw[aK ⟨by omega,by omega⟩]
  rw[jM]
 unfold fS m8
 rw[aG (by simp [pD])]
 simp only[hI,h3 y h,h3 z h']
 rw[aK trivial]
theorem aLF{P:Program}{t:TypeId}{ag:Bool}{w:Nat}{φ:AF}{y z:Operand}(hI:eI P t=some (ag,w))(h:φ.eval y=.int .i64 0)(h':φ.eval z=.int .i64 0):fS P φ t .eslice none (some y) (some z)=some (.fslice []):=by
 have h3:∀y,φ.eval y=.int .i64 0→c8 φ (some y) 0 0=some 0:=fun y h=>by
  simp only[c8,h]
  rw[aK ⟨by omega,by omega⟩]
  try rfl
 unfold fS m8
 rw[aG (by simp [pD])]
 simp only[hI,h3 y h,h3 z h']
theorem aLG{P:Program}{t:TypeId}{ag:Bool}{w:Nat}{φ:AF}{y z:Operand}(hI:eI P t=some (ag,w))(h:φ.eval y=.int .i64 0)(h':φ.eval z=.int .i64 0):fS P φ t (.fslice []) none (some y) (some z)=some (.fslice []):=by
 have h3:∀y,φ.eval y=.int .i64 0→c8 φ (some y) 0 0=some 0:=fun y h=>by
  simp only[c8,h]
  rw[aK ⟨by omega,by omega⟩]
  try rfl
 have h4:c8 φ none 0 0=some 0:=rfl
 unfold fS m8
 rw[aG (by simp [pD])]
 simp only[hI,bS,h3 y h,h3 z h',h4]
 simp [tJ]
theorem aM2(b off n:Nat)(st:aA):aD prog 113 [.mslice b off n 1] st (fun r st'=>r=.mslice b off n 1∧st'=st):=by
 refine wF [1000000] 1 func113 ntmps113 rfl rfl ?_
 intro _
 have hcl:=fun(φ:AF) (y z:Operand) (h:φ.eval y=.int .i64 (n:Int)) (h':φ.eval z=.int .i64 (n:Int))=>aLE (P:=prog) (t:=31) (b:=b) (off:=off) fA h h'
 simp -implicitDefEqProofs only[hcl,aB,seval,PX]
theorem aM0(st:aA):aD prog 113 [.eslice] st (fun r st'=>r=.fslice []∧st'=st):=by
 refine wF [1000000] 1 func113 ntmps113 rfl rfl ?_
 intro _
 have hcl:=fun(φ:AF) (y z:Operand) (h:φ.eval y=.int .i64 0) (h':φ.eval z=.int .i64 0)=>aLF (P:=prog) (t:=31) fA h h'
 simp -implicitDefEqProofs only[hcl,aP0,aB,↓aX,seval,PX]
theorem aM1(st:aA):aD prog 113 [.fslice []] st (fun r st'=>r=.fslice []∧st'=st):=by
 refine wF [1000000] 1 func113 ntmps113 rfl rfl ?_
 intro _
 have hcl:=fun(φ:AF) (y z:Operand) (h:φ.eval y=.int .i64 0) (h':φ.eval z=.int .i64 0)=>aLG (P:=prog) (t:=31) fA h h'
 simp -implicitDefEqProofs only[hcl,bS,aB,seval,PX]
abbrev JV:=zi tI_27 (zi zI_27 (zi eT (zi gO (zi gP (zi iD (zi tI_28 (zi zI_28 (zi aQ (zi bM (zi bO (zi cA (zi tI_30 (zi zI_30 (zi lM (zi lN (zi lO (zi lP (zi lQ (zi lR lK)))))))))))))))))))
theorem aHJ(s:Ss)(hp:s.p.length≤1048576)(hps:∀c∈s.p,AG c)(hq:s.q.length≤1048576)(hqx:∀t∈s.q,t.small=true)(st:aA):aD prog 66 [cZ s] st (Made st (cZ s)):=by
 obtain⟨p,q,i0,i1,i2,i3⟩:=s
 simp only at hp hps hq hqx
 simp only[cZ]
 refine aD.BG ?_
 refine wF [1000000,1] 1 func66 ntmps66 rfl rfl ?_
 intro _
 simp -implicitDefEqProofs only[aB,seval,JV]
 intro b hb1 b2 hb2
 obtain⟨hne,C0⟩:=mZ.two hb1 hb2
 refine tK [(0,1),(1,1),(3,1),(4,1),(2,0),(6,1),(5,0),(7,2),(8,2),(9,2)] [0,1,3,4,6] (cY.aC b (.cells [.slice (p.map bD),.slice (q.map Tm.av),.int .i64 i0,.int .i64 i1,.int .i64 i2,.int .i64 i3])) mixed (by decide +kernel) (by decide +kernel) (by decide +kernel) rfl (f9 (by rw[aA.aF _ _ hne.symm,aA.aH])) ?_
 simp -implicitDefEqProofs only[dP,aB,seval,JV]
 refine(aUL p _ hp fun x hx s=>aUK x s (hps x hx)).mono ?_
 rintro q0 s1 m1
 obtain⟨k1,bs1,C1⟩:=C0.made m1
 have e1:=k1 b (by simp)
 have e2:=k1 b2 (by simp)
 simp only[dP,hne,hne.symm,d3,cM] at e1 e2
 obtain⟨hqc,hqs,hqa,hqw,hqj⟩:=C1.own.E2 rfl q0 (by simp)
 simp -implicitDefEqProofs only[aB,seval,JV]
 refine⟨f9 e1,?_⟩
 refine(IZ q _ hq fun x hx s=>EZ x s (hqx x hx)).mono ?_
 rintro q1 s2 m2
 obtain⟨k2,bs2,C2⟩:=C1.made m2
 have f1:=k2 b (by simp)
 have f2:=k2 b2 (by simp)
 rw[e1] at f1
 rw[e2] at f2
 obtain⟨hrc,hrs,hra,hrw,hrj⟩:=C2.own.E2 rfl q1 (by simp)
 simp -implicitDefEqProofs only[aS,dP,hne,f1,f2,hqc,hqs,hrc,hrs,d4,aB,seval,JV]
 refine⟨f9 f1,?_⟩
 refine((C2.aC (d:=b) (by simp) _).aC (d:=b2) (by simp) _).done fun h=>?_
 exact aHY.2 ⟨_,rfl,h⟩
theorem aWH{st:aA}{L:List (List Tm)}{o:AV}{bs:List Nat}{k:Nat}(hO:aR st (.slice (L.map aY)) o bs)(hN:L.map aY= []→o=.fslice [])(hk:k≤L.length) :
 ∃o1 o2,(∀(φ:AF) (y:Operand),φ.eval y=.int .i64 (k:Int)→fS prog φ 31 o (some y) none none=some o1)∧jQ prog 31 o=some (.int .i64 (L.length:Int)) ∧
  (∀s,aD prog 113 [o1] s (fun r s'=>r=o2∧s'=s))∧GD (L.map aY).length k o o2∧(o1.isAgg=false∧o1.b9=false∧o1.width=1∧o1.cells= [o1]):=by
 have hun:prog.underlying 31=some (.slice 55):=by kernel_rfl
 by_cases hL:L= []
 · subst hL
   obtain rfl:=hN rfl
   obtain rfl:k=0:=by simpa using hk
   exact⟨.fslice [],.fslice [],fun φ y h=>aLH fA h,by simp only[jQ,hun];rfl,fun s=>aM1 s,.inr ⟨rfl,rfl⟩,rfl,rfl,rfl,rfl⟩
 have hl:0<L.length:=List.length_pos_iff.2 hL
 simp only[aR] at hO
 rcases hO with ⟨h,_,_⟩ | ⟨b,bs',os,w,rfl,_,_,_,hw⟩
 · exact absurd (by simpa using h) hL
 · obtain⟨x,l,rfl⟩:∃x l,L=x::l:=by cases L with | nil=>exact absurd rfl hL | cons x l=>exact⟨x,l,rfl⟩
   obtain rfl:w=1:=(hw (aY x) (by simp)).symm
   generalize hLL:x::l=L at *
   rw[aE]
   refine⟨FS b L.length k,if k<L.length then .mslice b (k*1) (L.length - k) 1 else .fslice [],fun φ y h=>aLI fA hk hl h,by simp only[jQ,hun],fun s=>?_,?_,?_⟩
   · unfold FS
     by_cases h:k<L.length
     · rw[aK h,aK h];exact aM2 _ _ _ s
     · rw[aG h,aG h];exact aM0 s
   · by_cases h:k<L.length
     · rw[aK h];exact .inl ⟨hk,b,1,rfl,rfl⟩
     · rw[aG h];exact .inr ⟨by omega,rfl⟩
   · unfold FS
     split<;>exact⟨rfl,rfl,rfl,rfl⟩
abbrev FP:=zi tI_3 (zi zI_3 (zi aZ (zi tI_30 (zi zI_30 (zi lM (zi lN (zi lO (zi lP (zi lQ (zi lR (zi lK (zi tI_31 (zi zI_31 (zi fA (zi gY (zi gZ k9))))))))))))))))
set_option maxHeartbeats 2000000 in
theorem aOR(s:Ss)(n:Int)(h:eY s=true)(hn:0≤n)(st:aA):aD prog 67 [cZ s,.int .i64 n] st (fun r st'=>∃o,r=.tup [cZ (nA s n),o]∧zG st ((dL s (fC s n)).1.map aY) s.sent.toNat o st'):=by
 have hF:=yN h hn
 have hs0:=hF.s0
 have hs1:=hF.s1
 have hfl:=hF.l
 have hu0:=hF.u0
 have hu1:=hF.u1
 have hu2:=hF.u2
 have hq1:=hF.q1
 have hf:=SH ⟨s.p,s.q,s.dE,fC s n,s.sent,s.fin⟩ (fC s n)
 rw[show dL ⟨s.p,s.q,s.dE,fC s n,s.sent,s.fin⟩ (fC s n)=dL s (fC s n) from rfl] at hf
 unfold nA
 generalize dL s (fC s n)=T at *
 obtain⟨L,e⟩:=T
 simp only at hf hs1 hfl ⊢
 have hnu:fC s n=if n<s.dE - s.used then s.used+n else s.dE:=rfl
 generalize fC s n=u at *
 obtain⟨p,q,i0,i1,i2,i3⟩:=s
 simp only[cZ] at *
 obtain⟨k,rfl⟩:=zA hs0
 obtain⟨m,hm,hmu⟩:∃m,(if i0 - i1<n then i0 - i1 else n)=m∧i1+m=u:=by
  refine⟨_,rfl,?_⟩
  rw[hnu]
  split<;>split<;>omega
 have hw0:=bK (n:=i0 - i1)
 have hw1:=bK (n:=i1+m)
 rw[hmu] at hw1
 refine aD.nB ?_
 refine wF [1000000,2] 2 func67 ntmps67 rfl rfl ?_
 intro _
 simp -implicitDefEqProofs only[aB,seval,FP]
 intro b2 h2 b4 h4
 have h42:b4≠b2:=by rintro rfl;rw[aA.aH] at h4;cases h4
 have h4':st b4=none:=by rwa [aA.aF _ _ h42] at h4
 simp -implicitDefEqProofs only[aS,h42.symm,hw0,hm,hmu,hw1,aB,seval,FP]
 refine(hf _).mono ?_
 rintro r s1 ⟨o,rfl,⟨bs,m1,m2,m3,m4⟩,hN⟩
 have hb2:b2∉bs:=fun hq=>by have:=m2 b2 hq;simp [dP] at this
 have hb4:b4∉bs:=fun hq=>by have:=m2 b4 hq;simp [dP,h42] at this
 have e2:=m4 b2 hb2
 have e4:=m4 b4 hb4
 simp only[dP,h42,h42.symm,d3,cM] at e2 e4
 obtain⟨hqc,hqs,hqa,hqw,hqj⟩:=aR.jT m3
 obtain⟨o1,o2,hsl,hlen,hcl,hT,ho1,ho2,ho3,ho4⟩:=aWH (k:=k) m3 hN (by omega)
 obtain⟨ht1,ht2,ht3,ht4,ht5⟩:=PB hT
 simp -implicitDefEqProofs only[aS,e2,dP,hsl,hlen,d4,aB,seval,FP]
 refine tK [(0,1),(1,1),(2,0),(3,0),(4,1)] [0,1,4] (cY.aC b2 (.cells [.slice (p.map bD),.slice (q.map Tm.av),.int .i64 i0,.int .i64 u,.int .i64 (L.length:Int),.int .i64 e])) mixed (by decide +kernel) (by decide +kernel) (by decide +kernel) rfl (f9 (by simp only[dP,d3])) ?_
 simp -implicitDefEqProofs only[dP,aB,seval,FP]
 refine(hcl _).to ?_
 simp -implicitDefEqProofs only[aS,h42,e4,dP,ht2,aB,seval,FP]
 refine⟨f9 (by simp only[dP,d3]),f9 (by simp only[dP,h42.symm,d3,cM]),?_⟩
 generalize hS:aA.aC (aA.aC s1 b2 _) b4 _=S
 have hSx:∀x,x≠b2→x≠b4→S x=s1 x:=fun x h2 h4=>by rw[←hS,aA.aF _ _ h4,aA.aF _ _ h2]
 have hne:∀x,st x≠none→x≠b2∧x≠b4:=fun x h=>⟨fun e=>h (e▸h2),fun e=>h (e▸h4')⟩
 have hin:∀x∈bs,x≠b2∧x≠b4:=fun x hx=>⟨fun e=>hb2 (e▸hx),fun e=>hb4 (e▸hx)⟩
 have iN:∀x∈bs,st x=none:=fun x hx=>by
  have:=m2 x hx
  rwa [aA.aF _ _ (hin x hx).1,aA.aF _ _ (hin x hx).2,aA.aF _ _ (hin x hx).1] at this
 obtain⟨s2,hd,hm2⟩:=Made.OC (st:=st) (S:=S) m1 iN (aR.aV _ _ _ (fun x hx=>hSx x (hin x hx).1 (hin x hx).2) m3) (fun x o hx=>by
  have hx0:st x≠none:=by rw[hx];exact fun e=>nomatch e
  have hxb:x∉bs:=fun hq=>hx0 (iN x hq)
  rw[hSx x (hne x hx0).1 (hne x hx0).2,m4 x hxb,aA.aF _ _ (hne x hx0).1,aA.aF _ _ (hne x hx0).2,aA.aF _ _ (hne x hx0).1,hx])
 exact⟨s2,hd,_,rfl,o,hm2,by rw[jM];exact hT⟩
theorem C4(l:List Tm):(aY l).width=1:=rfl
abbrev aW8:=zi tI_4 (zi zI_4 (zi cG (zi tI_28 (zi zI_28 (zi aQ (zi bM (zi bO (zi cA (zi tI_55 (zi zI_55 (zi v7 vR)))))))))))
theorem aM6(l l':List Tm)(st:aA):aD prog 68 [aY l,aY l'] st (fun r st'=>r=.bool (gK Tm.same l l')∧st'=st):=by
 refine wF [1000000] 2 func68 ntmps68 rfl rfl ?_
 intro _
 simp -implicitDefEqProofs only[aY,aB,seval,aW8]
 refine(GY l l' _ fun x _ y st=>DA x y st).to ?_
 simp -implicitDefEqProofs only[aB,seval]
 refine aT (fun h=>?_) (fun h=>?_)
 · simp -implicitDefEqProofs only[aB,seval]
   simp at h;simp [h]
 · simp -implicitDefEqProofs only[aB,seval]
   simp at h;simp [h]
abbrev PW:=zi tI_3 (zi zI_3 (zi aZ (zi tI_4 (zi zI_4 (zi cG (zi tI_31 (zi zI_31 (zi fA (zi gY (zi gZ (zi k9 (zi tI_55 (zi zI_55 (zi v7 vR))))))))))))))
theorem aM7(l l':List (List Tm))(st:aA)(hc:∀x∈l,∀(y:(List Tm)) (st:aA),aD prog 68 [aY x,aY y] st (fun r st'=>r=.bool ((gK Tm.same) x y)∧st'=st)) :
 aD prog 20 [.slice (l.map aY),.slice (l'.map aY)] st (fun r st'=>r=.bool (gK (gK Tm.same) l l')∧st'=st):=by
 refine wF [] 2 func20 ntmps20 rfl rfl ?_
 simp only[dK,AV.fits,dZ,aE]
 intro ⟨⟨hl,_⟩,⟨hl',_⟩⟩
 simp -implicitDefEqProofs only[aE,aB,seval,PW]
 refine⟨fun h4=>?_,fun h4=>?_⟩
 · simp -implicitDefEqProofs only[aB,seval]
   simp only[gH,cI] at h4
   rw[AS _ (show l.length≠l'.length by omega)]
 simp -implicitDefEqProofs only[aB,seval]
 simp only[jY,bL] at h4
 have h4':l.length=l'.length:=by omega
 refine oI (α:=Nat) [] (fun i=>i≤l.length∧∀(j:Nat) (x y:(List Tm)),j<i→l[j]?=some x→l'[j]?=some y→(gK Tm.same) x y=true)
  (fun i=>[(0,.slice (l.map aY)),(1,.slice (l'.map aY)),(5,.int .i64 i)]) (fun _=>st) (fun i=>l.length - i) (by decide +kernel)
  ⟨0,⟨by omega,by intro j x y h;omega⟩,aP.mk (by simp -implicitDefEqProofs only[aB,↓aX,seval])⟩ ?_
 intro i ⟨hi,c9⟩
 simp -implicitDefEqProofs only[aE,aB,seval,PW]
 refine⟨fun h5=>?_,fun h5=>?_⟩
 case refine_2=>
  simp -implicitDefEqProofs only[aB,seval]
  simp only[cI,gT] at h5
  rw[AP _ h4' (fun j x y h6 h7=>c9 j x y (by have:=(fD.1 h6).1;omega) h6 h7)]
 simp only[bL,gT] at h5
 obtain⟨x,hx⟩:∃x,l[i]?=some x:=⟨_,eQ h5⟩
 obtain⟨y,hy⟩:∃y,l'[i]?=some y:=⟨_,eQ (h4'▸h5)⟩
 simp -implicitDefEqProofs only[aB,seval]
 refine GU mixed (by decide +kernel) (by decide +kernel) ?_
 simp -implicitDefEqProofs only[bJ (av:=aY) fA hx (C4 x),bJ (av:=aY) fA hy (C4 y),aB,seval,PW]
 refine(hc x (cL hx) y st).to ?_
 simp -implicitDefEqProofs only[aB,seval]
 refine⟨fun h6=>?_,fun h6=>?_⟩
 · simp -implicitDefEqProofs only[aB,seval]
   have h7:(gK Tm.same) x y=false:=by simpa using h6
   rw[AQ _ i x y hx hy h7]
 have h7:(gK Tm.same) x y=true:=by simpa using h6
 simp -implicitDefEqProofs only[aB,seval]
 refine⟨i+1,by omega,⟨by omega,fun j u v hj hu hv=>?_⟩,aP.mk ?_⟩
 · rcases kN j i with h8 | h8
   · exact c9 j u v h8 hu hv
   · obtain rfl:j=i:=by omega
     rw[hx] at hu;rw[hy] at hv;cases hu;cases hv;exact h7
 · have:=bK (n:=(i:Int)+1)
   simp -implicitDefEqProofs only[this,aB,seval]
theorem LY(l:List (List Tm))(st:aA):aD prog 20 [.slice (l.map aY),.slice (l.map aY)] st (fun r st'=>r=.bool true∧st'=st):=by
 refine(aM7 l l st fun x _ y st=>aM6 x y st).mono ?_
 rintro _ _ ⟨rfl,rfl⟩
 refine⟨?_,rfl⟩
 rw[(AR (fun x _ y=>AR (fun x _ y=>Tm.yH x y))).2 rfl]
def iX(l:List Tm):Nat:=aM Tm.dB l
def rC(l:List Tm)(j:Int):List Tm:=fB Tm.mark Tm.dB l j
abbrev aW7:=zi tI_3 (zi zI_3 (zi aZ (zi tI_28 (zi zI_28 (zi aQ (zi bM (zi bO (zi cA (zi tI_31 (zi zI_31 (zi fA (zi gY (zi gZ (zi k9 (zi tI_55 (zi zI_55 (zi v7 vR)))))))))))))))))
theorem aOF(l:List (List Tm))(j:Int)(o:AV)(bs:List Nat)(st:aA)(hO:aR st (.slice (l.map aY)) o bs)(hnd:bs.Nodup)(hj0:0≤j)(hj1:j+aM iX l≤1099511627776) :
 aD prog 22 [o,.int .i64 j] st (CL st (.slice ((fB rC iX l j).map aY)) o bs (j+aM iX l)):=by
 obtain⟨hlen,haL⟩:=hO.len
 rw[aE] at hlen
 have haL:=haL prog 31 _ k9
 rw[aE] at haL
 refine wF [1000000] 2 func22 ntmps22 rfl rfl ?_
 simp only[dK]
 intro ⟨hf,_⟩
 have hl:=hlen hf
 clear hf hlen
 simp -implicitDefEqProofs only[aB,seval]
 refine dW (σ:=List (List Tm)×Int×aA) [1000000] [0,4] l
  (fun i p=>p.1.length=i∧p.1++fB rC iX (l.drop i) p.2.1=fB rC iX l j∧0≤p.2.1∧p.2.1+aM iX (l.drop i)=j+aM iX l∧aR p.2.2 (.slice ((p.1++l.drop i).map aY)) o bs∧∀q,q∉bs→p.2.2 q=st q)
  (fun i p=>[(1,.int .i64 p.2.1),(5,.int .i64 i)]) (fun _ p=>p.2.2) (by decide +kernel)
  ⟨([],j,st),⟨rfl,rfl,hj0,rfl,hO,fun _ _=>rfl⟩,aP.mk (by simp -implicitDefEqProofs only[aB,↓aX,seval])⟩ (fun i x p hx hlt bF hdr hinv=>?_) (fun p hge hinv=>?_)
 case refine_2=>
  obtain⟨done,k,s⟩:=p
  obtain⟨i1,i2,i3,i4,i5,i6⟩:=hinv
  simp only at i1 i2 i3 i4 i5 i6
  simp -implicitDefEqProofs only[haL,hge,aB,seval]
  simp only[gU,fB,fM,aM] at i2 i4 i5
  exact⟨by rw[←i4];simp,by rw[←i2];exact i5,i6⟩
 obtain⟨done,k,s⟩:=p
 obtain⟨i1,i2,i3,i4,i5,i6⟩:=hinv
 simp only at i1 i2 i3 i4 i5 i6
 rw[hdr] at i2 i4 i5
 simp only[aM] at i4
 rw[show iX x=aM Tm.dB x from rfl] at i4
 have mN:=IV (av:=aY) (done:=done) (x:=x) (rest:=l.drop (i+1))
 obtain⟨b,bs',w,A,oe,bo,B,rfl,hbs,hsb,hA,hoe,hbo,hbn,iO,hw,hi,rP⟩:=i5.focus hnd mN
 rw[C4] at hw
 subst hw
 rw[i1] at hA
 obtain⟨q,rfl,hq⟩:=I7.1 hoe
 have xY:((done++(x:List Tm)::l.drop (i+1)).map aY).length=l.length:=by
  rw[aE,dX,bA,pN,i1];omega
 rw[xY] at haL rP ⊢
 have hat:=n6 (P:=prog) (b:=b) (len:=l.length) (w:=1) (i:=i) fA hlt
 have hw4:=bK (n:=(i:Int)+1)
 obtain⟨e1,e2,e3,e4,e5,e6⟩:=wC (B:=B) hA
 have hqa:q.isAgg=false:=(aR.shape hq).1
 simp -implicitDefEqProofs only[haL,bF,hat,hsb,e6,hqa,qT,aB,seval,aW7]
 refine(DD x k q bo _ hq hbo (by omega) (by omega)).mono ?_
 rintro _ s2 ⟨rfl,hq2,hk2⟩
 simp -implicitDefEqProofs only[hw4,aB,seval]
 refine⟨(done++ [rC x k],k+(aM Tm.dB x:Int),s2),⟨?_,?_,?_,?_,?_,?_⟩,aP.mk (by simp -implicitDefEqProofs only[aB,seval])⟩
 · simp [i1]
 · simp only[fB] at i2
   rw[←i2]
   simp [iX]
 · simp only;omega
 · simp only;omega
 · have:=rP s2 (aY (rC x k)) (.agg [q]) (C4 _)
    (fun x hx hxb hxo=>hk2 x hxo)
    (by rw[hk2 b hbn,hsb])
    (I7.2 ⟨q,rfl,hq2⟩)
   rw[IW] at this
   exact this
 · intro y hx
   show s2 y=st y
   rw[hk2 y (fun h=>hx (iO y h)),i6 y hx]
abbrev aJR:=zi tI_3 (zi zI_3 (zi aZ (zi tI_28 (zi zI_28 (zi aQ (zi bM (zi bO (zi cA (zi tI_31 (zi zI_31 (zi fA (zi gY (zi gZ (zi k9 (zi tI_55 (zi zI_55 (zi v7 vR)))))))))))))))))
theorem SJ(l:List (List Tm))(j:Int)(st:aA)(h0:0≤j)(h1:j+aM iX l≤1099511627776) :
 aD prog 24 [.slice ((fB rC iX l j).map aY),.int .i64 j] st (fun r st'=>r=.int .i64 (j+aM iX l)∧st'=st):=by
 refine wF [1000000] 2 func24 ntmps24 rfl rfl ?_
 simp only[dK,AV.fits,dZ,aE,ES]
 intro ⟨hl,_⟩
 have hML:(fB rC iX l j).length=l.length:=ES _ _ _ _
 simp -implicitDefEqProofs only[aB,seval]
 refine dW (σ:=Unit) [1000000] [0] (fB rC iX l j) (fun i _=>True) (fun i _=>[(1,.int .i64 (j+aM iX (l.take i))),(4,.int .i64 0),(5,.int .i64 i)]) (fun _ _=>st) (by decide +kernel) ⟨(),trivial,aP.mk (by simp -implicitDefEqProofs only[aM,lC,Int.add_zero,aB,↓aX,seval])⟩ (fun i x _ hx hlt bF hdr _=>?_) (fun _ hge _=>?_)
 case refine_2=>
  rw[hML] at hge
  simp -implicitDefEqProofs only[hge,eM,aE,hML,aB,seval,aJR]
 rw[hML] at hlt bF
 obtain⟨y,hy⟩:∃y,l[i]?=some y:=⟨_,eQ hlt⟩
 have hxy:x=rC y (j+aM iX (l.take i)):=by
  have:=N5 rC iX l j i
  rw[hdr,nO hlt,fB,(fD.1 hy).2] at this
  exact(vE this).1
 have hs:=uT iX hy
 rw[show iX y=aM Tm.dB y from rfl] at hs
 have hat:=bJ (av:=aY) fA hx (C4 x)
 rw[hxy,rC,aY] at hat
 obtain⟨hs1,hs2⟩:=hs
 generalize hk:j+(aM iX (l.take i):Int)=m at *
 have hw:=bK (n:=(i:Int)+1)
 simp -implicitDefEqProofs only[bF,dU,aE,hML,hat,aB,seval,aJR]
 refine(SK y m _ (by omega) (by omega)).to ?_
 have mO:¬(m+(aM Tm.dB y:Int)<0):=by omega
 simp -implicitDefEqProofs only[mO,eK,aB,seval]
 refine⟨(),aP.mk ?_⟩
 have e:j+(aM iX (l.take (i+1)):Int)=m+(aM Tm.dB y:Int):=by omega
 simp -implicitDefEqProofs only[hw,e,aB,seval]
end Go.AW
namespace Go.AW
theorem aD.aVQ{P:Program}{g:FuncId}{args args':List AV}{st:aA}{xs:List AV}(x:∀s,aD P g args s (jO s xs))(hv:gI st cY args' args):aD P g args' st (jO st xs):=by
 refine aD.frame (aL.cY st) ((x cY).mono ?_) hv
 rintro r s1 ⟨os,bs,hr,h1,_,h3,h4⟩ hfr
 have hso:=aU.eX _ _ _ h3
 have hbs:∀b∈bs,st b=none:=fun b hb=>hfr b rfl (by
  obtain⟨cs,e,_⟩:=hso.2 b hb
  rw[e];simp)
 have hfb:∀b∈bs,(st.frame cY s1) b=s1 b:=fun b hb=>by simp only[aA.frame,hbs b hb];split<;>simp_all
 refine⟨by rw[hr];unfold AV.eX;exact hso.1.1,fun b o e=>?_,os,bs,hr,h1,hbs,aU.aV _ _ _ hfb h3,fun b hb=>?_⟩
 · by_cases hb:b∈bs
   · obtain⟨cs,e2,hs⟩:=hso.2 b hb
     rw[e] at e2;cases e2;exact hs
   · rw[h4 b hb] at e;cases e
 · have:=h4 b hb
   simp only[aA.frame,cY] at this ⊢
   cases hst:st b with
   | none=>exact this
   | some o=>rfl
end Go.AW
namespace Go.AW
open Go.Proofs.Tryz

theorem jO.OC{st S:aA}{xs os:List AV}{bs:List Nat}(hnd:bs.Nodup)(iN:∀b∈bs,st b=none)(hO:aU S xs os bs)(hk:∀x o,st x=some o→S x=some o):∃s2,aL S s2∧jO st xs (.tup os) s2:=by
 refine⟨fun x=>if x∈bs then S x else st x,fun x=>?_,os,bs,rfl,hnd,iN,aU.aV _ _ _ (fun b hb=>aK hb) hO,fun b hb=>aG hb⟩
 dsimp only
 by_cases hx:x∈bs
 · rw[aK hx]
   exact⟨fun h=>h,fun o h=>h⟩
 · rw[aG hx]
   refine⟨fun h=>?_,fun o h=>hk x o h⟩
   cases hs:st x with
   | none=>rfl
   | some o=>rw[hk x o hs] at h;cases h
def CN(st:aA)(s:Ss)(n:Int)(r:AV)(st':aA):Prop:=
 ∃o1 q o2 L k,r=.tup [o1,o2]∧jO st [cZ (cC s n).1,.slice (L.map aY)] (.tup [o1,q]) st'∧GD (L.map aY).length k q o2∧k≤L.length∧L.drop k=(cC s n).2∧L.length≤20∧(aM iX L≤9360*L.length)
theorem Made.two{st st1 st2:aA}{a b o p:AV}(h1:Made st a o st1)(h2:Made st1 b p st2):jO st [b,a] (.tup [p,o]) st2:=by
 obtain⟨b1,m1,m2,m3,m4⟩:=h1
 obtain⟨b2,n1,n2,n3,n4⟩:=h2
 have hs:=m3.aIT
 have hd:∀x∈b1,x∉b2:=fun x hx hx'=>hs x hx (n2 x hx')
 refine⟨_,b2++b1,rfl,jN.2 ⟨n1,m1,fun x hx y hy e=>hd y hy (e▸hx)⟩,fun x hx=>?_,I5.2 ⟨p,o,b2,b1,rfl,rfl,n3,aR.aV _ _ _ (fun x hx=>n4 x (hd x hx)) m3⟩,fun x hx=>?_⟩
 · rcases dQ.1 hx with hx | hx
   · have:=n2 x hx
     by_cases h:x∈b1
     · exact m2 x h
     · rw[←m4 x h];exact this
   · exact m2 x hx
 · simp only[dQ,jJ] at hx
   rw[n4 x hx.1,m4 x hx.2]
theorem jO.under{st s1:aA}{b4:Nat}{v w:AO}{xs os:List AV}(h4:st b4=none)(h:jO (st.aC b4 v) xs (.tup os) s1):∃s2,aL (s1.aC b4 w) s2∧jO st xs (.tup os) s2:=by
 obtain⟨os',bs,he,m1,m2,m3,m4⟩:=h
 cases he
 have hb4:b4∉bs:=fun hq=>by have:=m2 b4 hq;rw[aA.aH] at this;cases this
 have hne:∀x∈bs,x≠b4:=fun x hx e=>hb4 (e▸hx)
 refine jO.OC m1 (fun x hx=>?_) (aU.aV _ _ _ (fun x hx=>aA.aF _ _ (hne x hx)) m3) (fun x o hx=>?_)
 · have:=m2 x hx
   rwa [aA.aF _ _ (hne x hx)] at this
 · have hx4:x≠b4:=by rintro rfl;rw[h4] at hx;cases hx
   have hxb:x∉bs:=fun h=>by have:=m2 x h;rw[aA.aF _ _ hx4,hx] at this;cases this
   rw[aA.aF _ _ hx4,m4 x hxb,aA.aF _ _ hx4,hx]
theorem Made.aIU{st s1:aA}{s:Ss}{r:AV}(h:Made st (cZ s) r s1):∃q q',r=.agg [q,q',.int .i64 s.dE,.int .i64 s.used,.int .i64 s.sent,.int .i64 s.fin]∧(∃b,aR s1 (.slice (s.p.map bD)) q b)∧∃b,aR s1 (.slice (s.q.map Tm.av)) q' b:=by
 obtain⟨bs,_,_,h,_⟩:=h
 obtain⟨q,b1,q',b2,rfl,_,h1,h2⟩:=OG.1 h
 exact⟨q,q',rfl,⟨b1,h1⟩,⟨b2,h2⟩⟩
theorem Made.stays{st s1:aA}{a r:AV}{b:Nat}{o:AO}(h:Made st a r s1)(hb:st b=some o):s1 b=some o:=by
 obtain⟨bs,_,h2,_,h4⟩:=h
 rw[h4 b (fun hq=>by have:=h2 b hq;rw[hb] at this;cases this),hb]
theorem zG.stays{st s1:aA}{L:List AV}{k:Nat}{r:AV}{b:Nat}{o:AO}(h:zG st L k r s1)(hb:st b=some o):s1 b=some o:=by
 obtain⟨q,h1,_⟩:=h
 exact h1.stays hb
theorem zG.flat{st s1:aA}{L:List AV}{k:Nat}{r:AV}(h:zG st L k r s1):r.isAgg=false∧r.b9=false∧r.width=1∧r.cells= [r]∧r.storable=true:=by
 obtain⟨q,_,h2⟩:=h
 exact PB h2
abbrev r9:=zi tI_3 (zi zI_3 (zi aZ (zi tI_4 (zi zI_4 (zi cG (zi tI_30 (zi zI_30 (zi lM (zi lN (zi lO (zi lP (zi lQ (zi lR (zi lK (zi tI_31 (zi zI_31 (zi fA (zi gY (zi gZ k9)))))))))))))))))))
set_option maxHeartbeats 2000000 in
theorem aNM(s:Ss)(n:Int)(hp:s.p.length≤1048576)(hps:∀c∈s.p,AG c)(hq:s.q.length≤1048576)(hqs:∀t∈s.q,t.small=true)(st:aA):aD prog 18 [cZ s,.int .i64 n] st (CN st s n):=by
 have hv:=SN s
 have how:=aHJ s hp hps hq hqs
 have aSM:=aHJ (nA s n) hp hps hq hqs
 have hsl:=fun(h:kF s n=true)=>aOR s n (oQ.1 h).1 (oQ.1 h).2.1
 have nF:∀(b4:Nat) (r:AV) (s1:aA) (v w:AO),kF s n=false→st b4=none→Made (st.aC b4 v) (cZ s) r s1→∃s2,aL (s1.aC b4 w) s2∧CN st s n (.tup [r,.fslice []]) s2:=fun b4 r s1 v w hc h4 hM=>by
  have hs:cC s n=(s,[]):=by unfold cC;rw[hc];try rfl
  have h0:Made (st.aC b4 v) (.slice []) (.fslice []) (st.aC b4 v):=⟨[],kM,by simp,.inl ⟨rfl,rfl,rfl⟩,fun _ _=>rfl⟩
  obtain⟨s2,D,hT⟩:=jO.under (w:=w) h4 (Made.two h0 hM)
  exact⟨s2,D,r,.fslice [],.fslice [],[],0,rfl,by rw[hs];exact hT,.inr ⟨rfl,rfl⟩,cQ _,by rw[hs];try rfl,by simp,by simp [aM]⟩
 have NM:∀(b4:Nat) (r o:AV) (s1 s2:aA) (v w:AO),kF s n=true→st b4=none→zG (st.aC b4 v) ((dL s (fC s n)).1.map aY) s.sent.toNat o s1→Made s1 (cZ (nA s n)) r s2→∃s3,aL (s2.aC b4 w) s3∧CN st s n (.tup [r,o]) s3:=fun b4 r o s1 s2 v w hc h4 hL hM=>by
  have hs:cC s n=(nA s n,uK s n):=by unfold cC;rw[hc];try rfl
  have hF:=yN (oQ.1 hc).1 (oQ.1 hc).2.1
  obtain⟨q,h1,h2⟩:=hL
  obtain⟨s3,D,hT⟩:=jO.under (w:=w) h4 (Made.two h1 hM)
  have hSo:=O5 s.p (cnd:=fun _ l=>l) (fun _ l=>⟨fun _ h=>h,cQ _⟩) s.q 20 (fC s n)
  exact⟨s3,D,r,q,o,(dL s (fC s n)).1,s.sent.toNat,rfl,by rw[hs];exact hT,h2,by have:=hF.s1;omega,by rw[hs];try rfl,hF.l,LO hSo.2⟩
 have A6:eY s=true→0≤n→s.fin= -1→kF s n=true:=fun a b c=>oQ.2 ⟨a,b,c⟩
 have xW:kF s n=true→eY s=true∧0≤n∧s.fin= -1:=oQ.1
 have hsw:=fun {st s1:aA} {r:AV} (h:Made st (cZ s) r s1)=>h.aIU
 have hAw:=fun {st s1:aA} {r:AV} (h:Made st (cZ (nA s n)) r s1)=>h.aIU
 generalize nA s n=A at *
 generalize hRR:CN st s n=RR at *
 generalize kF s n=cs at *
 generalize eY s=ok at *
 obtain⟨ap,aq,a0,a1,a2,a3⟩:=A
 obtain⟨p,q,i0,i1,i2,i3⟩:=s
 simp only[cZ] at *
 refine aD.nB ?_
 refine wF [1000000] 2 func18 ntmps18 rfl rfl ?_
 intro _
 simp -implicitDefEqProofs only[aB,seval,r9]
 intro b4 h4
 refine(hv _).to ?_
 simp -implicitDefEqProofs only[aB,seval]
 cases ok with
 | false=>
  have hc:cs=false:=by cases cs with | false=>rfl | true=>exact absurd (xW rfl).1 (by decide)
  subst hc
  simp -implicitDefEqProofs only[aB,seval,r9]
  refine(how _).mono ?_
  intro r s1 hM
  obtain⟨q0,q1,rfl,⟨_,hq0⟩,⟨_,hq1⟩⟩:=hsw hM
  obtain⟨hqc,hqs,hqa,hqw,hqj⟩:=aR.jT hq0
  obtain⟨hrc,hrs,hra,hrw,hrj⟩:=aR.jT hq1
  have e4:=hM.stays (aA.aH _ _ _)
  simp -implicitDefEqProofs only[aS,e4,hqs,hrs,aB,seval,r9]
  exact nF b4 _ s1 _ _ rfl h4 hM
 | true=>
  simp -implicitDefEqProofs only[aB,seval,r9]
  by_cases h3:i3= -1
  case neg=>
   have hc:cs=false:=by cases cs with | false=>rfl | true=>exact absurd (xW rfl).2.2 h3
   subst hc
   have h3':=p5 h3
   simp -implicitDefEqProofs only[h3',eK,aB,seval,r9]
   refine(how _).mono ?_
   intro r s1 hM
   obtain⟨q0,q1,rfl,⟨_,hq0⟩,⟨_,hq1⟩⟩:=hsw hM
   obtain⟨hqc,hqs,hqa,hqw,hqj⟩:=aR.jT hq0
   obtain⟨hrc,hrs,hra,hrw,hrj⟩:=aR.jT hq1
   have e4:=hM.stays (aA.aH _ _ _)
   simp -implicitDefEqProofs only[aS,e4,hqs,hrs,aB,seval,r9]
   exact nF b4 _ s1 _ _ rfl h4 hM
  have h3':=p6 h3
  by_cases hn:0≤n
  case neg=>
   have hc:cs=false:=by cases cs with | false=>rfl | true=>exact absurd (xW rfl).2.1 hn
   subst hc
   have hn':(n<0)=True:=p6 (by omega)
   simp -implicitDefEqProofs only[h3',hn',dU,aB,seval,r9]
   refine(how _).mono ?_
   intro r s1 hM
   obtain⟨q0,q1,rfl,⟨_,hq0⟩,⟨_,hq1⟩⟩:=hsw hM
   obtain⟨hqc,hqs,hqa,hqw,hqj⟩:=aR.jT hq0
   obtain⟨hrc,hrs,hra,hrw,hrj⟩:=aR.jT hq1
   have e4:=hM.stays (aA.aH _ _ _)
   simp -implicitDefEqProofs only[aS,e4,hqs,hrs,aB,seval,r9]
   exact nF b4 _ s1 _ _ rfl h4 hM
  have hn':(n<0)=False:=p5 (by omega)
  have hc:cs=true:=A6 rfl hn h3
  subst hc
  simp -implicitDefEqProofs only[h3',hn',eK,dU,aB,seval,r9]
  refine(hsl rfl _).mono ?_
  rintro _ s1 ⟨o,rfl,hL⟩
  have f4:=hL.stays (aA.aH _ _ _)
  obtain⟨ht1,ht2,ht3,ht4,ht5⟩:=hL.flat
  simp -implicitDefEqProofs only[aB,↓aX,seval,r9]
  refine(aSM _).mono ?_
  intro r s2 hM
  obtain⟨q0,q1,rfl,⟨_,hq0⟩,⟨_,hq1⟩⟩:=hAw hM
  obtain⟨hqc,hqs,hqa,hqw,hqj⟩:=aR.jT hq0
  obtain⟨hrc,hrs,hra,hrw,hrj⟩:=aR.jT hq1
  have e4:=hM.stays f4
  simp -implicitDefEqProofs only[aS,e4,hqs,hrs,ht2,aB,seval,r9]
  exact NM b4 _ _ s1 s2 _ _ rfl h4 hL hM
theorem O9:∀t:Tm,t.sz≤1048576→t.small=true:=by
 intro t
 induction t using Tm.ind with
 | h k n s ts ih=>
  intro h
  rw[Tm.JL] at h
  simp only[Tm.small,FT,cK,bL,eL]
  exact⟨by omega,fun x hx=>ih x hx (by have:=qF (f:=Tm.sz) hx;omega)⟩
theorem aWC{s:Ss}(h:uS s≤1048576):s.p.length≤1048576∧(∀c∈s.p,AG c)∧s.q.length≤1048576∧∀t∈s.q,t.small=true:=by
 unfold uS uU qG at h
 refine⟨by omega,fun c hc=>?_,by omega,fun t ht=>O9 t (by have:=qF (f:=Tm.sz) ht;omega)⟩
 have h1:=qF (f:=lL) hc
 have h2:lL c=c.1.sz+(c.2.length+aM Tm.sz c.2):=rfl
 exact⟨O9 _ (by omega),by omega,fun x hx=>O9 x (by have:=qF (f:=Tm.sz) hx;omega)⟩
theorem aWB(s:Ss):yM s≤3*uS s:=by
 have h1:=TS s.p
 have h2:=aHF s.q
 unfold yM uS
 omega
end Go.AW
