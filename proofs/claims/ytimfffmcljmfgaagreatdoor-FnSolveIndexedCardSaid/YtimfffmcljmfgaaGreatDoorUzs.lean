import Derived.Test.YtimfffmcljmfgaaGreatDoorUzk
import Derived.Test.YtimfffmcljmfgaaGreatDoorUzr
import Derived.Test.YtimfffmcljmfgaaGreatDoorUzf
import Derived.Test.YtimfffmcljmfgaaGreatDoorUzp
import Derived.Test.YtimfffmcljmfgaaGreatDoorUzq
import Derived.Test.YtimfffmcljmfgaaGreatDoorUzg
import Derived.ProofKit
set_option linter.unusedSimpArgs false
set_option linter.unusedVariables false
set_option maxRecDepth 100000
namespace Go.AW
open Go.Proofs.Tryz
abbrev WC:=zi tI_3 (zi zI_3 (zi aZ (zi tI_4 (zi zI_4 (zi cG (zi tI_29 (zi zI_29 (zi fN (zi iT (zi iU (zi jK (zi tI_84 (zi zI_84 (zi kG (zi kH kD)))))))))))))))
theorem aV3(l l':List Cl)(st:aB)(hc:∀x∈l,∀(y:Cl) (st:aB),aD prog 77 [bB x,bB y] st (fun r st'=>r=.bool (vN x y)∧st'=st)) :
 aD prog 22 [.slice (l.map bB),.slice (l'.map bB)] st (fun r st'=>r=.bool (iO vN l l')∧st'=st):=by
 refine wF [] 2 func22 ntmps22 rfl rfl ?_
 simp only[d5,AV.fits,d9,aF]
 intro ⟨⟨hl,_⟩,⟨hl',_⟩⟩
 simp -implicitDefEqProofs only[aF,aA,seval,WC]
 refine⟨fun h4=>?_,fun h4=>?_⟩
 · simp -implicitDefEqProofs only[aA,seval]
   simp only[iX,cP] at h4
   rw[EQ _ (show l.length≠l'.length by omega)]
 simp -implicitDefEqProofs only[aA,seval]
 simp only[mD,bL] at h4
 have h4':l.length=l'.length:=by omega
 refine pP (α:=Nat) [] (fun i=>i≤l.length∧∀(j:Nat) (x y:Cl),j<i→l[j]?=some x→l'[j]?=some y→vN x y=true)
  (fun i=>[(0,.slice (l.map bB)),(1,.slice (l'.map bB)),(5,.int .i64 i)]) (fun _=>st) (fun i=>l.length - i) (by decide +kernel)
  ⟨0,⟨by omega,by intro j x y h;omega⟩,aN.mk (by simp -implicitDefEqProofs only[aA,↓aX,seval])⟩ ?_
 intro i ⟨hi,dN⟩
 simp -implicitDefEqProofs only[aF,aA,seval,WC]
 refine⟨fun h5=>?_,fun h5=>?_⟩
 case refine_2=>
  simp -implicitDefEqProofs only[aA,seval]
  simp only[cP,iY] at h5
  rw[EO _ h4' (fun j x y h6 h7=>dN j x y (by have:=(fR.1 h6).1;omega) h6 h7)]
 simp only[bL,iY] at h5
 obtain⟨x,hx⟩:∃x,l[i]?=some x:=⟨_,dZ h5⟩
 obtain⟨y,hy⟩:∃y,l'[i]?=some y:=⟨_,dZ (h4'▸h5)⟩
 simp -implicitDefEqProofs only[aA,seval]
 refine LJ mixed (by decide +kernel) (by decide +kernel) ?_
 simp -implicitDefEqProofs only[bO (av:=bB) fN hx (i8 x),bO (av:=bB) fN hy (i8 y),vM,i8,aA,seval,WC]
 refine(hc x (cJ hx) y st).to ?_
 simp -implicitDefEqProofs only[aA,seval]
 refine⟨fun h6=>?_,fun h6=>?_⟩
 · simp -implicitDefEqProofs only[aA,seval]
   have h7:vN x y=false:=by simpa using h6
   rw[EP _ i x y hx hy h7]
 have h7:vN x y=true:=by simpa using h6
 simp -implicitDefEqProofs only[aA,seval]
 refine⟨i+1,by omega,⟨by omega,fun j u v hj hu hv=>?_⟩,aN.mk ?_⟩
 · rcases kX j i with h8 | h8
   · exact dN j u v h8 hu hv
   · obtain rfl:j=i:=by omega
     rw[hx] at hu;rw[hy] at hv;cases hu;cases hv;exact h7
 · have:=bE (n:=(i:Int)+1)
   simp -implicitDefEqProofs only[this,aA,seval]
abbrev WB:=zi tI_3 (zi zI_3 (zi aZ (zi tI_22 (zi zI_22 (zi ME (zi aB7 (zi aCB (zi XG (zi tI_92 (zi zI_92 (zi MQ (zi MR LM))))))))))))
theorem aYM(l:List Cl)(left:Int)(st:aB)(h0:0≤left)(h1:left≤1048576)(hc:∀x∈l,∀(left:Int) (st:aB),0≤left→left≤1048576→aD prog 69 [bB x,.int .i64 left] st (fun r st'=>r=.int .i64 (l8 left (oH x))∧st'=st)) :
 aD prog 15 [.slice (l.map bB),.int .i64 left] st (fun r st'=>r=.int .i64 (l8 left (l.length+aR oH l))∧st'=st):=by
 refine wF [] 2 func15 ntmps15 rfl rfl ?_
 simp only[d5,AV.fits,d9,aF]
 intro ⟨hl,_⟩
 have hw:=bE (n:=left - (l.length:Int))
 simp -implicitDefEqProofs only[aF,hw,aA,seval,WB]
 refine⟨fun h4=>?_,fun h4=>?_⟩
 · simp -implicitDefEqProofs only[aA,seval]
   simp only[bL] at h4
   simp only[l8]
   rw[aH (by omega)]
 simp only[cP] at h4
 simp -implicitDefEqProofs only[aA,seval]
 refine pP (α:=Nat) [] (fun i=>i≤l.length∧((l.length+aR oH (l.take i):Nat):Int)≤left)
  (fun i=>[(0,.slice (l.map bB)),(1,.int .i64 (left - ((l.length+aR oH (l.take i):Nat):Int))),(5,.int .i64 i)]) (fun _=>st) (fun i=>l.length - i) (by decide +kernel)
  ⟨0,⟨by omega,by simp only[j9,aR];omega⟩,aN.mk (by simp -implicitDefEqProofs only[aR,rY,aA,↓aX,seval])⟩ ?_
 intro i ⟨hi,hle⟩
 simp -implicitDefEqProofs only[aF,aA,seval,WB]
 refine⟨fun h5=>?_,fun h5=>?_⟩
 case refine_2=>
  simp -implicitDefEqProofs only[aA,seval]
  simp only[cP,iY] at h5
  rw[show i=l.length by omega,eN] at hle ⊢
  rw[wH (by omega)]
 simp only[bL,iY] at h5
 obtain⟨x,hx⟩:∃x,l[i]?=some x:=⟨_,dZ h5⟩
 simp -implicitDefEqProofs only[bO (av:=bB) ME hx (i8 x),vM,i8,aA,seval,WB]
 refine(hc x (cJ hx) _ st (by omega) (by omega)).to ?_
 have hs:=yG oH hx
 simp -implicitDefEqProofs only[aA,seval]
 refine⟨fun h6=>?_,fun h6=>?_⟩
 · simp -implicitDefEqProofs only[aA,seval]
   simp only[bL,sX] at h6
   simp only[l8]
   rw[aH (by omega)]
 simp only[cP,sX] at h6
 rw[wH h6]
 simp -implicitDefEqProofs only[aA,seval]
 refine⟨i+1,by omega,⟨by omega,by omega⟩,aN.mk ?_⟩
 · have:=bE (n:=(i:Int)+1)
   have e:(left - ((l.length+aR oH (l.take (i+1)):Nat):Int))=left - ((l.length+aR oH (l.take i):Nat):Int) - ((oH x:Nat):Int):=by omega
   simp -implicitDefEqProofs only[this,e,aA,seval]
abbrev OC:=zi tI_3 (zi zI_3 (zi aZ (zi tI_22 (zi zI_22 (zi ME (zi aB7 (zi aCB (zi XG (zi tI_29 (zi zI_29 (zi fN (zi iT (zi iU (zi jK (zi tI_84 (zi zI_84 (zi kG (zi kH (zi kD (zi tI_92 (zi zI_92 (zi MQ (zi MR LM)))))))))))))))))))))))
theorem a49(l:List Cl)(st:aB)(hb:l.length≤1048576)(hc:∀x∈l,∀(st:aB),aD prog 73 [bB x] st (Made st (bB x))) :
 aD prog 18 [.slice (l.map bB)] st (Made st (.slice (l.map bB))):=by
 refine wF [] 1 func18 ntmps18 rfl rfl ?_
 intro _
 simp -implicitDefEqProofs only[aF,tQ,aA,↓aX,seval,OC]
 refine⟨by omega,by omega,by omega,?_⟩
 intro b hn
 rw[jU,IZ _ (by simp)]
 refine eH (σ:=List AV×List Nat×aB) [] [0,2,3] l (fun i p=>tM (l.map bB) [.int .i64 0,.int .i64 0,.str ⟨#[]⟩,.fslice [],.fslice []] b st i p) (fun i _=>[(4,.int .i64 i)]) (fun _ p=>p.2.2) (by decide +kernel)
  ⟨([],[],_),?_,aN.mk (by simp -implicitDefEqProofs only[aA,↓aX,seval])⟩ (fun i x p hx hlt bQ hdr hinv=>?_) (fun p hge hinv=>?_)
 · exact tM.start hn (by rw[aF])
 case refine_3=>
  obtain⟨os,bs,s⟩:=p
  simp -implicitDefEqProofs only[aF,hge,aA,seval,OC]
  exact hinv.done (aF _) (fun e he=>by simp only[cU] at he;obtain⟨t,_,rfl⟩:=he;exact i8 t)
 obtain⟨os,bs,s⟩:=p
 simp -implicitDefEqProofs only[aF,bQ,bO (av:=bB) ME hx (i8 x),vM,i8,aA,seval,OC]
 refine(hc x (cJ hx) _).mono ?_
 rintro r s2 TV
 obtain⟨A,B,hs2,hA,hrw,hrs,T0⟩:=hinv.step TV (show(l.map bB)[i]?=some (bB x) by rw[nO,hx];try rfl) (i8 x) (fun e he=>by simp only[cU] at he;obtain⟨t,_,rfl⟩:=he;exact i8 t) rfl (R9 x) (.inl (vM x))
 have hat:=pB (b:=b) (len:=l.length) (w:=5) (i:=i) fN hlt
 obtain⟨hp1,hp2⟩:=VD (B:=B) (C:=[.int .i64 0,.int .i64 0,.str ⟨#[]⟩,.fslice [],.fslice []]) (x:=r.cells) hA rfl hrw
 have hw:=bE (n:=(i:Int)+1)
 simp -implicitDefEqProofs only[hat,hs2,hrw,hrs,hp1,hw,aA,seval,OC]
 refine⟨hp2,?_⟩
 exact⟨_,T0,aN.mk (by simp -implicitDefEqProofs only[aA,seval])⟩
abbrev aRC:=zi tI_4 (zi zI_4 (zi cG (zi tI_31 (zi zI_31 (zi aO (zi bH (zi bJ (zi bZ (zi tI_66 (zi zI_66 (zi bS (zi bT (zi bU (zi bV (zi bR (zi tI_84 (zi zI_84 (zi kG (zi kH kD)))))))))))))))))))
theorem aV2(x y:Cl)(st:aB):aD prog 77 [bB x,bB y] st (fun r st'=>r=.bool (vN x y)∧st'=st):=by
 obtain⟨⟨k,n,s,ts⟩,b⟩:=x
 obtain⟨⟨k',n',s',ts'⟩,b'⟩:=y
 have hg:=fun st=>HE (.mk k n s ts) (.mk k' n' s' ts') st
 simp only[aY] at hg
 have hc:=fun st=>LT b b' st fun x _ y st=>HE x y st
 simp only[fU]
 refine wF [1000000] 2 func77 ntmps77 rfl rfl ?_
 intro _
 simp -implicitDefEqProofs only[aA,seval,aRC]
 refine(hg _).to ?_
 simp only[vN]
 simp -implicitDefEqProofs only[aA,seval]
 refine aS (fun h1=>?_) (fun h1=>?_)
 · simp -implicitDefEqProofs only[aA,seval]
   simp only[iX] at h1
   simp [h1]
 simp only[mD] at h1
 simp -implicitDefEqProofs only[aA,seval,aRC]
 refine(hc _).to ?_
 simp -implicitDefEqProofs only[aA,seval]
 refine aS (fun h2=>?_) (fun h2=>?_)<;>simp -implicitDefEqProofs only[aA,seval]
 · simp only[iX] at h2
   simp [h2]
 · simp only[mD] at h2
   simp [h1,h2]
abbrev aRB:=zi tI_3 (zi zI_3 (zi aZ (zi tI_23 (zi zI_23 (zi t8 (zi zJ (zi zN (zi wM (zi tI_90 (zi zI_90 (zi zT (zi zU (zi zW (zi zX (zi y6 (zi tI_92 (zi zI_92 (zi MQ (zi MR LM)))))))))))))))))))
theorem aYL(c:Cl)(left:Int)(st:aB)(h0:0≤left)(h1:left≤1048576):aD prog 69 [bB c,.int .i64 left] st (fun r st'=>r=.int .i64 (l8 left (oH c))∧st'=st):=by
 obtain⟨⟨k,n,s,ts⟩,b⟩:=c
 have hg:=fun st=>RW (.mk k n s ts) left st h0 h1
 simp only[aY] at hg
 simp only[fU,oH]
 generalize (Tm.mk k n s ts).sz=z at hg ⊢
 have hsl:sW b=b.length+aR Tm.sz b:=rfl
 refine wF [1000000] 2 func69 ntmps69 rfl rfl ?_
 intro _
 simp -implicitDefEqProofs only[aA,seval,aRB]
 refine(hg _).to ?_
 simp -implicitDefEqProofs only[aA,seval]
 refine aS (fun h2=>?_) (fun h2=>?_)
 · simp -implicitDefEqProofs only[aA,seval]
   simp only[bL,sX] at h2
   simp only[l8]
   rw[aH (by omega)]
 simp only[cP,sX] at h2
 rw[wH h2]
 simp -implicitDefEqProofs only[aA,seval,aRB]
 refine(aA9 b _ _ (by omega) (by omega)).to ?_
 simp -implicitDefEqProofs only[aA,seval]
 refine aS (fun h3=>?_) (fun h3=>?_)
 · simp -implicitDefEqProofs only[aA,seval]
   simp only[bL,sX] at h3
   simp only[l8]
   rw[aH (by omega)]
 · simp -implicitDefEqProofs only[aA,seval]
   simp only[cP,sX] at h3
   rw[wH h3,wH (by omega)]
   congr 1
   omega
abbrev WD:=zi tI_23 (zi zI_23 (zi t8 (zi zJ (zi zN (zi wM (zi tI_31 (zi zI_31 (zi aO (zi bH (zi bJ (zi bZ (zi tI_66 (zi zI_66 (zi bS (zi bT (zi bU (zi bV (zi bR (zi tI_84 (zi zI_84 (zi kG (zi kH (zi kD (zi tI_90 (zi zI_90 (zi zT (zi zU (zi zW (zi zX (zi y6 (zi tI_92 (zi zI_92 (zi MQ (zi MR LM))))))))))))))))))))))))))))))))))
theorem a48(c:Cl)(st:aB)(hb:oH c≤1048576):aD prog 73 [bB c] st (Made st (bB c)):=by
 obtain⟨⟨k,n,s,ts⟩,bd⟩:=c
 unfold oH at hb
 simp only at hb
 have hc:=fun st=>aPE bd st (by unfold sW;omega)
 have hg:=fun st=>U0 (.mk k n s ts) st (by omega)
 simp only[aY] at hg
 simp only[fU]
 refine aD.UO ?_
 refine wF [1000000] 1 func73 ntmps73 rfl rfl ?_
 intro _
 simp -implicitDefEqProofs only[aA,seval,WD]
 intro b hb1 b2 hb2
 have hne:b2≠b:=by rintro rfl;rw[aB.aP] at hb2;cases hb2
 have hn2:st b2=none:=by rw[aB.aJ st _ hne] at hb2;exact hb2
 refine(hg _).mono ?_
 rintro q0 s2 ⟨bs,m1,m2,m3,m4⟩
 rw[←aY] at m3
 obtain⟨q,rfl,m3'⟩:=I7.1 m3
 have hbb:b∉bs:=fun h=>by have:=m2 b h;simp [gZ,hne.symm] at this
 have p9:b2∉bs:=fun h=>by have:=m2 b2 h;simp [gZ] at this
 have e1:=m4 b hbb
 have e2:=m4 b2 p9
 simp only[gZ,hne,hne.symm,gB,dI] at e1 e2
 obtain⟨hqc,hqs,hqa,hqw,hqj⟩:=bG.AC m3'
 simp -implicitDefEqProofs only[aG,e2,hqs,aA,seval,WD]
 refine(hc _).mono ?_
 rintro r s3 ⟨cs,n1,n2,n3,n4⟩
 have TF:b2∉cs:=fun h=>by have:=n2 b2 h;simp [gZ] at this
 have hcb:b∉cs:=fun h=>by have:=n2 b h;simp [gZ,hne.symm,e1] at this
 have f1:=n4 b hcb
 have f2:=n4 b2 TF
 simp only[gZ,hne.symm,gB,dI,e1] at f1 f2
 obtain⟨hrc,hrs,hra,hrw,hrj⟩:=bG.AC n3
 simp -implicitDefEqProofs only[aG,gZ,hne.symm,f1,f2,hqs,hrc,hrs,aA,seval,WD]
 have v8:=(bG.gY _ _ _ m3').2.2
 have oN:∀x∈bs,x∉cs:=fun x hx hx'=>by
  obtain⟨u,e,_⟩:=v8 x hx
  have:=n2 x hx'
  have h2:x≠b2:=fun e=>p9 (e▸hx)
  simp only[gZ,h2,dI] at this
  rw[e] at this;cases this
 have hcs:∀x∈cs,x≠b∧x≠b2:=fun x hx=>⟨fun e=>hcb (e▸hx),fun e=>TF (e▸hx)⟩
 have hbs:∀x∈bs,x≠b∧x≠b2:=fun x hx=>⟨fun e=>hbb (e▸hx),fun e=>p9 (e▸hx)⟩
 refine⟨[b,b2],bs++cs,oV.2 ⟨m1,n1,fun x hx y hy e=>oN x hx (e▸hy)⟩,fun x hx=>?_,?_,?_,?_⟩
 · rcases fF.1 hx with hx | hx
   · have:=m2 x hx
     simpa [gZ,hbs x hx] using this
   · have:=n2 x hx
     simp only[gZ,(hcs x hx).2,dI] at this
     by_cases hxb:x∈bs
     · exact absurd hx (oN x hxb)
     · rw[m4 x hxb] at this
       simpa [gZ,hcs x hx] using this
 · simp [hb1,hn2,hbb,p9,hcb,TF]
 · rw[←fU]
   refine U8.2 ⟨q,bs,r,cs,rfl,rfl,bG.aV _ _ _ (fun x hx=>?_) m3',bG.aV _ _ _ (fun x hx=>?_) n3⟩
   · simp only[gZ,(hbs x hx).1,(hbs x hx).2,dI]
     rw[n4 x (oN x hx)]
     simp only[gZ,(hbs x hx).2,dI]
   · simp only[gZ,(hcs x hx).1,(hcs x hx).2,dI]
 · intro x hx hd
   simp only[c8,dX,eC,pI] at hd
   simp only[fF,pI] at hx
   simp only[gZ,hd.1,hd.2,dI]
   rw[n4 x hx.2]
   simp only[gZ,hd.2,dI]
   rw[m4 x hx.1]
   simp only[gZ,hd.1,hd.2,dI]
theorem aV4(l:List Cl)(st:aB):aD prog 22 [.slice (l.map bB),.slice (l.map bB)] st (fun r st'=>r=.bool true∧st'=st):=by
 refine(aV3 l l st fun x _ y st=>aV2 x y st).mono ?_
 rintro _ _ ⟨rfl,rfl⟩
 refine⟨?_,rfl⟩
 have:∀l:List Cl,iO vN l l=true:=by
  intro l
  induction l with
  | nil=>rfl
  | cons x l ih=>simp [iO,aY5,ih]
 rw[this]
abbrev AS (l:List Cl):Nat:=l.length+aR oH l
theorem aYN(l:List Cl)(left:Int)(st:aB)(h0:0≤left)(h1:left≤1048576):aD prog 15 [.slice (l.map bB),.int .i64 left] st (fun r st'=>r=.int .i64 (l8 left (AS l))∧st'=st):=
 aYM l left st h0 h1 fun x _ left st h0 h1=>aYL x left st h0 h1
theorem aPC(l:List Cl)(st:aB)(hb:AS l≤1048576):aD prog 18 [.slice (l.map bB)] st (Made st (.slice (l.map bB))):=
 a49 l st (by unfold AS at hb;omega) fun x hx st=>a48 x st (by have:=yF (f:=oH) hx;unfold AS at hb;omega)
theorem RX(l:List Cl)(st:aB)(hb:AS l≤1048576):aD prog 18 [.slice (l.map bB)] st (fun r st'=>r=.slice (l.map bB)∧st'=st):=(aPC l st hb).made
theorem aY2(c:Cl):t6 c≤3+3*oH c:=by
 obtain⟨⟨k,n,s,ts⟩,b⟩:=c
 have h1:=Tm.aO1 (.mk k n s ts)
 have h2:=aO2 b
 rw[Tm.I3] at h1
 rw[SA]
 have hsl:sW b=b.length+aR Tm.sz b:=rfl
 have hcs:oH (.mk k n s ts,b)=(Tm.mk k n s ts).sz+(b.length+aR Tm.sz b):=rfl
 omega
theorem aBV:∀l:List Cl,aR t6 l≤3*AS l
 | []=>by simp [aR]
 | x::l=>by
  have h1:=aY2 x
  have h2:=aBV l
  simp only[aR,AS,aQ] at h2 ⊢
  omega
abbrev WE:=zi tI_3 (zi zI_3 (zi aZ (zi tI_9 (zi zI_9 (zi cF (zi tI_29 (zi zI_29 (zi fN (zi iT (zi iU (zi jK (zi tI_31 (zi zI_31 (zi aO (zi bH (zi bJ (zi bZ (zi tI_66 (zi zI_66 (zi bS (zi bT (zi bU (zi bV (zi bR (zi tI_84 (zi zI_84 (zi kG (zi kH kD))))))))))))))))))))))))))))
theorem aX5(l:List Cl)(j:Int)(o:AV)(bs:List Nat)(st:aB)(hO:bG st (.slice (l.map bB)) o bs)(hnd:bs.Nodup)(hj0:0≤j)(hj1:j+aR t6 l≤1099511627776) :
 aD prog 24 [o,.int .i64 j] st (P7 st (.slice ((gX EH t6 l j).map bB)) o bs (j+aR t6 l)):=by
 obtain⟨hlen,haL⟩:=hO.len
 rw[aF] at hlen
 have haL:=haL prog 29 _ jK
 rw[aF] at haL
 refine wF [1000000] 2 func24 ntmps24 rfl rfl ?_
 simp only[d5]
 intro ⟨hf,_⟩
 have hl:=hlen hf
 clear hf hlen
 simp -implicitDefEqProofs only[aA,seval]
 refine eH (σ:=List Cl×Int×aB) [1000000] [0,4] l
  (fun i p=>p.1.length=i∧p.1++gX EH t6 (l.drop i) p.2.1=gX EH t6 l j∧0≤p.2.1∧p.2.1+aR t6 (l.drop i)=j+aR t6 l∧bG p.2.2 (.slice ((p.1++l.drop i).map bB)) o bs∧∀q,q∉bs→p.2.2 q=st q)
  (fun i p=>[(1,.int .i64 p.2.1),(5,.int .i64 i)]) (fun _ p=>p.2.2) (by decide +kernel)
  ⟨([],j,st),⟨rfl,rfl,hj0,rfl,hO,fun _ _=>rfl⟩,aN.mk (by simp -implicitDefEqProofs only[aA,↓aX,seval])⟩ (fun i x p hx hlt bQ hdr hinv=>?_) (fun p hge hinv=>?_)
 case refine_2=>
  obtain⟨done,k,s⟩:=p
  obtain⟨i1,i2,i3,i4,i5,i6⟩:=hinv
  simp only at i1 i2 i3 i4 i5 i6
  simp -implicitDefEqProofs only[haL,hge,aA,seval]
  simp only[j8,gX,gI,aR] at i2 i4 i5
  exact⟨by rw[←i4];simp,by rw[←i2];exact i5,i6⟩
 obtain⟨done,k,s⟩:=p
 obtain⟨i1,i2,i3,i4,i5,i6⟩:=hinv
 simp only at i1 i2 i3 i4 i5 i6
 rw[hdr] at i2 i4 i5
 obtain⟨⟨xk,xn,xs,xts⟩,xb⟩:=x
 simp only[aR,SA] at i4
 have qB:=US (av:=bB) (done:=done) (x:=(.mk xk xn xs xts,xb)) (rest:=l.drop (i+1))
 obtain⟨b,bs',w,A,oe,bo,B,rfl,hbs,hsb,hA,hoe,hbo,hbn,qF,hw,hi,zZ⟩:=i5.focus hnd qB
 rw[i8] at hw
 subst hw
 rw[i1] at hA
 obtain⟨q,b1,q',b2,rfl,rfl,hq,hq'⟩:=U8.1 hoe
 rw[oV] at hbo
 obtain⟨a1D,a1E,oN⟩:=hbo
 simp only[fF,pI] at hbn
 have IJ:((done++((Tm.mk xk xn xs xts,xb):Cl)::l.drop (i+1)).map bB).length=l.length:=by
  rw[aF,dL,aQ,lR,i1];omega
 rw[IJ] at haL zZ ⊢
 have hat:=pB (P:=prog) (b:=b) (len:=l.length) (w:=5) (i:=i) fN hlt
 have hw1:=bE (n:=k+1)
 have hw2:=bE (n:=k+1+1)
 have hw3:=bE (n:=k+1+1+1)
 have hw4:=bE (n:=(i:Int)+1)
 obtain⟨e1,e2,e3,e4,e5,e6⟩:=FE (B:=B) hA
 simp -implicitDefEqProofs only[haL,bQ,hat,hsb,hw1,hw2,e1,e2,e4,e5,rY,GO,KU,c7,aA,seval,WE]
 refine(RQ (k+1+1) _ (by omega)).to ?_
 simp -implicitDefEqProofs only[hat,e1,e2,e3,rY,GO,KU,c7,hw3,aA,seval,WE]
 have hqs:∀(o:AO),bG (s.aC b o) (.slice (xts.map Tm.av)) q b1:=fun o=>bG.aV _ _ _ (fun x hx=>aB.aJ _ _ (fun e=>hbn.1 (e▸hx))) hq
 have hqa:q.isAgg=false:=(bG.shape hq).1
 have a2V:q'.isAgg=false:=(bG.shape hq').1
 simp -implicitDefEqProofs only[hqa,aA,seval]
 refine(HH xts (k+1+1+1) q b1 _ (hqs _) a1D (by omega) (by omega)).mono ?_
 rintro _ s2 ⟨rfl,hq2,hk2⟩
 have f1:=hk2 b hbn.1
 rw[aB.aP] at f1
 simp -implicitDefEqProofs only[hat,f1,e3,a2V,aA,seval,WE]
 have a2W:bG s2 (.slice (xb.map Tm.av)) q' b2:=bG.aV _ _ _ (fun x hx=>by
  have hxb:x≠b:=fun e=>hbn.2 (e▸hx)
  rw[hk2 x (fun h=>oN x h x hx rfl),aB.aJ _ _ hxb]) hq'
 refine(HH xb _ q' b2 _ a2W a1E (by omega) (by omega)).mono ?_
 rintro _ s3 ⟨rfl,hq3,hk3⟩
 have hm:k+((3+aR Tm.dV xts+aR Tm.dV xb:Nat):Int)=k+1+1+1+(aR Tm.dV xts:Int)+(aR Tm.dV xb:Int):=by omega
 simp -implicitDefEqProofs only[hw4,aA,seval]
 refine⟨(done++ [EH (.mk xk xn xs xts,xb) k],k+1+1+1+(aR Tm.dV xts:Int)+(aR Tm.dV xb:Int),s3),⟨?_,?_,?_,?_,?_,?_⟩,aN.mk (by simp -implicitDefEqProofs only[aA,seval])⟩
 · simp [i1]
 · simp only[gX,SA] at i2
   rw[hm] at i2
   rw[←i2]
   simp
 · simp only;omega
 · simp only;omega
 · have:=zZ s3 (bB (EH (.mk xk xn xs xts,xb) k)) (.agg [.int .i64 k,.int .i64 (k+1),.str (mt (k+1+1)),q,q']) (i8 _)
    (fun x hx hxb hxo=>by
     simp only[fF,pI] at hxo
     rw[hk3 x hxo.2,hk2 x hxo.1,aB.aJ _ _ hxb])
    (by rw[hk3 b hbn.2,f1];try rfl)
    (by
     unfold EH
     exact U8.2 ⟨q,b1,q',b2,rfl,rfl,bG.aV _ _ _ (fun x hx=>hk3 x (fun h=>oN x hx x h rfl)) hq2,hq3⟩)
   rw[UT] at this
   exact this
 · intro x hx
   have hxb:x≠b:=fun e=>hx (by rw[hbs];simp [e])
   have hx1:x∉b1:=fun e=>hx (qF x (by simp [e]))
   have hx2:x∉b2:=fun e=>hx (qF x (by simp [e]))
   show s3 x=st x
   rw[hk3 x hx2,hk2 x hx1,aB.aJ _ _ hxb,i6 x hx]
theorem G8(l:List Tm):(cI l).width=1:=rfl
abbrev a8A:=zi tI_4 (zi zI_4 (zi cG (zi tI_31 (zi zI_31 (zi aO (zi bH (zi bJ (zi bZ (zi tI_59 (zi zI_59 (zi vU vI)))))))))))
theorem aV0(l l':List Tm)(st:aB):aD prog 76 [cI l,cI l'] st (fun r st'=>r=.bool (iO Tm.same l l')∧st'=st):=by
 refine wF [1000000] 2 func76 ntmps76 rfl rfl ?_
 intro _
 simp -implicitDefEqProofs only[cI,aA,seval,a8A]
 refine(LT l l' _ fun x _ y st=>HE x y st).to ?_
 simp -implicitDefEqProofs only[aA,seval]
 refine aS (fun h=>?_) (fun h=>?_)
 · simp -implicitDefEqProofs only[aA,seval]
   simp at h;simp [h]
 · simp -implicitDefEqProofs only[aA,seval]
   simp at h;simp [h]
abbrev WN:=zi tI_3 (zi zI_3 (zi aZ (zi tI_4 (zi zI_4 (zi cG (zi tI_26 (zi zI_26 (zi nD (zi sG (zi sJ (zi uU (zi tI_59 (zi zI_59 (zi vU vI))))))))))))))
theorem aV1(l l':List (List Tm))(st:aB)(hc:∀x∈l,∀(y:(List Tm)) (st:aB),aD prog 76 [cI x,cI y] st (fun r st'=>r=.bool ((iO Tm.same) x y)∧st'=st)) :
 aD prog 21 [.slice (l.map cI),.slice (l'.map cI)] st (fun r st'=>r=.bool (iO (iO Tm.same) l l')∧st'=st):=by
 refine wF [] 2 func21 ntmps21 rfl rfl ?_
 simp only[d5,AV.fits,d9,aF]
 intro ⟨⟨hl,_⟩,⟨hl',_⟩⟩
 simp -implicitDefEqProofs only[aF,aA,seval,WN]
 refine⟨fun h4=>?_,fun h4=>?_⟩
 · simp -implicitDefEqProofs only[aA,seval]
   simp only[iX,cP] at h4
   rw[EQ _ (show l.length≠l'.length by omega)]
 simp -implicitDefEqProofs only[aA,seval]
 simp only[mD,bL] at h4
 have h4':l.length=l'.length:=by omega
 refine pP (α:=Nat) [] (fun i=>i≤l.length∧∀(j:Nat) (x y:(List Tm)),j<i→l[j]?=some x→l'[j]?=some y→(iO Tm.same) x y=true)
  (fun i=>[(0,.slice (l.map cI)),(1,.slice (l'.map cI)),(5,.int .i64 i)]) (fun _=>st) (fun i=>l.length - i) (by decide +kernel)
  ⟨0,⟨by omega,by intro j x y h;omega⟩,aN.mk (by simp -implicitDefEqProofs only[aA,↓aX,seval])⟩ ?_
 intro i ⟨hi,dN⟩
 simp -implicitDefEqProofs only[aF,aA,seval,WN]
 refine⟨fun h5=>?_,fun h5=>?_⟩
 case refine_2=>
  simp -implicitDefEqProofs only[aA,seval]
  simp only[cP,iY] at h5
  rw[EO _ h4' (fun j x y h6 h7=>dN j x y (by have:=(fR.1 h6).1;omega) h6 h7)]
 simp only[bL,iY] at h5
 obtain⟨x,hx⟩:∃x,l[i]?=some x:=⟨_,dZ h5⟩
 obtain⟨y,hy⟩:∃y,l'[i]?=some y:=⟨_,dZ (h4'▸h5)⟩
 simp -implicitDefEqProofs only[aA,seval]
 refine LJ mixed (by decide +kernel) (by decide +kernel) ?_
 simp -implicitDefEqProofs only[bO (av:=cI) nD hx (G8 x),bO (av:=cI) nD hy (G8 y),aA,seval,WN]
 refine(hc x (cJ hx) y st).to ?_
 simp -implicitDefEqProofs only[aA,seval]
 refine⟨fun h6=>?_,fun h6=>?_⟩
 · simp -implicitDefEqProofs only[aA,seval]
   have h7:(iO Tm.same) x y=false:=by simpa using h6
   rw[EP _ i x y hx hy h7]
 have h7:(iO Tm.same) x y=true:=by simpa using h6
 simp -implicitDefEqProofs only[aA,seval]
 refine⟨i+1,by omega,⟨by omega,fun j u v hj hu hv=>?_⟩,aN.mk ?_⟩
 · rcases kX j i with h8 | h8
   · exact dN j u v h8 hu hv
   · obtain rfl:j=i:=by omega
     rw[hx] at hu;rw[hy] at hv;cases hu;cases hv;exact h7
 · have:=bE (n:=(i:Int)+1)
   simp -implicitDefEqProofs only[this,aA,seval]
theorem Q9(l:List (List Tm))(st:aB):aD prog 21 [.slice (l.map cI),.slice (l.map cI)] st (fun r st'=>r=.bool true∧st'=st):=by
 refine(aV1 l l st fun x _ y st=>aV0 x y st).mono ?_
 rintro _ _ ⟨rfl,rfl⟩
 refine⟨?_,rfl⟩
 rw[(BZ (fun x _ y=>BZ (fun x _ y=>Tm.AK x y))).2 rfl]
def kZ(l:List Tm):Nat:=aR Tm.dV l
def tW(l:List Tm)(j:Int):List Tm:=gX Tm.mark Tm.dV l j
abbrev a79:=zi tI_3 (zi zI_3 (zi aZ (zi tI_26 (zi zI_26 (zi nD (zi sG (zi sJ (zi uU (zi tI_31 (zi zI_31 (zi aO (zi bH (zi bJ (zi bZ (zi tI_59 (zi zI_59 (zi vU vI)))))))))))))))))
theorem aX4(l:List (List Tm))(j:Int)(o:AV)(bs:List Nat)(st:aB)(hO:bG st (.slice (l.map cI)) o bs)(hnd:bs.Nodup)(hj0:0≤j)(hj1:j+aR kZ l≤1099511627776) :
 aD prog 26 [o,.int .i64 j] st (P7 st (.slice ((gX tW kZ l j).map cI)) o bs (j+aR kZ l)):=by
 obtain⟨hlen,haL⟩:=hO.len
 rw[aF] at hlen
 have haL:=haL prog 26 _ uU
 rw[aF] at haL
 refine wF [1000000] 2 func26 ntmps26 rfl rfl ?_
 simp only[d5]
 intro ⟨hf,_⟩
 have hl:=hlen hf
 clear hf hlen
 simp -implicitDefEqProofs only[aA,seval]
 refine eH (σ:=List (List Tm)×Int×aB) [1000000] [0,4] l
  (fun i p=>p.1.length=i∧p.1++gX tW kZ (l.drop i) p.2.1=gX tW kZ l j∧0≤p.2.1∧p.2.1+aR kZ (l.drop i)=j+aR kZ l∧bG p.2.2 (.slice ((p.1++l.drop i).map cI)) o bs∧∀q,q∉bs→p.2.2 q=st q)
  (fun i p=>[(1,.int .i64 p.2.1),(5,.int .i64 i)]) (fun _ p=>p.2.2) (by decide +kernel)
  ⟨([],j,st),⟨rfl,rfl,hj0,rfl,hO,fun _ _=>rfl⟩,aN.mk (by simp -implicitDefEqProofs only[aA,↓aX,seval])⟩ (fun i x p hx hlt bQ hdr hinv=>?_) (fun p hge hinv=>?_)
 case refine_2=>
  obtain⟨done,k,s⟩:=p
  obtain⟨i1,i2,i3,i4,i5,i6⟩:=hinv
  simp only at i1 i2 i3 i4 i5 i6
  simp -implicitDefEqProofs only[haL,hge,aA,seval]
  simp only[j8,gX,gI,aR] at i2 i4 i5
  exact⟨by rw[←i4];simp,by rw[←i2];exact i5,i6⟩
 obtain⟨done,k,s⟩:=p
 obtain⟨i1,i2,i3,i4,i5,i6⟩:=hinv
 simp only at i1 i2 i3 i4 i5 i6
 rw[hdr] at i2 i4 i5
 simp only[aR] at i4
 rw[show kZ x=aR Tm.dV x from rfl] at i4
 have qB:=US (av:=cI) (done:=done) (x:=x) (rest:=l.drop (i+1))
 obtain⟨b,bs',w,A,oe,bo,B,rfl,hbs,hsb,hA,hoe,hbo,hbn,qF,hw,hi,zZ⟩:=i5.focus hnd qB
 rw[G8] at hw
 subst hw
 rw[i1] at hA
 obtain⟨q,rfl,hq⟩:=U9.1 hoe
 have IJ:((done++(x:List Tm)::l.drop (i+1)).map cI).length=l.length:=by
  rw[aF,dL,aQ,lR,i1];omega
 rw[IJ] at haL zZ ⊢
 have hat:=pB (P:=prog) (b:=b) (len:=l.length) (w:=1) (i:=i) nD hlt
 have hw4:=bE (n:=(i:Int)+1)
 obtain⟨e1,e2,e3,e4,e5,e6⟩:=FE (B:=B) hA
 have hqa:q.isAgg=false:=(bG.shape hq).1
 simp -implicitDefEqProofs only[haL,bQ,hat,hsb,e6,hqa,rY,aA,seval,a79]
 refine(HH x k q bo _ hq hbo (by omega) (by omega)).mono ?_
 rintro _ s2 ⟨rfl,hq2,hk2⟩
 simp -implicitDefEqProofs only[hw4,aA,seval]
 refine⟨(done++ [tW x k],k+(aR Tm.dV x:Int),s2),⟨?_,?_,?_,?_,?_,?_⟩,aN.mk (by simp -implicitDefEqProofs only[aA,seval])⟩
 · simp [i1]
 · simp only[gX] at i2
   rw[←i2]
   simp [kZ]
 · simp only;omega
 · simp only;omega
 · have:=zZ s2 (cI (tW x k)) (.agg [q]) (G8 _)
    (fun x hx hxb hxo=>hk2 x hxo)
    (by rw[hk2 b hbn,hsb])
    (U9.2 ⟨q,rfl,hq2⟩)
   rw[UT] at this
   exact this
 · intro y hx
   show s2 y=st y
   rw[hk2 y (fun h=>hx (qF y h)),i6 y hx]
abbrev aR1:=zi tI_3 (zi zI_3 (zi aZ (zi tI_26 (zi zI_26 (zi nD (zi sG (zi sJ (zi uU (zi tI_31 (zi zI_31 (zi aO (zi bH (zi bJ (zi bZ (zi tI_59 (zi zI_59 (zi vU vI)))))))))))))))))
theorem Z2(l:List (List Tm))(j:Int)(st:aB)(h0:0≤j)(h1:j+aR kZ l≤1099511627776) :
 aD prog 27 [.slice ((gX tW kZ l j).map cI),.int .i64 j] st (fun r st'=>r=.int .i64 (j+aR kZ l)∧st'=st):=by
 refine wF [1000000] 2 func27 ntmps27 rfl rfl ?_
 simp only[d5,AV.fits,d9,aF,I1]
 intro ⟨hl,_⟩
 have hML:(gX tW kZ l j).length=l.length:=I1 _ _ _ _
 simp -implicitDefEqProofs only[aA,seval]
 refine eH (σ:=Unit) [1000000] [0] (gX tW kZ l j) (fun i _=>True) (fun i _=>[(1,.int .i64 (j+aR kZ (l.take i))),(4,.int .i64 0),(5,.int .i64 i)]) (fun _ _=>st) (by decide +kernel) ⟨(),trivial,aN.mk (by simp -implicitDefEqProofs only[aR,j9,Int.add_zero,aA,↓aX,seval])⟩ (fun i x _ hx hlt bQ hdr _=>?_) (fun _ hge _=>?_)
 case refine_2=>
  rw[hML] at hge
  simp -implicitDefEqProofs only[hge,eN,aF,hML,aA,seval,aR1]
 rw[hML] at hlt bQ
 obtain⟨y,hy⟩:∃y,l[i]?=some y:=⟨_,dZ hlt⟩
 have hxy:x=tW y (j+aR kZ (l.take i)):=by
  have:=UR tW kZ l j i
  rw[hdr,pQ hlt,gX,(fR.1 hy).2] at this
  exact(yQ this).1
 have hs:=yG kZ hy
 rw[show kZ y=aR Tm.dV y from rfl] at hs
 have hat:=bO (av:=cI) nD hx (G8 x)
 rw[hxy,tW,cI] at hat
 obtain⟨hs1,hs2⟩:=hs
 generalize hk:j+(aR kZ (l.take i):Int)=m at *
 have hw:=bE (n:=(i:Int)+1)
 simp -implicitDefEqProofs only[bQ,bX,aF,hML,hat,aA,seval,aR1]
 refine(Z3 y m _ (by omega) (by omega)).to ?_
 have oO:¬(m+(aR Tm.dV y:Int)<0):=by omega
 simp -implicitDefEqProofs only[oO,b9,aA,seval]
 refine⟨(),aN.mk ?_⟩
 have e:j+(aR kZ (l.take (i+1)):Int)=m+(aR Tm.dV y:Int):=by omega
 simp -implicitDefEqProofs only[hw,e,aA,seval]
end Go.AW
namespace Go.AW
section
variable {P:Program}
def AE(ops:Array Oper)(S:List Nat):List (Nat×Nat)→Array Bool→Option (Array Bool)
 | [],listed=>some listed
 | (i,0)::r,listed=>if decide (Region.ready .any ops listed= [i])&& !S.contains i then AE ops S r (listed.setIfInBounds i true) else none
 | (i,1)::r,listed=>if(Region.ready .any ops listed).contains i&&Region.free .any ops listed i&&S.contains i then AE ops S r (listed.setIfInBounds i true) else none
 | _::_,_=>none
theorem QM{ops:Array Oper}{S:List Nat}{s0:aB}{K K':AF→aB→Prop}{n:Nat}:∀(p:List (Nat×Nat)) (listed l':Array Bool) (φ:AF) (st:aB),tG ops listed→AE ops S p listed=some l'→eR s0 st →
 (∀φ st,tG ops l'→eR s0 st→K' φ st→wY P ops S s0 K n l' φ st)→BM P ops s0 K' p φ st→wY P ops S s0 K (p.length+n) listed φ st
 | [],listed,l',φ,st,hcl,hB,hx,hK,h=>by
  simp only[AE,Option.some.injEq] at hB
  subst hB
  rw[bA,iJ]
  exact hK φ st hcl hx h
 | (i,0)::r,listed,l',φ,st,hcl,hB,hx,hK,h=>by
  simp only[AE] at hB
  split at hB
  case isFalse=>cases hB
  rename_i hc
  simp only[cK,bL,iX] at hc
  obtain⟨o,ho,h'⟩:=h
  have hr:i∈Region.ready .any ops listed:=by rw[hc.1];simp
  rw[aQ,show r.length+1+n=(r.length+n)+1 by omega]
  refine⟨fun h0=>(by rw[hc.1] at h0;cases h0),fun j hj=>?_⟩
  rw[hc.1] at hj
  obtain rfl:j=i:=by simpa using hj
  exact⟨o,ho,.inr ⟨hc.2,tU (fun v st' q=>⟨.inr q.1,QM r _ _ _ _ (hcl.set hr) hB q.1 hK q.2⟩) h'⟩⟩
 | (i,1)::r,listed,l',φ,st,hcl,hB,hx,hK,h=>by
  simp only[AE] at hB
  split at hB
  case isFalse=>cases hB
  rename_i hc
  simp only[cK] at hc
  obtain⟨⟨hr,hf⟩,hS⟩:=hc
  obtain⟨o,ho,v,hv,h'⟩:=h
  have hr':i∈Region.ready .any ops listed:=by simpa using hr
  rw[aQ,show r.length+1+n=(r.length+n)+1 by omega]
  exact YM ho hS _ listed φ st hcl (Region.free_spec ho hf) hr' hv hx (QM r _ _ _ _ (hcl.set hr') hB hx hK h')
 | (i,k+2)::r,listed,l',φ,st,hcl,hB,hx,hK,h=>by simp [AE] at hB
inductive PT where
 | fin (p:List (Nat×Nat))
 | br (p:List (Nat×Nat)) (i j:Nat) (a b:PT)
def PT.size:PT→Nat
 | .fin p=>p.length
 | .br p _ _ a _=>p.length+(a.size+1)
def FQ(ops:Array Oper)(S:List Nat):PT→Array Bool→Bool
 | .fin p,l=>sS ops S p l&&CM p
 | .br p i j a b,l=>match AE ops S p l with
  | none=>false
  | some l'=>decide (Region.ready .any ops l'= [i,j])&& !S.contains i&& !S.contains j&&decide (b.size=a.size)&&FQ ops S a (l'.setIfInBounds i true)&&FQ ops S b (l'.setIfInBounds j true)
def sA(P:Program)(ops:Array Oper)(s0:aB)(K:AF→aB→Prop):PT→AF→aB→Prop
 | .fin p,φ,st=>iZ P ops s0 K p φ st
 | .br p i j a b,φ,st=>iZ P ops s0 (fun φ st=>
  (match ops[i]? with | none=>False | some o=>bK P [] ops [o] (fun φ' st'=>eR s0 st'∧sA P ops s0 K a φ' st') φ st) ∧
  (match ops[j]? with | none=>False | some o=>bK P [] ops [o] (fun φ' st'=>eR s0 st'∧sA P ops s0 K b φ' st') φ st)) p φ st
def NK(P:Program)(ops:Array Oper)(s0:aB)(K:AF→aB→Prop)(t:PT)(φ:AF)(st:aB):Prop:=eR s0 st∧sA P ops s0 K t φ st
def wG(P:Program)(ops:Array Oper)(s0:aB)(K:AF→aB→Prop)(t:PT)(φ:AF)(st:aB):Option Oper→Prop
 | none=>False
 | some o=>bK P [] ops [o] (NK P ops s0 K t) φ st
def LO(P:Program)(ops:Array Oper)(s0:aB)(K:AF→aB→Prop)(i j:Nat)(a b:PT)(φ:AF)(st:aB):Prop:=wG P ops s0 K a φ st ops[i]?∧wG P ops s0 K b φ st ops[j]?
theorem GT{ops:Array Oper}{s0:aB}{K:AF→aB→Prop}{p:List (Nat×Nat)}{φ:AF}{st:aB}:sA P ops s0 K (.fin p) φ st=iZ P ops s0 K p φ st:=by rw[sA]
theorem XZ{ops:Array Oper}{s0:aB}{K:AF→aB→Prop}{p:List (Nat×Nat)}{i j:Nat}{a b:PT}{φ:AF}{st:aB}:sA P ops s0 K (.br p i j a b) φ st=iZ P ops s0 (LO P ops s0 K i j a b) p φ st:=by
 rw[sA]
 congr 1
theorem aTL{l:List Oper}{s0:aB}{K:AF→aB→Prop}{i j:Nat}{a b:PT}{φ:AF}{st:aB}:LO P l.toArray s0 K i j a b φ st=(wG P l.toArray s0 K a φ st l[i]?∧wG P l.toArray s0 K b φ st l[j]?):=by
 simp only[LO,yT]
theorem aTM{ops:Array Oper}{s0:aB}{K:AF→aB→Prop}{t:PT}{φ:AF}{st:aB}{o:Oper}:wG P ops s0 K t φ st (some o)=bK P [] ops [o] (NK P ops s0 K t) φ st:=by rw[wG]
theorem X0{ops:Array Oper}{s0:aB}{K:AF→aB→Prop}{t:PT}{φ:AF}{st:aB}:NK P ops s0 K t φ st=(eR s0 st∧sA P ops s0 K t φ st):=by rw[NK]
theorem aQ0{ops:Array Oper}{s0:aB}{K:AF→aB→Prop}{t:PT}{φ:AF}{st:aB}{i:Nat}(h:wG P ops s0 K t φ st ops[i]?) :
 ∃o,ops[i]?=some o∧jX P ops o φ st (fun v st'=>eR s0 st'∧sA P ops s0 K t (φ.put o.dst v) st'):=by
 cases ho:ops[i]? with
 | none=>rw[ho] at h;exact h.elim
 | some o=>
  rw[ho] at h
  refine⟨o,rfl,?_⟩
  simp only[wG,bK] at h
  unfold jX
  split at h
  · rename_i hg
    rw[hg]
    exact BN (fun v s q=>q) h
  · rename_i hg
    rw[hg]
    exact⟨h.1,h.2⟩
  · exact h.elim
theorem QL{ops:Array Oper}{S:List Nat}{s0:aB}{K:AF→aB→Prop}:∀(t:PT) (listed:Array Bool) (φ:AF) (st:aB),tG ops listed→FQ ops S t listed=true→eR s0 st→sA P ops s0 K t φ st→wY P ops S s0 K t.size listed φ st
 | .fin p,listed,φ,st,hcl,hB,hx,h=>by
  simp only[FQ,cK] at hB
  rw[GT] at h
  exact G2 p _ _ _ hcl hB.1 (.inl ⟨hB.2,hx⟩) (vC _ _ _ h)
 | .br p i j a b,listed,φ,st,hcl,hB,hx,h=>by
  simp only[FQ] at hB
  split at hB
  · cases hB
  rename_i l' hl'
  simp only[cK,bL,iX] at hB
  obtain⟨⟨⟨⟨⟨hr,hSi⟩,hSj⟩,hsz⟩,hBa⟩,hBb⟩:=hB
  rw[XZ] at h
  refine QM (K':=LO P ops s0 K i j a b) p _ _ _ _ hcl hl' hx (fun φ st hcl hx hK=>?_) (vC _ _ _ h)
  refine⟨fun h0=>(by rw[hr] at h0;cases h0),fun k hk=>?_⟩
  have hk':=hk
  rw[hr] at hk'
  rcases c8.1 hk' with rfl | hk'
  · obtain⟨o,ho,h2⟩:=aQ0 hK.1
    exact⟨o,ho,.inr ⟨hSi,tU (fun v st' q=>⟨.inr q.1,QL a _ _ _ (hcl.set hk) hBa q.1 q.2⟩) h2⟩⟩
  · obtain rfl:k=j:=by simpa using hk'
    obtain⟨o,ho,h2⟩:=aQ0 hK.2
    have:=fun(v:AV) (st':aB) (q:eR s0 st'∧sA P ops s0 K b (φ.put o.dst v) st')=>QL (S:=S) b _ _ _ (hcl.set hk) hBb q.1 q.2
    rw[hsz] at this
    exact⟨o,ho,.inr ⟨hSj,tU (fun v st' q=>⟨.inr q.1,this v st' q⟩) h2⟩⟩
theorem QY{N:Nat}{id:Nat}{l:List Oper}{Q:Exit→AF→aB→Prop}{φ:AF}{st:aB}(t:PT)(S:List Nat)(s0:aB)(hm:P.follows .mixedOrders=true)(hok:qM N l.toArray=true)(hl:t.size=l.length)(hB:FQ l.toArray S t (Array.replicate l.toArray.size false)=true)(hs:eR s0 st)
 (h:sA P l.toArray s0 (Q .normal) t φ st):g7 P N (.region id l.toArray true) Q φ st:=by
 intro a w R
 refine wp_region_any hm ?_
 have R0:Rel N a { w with drawn:=w.drawn+1 } φ st:=⟨R.size,R.defers,R.frame,R.store⟩
 have key:=QL (P:=P) (ops:=l.toArray) (S:=S) (s0:=s0) (K:=Q .normal) t (Array.replicate l.toArray.size false) φ st (fun j o _ hl=>(by rw[SY] at hl;cases hl)) hB hs h
 rw[hl,←List.size_toArray] at key
 exact K6 (AD hok) (yA hok) (w0:=w) (st0:=st) (fun φ' st' a' w' k R' T s=>⟨φ',st',R',T,s,k⟩) _ _ _ _ _ _ (K7 _ _ _ _ key) R0 (cC.refl _ _) ⟨rfl,rfl,rfl⟩
end
@[congr] theorem bAZ {P:Program} {ops:Array Oper} {s0:aB} {K:AF→aB→Prop} {t:PT} {φ φ':AF} {st st':aB} {o o':Option Oper} (h1:φ=φ') (h2:st=st') (h3:o=o'):wG P ops s0 K t φ st o=wG P ops s0 K t φ' st' o':=by rw[h1,h2,h3]
end Go.AW
namespace Go.AW
open Go.Proofs.Tryz
theorem AG{p:List Cl}{cnd:Tm→List Nat→List Nat}{s:RS}{g:RG}{rest:List RG}(h:eQ (g.t.aM (rs s.σ))=true→lX (g.t.aM (rs s.σ))=false→isBuiltin (g.t.aM (rs s.σ)).s ((g.t.aM (rs s.σ)).ts.length:Int)=false→dG p (g.t.aM (rs s.σ))= []):iB p cnd s g rest=iB p (fun _ l=>l) s g rest:=by
 unfold iB
 by_cases h1:eQ (g.t.aM (rs s.σ))=false
 · rw[aH h1,aH h1]
 rw[aE h1,aE h1]
 by_cases h2:lX (g.t.aM (rs s.σ))=true
 · rw[aH h2,aH h2]
 rw[aE h2,aE h2]
 by_cases h3:isBuiltin (g.t.aM (rs s.σ)).s ((g.t.aM (rs s.σ)).ts.length:Int)=true
 · rw[aH h3,aH h3]
 rw[aE h3,aE h3,aH (h (by simpa using h1) (by simpa using h2) (by simpa using h3)),aH (h (by simpa using h1) (by simpa using h2) (by simpa using h3))]
abbrev eK:=zi tI_2 (zi zI_2 (zi KA (zi tI_3 (zi zI_3 (zi aZ (zi tI_4 (zi zI_4 (zi cG (zi tI_9 (zi zI_9 (zi cF (zi tI_29 (zi zI_29 (zi fN (zi iT (zi iU (zi jK (zi tI_31 (zi zI_31 (zi aO (zi bH (zi bJ (zi bZ (zi tI_46 (zi zI_46 (zi dK (zi fM (zi fJ (zi fX (zi tI_66 (zi zI_66 (zi bS (zi bT (zi bU (zi bV (zi bR (zi tI_163 (zi zI_163 (zi sH (zi zH (zi zL (zi F9 (zi tI_166 (zi zI_166 (zi B1 (zi B2 (zi B3 (zi BQ (zi tI_254 (zi zI_254 (zi MM (zi MN (zi MO (zi MP (zi LK (zi tI_286 (zi zI_286 (zi SS (zi ST Q0)))))))))))))))))))))))))))))))))))))))))))))))))))))))))))
theorem aX3{p:List Cl}(hp:∀c∈p,fL c∧c.2.length≤6)(hpl:p.length≤1048576){B:Nat}(hB:B+26≤524288)(goals:List RG)(σ:Sub)(N:Nat)(chs:List RC)(g:RG)(rest:List RG)(hgs:goals=g::rest)(h:oE p B ⟨goals,σ,N,chs⟩)(hK:vB ⟨goals,σ,N,chs⟩)(st:aB) :
 aD prog 240 [.slice (p.map bB),.agg [.slice (goals.map eO),.slice (cY N σ),.slice (chs.map gO)]] st (fun r st'=>eF ⟨goals,σ,N,chs⟩ (iB p (dE p) ⟨goals,σ,N,chs⟩ g rest) r∧st'=st):=by
 have hold:=fun st=>aXZ hp hpl hB goals σ N chs g rest hgs h hK st
 subst hgs
 obtain⟨hg,ho,hd,hgo,h0,hN,hgl,hcl,hch⟩:=h
 simp only at hg ho hd hgo h0 hN hgl hcl hch
 obtain⟨hgx,hg3⟩:=hgo g (by simp)
 have xW:∀x∈rest,bF N x.t∧x.t.k=3:=fun x hx=>hgo x (by simp [hx])
 have hkp:=hK.goals.2 g (by simp)
 simp only at hkp
 have hsm:=RN hg ho g.t hgx
 have hyk:(g.t.aM (rs σ)).k=3:=by rw[Tm.rK _ (by omega)];exact hg3
 have hfo:=ET hg ho hgx
 generalize hR:iB p (dE p) ⟨g::rest,σ,N,chs⟩ g rest=R
 obtain⟨⟨gk,gn,gs',gts⟩,aV⟩:=g
 simp only at hgx hg3 hkp hsm hyk hfo
 have hRu:iB p (dE p) ⟨⟨.mk gk gn gs' gts,aV⟩::rest,σ,N,chs⟩ ⟨.mk gk gn gs' gts,aV⟩ rest=_:=rfl
 conv at hRu=>rhs;unfold iB
 dsimp only at hRu
 generalize hy0:(Tm.mk gk gn gs' gts).aM (rs σ)=y at *
 obtain⟨yk,yn,ys,yts⟩:=y
 obtain rfl:yk=3:=hyk
 have hat:dM prog 163 (.slice ((⟨.mk gk gn gs' gts,aV⟩::rest).map eO)) (.int .i64 0)=some (.pptr (eO ⟨.mk gk gn gs' gts,aV⟩)):=bO (av:=eO) (l:=⟨.mk gk gn gs' gts,aV⟩::rest) (i:=0) sH rfl (AJ _)
 have hs1:=fun(φ:AF) (y:Operand) (h:φ.eval y=.int .i64 1)=>aQU (e:=eO ⟨.mk gk gn gs' gts,aV⟩) (es:=rest.map eO) sH h (by intro e he;simp only[cU] at he;obtain⟨t,_,rfl⟩:=he;exact AJ t)
 rw[aW,pM] at hat
 rw[pM] at hs1
 rw[aW,pM] at hold
 rw[aW,pM]
 have uG:∀st,aD prog 269 [.agg [.int .i64 3,.int .i64 yn,.str ys,.slice (yts.map Tm.av)]] st (fun r st'=>r=.bool (lX (.mk 3 yn ys yts))∧st'=st):=fun st=>by
  have:=RK 3 yn ys yts st
  rw[aY] at this
  exact this
 have hbi:=fun st=>LY ys (yts.length:Int) st
 have xV:=fun st=>RL p (.mk 3 yn ys yts) hpl st
 have E0:=fun hy st=>aX0 hp hpl (N:=N) (t:=.mk 3 yn ys yts) hy st
 simp only[aY] at hsm xV E0
 refine aD.HN (Q:=fun r=>eF _ R r) ?_
 refine wF [1000000,4] 2 func240 ntmps240 rfl rfl ?_
 intro _
 simp -implicitDefEqProofs only[aA,seval,eK]
 intro b4 h4
 refine QY (.br [(0,1),(1,1),(2,1),(3,1),(4,1),(5,1),(6,1)] 7 11 (.fin [(8,1),(9,1),(10,1),(11,0),(12,0),(13,1)]) (.fin [(7,0),(8,1),(9,1),(10,1),(12,0),(13,1)])) [0,1,2,3,4,5,6,8,9,10,13] fE mixed (by decide +kernel) rfl (by decide +kernel) fZ ?_
 simp -implicitDefEqProofs only[aQ,hat,GT,XZ,aTL,aTM,X0,aA,seval,eK]
 generalize fD:eQ (.mk 3 yn ys yts)=fit at *
 refine⟨?_,fun b6 h6=>⟨fZ,?_⟩⟩
 · refine(hsm _).mono ?_
   rintro _ _ ⟨rfl,x,rfl,hx⟩
   simp -implicitDefEqProofs only[aG,aQ,cB,bY,GT,X0,aA,seval,eK]
   refine⟨fZ,fun b6 h6=>⟨fZ,fZ,?_⟩⟩
   have hD:aL ((st.aC b4 (AO.cells [AV.fslice [],AV.fslice [],AV.fslice []])).aC b6 (AO.cells x.av.cells)) st:=((aL.refl _).aC h6).trans ((aL.refl _).aC h4)
   have hne:b4≠b6:=by rintro rfl;rw[aB.aP] at h6;cases h6
   generalize hT:(st.aC b4 (AO.cells [AV.fslice [],AV.fslice [],AV.fslice []])).aC b6 (AO.cells x.av.cells)=T at *
   have hT6:T b6=some (.cells x.av.cells):=by rw[←hT];exact aB.aP _ _ _
   have hT4:T b4=some (.cells [.fslice [],.fslice [],.fslice []]):=by rw[←hT,aB.aJ _ _ hne];exact aB.aP _ _ _
   refine cS (fun h=>?_) (fun h=>?_)
   case refine_2=>
    obtain rfl:fit=false:=by simpa using h
    simp -implicitDefEqProofs only[aQ,aA,seval,eK]
    have hR':=(AG (p:=p) (cnd:=dE p) (s:=⟨⟨.mk gk gn gs' gts,aV⟩::rest,σ,N,chs⟩) (g:=⟨.mk gk gn gs' gts,aV⟩) (rest:=rest) (by dsimp only;rw[hy0];exact fun h1=>absurd (fD.symm.trans h1) (by decide)))
    rw[hR'] at hR
    rw[hR] at hold
    refine(hold _).mono ?_
    rintro r _ ⟨rfl,hr⟩
    clear hR hR'
    cases R with
    | go s'=>
     simp only[eF,d6] at hr
     subst hr
     simp -implicitDefEqProofs only[aG,aQ,hT4,aA,seval,eK]
     exact⟨by simp only[eG,eJ,d7,fV,aW,aU,eF,d6],hD.aC h4⟩
    | fail=>
     simp only[eF,d6] at hr
     subst hr
     simp -implicitDefEqProofs only[aG,aQ,hT4,aA,seval,eK]
     exact⟨by simp only[eG,eJ,d7,fV,aW,aU,eF,d6],hD.aC h4⟩
    | stop e=>
     obtain⟨he,l1,l2,l3,rfl⟩:=hr
     simp -implicitDefEqProofs only[aG,aQ,hT4,aA,seval,eK]
     exact⟨⟨he,l1,l2,l3,by simp only[eG,eJ,d7,fV,aW,aU]⟩,hD.aC h4⟩
   obtain rfl:fit=true:=by simpa using h
   obtain rfl:=hx rfl
   have hyo:=hfo rfl
   simp only[aY,AV.cells] at hT6
   simp -implicitDefEqProofs only[h,aQ,hT6,aA,seval,eK]
   refine(uG _).to ?_
   simp -implicitDefEqProofs only[aA,seval]
   refine cS (fun h2=>?_) (fun h2=>?_)
   case refine_2=>
    have h':lX (.mk 3 yn ys yts)=true:=by simpa using h2
    simp -implicitDefEqProofs only[h2,aQ,aA,seval,eK]
    have hR':=(AG (p:=p) (cnd:=dE p) (s:=⟨⟨.mk gk gn gs' gts,aV⟩::rest,σ,N,chs⟩) (g:=⟨.mk gk gn gs' gts,aV⟩) (rest:=rest) (by dsimp only;rw[hy0];exact fun _ h3=>absurd (h'.symm.trans h3) (by decide)))
    rw[hR'] at hR
    rw[hR] at hold
    refine(hold _).mono ?_
    rintro r _ ⟨rfl,hr⟩
    clear hR hR'
    cases R with
    | go s'=>
     simp only[eF,d6] at hr
     subst hr
     simp -implicitDefEqProofs only[aG,aQ,hT4,aA,seval,eK]
     exact⟨by simp only[eG,eJ,d7,fV,aW,aU,eF,d6],hD.aC h4⟩
    | fail=>
     simp only[eF,d6] at hr
     subst hr
     simp -implicitDefEqProofs only[aG,aQ,hT4,aA,seval,eK]
     exact⟨by simp only[eG,eJ,d7,fV,aW,aU,eF,d6],hD.aC h4⟩
    | stop e=>
     obtain⟨he,l1,l2,l3,rfl⟩:=hr
     simp -implicitDefEqProofs only[aG,aQ,hT4,aA,seval,eK]
     exact⟨⟨he,l1,l2,l3,by simp only[eG,eJ,d7,fV,aW,aU]⟩,hD.aC h4⟩
   have hcu:lX (.mk 3 yn ys yts)=false:=by simpa using h2
   simp -implicitDefEqProofs only[h2,aF,hT6,aA,seval,eK]
   refine(hbi _).to ?_
   simp -implicitDefEqProofs only[aA,seval]
   refine cS (fun h3=>?_) (fun h3=>?_)
   case refine_2=>
    have h':isBuiltin ys (yts.length:Int)=true:=by simpa using h3
    simp -implicitDefEqProofs only[h3,aQ,aA,seval,eK]
    have hR':=(AG (p:=p) (cnd:=dE p) (s:=⟨⟨.mk gk gn gs' gts,aV⟩::rest,σ,N,chs⟩) (g:=⟨.mk gk gn gs' gts,aV⟩) (rest:=rest) (by dsimp only;rw[hy0];exact fun _ _ h4=>absurd (h'.symm.trans h4) (by decide)))
    rw[hR'] at hR
    rw[hR] at hold
    refine(hold _).mono ?_
    rintro r _ ⟨rfl,hr⟩
    clear hR hR'
    cases R with
    | go s'=>
     simp only[eF,d6] at hr
     subst hr
     simp -implicitDefEqProofs only[aG,aQ,hT4,aA,seval,eK]
     exact⟨by simp only[eG,eJ,d7,fV,aW,aU,eF,d6],hD.aC h4⟩
    | fail=>
     simp only[eF,d6] at hr
     subst hr
     simp -implicitDefEqProofs only[aG,aQ,hT4,aA,seval,eK]
     exact⟨by simp only[eG,eJ,d7,fV,aW,aU,eF,d6],hD.aC h4⟩
    | stop e=>
     obtain⟨he,l1,l2,l3,rfl⟩:=hr
     simp -implicitDefEqProofs only[aG,aQ,hT4,aA,seval,eK]
     exact⟨⟨he,l1,l2,l3,by simp only[eG,eJ,d7,fV,aW,aU]⟩,hD.aC h4⟩
   have hnb:isBuiltin ys (yts.length:Int)=false:=by simpa using h3
   simp -implicitDefEqProofs only[h3,aQ,hT6,aA,seval,eK]
   refine(xV _).to ?_
   simp -implicitDefEqProofs only[aF,aA,seval,eK]
   refine aS (fun h5=>?_) (fun h5=>?_)
   · have h':dG p (.mk 3 yn ys yts)= []:=by
      have:((dG p (.mk 3 yn ys yts)).length:Int)=0:=by simpa using h5
      exact oB (by omega)
     simp -implicitDefEqProofs only[aQ,aA,seval,eK]
     have hR':=(AG (p:=p) (cnd:=dE p) (s:=⟨⟨.mk gk gn gs' gts,aV⟩::rest,σ,N,chs⟩) (g:=⟨.mk gk gn gs' gts,aV⟩) (rest:=rest) (by dsimp only;rw[hy0];exact fun _ _ _=>h'))
     rw[hR'] at hR
     rw[hR] at hold
     refine(hold _).mono ?_
     rintro r _ ⟨rfl,hr⟩
     clear hR hR'
     cases R with
     | go s'=>
      simp only[eF,d6] at hr
      subst hr
      simp -implicitDefEqProofs only[aG,aQ,hT4,aA,seval,eK]
      exact⟨by simp only[eG,eJ,d7,fV,aW,aU,eF,d6],hD.aC h4⟩
     | fail=>
      simp only[eF,d6] at hr
      subst hr
      simp -implicitDefEqProofs only[aG,aQ,hT4,aA,seval,eK]
      exact⟨by simp only[eG,eJ,d7,fV,aW,aU,eF,d6],hD.aC h4⟩
     | stop e=>
      obtain⟨he,l1,l2,l3,rfl⟩:=hr
      simp -implicitDefEqProofs only[aG,aQ,hT4,aA,seval,eK]
      exact⟨⟨he,l1,l2,l3,by simp only[eG,eJ,d7,fV,aW,aU]⟩,hD.aC h4⟩
   have TY:dG p (.mk 3 yn ys yts)≠[]:=fun e=>by simp [e] at h5
   simp -implicitDefEqProofs only[aA,seval]
   refine QY (.fin [(0,1),(1,1),(2,1),(3,1),(4,1),(5,1),(6,1),(7,1),(8,1),(9,1),(10,1),(11,1),(12,1),(13,1),(14,1),(15,1),(16,0),(17,0),(18,1)]) [0,1,2,3,4,5,6,7,8,9,10,11,12,13,14,15,18] (one b6 (.cells [.int .i64 3,.int .i64 yn,.str ys,.slice (yts.map Tm.av)])) mixed (by decide +kernel) rfl (by decide +kernel) (gH hT6) ?_
   simp -implicitDefEqProofs only[aQ,hs1,uN,GT,aA,seval,eK]
   refine ED (fun st _=>E0 hyo st) ?_
   have hcx:r0 p ⟨.mk 3 yn ys yts,rest,dE p (.mk 3 yn ys yts) (dG p (.mk 3 yn ys yts)),σ,N⟩:=⟨hg,ho,hd,hyo,xW,fun i hi=>by
    have:=(BV p _ _).1 i hi
    unfold dG at this
    exact qT.1 (u7.1 this).1,by simp only;simp only[aQ] at hgl;omega,by
    have h8:=B6 p (.mk 3 yn ys yts) p.length
    rw[←B5] at h8
    have h9:=(BV p (.mk 3 yn ys yts) (dG p (.mk 3 yn ys yts))).2
    simp only;omega⟩
   have qH:=fun st=>(LX p hp (⟨.mk gk gn gs' gts,aV⟩::rest) (cY N σ) chs _ hcx h0 (by simp only;omega) (by omega) st).mono fun _ _ h=>And.symm h
   rw[aW,pM,JC] at qH
   rw[hR] at hRu
   rw[aE (by decide),aE (by rw[hcu];decide),aE (by show ¬isBuiltin ys (yts.length:Int)=true;rw[hnb];decide),aE TY] at hRu
   simp only at qH
   generalize dE p (.mk 3 yn ys yts) (dG p (.mk 3 yn ys yts))=left at *
   simp -implicitDefEqProofs only[aQ,aA,seval,eK]
   refine ED (fun st _=>qH st) ?_
   generalize fK p chs (.mk 3 yn ys yts) rest σ N left=X at *
   clear hR
   cases X with
   | none=>
    simp only at hRu
    subst hRu
    simp -implicitDefEqProofs only[aG,aQ,aA,seval,eK]
    intro b hb
    have hb4:b4≠b:=by rintro rfl;rw[hT4] at hb;cases hb
    have hb6:b6≠b:=by rintro rfl;rw[hT6] at hb;cases hb
    refine⟨gH (by rw[aB.aJ _ _ hb6];exact hT6),gH (by rw[aB.aJ _ _ hb6];exact hT6),?_⟩
    rw[aB.aJ _ _ hb4,hT4]
    exact⟨rfl,by simp,by simp only[eG,eJ,d7,fV,aW,aU,eF,d6,aW,pM],(hD.aC ((hD b).1 hb)).aC h4⟩
   | some s'=>
    simp only[d6] at hRu ⊢
    subst hRu
    simp -implicitDefEqProofs only[aG,aQ,aA,seval,eK]
    intro b hb
    have hb4:b4≠b:=by rintro rfl;rw[hT4] at hb;cases hb
    have hb6:b6≠b:=by rintro rfl;rw[hT6] at hb;cases hb
    refine⟨gH (by rw[aB.aJ _ _ hb6];exact hT6),gH (by rw[aB.aJ _ _ hb6];exact hT6),?_⟩
    rw[aB.aJ _ _ hb4,hT4]
    exact⟨rfl,by simp,by simp only[eG,eJ,d7,fV,aW,aU,eF,d6,aW],(hD.aC ((hD b).1 hb)).aC h4⟩
 · refine(hsm _).mono ?_
   rintro _ _ ⟨rfl,x,rfl,hx⟩
   simp -implicitDefEqProofs only[aG,aQ,cB,bY,aA,seval,eK]
   refine⟨fZ,fZ,?_⟩
   have hD:aL ((st.aC b4 (AO.cells [AV.fslice [],AV.fslice [],AV.fslice []])).aC b6 (AO.cells x.av.cells)) st:=((aL.refl _).aC h6).trans ((aL.refl _).aC h4)
   have hne:b4≠b6:=by rintro rfl;rw[aB.aP] at h6;cases h6
   generalize hT:(st.aC b4 (AO.cells [AV.fslice [],AV.fslice [],AV.fslice []])).aC b6 (AO.cells x.av.cells)=T at *
   have hT6:T b6=some (.cells x.av.cells):=by rw[←hT];exact aB.aP _ _ _
   have hT4:T b4=some (.cells [.fslice [],.fslice [],.fslice []]):=by rw[←hT,aB.aJ _ _ hne];exact aB.aP _ _ _
   refine cS (fun h=>?_) (fun h=>?_)
   case refine_2=>
    obtain rfl:fit=false:=by simpa using h
    simp -implicitDefEqProofs only[aQ,aA,seval,eK]
    have hR':=(AG (p:=p) (cnd:=dE p) (s:=⟨⟨.mk gk gn gs' gts,aV⟩::rest,σ,N,chs⟩) (g:=⟨.mk gk gn gs' gts,aV⟩) (rest:=rest) (by dsimp only;rw[hy0];exact fun h1=>absurd (fD.symm.trans h1) (by decide)))
    rw[hR'] at hR
    rw[hR] at hold
    refine(hold _).mono ?_
    rintro r _ ⟨rfl,hr⟩
    clear hR hR'
    cases R with
    | go s'=>
     simp only[eF,d6] at hr
     subst hr
     simp -implicitDefEqProofs only[aG,aQ,hT4,aA,seval,eK]
     exact⟨by simp only[eG,eJ,d7,fV,aW,aU,eF,d6],hD.aC h4⟩
    | fail=>
     simp only[eF,d6] at hr
     subst hr
     simp -implicitDefEqProofs only[aG,aQ,hT4,aA,seval,eK]
     exact⟨by simp only[eG,eJ,d7,fV,aW,aU,eF,d6],hD.aC h4⟩
    | stop e=>
     obtain⟨he,l1,l2,l3,rfl⟩:=hr
     simp -implicitDefEqProofs only[aG,aQ,hT4,aA,seval,eK]
     exact⟨⟨he,l1,l2,l3,by simp only[eG,eJ,d7,fV,aW,aU]⟩,hD.aC h4⟩
   obtain rfl:fit=true:=by simpa using h
   obtain rfl:=hx rfl
   have hyo:=hfo rfl
   simp only[aY,AV.cells] at hT6
   simp -implicitDefEqProofs only[h,aQ,hT6,aA,seval,eK]
   refine(uG _).to ?_
   simp -implicitDefEqProofs only[aA,seval]
   refine cS (fun h2=>?_) (fun h2=>?_)
   case refine_2=>
    have h':lX (.mk 3 yn ys yts)=true:=by simpa using h2
    simp -implicitDefEqProofs only[h2,aQ,aA,seval,eK]
    have hR':=(AG (p:=p) (cnd:=dE p) (s:=⟨⟨.mk gk gn gs' gts,aV⟩::rest,σ,N,chs⟩) (g:=⟨.mk gk gn gs' gts,aV⟩) (rest:=rest) (by dsimp only;rw[hy0];exact fun _ h3=>absurd (h'.symm.trans h3) (by decide)))
    rw[hR'] at hR
    rw[hR] at hold
    refine(hold _).mono ?_
    rintro r _ ⟨rfl,hr⟩
    clear hR hR'
    cases R with
    | go s'=>
     simp only[eF,d6] at hr
     subst hr
     simp -implicitDefEqProofs only[aG,aQ,hT4,aA,seval,eK]
     exact⟨by simp only[eG,eJ,d7,fV,aW,aU,eF,d6],hD.aC h4⟩
    | fail=>
     simp only[eF,d6] at hr
     subst hr
     simp -implicitDefEqProofs only[aG,aQ,hT4,aA,seval,eK]
     exact⟨by simp only[eG,eJ,d7,fV,aW,aU,eF,d6],hD.aC h4⟩
    | stop e=>
     obtain⟨he,l1,l2,l3,rfl⟩:=hr
     simp -implicitDefEqProofs only[aG,aQ,hT4,aA,seval,eK]
     exact⟨⟨he,l1,l2,l3,by simp only[eG,eJ,d7,fV,aW,aU]⟩,hD.aC h4⟩
   have hcu:lX (.mk 3 yn ys yts)=false:=by simpa using h2
   simp -implicitDefEqProofs only[h2,aF,hT6,aA,seval,eK]
   refine(hbi _).to ?_
   simp -implicitDefEqProofs only[aA,seval]
   refine cS (fun h3=>?_) (fun h3=>?_)
   case refine_2=>
    have h':isBuiltin ys (yts.length:Int)=true:=by simpa using h3
    simp -implicitDefEqProofs only[h3,aQ,aA,seval,eK]
    have hR':=(AG (p:=p) (cnd:=dE p) (s:=⟨⟨.mk gk gn gs' gts,aV⟩::rest,σ,N,chs⟩) (g:=⟨.mk gk gn gs' gts,aV⟩) (rest:=rest) (by dsimp only;rw[hy0];exact fun _ _ h4=>absurd (h'.symm.trans h4) (by decide)))
    rw[hR'] at hR
    rw[hR] at hold
    refine(hold _).mono ?_
    rintro r _ ⟨rfl,hr⟩
    clear hR hR'
    cases R with
    | go s'=>
     simp only[eF,d6] at hr
     subst hr
     simp -implicitDefEqProofs only[aG,aQ,hT4,aA,seval,eK]
     exact⟨by simp only[eG,eJ,d7,fV,aW,aU,eF,d6],hD.aC h4⟩
    | fail=>
     simp only[eF,d6] at hr
     subst hr
     simp -implicitDefEqProofs only[aG,aQ,hT4,aA,seval,eK]
     exact⟨by simp only[eG,eJ,d7,fV,aW,aU,eF,d6],hD.aC h4⟩
    | stop e=>
     obtain⟨he,l1,l2,l3,rfl⟩:=hr
     simp -implicitDefEqProofs only[aG,aQ,hT4,aA,seval,eK]
     exact⟨⟨he,l1,l2,l3,by simp only[eG,eJ,d7,fV,aW,aU]⟩,hD.aC h4⟩
   have hnb:isBuiltin ys (yts.length:Int)=false:=by simpa using h3
   simp -implicitDefEqProofs only[h3,aQ,hT6,aA,seval,eK]
   refine(xV _).to ?_
   simp -implicitDefEqProofs only[aF,aA,seval,eK]
   refine aS (fun h5=>?_) (fun h5=>?_)
   · have h':dG p (.mk 3 yn ys yts)= []:=by
      have:((dG p (.mk 3 yn ys yts)).length:Int)=0:=by simpa using h5
      exact oB (by omega)
     simp -implicitDefEqProofs only[aQ,aA,seval,eK]
     have hR':=(AG (p:=p) (cnd:=dE p) (s:=⟨⟨.mk gk gn gs' gts,aV⟩::rest,σ,N,chs⟩) (g:=⟨.mk gk gn gs' gts,aV⟩) (rest:=rest) (by dsimp only;rw[hy0];exact fun _ _ _=>h'))
     rw[hR'] at hR
     rw[hR] at hold
     refine(hold _).mono ?_
     rintro r _ ⟨rfl,hr⟩
     clear hR hR'
     cases R with
     | go s'=>
      simp only[eF,d6] at hr
      subst hr
      simp -implicitDefEqProofs only[aG,aQ,hT4,aA,seval,eK]
      exact⟨by simp only[eG,eJ,d7,fV,aW,aU,eF,d6],hD.aC h4⟩
     | fail=>
      simp only[eF,d6] at hr
      subst hr
      simp -implicitDefEqProofs only[aG,aQ,hT4,aA,seval,eK]
      exact⟨by simp only[eG,eJ,d7,fV,aW,aU,eF,d6],hD.aC h4⟩
     | stop e=>
      obtain⟨he,l1,l2,l3,rfl⟩:=hr
      simp -implicitDefEqProofs only[aG,aQ,hT4,aA,seval,eK]
      exact⟨⟨he,l1,l2,l3,by simp only[eG,eJ,d7,fV,aW,aU]⟩,hD.aC h4⟩
   have TY:dG p (.mk 3 yn ys yts)≠[]:=fun e=>by simp [e] at h5
   simp -implicitDefEqProofs only[aA,seval]
   refine QY (.fin [(0,1),(1,1),(2,1),(3,1),(4,1),(5,1),(6,1),(7,1),(8,1),(9,1),(10,1),(11,1),(12,1),(13,1),(14,1),(15,1),(16,0),(17,0),(18,1)]) [0,1,2,3,4,5,6,7,8,9,10,11,12,13,14,15,18] (one b6 (.cells [.int .i64 3,.int .i64 yn,.str ys,.slice (yts.map Tm.av)])) mixed (by decide +kernel) rfl (by decide +kernel) (gH hT6) ?_
   simp -implicitDefEqProofs only[aQ,hs1,uN,GT,aA,seval,eK]
   refine ED (fun st _=>E0 hyo st) ?_
   have hcx:r0 p ⟨.mk 3 yn ys yts,rest,dE p (.mk 3 yn ys yts) (dG p (.mk 3 yn ys yts)),σ,N⟩:=⟨hg,ho,hd,hyo,xW,fun i hi=>by
    have:=(BV p _ _).1 i hi
    unfold dG at this
    exact qT.1 (u7.1 this).1,by simp only;simp only[aQ] at hgl;omega,by
    have h8:=B6 p (.mk 3 yn ys yts) p.length
    rw[←B5] at h8
    have h9:=(BV p (.mk 3 yn ys yts) (dG p (.mk 3 yn ys yts))).2
    simp only;omega⟩
   have qH:=fun st=>(LX p hp (⟨.mk gk gn gs' gts,aV⟩::rest) (cY N σ) chs _ hcx h0 (by simp only;omega) (by omega) st).mono fun _ _ h=>And.symm h
   rw[aW,pM,JC] at qH
   rw[hR] at hRu
   rw[aE (by decide),aE (by rw[hcu];decide),aE (by show ¬isBuiltin ys (yts.length:Int)=true;rw[hnb];decide),aE TY] at hRu
   simp only at qH
   generalize dE p (.mk 3 yn ys yts) (dG p (.mk 3 yn ys yts))=left at *
   simp -implicitDefEqProofs only[aQ,aA,seval,eK]
   refine ED (fun st _=>qH st) ?_
   generalize fK p chs (.mk 3 yn ys yts) rest σ N left=X at *
   clear hR
   cases X with
   | none=>
    simp only at hRu
    subst hRu
    simp -implicitDefEqProofs only[aG,aQ,aA,seval,eK]
    intro b hb
    have hb4:b4≠b:=by rintro rfl;rw[hT4] at hb;cases hb
    have hb6:b6≠b:=by rintro rfl;rw[hT6] at hb;cases hb
    refine⟨gH (by rw[aB.aJ _ _ hb6];exact hT6),gH (by rw[aB.aJ _ _ hb6];exact hT6),?_⟩
    rw[aB.aJ _ _ hb4,hT4]
    exact⟨rfl,by simp,by simp only[eG,eJ,d7,fV,aW,aU,eF,d6,aW,pM],(hD.aC ((hD b).1 hb)).aC h4⟩
   | some s'=>
    simp only[d6] at hRu ⊢
    subst hRu
    simp -implicitDefEqProofs only[aG,aQ,aA,seval,eK]
    intro b hb
    have hb4:b4≠b:=by rintro rfl;rw[hT4] at hb;cases hb
    have hb6:b6≠b:=by rintro rfl;rw[hT6] at hb;cases hb
    refine⟨gH (by rw[aB.aJ _ _ hb6];exact hT6),gH (by rw[aB.aJ _ _ hb6];exact hT6),?_⟩
    rw[aB.aJ _ _ hb4,hT4]
    exact⟨rfl,by simp,by simp only[eG,eJ,d7,fV,aW,aU,eF,d6,aW],(hD.aC ((hD b).1 hb)).aC h4⟩
abbrev OT:=zi tI_3 (zi zI_3 (zi aZ (zi tI_4 (zi zI_4 (zi cG (zi tI_29 (zi zI_29 (zi fN (zi iT (zi iU (zi jK (zi tI_166 (zi zI_166 (zi B1 (zi B2 (zi B3 BQ))))))))))))))))
theorem aX1{p:List Cl}(hp:∀c∈p,fL c∧c.2.length≤6)(hpl:p.length≤1048576){B:Nat}(hB:B+26≤524288)(goals:List RG)(σ:Sub)(N:Nat)(chs:List RC)(g:RG)(rest:List RG)(hgs:goals=g::rest)(h:oE p B ⟨goals,σ,N,chs⟩)(hK:vB ⟨goals,σ,N,chs⟩)(st:aB) :
 aD prog 160 [.slice (p.map bB),.agg [.slice (goals.map eO),.slice (cY N σ),.slice (chs.map gO)],.bool true] st (fun r st'=>eF ⟨goals,σ,N,chs⟩ (iB p (dE p) ⟨goals,σ,N,chs⟩ g rest) r∧st'=st):=by
 have hst:=fun st=>aX3 hp hpl hB goals σ N chs g rest hgs h hK st
 generalize iB p (dE p) ⟨goals,σ,N,chs⟩ g rest=R at *
 refine aD.HN (Q:=fun r=>eF _ R r) ?_
 refine wF [1000000,6] 3 func160 ntmps160 rfl rfl ?_
 intro _
 simp -implicitDefEqProofs only[aA,seval,OT]
 intro b4 h4
 refine(hst _).mono ?_
 rintro r _ ⟨hr,rfl⟩
 cases R with
 | go s'=>
  simp only[eF,d6] at hr
  subst hr
  simp -implicitDefEqProofs only[aG,aB.aP,aA,seval,OT]
  exact⟨by simp only[eG,eJ,d7,fV,aW,aU,eF,d6],(aL.refl _).aC h4⟩
 | fail=>
  simp only[eF,d6] at hr
  subst hr
  simp -implicitDefEqProofs only[aG,aB.aP,aA,seval,OT]
  exact⟨by simp only[eG,eJ,d7,fV,aW,aU,eF,d6],(aL.refl _).aC h4⟩
 | stop e=>
  obtain⟨he,l1,l2,l3,rfl⟩:=hr
  simp -implicitDefEqProofs only[aG,aB.aP,aA,seval,OT]
  exact⟨⟨he,l1,l2,l3,by simp only[eG,eJ,d7,fV,aW,aU]⟩,(aL.refl _).aC h4⟩
def k8(st:aB)(x y z:Nat)(a b c:AO):aB:=((st.aC x a).aC y b).aC z c
theorem ZP{st:aB}{x y z:Nat}{b:Nat}{l:List AV}(hxy:x≠y)(hxz:x≠z)(hyz:y≠z)(hb:l≠[]→b≠x∧b≠y∧b≠z) :
 (∀p q r,a8 (k8 st x y z p q r) b l x=some p)∧(∀p q r,a8 (k8 st x y z p q r) b l y=some q)∧(∀p q r,a8 (k8 st x y z p q r) b l z=some r) ∧
 (∀p q r o,(a8 (k8 st x y z p q r) b l).aC x o=a8 (k8 st x y z o q r) b l)∧(∀p q r o,(a8 (k8 st x y z p q r) b l).aC y o=a8 (k8 st x y z p o r) b l)∧(∀p q r o,(a8 (k8 st x y z p q r) b l).aC z o=a8 (k8 st x y z p q o) b l):=by
 refine⟨fun p q r=>?_,fun p q r=>?_,fun p q r=>?_,fun p q r o=>?_,fun p q r o=>?_,fun p q r o=>?_⟩
 · rw[QO fun h=>(hb h).1]
   unfold k8
   rw[aB.aJ _ _ hxz,aB.aJ _ _ hxy,aB.aP]
 · rw[QO fun h=>(hb h).2.1]
   unfold k8
   rw[aB.aJ _ _ hyz,aB.aP]
 · rw[QO fun h=>(hb h).2.2]
   unfold k8
   rw[aB.aP]
 · rw[QP fun h=>(hb h).1]
   unfold k8
   rw[aB.nL _ _ _ (c9 hxz),aB.nL _ _ _ (c9 hxy),c7]
 · rw[QP fun h=>(hb h).2.1]
   unfold k8
   rw[aB.nL _ _ _ (c9 hyz),c7]
 · rw[QP fun h=>(hb h).2.2]
   unfold k8
   rw[c7]
theorem aU1{st:aB}{x y z b:Nat}{p q r:AO}(h:k8 st x y z p q r b=none):b≠x∧b≠y∧b≠z∧st b=none:=by
 unfold k8 at h
 have h3:b≠z:=by rintro rfl;rw[aB.aP] at h;cases h
 rw[aB.aJ _ _ h3] at h
 have h2:b≠y:=by rintro rfl;rw[aB.aP] at h;cases h
 rw[aB.aJ _ _ h2] at h
 have h1:b≠x:=by rintro rfl;rw[aB.aP] at h;cases h
 rw[aB.aJ _ _ h1] at h
 exact⟨h1,h2,h3,h⟩
theorem ZQ{st:aB}{x y z b:Nat}(p q r:AO)(h:b≠x∧b≠y∧b≠z∧st b=none):k8 st x y z p q r b=none:=by
 unfold k8
 rw[aB.aJ _ _ h.2.2.1,aB.aJ _ _ h.2.1,aB.aJ _ _ h.1,h.2.2.2]
structure X2 (p:List Cl) (vars:List Int) (most fuel:Nat) (T:List (List Tm)×Int) (s:RS) (out:List (List Tm)) (f B:Nat):Prop where
 tot:T=(out++(kL p (dE p) vars (most - out.length) f s).1,(kL p (dE p) vars (most - out.length) f s).2)
 len:out.length≤most
 ok:lG p B s
 bd:B+26*f≤8000
abbrev lN:=zi tI_2 (zi zI_2 (zi KA (zi tI_3 (zi zI_3 (zi aZ (zi tI_4 (zi zI_4 (zi cG (zi tI_26 (zi zI_26 (zi nD (zi sG (zi sJ (zi uU (zi tI_29 (zi zI_29 (zi fN (zi iT (zi iU (zi jK (zi tI_31 (zi zI_31 (zi aO (zi bH (zi bJ (zi bZ (zi tI_46 (zi zI_46 (zi dK (zi fM (zi fJ (zi fX (zi tI_59 (zi zI_59 (zi vU (zi vI (zi tI_95 (zi zI_95 (zi aMT (zi aMU (zi aMV (zi ZG (zi tI_163 (zi zI_163 (zi sH (zi zH (zi zL (zi F9 (zi tI_164 (zi zI_164 (zi xJ (zi EL (zi EN (zi PK (zi tI_166 (zi zI_166 (zi B1 (zi B2 (zi B3 BQ)))))))))))))))))))))))))))))))))))))))))))))))))))))))))))
set_option maxHeartbeats 4000000 in
theorem aX2{p:List Cl}(hp:∀c∈p,fL c∧c.2.length≤6)(hpl:p.length≤20){q:List Tm}(hq:∀t∈q,bF 26 t∧t.k=3)(h6:q.length≤6){most fuel:Nat}(hm:most≤20)(hf:fuel≤300)(st:aB) :
 aD prog 72 [.slice (p.map bB),.slice (q.map Tm.av),.int .i64 (most:Int),.int .i64 (fuel:Int),.bool true] st (fun r st'=>(∃m,r=.agg [.slice ((AQ p (dE p) q most fuel).1.map cI),.int .i64 (AQ p (dE p) q most fuel).2,.int .i64 m])∧st'=st):=by
 have hnd:aR Tm.nodes q≤1099511627776:=by
  have:=FF q fun t ht=>(hq t ht).1.2
  omega
 have hva:=fun st=>aAV q st (fun t ht=>Tm.vP t (hq t ht).1.1.2.1) hnd
 have IP:=fun st=>aXY q (fun t ht=>(hq t ht).1) h6 st
 have hv:∀v∈cD q [],0≤v∧v<26:=fun v hv=>by
  rcases (A3 q [] fun t ht=>(hq t ht).1.1.2.1).1 hv with h | ⟨t,ht,h⟩
  · cases h
  · exact(hq t ht).1.1.2.2 v h
 have hvl:(cD q []).length≤1000:=by
  have h1:=A2 q []
  have h2:=FF q fun t ht=>(hq t ht).1.2
  simp only[bA] at h1
  omega
 have NE:=lG.start (p:=p) hq h6
 generalize hT:AQ p (dE p) q most fuel=T
 unfold AQ at hT
 generalize cD q []=vars at *
 have hI0:X2 p vars most fuel T (mQ q) [] fuel 26:=⟨by rw[←hT];try rfl,kA _,NE,by omega⟩
 generalize mQ q=s0 at *
 simp only[d6] at IP
 refine aD.drop (aD.fin (aD.nB ?_))
 refine wF [1000000,10,11,13] 5 func72 ntmps72 rfl rfl ?_
 intro _
 simp -implicitDefEqProofs only[aG,aA,↓aX,seval,lN]
 intro b10 h10 b11 h11
 refine(hva _).to ?_
 simp -implicitDefEqProofs only[aA,seval]
 refine(IP _).to ?_
 simp -implicitDefEqProofs only[aG,aB.aP,aA,↓aX,seval,lN]
 intro b13 h13
 have n1:b10≠b11:=by rintro rfl;rw[aB.aP] at h11;cases h11
 rw[aB.aJ _ _ (c9 n1)] at h11
 have n2:b11≠b13:=by rintro rfl;rw[aB.aP] at h13;cases h13
 rw[aB.aJ _ _ (c9 n2)] at h13
 have n3:b10≠b13:=by rintro rfl;rw[aB.aP] at h13;cases h13
 rw[aB.aJ _ _ (c9 n3)] at h13
 have hSD:∀x y z,aL (k8 st b10 b11 b13 x y z) st:=fun x y z=>by
  unfold k8
  exact(((aL.refl _).aC h10).aC h11).aC h13
 have hun:prog.underlying 26=some (.slice 59):=by kernel_rfl
 have a17:∀l:List (List Tm),∀e∈l.map cI,e.cH=false:=fun l e he=>by simp only[cU] at he;obtain⟨t,_,rfl⟩:=he;rfl
 have NF:∀l:List (List Tm),∀e∈l.map cI,e.width=1:=fun l e he=>by simp only[cU] at he;obtain⟨t,_,rfl⟩:=he;rfl
 have fin:∀(x y z:AO) (b:Nat) (l:List (List Tm)) (e m:Int),(l.map cI≠[]→b≠b10∧b≠b11∧b≠b13∧st b=none)→T=(l,e)→∃s2,aL (a8 (k8 st b10 b11 b13 x y z) b (l.map cI)) s2∧∃b' l' s0,s2=a8 s0 b' l'∧(¬l'= []→s0 b'=none)∧(∀e∈l',e.cH=false)∧iR l'∧aL s0 st∧∃m',(AV.agg [bM 1 b (l.map cI),.int .i64 e,.int .i64 m]).fin b' l'=.agg [.slice (T.1.map cI),.int .i64 T.2,.int .i64 m']:=fun x y z b l e m h1 h3=>
  ⟨_,aL.refl _,b,l.map cI,_,rfl,fun h=>ZQ _ _ _ (h1 h),a17 l,⟨1,NF l⟩,hSD _ _ _,m,by subst h3;simp only[gJ,eT,mI,aW,aU]⟩
 refine iN (σ:=RS×List (List Tm)×Nat×Nat×Nat×Int) [1000000,10,11,13] [0,2,4,10,11,12,13] (fun x=>X2 p vars most fuel T x.1 x.2.1 x.2.2.1 x.2.2.2.1∧(x.2.1.map cI≠[]→x.2.2.2.2.1≠b10∧x.2.2.2.2.1≠b11∧x.2.2.2.2.1≠b13∧st x.2.2.2.2.1=none))
  (fun x=>[(3,.int .i64 (x.2.2.1:Int))])
  (fun x=>a8 (k8 st b10 b11 b13 (.cells [.fslice [],.int .i64 0,.int .i64 0]) (.cells [bM 1 x.2.2.2.2.1 (x.2.1.map cI),.int .i64 0,.int .i64 x.2.2.2.2.2]) (.cells [.slice (x.1.goals.map eO),.slice (cY x.1.N x.1.σ),.slice (x.1.chs.map gO)])) x.2.2.2.2.1 (x.2.1.map cI))
  (fun x=>(most - x.2.1.length)+x.2.2.1) (by decide +kernel) ⟨(s0,[],fuel,26,0,0),⟨hI0,by simp⟩,aN.mk (by simp -implicitDefEqProofs only[aA,seval])⟩ ?_
 rintro⟨s,out,f,B,b,m0⟩ ⟨⟨tot,hlen,hok,hbd⟩,hb⟩
 simp only at tot hlen hok hbd hb
 simp only
 have hlo:(out.map cI).length=out.length:=aF _
 obtain⟨g1,g2,g3,u1,u2,u3⟩:=ZP (st:=st) (l:=out.map cI) (b:=b) n1 n3 n2 fun h=>⟨(hb h).1,(hb h).2.1,(hb h).2.2.1⟩
 have vY:=vE (w:=1) (b:=b) (l:=out.map cI) hun
 rw[hlo] at vY
 simp -implicitDefEqProofs only[aF,g2,g3,aA,seval,lN]
 obtain⟨m,hm⟩:∃m:Int,m=if m0<(s.chs.length:Int) then(s.chs.length:Int) else m0:=⟨_,rfl⟩
 refine aS (fun h0=>?_) (fun h0=>?_)
 all_goals
  cases hgs:s.goals with
  | nil=>
   rw[CY hgs] at tot
   simp -implicitDefEqProofs only[aG,aF,bA,aQ,aU,vY,g2,g3,u2,mE,aA,seval,lN]
   have hm':=hm
   first
    | (rw[aH (I5 h0)] at hm';rw[←hm'])
    | (rw[aE (of_decide_eq_false h0)] at hm';rw[←hm'])
   refine aS (fun h=>?_) (fun h=>?_)
   · have h':out.length=most:=by simp at h;omega
     rw[aH (by omega)] at tot
     simp -implicitDefEqProofs only[aG,bA,aQ,g1,g2,u1,u2,eP,aA,seval,lN]
     exact fin _ _ _ b out 1 m hb (by rw[tot,gI])
   have h':out.length<most:=by simp at h;omega
   rw[aE (by omega)] at tot
   simp -implicitDefEqProofs only[bA,aU,g3,aA,seval,lN]
   refine(aXP (N:=s.N) hok.a.gW hok.a.ok vars (fun v h=>⟨(hv v h).1,by have:=(hv v h).2;have:=hok.l.1;omega⟩) hvl _).mono ?_
   rintro _ _ ⟨rfl,a,rfl,ha⟩
   cases rC:kC s.σ vars with
   | none=>
    rw[rC] at tot
    simp only[Option.isSome_none,cI]
    simp -implicitDefEqProofs only[aG,bA,aQ,g1,g2,u1,u2,eP,aA,↓aX,seval,lN]
    exact fin _ _ _ b out 3 m hb (by rw[tot,gI])
   | some x=>
    obtain rfl:=ha x rC
    rw[rC] at tot
    simp only[Option.isSome_some,cI] at tot ⊢
    simp -implicitDefEqProofs only[bA,aQ,aU,g2,mE,aA,↓aX,seval,lN]
    refine fG (P:=prog) (b:=b) (l:=out.map cI) (xs:=[cI a]) nD sG sJ rfl rfl (gA rfl rfl) (NF out) (fun h=>ZQ _ _ _ (hb h)) (by simp only[aQ,bA,hlo];omega) (by simp only[aQ,bA,hlo];omega) (fun b' hb'=>?_)
    rw[show(out.map cI)++ [cI a]=(out++ [a]).map cI by simp] at hb' ⊢
    have hb2:=fun h=>aU1 (hb' h)
    obtain⟨y1,y2,y3,v1,v2,v3⟩:=ZP (st:=st) (l:=(out++ [a]).map cI) (b:=b') n1 n3 n2 fun h=>⟨(hb2 h).1,(hb2 h).2.1,(hb2 h).2.2.1⟩
    simp -implicitDefEqProofs only[aG,bA,aQ,aU,y2,y3,v2,eP,m9,aA,seval,lN]
    have M7:(f:Int)=(f:Int):=rfl
    refine(aAS hp (B:=B) (by omega) [] (cY s.N s.σ) s.chs hok.a.pZ hok.a.chs _).mono ?_
    rintro r _ ⟨rfl,hr⟩
    cases hbk:gC p s.chs.length s.chs with
    | none=>
     rw[hbk] at hr tot
     simp only at hr tot
     obtain⟨l1,l2,l3,rfl⟩:=hr
     simp -implicitDefEqProofs only[aG,bA,aQ,y1,y2,v1,v2,eP,aA,↓aX,seval,lN]
     exact fin _ _ _ b' (out++ [a]) 0 _ hb2 (by rw[tot];try rw[gI])
    | some s'=>
     rw[hbk] at hr tot
     simp only[d6] at hr tot
     subst hr
     simp -implicitDefEqProofs only[aG,bA,aQ,y3,v3,aA,↓aX,seval,lN]
     refine⟨(s',out++ [a],f,B,b',m),by simp only[dL,aQ,bA];omega,⟨⟨by rw[tot];try simp only[mU,fQ,eS,dL,aQ,bA,Nat.sub_sub];try rfl,by simp only[dL,aQ,bA];omega,hok.back hp (by omega) hbk,by simp only;omega⟩,hb2⟩,aN.mk (by simp -implicitDefEqProofs only[aA,seval])⟩
  | cons g rest=>
   rw[CX hgs] at tot
   simp -implicitDefEqProofs only[aG,aF,bA,aQ,g2,g3,u2,aA,seval,lN]
   have hm':=hm
   first
    | (rw[aH (I5 h0)] at hm';rw[←hm'])
    | (rw[aE (of_decide_eq_false h0)] at hm';rw[←hm'])
   refine cS (fun h=>absurd h (by simp;omega)) (fun h=>?_)
   have hz:decide ((rest.length:Int)+1=0)=false:=gG (by omega)
   simp -implicitDefEqProofs only[hz,aF,aQ,g3,aA,seval,lN]
   refine aS (fun h=>?_) (fun h=>?_)
   · have h':f=0:=by simp at h;omega
     rw[aH h'] at tot
     simp -implicitDefEqProofs only[aG,bA,aQ,g1,g2,u1,u2,eP,aA,seval,lN]
     exact fin _ _ _ b out 2 m hb (by rw[tot,gI])
   have h':f≠0:=by simp at h;omega
   rw[aE h'] at tot
   have hw:=bE (n:=(f:Int) - 1)
   simp -implicitDefEqProofs only[hw,bA,aQ,g3,aA,seval,lN]
   have hst:=aX1 hp (by omega) (B:=B) (by omega) s.goals s.σ s.N s.chs g rest hgs hok.a hok.k
   rw[hgs,aW] at hst
   refine(hst _).mono ?_
   rintro r _ ⟨hr,rfl⟩
   have hse:(⟨g::rest,s.σ,s.N,s.chs⟩:RS)=s:=by rw[←hgs]
   rw[hse] at hr
   cases jH:iB p (dE p) s g rest with
   | go s'=>
    rw[jH] at hr tot
    simp only[eF,d6] at hr tot
    subst hr
    simp -implicitDefEqProofs only[aG,bA,aQ,g3,u3,aA,↓aX,seval,lN]
    have M7:((f - 1:Nat):Int)=(f:Int) - 1:=by omega
    refine⟨(s',out,f - 1,B+26,b,m),by simp only;omega,⟨⟨tot,hlen,hok.step hp (by omega) (by omega) (cnd:=dE p) (BV p) hgs jH,by simp only;omega⟩,hb⟩,aN.mk (by simp -implicitDefEqProofs only[M7,aA,seval])⟩
   | fail=>
    rw[jH] at hr tot
    simp only[eF,d6] at hr tot
    subst hr
    simp -implicitDefEqProofs only[aG,bA,aQ,g3,u3,aA,↓aX,seval,lN]
    have M7:((f - 1:Nat):Int)=(f:Int) - 1:=by omega
    refine(aAS hp (B:=B) (by omega) s.goals (cY s.N s.σ) s.chs hok.a.pZ hok.a.chs _).mono ?_
    rintro r _ ⟨rfl,hr⟩
    cases hbk:gC p s.chs.length s.chs with
    | none=>
     rw[hbk] at hr tot
     simp only at hr tot
     obtain⟨l1,l2,l3,rfl⟩:=hr
     simp -implicitDefEqProofs only[aG,bA,aQ,g1,g2,u1,u2,eP,aA,↓aX,seval,lN]
     exact fin _ _ _ b (out) 0 _ hb (by rw[tot];try rw[gI])
    | some s'=>
     rw[hbk] at hr tot
     simp only[d6] at hr tot
     subst hr
     simp -implicitDefEqProofs only[aG,bA,aQ,g3,u3,aA,↓aX,seval,lN]
     refine⟨(s',out,f - 1,B,b,m),by simp only[];omega,⟨⟨by rw[tot];try simp only[mU,fQ,eS,dL,aQ,bA,Nat.sub_sub];try rfl,by simp only[];omega,hok.back hp (by omega) hbk,by simp only;omega⟩,hb⟩,aN.mk (by simp -implicitDefEqProofs only[M7,aA,seval])⟩
   | stop e=>
    rw[jH] at hr tot
    obtain⟨he0,l1,l2,l3,rfl⟩:=hr
    simp only at tot
    simp -implicitDefEqProofs only[bA,aQ,aA,↓aX,seval,lN]
    refine aS (fun h=>?_) (fun h=>absurd he0 (by simpa using h))
    simp -implicitDefEqProofs only[aG,bA,aQ,g1,g2,u1,u2,eP,aA,seval,lN]
    exact fin _ _ _ b out e m hb (by rw[tot,gI])
abbrev AY:=zi tI_3 (zi zI_3 (zi aZ (zi tI_4 (zi zI_4 (zi cG (zi tI_26 (zi zI_26 (zi nD (zi sG (zi sJ (zi uU (zi tI_29 (zi zI_29 (zi fN (zi iT (zi iU (zi jK (zi tI_31 (zi zI_31 (zi aO (zi bH (zi bJ (zi bZ (zi tI_95 (zi zI_95 (zi aMT (zi aMU (zi aMV ZG))))))))))))))))))))))))))))
theorem aA6(p:List Cl)(q:List Tm)(most fuel:Int)(st:aB) :
 aD prog 17 [.slice (p.map bB),.slice (q.map Tm.av),.int .i64 most,.int .i64 fuel] st (fun r st'=>r=.tup [.slice ((jI p (dE p) q most fuel).1.map cI),.int .i64 (jI p (dE p) q most fuel).2]∧st'=st):=by
 refine aD.done ?_
 have p8:nJ p q most fuel=false→∀ {st'},st'=st→(AV.tup [AV.fslice [],.int .i64 9]).soft=.tup [.slice ((jI p (dE p) q most fuel).1.map cI),.int .i64 (jI p (dE p) q most fuel).2]∧aL st' st:=fun h _ e=>by
  subst e
  unfold jI
  rw[aE (by rw[h];simp)]
  exact⟨by simp only[eJ,d7,nX,aW,aU],aL.refl _⟩
 refine wF [1000000] 4 func17 ntmps17 rfl rfl ?_
 intro _
 simp -implicitDefEqProofs only[aA,seval]
 refine(aYI p _).to ?_
 simp -implicitDefEqProofs only[aA,seval]
 refine cS (fun h=>?_) (fun h=>?_)
 case refine_2=>
  simp -implicitDefEqProofs only[h,aA,seval,AY]
  exact p8 (by simp at h;simp [nJ,h]) rfl
 have hp:sT p=true:=by simpa using h
 simp -implicitDefEqProofs only[h,aA,seval]
 refine(aA5 q _).to ?_
 simp -implicitDefEqProofs only[aA,seval]
 refine cS (fun h2=>?_) (fun h2=>?_)
 case refine_2=>
  simp -implicitDefEqProofs only[h2,aA,seval,AY]
  exact p8 (by simp at h2;simp [nJ,h2]) rfl
 have hq:nH q=true:=by simpa using h2
 simp -implicitDefEqProofs only[h2,aA,seval]
 refine cS (fun h3=>?_) (fun h3=>?_)
 case refine_2=>
  simp -implicitDefEqProofs only[h3,aA,seval,AY]
  exact p8 (by simp at h3;simp only[nJ];rw[show decide (0≤most)=false from gG (by omega)];simp) rfl
 have h3':0≤most:=by simpa using h3
 simp -implicitDefEqProofs only[h3,aA,seval]
 refine cS (fun h4=>?_) (fun h4=>?_)
 case refine_2=>
  simp -implicitDefEqProofs only[h4,aA,seval,AY]
  exact p8 (by simp at h4;simp only[nJ];rw[show decide (most≤20)=false from gG (by omega)];simp) rfl
 have h4':most≤20:=by simpa using h4
 simp -implicitDefEqProofs only[h4,aA,seval]
 refine cS (fun h5=>?_) (fun h5=>?_)
 case refine_2=>
  simp -implicitDefEqProofs only[h5,aA,seval,AY]
  exact p8 (by simp at h5;simp only[nJ];rw[show decide (0≤fuel)=false from gG (by omega)];simp) rfl
 have h5':0≤fuel:=by simpa using h5
 simp -implicitDefEqProofs only[h5,aA,seval]
 refine aS (fun h6=>?_) (fun h6=>?_)
 · simp -implicitDefEqProofs only[aA,seval,AY]
   exact p8 (by simp at h6;simp only[nJ];rw[show decide (fuel≤300)=false from gG (by omega)];simp) rfl
 have h6':fuel≤300:=by simpa using h6
 obtain⟨p1,p2⟩:=N0 hp
 obtain⟨q1,q2⟩:=JA hq
 obtain⟨m,rfl⟩:=tJ h3'
 obtain⟨f,rfl⟩:=tJ h5'
 simp -implicitDefEqProofs only[aA,seval]
 refine(aX2 p2 p1 q2 q1 (by omega) (by omega) _).mono ?_
 rintro _ _ ⟨⟨mx,rfl⟩,rfl⟩
 simp -implicitDefEqProofs only[aA,↓aX,seval,AY]
 refine xA mixed (by decide +kernel) (by decide +kernel) ?_
 simp -implicitDefEqProofs only[aA,seval,AY]
 refine⟨?_,aL.refl _⟩
 have hok:nJ p q m f=true:=by simp [nJ,hp,hq,h4',h6']
 unfold jI
 rw[aH hok]
 simp only[eJ,d7,fV,aW,aU,jU]
set_option maxHeartbeats 2000000 in
theorem aVI(p:List Cl)(q:List Tm)(most fuel:Int)(st:aB)(hT:st j6=some nU):aD prog 3 [.slice (p.map bB),.slice (q.map Tm.av),.int .i64 most,.int .i64 fuel] st (fun r st'=>r=.bool true∧st' j6=some nU):=by
 refine wF [1000000] 4 func3 ntmps3 rfl rfl ?_
 intro _
 simp -implicitDefEqProofs only[aA,seval]
 refine(aYN p _ st (by omega) (by omega)).to ?_
 simp -implicitDefEqProofs only[aA,seval]
 refine aS (fun h1=>?_) (fun h1=>?_)
 · simp -implicitDefEqProofs only[hT,aA,seval]
 simp only[cP,sX] at h1
 rw[wH h1]
 simp -implicitDefEqProofs only[aA,seval]
 refine(aA9 q _ _ (by omega) (by omega)).to ?_
 simp -implicitDefEqProofs only[aA,seval]
 refine aS (fun h2=>?_) (fun h2=>?_)
 · simp -implicitDefEqProofs only[hT,aA,seval]
 simp only[cP,sX] at h2
 have ha:AS p≤1048576:=by omega
 have hb:sW q≤1048576:=by omega
 have hm1:=aBV p
 have hm2:=aO2 q
 have hsp:=aA6 p q most fuel
 have him:=fun st hT=>Z4 p q most fuel st hT
 have hSo:=aQW p (cnd:=dE p) (BV p) q most fuel
 generalize jI p (dE p) q most fuel=T at *
 obtain⟨L,e⟩:=T
 simp only at hsp him hSo
 have hm3:aR kZ L≤9360*L.length:=Y5 hSo.2
 have hm4:=hSo.1
 simp -implicitDefEqProofs only[aA,seval]
 refine(RX p _ ha).to ?_
 simp -implicitDefEqProofs only[aA,seval]
 refine(RY q _ hb).to ?_
 simp -implicitDefEqProofs only[aA,seval]
 refine(hsp _).to ?_
 simp -implicitDefEqProofs only[aA,seval]
 refine(aPC p _ ha).mono ?_
 rintro o0 s1 ⟨b0,n0,f0,O0,k0⟩
 have z0:=UX hT f0
 have hT1:=(k0 j6 z0).trans hT
 obtain⟨hc0,hs0,ha0,hw0,hj0⟩:=bG.AC O0
 simp -implicitDefEqProofs only[aA,seval]
 refine(aPE q _ hb).mono ?_
 rintro o1 s2 ⟨b1,n1,f1,O1,k1⟩
 have z1:=UX hT1 f1
 have hT2:=(k1 j6 z1).trans hT1
 have d01:yM b0 b1:=O0.apart f1
 have O0':=O0.beside k1 d01
 obtain⟨hc1,hs1,ha1,hw1,hj1⟩:=bG.AC O1
 simp -implicitDefEqProofs only[aA,seval]
 refine(aD.a6N (JN hT2) a7F (him _ (OB _ _)) (mY.aPS (JN hT2) O0' (aPU O0' hT2) (mY.aPS (JN hT2) O1 (aPU O1 hT2) (mY.aQH (JN hT2) (mY.aQH (JN hT2) .nil))))).mono ?_
 rintro g s3 hg
 obtain⟨og,rfl,bg,ng,fg,Og,kg⟩:=hg.a8L
 have zg:=UX hT2 fg
 have hT3:=(kg j6 zg).trans hT2
 have d0g:yM b0 bg:=O0'.apart fg
 have d1g:yM b1 bg:=O1.apart fg
 have XY:=O0'.beside kg d0g
 have O1':=O1.beside kg d1g
 obtain⟨hcg,hsg,hag,hwg,hjg⟩:=bG.AC Og
 simp -implicitDefEqProofs only[aA,seval]
 refine(aD.C5 (fun s=>Q9 L s) (Seen.own Og (Seen.same .nil)) rfl).to ?_
 simp -implicitDefEqProofs only[jF,bX,aA,seval]
 refine(RX p _ ha).to ?_
 simp -implicitDefEqProofs only[aA,seval]
 refine(aD.C5 (fun s=>aV4 p s) (Seen.own XY (Seen.same .nil)) rfl).to ?_
 simp -implicitDefEqProofs only[aA,seval]
 refine(RY q _ hb).to ?_
 simp -implicitDefEqProofs only[aA,seval]
 refine(aD.C5 (fun s=>aV5 q s) (Seen.own O1' (Seen.same .nil)) rfl).to ?_
 simp -implicitDefEqProofs only[aA,seval]
 refine(aX5 p 1 o0 b0 s3 XY n0 (by omega) (by omega)).mono ?_
 rintro _ s4 ⟨rfl,_,k4⟩
 have hT4:=(k4 j6 z0).trans hT3
 have aTI:=O1'.beside k4 d01.symm
 have Og4:=Og.beside k4 d0g.symm
 simp -implicitDefEqProofs only[aA,seval]
 refine(HH q _ o1 b1 s4 aTI n1 (by omega) (by omega)).mono ?_
 rintro _ s5 ⟨rfl,_,k5⟩
 have hT5:=(k5 j6 z1).trans hT4
 have Og5:=Og4.beside k5 d1g.symm
 have a2O:¬(1+(aR t6 p:Int)+(aR Tm.dV q:Int)<0):=by omega
 simp -implicitDefEqProofs only[a2O,b9,aA,seval]
 refine(aD.C5 (fun s=>Q9 L s) (Seen.own Og5 (Seen.same .nil)) rfl).to ?_
 simp -implicitDefEqProofs only[jF,bX,aA,seval]
 refine(aX4 L 1 og bg s5 Og5 ng (by omega) (by omega)).mono ?_
 rintro _ s6 ⟨rfl,Og6,k6⟩
 have hT6:=(k6 j6 zg).trans hT5
 have oO:¬(1+(aR kZ L:Int)<0):=by omega
 simp -implicitDefEqProofs only[aA,seval]
 refine(aD.C5 (fun s=>Z2 L 1 s (by omega) (by omega)) (Seen.own Og6 (Seen.same .nil)) rfl).to ?_
 simp -implicitDefEqProofs only[bX,oO,b9,aA,seval]
 refine(RX p _ ha).to ?_
 simp -implicitDefEqProofs only[aA,seval]
 refine(RY q _ hb).to ?_
 simp -implicitDefEqProofs only[aA,seval]
 refine((him _ hT6).UP).to ?_
 simp -implicitDefEqProofs only[aA,seval]
 refine(Q9 L _).to ?_
 simp -implicitDefEqProofs only[jF,bX,aA,seval]
 refine(aD.C5 (fun s=>Z2 L 1 s (by omega) (by omega)) (Seen.own Og6 (Seen.same .nil)) rfl).to ?_
 simp -implicitDefEqProofs only[bX,hT6,oO,b9,aA,seval]
end Go.AW
namespace Go.AW
open Go.ChangeShapes Go.WideShapes Go.ChangeAt Go.RowKit
abbrev aO6:aB:=fun _=>none
section
variable {H:Type} {enc:TypeId×Value→H} {P:Program} {w:World}
theorem YA{h:bP}{st:aB}{b k:Nat}:∀ {es:List AV} {off:Nat},(∀e∈es,e.width=k)→(∀(i:Nat) e,es[i]?=some e→VE h st b (off+i*k) e)→dP h st b off es
 | [],_,_,_=>by simp [dP]
 | e::es,off,hw,h=>by
  simp only[dP]
  refine⟨by simpa [VE] using h 0 e rfl,YA (fun x hx=>hw x (by simp [hx])) fun i x hx=>?_⟩
  have:=h (i+1) x (by simpa using hx)
  rw[hw e (by simp),BF,←Nat.a7D k i] 
  exact this
where Nat.a7D (k i:Nat):(i+1)*k=k+i*k:=by rw[pS];omega
theorem aBF{a:Addr}{v:Value}(h:w.cell? a=some v):a.spot=none∧a.block<w.heap.size∧cellAt w.heap a.block a.off=some v:=by
 unfold World.cell? at h
 split at h
 · rename_i c t fr hb
   split at h
   · cases h
   · rename_i hs
     refine⟨by simpa using hs,(DK.1 hb).1,by simp [cellAt,hb,h]⟩
 · cases h
theorem aBK{a:Addr}{n:Nat}{cs:List Value}(hs:a.spot=none)(h:w.cells? 0 a n=some cs):fH w.heap a.block a.off cs∧cs.length=n:=by
 obtain⟨_,hl,hc⟩:=World.cells?_some h
 refine⟨?_,hl⟩
 have:∀(l:List Value) (k:Nat),(∀i,i<l.length→w.cell? (a.add (k+i))=l[i]?)→fH w.heap a.block (a.off+k) l:=by
  intro l
  induction l with
  | nil=>intro _ _;trivial
  | cons v l ih=>
   intro k hk
   refine⟨?_,?_⟩
   · have:=(aBF (hk 0 (by simp))).2.2
     obtain⟨b,off,sp⟩:=a
     simp only at hs
     subst hs
     simpa [Addr.oF] using this
   · have:=ih (k+1) (fun i hi=>by have:=hk (i+1) (by simp;omega);rw[show k+1+i=k+(i+1) by omega];simpa using this)
     simpa [BF] using this
 simpa using this cs 0 (fun i hi=>by simpa using hc i (by omega))
theorem FS{fs:Array Field}{n:Nat}{cs:List Value}{xs:List (DataW H×List MemPlace)}(hx:xs.length=fs.size)
 (hf:∀(i:Nat) (f:Field),fs[i]?=some f→DataW.trod enc P w 0 (fun _=>true) true n f.type ((cs.drop f.offset).take (P.cellsOf f.type))=xs[i]?) (i:Nat) {f:Field} (h:fs[i]?=some f) :
 ∃y,DataW.trod enc P w 0 (fun _=>true) true n f.type ((cs.drop f.offset).take (P.cellsOf f.type))=some y:=by
 have hi:i<xs.length:=by rw[hx];exact(DK.1 h).1
 exact⟨xs[i],by rw[hf i f h];simp [hi]⟩
theorem aSU(hl:laidOutB P=true){W W':World}{sp:Nat→Bool}:∀ {ts:List TypeId} {vs:List Value} {ds:List (DataW H)} {ps:List MemPlace},(ts.all fun t=>P.readableRec t&&decide (t<P.types.size))=true →
 DataW.TrodAll enc P W 0 (fun _=>true) true ts vs ds ps→(∀x∈ps,W.sameAt W' x)→(∀x∈ps,sp x.block=true)→DataW.TrodAll enc P W' 0 sp true ts vs ds ps
 | [],vs,ds,ps,_,h,_,_=>by
  cases vs<;>cases ds<;>simp [DataW.TrodAll] at h ⊢
  exact h
 | t::ts,vs,ds,ps,ht,h,h1,h2=>by
  obtain⟨v,vs',d,ds',p,q,rfl,rfl,rfl,hd,xW⟩:=trodAll_cons h
  simp only[lE,cK,bL] at ht
  refine⟨p,q,Go.WideElems.Trod_stays hl ht.1.1 ht.1.2 hd (fun x hx=>h1 x (by simp [hx])) (fun x hx=>h2 x (by simp [hx])),aSU hl ht.2 xW (fun x hx=>h1 x (by simp [hx])) (fun x hx=>h2 x (by simp [hx])),rfl⟩
end
end Go.AW

