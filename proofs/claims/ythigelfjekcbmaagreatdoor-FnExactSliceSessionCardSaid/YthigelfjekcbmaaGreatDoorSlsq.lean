import Derived.Test.YthigelfjekcbmaaGreatDoorSlsk
import Derived.Test.YthigelfjekcbmaaGreatDoorSlsp
import Derived.Test.YthigelfjekcbmaaGreatDoorSlsm
import Derived.Test.YthigelfjekcbmaaGreatDoorSlsf
set_option linter.unusedSimpArgs false
set_option linter.unusedVariables false
set_option maxRecDepth 100000
namespace Go.AW
open Go.Proofs.Tryz
abbrev OA:=zi tI_3 (zi zI_3 (zi aY (zi tI_4 (zi zI_4 (zi cG (zi tI_27 (zi zI_27 (zi d8 (zi f6 (zi f7 (zi gG (zi tI_111 (zi zI_111 (zi jT (zi jU jS)))))))))))))))
theorem aLQ(l l':List Cl)(st:aA)(hc:∀x∈l,∀(y:Cl) (st:aA),aD prog 103 [bB x,bB y] st (fun r st'=>r=.bool (rN x y)∧st'=st)) :
 aD prog 52 [.slice (l.map bB),.slice (l'.map bB)] st (fun r st'=>r=.bool (gF rN l l')∧st'=st):=by
 refine wF [] 2 func52 ntmps52 rfl rfl ?_
 simp only[dK,AV.fits,dO,aE]
 intro ⟨⟨hl,_⟩,⟨hl',_⟩⟩
 simp -implicitDefEqProofs only[aE,aB,seval,OA]
 refine⟨fun h4=>?_,fun h4=>?_⟩
 · simp -implicitDefEqProofs only[aB,seval]
   simp only[gN,cM] at h4
   rw[zQ _ (show l.length≠l'.length by omega)]
 simp -implicitDefEqProofs only[aB,seval]
 simp only[j3,bM] at h4
 have h4':l.length=l'.length:=by omega
 refine nQ (α:=Nat) [] (fun i=>i≤l.length∧∀(j:Nat) (x y:Cl),j<i→l[j]?=some x→l'[j]?=some y→rN x y=true)
  (fun i=>[(0,.slice (l.map bB)),(1,.slice (l'.map bB)),(5,.int .i64 i)]) (fun _=>st) (fun i=>l.length - i) (by decide +kernel)
  ⟨0,⟨by omega,by intro j x y h;omega⟩,aR.mk (by simp -implicitDefEqProofs only[aB,↓aW,seval])⟩ ?_
 intro i ⟨hi,c7⟩
 simp -implicitDefEqProofs only[aE,aB,seval,OA]
 refine⟨fun h5=>?_,fun h5=>?_⟩
 case refine_2=>
  simp -implicitDefEqProofs only[aB,seval]
  simp only[cM,gP] at h5
  rw[zN _ h4' (fun j x y h6 h7=>c7 j x y (by have:=(eS.1 h6).1;omega) h6 h7)]
 simp only[bM,gP] at h5
 obtain⟨x,hx⟩:∃x,l[i]?=some x:=⟨_,e7 h5⟩
 obtain⟨y,hy⟩:∃y,l'[i]?=some y:=⟨_,e7 (h4'▸h5)⟩
 simp -implicitDefEqProofs only[aB,seval]
 refine FP mixed (by decide +kernel) (by decide +kernel) ?_
 simp -implicitDefEqProofs only[bG (av:=bB) d8 hx (fQ x),bG (av:=bB) d8 hy (fQ y),pA,fQ,aB,seval,OA]
 refine(hc x (cI hx) y st).to ?_
 simp -implicitDefEqProofs only[aB,seval]
 refine⟨fun h6=>?_,fun h6=>?_⟩
 · simp -implicitDefEqProofs only[aB,seval]
   have h7:rN x y=false:=by simpa using h6
   rw[zO _ i x y hx hy h7]
 have h7:rN x y=true:=by simpa using h6
 simp -implicitDefEqProofs only[aB,seval]
 refine⟨i+1,by omega,⟨by omega,fun j u v hj hu hv=>?_⟩,aR.mk ?_⟩
 · rcases j6 j i with h8 | h8
   · exact c7 j u v h8 hu hv
   · obtain rfl:j=i:=by omega
     rw[hx] at hu;rw[hy] at hv;cases hu;cases hv;exact h7
 · have:=bJ (n:=(i:Int)+1)
   simp -implicitDefEqProofs only[this,aB,seval]
abbrev N9:=zi tI_3 (zi zI_3 (zi aY (zi tI_22 (zi zI_22 (zi zJ (zi GA (zi GD (zi EU (zi tI_120 (zi zI_120 (zi zS (zi zT y8))))))))))))
theorem aNH(l:List Cl)(left:Int)(st:aA)(h0:0≤left)(h1:left≤1048576)(hc:∀x∈l,∀(left:Int) (st:aA),0≤left→left≤1048576→aD prog 98 [bB x,.int .i64 left] st (fun r st'=>r=.int .i64 (i9 left (kM x))∧st'=st)) :
 aD prog 46 [.slice (l.map bB),.int .i64 left] st (fun r st'=>r=.int .i64 (i9 left (l.length+aJ kM l))∧st'=st):=by
 refine wF [] 2 func46 ntmps46 rfl rfl ?_
 simp only[dK,AV.fits,dO,aE]
 intro ⟨hl,_⟩
 have hw:=bJ (n:=left - (l.length:Int))
 simp -implicitDefEqProofs only[aE,hw,aB,seval,N9]
 refine⟨fun h4=>?_,fun h4=>?_⟩
 · simp -implicitDefEqProofs only[aB,seval]
   simp only[bM] at h4
   simp only[i9]
   rw[aK (by omega)]
 simp only[cM] at h4
 simp -implicitDefEqProofs only[aB,seval]
 refine nQ (α:=Nat) [] (fun i=>i≤l.length∧((l.length+aJ kM (l.take i):Nat):Int)≤left)
  (fun i=>[(0,.slice (l.map bB)),(1,.int .i64 (left - ((l.length+aJ kM (l.take i):Nat):Int))),(5,.int .i64 i)]) (fun _=>st) (fun i=>l.length - i) (by decide +kernel)
  ⟨0,⟨by omega,by simp only[j5,aJ];omega⟩,aR.mk (by simp -implicitDefEqProofs only[aJ,p5,aB,↓aW,seval])⟩ ?_
 intro i ⟨hi,hle⟩
 simp -implicitDefEqProofs only[aE,aB,seval,N9]
 refine⟨fun h5=>?_,fun h5=>?_⟩
 case refine_2=>
  simp -implicitDefEqProofs only[aB,seval]
  simp only[cM,gP] at h5
  rw[show i=l.length by omega,eD] at hle ⊢
  rw[pP (by omega)]
 simp only[bM,gP] at h5
 obtain⟨x,hx⟩:∃x,l[i]?=some x:=⟨_,e7 h5⟩
 simp -implicitDefEqProofs only[bG (av:=bB) zJ hx (fQ x),pA,fQ,aB,seval,N9]
 refine(hc x (cI hx) _ st (by omega) (by omega)).to ?_
 have hs:=sI kM hx
 simp -implicitDefEqProofs only[aB,seval]
 refine⟨fun h6=>?_,fun h6=>?_⟩
 · simp -implicitDefEqProofs only[aB,seval]
   simp only[bM,mQ] at h6
   simp only[i9]
   rw[aK (by omega)]
 simp only[cM,mQ] at h6
 rw[pP h6]
 simp -implicitDefEqProofs only[aB,seval]
 refine⟨i+1,by omega,⟨by omega,by omega⟩,aR.mk ?_⟩
 · have:=bJ (n:=(i:Int)+1)
   have e:(left - ((l.length+aJ kM (l.take (i+1)):Nat):Int))=left - ((l.length+aJ kM (l.take i):Nat):Int) - ((kM x:Nat):Int):=by omega
   simp -implicitDefEqProofs only[this,e,aB,seval]
abbrev II:=zi tI_3 (zi zI_3 (zi aY (zi tI_22 (zi zI_22 (zi zJ (zi GA (zi GD (zi EU (zi tI_27 (zi zI_27 (zi d8 (zi f6 (zi f7 (zi gG (zi tI_111 (zi zI_111 (zi jT (zi jU (zi jS (zi tI_120 (zi zI_120 (zi zS (zi zT y8)))))))))))))))))))))))
theorem aS9(l:List Cl)(st:aA)(hb:l.length≤1048576)(hc:∀x∈l,∀(st:aA),aD prog 101 [bB x] st (Made st (bB x))) :
 aD prog 49 [.slice (l.map bB)] st (Made st (.slice (l.map bB))):=by
 refine wF [] 1 func49 ntmps49 rfl rfl ?_
 intro _
 simp -implicitDefEqProofs only[aE,rH,aB,↓aW,seval,II]
 refine⟨by omega,by omega,by omega,?_⟩
 intro b hn
 rw[j4,HP _ (by simp)]
 refine dQ (σ:=List AV×List Nat×aA) [] [0,2,3] l (fun i p=>p7 (l.map bB) [.int .i64 0,.int .i64 0,.str ⟨#[]⟩,.fslice [],.fslice []] b st i p) (fun i _=>[(4,.int .i64 i)]) (fun _ p=>p.2.2) (by decide +kernel)
  ⟨([],[],_),?_,aR.mk (by simp -implicitDefEqProofs only[aB,↓aW,seval])⟩ (fun i x p hx hlt bD hdr hinv=>?_) (fun p hge hinv=>?_)
 · exact p7.start hn (by rw[aE])
 case refine_3=>
  obtain⟨os,bs,s⟩:=p
  simp -implicitDefEqProofs only[aE,hge,aB,seval,II]
  exact hinv.done (aE _) (fun e he=>by simp only[cE] at he;obtain⟨t,_,rfl⟩:=he;exact fQ t)
 obtain⟨os,bs,s⟩:=p
 simp -implicitDefEqProofs only[aE,bD,bG (av:=bB) zJ hx (fQ x),pA,fQ,aB,seval,II]
 refine(hc x (cI hx) _).mono ?_
 rintro r s2 MG
 obtain⟨A,B,hs2,hA,hrw,hrs,MJ⟩:=hinv.step MG (show(l.map bB)[i]?=some (bB x) by rw[lS,hx];try rfl) (fQ x) (fun e he=>by simp only[cE] at he;obtain⟨t,_,rfl⟩:=he;exact fQ t) rfl (F1 x) (.inl (pA x))
 have hat:=qN (b:=b) (len:=l.length) (w:=5) (i:=i) d8 hlt
 obtain⟨hp1,hp2⟩:=NA (B:=B) (C:=[.int .i64 0,.int .i64 0,.str ⟨#[]⟩,.fslice [],.fslice []]) (x:=r.cells) hA rfl hrw
 have hw:=bJ (n:=(i:Int)+1)
 simp -implicitDefEqProofs only[hat,hs2,hrw,hrs,hp1,hw,aB,seval,II]
 refine⟨hp2,?_⟩
 exact⟨_,MJ,aR.mk (by simp -implicitDefEqProofs only[aB,seval])⟩
abbrev aHB:=zi tI_4 (zi zI_4 (zi cG (zi tI_28 (zi zI_28 (zi aP (zi bE (zi bF (zi b9 (zi tI_52 (zi zI_52 (zi bU (zi bV (zi bX (zi bY (zi bT (zi tI_111 (zi zI_111 (zi jT (zi jU jS)))))))))))))))))))
theorem aLP(x y:Cl)(st:aA):aD prog 103 [bB x,bB y] st (fun r st'=>r=.bool (rN x y)∧st'=st):=by
 obtain⟨⟨k,n,s,ts⟩,b⟩:=x
 obtain⟨⟨k',n',s',ts'⟩,b'⟩:=y
 have hg:=fun st=>B9 (.mk k n s ts) (.mk k' n' s' ts') st
 simp only[aX] at hg
 have hc:=fun st=>FT b b' st fun x _ y st=>B9 x y st
 simp only[k9]
 refine wF [1000000] 2 func103 ntmps103 rfl rfl ?_
 intro _
 simp -implicitDefEqProofs only[aB,seval,aHB]
 refine(hg _).to ?_
 simp only[rN]
 simp -implicitDefEqProofs only[aB,seval]
 refine aT (fun h1=>?_) (fun h1=>?_)
 · simp -implicitDefEqProofs only[aB,seval]
   simp only[gN] at h1
   simp [h1]
 simp only[j3] at h1
 simp -implicitDefEqProofs only[aB,seval,aHB]
 refine(hc _).to ?_
 simp -implicitDefEqProofs only[aB,seval]
 refine aT (fun h2=>?_) (fun h2=>?_)<;>simp -implicitDefEqProofs only[aB,seval]
 · simp only[gN] at h2
   simp [h2]
 · simp only[j3] at h2
   simp [h1,h2]
abbrev aHC:=zi tI_3 (zi zI_3 (zi aY (zi tI_23 (zi zI_23 (zi pD (zi rR (zi rT (zi pU (zi tI_118 (zi zI_118 (zi vG (zi vH (zi vI (zi vJ (zi uX (zi tI_120 (zi zI_120 (zi zS (zi zT y8)))))))))))))))))))
theorem aNG(c:Cl)(left:Int)(st:aA)(h0:0≤left)(h1:left≤1048576):aD prog 98 [bB c,.int .i64 left] st (fun r st'=>r=.int .i64 (i9 left (kM c))∧st'=st):=by
 obtain⟨⟨k,n,s,ts⟩,b⟩:=c
 have hg:=fun st=>K2 (.mk k n s ts) left st h0 h1
 simp only[aX] at hg
 simp only[k9,kM]
 generalize (Tm.mk k n s ts).sz=z at hg ⊢
 have hsl:pO b=b.length+aJ Tm.sz b:=rfl
 refine wF [1000000] 2 func98 ntmps98 rfl rfl ?_
 intro _
 simp -implicitDefEqProofs only[aB,seval,aHC]
 refine(hg _).to ?_
 simp -implicitDefEqProofs only[aB,seval]
 refine aT (fun h2=>?_) (fun h2=>?_)
 · simp -implicitDefEqProofs only[aB,seval]
   simp only[bM,mQ] at h2
   simp only[i9]
   rw[aK (by omega)]
 simp only[cM,mQ] at h2
 rw[pP h2]
 simp -implicitDefEqProofs only[aB,seval,aHC]
 refine(SC b _ _ (by omega) (by omega)).to ?_
 simp -implicitDefEqProofs only[aB,seval]
 refine aT (fun h3=>?_) (fun h3=>?_)
 · simp -implicitDefEqProofs only[aB,seval]
   simp only[bM,mQ] at h3
   simp only[i9]
   rw[aK (by omega)]
 · simp -implicitDefEqProofs only[aB,seval]
   simp only[cM,mQ] at h3
   rw[pP h3,pP (by omega)]
   congr 1
   omega
abbrev N8:=zi tI_23 (zi zI_23 (zi pD (zi rR (zi rT (zi pU (zi tI_28 (zi zI_28 (zi aP (zi bE (zi bF (zi b9 (zi tI_52 (zi zI_52 (zi bU (zi bV (zi bX (zi bY (zi bT (zi tI_111 (zi zI_111 (zi jT (zi jU (zi jS (zi tI_118 (zi zI_118 (zi vG (zi vH (zi vI (zi vJ (zi uX (zi tI_120 (zi zI_120 (zi zS (zi zT y8))))))))))))))))))))))))))))))))))
theorem aS8(c:Cl)(st:aA)(hb:kM c≤1048576):aD prog 101 [bB c] st (Made st (bB c)):=by
 obtain⟨⟨k,n,s,ts⟩,bd⟩:=c
 unfold kM at hb
 simp only at hb
 have hc:=fun st=>aFZ bd st (by unfold pO;omega)
 have hg:=fun st=>M1 (.mk k n s ts) st (by omega)
 simp only[aX] at hg
 simp only[k9]
 refine aD.AH ?_
 refine wF [1000000] 1 func101 ntmps101 rfl rfl ?_
 intro _
 simp -implicitDefEqProofs only[aB,seval,N8]
 intro b hb1 b2 hb2
 have hne:b2≠b:=by rintro rfl;rw[aA.aL] at hb2;cases hb2
 have hn2:st b2=none:=by rw[aA.aF st _ hne] at hb2;exact hb2
 refine(hg _).mono ?_
 rintro q0 s2 ⟨bs,m1,m2,m3,m4⟩
 rw[←aX] at m3
 obtain⟨q,rfl,m3'⟩:=AZ.1 m3
 have hbb:b∉bs:=fun h=>by have:=m2 b h;simp [dN,hne.symm] at this
 have nB:b2∉bs:=fun h=>by have:=m2 b2 h;simp [dN] at this
 have e1:=m4 b hbb
 have e2:=m4 b2 nB
 simp only[dN,hne,hne.symm,dP,cJ] at e1 e2
 obtain⟨hqc,hqs,hqa,hqw,hqj⟩:=aQ.kE m3'
 simp -implicitDefEqProofs only[aS,e2,hqs,aB,seval,N8]
 refine(hc _).mono ?_
 rintro r s3 ⟨cs,n1,n2,n3,n4⟩
 have LZ:b2∉cs:=fun h=>by have:=n2 b2 h;simp [dN] at this
 have hcb:b∉cs:=fun h=>by have:=n2 b h;simp [dN,hne.symm,e1] at this
 have f1:=n4 b hcb
 have f2:=n4 b2 LZ
 simp only[dN,hne.symm,dP,cJ,e1] at f1 f2
 obtain⟨hrc,hrs,hra,hrw,hrj⟩:=aQ.kE n3
 simp -implicitDefEqProofs only[aS,dN,hne.symm,f1,f2,hqs,hrc,hrs,aB,seval,N8]
 have tP:=(aQ.eY _ _ _ m3').2.2
 have jV:∀x∈bs,x∉cs:=fun x hx hx'=>by
  obtain⟨u,e,_⟩:=tP x hx
  have:=n2 x hx'
  have h2:x≠b2:=fun e=>nB (e▸hx)
  simp only[dN,h2,cJ] at this
  rw[e] at this;cases this
 have hcs:∀x∈cs,x≠b∧x≠b2:=fun x hx=>⟨fun e=>hcb (e▸hx),fun e=>LZ (e▸hx)⟩
 have hbs:∀x∈bs,x≠b∧x≠b2:=fun x hx=>⟨fun e=>hbb (e▸hx),fun e=>nB (e▸hx)⟩
 refine⟨[b,b2],bs++cs,jO.2 ⟨m1,n1,fun x hx y hy e=>jV x hx (e▸hy)⟩,fun x hx=>?_,?_,?_,?_⟩
 · rcases dR.1 hx with hx | hx
   · have:=m2 x hx
     simpa [dN,hbs x hx] using this
   · have:=n2 x hx
     simp only[dN,(hcs x hx).2,cJ] at this
     by_cases hxb:x∈bs
     · exact absurd hx (jV x hxb)
     · rw[m4 x hxb] at this
       simpa [dN,hcs x hx] using this
 · simp [hb1,hn2,hbb,nB,hcb,LZ]
 · rw[←k9]
   refine HZ.2 ⟨q,bs,r,cs,rfl,rfl,aQ.aU _ _ _ (fun x hx=>?_) m3',aQ.aU _ _ _ (fun x hx=>?_) n3⟩
   · simp only[dN,(hbs x hx).1,(hbs x hx).2,cJ]
     rw[n4 x (jV x hx)]
     simp only[dN,(hbs x hx).2,cJ]
   · simp only[dN,(hcs x hx).1,(hcs x hx).2,cJ]
 · intro x hx hd
   simp only[cO,dD,dI,jL] at hd
   simp only[dR,jL] at hx
   simp only[dN,hd.1,hd.2,cJ]
   rw[n4 x hx.2]
   simp only[dN,hd.2,cJ]
   rw[m4 x hx.1]
   simp only[dN,hd.1,hd.2,cJ]
theorem aLR(l:List Cl)(st:aA):aD prog 52 [.slice (l.map bB),.slice (l.map bB)] st (fun r st'=>r=.bool true∧st'=st):=by
 refine(aLQ l l st fun x _ y st=>aLP x y st).mono ?_
 rintro _ _ ⟨rfl,rfl⟩
 refine⟨?_,rfl⟩
 have:∀l:List Cl,gF rN l l=true:=by
  intro l
  induction l with
  | nil=>rfl
  | cons x l ih=>simp [gF,aNX,ih]
 rw[this]
abbrev uB (l:List Cl):Nat:=l.length+aJ kM l
theorem aNI(l:List Cl)(left:Int)(st:aA)(h0:0≤left)(h1:left≤1048576):aD prog 46 [.slice (l.map bB),.int .i64 left] st (fun r st'=>r=.int .i64 (i9 left (uB l))∧st'=st):=
 aNH l left st h0 h1 fun x _ left st h0 h1=>aNG x left st h0 h1
theorem aTA(l:List Cl)(st:aA)(hb:uB l≤1048576):aD prog 49 [.slice (l.map bB)] st (Made st (.slice (l.map bB))):=
 aS9 l st (by unfold uB at hb;omega) fun x hx st=>aS8 x st (by have:=pN (f:=kM) hx;unfold uB at hb;omega)
theorem aNV(c:Cl):g8 c≤3+3*kM c:=by
 obtain⟨⟨k,n,s,ts⟩,b⟩:=c
 have h1:=Tm.aFR (.mk k n s ts)
 have h2:=aFS b
 rw[Tm.DU] at h1
 rw[F3]
 have hsl:pO b=b.length+aJ Tm.sz b:=rfl
 have hcs:kM (.mk k n s ts,b)=(Tm.mk k n s ts).sz+(b.length+aJ Tm.sz b):=rfl
 omega
theorem SL:∀l:List Cl,aJ g8 l≤3*uB l
 | []=>by simp [aJ]
 | x::l=>by
  have h1:=aNV x
  have h2:=SL l
  simp only[aJ,uB,bA] at h2 ⊢
  omega
abbrev OB:=zi tI_3 (zi zI_3 (zi aY (zi tI_9 (zi zI_9 (zi d4 (zi tI_27 (zi zI_27 (zi d8 (zi f6 (zi f7 (zi gG (zi tI_28 (zi zI_28 (zi aP (zi bE (zi bF (zi b9 (zi tI_52 (zi zI_52 (zi bU (zi bV (zi bX (zi bY (zi bT (zi tI_111 (zi zI_111 (zi jT (zi jU jS))))))))))))))))))))))))))))
theorem aMX(l:List Cl)(j:Int)(o:AV)(bs:List Nat)(st:aA)(hO:aQ st (.slice (l.map bB)) o bs)(hnd:bs.Nodup)(hj0:0≤j)(hj1:j+aJ g8 l≤1099511627776) :
 aD prog 54 [o,.int .i64 j] st (E8 st (.slice ((dU n6 g8 l j).map bB)) o bs (j+aJ g8 l)):=by
 obtain⟨hlen,haL⟩:=hO.len
 rw[aE] at hlen
 have haL:=haL prog 27 _ gG
 rw[aE] at haL
 refine wF [1000000] 2 func54 ntmps54 rfl rfl ?_
 simp only[dK]
 intro ⟨hf,_⟩
 have hl:=hlen hf
 clear hf hlen
 simp -implicitDefEqProofs only[aB,seval]
 refine dQ (σ:=List Cl×Int×aA) [1000000] [0,4] l
  (fun i p=>p.1.length=i∧p.1++dU n6 g8 (l.drop i) p.2.1=dU n6 g8 l j∧0≤p.2.1∧p.2.1+aJ g8 (l.drop i)=j+aJ g8 l∧aQ p.2.2 (.slice ((p.1++l.drop i).map bB)) o bs∧∀q,q∉bs→p.2.2 q=st q)
  (fun i p=>[(1,.int .i64 p.2.1),(5,.int .i64 i)]) (fun _ p=>p.2.2) (by decide +kernel)
  ⟨([],j,st),⟨rfl,rfl,hj0,rfl,hO,fun _ _=>rfl⟩,aR.mk (by simp -implicitDefEqProofs only[aB,↓aW,seval])⟩ (fun i x p hx hlt bD hdr hinv=>?_) (fun p hge hinv=>?_)
 case refine_2=>
  obtain⟨done,k,s⟩:=p
  obtain⟨i1,i2,i3,i4,i5,i6⟩:=hinv
  simp only at i1 i2 i3 i4 i5 i6
  simp -implicitDefEqProofs only[haL,hge,aB,seval]
  simp only[iD,dU,fN,aJ] at i2 i4 i5
  exact⟨by rw[←i4];simp,by rw[←i2];exact i5,i6⟩
 obtain⟨done,k,s⟩:=p
 obtain⟨i1,i2,i3,i4,i5,i6⟩:=hinv
 simp only at i1 i2 i3 i4 i5 i6
 rw[hdr] at i2 i4 i5
 obtain⟨⟨xk,xn,xs,xts⟩,xb⟩:=x
 simp only[aJ,F3] at i4
 have nC:=MV (av:=bB) (done:=done) (x:=(.mk xk xn xs xts,xb)) (rest:=l.drop (i+1))
 obtain⟨b,bs',w,A,oe,bo,B,rfl,hbs,hsb,hA,hoe,hbo,hbn,nF,hw,hi,w9⟩:=i5.focus hnd nC
 rw[fQ] at hw
 subst hw
 rw[i1] at hA
 obtain⟨q,b1,q',b2,rfl,rfl,hq,hq'⟩:=HZ.1 hoe
 rw[jO] at hbo
 obtain⟨aP0,aP1,jV⟩:=hbo
 simp only[dR,jL] at hbn
 have G9:((done++((Tm.mk xk xn xs xts,xb):Cl)::l.drop (i+1)).map bB).length=l.length:=by
  rw[aE,eC,bA,rG,i1];omega
 rw[G9] at haL w9 ⊢
 have hat:=qN (P:=prog) (b:=b) (len:=l.length) (w:=5) (i:=i) d8 hlt
 have hw1:=bJ (n:=k+1)
 have hw2:=bJ (n:=k+1+1)
 have hw3:=bJ (n:=k+1+1+1)
 have hw4:=bJ (n:=(i:Int)+1)
 obtain⟨e1,e2,e3,e4,e5,e6⟩:=AK (B:=B) hA
 simp -implicitDefEqProofs only[haL,bD,hat,hsb,hw1,hw2,e1,e2,e4,e5,p5,BL,E7,eH,aB,seval,OB]
 refine(FW (k+1+1) _ (by omega)).to ?_
 simp -implicitDefEqProofs only[hat,e1,e2,e3,p5,BL,E7,eH,hw3,aB,seval,OB]
 have hqs:∀(o:AO),aQ (s.aC b o) (.slice (xts.map Tm.av)) q b1:=fun o=>aQ.aU _ _ _ (fun x hx=>aA.aF _ _ (fun e=>hbn.1 (e▸hx))) hq
 have hqa:q.isAgg=false:=(aQ.shape hq).1
 have aRA:q'.isAgg=false:=(aQ.shape hq').1
 simp -implicitDefEqProofs only[hqa,aB,seval]
 refine(CD xts (k+1+1+1) q b1 _ (hqs _) aP0 (by omega) (by omega)).mono ?_
 rintro _ s2 ⟨rfl,hq2,hk2⟩
 have f1:=hk2 b hbn.1
 rw[aA.aL] at f1
 simp -implicitDefEqProofs only[hat,f1,e3,aRA,aB,seval,OB]
 have aRB:aQ s2 (.slice (xb.map Tm.av)) q' b2:=aQ.aU _ _ _ (fun x hx=>by
  have hxb:x≠b:=fun e=>hbn.2 (e▸hx)
  rw[hk2 x (fun h=>jV x h x hx rfl),aA.aF _ _ hxb]) hq'
 refine(CD xb _ q' b2 _ aRB aP1 (by omega) (by omega)).mono ?_
 rintro _ s3 ⟨rfl,hq3,hk3⟩
 have hm:k+((3+aJ Tm.cP xts+aJ Tm.cP xb:Nat):Int)=k+1+1+1+(aJ Tm.cP xts:Int)+(aJ Tm.cP xb:Int):=by omega
 simp -implicitDefEqProofs only[hw4,aB,seval]
 refine⟨(done++ [n6 (.mk xk xn xs xts,xb) k],k+1+1+1+(aJ Tm.cP xts:Int)+(aJ Tm.cP xb:Int),s3),⟨?_,?_,?_,?_,?_,?_⟩,aR.mk (by simp -implicitDefEqProofs only[aB,seval])⟩
 · simp [i1]
 · simp only[dU,F3] at i2
   rw[hm] at i2
   rw[←i2]
   simp
 · simp only;omega
 · simp only;omega
 · have:=w9 s3 (bB (n6 (.mk xk xn xs xts,xb) k)) (.agg [.int .i64 k,.int .i64 (k+1),.str (mt (k+1+1)),q,q']) (fQ _)
    (fun x hx hxb hxo=>by
     simp only[dR,jL] at hxo
     rw[hk3 x hxo.2,hk2 x hxo.1,aA.aF _ _ hxb])
    (by rw[hk3 b hbn.2,f1];try rfl)
    (by
     unfold n6
     exact HZ.2 ⟨q,b1,q',b2,rfl,rfl,aQ.aU _ _ _ (fun x hx=>hk3 x (fun h=>jV x hx x h rfl)) hq2,hq3⟩)
   rw[MW] at this
   exact this
 · intro x hx
   have hxb:x≠b:=fun e=>hx (by rw[hbs];simp [e])
   have hx1:x∉b1:=fun e=>hx (nF x (by simp [e]))
   have hx2:x∉b2:=fun e=>hx (nF x (by simp [e]))
   show s3 x=st x
   rw[hk3 x hx2,hk2 x hx1,aA.aF _ _ hxb,i6 x hx]
abbrev EG:=zi tI_3 (zi zI_3 (zi aY (zi tI_9 (zi zI_9 (zi d4 (zi tI_27 (zi zI_27 (zi d8 (zi f6 (zi f7 (zi gG (zi tI_28 (zi zI_28 (zi aP (zi bE (zi bF (zi b9 (zi tI_52 (zi zI_52 (zi bU (zi bV (zi bX (zi bY (zi bT (zi tI_111 (zi zI_111 (zi jT (zi jU jS))))))))))))))))))))))))))))
theorem aLW(l:List Cl)(j:Int)(st:aA)(h0:0≤j)(h1:j+aJ g8 l≤1099511627776) :
 aD prog 69 [.slice ((dU n6 g8 l j).map bB),.int .i64 j] st (fun r st'=>r=.int .i64 (j+aJ g8 l)∧st'=st):=by
 refine wF [1000000] 2 func69 ntmps69 rfl rfl ?_
 simp only[dK,AV.fits,dO,aE,vP]
 intro ⟨hl,_⟩
 have hML:(dU n6 g8 l j).length=l.length:=vP _ _ _ _
 simp -implicitDefEqProofs only[aB,seval]
 refine dQ (σ:=Unit) [1000000] [0] (dU n6 g8 l j) (fun i _=>True) (fun i _=>[(1,.int .i64 (j+aJ g8 (l.take i))),(4,.int .i64 0),(5,.int .i64 i)]) (fun _ _=>st) (by decide +kernel) ⟨(),trivial,aR.mk (by simp -implicitDefEqProofs only[aJ,j5,Int.add_zero,aB,↓aW,seval])⟩ (fun i x _ hx hlt bD hdr _=>?_) (fun _ hge _=>?_)
 case refine_2=>
  rw[hML] at hge
  simp -implicitDefEqProofs only[hge,eD,aE,hML,aB,seval,EG]
 rw[hML] at hlt bD
 obtain⟨y,hy⟩:∃y,l[i]?=some y:=⟨_,e7 hlt⟩
 obtain⟨⟨k,n,s,ts⟩,b⟩:=y
 have hxy:x=n6 (.mk k n s ts,b) (j+aJ g8 (l.take i)):=by
  have:=HQ n6 g8 l j i
  rw[hdr,oV hlt,dU,(eS.1 hy).2] at this
  exact(sR this).1
 have hs:=sI g8 hy
 rw[F3] at hs
 have hat:=bG (av:=bB) d8 hx (fQ x)
 rw[hxy,n6,k9] at hat
 obtain⟨hs1,hs2⟩:=hs
 generalize hk:j+(aJ g8 (l.take i):Int)=m at *
 have hw1:=bJ (n:=m+1)
 have hw2:=bJ (n:=m+1+1)
 have hw3:=bJ (n:=m+1+1+1)
 have hw:=bJ (n:=(i:Int)+1)
 simp -implicitDefEqProofs only[bD,eM,kU,aE,hML,hat,hw1,hw2,aB,seval,EG]
 refine wP [(0,1),(1,1),(2,1),(3,1),(4,1),(6,1),(5,2),(7,2),(8,1)] [0,1,2,3,4,6,5,7,8] mixed ?_
 simp -implicitDefEqProofs only[hat,aB,seval,EG]
 refine jB (FW (m+1+1) _ (by omega)) ?_
 simp -implicitDefEqProofs only[eM,kU,hat,hw3,aB,seval,EG]
 refine(CA ts (m+1+1+1) _ (by omega) (by omega)).to ?_
 have mL:¬(m+1+1+1+(aJ Tm.cP ts:Int)<0):=by omega
 simp -implicitDefEqProofs only[mL,eN,hat,aB,seval,EG]
 refine(CA b (m+1+1+1+(aJ Tm.cP ts:Int)) _ (by omega) (by omega)).to ?_
 have HA:¬(m+1+1+1+(aJ Tm.cP ts:Int)+(aJ Tm.cP b:Int)<0):=by omega
 simp -implicitDefEqProofs only[HA,eN,aB,seval]
 refine⟨(),aR.mk ?_⟩
 have e:j+(aJ g8 (l.take (i+1)):Int)=m+1+1+1+(aJ Tm.cP ts:Int)+(aJ Tm.cP b:Int):=by omega
 simp -implicitDefEqProofs only[hw,e,aB,seval]
theorem sH(s:Ss):(dE s).width=6:=rfl
theorem IA(s:Ss):(dE s).cells.all AV.storable=true:=rfl
theorem NY(s:Ss):(dE s).cA=false:=rfl
theorem sG(s:Ss):(dE s).isAgg=true:=rfl
abbrev OG:=zi tI_3 (zi zI_3 (zi aY (zi tI_4 (zi zI_4 (zi cG (zi tI_27 (zi zI_27 (zi d8 (zi f6 (zi f7 (zi gG (zi tI_28 (zi zI_28 (zi aP (zi bE (zi bF (zi b9 (zi tI_30 (zi zI_30 (zi lA (zi lB (zi lC (zi lD (zi lE (zi lF k8)))))))))))))))))))))))))
theorem Q1(s:Ss)(st:aA):aD prog 19 [dE s,dE s] st (fun r st'=>r=.bool true∧st'=st):=by
 obtain⟨p,q,i0,i1,i2,i3⟩:=s
 simp only[dE]
 refine wF [1000000] 2 func19 ntmps19 rfl rfl ?_
 intro _
 simp -implicitDefEqProofs only[aB,seval,OG]
 refine(aLR p _).to ?_
 simp -implicitDefEqProofs only[aB,seval,OG]
 refine(aLS q _).to ?_
 simp -implicitDefEqProofs only[gC,aB,seval,OG]
def jY(s:Ss):Nat:=aJ g8 s.p+aJ Tm.cP s.q
def NZ(s:Ss)(j:Int):Ss:={ s with p:=dU n6 g8 s.p j,q:=dU Tm.mark Tm.cP s.q (j+aJ g8 s.p) }
abbrev aHE:=zi tI_3 (zi zI_3 (zi aY (zi tI_27 (zi zI_27 (zi d8 (zi f6 (zi f7 (zi gG (zi tI_28 (zi zI_28 (zi aP (zi bE (zi bF (zi b9 (zi tI_30 (zi zI_30 (zi lA (zi lB (zi lC (zi lD (zi lE (zi lF k8))))))))))))))))))))))
theorem RZ(s:Ss)(j:Int)(o:AV)(bs:List Nat)(st:aA)(hO:aQ st (dE s) o bs)(hnd:bs.Nodup)(h0:0≤j)(h1:j+jY s≤1099511627776) :
 aD prog 21 [o,.int .i64 j] st (E8 st (dE (NZ s j)) o bs (j+jY s)):=by
 obtain⟨p,qq,i0,i1,i2,i3⟩:=s
 obtain⟨q,b1,q',b2,rfl,rfl,hq,hq'⟩:=M8.1 hO
 obtain⟨n1,n2,hd⟩:=jO.1 hnd
 obtain⟨hqc,hqs,hqa,hqw,hqj⟩:=aQ.kE hq
 obtain⟨hrc,hrs,hra,hrw,hrj⟩:=aQ.kE hq'
 simp only[jY] at h1
 simp only at hq hq'
 refine wF [1000000] 2 func21 ntmps21 rfl rfl ?_
 intro _
 simp -implicitDefEqProofs only[hqa,hqw,aB,seval,aHE]
 refine(aMX p j q b1 st hq n1 h0 (by omega)).mono ?_
 rintro _ s2 ⟨rfl,hq2,hk⟩
 simp -implicitDefEqProofs only[hra,hrw,aB,seval,aHE]
 have aQ9:=aQ.beside hq' hk (fun x h h'=>hd x h' x h rfl)
 refine(CD qq _ q' b2 s2 aQ9 n2 (by omega) (by omega)).mono ?_
 rintro _ s3 ⟨rfl,hq3,hk3⟩
 simp -implicitDefEqProofs only[aB,seval]
 refine⟨?_,M8.2 ⟨q,b1,q',b2,rfl,rfl,?_,hq3⟩,fun x hx=>?_⟩
 · unfold jY;simp only;congr 1;omega
 · exact aQ.beside hq2 hk3 (fun x h h'=>hd x h x h' rfl)
 · simp only[dR,jL] at hx
   rw[hk3 x hx.2,hk x hx.1]
abbrev aHF:=zi tI_3 (zi zI_3 (zi aY (zi tI_27 (zi zI_27 (zi d8 (zi f6 (zi f7 (zi gG (zi tI_28 (zi zI_28 (zi aP (zi bE (zi bF (zi b9 (zi tI_30 (zi zI_30 (zi lA (zi lB (zi lC (zi lD (zi lE (zi lF k8))))))))))))))))))))))
theorem Q5(s:Ss)(j:Int)(st:aA)(h0:0≤j)(h1:j+jY s≤1099511627776) :
 aD prog 23 [dE (NZ s j),.int .i64 j] st (fun r st'=>r=.int .i64 (j+jY s)∧st'=st):=by
 obtain⟨p,q,i0,i1,i2,i3⟩:=s
 simp only[jY] at h1
 simp only[dE,NZ]
 refine wF [1000000] 2 func23 ntmps23 rfl rfl ?_
 intro _
 simp -implicitDefEqProofs only[aB,seval,aHF]
 refine(aLW p j _ h0 (by omega)).to ?_
 have hn1:¬(j+(aJ g8 p:Int)<0):=by omega
 simp -implicitDefEqProofs only[hn1,eN,aB,seval,aHF]
 refine(CA q _ _ (by omega) (by omega)).to ?_
 have hn2:¬(j+(aJ g8 p:Int)+(aJ Tm.cP q:Int)<0):=by omega
 simp -implicitDefEqProofs only[hn2,eN,aB,seval]
 unfold jY;simp only;congr 1;omega
end Go.AW
namespace Go.AW
def xG:AV→Bool
 | .int _ _ | .bool _ | .str _=>true
 | _=>false
theorem aF9{st:aA}{a o:AV}{bs:List Nat}(h:xG a=true):aQ st a o bs↔o=a∧bs= []:=by
 cases a<;>simp [xG] at h<;>simp [aQ]
theorem aTG{st:aA}{a:AV}{es os:List AV}{bs:List Nat}(h:xG a=true):a7 st (a::es) os bs↔∃os',os=a::os'∧a7 st es os' bs:=by
 simp only[a7]
 constructor
 · rintro⟨o,os',b1,b2,rfl,rfl,x1,x2⟩
   obtain⟨rfl,rfl⟩:=(aF9 h).1 x1
   exact⟨os',rfl,x2⟩
 · rintro⟨os',rfl,x⟩
   exact⟨a,os',[],bs,rfl,rfl,(aF9 h).2 ⟨rfl,rfl⟩,x⟩
def xX:List AV→List AV→List AV
 | [],_=>[]
 | a::es,qs=>if xG a then a::xX es qs else match qs with
  | q::qs=>q::xX es qs
  | []=>[]
theorem AY{st:aA}:∀ {es os:List AV} {bs:List Nat},a7 st es os bs↔∃qs,os=xX es qs∧a7 st (es.filter fun a=> !xG a) qs bs
 | [],os,bs=>by
  simp only[a7,xX,List.filter_nil]
  constructor
  · rintro⟨rfl,rfl⟩;exact⟨[],rfl,rfl,rfl⟩
  · rintro⟨qs,rfl,rfl,rfl⟩;exact⟨rfl,rfl⟩
 | a::es,os,bs=>by
  cases h:xG a with
  | true=>
   rw[aTG h]
   simp only[xX,h,List.filter_cons,kU,jI,cJ,dP]
   constructor
   · rintro⟨os',rfl,x⟩
     obtain⟨qs,rfl,y⟩:=AY.1 x
     exact⟨qs,rfl,y⟩
   · rintro⟨qs,rfl,y⟩
     exact⟨_,rfl,AY.2 ⟨qs,rfl,y⟩⟩
  | false=>
   simp only[xX,h,List.filter_cons,sQ,jI,cJ,dP,a7]
   constructor
   · rintro⟨o,os',b1,b2,rfl,rfl,x1,x2⟩
     obtain⟨qs,rfl,y⟩:=AY.1 x2
     exact⟨o::qs,rfl,o,qs,b1,b2,rfl,rfl,x1,y⟩
   · rintro⟨qs,rfl,o,os',b1,b2,rfl,rfl,x1,y⟩
     exact⟨o,_,b1,b2,rfl,rfl,x1,AY.2 ⟨os',rfl,y⟩⟩
theorem aF8{st:aA}{cs:List AV}{o:AV}{bs:List Nat}:aQ st (.agg cs) o bs↔∃qs,o=.agg (xX cs qs)∧a7 st (cs.filter fun a=> !xG a) qs bs:=by
 simp only[aQ]
 constructor
 · rintro⟨os,rfl,x⟩
   obtain⟨qs,rfl,y⟩:=AY.1 x
   exact⟨qs,rfl,y⟩
 · rintro⟨qs,rfl,y⟩
   exact⟨_,rfl,AY.2 ⟨qs,rfl,y⟩⟩
def aFE:AV→Bool
 | .slice _=>true
 | _=>false
def One(q:AV):Prop:=q.cells= [q]∧q.storable=true∧q.isAgg=false∧q.width=1∧q.cA=false
theorem a7.D0{st:aA}:∀ {es os:List AV} {bs:List Nat},a7 st es os bs→es.all aFE=true→∀q∈os,One q
 | [],os,bs,x,_=>by simp only[a7] at x;rw[x.1];simp
 | a::es,os,bs,x,h=>by
  simp only[a7] at x
  obtain⟨o,os',b1,b2,rfl,rfl,x1,x2⟩:=x
  simp only[iW,cL] at h
  intro q hq
  rcases cO.1 hq with rfl | hq
  · cases a<;>simp [aFE] at h
    exact aQ.kE x1
  · exact a7.D0 x2 h.2 q hq
structure mD (st:aA) (ds:List Nat) (es os:List AV) (bs:List Nat) (s:aA):Prop where
 nd:bs.Nodup
 fresh:∀b∈bs,st b=none
 apart:∀d∈ds,st d=none∧d∉bs∧s d≠none
 own:a7 s es os bs
 aU:∀x,x∉bs→x∉ds→s x=st x
theorem mD.start{st:aA}{ds:List Nat}{s:aA}(h1:∀d∈ds,st d=none∧s d≠none)(h2:∀x,x∉ds→s x=st x):mD st ds [] [] [] s:=
 ⟨lT,by simp,fun d hd=>⟨(h1 d hd).1,by simp,(h1 d hd).2⟩,⟨rfl,rfl⟩,fun x _ h=>h2 x h⟩
theorem mD.aC{st:aA}{ds:List Nat}{es os:List AV}{bs:List Nat}{s:aA}(c:mD st ds es os bs s){d:Nat}(hd:d∈ds)(o:AO):mD st ds es os bs (s.aC d o):=by
 refine⟨c.nd,c.fresh,fun e he=>⟨(c.apart e he).1,(c.apart e he).2.1,?_⟩,a7.aU _ _ _ (fun b hb=>aA.aF _ _ (fun e=>(c.apart d hd).2.1 (e▸hb))) c.own,fun x h1 h2=>?_⟩
 · by_cases h:e=d
   · subst h;rw[aA.aL];simp
   · rw[aA.aF _ _ h];exact(c.apart e he).2.2
 · have hx:x≠d:=by rintro rfl;exact h2 hd
   rw[aA.aF _ _ hx];exact c.aU x h1 h2
theorem mD.made{st:aA}{ds:List Nat}{es os:List AV}{bs:List Nat}{s s':aA}{a r:AV}(c:mD st ds es os bs s)(m:Made s a r s'):(∀d∈ds,s' d=s d)∧∃bs',mD st ds (es++ [a]) (os++ [r]) bs' s':=by
 obtain⟨b2,m1,m2,m3,m4⟩:=m
 have hb:∀b∈bs,b∉b2:=fun b hb hb'=>by
  obtain⟨cs,e,_⟩:=(a7.eY _ _ _ c.own).2 b hb
  rw[m2 b hb'] at e;cases e
 have hd:∀d∈ds,d∉b2:=fun d hd hd'=>(c.apart d hd).2.2 (m2 d hd')
 have hf:∀b∈b2,st b=none:=fun b h2=>by
  have h1:b∉bs:=fun h=>hb b h h2
  have h3:b∉ds:=fun h=>hd b h h2
  rw[←c.aU b h1 h3];exact m2 b h2
 refine⟨fun d h=>m4 d (hd d h),bs++b2,jO.2 ⟨c.nd,m1,fun x hx y hy e=>hb x hx (e▸hy)⟩,fun b h=>?_,fun d h=>⟨(c.apart d h).1,?_,?_⟩,?_,fun x h1 h2=>?_⟩
 · rcases dR.1 h with h | h
   · exact c.fresh b h
   · exact hf b h
 · simp only[dR,jL];exact⟨(c.apart d h).2.1,hd d h⟩
 · rw[m4 d (hd d h)];exact(c.apart d h).2.2
 · exact a7.snoc c.own (fun b h=>m4 b (hb b h)) m3
 · simp only[dR,jL] at h1
   rw[m4 x h1.2,c.aU x h1.1 h2]
theorem mD.done{st:aA}{ds:List Nat}{es os:List AV}{bs:List Nat}{s:aA}(c:mD st ds es os bs s){a r:AV}(h:a7 s es os bs→aQ s a r bs):∃ds,PL st ds a r s:=
 ⟨ds,bs,c.nd,c.fresh,fun d hd=>⟨(c.apart d hd).1,(c.apart d hd).2.1⟩,h c.own,fun b h1 h2=>c.aU b h1 h2⟩
theorem mD.two{st:aA}{b b2:Nat}{o o2:AO}(hb:st b=none)(hb2:(st.aC b o) b2=none):b2≠b∧mD st [b,b2] [] [] [] ((st.aC b o).aC b2 o2):=by
 have hne:b2≠b:=by rintro rfl;rw[aA.aL] at hb2;cases hb2
 have hn2:st b2=none:=by rw[aA.aF st _ hne] at hb2;exact hb2
 refine⟨hne,mD.start (fun d hd=>?_) (fun x hx=>?_)⟩
 · simp only[cO,dD,dI] at hd
   rcases hd with rfl | rfl
   · exact⟨hb,by rw[aA.aF _ _ (c9 hne),aA.aL];simp⟩
   · exact⟨hn2,by rw[aA.aL];simp⟩
 · simp only[cO,dD,dI,jL] at hx
   rw[aA.aF _ _ hx.2,aA.aF _ _ hx.1]
abbrev Fr:=Int×ByteArray
structure Clt where
 rest:List Bt
 brk:Bool
 wait:List Fr
 prog:List Cl
 act:Bool
 ses:Ss
 told:Bool
 out:List Fr
structure Sv where
 cs:List Clt
 jF:Int
def uA(s:Ss):Nat:=uB s.p+pO s.q
end Go.AW
namespace Go.AW
open Go.Proofs.Tryz

abbrev aHG:=zi tI_3 (zi zI_3 (zi aY (zi tI_22 (zi zI_22 (zi zJ (zi GA (zi GD (zi EU (zi tI_23 (zi zI_23 (zi pD (zi rR (zi rT (zi pU (zi tI_25 (zi zI_25 (zi GK (zi GM (zi GN (zi GO (zi GP (zi GQ FQ))))))))))))))))))))))
theorem aNJ(s:Ss)(left:Int)(st:aA)(h0:0≤left)(h1:left≤1048576):aD prog 15 [dE s,.int .i64 left] st (fun r' st'=>r'=.int .i64 (i9 left (uA s))∧st'=st):=by
 obtain⟨p,q,i0,i1,i2,i3⟩:=s
 simp only[dE,uA]
 generalize hp:uB p=np
 generalize hq:pO q=nq
 refine wF [1000000] 2 func15 ntmps15 rfl rfl ?_
 intro _
 simp -implicitDefEqProofs only[aB,seval,aHG]
 have hcp:=fun st=>aNI p left st h0 h1
 rw[hp] at hcp
 refine(hcp _).to ?_
 simp -implicitDefEqProofs only[aB,seval]
 refine aT (fun h2=>?_) (fun h2=>?_)
 · simp -implicitDefEqProofs only[aB,seval]
   simp only[bM,mQ] at h2
   simp only[i9]
   rw[aK (by skip;omega)]
 simp only[cM,mQ] at h2
 rw[pP h2]
 simp -implicitDefEqProofs only[aB,seval,aHG]
 have hcq:=fun st=>SC q (left - (np:Int)) st (by omega) (by omega)
 rw[hq] at hcq
 refine(hcq _).to ?_
 simp -implicitDefEqProofs only[aB,seval]
 refine aT (fun h3=>?_) (fun h3=>?_)
 · simp -implicitDefEqProofs only[aB,seval]
   simp only[bM,mQ] at h3
   simp only[i9]
   rw[aK (by skip;omega)]
 simp only[cM,mQ] at h3
 rw[pP h3]
 simp -implicitDefEqProofs only[aB,seval]
 rw[pP (by omega)]
 congr 1
 omega
abbrev OH:=zi tI_3 (zi zI_3 (zi aY (zi tI_22 (zi zI_22 (zi zJ (zi GA (zi GD (zi EU (zi tI_23 (zi zI_23 (zi pD (zi rR (zi rT (zi pU (zi tI_25 (zi zI_25 (zi GK (zi GM (zi GN (zi GO (zi GP (zi GQ (zi FQ (zi tI_27 (zi zI_27 (zi d8 (zi f6 (zi f7 (zi gG (zi tI_28 (zi zI_28 (zi aP (zi bE (zi bF (zi b9 (zi tI_30 (zi zI_30 (zi lA (zi lB (zi lC (zi lD (zi lE (zi lF k8)))))))))))))))))))))))))))))))))))))))))))
theorem aFX(s:Ss)(st:aA)(hb:uA s≤1048576):aD prog 17 [dE s] st (Made st (dE s)):=by
 obtain⟨p,q,i0,i1,i2,i3⟩:=s
 unfold uA at hb
 simp only at hb
 simp only[dE]
 refine aD.AH ?_
 refine wF [1000000] 1 func17 ntmps17 rfl rfl ?_
 intro _
 simp -implicitDefEqProofs only[aB,seval,OH]
 intro b hb1 b2 hb2
 obtain⟨hne,C0⟩:=mD.two hb1 hb2
 refine(aTA p _ (by omega)).mono ?_
 rintro q0 s1 m1
 obtain⟨k1,bs1,C1⟩:=C0.made m1
 have e1:=k1 b (by simp)
 have e2:=k1 b2 (by simp)
 simp only[dN,hne,hne.symm,dP,cJ] at e1 e2
 obtain⟨hqc,hqs,hqa,hqw,hqj⟩:=C1.own.D0 rfl q0 (by simp)
 simp -implicitDefEqProofs only[aS,e2,hqc,hqs,aB,seval,OH]
 refine(aFZ q _ (by omega)).mono ?_
 rintro q1 s2 m2
 obtain⟨k2,bs2,C2⟩:=(C1.aC (d:=b2) (by simp) _).made m2
 have f1:=k2 b (by simp)
 have f2:=k2 b2 (by simp)
 simp only[dN,hne.symm,dP,cJ,e1,e2] at f1 f2
 obtain⟨hrc,hrs,hra,hrw,hrj⟩:=C2.own.D0 rfl q1 (by simp)
 simp -implicitDefEqProofs only[eH,aS,dN,hne.symm,f1,f2,hqs,hrc,hrs,aB,seval,OH]
 refine((C2.aC (d:=b2) (by simp) _).aC (d:=b) (by simp) _).done fun h=>?_
 exact aF8.2 ⟨_,rfl,h⟩
noncomputable def iS(s:Ss)(u:Int):List (List Tm)×Int:=
 ((iB s.p (fun _ l=>l) s.q 20 u).1,if(iB s.p (fun _ l=>l) s.q 20 u).2=2∧u<s.jF then -1 else(iB s.p (fun _ l=>l) s.q 20 u).2)
noncomputable def tK(s:Ss):List (List Tm)×Int:=iS s s.used
def t9(s:Ss):Bool:=mN s.p&&(lI s.q&&(decide (0≤s.jF)&&(decide (s.jF≤300)&&(decide (0≤s.used)&&decide (s.used≤s.jF)))))
def IB(s:Ss):Bool:=decide (s.used=0)&&(decide (s.sent=0)&&decide (s.fin= -1))
noncomputable def kR(s:Ss):Bool:=t9 s&&(IB s||(decide (s.sent=((tK s).1.length:Int))&&decide (s.fin=(tK s).2)))
theorem aG3{s:Ss}(h:t9 s=true):jX s.p s.q 20 s.used=true:=by
 simp only[t9,cL,bM] at h
 obtain⟨h1,h2,h3,h4,h5,h6⟩:=h
 simp only[jX,h1,h2,iC]
 rw[tB h5,tB (show s.used≤300 by omega)]
 decide
abbrev aHY:=zi tI_3 (zi zI_3 (zi aY (zi tI_27 (zi zI_27 (zi d8 (zi f6 (zi f7 (zi gG (zi tI_28 (zi zI_28 (zi aP (zi bE (zi bF (zi b9 (zi tI_30 (zi zI_30 (zi lA (zi lB (zi lC (zi lD (zi lE (zi lF (zi k8 (zi tI_31 (zi zI_31 (zi gE (zi kN (zi kO mB))))))))))))))))))))))))))))
theorem RE(s:Ss)(u:Int)(h:jX s.p s.q 20 u=true)(st:aA):aD prog 89 [dE s,.int .i64 u] st (fun r st'=>r=.tup [.slice ((iS s u).1.map bP),.int .i64 (iS s u).2]∧st'=st):=by
 have hok:=h
 simp only[jX,cL,bM] at h
 obtain⟨kp,kq,_,_,k3,k4⟩:=h
 obtain⟨p1,p2⟩:=NI kp
 obtain⟨q1,q2⟩:=NJ kq
 have hr:=aMT p2 p1 q2 q1 (most:=20) (fuel:=u.toNat) (by omega) (by omega)
 rw[show((20:Nat):Int)=20 from rfl,show((u.toNat:Nat):Int)=u by omega] at hr
 have hs:iB s.p (fun _ l=>l) s.q 20 u=sF s.p (fun _ l=>l) s.q 20 u.toNat:=by
  unfold iB
  rw[aK hok]
  try rfl
 rw[←hs] at hr
 unfold iS
 generalize iB s.p (fun _ l=>l) s.q 20 u=T at *
 obtain⟨L,e⟩:=T
 simp only at hr ⊢
 obtain⟨p,q,i0,i1,i2,i3⟩:=s
 simp only[dE] at *
 refine wF [1000000] 2 func89 ntmps89 rfl rfl ?_
 intro _
 simp -implicitDefEqProofs only[aB,seval,aHY]
 refine(hr _).to ?_
 repeat' (first
  | (simp -implicitDefEqProofs only[*,aB,seval,aHY])
  | (refine cS (fun h=>?_) (fun h=>?_))
  | (refine aT (fun h=>?_) (fun h=>?_)))
 all_goals simp_all
theorem aL6(s:Ss)(h:t9 s=true)(st:aA):aD prog 89 [dE s,.int .i64 s.used] st (fun r st'=>r=.tup [.slice ((tK s).1.map bP),.int .i64 (tK s).2]∧st'=st):=RE s s.used (aG3 h) st
abbrev aHW:=zi tI_3 (zi zI_3 (zi aY (zi tI_4 (zi zI_4 (zi cG (zi tI_27 (zi zI_27 (zi d8 (zi f6 (zi f7 (zi gG (zi tI_28 (zi zI_28 (zi aP (zi bE (zi bF (zi b9 (zi tI_30 (zi zI_30 (zi lA (zi lB (zi lC (zi lD (zi lE (zi lF (zi k8 (zi tI_31 (zi zI_31 (zi gE (zi kN (zi kO mB)))))))))))))))))))))))))))))))
theorem aNC(s:Ss)(st:aA):aD prog 37 [dE s] st (fun r st'=>r=.bool (kR s)∧st'=st):=by
 have ha:=aL6 s
 unfold kR
 generalize tK s=T at *
 obtain⟨L,e⟩:=T
 obtain⟨p,q,i0,i1,i2,i3⟩:=s
 simp only[dE,t9,IB] at *
 refine aD.done ?_
 refine wF [1000000] 1 func37 ntmps37 rfl rfl ?_
 intro _
 simp -implicitDefEqProofs only[aB,seval,aHW]
 repeat' (first
  | (simp -implicitDefEqProofs only[*,aE,aB,seval,aHW])
  | (refine cS (fun h=>?_) (fun h=>?_))
  | (refine(aNA p _).to ?_) | (refine(aNB q _).to ?_) | (refine(ha (by simp_all) _).to ?_)
  | (refine aT (fun h=>?_) (fun h=>?_)))
 all_goals (refine⟨?_,aM.refl _⟩;simp only[AV.soft];first | (simp_all;done) | (simp_all;intros;omega))
abbrev aHX:=zi tI_3 (zi zI_3 (zi aY (zi tI_27 (zi zI_27 (zi d8 (zi f6 (zi f7 (zi gG (zi tI_28 (zi zI_28 (zi aP (zi bE (zi bF (zi b9 (zi tI_30 (zi zI_30 (zi lA (zi lB (zi lC (zi lD (zi lE (zi lF (zi k8 (zi tI_31 (zi zI_31 (zi gE (zi kN (zi kO mB))))))))))))))))))))))))))))
theorem Q2(s:Ss)(u:Int)(st:aA):aD prog 88 [dE s,.int .i64 u] st (J0 st ((iS s u).1.map bP) (iS s u).2):=by
 have hr:=aL3 s.p s.q 20 u
 unfold iS
 generalize iB s.p (fun _ l=>l) s.q 20 u=T at *
 obtain⟨L,e⟩:=T
 simp only at hr ⊢
 obtain⟨p,q,i0,i1,i2,i3⟩:=s
 simp only[dE] at *
 refine wF [1000000] 2 func88 ntmps88 rfl rfl ?_
 intro _
 simp -implicitDefEqProofs only[aB,seval,aHX]
 refine(hr _).mono ?_
 intro r s1 h
 obtain⟨o,rfl,hM,hN⟩:=h
 obtain⟨hqc,hqs,hqa,hqw,hqj⟩:=aQ.kE hM.choose_spec.2.2.1
 repeat' (first
  | (simp -implicitDefEqProofs only[*,aB,seval,aHX])
  | (refine cS (fun h=>?_) (fun h=>?_))
  | (refine aT (fun h=>?_) (fun h=>?_)))
 all_goals exact⟨o,by simp_all,hM,hN⟩
theorem aLU(s:Ss)(u:Int)(st:aA):aD prog 88 [dE s,.int .i64 u] st (lU st [.slice ((iS s u).1.map bP),.int .i64 (iS s u).2]):=
 (Q2 s u st).mono fun _ _ ⟨o,h1,h2,_⟩=>by subst h1;exact lU.aTB h2
theorem aLT(s:Ss)(k:Int)(st:aA):aD prog 88 [dE s,.int .i64 s.used] st (lU st [.slice ((tK s).1.map bP),.int .i64 (tK s).2]):=aLU s s.used st
abbrev aHV:=zi tI_3 (zi zI_3 (zi aY (zi tI_4 (zi zI_4 (zi cG (zi tI_27 (zi zI_27 (zi d8 (zi f6 (zi f7 (zi gG (zi tI_28 (zi zI_28 (zi aP (zi bE (zi bF (zi b9 (zi tI_30 (zi zI_30 (zi lA (zi lB (zi lC (zi lD (zi lE (zi lF (zi k8 (zi tI_31 (zi zI_31 (zi gE (zi kN (zi kO (zi mB (zi tI_300 (zi zI_300 (zi aOW (zi aOX (zi aOZ (zi aO0 (zi aO1 (zi aO2 (zi aO3 (zi aO4 (zi aO5 (zi aO6 (zi aOY aKN)))))))))))))))))))))))))))))))))))))))))))))
theorem aL1(s:Ss)(st:aA):aD prog 36 [dE s] st (fun r st'=>r=.bool (kR s)∧st'=st):=by
 have ha:=fun st=>(aLT s 0 st).aSQ
 unfold kR
 generalize tK s=T at *
 obtain⟨L,e⟩:=T
 obtain⟨p,q,i0,i1,i2,i3⟩:=s
 simp only[dE,t9,IB] at *
 refine aD.done ?_
 refine wF [1000000] 1 func36 ntmps36 rfl rfl ?_
 intro _
 simp -implicitDefEqProofs only[aB,seval,aHV]
 repeat' (first
  | (simp -implicitDefEqProofs only[*,aE,aB,seval,aHV])
  | (refine cS (fun h=>?_) (fun h=>?_))
  | (refine(Q6 p _).to ?_) | (refine(Q7 q _).to ?_) | (refine(wS _ _ _ _).to ?_) | (refine(ha _).to ?_)
  | (refine aT (fun h=>?_) (fun h=>?_)))
 all_goals (refine⟨?_,aM.refl _⟩;simp only[AV.soft];first | (simp_all;done) | (simp_all;intros;omega))
end Go.AW
namespace Go.AW
theorem aTR(p:List Cl)(cnd:Tm→List Nat→List Nat)(vars:List Int)(k:Nat):∀(n most f:Nat) (s:RS),most+f≤n →
 ((gL p cnd vars most f s).2≠2→gL p cnd vars most (f+k) s=gL p cnd vars most f s)∧(gL p cnd vars most f s).1 <+: (gL p cnd vars most (f+k) s).1:=by
 intro n
 induction n with
 | zero=>
  intro most f s hn
  obtain rfl:most=0:=by omega
  obtain rfl:f=0:=by omega
  cases hg:s.goals with
  | nil=>rw[tY hg,tY hg];simp
  | cons g rest=>rw[sD (fuel:=0) hg];simp
 | succ n ih=>
  intro most f s hn
  cases hg:s.goals with
  | nil=>
   rw[tY hg,tY hg]
   by_cases hm:most=0
   · rw[aK hm,aK hm];simp
   rw[aG hm,aG hm]
   cases ha:g7 s.σ vars with
   | none=>simp
   | some a=>
    simp only
    cases hb:eX p s.chs.length s.chs with
    | none=>simp
    | some s'=>
     obtain⟨h1,h2⟩:=ih (most - 1) f s' (by omega)
     simp only
     refine⟨fun h=>by rw[h1 h],?_⟩
     rw[List.cons_prefix_cons]
     exact⟨rfl,h2⟩
  | cons g rest=>
   by_cases hf:f=0
   · subst hf
     rw[sD (fuel:=0) hg];simp
   rw[sD hg,sD hg,aG hf,aG (by omega)]
   cases hst:iJ p cnd s g rest with
   | stop e=>simp
   | go s'=>
    have:=ih most (f - 1) s' (by omega)
    rw[show f - 1+k=f+k - 1 by omega] at this
    exact this
   | fail=>
    simp only
    cases hb:eX p s.chs.length s.chs with
    | none=>simp
    | some s'=>
     have:=ih most (f - 1) s' (by omega)
     rw[show f - 1+k=f+k - 1 by omega] at this
     exact this
theorem NX{p:List Cl}{cnd:Tm→List Nat→List Nat}{q:List Tm}{most fuel:Int}(h:jX p q most fuel=true):iB p cnd q most fuel=sF p cnd q most.toNat fuel.toNat:=by
 unfold iB
 rw[aK h]
theorem H9{p:List Cl}{q:List Tm}{most fuel:Int}:jX p q most fuel=true↔(mN p=true∧lI q=true∧0≤most∧most≤20∧0≤fuel∧fuel≤300):=by
 simp only[jX,cL,bM]
theorem aTT{p:List Cl}{cnd:Tm→List Nat→List Nat}{s:RS}{g:RG}{rest:List RG}{e:Int}(h:iJ p cnd s g rest=.stop e):e≠9:=by
 unfold iJ at h
 intro he
 subst he
 repeat' split at h
 all_goals first | (cases h;done) | (injection h with h;unfold oA at h;repeat' split at h;all_goals omega) | (injection h with h;omega)
theorem aTQ(p:List Cl)(cnd:Tm→List Nat→List Nat)(vars:List Int):∀(n most f:Nat) (s:RS),most+f≤n→(gL p cnd vars most f s).2≠9∧(gL p cnd vars most f s).1.length≤most:=by
 intro n
 induction n with
 | zero=>
  intro most f s hn
  obtain rfl:most=0:=by omega
  obtain rfl:f=0:=by omega
  cases hg:s.goals with
  | nil=>rw[tY hg];simp
  | cons g rest=>rw[sD (fuel:=0) hg];simp
 | succ n ih=>
  intro most f s hn
  cases hg:s.goals with
  | nil=>
   rw[tY hg]
   by_cases hm:most=0
   · rw[aK hm];simp
   rw[aG hm]
   cases ha:g7 s.σ vars with
   | none=>simp
   | some a=>
    simp only
    cases hb:eX p s.chs.length s.chs with
    | none=>simp;omega
    | some s'=>
     obtain⟨h1,h2⟩:=ih (most - 1) f s' (by omega)
     simp only[bA]
     exact⟨h1,by omega⟩
  | cons g rest=>
   by_cases hf:f=0
   · subst hf
     rw[sD (fuel:=0) hg];simp
   rw[sD hg,aG hf]
   cases hst:iJ p cnd s g rest with
   | stop e=>exact⟨aTT hst,mV _⟩
   | go s'=>exact ih most (f - 1) s' (by omega)
   | fail=>
    simp only
    cases hb:eX p s.chs.length s.chs with
    | none=>simp
    | some s'=>exact ih most (f - 1) s' (by omega)
theorem aUU{p:List Cl}{cnd:Tm→List Nat→List Nat}{q:List Tm}{most fuel:Int}(h:jX p q most fuel=true):((iB p cnd q most fuel).1.length:Int)≤most:=by
 rw[NX h]
 have h1:=(aTQ p cnd (bO q []) _ most.toNat fuel.toNat (kG q) (cT _)).2
 have h2:=(H9.1 h).2.2.1
 unfold sF
 omega
theorem aPK{p:List Cl}{cnd:Tm→List Nat→List Nat}{q:List Tm}{most fuel fuel':Int}(h:jX p q most fuel=true)(hf:fuel≤fuel')(hf':fuel'≤300) :
 ((iB p cnd q most fuel).2≠2→iB p cnd q most fuel'=iB p cnd q most fuel)∧(iB p cnd q most fuel).1 <+: (iB p cnd q most fuel').1:=by
 obtain⟨h1,h2,h3,h4,h5,h6⟩:=H9.1 h
 have h':jX p q most fuel'=true:=H9.2 ⟨h1,h2,h3,h4,by omega,by omega⟩
 rw[NX h,NX h']
 obtain⟨k,hk⟩:∃k:Nat,fuel'.toNat=fuel.toNat+k:=⟨fuel'.toNat - fuel.toNat,by omega⟩
 rw[hk]
 exact aTR p cnd (bO q []) k _ most.toNat fuel.toNat (kG q) (cT _)
end Go.AW
namespace Go.AW
open Go.Proofs.Tryz
def fU(s:Ss)(n:Int):Int:=if n<s.jF - s.used then s.used+n else s.jF
noncomputable def nW(s:Ss)(n:Int):Ss:={ s with used:=fU s n,sent:=((iS s (fU s n)).1.length:Int),fin:=(iS s (fU s n)).2 }
noncomputable def AL(s:Ss)(n:Int):List (List Tm):=(iS s (fU s n)).1.drop s.sent.toNat
noncomputable def m6(s:Ss)(n:Int):Bool:=kR s&&(decide (0≤n)&&decide (s.fin= -1))
noncomputable def fY(s:Ss)(n:Int):Ss×List (List Tm):=if m6 s n=true then(nW s n,AL s n) else(s,[])
structure SlF (s:Ss) (n:Int):Prop where
 rng:t9 s=true
 ok:jX s.p s.q 20 (fU s n)=true
 u0:0≤s.used
 u1:s.used≤fU s n
 u2:fU s n≤s.jF
 q1:s.jF≤300
 s0:0≤s.sent
 s1:s.sent≤((iS s (fU s n)).1.length:Int)
 l:(iS s (fU s n)).1.length≤20
 nxt:kR (nW s n)=true
theorem N0{s:Ss}:t9 s=true↔mN s.p=true∧lI s.q=true∧0≤s.jF∧s.jF≤300∧0≤s.used∧s.used≤s.jF:=by
 simp only[t9,cL,bM]
theorem N1{s:Ss}{n:Int}(h:kR s=true)(hn:0≤n):SlF s n:=by
 have h':=h
 simp only[kR,cL] at h'
 obtain⟨hr,hs⟩:=h'
 obtain⟨kp,kq,k1,k2,k3,k4⟩:=N0.1 hr
 have hu1:s.used≤fU s n:=by unfold fU;split<;>omega
 have hu2:fU s n≤s.jF:=by unfold fU;split<;>omega
 have aQ6:jX s.p s.q 20 s.used=true:=aG3 hr
 have hok:jX s.p s.q 20 (fU s n)=true:=H9.2 ⟨kp,kq,by omega,by omega,by omega,by omega⟩
 have hl:=aUU (cnd:=fun _ l=>l) hok
 have HE:=(aPK (cnd:=fun _ l=>l) aQ6 hu1 (by omega)).2.length_le
 have aE0:0≤s.sent∧s.sent≤((iS s (fU s n)).1.length:Int):=by
  simp only[oU,IB,cL,bM] at hs
  rcases hs with ⟨_,h2,_⟩ | ⟨h1,_⟩
  · omega
  · simp only[tK,iS] at h1 ⊢
    omega
 refine⟨hr,hok,k3,hu1,hu2,k2,aE0.1,aE0.2,by simp only[iS];omega,?_⟩
 simp only[kR,cL]
 refine⟨N0.2 ⟨kp,kq,k1,k2,?_,hu2⟩,?_⟩
 · show 0≤fU s n
   omega
 · rw[oU]
   exact .inr (by rw[cL];exact⟨tB rfl,tB rfl⟩)
theorem aJM{P:Program}{t:TypeId}{ag:Bool}{w:Nat}{φ:AF}{y:Operand}{L:List AV}{n:Nat}(hI:eI P t=some (ag,w))(hn:n≤L.length)(hw:∀e∈L,e.width=w)(h:φ.eval y=.int .i64 (n:Int)):fE P φ t (.slice L) (some y) none none=some (.slice (L.drop n)):=by
 have h1:cZ φ none L.length L.length=some L.length:=rfl
 have h3:cZ φ (some y) 0 L.length=some n:=by
  simp only[cZ,h]
  rw[aK ⟨by omega,by omega⟩]
  rw[j4]
 have hwd:sN L n w=true:=by
  unfold sN
  split
  · rename_i e he
    simp [hw e (cI he)]
  · rfl
 unfold fE mG
 rw[aG (by simp [oK])]
 simp only[hI,h1,h3,hwd]
 simp
theorem aJ7(l:List (List Tm)):∀e∈l.map bP,e.width=1:=by intro e h;simp only[cE] at h;obtain⟨t,_,rfl⟩:=h;rfl
abbrev vZ:=zi tI_3 (zi zI_3 (zi aY (zi tI_30 (zi zI_30 (zi lA (zi lB (zi lC (zi lD (zi lE (zi lF (zi k8 (zi tI_31 (zi zI_31 (zi gE (zi kN (zi kO mB))))))))))))))))
set_option maxHeartbeats 2000000 in
theorem aL7(s:Ss)(n:Int)(h:kR s=true)(hn:0≤n)(st:aA):aD prog 65 [dE s,.int .i64 n] st (fun r st'=>r=.tup [dE (nW s n),.slice ((AL s n).map bP)]∧st'=st):=by
 have hF:=N1 h hn
 obtain⟨kp,kq,k1,k2,k3,k4⟩:=N0.1 hF.rng
 obtain⟨p1,p2⟩:=aTK kp
 obtain⟨q1,q2⟩:=aTN kq
 have hcp:=RF s (by omega) p2 (by omega) q2
 have ha:=RE s (fU s n) hF.ok
 have hs0:=hF.s0
 have hs1:=hF.s1
 have hfl:=hF.l
 have hu0:=hF.u0
 have hu1:=hF.u1
 have hu2:=hF.u2
 have hq1:=hF.q1
 unfold nW AL
 generalize iS s (fU s n)=T at *
 obtain⟨L,e⟩:=T
 simp only at ha hs1 hfl ⊢
 have hnu:fU s n=if n<s.jF - s.used then s.used+n else s.jF:=rfl
 generalize fU s n=u at *
 obtain⟨p,q,i0,i1,i2,i3⟩:=s
 simp only[dE] at *
 obtain⟨k,rfl⟩:=yB hs0
 refine aD.done ?_
 refine wF [1000000,6] 2 func65 ntmps65 rfl rfl ?_
 intro _
 simp -implicitDefEqProofs only[aB,seval,vZ]
 intro b4 h4
 refine(hcp _).to ?_
 simp -implicitDefEqProofs only[aS,aB,↓aW,seval,vZ]
 intro b6 h6
 have h64:b6≠b4:=by rintro rfl;rw[aA.aL] at h6;cases h6
 have h6':st b6=none:=by rwa [aA.aF _ _ h64] at h6
 have hw0:=bJ (n:=i0 - i1)
 have hsl:=fun(φ:AF) (y:Operand) (h:φ.eval y=.int .i64 (k:Int))=>aJM (P:=prog) (t:=31) (L:=L.map bP) gE (by rw[aE];omega) (aJ7 L) h
 simp -implicitDefEqProofs only[hw0,seval]
 refine aT (fun h1=>?_) (fun h1=>?_)
 · have h1':n<i0 - i1:=by simpa using h1
   rw[aK h1'] at hnu
   have hw1:=bJ (n:=i1+n)
   rw[←hnu] at hw1
   simp -implicitDefEqProofs only[aS,hw1,←hnu,eH,aB,seval,vZ]
   refine(ha _).to ?_
   simp -implicitDefEqProofs only[aE,aS,eH,aB,seval,vZ]
   have f8:∀(o:AO),((st.aC b4 (.cells [.fslice [],.fslice [],.int .i64 0,.int .i64 0,.int .i64 0,.int .i64 0])).aC b6 o) b6=some o:=fun o=>aA.aL _ _ _
   refine EZ [(0,1),(1,1),(2,1),(3,1),(4,1),(5,0),(6,1)] [0,1,2,3,4,6] (c8.aC b6 (.cells [.slice (p.map bB),.slice (q.map Tm.av),.int .i64 i0,.int .i64 (u),.int .i64 (L.length:Int),.int .i64 e])) mixed (by decide +kernel) (by decide +kernel) (by decide +kernel) rfl (g9 (f8 _)) ?_
   simp -implicitDefEqProofs only[aS,h64.symm,hsl,aB,seval,vZ]
   exact⟨g9 (by rw[aA.aF _ _ h64,aA.aL]),by simp only[mA,mP,nM,sE,bK,bL,j4,yE],(((aM.refl _).aC h4).aC h6').aC h4⟩
 · have h1':¬n<i0 - i1:=by simpa using h1
   rw[aG h1'] at hnu
   obtain rfl:i0=u:=hnu.symm
   simp -implicitDefEqProofs only[aB,seval,vZ]
   refine(ha _).to ?_
   simp -implicitDefEqProofs only[aE,aS,eH,aB,seval,vZ]
   have f8:∀(o:AO),((st.aC b4 (.cells [.fslice [],.fslice [],.int .i64 0,.int .i64 0,.int .i64 0,.int .i64 0])).aC b6 o) b6=some o:=fun o=>aA.aL _ _ _
   refine EZ [(0,1),(1,1),(2,1),(3,1),(4,1),(5,0),(6,1)] [0,1,2,3,4,6] (c8.aC b6 (.cells [.slice (p.map bB),.slice (q.map Tm.av),.int .i64 i0,.int .i64 (i0),.int .i64 (L.length:Int),.int .i64 e])) mixed (by decide +kernel) (by decide +kernel) (by decide +kernel) rfl (g9 (f8 _)) ?_
   simp -implicitDefEqProofs only[aS,h64.symm,hsl,aB,seval,vZ]
   exact⟨g9 (by rw[aA.aF _ _ h64,aA.aL]),by simp only[mA,mP,nM,sE,bK,bL,j4,yE],(((aM.refl _).aC h4).aC h6').aC h4⟩
theorem u9{s:Ss}{n:Int}:m6 s n=true↔kR s=true∧0≤n∧s.fin= -1:=by
 simp only[m6,cL,bM]
abbrev sK:=zi tI_3 (zi zI_3 (zi aY (zi tI_4 (zi zI_4 (zi cG (zi tI_30 (zi zI_30 (zi lA (zi lB (zi lC (zi lD (zi lE (zi lF (zi k8 (zi tI_31 (zi zI_31 (zi gE (zi kN (zi kO mB)))))))))))))))))))
set_option maxHeartbeats 1000000 in
theorem aND(s:Ss)(n:Int)(hp:s.p.length≤1048576)(hps:∀c∈s.p,SM c)(hq:s.q.length≤1048576)(hqs:∀t∈s.q,t.small=true)(st:aA):aD prog 16 [dE s,.int .i64 n] st (fun r st'=>r=.tup [dE (fY s n).1,.slice ((fY s n).2.map bP)]∧st'=st):=by
 have hv:=aNC s
 have hcp:=RF s hp hps hq hqs
 have hsl:=fun h hn=>aL7 s n h hn
 have mK:m6 s n=false→fY s n=(s,[]):=fun h=>by unfold fY;rw[h];try rfl
 have MC:m6 s n=true→fY s n=(nW s n,AL s n):=fun h=>by unfold fY;rw[h];try rfl
 have z5:kR s=true→0≤n→s.fin= -1→m6 s n=true:=fun a b c=>u9.2 ⟨a,b,c⟩
 have w8:m6 s n=true→kR s=true∧0≤n∧s.fin= -1:=u9.1
 generalize nW s n=A at *
 generalize AL s n=M at *
 generalize fY s n=R at *
 generalize m6 s n=cs at *
 generalize kR s=ok at *
 have hE:∀(o:AO) (b4:Nat),st b4=none→aM (st.aC b4 o) st:=fun o b4 h=>(aM.refl _).aC h
 obtain⟨p,q,i0,i1,i2,i3⟩:=s
 obtain⟨ap,aq,a0,a1,a2,a3⟩:=A
 simp only[dE] at *
 refine aD.done ?_
 refine wF [1000000] 2 func16 ntmps16 rfl rfl ?_
 intro _
 simp -implicitDefEqProofs only[aB,seval,sK]
 intro b4 h4
 refine(hv _).to ?_
 simp -implicitDefEqProofs only[aB,seval]
 cases ok with
 | false=>
  have:R=(⟨p,q,i0,i1,i2,i3⟩,[]):=mK (by cases cs with | false=>rfl | true=>exact absurd (w8 rfl).1 (by decide))
  subst this
  simp -implicitDefEqProofs only[aB,seval,sK]
  refine(hcp _).to ?_
  simp -implicitDefEqProofs only[aS,aB,seval,sK]
  exact⟨by simp only[mA,mP,nM,sE,vU,bK,bL],(aM.refl _).aC h4⟩
 | true=>
  simp -implicitDefEqProofs only[aB,seval]
  by_cases hn:0≤n
  case neg=>
   have:R=(⟨p,q,i0,i1,i2,i3⟩,[]):=mK (by cases cs with | false=>rfl | true=>exact absurd (w8 rfl).2.1 hn)
   subst this
   have hn':(n<0)=True:=eq_true (by omega)
   simp -implicitDefEqProofs only[hn',eM,aB,seval,sK]
   refine(hcp _).to ?_
   simp -implicitDefEqProofs only[aS,aB,seval,sK]
   exact⟨by simp only[mA,mP,nM,sE,vU,bK,bL],(aM.refl _).aC h4⟩
  have hn':(n<0)=False:=eq_false (by omega)
  simp -implicitDefEqProofs only[hn',eN,aB,seval,sK]
  by_cases h3:i3= -1
  case neg=>
   have:R=(⟨p,q,i0,i1,i2,i3⟩,[]):=mK (by cases cs with | false=>rfl | true=>exact absurd (w8 rfl).2.2 h3)
   subst this
   have h3':=eq_false h3
   simp -implicitDefEqProofs only[h3',eN,aB,seval,sK]
   refine(hcp _).to ?_
   simp -implicitDefEqProofs only[aS,aB,seval,sK]
   exact⟨by simp only[mA,mP,nM,sE,vU,bK,bL],(aM.refl _).aC h4⟩
  have:R=(⟨ap,aq,a0,a1,a2,a3⟩,M):=MC (z5 rfl hn h3)
  subst this
  have h3':=eq_true h3
  simp -implicitDefEqProofs only[h3',eM,aB,seval,sK]
  refine(hsl rfl hn _).to ?_
  simp -implicitDefEqProofs only[aS,aB,seval,sK]
  exact⟨by simp only[mA,mP,nM,sE,bK,bL],(aM.refl _).aC h4⟩
end Go.AW
namespace Go.AW
section
variable {h:a9} {st:aA}
end
def sU(n k:Nat)(q o:AV):Prop:=(k≤n∧∃b w,q=.mslice b 0 n w∧o=.mslice b (k*w) (n - k) w)∨(k=n∧o=.fslice [])
theorem aQ.aIZ{h:a9}{st s0:aA}(S:cH h st)(D:aM st s0){es:List AV}{q o:AV}{bs:List Nat}{k:Nat}(x:aQ st (.slice es) q bs)(hb:∀b∈bs,s0 b=none)(hT:sU es.length k q o){cs:List Value}(y:VC h st o cs):VC h s0 (.slice (es.drop k)) cs:=by
 rcases hT with ⟨hk,b,w,rfl,rfl⟩ | ⟨rfl,rfl⟩
 · simp only[aQ] at x
   rcases x with ⟨_,hq,_⟩ | ⟨b',bs',os,w',e1,rfl,e2,x,e3⟩
   · cases hq
   · cases e1
     simp only[VC] at y
     obtain⟨cap,e,l1,l2,_⟩:=y
     obtain⟨hlt,c,t,q1,q2,vs,q3,q4⟩:=S b _ e2
     have hsh:=a7.NU (h:=h) (s0:=s0) x
     have hE:=a7.O8 S D b es os bs' 0 x (fun q hq=>hb q (by simp [hq])) (BP (fun q hq=>hsh q hq) q3 q4)
     have hE2:=cX.drop k e3 hE
     rw[gI] at hE2
     unfold VC
     exact .inr ⟨b,k*w,cap,by rw[rG];exact e,by rw[rG];exact l1,l2,hb b (by simp),hlt,⟨w,fun e he=>e3 e (List.mem_of_mem_drop he)⟩,hE2⟩
 · rw[iD]
   unfold VC at y ⊢
   rcases y with y | ⟨b,off,e,_⟩
   · exact .inl y
   · exact .inl ⟨⟨_,e⟩,rfl⟩
def d6(st s0:aA)(os us:List AV):Prop:=∀h vs,cH h st→cK h st os vs→cK h s0 us vs
theorem d6.nil{st s0:aA}:d6 st s0 [] []:=fun _ _ _ y=>y
theorem d6.cons{st s0:aA}{o a:AV}{os us:List AV}(x:∀h v,cH h st→aN h st o v→aN h s0 a v)(h:d6 st s0 os us):d6 st s0 (o::os) (a::us):=fun hp vs S y=>by
 simp only[cK] at y ⊢
 obtain⟨v,r,rfl,y1,y2⟩:=y
 exact⟨v,r,rfl,x hp v S y1,h hp r S y2⟩
theorem d6.same{st:aA}{x:AV}{os us:List AV}(h:d6 st c8 os us):d6 st c8 (x::os) (x::us):=
 d6.cons (fun hp v S y=>y.mono ((aM.c8 st).step hp)) h
theorem d6.own{st:aA}{a o:AV}{bs:List Nat}{os us:List AV}(hO:aQ st a o bs)(h:d6 st c8 os us):d6 st c8 (o::os) (a::us):=
 d6.cons (fun hp v S y=>hO.JM S (aM.c8 st) (fun _ _=>rfl) y) h
theorem EE{n k:Nat}{q o:AV}(h:sU n k q o):o.isAgg=false∧o.cA=false∧o.width=1∧o.cells= [o]∧o.storable=true:=by
 rcases h with ⟨_,b,w,_,rfl⟩ | ⟨_,rfl⟩<;>exact⟨rfl,rfl,rfl,rfl,rfl⟩
theorem d6.tail{st:aA}{es:List AV}{q o:AV}{bs:List Nat}{k:Nat}{os us:List AV}(hO:aQ st (.slice es) q bs)(hT:sU es.length k q o)(h:d6 st c8 os us):d6 st c8 (o::os) (.slice (es.drop k)::us):=by
 refine d6.cons (fun hp v S y=>?_) h
 have hv:VC hp st o v.cells.toList∧o.isAgg=jH v:=by
  rcases hT with ⟨_,b,w,_,rfl⟩ | ⟨_,rfl⟩<;>exact⟨y.2,y.1⟩
 exact⟨by rw[←hv.2,(EE hT).1];try rfl,aQ.aIZ S (aM.c8 st) hO (fun _ _=>rfl) hT hv.1⟩
theorem aD.t0{P:Program}{g:FuncId}{args args':List AV}{st:aA}{r:AV}(x:∀s,aD P g args s (fun r' s'=>r'=r∧s'=s))(hv:d6 st c8 args' args)(hs:r.eY=true):aD P g args' st (fun r' s'=>r'=r∧s'=st):=
 aD.LN hs (x c8) hv

end Go.AW
namespace Go.AW
open Go.Proofs.Tryz
theorem Made.M4{st S:aA}{a r:AV}{bs:List Nat}(hnd:bs.Nodup)(iF:∀b∈bs,st b=none)(hO:aQ S a r bs)(hk:∀x o,st x=some o→S x=some o):∃s2,aM S s2∧Made st a r s2:=by
 refine⟨fun x=>if x∈bs then S x else st x,fun x=>?_,bs,hnd,iF,aQ.aU _ _ _ (fun b hb=>aK hb) hO,fun b hb=>aG hb⟩
 dsimp only
 by_cases hx:x∈bs
 · rw[aK hx]
   exact⟨fun h=>h,fun o h=>h⟩
 · rw[aG hx]
   refine⟨fun h=>?_,fun o h=>hk x o h⟩
   cases hs:st x with
   | none=>rfl
   | some o=>rw[hk x o hs] at h;cases h
def yG(st:aA)(L:List AV)(k:Nat)(o:AV)(st':aA):Prop:=∃q,Made st (.slice L) q st'∧sU L.length k q o
def EP(b n k:Nat):AV:=if k<n then .mslice b (k*1) (n - k) 1 else .eslice
theorem aJV{P:Program}{t:TypeId}{ag:Bool}{φ:AF}{y:Operand}{b n k:Nat}(hI:eI P t=some (ag,1))(hk:k≤n)(hn:0<n)(h:φ.eval y=.int .i64 (k:Int)):fE P φ t (.mslice b 0 n 1) (some y) none none=some (EP b n k):=by
 have h1:cZ φ none n n=some n:=rfl
 have h3:cZ φ (some y) 0 n=some k:=by
  simp only[cZ,h]
  rw[aK ⟨by omega,by omega⟩]
  rw[j4]
 unfold fE mG
 rw[aG (by simp [oK])]
 simp only[hI,h1,h3]
 rw[aK trivial]
 unfold EP
 by_cases h0:k=0
 · subst h0
   rw[aK rfl,aK hn]
   simp
 · rw[aG h0]
   by_cases hlt:k<n
   · rw[aK hlt,aK hlt,gI]
   · rw[aG hlt,aG hlt]
theorem aJU{P:Program}{t:TypeId}{ag:Bool}{w:Nat}{φ:AF}{y:Operand}(hI:eI P t=some (ag,w))(h:φ.eval y=.int .i64 0):fE P φ t (.fslice []) (some y) none none=some (.fslice []):=by
 have h1:cZ φ none 0 0=some 0:=rfl
 have h3:cZ φ (some y) 0 0=some 0:=by
  simp only[cZ,h]
  rw[aK ⟨by omega,by omega⟩]
  try rfl
 unfold fE
 rw[aK ⟨rfl,rfl⟩]
 simp only[hI,h1,h3]
theorem aOE{P:Program}{t:TypeId}:iL P t .eslice=match P.underlying t with | some (.slice _)=>some (.int .i64 ((0:Nat):Int)) | _=>none:=rfl
abbrev OO:=zi tI_31 (zi zI_31 (zi gE (zi kN (zi kO mB))))
theorem aJR{P:Program}{t:TypeId}{ag:Bool}{φ:AF}{y z:Operand}{b n off:Nat}(hI:eI P t=some (ag,1))(h:φ.eval y=.int .i64 (n:Int))(h':φ.eval z=.int .i64 (n:Int)):fE P φ t (.mslice b off n 1) none (some y) (some z)=some (.mslice b off n 1):=by
 have h3:∀y,φ.eval y=.int .i64 (n:Int)→cZ φ (some y) n n=some n:=fun y h=>by
  simp only[cZ,h]
  rw[aK ⟨by omega,by omega⟩]
  rw[j4]
 unfold fE mG
 rw[aG (by simp [oK])]
 simp only[hI,h3 y h,h3 z h']
 rw[aK trivial]
theorem aJS{P:Program}{t:TypeId}{ag:Bool}{w:Nat}{φ:AF}{y z:Operand}(hI:eI P t=some (ag,w))(h:φ.eval y=.int .i64 0)(h':φ.eval z=.int .i64 0):fE P φ t .eslice none (some y) (some z)=some (.fslice []):=by
 have h3:∀y,φ.eval y=.int .i64 0→cZ φ (some y) 0 0=some 0:=fun y h=>by
  simp only[cZ,h]
  rw[aK ⟨by omega,by omega⟩]
  try rfl
 unfold fE mG
 rw[aG (by simp [oK])]
 simp only[hI,h3 y h,h3 z h']
theorem aJT{P:Program}{t:TypeId}{ag:Bool}{w:Nat}{φ:AF}{y z:Operand}(hI:eI P t=some (ag,w))(h:φ.eval y=.int .i64 0)(h':φ.eval z=.int .i64 0):fE P φ t (.fslice []) none (some y) (some z)=some (.fslice []):=by
 have h3:∀y,φ.eval y=.int .i64 0→cZ φ (some y) 0 0=some 0:=fun y h=>by
  simp only[cZ,h]
  rw[aK ⟨by omega,by omega⟩]
  try rfl
 have h4:cZ φ none 0 0=some 0:=rfl
 unfold fE mG
 rw[aG (by simp [oK])]
 simp only[hI,bQ,h3 y h,h3 z h',h4]
 simp [sN]
theorem aLI(b off n:Nat)(st:aA):aD prog 113 [.mslice b off n 1] st (fun r st'=>r=.mslice b off n 1∧st'=st):=by
 refine wF [1000000] 1 func113 ntmps113 rfl rfl ?_
 intro _
 have hcl:=fun(φ:AF) (y z:Operand) (h:φ.eval y=.int .i64 (n:Int)) (h':φ.eval z=.int .i64 (n:Int))=>aJR (P:=prog) (t:=31) (b:=b) (off:=off) gE h h'
 simp -implicitDefEqProofs only[hcl,aB,seval,OO]
theorem aLG(st:aA):aD prog 113 [.eslice] st (fun r st'=>r=.fslice []∧st'=st):=by
 refine wF [1000000] 1 func113 ntmps113 rfl rfl ?_
 intro _
 have hcl:=fun(φ:AF) (y z:Operand) (h:φ.eval y=.int .i64 0) (h':φ.eval z=.int .i64 0)=>aJS (P:=prog) (t:=31) gE h h'
 simp -implicitDefEqProofs only[hcl,aOE,aB,↓aW,seval,OO]
theorem aLH(st:aA):aD prog 113 [.fslice []] st (fun r st'=>r=.fslice []∧st'=st):=by
 refine wF [1000000] 1 func113 ntmps113 rfl rfl ?_
 intro _
 have hcl:=fun(φ:AF) (y z:Operand) (h:φ.eval y=.int .i64 0) (h':φ.eval z=.int .i64 0)=>aJT (P:=prog) (t:=31) gE h h'
 simp -implicitDefEqProofs only[hcl,bQ,aB,seval,OO]
abbrev IR:=zi tI_27 (zi zI_27 (zi d8 (zi f6 (zi f7 (zi gG (zi tI_28 (zi zI_28 (zi aP (zi bE (zi bF (zi b9 (zi tI_30 (zi zI_30 (zi lA (zi lB (zi lC (zi lD (zi lE (zi lF k8)))))))))))))))))))
theorem aFW(s:Ss)(hp:s.p.length≤1048576)(hps:∀c∈s.p,CK c)(hq:s.q.length≤1048576)(hqx:∀t∈s.q,t.small=true)(st:aA):aD prog 66 [dE s] st (Made st (dE s)):=by
 obtain⟨p,q,i0,i1,i2,i3⟩:=s
 simp only at hp hps hq hqx
 simp only[dE]
 refine aD.AH ?_
 refine wF [1000000,1] 1 func66 ntmps66 rfl rfl ?_
 intro _
 simp -implicitDefEqProofs only[aB,seval,IR]
 intro b hb1 b2 hb2
 obtain⟨hne,C0⟩:=mD.two hb1 hb2
 refine EZ [(0,1),(1,1),(3,1),(4,1),(2,0),(6,1),(5,0),(7,2),(8,2),(9,2)] [0,1,3,4,6] (c8.aC b (.cells [.slice (p.map bB),.slice (q.map Tm.av),.int .i64 i0,.int .i64 i1,.int .i64 i2,.int .i64 i3])) mixed (by decide +kernel) (by decide +kernel) (by decide +kernel) rfl (g9 (by rw[aA.aF _ _ hne.symm,aA.aL])) ?_
 simp -implicitDefEqProofs only[dN,aB,seval,IR]
 refine(aS7 p _ hp fun x hx s=>aS6 x s (hps x hx)).mono ?_
 rintro q0 s1 m1
 obtain⟨k1,bs1,C1⟩:=C0.made m1
 have e1:=k1 b (by simp)
 have e2:=k1 b2 (by simp)
 simp only[dN,hne,hne.symm,dP,cJ] at e1 e2
 obtain⟨hqc,hqs,hqa,hqw,hqj⟩:=C1.own.D0 rfl q0 (by simp)
 simp -implicitDefEqProofs only[aB,seval,IR]
 refine⟨g9 e1,?_⟩
 refine(HS q _ hq fun x hx s=>DY x s (hqx x hx)).mono ?_
 rintro q1 s2 m2
 obtain⟨k2,bs2,C2⟩:=C1.made m2
 have f1:=k2 b (by simp)
 have f2:=k2 b2 (by simp)
 rw[e1] at f1
 rw[e2] at f2
 obtain⟨hrc,hrs,hra,hrw,hrj⟩:=C2.own.D0 rfl q1 (by simp)
 simp -implicitDefEqProofs only[aS,dN,hne,f1,f2,hqc,hqs,hrc,hrs,eH,aB,seval,IR]
 refine⟨g9 f1,?_⟩
 refine((C2.aC (d:=b) (by simp) _).aC (d:=b2) (by simp) _).done fun h=>?_
 exact aF8.2 ⟨_,rfl,h⟩
theorem aU2{st:aA}{L:List (List Tm)}{o:AV}{bs:List Nat}{k:Nat}(hO:aQ st (.slice (L.map bP)) o bs)(hN:L.map bP= []→o=.fslice [])(hk:k≤L.length) :
 ∃o1 o2,(∀(φ:AF) (y:Operand),φ.eval y=.int .i64 (k:Int)→fE prog φ 31 o (some y) none none=some o1)∧iL prog 31 o=some (.int .i64 (L.length:Int)) ∧
  (∀s,aD prog 113 [o1] s (fun r s'=>r=o2∧s'=s))∧sU (L.map bP).length k o o2∧(o1.isAgg=false∧o1.cA=false∧o1.width=1∧o1.cells= [o1]):=by
 have hun:prog.underlying 31=some (.slice 55):=by kernel_rfl
 by_cases hL:L= []
 · subst hL
   obtain rfl:=hN rfl
   obtain rfl:k=0:=by simpa using hk
   exact⟨.fslice [],.fslice [],fun φ y h=>aJU gE h,by simp only[iL,hun];rfl,fun s=>aLH s,.inr ⟨rfl,rfl⟩,rfl,rfl,rfl,rfl⟩
 have hl:0<L.length:=List.length_pos_iff.2 hL
 simp only[aQ] at hO
 rcases hO with ⟨h,_,_⟩ | ⟨b,bs',os,w,rfl,_,_,_,hw⟩
 · exact absurd (by simpa using h) hL
 · obtain⟨x,l,rfl⟩:∃x l,L=x::l:=by cases L with | nil=>exact absurd rfl hL | cons x l=>exact⟨x,l,rfl⟩
   obtain rfl:w=1:=(hw (bP x) (by simp)).symm
   generalize hLL:x::l=L at *
   rw[aE]
   refine⟨EP b L.length k,if k<L.length then .mslice b (k*1) (L.length - k) 1 else .fslice [],fun φ y h=>aJV gE hk hl h,by simp only[iL,hun],fun s=>?_,?_,?_⟩
   · unfold EP
     by_cases h:k<L.length
     · rw[aK h,aK h];exact aLI _ _ _ s
     · rw[aG h,aG h];exact aLG s
   · by_cases h:k<L.length
     · rw[aK h];exact .inl ⟨hk,b,1,rfl,rfl⟩
     · rw[aG h];exact .inr ⟨by omega,rfl⟩
   · unfold EP
     split<;>exact⟨rfl,rfl,rfl,rfl⟩
abbrev EM:=zi tI_3 (zi zI_3 (zi aY (zi tI_30 (zi zI_30 (zi lA (zi lB (zi lC (zi lD (zi lE (zi lF (zi k8 (zi tI_31 (zi zI_31 (zi gE (zi kN (zi kO mB))))))))))))))))
set_option maxHeartbeats 2000000 in
theorem aM6(s:Ss)(n:Int)(h:kR s=true)(hn:0≤n)(st:aA):aD prog 67 [dE s,.int .i64 n] st (fun r st'=>∃o,r=.tup [dE (nW s n),o]∧yG st ((iS s (fU s n)).1.map bP) s.sent.toNat o st'):=by
 have hF:=N1 h hn
 have hs0:=hF.s0
 have hs1:=hF.s1
 have hfl:=hF.l
 have hu0:=hF.u0
 have hu1:=hF.u1
 have hu2:=hF.u2
 have hq1:=hF.q1
 have hf:=Q2 ⟨s.p,s.q,s.jF,fU s n,s.sent,s.fin⟩ (fU s n)
 rw[show iS ⟨s.p,s.q,s.jF,fU s n,s.sent,s.fin⟩ (fU s n)=iS s (fU s n) from rfl] at hf
 unfold nW
 generalize iS s (fU s n)=T at *
 obtain⟨L,e⟩:=T
 simp only at hf hs1 hfl ⊢
 have hnu:fU s n=if n<s.jF - s.used then s.used+n else s.jF:=rfl
 generalize fU s n=u at *
 obtain⟨p,q,i0,i1,i2,i3⟩:=s
 simp only[dE] at *
 obtain⟨k,rfl⟩:=yB hs0
 obtain⟨m,hm,hmu⟩:∃m,(if i0 - i1<n then i0 - i1 else n)=m∧i1+m=u:=by
  refine⟨_,rfl,?_⟩
  rw[hnu]
  split<;>split<;>omega
 have hw0:=bJ (n:=i0 - i1)
 have hw1:=bJ (n:=i1+m)
 rw[hmu] at hw1
 refine aD.m7 ?_
 refine wF [1000000,2] 2 func67 ntmps67 rfl rfl ?_
 intro _
 simp -implicitDefEqProofs only[aB,seval,EM]
 intro b2 h2 b4 h4
 have h42:b4≠b2:=by rintro rfl;rw[aA.aL] at h4;cases h4
 have h4':st b4=none:=by rwa [aA.aF _ _ h42] at h4
 simp -implicitDefEqProofs only[aS,h42.symm,hw0,hm,hmu,hw1,aB,seval,EM]
 refine(hf _).mono ?_
 rintro r s1 ⟨o,rfl,⟨bs,m1,m2,m3,m4⟩,hN⟩
 have hb2:b2∉bs:=fun hq=>by have:=m2 b2 hq;simp [dN] at this
 have hb4:b4∉bs:=fun hq=>by have:=m2 b4 hq;simp [dN,h42] at this
 have e2:=m4 b2 hb2
 have e4:=m4 b4 hb4
 simp only[dN,h42,h42.symm,dP,cJ] at e2 e4
 obtain⟨hqc,hqs,hqa,hqw,hqj⟩:=aQ.kE m3
 obtain⟨o1,o2,hsl,hlen,hcl,hT,ho1,ho2,ho3,ho4⟩:=aU2 (k:=k) m3 hN (by omega)
 obtain⟨ht1,ht2,ht3,ht4,ht5⟩:=EE hT
 simp -implicitDefEqProofs only[aS,e2,dN,hsl,hlen,eH,aB,seval,EM]
 refine EZ [(0,1),(1,1),(2,0),(3,0),(4,1)] [0,1,4] (c8.aC b2 (.cells [.slice (p.map bB),.slice (q.map Tm.av),.int .i64 i0,.int .i64 u,.int .i64 (L.length:Int),.int .i64 e])) mixed (by decide +kernel) (by decide +kernel) (by decide +kernel) rfl (g9 (by simp only[dN,dP])) ?_
 simp -implicitDefEqProofs only[dN,aB,seval,EM]
 refine(hcl _).to ?_
 simp -implicitDefEqProofs only[aS,h42,e4,dN,ht2,aB,seval,EM]
 refine⟨g9 (by simp only[dN,dP]),g9 (by simp only[dN,h42.symm,dP,cJ]),?_⟩
 generalize hS:aA.aC (aA.aC s1 b2 _) b4 _=S
 have hSx:∀x,x≠b2→x≠b4→S x=s1 x:=fun x h2 h4=>by rw[←hS,aA.aF _ _ h4,aA.aF _ _ h2]
 have hne:∀x,st x≠none→x≠b2∧x≠b4:=fun x h=>⟨fun e=>h (e▸h2),fun e=>h (e▸h4')⟩
 have hin:∀x∈bs,x≠b2∧x≠b4:=fun x hx=>⟨fun e=>hb2 (e▸hx),fun e=>hb4 (e▸hx)⟩
 have iF:∀x∈bs,st x=none:=fun x hx=>by
  have:=m2 x hx
  rwa [aA.aF _ _ (hin x hx).1,aA.aF _ _ (hin x hx).2,aA.aF _ _ (hin x hx).1] at this
 obtain⟨s2,hd,hm2⟩:=Made.M4 (st:=st) (S:=S) m1 iF (aQ.aU _ _ _ (fun x hx=>hSx x (hin x hx).1 (hin x hx).2) m3) (fun x o hx=>by
  have hx0:st x≠none:=by rw[hx];exact fun e=>nomatch e
  have hxb:x∉bs:=fun hq=>hx0 (iF x hq)
  rw[hSx x (hne x hx0).1 (hne x hx0).2,m4 x hxb,aA.aF _ _ (hne x hx0).1,aA.aF _ _ (hne x hx0).2,aA.aF _ _ (hne x hx0).1,hx])
 exact⟨s2,hd,_,rfl,o,hm2,by rw[j4];exact hT⟩
theorem B2(l:List Tm):(bP l).width=1:=rfl
abbrev aVR:=zi tI_4 (zi zI_4 (zi cG (zi tI_28 (zi zI_28 (zi aP (zi bE (zi bF (zi b9 (zi tI_55 (zi zI_55 (zi vK uY)))))))))))
theorem aLM(l l':List Tm)(st:aA):aD prog 68 [bP l,bP l'] st (fun r st'=>r=.bool (gF Tm.same l l')∧st'=st):=by
 refine wF [1000000] 2 func68 ntmps68 rfl rfl ?_
 intro _
 simp -implicitDefEqProofs only[bP,aB,seval,aVR]
 refine(FT l l' _ fun x _ y st=>B9 x y st).to ?_
 simp -implicitDefEqProofs only[aB,seval]
 refine aT (fun h=>?_) (fun h=>?_)
 · simp -implicitDefEqProofs only[aB,seval]
   simp at h;simp [h]
 · simp -implicitDefEqProofs only[aB,seval]
   simp at h;simp [h]
abbrev ON:=zi tI_3 (zi zI_3 (zi aY (zi tI_4 (zi zI_4 (zi cG (zi tI_31 (zi zI_31 (zi gE (zi kN (zi kO (zi mB (zi tI_55 (zi zI_55 (zi vK uY))))))))))))))
theorem aLN(l l':List (List Tm))(st:aA)(hc:∀x∈l,∀(y:(List Tm)) (st:aA),aD prog 68 [bP x,bP y] st (fun r st'=>r=.bool ((gF Tm.same) x y)∧st'=st)) :
 aD prog 20 [.slice (l.map bP),.slice (l'.map bP)] st (fun r st'=>r=.bool (gF (gF Tm.same) l l')∧st'=st):=by
 refine wF [] 2 func20 ntmps20 rfl rfl ?_
 simp only[dK,AV.fits,dO,aE]
 intro ⟨⟨hl,_⟩,⟨hl',_⟩⟩
 simp -implicitDefEqProofs only[aE,aB,seval,ON]
 refine⟨fun h4=>?_,fun h4=>?_⟩
 · simp -implicitDefEqProofs only[aB,seval]
   simp only[gN,cM] at h4
   rw[zQ _ (show l.length≠l'.length by omega)]
 simp -implicitDefEqProofs only[aB,seval]
 simp only[j3,bM] at h4
 have h4':l.length=l'.length:=by omega
 refine nQ (α:=Nat) [] (fun i=>i≤l.length∧∀(j:Nat) (x y:(List Tm)),j<i→l[j]?=some x→l'[j]?=some y→(gF Tm.same) x y=true)
  (fun i=>[(0,.slice (l.map bP)),(1,.slice (l'.map bP)),(5,.int .i64 i)]) (fun _=>st) (fun i=>l.length - i) (by decide +kernel)
  ⟨0,⟨by omega,by intro j x y h;omega⟩,aR.mk (by simp -implicitDefEqProofs only[aB,↓aW,seval])⟩ ?_
 intro i ⟨hi,c7⟩
 simp -implicitDefEqProofs only[aE,aB,seval,ON]
 refine⟨fun h5=>?_,fun h5=>?_⟩
 case refine_2=>
  simp -implicitDefEqProofs only[aB,seval]
  simp only[cM,gP] at h5
  rw[zN _ h4' (fun j x y h6 h7=>c7 j x y (by have:=(eS.1 h6).1;omega) h6 h7)]
 simp only[bM,gP] at h5
 obtain⟨x,hx⟩:∃x,l[i]?=some x:=⟨_,e7 h5⟩
 obtain⟨y,hy⟩:∃y,l'[i]?=some y:=⟨_,e7 (h4'▸h5)⟩
 simp -implicitDefEqProofs only[aB,seval]
 refine FP mixed (by decide +kernel) (by decide +kernel) ?_
 simp -implicitDefEqProofs only[bG (av:=bP) gE hx (B2 x),bG (av:=bP) gE hy (B2 y),aB,seval,ON]
 refine(hc x (cI hx) y st).to ?_
 simp -implicitDefEqProofs only[aB,seval]
 refine⟨fun h6=>?_,fun h6=>?_⟩
 · simp -implicitDefEqProofs only[aB,seval]
   have h7:(gF Tm.same) x y=false:=by simpa using h6
   rw[zO _ i x y hx hy h7]
 have h7:(gF Tm.same) x y=true:=by simpa using h6
 simp -implicitDefEqProofs only[aB,seval]
 refine⟨i+1,by omega,⟨by omega,fun j u v hj hu hv=>?_⟩,aR.mk ?_⟩
 · rcases j6 j i with h8 | h8
   · exact c7 j u v h8 hu hv
   · obtain rfl:j=i:=by omega
     rw[hx] at hu;rw[hy] at hv;cases hu;cases hv;exact h7
 · have:=bJ (n:=(i:Int)+1)
   simp -implicitDefEqProofs only[this,aB,seval]
theorem aLO(l:List (List Tm))(st:aA):aD prog 20 [.slice (l.map bP),.slice (l.map bP)] st (fun r st'=>r=.bool true∧st'=st):=by
 refine(aLN l l st fun x _ y st=>aLM x y st).mono ?_
 rintro _ _ ⟨rfl,rfl⟩
 refine⟨?_,rfl⟩
 rw[(zP (fun x _ y=>zP (fun x _ y=>Tm.xN x y))).2 rfl]
def gK(l:List Tm):Nat:=aJ Tm.cP l
def mY(l:List Tm)(j:Int):List Tm:=dU Tm.mark Tm.cP l j
abbrev aH2:=zi tI_3 (zi zI_3 (zi aY (zi tI_28 (zi zI_28 (zi aP (zi bE (zi bF (zi b9 (zi tI_31 (zi zI_31 (zi gE (zi kN (zi kO (zi mB (zi tI_55 (zi zI_55 (zi vK uY)))))))))))))))))
theorem Q4(l:List (List Tm))(j:Int)(st:aA)(h0:0≤j)(h1:j+aJ gK l≤1099511627776) :
 aD prog 24 [.slice ((dU mY gK l j).map bP),.int .i64 j] st (fun r st'=>r=.int .i64 (j+aJ gK l)∧st'=st):=by
 refine wF [1000000] 2 func24 ntmps24 rfl rfl ?_
 simp only[dK,AV.fits,dO,aE,vP]
 intro ⟨hl,_⟩
 have hML:(dU mY gK l j).length=l.length:=vP _ _ _ _
 simp -implicitDefEqProofs only[aB,seval]
 refine dQ (σ:=Unit) [1000000] [0] (dU mY gK l j) (fun i _=>True) (fun i _=>[(1,.int .i64 (j+aJ gK (l.take i))),(4,.int .i64 0),(5,.int .i64 i)]) (fun _ _=>st) (by decide +kernel) ⟨(),trivial,aR.mk (by simp -implicitDefEqProofs only[aJ,j5,Int.add_zero,aB,↓aW,seval])⟩ (fun i x _ hx hlt bD hdr _=>?_) (fun _ hge _=>?_)
 case refine_2=>
  rw[hML] at hge
  simp -implicitDefEqProofs only[hge,eD,aE,hML,aB,seval,aH2]
 rw[hML] at hlt bD
 obtain⟨y,hy⟩:∃y,l[i]?=some y:=⟨_,e7 hlt⟩
 have hxy:x=mY y (j+aJ gK (l.take i)):=by
  have:=HQ mY gK l j i
  rw[hdr,oV hlt,dU,(eS.1 hy).2] at this
  exact(sR this).1
 have hs:=sI gK hy
 rw[show gK y=aJ Tm.cP y from rfl] at hs
 have hat:=bG (av:=bP) gE hx (B2 x)
 rw[hxy,mY,bP] at hat
 obtain⟨hs1,hs2⟩:=hs
 generalize hk:j+(aJ gK (l.take i):Int)=m at *
 have hw:=bJ (n:=(i:Int)+1)
 simp -implicitDefEqProofs only[bD,eM,aE,hML,hat,aB,seval,aH2]
 refine(CA y m _ (by omega) (by omega)).to ?_
 have mL:¬(m+(aJ Tm.cP y:Int)<0):=by omega
 simp -implicitDefEqProofs only[mL,eN,aB,seval]
 refine⟨(),aR.mk ?_⟩
 have e:j+(aJ gK (l.take (i+1)):Int)=m+(aJ Tm.cP y:Int):=by omega
 simp -implicitDefEqProofs only[hw,e,aB,seval]
end Go.AW
namespace Go.AW

end Go.AW
namespace Go.AW
open Go.Proofs.Tryz
abbrev aH4:=zi tI_3 (zi zI_3 (zi aY (zi tI_28 (zi zI_28 (zi aP (zi bE (zi bF (zi b9 (zi tI_31 (zi zI_31 (zi gE (zi kN (zi kO (zi mB (zi tI_55 (zi zI_55 (zi vK uY)))))))))))))))))
theorem aMW(L:List (List Tm))(k:Nat)(hk:k≤L.length)(hL:L.length≤1000000)(j:Int)(q o:AV)(bs:List Nat)(st:aA)(hO:aQ st (.slice (L.map bP)) q bs)(hT:sU (L.map bP).length k q o)(hnd:bs.Nodup)(hj0:0≤j)(hj1:j+aJ gK (L.drop k)≤1099511627776) :
 aD prog 22 [o,.int .i64 j] st (E8 st (.slice ((L.take k++dU mY gK (L.drop k) j).map bP)) q bs (j+aJ gK (L.drop k))):=by
 rw[aE] at hT
 rcases hT with ⟨_,b0,w0,rfl,rfl⟩ | ⟨rfl,rfl⟩
 case inr=>
  rw[iD,eD]
  refine wF [1000000] 2 func22 ntmps22 rfl rfl ?_
  intro _
  simp -implicitDefEqProofs only[aB,seval]
  refine dQ (σ:=Unit) [1000000] [0,4] ([]:List Unit) (fun _ _=>True) (fun i _=>[(1,.int .i64 j),(5,.int .i64 i)]) (fun _ _=>st) (by decide +kernel) ⟨(),trivial,aR.mk (by simp -implicitDefEqProofs only[aB,↓aW,seval])⟩ (fun i x _ hx hlt bD hdr _=>by simp at hlt) (fun _ hge _=>?_)
  simp -implicitDefEqProofs only[bQ,aB,seval,aH4]
  simp only[dU,aJ,fN]
  exact⟨by simp,hO,fun _ _=>rfl⟩
 have hkl:(L.drop k).length=L.length - k:=rG
 have haL:iL prog 31 (.mslice b0 (k*w0) (L.length - k) w0)=some (.int .i64 ((L.length - k:Nat):Int)):=by
  have hun:prog.underlying 31=some (.slice 55):=by kernel_rfl
  simp only[iL,hun]
 refine wF [1000000] 2 func22 ntmps22 rfl rfl ?_
 intro _
 simp -implicitDefEqProofs only[aB,seval]
 refine dQ (σ:=List (List Tm)×Int×aA) [1000000] [0,4] (L.drop k)
  (fun i p=>p.1.length=i∧p.1++dU mY gK ((L.drop k).drop i) p.2.1=dU mY gK (L.drop k) j∧0≤p.2.1∧p.2.1+aJ gK ((L.drop k).drop i)=j+aJ gK (L.drop k)∧aQ p.2.2 (.slice (((L.take k++p.1)++(L.drop k).drop i).map bP)) (.mslice b0 0 L.length w0) bs∧∀q,q∉bs→p.2.2 q=st q)
  (fun i p=>[(1,.int .i64 p.2.1),(5,.int .i64 i)]) (fun _ p=>p.2.2) (by decide +kernel)
  ⟨([],j,st),⟨rfl,rfl,hj0,rfl,by rw[fN,rE,mT];exact hO,fun _ _=>rfl⟩,aR.mk (by simp -implicitDefEqProofs only[aB,↓aW,seval])⟩ (fun i x p hx hlt bD hdr hinv=>?_) (fun p hge hinv=>?_)
 case refine_2=>
  obtain⟨done,m,s⟩:=p
  obtain⟨i1,i2,i3,i4,i5,i6⟩:=hinv
  simp only at i1 i2 i3 i4 i5 i6
  rw[hkl] at hge
  simp -implicitDefEqProofs only[hkl,hge,haL,aB,seval]
  simp only[iD,dU,fN,aJ] at i2 i4 i5
  exact⟨by rw[←i4];simp,by rw[←i2];exact i5,i6⟩
 obtain⟨done,m,s⟩:=p
 obtain⟨i1,i2,i3,i4,i5,i6⟩:=hinv
 simp only at i1 i2 i3 i4 i5 i6
 rw[hdr] at i2 i4 i5
 simp only[aJ] at i4
 rw[show gK x=aJ Tm.cP x from rfl] at i4
 have nC:=MV (av:=bP) (done:=L.take k++done) (x:=x) (rest:=(L.drop k).drop (i+1))
 obtain⟨b,bs',w,A,oe,bo,B,hq,hbs,hsb,hA,hoe,hbo,hbn,nF,hw,hi,w9⟩:=i5.focus hnd nC
 rw[B2] at hw
 subst hw
 obtain⟨rfl,_,G9,rfl⟩:b0=b∧True∧L.length=(((L.take k++done)++x::(L.drop k).drop (i+1)).map bP).length∧w0=1:=by
  simp only[AV.mslice.injEq] at hq
  exact⟨hq.1,trivial,hq.2.2.1,hq.2.2.2⟩
 have htk:(L.take k++done).length=k+i:=by rw[eC,dX,i1,jJ hk]
 rw[htk] at hA
 obtain⟨q,rfl,hq2⟩:=M9.1 hoe
 rw[hkl] at hlt
 have hat:=aEM (P:=prog) (b:=b0) (o:=k*1) (len:=L.length - k) (w:=1) (i:=i) gE hlt
 rw[show k*1+i*1=(k+i)*1 by omega] at hat
 have hw4:=bJ (n:=(i:Int)+1)
 obtain⟨e1,e2,e3,e4,e5,e6⟩:=AK (B:=B) hA
 have hqa:q.isAgg=false:=(aQ.shape hq2).1
 rw[hkl] at bD
 simp -implicitDefEqProofs only[bD,hat,hsb,e6,hqa,p5,haL,aB,seval,aH4]
 refine(CD x m q bo _ hq2 hbo (by omega) (by omega)).mono ?_
 rintro _ s2 ⟨rfl,hq3,hk2⟩
 simp -implicitDefEqProofs only[hw4,aB,seval]
 refine⟨(done++ [mY x m],m+(aJ Tm.cP x:Int),s2),⟨?_,?_,?_,?_,?_,?_⟩,aR.mk (by simp -implicitDefEqProofs only[aB,seval])⟩
 · simp [i1]
 · simp only[dU] at i2
   rw[←i2]
   simp [gK]
 · simp only;omega
 · simp only;omega
 · have:=w9 s2 (bP (mY x m)) (.agg [q]) (B2 _)
    (fun x hx hxb hxo=>hk2 x hxo)
    (by rw[hk2 b0 hbn,hsb])
    (M9.2 ⟨q,rfl,hq3⟩)
   rw[MW,kW (L.take k)] at this
   exact this
 · intro y hx
   show s2 y=st y
   rw[hk2 y (fun h=>hx (nF y h)),i6 y hx]
theorem lU.M4{st S:aA}{xs os:List AV}{bs:List Nat}(hnd:bs.Nodup)(iF:∀b∈bs,st b=none)(hO:a7 S xs os bs)(hk:∀x o,st x=some o→S x=some o):∃s2,aM S s2∧lU st xs (.tup os) s2:=by
 refine⟨fun x=>if x∈bs then S x else st x,fun x=>?_,os,bs,rfl,hnd,iF,a7.aU _ _ _ (fun b hb=>aK hb) hO,fun b hb=>aG hb⟩
 dsimp only
 by_cases hx:x∈bs
 · rw[aK hx]
   exact⟨fun h=>h,fun o h=>h⟩
 · rw[aG hx]
   refine⟨fun h=>?_,fun o h=>hk x o h⟩
   cases hs:st x with
   | none=>rfl
   | some o=>rw[hk x o hs] at h;cases h
def wJ(st:aA)(s:Ss)(n:Int)(r:AV)(st':aA):Prop:=
 ∃o1 q o2 L k,r=.tup [o1,o2]∧lU st [dE (fY s n).1,.slice (L.map bP)] (.tup [o1,q]) st'∧sU (L.map bP).length k q o2∧k≤L.length∧L.drop k=(fY s n).2∧L.length≤20∧(aJ gK L≤9360*L.length)
theorem Made.two{st st1 st2:aA}{a b o p:AV}(h1:Made st a o st1)(h2:Made st1 b p st2):lU st [b,a] (.tup [p,o]) st2:=by
 obtain⟨b1,m1,m2,m3,m4⟩:=h1
 obtain⟨b2,n1,n2,n3,n4⟩:=h2
 have hs:=m3.aG2
 have hd:∀x∈b1,x∉b2:=fun x hx hx'=>hs x hx (n2 x hx')
 refine⟨_,b2++b1,rfl,jO.2 ⟨n1,m1,fun x hx y hy e=>hd y hy (e▸hx)⟩,fun x hx=>?_,HY.2 ⟨p,o,b2,b1,rfl,rfl,n3,aQ.aU _ _ _ (fun x hx=>n4 x (hd x hx)) m3⟩,fun x hx=>?_⟩
 · rcases dR.1 hx with hx | hx
   · have:=n2 x hx
     by_cases h:x∈b1
     · exact m2 x h
     · rw[←m4 x h];exact this
   · exact m2 x hx
 · simp only[dR,jL] at hx
   rw[n4 x hx.1,m4 x hx.2]
theorem lU.under{st s1:aA}{b4:Nat}{v w:AO}{xs os:List AV}(h4:st b4=none)(h:lU (st.aC b4 v) xs (.tup os) s1):∃s2,aM (s1.aC b4 w) s2∧lU st xs (.tup os) s2:=by
 obtain⟨os',bs,he,m1,m2,m3,m4⟩:=h
 cases he
 have hb4:b4∉bs:=fun hq=>by have:=m2 b4 hq;rw[aA.aL] at this;cases this
 have hne:∀x∈bs,x≠b4:=fun x hx e=>hb4 (e▸hx)
 refine lU.M4 m1 (fun x hx=>?_) (a7.aU _ _ _ (fun x hx=>aA.aF _ _ (hne x hx)) m3) (fun x o hx=>?_)
 · have:=m2 x hx
   rwa [aA.aF _ _ (hne x hx)] at this
 · have hx4:x≠b4:=by rintro rfl;rw[h4] at hx;cases hx
   have hxb:x∉bs:=fun h=>by have:=m2 x h;rw[aA.aF _ _ hx4,hx] at this;cases this
   rw[aA.aF _ _ hx4,m4 x hxb,aA.aF _ _ hx4,hx]
theorem Made.aG4{st s1:aA}{s:Ss}{r:AV}(h:Made st (dE s) r s1):∃q q',r=.agg [q,q',.int .i64 s.jF,.int .i64 s.used,.int .i64 s.sent,.int .i64 s.fin]∧(∃b,aQ s1 (.slice (s.p.map bB)) q b)∧∃b,aQ s1 (.slice (s.q.map Tm.av)) q' b:=by
 obtain⟨bs,_,_,h,_⟩:=h
 obtain⟨q,b1,q',b2,rfl,_,h1,h2⟩:=M8.1 h
 exact⟨q,q',rfl,⟨b1,h1⟩,⟨b2,h2⟩⟩
theorem Made.stays{st s1:aA}{a r:AV}{b:Nat}{o:AO}(h:Made st a r s1)(hb:st b=some o):s1 b=some o:=by
 obtain⟨bs,_,h2,_,h4⟩:=h
 rw[h4 b (fun hq=>by have:=h2 b hq;rw[hb] at this;cases this),hb]
theorem yG.stays{st s1:aA}{L:List AV}{k:Nat}{r:AV}{b:Nat}{o:AO}(h:yG st L k r s1)(hb:st b=some o):s1 b=some o:=by
 obtain⟨q,h1,_⟩:=h
 exact h1.stays hb
theorem yG.flat{st s1:aA}{L:List AV}{k:Nat}{r:AV}(h:yG st L k r s1):r.isAgg=false∧r.cA=false∧r.width=1∧r.cells= [r]∧r.storable=true:=by
 obtain⟨q,_,h2⟩:=h
 exact EE h2
abbrev q7:=zi tI_3 (zi zI_3 (zi aY (zi tI_4 (zi zI_4 (zi cG (zi tI_30 (zi zI_30 (zi lA (zi lB (zi lC (zi lD (zi lE (zi lF (zi k8 (zi tI_31 (zi zI_31 (zi gE (zi kN (zi kO mB)))))))))))))))))))
set_option maxHeartbeats 2000000 in
theorem aL2(s:Ss)(n:Int)(hp:s.p.length≤1048576)(hps:∀c∈s.p,CK c)(hq:s.q.length≤1048576)(hqs:∀t∈s.q,t.small=true)(st:aA):aD prog 18 [dE s,.int .i64 n] st (wJ st s n):=by
 have hv:=aL1 s
 have how:=aFW s hp hps hq hqs
 have aQ7:=aFW (nW s n) hp hps hq hqs
 have hsl:=fun(h:m6 s n=true)=>aM6 s n (u9.1 h).1 (u9.1 h).2.1
 have mK:∀(b4:Nat) (r:AV) (s1:aA) (v w:AO),m6 s n=false→st b4=none→Made (st.aC b4 v) (dE s) r s1→∃s2,aM (s1.aC b4 w) s2∧wJ st s n (.tup [r,.fslice []]) s2:=fun b4 r s1 v w hc h4 hM=>by
  have hs:fY s n=(s,[]):=by unfold fY;rw[hc];try rfl
  have h0:Made (st.aC b4 v) (.slice []) (.fslice []) (st.aC b4 v):=⟨[],lT,by simp,.inl ⟨rfl,rfl,rfl⟩,fun _ _=>rfl⟩
  obtain⟨s2,D,hT⟩:=lU.under (w:=w) h4 (Made.two h0 hM)
  exact⟨s2,D,r,.fslice [],.fslice [],[],0,rfl,by rw[hs];exact hT,.inr ⟨rfl,rfl⟩,cT _,by rw[hs];try rfl,by simp,by simp [aJ]⟩
 have MC:∀(b4:Nat) (r o:AV) (s1 s2:aA) (v w:AO),m6 s n=true→st b4=none→yG (st.aC b4 v) ((iS s (fU s n)).1.map bP) s.sent.toNat o s1→Made s1 (dE (nW s n)) r s2→∃s3,aM (s2.aC b4 w) s3∧wJ st s n (.tup [r,o]) s3:=fun b4 r o s1 s2 v w hc h4 hL hM=>by
  have hs:fY s n=(nW s n,AL s n):=by unfold fY;rw[hc];try rfl
  have hF:=N1 (u9.1 hc).1 (u9.1 hc).2.1
  obtain⟨q,h1,h2⟩:=hL
  obtain⟨s3,D,hT⟩:=lU.under (w:=w) h4 (Made.two h1 hM)
  have hSo:=aG1 s.p (cnd:=fun _ l=>l) (fun _ l=>⟨fun _ h=>h,cT _⟩) s.q 20 (fU s n)
  exact⟨s3,D,r,q,o,(iS s (fU s n)).1,s.sent.toNat,rfl,by rw[hs];exact hT,h2,by have:=hF.s1;omega,by rw[hs];try rfl,hF.l,QF hSo.2⟩
 have z5:kR s=true→0≤n→s.fin= -1→m6 s n=true:=fun a b c=>u9.2 ⟨a,b,c⟩
 have w8:m6 s n=true→kR s=true∧0≤n∧s.fin= -1:=u9.1
 have hsw:=fun {st s1:aA} {r:AV} (h:Made st (dE s) r s1)=>h.aG4
 have hAw:=fun {st s1:aA} {r:AV} (h:Made st (dE (nW s n)) r s1)=>h.aG4
 generalize nW s n=A at *
 generalize hRR:wJ st s n=RR at *
 generalize m6 s n=cs at *
 generalize kR s=ok at *
 obtain⟨ap,aq,a0,a1,a2,a3⟩:=A
 obtain⟨p,q,i0,i1,i2,i3⟩:=s
 simp only[dE] at *
 refine aD.m7 ?_
 refine wF [1000000] 2 func18 ntmps18 rfl rfl ?_
 intro _
 simp -implicitDefEqProofs only[aB,seval,q7]
 intro b4 h4
 refine(hv _).to ?_
 simp -implicitDefEqProofs only[aB,seval]
 cases ok with
 | false=>
  have hc:cs=false:=by cases cs with | false=>rfl | true=>exact absurd (w8 rfl).1 (by decide)
  subst hc
  simp -implicitDefEqProofs only[aB,seval,q7]
  refine(how _).mono ?_
  intro r s1 hM
  obtain⟨q0,q1,rfl,⟨_,hq0⟩,⟨_,hq1⟩⟩:=hsw hM
  obtain⟨hqc,hqs,hqa,hqw,hqj⟩:=aQ.kE hq0
  obtain⟨hrc,hrs,hra,hrw,hrj⟩:=aQ.kE hq1
  have e4:=hM.stays (aA.aL _ _ _)
  simp -implicitDefEqProofs only[aS,e4,hqs,hrs,aB,seval,q7]
  exact mK b4 _ s1 _ _ rfl h4 hM
 | true=>
  simp -implicitDefEqProofs only[aB,seval,q7]
  by_cases h3:i3= -1
  case neg=>
   have hc:cs=false:=by cases cs with | false=>rfl | true=>exact absurd (w8 rfl).2.2 h3
   subst hc
   have h3':=eq_false h3
   simp -implicitDefEqProofs only[h3',eN,aB,seval,q7]
   refine(how _).mono ?_
   intro r s1 hM
   obtain⟨q0,q1,rfl,⟨_,hq0⟩,⟨_,hq1⟩⟩:=hsw hM
   obtain⟨hqc,hqs,hqa,hqw,hqj⟩:=aQ.kE hq0
   obtain⟨hrc,hrs,hra,hrw,hrj⟩:=aQ.kE hq1
   have e4:=hM.stays (aA.aL _ _ _)
   simp -implicitDefEqProofs only[aS,e4,hqs,hrs,aB,seval,q7]
   exact mK b4 _ s1 _ _ rfl h4 hM
  have h3':=eq_true h3
  by_cases hn:0≤n
  case neg=>
   have hc:cs=false:=by cases cs with | false=>rfl | true=>exact absurd (w8 rfl).2.1 hn
   subst hc
   have hn':(n<0)=True:=eq_true (by omega)
   simp -implicitDefEqProofs only[h3',hn',eM,aB,seval,q7]
   refine(how _).mono ?_
   intro r s1 hM
   obtain⟨q0,q1,rfl,⟨_,hq0⟩,⟨_,hq1⟩⟩:=hsw hM
   obtain⟨hqc,hqs,hqa,hqw,hqj⟩:=aQ.kE hq0
   obtain⟨hrc,hrs,hra,hrw,hrj⟩:=aQ.kE hq1
   have e4:=hM.stays (aA.aL _ _ _)
   simp -implicitDefEqProofs only[aS,e4,hqs,hrs,aB,seval,q7]
   exact mK b4 _ s1 _ _ rfl h4 hM
  have hn':(n<0)=False:=eq_false (by omega)
  have hc:cs=true:=z5 rfl hn h3
  subst hc
  simp -implicitDefEqProofs only[h3',hn',eN,eM,aB,seval,q7]
  refine(hsl rfl _).mono ?_
  rintro _ s1 ⟨o,rfl,hL⟩
  have f4:=hL.stays (aA.aL _ _ _)
  obtain⟨ht1,ht2,ht3,ht4,ht5⟩:=hL.flat
  simp -implicitDefEqProofs only[aB,↓aW,seval,q7]
  refine(aQ7 _).mono ?_
  intro r s2 hM
  obtain⟨q0,q1,rfl,⟨_,hq0⟩,⟨_,hq1⟩⟩:=hAw hM
  obtain⟨hqc,hqs,hqa,hqw,hqj⟩:=aQ.kE hq0
  obtain⟨hrc,hrs,hra,hrw,hrj⟩:=aQ.kE hq1
  have e4:=hM.stays f4
  simp -implicitDefEqProofs only[aS,e4,hqs,hrs,ht2,aB,seval,q7]
  exact MC b4 _ _ s1 s2 _ _ rfl h4 hL hM
theorem N3:∀t:Tm,t.sz≤1048576→t.small=true:=by
 intro t
 induction t using Tm.ind with
 | h k n s ts ih=>
  intro h
  rw[Tm.IE] at h
  simp only[Tm.small,EQ,cL,bM,eE]
  exact⟨by omega,fun x hx=>ih x hx (by have:=pN (f:=Tm.sz) hx;omega)⟩
theorem aUX{s:Ss}(h:uA s≤1048576):s.p.length≤1048576∧(∀c∈s.p,CK c)∧s.q.length≤1048576∧∀t∈s.q,t.small=true:=by
 unfold uA uB pO at h
 refine⟨by omega,fun c hc=>?_,by omega,fun t ht=>N3 t (by have:=pN (f:=Tm.sz) ht;omega)⟩
 have h1:=pN (f:=kM) hc
 have h2:kM c=c.1.sz+(c.2.length+aJ Tm.sz c.2):=rfl
 exact⟨N3 _ (by omega),by omega,fun x hx=>N3 x (by have:=pN (f:=Tm.sz) hx;omega)⟩
theorem aD.aUE{P:Program}{g:FuncId}{args args':List AV}{st:aA}{s:Ss}{n:Int}(x:∀s',aD P g args s' (wJ s' s n))(hv:d6 st c8 args' args):aD P g args' st (wJ st s n):=by
 refine aD.frame (aM.c8 st) ((x c8).mono ?_) hv
 rintro r s1 ⟨o1,q,o2,L,k,hr,⟨os,bs,he,h1,_,h3,h4⟩,hT,hk,hd,hl,hm⟩ hfr
 cases he
 have hso:=a7.eY _ _ _ h3
 have hbs:∀b∈bs,st b=none:=fun b hb=>hfr b rfl (by
  obtain⟨cs,e,_⟩:=hso.2 b hb
  rw[e];simp)
 have hfb:∀b∈bs,(st.frame c8 s1) b=s1 b:=fun b hb=>by simp only[aA.frame,hbs b hb];split<;>simp_all
 have ho2:o2.eY=true:=by rcases hT with ⟨_,b,w,_,rfl⟩ | ⟨_,rfl⟩<;>rfl
 refine⟨?_,fun b o e=>?_,o1,q,o2,L,k,hr,⟨_,bs,rfl,h1,hbs,a7.aU _ _ _ hfb h3,fun b hb=>?_⟩,hT,hk,hd,hl,hm⟩
 · have:=hso.1.1
   simp only[jG,wB,cL] at this
   rw[hr]
   simp only[AV.eY,jG,this.1,ho2,Bool.and_self]
 · by_cases hb:b∈bs
   · obtain⟨cs,e2,hs⟩:=hso.2 b hb
     rw[e] at e2;cases e2;exact hs
   · rw[h4 b hb] at e;cases e
 · have:=h4 b hb
   simp only[aA.frame,c8] at this ⊢
   cases hst:st b with
   | none=>exact this
   | some o=>rfl
theorem aD.aUI{P:Program}{g:FuncId}{args:List AV}{st:aA}{s:Ss}{n:Int}(x:aD P g args st (wJ st s n)):aD P g args st (fun r st'=>r=.tup [dE (fY s n).1,.slice ((fY s n).2.map bP)]∧st'=st):=by
 refine x.lQ fun r st' h=>?_
 obtain⟨o1,q,o2,L,k,rfl,⟨os,bs,he,h1,h2,h3,h4⟩,hT,hk,hd,_⟩:=h
 cases he
 obtain⟨p1,p2,b1,b2,e1,rfl,h5,h6⟩:=HY.1 h3
 cases e1
 have D:aM st' st:=fun b=>⟨fun e=>by
  by_cases hb:b∈b1++b2
  · exact h2 b hb
  · rw[←h4 b hb];exact e,fun o e=>by
  by_cases hb:b∈b1++b2
  · rw[h2 b hb] at e;cases e
  · rw[h4 b hb];exact e⟩
 refine⟨_,st,D.uF,fun h v S y=>?_,rfl,rfl⟩
 have hv1:∀v,aN h st' o1 v→aN h st (dE (fY s n).1) v:=fun v y=>h5.JM S D (fun b hb=>h2 b (by simp [hb])) y
 have hv2:∀v,aN h st' o2 v→aN h st (.slice ((fY s n).2.map bP)) v:=fun v y=>by
  rw[←hd,yE]
  have ha:=(EE hT).1
  have hy:VC h st' o2 v.cells.toList∧o2.isAgg=jH v:=by rcases hT with ⟨_,b,w,_,rfl⟩ | ⟨_,rfl⟩<;>exact⟨y.2,y.1⟩
  exact⟨by rw[←hy.2,ha];try rfl,aQ.aIZ S D h6 (fun b hb=>h2 b (by simp [hb])) hT hy.1⟩
 obtain⟨y0,y1⟩:=y
 refine⟨y0,?_⟩
 unfold VC at y1 ⊢
 obtain⟨vs,e,y2⟩:=y1
 simp only[dB] at y2 ⊢
 obtain⟨v1,r1,rfl,ya,v2,r2,rfl,yb,rfl⟩:=y2
 have z1:=hv1 v1 (aN.HT ya)
 have z2:=hv2 v2 (aN.HT yb)
 exact⟨_,e,v1,_,rfl,z1,v2,[],rfl,z2,rfl⟩
theorem aUW(s:Ss):jY s≤3*uA s:=by
 have h1:=SL s.p
 have h2:=aFS s.q
 unfold jY uA
 omega
theorem aUJ(s:Ss)(n:Int):jY (fY s n).1=jY s:=by
 unfold fY
 split<;>rfl
theorem d6.IF{st:aA}{L M:List (List Tm)}{q o:AV}{bs:List Nat}{k:Nat}{os us:List AV}(hO:aQ st (.slice (L.map bP)) q bs)(hT:sU (L.map bP).length k q o)(hd:L.drop k=M)(h:d6 st c8 os us):d6 st c8 (o::os) (.slice (M.map bP)::us):=by
 have:=d6.tail hO hT h
 rwa [←yE,hd] at this
theorem aJ9{b0 b1 b2:List Nat}(h:sP b0 (b1++b2)):sP b0 b1∧sP b0 b2:=⟨fun b hb h1=>h b hb (by simp [h1]),fun b hb h1=>h b hb (by simp [h1])⟩
theorem aSX{L:List (List Tm)}{k:Nat}{j:Int}(hk:k≤L.length):(L.take k++dU mY gK (L.drop k) j).drop k=dU mY gK (L.drop k) j:=by
 rw[PI (by rw[dX];omega),JW (by rw[dX];omega),eR]
abbrev oS:=zi tI_3 (zi zI_3 (zi aY (zi tI_4 (zi zI_4 (zi cG (zi tI_25 (zi zI_25 (zi GK (zi GM (zi GN (zi GO (zi GP (zi GQ (zi FQ (zi tI_30 (zi zI_30 (zi lA (zi lB (zi lC (zi lD (zi lE (zi lF (zi k8 (zi tI_31 (zi zI_31 (zi gE (zi kN (zi kO mB))))))))))))))))))))))))))))
set_option maxHeartbeats 4000000 in
theorem aK5(s:Ss)(n:Int)(st:aA):aD prog 3 [dE s,.int .i64 n] st (fun r _=>r=.bool true):=by
 have hsz:=aNJ s
 have hto:=fun st hb=>(aFX s st hb).made
 have hom:=aFX s
 refine wF [1000000] 2 func3 ntmps3 rfl rfl ?_
 intro _
 simp -implicitDefEqProofs only[sH,NY,sG,aB,seval,oS]
 refine(hsz _ st (by omega) (by omega)).to ?_
 simp -implicitDefEqProofs only[aB,seval]
 refine aT (fun h1=>?_) (fun h1=>?_)
 · simp -implicitDefEqProofs only[aB,seval]
 simp only[cM,mQ] at h1
 have hb:uA s≤1048576:=by omega
 obtain⟨p1,p2,p3,p4⟩:=aUX hb
 have hsp:=aND s n p1 p2 p3 p4
 have him:=aL2 s n p1 p2 p3 p4
 have hm1:=aUW s
 have hm2:=aUJ s n
 have heq:=Q1 (fY s n).1
 have aQG:=Q1 s
 have L7:=aLO (fY s n).2
 simp -implicitDefEqProofs only[sH,sG,aB,seval,oS]
 refine(hto _ hb).to ?_
 simp -implicitDefEqProofs only[aB,seval]
 refine(hsp _).to ?_
 simp -implicitDefEqProofs only[sH,IA,NY,sG,aB,↓aW,seval,oS]
 refine(hom _ hb).mono ?_
 rintro o0 s1 ⟨b0,n0,f0,O0,k0⟩
 obtain⟨hw0,_,hs0,hj0,ha0⟩:=aQ.fits O0 (sH s) (IA s)
 rw[sG] at ha0
 simp -implicitDefEqProofs only[hw0,hs0,hj0,ha0,aB,↓aW,seval,oS]
 refine(aD.aUE him (d6.own O0 (d6.same .nil))).mono ?_
 rintro _ s3 ⟨og,q,o2,L,k,rfl,⟨os,bg,he,ng,fg,hOL,kg⟩,hT,hk,hd,hl,hmk⟩
 cases he
 obtain⟨_,_,b1,b2,e1,rfl,Og,Oq⟩:=HY.1 hOL
 cases e1
 obtain⟨n1,n2,n12⟩:=jO.1 ng
 have d12:sP b1 b2:=fun b h h'=>n12 b h b h' rfl
 obtain⟨d01,d02⟩:=aJ9 (O0.apart fg)
 have O0':=O0.beside kg (O0.apart fg)
 obtain⟨hwg,_,hsg,hjg,hag⟩:=aQ.fits Og (sH _) (IA _)
 rw[sG] at hag
 obtain⟨ht1,ht2,ht3,ht4,ht5⟩:=EE hT
 have hmd:aJ gK (L.drop k)≤aJ gK L:=by
  conv=>rhs;rw[←mT k L]
  rw[xQ]
  omega
 simp -implicitDefEqProofs only[sH,sG,hwg,hsg,hjg,hag,aB,↓aW,seval,oS]
 refine(aD.t0 (fun s=>heq s) (d6.own Og (d6.same .nil)) rfl).to ?_
 simp -implicitDefEqProofs only[gC,aB,seval]
 refine(aD.t0 (fun s=>L7 s) (d6.IF Oq hT hd (d6.same .nil)) rfl).to ?_
 simp -implicitDefEqProofs only[gC,aB,seval]
 refine B5 mixed (by decide +kernel) (by decide +kernel) ?_
 simp -implicitDefEqProofs only[sH,sG,hw0,ha0,aB,seval,oS]
 refine jB (hto _ hb) ?_
 simp -implicitDefEqProofs only[aB,seval]
 refine jB (aD.t0 (fun s'=>aQG s') (d6.own O0' (d6.same .nil)) rfl) ?_
 simp -implicitDefEqProofs only[gC,hw0,ha0,aB,seval,oS]
 refine(RZ s 1 o0 b0 s3 O0' n0 (by omega) (by omega)).mono ?_
 rintro _ s4 ⟨rfl,_,k4⟩
 have Og4:=Og.beside k4 d01.symm
 have Oq4:=Oq.beside k4 d02.symm
 have aQ3:¬(1+(jY s:Int)<0):=by omega
 simp -implicitDefEqProofs only[aQ3,eN,sH,sG,hwg,hag,aB,seval,oS]
 refine(aD.t0 (fun s=>heq s) (d6.own Og4 (d6.same .nil)) rfl).to ?_
 simp -implicitDefEqProofs only[gC,aB,seval]
 refine(aD.t0 (fun s=>L7 s) (d6.IF Oq4 hT hd (d6.same .nil)) rfl).to ?_
 simp -implicitDefEqProofs only[gC,hwg,hag,aB,seval,oS]
 refine(RZ (fY s n).1 1 og b1 s4 Og4 n1 (by omega) (by omega)).mono ?_
 rintro _ s5 ⟨rfl,Og5,k5⟩
 have Oq5:=Oq4.beside k5 d12.symm
 simp -implicitDefEqProofs only[aB,seval]
 refine(aMW L k hk (by omega) (1+(jY (fY s n).1:Int)) q o2 b2 s5 Oq5 hT n2 (by omega) (by omega)).mono ?_
 rintro _ s6 ⟨rfl,Oq6,k6⟩
 have Og6:=Og5.beside k6 d12
 have hT6:sU ((L.take k++dU mY gK (L.drop k) (1+(jY (fY s n).1:Int))).map bP).length k q o2:=by
  rw[aE,eC,vP,←eC,mT]
  rw[aE] at hT
  exact hT
 have hd6:=aSX (L:=L) (k:=k) (j:=1+(jY (fY s n).1:Int)) hk
 have aEW:¬(1+(jY (fY s n).1:Int)<0):=by omega
 have HA:¬(1+(jY (fY s n).1:Int)+(aJ gK (L.drop k):Int)<0):=by omega
 simp -implicitDefEqProofs only[hwg,hag,aB,seval,oS]
 refine(aD.t0 (fun s'=>Q5 (fY s n).1 1 s' (by omega) (by omega)) (d6.own Og6 (d6.same .nil)) rfl).to ?_
 simp -implicitDefEqProofs only[aEW,eN,aB,seval]
 refine(aD.t0 (fun s'=>Q4 (L.drop k) (1+(jY (fY s n).1:Int)) s' (by omega) (by omega)) (d6.IF Oq6 hT6 hd6 (d6.same .nil)) rfl).to ?_
 simp -implicitDefEqProofs only[HA,eN,eM,sH,sG,aB,seval,oS]
 refine(hto _ hb).to ?_
 simp -implicitDefEqProofs only[aB,seval]
 refine((him _).aUI).to ?_
 simp -implicitDefEqProofs only[sH,IA,NY,sG,aB,↓aW,seval,oS]
 refine(heq _).to ?_
 simp -implicitDefEqProofs only[gC,aB,seval]
 refine(L7 _).to ?_
 simp -implicitDefEqProofs only[gC,hwg,hag,aB,seval,oS]
 refine(aD.t0 (fun s'=>Q5 (fY s n).1 1 s' (by omega) (by omega)) (d6.own Og6 (d6.same .nil)) rfl).to ?_
 simp -implicitDefEqProofs only[aEW,eN,aB,seval]
 refine(aD.t0 (fun s'=>Q4 (L.drop k) (1+(jY (fY s n).1:Int)) s' (by omega) (by omega)) (d6.IF Oq6 hT6 hd6 (d6.same .nil)) rfl).to ?_
 simp -implicitDefEqProofs only[HA,eN,eM,aB,seval]
end Go.AW
