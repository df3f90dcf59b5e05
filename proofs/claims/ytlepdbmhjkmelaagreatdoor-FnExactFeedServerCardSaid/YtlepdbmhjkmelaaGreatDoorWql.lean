import Derived.Test.YtlepdbmhjkmelaaGreatDoorWqj
import Derived.Test.YtlepdbmhjkmelaaGreatDoorWqk
import Derived.Test.YtlepdbmhjkmelaaGreatDoorWqf
import Derived.Test.YtlepdbmhjkmelaaGreatDoorWqg
set_option linter.unusedSimpArgs false
set_option linter.unusedVariables false
set_option maxRecDepth 100000
namespace Go.AW
open Go.Proofs.Tryz
abbrev T8:=zi aX (zi cB (zi gL kX))
theorem aT9(l l':List Cl)(st:aA)(hc:∀x∈l,∀(y:Cl) (st:aA),aD prog 99 [aG x,aG y] st (fun r st'=>r=.bool (vB x y)∧st'=st)) :
 aD prog 76 [.slice (l.map aG),.slice (l'.map aG)] st (fun r st'=>r=.bool (jL vB l l')∧st'=st):=by
 refine wF [] 2 func76 ntmps76 rfl rfl ?_
 simp only[cV,AV.fits,dE,aE]
 intro ⟨⟨hl,_⟩,⟨hl',_⟩⟩
 simp only[aE,aB,seval,T8]
 refine⟨fun h4=>?_,fun h4=>?_⟩
 · simp only[aB,seval]
   simp only[gZ,cL] at h4
   rw[DI _ (show l.length≠l'.length by omega)]
 simp only[aB,seval]
 simp only[kZ,bM] at h4
 have h4':l.length=l'.length:=by omega
 refine oJ (α:=Nat) [] (fun i=>i≤l.length∧∀(j:Nat) (x y:Cl),j<i→l[j]?=some x→l'[j]?=some y→vB x y=true)
  (fun i=>[(0,.slice (l.map aG)),(1,.slice (l'.map aG)),(5,.int .i64 i)]) (fun _=>st) (fun i=>l.length - i) (by decide +kernel)
  ⟨0,⟨by omega,by intro j x y h;omega⟩,aP.mk (by simp only[aB,↓aW,seval])⟩ ?_
 intro i ⟨hi,dN⟩
 simp only[aE,aB,seval,T8]
 refine⟨fun h5=>?_,fun h5=>?_⟩
 case refine_2=>
  simp only[aB,seval]
  simp only[cL,g7] at h5
  rw[DG _ h4' (fun j x y h6 h7=>dN j x y (by have:=(fC.1 h6).1;omega) h6 h7)]
 simp only[bM,g7] at h5
 obtain⟨x,hx⟩:∃x,l[i]?=some x:=⟨_,eK h5⟩
 obtain⟨y,hy⟩:∃y,l'[i]?=some y:=⟨_,eK (h4'▸h5)⟩
 simp only[aB,seval]
 refine GO mixed (by decide +kernel) (by decide +kernel) ?_
 simp only[bH (av:=aG) lD hx (fQ x),bH (av:=aG) lD hy (fQ y),nU,fQ,aB,seval,T8]
 refine(hc x (cH hx) y st).to ?_
 simp only[aB,seval]
 refine⟨fun h6=>?_,fun h6=>?_⟩
 · simp only[aB,seval]
   have h7:vB x y=false:=by simpa using h6
   rw[DH _ i x y hx hy h7]
 have h7:vB x y=true:=by simpa using h6
 simp only[aB,seval]
 refine⟨i+1,by omega,⟨by omega,fun j u v hj hu hv=>?_⟩,aP.mk ?_⟩
 · rcases mB j i with h8 | h8
   · exact dN j u v h8 hu hv
   · obtain rfl:j=i:=by omega
     rw[hx] at hu;rw[hy] at hv;cases hu;cases hv;exact h7
 · have:=aZ (n:=(i:Int)+1)
   simp only[this,aB,seval]
abbrev T7:=zi aX (zi FG (zi dD NK))
theorem aWM(l:List Cl)(left:Int)(st:aA)(h0:0≤left)(h1:left≤1048576)(hc:∀x∈l,∀(left:Int) (st:aA),0≤left→left≤1048576→aD prog 81 [aG x,.int .i64 left] st (fun r st'=>r=.int .i64 (eY left (mR x))∧st'=st)) :
 aD prog 54 [.slice (l.map aG),.int .i64 left] st (fun r st'=>r=.int .i64 (eY left (l.length+aH mR l))∧st'=st):=by
 refine wF [] 2 func54 ntmps54 rfl rfl ?_
 simp only[cV,AV.fits,dE,aE]
 intro ⟨hl,_⟩
 have hw:=aZ (n:=left - (l.length:Int))
 simp only[aE,hw,aB,seval,T7]
 refine⟨fun h4=>?_,fun h4=>?_⟩
 · simp only[aB,seval]
   simp only[bM] at h4
   simp only[eY]
   rw[aN (by omega)]
 simp only[cL] at h4
 simp only[aB,seval]
 refine oJ (α:=Nat) [] (fun i=>i≤l.length∧((l.length+aH mR (l.take i):Nat):Int)≤left)
  (fun i=>[(0,.slice (l.map aG)),(1,.int .i64 (left - ((l.length+aH mR (l.take i):Nat):Int))),(5,.int .i64 i)]) (fun _=>st) (fun i=>l.length - i) (by decide +kernel)
  ⟨0,⟨by omega,by simp only[kE,aH];omega⟩,aP.mk (by simp only[aH,lQ,aB,↓aW,seval])⟩ ?_
 intro i ⟨hi,hle⟩
 simp only[aE,aB,seval,T7]
 refine⟨fun h5=>?_,fun h5=>?_⟩
 case refine_2=>
  simp only[aB,seval]
  simp only[cL,g7] at h5
  rw[show i=l.length by omega,eD] at hle ⊢
  rw[jJ (by omega)]
 simp only[bM,g7] at h5
 obtain⟨x,hx⟩:∃x,l[i]?=some x:=⟨_,eK h5⟩
 simp only[bH (av:=aG) QW hx (fQ x),nU,fQ,aB,seval,T7]
 refine(hc x (cH hx) _ st (by omega) (by omega)).to ?_
 have hs:=rK mR hx
 simp only[aB,seval]
 refine⟨fun h6=>?_,fun h6=>?_⟩
 · simp only[aB,seval]
   simp only[bM,gV] at h6
   simp only[eY]
   rw[aN (by omega)]
 simp only[cL,gV] at h6
 rw[jJ h6]
 simp only[aB,seval]
 refine⟨i+1,by omega,⟨by omega,by omega⟩,aP.mk ?_⟩
 · have:=aZ (n:=(i:Int)+1)
   have e:(left - ((l.length+aH mR (l.take (i+1)):Nat):Int))=left - ((l.length+aH mR (l.take i):Nat):Int) - ((mR x:Nat):Int):=by omega
   simp only[this,e,aB,seval]
abbrev MU:=zi aX (zi gL (zi FG (zi kX NK)))
theorem a6I(l:List Cl)(st:aA)(hb:l.length≤1048576)(hc:∀x∈l,∀(st:aA),aD prog 89 [aG x] st (Made st (aG x))) :
 aD prog 64 [.slice (l.map aG)] st (Made st (.slice (l.map aG))):=by
 refine wF [] 1 func64 ntmps64 rfl rfl ?_
 intro _
 simp only[aE,qQ,aB,↓aW,seval,MU]
 refine⟨by omega,by omega,by omega,?_⟩
 intro b hn
 rw[kB,BF _ (by simp)]
 refine dI (σ:=List AV×List Nat×aA) [] [0,2,3] l (fun i p=>oP (l.map aG) [.int .i64 0,.int .i64 0,.str ⟨#[]⟩,.fslice [],.fslice []] b st i p) (fun i _=>[(4,.int .i64 i)]) (fun _ p=>p.2.2) (by decide +kernel)
  ⟨([],[],_),?_,aP.mk (by simp only[aB,↓aW,seval])⟩ (fun i x p hx hlt a7 hdr hinv=>?_) (fun p hge hinv=>?_)
 · exact oP.start hn (by rw[aE])
 case refine_3=>
  obtain⟨os,bs,s⟩:=p
  simp only[aE,hge,aB,seval,MU]
  exact hinv.done (aE _) (fun e he=>by simp only[cF] at he;obtain⟨t,_,rfl⟩:=he;exact fQ t)
 obtain⟨os,bs,s⟩:=p
 simp only[aE,a7,bH (av:=aG) QW hx (fQ x),nU,fQ,aB,seval,MU]
 refine(hc x (cH hx) _).mono ?_
 rintro r s2 AZ
 obtain⟨A,B,hs2,hA,hrw,hrs,A0⟩:=hinv.step AZ (show(l.map aG)[i]?=some (aG x) by rw[kD,hx];try rfl) (fQ x) (fun e he=>by simp only[cF] at he;obtain⟨t,_,rfl⟩:=he;exact fQ t) rfl (DB x) (.inl (nU x))
 have hat:=kT (b:=b) (len:=l.length) (w:=5) (i:=i) lD hlt
 obtain⟨hp1,hp2⟩:=EK (B:=B) (C:=[.int .i64 0,.int .i64 0,.str ⟨#[]⟩,.fslice [],.fslice []]) (x:=r.cells) hA rfl hrw
 have hw:=aZ (n:=(i:Int)+1)
 simp only[hat,hs2,hrw,hrs,hp1,hw,aB,seval,MU]
 refine⟨hp2,?_⟩
 exact⟨_,A0,aP.mk (by simp only[aB,seval])⟩
abbrev aON:=zi cB (zi cI (zi cC kX))
theorem aT8(x y:Cl)(st:aA):aD prog 99 [aG x,aG y] st (fun r st'=>r=.bool (vB x y)∧st'=st):=by
 obtain⟨⟨k,n,s,ts⟩,b⟩:=x
 obtain⟨⟨k',n',s',ts'⟩,b'⟩:=y
 have hg:=fun st=>J9 (.mk k n s ts) (.mk k' n' s' ts') st
 simp only[bD] at hg
 have hc:=fun st=>PV b b' st fun x _ y st=>J9 x y st
 simp only[mQ]
 refine wF [1000000] 2 func99 ntmps99 rfl rfl ?_
 intro _
 simp only[aB,seval,aON]
 refine(hg _).to ?_
 simp only[vB]
 simp only[aB,seval]
 refine aQ (fun h1=>?_) (fun h1=>?_)
 · simp only[aB,seval]
   simp only[gZ] at h1
   simp [h1]
 simp only[kZ] at h1
 simp only[aB,seval,aON]
 refine(hc _).to ?_
 simp only[aB,seval]
 refine aQ (fun h2=>?_) (fun h2=>?_)<;>simp only[aB,seval]
 · simp only[gZ] at h2
   simp [h2]
 · simp only[kZ] at h2
   simp [h1,h2]
abbrev aOM:=zi aX (zi dD (zi zG NK))
theorem aWL(c:Cl)(left:Int)(st:aA)(h0:0≤left)(h1:left≤1048576):aD prog 81 [aG c,.int .i64 left] st (fun r st'=>r=.int .i64 (eY left (mR c))∧st'=st):=by
 obtain⟨⟨k,n,s,ts⟩,b⟩:=c
 have hg:=fun st=>P7 (.mk k n s ts) left st h0 h1
 simp only[bD] at hg
 simp only[mQ,mR]
 generalize (Tm.mk k n s ts).sz=z at hg ⊢
 have hsl:rL b=b.length+aH Tm.sz b:=rfl
 refine wF [1000000] 2 func81 ntmps81 rfl rfl ?_
 intro _
 simp only[aB,seval,aOM]
 refine(hg _).to ?_
 simp only[aB,seval]
 refine aQ (fun h2=>?_) (fun h2=>?_)
 · simp only[aB,seval]
   simp only[bM,gV] at h2
   simp only[eY]
   rw[aN (by omega)]
 simp only[cL,gV] at h2
 rw[jJ h2]
 simp only[aB,seval,aOM]
 refine(ZA b _ _ (by omega) (by omega)).to ?_
 simp only[aB,seval]
 refine aQ (fun h3=>?_) (fun h3=>?_)
 · simp only[aB,seval]
   simp only[bM,gV] at h3
   simp only[eY]
   rw[aN (by omega)]
 · simp only[aB,seval]
   simp only[cL,gV] at h3
   rw[jJ h3,jJ (by omega)]
   congr 1
   omega
abbrev T9:=zi cI (zi dD (zi cC (zi kX (zi zG NK))))
theorem a6H(c:Cl)(st:aA)(hb:mR c≤1048576):aD prog 89 [aG c] st (Made st (aG c)):=by
 obtain⟨⟨k,n,s,ts⟩,bd⟩:=c
 unfold mR at hb
 simp only at hb
 have hc:=fun st=>aMT bd st (by unfold rL;omega)
 have hg:=fun st=>ST (.mk k n s ts) st (by omega)
 simp only[bD] at hg
 simp only[mQ]
 refine aD.uH ?_
 refine wF [1000000] 1 func89 ntmps89 rfl rfl ?_
 intro _
 simp only[aB,seval,T9]
 intro b hb1 b2 hb2
 have hne:b2≠b:=by rintro rfl;rw[aA.aJ] at hb2;cases hb2
 have hn2:st b2=none:=by rw[aA.aF st _ hne] at hb2;exact hb2
 refine(hg _).mono ?_
 rintro q0 s2 ⟨bs,m1,m2,m3,m4⟩
 rw[←bD] at m3
 obtain⟨q,rfl,m3'⟩:=EJ.1 m3
 have hbb:b∉bs:=fun h=>by have:=m2 b h;simp [eC,hne.symm] at this
 have pX:b2∉bs:=fun h=>by have:=m2 b2 h;simp [eC] at this
 have e1:=m4 b hbb
 have e2:=m4 b2 pX
 simp only[eC,hne,hne.symm,dV,cM] at e1 e2
 obtain⟨hqc,hqs,hqa,hqw,hqj⟩:=aS.sS m3'
 simp only[aM,e2,hqs,aB,seval,T9]
 refine(hc _).mono ?_
 rintro r s3 ⟨cs,n1,n2,n3,n4⟩
 have RP:b2∉cs:=fun h=>by have:=n2 b2 h;simp [eC] at this
 have hcb:b∉cs:=fun h=>by have:=n2 b h;simp [eC,hne.symm,e1] at this
 have f1:=n4 b hcb
 have f2:=n4 b2 RP
 simp only[eC,hne.symm,dV,cM,e1] at f1 f2
 obtain⟨hrc,hrs,hra,hrw,hrj⟩:=aS.sS n3
 simp only[aM,eC,hne.symm,f1,f2,hqs,hrc,hrs,aB,seval,T9]
 have w8:=(aS.gK _ _ _ m3').2.2
 have kS:∀x∈bs,x∉cs:=fun x hx hx'=>by
  obtain⟨u,e,_⟩:=w8 x hx
  have:=n2 x hx'
  have h2:x≠b2:=fun e=>pX (e▸hx)
  simp only[eC,h2,cM] at this
  rw[e] at this;cases this
 have hcs:∀x∈cs,x≠b∧x≠b2:=fun x hx=>⟨fun e=>hcb (e▸hx),fun e=>RP (e▸hx)⟩
 have hbs:∀x∈bs,x≠b∧x≠b2:=fun x hx=>⟨fun e=>hbb (e▸hx),fun e=>pX (e▸hx)⟩
 refine⟨[b,b2],bs++cs,mA.2 ⟨m1,n1,fun x hx y hy e=>kS x hx (e▸hy)⟩,fun x hx=>?_,?_,?_,?_⟩
 · rcases eL.1 hx with hx | hx
   · have:=m2 x hx
     simpa [eC,hbs x hx] using this
   · have:=n2 x hx
     simp only[eC,(hcs x hx).2,cM] at this
     by_cases hxb:x∈bs
     · exact absurd hx (kS x hxb)
     · rw[m4 x hxb] at this
       simpa [eC,hcs x hx] using this
 · simp [hb1,hn2,hbb,pX,hcb,RP]
 · rw[←mQ]
   refine MF.2 ⟨q,bs,r,cs,rfl,rfl,aS.aU _ _ _ (fun x hx=>?_) m3',aS.aU _ _ _ (fun x hx=>?_) n3⟩
   · simp only[eC,(hbs x hx).1,(hbs x hx).2,cM]
     rw[n4 x (kS x hx)]
     simp only[eC,(hbs x hx).2,cM]
   · simp only[eC,(hcs x hx).1,(hcs x hx).2,cM]
 · intro x hx hd
   simp only[cG,cX,dG,jI] at hd
   simp only[eL,jI] at hx
   simp only[eC,hd.1,hd.2,cM]
   rw[n4 x hx.2]
   simp only[eC,hd.2,cM]
   rw[m4 x hx.1]
   simp only[eC,hd.1,hd.2,cM]
theorem XR(l:List Cl)(st:aA):aD prog 76 [.slice (l.map aG),.slice (l.map aG)] st (fun r st'=>r=.bool true∧st'=st):=by
 refine(aT9 l l st fun x _ y st=>aT8 x y st).mono ?_
 rintro _ _ ⟨rfl,rfl⟩
 refine⟨?_,rfl⟩
 have:∀l:List Cl,jL vB l l=true:=by
  intro l
  induction l with
  | nil=>rfl
  | cons x l ih=>simp [jL,aXA,ih]
 rw[this]
abbrev sV (l:List Cl):Nat:=l.length+aH mR l
theorem Y7(l:List Cl)(left:Int)(st:aA)(h0:0≤left)(h1:left≤1048576):aD prog 54 [.slice (l.map aG),.int .i64 left] st (fun r st'=>r=.int .i64 (eY left (sV l))∧st'=st):=
 aWM l left st h0 h1 fun x _ left st h0 h1=>aWL x left st h0 h1
theorem aMQ(l:List Cl)(st:aA)(hb:sV l≤1048576):aD prog 64 [.slice (l.map aG)] st (Made st (.slice (l.map aG))):=
 a6I l st (by unfold sV at hb;omega) fun x hx st=>a6H x st (by have:=pC (f:=mR) hx;unfold sV at hb;omega)
theorem aW8(c:Cl):fF c≤3+3*mR c:=by
 obtain⟨⟨k,n,s,ts⟩,b⟩:=c
 have h1:=Tm.aMF (.mk k n s ts)
 have h2:=aMG b
 rw[Tm.L5] at h1
 rw[KJ]
 have hsl:rL b=b.length+aH Tm.sz b:=rfl
 have hcs:mR (.mk k n s ts,b)=(Tm.mk k n s ts).sz+(b.length+aH Tm.sz b):=rfl
 omega
theorem QG:∀l:List Cl,aH fF l≤3*sV l
 | []=>by simp [aH]
 | x::l=>by
  have h1:=aW8 x
  have h2:=QG l
  simp only[aH,sV,a8] at h2 ⊢
  omega
abbrev UA:=zi aX (zi d9 (zi gL (zi cI (zi cC kX))))
theorem YU(l:List Cl)(j:Int)(o:AV)(bs:List Nat)(st:aA)(hO:aS st (.slice (l.map aG)) o bs)(hnd:bs.Nodup)(hj0:0≤j)(hj1:j+aH fF l≤1099511627776) :
 aD prog 46 [o,.int .i64 j] st (CE st (.slice ((dX nV fF l j).map aG)) o bs (j+aH fF l)):=by
 obtain⟨hlen,haL⟩:=hO.len
 rw[aE] at hlen
 have haL:=haL prog 45 _ a96
 rw[aE] at haL
 refine wF [1000000] 2 func46 ntmps46 rfl rfl ?_
 simp only[cV]
 intro ⟨hf,_⟩
 have hl:=hlen hf
 clear hf hlen
 simp only[aB,seval]
 refine dI (σ:=List Cl×Int×aA) [1000000] [0,4] l
  (fun i p=>p.1.length=i∧p.1++dX nV fF (l.drop i) p.2.1=dX nV fF l j∧0≤p.2.1∧p.2.1+aH fF (l.drop i)=j+aH fF l∧aS p.2.2 (.slice ((p.1++l.drop i).map aG)) o bs∧∀q,q∉bs→p.2.2 q=st q)
  (fun i p=>[(1,.int .i64 p.2.1),(5,.int .i64 i)]) (fun _ p=>p.2.2) (by decide +kernel)
  ⟨([],j,st),⟨rfl,rfl,hj0,rfl,hO,fun _ _=>rfl⟩,aP.mk (by simp only[aB,↓aW,seval])⟩ (fun i x p hx hlt a7 hdr hinv=>?_) (fun p hge hinv=>?_)
 case refine_2=>
  obtain⟨done,k,s⟩:=p
  obtain⟨i1,i2,i3,i4,i5,i6⟩:=hinv
  simp only at i1 i2 i3 i4 i5 i6
  simp only[haL,hge,aB,seval]
  simp only[iA,dX,eU,aH] at i2 i4 i5
  exact⟨by rw[←i4];simp,by rw[←i2];exact i5,i6⟩
 obtain⟨done,k,s⟩:=p
 obtain⟨i1,i2,i3,i4,i5,i6⟩:=hinv
 simp only at i1 i2 i3 i4 i5 i6
 rw[hdr] at i2 i4 i5
 obtain⟨⟨xk,xn,xs,xts⟩,xb⟩:=x
 simp only[aH,KJ] at i4
 have mU:=HT (av:=aG) (done:=done) (x:=(.mk xk xn xs xts,xb)) (rest:=l.drop (i+1))
 obtain⟨b,bs',w,A,oe,bo,B,rfl,hbs,hsb,hA,hoe,hbo,hbn,n7,hw,hi,pY⟩:=i5.focus hnd mU
 rw[fQ] at hw
 subst hw
 rw[i1] at hA
 obtain⟨q,b1,q',b2,rfl,rfl,hq,hq'⟩:=MF.1 hoe
 rw[mA] at hbo
 obtain⟨a2H,a2I,kS⟩:=hbo
 simp only[eL,jI] at hbn
 have w6:((done++((Tm.mk xk xn xs xts,xb):Cl)::l.drop (i+1)).map aG).length=l.length:=by
  rw[aE,dS,a8,lP,i1];omega
 rw[w6] at haL pY ⊢
 have hat:=kT (P:=prog) (b:=b) (len:=l.length) (w:=5) (i:=i) lD hlt
 have hw1:=aZ (n:=k+1)
 have hw2:=aZ (n:=k+1+1)
 have hw3:=aZ (n:=k+1+1+1)
 have hw4:=aZ (n:=(i:Int)+1)
 obtain⟨e1,e2,e3,e4,e5,e6⟩:=vN (B:=B) hA
 simp only[haL,a7,hat,hsb,hw1,hw2,e1,e2,e4,e5,lQ,qL,v7,dR,aB,seval,UA]
 refine(CZ (k+1+1) _ (by omega)).to ?_
 simp only[hat,e1,e2,e3,lQ,qL,v7,dR,hw3,aB,seval,UA]
 have hqs:∀(o:AO),aS (s.aC b o) (.slice (xts.map Tm.av)) q b1:=fun o=>aS.aU _ _ _ (fun x hx=>aA.aF _ _ (fun e=>hbn.1 (e▸hx))) hq
 have hqa:q.isAgg=false:=(aS.shape hq).1
 have a3V:q'.isAgg=false:=(aS.shape hq').1
 simp only[hqa,aB,seval]
 refine(KD xts (k+1+1+1) q b1 _ (hqs _) a2H (by omega) (by omega)).mono ?_
 rintro _ s2 ⟨rfl,hq2,hk2⟩
 have f1:=hk2 b hbn.1
 rw[aA.aJ] at f1
 simp only[hat,f1,e3,a3V,aB,seval,UA]
 have a3W:aS s2 (.slice (xb.map Tm.av)) q' b2:=aS.aU _ _ _ (fun x hx=>by
  have hxb:x≠b:=fun e=>hbn.2 (e▸hx)
  rw[hk2 x (fun h=>kS x h x hx rfl),aA.aF _ _ hxb]) hq'
 refine(KD xb _ q' b2 _ a3W a2I (by omega) (by omega)).mono ?_
 rintro _ s3 ⟨rfl,hq3,hk3⟩
 have hm:k+((3+aH Tm.dB xts+aH Tm.dB xb:Nat):Int)=k+1+1+1+(aH Tm.dB xts:Int)+(aH Tm.dB xb:Int):=by omega
 simp only[hw4,aB,seval]
 refine⟨(done++ [nV (.mk xk xn xs xts,xb) k],k+1+1+1+(aH Tm.dB xts:Int)+(aH Tm.dB xb:Int),s3),⟨?_,?_,?_,?_,?_,?_⟩,aP.mk (by simp only[aB,seval])⟩
 · simp [i1]
 · simp only[dX,KJ] at i2
   rw[hm] at i2
   rw[←i2]
   simp
 · simp only;omega
 · simp only;omega
 · have:=pY s3 (aG (nV (.mk xk xn xs xts,xb) k)) (.agg [.int .i64 k,.int .i64 (k+1),.str (mt (k+1+1)),q,q']) (fQ _)
    (fun x hx hxb hxo=>by
     simp only[eL,jI] at hxo
     rw[hk3 x hxo.2,hk2 x hxo.1,aA.aF _ _ hxb])
    (by rw[hk3 b hbn.2,f1];try rfl)
    (by
     unfold nV
     exact MF.2 ⟨q,b1,q',b2,rfl,rfl,aS.aU _ _ _ (fun x hx=>hk3 x (fun h=>kS x hx x h rfl)) hq2,hq3⟩)
   rw[HU] at this
   exact this
 · intro x hx
   have hxb:x≠b:=fun e=>hx (by rw[hbs];simp [e])
   have hx1:x∉b1:=fun e=>hx (n7 x (by simp [e]))
   have hx2:x∉b2:=fun e=>hx (n7 x (by simp [e]))
   show s3 x=st x
   rw[hk3 x hx2,hk2 x hx1,aA.aF _ _ hxb,i6 x hx]
abbrev II:=zi aX (zi d9 (zi gL (zi cI (zi dD (zi cC kX)))))
theorem XV(l:List Cl)(j:Int)(st:aA)(h0:0≤j)(h1:j+aH fF l≤1099511627776) :
 aD prog 50 [.slice ((dX nV fF l j).map aG),.int .i64 j] st (fun r st'=>r=.int .i64 (j+aH fF l)∧st'=st):=by
 refine wF [1000000] 2 func50 ntmps50 rfl rfl ?_
 simp only[cV,AV.fits,dE,aE,xC]
 intro ⟨hl,_⟩
 have hML:(dX nV fF l j).length=l.length:=xC _ _ _ _
 simp only[aB,seval]
 refine dI (σ:=Unit) [1000000] [0] (dX nV fF l j) (fun i _=>True) (fun i _=>[(1,.int .i64 (j+aH fF (l.take i))),(4,.int .i64 0),(5,.int .i64 i)]) (fun _ _=>st) (by decide +kernel) ⟨(),trivial,aP.mk (by simp only[aH,kE,Int.add_zero,aB,↓aW,seval])⟩ (fun i x _ hx hlt a7 hdr _=>?_) (fun _ hge _=>?_)
 case refine_2=>
  rw[hML] at hge
  simp only[hge,eD,aE,hML,aB,seval,II]
 rw[hML] at hlt a7
 obtain⟨y,hy⟩:∃y,l[i]?=some y:=⟨_,eK hlt⟩
 obtain⟨⟨k,n,s,ts⟩,b⟩:=y
 have hxy:x=nV (.mk k n s ts,b) (j+aH fF (l.take i)):=by
  have:=HS nV fF l j i
  rw[hdr,oM hlt,dX,(fC.1 hy).2] at this
  exact(pK this).1
 have hs:=rK fF hy
 rw[KJ] at hs
 have hat:=bH (av:=aG) lD hx (fQ x)
 rw[hxy,nV,mQ] at hat
 obtain⟨hs1,hs2⟩:=hs
 generalize hk:j+(aH fF (l.take i):Int)=m at *
 have hw1:=aZ (n:=m+1)
 have hw2:=aZ (n:=m+1+1)
 have hw3:=aZ (n:=m+1+1+1)
 have hw:=aZ (n:=(i:Int)+1)
 simp only[a7,dU,fG,aE,hML,hat,hw1,hw2,aB,seval,II]
 refine wP [(0,1),(1,1),(2,1),(3,1),(4,1),(6,1),(5,2),(7,2),(8,1)] [0,1,2,3,4,6,5,7,8] mixed ?_
 simp only[hat,aB,seval,II]
 refine iD (CZ (m+1+1) _ (by omega)) ?_
 simp only[dU,fG,hat,hw3,aB,seval,II]
 refine(KA ts (m+1+1+1) _ (by omega) (by omega)).to ?_
 have n6:¬(m+1+1+1+(aH Tm.dB ts:Int)<0):=by omega
 simp only[n6,dW,hat,aB,seval,II]
 refine(KA b (m+1+1+1+(aH Tm.dB ts:Int)) _ (by omega) (by omega)).to ?_
 have a3P:¬(m+1+1+1+(aH Tm.dB ts:Int)+(aH Tm.dB b:Int)<0):=by omega
 simp only[a3P,dW,aB,seval]
 refine⟨(),aP.mk ?_⟩
 have e:j+(aH fF (l.take (i+1)):Int)=m+1+1+1+(aH Tm.dB ts:Int)+(aH Tm.dB b:Int):=by omega
 simp only[hw,e,aB,seval]
abbrev UF:=zi aX (zi cB (zi gL (zi cI oF)))
theorem aUF(s:Ss)(st:aA):aD prog 77 [gU s,gU s] st (fun r st'=>r=.bool true∧st'=st):=by
 obtain⟨p,q,i0,i1,i2,i3⟩:=s
 simp only[gU]
 refine wF [1000000] 2 func77 ntmps77 rfl rfl ?_
 intro _
 simp only[aB,seval,UF]
 refine(XR p _).to ?_
 simp only[aB,seval,UF]
 refine(aUG q _).to ?_
 simp only[fX,aB,seval,UF]
abbrev Bt:=Fin 256
def bX(b:Bt):AV:=.int .u8 (b.val:Int)
theorem PR(b:Bt):(bX b).width=1:=rfl
end Go.AW
namespace Go.AW
def rE:AV→Bool
 | .int _ _ | .bool _ | .str _=>true
 | _=>false
theorem aM4{st:aA}{a o:AV}{bs:List Nat}(h:rE a=true):aS st a o bs↔o=a∧bs= []:=by
 cases a<;>simp [rE] at h<;>simp [aS]
theorem a60{st:aA}{a:AV}{es os:List AV}{bs:List Nat}(h:rE a=true):aV st (a::es) os bs↔∃os',os=a::os'∧aV st es os' bs:=by
 simp only[aV]
 constructor
 · rintro⟨o,os',b1,b2,rfl,rfl,x1,x2⟩
   obtain⟨rfl,rfl⟩:=(aM4 h).1 x1
   exact⟨os',rfl,x2⟩
 · rintro⟨os',rfl,x⟩
   exact⟨a,os',[],bs,rfl,rfl,(aM4 h).2 ⟨rfl,rfl⟩,x⟩
def uW:List AV→List AV→List AV
 | [],_=>[]
 | a::es,qs=>if rE a then a::uW es qs else match qs with
  | q::qs=>q::uW es qs
  | []=>[]
theorem EI{st:aA}:∀ {es os:List AV} {bs:List Nat},aV st es os bs↔∃qs,os=uW es qs∧aV st (es.filter fun a=> !rE a) qs bs
 | [],os,bs=>by
  simp only[aV,uW,List.filter_nil]
  constructor
  · rintro⟨rfl,rfl⟩;exact⟨[],rfl,rfl,rfl⟩
  · rintro⟨qs,rfl,rfl,rfl⟩;exact⟨rfl,rfl⟩
 | a::es,os,bs=>by
  cases h:rE a with
  | true=>
   rw[a60 h]
   simp only[uW,h,List.filter_cons,fG,iE,cM,dV]
   constructor
   · rintro⟨os',rfl,x⟩
     obtain⟨qs,rfl,y⟩:=EI.1 x
     exact⟨qs,rfl,y⟩
   · rintro⟨qs,rfl,y⟩
     exact⟨_,rfl,EI.2 ⟨qs,rfl,y⟩⟩
  | false=>
   simp only[uW,h,List.filter_cons,kO,iE,cM,dV,aV]
   constructor
   · rintro⟨o,os',b1,b2,rfl,rfl,x1,x2⟩
     obtain⟨qs,rfl,y⟩:=EI.1 x2
     exact⟨o::qs,rfl,o,qs,b1,b2,rfl,rfl,x1,y⟩
   · rintro⟨qs,rfl,o,os',b1,b2,rfl,rfl,x1,y⟩
     exact⟨o,_,b1,b2,rfl,rfl,x1,EI.2 ⟨os',rfl,y⟩⟩
theorem sT{st:aA}{cs:List AV}{o:AV}{bs:List Nat}:aS st (.agg cs) o bs↔∃qs,o=.agg (uW cs qs)∧aV st (cs.filter fun a=> !rE a) qs bs:=by
 simp only[aS]
 constructor
 · rintro⟨os,rfl,x⟩
   obtain⟨qs,rfl,y⟩:=EI.1 x
   exact⟨qs,rfl,y⟩
 · rintro⟨qs,rfl,y⟩
   exact⟨_,rfl,EI.2 ⟨qs,rfl,y⟩⟩
def aLY:AV→Bool
 | .slice _=>true
 | _=>false
def One(q:AV):Prop:=q.cells= [q]∧q.storable=true∧q.isAgg=false∧q.width=1∧q.bV=false
theorem aV.jO{st:aA}:∀ {es os:List AV} {bs:List Nat},aV st es os bs→es.all aLY=true→∀q∈os,One q
 | [],os,bs,x,_=>by simp only[aV] at x;rw[x.1];simp
 | a::es,os,bs,x,h=>by
  simp only[aV] at x
  obtain⟨o,os',b1,b2,rfl,rfl,x1,x2⟩:=x
  simp only[jK,cY] at h
  intro q hq
  rcases cG.1 hq with rfl | hq
  · cases a<;>simp [aLY] at h
    exact aS.sS x1
  · exact aV.jO x2 h.2 q hq
theorem aV.piece{st:aA}{es os:List AV}{bs:List Nat}(x:aV st es os bs)(nd:bs.Nodup)(i:Nat){a o:AV}(ha:es[i]?=some a)(ho:os[i]?=some o) :
 ∃bo,aS st a o bo∧bo.Nodup∧(∀b∈bo,b∈bs)∧∀(st':aA) (a':AV),(∀b,b∉bo→st' b=st b)→aS st' a' o bo→aV st' (es.set i a') os bs:=by
 obtain⟨od,o2,orr,bo,rfl,hl,y1,y2,y3,y4⟩:=x.focus nd i a ha
 have:o2=o:=by
  subst hl
  simpa using ho
 subst this
 exact⟨bo,y1,y2,y3,fun st' a' hk y=>y4 st' a' o2 (fun b _ hn=>hk b hn) y⟩
structure fT (st:aA) (ds:List Nat) (es os:List AV) (bs:List Nat) (s:aA):Prop where
 nd:bs.Nodup
 fresh:∀b∈bs,st b=none
 apart:∀d∈ds,st d=none∧d∉bs∧s d≠none
 own:aV s es os bs
 aU:∀x,x∉bs→x∉ds→s x=st x
theorem fT.start{st:aA}{ds:List Nat}{s:aA}(h1:∀d∈ds,st d=none∧s d≠none)(h2:∀x,x∉ds→s x=st x):fT st ds [] [] [] s:=
 ⟨mJ,by simp,fun d hd=>⟨(h1 d hd).1,by simp,(h1 d hd).2⟩,⟨rfl,rfl⟩,fun x _ h=>h2 x h⟩
theorem fT.aC{st:aA}{ds:List Nat}{es os:List AV}{bs:List Nat}{s:aA}(c:fT st ds es os bs s){d:Nat}(hd:d∈ds)(o:AO):fT st ds es os bs (s.aC d o):=by
 refine⟨c.nd,c.fresh,fun e he=>⟨(c.apart e he).1,(c.apart e he).2.1,?_⟩,aV.aU _ _ _ (fun b hb=>aA.aF _ _ (fun e=>(c.apart d hd).2.1 (e▸hb))) c.own,fun x h1 h2=>?_⟩
 · by_cases h:e=d
   · subst h;rw[aA.aJ];simp
   · rw[aA.aF _ _ h];exact(c.apart e he).2.2
 · have hx:x≠d:=by rintro rfl;exact h2 hd
   rw[aA.aF _ _ hx];exact c.aU x h1 h2
theorem fT.made{st:aA}{ds:List Nat}{es os:List AV}{bs:List Nat}{s s':aA}{a r:AV}(c:fT st ds es os bs s)(m:Made s a r s'):(∀d∈ds,s' d=s d)∧∃bs',fT st ds (es++ [a]) (os++ [r]) bs' s':=by
 obtain⟨b2,m1,m2,m3,m4⟩:=m
 have hb:∀b∈bs,b∉b2:=fun b hb hb'=>by
  obtain⟨cs,e,_⟩:=(aV.gK _ _ _ c.own).2 b hb
  rw[m2 b hb'] at e;cases e
 have hd:∀d∈ds,d∉b2:=fun d hd hd'=>(c.apart d hd).2.2 (m2 d hd')
 have hf:∀b∈b2,st b=none:=fun b h2=>by
  have h1:b∉bs:=fun h=>hb b h h2
  have h3:b∉ds:=fun h=>hd b h h2
  rw[←c.aU b h1 h3];exact m2 b h2
 refine⟨fun d h=>m4 d (hd d h),bs++b2,mA.2 ⟨c.nd,m1,fun x hx y hy e=>hb x hx (e▸hy)⟩,fun b h=>?_,fun d h=>⟨(c.apart d h).1,?_,?_⟩,?_,fun x h1 h2=>?_⟩
 · rcases eL.1 h with h | h
   · exact c.fresh b h
   · exact hf b h
 · simp only[eL,jI];exact⟨(c.apart d h).2.1,hd d h⟩
 · rw[m4 d (hd d h)];exact(c.apart d h).2.2
 · exact aV.snoc c.own (fun b h=>m4 b (hb b h)) m3
 · simp only[eL,jI] at h1
   rw[m4 x h1.2,c.aU x h1.1 h2]
theorem aV.append{st:aA}{a2 o2:List AV}{b2:List Nat}(y:aV st a2 o2 b2):∀ {a1 o1:List AV} {b1:List Nat},aV st a1 o1 b1→aV st (a1++a2) (o1++o2) (b1++b2)
 | [],o1,b1,x=>by
  simp only[aV] at x
  obtain⟨rfl,rfl⟩:=x
  exact y
 | a::a1,o1,b1,x=>by
  simp only[aV] at x
  obtain⟨o,os',c1,c2,rfl,rfl,x1,x2⟩:=x
  simp only[gR,aV]
  exact⟨o,os'++o2,c1,c2++b2,rfl,by simp,x1,aV.append y x2⟩
theorem fT.a5M{st:aA}{ds:List Nat}{es os:List AV}{bs:List Nat}{s s':aA}{a2 o2:List AV}{b2:List Nat}(c:fT st ds es os bs s)(m1:b2.Nodup)(m2:∀b∈b2,s b=none)(m3:aV s' a2 o2 b2)(m4:∀b,b∉b2→s' b=s b) :
 (∀d∈ds,s' d=s d)∧fT st ds (es++a2) (os++o2) (bs++b2) s':=by
 have hb:∀b∈bs,b∉b2:=fun b hb hb'=>by
  obtain⟨cs,e,_⟩:=(aV.gK _ _ _ c.own).2 b hb
  rw[m2 b hb'] at e;cases e
 have hd:∀d∈ds,d∉b2:=fun d hd hd'=>(c.apart d hd).2.2 (m2 d hd')
 have hf:∀b∈b2,st b=none:=fun b h2=>by
  have h1:b∉bs:=fun h=>hb b h h2
  have h3:b∉ds:=fun h=>hd b h h2
  rw[←c.aU b h1 h3];exact m2 b h2
 refine⟨fun d h=>m4 d (hd d h),mA.2 ⟨c.nd,m1,fun x hx y hy e=>hb x hx (e▸hy)⟩,fun b h=>?_,fun d h=>⟨(c.apart d h).1,?_,?_⟩,?_,fun x h1 h2=>?_⟩
 · rcases eL.1 h with h | h
   · exact c.fresh b h
   · exact hf b h
 · simp only[eL,jI];exact⟨(c.apart d h).2.1,hd d h⟩
 · rw[m4 d (hd d h)];exact(c.apart d h).2.2
 · exact aV.append m3 (aV.aU _ _ _ (fun b h=>m4 b (hb b h)) c.own)
 · simp only[eL,jI] at h1
   rw[m4 x h1.2,c.aU x h1.1 h2]
theorem fT.SO{st:aA}{ds:List Nat}{es os:List AV}{bs:List Nat}{s s':aA}{cs:List AV}{r:AV}(c:fT st ds es os bs s)(m:Made s (.agg cs) r s') :
 (∀d∈ds,s' d=s d)∧∃qs bs',r=.agg (uW cs qs)∧fT st ds (es++cs.filter fun a=> !rE a) (os++qs) bs' s':=by
 obtain⟨b2,m1,m2,m3,m4⟩:=m
 obtain⟨qs,rfl,y⟩:=sT.1 m3
 obtain⟨h1,h2⟩:=c.a5M m1 m2 y m4
 exact⟨h1,qs,_,rfl,h2⟩
theorem fT.done{st:aA}{ds:List Nat}{es os:List AV}{bs:List Nat}{s:aA}(c:fT st ds es os bs s){a r:AV}(h:aV s es os bs→aS s a r bs):∃ds,JI st ds a r s:=
 ⟨ds,bs,c.nd,c.fresh,fun d hd=>⟨(c.apart d hd).1,(c.apart d hd).2.1⟩,h c.own,fun b h1 h2=>c.aU b h1 h2⟩
theorem fT.two{st:aA}{b b2:Nat}{o o2:AO}(hb:st b=none)(hb2:(st.aC b o) b2=none):b2≠b∧fT st [b,b2] [] [] [] ((st.aC b o).aC b2 o2):=by
 have hne:b2≠b:=by rintro rfl;rw[aA.aJ] at hb2;cases hb2
 have hn2:st b2=none:=by rw[aA.aF st _ hne] at hb2;exact hb2
 refine⟨hne,fT.start (fun d hd=>?_) (fun x hx=>?_)⟩
 · simp only[cG,cX,dG] at hd
   rcases hd with rfl | rfl
   · exact⟨hb,by rw[aA.aF _ _ (dA hne),aA.aJ];simp⟩
   · exact⟨hn2,by rw[aA.aJ];simp⟩
 · simp only[cG,cX,dG,jI] at hx
   rw[aA.aF _ _ hx.2,aA.aF _ _ hx.1]
theorem fT.none{st:aA}{ds:List Nat}{s:aA}{bs:List Nat}(c:fT st ds [] [] bs s){a:AV}(h:aS s a a []):∃ds,JI st ds a a s:=by
 have:=c.own
 simp only[aV,true_and] at this
 subst this
 exact c.done fun _=>h
abbrev Fr:=Int×ByteArray
def bJ(f:Fr):AV:=.agg [.int .i64 f.1,.str f.2]
theorem nX(f:Fr):(bJ f).width=2:=rfl
theorem G7(f:Fr):(bJ f).isAgg=true:=rfl
theorem a1S(f:Fr):(bJ f).cells.all AV.storable=true:=rfl
def wV(x y:Fr):Bool:=decide (x.1=y.1)&&decide (x.2=y.2)
def t7(f:Fr):Nat:=f.2.size
abbrev bO (l:List Fr):AV:=.slice (l.map bJ)
abbrev cE (l:List Bt):AV:=.slice (l.map bX)
def gS(r:List Bt)(b:Bool):AV:=.agg [cE r,.bool b]
structure eF where
 rest:List Bt
 brk:Bool
 wait:List Fr
 prog:List Cl
 act:Bool
 ses:Ss
 told:Bool
 out:List Fr
def wM(c:eF):List AV:=[cE c.rest,.bool c.brk,bO c.wait,.slice (c.prog.map aG),.bool c.act,.slice (c.ses.p.map aG),.slice (c.ses.q.map Tm.av),.int .i64 c.ses.bB,.int .i64 c.ses.used,.int .i64 c.ses.bL,.int .i64 c.ses.fin,.bool c.told,bO c.out]
def bP(c:eF):AV:=.agg (wM c)
theorem kR(c:eF):(bP c).width=13:=rfl
theorem wL(c:eF):(bP c).isAgg=true:=rfl
theorem ZS(c:eF):(bP c).cells.all AV.storable=true:=rfl
theorem ZR(c:eF):(bP c).bV=false:=rfl
structure Sv where
 cs:List eF
 bB:Int
def fJ(s:Sv):AV:=.agg [.slice (s.cs.map bP),.int .i64 s.bB]
def QJ(c:eF):List AV:=[cE c.rest,bO c.wait,.slice (c.prog.map aG),.slice (c.ses.p.map aG),.slice (c.ses.q.map Tm.av),bO c.out]
theorem H1{st:aA}{c:eF}{o:AV}{bs:List Nat} :
 aS st (bP c) o bs↔∃q0 q1 q2 q3 q4 q5,o=.agg [q0,.bool c.brk,q1,q2,.bool c.act,q3,q4,.int .i64 c.ses.bB,.int .i64 c.ses.used,.int .i64 c.ses.bL,.int .i64 c.ses.fin,.bool c.told,q5]∧aV st (QJ c) [q0,q1,q2,q3,q4,q5] bs:=by
 unfold bP
 rw[sT]
 constructor
 · rintro⟨qs,rfl,x⟩
   have hl:=x.length
   replace x:aV st (QJ c) qs bs:=x
   match qs,hl with
   | [q0,q1,q2,q3,q4,q5],_=>exact⟨q0,q1,q2,q3,q4,q5,rfl,x⟩
 · rintro⟨q0,q1,q2,q3,q4,q5,rfl,x⟩
   exact⟨[q0,q1,q2,q3,q4,q5],rfl,x⟩
theorem H2{st:aA}{s:Sv}{o:AV}{bs:List Nat}:aS st (fJ s) o bs↔∃q,o=.agg [q,.int .i64 s.bB]∧aS st (.slice (s.cs.map bP)) q bs:=by
 unfold fJ
 rw[sT]
 constructor
 · rintro⟨qs,rfl,x⟩
   have hl:=x.length
   replace x:aV st [.slice (s.cs.map bP)] qs bs:=x
   match qs,hl with
   | [q],_=>
    refine⟨q,rfl,?_⟩
    generalize AV.slice (s.cs.map bP)=y at x ⊢
    simp only[aV] at x
    obtain⟨o,os',b1,b2,e,rfl,h,rfl,rfl⟩:=x
    obtain⟨rfl,_⟩:=pK e
    simpa using h
 · rintro⟨q,rfl,x⟩
   refine⟨[q],rfl,?_⟩
   show aV st [.slice (s.cs.map bP)] [q] bs
   generalize AV.slice (s.cs.map bP)=y at x ⊢
   simp only[aV]
   exact⟨q,[],bs,[],rfl,by simp,x,rfl,rfl⟩
abbrev sW (l:List Fr):Nat:=l.length+aH t7 l
def zA(s:Ss):Nat:=sV s.p+rL s.q
def fH(c:eF):Nat:=c.rest.length+sW c.wait+sV c.prog+zA c.ses+sW c.out
def eV(f:Fr):Nat:=2
def nY(f:Fr)(j:Int):Fr:=(j,mt (j+1))
def fY(c:eF):Nat:=c.rest.length+1+aH eV c.wait+aH fF c.prog+1+aH fF c.ses.p+aH Tm.dB c.ses.q+4+1+aH eV c.out
theorem Q7:∀l:List Fr,aH eV l≤2*sW l
 | []=>by simp [aH]
 | x::l=>by
  have:=Q7 l
  simp only[aH,eV,sW,a8] at this ⊢
  omega
theorem aXG(c:eF):fY c≤7+3*fH c:=by
 have h1:=Q7 c.wait
 have h2:=Q7 c.out
 have h3:=QG c.prog
 have h4:=QG c.ses.p
 have h5:=aMG c.ses.q
 unfold fY fH zA
 omega
theorem QI:∀l:List eF,aH fY l≤7*(l.length+aH fH l)
 | []=>by simp [aH]
 | x::l=>by
  have h1:=aXG x
  have h2:=QI l
  simp only[aH,a8] at h2 ⊢
  omega
end Go.AW
namespace Go.AW
open Go.Proofs.Tryz
abbrev a80:=zi aX (zi dD cC)
theorem aVJ(n:Int)(st:aA):aD prog 137 [.int .i64 n] st (fun r st'=>r=(vr n).av∧st'=st):=by
 refine aD.done ?_
 refine wF [1000000] 1 func137 ntmps137 rfl rfl ?_
 intro _
 simp only[aM,aB,seval,a80]
 intro b hb
 exact⟨by simp only[vr,bD,vP,y8,BS,ID,bR,bS],(aO.refl _).aC hb⟩
abbrev a81:=zi NM (zi aX (zi dD cC))
theorem aVF(n:Int)(st:aA):aD prog 163 [.int .i64 n] st (fun r st'=>r=(Tm.mk 2 n ⟨#[]⟩ []).av∧st'=st):=by
 refine aD.done ?_
 refine wF [1000000] 1 func163 ntmps163 rfl rfl ?_
 intro _
 simp only[aM,aB,seval,a81]
 intro b hb
 exact⟨by simp only[bD,vP,y8,BS,ID,bR,bS],(aO.refl _).aC hb⟩

def qX(x:UInt8):Bool:=decide (x.toNat=10)||(decide (32≤x.toNat)&&decide (x.toNat≤126))
def OB(s:ByteArray):Bool:=(sb s).all qX&&decide (s.size≤2000)
def mT(f:Fr):Bool:=(decide (1≤f.1)&&decide (f.1≤7))&&OB f.2
theorem aU4(x:UInt8)(st:aA):aD prog 102 [.int .u8 (x.toNat:Int)] st (fun r st'=>r=.bool (qX x)∧st'=st):=by
 refine wF [1000000] 1 func102 ntmps102 rfl rfl ?_
 intro _
 unfold qX
 by_cases b1:x.toNat=10
 case' pos=>have b1':((x.toNat:Int)=10)=True:=kI (by omega)
 case' neg=>have b1':((x.toNat:Int)=10)=False:=gO (by omega)
 all_goals
  by_cases b2:32≤x.toNat
  case' pos=>have b2':((32:Int)≤(x.toNat:Int))=True:=kI (by omega)
  case' neg=>have b2':((32:Int)≤(x.toNat:Int))=False:=gO (by omega)
 all_goals
  by_cases b3:x.toNat≤126
  case' pos=>have b3':((x.toNat:Int)≤126)=True:=kI (by omega)
  case' neg=>have b3':((x.toNat:Int)≤126)=False:=gO (by omega)
 all_goals try (exfalso;omega)
 all_goals
  simp only[b1',b2',b3',dU,dW,aB,seval]
  simp [b1,b2,b3]
abbrev aOP:=zi aX (zi cB (zi tB d9))
theorem aU6(s:ByteArray)(st:aA):aD prog 84 [.str s] st (fun r st'=>r=.bool (OB s)∧st'=st):=by
 have hsz:=BP s
 unfold OB
 refine wF [1000000] 1 func84 ntmps84 rfl rfl ?_
 simp only[cV,AV.fits,dE]
 intro hs
 have hm:maxLen=9223372036854775807:=by rfl
 simp only[aB,seval]
 refine dI (σ:=Unit) [1000000] [0] (sb s) (fun i _=>((sb s).drop i).all qX=(sb s).all qX) (fun i _=>[(2,.bool false),(3,.int .i64 i)]) (fun _ _=>st) (by decide +kernel) ⟨(),rfl,aP.mk (by simp only[aB,↓aW,seval])⟩ (fun i x _ hx hlt a7 hdr hinv=>?_) (fun _ hge hinv=>?_)
 case refine_2=>
  rw[iA,B9] at hinv
  rw[←hinv,gM,hsz]
  have hg:=gO (Int.lt_irrefl (s.size:Int))
  have h2:decide ((s.size:Int)≤2000)=decide (s.size≤2000):=by rw[wN];omega
  simp only[hg,h2,dW,aB,seval,aOP]
 rw[hdr,jK] at hinv
 have hix:=LX (P:=prog) (t:=9) B0 hx
 have hi:=kI (show(i:Int)<(s.size:Int) by omega)
 have hw:=aZ (n:=(i:Int)+1)
 simp only[hi,dU,hix,aB,seval,aOP]
 refine(aU4 x _).to ?_
 cases hb:qX x with
 | false=>
  rw[hb,jT] at hinv
  rw[←hinv,jT]
  simp only[kO,aB,seval]
 | true=>
  rw[hb,gM] at hinv
  simp only[fG,hw,aB,seval]
  exact⟨(),hinv,aP.mk (by simp only[aB,seval])⟩
abbrev UG:=zi aX (zi cB (zi d9 pI))
theorem Y3(f:Fr)(st:aA):aD prog 58 [bJ f] st (fun r st'=>r=.bool (mT f)∧st'=st):=by
 obtain⟨y,s⟩:=f
 have ht:=aU6 s
 rw[show mT (y,s)=((decide (1≤y)&&decide (y≤7))&&OB s) from rfl]
 simp only[bJ]
 refine wF [1000000] 1 func58 ntmps58 rfl rfl ?_
 intro _
 simp only[aB,seval,UG]
 refine cP (fun h1=>?_) (fun h1=>?_)
 case refine_2=>
  simp only[h1,aB,seval]
  simp at h1
  simp []
 simp only[h1,aB,seval,UG]
 refine cP (fun h2=>?_) (fun h2=>?_)
 case refine_2=>
  simp only[h2,aB,seval]
  simp at h1 h2
  simp []
 simp only[h2,aB,seval,UG]
 refine(ht _).to ?_
 simp only[aB,seval]
 try (simp at h1 h2;simp [h1,h2])
abbrev MV:=zi aX (zi cB (zi tB (zi a9V (zi d9 (zi dD pI)))))
theorem XZ(f:Fr)(st:aA):aD prog 43 [bJ f] st (fun r st'=>r=.bool (mT f)∧st'=st):=by
 obtain⟨y,s⟩:=f
 have hsz:=BP s
 have hwi:=sD y 1 7
 rw[show mT (y,s)=((decide (1≤y)&&decide (y≤7))&&((sb s).all qX&&decide (s.size≤2000))) from rfl]
 simp only[bJ]
 refine wF [1000000] 1 func43 ntmps43 rfl rfl ?_
 simp only[cV,AV.fits,dE,true_and]
 intro hs
 have hm:maxLen=9223372036854775807:=by rfl
 simp only[aB,seval,MV]
 refine dI (σ:=Unit) [1000000] [1,7] (sb s) (fun i _=>((sb s).drop i).all qX=(sb s).all qX) (fun i _=>[(2,.bool false),(8,.int .i64 i)]) (fun _ _=>st) (by decide +kernel) ⟨(),rfl,aP.mk (by simp only[aB,↓aW,seval])⟩ (fun i x _ hx hlt a7 hdr hinv=>?_) (fun _ hge hinv=>?_)
 case refine_2=>
  rw[iA,B9] at hinv
  rw[←hinv,gM,hsz]
  have hg:=gO (Int.lt_irrefl (s.size:Int))
  have h2:decide ((s.size:Int)≤2000)=decide (s.size≤2000):=by rw[wN];omega
  simp only[hg,dW,aB,seval,MV]
  refine(hwi _).to ?_
  cases hb:(decide (1≤y)&&decide (y≤7)) with
  | false=>simp only[jT,aB,seval]
  | true=>simp only[gM,h2,aB,seval,MV]
 rw[hdr,jK] at hinv
 have hix:=LX (P:=prog) (t:=9) B0 hx
 have hi:=kI (show(i:Int)<(s.size:Int) by omega)
 have hw:=aZ (n:=(i:Int)+1)
 simp only[hi,dU,hix,aB,seval,MV]
 by_cases b1:x.toNat=10
 case' pos=>have b1':((x.toNat:Int)=10)=True:=kI (by omega)
 case' neg=>have b1':((x.toNat:Int)=10)=False:=gO (by omega)
 all_goals
  by_cases b2:x.toNat<32
  case' pos=>have b2':((x.toNat:Int)<32)=True:=kI (by omega)
  case' neg=>have b2':((x.toNat:Int)<32)=False:=gO (by omega)
 all_goals
  by_cases b3:126<x.toNat
  case' pos=>have b3':((126:Int)<(x.toNat:Int))=True:=kI (by omega)
  case' neg=>have b3':((126:Int)<(x.toNat:Int))=False:=gO (by omega)
 all_goals try (exfalso;omega)
 all_goals
  simp only[b1',b2',b3',dU,dW,fG,kO,fX,hw,aB,seval]
  first
   | (rw[show qX x=true by unfold qX;simp;omega,gM] at hinv;exact⟨(),hinv,aP.mk (by simp only[aB,seval])⟩)
   | (rw[show qX x=false by unfold qX;simp;omega,jT] at hinv;rw[←hinv];simp)
end Go.AW
namespace Go.AW
def dgt(x:UInt8):Bool:=decide (48≤x.toNat)&&decide (x.toNat≤57)
def upp(x:UInt8):Bool:=decide (65≤x.toNat)&&decide (x.toNat≤90)
def isB(l:List UInt8)(n c:Nat):Bool:=match l[n]? with | some x=>decide (x.toNat=c) | none=>false
def SL(l:List UInt8)(n:Nat)(p:UInt8→Bool):Bool:=match l[n]? with | some x=>p x | none=>false
end Go.AW
namespace Go.AW
open Go.Proofs.Tryz

theorem B2{x:Int}{m:Nat}(h:x=(m:Int))(hm:m≤1099511627776):IntKind.wrap .i64 x=(m:Int):=by rw[wrap64 (by omega) (by omega)];exact h
def CY(l:List Bt):ByteArray:=⟨(l.map fun x=>UInt8.ofNat x.val).toArray⟩
def eO:List Bt→Nat
 | x::y::_=>x.val*256+y.val
 | _=>0
def nF(b:List Bt):Fr:=((((b[2]?).map fun x=>(x.val:Int)).getD 0),CY ((b.take (2+eO b)).drop 3))
def iU(b:List Bt):Int:=if b.length<2 then 0 else if eO b<1∨2001<eO b then -1 else if b.length<2+eO b then 0 else if mT (nF b)=true then((2+eO b:Nat):Int) else -1
def xE(b:List Bt):Fr:=if 0<iU b then nF b else(0,⟨#[]⟩)
theorem HY{b:List Bt}{n:Int}(h:iU b=n)(h':n≤0):xE b=(0,⟨#[]⟩):=by
 unfold xE
 rw[aK (by omega)]
theorem L6{b:List Bt}(h:b.length<2):iU b=0:=by
 unfold iU
 rw[aN h]
theorem BH{b:List Bt}(h:¬b.length<2)(h1:eO b<1∨2001<eO b):iU b= -1:=by
 unfold iU
 rw[aK h,aN h1]
theorem L7{b:List Bt}(h:¬b.length<2)(h1:¬(eO b<1∨2001<eO b))(h2:b.length<2+eO b):iU b=0:=by
 unfold iU
 rw[aK h,aK h1,aN h2]
theorem L8{b:List Bt}(h:¬b.length<2)(h1:¬(eO b<1∨2001<eO b))(h2:¬b.length<2+eO b):iU b=if mT (nF b)=true then((2+eO b:Nat):Int) else -1:=by
 unfold iU
 rw[aK h,aK h1,aK h2]
theorem ZV(x:Bt):pM prog 5 3 (.int .u8 (x.val:Int))=some (.int .i64 (x.val:Int)):=by
 have h:=x.isLt
 have hw:=B2 (x:=(x.val:Int)) (m:=x.val) rfl (by omega)
 unfold pM
 simp only[VL,qI,hw]
theorem XI:∀l:List Bt,bytesOf (l.map bX)=some (l.map fun x=>UInt8.ofNat x.val)
 | []=>rfl
 | x::l=>by
  simp only[bR,bX,bytesOf]
  rw[XI l]
  try rfl
theorem ZU(l:List Bt):pM prog 25 9 (.slice (l.map bX))=some (.str (CY l)):=by
 unfold pM
 simp only[I1,B0,XI]
 rfl
theorem aQX(l:List Bt)(k:Nat):xT (l.map bX) k 1=true:=by
 unfold xT
 rw[kD]
 cases l[k]?<;>rfl
theorem aN1{φ:AF}{x y:Operand}{l:List Bt}{k m:Nat}(hx:φ.eval x=.int .i64 (k:Int))(hy:φ.eval y=.int .i64 (m:Int))(h1:k≤m)(h2:m≤l.length):iB prog φ 25 (.slice (l.map bX)) (some x) (some y) none=some (.slice (((l.take m).drop k).map bX)):=by
 have b1:eA φ none (l.map bX).length (l.map bX).length=some (l.map bX).length:=rfl
 have b2:eA φ (some y) (l.map bX).length (l.map bX).length=some m:=by
  simp only[eA,hy,aE]
  rw[aN ⟨by omega,by omega⟩,kB]
 have b3:eA φ (some x) 0 m=some k:=by
  simp only[eA,hx]
  rw[aN ⟨by omega,by omega⟩,kB]
 unfold iB pP
 rw[aK (by simp [sR])]
 simp only[jC,b1,b2,b3,aQX]
 simp
theorem aN2{φ:AF}{x:Operand}{l:List Bt}{k:Nat}(hx:φ.eval x=.int .i64 (k:Int))(h1:k≤l.length):iB prog φ 25 (.slice (l.map bX)) (some x) none none=some (.slice ((l.drop k).map bX)):=by
 have b1:eA φ none (l.map bX).length (l.map bX).length=some (l.map bX).length:=rfl
 have b3:eA φ (some x) 0 (l.map bX).length=some k:=by
  simp only[eA,hx,aE]
  rw[aN ⟨by omega,by omega⟩,kB]
 unfold iB pP
 rw[aK (by simp [sR])]
 simp only[jC,b1,b3,aQX]
 rw[eD]
 simp
abbrev uQ:=zi aX (zi cB (zi tB (zi d9 (zi iQ (zi dD pI)))))
theorem YD(b:List Bt)(st:aA):aD prog 61 [.slice (b.map bX)] st (fun r st'=>r=.tup [bJ (xE b),.int .i64 (iU b)]∧st'=st):=by
 refine aD.oS ?_
 refine wF [1000000,2] 1 func61 ntmps61 rfl rfl ?_
 simp only[cV,AV.fits,dE,aE]
 intro ⟨hl,_⟩
 simp only[aE,aB,seval,uQ]
 intro b2 hb2
 have hD:=fun o=>(aO.refl st).aC (o:=o) hb2
 by_cases h0:b.length<2
 case pos=>
  have h0':=kI (show(b.length:Int)<2 by omega)
  rw[HY (L6 h0) (by omega),L6 h0]
  simp only[h0',aA.aJ,bJ,aM,aB,seval,uQ]
  exact hD _
 have h0':=gO (show ¬(b.length:Int)<2 by omega)
 obtain⟨x,hx⟩:∃x,b[0]?=some x:=⟨_,eK (by omega)⟩
 obtain⟨y,hy⟩:∃y,b[1]?=some y:=⟨_,eK (by omega)⟩
 have hlf:eO b=x.val*256+y.val:=by
  match b,hx,hy with
  | x'::y'::_,hx,hy=>cases hx;cases hy;rfl
 have bC3:=x.isLt
 have bC5:=y.isLt
 have a2D:dP prog 25 (.slice (b.map bX)) (.int .i64 0)=some (.pptr (bX x)):=bH (av:=bX) (i:=0) jC hx rfl
 have a2E:dP prog 25 (.slice (b.map bX)) (.int .i64 1)=some (.pptr (bX y)):=bH (av:=bX) (i:=1) jC hy rfl
 have hw1:=B2 (x:=(x.val:Int)) (m:=x.val) rfl (by omega)
 have hw2:=B2 (x:=(x.val:Int)*256) (m:=x.val*256) (by omega) (by omega)
 have hw3:=B2 (x:=(y.val:Int)) (m:=y.val) rfl (by omega)
 have hw4:=B2 (x:=((x.val*256:Nat):Int)+(y.val:Int)) (m:=eO b) (by rw[hlf];omega) (by omega)
 have bCX:eO b<65536:=by omega
 generalize hL:eO b=L at *
 have hw5:=B2 (x:=2+(L:Int)) (m:=2+L) (by omega) (by omega)
 simp only[h0',bJ,aB,seval]
 refine wP [(0,1),(1,1),(5,1),(6,1),(2,2),(3,1),(4,1),(7,2),(8,1),(9,1),(10,1)] [0,1,5,6,2,3,4,7,8,9,10] mixed ?_
 simp only[a2D,a2E,pM,bX,hw1,hw2,hw3,hw4,aB,seval,uQ]
 by_cases h1:L<1
 case pos=>
  have h1':=kI (show(L:Int)<1 by omega)
  rw[HY (BH h0 (by omega)) (by omega),BH h0 (by omega)]
  simp only[h1',dU,aM,aA.aJ,aB,seval,uQ]
  exact hD _
 have h1':=gO (show ¬(L:Int)<1 by omega)
 by_cases h2:2001<L
 case pos=>
  have h2':=kI (show(2001:Int)<(L:Int) by omega)
  rw[HY (BH h0 (by omega)) (by omega),BH h0 (by omega)]
  simp only[h1',h2',dU,dW,fX,aM,aA.aJ,aB,seval,uQ]
  exact hD _
 have h2':=gO (show ¬(2001:Int)<(L:Int) by omega)
 by_cases h3:b.length<2+L
 case pos=>
  have h3':=kI (show(b.length:Int)<((2+L:Nat):Int) by omega)
  rw[HY (L7 h0 (by omega) (by omega)) (by omega),L7 h0 (by omega) (by omega)]
  simp only[h1',h2',h3',dU,dW,fX,aE,aM,hw5,aA.aJ,aB,seval,uQ]
  exact hD _
 have h3':=gO (show ¬(b.length:Int)<((2+L:Nat):Int) by omega)
 have hN:=L8 h0 (by omega) (by omega)
 obtain⟨z,hz⟩:∃z,b[2]?=some z:=⟨_,eK (by omega)⟩
 have RJ:dP prog 25 (.slice (b.map bX)) (.int .i64 2)=some (.pptr (bX z)):=bH (av:=bX) (i:=2) jC hz rfl
 have bC6:=z.isLt
 have hw6:=B2 (x:=(z.val:Int)) (m:=z.val) rfl (by omega)
 have hff:nF b=((z.val:Int),CY ((b.take (2+L)).drop 3)):=by unfold nF;rw[hz,hL];try rfl
 have hv:=fun st=>Y3 (nF b) st
 have hsl:=fun φ h1 h2=>aN1 (φ:=φ) (x:=.const (.int .i64 3)) (y:=.tmp 39) (l:=b) (k:=3) (m:=2+L) h1 h2 (by omega) (by omega)
 have hcv:=ZU ((b.take (2+L)).drop 3)
 simp only[h1',h2',dW,fX,aE,hw5,aB,seval,uQ]
 simp only[h3',aB,seval]
 refine wX [(0,1),(1,1),(2,1),(3,1),(4,1),(5,1),(6,1),(7,1),(8,1),(9,1),(10,0),(11,2)] [0,1,2,3,4,5,6,7,8,9] dJ mixed rfl dF ?_
 simp only[RJ,ZV,bX,hw5,aB,seval,uQ]
 rw[hsl _ (by rfl) (by simp only[aB,seval])]
 simp only[aM,hcv,aA.aJ,dR,aB,seval,uQ]
 intro b5 hb5
 refine⟨dF,?_⟩
 have hne:b2≠b5:=fun h=>by rw[h,aA.aJ] at hb5;cases hb5
 have h5:st b5=none:=by rw[aA.aF _ _ hne.symm] at hb5;exact hb5
 have hDD:=fun o o'=>((aO.refl st).aC (o:=o) hb2).aC (o:=o') h5
 have e2:∀o o',((st.aC b2 o).aC b5 o') b2=some o:=fun o o'=>by rw[aA.aF _ _ hne,aA.aJ]
 have e3:∀o o' o'',((st.aC b2 o).aC b5 o').aC b2 o''=(st.aC b2 o'').aC b5 o':=fun o o' o''=>by rw[aA.pJ _ _ _ hne.symm,dR]
 rw[hff] at hN hv
 rw[hL] at hN
 simp only[bJ] at hv
 refine(hv _).to ?_
 cases hfo:mT ((z.val:Int),CY ((b.take (2+L)).drop 3)) with
 | false=>
  rw[hfo,aK (by simp)] at hN
  rw[HY hN (by omega),hN]
  simp only[kO,aM,e2,e3,aB,seval,uQ]
  exact hDD _ _
 | true=>
  rw[hfo,aN rfl] at hN
  rw[show xE b=nF b by unfold xE;rw[aN (by omega)],hN,hff]
  simp only[fG,aM,hw5,e2,e3,aB,seval,uQ]
  exact hDD _ _
mutual
def Tm.sh(m:Int):Tm→Tm
 | .mk k n s ts=>.mk k (if k=1 then IntKind.i64.wrap (n+m) else n) s (N3 m ts)
def N3(m:Int):List Tm→List Tm
 | []=>[]
 | t::ts=>t.sh m::N3 m ts
end
theorem aQB(m:Int):∀ts:List Tm,N3 m ts=ts.map (Tm.sh m)
 | []=>rfl
 | t::ts=>by simp only[N3,bR,aQB m ts]
theorem Tm.TQ(m k n:Int)(s:ByteArray)(ts:List Tm):(Tm.mk k n s ts).sh m=.mk k (if k=1 then IntKind.i64.wrap (n+m) else n) s (ts.map (Tm.sh m)):=by simp only[Tm.sh,aQB]
abbrev qH:=zi aX (zi d9 (zi cI cC))
theorem PY(m:Int):∀(t:Tm) (st:aA),t.small=true→aD prog 155 [t.av,.int .i64 m] st (fun r st'=>r=(t.sh m).av∧st'=st)
 | .mk k n s ts,st,hsm=>by
  obtain⟨hlen,sP⟩:=Tm.rJ hsm
  have IH:=fun(x:Tm) (hx:x∈ts) st=>PY m x st (sP x hx)
  refine aD.oS (aD.fin ?_)
  simp only[bD]
  refine wF [1000000,5] 2 func155 ntmps155 rfl rfl ?_
  simp only[cV,AV.fits,dE,aE]
  intro ⟨_,_,_,hl,_⟩
  simp only[aM,aB,↓aW,seval,qH]
  intro b2 hb2 c hc
  have hne:c≠b2:=by rintro rfl;rw[aA.aJ] at hc;cases hc
  have hn2:st c=none:=by rw[aA.aF st _ hne] at hc;exact hc
  have q7:b2≠c:=dA hne
  have hS:(st.aC b2 (.cells [AV.int .i64 0,AV.int .i64 0,AV.str ⟨#[]⟩,AV.fslice []])) b2≠none:=by rw[aA.aJ];simp
  refine aQ (fun h=>?_) (fun h=>?_)
  · simp only[bM] at h
    simp only[aM,dR,aB,seval,qH]
    refine dI (σ:=Nat) [1000000] [1,2,4,5] ts (fun i b=>(((ts.take i).map (Tm.sh m)).map Tm.av≠[]→(aA.aC (st.aC b2 (.cells [AV.int .i64 0,AV.int .i64 0,AV.str ⟨#[]⟩,AV.fslice []])) c (.cells ([AV.int .i64 k,AV.int .i64 (IntKind.i64.wrap (n+m)),AV.str s]++ [bQ 4 b (((ts.take i).map (Tm.sh m)).map Tm.av)]))) b=none)) (fun i b=>[(6,.int .i64 i)]) (fun i b=>lH (st.aC b2 (.cells [AV.int .i64 0,AV.int .i64 0,AV.str ⟨#[]⟩,AV.fslice []])) c b [AV.int .i64 k,AV.int .i64 (IntKind.i64.wrap (n+m)),AV.str s] (((ts.take i).map (Tm.sh m)).map Tm.av)) (by decide +kernel)
     ⟨0,fun h=>absurd rfl h,aP.mk (by simp only[aB,↓aW,seval])⟩ (fun i x b hx hlt a7 hdr hinv=>?_) (fun b hge hinv=>?_)
    case refine_1=>
     have hw:=aZ (n:=(i:Int)+1)
     have dO:(((ts.take i).map (Tm.sh m)).map Tm.av).length=i:=by simp only[aE,dZ];omega
     have htk:(ts.take (i+1)).map (Tm.sh m)=(ts.take i).map (Tm.sh m)++ [(Tm.sh m) x]:=by rw[fN,hx];simp
     have hbo:=mF hinv
     simp only[aE,a7,aB,seval,qH]
     refine wP [(0,1),(2,1),(4,1),(7,1),(1,2),(3,2),(5,1),(6,2),(8,2),(9,1),(10,0),(11,1),(12,0)] [0,2,4,7,1,3,5,6,8,9,11] mixed ?_
     simp only[bH (av:=Tm.av) bY hx (aT x),cD,aT,hbo,rZ,jW,aB,seval,qH]
     refine iD (IH x (cH hx) _) ?_
     simp only[cD,aT,Tm.fP,jW,aB,seval,qH]
     refine gA bY lC lE rfl rfl (g8 (aT _) (Tm.e9 _)) (iX _) hinv (by simp only[dO,a8,bG];omega) (by simp only[dO,a8,bG];omega) (fun b' hb'=>?_)
     rw[show(((ts.take i).map (Tm.sh m)).map Tm.av)++ [((Tm.sh m) x).av]=((ts.take (i+1)).map (Tm.sh m)).map Tm.av by rw[htk];simp] at hb' ⊢
     obtain⟨g1,g2,g3⟩:=xB hb'
     simp only[gR,eE] at g1 g3
     simp only[g3,nS,iK,aM,g1,hw,aM,aB,seval,qH]
     exact⟨b',g2,aP.mk (by simp only[aB,seval])⟩
    have hbo:=mF hinv
    rw[eD] at hinv hbo ⊢
    simp only[aE,hge,aB,seval,qH]
    simp only[hbo,aM,aB,seval,qH]
    have h1:=oA hinv hS q7
    rw[aA.aJ] at h1
    simp only[h1,iK,aB,seval]
    obtain⟨h2,h3⟩:=vL (o:=.cells [AV.int .i64 k,AV.int .i64 (IntKind.i64.wrap (n+m)),AV.str s,bQ 4 b ((ts.map (Tm.sh m)).map Tm.av)]) hinv hS q7
    refine⟨b,_,_,h2,h3,tC _,⟨4,iX _⟩,?_,(((aO.refl _).aC hb2).aC hn2).aC hb2⟩
    simp only[gJ,bR,bS,gW,pV,nT,←bD]
    rw[Tm.TQ,aN h]
  · simp only[cL] at h
    simp only[aB,seval]
    refine dI (σ:=Nat) [1000000] [1,2,4,5] ts (fun i b=>(((ts.take i).map (Tm.sh m)).map Tm.av≠[]→(aA.aC (st.aC b2 (.cells [AV.int .i64 0,AV.int .i64 0,AV.str ⟨#[]⟩,AV.fslice []])) c (.cells ([AV.int .i64 k,AV.int .i64 (n),AV.str s]++ [bQ 4 b (((ts.take i).map (Tm.sh m)).map Tm.av)]))) b=none)) (fun i b=>[(6,.int .i64 i)]) (fun i b=>lH (st.aC b2 (.cells [AV.int .i64 0,AV.int .i64 0,AV.str ⟨#[]⟩,AV.fslice []])) c b [AV.int .i64 k,AV.int .i64 (n),AV.str s] (((ts.take i).map (Tm.sh m)).map Tm.av)) (by decide +kernel)
     ⟨0,fun h=>absurd rfl h,aP.mk (by simp only[aB,↓aW,seval])⟩ (fun i x b hx hlt a7 hdr hinv=>?_) (fun b hge hinv=>?_)
    case refine_1=>
     have hw:=aZ (n:=(i:Int)+1)
     have dO:(((ts.take i).map (Tm.sh m)).map Tm.av).length=i:=by simp only[aE,dZ];omega
     have htk:(ts.take (i+1)).map (Tm.sh m)=(ts.take i).map (Tm.sh m)++ [(Tm.sh m) x]:=by rw[fN,hx];simp
     have hbo:=mF hinv
     simp only[aE,a7,aB,seval,qH]
     refine wP [(0,1),(2,1),(4,1),(7,1),(1,2),(3,2),(5,1),(6,2),(8,2),(9,1),(10,0),(11,1),(12,0)] [0,2,4,7,1,3,5,6,8,9,11] mixed ?_
     simp only[bH (av:=Tm.av) bY hx (aT x),cD,aT,hbo,rZ,jW,aB,seval,qH]
     refine iD (IH x (cH hx) _) ?_
     simp only[cD,aT,Tm.fP,jW,aB,seval,qH]
     refine gA bY lC lE rfl rfl (g8 (aT _) (Tm.e9 _)) (iX _) hinv (by simp only[dO,a8,bG];omega) (by simp only[dO,a8,bG];omega) (fun b' hb'=>?_)
     rw[show(((ts.take i).map (Tm.sh m)).map Tm.av)++ [((Tm.sh m) x).av]=((ts.take (i+1)).map (Tm.sh m)).map Tm.av by rw[htk];simp] at hb' ⊢
     obtain⟨g1,g2,g3⟩:=xB hb'
     simp only[gR,eE] at g1 g3
     simp only[g3,nS,iK,aM,g1,hw,aM,aB,seval,qH]
     exact⟨b',g2,aP.mk (by simp only[aB,seval])⟩
    have hbo:=mF hinv
    rw[eD] at hinv hbo ⊢
    simp only[aE,hge,aB,seval,qH]
    simp only[hbo,aM,aB,seval,qH]
    have h1:=oA hinv hS q7
    rw[aA.aJ] at h1
    simp only[h1,iK,aB,seval]
    obtain⟨h2,h3⟩:=vL (o:=.cells [AV.int .i64 k,AV.int .i64 (n),AV.str s,bQ 4 b ((ts.map (Tm.sh m)).map Tm.av)]) hinv hS q7
    refine⟨b,_,_,h2,h3,tC _,⟨4,iX _⟩,?_,(((aO.refl _).aC hb2).aC hn2).aC hb2⟩
    simp only[gJ,bR,bS,gW,pV,nT,←bD]
    rw[Tm.TQ,aK h]
termination_by t=>SizeOf.sizeOf t
decreasing_by have:=List.sizeOf_lt_of_mem hx;simp only[Tm.mk.sizeOf_spec];omega

end Go.AW
namespace Go.AW
def bAZ(nm:ByteArray):Bool:=decide (nm=⟨#[105,115]⟩)||decide (nm=⟨#[109,111,100]⟩)
end Go.AW
namespace Go.AW
open Go.Proofs.Tryz




end Go.AW
namespace Go.AW
def sJ:Nat→Nat→ByteArray→ByteArray
 | 0,_,acc=>acc
 | f+1,n,acc=>if 9<n then sJ f (n / 10) (⟨#[UInt8.ofNat (48+n % 10)]⟩++acc) else⟨#[UInt8.ofNat (48+n)]⟩++acc
def tU(n:Int):ByteArray:=if n<0 then⟨#[45]⟩++sJ 20 (-n).toNat ⟨#[]⟩ else sJ 20 n.toNat ⟨#[]⟩
def a5B(n:Int):ByteArray:=⟨#[UInt8.ofNat (65+n.toNat)]⟩
def aM5(t:Tm):Bool:=decide (t.k=3)&&(decide (t.s=⟨#[46]⟩)&&decide (t.ts.length=2))
def a57(t:Tm):Bool:=decide (t.k=3)&&(decide (t.s=⟨#[91,93]⟩)&&decide (t.ts.length=0))
def aLV(t:Tm):Bool:=decide (t.k=3)&&(decide (t.ts.length=2)&&decide (0<jP t.s))
def aN6(t:Tm):Bool:=decide (t.k=3)&&(decide (t.ts.length=0)&&decide (0<jP t.s))
def aR0(t:Tm):Bool:=decide (t.k=3)&&decide (0<t.ts.length)
def vK(t:Tm)(i:Nat):Tm:=t.ts.getD i a9W
 where a9W:Tm:=.mk 0 0 ⟨#[]⟩ []
def PN(T:Tm→ByteArray):List Tm→ByteArray
 | []=>⟨#[]⟩
 | x::xs=>xs.foldl (fun o y=>(o++⟨#[44]⟩)++T y) (⟨#[]⟩++T x)
def spine:Nat→Tm→List Tm×Tm
 | 0,t=>([],t)
 | n+1,t=>if aM5 t then(vK t 0::(spine n (vK t 1)).1,(spine n (vK t 1)).2) else([],t)
def a8M(nm:ByteArray):ByteArray:=if bAZ nm then(⟨#[32]⟩++nm)++⟨#[32]⟩ else nm
def a65(l:List UInt8):Bool:=SL l 0 letter||(SL l 0 dgt||(SL l 0 upp||(isB l 0 91||isB l 0 40)))
def J5(T:Tm→ByteArray)(t:Tm)(lv:Nat):ByteArray:=if aLV t&&decide (lv<jP t.s) then(⟨#[40]⟩++T t)++⟨#[41]⟩ else T t
def a45(T:Tm→ByteArray)(t:Tm)(lv:Nat):ByteArray:=if aN6 t then(⟨#[40]⟩++T t)++⟨#[41]⟩ else J5 T t lv
def a7V(T:Tm→ByteArray)(t:Tm)(lv:Nat):ByteArray:=if aN6 t|| !a65 (sb (J5 T t lv)) then(⟨#[40]⟩++J5 T t lv)++⟨#[41]⟩ else J5 T t lv
def a5C(T:Tm→ByteArray)(p:List Tm×Tm):ByteArray:=if a57 p.2 then(⟨#[91]⟩++PN T p.1)++⟨#[93]⟩ else(((⟨#[91]⟩++PN T p.1)++⟨#[124]⟩)++T p.2)++⟨#[93]⟩
def a43(t:Tm):ByteArray:=if t.k=1 then a5B t.n else if t.k=2 then tU t.n else t.s
def lvl(n:Nat):Nat:=if n=3 then 2 else n
def tx:Nat→Tm→ByteArray
 | 0,_=>⟨#[]⟩
 | n+1,t=>if aM5 t then a5C (tx n) (spine n t) else if aLV t then(a45 (tx n) (vK t 0) (lvl (jP t.s))++a8M t.s)++a7V (tx n) (vK t 1) (jP t.s - 1)
  else if aR0 t then((t.s++⟨#[40]⟩)++PN (tx n) t.ts)++⟨#[41]⟩ else a43 t
theorem J2(a b:ByteArray):(a++b).size=a.size+b.size:=ByteArray.size_append
theorem KM:∀(f n:Nat) (acc:ByteArray),(sJ f n acc).size≤f+acc.size
 | 0,n,acc=>by simp [sJ]
 | f+1,n,acc=>by
  unfold sJ
  split
  · refine nN (KM f _ _) ?_
    rw[J2]
    show f+(1+acc.size)≤_
    omega
  · rw[J2]
    show 1+acc.size≤_
    omega
theorem a54{s:ByteArray}(h:BG s=true):1≤s.size∧s.size≤6:=by
 unfold BG at h
 rw[tF] at h
 rcases h with h | h
 · simp only[uG,cY,bM] at h
   omega
 · rw[List.any_eq_true] at h
   obtain⟨x,hx,h⟩:=h
   rw[bM] at h
   subst h
   revert hx
   revert s
   decide
end Go.AW
namespace Go.AW
open Go.Proofs.Tryz




end Go.AW
namespace Go.AW

end Go.AW
namespace Go.AW
open Go.Proofs.Tryz



end Go.AW
namespace Go.AW

end Go.AW
namespace Go.AW
open Go.Proofs.Tryz


end Go.AW
namespace Go.AW
section
variable {h:bE} {st:aA}
end


end Go.AW
namespace Go.AW
open Go.Proofs.Tryz

end Go.AW
namespace Go.AW

theorem HR:∀t:Tm,t.cv=true→t.aL vr=t:=by
 intro t
 induction t using Tm.ind with
 | h k n s ts ih=>
  intro h
  obtain⟨h1,h2⟩:=Tm.oR.1 h
  by_cases hk:k=1
  · obtain⟨rfl,rfl⟩:=h1 hk
    rw[Tm.mG vr hk,hk];try rfl
  · rw[Tm.kA vr hk]
    congr 1
    have:∀l:List Tm,(∀x∈l,x∈ts)→l.map (Tm.aL vr)=l:=by
     intro l
     induction l with
     | nil=>intro _;rfl
     | cons x l ihl=>intro hl;rw[bR,ih x (hl x (by simp)) (h2 x (hl x (by simp))),ihl fun y hy=>hl y (by simp [hy])]
    exact this ts fun _ h=>h
theorem a5U{f g:Int→Tm}:∀t:Tm,t.aL f=t.aL g→∀v∈t.vl,f v=g v:=by
 intro t
 induction t using Tm.ind with
 | h k n s ts ih=>
  intro h v hv
  by_cases hk:k=1
  · rw[Tm.mG f hk,Tm.mG g hk] at h
    rw[Tm.mZ hk] at hv
    simp only[cG,cX,dG] at hv
    rw[hv];exact h
  · rw[Tm.kA f hk,Tm.kA g hk] at h
    injection h with _ _ _ h4
    obtain⟨x,hx,hvx⟩:=(Tm.kY hk).1 hv
    obtain⟨i,hi⟩:=List.mem_iff_getElem?.1 hx
    have:=iT (fun l=>l[i]?) h4
    simp only[kD,hi,qM,Option.some.injEq] at this
    exact ih x hx this v hvx
def H7(t:Tm):Tm:=t.aL fun v=>vr (eN v (t.vars []) 0)
def kV(l:List Tm):List Tm:=l.map fun t=>t.aL fun v=>vr (eN v (cA l []) 0)
theorem aQT{D:Int→Prop}{h:Int→Int}(inj:∀v w,D v→D w→h v=h w→v=w){f:Int→Tm}(hf:∀v,D v→f v=vr (h v)) :
 ∀(t:Tm),t.wf=true→(∀v∈t.vl,D v)→∀l:List Int,(∀v∈l,D v)→(t.aL f).vars (l.map h)=(t.vars l).map h∧∀v∈t.vars l,D v:=by
 intro t
 induction t using Tm.ind with
 | h k n s ts ih=>
  intro hw hD l hl
  obtain⟨hk1,hws⟩:=Tm.VQ hw
  by_cases hk:k=1
  · obtain rfl:=hk1 hk
    have hDn:D n:=hD n (by rw[Tm.mZ hk];simp)
    have fZ:h n∈l.map h↔n∈l:=by
     rw[cF]
     exact⟨fun⟨m,hm,e⟩=>by rw[←inj m n (hl m hm) hDn e];exact hm,fun hm=>⟨n,hm,rfl⟩⟩
    rw[Tm.mG f hk,hf n hDn,vr,Tm.vars,Tm.vars]
    simp only[cA,hk,true_and,fZ]
    split
    · exact⟨by simp,fun v hv=>by
       rcases eL.1 hv with hv | hv
       · exact hl v hv
       · simp only[cG,cX,dG] at hv;rw[hv];exact hDn⟩
    · exact⟨rfl,hl⟩
  · rw[Tm.kA f hk,Tm.vars,Tm.vars,aK (fun h=>hk h.1),aK (fun h=>hk h.1)]
    have:∀xs:List Tm,(∀x∈xs,x∈ts)→∀l:List Int,(∀v∈l,D v)→cA (xs.map (Tm.aL f)) (l.map h)=(cA xs l).map h∧∀v∈cA xs l,D v:=by
     intro xs
     induction xs with
     | nil=>intro _ l hl;exact⟨rfl,hl⟩
     | cons x xs ihx=>
      intro hs l hl
      have hx:=hs x (by simp)
      obtain⟨e1,e2⟩:=ih x hx (hws x hx) (fun v hv=>hD v ((Tm.kY hk).2 ⟨x,hx,hv⟩)) l hl
      simp only[bR,cA]
      rw[e1]
      exact ihx (fun y hy=>hs y (by simp [hy])) _ e2
    exact this ts (fun _ h=>h) l hl
theorem SJ{D:Int→Prop}{h:Int→Int}(inj:∀v w,D v→D w→h v=h w→v=w)(v:Int)(hv:D v):∀(l:List Int) (i:Int),(∀w∈l,D w)→eN (h v) (l.map h) i=eN v l i
 | [],i,_=>rfl
 | x::l,i,hl=>by
  simp only[bR,eN]
  by_cases e:v=x
  · rw[aN e,aN (by rw[e])]
  · rw[aK e,aK (fun e2=>e (inj v x hv (hl x (by simp)) e2))]
    exact SJ inj v hv l (i+1) fun w hw=>hl w (by simp [hw])
theorem variant{x y:Tm}{f g:Int→Tm}(hx:x.cv=true)(hf:∀v∈x.vl,(f v).cv=true)(e1:y=x.aL f)(e2:x=y.aL g):H7 x=H7 y:=by
 have h1:∀v∈x.vl,(f v).aL g=vr v:=by
  have:x.aL (fun v=>(f v).aL g)=x.aL vr:=by rw[←uI,←e1,←e2,HR x hx]
  exact a5U x this
 have h2:∀v∈x.vl,f v=vr (f v).n:=fun v hv=>by
  refine Tm.aXN (hf v hv) (zS fun hk=>?_)
  have:=h1 v hv
  rw[Tm.rF g hk] at this
  have:=iT Tm.k this
  exact hk this
 have inj:∀v w,v∈x.vl→w∈x.vl→(f v).n=(f w).n→v=w:=fun v w hv hw e=>by
  have:=h1 v hv
  rw[h2 v hv,e,←h2 w hw,h1 w hw] at this
  have:=iT Tm.n this
  exact this.symm
 obtain⟨a1,a2⟩:=aQT (D:=fun v=>v∈x.vl) (h:=fun v=>(f v).n) inj (f:=f) h2 x (Tm.tT x hx) (fun _ h=>h) [] (fun v h=>by cases h)
 have a1':y.vars []=(x.vars []).map fun v=>(f v).n:=by rw[e1];exact a1
 unfold H7
 conv=>rhs;rw[e1]
 rw[uI]
 refine o7 x fun v hv=>?_
 have:(fun w=>vr (eN w ((x.aL f).vars []) 0))=fun w=>vr (eN w (y.vars []) 0):=by rw[←e1]
 rw[h2 v hv,uJ,←e1,a1',SJ (D:=fun v=>v∈x.vl) (h:=fun v=>(f v).n) inj v hv (x.vars []) 0 a2]
def qT:List ByteArray:=[⟨#[43]⟩,⟨#[45]⟩,⟨#[42]⟩,⟨#[47,47]⟩,⟨#[109,111,100]⟩]
def sH:List ByteArray:=[⟨#[60]⟩,⟨#[62]⟩,⟨#[61,60]⟩,⟨#[62,61]⟩,⟨#[61,58,61]⟩]
def gE(l:List ByteArray)(s:ByteArray):Bool:=l.any fun x=>decide (s=x)
def iV(n:Int):Int×Int:=if -999≤n∧n≤999 then(n,0) else(0,5)
def qV(a b:Int):Int:=if a.tmod b≠0∧decide (a.tmod b<0)≠decide (b<0) then a.tmod b+b else a.tmod b
def r9(s:ByteArray)(a b:Int):Int×Int:=
 if s=⟨#[43]⟩ then iV (a+b) else if s=⟨#[45]⟩ then iV (a - b) else if s=⟨#[42]⟩ then iV (a*b) else if b=0 then(0,4) else if s=⟨#[109,111,100]⟩ then(qV a b,0) else(a.tdiv b,0)
def both(f:Int→Int→Int×Int)(x y:Int×Int):Int×Int:=if x.2≠0 then(0,x.2) else if y.2≠0 then(0,y.2) else f x.1 y.1
def two(f:Int→Int→Int×Int):List (Int×Int)→Int×Int
 | [x,y]=>both f x y
 | _=>(0,3)
mutual
def Tm.ev:Tm→Int×Int
 | .mk k n s ts=>if k=2 then(n,0) else if k=1 then(0,2) else if gE qT s=true then two (r9 s) (NW ts) else(0,3)
def NW:List Tm→List (Int×Int)
 | []=>[]
 | t::ts=>t.ev::NW ts
end
theorem aP4:∀ts:List Tm,NW ts=ts.map Tm.ev
 | []=>rfl
 | t::ts=>by simp only[NW,bR,aP4 ts]
theorem Tm.yK(k n:Int)(s:ByteArray)(ts:List Tm):(Tm.mk k n s ts).ev=if k=2 then(n,0) else if k=1 then(0,2) else if gE qT s=true then two (r9 s) (ts.map Tm.ev) else(0,3):=by simp only[Tm.ev,aP4]
theorem NT(a b:Int)(hb:b≠0):(0<b→-b<a.tmod b∧a.tmod b<b)∧(b<0→b<a.tmod b∧a.tmod b< -b):=by
 have h1:=OP (-a) (b:=b)
 have h2:=OP a (b:=b)
 have h3:=OP (-a) (b:= -b)
 have h4:=OP a (b:= -b)
 rw[Int.tmod_neg] at h3 h4
 rw[Int.neg_tmod] at h1 h3
 constructor
 · intro h;exact⟨by have:=h1 h;omega,h2 h⟩
 · intro h;exact⟨by have:=h3 (by omega);omega,h4 (by omega)⟩
theorem tdiv_le(a b:Int)(ha: -999≤a∧a≤999): -999≤a.tdiv b∧a.tdiv b≤999:=by
 have:(a.tdiv b).natAbs≤a.natAbs:=by rw[Int.natAbs_tdiv];exact Nat.div_le_self _ _
 omega
theorem TH(n:Int): -999≤(iV n).1∧(iV n).1≤999:=by unfold iV;split<;>simp_all
theorem aKD(a b:Int)(ha: -999≤a∧a≤999)(hb: -999≤b∧b≤999)(h0:b≠0): -999≤qV a b∧qV a b≤999:=by
 have h1:=NT a b h0
 unfold qV
 split
 · rename_i h
   have h2:=h.2
   by_cases hb':b<0
   · have:¬a.tmod b<0:=by intro hc;simp [hb',hc] at h2
     have:=h1.2 hb'
     omega
   · have:a.tmod b<0:=by
      apply zS;intro hc;simp [hb',hc] at h2
     have:=h1.1 (by omega)
     omega
 · rcases Int.lt_or_gt_of_ne h0 with h | h
   · have:=h1.2 h;omega
   · have:=h1.1 h;omega
theorem W1(m b:Int)(h1:0≤m)(h2:m<b):(m+b).tmod b=m:=by
 obtain⟨x,rfl⟩:∃x:Nat,m=x:=⟨m.toNat,by omega⟩
 obtain⟨y,rfl⟩:∃y:Nat,b=y:=⟨b.toNat,by omega⟩
 rw[show(x:Int)+(y:Int)=((x+y:Nat):Int) by omega,←Int.ofNat_tmod,Nat.add_mod_right,Nat.mod_eq_of_lt (by omega)]
theorem a1P(a b:Int)(h0:b≠0):(a.tmod b+b).tmod b=qV a b:=by
 have h1:=NT a b h0
 have hs:∀x:Int,0≤x→x<b→x.tmod b=x:=fun x h2 h3=>Int.tmod_eq_of_lt h2 h3
 have hn:∀x:Int,x≤0→b<x→x.tmod b=x:=fun x h2 h3=>by
  have:=Int.tmod_eq_of_lt (a:= -x) (b:= -b) (by omega) (by omega)
  rw[Int.tmod_neg,Int.neg_tmod] at this
  omega
 unfold qV
 generalize a.tmod b=m at *
 by_cases hb:b<0
 · have h2:=h1.2 hb
   by_cases hm:m<0
   · rw[aK (by simp [hb,hm])]
     rw[show m+b=b+m by omega]
     have e:(b+m).tmod b=((-b)+(-m)).tmod (-b)*(-1):=by
      rw[show(-b)+(-m)= -(b+m) by omega,Int.neg_tmod,Int.tmod_neg];omega
     rw[e,Int.add_comm,W1 (-m) (-b) (by omega) (by omega)]
     omega
   · by_cases hm0:m=0
     · subst hm0;rw[aK (by simp),Int.zero_add,Int.tmod_self]
     · rw[aN ⟨hm0,by simp [hb,hm]⟩]
       exact hn _ (by omega) (by omega)
 · have h2:=h1.1 (by omega)
   by_cases hm:m<0
   · rw[aN ⟨by omega,by simp [hb,hm]⟩]
     exact hs _ (by omega) (by omega)
   · rw[aK (by simp [hb,hm])]
     rw[W1 m b (by omega) (by omega)]
def cJ(N:Int)(t:Tm):Prop:=(t.aL fun _=>vr 0).lW=true∧t.cv=true∧∀v∈t.vl,0≤v∧v<N
theorem cJ.mono{N M:Int}{t:Tm}(h:cJ N t)(hm:N≤M):cJ M t:=⟨h.1,h.2.1,fun v hv=>⟨(h.2.2 v hv).1,by have:=(h.2.2 v hv).2;omega⟩⟩
theorem cJ.own{N k n:Int}{s:ByteArray}{ts:List Tm}(h:cJ N (.mk k n s ts))(hk:k≠1):fB k n s ts.length=true∧∀x∈ts,cJ N x:=by
 obtain⟨h1,h2,h3⟩:=h
 rw[Tm.kA _ hk] at h1
 obtain⟨h4,h5⟩:=Tm.MB h1
 rw[aE] at h4
 exact⟨h4,fun x hx=>⟨h5 _ (cF.2 ⟨x,hx,rfl⟩),(Tm.oR.1 h2).2 x hx,fun v hv=>h3 v ((Tm.kY hk).2 ⟨x,hx,hv⟩)⟩⟩
theorem cJ.var{N n:Int}{s:ByteArray}{ts:List Tm}(h:cJ N (.mk 1 n s ts)):0≤n∧n<N∧s=⟨#[]⟩∧ts= []:=by
 obtain⟨_,h2,h3⟩:=h
 obtain⟨h4,h5⟩:=(Tm.oR.1 h2).1 rfl
 obtain⟨h6,h7⟩:=h3 n (by rw[Tm.mZ rfl];simp)
 exact⟨h6,h7,h4,h5⟩
theorem MC(N:Int):∀t:Tm,t.k≠1→cJ N t→∀x∈t.ts,cJ N x:=fun t hk h x hx=>by
 cases t
 exact(h.own hk).2 x hx
theorem cJ.kind{N k n:Int}{s:ByteArray}{ts:List Tm}(h:cJ N (.mk k n s ts)):(k=1∨k=2∨k=3)∧ts.length≤4:=by
 by_cases hk:k=1
 · subst hk
   rw[h.var.2.2.2]
   simp
 · have:=a62 (h.own hk).1
   omega
theorem a61{n:Int}{s:ByteArray}{len:Int}(h:fB 2 n s len=true): -999≤n∧n≤999:=by
 simp [fB] at h
 omega
theorem cJ.all{N k n:Int}{s:ByteArray}{ts:List Tm}(h:cJ N (.mk k n s ts)):(k=2→-999≤n∧n≤999)∧∀x∈ts,cJ N x:=by
 by_cases hk:k=1
 · subst hk
   rw[h.var.2.2.2]
   simp
 · obtain⟨h1,h2⟩:=h.own hk
   refine⟨fun h2=>?_,h2⟩
   subst h2
   exact a61 h1
theorem cJ.small{N:Int}:∀ {t:Tm},cJ N t→t.small=true:=by
 intro t
 induction t using Tm.ind with
 | h k n s ts ih=>
  intro h
  have h4:=h.kind.2
  simp only[Tm.small,IY,cY,bM,fU]
  refine⟨by omega,fun x hx=>?_⟩
  by_cases hk:k=1
  · subst hk;rw[h.var.2.2.2] at hx;cases hx
  · exact ih x hx ((h.own hk).2 x hx)
theorem cJ.aL{N M:Int}{f:Int→Tm}{t:Tm}(h:cJ N t)(hf:∀v∈t.vl,cJ M (f v)):cJ M (t.aL f):=by
 induction t using Tm.ind with
 | h k n s ts ih=>
  by_cases hk:k=1
  · rw[Tm.mG f hk];exact hf n (by rw[Tm.mZ hk];simp)
  · obtain⟨h1,h2⟩:=h.own hk
    have key:∀x∈ts,cJ M (x.aL f):=fun x hx=>ih x hx (h2 x hx) fun v hv=>hf v ((Tm.kY hk).2 ⟨x,hx,hv⟩)
    rw[Tm.kA f hk]
    refine⟨?_,Tm.oR.2 ⟨fun h=>absurd h hk,fun y hy=>?_⟩,fun v hv=>?_⟩
    · rw[Tm.kA _ hk,Tm.BI,aE,aE,h1,gM,fU]
      intro y hy
      simp only[uY,cF,FN] at hy
      obtain⟨x,hx,rfl⟩:=hy
      exact(key x hx).1
    · obtain⟨x,hx,rfl⟩:=cF.1 hy
      exact(key x hx).2.1
    · obtain⟨y,hy,hv⟩:=(Tm.kY hk).1 hv
      obtain⟨x,hx,rfl⟩:=cF.1 hy
      exact(key x hx).2.2 v hv
theorem H0{N n:Int}(h0:0≤n)(h1:n<N):cJ N (vr n):=by
 refine⟨by rw[uJ];exact aQW (HV.2 (by omega)),Tm.oR.2 ⟨fun _=>⟨rfl,rfl⟩,by simp⟩,fun v hv=>?_⟩
 rw[zN] at hv
 simp only[cG,cX,dG] at hv
 omega
theorem aM0{t:Tm}:t.lW=true↔cJ 26 t:=by
 constructor
 · intro h
   refine⟨a5V t h fun v _=>aQW (HV.2 (by omega)),Tm.a6T t h,fun v hv=>?_⟩
   have:=HV.1 (Tm.a6U t h v hv)
   omega
 · induction t using Tm.ind with
   | h k n s ts ih=>
    intro h
    rw[Tm.BI]
    by_cases hk:k=1
    · subst hk
      obtain⟨h0,h1,rfl,rfl⟩:=h.var
      have h1':n≤25:=by omega
      simp [fB,h0,h1']
    · obtain⟨h1,h2⟩:=h.own hk
      rw[h1,gM,fU]
      exact fun x hx=>ih x hx (h2 x hx)
theorem Tm.I2{t:Tm}(h:t.valid=true):cJ 26 t:=aM0.1 (Tm.bAQ h)
theorem Good.mI{σ:Sub}{R:Int→Tm}{rk:Int→Nat}{B:Nat}(G:Good σ R rk B){N:Int}(ho:cQ (cJ N) σ):∀n,0≤n→n<N→cJ N (R n):=by
 refine fun n=>G.ind (p:=fun n=>0≤n→n<N→cJ N (R n)) (fun n h h0 h1=>?_) (fun n u h ih h0 h1=>?_) n
 · rw[G.free h];exact H0 h0 h1
 · rw[G.bound h]
   exact(ho n u h).aL fun v hv=>ih v hv ((ho n u h).2.2 v hv).1 ((ho n u h).2.2 v hv).2
theorem Good.SV{σ:Sub}{R:Int→Tm}{rk:Int→Nat}{B:Nat}(G:Good σ R rk B){N:Int}(ho:cQ (cJ N) σ){t:Tm}(h:cJ N t):cJ N (t.aL R):=
 h.aL fun v hv=>G.mI ho v (h.2.2 v hv).1 (h.2.2 v hv).2
def bF(N:Int)(t:Tm):Prop:=cJ N t∧t.nodes≤120
theorem rG(N:Int):∀t:Tm,t.k≠1→bF N t→∀x∈t.ts,bF N x:=fun t hk h x hx=>by
 refine⟨MC N t hk h.1 x hx,?_⟩
 have h2:=h.2
 cases t
 rw[Tm.lJ] at h2
 have:=pC (f:=Tm.nodes) hx
 simp only[Tm.ts] at this
 omega
theorem bF.mono{N M:Int}{t:Tm}(h:bF N t)(hm:N≤M):bF M t:=⟨h.1.mono hm,h.2⟩
theorem cQ.mI{N:Int}{σ:Sub}(h:cQ (bF N) σ):cQ (cJ N) σ:=fun n u e=>(h n u e).1
theorem cQ.imp{p q:Tm→Prop}{σ:Sub}(h:cQ p σ)(hpq:∀t,p t→q t):cQ q σ:=fun n u e=>hpq u (h n u e)
open Classical in
noncomputable def iY(σ:Sub)(a b:Tm):Bool×Sub×List Int:=if h:∃x g,dK g σ a b=some x then h.choose else(false,σ,[])
theorem aQN{g:Nat}{σ:Sub}{a b:Tm}{x:Bool×Sub×List Int}(h:dK g σ a b=some x):iY σ a b=x:=by
 unfold iY
 have h':∃x g,dK g σ a b=some x:=⟨x,g,h⟩
 rw[dif_pos h']
 obtain⟨g',h''⟩:=h'.choose_spec
 exact bAG h'' h
def VN(N:Nat):List Int:=(List.range N).map fun i:Nat=>(i:Int)
theorem xD{N:Nat}{n:Int}:n∈VN N↔0≤n∧n<N:=by
 simp only[VN,cF,v6]
 constructor
 · rintro⟨i,h,rfl⟩;omega
 · intro h;exact⟨n.toNat,by omega,by omega⟩
theorem EB{N:Nat}{tr:List Int}(h:tr.Nodup)(hV:∀m∈tr,0≤m∧m<N):tr.length≤N:=by
 have:=aMJ (V:=VN N) h fun x hx=>xD.2 (hV x hx)
 simpa [VN] using this
structure zY (N:Int) (σ:Sub) (a b:Tm) (r:Bool) (σ':Sub) (tr:List Int):Prop where
 run:∃g,dK g σ a b=some (r,σ',tr)
 eq:iY σ a b=(r,σ',tr)
 oH:pL σ [a] [b] r σ' tr
 ok:cQ (bF N) σ'
 gE:∀m∈tr,0≤m∧m<N
theorem uU{N:Nat}{σ:Sub}{a b:Tm}(hg:cO σ)(ho:cQ (bF N) σ)(ha:bF N a)(hb:bF N b):∃r σ' tr,zY N σ a b r σ' tr:=by
 have hin:∀ {t:Tm},bF N t→iR (VN N) t:=fun h v hv=>xD.2 (h.1.2.2 v hv)
 have hr:nA (VN N) σ:=fun n u e=>hin (ho n u e)
 obtain⟨g,⟨r,σ',tr⟩,h⟩:=bAI (VN N) _ _ σ a b hg hr (hin ha) (hin hb) (cZ _) (cZ _)
 obtain⟨h1,h2⟩:=(aQO g).1 σ a b r σ' tr (VN N) hg h hr (hin ha) (hin hb)
 exact⟨r,σ',tr,⟨g,h⟩,aQN h,xS hg h,(OE (rG N) g).1 σ a b r σ' tr hg h ho ha hb,fun m hm=>xD.1 (h2 m hm)⟩
theorem zY.out{N:Int}{σ:Sub}{a b:Tm}{r:Bool}{σ':Sub}{tr:List Int}(h:zY N σ a b r σ' tr)(n:Int):(if n∈tr then none else σ' n)=σ n:=by
 split
 · rename_i hn;exact((h.oH.new n hn).1).symm
 · rename_i hn;exact h.oH.aU n hn
def Sub.out(σ:Sub)(l:List Int):Sub:=fun n=>if n∈l then Option.none else σ n
theorem Sub.a6X(σ:Sub)(l m:List Int):(σ.out l).out m=σ.out (l++m):=by
 funext n
 unfold Sub.out
 by_cases h1:n∈m
 · rw[aN h1,aN (by simp [h1])]
 · rw[aK h1]
   by_cases h2:n∈l
   · rw[aN h2,aN (by simp [h2])]
   · rw[aK h2,aK (by simp [h1,h2])]
theorem Sub.a6Y(σ:Sub){l m:List Int}(h:∀n,n∈l↔n∈m):σ.out l=σ.out m:=by
 funext n
 unfold Sub.out
 simp only[h n]
def bZ(ρ:Int→Int)(t:Tm):Tm:=t.aL fun v=>vr (ρ v)
theorem a7O(ρ:Int→Int)(n:Int):bZ ρ (vr n)=vr (ρ n):=uJ _ n
theorem xJ(ρ:Int→Int){k n:Int}{s:ByteArray}{ts:List Tm}(h:k≠1):bZ ρ (.mk k n s ts)=.mk k n s (ts.map (bZ ρ)):=Tm.kA _ h
theorem yZ(ρ:Int→Int){t:Tm}(h:t.k=1):bZ ρ t=vr (ρ t.n):=Tm.D5 _ h
theorem EQ(ρ:Int→Int){t:Tm}(h:t.k≠1):bZ ρ t=.mk t.k t.n t.s (t.ts.map (bZ ρ)):=Tm.rF _ h
theorem yY(ρ:Int→Int)(t:Tm):(bZ ρ t).k=t.k:=by
 by_cases h:t.k=1
 · rw[yZ ρ h,h];try rfl
 · rw[EQ ρ h];try rfl
theorem MK(ρ:Int→Int){t:Tm}(hc:t.cv=true):(bZ ρ t).nodes=t.nodes:=by
 induction t using Tm.ind with
 | h k n s ts ih=>
  obtain⟨h1,h2⟩:=Tm.oR.1 hc
  by_cases hk:k=1
  · obtain⟨_,rfl⟩:=h1 hk
    rw[yZ ρ (t:=.mk k n s []) hk,vr,Tm.lJ,Tm.lJ]
  · rw[xJ ρ hk,Tm.lJ,Tm.lJ]
    congr 1
    have:∀l:List Tm,(∀x∈l,x∈ts)→aH Tm.nodes (l.map (bZ ρ))=aH Tm.nodes l:=by
     intro l
     induction l with
     | nil=>intro _;rfl
     | cons x l ihl=>intro h;simp only[bR,aH];rw[ih x (h x (by simp)) (h2 x (h x (by simp))),ihl fun y hy=>h y (by simp [hy])]
    exact this ts fun _ h=>h
theorem TM(ρ:Int→Int){t:Tm}(hc:t.cv=true):∀d,(bZ ρ t).flat d=t.flat d:=by
 induction t using Tm.ind with
 | h k n s ts ih=>
  intro d
  obtain⟨h1,h2⟩:=Tm.oR.1 hc
  cases d with
  | zero=>rw[Tm.G6,Tm.G6]
  | succ d=>
   by_cases hk:k=1
   · obtain⟨_,rfl⟩:=h1 hk
     rw[yZ ρ (t:=.mk k n s []) hk,vr,Tm.sM,Tm.sM]
   · rw[xJ ρ hk,Tm.sM,Tm.sM,List.all_map]
     rw[zR,fU,fU]
     constructor
     · intro h x hx;rw[←ih x hx (h2 x hx) d];exact h x hx
     · intro h x hx;simp only[FN];rw[ih x hx (h2 x hx) d];exact h x hx
theorem bAU{ρ:Int→Int}{t:Tm}{w:Int}:w∈(bZ ρ t).vl↔∃v∈t.vl,w=ρ v:=by
 unfold bZ
 rw[zL]
 simp only[zN,cG,cX,dG]
theorem TL{ρ ρ':Int→Int}{t:Tm}(h:∀v∈t.vl,ρ v=ρ' v):bZ ρ t=bZ ρ' t:=o7 t fun v hv=>by rw[h v hv]
theorem H6(ρ:Int→Int)(f:Int→Tm)(t:Tm):(bZ ρ t).aL f=t.aL fun v=>f (ρ v):=by
 unfold bZ
 rw[uI]
 exact o7 t fun v _=>uJ f (ρ v)
theorem aMC(ρ:Int→Int)(f:Int→Tm)(t:Tm):bZ ρ (t.aL f)=t.aL fun v=>bZ ρ (f v):=by
 unfold bZ
 rw[uI]
theorem cJ.bZ{N M:Int}{ρ:Int→Int}{t:Tm}(h:cJ N t)(hr:∀v∈t.vl,0≤ρ v∧ρ v<M):cJ M (AW.bZ ρ t):=h.aL fun v hv=>H0 (hr v hv).1 (hr v hv).2
theorem bF.bZ{N M:Int}{ρ:Int→Int}{t:Tm}(h:bF N t)(hr:∀v∈t.vl,0≤ρ v∧ρ v<M):bF M (AW.bZ ρ t):=⟨h.1.bZ hr,by rw[MK ρ h.1.2.1];exact h.2⟩
structure fV (ρ:Int→Int) (N:Int) (σ τ:Sub):Prop where
 inj:∀v w,0≤v→v<N→0≤w→w<N→ρ v=ρ w→v=w
 map:∀v,0≤v→v<N→τ (ρ v)=(σ v).map (bZ ρ)
section
variable {ρ:Int→Int} {N:Int} {σ τ:Sub}
theorem fV.wk(S:fV ρ N σ τ)(ho:cQ (cJ N) σ){f:Nat}{t u:Tm}(h:f9 σ f t u):cJ N t→f9 τ f (bZ ρ t) (bZ ρ u):=by
 induction h with
 | @stop t h=>
  intro ht
  refine .stop fun hk=>?_
  rw[yY] at hk
  have hr:=ht.2.2 t.n (by rw[Tm.FL hk];simp)
  rw[yZ ρ hk]
  show τ (ρ t.n)=none
  rw[S.map _ hr.1 hr.2,h hk];try rfl
 | @go f t u v h1 h2 _ ih=>
  intro ht
  have hr:=ht.2.2 t.n (by rw[Tm.FL h1];simp)
  refine .go (u:=bZ ρ u) (by rw[yY];exact h1) ?_ (ih (ho _ _ h2))
  rw[yZ ρ h1]
  show τ (ρ t.n)=_
  rw[S.map _ hr.1 hr.2,h2];try rfl
theorem fV.rs(S:fV ρ N σ τ)(hg:cO σ)(hg':cO τ)(ho:cQ (cJ N) σ):∀v,0≤v→v<N→rs τ (ρ v)=bZ ρ (rs σ v):=by
 obtain⟨rk,B,G⟩:=hg.rs
 obtain⟨rk',B',G'⟩:=hg'.rs
 refine fun v=>G.ind (p:=fun v=>0≤v→v<N→AW.rs τ (ρ v)=bZ ρ (AW.rs σ v)) (fun v h h0 h1=>?_) (fun v u h ih h0 h1=>?_) v
 · rw[G.free h,a7O,G'.free (by rw[S.map v h0 h1,h];try rfl)]
 · rw[G.bound h,aMC,G'.bound (u:=bZ ρ u) (by rw[S.map v h0 h1,h];try rfl),H6]
   refine o7 u fun w hw=>?_
   have:=(ho v u h).2.2 w hw
   exact ih w hw this.1 this.2
theorem fV.rsT(S:fV ρ N σ τ)(hg:cO σ)(hg':cO τ)(ho:cQ (cJ N) σ){t:Tm}(ht:cJ N t):(bZ ρ t).aL (AW.rs τ)=bZ ρ (t.aL (AW.rs σ)):=by
 rw[H6,aMC]
 exact o7 t fun v hv=>S.rs hg hg' ho v (ht.2.2 v hv).1 (ht.2.2 v hv).2
theorem fV.mem(S:fV ρ N σ τ){t:Tm}(ht:cJ N t){n:Int}(h0:0≤n)(h1:n<N):ρ n∈(bZ ρ t).vl↔n∈t.vl:=by
 rw[bAU]
 constructor
 · rintro⟨v,hv,e⟩
   rw[S.inj n v h0 h1 (ht.2.2 v hv).1 (ht.2.2 v hv).2 e];exact hv
 · exact fun h=>⟨n,h,rfl⟩
theorem fV.set(S:fV ρ N σ τ){n:Int}(h0:0≤n)(h1:n<N)(t:Tm):fV ρ N (σ.set n t) (τ.set (ρ n) (bZ ρ t)):=by
 refine⟨S.inj,fun v hv0 hv1=>?_⟩
 unfold Sub.set
 by_cases h:v=n
 · subst h;simp
 · rw[aK (fun e=>h (S.inj v n hv0 hv1 h0 h1 e)),aK h,S.map v hv0 hv1]
theorem fV.j6(S:fV ρ N σ τ)(hg:cO σ)(hg':cO τ)(ho:cQ (cJ N) σ){n:Int}(h0:0≤n)(h1:n<N){t:Tm}(ht:cJ N t){r:Bool}{σ':Sub}{tr:List Int}(h:j6 σ n t=(r,σ',tr)) :
 ∃τ',AW.j6 τ (ρ n) (bZ ρ t)=(r,τ',tr.map ρ)∧fV ρ N σ' τ':=by
 obtain⟨rk,B,G⟩:=hg.rs
 have e:=S.mem (G.SV ho ht) h0 h1
 rw[←S.rsT hg hg' ho ht] at e
 unfold AW.j6 at h ⊢
 by_cases hm:n∈(t.aL (AW.rs σ)).vl
 · rw[aN hm] at h
   rw[aN (e.2 hm)]
   cases h
   exact⟨τ,rfl,S⟩
 · rw[aK hm] at h
   rw[aK (fun h=>hm (e.1 h))]
   cases h
   exact⟨_,rfl,S.set h0 h1 t⟩
theorem aK6{a b:Tm}(ha:a.k≠1)(hb:b.k≠1):vG (bZ ρ a) (bZ ρ b)=vG a b:=by
 obtain⟨k,n,s,ts⟩:=a
 obtain⟨k',n',s',ts'⟩:=b
 simp only[Tm.k] at ha hb
 rw[xJ ρ ha,xJ ρ hb,zR,uD,uD]
 simp only[Tm.k,Tm.n,Tm.s,Tm.ts,aE]
theorem fV.aQY(S:fV ρ N σ τ)(hg:cO σ)(ho:cQ (cJ N) σ){t:Tm}(ht:cJ N t):AW.wk τ (bZ ρ t)=bZ ρ (AW.wk σ t):=by
 obtain⟨rk,B,G⟩:=hg.rs
 obtain⟨f,h⟩:=G.wk t
 exact(S.wk ho h ht).wk
theorem bAJ(ρ:Int→Int)(N:Int):∀g:Nat,(∀(σ τ:Sub) (a b:Tm) (r:Bool) (σ':Sub) (tr:List Int),cO σ→cO τ→cQ (cJ N) σ→cJ N a→cJ N b→fV ρ N σ τ→dK g σ a b=some (r,σ',tr)→∃τ',dK g τ (bZ ρ a) (bZ ρ b)=some (r,τ',tr.map ρ)∧fV ρ N σ' τ') ∧
 (∀(xs ys:List Tm) (σ τ:Sub) (r:Bool) (σ':Sub) (tr:List Int),cO σ→cO τ→cQ (cJ N) σ→(∀x∈xs,cJ N x)→(∀y∈ys,cJ N y)→fV ρ N σ τ→eJ g σ xs ys=some (r,σ',tr)→∃τ',eJ g τ (xs.map (bZ ρ)) (ys.map (bZ ρ))=some (r,τ',tr.map ρ)∧fV ρ N σ' τ'):=by
 intro g
 induction g with
 | zero=>
  refine⟨fun σ τ a b r σ' tr _ _ _ _ _ _ h=>(by simp only[dK] at h;cases h),?_⟩
  intro xs ys σ τ r σ' tr _ _ _ _ _ S h
  match xs,ys with
  | [],_=>simp only[eJ,Option.some.injEq,Prod.mk.injEq] at h;obtain⟨rfl,rfl,rfl⟩:=h;exact⟨τ,by simp only[bS,eJ],S⟩
  | x::xs,[]=>simp only[eJ,Option.some.injEq,Prod.mk.injEq] at h;obtain⟨rfl,rfl,rfl⟩:=h;exact⟨τ,by simp only[bR,bS,eJ],S⟩
  | x::xs,y::ys=>simp only[eJ,dK] at h;cases h
 | succ g ih=>
  have one:∀(σ τ:Sub) (a b:Tm) (r:Bool) (σ':Sub) (tr:List Int),cO σ→cO τ→cQ (cJ N) σ→cJ N a→cJ N b→fV ρ N σ τ→dK (g+1) σ a b=some (r,σ',tr)→∃τ',dK (g+1) τ (bZ ρ a) (bZ ρ b)=some (r,τ',tr.map ρ)∧fV ρ N σ' τ':=by
   intro σ τ a b r σ' tr hg hg' ho ha hb S h
   obtain⟨rk,B,G⟩:=hg.rs
   obtain⟨fa,wa⟩:=G.wk a
   obtain⟨fb,wb⟩:=G.wk b
   have oa:=wa.all (p:=cJ N) ho ha
   have ob:=wb.all (p:=cJ N) ho hb
   have ea:=S.aQY hg ho ha
   have eb:=S.aQY hg ho hb
   have h:=OC h
   generalize AW.wk σ a=a1 at *
   generalize AW.wk σ b=b1 at *
   rw[dK,ea,eb,yY,yY]
   have rng:∀ {t:Tm},cJ N t→t.k=1→0≤t.n∧t.n<N:=fun ht hk=>ht.2.2 _ (by rw[Tm.FL hk];simp)
   have nn:∀ {t:Tm},t.k=1→(bZ ρ t).n=ρ t.n:=fun hk=>by rw[yZ ρ hk];try rfl
   rcases h with ⟨h1,h2,h3,rfl,rfl,rfl⟩ | ⟨h1,h2,h3⟩ | ⟨h1,h2,h3⟩ | ⟨h1,h2,h3,h4⟩ | ⟨h1,h2,h3,rfl,rfl,rfl⟩
   · exact⟨τ,by rw[aN ⟨h1,h2,by rw[nn h1,nn h2,h3]⟩];try rfl,S⟩
   · have ra:=rng oa h1
     obtain⟨τ',e,S'⟩:=S.j6 hg hg' ho ra.1 ra.2 ob h3
     refine⟨τ',?_,S'⟩
     rw[aK,aN h1,nn h1,e]
     rintro⟨_,h5,h6⟩
     have rb:=rng ob h5
     rw[nn h1,nn h5] at h6
     exact h2 ⟨h5,S.inj _ _ ra.1 ra.2 rb.1 rb.2 h6⟩
   · have rb:=rng ob h2
     obtain⟨τ',e,S'⟩:=S.j6 hg hg' ho rb.1 rb.2 oa h3
     refine⟨τ',?_,S'⟩
     rw[aK (fun h=>h1 h.1),aK h1,aN h2,nn h2,e]
   · obtain⟨τ',e,S'⟩:=ih.2 a1.ts b1.ts σ τ r σ' tr hg hg' ho (MC N a1 h1 oa) (MC N b1 h2 ob) S h4
     refine⟨τ',?_,S'⟩
     rw[aK (fun h=>h1 h.1),aK h1,aK h2,aN (by rw[aK6 h1 h2];exact h3),EQ ρ h1,EQ ρ h2]
     exact e
   · refine⟨τ,?_,S⟩
     rw[aK (fun h=>h1 h.1),aK h1,aK h2,aK (by rw[aK6 h1 h2,h3];simp)]
     try rfl
  refine⟨one,?_⟩
  intro xs
  induction xs with
  | nil=>
   intro ys σ τ r σ' tr _ _ _ _ _ S h
   simp only[eJ,Option.some.injEq,Prod.mk.injEq] at h;obtain⟨rfl,rfl,rfl⟩:=h;exact⟨τ,by simp only[bS,eJ],S⟩
  | cons x xs ihx=>
   intro ys σ τ r σ' tr hg hg' ho hx hy S h
   cases ys with
   | nil=>simp only[eJ,Option.some.injEq,Prod.mk.injEq] at h;obtain⟨rfl,rfl,rfl⟩:=h;exact⟨τ,by simp only[bR,bS,eJ],S⟩
   | cons y ys=>
    rw[eJ] at h
    simp only[bR]
    rw[eJ]
    cases hu:dK (g+1) σ x y with
    | none=>rw[hu] at h;cases h
    | some p=>
     obtain⟨r1,σ1,tr1⟩:=p
     rw[hu] at h
     obtain⟨τ1,e1,S1⟩:=one σ τ x y r1 σ1 tr1 hg hg' ho (hx x (by simp)) (hy y (by simp)) S hu
     rw[e1]
     cases r1 with
     | false=>
      simp only[Option.some.injEq,Prod.mk.injEq] at h ⊢
      obtain⟨rfl,rfl,rfl⟩:=h
      exact⟨τ1,⟨rfl,rfl,rfl⟩,S1⟩
     | true=>
      simp only at h ⊢
      cases hu2:eJ (g+1) σ1 xs ys with
      | none=>rw[hu2] at h;cases h
      | some p2=>
       obtain⟨r2,σ2,tr2⟩:=p2
       rw[hu2] at h
       simp only[Option.some.injEq,Prod.mk.injEq] at h
       obtain⟨rfl,rfl,rfl⟩:=h
       have U1:=xS hg hu
       have U1':=xS hg' e1
       have ho1:=(OE (MC N) (g+1)).1 σ x y true σ1 tr1 hg hu ho (hx x (by simp)) (hy y (by simp))
       obtain⟨τ2,e2,S2⟩:=ihx ys σ1 τ1 r2 σ2 tr2 U1.gX U1'.gX ho1 (fun z hz=>hx z (by simp [hz])) (fun z hz=>hy z (by simp [hz])) S1 hu2
       rw[e2]
       exact⟨τ2,by simp only[oN],S2⟩
theorem fV.iY(S:fV ρ N σ τ)(hg:cO σ)(hg':cO τ)(ho:cQ (cJ N) σ){a b:Tm}(ha:cJ N a)(hb:cJ N b){r:Bool}{σ':Sub}{tr:List Int}{g:Nat}(h:dK g σ a b=some (r,σ',tr)) :
 ∃τ',AW.iY τ (bZ ρ a) (bZ ρ b)=(r,τ',tr.map ρ)∧fV ρ N σ' τ'∧cO τ':=by
 obtain⟨τ',e,S'⟩:=(bAJ ρ N g).1 σ τ a b r σ' tr hg hg' ho ha hb S h
 exact⟨τ',aQN e,S',(xS hg' e).gX⟩
end
end Go.AW
