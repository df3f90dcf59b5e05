import Derived.Test.YtimfffmcljmfgaaGreatDoorUzq
import Derived.Test.YtimfffmcljmfgaaGreatDoorUzo
import Derived.Test.YtimfffmcljmfgaaGreatDoorUzn
import Derived.Test.YtimfffmcljmfgaaGreatDoorUzm
import Derived.Test.YtimfffmcljmfgaaGreatDoorUzk
import Derived.Test.YtimfffmcljmfgaaGreatDoorUzl
import Derived.Test.YtimfffmcljmfgaaGreatDoorUzj
import Derived.Test.YtimfffmcljmfgaaGreatDoorUzp
import Derived.Test.YtimfffmcljmfgaaGreatDoorUzf
import Derived.Test.YtimfffmcljmfgaaGreatDoorUzg
import Derived.Test.YtimfffmcljmfgaaGreatDoorUzi
set_option linter.unusedSimpArgs false
set_option linter.unusedVariables false
set_option maxRecDepth 100000
namespace Go.AW
open Go.Proofs.Tryz
theorem aY6{P:Program}{t:TypeId}{ag:Bool}{sz b off n:Nat}{zs cs:List AV}{st:aB}{K:AV→aB→Prop}(hI:eI P t=some (ag,sz))(hZ:eZ P t=some zs)(h0:sz≠0)(hz:zs.length=sz)(hst:zs.all AV.storable=true)(hb:st b=some (.cells cs))(fD:off+n*sz≤cs.length)
 (hK:K (.tup []) (st.aC b (.cells (aG cs off (j5 zs n))))):wZ P t st (.mslice b off n sz) K:=by
 unfold wZ
 rw[hI,hZ]
 simp only[hb]
 exact⟨trivial,h0,hz,hst,fD,hK⟩
theorem a6Q{cs:List AV}{i:Nat}{x:List AV}(h:i≤cs.length):(aG cs i x).take i=cs.take i:=by
 unfold aG
 rw[mU,GQ (by rw[dQ];omega)]
theorem a6R{cs:List AV}{i:Nat}{x:AV}(h:i<cs.length):(aG cs i [x]).take (i+1)=cs.take i++ [x]:=by
 unfold aG
 rw[GQ (by rw[dL,dQ,aQ,bA];omega)]
theorem a6P{cs:List AV}{i:Nat}{x:List AV}(h:i+x.length≤cs.length):(aG cs i x).length=cs.length:=by
 unfold aG
 simp only[dL,dQ,lR]
 omega
theorem set_drop{cs:List AV}{i j:Nat}{x:AV}(h:i<cs.length)(hj:i<j):(aG cs i [x]).drop j=cs.drop j:=by
 unfold aG
 rw[KL,BC (by rw[dL,dQ,aQ,bA];omega),eS,GG]
 congr 1
 rw[dL,dQ,aQ,bA]
 omega
structure XU (l:List Nat) (p:Nat→Bool) (i j:Nat) (W:List AV):Prop where
 lt:i<j
 le:j≤l.length
 len:W.length=l.length
 head:W.take i=((l.take j).filter fun x=> !p x).map nv
 hlen:i=((l.take j).filter fun x=> !p x).length
 tail:W.drop j=(l.drop j).map nv
abbrev aRQ:=zi tI_3 (zi zI_3 (zi aZ (zi tI_4 (zi zI_4 (zi cG (zi tI_46 (zi zI_46 (zi dK (zi fM (zi fJ fX))))))))))
theorem a45(l:List Nat)(g:FuncId)(dT:List AV)(p:Nat→Bool)(b:Nat)(h9:l.length≤1048576)(st:aB)(hb:st b=some (.cells (l.map nv)))(hc:∀x∈l,∀cs,aD prog g ([nv x]++dT) (st.aC b (.cells cs)) (fun r st'=>r=.bool (p x)∧st'=st.aC b (.cells cs))) :
 aD prog 186 [.mslice b 0 l.length 1,.func g dT] st (fun r st'=>∃W,r=.mslice b 0 (l.filter fun x=> !p x).length 1∧st'=st.aC b (.cells W)∧W.take (l.filter fun x=> !p x).length=(l.filter fun x=> !p x).map nv):=by
 have hst:st.aC b (.cells (l.map nv))=st:=by
  funext y
  simp only[aB.aC]
  split
  · rename_i h;rw[h,hb]
  · rfl
 have TQ:=a47 l g dT p b (l.map nv) h9 st hb (fun i x h=>by simp [h]) (fun x hx=>by have:=hc x hx (l.map nv);rwa [hst] at this)
 refine wF [1000000] 2 func186 ntmps186 rfl rfl ?_
 intro _
 simp -implicitDefEqProofs only[aA,seval]
 refine(TQ).to ?_
 simp -implicitDefEqProofs only[aA,seval]
 rcases UL p l 0 (by omega) with ⟨h1,h2⟩ | ⟨j0,x0,h1,h2,h3,h4,h5⟩
 · have dN:(l.filter fun x=> !p x)=l:=List.filter_eq_self.2 fun a ha=>by
    have:=List.any_eq_false.1 h2 a ha
    simpa using this
   rw[h1,dN]
   simp -implicitDefEqProofs only[aA,seval]
   exact⟨l.map nv,hst.symm,by rw[lT (by rw[aF];exact dB _)]⟩
 have hj:j0<l.length:=(fR.1 h2).1
 have hf0:((l.take (j0+1)).filter fun x=> !p x)=l.take j0:=by
  rw[fS,h2,GI]
  simp only[DS,List.filter_cons,h3,nM,jC,dI,KN,gI]
  refine List.filter_eq_self.2 fun a ha=>?_
  obtain⟨k,hk⟩:=BE ha
  rw[P2] at hk
  split at hk
  · rename_i h;rw[h5 k a h hk];try rfl
  · cases hk
 have hI0:XU l p j0 (j0+1) (l.map nv):=⟨by omega,by omega,by rw[aF],by rw[hf0,GK],by rw[hf0,dQ];omega,by rw[GJ]⟩
 rw[h1,Int.zero_add]
 have hn1:((j0:Int)= -1)=False:=cO (by omega)
 have hw0:=bE (n:=(j0:Int)+1)
 simp -implicitDefEqProofs only[hn1,hw0,b9,aA,seval]
 refine iN (σ:=Nat×Nat×List AV) [1000000] [0,1,4] (fun x=>XU l p x.1 x.2.1 x.2.2) (fun x=>[(5,.int .i64 (x.1:Int)),(6,.int .i64 (x.2.1:Int))]) (fun x=>st.aC b (.cells x.2.2)) (fun x=>l.length - x.2.1) (by decide +kernel) ⟨(j0,j0+1,l.map nv),hI0,(by simp only[hst];exact aN.mk (by simp -implicitDefEqProofs only[aA,seval]))⟩ ?_
 rintro⟨i,j,W⟩ ⟨i1,i2,i3,i4,i5,i6⟩
 simp only at i1 i2 i3 i4 i5 i6
 simp only
 simp -implicitDefEqProofs only[aA,seval,aRQ]
 refine aS (fun h=>?_) (fun h=>?_)
 · have hlt:j<l.length:=by simp at h;omega
   obtain⟨x,hx⟩:∃x,l[j]?=some x:=⟨_,dZ hlt⟩
   have hWj:W[j]?=some (nv x):=by
    have e:(W.drop j)[0]?=((l.drop j).map nv)[0]?:=by rw[i6]
    simpa [hx] using e
   have hat:=pB (P:=prog) (t:=46) (b:=b) (w:=1) dK hlt
   have xS:=pB (P:=prog) (t:=46) (b:=b) (w:=1) (i:=i) (len:=l.length) dK (by omega)
   rw[wU] at hat xS
   have hld:=aOK (st:=st.aC b (.cells W)) (aB.aP _ _ _) hWj rfl
   have hca:=hc x (cJ hx) W
   simp only[nv,fQ,eS] at hld hca
   have hw:=bE (n:=(j:Int)+1)
   have hw2:=bE (n:=(i:Int)+1)
   simp -implicitDefEqProofs only[hat,hld,aA,seval]
   refine(hca).to ?_
   simp -implicitDefEqProofs only[aA,seval]
   have htl:(l.take (j+1)).filter (fun x=> !p x)=(l.take j).filter (fun x=> !p x)++(if p x=false then[x] else[]):=by
    rw[fS,hx,GI]
    congr 1
    cases hp:p x<;>simp [hp]
   have hdr:∀V:List AV,V.drop j=W.drop j∨V.drop (j+1)=W.drop (j+1)→V.drop (j+1)=(l.drop (j+1)).map nv:=fun V hV=>by
    have e:W.drop (j+1)=(l.drop (j+1)).map nv:=by rw[←GG,i6,←GJ,GG]
    rcases hV with hV | hV
    · rw[←GG,hV,GG,e]
    · rw[hV,e]
   refine aS (fun h7=>?_) (fun h7=>?_)
   · have hp:p x=false:=by simpa using h7
     rw[aH hp] at htl
     simp -implicitDefEqProofs only[xS,hw,hw2,aB.aP,c7,aA,seval,aRQ]
     have hil:i<W.length:=by omega
     refine⟨by omega,(i+1,j+1,aG W i [nv x]),by simp only;omega,⟨by simp only;omega,by simp only;omega,by rw[a6P (by simp only[aQ,bA];omega)];exact i3,by simp only;rw[a6R hil,htl,i4,oC];try rfl,by simp only;rw[htl,dL,aQ,bA,←i5],hdr _ (.inr (set_drop hil (by omega)))⟩,aN.mk (by simp -implicitDefEqProofs only[aA,seval])⟩
   · have hp:p x=true:=by simpa using h7
     rw[aE (by simp [hp]),gI] at htl
     simp -implicitDefEqProofs only[hw,aA,seval]
     refine⟨(i,j+1,W),by simp only;omega,⟨by simp only;omega,by simp only;omega,i3,by simp only;rw[htl];exact i4,by simp only;rw[htl];exact i5,hdr W (.inl rfl)⟩,aN.mk (by simp -implicitDefEqProofs only[aA,seval])⟩
 · have hge:j=l.length:=by simp at h;omega
   subst hge
   rw[eN] at i4 i5
   have hsl:∀(φ:AF) (y:Operand),φ.eval y=.int .i64 (i:Int)→iK prog φ 46 (.mslice b 0 l.length 1) (some y) none none=some (.mslice b i (l.length - i) 1):=fun φ y hy=>by
    unfold iK
    rw[aE (by simp [rH])]
    simp only[oY,dK,d8,hy]
    rw[aH (by constructor<;>omega)]
    simp only[jU]
    by_cases h0:i=0
    · simp [h0]
    · simp [h0,i1]
   have hsh:∀(φ:AF) (y:Operand),φ.eval y=.int .i64 (i:Int)→iK prog φ 46 (.mslice b 0 l.length 1) none (some y) none=some (.mslice b 0 i 1):=fun φ y hy=>by
    unfold iK
    rw[aE (by simp [rH])]
    simp only[oY,dK,d8,hy]
    rw[aH (by constructor<;>omega)]
    simp
   simp -implicitDefEqProofs only[hsl,aA,seval]
   refine aY6 dK fJ (by decide) rfl rfl (aB.aP _ _ _) (by omega) ?_
   rw[c7]
   simp -implicitDefEqProofs only[hsh,aA,seval]
   refine⟨aG W i (j5 [.int .i64 0] (l.length - i)),by rw[←i5],rfl,?_⟩
   rw[←i5,a6Q (by omega)]
   exact i4
abbrev aRS:=zi tI_3 (zi zI_3 (zi aZ (zi tI_4 (zi zI_4 (zi cG (zi tI_9 (zi zI_9 (zi cF (zi tI_29 (zi zI_29 (zi fN (zi iT (zi iU (zi jK (zi tI_66 (zi zI_66 (zi bS (zi bT (zi bU (zi bV (zi bR (zi tI_84 (zi zI_84 (zi kG (zi kH kD)))))))))))))))))))))))))
theorem aV7{p:List Cl}(hp:∀c∈p,fL c∧c.2.length≤6)(key:ByteArray)(x:Nat)(hx:x<p.length)(st:aB)(hT:st j6=some nU):aD prog 188 [nv x,.pptr (.slice (p.map bB)),.pptr (.str key)] st (fun r st'=>r=.bool (!q9 p key x)∧st'=st):=by
 obtain⟨c,hc⟩:∃c,p[x]?=some c:=⟨_,dZ hx⟩
 have hat:=bO (av:=bB) (P:=prog) fN hc (i8 c)
 have hck:=Z0 (hp c (cJ hc)).1.head st hT
 have hF:q9 p key x=vV (kJ c.1) key:=by unfold q9;rw[hc]
 rw[hF]
 obtain⟨⟨k,n,s',ts⟩,bd⟩:=c
 rw[fU] at hat
 simp only[aY] at hck
 simp only[nv]
 refine wF [1000000] 3 func188 ntmps188 rfl rfl ?_
 intro _
 simp -implicitDefEqProofs only[aA,seval]
 refine xA mixed (by decide +kernel) (by decide +kernel) ?_
 simp -implicitDefEqProofs only[hat,aA,seval,aRS]
 refine iE hck ?_
 simp -implicitDefEqProofs only[aA,seval,aRS]
 refine iE (aV9 _ key _) ?_
 simp -implicitDefEqProofs only[aA,seval]
abbrev aRR:=zi tI_9 (zi zI_9 (zi cF (zi tI_29 (zi zI_29 (zi fN (zi iT (zi iU (zi jK (zi tI_46 (zi zI_46 (zi dK (zi fM (zi fJ (zi fX (zi tI_66 (zi zI_66 (zi bS (zi bT (zi bU (zi bV bR))))))))))))))))))))
theorem aV6{p:List Cl}(hp:∀c∈p,fL c∧c.2.length≤6){N:Int}{t:Tm}(ht:bF N t)(l:List Nat)(hl:l≠[])(hlt:∀i∈l,i<p.length)(h9:l.length≤1048576)(st:aB)(hT:st j6=some nU):aD prog 104 [.slice (p.map bB),.slice (l.map nv),t.av] st (fun r st'=>r=.slice ((dE p t l).map nv)∧st'=st):=by
 refine aD.freeze (aD.cut ?_)
 have hk:=Z0 ht st hT
 have hcl:=a44 l hl h9 st
 have xU:(l.filter fun x=> !(!q9 p (kJ t) x))=dE p t l:=by unfold dE;simp only[Bool.not_not]
 generalize hkt:kJ t=key at *
 obtain⟨tk,tn,ts',tts⟩:=t
 simp only[aY] at hk ⊢
 refine wF [1000000] 3 func104 ntmps104 rfl rfl ?_
 intro _
 simp -implicitDefEqProofs only[aA,seval,aRR]
 refine(hk).to ?_
 simp -implicitDefEqProofs only[aA,↓aX,seval,aRR]
 refine(hcl).mono ?_
 rintro _ _ ⟨b,hb,rfl,rfl⟩
 simp -implicitDefEqProofs only[aA,seval]
 have hb0:j6≠b:=by rintro rfl;rw[hT] at hb;cases hb
 have a1Q:=a45 l _ [.pptr (.slice (p.map bB)),.pptr (.str key)] (fun i=> !q9 p key i) b h9 (st.aC b (.cells (l.map nv))) (aB.aP _ _ _) (fun x hx cs=>aV7 hp key x (hlt x hx) _ (by rw[c7,aB.aJ _ _ hb0];exact hT))
 refine(a1Q).mono ?_
 rintro _ _ ⟨W,rfl,rfl,hW⟩
 rw[xU] at hW ⊢
 simp -implicitDefEqProofs only[aA,seval]
 have hfl:∀L:List Nat,(L.map nv).flatMap AV.cells=L.map nv:=fun L=>by
  induction L with
  | nil=>rfl
  | cons a L ih=>simp only[aW,qS,ih];rfl
 refine⟨b,W,_,aB.aP _ _ _,b,_,by rw[aB.aP,hW,hfl],fun e he=>?_,⟨1,NR _⟩,by simp [AV.fz],by rw[c7,aB.vR _ _ _ hb]⟩
 simp only[cU] at he
 obtain⟨_,_,rfl⟩:=he
 rfl
def GW(st0 st':aB)(S c m:Nat)(p:List Cl)(q:List Tm)(idx:Bool)(fuel used:Int)(r:AV):yO→Prop
 | .go i'=>r=.int .i64 (-1)∧∃qt qc qn mx nd,dO st0 st' S c m qt qc qn p q idx fuel used mx nd i'
 | .fail i'=>XT st0 st' S c m p q idx fuel used r (hH p i'.chs.length i')
 | .stop e=>r=.int .i64 e∧∃qt qc qn mx nd i',dO st0 st' S c m qt qc qn p q idx fuel used mx nd i'
def PV(p:List Cl)(idx:Bool)(cnd:Tm→List Nat→List Nat):Prop:=cnd=if idx=true then dE p else fun _ l=>l
theorem a3W(yn:Int)(ys:ByteArray)(yts:List Tm)(st:aB):aD prog 122 [(Tm.mk 3 yn ys yts).av] st (fun r st'=>r=.bool (lX (.mk 3 yn ys yts))∧st'=st):=by
 have h:=Z7 3 yn ys yts st
 have e:(decide ((3:Int)=3)&&decide ((yts.length:Int)=0)&&decide (ys=⟨#[33]⟩))=lX (.mk 3 yn ys yts):=by
  rw[wQ]
  simp [lX,Tm.k,Tm.s,Tm.ts,and_comm]
  exact fun _=>⟨fun h=>g8 h,fun h=>I5 h⟩
 rw[e] at h
 exact h
theorem a3V(yn:Int)(ys:ByteArray)(yts:List Tm)(st:aB):aD prog 121 [(Tm.mk 3 yn ys yts).av] st (fun r st'=>r=.bool (isBuiltin ys (yts.length:Int))∧st'=st):=by
 have h:=RB 3 yn ys yts st
 rw[show(decide ((3:Int)=3)&&isBuiltin ys (yts.length:Int))=isBuiltin ys (yts.length:Int) from rfl] at h
 exact h
abbrev mA:=zi tI_3 (zi zI_3 (zi aZ (zi tI_4 (zi zI_4 (zi cG (zi tI_29 (zi zI_29 (zi fN (zi iT (zi iU (zi jK (zi tI_46 (zi zI_46 (zi dK (zi fM (zi fJ (zi fX (zi tI_66 (zi zI_66 (zi bS (zi bT (zi bU (zi bV (zi bR (zi tI_174 (zi zI_174 (zi tI_199 (zi zI_199 (zi SQ (zi SR (zi QZ (zi tI_227 (zi zI_227 (zi tI_256 (zi zI_256 (zi tI_257 (zi zI_257 (zi BY (zi MC (zi MF (zi XH (zi tI_258 (zi zI_258 (zi EM (zi MD (zi MG (zi XI (zi tI_260 (zi zI_260 (zi HP (zi HQ (zi HT (zi HU (zi HV (zi HW (zi HX (zi HY (zi HZ (zi H0 (zi HR (zi HS (zi HB (zi tI_321 (zi zI_321 (zi aMG (zi aMH (zi aMI (zi aMJ (zi ZD (zi tI_324 (zi zI_324 (zi aMK (zi aML (zi aMM ZE))))))))))))))))))))))))))))))))))))))))))))))))))))))))))))))))))))))))))
set_option maxHeartbeats 2000000 in
theorem aYJ{p:List Cl}(hp:∀c∈p,fL c∧c.2.length≤6)(hpl:p.length≤20){cnd:Tm→List Nat→List Nat}(hc:∀(ρ:Int→Int) (t:Tm) (l:List Nat),cnd (b7 ρ t) l=cnd t l)(hd:∀t l,(∀i∈cnd t l,i∈l)∧(cnd t l).length≤l.length){idx:Bool}(xU:PV p idx cnd)
 {B M k:Nat} (hB:B+26≤524288) (hM:M+520≤16777216) (hk:k+1≤524288) {st0 st:aB} {S c m:Nat} {qt qc qn:AV} {q:List Tm} {fuel used:Int} {mx:Int} {nd:List AV} {s:RS} {i:IS} {g:IG} {rest:List IG}
 (v6:idx=true→st0 j6=some nU) (h:dO st0 st S c m qt qc qn p q idx fuel used mx nd i) (hR:RI p B M k s i) (hg:i.goals=g::rest) (hu0:0≤used) (hu:used≤1000000) :
 aD prog 243 [.ptr S 0] st (fun r st'=>if used=fuel then r=.int .i64 2∧dO st0 st' S c m qt qc qn p q idx fuel used mx nd i else GW st0 st' S c m p q idx fuel (used+1) r (mK p cnd i g rest)):=by
 have hp1:=fun c h=>(hp c h).1
 obtain⟨hgd,ho,hcl,_⟩:=hR.r.facts
 obtain⟨hgo,hg3,_⟩:=hR.r.goal hg
 have hct:=hR.cut hg
 have hst:=hR.step hp hpl hc hd hB hg
 have bA7:=hR.pZ
 have hnn:=hR.n
 have hX:=hR.x
 obtain⟨rk,D,G⟩:=hgd.rs
 have hfo:=ET hgd ho hgo
 have hyk:(g.t.aM (rs i.σ)).k=3:=by rw[Tm.rK _ (by omega)];exact hg3
 have CH:=aA0 G (ho.imp fun t ht=>ht.1.2.1) (ho.imp fun t ht=>ht.1.small) c m qt g.t hgo.1.2.1 hgo.1.small
 generalize hT:mK p cnd i g rest=T at *
 unfold mK at hT
 obtain⟨⟨gk,gn,gs',gts⟩,cut,up⟩:=g
 simp only at hgo hg3 hct hfo hyk CH hT
 generalize (Tm.mk gk gn gs' gts).aM (rs i.σ)=y at *
 obtain⟨yk,yn,ys,yts⟩:=y
 obtain rfl:yk=3:=hyk
 simp only[Tm.s,Tm.ts] at hT
 have iV:=h.cell
 rw[hg,uB] at iV
 simp only[iQ] at iV
 obtain⟨t1,t2,t3,t4,t5⟩:=h.sto.shape
 obtain⟨n1,n2,n3,n4,n5⟩:=h.acC.shape
 obtain⟨m1,m2,m3,m4,m5⟩:=h.acN.shape
 obtain⟨l1,l2,l3,l4,l5,l6⟩:=p7 rest
 refine aD.nB ?_
 refine wF [1000000] 1 func243 ntmps243 rfl rfl ?_
 intro _
 simp -implicitDefEqProofs only[aA,seval]
 refine wX [(0,1),(1,1),(2,1),(3,1),(4,1),(5,1),(6,1),(7,1),(8,1)] [0,1,2,3,4,5,6,7,8] _ mixed rfl (gH iV) ?_
 simp -implicitDefEqProofs only[uN,aA,seval,mA]
 refine aS (fun h1=>?_) (fun h1=>?_)
 · have h1':used=fuel:=by simpa using h1
   simp -implicitDefEqProofs only[aA,seval]
   exact⟨st,aL.refl _,by rw[aH h1'];exact h⟩
 have h1':used≠fuel:=by simpa using h1
 have hw:=bE (n:=used+1)
 simp -implicitDefEqProofs only[aG,iV,hw,aB.aP,aA,seval,mA]
 have h2:=h.put (gl:=i.goals) (F:=i.fresh) (fuel':=fuel) (used':=used+1) (mx':=mx) rfl
 rw[hg,uB] at h2
 simp only[iQ] at h2
 generalize aB.aC st S _=V at h2 ⊢
 have sM:=h2.cell
 rw[uB] at sM
 simp only[iQ] at sM
 have hSV:=h2.sto
 have hr:=fun(s2:aB) (hs2:eR V s2)=>CH s2 ⟨hs2 _ _ hSV.sub.cells,hs2 _ _ hSV.sub.map⟩
 unfold NW at hr
 by_cases hf:eQ (.mk 3 yn ys yts)=true
 case neg=>
  rw[aE (by unfold eQ at hf;simpa using hf)] at hr
  rw[aH (by simpa using hf)] at hT
  subst hT
  simp only[aY,Tm.zero,aU] at hr
  refine wX [(0,1),(1,1),(2,1),(3,1),(4,1),(5,1),(6,1),(7,1),(8,1),(9,1),(10,1),(11,1),(12,0),(13,0),(14,1)] [0,1,2,3,4,5,6,7,8,9,10,11,14] V mixed rfl (eR.refl V) ?_
  simp -implicitDefEqProofs only[sM,aA,seval,mA]
  refine ED hr ?_
  simp -implicitDefEqProofs only[aG,aB.aP,aA,seval,mA]
  exact fun b hb=>⟨ML hb,ML hb,V,(aL.refl _).aC hb,by rw[aE h1'];exact⟨rfl,_,_,_,_,_,_,h2⟩⟩
 rw[aH (by unfold eQ at hf;simpa using hf)] at hr
 rw[aE (by rw[hf];simp)] at hT
 have hyo:=hfo hf
 simp only[aY] at hr
 have UC:prog.underlying 258=some (.slice 324):=by kernel_rfl
 refine wX [(0,1),(1,1),(2,1),(3,1),(4,1),(5,1),(6,1),(7,1),(8,1),(9,1),(10,1),(11,1),(12,0),(13,0),(14,1)] [0,1,2,3,4,5,6,7,8,9,10,11,14] V mixed rfl (eR.refl V) ?_
 simp -implicitDefEqProofs only[sM,aA,seval,mA]
 refine ED hr ?_
 simp -implicitDefEqProofs only[aG,aB.aP,aA,seval,mA]
 intro b4 h4
 refine⟨ML h4,ML h4,?_⟩
 have h40:=h2.aM7 h4
 have aN4:idx=true→(st0.aC b4 (.cells [AV.int IntKind.i64 3,AV.int IntKind.i64 yn,AV.str ys,AV.slice (List.map Tm.av yts)])) j6=some nU:=fun hi=>by
  rw[aB.aJ _ _ (by intro e;rw[←e,v6 hi] at h40;cases h40)]
  exact v6 hi
 have MY:S≠b4:=by rintro rfl;rw[sM] at h4;cases h4
 have h3:=h2.box (o:=.cells [AV.int IntKind.i64 3,AV.int IntKind.i64 yn,AV.str ys,AV.slice (List.map Tm.av yts)]) h4
 have H8:(st0.aC b4 (.cells [AV.int IntKind.i64 3,AV.int IntKind.i64 yn,AV.str ys,AV.slice (List.map Tm.av yts)])) b4=some (.cells [AV.int IntKind.i64 3,AV.int IntKind.i64 yn,AV.str ys,AV.slice (List.map Tm.av yts)]):=aB.aP _ _ _
 have hun:=fun {st' qt qc qn q idx fuel used mx nd i}=>dO.unbox (st0:=st0) (st:=st') (S:=S) (c:=c) (m:=m) (qt:=qt) (qc:=qc) (qn:=qn) (p:=p) (q:=q) (idx:=idx) (fuel:=fuel) (used:=used) (mx:=mx) (nd:=nd) (i:=i) (b:=b4) (o:=.cells [AV.int IntKind.i64 3,AV.int IntKind.i64 yn,AV.str ys,AV.slice (List.map Tm.av yts)]) (hn:=h40)
 generalize V.aC b4 (.cells [AV.int IntKind.i64 3,AV.int IntKind.i64 yn,AV.str ys,AV.slice (List.map Tm.av yts)])=W at h3 ⊢
 generalize st0.aC b4 (.cells [AV.int IntKind.i64 3,AV.int IntKind.i64 yn,AV.str ys,AV.slice (List.map Tm.av yts)])=W0 at h3 H8 hun aN4
 clear sM hSV hr h2
 have E4:=h3.cell
 rw[uB] at E4
 simp only[iQ] at E4
 have hbW:=h3.aV b4 _ H8
 have hlN:=h3.acN.len UC
 rw[h3.ndl] at hlN
 simp only at hlN
 simp -implicitDefEqProofs only[E4,hlN,m1,aA,seval]
 obtain⟨s0,z1,z2,z3⟩:=PG MY _ _
 refine wX [(0,1),(1,1),(2,1),(3,1),(4,1),(5,1),(6,1),(7,1),(8,1),(9,1),(10,1),(11,1),(12,0),(13,1),(14,1),(15,2)] [0,1,2,3,4,5,6,7,8,9,10,11,13,14] s0 mixed rfl (z3 _ E4 hbW) ?_
 simp -implicitDefEqProofs only[z1,z2,m1,aA,seval,mA]
 refine jT.append EM MD MG rfl (by decide) h3.acN rfl rfl (by rw[h3.ndl];simp only;omega) (fun qn5 s5 o9 hf hn=>?_)
 have hbo:b4∉jS S c m qt qc qn:=fun hm=>by have:=h3.new b4 hm;rw[H8] at this;cases this
 have hold:∀y o,W y=some o→y∉dW qn→s5 y=some o:=fun y o hy hq=>by
  rw[hf y hq fun hq'=>by
   rcases hn y hq' with h' | h'
   · exact hq h'
   · rw[hy] at h';cases h']
  exact hy
 have uE:=hold S _ E4 h3.parts.2.2.2.2.2.1
 have hb5:=hold b4 _ hbW fun hm=>hbo (eM.2 (.inr (.inr (.inr (.inr (.inr hm))))))
 obtain⟨m1,m2,m3,m4,m5⟩:=o9.shape
 simp -implicitDefEqProofs only[aG,uE,m4,m5,aA,seval,mA]
 refine⟨z3 _ uE hb5,?_⟩
 have h5:=h3.a5T (n':=i.nn+1) o9 (by rw[dL,h3.ndl];try rfl) (fun e he=>by
  rcases fF.1 he with he | he
  · exact h3.ndw e he
  · simp only[c8,dX,eC] at he;subst he;rfl) hf hn rfl
 rw[uB] at h5
 simp only[iQ] at h5
 generalize aB.aC s5 S _=W5 at h5 ⊢
 clear uE hb5 hold hf hn E4 hbW
 have lA:=h5.cell
 rw[uB] at lA
 simp only[iQ] at lA
 have hb6:=h5.aV b4 _ H8
 have aNS:=a3W yn ys yts
 have aNO:=a3V yn ys yts
 simp only[aY] at aNS aNO
 simp -implicitDefEqProofs only[hb6,aA,seval]
 refine(aNS _).to ?_
 simp -implicitDefEqProofs only[aA,seval]
 refine aS (fun hcu=>?_) (fun hcu=>?_)
 · simp only[hcu,gB] at hT
   subst hT
   simp -implicitDefEqProofs only[lA,aA,seval,mA]
   have hsl:=fun(φ:AF) (dd:Nat) (h:φ dd=.int .i64 (cut:Int))=>aQR BY h5.acC h (by rw[aF];exact hct)
   have hQ:=(h5.acC.take (k:=cut) (by rw[aF];exact hct) (UJ _)).shape
   obtain⟨c1,c2,c3,c4,c5⟩:=hQ
   obtain⟨s1,y1,y2,y3⟩:=PG MY _ _
   refine wX [(0,1),(1,1),(2,1),(3,1),(4,1),(5,1),(6,1),(7,1),(8,1),(9,1),(10,1),(11,1),(12,2)] [0,1,2,3,4,5,6,7,8,9,10,11] s1 mixed rfl (y3 _ lA hb6) ?_
   simp -implicitDefEqProofs only[aG,y1,lA,hsl,c4,c5,n1,l1,l2,l4,l5,aB.aP,aA,seval,mA]
   refine⟨_,aL.refl _,?_⟩
   rw[aE h1']
   have h6:=h5.aB0 (k:=cut) (gl:=rest) hct rfl
   exact⟨rfl,_,_,_,_,_,hun h6⟩
 simp only[hcu,jC,dI] at hT
 simp -implicitDefEqProofs only[hb6,aA,seval,mA]
 refine(aNO _).to ?_
 simp -implicitDefEqProofs only[aA,seval]
 refine aS (fun hbl=>?_) (fun hbl=>?_)
 · simp only[hbl,gB] at hT
   have hks:∀x∈yts,bF i.fresh x:=rL _ (.mk 3 yn ys yts) (show(3:Int)≠1 by decide) hyo
   have IA:=aVU hgd ho yn ys yts hbl hks c m qt i.tr W5 h5.sto (by have:=hX.W9;have:=hX.phi;omega)
   simp only[aY] at IA
   replace hT:(if(dH i.σ ys yts).1=0 then yO.go { goals:=rest,σ:=(dH i.σ ys yts).2.1,tr:=i.tr++(dH i.σ ys yts).2.2,chs:=i.chs,fresh:=i.fresh,nn:=i.nn+1 } else if(dH i.σ ys yts).1=1 then yO.fail { goals:=i.goals,σ:=(dH i.σ ys yts).2.1,tr:=i.tr++(dH i.σ ys yts).2.2,chs:=i.chs,fresh:=i.fresh,nn:=i.nn+1 } else yO.stop (sK (dH i.σ ys yts).1))=T:=hT
   generalize z7:dH i.σ ys yts=Z at IA hT
   obtain⟨code,σ',add⟩:=Z
   simp only at hT
   obtain⟨s1,y1,y2,y3⟩:=PG MY _ _
   refine wX [(0,1),(1,1),(2,1),(3,1),(4,1),(5,0),(6,1)] [0,1,2,3,4,6] s1 mixed rfl (y3 _ lA hb6) ?_
   simp -implicitDefEqProofs only[y1,y2,aA,seval,mA]
   refine IA.mono ?_
   rintro _ s6 ⟨rfl,hP⟩
   obtain⟨qt6,h6⟩:=h5.post hP
   have oM:=h6.cell
   rw[uB] at oM
   simp only[iQ] at oM
   have hb7:=h6.aV b4 _ H8
   obtain⟨t1,t2,t3,t4,t5⟩:=h6.sto.shape
   simp -implicitDefEqProofs only[aA,seval]
   refine⟨y3 _ oM hb7,?_⟩
   refine aS (fun hc0=>?_) (fun hc0=>?_)
   · have TD:code=0:=by simpa using hc0
     rw[aH TD] at hT
     subst hT
     simp -implicitDefEqProofs only[aG,oM,l1,l2,l4,l5,aA,seval,mA]
     refine⟨_,aL.refl _,?_⟩
     rw[aE h1']
     exact⟨rfl,_,_,_,_,_,hun (h6.put (gl:=rest) (F:=i.fresh) (fuel':=fuel) (used':=used+1) (mx':=mx) rfl)⟩
   have TD:code≠0:=by simpa using hc0
   rw[aE TD] at hT
   simp -implicitDefEqProofs only[aA,seval]
   refine aS (fun hc1=>?_) (fun hc1=>?_)
   · have TE:code=1:=by simpa using hc1
     rw[aH TE] at hT
     subst hT
     simp only at hst
     rw[←hg] at h6
     have hbk:=LS hp (M:=M+520) (by omega) _ _ _ _ _ _ ({ goals:=i.goals,σ:=σ',tr:=i.tr++add,chs:=i.chs,fresh:=i.fresh,nn:=i.nn+1 }:IS) s.chs (T:=hH p (({ goals:=i.goals,σ:=σ',tr:=i.tr++add,chs:=i.chs,fresh:=i.fresh,nn:=i.nn+1 }:IS)).chs.length ({ goals:=i.goals,σ:=σ',tr:=i.tr++add,chs:=i.chs,fresh:=i.fresh,nn:=i.nn+1 }:IS)) ⟨h6,hst.1,hst.2.1,rfl,⟨by rw[hst.1.len];have:=hR.a.a.pZ;omega,lF hst.2.2.1 (by omega)⟩⟩
     simp -implicitDefEqProofs only[aA,seval]
     refine hbk.mono ?_
     rintro r s7 hr
     simp -implicitDefEqProofs only[aA,seval]
     refine⟨s7,aL.refl _,?_⟩
     rw[aE h1']
     simp only[GW]
     cases hB2:hH p (({ goals:=i.goals,σ:=σ',tr:=i.tr++add,chs:=i.chs,fresh:=i.fresh,nn:=i.nn+1 }:IS)).chs.length ({ goals:=i.goals,σ:=σ',tr:=i.tr++add,chs:=i.chs,fresh:=i.fresh,nn:=i.nn+1 }:IS) with
     | none=>
      rw[hB2] at hr
      obtain⟨e1,qt7,qc7,qn7,mx7,nd7,i7,h7⟩:=hr
      exact⟨e1,_,_,_,_,_,_,hun h7⟩
     | some i7=>
      rw[hB2] at hr
      obtain⟨e1,qt7,qc7,qn7,mx7,nd7,h7⟩:=hr
      exact⟨e1,_,_,_,_,_,hun h7⟩
   have TE:code≠1:=by simpa using hc1
   rw[aE TE] at hT
   subst hT
   simp -implicitDefEqProofs only[aA,seval]
   refine(aVZ code _).to ?_
   simp -implicitDefEqProofs only[aA,seval]
   refine⟨_,aL.refl _,?_⟩
   rw[aE h1']
   exact⟨rfl,_,_,_,_,_,_,hun h6⟩
 simp only[hbl,jC,dI] at hT
 have hpr:=aAY 3 yn ys yts
 have hcf:=aVW p (.mk 3 yn ys yts) (by omega)
 simp only[aY,Tm.s,Tm.ts] at hpr hcf
 obtain⟨s1,y1,y2,y3⟩:=PG MY _ _
 simp -implicitDefEqProofs only[aA,seval]
 refine wX [(0,1),(1,1),(2,1),(3,1),(4,1),(5,0),(6,0),(7,1)] [0,1,2,3,4,7] s1 mixed rfl (y3 _ lA hb6) ?_
 simp -implicitDefEqProofs only[y1,y2,aA,seval,mA]
 refine(hpr _).to ?_
 simp -implicitDefEqProofs only[aA,seval]
 refine⟨y3 _ lA hb6,?_⟩
 refine(hcf _).to ?_
 simp -implicitDefEqProofs only[aF,aA,seval,mA]
 refine⟨y3 _ lA hb6,?_⟩
 refine aS (fun hl0=>?_) (fun hl0=>?_)
 · have qD:dG p (.mk 3 yn ys yts)= []:=by simpa using hl0
   rw[aH qD] at hT
   subst hT
   simp -implicitDefEqProofs only[aA,seval]
   refine⟨_,aL.refl _,?_⟩
   rw[aE h1']
   exact⟨rfl,_,_,_,_,_,_,hun h5⟩
 have qD:dG p (.mk 3 yn ys yts)≠[]:=by simpa using hl0
 rw[aE qD] at hT
 have hfl:=a0Q p (.mk 3 yn ys yts)
 have h5':=h5
 rw[←hg] at h5'
 have E7:=fun(l:List Nat) (hl:∀i∈l,i<p.length) (h20:l.length≤p.length)=>aBC hp (M:=M+520) (by omega) h5' (.mk 3 yn ys yts) i.nn rest l hgd ho hyo hl (by omega) (by simp only;omega) (hX.up (Nat.le_add_right M 520)).node (by have:=hX.phi;simp only;omega) (by simp only;omega) (by simp only;omega)
 have fD:=fun st hT=>aV6 hp hyo (dG p (.mk 3 yn ys yts)) qD (SX _ _) (by omega) st hT
 have hpW:=fun hi=>h5.aV j6 _ (aN4 hi)
 have hds:=hd (.mk 3 yn ys yts) (dG p (.mk 3 yn ys yts))
 simp only[aY] at E7 fD
 obtain rfl:cnd=if idx=true then dE p else fun _ l=>l:=xU
 cases idx with
 | false=>
  simp only[jC,dI] at hT
  simp -implicitDefEqProofs only[lA,aA,seval,mA]
  have htr:=E7 (dG p (.mk 3 yn ys yts)) (SX _ _) (hfl)
  refine wX [(0,1),(1,1),(2,1),(3,1),(4,1),(5,1),(6,1),(7,1),(8,2)] [0,1,2,3,4,5,6,7] s1 mixed rfl (y3 _ lA hb6) ?_
  simp -implicitDefEqProofs only[y2,l1,l2,aA,seval,mA]
  refine htr.mono ?_
  rintro _ s6 ⟨rfl,qt6,qc6,mx6,nd6,h6⟩
  simp -implicitDefEqProofs only[aA,seval]
  refine aS (fun ht0=>?_) (fun ht0=>?_)
  · simp only[ht0,gB] at hT
    subst hT
    simp -implicitDefEqProofs only[aA,seval]
    refine⟨_,aL.refl _,?_⟩
    rw[aE h1']
    exact⟨rfl,_,_,_,_,_,hun h6⟩
  simp only[ht0,jC,dI] at hT
  subst hT
  simp only at hst
  have hbk:=LS hp (M:=M+520) (by omega) _ _ _ _ _ _ (gK p (.mk 3 yn ys yts) i.nn rest (dG p (.mk 3 yn ys yts)) { i with nn:=i.nn+1 }).2 s.chs (T:=hH p ((gK p (.mk 3 yn ys yts) i.nn rest (dG p (.mk 3 yn ys yts)) { i with nn:=i.nn+1 }).2).chs.length (gK p (.mk 3 yn ys yts) i.nn rest (dG p (.mk 3 yn ys yts)) { i with nn:=i.nn+1 }).2) ⟨h6,hst.1,hst.2.1,rfl,⟨by rw[hst.1.len];have:=hR.a.a.pZ;omega,lF hst.2.2.1 (by omega)⟩⟩
  simp -implicitDefEqProofs only[aA,seval]
  refine hbk.mono ?_
  rintro r s7 hr
  simp -implicitDefEqProofs only[aA,seval]
  refine⟨s7,aL.refl _,?_⟩
  rw[aE h1']
  simp only[GW]
  cases hB2:hH p ((gK p (.mk 3 yn ys yts) i.nn rest (dG p (.mk 3 yn ys yts)) { i with nn:=i.nn+1 }).2).chs.length (gK p (.mk 3 yn ys yts) i.nn rest (dG p (.mk 3 yn ys yts)) { i with nn:=i.nn+1 }).2 with
  | none=>
   rw[hB2] at hr
   obtain⟨e1,qt7,qc7,qn7,mx7,nd7,i7,h7⟩:=hr
   exact⟨e1,_,_,_,_,_,_,hun h7⟩
  | some i7=>
   rw[hB2] at hr
   obtain⟨e1,qt7,qc7,qn7,mx7,nd7,h7⟩:=hr
   exact⟨e1,_,_,_,_,_,hun h7⟩
 | true=>
  simp only[eq_self,gB] at hT hds
  simp -implicitDefEqProofs only[lA,aA,seval,mA]
  refine wX [(0,1),(1,1),(2,1),(3,1),(4,1),(5,1),(6,0),(7,1)] [0,1,2,3,4,5,7] s1 mixed rfl (y3 _ lA hb6) ?_
  simp -implicitDefEqProofs only[y1,y2,aA,seval,mA]
  refine(fD _ (hpW rfl)).to ?_
  simp -implicitDefEqProofs only[aA,seval]
  refine⟨y3 _ lA hb6,?_⟩
  have htr:=E7 (dE p (.mk 3 yn ys yts) (dG p (.mk 3 yn ys yts))) ((fun x hx=>SX _ _ x (hds.1 x hx))) ((lF hds.2 hfl))
  refine wX [(0,1),(1,1),(2,1),(3,1),(4,1),(5,1),(6,1),(7,1),(8,2)] [0,1,2,3,4,5,6,7] s1 mixed rfl (y3 _ lA hb6) ?_
  simp -implicitDefEqProofs only[y2,l1,l2,aA,seval,mA]
  refine htr.mono ?_
  rintro _ s6 ⟨rfl,qt6,qc6,mx6,nd6,h6⟩
  simp -implicitDefEqProofs only[aA,seval]
  refine aS (fun ht0=>?_) (fun ht0=>?_)
  · simp only[ht0,gB] at hT
    subst hT
    simp -implicitDefEqProofs only[aA,seval]
    refine⟨_,aL.refl _,?_⟩
    rw[aE h1']
    exact⟨rfl,_,_,_,_,_,hun h6⟩
  simp only[ht0,jC,dI] at hT
  subst hT
  simp only at hst
  have hbk:=LS hp (M:=M+520) (by omega) _ _ _ _ _ _ (gK p (.mk 3 yn ys yts) i.nn rest (dE p (.mk 3 yn ys yts) (dG p (.mk 3 yn ys yts))) { i with nn:=i.nn+1 }).2 s.chs (T:=hH p ((gK p (.mk 3 yn ys yts) i.nn rest (dE p (.mk 3 yn ys yts) (dG p (.mk 3 yn ys yts))) { i with nn:=i.nn+1 }).2).chs.length (gK p (.mk 3 yn ys yts) i.nn rest (dE p (.mk 3 yn ys yts) (dG p (.mk 3 yn ys yts))) { i with nn:=i.nn+1 }).2) ⟨h6,hst.1,hst.2.1,rfl,⟨by rw[hst.1.len];have:=hR.a.a.pZ;omega,lF hst.2.2.1 (by omega)⟩⟩
  simp -implicitDefEqProofs only[aA,seval]
  refine hbk.mono ?_
  rintro r s7 hr
  simp -implicitDefEqProofs only[aA,seval]
  refine⟨s7,aL.refl _,?_⟩
  rw[aE h1']
  simp only[GW]
  cases hB2:hH p ((gK p (.mk 3 yn ys yts) i.nn rest (dE p (.mk 3 yn ys yts) (dG p (.mk 3 yn ys yts))) { i with nn:=i.nn+1 }).2).chs.length (gK p (.mk 3 yn ys yts) i.nn rest (dE p (.mk 3 yn ys yts) (dG p (.mk 3 yn ys yts))) { i with nn:=i.nn+1 }).2 with
  | none=>
   rw[hB2] at hr
   obtain⟨e1,qt7,qc7,qn7,mx7,nd7,i7,h7⟩:=hr
   exact⟨e1,_,_,_,_,_,_,hun h7⟩
  | some i7=>
   rw[hB2] at hr
   obtain⟨e1,qt7,qc7,qn7,mx7,nd7,h7⟩:=hr
   exact⟨e1,_,_,_,_,_,hun h7⟩


abbrev aRT:=zi tI_3 (zi zI_3 (zi aZ (zi tI_46 (zi zI_46 (zi dK (zi fM (zi fJ (zi fX (zi tI_66 (zi zI_66 (zi bS (zi bT (zi bU (zi bV bR))))))))))))))
theorem aYD(vars:List Int)(n:Int)(st:aB):aD prog 219 [.int .i64 n,.pptr (.slice (vars.map iv))] st (fun r st'=>r=(vr (fO n vars 0)).av∧st'=st):=by
 refine aD.done ?_
 refine wF [1000000] 2 func219 ntmps219 rfl rfl ?_
 intro _
 simp -implicitDefEqProofs only[aA,seval,aRT]
 intro b hb
 refine(ZW vars n _).to ?_
 simp -implicitDefEqProofs only[aA,seval]
 refine(R5 _ _).to ?_
 simp -implicitDefEqProofs only[aG,cB,bY,fB (bY _),eX (a7 _),aA,seval,aRT]
 exact⟨Tm.soft _,(aL.refl _).aC hb⟩
abbrev WJ:=zi tI_3 (zi zI_3 (zi aZ (zi tI_31 (zi zI_31 (zi aO (zi bH (zi bJ (zi bZ (zi tI_46 (zi zI_46 (zi dK (zi fM (zi fJ (zi fX (zi tI_66 (zi zI_66 (zi bS (zi bT (zi bU (zi bV bR))))))))))))))))))))
theorem aYC(l:List Tm)(hln:l.length≤1048576)(hsz:aR Tm.nodes l≤1099511627776)(hsm:∀t∈l,t.small=true)(st:aB):aD prog 148 [.slice (l.map Tm.av)] st (fun r st'=>r=.slice ((qN l).map Tm.av)∧st'=st):=by
 refine aD.done ?_
 refine wF [1000000] 1 func148 ntmps148 rfl rfl ?_
 simp only[d5,AV.fits,d9,aF]
 intro ⟨hl,_⟩
 simp -implicitDefEqProofs only[aA,seval]
 refine(R6 l _ hsz).to ?_
 simp -implicitDefEqProofs only[aF,aA,↓aX,seval,WJ]
 generalize hv:cD l []=vars
 have hR:qN l=l.map fun t=>t.aM fun v=>vr (fO v vars 0):=by rw[←hv];try rfl
 rw[hR]
 refine tE (σ:=Unit) [1000000] [2,3,9,10] (l) 4 4 (fun i _=>(((l).take i).map (fun t=>t.aM fun v=>vr (fO v vars 0))).map Tm.av) (fun _ _=>True) (fun i _=>[(11,.int .i64 i)]) (fun _ _=>st) (fun i _ _ e he=>by simp only[cU] at he;obtain⟨t,_,rfl⟩:=he;exact⟨cM t,aK t⟩) (by decide +kernel) ⟨(),0,trivial,fun h=>absurd rfl h,aN.mk (by simp -implicitDefEqProofs only[kB,j9,aU,aA,↓aX,seval])⟩ (fun i x s b hx hlt bQ hdr hinv hb=>?_) (fun s b hge hinv=>?_)
 case refine_1=>
  have hw:=bE (n:=(i:Int)+1)
  have dA:((((l).take i).map (fun t=>t.aM fun v=>vr (fO v vars 0))).map Tm.av).length=i:=by simp only[aF,dQ];omega
  have htk:((((l).take i).map (fun t=>t.aM fun v=>vr (fO v vars 0))).map Tm.av)++ [Tm.av ((fun t=>t.aM fun v=>vr (fO v vars 0)) x)]=(((l).take (i+1)).map (fun t=>t.aM fun v=>vr (fO v vars 0))).map Tm.av:=by rw[fS,hx];simp
  have hat:=bO (av:=Tm.av) aO hx (aK x)
  simp -implicitDefEqProofs only[bQ,hat,aA,↓aX,seval,WJ]
  refine(RP (fun v=>vr (fO v vars 0)) _ [.pptr (.slice (vars.map iv))] rfl x _ (hsm x (cJ hx)) (fun n _ s=>aYD vars n s)).to ?_
  simp -implicitDefEqProofs only[aA,seval,WJ]
  refine fG aO bH bJ rfl rfl (gA (aK _) (cB _)) (by intro e he;simp only[cU] at he;obtain⟨t,_,rfl⟩:=he;exact aK t) hb (by simp only[dA,aQ,bA];omega) (by simp only[dA,aQ,bA];omega) (fun b' hb'=>?_)
  rw[htk] at hb' ⊢
  simp -implicitDefEqProofs only[aA,seval]
  exact⟨(),b',hb',aN.mk (by simp -implicitDefEqProofs only[hw,aA,seval])⟩
 simp -implicitDefEqProofs only[hge,eT,jB,o7,B4,mI,eN,aA,seval]
 exact⟨rfl,aL.refl _⟩
def XK:Option (List Tm)→AV
 | none=>.tup [.slice [],.bool false]
 | some l=>.tup [.slice (l.map Tm.av),.bool true]
theorem aPO:∀ {l:List Tm},(∀t∈l,t.nodes≤120)→aR Tm.nodes l≤120*l.length
 | [],_=>by simp [aR]
 | t::l,h=>by
  have h1:=h t (by simp)
  have h2:=aPO (l:=l) fun x hx=>h x (by simp [hx])
  simp only[aR,aQ];omega
abbrev JV:=zi tI_3 (zi zI_3 (zi aZ (zi tI_4 (zi zI_4 (zi cG (zi tI_31 (zi zI_31 (zi aO (zi bH (zi bJ (zi bZ (zi tI_46 (zi zI_46 (zi dK (zi fM (zi fJ (zi fX (zi tI_66 (zi zI_66 (zi bS (zi bT (zi bU (zi bV (zi bR (zi tI_227 zI_227)))))))))))))))))))))))))
theorem aYP{N:Nat}{σ:Sub}(hg:cT σ)(ho:cW (bF N) σ)(vars:List Int)(hv:∀v∈vars,0≤v∧v<(N:Int))(hl:vars.length≤1000)(c m:Nat)(q:AV)(st:aB)(hS:jN st c m q σ) :
 aD prog 244 [.ptr c 0,.slice (vars.map iv)] st (fun r st'=>r=XK (kC σ vars)∧st'=st):=by
 obtain⟨rk,B,G⟩:=hg.rs
 have CH:=fun(t:Tm) (ht:bF N t) st hS=>aA0 G (ho.imp fun t ht=>ht.1.2.1) (ho.imp fun t ht=>ht.1.small) c m q t ht.1.2.1 ht.1.small st hS
 refine aD.done ?_
 refine wF [1000000] 2 func244 ntmps244 rfl rfl ?_
 intro _
 simp -implicitDefEqProofs only[aF,aA,seval,JV]
 refine tE (σ:=Unit) [1000000] [0,11,12] vars 4 6 (fun i _=>((vars.take i).map (rs σ)).map Tm.av) (fun i _=>((vars.take i).map (rs σ)).all eQ=true) (fun i _=>[(4,.fslice []),(5,.bool false),(13,.int .i64 i)]) (fun _ _=>st) (fun i _ _ e he=>by simp only[cU] at he;obtain⟨t,_,rfl⟩:=he;exact⟨cM _,aK _⟩) (by decide +kernel) ⟨(),0,rfl,fun h=>absurd rfl h,aN.mk (by simp -implicitDefEqProofs only[kB,j9,aU,aA,↓aX,seval])⟩ (fun i x s b hx hlt bQ hdr hinv hb=>?_) (fun s b hge hinv=>?_)
 · have hw:=bE (n:=(i:Int)+1)
   have hxm:=cJ hx
   obtain⟨hx0,hx1⟩:=hv x hxm
   have hvr:bF N (vr x):=⟨I6 hx0 hx1,by rw[vr,Tm.iI];simp [aR]⟩
   have hat:dM prog 46 (.slice (vars.map iv)) (.int .i64 (i:Int))=some (.pptr (.int .i64 x)):=bO (av:=iv) dK hx rfl
   have dA:(((vars.take i).map (rs σ)).map Tm.av).length=i:=by simp only[aF,dQ];omega
   have dN:((vars.take (i+1)).map (rs σ)).all eQ=eQ (rs σ x):=by
    rw[fS,hx]
    simp only[DS,oC,aW,aU,DO,hinv,lE,List.all_nil,DM,fP]
   have hr:=CH (vr x) hvr _ (hS.acc hb)
   rw[x7] at hr
   unfold NW at hr
   simp -implicitDefEqProofs only[bQ,hat,aA,seval,JV]
   refine(R5 x _).to ?_
   simp -implicitDefEqProofs only[aA,seval]
   by_cases hf:eQ (rs σ x)=true
   · rw[aH (by unfold eQ at hf;simpa using hf)] at hr
     refine hr.to ?_
     simp -implicitDefEqProofs only[a7,aK,cB,cM,aA,↓aX,seval,JV]
     refine fG aO bH bJ rfl rfl (gA (aK _) (cB _)) (eD _) hb (by simp only[dA,aQ,bA];omega) (by simp only[dA,aQ,bA];omega) (fun b' hb'=>?_)
     rw[show(((vars.take i).map (rs σ)).map Tm.av)++ [(rs σ x).av]=((vars.take (i+1)).map (rs σ)).map Tm.av by rw[fS,hx];simp] at hb' ⊢
     simp -implicitDefEqProofs only[hw,aA,seval]
     exact⟨(),b',by rw[dN];exact hf,hb',aN.mk (by simp -implicitDefEqProofs only[aA,seval])⟩
   · rw[aE (by unfold eQ at hf;simpa using hf)] at hr
     refine hr.to ?_
     simp -implicitDefEqProofs only[aK,cB,cM,aA,↓aX,seval,JV]
     have rC:kC σ vars=none:=by
      unfold kC
      rw[aE]
      rintro⟨h1,_⟩
      exact hf (eW.1 h1 _ (cU.2 ⟨x,hxm,rfl⟩))
     rw[rC]
     exact⟨rfl,aL.a8 (aL.refl _) hb⟩
 · rw[eN] at hinv
   have hok:∀t∈vars.map (rs σ),bF N t:=fun t ht=>by
    obtain⟨v,hvm,rfl⟩:=cU.1 ht
    have hf:=eW.1 hinv _ ht
    unfold eQ at hf
    simp only[cK,bL] at hf
    exact⟨G.mN ho.mN v (hv v hvm).1 (hv v hvm).2,hf.2⟩
   have hsz:aR Tm.nodes (vars.map (rs σ))≤1099511627776:=by
    have:=aPO (l:=vars.map (rs σ)) fun t ht=>(hok t ht).2
    rw[aF] at this
    omega
   simp -implicitDefEqProofs only[hge,eT,q7,jB,o7,H1,mI,eN,aA,seval]
   refine(R6 (vars.map (rs σ)) _ hsz).to ?_
   simp -implicitDefEqProofs only[aF,aF,aA,seval,JV]
   refine aS (fun h=>?_) (fun h=>?_)
   · simp -implicitDefEqProofs only[aA,seval]
     have h':¬(cD (vars.map (rs σ)) []).length≤26:=by simp at h;omega
     unfold kC
     rw[aE (fun hh=>h' hh.2)]
     exact⟨rfl,aL.refl _⟩
   · simp -implicitDefEqProofs only[aA,seval]
     have h':(cD (vars.map (rs σ)) []).length≤26:=by simp at h;omega
     refine(aYC (vars.map (rs σ)) (by rw[aF];omega) hsz (fun t ht=>(hok t ht).1.small) _).to ?_
     simp -implicitDefEqProofs only[aA,seval]
     unfold kC
     rw[aH ⟨hinv,h'⟩]
     exact⟨rfl,aL.refl _⟩
abbrev aR0:=zi tI_3 (zi zI_3 (zi aZ (zi tI_4 (zi zI_4 (zi cG (zi tI_26 (zi zI_26 (zi nD (zi sG (zi sJ (zi uU (zi tI_29 (zi zI_29 (zi fN (zi iT (zi iU (zi jK (zi tI_31 (zi zI_31 (zi aO (zi bH (zi bJ (zi bZ (zi tI_174 (zi zI_174 (zi tI_256 (zi zI_256 (zi tI_260 (zi zI_260 (zi HP (zi HQ (zi HT (zi HU (zi HV (zi HW (zi HX (zi HY (zi HZ (zi H0 (zi HR (zi HS HB)))))))))))))))))))))))))))))))))))))))))
theorem aX6(p:List Cl)(q:List Tm)(fuel:Int)(idx:Bool)(hq:q.length≤1048576)(st:aB) :
 aD prog 162 [.slice (p.map bB),.slice (q.map Tm.av),.int .i64 fuel,.bool idx] st (fun r st'=>∃S c m,r=.ptr S 0∧dO st st' S c m (.fslice []) (.fslice []) (.fslice []) p q idx fuel 0 0 [] (pC q)):=by
 have CG:=fun st=>RT q 0 (-1) [] hq st
 simp only[gI] at CG
 rw[eY] at CG
 refine wF [1000000,16] 4 func162 ntmps162 rfl rfl ?_
 intro _
 simp -implicitDefEqProofs only[aA,seval]
 refine(aX7 st).mono ?_
 rintro _ s1 ⟨c,m,rfl,hS,hQ,hc,hm⟩
 simp -implicitDefEqProofs only[aA,seval,aR0]
 intro S hS0
 have hSc:S≠c:=by rintro rfl;rw[hS.sub.cells] at hS0;cases hS0
 have hSm:S≠m:=by rintro rfl;rw[hS.sub.map] at hS0;cases hS0
 refine(CG _).to ?_
 obtain⟨l1,l2,l3,l4,l5,l6⟩:=p7 (q.map (fun t=>(⟨t,0,-1⟩:IG)))
 simp -implicitDefEqProofs only[aG,aB.aP,l4,l5,aA,seval,aR0]
 refine⟨S,c,m,rfl,?_⟩
 have hcm:c≠m:=by rintro rfl;have:=hS.sub.cells;rw[hS.sub.map] at this;cases this
 have aNE:st S=none:=by
  cases hh:st S with
  | none=>rfl
  | some o=>have:=hQ.frame S o hh hSc hSm (by simp [dR]);rw[hS0] at this;cases this
 refine⟨aB.aP _ _ _,hS.aC hSc hSm (by simp [dR]),.inl ⟨rfl,rfl⟩,.inl ⟨rfl,rfl⟩,rfl,by simp,?_,?_,?_⟩
 · simp [jS,dR,dW,hSc,hSm,hcm]
 · intro b hb
   rcases eM.1 hb with rfl | rfl | rfl | hb | hb | hb
   · exact aNE
   · exact hc
   · exact hm
   · simp [dR] at hb
   · simp [dW] at hb
   · simp [dW] at hb
 · intro b o hb
   have e1:b≠S:=by rintro rfl;rw[aNE] at hb;cases hb
   rw[aB.aJ _ _ e1]
   exact hQ.frame b o hb (by rintro rfl;rw[hc] at hb;cases hb) (by rintro rfl;rw[hm] at hb;cases hb) (by simp [dR])
theorem aVV(p:List Cl)(q:List Tm)(most fuel:Int)(st:aB) :
 aD prog 153 [.slice (p.map bB),.slice (q.map Tm.av),.int .i64 most,.int .i64 fuel] st (fun r st'=>r=.bool (sT p&&(nH q&&(decide (0≤most)&&(decide (most≤20)&&(decide (0≤fuel)&&decide (fuel≤300))))))∧st'=st):=by
 have h1:=fun st=>aWE p st
 have h2:=fun st=>aWF q st
 have h3:=fun n lo hi st=>EC n lo hi st
 refine wF [] 4 func153 ntmps153 rfl rfl ?_
 intro _
 simp -implicitDefEqProofs only[aA,seval]
 refine(h1 _).to ?_
 simp -implicitDefEqProofs only[aA,seval]
 refine cS (fun h=>?_) (fun h=>?_)
 · simp -implicitDefEqProofs only[h,aA,seval]
   refine(h2 _).to ?_
   simp -implicitDefEqProofs only[aA,seval]
   refine cS (fun h5=>?_) (fun h5=>?_)
   · simp -implicitDefEqProofs only[h5,aA,seval]
     refine(h3 _ _ _ _).to ?_
     simp -implicitDefEqProofs only[aA,seval]
     refine cS (fun h6=>?_) (fun h6=>?_)
     · simp -implicitDefEqProofs only[h6,aA,seval]
       refine(h3 _ _ _ _).to ?_
       simp -implicitDefEqProofs only[aA,seval]
       rw[←Bool.and_assoc (decide (0≤most)),h6,fP]
     · simp -implicitDefEqProofs only[h6,aA,seval]
       rw[←Bool.and_assoc (decide (0≤most)),h6]
       try rfl
   · simp -implicitDefEqProofs only[h5,aA,seval]
     rw[iF]
 · simp -implicitDefEqProofs only[h,aA,seval]
   rw[iF]
theorem aYG(st:aB):aD prog 164 [] st (fun r st'=>r=.tup []∧st'=st):=by
 refine wF [1000000] 0 func164 ntmps164 rfl rfl ?_
 intro _
 simp -implicitDefEqProofs only[aA,seval,]
structure QB where
 st:aB
 qt:AV
 qc:AV
 qn:AV
 mx:Int
 nd:List AV
 s:RS
 i:IS
 out:List (List Tm)
 b:Nat
 u:Nat
 B:Nat
 M:Nat
 e:Int
structure aTN (st0:aB) (S c m:Nat) (p:List Cl) (q:List Tm) (idx:Bool) (cnd:Tm→List Nat→List Nat) (vars:List Int) (most fuel:Nat) (T:List (List Tm)×Int) (x:QB):Prop where
 a:dO st0 x.st S c m x.qt x.qc x.qn p q idx fuel x.u x.mx x.nd x.i
 r:RI p x.B x.M x.u x.s x.i
 t:T=(x.out++(j3 p cnd vars (most - x.out.length) (fuel - x.u) x.i).1,(j3 p cnd vars (most - x.out.length) (fuel - x.u) x.i).2)
 u:x.u≤fuel
 B:x.B≤26+26*x.u
 M:x.M≤26+520*x.u
structure X3 (st0:aB) (S c m:Nat) (p:List Cl) (q:List Tm) (idx:Bool) (cnd:Tm→List Nat→List Nat) (vars:List Int) (most fuel:Nat) (T:List (List Tm)×Int) (x:QB):Prop where
 d:aL x.st st0
 b:x.out.map cI≠[]→x.st x.b=none
 l:x.out.length≤most
 g:x.e= -1→aTN st0 S c m p q idx cnd vars most fuel T x
 f:x.e≠-1→T=(x.out,x.e)
abbrev OM:=zi tI_3 (zi zI_3 (zi aZ (zi tI_4 (zi zI_4 (zi cG (zi tI_26 (zi zI_26 (zi nD (zi sG (zi sJ (zi uU (zi tI_31 (zi zI_31 (zi aO (zi bH (zi bJ (zi bZ (zi tI_46 (zi zI_46 (zi dK (zi fM (zi fJ (zi fX (zi tI_59 (zi zI_59 (zi vU (zi vI (zi tI_174 (zi zI_174 (zi tI_227 (zi zI_227 (zi tI_256 (zi zI_256 (zi tI_260 (zi zI_260 (zi HP (zi HQ (zi HT (zi HU (zi HV (zi HW (zi HX (zi HY (zi HZ (zi H0 (zi HR (zi HS HB)))))))))))))))))))))))))))))))))))))))))))))))
set_option maxHeartbeats 2000000 in
theorem aYE{p:List Cl}(hp:∀c∈p,fL c∧c.2.length≤6)(hpl:p.length≤20){cnd:Tm→List Nat→List Nat}(hc:∀(ρ:Int→Int) (t:Tm) (l:List Nat),cnd (b7 ρ t) l=cnd t l)(hd:∀t l,(∀i∈cnd t l,i∈l)∧(cnd t l).length≤l.length){idx:Bool}(xU:PV p idx cnd)
 {q:List Tm} (hq:∀t∈q,bF 26 t∧t.k=3) (h6:q.length≤6) {most fuel:Nat} (hm:most≤20) (hf:fuel≤300) {st0 st:aB} {S c m:Nat} (v6:idx=true→st0 j6=some nU) (h:dO st0 st S c m (.fslice []) (.fslice []) (.fslice []) p q idx fuel 0 0 [] (pC q)) :
 aD prog 163 [.ptr S 0,.int .i64 (most:Int),.func 164 []] st (fun r st'=>∃b s,r=.tup [bM 1 b ((j3 p cnd (cD q []) most fuel (pC q)).1.map cI),.int .i64 (j3 p cnd (cD q []) most fuel (pC q)).2]∧st'=a8 s b ((j3 p cnd (cD q []) most fuel (pC q)).1.map cI)∧((j3 p cnd (cD q []) most fuel (pC q)).1.map cI≠[]→s b=none)∧aL s st0):=by
 have hnd:aR Tm.nodes q≤1099511627776:=by
  have:=FF q fun t ht=>(hq t ht).1.2
  omega
 have hva:=fun st=>R6 q st hnd
 have hv:∀v∈cD q [],0≤v∧v<26:=fun v hv=>by
  rcases (A3 q [] fun t ht=>(hq t ht).1.1.2.1).1 hv with h | ⟨t,ht,h⟩
  · cases h
  · exact(hq t ht).1.1.2.2 v h
 have hvl:(cD q []).length≤1000:=by
  have h1:=A2 q []
  have h2:=FF q fun t ht=>(hq t ht).1.2
  simp only[bA] at h1
  omega
 have NE:=RI.start (p:=p) hq h6
 generalize hT:j3 p cnd (cD q []) most fuel (pC q)=T
 generalize cD q []=vars at *
 have hI0:X3 st0 S c m p q idx cnd vars most fuel T ⟨st,.fslice [],.fslice [],.fslice [],0,[],mQ q,pC q,[],0,0,26,26,-1⟩:=
  ⟨h.xH,by simp,kA _,fun _=>⟨h,NE,by rw[←hT];try rfl,kA _,dB _,dB _⟩,fun h=>absurd rfl h⟩
 have TG:=h.cell
 simp only[iQ] at TG
 obtain⟨l1,l2,l3,l4,l5,l6⟩:=p7 (pC q).goals
 refine wF [1000000] 3 func163 ntmps163 rfl rfl ?_
 intro _
 simp -implicitDefEqProofs only[TG,aA,seval,OM]
 refine(hva _).to ?_
 simp -implicitDefEqProofs only[aA,seval]
 clear TG l1 l2 l3 l4 l5 l6
 have hne:∀l:List IG,eL prog .neq 256 (eY l) .nilptr=some (.bool (!l.isEmpty)):=fun l=>by
  have h:prog.underlying 256=some (.pointer 321):=by kernel_rfl
  cases l with
  | nil=>rw[eY];simp only[eL,h];rfl
  | cons g l=>obtain⟨⟨k,n,s,ts⟩,cut,up⟩:=g;rw[uB];simp only[eL,h];rfl
 refine iN (σ:=QB) [1000000] [0,1,2,8] (fun x=>X3 st0 S c m p q idx cnd vars most fuel T x)
  (fun x=>[(6,.fslice []),(7,.int .i64 0),(9,bM 1 x.b (x.out.map cI)),(10,.int .i64 x.e)])
  (fun x=>a8 x.st x.b (x.out.map cI))
  (fun x=>(most - x.out.length)+(fuel - x.u)+(if x.e= -1 then 1 else 0)) (by decide +kernel) ⟨_,hI0,aN.mk (by simp -implicitDefEqProofs only[kB,aU,aA,seval])⟩ ?_
 clear hI0 h hT NE
 rintro⟨st,qt,qc,qn,mx,nd,s,i,out,b,u,B,M,e⟩ ⟨hdr,hb,hlen,hgo,iP⟩
 simp only at hdr hb hlen hgo iP
 simp only
 simp -implicitDefEqProofs only[aA,seval]
 refine aS (fun h=>?_) (fun h=>?_)
 case refine_2=>
  have h':e≠-1:=by simpa using h
  have hTe:=iP h'
  subst hTe
  simp -implicitDefEqProofs only[vD,aA,seval]
  exact⟨b,st,rfl,rfl,hb,hdr⟩
 obtain rfl:e= -1:=by simpa using h
 obtain⟨ha,hR,ht,hu,hBB,hMM⟩:=hgo rfl
 simp only at ha hR ht hu hBB hMM
 have hb0:out.map cI≠[]→st0 b=none:=fun h=>(hdr b).1 (hb h)
 have hA:=ha.acc hb
 have a2U:idx=true→a8 st0 b (out.map cI) j6=some nU:=fun hi=>by
  by_cases hl:out.map cI= []
  · rw[hl];exact v6 hi
  · rw[pU (by rintro rfl;have:=hb0 hl;rw[v6 hi] at this;cases this)];exact v6 hi
 have hlo:(out.map cI).length=out.length:=aF _
 have hun:prog.underlying 26=some (.slice 59):=by kernel_rfl
 have vY:=vE (w:=1) (b:=b) (l:=out.map cI) hun
 rw[hlo] at vY
 have NF:∀l:List (List Tm),∀e∈l.map cI,e.width=1:=fun l e he=>by simp only[cU] at he;obtain⟨t,_,rfl⟩:=he;rfl
 have iV:=hA.cell
 simp only[iQ] at iV
 obtain⟨l1,l2,l3,l4,l5,l6⟩:=p7 i.goals
 have oO:=hne i.goals
 simp -implicitDefEqProofs only[aA,seval]
 refine(aYG _).to ?_
 simp -implicitDefEqProofs only[iV,l1,oO,aA,seval,OM]
 cases hg:i.goals with
 | cons g rest=>
  rw[hg] at oO
  simp only[List.isEmpty_cons,oU] at oO
  refine aS (fun h2=>?_) (fun h2=>absurd h2 (by first | rw[hg];simp | simp))
  simp -implicitDefEqProofs only[aA,seval]
  rw[a3G hg] at ht
  have jH:=aYJ hp hpl hc hd xU (B:=B) (M:=M) (k:=u) (by omega) (by omega) (by omega) a2U hA hR hg (by omega) (by omega)
  have hRs:=hR.step hp hpl hc hd (by omega) hg
  have hse:=a3K (p:=p) (cnd:=cnd) (i:=i) (g:=g) (rest:=rest)
  refine jH.mono ?_
  clear jH
  rintro r s2 hr
  split at hr
  · rename_i hfu
    obtain⟨rfl,hA2⟩:=hr
    obtain⟨s3,rfl,hb3,hA3⟩:=hA2.DG hb0
    rw[aH (by omega)] at ht
    simp -implicitDefEqProofs only[aA,seval]
    exact⟨⟨s3,qt,qc,qn,mx,nd,s,i,out,b,u,B,M,2⟩,by simp,⟨hA3.xH,hb3,hlen,fun h=>absurd h (by simp),fun _=>by rw[ht];simp⟩,aN.mk (by simp -implicitDefEqProofs only[aA,seval])⟩
  · rename_i hfu
    have bBA:u<fuel:=by omega
    rw[aE (by omega)] at ht
    cases hS:mK p cnd i g rest with
    | stop e=>
     rw[hS] at hr ht hse
     simp only[X5] at hse
     simp only at ht
     obtain⟨rfl,qt2,qc2,qn2,mx2,nd2,i2,hA2⟩:=hr
     obtain⟨s3,rfl,hb3,hA3⟩:=hA2.DG hb0
     simp -implicitDefEqProofs only[aA,seval]
     exact⟨⟨s3,qt,qc,qn,mx,nd,s,i,out,b,u,B,M,e⟩,by simp [hse],⟨hA3.xH,hb3,hlen,fun h=>absurd h hse,fun _=>by rw[ht];simp⟩,aN.mk (by simp -implicitDefEqProofs only[aA,seval])⟩
    | go i'=>
     rw[hS] at hr ht hRs
     simp only at ht hRs
     obtain⟨s',hR'⟩:=hRs
     obtain⟨rfl,qt2,qc2,qn2,mx2,nd2,hA2⟩:=hr
     obtain⟨s3,rfl,hb3,hA3⟩:=hA2.DG hb0
     simp -implicitDefEqProofs only[aA,seval]
     exact⟨⟨s3,qt2,qc2,qn2,mx2,nd2,s',i',out,b,u+1,B+26,M+520,-1⟩,by simp;omega,⟨hA3.xH,hb3,hlen,fun _=>⟨hA3,hR',by rw[ht,Nat.sub_sub],by simp only;omega,by simp only;omega,by simp only;omega⟩,fun h=>absurd rfl h⟩,aN.mk (by simp -implicitDefEqProofs only[aA,seval])⟩
    | fail i'=>
     rw[hS] at hr ht hRs
     simp only[GW] at ht hRs hr
     obtain⟨_,_,_,hRb⟩:=hRs
     cases hbk:hH p i'.chs.length i' with
     | none=>
      rw[hbk] at hr ht
      simp only at ht
      obtain⟨rfl,qt2,qc2,qn2,mx2,nd2,i2,hA2⟩:=hr
      obtain⟨s3,rfl,hb3,hA3⟩:=hA2.DG hb0
      simp -implicitDefEqProofs only[aA,seval]
      exact⟨⟨s3,qt,qc,qn,mx,nd,s,i,out,b,u,B,M,0⟩,by simp,⟨hA3.xH,hb3,hlen,fun h=>absurd h (by simp),fun _=>by rw[ht];simp⟩,aN.mk (by simp -implicitDefEqProofs only[aA,seval])⟩
     | some i2=>
      rw[hbk] at hr ht
      simp only at ht
      obtain⟨s',hR'⟩:=hRb i2 hbk
      obtain⟨rfl,qt2,qc2,qn2,mx2,nd2,hA2⟩:=hr
      obtain⟨s3,rfl,hb3,hA3⟩:=hA2.DG hb0
      simp -implicitDefEqProofs only[aA,seval]
      exact⟨⟨s3,qt2,qc2,qn2,mx2,nd2,s',i2,out,b,u+1,B+26,M+520,-1⟩,by simp;omega,⟨hA3.xH,hb3,hlen,fun _=>⟨hA3,hR',by rw[ht,Nat.sub_sub],by simp only;omega,by simp only;omega,by simp only;omega⟩,fun h=>absurd rfl h⟩,aN.mk (by simp -implicitDefEqProofs only[aA,seval])⟩
 | nil=>
  rw[hg] at oO
  simp only[List.isEmpty_nil,nM] at oO
  refine aS (fun h2=>absurd h2 (by first | rw[hg];simp | simp)) (fun h2=>?_)
  simp -implicitDefEqProofs only[vY,aA,seval]
  rw[a3H hg] at ht
  refine aS (fun h2=>?_) (fun h2=>?_)
  · have h':out.length=most:=by simp at h2;omega
    rw[aH (by omega)] at ht
    simp -implicitDefEqProofs only[vD,aA,seval]
    have hTe:T=(out,1):=by rw[ht];simp
    subst hTe
    exact⟨b,st,rfl,rfl,hb,hdr⟩
  have h':out.length<most:=by simp at h2;omega
  rw[aE (by omega)] at ht
  simp -implicitDefEqProofs only[iV,hg,aA,seval,OM]
  obtain⟨hgd,ho,_,_⟩:=hR.r.facts
  have hfr:26≤i.fresh:=by
   obtain⟨ρ,S',_⟩:=hR.r
   have h1:=S'.rng 25 (by omega) (by have:=S'.h26;omega)
   rw[S'.idn 25 (by omega) (by omega)] at h1
   omega
  refine(aYP (N:=i.fresh) hgd ho vars (fun v h=>⟨(hv v h).1,by have:=(hv v h).2;omega⟩) hvl c m qt _ hA.sto.sub).to ?_
  cases rC:kC i.σ vars with
  | none=>
   rw[rC] at ht
   simp only[XK]
   simp only at ht
   simp -implicitDefEqProofs only[vD,aA,seval]
   have hTe:T=(out,3):=by rw[ht];simp
   subst hTe
   exact⟨b,st,rfl,rfl,hb,hdr⟩
  | some a=>
   rw[rC] at ht
   simp only[XK]
   simp only at ht
   simp -implicitDefEqProofs only[aA,seval,OM]
   refine fG (P:=prog) (b:=b) (l:=out.map cI) (xs:=[cI a]) nD sG sJ rfl rfl (gA rfl rfl) (NF out) hb (by simp only[aQ,bA,hlo];omega) (by simp only[aQ,bA,hlo];omega) (fun b' hb'=>?_)
   rw[show(out.map cI)++ [cI a]=(out++ [a]).map cI by simp] at hb' ⊢
   have hA':=ha.acc hb'
   have aNL:(out++ [a]).map cI≠[]→st0 b'=none:=fun h=>(hdr b').1 (hb' h)
   have a1H:=hA'.cell
   simp only[iQ] at a1H
   simp -implicitDefEqProofs only[aA,seval]
   have hbk:=LS hp (M:=M) (by omega) _ qt qc qn mx nd i s.chs (st0:=a8 st0 b' ((out++ [a]).map cI)) (S:=S) (c:=c) (m:=m) (q:=q) (idx:=idx) (fuel:=fuel) (used:=u) (T:=hH p i.chs.length i) ⟨hA',hR.cr,hR.x,rfl,by have:=hR.pZ;have:=hR.n;constructor<;>omega⟩
   refine hbk.mono ?_
   rintro r s2 hr
   have hln:(out++ [a]).length=out.length+1:=by simp
   cases hbk:hH p i.chs.length i with
   | none=>
    rw[hbk] at hr ht
    simp only at ht
    obtain⟨rfl,qt2,qc2,qn2,mx2,nd2,i2,hA2⟩:=hr
    obtain⟨s3,rfl,hb3,hA3⟩:=hA2.DG aNL
    simp -implicitDefEqProofs only[aA,seval]
    exact⟨⟨s3,qt,qc,qn,mx,nd,s,i,out++ [a],b',u,B,M,0⟩,by simp only[hln];simp;omega,⟨hA3.xH,hb3,by simp only[hln];omega,fun h=>absurd h (by simp),fun _=>by rw[ht]⟩,aN.mk (by simp -implicitDefEqProofs only[aA,seval])⟩
   | some i2=>
    rw[hbk] at hr ht
    simp only at ht
    obtain⟨s',hR'⟩:=hR.back hp (by omega) hbk
    obtain⟨rfl,qt2,qc2,qn2,mx2,nd2,hA2⟩:=hr
    obtain⟨s3,rfl,hb3,hA3⟩:=hA2.DG aNL
    simp -implicitDefEqProofs only[aA,seval]
    exact⟨⟨s3,qt2,qc2,qn2,mx2,nd2,s',i2,out++ [a],b',u,B,M,-1⟩,by simp [hln];omega,⟨hA3.xH,hb3,by simp only[hln];omega,fun _=>⟨hA3,hR',by rw[ht];simp only[hln,mU,fQ,eS,Nat.sub_sub],hu,hBB,hMM⟩,fun h=>absurd rfl h⟩,aN.mk (by simp -implicitDefEqProofs only[aA,seval])⟩
theorem tL.aPG{st st':aB}{a o:AV}{k:IntKind}{n:Int}(h:Made st a o st'):tL st [a,.int k n] (.tup [o,.int k n]) st':=by
 obtain⟨bs,h1,h2,h3,h4⟩:=h
 exact⟨_,bs,rfl,h1,h2,aPQ.2 ⟨o,.int k n,bs,[],rfl,by simp,h3,⟨rfl,rfl⟩⟩,h4⟩
theorem tL.a8L{st st':aB}{a r:AV}{k:IntKind}{n:Int}(h:tL st [a,.int k n] r st'):∃o,r=.tup [o,.int k n]∧Made st a o st':=by
 obtain⟨os,bs,hr,h1,h2,h3,h4⟩:=h
 obtain⟨o1,o2,b1,b2,rfl,rfl,h5,h6⟩:=aPQ.1 h3
 simp only[bG] at h6
 obtain⟨rfl,rfl⟩:=h6
 rw[gI] at *
 exact⟨o1,hr,b1,h1,h2,h5,h4⟩
def P6(st:aB)(L:List AV)(e:Int)(r:AV)(st':aB):Prop:=∃o,r=.tup [o,.int .i64 e]∧Made st (.slice L) o st'∧(L= []→o=.fslice [])
structure uZ (st:aB) (L:List AV) (b i:Nat) (os:List AV) (bs:List Nat) (s:aB):Prop where
 len:os.length=i
 own:cA s (L.take i) os bs
 nd:bs.Nodup
 new:∀q∈bs,st q=none
 bn:L≠[]→b∉bs
 cell:L≠[]→s b=some (.cells (os.flatMap AV.cells++(L.drop i).flatMap AV.cells))
 aV:∀q,q∉bs→(L≠[]→q≠b)→s q=st q
theorem uZ.start{st:aB}{L:List AV}{b:Nat}:uZ st L b 0 [] [] (a8 st b L):=by
 refine⟨rfl,by simp [cA],pR,by simp,by simp,fun h=>?_,fun q _ h=>?_⟩
 · rw[jY h,aB.aP];try rfl
 · cases L with
   | nil=>rfl
   | cons x l=>exact pU (h (by simp))
theorem uZ.done{st s:aB}{L os:List AV}{b w:Nat}{bs:List Nat}(h:uZ st L b L.length os bs s)(hb:L≠[]→st b=none)(hw:∀e∈L,e.width=w):Made st (.slice L) (bM w b L) s:=by
 obtain⟨h1,h2,h3,h4,h5,h6,h7⟩:=h
 rw[eN] at h2
 by_cases hL:L= []
 · subst hL
   simp only[cA] at h2
   obtain⟨rfl,rfl⟩:=h2
   exact⟨[],pR,by simp,.inl ⟨rfl,rfl,rfl⟩,fun q hq=>h7 q hq (fun h=>absurd rfl h)⟩
 · refine⟨b::bs,GN.2 ⟨h5 hL,h3⟩,fun q hq=>?_,?_,fun q hq=>?_⟩
   · rcases c8.1 hq with rfl | hq
     · exact hb hL
     · exact h4 q hq
   · rw[pW hL]
     refine .inr ⟨b,bs,os,w,rfl,rfl,?_,h2,hw⟩
     have:=h6 hL
     rw[j8] at this
     simpa using this
   · simp only[c8,pI] at hq
     exact h7 q hq.2 fun _=>hq.1
theorem uZ.step{st s s2:aB}{L os B:List AV}{b i:Nat}{bs bx:List Nat}{e r:AV}(h:uZ st L b i os bs s)(he:L[i]?=some (.agg [e]))(hB:(L.drop (i+1)).flatMap AV.cells=B)(m1:bx.Nodup)(m2:∀q∈bx,s q=none)(m3:bG s2 e r bx)(m4:∀q,q∉bx→s2 q=s q) :
 uZ st L b (i+1) (os++ [.agg [r]]) (bs++bx) (s2.aC b (.cells (os.flatMap AV.cells++ [r]++B))):=by
 obtain⟨h1,h2,h3,h4,h5,h6,h7⟩:=h
 have hi:i<L.length:=(fR.1 he).1
 have hL:L≠[]:=by rintro rfl;simp at hi
 have z7:=cA.gY _ _ _ h2
 have v8:∀q∈bs,s q≠none:=fun q hq=>by obtain⟨cs,e1,_⟩:=z7.2 q hq;rw[e1];simp
 have hsb:=h6 hL
 have hbx:b∉bx:=fun hq=>by have:=m2 b hq;rw[hsb] at this;cases this
 have oN:∀q∈bs,q∉bx:=fun q hq hq'=>v8 q hq (m2 q hq')
 have hbs:∀q∈bs,(s2.aC b (.cells (os.flatMap AV.cells++ [r]++B))) q=s q:=fun q hq=>by
  rw[aB.aJ _ _ (by rintro rfl;exact h5 hL hq),m4 q (oN q hq)]
 refine⟨by simp [h1],?_,oV.2 ⟨h3,m1,fun a ha c hc e=>oN a ha (e▸hc)⟩,fun q hq=>?_,fun _ hq=>?_,fun _=>?_,fun q hq hne=>?_⟩
 · rw[fS,he,DS]
   refine h2.snoc hbs ?_
   refine U9.2 ⟨r,rfl,bG.aV _ _ _ (fun x hx=>?_) m3⟩
   exact aB.aJ _ _ (by rintro rfl;exact hbx hx)
 · rcases fF.1 hq with hq | hq
   · exact h4 q hq
   · have h8:q∉bs:=fun h=>oN q h hq
     have h9:q≠b:=by rintro rfl;exact hbx hq
     rw[←h7 q h8 fun _=>h9]
     exact m2 q hq
 · rcases fF.1 hq with hq | hq
   · exact h5 hL hq
   · exact hbx hq
 · rw[aB.aP,hB]
   simp [AV.cells]
 · simp only[fF,pI] at hq
   rw[aB.aJ _ _ (hne hL),m4 q hq.2,h7 q hq.1 hne]
abbrev aR2:=zi tI_3 (zi zI_3 (zi aZ (zi tI_4 (zi zI_4 (zi cG (zi tI_26 (zi zI_26 (zi nD (zi sG (zi sJ (zi uU (zi tI_29 (zi zI_29 (zi fN (zi iT (zi iU (zi jK (zi tI_31 (zi zI_31 (zi aO (zi bH (zi bJ (zi bZ (zi tI_59 (zi zI_59 (zi vU (zi vI (zi tI_174 zI_174))))))))))))))))))))))))))))
set_option maxHeartbeats 2000000 in
theorem Z6(p:List Cl){cnd:Tm→List Nat→List Nat}(hc:∀(ρ:Int→Int) (t:Tm) (l:List Nat),cnd (b7 ρ t) l=cnd t l)(hd:∀t l,(∀i∈cnd t l,i∈l)∧(cnd t l).length≤l.length){idx:Bool}(xU:PV p idx cnd)
 (q:List Tm) (most fuel:Int) (st:aB) (v6:idx=true→st j6=some nU) :
 aD prog 75 [.slice (p.map bB),.slice (q.map Tm.av),.int .i64 most,.int .i64 fuel,.bool idx] st (P6 st ((jI p cnd q most fuel).1.map cI) (jI p cnd q most fuel).2):=by
 have E0:=aVV p q most fuel
 have H6:=aQW p hd q most fuel
 refine wF [1000000] 5 func75 ntmps75 rfl rfl ?_
 intro _
 simp -implicitDefEqProofs only[aA,seval]
 refine(E0 _).to ?_
 simp -implicitDefEqProofs only[aA,seval]
 refine aS (fun h=>?_) (fun h=>?_)
 · have hS:jI p cnd q most fuel=([],9):=by
    unfold jI
    rw[aE (by rw[show nJ p q most fuel=false from by unfold nJ;simpa only[iX] using h];simp)]
   rw[hS]
   simp -implicitDefEqProofs only[aA,seval]
   exact⟨_,rfl,⟨[],pR,by simp,.inl ⟨rfl,rfl,rfl⟩,fun _ _=>rfl⟩,fun _=>rfl⟩
 have hok:nJ p q most fuel=true:=by unfold nJ;simpa using h
 have hk:=hok
 simp only[nJ,cK,bL] at hk
 obtain⟨kp,kq,k1,k2,k3,k4⟩:=hk
 obtain⟨p1,p2⟩:=N0 kp
 obtain⟨q1,q2⟩:=JA kq
 have hTT:jI p cnd q most fuel=j3 p cnd (cD q []) most.toNat fuel.toNat (pC q):=by
  unfold jI
  rw[aH hok,a69 (fun c h=>(p2 c h).1) hc q2]
 rw[hTT] at H6 ⊢
 clear hTT E0 hok h
 obtain⟨mo,rfl⟩:=tJ k1
 obtain⟨fu,rfl⟩:=tJ k3
 rw[jU,jU] at H6 ⊢
 simp -implicitDefEqProofs only[aA,seval]
 refine(aX6 p q (fu:Int) idx (by omega) st).mono ?_
 rintro _ s1 ⟨S,c,m,rfl,hA⟩
 simp -implicitDefEqProofs only[aA,seval]
 refine(aYE p2 p1 hc hd xU q2 q1 (most:=mo) (fuel:=fu) (by omega) (by omega) v6 hA).mono ?_
 generalize j3 p cnd (cD q []) mo fu (pC q)=T at H6 ⊢
 rintro _ _ ⟨b,s2,rfl,rfl,hb,hD⟩
 obtain⟨L,e⟩:=T
 simp only at H6 hb ⊢
 have hb':L.map cI≠[]→st b=none:=fun h=>(hD b).1 (hb h)
 have hun:prog.underlying 26=some (.slice 59):=by kernel_rfl
 have vY:=vE (w:=1) (b:=b) (l:=L.map cI) hun
 rw[aF] at vY
 have hwd:∀e∈L.map cI,e.width=1:=fun e he=>by simp only[cU] at he;obtain⟨t,_,rfl⟩:=he;rfl
 simp -implicitDefEqProofs only[vY,aA,seval]
 refine eH (σ:=List AV×List Nat×aB) [1000000] [10,11,12,13,32,33] L (fun j x=>uZ st (L.map cI) b j x.1 x.2.1 x.2.2) (fun j x=>[(34,.int .i64 j)]) (fun j x=>x.2.2) (by decide +kernel) ⟨([],[],a8 st b (L.map cI)),uZ.start,aN.drop (SN hD) (by simp -implicitDefEqProofs only[aA,↓aX,seval])⟩ (fun j a x hx hlt bQ hdr hinv=>?_) (fun x hge hinv=>?_)
 case refine_2=>
  simp -implicitDefEqProofs only[hge,vD,aA,seval]
  have a16:uZ st (L.map cI) b (L.map cI).length x.1 x.2.1 x.2.2:=by rw[aF];exact hinv
  exact⟨_,rfl,a16.done hb' hwd,fun h=>by rw[h];try rfl⟩
 obtain⟨os,bs,s⟩:=x
 simp only at hinv
 have hw:=bE (n:=(j:Int)+1)
 have hne:L.map cI≠[]:=by intro h;have:=jG List.length h;simp at this;subst this;simp at hlt
 have qB:(L.map cI)[j]?=some (.agg [.slice (a.map Tm.av)]):=by rw[nO,hx];try rfl
 have hc2:=hinv.cell hne
 have a1S:((L.map cI).drop j).flatMap AV.cells= [.slice (a.map Tm.av)]++((L.map cI).drop (j+1)).flatMap AV.cells:=by
  rw[←GJ,hdr,aW,qS,GJ];try rfl
 rw[a1S,←mU] at hc2
 have hA2:(os.flatMap AV.cells).length=j*1:=by
  rw[hinv.own.MT (fun q hq=>hwd q (lS hq)),dQ,aF,kN (by omega)]
 obtain⟨e1,e2,e3,e4,e5,e6⟩:=FE (B:=((L.map cI).drop (j+1)).flatMap AV.cells) hA2
 have hat:=pB (P:=prog) (b:=b) (w:=1) (i:=j) nD (len:=(L.map cI).length) (by rw[aF];omega)
 have htk:List.take 1 (List.drop (j*1) (os.flatMap AV.cells++ [.slice (a.map Tm.av)]++((L.map cI).drop (j+1)).flatMap AV.cells))= [.slice (a.map Tm.av)]:=by
  rw[mU,KL,List.drop_of_length_le (by omega),hA2]
  simp
 obtain⟨hal,hav⟩:=H6.2 a (cJ hx)
 rw[pW hne] at vY ⊢
 rw[aF] at hat vY ⊢
 simp -implicitDefEqProofs only[bQ,hat,hc2,htk,e5,aA,↓aX,seval,aR2]
 refine(aPB a _ (by omega) fun x hx s=>aPA x s (Tm.a9B (eW.1 hav x hx))).mono ?_
 rintro r s3 ⟨bx,m1,m2,m3,m4⟩
 have hbx:b∉bx:=fun h=>by have:=m2 b h;rw[hc2] at this;cases this
 have f1:=(m4 b hbx).trans hc2
 obtain⟨hqc,hqs,hqa,hqw,hqj⟩:=bG.AC m3
 simp -implicitDefEqProofs only[hat,f1,hqc,hqs,e4,e5,rY,GO,aA,seval,aR2]
 exact⟨(os++ [.agg [r]],bs++bx,s3.aC b (.cells (os.flatMap AV.cells++ [r]++((L.map cI).drop (j+1)).flatMap AV.cells))),hinv.step qB rfl m1 m2 m3 m4,aN.mk (by simp -implicitDefEqProofs only[hw,aA,seval])⟩
theorem aWI(p:List Cl)(q:List Tm)(most fuel:Int)(st:aB) :
 aD prog 29 [.slice (p.map bB),.slice (q.map Tm.av),.int .i64 most,.int .i64 fuel] st (P6 st ((jI p (fun _ l=>l) q most fuel).1.map cI) (jI p (fun _ l=>l) q most fuel).2):=by
 refine wF [1000000] 4 func29 ntmps29 rfl rfl ?_
 intro _
 simp -implicitDefEqProofs only[aA,seval]
 refine(Z6 p (cnd:=fun _ l=>l) (fun _ _ _=>rfl) (fun _ l=>⟨fun _ h=>h,dB _⟩) (idx:=false) rfl q most fuel st (fun h=>by cases h)).mono ?_
 intro r s1 h
 obtain⟨o,rfl,hM,hN⟩:=h
 obtain⟨hqc,hqs,hqa,hqw,hqj⟩:=bG.AC hM.choose_spec.2.2.1
 simp -implicitDefEqProofs only[hqj,aA,seval]
 exact⟨_,rfl,hM,hN⟩
theorem aWG(p:List Cl)(q:List Tm)(most fuel:Int)(st:aB) :
 aD prog 29 [.slice (p.map bB),.slice (q.map Tm.av),.int .i64 most,.int .i64 fuel] st (tL st [.slice ((jI p (fun _ l=>l) q most fuel).1.map cI),.int .i64 (jI p (fun _ l=>l) q most fuel).2]):=
 (aWI p q most fuel st).mono fun _ _ ⟨o,h1,h2,_⟩=>by subst h1;exact tL.aPG h2
end Go.AW
namespace Go.AW
section
variable {h:bP} {st:aB}
end
def mY(st s0:aB)(os us:List AV):Prop:=∀h vs,cX h st→dC h st os vs→dC h s0 us vs
theorem mY.nil{st s0:aB}:mY st s0 [] []:=fun _ _ _ y=>y
theorem mY.cons{st s0:aB}{o a:AV}{os us:List AV}(x:∀h v,cX h st→aT h st o v→aT h s0 a v)(h:mY st s0 os us):mY st s0 (o::os) (a::us):=fun hp vs S y=>by
 simp only[dC] at y ⊢
 obtain⟨v,r,rfl,y1,y2⟩:=y
 exact⟨v,r,rfl,x hp v S y1,h hp r S y2⟩

def pN(k:Nat)(o:AO):aB:=fun b=>if b=k then some o else none
theorem OB(k:Nat)(o:AO):pN k o k=some o:=by simp [pN]
theorem JO{k:Nat}{o:AO}{b:Nat}(h:b≠k):pN k o b=none:=by simp [pN,h]
theorem JN{st:aB}{k:Nat}{o:AO}(h:st k=some o):aL st (pN k o):=fun b=>by
 by_cases hb:b=k
 · subst hb
   exact⟨fun e=>(by rw[h] at e;cases e),fun p e=>(by rw[OB] at e;rw[h,e])⟩
 · exact⟨fun _=>JO hb,fun p e=>(by rw[JO hb] at e;cases e)⟩
theorem a7F{k:Nat}{cs:Array Value}:∀b o,pN k (.tab cs) b=some o→o.gY:=fun b o e=>by
 unfold pN at e
 split at e
 · cases e;trivial
 · cases e
theorem aPU{st:aB}{k:Nat}{a o:AV}{bs:List Nat}{cs:Array Value}(h:bG st a o bs)(hT:st k=some (.tab cs)):∀b∈bs,pN k (.tab cs) b=none:=fun b hb=>by
 obtain⟨cs',e,_⟩:=(bG.gY _ _ _ h).2.2 b hb
 refine JO ?_
 rintro rfl
 rw[hT] at e;cases e
theorem UX{st:aB}{k:Nat}{o:AO}{bs:List Nat}(hT:st k=some o)(h:∀b∈bs,st b=none):k∉bs:=fun hb=>by
 have:=h k hb
 rw[hT] at this;cases this
theorem mY.aQH{st s0:aB}(D:aL st s0){x:AV}{os us:List AV}(h:mY st s0 os us):mY st s0 (x::os) (x::us):=
 mY.cons (fun hp v S y=>y.mono (D.step hp)) h
theorem mY.aPS{st s0:aB}(D:aL st s0){a o:AV}{bs:List Nat}{os us:List AV}(hO:bG st a o bs)(hb:∀b∈bs,s0 b=none)(h:mY st s0 os us):mY st s0 (o::os) (a::us):=
 mY.cons (fun hp v S y=>hO.XM S D hb y) h
theorem a0U{st s0:aB}(D:aL st s0):st.frame s0 s0=st:=by
 funext b
 simp only[aB.frame]
 split
 · rename_i h;exact h.symm
 · rename_i h
   cases h0:s0 b with
   | none=>cases hb:st b with
    | none=>rfl
    | some o=>exact absurd hb (h o h0)
   | some o=>exact((D b).2 o h0).symm
theorem aD.a6N{P:Program}{g:FuncId}{args args':List AV}{st s0:aB}{xs:List AV}(D:aL st s0)(hs0:∀b o,s0 b=some o→o.gY)(x:aD P g args s0 (tL s0 xs))(hv:mY st s0 args' args):aD P g args' st (tL st xs):=by
 refine aD.frame D (x.mono ?_) hv
 rintro r s1 ⟨os,bs,hr,h1,h2,h3,h4⟩ hfr
 have hso:=cA.gY _ _ _ h3
 have hbs:∀b∈bs,st b=none:=fun b hb=>hfr b (h2 b hb) (by
  obtain⟨cs,e,_⟩:=hso.2 b hb
  rw[e];simp)
 have hfb:∀b∈bs,(st.frame s0 s1) b=s1 b:=fun b hb=>by simp only[aB.frame,hbs b hb];split<;>simp_all
 refine⟨by rw[hr];unfold AV.gY;exact hso.1.1,fun b o e=>?_,os,bs,hr,h1,hbs,cA.aV _ _ _ hfb h3,fun b hb=>?_⟩
 · by_cases hb:b∈bs
   · obtain⟨cs,e2,hs⟩:=hso.2 b hb
     rw[e] at e2;cases e2;exact hs
   · rw[h4 b hb] at e;exact hs0 b o e
 · have:=congrFun (a0U D) b
   simp only[aB.frame] at this ⊢
   rw[h4 b hb]
   exact this
end Go.AW
namespace Go.AW
open Go.Proofs.Tryz
theorem aWH(p:List Cl)(q:List Tm)(most fuel:Int)(st:aB)(hT:st j6=some nU) :
 aD prog 20 [.slice (p.map bB),.slice (q.map Tm.av),.int .i64 most,.int .i64 fuel] st (P6 st ((jI p (dE p) q most fuel).1.map cI) (jI p (dE p) q most fuel).2):=by
 refine wF [1000000] 4 func20 ntmps20 rfl rfl ?_
 intro _
 simp -implicitDefEqProofs only[aA,seval]
 refine(Z6 p (cnd:=dE p) (fun ρ t l=>aZB p ρ t l) (fun t l=>BV p t l) (idx:=true) rfl q most fuel st (fun _=>hT)).mono ?_
 intro r s1 h
 obtain⟨o,rfl,hM,hN⟩:=h
 obtain⟨hqc,hqs,hqa,hqw,hqj⟩:=bG.AC hM.choose_spec.2.2.1
 simp -implicitDefEqProofs only[hqj,aA,seval]
 exact⟨_,rfl,hM,hN⟩
theorem Z4(p:List Cl)(q:List Tm)(most fuel:Int)(st:aB)(hT:st j6=some nU) :
 aD prog 20 [.slice (p.map bB),.slice (q.map Tm.av),.int .i64 most,.int .i64 fuel] st (tL st [.slice ((jI p (dE p) q most fuel).1.map cI),.int .i64 (jI p (dE p) q most fuel).2]):=
 (aWH p q most fuel st hT).mono fun _ _ ⟨o,h1,h2,_⟩=>by subst h1;exact tL.aPG h2
abbrev a74:=zi tI_3 (zi zI_3 (zi aZ (zi tI_5 (zi zI_5 (zi lO (zi tI_9 (zi zI_9 (zi cF (zi tI_40 (zi zI_40 (zi qZ (zi xI (zi xK wN)))))))))))))
theorem RQ(k:Int)(st:aB)(h1:k≤1099511627776):aD prog 79 [.int .i64 k] st (fun r st'=>r=.str (mt k)∧st'=st):=by
 refine wF [] 1 func79 ntmps79 rfl rfl ?_
 intro _
 simp -implicitDefEqProofs only[aA,seval]
 refine aS (fun h=>?_) (fun h=>?_)
 · simp -implicitDefEqProofs only[aA,seval]
   simp only[bL] at h
   simp only[mt,h,gB]
 simp only[cP] at h
 obtain⟨n,rfl⟩:=tJ (show 0≤k by omega)
 have hmt:mt (n:Int)=⟨(109::wB n []).toArray⟩:=by simp only[mt,h,dI,jU]
 rw[hmt]
 simp -implicitDefEqProofs only[aA,seval]
 refine iN (σ:=Nat×List UInt8) [] [2] (fun p=>wB p.1 p.2=wB n []∧p.2.length+p.1≤1099511627776) (fun p=>[(0,.int .i64 p.1),(3,.str ⟨p.2.toArray⟩)]) (fun _=>st) (fun p=>p.1) (by decide +kernel)
  ⟨(n,[]),⟨rfl,by simp;omega⟩,aN.mk (by simp -implicitDefEqProofs only[aA,seval])⟩ ?_
 rintro⟨k,acc⟩ ⟨hd,hb⟩
 simp only at hd hb
 simp -implicitDefEqProofs only[aA,seval]
 refine aS (fun h2=>?_) (fun h2=>?_)
 case refine_2=>
  simp only[cP] at h2
  obtain rfl:k=0:=by omega
  rw[a4Y] at hd
  have hsz:(⟨#[109]⟩:ByteArray).size+(⟨acc.toArray⟩:ByteArray).size≤maxLen:=by
   show 1+acc.toArray.size≤maxLen
   unfold maxLen
   simp;omega
  simp -implicitDefEqProofs only[hsz,aA,↓aX,seval]
  rw[←hd]
  congr 1
 simp only[bL] at h2
 have hr:((k:Int)).tmod 10=((k % 10:Nat):Int):=by rw[Int.tmod_eq_emod_of_nonneg (by omega)];omega
 have hq:((k:Int)).tdiv 10=((k / 10:Nat):Int):=by rw[Int.tdiv_eq_ediv_of_nonneg (by omega)];omega
 have hw:=bE (n:=48+((k % 10:Nat):Int))
 have hw8:IntKind.wrap .u8 (48+((k % 10:Nat):Int))=((48+k % 10:Nat):Int):=by rw[IntKind.wrap_u8];omega
 have hw2:=bE (n:=((k / 10:Nat):Int))
 have hby:bytesOf [AV.int .u8 ((48+k % 10:Nat):Int)]=some [UInt8.ofNat (48+k % 10)]:=by
  simp only[bytesOf,jU,oD]
 have hsz:(⟨#[UInt8.ofNat (48+k % 10)]⟩:ByteArray).size+(⟨acc.toArray⟩:ByteArray).size≤maxLen:=by
  show 1+acc.toArray.size≤maxLen
  unfold maxLen
  simp;omega
 simp -implicitDefEqProofs only[tP,hr,hq,hw,hw8,hw2,hby,hsz,aA,seval,a74]
 refine⟨(k / 10,UInt8.ofNat (48+k % 10)::acc),by omega,⟨by rw[←a4X (by omega)];exact hd,by simp only[aQ];omega⟩,aN.mk (by simp -implicitDefEqProofs only[aUV,aA,seval])⟩
abbrev aRV:=zi tI_3 (zi zI_3 (zi aZ (zi tI_9 (zi zI_9 (zi cF (zi tI_31 (zi zI_31 (zi aO (zi bH (zi bJ (zi bZ (zi tI_66 (zi zI_66 (zi bS (zi bT (zi bU (zi bV bR)))))))))))))))))
theorem HH:∀(l:List Tm) (j:Int) (o:AV) (bs:List Nat) (st:aB),bG st (.slice (l.map Tm.av)) o bs→bs.Nodup→0≤j→j+aR Tm.dV l≤1099511627776 →
 aD prog 25 [o,.int .i64 j] st (P7 st (.slice ((gX Tm.mark Tm.dV l j).map Tm.av)) o bs (j+aR Tm.dV l))
 | l,j,o,bs,st,hO,hnd,hj0,hj1=>by
  have IH:=fun(k n:Int) (s:ByteArray) (ts:List Tm) (hm:Tm.mk k n s ts∈l)=>HH ts
  obtain⟨hlen,haL⟩:=hO.len
  rw[aF] at hlen
  have haL:=haL prog 31 _ bZ
  rw[aF] at haL
  refine wF [] 2 func25 ntmps25 rfl rfl ?_
  simp only[d5]
  intro ⟨hf,_⟩
  have hl:=hlen hf
  clear hf hlen
  simp -implicitDefEqProofs only[aA,seval]
  refine eH (σ:=List Tm×Int×aB) [] [0,4] l
   (fun i p=>p.1.length=i∧p.1++gX Tm.mark Tm.dV (l.drop i) p.2.1=gX Tm.mark Tm.dV l j∧0≤p.2.1∧p.2.1+aR Tm.dV (l.drop i)=j+aR Tm.dV l∧bG p.2.2 (.slice ((p.1++l.drop i).map Tm.av)) o bs∧∀q,q∉bs→p.2.2 q=st q)
   (fun i p=>[(1,.int .i64 p.2.1),(5,.int .i64 i)]) (fun _ p=>p.2.2) (by decide +kernel)
   ⟨([],j,st),⟨rfl,rfl,hj0,rfl,hO,fun _ _=>rfl⟩,aN.mk (by simp -implicitDefEqProofs only[aA,↓aX,seval])⟩ (fun i x p hx hlt bQ hdr hinv=>?_) (fun p hge hinv=>?_)
  case refine_2=>
   obtain⟨done,k,s⟩:=p
   obtain⟨i1,i2,i3,i4,i5,i6⟩:=hinv
   simp only at i1 i2 i3 i4 i5 i6
   simp -implicitDefEqProofs only[haL,hge,aA,seval]
   simp only[j8,gX,gI,aR] at i2 i4 i5
   exact⟨by rw[←i4];simp,by rw[←i2];exact i5,i6⟩
  obtain⟨done,k,s⟩:=p
  obtain⟨i1,i2,i3,i4,i5,i6⟩:=hinv
  simp only at i1 i2 i3 i4 i5 i6
  rw[hdr] at i2 i4 i5
  obtain⟨xk,xn,xs,xts⟩:=x
  simp only[aR,Tm.I3] at i4
  have qB:=US (av:=Tm.av) (done:=done) (x:=.mk xk xn xs xts) (rest:=l.drop (i+1))
  obtain⟨b,bs',w,A,oe,bo,B,rfl,hbs,hsb,hA,hoe,hbo,hbn,qF,hw,hi,zZ⟩:=i5.focus hnd qB
  rw[aK] at hw
  subst hw
  rw[i1] at hA
  obtain⟨q,rfl,hq⟩:=I7.1 hoe
  have IJ:((done++Tm.mk xk xn xs xts::l.drop (i+1)).map Tm.av).length=l.length:=by
   rw[aF,dL,aQ,lR,i1];omega
  rw[IJ] at haL zZ ⊢
  have hat:=pB (b:=b) (len:=l.length) (w:=4) (i:=i) aO hlt
  have bA6:∀(c:Nat),c<4→i*4+c+1≤A.length+(4+B.length):=fun c hc=>by rw[hA];omega
  have hw1:=bE (n:=k+1)
  have hw2:=bE (n:=k+1+1)
  have hw3:=bE (n:=k+1+1+1)
  have hw4:=bE (n:=(i:Int)+1)
  obtain⟨e1,e2,e3,e4,e5,e6⟩:=FE (B:=B) hA
  simp -implicitDefEqProofs only[haL,bQ,hat,hsb,hw1,hw2,e1,e2,e4,e5,rY,GO,KU,c7,aA,seval,aRV]
  refine(RQ (k+1+1) _ (by omega)).to ?_
  simp -implicitDefEqProofs only[hat,e1,e2,e3,GO,KU,c7,hw3,aA,seval,aRV]
  have hqs:∀(o:AO),bG (s.aC b o) (.slice (xts.map Tm.av)) q bo:=fun o=>bG.aV _ _ _ (fun x hx=>aB.aJ _ _ (fun e=>hbn (e▸hx))) hq
  have hqa:q.isAgg=false:=(bG.shape hq).1
  simp -implicitDefEqProofs only[hqa,aA,seval]
  refine(IH xk xn xs xts (cJ hx) (k+1+1+1) q bo _ (hqs _) hbo (by omega) (by omega)).mono ?_
  rintro _ s2 ⟨rfl,hq2,hk2⟩
  simp -implicitDefEqProofs only[hw4,aA,seval]
  refine⟨(done++ [(Tm.mk xk xn xs xts).mark k],k+1+1+1+aR Tm.dV xts,s2),⟨?_,?_,?_,?_,?_,?_⟩,aN.mk (by simp -implicitDefEqProofs only[aA,seval])⟩
  · simp [i1]
  · simp only[gX,Tm.I3] at i2
    rw[←i2,show k+((3+aR Tm.dV xts:Nat):Int)=k+1+1+1+(aR Tm.dV xts:Int) by omega]
    simp
  · simp only;omega
  · simp only;omega
  · have:=zZ s2 ((Tm.mk xk xn xs xts).mark k).av (.agg [.int .i64 k,.int .i64 (k+1),.str (mt (k+1+1)),q]) (aK _) (fun x hx hxb hxo=>by rw[hk2 x hxo,aB.aJ _ _ hxb]) (by rw[hk2 b hbn,aB.aP];try rfl) (by rw[Tm.aOZ];exact I7.2 ⟨q,rfl,hq2⟩)
    rw[UT] at this
    exact this
  · intro x hx
    have hxb:x≠b:=fun e=>hx (by rw[hbs];simp [e])
    have hxo:x∉bo:=fun e=>hx (qF x e)
    show s2 x=st x
    rw[hk2 x hxo,aB.aJ _ _ hxb,i6 x hx]
termination_by l=>SizeOf.sizeOf l
decreasing_by have:=List.sizeOf_lt_of_mem hm;simp only[Tm.mk.sizeOf_spec] at this;omega
abbrev OH:=zi tI_3 (zi zI_3 (zi aZ (zi tI_23 (zi zI_23 (zi t8 (zi zJ (zi zN (zi wM (zi tI_31 (zi zI_31 (zi aO (zi bH (zi bJ (zi bZ (zi tI_66 (zi zI_66 (zi bS (zi bT (zi bU (zi bV (zi bR (zi tI_90 (zi zI_90 (zi zT (zi zU (zi zW (zi zX y6)))))))))))))))))))))))))))
theorem aPD(l:List Tm)(st:aB)(hb:l.length≤1048576)(hc:∀x∈l,∀(st:aB),aD prog 74 [Tm.av x] st (Made st (Tm.av x))) :
 aD prog 19 [.slice (l.map Tm.av)] st (Made st (.slice (l.map Tm.av))):=by
 refine wF [] 1 func19 ntmps19 rfl rfl ?_
 intro _
 simp -implicitDefEqProofs only[aF,tQ,aA,↓aX,seval,OH]
 refine⟨by omega,by omega,by omega,?_⟩
 intro b hn
 rw[jU,IZ _ (by simp)]
 refine eH (σ:=List AV×List Nat×aB) [] [0,2,3] l (fun i p=>tM (l.map Tm.av) [.int .i64 0,.int .i64 0,.str ⟨#[]⟩,.fslice []] b st i p) (fun i _=>[(4,.int .i64 i)]) (fun _ p=>p.2.2) (by decide +kernel)
  ⟨([],[],_),?_,aN.mk (by simp -implicitDefEqProofs only[aA,↓aX,seval])⟩ (fun i x p hx hlt bQ hdr hinv=>?_) (fun p hge hinv=>?_)
 · exact tM.start hn (by rw[aF])
 case refine_3=>
  obtain⟨os,bs,s⟩:=p
  simp -implicitDefEqProofs only[aF,hge,aA,seval,OH]
  exact hinv.done (aF _) (fun e he=>by simp only[cU] at he;obtain⟨t,_,rfl⟩:=he;exact aK t)
 obtain⟨os,bs,s⟩:=p
 simp -implicitDefEqProofs only[aF,bQ,bO (av:=Tm.av) t8 hx (aK x),a7,aK,aA,seval,OH]
 refine(hc x (cJ hx) _).mono ?_
 rintro r s2 TV
 obtain⟨A,B,hs2,hA,hrw,hrs,T0⟩:=hinv.step TV (show(l.map Tm.av)[i]?=some (Tm.av x) by rw[nO,hx];try rfl) (aK x) (fun e he=>by simp only[cU] at he;obtain⟨t,_,rfl⟩:=he;exact aK t) rfl (cB x) (.inl (a7 x))
 have hat:=pB (b:=b) (len:=l.length) (w:=4) (i:=i) aO hlt
 obtain⟨hp1,hp2⟩:=VD (B:=B) (C:=[.int .i64 0,.int .i64 0,.str ⟨#[]⟩,.fslice []]) (x:=r.cells) hA rfl hrw
 have hw:=bE (n:=(i:Int)+1)
 simp -implicitDefEqProofs only[hat,hs2,hrw,hrs,hp1,hw,aA,seval,OH]
 refine⟨hp2,?_⟩
 exact⟨_,T0,aN.mk (by simp -implicitDefEqProofs only[aA,seval])⟩
abbrev aRU:=zi tI_3 (zi zI_3 (zi aZ (zi tI_9 (zi zI_9 (zi cF (zi tI_23 (zi zI_23 (zi t8 (zi zJ (zi zN (zi wM (zi tI_31 (zi zI_31 (zi aO (zi bH (zi bJ (zi bZ (zi tI_66 (zi zI_66 (zi bS (zi bT (zi bU (zi bV (zi bR (zi tI_90 (zi zI_90 (zi zT (zi zU (zi zW (zi zX y6))))))))))))))))))))))))))))))
theorem U0:∀(a:Tm) (st:aB),a.sz≤1048576→aD prog 74 [a.av] st (Made st a.av)
 | .mk k n s ts,st,hb=>by
  rw[Tm.OA] at hb
  have hc:=fun st=>aPD ts st (by omega) fun x hx st=>U0 x st (by have:=yF (f:=Tm.sz) hx;omega)
  refine aD.UO ?_
  refine wF [] 1 func74 ntmps74 rfl rfl ?_
  intro _
  simp only[aY]
  simp -implicitDefEqProofs only[aA,seval,aRU]
  intro b hb1 b2 hb2
  have hne:b2≠b:=by rintro rfl;rw[aB.aP] at hb2;cases hb2
  have hn2:st b2=none:=by rw[aB.aJ st _ hne] at hb2;exact hb2
  simp -implicitDefEqProofs only[aG,aA,seval]
  refine(hc _).mono ?_
  rintro q s2 ⟨bs,m1,m2,m3,m4⟩
  have hbb:b∉bs:=fun h=>by have:=m2 b h;simp [gZ,hne.symm] at this
  have p9:b2∉bs:=fun h=>by have:=m2 b2 h;simp [gZ] at this
  have e1:=m4 b hbb
  have e2:=m4 b2 p9
  simp only[gZ,hne,hne.symm,gB,dI] at e1 e2
  have hqc:q.cells= [q]:=by have:=(bG.shape m3).1;cases q<;>first | rfl | simp [AV.isAgg] at this
  have hqs:q.storable=true:=by
   have:=m3
   simp only[bG] at this
   rcases this with ⟨_,rfl,_⟩ | ⟨_,_,_,_,rfl,_⟩<;>rfl
  simp -implicitDefEqProofs only[gZ,hne.symm,e1,e2,hqc,hqs,aG,aA,seval,aRU]
  refine⟨[b,b2],bs,m1,fun x hx=>?_,?_,?_,?_⟩
  · have:=m2 x hx
    have h1:x≠b:=fun e=>hbb (e▸hx)
    have h2:x≠b2:=fun e=>p9 (e▸hx)
    simpa [gZ,h1,h2] using this
  · simp [hb1,hn2,hbb,p9]
  · rw[←aY]
    refine I7.2 ⟨q,rfl,bG.aV _ _ _ (fun x hx=>?_) m3⟩
    have h1:x≠b:=fun e=>hbb (e▸hx)
    have h2:x≠b2:=fun e=>p9 (e▸hx)
    simp only[gZ,h1,h2,dI]
  · intro x hx hd
    simp only[c8,dX,eC,pI] at hd
    simp only[gZ,hd.1,hd.2,dI]
    rw[m4 x hx]
    simp only[gZ,hd.1,hd.2,dI]
termination_by a=>SizeOf.sizeOf a
decreasing_by have:=List.sizeOf_lt_of_mem hx;simp only[Tm.mk.sizeOf_spec];omega
abbrev WP:=zi tI_3 (zi zI_3 (zi aZ (zi tI_4 (zi zI_4 (zi cG (zi tI_31 (zi zI_31 (zi aO (zi bH (zi bJ (zi bZ (zi tI_66 (zi zI_66 (zi bS (zi bT (zi bU (zi bV bR)))))))))))))))))
theorem LT(l l':List Tm)(st:aB)(hc:∀x∈l,∀(y:Tm) (st:aB),aD prog 78 [Tm.av x,Tm.av y] st (fun r st'=>r=.bool (Tm.same x y)∧st'=st)) :
 aD prog 23 [.slice (l.map Tm.av),.slice (l'.map Tm.av)] st (fun r st'=>r=.bool (iO Tm.same l l')∧st'=st):=by
 refine wF [] 2 func23 ntmps23 rfl rfl ?_
 simp only[d5,AV.fits,d9,aF]
 intro ⟨⟨hl,_⟩,⟨hl',_⟩⟩
 simp -implicitDefEqProofs only[aF,aA,seval,WP]
 refine⟨fun h4=>?_,fun h4=>?_⟩
 · simp -implicitDefEqProofs only[aA,seval]
   simp only[iX,cP] at h4
   rw[EQ _ (show l.length≠l'.length by omega)]
 simp -implicitDefEqProofs only[aA,seval]
 simp only[mD,bL] at h4
 have h4':l.length=l'.length:=by omega
 refine pP (α:=Nat) [] (fun i=>i≤l.length∧∀(j:Nat) (x y:Tm),j<i→l[j]?=some x→l'[j]?=some y→Tm.same x y=true)
  (fun i=>[(0,.slice (l.map Tm.av)),(1,.slice (l'.map Tm.av)),(5,.int .i64 i)]) (fun _=>st) (fun i=>l.length - i) (by decide +kernel)
  ⟨0,⟨by omega,by intro j x y h;omega⟩,aN.mk (by simp -implicitDefEqProofs only[aA,↓aX,seval])⟩ ?_
 intro i ⟨hi,dN⟩
 simp -implicitDefEqProofs only[aF,aA,seval,WP]
 refine⟨fun h5=>?_,fun h5=>?_⟩
 case refine_2=>
  simp -implicitDefEqProofs only[aA,seval]
  simp only[cP,iY] at h5
  rw[EO _ h4' (fun j x y h6 h7=>dN j x y (by have:=(fR.1 h6).1;omega) h6 h7)]
 simp only[bL,iY] at h5
 obtain⟨x,hx⟩:∃x,l[i]?=some x:=⟨_,dZ h5⟩
 obtain⟨y,hy⟩:∃y,l'[i]?=some y:=⟨_,dZ (h4'▸h5)⟩
 simp -implicitDefEqProofs only[aA,seval]
 refine LJ mixed (by decide +kernel) (by decide +kernel) ?_
 simp -implicitDefEqProofs only[bO (av:=Tm.av) aO hx (aK x),bO (av:=Tm.av) aO hy (aK y),a7,aK,aA,seval,WP]
 refine(hc x (cJ hx) y st).to ?_
 simp -implicitDefEqProofs only[aA,seval]
 refine⟨fun h6=>?_,fun h6=>?_⟩
 · simp -implicitDefEqProofs only[aA,seval]
   have h7:Tm.same x y=false:=by simpa using h6
   rw[EP _ i x y hx hy h7]
 have h7:Tm.same x y=true:=by simpa using h6
 simp -implicitDefEqProofs only[aA,seval]
 refine⟨i+1,by omega,⟨by omega,fun j u v hj hu hv=>?_⟩,aN.mk ?_⟩
 · rcases kX j i with h8 | h8
   · exact dN j u v h8 hu hv
   · obtain rfl:j=i:=by omega
     rw[hx] at hu;rw[hy] at hv;cases hu;cases hv;exact h7
 · have:=bE (n:=(i:Int)+1)
   simp -implicitDefEqProofs only[this,aA,seval]
abbrev WO:=zi tI_3 (zi zI_3 (zi aZ (zi tI_23 (zi zI_23 (zi t8 (zi zJ (zi zN (zi wM (zi tI_90 (zi zI_90 (zi zT (zi zU (zi zW (zi zX y6))))))))))))))
theorem aA8(l:List Tm)(left:Int)(st:aB)(h0:0≤left)(h1:left≤1048576)(hc:∀x∈l,∀(left:Int) (st:aB),0≤left→left≤1048576→aD prog 70 [Tm.av x,.int .i64 left] st (fun r st'=>r=.int .i64 (l8 left (Tm.sz x))∧st'=st)) :
 aD prog 16 [.slice (l.map Tm.av),.int .i64 left] st (fun r st'=>r=.int .i64 (l8 left (l.length+aR Tm.sz l))∧st'=st):=by
 refine wF [] 2 func16 ntmps16 rfl rfl ?_
 simp only[d5,AV.fits,d9,aF]
 intro ⟨hl,_⟩
 have hw:=bE (n:=left - (l.length:Int))
 simp -implicitDefEqProofs only[aF,hw,aA,seval,WO]
 refine⟨fun h4=>?_,fun h4=>?_⟩
 · simp -implicitDefEqProofs only[aA,seval]
   simp only[bL] at h4
   simp only[l8]
   rw[aH (by omega)]
 simp only[cP] at h4
 simp -implicitDefEqProofs only[aA,seval]
 refine pP (α:=Nat) [] (fun i=>i≤l.length∧((l.length+aR Tm.sz (l.take i):Nat):Int)≤left)
  (fun i=>[(0,.slice (l.map Tm.av)),(1,.int .i64 (left - ((l.length+aR Tm.sz (l.take i):Nat):Int))),(5,.int .i64 i)]) (fun _=>st) (fun i=>l.length - i) (by decide +kernel)
  ⟨0,⟨by omega,by simp only[j9,aR];omega⟩,aN.mk (by simp -implicitDefEqProofs only[aR,rY,aA,↓aX,seval])⟩ ?_
 intro i ⟨hi,hle⟩
 simp -implicitDefEqProofs only[aF,aA,seval,WO]
 refine⟨fun h5=>?_,fun h5=>?_⟩
 case refine_2=>
  simp -implicitDefEqProofs only[aA,seval]
  simp only[cP,iY] at h5
  rw[show i=l.length by omega,eN] at hle ⊢
  rw[wH (by omega)]
 simp only[bL,iY] at h5
 obtain⟨x,hx⟩:∃x,l[i]?=some x:=⟨_,dZ h5⟩
 simp -implicitDefEqProofs only[bO (av:=Tm.av) t8 hx (aK x),a7,aK,aA,seval,WO]
 refine(hc x (cJ hx) _ st (by omega) (by omega)).to ?_
 have hs:=yG Tm.sz hx
 simp -implicitDefEqProofs only[aA,seval]
 refine⟨fun h6=>?_,fun h6=>?_⟩
 · simp -implicitDefEqProofs only[aA,seval]
   simp only[bL,sX] at h6
   simp only[l8]
   rw[aH (by omega)]
 simp only[cP,sX] at h6
 rw[wH h6]
 simp -implicitDefEqProofs only[aA,seval]
 refine⟨i+1,by omega,⟨by omega,by omega⟩,aN.mk ?_⟩
 · have:=bE (n:=(i:Int)+1)
   have e:(left - ((l.length+aR Tm.sz (l.take (i+1)):Nat):Int))=left - ((l.length+aR Tm.sz (l.take i):Nat):Int) - ((Tm.sz x:Nat):Int):=by omega
   simp -implicitDefEqProofs only[this,e,aA,seval]
abbrev ON:=zi tI_3 (zi zI_3 (zi aZ (zi tI_4 (zi zI_4 (zi cG (zi tI_9 (zi zI_9 (zi cF (zi tI_31 (zi zI_31 (zi aO (zi bH (zi bJ (zi bZ (zi tI_66 (zi zI_66 (zi bS (zi bT (zi bU (zi bV bR))))))))))))))))))))
theorem HE:∀(a b:Tm) (st:aB),aD prog 78 [a.av,b.av] st (fun r st'=>r=.bool (a.same b)∧st'=st)
 | .mk k n s ts,.mk k' n' s' ts',st=>by
  have hc:=LT ts ts' st fun x hx y st=>HE x y st
  refine wF [] 2 func78 ntmps78 rfl rfl ?_
  intro _
  simp only[aY,Tm.N6]
  simp -implicitDefEqProofs only[aA,seval,ON]
  refine⟨fun h1=>?_,fun h1=>?_⟩
  · simp -implicitDefEqProofs only[aA,seval]
    simp only[iX] at h1
    simp [h1]
  simp only[mD] at h1
  simp -implicitDefEqProofs only[aA,seval,ON]
  refine⟨fun h2=>?_,fun h2=>?_⟩
  · simp -implicitDefEqProofs only[aA,seval]
    simp only[iX] at h2
    simp [h2]
  simp only[mD] at h2
  simp -implicitDefEqProofs only[aA,seval,ON]
  refine⟨fun h3=>?_,fun h3=>?_⟩
  · simp -implicitDefEqProofs only[aA,seval]
    simp only[iX] at h3
    simp [h3]
  simp only[mD] at h3
  simp -implicitDefEqProofs only[aA,seval,ON]
  refine hc.to ?_
  simp -implicitDefEqProofs only[aA,seval]
  refine⟨fun h4=>?_,fun h4=>?_⟩<;>simp -implicitDefEqProofs only[aA,seval]
  · simp only[iX] at h4
    simp [h4]
  · simp only[mD] at h4
    simp [h1,h2,h3,h4]
termination_by a=>SizeOf.sizeOf a
decreasing_by have:=List.sizeOf_lt_of_mem hx;simp only[Tm.mk.sizeOf_spec];omega
abbrev aR3:=zi tI_3 (zi zI_3 (zi aZ (zi tI_9 (zi zI_9 (zi cF (zi tI_23 (zi zI_23 (zi t8 (zi zJ (zi zN (zi wM (zi tI_90 (zi zI_90 (zi zT (zi zU (zi zW (zi zX y6)))))))))))))))))
theorem RW:∀(a:Tm) (left:Int) (st:aB),0≤left→left≤1048576→aD prog 70 [a.av,.int .i64 left] st (fun r st'=>r=.int .i64 (l8 left a.sz)∧st'=st)
 | .mk k n s ts,left,st,h0,h1=>by
  have hc:=fun(left:Int) h0 h1=>aA8 ts left st h0 h1 fun x hx left st h0 h1=>RW x left st h0 h1
  refine wF [] 2 func70 ntmps70 rfl rfl ?_
  simp only[aY,Tm.OA,d5,AV.fits,d9]
  intro ⟨_,_,hs,_⟩
  have hw:=bE (n:=left - (s.size:Int))
  simp -implicitDefEqProofs only[hw,aA,seval,aR3]
  refine⟨fun h2=>?_,fun h2=>?_⟩
  · simp -implicitDefEqProofs only[aA,seval]
    simp only[bL] at h2
    simp only[l8]
    rw[aH (by omega)]
  simp only[cP] at h2
  simp -implicitDefEqProofs only[aA,seval,aR3]
  refine(hc _ (by omega) (by omega)).to ?_
  simp -implicitDefEqProofs only[aA,seval]
  refine⟨fun h3=>?_,fun h3=>?_⟩
  · simp -implicitDefEqProofs only[aA,seval]
    simp only[bL,sX] at h3
    simp only[l8]
    rw[aH (by omega)]
  simp only[cP,sX] at h3
  simp -implicitDefEqProofs only[aA,seval]
  rw[wH h3,wH (by omega)]
  simp only[AV.int.injEq,rQ]
  omega
termination_by a=>SizeOf.sizeOf a
decreasing_by have:=List.sizeOf_lt_of_mem hx;simp only[Tm.mk.sizeOf_spec];omega
theorem UR{α:Type}(mk:α→Int→α)(n:α→Nat):∀(l:List α) (j:Int) (i:Nat),(gX mk n l j).drop i=gX mk n (l.drop i) (j+aR n (l.take i))
 | [],_,i=>by simp [gX]
 | x::l,j,0=>by simp [aR]
 | x::l,j,i+1=>by
  simp only[gX,List.drop_succ_cons,tK,aR,UR mk n l _ i]
  congr 1
  omega
abbrev OG:=zi tI_3 (zi zI_3 (zi aZ (zi tI_9 (zi zI_9 (zi cF (zi tI_31 (zi zI_31 (zi aO (zi bH (zi bJ (zi bZ (zi tI_66 (zi zI_66 (zi bS (zi bT (zi bU (zi bV bR)))))))))))))))))
theorem Z3:∀(l:List Tm) (j:Int) (st:aB),0≤j→j+aR Tm.dV l≤1099511627776 →
 aD prog 80 [.slice ((gX Tm.mark Tm.dV l j).map Tm.av),.int .i64 j] st (fun r st'=>r=.int .i64 (j+aR Tm.dV l)∧st'=st)
 | l,j,st,h0,h1=>by
  have IH:=fun(k n:Int) (s:ByteArray) (ts:List Tm) (hm:Tm.mk k n s ts∈l)=>Z3 ts
  refine wF [1000000] 2 func80 ntmps80 rfl rfl ?_
  simp only[d5,AV.fits,d9,aF,I1]
  intro ⟨hl,_⟩
  have hML:(gX Tm.mark Tm.dV l j).length=l.length:=I1 _ _ _ _
  simp -implicitDefEqProofs only[aA,seval]
  refine eH (σ:=Unit) [1000000] [0] (gX Tm.mark Tm.dV l j) (fun i _=>True) (fun i _=>[(1,.int .i64 (j+aR Tm.dV (l.take i))),(5,.int .i64 i)]) (fun _ _=>st) (by decide +kernel) ⟨(),trivial,aN.mk (by simp -implicitDefEqProofs only[aR,j9,Int.add_zero,aA,↓aX,seval])⟩ (fun i x _ hx hlt bQ hdr _=>?_) (fun _ hge _=>?_)
  case refine_2=>
   rw[hML] at hge
   simp -implicitDefEqProofs only[hge,eN,aF,hML,aA,seval,OG]
  rw[hML] at hlt bQ
  obtain⟨y,hy⟩:∃y,l[i]?=some y:=⟨_,dZ hlt⟩
  obtain⟨k,n,s,ts⟩:=y
  have hxy:x=(Tm.mk k n s ts).mark (j+aR Tm.dV (l.take i)):=by
   have:=UR Tm.mark Tm.dV l j i
   rw[hdr,pQ hlt,gX,(fR.1 hy).2] at this
   exact(yQ this).1
  have hs:=yG Tm.dV hy
  rw[Tm.I3] at hs
  rw[Tm.aOZ] at hxy
  have hat:=bO (av:=Tm.av) aO hx (aK x)
  rw[hxy,aY] at hat
  obtain⟨hs1,hs2⟩:=hs
  generalize hk:j+(aR Tm.dV (l.take i):Int)=m at *
  have hw1:=bE (n:=m+1)
  have hw2:=bE (n:=m+1+1)
  have hw3:=bE (n:=m+1+1+1)
  have hw:=bE (n:=(i:Int)+1)
  simp -implicitDefEqProofs only[bQ,bX,nM,aF,hML,hat,hw1,hw2,aA,seval,OG]
  refine wP [(0,1),(1,1),(2,1),(3,1),(5,1),(4,2),(6,2),(7,1)] [0,1,2,3,5,4,6,7] mixed ?_
  simp -implicitDefEqProofs only[hat,aA,seval,OG]
  refine iE (RQ (m+1+1) _ (by omega)) ?_
  simp -implicitDefEqProofs only[bX,nM,hat,hw3,aA,seval,OG]
  refine(IH k n s ts (cJ hy) (m+1+1+1) _ (by omega) (by omega)).to ?_
  have oO:¬(m+1+1+1+(aR Tm.dV ts:Int)<0):=by omega
  simp -implicitDefEqProofs only[oO,b9,aA,seval]
  refine⟨(),aN.mk ?_⟩
  have e:j+(aR Tm.dV (l.take (i+1)):Int)=m+1+1+1+(aR Tm.dV ts:Int):=by omega
  simp -implicitDefEqProofs only[hw,e,aA,seval]
termination_by l=>SizeOf.sizeOf l
decreasing_by have:=List.sizeOf_lt_of_mem hm;simp only[Tm.mk.sizeOf_spec] at this;omega
abbrev sW (l:List Tm):Nat:=l.length+aR Tm.sz l
theorem aA9(l:List Tm)(left:Int)(st:aB)(h0:0≤left)(h1:left≤1048576):aD prog 16 [.slice (l.map Tm.av),.int .i64 left] st (fun r st'=>r=.int .i64 (l8 left (sW l))∧st'=st):=
 aA8 l left st h0 h1 fun x _ left st h0 h1=>RW x left st h0 h1
theorem aV5(l:List Tm)(st:aB):aD prog 23 [.slice (l.map Tm.av),.slice (l.map Tm.av)] st (fun r st'=>r=.bool true∧st'=st):=by
 refine(LT l l st fun x _ y st=>HE x y st).mono ?_
 rintro _ _ ⟨rfl,rfl⟩
 refine⟨?_,rfl⟩
 rw[(BZ (fun x _ y=>Tm.AK x y)).2 rfl]
theorem aQ8{l:List Tm}{x:Tm}(hx:x∈l):x.sz≤sW l:=by have:=yF (f:=Tm.sz) hx;unfold sW;omega
theorem RY(l:List Tm)(st:aB)(hb:sW l≤1048576):aD prog 19 [.slice (l.map Tm.av)] st (fun r st'=>r=.slice (l.map Tm.av)∧st'=st):=
 aBB l st (by unfold sW at hb;omega) fun x hx st=>aBA x st (by have:=aQ8 hx;omega)
theorem aPE(l:List Tm)(st:aB)(hb:sW l≤1048576):aD prog 19 [.slice (l.map Tm.av)] st (Made st (.slice (l.map Tm.av))):=
 aPD l st (by unfold sW at hb;omega) fun x hx st=>U0 x st (by have:=aQ8 hx;omega)
mutual
theorem Tm.aO1:∀(t:Tm),t.dV≤3+3*t.sz
 | .mk k n s ts=>by
  have:=W4 ts
  rw[Tm.dV,Tm.OA]
  omega
theorem W4:∀(ts:List Tm),DE ts≤3*(ts.length+aR Tm.sz ts)
 | []=>by simp [DE]
 | t::ts=>by
  have h1:=Tm.aO1 t
  have h2:=W4 ts
  simp only[DE,aQ,aR]
  omega
end
theorem aO2(l:List Tm):aR Tm.dV l≤3*sW l:=by rw[←W3];exact W4 l
end Go.AW
