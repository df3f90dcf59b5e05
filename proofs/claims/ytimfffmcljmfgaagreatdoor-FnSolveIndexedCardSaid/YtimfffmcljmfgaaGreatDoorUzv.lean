/- A tail of what was owned is never written again. -/
import Derived.Test.YtimfffmcljmfgaaGreatDoorUzr
import Derived.Test.YtimfffmcljmfgaaGreatDoorUzu
import Derived.Test.YtimfffmcljmfgaaGreatDoorUzp
import Derived.Test.YtimfffmcljmfgaaGreatDoorUzs
set_option linter.unusedSimpArgs false
set_option linter.unusedVariables false
set_option maxRecDepth 100000
namespace Go.AW
theorem r9.fin{s0:aB}{b:Nat}{l:List AV}{r:AV}(h0:l≠[]→s0 b=none)(h2:∀e∈l,e.cH=false)(h3:iR l):BH (a8 s0 b l) s0∧r9 (a8 s0 b l) r s0 (r.fin b l):=by
 cases l with
 | nil=>exact⟨(aL.refl _).tD,fun h v S y=>y.soft⟩
 | cons e l=>
  have hb:=h0 (by simp)
  have h1:a8 s0 b (e::l) b=some (.cells ((e::l).flatMap AV.cells)):=by simp only[a8,aB.aP]
  have e1:(a8 s0 b (e::l)).erase b=s0:=by simp only[a8];exact aB.vR _ _ _ hb
  refine⟨?_,fun h v S y=>?_⟩
  · have:=(jZ (a8 s0 b (e::l)) b).tD
    rwa [e1] at this
  · have:=y.fz S h1 h2 h3
    rw[e1] at this
    exact this.soft
theorem r9.tail{s0:aB}{b k w:Nat}{l:List AV}(hb:s0 b=none)(hk:k<l.length)(h2:∀e∈l,e.cH=false)(hw:∀e∈l,e.width=w):BH (a8 s0 b l) s0∧r9 (a8 s0 b l) (.mslice b (k*w) (l.length - k) w) s0 (.slice (l.drop k)):=by
 have hl:l≠[]:=by rintro rfl;simp at hk
 have h1:a8 s0 b l b=some (.cells (l.flatMap AV.cells)):=by rw[jY hl,aB.aP]
 have e1:(a8 s0 b l).erase b=s0:=by rw[jY hl];exact aB.vR _ _ _ hb
 refine⟨?_,fun h v S y=>?_⟩
 · have:=(jZ (a8 s0 b l) b).tD
   rwa [e1] at this
 · obtain⟨f1,f2⟩:=frozen S h1 h2
   rw[e1] at f2
   obtain⟨cap,hv,l1,l2,_⟩:=y.CN
   have hE:=dP.drop k hw f2
   rw[iJ] at hE
   subst hv
   refine⟨rfl,?_⟩
   unfold VC
   exact .inr ⟨b,k*w,cap,by rw[lR];try rfl,by rw[lR];exact l1,l2,hb,f1,⟨w,fun e he=>hw e (List.mem_of_mem_drop he)⟩,hE⟩
theorem aD.aMY{P:Program}{g:FuncId}{args:List AV}{st:aB}{Q:AV→aB→Prop}(x:aD P g args st (fun r st'=>∃r2 s2,(BH st' s2∧r9 st' r s2 r2)∧Q r2 s2)):aD P g args st Q:=
 x.mT fun r st' ⟨r2,s2,⟨h1,h2⟩,h3⟩=>⟨r2,s2,h1,h2,h3⟩
end Go.AW
namespace Go.AW
open Go.Proofs.Tryz
theorem a61{P:Program}{t:TypeId}{ag:Bool}{w b n:Nat}(hI:eI P t=some (ag,w))(h1:1<n)(φ:AF):iK P φ t (.mslice b 0 n w) (some (.const (.int .i64 1))) none none=some (.mslice b (0+1*w) (n - 1) w):=by
 have h2:d8 φ none n n=some n:=rfl
 have h3:d8 φ (some (.const (.int .i64 1))) 0 n=some 1:=by
  show(if((0:Nat):Int)≤1∧(1:Int)≤(n:Int) then some (Int.toNat 1) else none)=some 1
  rw[aH ⟨by omega,by omega⟩]
  try rfl
 unfold iK oY
 rw[aE (by simp [rH])]
 simp only[hI,h2,h3]
 rw[aH trivial,aE (by decide),aH h1]
def zG:Cl:=(.mk 3 0 ⟨#[122]⟩ [],[])
abbrev J1:=zi tI_3 (zi zI_3 (zi aZ (zi tI_9 (zi zI_9 (zi cF (zi tI_29 (zi zI_29 (zi fN (zi iT (zi iU (zi jK (zi tI_31 (zi zI_31 (zi aO (zi bH (zi bJ (zi bZ (zi tI_84 (zi zI_84 (zi kG (zi kH (zi kD (zi tI_116 zI_116)))))))))))))))))))))))
set_option maxHeartbeats 2000000 in
theorem aXF(bs:List Bt)(c p:Nat)(l:List Cl)(hl:∀x∈l,xF x)(h1:2≤l.length)(h2:l.length≤40)(st:aB)(hp:p+1000000≤1099511627776)(hR:dS st c bs p) :
 aD prog 138 [.ptr c 0,.slice (l.map bB)] st (Dr bs c p 1000000 st (fun r=>∃l':List Cl,r=.slice (l'.map bB))):=by
 refine aD.aMY ?_
 have T9:st.aC c (cE bs p)=st:=XJ hR
 have kT:∀(q b:Nat) (acc:List Cl),p≤q→q≤p+1000000→(acc.map bB≠[]→(st.aC c (cE bs q)) b=none)→∃r2 s2,(BH (a8 (st.aC c (cE bs q)) b (acc.map bB)) s2∧r9 (a8 (st.aC c (cE bs q)) b (acc.map bB)) (bM 5 b (acc.map bB)) s2 r2)∧Dr bs c p 1000000 st (fun r=>∃l':List Cl,r=.slice (l'.map bB)) r2 s2:=fun q b acc g1 g2 hb=>by
  have:=r9.fin (r:=bM 5 b (acc.map bB)) hb (L5 _) ⟨5,BU _⟩
  rw[jE] at this
  exact⟨_,_,this,q,g1,g2,rfl,acc,rfl⟩
 have hRq:∀(q b:Nat) (L:List AV),(L≠[]→(st.aC c (cE bs q)) b=none)→dS (a8 (st.aC c (cE bs q)) b L) c bs q∧∀o,(a8 (st.aC c (cE bs q)) b L).aC c o=a8 (st.aC c o) b L∧(L≠[]→(st.aC c o) b=none):=fun q b L hb=>by
  have hne:L≠[]→c≠b:=fun h e=>by have:=hb h;rw[←e,aB.aP] at this;cases this
  refine⟨?_,fun o=>⟨?_,fun h=>?_⟩⟩
  · unfold dS
    by_cases h:L= []
    · rw[h,yY,aB.aP];try rfl
    · rw[pU (hne h),aB.aP];try rfl
  · rw[pV hne,c7]
  · have:=hb h
    rw[aB.aJ _ _ (c9 (hne h))] at this ⊢
    exact this
 refine wF [1000000] 2 func138 ntmps138 rfl rfl ?_
 simp only[d5,AV.fits,d9,aF]
 intro _
 simp -implicitDefEqProofs only[aA,seval,J1]
 refine eH (σ:=Nat×Nat×List Cl) [1000000] [0,1,4] l (fun i x=>p≤x.1∧x.1≤p+6000*i∧x.2.2.length=i∧(x.2.2.map bB≠[]→(st.aC c (cE bs x.1)) x.2.1=none)) (fun i x=>[(5,bM 5 x.2.1 (x.2.2.map bB)),(6,.int .i64 i)]) (fun i x=>a8 (st.aC c (cE bs x.1)) x.2.1 (x.2.2.map bB)) (by decide +kernel) ⟨(p,0,[]),⟨dB _,by simp only;omega,rfl,fun h=>absurd rfl h⟩,by
  simp only[aU,yY,T9]
  exact aN.mk (by simp -implicitDefEqProofs only[kB,aA,↓aX,seval])⟩ (fun i x s hx hlt bQ hdr hinv=>?_) (fun s hge hinv=>?_)
 case refine_1=>
  obtain⟨q,b,acc⟩:=s
  obtain⟨g1,g2,g3,g4⟩:=hinv
  simp only at g1 g2 g3 g4
  have hw:=bE (n:=(i:Int)+1)
  have hat:=bO (av:=bB) fN hx (i8 x)
  have hcw:=i8 x
  have hca:=vM x
  obtain⟨k1,k2⟩:=hRq _ _ _ g4
  simp -implicitDefEqProofs only[bQ,aF,hat,hcw,hca,aA,seval,J1]
  refine(aXE bs c q x (hl x (cJ hx)) _ (by omega) k1).mono ?_
  rintro _ _ ⟨q2,r1,r2,rfl,y,rfl⟩
  obtain⟨k3,k4⟩:=k2 (cE bs q2)
  rw[k3]
  have hya:=vM y
  have hyw:=i8 y
  have hyj:=L4 y
  have hys:=R9 y
  have hyc:=aBN y
  simp -implicitDefEqProofs only[hya,hyw,hyj,aA,seval,J1]
  refine fG fN iT iU rfl rfl (gA hyw hys) (BU _) k4 (by simp only[aF,aQ,bA];omega) (by simp only[aF,aQ,bA];omega) (fun b' hb'=>?_)
  rw[show acc.map bB++ [bB y]=(acc++ [y]).map bB by simp] at hb' ⊢
  simp -implicitDefEqProofs only[hw,aA,seval]
  exact⟨(q2,b',acc++ [y]),⟨by simp only;omega,by simp only;omega,by simp only[dL,aQ,bA];omega,hb'⟩,aN.mk (by simp -implicitDefEqProofs only[aA,seval])⟩
 obtain⟨q,b,acc⟩:=s
 obtain⟨g1,g2,g3,g4⟩:=hinv
 simp only at g1 g2 g3 g4
 obtain⟨k1,k2⟩:=hRq _ _ _ g4
 simp -implicitDefEqProofs only[aF,hge,aA,seval,J1]
 refine(oG bs c q (by omega) 30 (by omega) (by omega) _ k1).mono ?_
 rintro _ _ ⟨j,hj,rfl,rfl⟩
 obtain⟨k3,k4⟩:=k2 (cE bs (q+1))
 rw[k3]
 have UD:prog.underlying 29=some (.slice 84):=by kernel_rfl
 simp -implicitDefEqProofs only[aA,seval]
 refine aS (fun h0=>?_) (fun h0=>?_)
 · simp -implicitDefEqProofs only[aA,seval]
   refine iN (σ:=Nat×List Cl) [1000000] [4,24] (fun x=>(x.2.map bB≠[]→(st.aC c (cE bs (q+1))) x.1=none)∧x.2.length≤41) (fun x=>[(5,bM 5 x.1 (x.2.map bB))]) (fun x=>a8 (st.aC c (cE bs (q+1))) x.1 (x.2.map bB)) (fun x=>41 - x.2.length) (by decide +kernel) ⟨(b,acc),⟨k4,by simp only;omega⟩,aN.mk (by simp -implicitDefEqProofs only[aA,seval])⟩ ?_
   rintro⟨b,acc⟩ ⟨i1,i2⟩
   simp only at i1 i2
   have haL:=vE (w:=5) (b:=b) (l:=acc.map bB) UD
   rw[aF] at haL
   simp -implicitDefEqProofs only[haL,aA,seval]
   refine aS (fun h1=>?_) (fun h1=>?_)
   case refine_2=>
    simp -implicitDefEqProofs only[aA,seval]
    exact kT _ _ _ (by omega) (by omega) i1
   simp only[bL] at h1
   simp -implicitDefEqProofs only[aA,seval]
   refine(tX ⟨#[122]⟩ [] (by simp) _).to ?_
   simp -implicitDefEqProofs only[aY,aU,aA,seval,J1]
   refine fG (xs:=[.agg [.int .i64 3,.int .i64 0,.str ⟨#[122]⟩,.slice [],.fslice []]]) fN iT iU rfl rfl (gA rfl rfl) (BU _) i1 (by simp only[aF,aQ,bA];omega) (by simp only[aF,aQ,bA];omega) (fun b' hb'=>?_)
   have hb2:(acc++ [zG]).map bB≠[]→(st.aC c (cE bs (q+1))) b'=none:=fun _=>hb' (by simp)
   have iV:a8 (st.aC c (cE bs (q+1))) b' (acc.map bB++ [.agg [.int .i64 3,.int .i64 0,.str ⟨#[122]⟩,.slice [],.fslice []]]) b'=some (.cells (((acc.map bB).flatMap AV.cells++ [.int .i64 3,.int .i64 0,.str ⟨#[122]⟩,.slice []])++ .fslice []:: [])):=by
    rw[jY (by simp),aB.aP]
    simp [AV.cells]
   have aN7:=fun φ=>gM.a63 (φ:=φ) iV
   have a25:(a8 (st.aC c (cE bs (q+1))) b' (acc.map bB++ [.agg [.int .i64 3,.int .i64 0,.str ⟨#[122]⟩,.slice [],.fslice []]])).aC b' (.cells (((acc.map bB).flatMap AV.cells++ [.int .i64 3,.int .i64 0,.str ⟨#[122]⟩,.slice []])++(AV.fslice []).soft:: []))=a8 (st.aC c (cE bs (q+1))) b' ((acc++ [zG]).map bB):=by
    rw[jY (by simp),c7,jY (by simp)]
    congr 2
    simp [AV.cells,AV.soft,zG,fU]
   rw[a25] at aN7
   have hV:bM 5 b' (acc.map bB++ [.agg [.int .i64 3,.int .i64 0,.str ⟨#[122]⟩,.slice [],.fslice []]])=bM 5 b' ((acc++ [zG]).map bB):=by
    rw[pW (by simp),pW (by simp)]
    simp
   rw[hV]
   simp -implicitDefEqProofs only[aA,seval]
   refine⟨(b',acc++ [zG]),by simp only[dL,aQ,bA];omega,⟨hb2,by simp only[dL,aQ,bA];omega⟩,(aN7 _).trans (aN.mk (by simp -implicitDefEqProofs only[aA,seval]))⟩
 simp -implicitDefEqProofs only[aA,seval]
 refine aS (fun h1=>?_) (fun h1=>?_)
 · have hne:acc.map bB≠[]:=fun h=>by have:=jG List.length h;simp at this;subst this;simp at g3;omega
   have hlen:(acc.map bB).length=acc.length:=aF _
   have hsl:=a61 (P:=prog) (b:=b) fN (show 1<acc.length by omega)
   have hb0:=k4 hne
   simp -implicitDefEqProofs only[pW hne,hlen,hsl,aA,seval]
   have hT:=r9.tail (k:=1) (w:=5) hb0 (by rw[hlen];omega) (L5 acc) (BU acc)
   rw[hlen] at hT
   simp only[Nat.one_mul] at hT ⊢
   exact⟨_,_,hT,q+1,by omega,by omega,rfl,acc.drop 1,by rw[GJ]⟩
 · skip
   simp -implicitDefEqProofs only[aA,seval]
   exact kT _ _ _ (by omega) (by omega) k4
abbrev J0:=zi tI_3 (zi zI_3 (zi aZ (zi tI_9 (zi zI_9 (zi cF (zi tI_31 (zi zI_31 (zi aO (zi bH (zi bJ (zi bZ (zi tI_66 (zi zI_66 (zi bS (zi bT (zi bU (zi bV (zi bR (zi tI_116 zI_116)))))))))))))))))))
set_option maxHeartbeats 2000000 in
theorem aXU(bs:List Bt)(c p:Nat)(l:List Tm)(hl:∀x∈l,Dn x)(h2:l.length≤40)(st:aB)(hp:p+1000000≤1099511627776)(hR:dS st c bs p) :
 aD prog 125 [.ptr c 0,.slice (l.map Tm.av)] st (Dr bs c p 1000000 st (fun r=>∃l':List Tm,l'.length≤41∧r=.slice (l'.map Tm.av))):=by
 refine aD.aMY ?_
 have T9:st.aC c (cE bs p)=st:=XJ hR
 have kT:∀(q b:Nat) (acc:List Tm),acc.length≤41→p≤q→q≤p+1000000→(acc.map Tm.av≠[]→(st.aC c (cE bs q)) b=none)→∃r2 s2,(BH (a8 (st.aC c (cE bs q)) b (acc.map Tm.av)) s2∧r9 (a8 (st.aC c (cE bs q)) b (acc.map Tm.av)) (bM 4 b (acc.map Tm.av)) s2 r2)∧Dr bs c p 1000000 st (fun r=>∃l':List Tm,l'.length≤41∧r=.slice (l'.map Tm.av)) r2 s2:=fun q b acc g0 g1 g2 hb=>by
  have:=r9.fin (r:=bM 4 b (acc.map Tm.av)) hb (jJ _) ⟨4,eD _⟩
  rw[jE] at this
  exact⟨_,_,this,q,g1,g2,rfl,acc,g0,rfl⟩
 have hRq:∀(q b:Nat) (L:List AV),(L≠[]→(st.aC c (cE bs q)) b=none)→dS (a8 (st.aC c (cE bs q)) b L) c bs q∧∀o,(a8 (st.aC c (cE bs q)) b L).aC c o=a8 (st.aC c o) b L∧(L≠[]→(st.aC c o) b=none):=fun q b L hb=>by
  have hne:L≠[]→c≠b:=fun h e=>by have:=hb h;rw[←e,aB.aP] at this;cases this
  refine⟨?_,fun o=>⟨?_,fun h=>?_⟩⟩
  · unfold dS
    by_cases h:L= []
    · rw[h,yY,aB.aP];try rfl
    · rw[pU (hne h),aB.aP];try rfl
  · rw[pV hne,c7]
  · have:=hb h
    rw[aB.aJ _ _ (c9 (hne h))] at this ⊢
    exact this
 refine wF [1000000] 2 func125 ntmps125 rfl rfl ?_
 simp only[d5,AV.fits,d9,aF]
 intro _
 simp -implicitDefEqProofs only[aA,seval,J0]
 refine eH (σ:=Nat×Nat×List Tm) [1000000] [0,1,4] l (fun i x=>p≤x.1∧x.1≤p+10*i∧x.2.2.length=i∧(x.2.2.map Tm.av≠[]→(st.aC c (cE bs x.1)) x.2.1=none)) (fun i x=>[(5,bM 4 x.2.1 (x.2.2.map Tm.av)),(6,.int .i64 i)]) (fun i x=>a8 (st.aC c (cE bs x.1)) x.2.1 (x.2.2.map Tm.av)) (by decide +kernel) ⟨(p,0,[]),⟨dB _,by simp only;omega,rfl,fun h=>absurd rfl h⟩,by
  simp only[aU,yY,T9]
  exact aN.mk (by simp -implicitDefEqProofs only[kB,aA,↓aX,seval])⟩ (fun i x s hx hlt bQ hdr hinv=>?_) (fun s hge hinv=>?_)
 case refine_1=>
  obtain⟨q,b,acc⟩:=s
  obtain⟨g1,g2,g3,g4⟩:=hinv
  simp only at g1 g2 g3 g4
  have hw:=bE (n:=(i:Int)+1)
  have hat:=bO (av:=Tm.av) aO hx (aK x)
  obtain⟨k1,k2⟩:=hRq _ _ _ g4
  simp -implicitDefEqProofs only[bQ,aF,hat,aK,a7,aA,seval,J0]
  refine(RE bs c q x (hl x (cJ hx)).2 _ (by omega) k1).mono ?_
  rintro _ _ ⟨q2,r1,r2,rfl,y,rfl⟩
  obtain⟨k3,k4⟩:=k2 (cE bs q2)
  rw[k3]
  simp -implicitDefEqProofs only[aK,a7,cM,aA,seval,J0]
  refine fG aO bH bJ rfl rfl (gA (aK _) (cB _)) (eD _) k4 (by simp only[aF,aQ,bA];omega) (by simp only[aF,aQ,bA];omega) (fun b' hb'=>?_)
  rw[show acc.map Tm.av++ [y.av]=(acc++ [y]).map Tm.av by simp] at hb' ⊢
  simp -implicitDefEqProofs only[hw,aA,seval]
  exact⟨(q2,b',acc++ [y]),⟨by simp only;omega,by simp only;omega,by simp only[dL,aQ,bA];omega,hb'⟩,aN.mk (by simp -implicitDefEqProofs only[aA,seval])⟩
 obtain⟨q,b,acc⟩:=s
 obtain⟨g1,g2,g3,g4⟩:=hinv
 simp only at g1 g2 g3 g4
 obtain⟨k1,k2⟩:=hRq _ _ _ g4
 simp -implicitDefEqProofs only[aF,hge,aA,seval,J0]
 refine(oG bs c q (by omega) 30 (by omega) (by omega) _ k1).mono ?_
 rintro _ _ ⟨j,hj,rfl,rfl⟩
 obtain⟨k3,k4⟩:=k2 (cE bs (q+1))
 rw[k3]
 have UD:prog.underlying 31=some (.slice 66):=by kernel_rfl
 simp -implicitDefEqProofs only[aA,seval]
 refine aS (fun h0=>?_) (fun h0=>?_)
 · simp -implicitDefEqProofs only[aA,seval]
   refine iN (σ:=Nat×List Tm) [1000000] [4] (fun x=>(x.2.map Tm.av≠[]→(st.aC c (cE bs (q+1))) x.1=none)∧x.2.length≤41) (fun x=>[(5,bM 4 x.1 (x.2.map Tm.av))]) (fun x=>a8 (st.aC c (cE bs (q+1))) x.1 (x.2.map Tm.av)) (fun x=>41 - x.2.length) (by decide +kernel) ⟨(b,acc),⟨k4,by simp only;omega⟩,aN.mk (by simp -implicitDefEqProofs only[aA,seval])⟩ ?_
   rintro⟨b,acc⟩ ⟨i1,i2⟩
   simp only at i1 i2
   have haL:=vE (w:=4) (b:=b) (l:=acc.map Tm.av) UD
   rw[aF] at haL
   simp -implicitDefEqProofs only[haL,aA,seval]
   refine aS (fun h1=>?_) (fun h1=>?_)
   case refine_2=>
    simp -implicitDefEqProofs only[aA,seval]
    exact kT _ _ _ i2 (by omega) (by omega) i1
   simp only[bL] at h1
   simp -implicitDefEqProofs only[aA,seval]
   refine(tX ⟨#[116,114,117,101]⟩ [] (by simp) _).to ?_
   simp -implicitDefEqProofs only[a7,aK,cM,aA,seval,J0]
   refine fG aO bH bJ rfl rfl (gA (aK _) (cB _)) (eD _) i1 (by simp only[aF,aQ,bA];omega) (by simp only[aF,aQ,bA];omega) (fun b' hb'=>?_)
   rw[show acc.map Tm.av++ [(Tm.mk 3 0 ⟨#[116,114,117,101]⟩ []).av]=(acc++ [Tm.mk 3 0 ⟨#[116,114,117,101]⟩ []]).map Tm.av by simp] at hb' ⊢
   simp -implicitDefEqProofs only[aA,seval]
   exact⟨(b',acc++ [Tm.mk 3 0 ⟨#[116,114,117,101]⟩ []]),by simp only[dL,aQ,bA];omega,⟨hb',by simp only[dL,aQ,bA];omega⟩,aN.mk (by simp -implicitDefEqProofs only[aA,seval])⟩
 · skip
   simp -implicitDefEqProofs only[aA,seval]
   exact kT _ _ _ (by omega) (by omega) (by omega) k4
abbrev a8G:=zi tI_3 (zi zI_3 (zi aZ (zi tI_46 (zi zI_46 (zi dK (zi fM (zi fJ (zi fX (zi tI_116 zI_116)))))))))
theorem aXT(bs:List Bt)(c p:Nat)(st:aB)(hp:p+10≤1099511627776)(hR:dS st c bs p):aD prog 137 [.ptr c 0] st (Dr bs c p 10 st (fun r=>∃n:Int,r=.int .i64 n)):=by
 refine wF [1000000] 1 func137 ntmps137 rfl rfl ?_
 intro _
 simp -implicitDefEqProofs only[aA,seval,a8G]
 refine(y8 [20,3,1,5,0,21,-1] (by simp) (by simp) bs c p (by omega) _ hR).mono ?_
 rintro _ _ ⟨x,hx,rfl,rfl⟩
 simp -implicitDefEqProofs only[aA,seval]
 exact⟨p+1,by omega,by omega,rfl,x,rfl⟩
abbrev a8H:=zi tI_3 (zi zI_3 (zi aZ (zi tI_46 (zi zI_46 (zi dK (zi fM (zi fJ (zi fX (zi tI_116 zI_116)))))))))
theorem aXS(bs:List Bt)(c p:Nat)(st:aB)(hp:p+10≤1099511627776)(hR:dS st c bs p):aD prog 139 [.ptr c 0] st (Dr bs c p 10 st (fun r=>∃n:Int,-1≤n∧n≤301∧r=.int .i64 n)):=by
 refine wF [1000000] 1 func139 ntmps139 rfl rfl ?_
 intro _
 simp -implicitDefEqProofs only[aA,seval,a8H]
 refine(y8 [100,60,200,10,300,0,301,-1] (by simp) (by simp) bs c p (by omega) _ hR).mono ?_
 rintro _ _ ⟨x,hx,rfl,rfl⟩
 simp -implicitDefEqProofs only[aA,seval]
 refine⟨p+1,by omega,by omega,rfl,x,?_,?_,rfl⟩<;>(simp only[c8,dX,eC] at hx;omega)
abbrev a8I:=zi tI_147 (zi zI_147 (zi jO (zi nC (zi nE n8))))
theorem aXH(st:aB):aD prog 204 [] st (fun r st'=>r=.slice (PH.map AV.str)∧st'=st):=by
 refine aD.done ?_
 refine wF [1000000] 0 func204 ntmps204 rfl rfl ?_
 intro _
 simp -implicitDefEqProofs only[aA,seval,a8I]
 exact⟨rfl,aL.refl _⟩
abbrev a8J:=zi tI_147 (zi zI_147 (zi jO (zi nC (zi nE n8))))
theorem aXW(st:aB):aD prog 267 [] st (fun r st'=>r=.slice (XF.map AV.str)∧st'=st):=by
 refine aD.done ?_
 refine wF [1000000] 0 func267 ntmps267 rfl rfl ?_
 intro _
 simp -implicitDefEqProofs only[aA,seval,a8J]
 exact⟨rfl,aL.refl _⟩
theorem aEX{α:Type}{P:Program}{t:TypeId}{ag:Bool}{w:Nat}{av:α→AV}{l:List α}{i:Nat}{x:α}(hI:eI P t=some (ag,w))(h:l[i]?=some x)(hw:(av x).width=w):dM P t (.fslice (l.map av)) (.int .i64 (i:Int))=some (.pptr (av x)):=by
 simp only[dM,hI,jU,nO,h,oD,hw]
 simp
theorem aZU{P:Program}{φ:AF}{st:aB}{t u v w:Tmp}{K:AV→aB→Prop}:nW P [.tmp t,.tmp u,.tmp v,.tmp w] K φ st=(lJ [φ t,φ u,φ v,φ w]=true∧K (.tup [φ t,φ u,φ v,φ w]) st):=rfl
def aM8(l:List ByteArray):AV:=.fslice (l.map AV.str)
abbrev VM (q:List Tm):Prop:=q.length≤6∧∀t∈q,Dn t
theorem aP0(s:ByteArray):∃q:List Tm,VM q∧∃f,GV (nT (sb s))=.tup [.slice (q.map Tm.av),.bool f]:=by
 cases h:nT (sb s) with
 | none=>exact⟨[],⟨by simp,by simp⟩,false,rfl⟩
 | some q=>
  obtain⟨h1,h2⟩:=a5I h
  exact⟨q,⟨(JA h1).1,h2⟩,true,rfl⟩
theorem a5K{s:ByteArray}(h:VA s=true):s.size≤200∧∃l:List Cl,CU (sb s)=some l∧2≤l.length∧l.length≤20∧∀c∈l,xF c:=by
 unfold VA at h
 rw[cK,bL] at h
 refine⟨h.1,?_⟩
 have h2:=h.2
 cases hp:CU (sb s) with
 | none=>rw[hp] at h2;simp at h2
 | some l=>
  rw[hp] at h2
  simp only[cK,bL] at h2
  refine⟨l,rfl,h2.1,h2.2,fun c hc=>?_⟩
  unfold CU at hp
  simp only at hp
  split at hp
  · cases hp
  · exact((aBO _ [] l (by simp) hp).1 c hc).1
abbrev aSD:=zi tI_3 (zi zI_3 (zi aZ (zi tI_9 (zi zI_9 (zi cF (zi tI_31 (zi zI_31 (zi aO (zi bH (zi bJ (zi bZ (zi tI_116 (zi zI_116 (zi tI_147 (zi zI_147 (zi jO (zi nC (zi nE n8))))))))))))))))))
theorem aXX(bs:List Bt)(c p:Nat)(st:aB)(hp:p+10≤1099511627776)(hR:dS st c bs p):aD prog 206 [.ptr c 0] st (Dr bs c p 10 st (fun r=>∃q:List Tm,VM q∧r=.slice (q.map Tm.av))):=by
 refine wF [1000000] 1 func206 ntmps206 rfl rfl ?_
 intro _
 simp -implicitDefEqProofs only[aA,seval]
 refine(aXW _).to ?_
 simp -implicitDefEqProofs only[aF,aA,seval,aSD]
 refine(oG bs c p (by omega) XF.length (by decide) (by decide) _ hR).mono ?_
 rintro _ _ ⟨k,hk,rfl,rfl⟩
 obtain⟨x,hx⟩:∃x,XF[k]?=some x:=⟨_,dZ hk⟩
 have hat:=bO (av:=AV.str) jO hx rfl
 simp -implicitDefEqProofs only[hat,aA,seval,aSD]
 refine(ZX x _).to ?_
 obtain⟨q,hq,f,hf⟩:=aP0 x
 rw[hf]
 simp -implicitDefEqProofs only[aA,seval]
 exact⟨p+1,by omega,by omega,rfl,q,hq,rfl⟩
abbrev J2:=zi tI_3 (zi zI_3 (zi aZ (zi tI_5 (zi zI_5 (zi lO (zi tI_9 (zi zI_9 (zi cF (zi tI_29 (zi zI_29 (zi fN (zi iT (zi iU (zi jK (zi tI_31 (zi zI_31 (zi aO (zi bH (zi bJ (zi bZ (zi tI_116 (zi zI_116 (zi tI_147 (zi zI_147 (zi jO (zi nC (zi nE (zi n8 (zi tI_210 (zi zI_210 (zi aB9 (zi aZK (zi aZN a8T)))))))))))))))))))))))))))))))))
set_option maxHeartbeats 1000000 in
theorem aXV(bs:List Bt)(c p:Nat)(st:aB)(hp:p+100≤1099511627776)(hR:dS st c bs p) :
 aD prog 123 [.ptr c 0] st (Dr bs c p 100 st (fun r=>∃(l:List Cl) (q:List Tm),(2≤l.length∧l.length≤20∧∀x∈l,xF x)∧VM q∧r=.tup [.slice (l.map bB),.slice (q.map Tm.av)])):=by
 refine wF [1000000] 1 func123 ntmps123 rfl rfl ?_
 intro _
 simp -implicitDefEqProofs only[aA,seval]
 refine(aXH _).to ?_
 simp -implicitDefEqProofs only[aF,aA,seval,J2]
 refine(oG bs c p (by omega) PH.length (by decide) (by decide) _ hR).mono ?_
 rintro _ _ ⟨k,hk,rfl,rfl⟩
 obtain⟨x,hx⟩:∃x,PH[k]?=some x:=⟨_,dZ hk⟩
 have hat:=bO (av:=AV.str) jO hx rfl
 have hk2:k<F8.length:=hk
 obtain⟨y,hy⟩:∃y,F8[k]?=some y:=⟨_,dZ hk2⟩
 obtain⟨hxs,l,hl1,hl2,hl3,hl4⟩:=a5K (eW.1 a8Q x (cJ hx))
 have hyo:=eW.1 a8O y (cJ hy)
 simp only[cK,bL] at hyo
 have aNI:=aEX (P:=prog) (av:=aM8) aB9 hy rfl
 simp only[F8,aM8,aW,aU] at aNI
 have hpp:=fun st=>aVS x (by omega) st
 rw[hl1] at hpp
 simp -implicitDefEqProofs only[hat,aA,seval,J2]
 refine(hpp _).mono ?_
 rintro _ _ ⟨rfl,rfl⟩
 simp -implicitDefEqProofs only[aNI,aA,seval,J2]
 refine(oG bs c (p+1) (by omega) 5 (by omega) (by omega) _ dS.new).mono ?_
 rintro _ _ ⟨j,hj,rfl,rfl⟩
 rw[c7]
 simp -implicitDefEqProofs only[aA,seval]
 refine aS (fun h0=>?_) (fun h0=>?_)
 · simp -implicitDefEqProofs only[aA,seval]
   refine(aXX bs c (p+1+1) _ (by omega) dS.new).mono ?_
   rintro _ _ ⟨p2,r1,r2,rfl,q,hq,rfl⟩
   rw[c7]
   simp -implicitDefEqProofs only[aA,seval]
   exact⟨p2,by omega,by omega,rfl,l,q,⟨hl2,hl3,hl4⟩,hq,rfl⟩
 simp -implicitDefEqProofs only[aF,aA,seval,J2]
 refine(oG bs c (p+1+1) (by omega) y.length (by omega) (by have:=a8P y (cJ hy);omega) _ dS.new).mono ?_
 rintro _ _ ⟨i,hi,rfl,rfl⟩
 rw[c7]
 obtain⟨z,hz⟩:∃z,y[i]?=some z:=⟨_,dZ hi⟩
 have xS:=aEX (P:=prog) (av:=AV.str) jO hz rfl
 simp -implicitDefEqProofs only[xS,aA,seval,J2]
 refine(ZX z _).to ?_
 obtain⟨q,hq,f,hf⟩:=aP0 z
 rw[hf]
 simp -implicitDefEqProofs only[aA,seval]
 exact⟨p+1+1+1,by omega,by omega,rfl,l,q,⟨hl2,hl3,hl4⟩,hq,rfl⟩
theorem aVG(code:List Bt)(st:aB):aD prog 57 [.slice (code.map iS)] st (fun r st'=>(∃(p:List Cl) (q:List Tm) (most fuel:Int),(q.length≤41∧-1≤fuel∧fuel≤301)∧r=.tup [.slice (p.map bB),.slice (q.map Tm.av),.int .i64 most,.int .i64 fuel])∧st'=st):=by
 refine aD.drop ?_
 refine wF [1000000] 1 func57 ntmps57 rfl rfl ?_
 intro _
 simp -implicitDefEqProofs only[aA,seval]
 refine(aWL code _).mono ?_
 rintro _ _ ⟨c,bs,rfl,hc,rfl⟩
 have hD:∀o,aL (st.aC c o) st:=fun o=>(aL.refl _).aC hc
 simp -implicitDefEqProofs only[aA,seval]
 refine(aXV bs c 0 _ (by omega) dS.new).mono ?_
 rintro _ _ ⟨p1,r1,r2,rfl,l,q,⟨l1,l2,l3⟩,⟨q1,q2⟩,rfl⟩
 rw[c7]
 simp -implicitDefEqProofs only[aA,seval]
 refine(aXT bs c p1 _ (by omega) dS.new).mono ?_
 rintro _ _ ⟨p2,s1,s2,rfl,n,rfl⟩
 rw[c7]
 simp -implicitDefEqProofs only[aA,seval]
 refine(aXF bs c p2 l l3 l1 (by omega) _ (by omega) dS.new).mono ?_
 rintro _ _ ⟨p3,t1,t2,rfl,l',rfl⟩
 rw[c7]
 simp -implicitDefEqProofs only[aA,seval]
 refine(aXU bs c p3 q q2 (by omega) _ (by omega) dS.new).mono ?_
 rintro _ _ ⟨p4,u1,u2,rfl,q',u3,rfl⟩
 rw[c7]
 simp -implicitDefEqProofs only[aA,seval]
 refine(aXS bs c p4 _ (by omega) dS.new).mono ?_
 rintro _ _ ⟨p5,v1,v2,rfl,m,w1,w2,rfl⟩
 rw[c7]
 simp -implicitDefEqProofs only[aZU,aA,seval]
 exact⟨hD _,l',q',n,m,⟨u3,w1,w2⟩,rfl⟩

abbrev bBR:=zi tI_3 (zi zI_3 (zi aZ (zi tI_29 (zi zI_29 (zi fN (zi iT (zi iU (zi jK (zi tI_31 (zi zI_31 (zi aO (zi bH (zi bJ (zi bZ (zi tI_40 (zi zI_40 (zi qZ (zi xI (zi xK wN)))))))))))))))))))
theorem aVH(code:List Bt)(st:aB):aD prog 28 [.slice (code.map iS)] st (fun r st'=>(∃(p:List Cl) (q:List Tm) (most fuel:Int),r=.tup [.slice (p.map bB),.slice (q.map Tm.av),.int .i64 most,.int .i64 fuel])∧st'=st):=by
 refine wF [1000000] 1 func28 ntmps28 rfl rfl ?_
 intro _
 simp -implicitDefEqProofs only[aA,seval]
 refine(aVG code _).mono ?_
 rintro _ s1 ⟨⟨p,q,most,fuel,_,rfl⟩,rfl⟩
 simp -implicitDefEqProofs only[aA,seval]
 exact⟨p,q,most,fuel,rfl⟩
abbrev a73:=zi tI_3 (zi zI_3 (zi aZ (zi tI_4 (zi zI_4 (zi cG (zi tI_26 (zi zI_26 (zi nD (zi sG (zi sJ (zi uU (zi tI_29 (zi zI_29 (zi fN (zi iT (zi iU (zi jK (zi tI_31 (zi zI_31 (zi aO (zi bH (zi bJ (zi bZ (zi tI_40 (zi zI_40 (zi qZ (zi xI (zi xK wN))))))))))))))))))))))))))))
set_option maxHeartbeats 2000000 in
theorem aVJ(code:List Bt)(st:aB)(hT:st j6=some nU):aD prog 4 [.slice (code.map iS)] st (fun r st'=>r=.bool true∧st' j6=some nU):=by
 refine wF [1000000] 1 func4 ntmps4 rfl rfl ?_
 intro _
 simp -implicitDefEqProofs only[aF,aA,seval,a73]
 refine aS (fun h1=>?_) (fun h1=>?_)
 · simp -implicitDefEqProofs only[hT,aA,seval]
 simp -implicitDefEqProofs only[aA,seval]
 refine(aVH code _).mono ?_
 rintro _ s1 ⟨⟨p,q,most,fuel,rfl⟩,rfl⟩
 have hS1:=(Z4 p q most fuel _ hT).UP
 have hS2:=aA6 p q most fuel
 have hS3:=fun st=>(aWG p q most fuel st).UP
 rw[a3S p q most fuel] at hS1 hS2
 generalize jI p (fun _ l=>l) q most fuel=T at *
 obtain⟨L,e⟩:=T
 simp only at hS1 hS2 hS3
 simp -implicitDefEqProofs only[aA,seval]
 refine(hS1).to ?_
 simp -implicitDefEqProofs only[aA,seval]
 refine(hS2 _).to ?_
 simp -implicitDefEqProofs only[jF,aA,seval]
 refine(hS3 _).to ?_
 simp -implicitDefEqProofs only[bX,jF,aA,seval]
 refine(aAX L _).to ?_
 simp -implicitDefEqProofs only[bX,jF,aA,seval]
 refine(aAX L _).to ?_
 simp -implicitDefEqProofs only[hT,aA,seval]
end Go.AW
