import Derived.Test.YthigelfjekcbmaaGreatDoorDrsq
import Derived.Test.YthigelfjekcbmaaGreatDoorDrsf
import Derived.Test.YthigelfjekcbmaaGreatDoorDrsg
import Derived.Test.YthigelfjekcbmaaGreatDoorDrsi
import Derived.ProofKit
import Derived.Test.YthigelfjekcbmaaGreatDoorDrsk
import Derived.Test.YthigelfjekcbmaaGreatDoorDrsm
set_option linter.unusedSimpArgs false
set_option linter.unusedVariables false
set_option maxRecDepth 100000
namespace Go.AW
open Go.Proofs.Tryz
theorem aGP{P:Program}{t:TypeId}{ag:Bool}{l:List Int}{i:Nat}{n:Int}(hI:eI P t=some (ag,1))(h:l[i]?=some n):dG P t (.slice (l.map iv)) (.int .i64 (i:Int))=some (.pptr (.int .i64 n)):=by
 simp only[dG,hI,jM,lX,h,pP]
 rw[aK (by omega)]
 try rfl
theorem yJ{s:Ss}{n:Int}(h:eY s=true):(cC s n).2.length≤20:=by
 by_cases hc:kF s n=true
 · rw[FD hc]
   have:=(yN h (oQ.1 hc).2.1).l
   simp only[uK,pN]
   omega
 · rw[O3 (by simpa using hc)]
   exact lY _
noncomputable def kG(s:Ss)(sl:List Int):List (List Tm)×Int:=if eY s=true then drain (sl.take 100) s [] else([],9)
theorem T0{s:Ss}{n:Int}{sl:List Int}{acc:List (List Tm)}(h:s.fin= -1):drain (n::sl) s acc=drain sl (cC s n).1 (acc++(cC s n).2):=by
 rw[drain,aK h]
theorem rG{s:Ss}{sl:List Int}{acc:List (List Tm)}(h:s.fin≠-1):drain sl s acc=(acc,s.fin):=by
 cases sl<;>rw[drain,aG h]
theorem DK{s:Ss}{acc:List (List Tm)}(h:s.fin= -1):drain [] s acc=(acc++(cC s 300).2,(cC s 300).1.fin):=by
 rw[drain,aK h]
abbrev jV:=zi tI_3 (zi zI_3 (zi aZ (zi tI_4 (zi zI_4 (zi cG (zi tI_30 (zi zI_30 (zi lM (zi lN (zi lO (zi lP (zi lQ (zi lR (zi lK (zi tI_31 (zi zI_31 (zi fA (zi gY (zi gZ (zi k9 (zi tI_40 (zi zI_40 (zi dC (zi fH (zi fJ (zi fL (zi tI_300 (zi zI_300 (zi aEW (zi aEX (zi aEZ (zi aE0 (zi aE1 (zi aE2 (zi aE3 (zi aE4 (zi aE5 (zi aE6 (zi aEY R5)))))))))))))))))))))))))))))))))))))))
set_option maxHeartbeats 2000000 in
theorem aOU(s:Ss)(sl:List Int)(st:aA):aD prog 25 [cZ s,.slice (sl.map iv)] st (fun r st'=>r=.tup [.slice ((kG s sl).1.map aY),.int .i64 (kG s sl).2]∧st'=st):=by
 have hv:=TH s
 have hsp:=fun(s':Ss) (n:Int) (h:eY s'=true)=>by
  have hr:tD s'=true:=by simp only[eY,cK] at h;exact h.1
  obtain⟨kp,kq,_⟩:=FI.1 hr
  obtain⟨p1,p2⟩:=aH1 kp
  obtain⟨q1,q2⟩:=aH2 kq
  exact aOY s' n (by omega) p2 (by omega) q2
 have nG:=fun(z:Ss) (h:eY z=true) (hf:z.fin= -1)=>by
  have:=fun st=>SV z 300 h (by omega) st
  have e:=FD (oQ.2 ⟨h,(by omega:(0:Int)≤300),hf⟩)
  rw[show nA z 300=(cC z 300).1 by rw[e],show uK z 300=(cC z 300).2 by rw[e]] at this
  exact this
 simp only[cZ] at hv hsp nG ⊢
 refine aD.rH (aD.fin ?_)
 refine wF [1000000,2] 2 func25 ntmps25 rfl rfl ?_
 intro _
 simp -implicitDefEqProofs only[aB,seval,jV]
 intro b2 h2
 refine(hv _).to ?_
 simp -implicitDefEqProofs only[aB,seval]
 cases hok:eY s with
 | false=>
  have hd:kG s sl=([],9):=by unfold kG;rw[hok];try rfl
  simp -implicitDefEqProofs only[aB,seval]
  exact⟨0,[],_,rfl,fun h=>absurd rfl h,by simp,⟨0,by simp⟩,by rw[hd];simp only[jZ,fQ,rJ,bH,bG],(aL.refl _).aC h2⟩
 | true=>
  have hd:kG s sl=drain (sl.take 100) s []:=by unfold kG;rw[hok];try rfl
  simp -implicitDefEqProofs only[aB,seval]
  refine mW (σ:=Nat×Nat×List (List Tm)×Ss) [1000000] [1,2,4,5]
   (fun x=>x.1≤sl.length∧x.1≤100∧(x.2.2.1.map aY≠[]→(st.aC b2 (.cells (dO x.2.2.2))) x.2.1=none)∧eY x.2.2.2=true∧x.2.2.1.length≤20*x.1∧drain ((sl.take 100).drop x.1) x.2.2.2 x.2.2.1=drain (sl.take 100) s [])
   (fun x=>[(6,bQ 1 x.2.1 (x.2.2.1.map aY)),(7,.int .i64 x.1)]) (fun x=>bE (st.aC b2 (.cells (dO x.2.2.2))) x.2.1 (x.2.2.1.map aY)) (fun x=>100 - x.1) (by decide +kernel)
   ⟨(0,0,[],s),⟨lY _,by simp only;omega,fun h=>absurd rfl h,hok,by simp,by simp⟩,aP.mk (by simp -implicitDefEqProofs only[bG,kP,aB,↓aX,seval])⟩ ?_
  rintro⟨i,b,acc,s'⟩ ⟨i1,i2,i3,i4,i5,i6⟩
  simp only at i1 i2 i3 i4 i5 i6
  have uD:¬(i<sl.length∧i<100)→(sl.take 100).drop i= []:=fun h=>by
   rw[List.drop_eq_nil_iff,dY];omega
  simp -implicitDefEqProofs only[aE,aB,seval,jV]
  by_cases c1:i<sl.length
  case neg=>
   have c1':((i:Int)<(sl.length:Int))=False:=p5 (by omega)
   rw[uD (fun h=>c1 h.1)] at i6
   have hE:=i6
   simp -implicitDefEqProofs only[c1',eK,aB,seval]
   have hb2:acc.map aY≠[]→b2≠b:=fun h e=>by have:=i3 h;rw[←e,aA.aH] at this;cases this
   refine mW (σ:=Nat×List (List Tm)×Ss) [1000000] [2,4,5]
    (fun x=>(x.2.1.map aY≠[]→(st.aC b2 (.cells (dO x.2.2))) x.1=none)∧eY x.2.2=true∧x.2.1.length≤2100∧drain [] x.2.2 x.2.1=drain (sl.take 100) s []∧(x.2.2.fin= -1→x.2.1.length≤2000))
    (fun x=>[(6,bQ 1 x.1 (x.2.1.map aY))]) (fun x=>bE (st.aC b2 (.cells (dO x.2.2))) x.1 (x.2.1.map aY)) (fun x=>if x.2.2.fin= -1 then 1 else 0) (by decide +kernel)
    ⟨(b,acc,s'),⟨i3,i4,by simp only;omega,hE,fun _=>by simp only;omega⟩,aP.mk (by simp -implicitDefEqProofs only[aB,seval])⟩ ?_
   rintro⟨c,A,z⟩ ⟨j3,j4,j5,j6,j7⟩
   simp only at j3 j4 j5 j6 j7
   have hb2:A.map aY≠[]→b2≠c:=fun h e=>by have:=j3 h;rw[←e,aA.aH] at this;cases this
   have hcz:bE (st.aC b2 (.cells (dO z))) c (A.map aY) b2=some (.cells (dO z)):=by
    by_cases hl:A.map aY= []
    · rw[hl,lJ,aA.aH]
    · rw[iW (hb2 hl),aA.aH]
   unfold dO at hcz
   by_cases k3:z.fin= -1
   case neg=>
    have k3':=p5 k3
    simp -implicitDefEqProofs only[k3',eK,dO,hcz,aB,seval,jV]
    refine tK [(0,1),(1,1),(2,1),(3,1),(4,1)] [0,1,2,3,4] (cY.aC b2 (.cells [.slice (z.p.map bD),.slice (z.q.map Tm.av),.int .i64 z.dE,.int .i64 z.used,.int .i64 z.sent,.int .i64 z.fin])) mixed (by decide +kernel) (by decide +kernel) (by decide +kernel) rfl (f9 hcz) ?_
    simp -implicitDefEqProofs only[nS,aB,seval,jV]
    have hD:kG s sl=(A,z.fin):=by rw[hd,←j6,rG k3]
    exact⟨c,A.map aY,_,rfl,j3,LN A,⟨1,pT A⟩,by rw[hD];simp only[jZ,fQ,nC,bH,bG],(aL.refl _).aC h2⟩
   have k3':=p6 k3
   have hsz:=yJ (n:=300) j4
   have EN:=wI (n:=300) j4
   rw[DK k3] at j6
   simp -implicitDefEqProofs only[k3',dU,dO,hcz,aB,seval,jV]
   refine(nG z j4 k3 _).to ?_
   simp -implicitDefEqProofs only[aB,↓aX,seval,jV]
   have j8:=j7 k3
   have dV:(cC z 300).1.fin≠-1:=by
    rw[(BE j4 k3).1,A1]
    have:=JJ (p:=z.p) (cnd:=fun _ l=>l) (q:=z.q) (most:=20) (fuel:=z.dE)
    omega
   refine fT fA gY gZ rfl rfl (by intro e he;simp only[cE] at he;obtain⟨t,_,rfl⟩:=he;exact⟨rfl,rfl⟩) (pT A) j3 (by simp only[aE];omega) (by simp only[aE];omega) (fun c' hc'=>?_)
   rw[←lB] at hc' ⊢
   have hne:(A++(cC z 300).2).map aY≠[]→b2≠c':=fun h e=>by have:=hc' h;rw[←e,aA.aH] at this;cases this
   have e2:bE (st.aC b2 (.cells (dO z))) c' ((A++(cC z 300).2).map aY) b2=some (.cells (dO z)):=by
    by_cases hl:(A++(cC z 300).2).map aY= []
    · rw[hl,lJ,aA.aH]
    · rw[iW (hne hl),aA.aH]
   unfold dO at e2
   simp -implicitDefEqProofs only[aS,e2,aB,seval,jV]
   rw[kO hne,d4]
   refine⟨(c',A++(cC z 300).2,(cC z 300).1),?_,⟨fun h=>?_,EN,by simp only[dX];omega,by rw[rG dV];exact j6,fun h=>absurd h dV⟩,aP.mk (by simp -implicitDefEqProofs only[aB,seval])⟩
   · simp [dV]
   · have:=hc' h
     rwa [aA.aF _ _ (hne h).symm] at this ⊢
  have c1':((i:Int)<(sl.length:Int))=True:=p6 (by omega)
  by_cases c2:i<100
  case neg=>
   have c2':((i:Int)<100)=False:=p5 (by omega)
   rw[uD (fun h=>c2 h.2)] at i6
   have hE:=i6
   simp -implicitDefEqProofs only[c1',c2',eK,dU,aB,seval]
   have hb2:acc.map aY≠[]→b2≠b:=fun h e=>by have:=i3 h;rw[←e,aA.aH] at this;cases this
   refine mW (σ:=Nat×List (List Tm)×Ss) [1000000] [2,4,5]
    (fun x=>(x.2.1.map aY≠[]→(st.aC b2 (.cells (dO x.2.2))) x.1=none)∧eY x.2.2=true∧x.2.1.length≤2100∧drain [] x.2.2 x.2.1=drain (sl.take 100) s []∧(x.2.2.fin= -1→x.2.1.length≤2000))
    (fun x=>[(6,bQ 1 x.1 (x.2.1.map aY))]) (fun x=>bE (st.aC b2 (.cells (dO x.2.2))) x.1 (x.2.1.map aY)) (fun x=>if x.2.2.fin= -1 then 1 else 0) (by decide +kernel)
    ⟨(b,acc,s'),⟨i3,i4,by simp only;omega,hE,fun _=>by simp only;omega⟩,aP.mk (by simp -implicitDefEqProofs only[aB,seval])⟩ ?_
   rintro⟨c,A,z⟩ ⟨j3,j4,j5,j6,j7⟩
   simp only at j3 j4 j5 j6 j7
   have hb2:A.map aY≠[]→b2≠c:=fun h e=>by have:=j3 h;rw[←e,aA.aH] at this;cases this
   have hcz:bE (st.aC b2 (.cells (dO z))) c (A.map aY) b2=some (.cells (dO z)):=by
    by_cases hl:A.map aY= []
    · rw[hl,lJ,aA.aH]
    · rw[iW (hb2 hl),aA.aH]
   unfold dO at hcz
   by_cases k3:z.fin= -1
   case neg=>
    have k3':=p5 k3
    simp -implicitDefEqProofs only[k3',eK,dO,hcz,aB,seval,jV]
    refine tK [(0,1),(1,1),(2,1),(3,1),(4,1)] [0,1,2,3,4] (cY.aC b2 (.cells [.slice (z.p.map bD),.slice (z.q.map Tm.av),.int .i64 z.dE,.int .i64 z.used,.int .i64 z.sent,.int .i64 z.fin])) mixed (by decide +kernel) (by decide +kernel) (by decide +kernel) rfl (f9 hcz) ?_
    simp -implicitDefEqProofs only[nS,aB,seval,jV]
    have hD:kG s sl=(A,z.fin):=by rw[hd,←j6,rG k3]
    exact⟨c,A.map aY,_,rfl,j3,LN A,⟨1,pT A⟩,by rw[hD];simp only[jZ,fQ,nC,bH,bG],(aL.refl _).aC h2⟩
   have k3':=p6 k3
   have hsz:=yJ (n:=300) j4
   have EN:=wI (n:=300) j4
   rw[DK k3] at j6
   simp -implicitDefEqProofs only[k3',dU,dO,hcz,aB,seval,jV]
   refine(nG z j4 k3 _).to ?_
   simp -implicitDefEqProofs only[aB,↓aX,seval,jV]
   have j8:=j7 k3
   have dV:(cC z 300).1.fin≠-1:=by
    rw[(BE j4 k3).1,A1]
    have:=JJ (p:=z.p) (cnd:=fun _ l=>l) (q:=z.q) (most:=20) (fuel:=z.dE)
    omega
   refine fT fA gY gZ rfl rfl (by intro e he;simp only[cE] at he;obtain⟨t,_,rfl⟩:=he;exact⟨rfl,rfl⟩) (pT A) j3 (by simp only[aE];omega) (by simp only[aE];omega) (fun c' hc'=>?_)
   rw[←lB] at hc' ⊢
   have hne:(A++(cC z 300).2).map aY≠[]→b2≠c':=fun h e=>by have:=hc' h;rw[←e,aA.aH] at this;cases this
   have e2:bE (st.aC b2 (.cells (dO z))) c' ((A++(cC z 300).2).map aY) b2=some (.cells (dO z)):=by
    by_cases hl:(A++(cC z 300).2).map aY= []
    · rw[hl,lJ,aA.aH]
    · rw[iW (hne hl),aA.aH]
   unfold dO at e2
   simp -implicitDefEqProofs only[aS,e2,aB,seval,jV]
   rw[kO hne,d4]
   refine⟨(c',A++(cC z 300).2,(cC z 300).1),?_,⟨fun h=>?_,EN,by simp only[dX];omega,by rw[rG dV];exact j6,fun h=>absurd h dV⟩,aP.mk (by simp -implicitDefEqProofs only[aB,seval])⟩
   · simp [dV]
   · have:=hc' h
     rwa [aA.aF _ _ (hne h).symm] at this ⊢
  have c2':((i:Int)<100)=True:=p6 (by omega)
  have hb2:acc.map aY≠[]→b2≠b:=fun h e=>by have:=i3 h;rw[←e,aA.aH] at this;cases this
  have eC:bE (st.aC b2 (.cells (dO s'))) b (acc.map aY) b2=some (.cells (dO s')):=by
   by_cases hl:acc.map aY= []
   · rw[hl,lJ,aA.aH]
   · rw[iW (hb2 hl),aA.aH]
  unfold dO at eC
  by_cases c3:s'.fin= -1
  case neg=>
   have c3':=p5 c3
   have hE:drain [] s' acc=drain (sl.take 100) s []:=by rw[rG c3] at i6;rw[rG c3];exact i6
   simp -implicitDefEqProofs only[c3',eK,dU,dO,eC,c1',c2',aB,seval,jV]
   have hb2:acc.map aY≠[]→b2≠b:=fun h e=>by have:=i3 h;rw[←e,aA.aH] at this;cases this
   refine mW (σ:=Nat×List (List Tm)×Ss) [1000000] [2,4,5]
    (fun x=>(x.2.1.map aY≠[]→(st.aC b2 (.cells (dO x.2.2))) x.1=none)∧eY x.2.2=true∧x.2.1.length≤2100∧drain [] x.2.2 x.2.1=drain (sl.take 100) s []∧(x.2.2.fin= -1→x.2.1.length≤2000))
    (fun x=>[(6,bQ 1 x.1 (x.2.1.map aY))]) (fun x=>bE (st.aC b2 (.cells (dO x.2.2))) x.1 (x.2.1.map aY)) (fun x=>if x.2.2.fin= -1 then 1 else 0) (by decide +kernel)
    ⟨(b,acc,s'),⟨i3,i4,by simp only;omega,hE,fun _=>by simp only;omega⟩,aP.mk (by simp -implicitDefEqProofs only[aB,seval])⟩ ?_
   rintro⟨c,A,z⟩ ⟨j3,j4,j5,j6,j7⟩
   simp only at j3 j4 j5 j6 j7
   have hb2:A.map aY≠[]→b2≠c:=fun h e=>by have:=j3 h;rw[←e,aA.aH] at this;cases this
   have hcz:bE (st.aC b2 (.cells (dO z))) c (A.map aY) b2=some (.cells (dO z)):=by
    by_cases hl:A.map aY= []
    · rw[hl,lJ,aA.aH]
    · rw[iW (hb2 hl),aA.aH]
   unfold dO at hcz
   by_cases k3:z.fin= -1
   case neg=>
    have k3':=p5 k3
    simp -implicitDefEqProofs only[k3',eK,dO,hcz,aB,seval,jV]
    refine tK [(0,1),(1,1),(2,1),(3,1),(4,1)] [0,1,2,3,4] (cY.aC b2 (.cells [.slice (z.p.map bD),.slice (z.q.map Tm.av),.int .i64 z.dE,.int .i64 z.used,.int .i64 z.sent,.int .i64 z.fin])) mixed (by decide +kernel) (by decide +kernel) (by decide +kernel) rfl (f9 hcz) ?_
    simp -implicitDefEqProofs only[nS,aB,seval,jV]
    have hD:kG s sl=(A,z.fin):=by rw[hd,←j6,rG k3]
    exact⟨c,A.map aY,_,rfl,j3,LN A,⟨1,pT A⟩,by rw[hD];simp only[jZ,fQ,nC,bH,bG],(aL.refl _).aC h2⟩
   have k3':=p6 k3
   have hsz:=yJ (n:=300) j4
   have EN:=wI (n:=300) j4
   rw[DK k3] at j6
   simp -implicitDefEqProofs only[k3',dU,dO,hcz,aB,seval,jV]
   refine(nG z j4 k3 _).to ?_
   simp -implicitDefEqProofs only[aB,↓aX,seval,jV]
   have j8:=j7 k3
   have dV:(cC z 300).1.fin≠-1:=by
    rw[(BE j4 k3).1,A1]
    have:=JJ (p:=z.p) (cnd:=fun _ l=>l) (q:=z.q) (most:=20) (fuel:=z.dE)
    omega
   refine fT fA gY gZ rfl rfl (by intro e he;simp only[cE] at he;obtain⟨t,_,rfl⟩:=he;exact⟨rfl,rfl⟩) (pT A) j3 (by simp only[aE];omega) (by simp only[aE];omega) (fun c' hc'=>?_)
   rw[←lB] at hc' ⊢
   have hne:(A++(cC z 300).2).map aY≠[]→b2≠c':=fun h e=>by have:=hc' h;rw[←e,aA.aH] at this;cases this
   have e2:bE (st.aC b2 (.cells (dO z))) c' ((A++(cC z 300).2).map aY) b2=some (.cells (dO z)):=by
    by_cases hl:(A++(cC z 300).2).map aY= []
    · rw[hl,lJ,aA.aH]
    · rw[iW (hne hl),aA.aH]
   unfold dO at e2
   simp -implicitDefEqProofs only[aS,e2,aB,seval,jV]
   rw[kO hne,d4]
   refine⟨(c',A++(cC z 300).2,(cC z 300).1),?_,⟨fun h=>?_,EN,by simp only[dX];omega,by rw[rG dV];exact j6,fun h=>absurd h dV⟩,aP.mk (by simp -implicitDefEqProofs only[aB,seval])⟩
   · simp [dV]
   · have:=hc' h
     rwa [aA.aF _ _ (hne h).symm] at this ⊢
  have c3':=p6 c3
  obtain⟨n,hn⟩:∃n,sl[i]?=some n:=⟨_,eQ c1⟩
  have hat:=aGP (P:=prog) (t:=40) dC hn
  have hdr:(sl.take 100).drop i=n::(sl.take 100).drop (i+1):=by
   rw[nO (by rw[dY];omega),List.getElem_take]
   rw[eQ c1] at hn
   rw[lE hn]
  rw[hdr,T0 c3] at i6
  have hsl:=yJ (n:=n) i4
  have aSI:=wI (n:=n) i4
  simp -implicitDefEqProofs only[c3',dU,dO,eC,c1',c2',aB,seval,jV]
  refine tK [(0,1),(1,1),(2,1),(3,1),(4,1),(5,1),(6,1),(7,1),(8,1),(9,0),(10,0),(11,1)] [0,1,2,3,4,5,6,7,8,11] (cY.aC b2 (.cells [.slice (s'.p.map bD),.slice (s'.q.map Tm.av),.int .i64 s'.dE,.int .i64 s'.used,.int .i64 s'.sent,.int .i64 s'.fin])) mixed (by decide +kernel) (by decide +kernel) (by decide +kernel) rfl (f9 eC) ?_
  simp -implicitDefEqProofs only[hat,aB,seval,jV]
  refine ME (fun st _=>hsp s' n i4 st) ?_
  simp -implicitDefEqProofs only[aS,aB,seval,jV]
  intro b8 h8
  have h82:b8≠b2:=by rintro rfl;rw[eC] at h8;cases h8
  refine⟨f9 (by rw[aA.aF _ _ h82.symm,eC]),f9 (by rw[aA.aF _ _ h82.symm,eC]),?_⟩
  obtain⟨h8',hnb⟩:=CX h8
  rw[kO hnb]
  refine fT fA gY gZ rfl rfl (by intro e he;simp only[cE] at he;obtain⟨t,_,rfl⟩:=he;exact⟨rfl,rfl⟩) (pT acc) (fun h=>by rw[aA.aF _ _ (hnb h).symm];exact i3 h) (by simp only[aE];omega) (by simp only[aE];omega) (fun b' hb'=>?_)
  rw[←lB] at hb' ⊢
  have hne:(acc++(cC s' n).2).map aY≠[]→b2≠b'∧b8≠b':=fun h=>by
   have:=hb' h
   refine⟨fun e=>?_,fun e=>?_⟩
   · rw[←e,aA.aF _ _ h82.symm,aA.aH] at this;cases this
   · rw[←e,aA.aH] at this;cases this
  have g8:∀(S:aA) (o:AO),S b8=some o→bE S b' ((acc++(cC s' n).2).map aY) b8=some o:=fun S o h=>by
   by_cases hl:(acc++(cC s' n).2).map aY= []
   · rw[hl,lJ,h]
   · rw[iW (hne hl).2,h]
  have g2:∀(S:aA) (o:AO),S b2=some o→bE S b' ((acc++(cC s' n).2).map aY) b2=some o:=fun S o h=>by
   by_cases hl:(acc++(cC s' n).2).map aY= []
   · rw[hl,lJ,h]
   · rw[iW (hne hl).1,h]
  have e8:=g8 _ _ (aA.aH (st.aC b2 (.cells (dO s'))) b8 (.cells (dO (cC s' n).1)))
  have e2:=g2 ((st.aC b2 (.cells (dO s'))).aC b8 (.cells (dO (cC s' n).1))) _ ((aA.aF _ _ h82.symm).trans (aA.aH _ _ _))
  unfold dO at e8 e2
  have hw5:=bK (n:=(i:Int)+1)
  simp -implicitDefEqProofs only[aS,e8,e2,hw5,aB,seval,jV]
  rw[kO (fun h=>(hne h).1)]
  have aGM:st b8=none:=by rwa [aA.aF _ _ h82] at h8'
  have hcm:∀o o8 o',aA.aC ((st.aC b2 o).aC b8 o8) b2 o'=(st.aC b2 o').aC b8 o8:=fun o o8 o'=>by
   rw[aA.nN _ o8 o' h82,d4]
  rw[hcm]
  have D:∀o o8,aL (bE ((st.aC b2 o).aC b8 o8) b' ((acc++(cC s' n).2).map aY)) (bE (st.aC b2 o) b' ((acc++(cC s' n).2).map aY)):=fun o o8=>by
   rw[←kO (fun h=>(hne h).2)]
   refine(aL.refl _).aC ?_
   by_cases hl:(acc++(cC s' n).2).map aY= []
   · rw[hl,lJ,aA.aF _ _ h82,aGM]
   · rw[iW (hne hl).2,aA.aF _ _ h82,aGM]
  refine⟨(i+1,b',acc++(cC s' n).2,(cC s' n).1),by simp only;omega,⟨by simp only;omega,by simp only;omega,fun h=>?_,aSI,by simp only[dX];omega,i6⟩,aP.drop (D _ _) (by simp -implicitDefEqProofs only[aB,seval])⟩
  simp only
  have:=hb' h
  rw[aA.aF _ _ (hne h).2.symm,aA.aF _ _ (hne h).1.symm] at this
  rw[aA.aF _ _ (hne h).1.symm,this]
end Go.AW
namespace Go.AW
theorem sE{U:aA}{bo x:Nat}{os:List AV}(h:os≠[]→x≠bo):bE U bo os x=U x:=by
 by_cases hl:os= []
 · rw[hl,lJ]
 · rw[iW (h hl)]
section
variable {P:Program}
inductive PT where
 | fin (p:List (Nat×Nat))
 | br (p:List (Nat×Nat)) (i j:Nat) (a b:PT)
end
end Go.AW
namespace Go.AW
open Go.Proofs.Tryz
theorem aU.app{s:aA}:∀ {xs os ys os':List AV} {bs bs':List Nat},aU s xs os bs→aU s ys os' bs'→aU s (xs++ys) (os++os') (bs++bs')
 | [],os,ys,os',bs,bs',h,h'=>by
  simp only[aU] at h
  rw[h.1,h.2]
  exact h'
 | a::xs,os,ys,os',bs,bs',h,h'=>by
  simp only[aU] at h
  obtain⟨o,os1,b1,b2,rfl,rfl,h1,h2⟩:=h
  simp only[gF,aU]
  exact⟨o,os1++os',b1,b2++bs',rfl,by rw[lA],h1,aU.app h2 h'⟩
theorem aU.drop{s:aA}:∀ {xs os:List AV} {bs:List Nat} (k:Nat),aU s xs os bs→∃bs',aU s (xs.drop k) (os.drop k) bs'∧bs'.Sublist bs
 | xs,os,bs,0,h=>⟨bs,h,List.Sublist.refl _⟩
 | [],os,bs,k+1,h=>by
  simp only[aU] at h
  rw[h.1,h.2]
  exact⟨[],by simp only[List.drop_nil,aU,and_self],List.Sublist.refl _⟩
 | a::xs,os,bs,k+1,h=>by
  simp only[aU] at h
  obtain⟨o,os1,b1,b2,rfl,rfl,h1,h2⟩:=h
  obtain⟨bs',h3,h4⟩:=aU.drop k h2
  exact⟨bs',h3,h4.trans (List.sublist_append_right _ _)⟩
def QV(st:aA)(s:Ss)(n:Int)(r:AV)(st':aA):Prop:=
 ∃os bs,r=.tup [cZ (cC s n).1,.slice os]∧bs.Nodup∧(∀b∈bs,st b=none)∧aU st' ((cC s n).2.map aY) os bs∧∀b,b∉bs→st' b=st b
theorem aD.aVU{P:Program}{g:FuncId}{args:List AV}{st:aA}{s:Ss}{n:Int}(x:aD P g args st (CN st s n)):aD P g args st (QV st s n):=by
 refine x.mI fun r st' h=>?_
 obtain⟨o1,q,o2,L,k,rfl,⟨os,bs,he,h1,h2,h3,h4⟩,hT,hk,hd,_⟩:=h
 cases he
 obtain⟨p1,p2,b1,b2,e1,rfl,h5,h6⟩:=I5.1 h3
 cases e1
 have ha:=(PB hT).1
 have aGG:∀(bs':List Nat),(∀b∈bs',b∈b2)→aL st' (fun x=>if x∈bs' then st' x else st x):=fun bs' iO b=>by
  dsimp only
  by_cases hb:b∈bs'
  · rw[aK hb];exact⟨fun h=>h,fun o h=>h⟩
  · rw[aG hb]
    refine⟨fun e=>?_,fun o e=>?_⟩
    · by_cases hb2:b∈b1++b2
      · exact h2 b hb2
      · rw[←h4 b hb2];exact e
    · by_cases hb2:b∈b1++b2
      · rw[h2 b hb2] at e;cases e
      · rw[h4 b hb2];exact e
 have hn:=jN.1 h1
 have hn1:∀(bs':List Nat),(∀b∈bs',b∈b2)→∀b∈b1,(fun x=>if x∈bs' then st' x else st x) b=none:=fun bs' iO b hb=>by
  dsimp only
  rw[aG fun h=>hn.2.2 b hb b (iO b h) rfl]
  exact h2 b (by simp [hb])
 have aGC:∀(bs':List Nat) (os':List AV),(∀b∈bs',b∈b2)→bs'.Nodup→aU st' ((cC s n).2.map aY) os' bs'→(∀h v,cJ h st'→VC h st' o2 v→VC h (fun x=>if x∈bs' then st' x else st x) (.slice os') v)→∃r2 s2,K7 st' s2∧K6 st' (.tup [o1,o2]) s2 r2∧QV st s n r2 s2:=fun bs' os' iO hnd hO hv=>by
  have D:=aGG bs' iO
  refine⟨.tup [cZ (cC s n).1,.slice os'],_,D.uZ,fun h v S y=>?_,os',bs',rfl,hnd,fun b hb=>h2 b (by simp [iO b hb]),aU.aV _ _ _ (fun b hb=>aK hb) hO,fun b hb=>aG hb⟩
  obtain⟨y0,y1⟩:=y
  refine⟨y0,?_⟩
  unfold VC at y1 ⊢
  obtain⟨vs,e,y2⟩:=y1
  simp only[dF] at y2 ⊢
  obtain⟨v1,r1,rfl,ya,v2,r2,rfl,yb,rfl⟩:=y2
  have z1:aO h (fun x=>if x∈bs' then st' x else st x) (cZ (cC s n).1) v1:=h5.KO S D (hn1 bs' iO) (aO.I0 ya)
  have z2:aO h (fun x=>if x∈bs' then st' x else st x) (.slice os') v2:=by
   have y:=aO.I0 yb
   have hy:VC h st' o2 v2.cells.toList∧o2.isAgg=j9 v2:=by rcases hT with ⟨_,b,w,_,rfl⟩ | ⟨_,rfl⟩<;>exact⟨y.2,y.1⟩
   exact⟨by rw[←hy.2,ha];try rfl,hv h _ S hy.1⟩
  exact⟨_,e,v1,_,rfl,z1,v2,[],rfl,z2,rfl⟩
 rcases hT with ⟨hk',b,w,rfl,rfl⟩ | ⟨hk',rfl⟩
 · simp only[aR] at h6
   rcases h6 with ⟨_,hq,_⟩ | ⟨b',bs',os,w',e1,rfl,e2,h7,e3⟩
   · cases hq
   cases e1
   obtain⟨bd,h8,h9⟩:=aU.drop k h7
   rw[←CI,hd] at h8
   have iO:∀x∈bd,x∈b::bs':=fun x hx=>List.mem_cons_of_mem _ (h9.subset hx)
   have hbd:b∉bd:=fun hx=>(w6.1 hn.2.1).1 (h9.subset hx)
   refine aGC bd (os.drop k) iO (h9.nodup (w6.1 hn.2.1).2) h8 fun h v S y=>?_
   have hj:=aU.OZ (h:=h) (s0:=st') h7
   have hw:=aU.yV h7 e3
   obtain⟨f1,f2⟩:=frozen S e2 hj
   have hE:=cX.drop k hw f2
   rw[gN] at hE
   have hlen:(os.drop k).length=(L.map aY).length - k:=by rw[pN,aU.length h7]
   have hb0:(fun x=>if x∈bd then st' x else st x) b=none:=by
    dsimp only
    rw[aG hbd]
    exact h2 b (by simp)
   have D2:aL (st'.erase b) (fun x=>if x∈bd then st' x else st x):=fun x=>by
    unfold aA.erase
    by_cases hx:x=b
    · subst hx;rw[aK rfl];exact⟨fun _=>hb0,fun o e=>by rw[hb0] at e;cases e⟩
    · rw[aG hx];exact aGG bd iO x
   simp only[VC] at y
   obtain⟨cap,e,l1,l2,_⟩:=y
   unfold VC
   exact .inr ⟨b,k*w,cap,by rw[hlen];exact e,by rw[hlen];exact l1,l2,hb0,f1,⟨w,fun e he=>hw e (K0 he)⟩,cX.mono (D2.step h) b rfl _ _ hE⟩
 · have hL:(cC s n).2= []:=by rw[←hd];rw[aE] at hk';subst hk';exact gU
   refine aGC [] [] (by simp) kM (by rw[hL];simp only[bG,aU,and_self]) fun h v S y=>?_
   unfold VC at y ⊢
   rcases y with y | ⟨b,off,e,_⟩
   · exact .inl y
   · exact .inl ⟨⟨_,e⟩,rfl⟩
structure tN (st:aA) (b2:Nat) (es os:List AV) (bs:List Nat) (T:aA):Prop where
 own:aU T es os bs
 nd:bs.Nodup
 new:∀b∈bs,st b=none
 old:∀b,b∉bs→T b=st b
 fr:T b2=none
theorem tN.start{st:aA}{b2:Nat}(h:st b2=none):tN st b2 [] [] [] st:=⟨by simp only[aU,and_self],kM,by simp,fun _ _=>rfl,h⟩
theorem tN.more{st:aA}{b2 bo:Nat}{es os es2 os2:List AV}{bs bs2:List Nat}{T U':aA}{c:AO}(h:tN st b2 es os bs T)(hbo:os≠[]→(T.aC b2 c) bo=none)(h1:aU U' es2 os2 bs2)(h2:bs2.Nodup)(h3:∀b∈bs2,bE (T.aC b2 c) bo os b=none)(h4:∀b,b∉bs2→U' b=bE (T.aC b2 c) bo os b) :
 ∃T',U'=bE (T'.aC b2 c) bo os∧tN st b2 (es++es2) (os++os2) (bs++bs2) T'∧(os≠[]→(T'.aC b2 c) bo=none):=by
 have A5:os≠[]→b2≠bo:=fun h0 e=>by have:=hbo h0;rw[←e,aA.aH] at this;cases this
 have hne:∀x∈bs2,x≠b2∧(os≠[]→x≠bo)∧T x=none:=fun x hx=>by
  have h5:=h3 x hx
  have h6:x≠b2:=by
   rintro rfl
   rw[sE A5,aA.aH] at h5;cases h5
  have h7:os≠[]→x≠bo:=fun h0 e=>by rw[e,jE h0,aA.aH] at h5;cases h5
  rw[sE h7,aA.aF _ _ h6] at h5
  exact⟨h6,h7,h5⟩
 have xV:os≠[]→bo∉bs2:=fun h0 hb=>(hne bo hb).2.1 h0 rfl
 refine⟨fun x=>if x∈bs2 then U' x else T x,funext fun x=>?_,⟨aU.app (aU.aV _ _ _ (fun b hb=>?_) h.own) (aU.aV _ _ _ (fun b hb=>aK hb) h1),jN.2 ⟨h.nd,h2,fun a ha b hb e=>?_⟩,fun b hb=>?_,fun b hb=>?_,?_⟩,fun h0=>?_⟩
 · by_cases hx:x∈bs2
   · obtain⟨n1,n2,n3⟩:=hne x hx
     rw[sE n2,aA.aF _ _ n1,aK hx]
   · rw[h4 x hx]
     by_cases h0:os= []
     · rw[h0,lJ,lJ]
       by_cases h8:x=b2
       · rw[h8,aA.aH,aA.aH]
       · rw[aA.aF _ _ h8,aA.aF _ _ h8,aG hx]
     · rw[jE h0,jE h0]
       by_cases h9:x=bo
       · rw[h9,aA.aH,aA.aH]
       · rw[aA.aF _ _ h9,aA.aF _ _ h9]
         by_cases h8:x=b2
         · rw[h8,aA.aH,aA.aH]
         · rw[aA.aF _ _ h8,aA.aF _ _ h8,aG hx]
 · obtain⟨cs,e,_⟩:=(aU.eX _ _ _ h.own).2 b hb
   exact aG fun hx=>by rw[(hne b hx).2.2] at e;cases e
 · subst e
   obtain⟨cs,e,_⟩:=(aU.eX _ _ _ h.own).2 a ha
   rw[(hne a hb).2.2] at e;cases e
 · rcases dQ.1 hb with hb | hb
   · exact h.new b hb
   · have h5:=(hne b hb).2.2
     by_cases h6:b∈bs
     · exact h.new b h6
     · rw[←h.old b h6];exact h5
 · simp only[dQ,jJ] at hb
   show(if b∈bs2 then U' b else T b)=st b
   rw[aG hb.2,h.old b hb.1]
 · show(if b2∈bs2 then U' b2 else T b2)=none
   rw[aG fun hx=>(hne b2 hx).1 rfl,h.fr]
 · have h5:=hbo h0
   rw[aA.aF _ _ (A5 h0).symm] at h5 ⊢
   show(if bo∈bs2 then U' bo else T bo)=none
   rw[aG (xV h0),h5]
theorem tN.done{st:aA}{b2 bo w:Nat}{es os:List AV}{bs:List Nat}{T:aA}{c:AO}(h:tN st b2 es os bs T)(hbo:os≠[]→(T.aC b2 c) bo=none)(hw:∀e∈es,e.width=w):∃s2,aL (bE (T.aC b2 c) bo os) s2∧Made st (.slice es) (bQ w bo os) s2:=by
 have A5:os≠[]→b2≠bo:=fun h0 e=>by have:=hbo h0;rw[←e,aA.aH] at this;cases this
 have sY:=aU.eX _ _ _ h.own
 have hTo:os≠[]→T bo=none:=fun h0=>by have:=hbo h0;rwa [aA.aF _ _ (A5 h0).symm] at this
 have hnb:∀b∈bs,os≠[]→b≠bo:=fun b hb h0 e=>by
  obtain⟨cs,e2,_⟩:=sY.2 b hb
  rw[e,hTo h0] at e2;cases e2
 refine⟨bE T bo os,?_,q9 bo os++bs,?_,fun b hb=>?_,aHW (aU.aV _ _ _ (fun b hb=>sE (hnb b hb)) h.own) hw,fun b hb=>?_⟩
 · rw[←kO A5]
   exact(aL.refl _).aC (by rw[sE A5];exact h.fr)
 · rw[jN]
   refine⟨by cases os<;>simp [q9],h.nd,fun x hx y hy e=>?_⟩
   obtain⟨rfl,hne⟩:=BJ.1 hx
   exact hnb y hy hne e.symm
 · rcases dQ.1 hb with hb | hb
   · obtain⟨rfl,hne⟩:=BJ.1 hb
     have h5:=hTo hne
     by_cases h6:b∈bs
     · exact h.new b h6
     · rw[←h.old b h6];exact h5
   · exact h.new b hb
 · simp only[dQ,BJ,jJ,not_and] at hb
   rw[sE fun h0 e=>hb.1 e h0,h.old b hb.2]
theorem aG4{z:Ss}(h:eY z=true)(hf:z.fin= -1):(cC z 300).1.fin≠-1:=by
 rw[(BE h hf).1,A1]
 have:=JJ (p:=z.p) (cnd:=fun _ l=>l) (q:=z.q) (most:=20) (fuel:=z.dE)
 omega
theorem IB{T:aA}:∀ {L:List (List Tm)} {os:List AV} {bs:List Nat},aU T (L.map aY) os bs→tU 1 os
 | [],os,bs,h=>by simp only[bG,aU] at h;rw[h.1];intro e he;cases he
 | l::L,os,bs,h=>by
  simp only[bH,aU] at h
  obtain⟨o,os',b1,b2,rfl,rfl,h1,h2⟩:=h
  obtain⟨q,rfl,h3⟩:=I7.1 h1
  obtain⟨hqc,hqs,hqa,hqw,hqj⟩:=aR.jT h3
  intro e he
  rcases cP.1 he with rfl | he
  · exact⟨rfl,by simp only[AV.cells,iS,List.all_nil,hqs,Bool.and_self]⟩
  · exact IB h2 e he
abbrev mV:=zi tI_3 (zi zI_3 (zi aZ (zi tI_4 (zi zI_4 (zi cG (zi tI_30 (zi zI_30 (zi lM (zi lN (zi lO (zi lP (zi lQ (zi lR (zi lK (zi tI_31 (zi zI_31 (zi fA (zi gY (zi gZ (zi k9 (zi tI_40 (zi zI_40 (zi dC (zi fH (zi fJ fL)))))))))))))))))))))))))
set_option maxHeartbeats 4000000 in
theorem aNI(s:Ss)(sl:List Int)(hp:s.p.length≤1048576)(hps:∀c∈s.p,AG c)(hq:s.q.length≤1048576)(hqs:∀t∈s.q,t.small=true)(st:aA):aD prog 27 [cZ s,.slice (sl.map iv)] st (fun r st'=>∃o,r=.tup [o,.int .i64 (kG s sl).2]∧Made st (.slice ((kG s sl).1.map aY)) o st'):=by
 have hv:=SN s
 have hsp:=fun(s':Ss) (n:Int) (h1:s'.p=s.p) (h2:s'.q=s.q) (st:aA)=>(aNM s' n (by rw[h1];exact hp) (by rw[h1];exact hps) (by rw[h2];exact hq) (by rw[h2];exact hqs) st).aVU
 simp only[cZ] at hv hsp ⊢
 refine aD.nB ?_
 refine wF [1000000,2] 2 func27 ntmps27 rfl rfl ?_
 intro _
 simp -implicitDefEqProofs only[aB,seval,mV]
 intro b2 h2
 refine(hv _).to ?_
 simp -implicitDefEqProofs only[aB,seval]
 cases hok:eY s with
 | false=>
  have hd:kG s sl=([],9):=by unfold kG;rw[hok];try rfl
  simp -implicitDefEqProofs only[aB,seval]
  exact⟨st,(aL.refl _).aC h2,.fslice [],by rw[hd],by rw[hd];exact⟨[],kM,by simp,.inl ⟨rfl,rfl,rfl⟩,fun _ _=>rfl⟩⟩
 | true=>
  have hd:kG s sl=drain (sl.take 100) s []:=by unfold kG;rw[hok];try rfl
  simp -implicitDefEqProofs only[aB,seval]
  refine mW (σ:=Nat×Nat×List (List Tm)×Ss×List AV×List Nat×aA) [1000000] [1,2,4,5]
   (fun x=>x.1≤101∧(x.2.2.2.1.fin= -1→x.1≤sl.length∧x.1≤100)∧(x.2.2.2.2.1≠[]→(x.2.2.2.2.2.2.aC b2 (.cells (dO x.2.2.2.1))) x.2.1=none)∧(eY x.2.2.2.1=true∧x.2.2.2.1.p=s.p∧x.2.2.2.1.q=s.q)∧x.2.2.1.length≤20*x.1∧drain ((sl.take 100).drop x.1) x.2.2.2.1 x.2.2.1=drain (sl.take 100) s []∧tN st b2 (x.2.2.1.map aY) x.2.2.2.2.1 x.2.2.2.2.2.1 x.2.2.2.2.2.2)
   (fun x=>[(6,bQ 1 x.2.1 x.2.2.2.2.1),(7,.int .i64 x.1)]) (fun x=>bE (x.2.2.2.2.2.2.aC b2 (.cells (dO x.2.2.2.1))) x.2.1 x.2.2.2.2.1) (fun x=>if x.2.2.2.1.fin= -1 then 1+(101 - x.1) else 0) (by decide +kernel)
   ⟨(0,0,[],s,[],[],st),⟨by simp only;omega,fun _=>⟨lY _,by simp only;omega⟩,fun h=>absurd rfl h,⟨hok,rfl,rfl⟩,by simp,by simp,tN.start h2⟩,aP.mk (by simp -implicitDefEqProofs only[kP,aB,↓aX,seval])⟩ ?_
  rintro⟨i,bo,acc,z,os,bs,T⟩ ⟨i0,i1,i2,⟨i3,kp,kq⟩,i4,i5,i6⟩
  simp only at i0 i1 i2 i3 kp kq i4 i5 i6
  have hb2:os≠[]→b2≠bo:=fun h e=>by have:=i2 h;rw[←e,aA.aH] at this;cases this
  have eC:bE (T.aC b2 (.cells (dO z))) bo os b2=some (.cells (dO z)):=by rw[sE hb2,aA.aH]
  unfold dO at eC
  simp -implicitDefEqProofs only[dO,eC,aB,seval,mV]
  by_cases c3:z.fin= -1
  case neg=>
   have c3':=p5 c3
   simp -implicitDefEqProofs only[c3',eK,aB,seval]
   refine tK [(0,1),(1,1),(2,1),(3,1),(4,1)] [0,1,2,3,4] (cY.aC b2 (.cells [.slice (z.p.map bD),.slice (z.q.map Tm.av),.int .i64 z.dE,.int .i64 z.used,.int .i64 z.sent,.int .i64 z.fin])) mixed (by decide +kernel) (by decide +kernel) (by decide +kernel) rfl (f9 eC) ?_
   simp -implicitDefEqProofs only[nS,aB,seval,mV]
   have hD:kG s sl=(acc,z.fin):=by rw[hd,←i5,rG c3]
   obtain⟨s2,D,hM⟩:=i6.done (c:=.cells (dO z)) i2 (pT acc)
   exact⟨s2,D,_,by rw[hD],by rw[hD];exact hM⟩
  have c3':=p6 c3
  obtain⟨i7,i8⟩:=i1 c3
  simp -implicitDefEqProofs only[c3',dU,aE,aB,seval,mV]
  have hw5:=bK (n:=(i:Int)+1)
  by_cases c1:i<sl.length
  case neg=>
   have c1':((i:Int)<(sl.length:Int))=False:=p5 (by omega)
   have hdr:(sl.take 100).drop i= []:=by rw[List.drop_eq_nil_iff,dY];omega
   rw[hdr,DK c3] at i5
   have dV:=aG4 i3 c3
   have i9:drain ((sl.take 100).drop (i+1)) (cC z 300).1 (acc++(cC z 300).2)=drain (sl.take 100) s []:=by rw[rG dV];exact i5
   simp -implicitDefEqProofs only[c1',eK,eC,aB,seval,mV]
   have hI:(cC z 300).1.fin= -1→i+1≤sl.length∧i+1≤100:=fun h=>absurd h dV
   refine(hsp z (300) kp kq _).mono ?_
   rintro _ U ⟨os2,bs2,rfl,g1,g2,g3,g4⟩
   have hf2:=IB g3
   have hl2:=aU.length g3
   have hw1:=aU.yV i6.own (pT acc)
   have hl1:=aU.length i6.own
   rw[aE] at hl1 hl2
   have hsl:=yJ (n:=300) i3
   obtain⟨T2,hU,hH,xV⟩:=i6.more i2 g3 g1 g2 g4
   subst hU
   simp only[cZ]
   simp -implicitDefEqProofs only[aB,↓aX,seval,mV]
   refine wX [(0,1),(1,1),(2,1),(3,0),(4,0),(5,1)] [0,1,2,5] cY mixed rfl d9 ?_
   simp -implicitDefEqProofs only[aB,seval,mV]
   refine fT fA gY gZ rfl rfl hf2 hw1 xV (by omega) (by omega) (fun b3 hb3=>?_)
   have hne:os++os2≠[]→b2≠b3:=fun h e=>by have:=hb3 h;rw[←e,aA.aH] at this;cases this
   have e2:bE (T2.aC b2 (.cells (dO z))) b3 (os++os2) b2=some (.cells [.slice (z.p.map bD),.slice (z.q.map Tm.av),.int .i64 z.dE,.int .i64 z.used,.int .i64 z.sent,.int .i64 z.fin]):=by rw[sE hne,aA.aH];try rfl
   simp -implicitDefEqProofs only[aS,e2,hw5,aB,seval,mV]
   refine⟨d9,?_⟩
   rw[kO hne,d4]
   rw[←lB] at hH
   refine⟨d9,?_⟩
   refine⟨(i+1,b3,acc++(cC z (300)).2,(cC z (300)).1,os++os2,bs++bs2,T2),?_,⟨by simp only;omega,hI,fun h=>?_,⟨wI i3,(yI z (300)).1.trans kp,(yI z (300)).2.1.trans kq⟩,by simp only[dX];omega,i9,hH⟩,aP.mk (by simp -implicitDefEqProofs only[aB,seval])⟩
   · simp only
     try rw[aK c3]
     split<;>omega
   · have:=hb3 h
     rw[aA.aF _ _ (hne h).symm] at this ⊢
     exact this
  have c1':((i:Int)<(sl.length:Int))=True:=p6 (by omega)
  by_cases c2:i<100
  case neg=>
   have c2':((i:Int)<100)=False:=p5 (by omega)
   have hdr:(sl.take 100).drop i= []:=by rw[List.drop_eq_nil_iff,dY];omega
   rw[hdr,DK c3] at i5
   have dV:=aG4 i3 c3
   have i9:drain ((sl.take 100).drop (i+1)) (cC z 300).1 (acc++(cC z 300).2)=drain (sl.take 100) s []:=by rw[rG dV];exact i5
   simp -implicitDefEqProofs only[c1',c2',dU,eK,eC,aB,seval,mV]
   have hI:(cC z 300).1.fin= -1→i+1≤sl.length∧i+1≤100:=fun h=>absurd h dV
   refine(hsp z (300) kp kq _).mono ?_
   rintro _ U ⟨os2,bs2,rfl,g1,g2,g3,g4⟩
   have hf2:=IB g3
   have hl2:=aU.length g3
   have hw1:=aU.yV i6.own (pT acc)
   have hl1:=aU.length i6.own
   rw[aE] at hl1 hl2
   have hsl:=yJ (n:=300) i3
   obtain⟨T2,hU,hH,xV⟩:=i6.more i2 g3 g1 g2 g4
   subst hU
   simp only[cZ]
   simp -implicitDefEqProofs only[aB,↓aX,seval,mV]
   refine wX [(0,1),(1,1),(2,1),(3,0),(4,0),(5,1)] [0,1,2,5] cY mixed rfl d9 ?_
   simp -implicitDefEqProofs only[aB,seval,mV]
   refine fT fA gY gZ rfl rfl hf2 hw1 xV (by omega) (by omega) (fun b3 hb3=>?_)
   have hne:os++os2≠[]→b2≠b3:=fun h e=>by have:=hb3 h;rw[←e,aA.aH] at this;cases this
   have e2:bE (T2.aC b2 (.cells (dO z))) b3 (os++os2) b2=some (.cells [.slice (z.p.map bD),.slice (z.q.map Tm.av),.int .i64 z.dE,.int .i64 z.used,.int .i64 z.sent,.int .i64 z.fin]):=by rw[sE hne,aA.aH];try rfl
   simp -implicitDefEqProofs only[aS,e2,hw5,aB,seval,mV]
   refine⟨d9,?_⟩
   rw[kO hne,d4]
   rw[←lB] at hH
   refine⟨d9,?_⟩
   refine⟨(i+1,b3,acc++(cC z (300)).2,(cC z (300)).1,os++os2,bs++bs2,T2),?_,⟨by simp only;omega,hI,fun h=>?_,⟨wI i3,(yI z (300)).1.trans kp,(yI z (300)).2.1.trans kq⟩,by simp only[dX];omega,i9,hH⟩,aP.mk (by simp -implicitDefEqProofs only[aB,seval])⟩
   · simp only
     try rw[aK c3]
     split<;>omega
   · have:=hb3 h
     rw[aA.aF _ _ (hne h).symm] at this ⊢
     exact this
  have c2':((i:Int)<100)=True:=p6 (by omega)
  obtain⟨n,hn⟩:∃n,sl[i]?=some n:=⟨_,eQ c1⟩
  have hat:=aGP (P:=prog) (t:=40) dC hn
  have hdr:(sl.take 100).drop i=n::(sl.take 100).drop (i+1):=by
   rw[nO (by rw[dY];omega),List.getElem_take]
   rw[eQ c1] at hn
   rw[lE hn]
  rw[hdr,T0 c3] at i5
  have i9:=i5
  simp -implicitDefEqProofs only[dU,eC,c1',c2',hat,aB,seval,mV]
  have hI:(cC z n).1.fin= -1→i+1≤sl.length∧i+1≤100:=fun _=>⟨by omega,by omega⟩
  refine(hsp z (n) kp kq _).mono ?_
  rintro _ U ⟨os2,bs2,rfl,g1,g2,g3,g4⟩
  have hf2:=IB g3
  have hl2:=aU.length g3
  have hw1:=aU.yV i6.own (pT acc)
  have hl1:=aU.length i6.own
  rw[aE] at hl1 hl2
  have hsl:=yJ (n:=n) i3
  obtain⟨T2,hU,hH,xV⟩:=i6.more i2 g3 g1 g2 g4
  subst hU
  simp only[cZ]
  simp -implicitDefEqProofs only[aB,↓aX,seval,mV]
  refine wX [(0,1),(1,1),(2,1),(3,0),(4,0),(5,1)] [0,1,2,5] cY mixed rfl d9 ?_
  simp -implicitDefEqProofs only[aB,seval,mV]
  refine fT fA gY gZ rfl rfl hf2 hw1 xV (by omega) (by omega) (fun b3 hb3=>?_)
  have hne:os++os2≠[]→b2≠b3:=fun h e=>by have:=hb3 h;rw[←e,aA.aH] at this;cases this
  have e2:bE (T2.aC b2 (.cells (dO z))) b3 (os++os2) b2=some (.cells [.slice (z.p.map bD),.slice (z.q.map Tm.av),.int .i64 z.dE,.int .i64 z.used,.int .i64 z.sent,.int .i64 z.fin]):=by rw[sE hne,aA.aH];try rfl
  simp -implicitDefEqProofs only[aS,e2,hw5,aB,seval,mV]
  refine⟨d9,?_⟩
  rw[kO hne,d4]
  rw[←lB] at hH
  refine⟨d9,?_⟩
  refine⟨(i+1,b3,acc++(cC z (n)).2,(cC z (n)).1,os++os2,bs++bs2,T2),?_,⟨by simp only;omega,hI,fun h=>?_,⟨wI i3,(yI z (n)).1.trans kp,(yI z (n)).2.1.trans kq⟩,by simp only[dX];omega,i9,hH⟩,aP.mk (by simp -implicitDefEqProofs only[aB,seval])⟩
  · simp only
    try rw[aK c3]
    split<;>omega
  · have:=hb3 h
    rw[aA.aF _ _ (hne h).symm] at this ⊢
    exact this

def BZ:Nat→Int→List Int
 | 0,_=>[]
 | n+1,j=>j::BZ n (j+1)
abbrev aW2:=zi tI_3 (zi zI_3 (zi aZ (zi tI_40 (zi zI_40 (zi dC (zi fH (zi fJ fL)))))))
theorem aOH(l:List Int)(j:Int)(o:AV)(bs:List Nat)(st:aA)(hO:aR st (.slice (l.map iv)) o bs)(hnd:bs.Nodup)(hj0:0≤j)(hj1:j+l.length≤1099511627776) :
 aD prog 29 [o,.int .i64 j] st (CL st (.slice ((BZ l.length j).map iv)) o bs (j+l.length)):=by
 obtain⟨hlen,haL⟩:=hO.len
 rw[aE] at hlen
 have haL:=haL prog 40 _ fL
 rw[aE] at haL
 refine wF [] 2 func29 ntmps29 rfl rfl ?_
 simp only[dK]
 intro ⟨hf,_⟩
 have hl:=hlen hf
 clear hf hlen
 simp -implicitDefEqProofs only[aB,seval]
 refine dW (σ:=List Int×Int×aA) [] [0,4] l
  (fun i p=>p.1.length=i∧p.1++BZ (l.drop i).length p.2.1=BZ l.length j∧p.2.1=j+i∧aR p.2.2 (.slice ((p.1++l.drop i).map iv)) o bs∧∀q,q∉bs→p.2.2 q=st q)
  (fun i p=>[(1,.int .i64 p.2.1),(5,.int .i64 i)]) (fun _ p=>p.2.2) (by decide +kernel)
  ⟨([],j,st),⟨rfl,rfl,by simp,hO,fun _ _=>rfl⟩,aP.mk (by simp -implicitDefEqProofs only[aB,↓aX,seval])⟩ (fun i x p hx hlt bF hdr hinv=>?_) (fun p hge hinv=>?_)
 case refine_2=>
  obtain⟨done,k,s⟩:=p
  obtain⟨i1,i2,i3,i5,i6⟩:=hinv
  simp only at i1 i2 i3 i5 i6
  subst i3
  simp -implicitDefEqProofs only[haL,hge,aB,seval]
  simp only[gU,bS,BZ,fM] at i2 i5
  exact⟨rfl,by rw[←i2];exact i5,i6⟩
 obtain⟨done,k,s⟩:=p
 obtain⟨i1,i2,i3,i5,i6⟩:=hinv
 simp only at i1 i2 i3 i5 i6
 rw[hdr] at i2 i5
 have mN:=IV (av:=iv) (done:=done) (x:=x) (rest:=l.drop (i+1))
 obtain⟨b,bs',w,A,oe,bo,B,rfl,hbs,hsb,hA,hoe,hbo,hbn,iO,hw,hi,rP⟩:=i5.focus hnd mN
 rw[aTP] at hw
 subst hw
 rw[i1] at hA
 obtain⟨rfl,rfl⟩:=aHX.1 hoe
 have xY:((done++x::l.drop (i+1)).map iv).length=l.length:=by
  rw[aE,dX,bA,pN,i1];omega
 rw[xY] at haL rP ⊢
 have hat:=n6 (b:=b) (len:=l.length) (w:=1) (i:=i) dC hlt
 have hw1:=bK (n:=k+1)
 have hw4:=bK (n:=(i:Int)+1)
 obtain⟨e1,e2,e3,e4,e5,e6⟩:=wC (B:=B) hA
 simp -implicitDefEqProofs only[haL,bF,hat,hsb,hw1,hw4,e4,e5,w7,aB,seval,aW2]
 refine⟨(done++ [k],k+1,_),⟨?_,?_,?_,?_,?_⟩,aP.mk (by simp -implicitDefEqProofs only[aB,seval])⟩
 · simp [i1]
 · simp only[bA,BZ] at i2
   rw[←i2]
   simp
 · simp only;omega
 · have:=rP (s.aC b (.cells (A++ [.int .i64 k]++B))) (iv k) (iv k) rfl (fun x hx hxb hxo=>aA.aF _ _ hxb) (by rw[aA.aH];try rfl) (aHX.2 ⟨rfl,rfl⟩)
   rw[IW] at this
   exact this
 · intro x hx
   have hxb:x≠b:=fun e=>hx (by rw[hbs];simp [e])
   show(s.aC b _) x=st x
   rw[aA.aF _ _ hxb,i6 x hx]
abbrev JP:=zi tI_3 (zi zI_3 (zi aZ (zi tI_4 (zi zI_4 (zi cG (zi tI_40 (zi zI_40 (zi dC (zi fH (zi fJ fL))))))))))
theorem aNB(l l':List Int)(st:aA):aD prog 28 [.slice (l.map iv),.slice (l'.map iv)] st (fun r st'=>r=.bool (decide (l=l'))∧st'=st):=by
 refine wF [] 2 func28 ntmps28 rfl rfl ?_
 simp only[dK,AV.fits,dZ,aE]
 intro ⟨⟨hl,_⟩,⟨hl',_⟩⟩
 simp -implicitDefEqProofs only[aE,aB,seval,JP]
 refine aT (fun h=>?_) (fun h=>?_)
 · simp -implicitDefEqProofs only[aB,seval]
   simp only[gH,cI] at h
   symm
   rw[AV.bool.injEq,cI]
   rintro rfl
   exact h rfl
 simp only[jY,bL] at h
 simp -implicitDefEqProofs only[aB,seval]
 refine dW (σ:=Unit) [] [0,1] l (fun i _=>l=l'↔l.drop i=l'.drop i) (fun i _=>[(5,.int .i64 i)]) (fun _ _=>st) (by decide +kernel) ⟨(),by simp,aP.mk (by simp -implicitDefEqProofs only[aB,↓aX,seval])⟩ (fun i x _ hx hlt bF hdr hinv=>?_) (fun _ hge hinv=>?_)
 case refine_2=>
  simp -implicitDefEqProofs only[aE,hge,aB,seval,JP]
  symm
  rw[AV.bool.injEq,bL,hinv,gU,show l.length=l'.length by omega,gU]
 obtain⟨y,hy⟩:∃y,l'[i]?=some y:=⟨_,eQ (by omega)⟩
 simp -implicitDefEqProofs only[aE,bF,aB,seval,JP]
 refine z9 mixed (by decide +kernel) (by decide +kernel) ?_
 simp -implicitDefEqProofs only[bJ (av:=iv) dC hx rfl,bJ (av:=iv) dC hy rfl,aB,seval,JP]
 have v9:l'.drop i=y::l'.drop (i+1):=by
  obtain⟨h1,h2⟩:=fD.1 hy
  rw[nO h1,h2]
 rw[hdr,v9,List.cons.injEq] at hinv
 have hw4:=bK (n:=(i:Int)+1)
 refine aT (fun h2=>?_) (fun h2=>?_)
 · simp -implicitDefEqProofs only[aB,seval]
   simp only[gH,cI] at h2
   symm
   rw[AV.bool.injEq,cI,hinv]
   exact fun h=>h2 h.1
 · simp only[jY,bL] at h2
   simp -implicitDefEqProofs only[aB,seval]
   exact⟨(),by rw[hinv];simp [h2],aP.mk (by simp -implicitDefEqProofs only[hw4,aB,seval])⟩
theorem aPQ(s:Ss)(sl:List Int):(kG s sl).1.length≤20∧∀a∈(kG s sl).1,a.length≤26∧a.all Tm.valid=true:=by
 unfold kG
 split
 · rename_i h
   rw[TZ _ _ _ h,e9,A1]
   have hSo:=O5 s.p (cnd:=fun _ l=>l) (fun _ l=>⟨fun _ h=>h,cQ _⟩) s.q 20 s.dE
   exact⟨by simp only[pN];omega,fun a ha=>hSo.2 a (K0 ha)⟩
 · simp
abbrev PY:=zi tI_3 (zi zI_3 (zi aZ (zi tI_40 (zi zI_40 (zi dC (zi fH (zi fJ fL)))))))
theorem aHK(l:List Int)(st:aA)(hb:l.length≤1048576):aD prog 26 [.slice (l.map iv)] st (Made st (.slice (l.map iv))):=by
 refine wF [1000000] 1 func26 ntmps26 rfl rfl ?_
 intro _
 simp -implicitDefEqProofs only[aE,qX,aB,↓aX,seval,PY]
 refine⟨by omega,by omega,by omega,?_⟩
 intro b hn
 rw[jM,ER _ (by simp)]
 have hfl:(List.replicate l.length [AV.int IntKind.i64 0]).flatten=List.replicate l.length (AV.int IntKind.i64 0):=by
  induction l.length with
  | zero=>rfl
  | succ n ih=>rw[CJ,List.flatten_cons,ih,CJ];try rfl
 rw[hfl]
 refine dW (σ:=Unit) [1000000] [0,2,3] l (fun i _=>True) (fun i _=>[(4,.int .i64 i)]) (fun i _=>st.aC b (.cells ((l.take i).map iv++List.replicate (l.length - i) (.int .i64 0)))) (by decide +kernel) ⟨(),trivial,aP.mk (by simp -implicitDefEqProofs only[aB,↓aX,seval])⟩ (fun i x _ hx hlt bF hdr hinv=>?_) (fun _ hge hinv=>?_)
 case refine_2=>
  simp -implicitDefEqProofs only[aE,hge,eM,Nat.sub_self,List.replicate_zero,fM,aB,seval,PY]
  refine⟨[b],by simp,by simpa using hn,?_,fun x hx=>aA.aF _ _ (by simpa using hx)⟩
  simp only[aR]
  refine .inr ⟨b,[],l.map iv,1,by rw[aE],rfl,?_,aU.flat (by simp [AV.flat]),fun e he=>by simp only[cE] at he;obtain⟨t,_,rfl⟩:=he;rfl⟩
  rw[aA.aH]
  have:∀l:List Int,(l.map iv).flatMap AV.cells=l.map iv:=fun l=>by
   induction l with
   | nil=>rfl
   | cons x l ih=>simp only[bH,qR,ih];rfl
  rw[this]
 have hw4:=bK (n:=(i:Int)+1)
 have hat:=n6 (P:=prog) (b:=b) (len:=l.length) (w:=1) (i:=i) dC hlt
 have hlen:((l.take i).map iv).length=i:=by simp only[aE,dY];omega
 have hsb:(l.take i).map iv++List.replicate (l.length - i) (AV.int .i64 0)=(l.take i).map iv++ [.int .i64 0]++List.replicate (l.length - (i+1)) (AV.int .i64 0):=by
  rw[show l.length - i=(l.length - (i+1))+1 by omega,CJ];simp
 have htk:(l.take i).map iv++ [iv x]++List.replicate (l.length - (i+1)) (AV.int .i64 0)=(l.take (i+1)).map iv++List.replicate (l.length - (i+1)) (AV.int .i64 0):=by
  rw[f8,hx];simp
 rw[hsb]
 obtain⟨e1,e2,e3,e4,e5,e6⟩:=wC (B:=List.replicate (l.length - (i+1)) (AV.int .i64 0)) hlen
 have hxa:=bJ (av:=iv) (P:=prog) dC hx (rfl)
 have hba:(iv x).isAgg=false:=rfl
 have hbw:(iv x).width=1:=rfl
 have hbc:(iv x).cells= [iv x]:=rfl
 have hbs:(iv x).storable=true:=rfl
 simp -implicitDefEqProofs only[e4,e5,w7,hw4,aE,bF,hat,hxa,hba,hbw,hbc,hbs,xA,dP,aB,seval,PY]
 rw[htk]
 exact⟨(),aP.mk (by simp -implicitDefEqProofs only[aB,seval])⟩
abbrev uX:=zi tI_3 (zi zI_3 (zi aZ (zi tI_4 (zi zI_4 (zi cG (zi tI_25 (zi zI_25 (zi HN (zi HO (zi HP (zi HQ (zi HR (zi HS (zi GV (zi tI_30 (zi zI_30 (zi lM (zi lN (zi lO (zi lP (zi lQ (zi lR (zi lK (zi tI_31 (zi zI_31 (zi fA (zi gY (zi gZ (zi k9 (zi tI_40 (zi zI_40 (zi dC (zi fH (zi fJ fL))))))))))))))))))))))))))))))))))
set_option maxHeartbeats 4000000 in
theorem aMP(s:Ss)(sl:List Int)(st:aA):aD prog 4 [cZ s,.slice (sl.map iv)] st (fun r _=>r=.bool true):=by
 have hsz:=aO4 s
 have hto:=fun st hb=>(aHL s st hb).made
 have hom:=aHL s
 refine wF [1000000] 2 func4 ntmps4 rfl rfl ?_
 intro _
 simp -implicitDefEqProofs only[aV8,aE,aB,seval,uX]
 refine aT (fun h0=>?_) (fun h0=>?_)
 · simp -implicitDefEqProofs only[aB,seval]
 simp only[cI] at h0
 have hs1:sl.length≤1048576:=by omega
 simp -implicitDefEqProofs only[B1,B0,aB,seval,uX]
 refine(hsz _ st (by omega) (by omega)).to ?_
 simp -implicitDefEqProofs only[aB,seval]
 refine aT (fun h1=>?_) (fun h1=>?_)
 · simp -implicitDefEqProofs only[aB,seval]
 simp only[cI,nL] at h1
 have hb:uS s≤1048576:=by omega
 obtain⟨p1,p2,p3,p4⟩:=aWC hb
 have hti:=fun st=>(aHK sl st hs1).made
 have aSL:=fun st=>aHK sl st hs1
 have hsp:=aOU s sl
 have him:=aNI s sl p1 p2 p3 p4
 have hok:=aPQ s sl
 have hm1:=aWB s
 have aRT:=aNC s
 have aF5:=fun st=>aNB sl sl st
 rw[sL rfl] at aF5
 generalize kG s sl=T at *
 obtain⟨L,e⟩:=T
 simp only at hsp him hok
 have hm3:aM iX L≤9360*L.length:=LO hok.2
 have hm4:=hok.1
 simp -implicitDefEqProofs only[B1,B0,aB,seval,uX]
 refine(hto _ hb).to ?_
 simp -implicitDefEqProofs only[aB,seval]
 refine(hti _).to ?_
 simp -implicitDefEqProofs only[aB,seval]
 refine(hsp _).to ?_
 simp -implicitDefEqProofs only[B1,B0,aB,seval,uX]
 refine(hom _ hb).mono ?_
 rintro o0 s1 ⟨b0,n0,f0,O0,k0⟩
 obtain⟨hw0,_,hs0,hj0,ha0⟩:=aR.fits O0 (B1 s) (aV9 s)
 rw[B0] at ha0
 simp -implicitDefEqProofs only[hw0,hs0,hj0,aB,↓aX,seval,uX]
 refine(aSL _).mono ?_
 rintro o1 s2 ⟨b1,n1,f1,O1,k1⟩
 have d01:u9 b0 b1:=O0.apart f1
 have O0':=O0.beside k1 d01
 obtain⟨hc1,aZ6,ha1,hw1,hj1⟩:=aR.jT O1
 simp -implicitDefEqProofs only[hw0,ha0,aB,seval,uX]
 refine(aD.aVQ (fun s=>(him s).mono fun _ _ ⟨o,h1,h2⟩=>by subst h1;exact jO.OB h2) (gI.own O0' (gI.own O1 .nil))).mono ?_
 rintro g s3 hg
 obtain⟨og,rfl,bg,ng,fg,Og,kg⟩:=hg.aXC
 have d0g:u9 b0 bg:=O0'.apart fg
 have d1g:u9 b1 bg:=O1.apart fg
 have O0g:=O0'.beside kg d0g
 have O1g:=O1.beside kg d1g
 obtain⟨hcg,hsg,hag,hwg,hjg⟩:=aR.jT Og
 simp -implicitDefEqProofs only[aB,seval]
 refine(aD.BY (fun s=>LY L s) (gI.own Og (gI.same .nil)) rfl).to ?_
 simp -implicitDefEqProofs only[gX,dU,aB,seval]
 refine z9 mixed (by decide +kernel) (by decide +kernel) ?_
 simp -implicitDefEqProofs only[B1,B0,hw0,ha0,aB,seval,uX]
 refine jW (hto _ hb) ?_
 simp -implicitDefEqProofs only[aB,seval]
 refine jW (aD.BY (fun s'=>aRT s') (gI.own O0g (gI.same .nil)) rfl) ?_
 simp -implicitDefEqProofs only[gX,aB,seval]
 refine(hti _).to ?_
 simp -implicitDefEqProofs only[aB,seval]
 refine(aD.BY (fun s'=>aF5 s') (gI.own O1g (gI.same .nil)) rfl).to ?_
 simp -implicitDefEqProofs only[gX,hw0,ha0,aB,seval,uX]
 refine(aOI s 1 o0 b0 s3 O0g n0 (by omega) (by omega)).mono ?_
 rintro _ s4 ⟨rfl,_,k4⟩
 have O14:=O1g.beside k4 d01.symm
 have Og4:=Og.beside k4 d0g.symm
 simp -implicitDefEqProofs only[aB,seval]
 refine(aOH sl _ o1 b1 s4 O14 n1 (by omega) (by omega)).mono ?_
 rintro _ s5 ⟨rfl,_,k5⟩
 have Og5:=Og4.beside k5 d1g.symm
 have aSG:¬(1+(yM s:Int)+(sl.length:Int)<0):=by omega
 simp -implicitDefEqProofs only[aSG,eK,aB,seval]
 refine(aD.BY (fun s=>LY L s) (gI.own Og5 (gI.same .nil)) rfl).to ?_
 simp -implicitDefEqProofs only[gX,dU,aB,seval]
 refine(aOF L 1 og bg s5 Og5 ng (by omega) (by omega)).mono ?_
 rintro _ s6 ⟨rfl,Og6,k6⟩
 have mO:¬(1+(aM iX L:Int)<0):=by omega
 simp -implicitDefEqProofs only[aB,seval]
 refine(aD.BY (fun s=>SJ L 1 s (by omega) (by omega)) (gI.own Og6 (gI.same .nil)) rfl).to ?_
 simp -implicitDefEqProofs only[dU,B1,B0,mO,eK,aB,seval,uX]
 refine(hto _ hb).to ?_
 simp -implicitDefEqProofs only[aB,seval]
 refine(hti _).to ?_
 simp -implicitDefEqProofs only[aB,seval]
 refine(((him _).mono fun _ _ ⟨o,h1,h2⟩=>by subst h1;exact jO.OB h2).aG8).to ?_
 simp -implicitDefEqProofs only[aB,seval]
 refine(LY L _).to ?_
 simp -implicitDefEqProofs only[gX,dU,aB,seval]
 refine(aD.BY (fun s=>SJ L 1 s (by omega) (by omega)) (gI.own Og6 (gI.same .nil)) rfl).to ?_
 simp -implicitDefEqProofs only[dU,mO,eK,aB,seval]
end Go.AW
namespace Go.AW
open Go.ChangeShapes Go.WideShapes Go.ChangeAt Go.RowKit
abbrev qB:aA:=fun _=>none
section
variable {H:Type} {enc:TypeId×Value→H} {P:Program} {w:World}
def Reads(enc:TypeId×Value→H)(P:Program)(w:World)(t n:Nat){α:Type}(av:α→AV):Prop:=
 ∀cs x,DataW.trod enc P w 0 (fun _=>true) true n t cs=some x→∃a:α,VC w.heap qB (av a) cs
theorem QY{h:bB}{st:aA}{b k:Nat}:∀ {es:List AV} {off:Nat},(∀e∈es,e.width=k)→(∀(i:Nat) e,es[i]?=some e→VE h st b (off+i*k) e)→cX h st b off es
 | [],_,_,_=>by simp [cX]
 | e::es,off,hw,h=>by
  simp only[cX]
  refine⟨by simpa [VE] using h 0 e rfl,QY (fun x hx=>hw x (by simp [hx])) fun i x hx=>?_⟩
  have:=h (i+1) x (by simpa using hx)
  rw[hw e (by simp),zH,←Nat.aWE k i] 
  exact this
where Nat.aWE (k i:Nat):(i+1)*k=k+i*k:=by rw[tP];omega
theorem TN{a:Addr}{v:Value}(h:w.cell? a=some v):a.spot=none∧a.block<w.heap.size∧cellAt w.heap a.block a.off=some v:=by
 unfold World.cell? at h
 split at h
 · rename_i c t fr hb
   split at h
   · cases h
   · rename_i hs
     refine⟨by simpa using hs,(F5.1 hb).1,by simp [cellAt,hb,h]⟩
 · cases h
theorem aPE{a:Addr}{n:Nat}{cs:List Value}(hs:a.spot=none)(h:w.cells? 0 a n=some cs):eS w.heap a.block a.off cs∧cs.length=n:=by
 obtain⟨_,hl,hc⟩:=World.cells?_some h
 refine⟨?_,hl⟩
 have:∀(l:List Value) (k:Nat),(∀i,i<l.length→w.cell? (a.add (k+i))=l[i]?)→eS w.heap a.block (a.off+k) l:=by
  intro l
  induction l with
  | nil=>intro _ _;trivial
  | cons v l ih=>
   intro k hk
   refine⟨?_,?_⟩
   · have:=(TN (hk 0 (by simp))).2.2
     obtain⟨b,off,sp⟩:=a
     simp only at hs
     subst hs
     simpa [Addr.nT] using this
   · have:=ih (k+1) (fun i hi=>by have:=hk (i+1) (by simp;omega);rw[show k+1+i=k+(i+1) by omega];simpa using this)
     simpa [zH] using this
 simpa using this cs 0 (fun i hi=>by simpa using hc i (by omega))
theorem JC{t e n k:Nat}{α:Type}{av:α→AV}(ht:P.underlying t=some (.slice e))(hk:P.cellsOf e=k)(IF:0<k)(hw:∀a,(av a).width=k)(hr:∀m,m<n→Reads enc P w e m av) :
 Reads enc P w t n (fun l:List α=>.slice (l.map av)):=by
 intro cs x h
 rcases DataW.trod_slice ht h with ⟨rfl,_⟩ | ⟨a,len,cap,elems,rest,m,hm,rfl,rfl,_,hl,A7,hlen,hel,hsp,_⟩
 · exact⟨[],by simp only[bG];unfold VC;exact .inl ⟨⟨_,rfl⟩,rfl⟩⟩
 obtain⟨hrl,uD⟩:=hsp rfl
 rw[hk] at hel uD
 have get:∀i,i<cap→∃ds y,w.cells? 0 (a.add (i*k)) k=some ds∧DataW.trod enc P w 0 (fun _=>true) true m e ds=some y:=by
  intro i hi
  have hb:∃y,(w.cells? 0 (a.add (i*k)) k).bind (DataW.trod enc P w 0 (fun _=>true) true m e)=some y:=by
   by_cases hi':i<len
   · exact⟨elems[i]'(by omega),by rw[hel i hi'];simp [show i<elems.length by omega]⟩
   · have:=uD (i - len) (by omega)
     rw[show len+(i - len)=i by omega] at this
     exact⟨rest[i - len]'(by omega),by rw[this];simp [show i - len<rest.length by omega]⟩
  obtain⟨y,hy⟩:=hb
  obtain⟨ds,h1,h2⟩:=Option.bind_eq_some_iff.1 hy
  exact⟨ds,y,h1,h2⟩
 by_cases hc0:cap=0
 · subst hc0
   obtain rfl:len=0:=by omega
   exact⟨[],by simp only[bG];unfold VC;exact .inl ⟨⟨_,rfl⟩,rfl⟩⟩
 obtain⟨ds0,_,hd0,_⟩:=get 0 (by omega)
 have aGL:a.spot=none∧a.block<w.heap.size:=by
  obtain⟨_,hl0,hc⟩:=World.cells?_some hd0
  have:=hc 0 IF
  have h0:ds0[0]?=some (ds0[0]'(by omega)):=by simp [hl0,IF]
  rw[h0] at this
  have:=TN this
  obtain⟨b,off,sp⟩:=a
  simp only[Nat.zero_mul] at this
  cases sp with
  | none=>exact⟨rfl,by simpa [Addr.nT] using this.2.1⟩
  | some s=>exact absurd this.1 (by simp [Addr.add])
 obtain⟨b,off,sp⟩:=a
 simp only at aGL
 obtain⟨rfl,hbl⟩:=aGL
 have val:∀i,i<len→∃v:α,VE w.heap qB b (off+i*k) (av v):=by
  intro i hi
  obtain⟨ds,y,h1,h2⟩:=get i (by omega)
  obtain⟨v,hv⟩:=hr m (by omega) ds y h2
  obtain⟨c1,c2⟩:=aPE (a:=(⟨b,off,none⟩:Addr).add (i*k)) (by simp [Addr.nT]) h1
  exact⟨v,ds,by simpa [Addr.nT] using c1,by rw[hw];exact c2,hv⟩
 have build:∀j,j≤len→∃l:List α,l.length=j∧∀(i:Nat) v,l[i]?=some v→VE w.heap qB b (off+i*k) (av v):=by
  intro j
  induction j with
  | zero=>intro _;exact⟨[],rfl,by simp⟩
  | succ j ih=>
   intro hj
   obtain⟨l,h1,h2⟩:=ih (by omega)
   obtain⟨v,hv⟩:=val j (by omega)
   refine⟨l++ [v],by simp [h1],fun i u hi=>?_⟩
   rw[List.getElem?_append] at hi
   split at hi
   · exact h2 i u hi
   · rename_i hge
     have:i=j:=by
      have:=(fD.1 hi).1
      simp at this
      omega
     subst this
     simp [h1] at hi
     subst hi
     exact hv
 obtain⟨l,h1,h2⟩:=build len (cQ _)
 refine⟨l,?_⟩
 unfold VC
 refine .inr ⟨b,off,cap,by simp [h1],by simp [h1];exact hl,A7,rfl,hbl,aQG hw l,QY (k:=k) (by intro e he;simp only[cE] at he;obtain⟨v,_,rfl⟩:=he;exact hw v) fun i e he=>?_⟩
 rw[lX] at he
 obtain⟨v,hv,rfl⟩:=Option.map_eq_some_iff.1 he
 exact h2 i v hv
theorem qE{fs:Array Field}{n:Nat}{cs:List Value}{xs:List (DataW H×List MemPlace)}(hx:xs.length=fs.size)
 (hf:∀(i:Nat) (f:Field),fs[i]?=some f→DataW.trod enc P w 0 (fun _=>true) true n f.type ((cs.drop f.offset).take (P.cellsOf f.type))=xs[i]?) (i:Nat) {f:Field} (h:fs[i]?=some f) :
 ∃y,DataW.trod enc P w 0 (fun _=>true) true n f.type ((cs.drop f.offset).take (P.cellsOf f.type))=some y:=by
 have hi:i<xs.length:=by rw[hx];exact(F5.1 h).1
 exact⟨xs[i],by rw[hf i f h];simp [hi]⟩
theorem aH8{t:TypeId}{α:Type}{av:α→AV}{v:Value}{d:DataW H}{ps:List MemPlace}(hr:∀n,Reads enc P w t n av)(hag:∀a,(av a).isAgg=j9 v)(h:DataW.Trod enc P w 0 (fun _=>true) true t v d ps) :
 ∃a:α,aO w.heap qB (av a) v:=by
 obtain⟨n,hn⟩:=h
 obtain⟨a,ha⟩:=hr n _ _ hn
 refine⟨a,?_⟩
 have:=hag a
 cases hq:av a<;>rw[hq] at ha this<;>first | trivial | exact⟨this,ha⟩
theorem aKD(hl:laidOutB P=true){W W':World}{sp:Nat→Bool}:∀ {ts:List TypeId} {vs:List Value} {ds:List (DataW H)} {ps:List MemPlace},(ts.all fun t=>P.readableRec t&&decide (t<P.types.size))=true →
 DataW.TrodAll enc P W 0 (fun _=>true) true ts vs ds ps→(∀x∈ps,W.sameAt W' x)→(∀x∈ps,sp x.block=true)→DataW.TrodAll enc P W' 0 sp true ts vs ds ps
 | [],vs,ds,ps,_,h,_,_=>by
  cases vs<;>cases ds<;>simp [DataW.TrodAll] at h ⊢
  exact h
 | t::ts,vs,ds,ps,ht,h,h1,h2=>by
  obtain⟨v,vs',d,ds',p,q,rfl,rfl,rfl,hd,uD⟩:=trodAll_cons h
  simp only[iS,cK,bL] at ht
  refine⟨p,q,Go.WideElems.Trod_stays hl ht.1.1 ht.1.2 hd (fun x hx=>h1 x (by simp [hx])) (fun x hx=>h2 x (by simp [hx])),aKD hl ht.2 uD (fun x hx=>h1 x (by simp [hx])) (fun x hx=>h2 x (by simp [hx])),rfl⟩
theorem aL9{W W':World}{st':aA}(T:bT W.heap qB W'.heap st')(s:fE W W'):Below W.heap.size W W':=
 ⟨s.1,s.2.1,s.2.2,T.size,fun k hk=>(T.aV k hk rfl).1⟩
theorem aTR{f:Func}{g:FuncId}{s:ChangeSpec}{W:World}{args:Array Value}{ds:List (DataW H)}{before:List MemPlace}{avs:List AV}{tb:TypeId}
 (hl:laidOutB P=true) (hts:(f.params.toList.all fun t=>P.readableRec t&&decide (t<P.types.size))=true) (hrt:f.resultTypes= #[tb]) (htb:P.underlying tb=some .bool) (hsv:s.vars= [])
 (hW:DataW.Whole enc P f.params.toList [] false W args.toList ds [] before) (hfn:s.fn H ds= { results:=[.lit (.bool true)],args:=ds }) (aSR:cO W.heap qB avs args.toList)
 (hc:aD P g avs qB (fun r _=>r=.bool true)) :
 Calls P g args W fun e W'=>∃v,e=.returned v∧s.post enc P f false true false false W args v W':=by
 have hS:cJ W.heap qB:=fun b o h=>by cases h
 have:=hc.2 W args.toList hS aSR
 simp only[vA] at this
 refine this.mono ?_
 rintro e W' ⟨v,r,st',rfl,hv,_,T,sm,rfl⟩
 refine⟨v,rfl,?_⟩
 have hB:=aL9 T sm
 rw[hv.xI]
 have hW':DataW.Whole enc P f.params.toList s.vars false W args.toList ds [] before:=by rw[hsv];exact hW
 obtain⟨p,q,hA,hV,rfl,hz,_⟩:=hW
 obtain⟨_,rfl⟩:=trodVars_none hV
 have hlt:∀x∈p,x.block<W.heap.size:=fun x hx=>hW'.lt x (by simp [hx])
 have x8:∀(b:Nat) (sp:Nat→Bool) (hd:Bool),DataW.TrodAll enc P W' b sp hd f.resultTypes.toList ((Value.bool true).resultList f.resultTypes.size) (s.fn H (ds++ [])).results []:=fun _ _ _=>by
  rw[fM,hfn,hrt]
  exact trodAll_mk1 (shut_bool htb true)
 have xR:∀sp:Nat→Bool,(∀x∈p,sp x.block=true)→DataW.TrodAll enc P W' 0 sp true f.params.toList args.toList (s.fn H (ds++ [])).args p:=fun sp hsp=>by
  rw[fM,hfn]
  exact aKD hl hts hA (fun x hx=>hB.same (hlt x hx)) hsp
 have aGO:∀sp:Nat→Bool,DataW.TrodVars enc P W' sp s.vars (s.fn H (ds++ [])).vars []:=fun sp=>by
  rw[fM,hfn,hsv]
  exact rfl
 refine⟨ds,[],p++ [],[],p,[],hW',x8 _ _ _,xR _ (fun x hx=>by simpa using hlt x hx),aGO _,World.keptBut_mono (fun x hx=>⟨hx,by simpa using hx⟩) (hB.frame (·∈p++ [])),fun _=>?_⟩
 refine⟨ok_one hrt rfl (okWide_bool_mk htb true),_,_,([]++p)++ [],⟨[]++p,[],trodAll_append (xR _ (fun _ _=>rfl)) (x8 _ _ _),aGO _,rfl,?_,?_⟩,?_⟩
 · intro b off hp
   have hp':MemPlace.cell b off∈p:=by simpa using hp
   rw[hB.frozen (p:=⟨b,off,none⟩) (hlt _ hp')]
   exact hz b off (by simpa using hp')
 · intro ha;cases ha
 · intro x hx _
   simpa using hx
end
end Go.AW

namespace Go.AW
open Go.Proofs.Tryz
section
variable {H:Type} {enc:TypeId×Value→H} {w:World}
theorem aK0{h:bB}{st:aA}{k:IntKind}{n:Int}:VC h st (.int k n) [.int k n]:=by simp only[VC]
theorem TP:prog.cellsOf 3=1:=by kernel_rfl
theorem aPD:prog.cellsOf 9=1:=by kernel_rfl
theorem MH:prog.cellsOf 23=1:=by kernel_rfl
theorem G4:prog.cellsOf 118=4:=by kernel_rfl
theorem aH6:∀n,Reads enc prog w 118 n Tm.av:=by
 intro n
 induction n using Nat.strongRecOn with
 | _ n ih=>
  intro cs x h
  obtain⟨xs,m,rfl,_,hl,hx,hf⟩:=DataW.trod_struct aXF h
  rw[G4] at hl
  match cs,hl with
  | [c0,c1,c2,c3],_=>
   obtain⟨y0,h0⟩:=qE hx hf 0 rfl
   obtain⟨y1,h1⟩:=qE hx hf 1 rfl
   obtain⟨y2,h2⟩:=qE hx hf 2 rfl
   obtain⟨y3,h3⟩:=qE hx hf 3 rfl
   replace h0:DataW.trod enc prog w 0 (fun _=>true) true m 3 ([c0,c1,c2,c3].take (prog.cellsOf 3))=some y0:=h0
   replace h1:DataW.trod enc prog w 0 (fun _=>true) true m 3 ([c1,c2,c3].take (prog.cellsOf 3))=some y1:=h1
   replace h2:DataW.trod enc prog w 0 (fun _=>true) true m 9 ([c2,c3].take (prog.cellsOf 9))=some y2:=h2
   replace h3:DataW.trod enc prog w 0 (fun _=>true) true m 23 ([c3].take (prog.cellsOf 23))=some y3:=h3
   rw[TP] at h0 h1
   rw[aPD] at h2
   rw[MH] at h3
   obtain⟨k,e0,_⟩:=DataW.trod_int aZ h0
   obtain⟨j,e1,_⟩:=DataW.trod_int aZ h1
   obtain⟨s,e2,_,es⟩:=DataW.trod_string eF h2
   obtain⟨l,e3⟩:=JC (n:=m) qM G4 (by omega) aN (fun m' hm=>ih m' (by omega)) _ _ h3
   obtain rfl:=(vE e0).1
   obtain rfl:=(vE e1).1
   obtain rfl:=(vE e2).1
   refine⟨.mk k j s l,?_⟩
   rw[a7]
   unfold VC
   simp only[aW]
   exact⟨_,_,rfl,by simp only[VC],_,_,rfl,by simp only[VC],_,_,rfl,by simp only[VC];exact⟨trivial,es⟩,_,_,rfl,e3,rfl⟩
theorem aH7(n:Nat):Reads enc prog w 23 n (fun l:List Tm=>.slice (l.map Tm.av)):=
 JC qM G4 (by omega) aN fun m _=>aH6 m
theorem aX1{r:Reach}{b0:Nat}{t:TypeId}{fs:Array Field}{v:Value}(ht:prog.underlying t=some (.struct fs))(h:Value.okWide prog w r b0 t v):j9 v=true:=by
 simp only[Value.okWide,ht] at h
 obtain⟨cs,rfl,_⟩:=h
 rfl
theorem aX2{r:Reach}{b0:Nat}{t e:TypeId}{v:Value}(ht:prog.underlying t=some (.slice e))(h:Value.okWide prog w r b0 t v):j9 v=false:=by
 cases v<;>first | rfl | (simp [Value.okWide,ht,Cell.okWide,Cell.ok] at h)
end
section
variable {H:Type} {enc:TypeId×Value→H} {w:World}
theorem TO:prog.cellsOf 120=5:=by kernel_rfl
theorem E5(n:Nat):Reads enc prog w 3 n (fun k:Int=>.int .i64 k):=by
 intro cs x h
 obtain⟨k,rfl,_⟩:=DataW.trod_int aZ h
 exact⟨k,aK0⟩
theorem aVA(n:Nat):Reads enc prog w 120 n bD:=by
 intro cs x h
 obtain⟨xs,m,rfl,_,hl,hx,hf⟩:=DataW.trod_struct aXG h
 rw[TO] at hl
 match cs,hl with
 | [c0,c1,c2,c3,c4],_=>
  obtain⟨y0,h0⟩:=qE hx hf 0 rfl
  obtain⟨y1,h1⟩:=qE hx hf 1 rfl
  replace h0:DataW.trod enc prog w 0 (fun _=>true) true m 118 ([c0,c1,c2,c3,c4].take (prog.cellsOf 118))=some y0:=h0
  replace h1:DataW.trod enc prog w 0 (fun _=>true) true m 23 ([c4].take (prog.cellsOf 23))=some y1:=h1
  rw[G4] at h0
  rw[MH] at h1
  obtain⟨⟨k,j,s,l⟩,e0⟩:=aH6 _ _ _ h0
  obtain⟨b,e1⟩:=aH7 _ _ _ h1
  refine⟨(.mk k j s l,b),?_⟩
  rw[mK]
  rw[a7] at e0
  unfold VC at e0
  unfold VC
  simp only[aW,List.cons.injEq] at e0 ⊢
  obtain⟨_,_,⟨rfl,rfl⟩,f0,_,_,⟨rfl,rfl⟩,f1,_,_,⟨rfl,rfl⟩,f2,_,_,⟨rfl,rfl⟩,f3,_⟩:=e0
  exact⟨_,_,⟨rfl,rfl⟩,f0,_,_,rfl,f1,_,_,rfl,f2,_,_,rfl,f3,_,_,rfl,e1,rfl⟩
theorem aVB(n:Nat):Reads enc prog w 22 n (fun l:List Cl=>.slice (l.map bD)):=
 JC FX TO (by omega) gD fun m _=>aVA m
end
section
variable {H:Type} {enc:TypeId×Value→H} {w:World}
end
section
variable {H:Type} {enc:TypeId×Value→H} {w:World}
theorem aPB:prog.cellsOf 22=1:=by kernel_rfl
theorem aPC:prog.cellsOf 25=6:=by kernel_rfl
theorem zP{h:bB}{st:aA}{a:AV}{es:List AV}{c:Value}{cs:List Value}(x:VC h st a [c])(y:aW h st es cs):aW h st (a::es) (c::cs):=by
 unfold aW;exact⟨c,cs,rfl,x,y⟩
theorem aK1{h:bB}{st:aA}:aW h st [] []:=by unfold aW;rfl
theorem aKZ{h:bB}{st:aA}{es:List AV}{cs:List Value}:VC h st (.agg es) cs↔aW h st es cs:=by unfold VC;exact Iff.rfl
theorem aVC{n:Nat}{cs:List Value}{x:DataW H×List MemPlace}(h:DataW.trod enc prog w 0 (fun _=>true) true n 25 cs=some x):∃s,VC w.heap qB (cZ s) cs:=by
 obtain⟨xs,m,rfl,_,hl,hx,hf⟩:=DataW.trod_struct aXH h
 rw[aPC] at hl
 match cs,hl with
 | [c0,c1,c2,c3,c4,c5],_=>
  obtain⟨y0,h0⟩:=qE hx hf 0 rfl
  obtain⟨y1,h1⟩:=qE hx hf 1 rfl
  obtain⟨y2,h2⟩:=qE hx hf 2 rfl
  obtain⟨y3,h3⟩:=qE hx hf 3 rfl
  obtain⟨y4,h4⟩:=qE hx hf 4 rfl
  obtain⟨y5,h5⟩:=qE hx hf 5 rfl
  replace h0:DataW.trod enc prog w 0 (fun _=>true) true m 22 ([c0,c1,c2,c3,c4,c5].take (prog.cellsOf 22))=some y0:=h0
  replace h1:DataW.trod enc prog w 0 (fun _=>true) true m 23 ([c1,c2,c3,c4,c5].take (prog.cellsOf 23))=some y1:=h1
  replace h2:DataW.trod enc prog w 0 (fun _=>true) true m 3 ([c2,c3,c4,c5].take (prog.cellsOf 3))=some y2:=h2
  replace h3:DataW.trod enc prog w 0 (fun _=>true) true m 3 ([c3,c4,c5].take (prog.cellsOf 3))=some y3:=h3
  replace h4:DataW.trod enc prog w 0 (fun _=>true) true m 3 ([c4,c5].take (prog.cellsOf 3))=some y4:=h4
  replace h5:DataW.trod enc prog w 0 (fun _=>true) true m 3 ([c5].take (prog.cellsOf 3))=some y5:=h5
  rw[aPB] at h0
  rw[MH] at h1
  rw[TP] at h2 h3 h4 h5
  obtain⟨p,e0⟩:=aVB _ _ _ h0
  obtain⟨q,e1⟩:=aH7 _ _ _ h1
  obtain⟨k2,e2⟩:=E5 _ _ _ h2
  obtain⟨k3,e3⟩:=E5 _ _ _ h3
  obtain⟨k4,e4⟩:=E5 _ _ _ h4
  obtain⟨k5,e5⟩:=E5 _ _ _ h5
  exact⟨⟨p,q,k2,k3,k4,k5⟩,aKZ.2 (zP e0 (zP e1 (zP e2 (zP e3 (zP e4 (zP e5 aK1))))))⟩
end
end Go.AW
