import Derived.Test.YtimfffmcljmfgaaGreatDoorUzp
import Derived.Test.YtimfffmcljmfgaaGreatDoorUzn
import Derived.Shelf.Slices.Clone
set_option linter.unusedSimpArgs false
set_option linter.unusedVariables false
set_option maxRecDepth 100000
namespace Go.AW
open Go.Proofs.Tryz
theorem JM{φ:AF}{y z:Operand}{s:ByteArray}{k m:Nat}(h:φ.eval y=.int .i64 (k:Int))(h':φ.eval z=.int .i64 (m:Int))(hk:k≤m)(hm:m≤s.size):iK prog φ 9 (.str s) (some y) (some z) none=some (.str (s.extract k m)):=by
 unfold iK oY
 rw[aE (by simp [rH])]
 simp only[show prog.underlying 9=some .string from cF,d8,h,h']
 rw[aH (by omega)]
 simp only[jU]
 rw[aH (by omega)]
 try simp
theorem Q5(s:ByteArray)(n:Nat)(p:UInt8→Bool):pX s (n:Int) p=gR (sb s) n p:=by
 unfold pX gR
 rw[jU]
 by_cases h:n<s.size
 · rw[g8 (by omega:(0:Int)≤(n:Int)),g8 (by omega:(n:Int)<(s.size:Int))];try rfl
 · rw[gG (by omega:¬(n:Int)<(s.size:Int)),yS (by rw[cQ];omega)];simp
theorem lM(s:ByteArray)(n c:Nat)(st:aB):aD prog 323 [.str s,.int .i64 (n:Int),.int .u8 (c:Int)] st (fun r st'=>r=.bool (cV (sb s) n c)∧st'=st):=by
 have h:=aWW s n c st
 rwa [show AL s n c=cV (sb s) n c from Q5 s n _] at h
theorem CO(s:ByteArray)(n:Nat)(st:aB):aD prog 374 [.str s,.int .i64 (n:Int)] st (fun r st'=>r=.bool (gR (sb s) n dY)∧st'=st):=by
 have h:=aWO s n st
 rwa [show zD s n=gR (sb s) n dY from Q5 s n _] at h
theorem aO3(s:ByteArray)(n:Nat)(st:aB):aD prog 373 [.str s,.int .i64 (n:Int)] st (fun r st'=>r=.bool (gR (sb s) n letter)∧st'=st):=by
 have h:=aWY s n st
 rwa [show AM s n=gR (sb s) n letter from Q5 s n _] at h
theorem Y0{n k:Nat}(h:n≤1048576)(hk:k≤1048576):IntKind.wrap .i64 ((n:Int)+(k:Int))=((n+k:Nat):Int):=by
 rw[wrap64 (by omega) (by omega)];try rfl
abbrev F6:=zi tI_3 (zi zI_3 (zi aZ (zi tI_4 (zi zI_4 (zi cG (zi tI_5 (zi zI_5 (zi lO (zi tI_9 (zi zI_9 cF))))))))))
theorem aAA(s:ByteArray)(hd:∀x∈sb s,dY x=true)(hl:s.size≤4)(st:aB):aD prog 405 [.str s] st (fun r st'=>r=.tup [.int .i64 ((iW (sb s)).1:Int),.bool (iW (sb s)).2]∧st'=st):=by
 refine wF [1000000] 1 func405 ntmps405 rfl rfl ?_
 intro _
 by_cases hs:s.size=0
 · have e:iW (sb s)=(0,false):=by unfold iW;rw[aH (Or.inl (by rw[cQ];exact hs))]
   rw[e]
   simp -implicitDefEqProofs only[hs,aA,↓aX,seval,F6]
 have z6:(0:Int)<(s.size:Int):=by omega
 obtain⟨x0,hx0⟩:=xC (s:=s) (n:=0) (by omega)
 have hix:=uK (P:=prog) (t:=9) cF hx0
 rw[show((0:Nat):Int)=0 from rfl] at hix
 have hdx:=hd x0 (cJ hx0)
 simp only[dY,cK,bL] at hdx
 have h45:((x0.toNat:Int)=45)=False:=cO (by omega)
 have h0:((s.size:Int)=0)=False:=cO (by omega)
 have h17:((17:Int)<(s.size:Int))=False:=cO (by omega)
 simp -implicitDefEqProofs only[z6,hix,h45,h0,h17,bX,b9,aA,seval,F6]
 by_cases h48:x0.toNat=48
 case pos=>
  have EY:((x0.toNat:Int)=48)=True:=dF (by omega)
  by_cases h1:1<s.size
  case pos=>
   have h1':((1:Int)<(s.size:Int))=True:=dF (by omega)
   have e:iW (sb s)=(0,false):=by unfold iW;rw[aH (Or.inr ⟨by rw[uL hx0,h48];try rfl,by rw[cQ];exact h1⟩)]
   rw[e]
   simp -implicitDefEqProofs only[EY,h1',bX,aA,↓aX,seval,F6]
  have h1':((1:Int)<(s.size:Int))=False:=cO (by omega)
  have hnd:iW (sb s)=(oK (sb s),true):=by unfold iW;rw[aE (by rw[cQ];rintro(h | ⟨_,h⟩)<;>omega)]
  simp -implicitDefEqProofs only[EY,h1',bX,b9,aA,seval,F6]
  rw[hnd]
  refine iN (σ:=Nat) [1000000] [0,4] (fun i=>i≤s.size) (fun i=>[(5,.int .i64 (oK ((sb s).take i):Int)),(6,.int .i64 (i:Int))]) (fun _=>st) (fun i=>s.size - i) (by decide +kernel) ⟨0,by omega,aN.mk (by simp -implicitDefEqProofs only[j9,aA,↓aX,seval];rfl)⟩ ?_
  intro i hi
  have hb:oK ((sb s).take i)<10000:=u9 (SH fun x hx=>hd x (lS hx)) (lF (P9 (by omega) (by rw[dQ];omega:((sb s).take i).length≤4)) (by decide))
  simp -implicitDefEqProofs only[aA,seval,F6]
  refine aS (fun h5=>?_) (fun h5=>?_)
  case refine_2=>
   simp only[cP] at h5
   obtain rfl:i=s.size:=by omega
   rw[lT (by rw[cQ];omega)]
   simp -implicitDefEqProofs only[aA,seval]
  simp only[bL] at h5
  obtain⟨c,hc⟩:=xC (s:=s) (n:=i) (by omega)
  have hic:=uK (P:=prog) (t:=9) cF hc
  have hdc:=hd c (cJ hc)
  simp only[dY,cK,bL] at hdc
  have c48:((c.toNat:Int)<48)=False:=cO (by omega)
  have c57:((57:Int)<(c.toNat:Int))=False:=cO (by omega)
  have hw0:=Y0 (n:=i) (k:=1) (by omega) (by omega)
  rw[show((1:Nat):Int)=1 from rfl] at hw0
  have hw1:=bE (n:=(oK ((sb s).take i):Int)*10)
  have hw2:IntKind.wrap .u8 ((c.toNat:Int) - 48)=((c.toNat - 48:Nat):Int):=by rw[IntKind.wrap_u8];omega
  have hw3:=bE (n:=((c.toNat - 48:Nat):Int))
  have hw4:=bE (n:=(oK ((sb s).take i):Int)*10+((c.toNat - 48:Nat):Int))
  have jH:=aB4 hc
  simp -implicitDefEqProofs only[hic,c48,c57,hw1,hw2,b9,aA,seval]
  refine⟨i+1,by omega,by omega,aN.mk ?_⟩
  rw[jH]
  simp -implicitDefEqProofs only[hw0,hw3,hw4,aA,seval]
  rfl
 have EY:((x0.toNat:Int)=48)=False:=cO (by omega)
 have hnd:iW (sb s)=(oK (sb s),true):=by unfold iW;rw[aE (by rw[cQ,uL hx0];rintro(h | ⟨h,_⟩);omega;exact h48 (I5 h))]
 simp -implicitDefEqProofs only[EY,b9,aA,seval]
 rw[hnd]
 refine iN (σ:=Nat) [1000000] [0,4] (fun i=>i≤s.size) (fun i=>[(5,.int .i64 (oK ((sb s).take i):Int)),(6,.int .i64 (i:Int))]) (fun _=>st) (fun i=>s.size - i) (by decide +kernel) ⟨0,by omega,aN.mk (by simp -implicitDefEqProofs only[j9,aA,↓aX,seval];rfl)⟩ ?_
 intro i hi
 have hb:oK ((sb s).take i)<10000:=u9 (SH fun x hx=>hd x (lS hx)) (lF (P9 (by omega) (by rw[dQ];omega:((sb s).take i).length≤4)) (by decide))
 simp -implicitDefEqProofs only[aA,seval,F6]
 refine aS (fun h5=>?_) (fun h5=>?_)
 case refine_2=>
  simp only[cP] at h5
  obtain rfl:i=s.size:=by omega
  rw[lT (by rw[cQ];omega)]
  simp -implicitDefEqProofs only[aA,seval]
 simp only[bL] at h5
 obtain⟨c,hc⟩:=xC (s:=s) (n:=i) (by omega)
 have hic:=uK (P:=prog) (t:=9) cF hc
 have hdc:=hd c (cJ hc)
 simp only[dY,cK,bL] at hdc
 have c48:((c.toNat:Int)<48)=False:=cO (by omega)
 have c57:((57:Int)<(c.toNat:Int))=False:=cO (by omega)
 have hw0:=Y0 (n:=i) (k:=1) (by omega) (by omega)
 rw[show((1:Nat):Int)=1 from rfl] at hw0
 have hw1:=bE (n:=(oK ((sb s).take i):Int)*10)
 have hw2:IntKind.wrap .u8 ((c.toNat:Int) - 48)=((c.toNat - 48:Nat):Int):=by rw[IntKind.wrap_u8];omega
 have hw3:=bE (n:=((c.toNat - 48:Nat):Int))
 have hw4:=bE (n:=(oK ((sb s).take i):Int)*10+((c.toNat - 48:Nat):Int))
 have jH:=aB4 hc
 simp -implicitDefEqProofs only[hic,c48,c57,hw1,hw2,b9,aA,seval]
 refine⟨i+1,by omega,by omega,aN.mk ?_⟩
 rw[jH]
 simp -implicitDefEqProofs only[hw0,hw3,hw4,aA,seval]
 rfl
theorem oS{x:Int}{m:Nat}(h:x=(m:Int))(hm:m≤1099511627776):IntKind.wrap .i64 x=(m:Int):=by rw[wrap64 (by omega) (by omega)];exact h
abbrev J4:Tm:=.mk 0 0 ⟨#[]⟩ []
def CQ(o:Option (Int×Nat)):AV:=match o with | some (n,e)=>.tup [(Tm.mk 2 n ⟨#[]⟩ []).av,.int .i64 (e:Int)] | none=>.tup [J4.av,.int .i64 (-1)]
abbrev DC:=zi tI_3 (zi zI_3 (zi aZ (zi tI_4 (zi zI_4 (zi cG (zi tI_5 (zi zI_5 (zi lO (zi tI_8 (zi zI_8 (zi zP (zi zQ (zi zR (zi zS (zi yZ (zi tI_9 (zi zI_9 (zi cF (zi tI_66 (zi zI_66 (zi bS (zi bT (zi bU (zi bV bR))))))))))))))))))))))))
set_option maxHeartbeats 1000000 in
theorem aWT(s:ByteArray)(hs:s.size≤1000)(a:Nat)(ha:a≤s.size)(st:aB):aD prog 389 [.str s,.int .i64 (a:Int)] st (fun r st'=>r=CQ (wC (sb s) a)∧st'=st):=by
 refine aD.done ?_
 refine wF [1000000] 2 func389 ntmps389 rfl rfl ?_
 intro _
 simp -implicitDefEqProofs only[aA,seval,DC]
 intro b hb
 refine(lM s a 45 _).to ?_
 obtain⟨f1,hf1⟩:∃f,f=a+1:=⟨_,rfl⟩
 have hw1:=oS (x:=(a:Int)+1) (m:=f1) (by omega) (by omega)
 simp -implicitDefEqProofs only[aA,seval]
 refine aS (fun h1=>?_) (fun h1=>?_)
 · have hf:=pE h1
   rw[cQ] at hf
   simp -implicitDefEqProofs only[hw1,aA,seval]
   obtain⟨f,rfl⟩:∃f,f=f1:=⟨_,rfl⟩
   replace hf:f≤s.size:=by omega
   refine iN (σ:=Nat) [1000000] [0,1,4,5,7] (fun j=>f≤j∧j≤f+4∧j - f≤(((sb s).drop f).takeWhile dY).length) (fun j=>[(6,.int .i64 (j:Int))]) (fun _=>st.aC b (.cells [.int .i64 0,.int .i64 0,.str ⟨#[]⟩,.fslice []])) (fun j=>f+4 - j) (by decide +kernel) ⟨f,⟨by omega,by omega,by omega⟩,aN.mk (by simp -implicitDefEqProofs only[aA,seval])⟩ ?_
   rintro j ⟨hj1,hj4,hj⟩
   have hfi:j≤s.size:=by have:=J9 dY ((sb s).drop f);rw[lR,cQ] at this;omega
   simp -implicitDefEqProofs only[aA,seval]
   refine(CO s j _).to ?_
   have hw4:=bE (n:=(f:Int)+4)
   have IR:=bE (n:=(j:Int)+1)
   simp -implicitDefEqProofs only[aA,seval]
   refine cS (fun h5=>?_) (fun h5=>?_)
   simp -implicitDefEqProofs only[h5,hw4,aA,seval]
   refine aS (fun h6=>?_) (fun h6=>?_)
   case' refine_1.refine_1=>
    rw[show j=f+(j - f) by omega,←E8] at h5
    simp only[bL] at h6
    simp -implicitDefEqProofs only[IR,aA,seval]
    exact⟨j+1,by omega,⟨by omega,by omega,by have:=XD hj h5;omega⟩,aN.mk (by simp -implicitDefEqProofs only[aA,seval]<;>rfl)⟩
   all_goals
    have ht:(((sb s).drop f).takeWhile dY).take 4=((sb s).drop f).take (j - f):=by
     rw[aSX hj]
     rcases kX (j - f) 4 with h7 | h7
     · have h8:j - f=(((sb s).drop f).takeWhile dY).length:=by
        refine XC hj ?_
        rw[E8,show f+(j - f)=j by omega]
        first | exact h5 | (simp only[cP] at h6;omega)
       rw[h8,eN,lT (by omega)]
     · rw[show j - f=4 by omega]
    have hex:s.extract f j=ba ((((sb s).drop f).takeWhile dY).take 4):=by rw[HC,ht]
    have hln:((((sb s).drop f).takeWhile dY).take 4).length=j - f:=by rw[ht,dQ,lR,cQ];omega
    have hdg:∀x∈(((sb s).drop f).takeWhile dY).take 4,dY x=true:=fun x hx=>aSW x (lS hx)
    have hsl:=fun(φ:AF) (y z:Operand) (h:φ.eval y=.int .i64 (f:Int)) (h':φ.eval z=.int .i64 (j:Int))=>JM (s:=s) h h' hj1 hfi
    rw[hex] at hsl
    have hrd:wC (sb s) a=if(iW ((((sb s).drop f).takeWhile dY).take 4)).2=false∨(a<f∧(iW ((((sb s).drop f).takeWhile dY).take 4)).1=0)∨999<(iW ((((sb s).drop f).takeWhile dY).take 4)).1 then none else some (if a<f then -((iW ((((sb s).drop f).takeWhile dY).take 4)).1:Int) else((iW ((((sb s).drop f).takeWhile dY).take 4)).1:Int),f+((((sb s).drop f).takeWhile dY).take 4).length):=by
     unfold wC
     simp only[h1,↓reduceIte,←hf1]
    rw[hrd]
    clear hrd
    generalize (((sb s).drop f).takeWhile dY).take 4=t at *
    simp -implicitDefEqProofs only[hsl,h5,aA,seval]
    refine(aAA (ba t) hdg (by show t.length≤4;omega) _).to ?_
    have hn:=aO8 hdg (by omega)
    rw[show sb (ba t)=t from rfl]
    generalize iW t=nd at *
    obtain⟨n,ok⟩:=nd
    simp only at hn ⊢
    have hw5:=bE (n:=0 - (n:Int))
    have hw6:=bE (n:= -(n:Int))
    have hfa:((a:Int)<(f:Int))=True:=dF (by omega)
    have hfn:(a<f)=True:=dF (by omega)
    cases ok
    case false=>
     simp -implicitDefEqProofs only[aG,aA,seval,DC]
     refine⟨?_,(aL.refl _).aC hb⟩
     rw[aH (Or.inl trivial)]
     simp only[CQ,aY,eG,eJ,d7,mR,nX,aW,aU,aU]
    by_cases hz:(n:Int)=0
    case' pos=>have hz':n=0:=by omega
    case' neg=>have hz':n≠0:=by omega
    all_goals
     by_cases h9:(999:Int)<(n:Int)
     case' pos=>have h9':999<n:=by omega
     case' neg=>have h9':¬ 999<n:=by omega
     all_goals try (exfalso;omega)
     all_goals
      simp -implicitDefEqProofs only[aG,hw5,hz,h9,hfa,aA,seval,DC]
      try
       refine(EA _ _).to ?_
       simp -implicitDefEqProofs only[aG,aA,seval,DC]
      refine⟨?_,(aL.refl _).aC hb⟩
      first
       | rw[aH (by omega)]
       | rw[aE (by omega),aH (by omega),show f+t.length=j by omega]
       | rw[aE (by omega),aE (by omega),show f+t.length=j by omega]
      simp only[CQ,aY,eG,eJ,d7,mR,fV,nX,aW,aU,aU,Int.zero_sub]
 · skip
   simp -implicitDefEqProofs only[aA,seval]
   obtain⟨f,rfl⟩:∃f,f=a:=⟨_,rfl⟩
   have hf:=ha
   refine iN (σ:=Nat) [1000000] [0,1,4,5,7] (fun j=>f≤j∧j≤f+4∧j - f≤(((sb s).drop f).takeWhile dY).length) (fun j=>[(6,.int .i64 (j:Int))]) (fun _=>st.aC b (.cells [.int .i64 0,.int .i64 0,.str ⟨#[]⟩,.fslice []])) (fun j=>f+4 - j) (by decide +kernel) ⟨f,⟨by omega,by omega,by omega⟩,aN.mk (by simp -implicitDefEqProofs only[aA,seval])⟩ ?_
   rintro j ⟨hj1,hj4,hj⟩
   have hfi:j≤s.size:=by have:=J9 dY ((sb s).drop f);rw[lR,cQ] at this;omega
   simp -implicitDefEqProofs only[aA,seval]
   refine(CO s j _).to ?_
   have hw4:=bE (n:=(f:Int)+4)
   have IR:=bE (n:=(j:Int)+1)
   simp -implicitDefEqProofs only[aA,seval]
   refine cS (fun h5=>?_) (fun h5=>?_)
   simp -implicitDefEqProofs only[h5,hw4,aA,seval]
   refine aS (fun h6=>?_) (fun h6=>?_)
   case' refine_1.refine_1=>
    rw[show j=f+(j - f) by omega,←E8] at h5
    simp only[bL] at h6
    simp -implicitDefEqProofs only[IR,aA,seval]
    exact⟨j+1,by omega,⟨by omega,by omega,by have:=XD hj h5;omega⟩,aN.mk (by simp -implicitDefEqProofs only[aA,seval]<;>rfl)⟩
   all_goals
    have ht:(((sb s).drop f).takeWhile dY).take 4=((sb s).drop f).take (j - f):=by
     rw[aSX hj]
     rcases kX (j - f) 4 with h7 | h7
     · have h8:j - f=(((sb s).drop f).takeWhile dY).length:=by
        refine XC hj ?_
        rw[E8,show f+(j - f)=j by omega]
        first | exact h5 | (simp only[cP] at h6;omega)
       rw[h8,eN,lT (by omega)]
     · rw[show j - f=4 by omega]
    have hex:s.extract f j=ba ((((sb s).drop f).takeWhile dY).take 4):=by rw[HC,ht]
    have hln:((((sb s).drop f).takeWhile dY).take 4).length=j - f:=by rw[ht,dQ,lR,cQ];omega
    have hdg:∀x∈(((sb s).drop f).takeWhile dY).take 4,dY x=true:=fun x hx=>aSW x (lS hx)
    have hsl:=fun(φ:AF) (y z:Operand) (h:φ.eval y=.int .i64 (f:Int)) (h':φ.eval z=.int .i64 (j:Int))=>JM (s:=s) h h' hj1 hfi
    rw[hex] at hsl
    have hrd:wC (sb s) f=if(iW ((((sb s).drop f).takeWhile dY).take 4)).2=false∨(f<f∧(iW ((((sb s).drop f).takeWhile dY).take 4)).1=0)∨999<(iW ((((sb s).drop f).takeWhile dY).take 4)).1 then none else some (if f<f then -((iW ((((sb s).drop f).takeWhile dY).take 4)).1:Int) else((iW ((((sb s).drop f).takeWhile dY).take 4)).1:Int),f+((((sb s).drop f).takeWhile dY).take 4).length):=by
     unfold wC
     simp only[h1,↓reduceIte,jC]
    rw[hrd]
    clear hrd
    generalize (((sb s).drop f).takeWhile dY).take 4=t at *
    simp -implicitDefEqProofs only[hsl,h5,aA,seval]
    refine(aAA (ba t) hdg (by show t.length≤4;omega) _).to ?_
    have hn:=aO8 hdg (by omega)
    rw[show sb (ba t)=t from rfl]
    generalize iW t=nd at *
    obtain⟨n,ok⟩:=nd
    simp only at hn ⊢
    have hw5:=bE (n:=0 - (n:Int))
    have hw6:=bE (n:= -(n:Int))
    have hfa:((f:Int)<(f:Int))=False:=cO (by omega)
    have hfn:(f<f)=False:=cO (by omega)
    cases ok
    case false=>
     simp -implicitDefEqProofs only[aG,aA,seval,DC]
     refine⟨?_,(aL.refl _).aC hb⟩
     rw[aH (Or.inl trivial)]
     simp only[CQ,aY,eG,eJ,d7,mR,nX,aW,aU,aU]
    by_cases hz:(n:Int)=0
    case' pos=>have hz':n=0:=by omega
    case' neg=>have hz':n≠0:=by omega
    all_goals
     by_cases h9:(999:Int)<(n:Int)
     case' pos=>have h9':999<n:=by omega
     case' neg=>have h9':¬ 999<n:=by omega
     all_goals try (exfalso;omega)
     all_goals
      simp -implicitDefEqProofs only[aG,hz,h9,hfa,aA,seval,DC]
      try
       refine(EA _ _).to ?_
       simp -implicitDefEqProofs only[aG,aA,seval,DC]
      refine⟨?_,(aL.refl _).aC hb⟩
      first
       | rw[aH (by omega)]
       | rw[aE (by omega),aH (by omega),show f+t.length=j by omega]
       | rw[aE (by omega),aE (by omega),show f+t.length=j by omega]
      simp only[CQ,aY,eG,eJ,d7,mR,fV,nX,aW,aU,aU]
def CP(o:Option (ByteArray×Nat)):AV:=match o with | some (b,e)=>.tup [.str b,.int .i64 (e:Int)] | none=>.tup [.str ⟨#[]⟩,.int .i64 (-1)]
theorem aWX(st:aB):aD prog 367 [] st (fun r st'=>r=.slice (jR.map .str)∧st'=st):=aD.done ((aAH st).mono (by rintro _ _ ⟨rfl,rfl⟩;exact⟨rfl,aL.refl _⟩))
abbrev DD:=zi tI_3 (zi zI_3 (zi aZ (zi tI_9 (zi zI_9 (zi cF (zi tI_147 (zi zI_147 (zi jO (zi nC (zi nE n8))))))))))
set_option maxHeartbeats 1000000 in
theorem RF(s:ByteArray)(hs:s.size≤1000)(a:Nat)(ha:a≤s.size)(st:aB):aD prog 390 [.str s,.int .i64 (a:Int)] st (fun r st'=>r=CP (pL (sb s) a)∧st'=st):=by
 refine wF [1000000] 2 func390 ntmps390 rfl rfl ?_
 intro _
 simp -implicitDefEqProofs only[aA,seval]
 refine iN (σ:=Nat) [1000000] [0,1,4,5] (fun j=>a≤j∧j - a≤(((sb s).drop a).takeWhile letter).length) (fun j=>[(6,.int .i64 (j:Int))]) (fun _=>st) (fun j=>s.size - j) (by decide +kernel) ⟨a,⟨by omega,by omega⟩,aN.mk (by simp -implicitDefEqProofs only[aA,seval])⟩ ?_
 rintro j ⟨hj1,hj⟩
 have hfi:j≤s.size:=by have:=J9 letter ((sb s).drop a);rw[lR,cQ] at this;omega
 simp -implicitDefEqProofs only[aA,seval]
 refine(aO3 s j _).to ?_
 have hw6:=bE (n:=(a:Int)+6)
 have IR:=bE (n:=(j:Int)+1)
 simp -implicitDefEqProofs only[aA,seval]
 refine aS (fun h5=>?_) (fun h5=>?_)
 · have hlt:=a3X h5
   rw[show j=a+(j - a) by omega,←E8] at h5
   simp -implicitDefEqProofs only[IR,aA,seval]
   exact⟨j+1,by rw[cQ] at hlt;omega,⟨by omega,by have:=XD hj h5;omega⟩,aN.mk (by simp -implicitDefEqProofs only[aA,seval]<;>rfl)⟩
 rw[show j=a+(j - a) by omega,←E8] at h5
 have he:=XC hj h5
 have hex:s.extract a j=ba (((sb s).drop a).takeWhile letter):=by rw[HC,he,aSY]
 have hsl:=fun(φ:AF) (y z:Operand) (h:φ.eval y=.int .i64 (a:Int)) (h':φ.eval z=.int .i64 (j:Int))=>JM (s:=s) h h' hj1 hfi
 rw[hex] at hsl
 simp -implicitDefEqProofs only[hw6,aA,seval]
 refine aS (fun h6=>?_) (fun h6=>?_)
 · simp only[bL] at h6
   simp -implicitDefEqProofs only[aA,seval]
   unfold pL
   rw[aH (by omega)]
   try rfl
 simp only[cP] at h6
 simp -implicitDefEqProofs only[aA,seval]
 refine aS (fun h7=>?_) (fun h7=>?_)
 · simp only[bL] at h7
   simp -implicitDefEqProofs only[hsl,aA,seval]
   unfold pL
   rw[aE (by omega),aH (by omega),←he,show a+(j - a)=j by omega]
   try rfl
 simp only[cP] at h7
 obtain rfl:j=a:=by omega
 have hrd:pL (sb s) j=if(jR.foldl (k7 ((sb s).drop j)) ⟨#[]⟩).size=0 then none else some (jR.foldl (k7 ((sb s).drop j)) ⟨#[]⟩,j+(jR.foldl (k7 ((sb s).drop j)) ⟨#[]⟩).size):=by
  unfold pL
  rw[aE (by omega),aE (by omega)]
 rw[hrd]
 clear hrd
 simp -implicitDefEqProofs only[aA,seval]
 refine(aWX _).to ?_
 simp -implicitDefEqProofs only[aA,seval]
 refine iN (σ:=Nat) [1000000] [0,1,4,5,8] (fun i=>i≤jR.length) (fun i=>[(7,.str ((jR.take i).foldl (k7 ((sb s).drop j)) ⟨#[]⟩)),(9,.int .i64 (i:Int))]) (fun _=>st) (fun i=>jR.length - i) (by decide +kernel) ⟨0,by omega,aN.mk (by simp -implicitDefEqProofs only[j9,List.foldl_nil,aA,↓aX,seval])⟩ ?_
 intro i hi
 have hbl:=aUY ((sb s).drop j) i
 simp -implicitDefEqProofs only[aF,aA,seval,DD]
 refine aS (fun h8=>?_) (fun h8=>?_)
 case refine_2=>
  simp only[cP] at h8
  rw[show i=jR.length by omega,eN] at hbl ⊢
  generalize jR.foldl (k7 ((sb s).drop j)) ⟨#[]⟩=g at *
  have hw7:=bE (n:=(j:Int)+(g.size:Int))
  simp -implicitDefEqProofs only[aA,seval]
  refine aS (fun h9=>?_) (fun h9=>?_)
  · simp only[bL] at h9
    subst h9
    simp -implicitDefEqProofs only[aA,seval]
    rfl
  · simp only[cP] at h9
    simp -implicitDefEqProofs only[hw7,aA,seval,DD]
    rw[aE fun h=>h9 (aUW h)]
    try rfl
 simp only[bL] at h8
 obtain⟨g,hg⟩:∃g,jR[i]?=some g:=⟨_,dZ (by omega)⟩
 have hat:=bO (av:=AV.str) jO hg rfl
 have hgl:=aQP g (cJ hg)
 have h15:jR.length=15:=rfl
 obtain⟨m,hm⟩:∃m,m=j+g.size:=⟨_,rfl⟩
 have hwn:=oS (x:=(j:Int)+(g.size:Int)) (m:=m) (by omega) (by omega)
 have hw1:=bE (n:=(i:Int)+1)
 have jH:(jR.take (i+1)).foldl (k7 ((sb s).drop j)) ⟨#[]⟩=k7 ((sb s).drop j) ((jR.take i).foldl (k7 ((sb s).drop j)) ⟨#[]⟩) g:=by
  rw[fS,hg,List.foldl_append];try rfl
 generalize hB:(jR.take i).foldl (k7 ((sb s).drop j)) ⟨#[]⟩=B at *
 simp -implicitDefEqProofs only[hat,aA,seval,DD]
 refine wP [(0,1),(1,1),(2,1),(3,1),(4,1),(5,1),(6,1),(7,1),(8,1),(9,1),(10,1),(11,1),(12,1),(13,1),(14,1),(15,1),(16,2),(17,1),(18,1),(19,1),(20,1),(21,1),(22,1),(23,1),(24,1)] [0,1,2,3,4,5,6,7,8,9,10,11,12,13,14,15,16,17,18,19,20,21,22,23,24] mixed ?_
 by_cases hle:m≤s.size
 · have hex:s.extract j m=ba (((sb s).drop j).take g.size):=by rw[HC,hm,Nat.add_sub_cancel_left]
   have hsl:=fun(φ:AF) (y z:Operand) (h:φ.eval y=.int .i64 (j:Int)) (h':φ.eval z=.int .i64 (m:Int))=>JM (s:=s) h h' (by omega) hle
   rw[hex] at hsl
   have II:((m:Int)≤(s.size:Int))=True:=dF (by omega)
   by_cases heq:ba (((sb s).drop j).take g.size)=g
   · by_cases hlt:B.size<g.size
     · have bQ:((B.size:Int)<(g.size:Int))=True:=dF (by omega)
       have hb:k7 ((sb s).drop j) B g=g:=by unfold k7;rw[aH ⟨jG sb heq,hlt⟩]
       simp -implicitDefEqProofs only[hat,hwn,hw1,II,hsl,heq,bQ,bX,aA,seval,DD]
       exact⟨i+1,by omega,by omega,aN.mk (by simp -implicitDefEqProofs only[jH,hb,aA,seval])⟩
     · have bQ:((B.size:Int)<(g.size:Int))=False:=cO (by omega)
       have hb:k7 ((sb s).drop j) B g=B:=by unfold k7;rw[aE fun h=>hlt h.2]
       simp -implicitDefEqProofs only[hat,hwn,hw1,II,hsl,heq,bQ,bX,b9,aA,seval,DD]
       exact⟨i+1,by omega,by omega,aN.mk (by simp -implicitDefEqProofs only[jH,hb,aA,seval])⟩
   · have hb:k7 ((sb s).drop j) B g=B:=by unfold k7;rw[aE fun h=>heq (by rw[h.1])]
     simp -implicitDefEqProofs only[hat,hwn,hw1,II,hsl,heq,bX,b9,aA,seval,DD]
     exact⟨i+1,by omega,by omega,aN.mk (by simp -implicitDefEqProofs only[jH,hb,aA,seval])⟩
 · have II:((m:Int)≤(s.size:Int))=False:=cO (by omega)
   have hb:k7 ((sb s).drop j) B g=B:=by
    unfold k7
    rw[aE]
    rintro⟨h,_⟩
    have:=jG List.length h
    rw[dQ,lR,cQ,cQ] at this
    omega
   simp -implicitDefEqProofs only[hwn,hw1,II,b9,aA,seval,DD]
   exact⟨i+1,by omega,by omega,aN.mk (by simp -implicitDefEqProofs only[jH,hb,aA,seval])⟩
def lY(a:Int):AV:=.tup [J4.av,.int .i64 (-1 - a)]
abbrev a8F:=zi tI_3 (zi zI_3 (zi aZ (zi tI_66 (zi zI_66 (zi bS (zi bT (zi bU (zi bV bR))))))))
theorem EB(a:Nat)(ha:a≤1048576)(st:aB):aD prog 387 [.int .i64 (a:Int)] st (fun r st'=>r=lY a∧st'=st):=by
 refine aD.done ?_
 refine wF [1000000] 1 func387 ntmps387 rfl rfl ?_
 intro _
 have hw:=bE (n:= -1 - (a:Int))
 simp -implicitDefEqProofs only[aG,hw,aA,seval,a8F]
 intro b hb
 exact⟨by simp only[lY,aY,eG,eJ,d7,mR,nX,aW,aU,aU],(aL.refl _).aC hb⟩
def U5(a:Nat)(o:Option (ByteArray×Nat)):AV:=match o with | some (b,e)=>.tup [.str b,.int .i64 (e:Int)] | none=>.tup [.str ⟨#[]⟩,.int .i64 (a:Int)]
abbrev F7:=zi tI_3 (zi zI_3 (zi aZ (zi tI_4 (zi zI_4 (zi cG (zi tI_5 (zi zI_5 (zi lO (zi tI_8 (zi zI_8 (zi zP (zi zQ (zi zR (zi zS (zi yZ (zi tI_9 (zi zI_9 cF)))))))))))))))))
set_option maxHeartbeats 1000000 in
theorem aW5(s:ByteArray)(hs:s.size≤1000)(a:Nat)(ha:a≤s.size)(st:aB):aD prog 369 [.str s,.int .i64 (a:Int)] st (fun r st'=>r=U5 a (rM (sb s) a)∧st'=st):=by
 refine wF [1000000] 2 func369 ntmps369 rfl rfl ?_
 intro _
 simp -implicitDefEqProofs only[aA,seval]
 refine(lM s a 32 _).to ?_
 obtain⟨f1,hf1⟩:∃f,f=a+1:=⟨_,rfl⟩
 have hw1:=oS (x:=(a:Int)+1) (m:=f1) (by omega) (by omega)
 simp -implicitDefEqProofs only[aA,seval]
 refine aS (fun h1=>?_) (fun h1=>?_)
 · have hf:=pE h1
   rw[cQ] at hf
   simp -implicitDefEqProofs only[hw1,aA,seval,F7]
   obtain⟨f,rfl⟩:∃f,f=f1:=⟨_,rfl⟩
   replace hf:f≤s.size:=by omega
   by_cases hlen:s.size≤f
   case pos=>
    have hrd:rM (sb s) a=none:=by
     unfold rM
     simp only[h1,↓reduceIte,←hf1]
     rw[aH (by rw[cQ];exact hlen)]
    rw[hrd]
    have dA:((s.size:Int)≤(f:Int))=True:=dF (by omega)
    simp -implicitDefEqProofs only[dA,bX,aA,seval]
    rfl
   have dA:((s.size:Int)≤(f:Int))=False:=cO (by omega)
   have hrd:rM (sb s) a=match pL (sb s) f with
    | none=>none
    | some (nm,e)=>if dU nm=0 then none else if jL nm≠decide (a<f)∨(jL nm=true∧cV (sb s) e 32=false) then none else some (nm,if jL nm then e+1 else e):=by
    unfold rM
    simp only[h1,↓reduceIte,←hf1]
    rw[aE (by rw[cQ];exact hlen)]
    try rfl
   rw[hrd]
   clear hrd
   have hfa:((a:Int)<(f:Int))=True:=dF (by omega)
   have hfn:(a<f)=True:=dF (by omega)
   simp -implicitDefEqProofs only[dA,b9,aA,seval]
   refine(RF s hs f (by omega) _).to ?_
   cases hn:pL (sb s) f with
   | none=>
    simp only[CP]
    simp -implicitDefEqProofs only[bX,aA,seval]
    rfl
   | some p=>
    obtain⟨nm,e⟩:=p
    have he:=JD (by rw[cQ];omega) hn
    rw[cQ] at he
    simp only[CP]
    have he0:((e:Int)<0)=False:=cO (by omega)
    simp -implicitDefEqProofs only[he0,b9,aA,seval]
    refine(xD nm _).to ?_
    by_cases hl0:dU nm=0
    case pos=>
     rw[aH hl0]
     have qD:((dU nm:Int)=0)=True:=dF (by omega)
     simp -implicitDefEqProofs only[qD,bX,aA,seval]
     rfl
    rw[aE hl0]
    have qD:((dU nm:Int)=0)=False:=cO (by omega)
    simp only[hfn,bX]
    have hw1:=bE (n:=(e:Int)+1)
    by_cases hi:nm=⟨#[105,115]⟩
    case' pos=>
     have hi':=dF hi
     have hm':(nm=⟨#[109,111,100]⟩)=False:=cO (by rw[hi];decide)
     have hW:jL nm=true:=by unfold jL;rw[g8 hi];try rfl
    case' neg=>
     have hi':=cO hi
     by_cases hm:nm=⟨#[109,111,100]⟩
     case' pos=>
      have hm':=dF hm
      have hW:jL nm=true:=by unfold jL;rw[g8 hm];exact A9 _
     case' neg=>
      have hm':=cO hm
      have hW:jL nm=false:=by unfold jL;rw[gG hm,gG hi];try rfl
    all_goals
     rw[hW]
     simp -implicitDefEqProofs only[qD,hfa,hi',hm',bX,b9,aA,seval,F7]
     first
      | (rw[aH (Or.inl trivial)];rfl)
      | (rw[aE fun h=>h.1];rfl)
      | skip
     try
      refine(lM s e 32 _).to ?_
      cases hb:cV (sb s) e 32 with
      | false=>
       simp -implicitDefEqProofs only[aA,seval]
       rfl
      | true=>
       simp -implicitDefEqProofs only[hw1,aA,seval]
       rfl
 · skip
   simp -implicitDefEqProofs only[aA,seval,F7]
   obtain⟨f,rfl⟩:∃f,f=a:=⟨_,rfl⟩
   have hf:=ha
   by_cases hlen:s.size≤f
   case pos=>
    have hrd:rM (sb s) f=none:=by
     unfold rM
     simp only[h1,↓reduceIte,jC]
     rw[aH (by rw[cQ];exact hlen)]
    rw[hrd]
    have dA:((s.size:Int)≤(f:Int))=True:=dF (by omega)
    simp -implicitDefEqProofs only[dA,bX,aA,seval]
    rfl
   have dA:((s.size:Int)≤(f:Int))=False:=cO (by omega)
   have hrd:rM (sb s) f=match pL (sb s) f with
    | none=>none
    | some (nm,e)=>if dU nm=0 then none else if jL nm≠decide (f<f)∨(jL nm=true∧cV (sb s) e 32=false) then none else some (nm,if jL nm then e+1 else e):=by
    unfold rM
    simp only[h1,↓reduceIte,jC]
    rw[aE (by rw[cQ];exact hlen)]
    try rfl
   rw[hrd]
   clear hrd
   have hfa:((f:Int)<(f:Int))=False:=cO (by omega)
   have hfn:(f<f)=False:=cO (by omega)
   simp -implicitDefEqProofs only[dA,b9,aA,seval]
   refine(RF s hs f (by omega) _).to ?_
   cases hn:pL (sb s) f with
   | none=>
    simp only[CP]
    simp -implicitDefEqProofs only[bX,aA,seval]
    rfl
   | some p=>
    obtain⟨nm,e⟩:=p
    have he:=JD (by rw[cQ];omega) hn
    rw[cQ] at he
    simp only[CP]
    have he0:((e:Int)<0)=False:=cO (by omega)
    simp -implicitDefEqProofs only[he0,b9,aA,seval]
    refine(xD nm _).to ?_
    by_cases hl0:dU nm=0
    case pos=>
     rw[aH hl0]
     have qD:((dU nm:Int)=0)=True:=dF (by omega)
     simp -implicitDefEqProofs only[qD,bX,aA,seval]
     rfl
    rw[aE hl0]
    have qD:((dU nm:Int)=0)=False:=cO (by omega)
    simp only[hfn,b9]
    have hw1:=bE (n:=(e:Int)+1)
    by_cases hi:nm=⟨#[105,115]⟩
    case' pos=>
     have hi':=dF hi
     have hm':(nm=⟨#[109,111,100]⟩)=False:=cO (by rw[hi];decide)
     have hW:jL nm=true:=by unfold jL;rw[g8 hi];try rfl
    case' neg=>
     have hi':=cO hi
     by_cases hm:nm=⟨#[109,111,100]⟩
     case' pos=>
      have hm':=dF hm
      have hW:jL nm=true:=by unfold jL;rw[g8 hm];exact A9 _
     case' neg=>
      have hm':=cO hm
      have hW:jL nm=false:=by unfold jL;rw[gG hm,gG hi];try rfl
    all_goals
     rw[hW]
     simp -implicitDefEqProofs only[qD,hfa,hi',hm',bX,b9,aA,seval,F7]
     first
      | (rw[aH (Or.inl trivial)];rfl)
      | (rw[aE fun h=>h.1];rfl)
      | skip
     try
      refine(lM s e 32 _).to ?_
      cases hb:cV (sb s) e 32 with
      | false=>
       simp -implicitDefEqProofs only[qD,hfa,hi',hm',hw1,bX,b9,aA,↓aX,seval,F7]
       rfl
      | true=>
       simp -implicitDefEqProofs only[qD,hfa,hi',hm',hw1,bX,b9,aA,↓aX,seval,F7]
       rfl
theorem aYZ{ts:List Tm}{i:Nat}{x t:Tm}(hx:ts[i]?=some x):xE (ts.drop i) t=pH ⟨#[46]⟩ [x,xE (ts.drop (i+1)) t]:=by
 obtain⟨h1,h2⟩:=fR.1 hx
 rw[pQ h1,h2]
 try rfl
abbrev OU:=zi tI_3 (zi zI_3 (zi aZ (zi tI_9 (zi zI_9 (zi cF (zi tI_31 (zi zI_31 (zi aO (zi bH (zi bJ (zi bZ (zi tI_46 (zi zI_46 (zi dK (zi fM (zi fJ (zi fX (zi tI_66 (zi zI_66 (zi bS (zi bT (zi bU (zi bV bR)))))))))))))))))))))))
set_option maxHeartbeats 1000000 in
theorem aAB(ts:List Tm)(tl:Tm)(hl:ts.length≤1048576)(st:aB):aD prog 404 [.slice (ts.map Tm.av),tl.av] st (fun r st'=>r=(xE ts tl).av∧st'=st):=by
 refine aD.done ?_
 refine wF [1000000,5] 2 func404 ntmps404 rfl rfl ?_
 intro _
 have hw0:=bE (n:=(ts.length:Int) - 1)
 simp -implicitDefEqProofs only[aG,a7,aK,cB,cM,bY,aF,hw0,aA,↓aX,seval,OU]
 intro b hb b5 hb5
 have hbb:b5≠b:=fun h=>by rw[h,aB.aP] at hb5;cases hb5
 refine iN (σ:=Nat) [1000000] [0,4,5] (fun i=>i≤ts.length) (fun i=>[(6,.int .i64 ((i:Int) - 1))]) (fun i=>(st.aC b (.cells [.int .i64 0,.int .i64 0,.str ⟨#[]⟩,.fslice []])).aC b5 (.cells (xE (ts.drop i) tl).av.cells)) (fun i=>i) (by decide +kernel) ⟨ts.length,by omega,by rw[j8];exact aN.mk (by simp -implicitDefEqProofs only[aA,seval])⟩ ?_
 intro i hi
 simp -implicitDefEqProofs only[aA,seval]
 refine aS (fun h1=>?_) (fun h1=>?_)
 · simp only[bL] at h1
   obtain⟨k,rfl⟩:∃k,i=k+1:=⟨i - 1,by omega⟩
   obtain⟨x,hx⟩:∃x,ts[k]?=some x:=⟨_,dZ (by omega)⟩
   have hk:((k+1:Nat):Int) - 1=(k:Int):=by omega
   have hw:=bE (n:=(k:Int) - 1)
   have hst:=aYZ (t:=tl) hx
   have hat:=bO (av:=Tm.av) aO hx (aK x)
   rw[hk]
   generalize xE (ts.drop (k+1)) tl=y at *
   have hax:=bY x
   have hay:=bY y
   simp -implicitDefEqProofs only[aA,seval]
   refine wP [(0,1),(1,1),(2,1),(3,2),(4,2),(5,1),(6,2),(7,0)] [0,1,2,3,4,5,6] mixed ?_
   simp -implicitDefEqProofs only[a7,aK,cM,bY,fB (bY _),eX (a7 _),hat,aA,seval,OU]
   refine iE (tX ⟨#[46]⟩ [x,y] (by simp) _) ?_
   simp -implicitDefEqProofs only[aG,cB,bY,hw,aA,seval,OU]
   refine⟨k,by omega,by omega,?_⟩
   rw[hst]
   exact aN.mk (by simp -implicitDefEqProofs only[aA,seval])
 · simp only[cP] at h1
   obtain rfl:i=0:=by omega
   rw[rV]
   simp -implicitDefEqProofs only[aG,cB,bY,fB (bY _),eX (a7 _),hbb.symm,aA,↓aX,seval,OU]
   exact⟨Tm.soft _,(((aL.refl _).aC hb).aC (by rwa [aB.aJ _ _ hbb] at hb5)).aC hb⟩
def mX(o:Option (Tm×Nat))(r:AV):Prop:=match o with | some (t,e)=>r=.tup [t.av,.int .i64 (e:Int)] | none=>∃k:Nat,k≤1048576∧r=lY k
def wW(o:Option (List Tm×Nat))(r:AV):Prop:=match o with | some (ts,e)=>r=.tup [.slice (ts.map Tm.av),.int .i64 (e:Int)] | none=>∃k:Nat,k≤1048576∧r=.tup [.slice [],.int .i64 (-1 - (k:Int))]
abbrev QA (s:ByteArray) (R:lU) (d lv lo:Nat):Prop:=∀(a:Nat) (st:aB),lo≤a→a≤s.size→aD prog 322 [.str s,.int .i64 (a:Int),.int .i64 (d:Int),.int .i64 (lv:Int)] st (fun r st'=>mX (R a) r∧st'=st)
abbrev WY:=zi tI_3 (zi zI_3 (zi aZ (zi tI_4 (zi zI_4 (zi cG (zi tI_5 (zi zI_5 (zi lO (zi tI_8 (zi zI_8 (zi zP (zi zQ (zi zR (zi zS (zi yZ (zi tI_9 (zi zI_9 (zi cF (zi tI_31 (zi zI_31 (zi aO (zi bH (zi bJ (zi bZ (zi tI_44 (zi zI_44 (zi aCA (zi aB8 (zi aCC (zi aSZ (zi tI_66 (zi zI_66 (zi bS (zi bT (zi bU (zi bV bR))))))))))))))))))))))))))))))))))))
set_option maxHeartbeats 1000000 in
theorem aAO{s:ByteArray}{R:lU}{d lo c1 c2:Nat}(hR:QA s R d 3 lo)(hok:yU R (sb s))(hs:s.size≤1000)(a:Nat)(ha:lo≤a)(ha':a≤s.size)(st:aB) :
 aD prog 391 [.str s,.int .i64 (a:Int),.int .i64 (d:Int),.int .u8 (c1:Int),.int .u8 (c2:Int)] st (fun r st'=>wW (tA R (sb s) c1 c2 ((sb s).length+1) a []) r∧st'=st):=by
 generalize hT:tA R (sb s) c1 c2 ((sb s).length+1) a []=T
 rw[cQ] at hT
 refine aD.drop (Q:=wW T) (aD.fin ?_)
 refine wF [1000000] 5 func391 ntmps391 rfl rfl ?_
 intro _
 simp -implicitDefEqProofs only[aA,seval,WY]
 refine iN (σ:=Nat×List Tm×Nat×Nat) [1000000] [0,2,3,4] (fun x=>tA R (sb s) c1 c2 x.2.2.1 x.1 x.2.1=T∧lo≤x.1∧x.1≤s.size∧s.size<x.2.2.1+x.1∧x.2.1.length+x.2.2.1≤1001∧(x.2.1.map Tm.av≠[]→st x.2.2.2=none)) (fun x=>[(1,.int .i64 (x.1:Int)),(10,.fslice []),(11,.int .i64 0),(12,bM 4 x.2.2.2 (x.2.1.map Tm.av))]) (fun x=>a8 st x.2.2.2 (x.2.1.map Tm.av)) (fun x=>x.2.2.1) (by decide +kernel) ⟨(a,[],s.size+1,0),⟨hT,ha,ha',by simp only;omega,by simp only[bA];omega,by simp⟩,aN.mk (by simp -implicitDefEqProofs only[aU,kB,aA,seval])⟩ ?_
 rintro⟨i,acc,m,b⟩ ⟨ht,hlo,hi,hm,hlen,hb⟩
 simp only at ht hlo hi hm hlen hb ⊢
 obtain⟨m,rfl⟩:∃m',m=m'+1:=⟨m - 1,by omega⟩
 simp only[tA] at ht
 simp -implicitDefEqProofs only[aA,seval]
 refine(hR i _ hlo hi).mono ?_
 rintro r _ ⟨hr,rfl⟩
 have fin:∀(l:List Tm) (b':Nat) (r':AV),(l.map Tm.av≠[]→st b'=none)→wW T (r'.fin b' (l.map Tm.av))→∃b2 l2 s0,a8 st b' (l.map Tm.av)=a8 s0 b2 l2∧(l2≠[]→s0 b2=none)∧(∀e∈l2,e.cH=false)∧iR l2∧aL s0 st∧wW T (r'.fin b2 l2):=fun l b' r' h1 h2=>⟨b',_,st,rfl,h1,jJ _,⟨4,eD _⟩,aL.refl _,h2⟩
 have hTn:T=none→∀k:Nat,k≤1048576→∀(b':Nat) (l:List AV),wW T ((AV.tup [.fslice [],.int .i64 (-1 - (k:Int))]).fin b' l):=by
  rintro rfl k hk b' l
  exact⟨k,hk,by simp only[kS,eT,o7,aW,aU]⟩
 cases hRi:R i with
 | none=>
  rw[hRi] at ht hr
  obtain⟨k,hk,rfl⟩:=hr
  have hk0:((-1 - (k:Int))<0)=True:=dF (by omega)
  simp -implicitDefEqProofs only[aK,cB,cM,hk0,lY,bX,aA,↓aX,seval,WY]
  exact fin _ _ _ hb (hTn ht.symm k hk _ _)
 | some p=>
  obtain⟨t,e⟩:=p
  rw[hRi] at ht hr
  simp only at ht
  obtain⟨g1,g2,g3⟩:=hok i t e (by rw[cQ];exact hi) hRi
  rw[cQ] at g2
  simp only[mX] at hr
  subst hr
  have he0:((e:Int)<0)=False:=cO (by omega)
  simp -implicitDefEqProofs only[a7,aK,cB,cM,he0,oU,rQ,b9,aA,↓aX,seval,WY]
  refine fG aO bH bJ rfl rfl (gA (aK _) (cB _)) (eD _) hb (by simp only[aF,aQ,bA];omega) (by simp only[aF,aQ,bA];omega) (fun b' hb'=>?_)
  rw[show acc.map Tm.av++ [t.av]=(acc++ [t]).map Tm.av by simp] at hb' ⊢
  simp -implicitDefEqProofs only[aA,seval]
  have v8:T=some (acc++ [t],e)→wW T ((AV.tup [bM 4 b' ((acc++ [t]).map Tm.av),.int .i64 (e:Int)]).fin b' ((acc++ [t]).map Tm.av)):=by
   rintro rfl
   simp only[wW,kS,eT,mI,aW,aU]
  have hw1:=bE (n:=(e:Int)+1)
  have hw2:=bE (n:= -1 - (e:Int))
  refine(lM s e c1 _).to ?_
  cases h1:cV (sb s) e c1 with
  | true=>
   rw[h1,yN,aH rfl] at ht
   simp -implicitDefEqProofs only[vD,oU,rQ,aA,seval]
   exact fin _ _ _ hb' (v8 ht.symm)
  | false=>
  simp -implicitDefEqProofs only[aA,seval]
  refine(lM s e c2 _).to ?_
  cases h2:cV (sb s) e c2 with
  | true=>
   rw[h2,A9,aH rfl] at ht
   simp -implicitDefEqProofs only[vD,oU,rQ,aA,seval]
   exact fin _ _ _ hb' (v8 ht.symm)
  | false=>
  rw[h1,h2,GE,aE (by decide)] at ht
  simp -implicitDefEqProofs only[aA,seval]
  refine(lM s e 44 _).to ?_
  cases h3:cV (sb s) e 44 with
  | true=>
   have h4:=pE h3
   rw[cQ] at h4
   rw[h3,aH rfl] at ht
   simp -implicitDefEqProofs only[hw1,aA,seval]
   refine⟨(e+1,acc++ [t],m,b'),by simp only;omega,⟨ht,by simp only;omega,by simp only;omega,by simp only;omega,by simp only[dL,aQ,bA];omega,hb'⟩,aN.mk (by simp -implicitDefEqProofs only[aA,seval]<;>rfl)⟩
  | false=>
   rw[h3,aE (by decide)] at ht
   simp -implicitDefEqProofs only[hw2,aA,seval]
   exact fin _ _ _ hb' (hTn ht.symm e (by omega) _ _)
theorem aD.HN{P:Program}{g:FuncId}{args:List AV}{st:aB}{Q:AV→Prop}(x:aD P g args st (fun r' st'=>Q r'.soft∧aL st' st)):aD P g args st (fun r' st'=>Q r'∧st'=st):=
 aD.drop (aD.soft (x.mono fun _ _ h=>⟨h.2,h.1⟩))
theorem FR{k:Nat}(hk:k≤1048576):mX none (AV.tup [.agg [.int .i64 0,.int .i64 0,.str ⟨#[]⟩,.fslice []],.int .i64 (-1 - (k:Int))]).soft:=
 ⟨k,hk,by simp only[lY,aY,eG,eJ,d7,mR,nX,aW,aU]⟩
theorem sU{t:Tm}{e:Nat}{x:Int}(h:x=(e:Int)):mX (some (t,e)) (AV.tup [t.av,.int .i64 x]).soft:=by
 subst h
 simp only[mX,eJ,d7,Tm.soft,aW,aU]
theorem AH{k:Nat}(hk:k≤1048576):mX none (AV.tup [J4.av,.int .i64 (-1 - (k:Int))]).soft:=
 ⟨k,hk,by simp only[lY,eJ,d7,Tm.soft,aW,aU]⟩
abbrev A0:=zi tI_3 (zi zI_3 (zi aZ (zi tI_4 (zi zI_4 (zi cG (zi tI_5 (zi zI_5 (zi lO (zi tI_8 (zi zI_8 (zi zP (zi zQ (zi zR (zi zS (zi yZ (zi tI_9 (zi zI_9 (zi cF (zi tI_31 (zi zI_31 (zi aO (zi bH (zi bJ (zi bZ (zi tI_66 (zi zI_66 (zi bS (zi bT (zi bU (zi bV (zi bR (zi tI_91 (zi zI_91 (zi a0E (zi a0F aUU)))))))))))))))))))))))))))))))))))
set_option maxHeartbeats 1000000 in
theorem aW2{s:ByteArray}{R:lU}{d lo:Nat}(hR:QA s R d 3 lo)(hok:yU R (sb s))(hs:s.size≤1000)(a:Nat)(ha:lo≤a)(ha':a≤s.size)(st:aB) :
 aD prog 388 [.str s,.int .i64 (a:Int),.int .i64 (d:Int)] st (fun r st'=>mX (CJ R (sb s) a) r∧st'=st):=by
 refine aD.HN ?_
 refine wF [1000000] 3 func388 ntmps388 rfl rfl ?_
 intro _
 simp -implicitDefEqProofs only[aA,seval,A0]
 intro b hb
 unfold CJ
 refine(aAO hR hok hs a ha ha' _ (c1:=93) (c2:=124)).mono ?_
 rintro r _ ⟨hr,rfl⟩
 have hD:=fun(o:AO)=>(aL.refl st).aC (o:=o) hb
 cases hT:tA R (sb s) 93 124 ((sb s).length+1) a [] with
 | none=>
  rw[hT] at hr
  obtain⟨k,hk,rfl⟩:=hr
  have hk0:((-1 - (k:Int))<0)=True:=dF (by omega)
  simp -implicitDefEqProofs only[aG,hk0,bX,aA,seval,A0]
  exact⟨FR hk,hD _⟩
 | some p=>
  obtain⟨ts,e⟩:=p
  rw[hT] at hr
  simp only[wW] at hr
  subst hr
  obtain⟨g1,g2,g3,g4,g5⟩:=O7 hok _ _ _ _ _ (by rw[cQ];exact ha') (by simp) hT
  rw[cQ] at g2 g4
  rw[bA] at g4
  have he0:((e:Int)<0)=False:=cO (by omega)
  obtain⟨f,hf⟩:∃f,f=e+1:=⟨_,rfl⟩
  have hw:=oS (x:=(e:Int)+1) (m:=f) (by omega) (by omega)
  simp -implicitDefEqProofs only[he0,b9,aA,seval]
  refine(lM s e 93 _).to ?_
  cases h1:cV (sb s) e 93 with
  | true=>
   simp -implicitDefEqProofs only[aA,seval]
   refine(tX ⟨#[91,93]⟩ [] (by simp) _).to ?_
   simp -implicitDefEqProofs only[aA,seval]
   refine(aAB ts (pH ⟨#[91,93]⟩ []) (by omega) _).to ?_
   simp -implicitDefEqProofs only[aG,cB,cM,bY,fB (bY _),eX (a7 _),hw,aA,seval,A0]
   exact⟨sU (by omega),hD _⟩
  | false=>
   simp -implicitDefEqProofs only[hw,aA,seval]
   refine(hR f _ (by omega) (by omega)).mono ?_
   rintro r _ ⟨hr,rfl⟩
   rw[←hf]
   cases hRi:R f with
   | none=>
    rw[hRi] at hr
    obtain⟨k,hk,rfl⟩:=hr
    have hk0:((-1 - (k:Int))<0)=True:=dF (by omega)
    simp -implicitDefEqProofs only[aG,aK,cB,cM,hk0,lY,bX,aA,↓aX,seval,A0]
    exact⟨FR hk,hD _⟩
   | some p=>
    obtain⟨t,e2⟩:=p
    rw[hRi] at hr
    simp only[mX] at hr
    subst hr
    obtain⟨k1,k2,k3⟩:=hok f t e2 (by rw[cQ];omega) hRi
    rw[cQ] at k2
    have he2:((e2:Int)<0)=False:=cO (by omega)
    have hw2:=bE (n:=(e2:Int)+1)
    simp -implicitDefEqProofs only[aK,cB,cM,he2,b9,aA,↓aX,seval,A0]
    refine(lM s e2 93 _).to ?_
    cases h2:cV (sb s) e2 93 with
    | true=>
     simp -implicitDefEqProofs only[a7,aK,aA,seval,A0]
     refine(aAB ts t (by omega) _).to ?_
     simp -implicitDefEqProofs only[aG,cB,cM,bY,fB (bY _),eX (a7 _),hw2,aA,seval,A0]
     exact⟨sU rfl,hD _⟩
    | false=>
     simp -implicitDefEqProofs only[aA,seval]
     refine(EB e2 (by omega) _).to ?_
     simp -implicitDefEqProofs only[aG,cB,cM,bY,fB (bY _),eX (a7 _),lY,aA,seval,A0]
     exact⟨AH (by omega),hD _⟩
theorem a5P{R:Nat→lU}{l:List UInt8}{d a:Nat}(h:d<1∨l.length≤a):nV R l d a=none:=by unfold nV;rw[aH h]
theorem a5Q{R:Nat→lU}{l:List UInt8}{d a:Nat}(h:¬(d<1∨l.length≤a))(h1:cV l a 40=true):nV R l d a=match R d (a+1) with
 | none=>none
 | some (t,e)=>if cV l e 41 then some (t,e+1) else none:=by unfold nV;rw[aE h,aH h1];try rfl
theorem a5M{R:Nat→lU}{l:List UInt8}{d a:Nat}(h:¬(d<1∨l.length≤a))(h1:cV l a 40=false)(h2:cV l a 91=true)(h3:cV l (a+1) 93=false):nV R l d a=CJ (R (d - 1)) l (a+1):=by
 unfold nV;rw[aE h,aE (by simp [h1]),aH (by simp [h2,h3])]
theorem a5R{R:Nat→lU}{l:List UInt8}{d a:Nat}(h:¬(d<1∨l.length≤a))(h1:cV l a 40=false)(h2:(cV l a 91&& !cV l (a+1) 93)=false)(h3:gR l a uW=true):nV R l d a=some (vr ((LQ l a - 65:Nat):Int),a+1):=by
 unfold nV;rw[aE h,aE (by simp [h1]),aE (by simp [h2]),aH h3]
theorem a5O{R:Nat→lU}{l:List UInt8}{d a:Nat}(h:¬(d<1∨l.length≤a))(h1:cV l a 40=false)(h2:(cV l a 91&& !cV l (a+1) 93)=false)(h3:gR l a uW=false)(h4:(gR l a dY||(cV l a 45&&gR l (a+1) dY))=true):nV R l d a=match wC l a with
 | none=>none
 | some (n,e)=>some (.mk 2 n ⟨#[]⟩ [],e):=by
 unfold nV;rw[aE h,aE (by simp [h1]),aE (by simp [h2]),aE (by simp [h3]),aH h4];try rfl
theorem a5N{R:Nat→lU}{l:List UInt8}{d a:Nat}(h:¬(d<1∨l.length≤a))(h1:cV l a 40=false)(h2:(cV l a 91&& !cV l (a+1) 93)=false)(h3:gR l a uW=false)(h4:(gR l a dY||(cV l a 45&&gR l (a+1) dY))=false):nV R l d a=match pL l a with
 | none=>none
 | some (nm,e)=>if cV l e 40=false then some (pH nm [],e) else match tA (R (d - 1)) l 41 41 (l.length+1) (e+1) [] with
  | none=>none
  | some (ts,e')=>some (pH nm ts,e'+1):=by
 unfold nV;rw[aE h,aE (by simp [h1]),aE (by simp [h2]),aE (by simp [h3]),aE (by simp [h4])];try rfl
abbrev lC:=zi tI_3 (zi zI_3 (zi aZ (zi tI_4 (zi zI_4 (zi cG (zi tI_5 (zi zI_5 (zi lO (zi tI_8 (zi zI_8 (zi zP (zi zQ (zi zR (zi zS (zi yZ (zi tI_9 (zi zI_9 (zi cF (zi tI_31 (zi zI_31 (zi aO (zi bH (zi bJ (zi bZ (zi tI_40 (zi zI_40 (zi qZ (zi xI (zi xK (zi wN (zi tI_66 (zi zI_66 (zi bS (zi bT (zi bU (zi bV bR))))))))))))))))))))))))))))))))))))
set_option maxHeartbeats 2000000 in
theorem aW7{s:ByteArray}{R:Nat→lU}{a:Nat}(hR:∀d,d≤1048576→QA s (R d) d 3 (a+1))(hok:∀d,yU (R d) (sb s))(hs:s.size≤1000)(ha:a≤s.size)(d:Nat)(hd:d≤1048576)(st:aB) :
 aD prog 368 [.str s,.int .i64 (a:Int),.int .i64 (d:Int)] st (fun r st'=>mX (nV R (sb s) d a) r∧st'=st):=by
 refine aD.HN ?_
 refine wF [1000000] 3 func368 ntmps368 rfl rfl ?_
 intro _
 generalize hP:nV R (sb s) d a=o
 simp -implicitDefEqProofs only[aA,seval,lC]
 intro b hb
 have hD:=fun(o:AO)=>(aL.refl st).aC (o:=o) hb
 by_cases h0:d<1∨s.size≤a
 case pos=>
  rw[a5P (by rw[cQ];exact h0)] at hP
  subst hP
  by_cases h01:d<1
  case pos=>
   have xQ:((d:Int)<1)=True:=dF (by omega)
   simp -implicitDefEqProofs only[xQ,bX,aA,seval]
   refine(EB a (by omega) _).to ?_
   simp -implicitDefEqProofs only[aG,cB,cM,bY,fB (bY _),eX (a7 _),lY,aA,seval,lC]
   exact⟨AH (by omega),hD _⟩
  case neg=>
   have xQ:((d:Int)<1)=False:=cO (by omega)
   have B8:((s.size:Int)≤(a:Int))=True:=dF (by omega)
   simp -implicitDefEqProofs only[xQ,B8,bX,b9,aA,seval,lC]
   refine(EB a (by omega) _).to ?_
   simp -implicitDefEqProofs only[aG,cB,cM,bY,fB (bY _),eX (a7 _),lY,aA,seval,lC]
   exact⟨AH (by omega),hD _⟩
 have h0':¬(d<1∨(sb s).length≤a):=by rw[cQ];exact h0
 have xQ:((d:Int)<1)=False:=cO (by omega)
 have B8:((s.size:Int)≤(a:Int))=False:=cO (by omega)
 obtain⟨x,hx⟩:=xC (s:=s) (n:=a) (by omega)
 have hix:=uK (P:=prog) (t:=9) cF hx
 obtain⟨f,hf⟩:∃f,f=a+1:=⟨_,rfl⟩
 have hw:=oS (x:=(a:Int)+1) (m:=f) (by omega) (by omega)
 obtain⟨d1,hd1⟩:∃d1,d1=d - 1:=⟨_,rfl⟩
 have hwd:=oS (x:=(d:Int) - 1) (m:=d1) (by omega) (by omega)
 by_cases h40:x.toNat=40
 case pos=>
  rw[a5Q h0' (by rw[uL hx,h40];try rfl),←hf] at hP
  have EW:((x.toNat:Int)=40)=True:=dF (by omega)
  simp -implicitDefEqProofs only[xQ,B8,hix,EW,hw,bX,b9,aA,seval,lC]
  refine(hR d hd f _ (by omega) (by omega)).mono ?_
  rintro r _ ⟨hr,rfl⟩
  cases hRi:R d f with
  | none=>
   rw[hRi] at hr hP
   subst hP
   obtain⟨k,hk,rfl⟩:=hr
   have hk0:((-1 - (k:Int))<0)=True:=dF (by omega)
   simp -implicitDefEqProofs only[aG,aK,cB,cM,hk0,lY,bX,aA,↓aX,seval,lC]
   exact⟨FR hk,hD _⟩
  | some p=>
   obtain⟨t,e2⟩:=p
   rw[hRi] at hr hP
   simp only[mX] at hr
   subst hr
   obtain⟨k1,k2,k3⟩:=hok d f t e2 (by rw[cQ];omega) hRi
   rw[cQ] at k2
   have he2:((e2:Int)<0)=False:=cO (by omega)
   have hw2:=bE (n:=(e2:Int)+1)
   simp -implicitDefEqProofs only[aK,cB,cM,he2,b9,aA,↓aX,seval,lC]
   refine(lM s e2 41 _).to ?_
   cases h2:cV (sb s) e2 41 with
   | true=>
    simp only[h2,↓reduceIte] at hP
    subst hP
    simp -implicitDefEqProofs only[aG,a7,aK,cB,cM,bY,fB (bY _),eX (a7 _),hw2,aA,seval,lC]
    exact⟨sU rfl,hD _⟩
   | false=>
    simp only[h2,↓reduceIte,jC] at hP
    subst hP
    simp -implicitDefEqProofs only[aA,seval]
    refine(EB e2 (by omega) _).to ?_
    simp -implicitDefEqProofs only[aG,cB,cM,bY,fB (bY _),eX (a7 _),lY,aA,seval,lC]
    exact⟨AH (by omega),hD _⟩
 have g40:cV (sb s) a 40=false:=by rw[uL hx];exact gG h40
 have EW:((x.toNat:Int)=40)=False:=cO (by omega)
 -- a list
 by_cases hL:x.toNat=91∧cV (sb s) f 93=false
 case pos=>
  obtain⟨h91,h93⟩:=hL
  rw[a5M h0' g40 (by rw[uL hx,h91];try rfl) (by rw[←hf];exact h93),←hf,←hd1] at hP
  subst hP
  have uD:((x.toNat:Int)=91)=True:=dF (by omega)
  simp -implicitDefEqProofs only[xQ,B8,hix,EW,uD,hw,bX,b9,aA,seval,lC]
  refine(lM s f 93 _).to ?_
  rw[h93]
  simp -implicitDefEqProofs only[hw,hwd,aA,seval]
  refine(aW2 (hR d1 (by omega)) (hok d1) hs f (by omega) (by omega) _).mono ?_
  rintro r _ ⟨hr,rfl⟩
  cases hI:CJ (R d1) (sb s) f with
  | none=>
   rw[hI] at hr
   obtain⟨k,hk,rfl⟩:=hr
   simp -implicitDefEqProofs only[aG,cB,cM,bY,fB (bY _),eX (a7 _),lY,aA,seval,lC]
   exact⟨AH hk,hD _⟩
  | some p=>
   obtain⟨t,e2⟩:=p
   rw[hI] at hr
   simp only[mX] at hr
   subst hr
   simp -implicitDefEqProofs only[aG,cB,cM,bY,fB (bY _),eX (a7 _),aA,seval,lC]
   exact⟨sU rfl,hD _⟩
 have gL:(cV (sb s) a 91&& !cV (sb s) (a+1) 93)=false:=by
  rw[←hf,uL hx]
  rcases Nat.decEq x.toNat 91 with h | h
  · rw[gG h,iF]
  · rw[g8 h,fP]
    cases h93:cV (sb s) f 93 with
    | true=>rfl
    | false=>exact absurd ⟨h,h93⟩ hL
 by_cases hU:uW x=true
 case pos=>
  have hP':=a5R (R:=R) h0' g40 gL (by rw[xZ hx];exact hU)
  rw[hP'] at hP
  subst hP
  have hbn:LQ (sb s) a=x.toNat:=by unfold LQ;rw[hx]
  simp only[uW,cK,bL] at hU
  have uD:((x.toNat:Int)=91)=False:=cO (by omega)
  have h65:((65:Int)≤(x.toNat:Int))=True:=dF (by omega)
  have h90:((x.toNat:Int)≤90)=True:=dF (by omega)
  obtain⟨y,hy⟩:∃y,y=x.toNat - 65:=⟨_,rfl⟩
  have hw2:IntKind.wrap .u8 ((x.toNat:Int) - 65)=(y:Int):=by rw[IntKind.wrap_u8];omega
  have hw3:=bE (n:=(y:Int))
  simp -implicitDefEqProofs only[xQ,B8,hix,EW,uD,h65,h90,hw2,hw3,tP,bX,b9,aA,seval,lC]
  refine(LV (y:Int) _).to ?_
  simp -implicitDefEqProofs only[aG,cB,cM,bY,fB (bY _),eX (a7 _),hw,aA,seval,lC]
  rw[hbn,←hy,←hf]
  exact⟨sU rfl,hD _⟩
 have gU:gR (sb s) a uW=false:=by rw[xZ hx];simpa using hU
 cases hdg:(gR (sb s) a dY||(cV (sb s) a 45&&gR (sb s) (a+1) dY)) with
 | true=>
  have hP':=a5O (R:=R) h0' g40 gL gU hdg
  rw[hP'] at hP
  by_cases hdx:dY x=true
  case' pos=>have EX:=hdx
  case' neg=>
   have hdx:dY x=false:=by simpa using hdx
   rw[xZ hx,hdx,rT,cK,uL hx,bL] at hdg
   have EX:((x.toNat:Int)=45)=True:=dF (by omega)
  all_goals
   by_cases h91:x.toNat=91
   case' pos=>
    have uD:((x.toNat:Int)=91)=True:=dF (by omega)
    have h93:cV (sb s) f 93=true:=by rw[uL hx,g8 h91,fP,←hf] at gL;simpa using gL
   case' neg=>
    have uD:((x.toNat:Int)=91)=False:=cO (by omega)
    have h93:=uD
   all_goals
    by_cases h65:65≤x.toNat
    case' pos=>
     have xR:((65:Int)≤(x.toNat:Int))=True:=dF (by omega)
     have B9:((x.toNat:Int)≤90)=False:=cO (by intro h;exact hU (by simp only[uW,cK,bL];omega))
    case' neg=>
     have xR:((65:Int)≤(x.toNat:Int))=False:=cO (by omega)
     have B9:=xR
   all_goals
    simp -implicitDefEqProofs only[xQ,B8,hix,EW,uD,xR,B9,hw,bX,b9,aA,seval,lC]
    try
     refine(lM s f 93 _).to ?_
     rw[h93]
     simp -implicitDefEqProofs only[hix,xR,B9,bX,b9,aA,seval]
    refine(CO s a _).to ?_
    rw[xZ hx]
   all_goals
    simp -implicitDefEqProofs only[hix,hdx,EX,hw,bX,aA,seval]
    try
     refine(CO s f _).to ?_
     rw[hf,hdg.2]
     simp -implicitDefEqProofs only[aA,seval]
    refine(aWT s hs a ha _).to ?_
    cases hn:wC (sb s) a with
    | none=>
     rw[hn] at hP
     subst hP
     simp -implicitDefEqProofs only[aK,cB,cM,CQ,bX,aA,↓aX,seval,lC]
     refine(EB a (by omega) _).to ?_
     simp -implicitDefEqProofs only[aG,cB,cM,bY,fB (bY _),eX (a7 _),lY,aA,seval,lC]
     exact⟨AH (by omega),hD _⟩
    | some p=>
     obtain⟨n,e⟩:=p
     rw[hn] at hP
     subst hP
     have he0:((e:Int)<0)=False:=cO (by omega)
     simp -implicitDefEqProofs only[aG,a7,aK,cB,cM,bY,fB (bY _),eX (a7 _),CQ,he0,b9,aA,↓aX,seval,lC]
     exact⟨sU rfl,hD _⟩
 | false=>
  have hP':=a5N (R:=R) h0' g40 gL gU hdg
  rw[hP',←hd1] at hP
  rw[xZ hx,Bool.or_eq_false_iff,uL hx,←hf] at hdg
  have hdx:=hdg.1
  by_cases h45:x.toNat=45
  case' pos=>
   have EX:((x.toNat:Int)=45)=True:=dF (by omega)
   have hfd:gR (sb s) f dY=false:=by have:=hdg.2;rwa [g8 h45,fP] at this
  case' neg=>
   have EX:((x.toNat:Int)=45)=False:=cO (by omega)
   have hfd:=EX
  all_goals
   by_cases h91:x.toNat=91
   case' pos=>
    have uD:((x.toNat:Int)=91)=True:=dF (by omega)
    have h93:cV (sb s) f 93=true:=by rw[uL hx,g8 h91,fP,←hf] at gL;simpa using gL
   case' neg=>
    have uD:((x.toNat:Int)=91)=False:=cO (by omega)
    have h93:=uD
   all_goals
    by_cases h65:65≤x.toNat
    case' pos=>
     have xR:((65:Int)≤(x.toNat:Int))=True:=dF (by omega)
     have B9:((x.toNat:Int)≤90)=False:=cO (by intro h;exact hU (by simp only[uW,cK,bL];omega))
    case' neg=>
     have xR:((65:Int)≤(x.toNat:Int))=False:=cO (by omega)
     have B9:=xR
   all_goals
    simp -implicitDefEqProofs only[xQ,B8,hix,EW,uD,xR,B9,hw,bX,b9,aA,seval,lC]
    try
     refine(lM s f 93 _).to ?_
     rw[h93]
     simp -implicitDefEqProofs only[hix,xR,B9,bX,b9,aA,seval]
    refine(CO s a _).to ?_
    rw[xZ hx]
   all_goals
    simp -implicitDefEqProofs only[hix,hdx,EX,hw,bX,b9,aA,seval]
    try
     refine(CO s f _).to ?_
     rw[hfd]
     simp -implicitDefEqProofs only[aA,seval]
    refine(RF s hs a ha _).to ?_
    cases hn:pL (sb s) a with
    | none=>
     rw[hn] at hP
     subst hP
     simp -implicitDefEqProofs only[CP,bX,aA,seval]
     refine(EB a (by omega) _).to ?_
     simp -implicitDefEqProofs only[aG,cB,cM,bY,fB (bY _),eX (a7 _),lY,aA,seval,lC]
     exact⟨AH (by omega),hD _⟩
    | some p=>
     obtain⟨nm,e⟩:=p
     rw[hn] at hP
     simp only at hP
     have hel:=JD (by rw[cQ];exact ha) hn
     rw[cQ] at hel
     have he0:((e:Int)<0)=False:=cO (by omega)
     obtain⟨f2,hf2⟩:∃f2,f2=e+1:=⟨_,rfl⟩
     have hwe:=oS (x:=(e:Int)+1) (m:=f2) (by omega) (by omega)
     simp -implicitDefEqProofs only[CP,he0,b9,aA,seval]
     refine(lM s e 40 _).to ?_
     cases h4:cV (sb s) e 40 with
     | false=>
      rw[aH h4] at hP
      subst hP
      simp -implicitDefEqProofs only[aA,seval]
      refine(tX nm [] (by simp) _).to ?_
      simp -implicitDefEqProofs only[aG,cB,cM,bY,fB (bY _),eX (a7 _),aA,seval,lC]
      exact⟨sU rfl,hD _⟩
     | true=>
      rw[aE (by simp [h4]),←hf2] at hP
      have h5:=pE h4
      rw[cQ] at h5
      simp -implicitDefEqProofs only[hwd,hwe,aA,seval]
      refine(aAO (hR d1 (by omega)) (hok d1) hs f2 (by omega) (by omega) _ (c1:=41) (c2:=41)).mono ?_
      rintro r _ ⟨hr,rfl⟩
      cases hT:tA (R d1) (sb s) 41 41 ((sb s).length+1) f2 [] with
      | none=>
       rw[hT] at hr hP
       subst hP
       obtain⟨k,hk,rfl⟩:=hr
       have hk0:((-1 - (k:Int))<0)=True:=dF (by omega)
       simp -implicitDefEqProofs only[aG,hk0,bX,aA,seval,lC]
       exact⟨FR hk,hD _⟩
      | some p=>
       obtain⟨ts,e3⟩:=p
       rw[hT] at hr hP
       simp only[wW] at hr hP
       subst hr hP
       obtain⟨g1,g2,g3,g4,g5⟩:=O7 (hok d1) _ _ _ _ _ (by rw[cQ];omega) (by simp) hT
       rw[cQ] at g2
       have he3:((e3:Int)<0)=False:=cO (by omega)
       have hw3:=bE (n:=(e3:Int)+1)
       simp -implicitDefEqProofs only[aG,he3,hw3,b9,aA,seval,lC]
       exact⟨by rw[show(AV.agg [.int .i64 3,.int .i64 0,.str nm,.slice (ts.map Tm.av)])=(pH nm ts).av from (aY ..).symm];exact sU rfl,hD _⟩
theorem a4D{nm:ByteArray}(h:dU nm≠0):nm≠⟨#[]⟩:=by rintro rfl;exact h (by decide)
abbrev s9:=zi tI_3 (zi zI_3 (zi aZ (zi tI_9 (zi zI_9 (zi cF (zi tI_31 (zi zI_31 (zi aO (zi bH (zi bJ (zi bZ (zi tI_66 (zi zI_66 (zi bS (zi bT (zi bU (zi bV bR)))))))))))))))))
set_option maxHeartbeats 2000000 in
theorem aW8{s:ByteArray}(hs:s.size≤1000):∀(n d a lv:Nat) (st:aB),a≤s.size→lv≤3→d≤1048576→(s.size - a)*4+lv<n →
 aD prog 322 [.str s,.int .i64 (a:Int),.int .i64 (d:Int),.int .i64 (lv:Int)] st (fun r st'=>mX (rd (sb s) n d a lv) r∧st'=st):=by
 intro n
 induction n with
 | zero=>intro d a lv st _ _ _ h;omega
 | succ n IH=>
 intro d a lv st ha hlv hd hn
 have hl1:(sb s).length≤1000:=by rw[cQ];exact hs
 refine aD.HN ?_
 refine wF [1000000,10] 4 func322 ntmps322 rfl rfl ?_
 intro _
 generalize hP:rd (sb s) (n+1) d a lv=o
 simp -implicitDefEqProofs only[aA,seval,s9]
 intro b hb
 have hD:=fun(o:AO)=>(aL.refl st).aC (o:=o) hb
 cases lv with
 | zero=>
  simp only[rd] at hP
  have h0:(((0:Nat):Int)=0)=True:=dF rfl
  simp -implicitDefEqProofs only[bX,aA,↓aX,seval]
  refine(aW7 (R:=fun d a=>rd (sb s) n d a 3) (a:=a) (fun d hd a' st' h1 h2=>IH d a' 3 st' h2 (by omega) hd (by omega)) (fun d=>CZ hl1 n d 3) hs ha d hd _).mono ?_
  rintro r _ ⟨hr,rfl⟩
  rw[hP] at hr
  cases o with
  | none=>
   obtain⟨k,hk,rfl⟩:=hr
   simp -implicitDefEqProofs only[aG,cB,cM,bY,fB (bY _),eX (a7 _),lY,aA,seval,s9]
   exact⟨AH hk,hD _⟩
  | some p=>
   obtain⟨t,e⟩:=p
   simp only[mX] at hr
   subst hr
   simp -implicitDefEqProofs only[aG,cB,cM,bY,fB (bY _),eX (a7 _),aA,seval,s9]
   exact⟨sU rfl,hD _⟩
 | succ lv=>
  simp only[rd] at hP
  have h0:(((lv+1:Nat):Int)=0)=False:=cO (by omega)
  obtain⟨lw,hlw⟩:∃lw,lw=lv+1:=⟨_,rfl⟩
  rw[←hlw] at hP h0 ⊢
  have hwl:=oS (x:=(lw:Int) - 1) (m:=lv) (by omega) (by omega)
  simp -implicitDefEqProofs only[h0,hwl,b9,aA,seval]
  refine(IH d a lv _ ha (by omega) hd (by omega)).mono ?_
  rintro r _ ⟨hr,rfl⟩
  cases hRi:rd (sb s) n d a lv with
  | none=>
   rw[hRi] at hr hP
   simp only at hP
   subst hP
   obtain⟨k,hk,rfl⟩:=hr
   have hk0:((0:Int)≤(-1 - (k:Int)))=False:=cO (by omega)
   simp -implicitDefEqProofs only[aG,cB,bY,lY,aA,↓aX,seval,s9]
   intro b10 h10
   have hbb:b10≠b:=fun h=>by rw[h,aB.aP] at h10;cases h10
   have SZ:st b10=none:=by rwa [aB.aJ _ _ hbb] at h10
   refine iN (σ:=Unit) [1000000,10] [0,2,3,8,10] (fun _=>True) (fun _=>[(9,.int .i64 0),(11,.int .i64 (-1 - (k:Int)))]) (fun _=>(st.aC b (.cells [.int .i64 0,.int .i64 0,.str ⟨#[]⟩,.fslice []])).aC b10 (.cells J4.av.cells)) (fun _=>0) (by decide +kernel) ⟨(),trivial,aN.mk (by simp -implicitDefEqProofs only[aA,seval])⟩ ?_
   rintro _ _
   simp -implicitDefEqProofs only[aG,hk0,hbb.symm,b9,aA,seval,s9]
   exact⟨FR hk,((hD _).aC SZ).aC hb⟩
  | some p=>
   obtain⟨t,e⟩:=p
   rw[hRi] at hr hP
   simp only[mX] at hr hP
   subst hr
   obtain⟨g1,g2,g3⟩:=CZ hl1 n d lv a t e (by rw[cQ];exact ha) hRi
   rw[cQ] at g2 hP
   simp -implicitDefEqProofs only[aG,cB,bY,aA,↓aX,seval,s9]
   intro b10 h10
   have hbb:b10≠b:=fun h=>by rw[h,aB.aP] at h10;cases h10
   have SZ:st b10=none:=by rwa [aB.aJ _ _ hbb] at h10
   have hE:∀o1 o2 o3,aL (((st.aC b o1).aC b10 o2).aC b o3) st:=fun o1 o2 o3=>((hD _).aC SZ).aC hb
   refine iN (σ:=Tm×Nat×Nat) [1000000,10] [0,2,3,8,10] (fun x=>FL (fun a=>rd (sb s) n d a lv) (sb s) lw x.2.2 x.1 x.2.1=o∧a<x.2.1∧x.2.1≤s.size∧s.size<x.2.2+x.2.1) (fun x=>[(9,.int .i64 0),(11,.int .i64 (x.2.1:Int))]) (fun x=>(st.aC b (.cells [.int .i64 0,.int .i64 0,.str ⟨#[]⟩,.fslice []])).aC b10 (.cells x.1.av.cells)) (fun x=>x.2.2) (by decide +kernel) ⟨(t,e,s.size+1),⟨hP,g1,g2,by simp only;omega⟩,aN.mk (by simp -implicitDefEqProofs only[aA,seval])⟩ ?_
   rintro⟨t,e,m⟩ ⟨ht,hae,hes,hm⟩
   simp only at ht hae hes hm ⊢
   obtain⟨m,rfl⟩:∃m',m=m'+1:=⟨m - 1,by omega⟩
   simp only[FL] at ht
   have he0:((0:Int)≤(e:Int))=True:=dF (by omega)
   simp -implicitDefEqProofs only[he0,bX,aA,seval]
   refine(aW5 s hs e hes _).to ?_
   cases hop:rM (sb s) e with
   | none=>
    rw[hop] at ht
    simp only at ht
    subst ht
    simp -implicitDefEqProofs only[aG,cB,cM,bY,fB (bY _),eX (a7 _),U5,hbb.symm,bX,aA,seval,s9]
    exact⟨sU rfl,hE _ _ _⟩
   | some p=>
    obtain⟨nm,e1⟩:=p
    rw[hop] at ht
    simp only at ht
    obtain⟨k1,k2,k3⟩:=aPP hop
    rw[cQ] at k2
    have hnm:=cO (a4D k3)
    simp -implicitDefEqProofs only[U5,hnm,b9,aA,seval]
    refine(xD nm _).to ?_
    by_cases aN0:dU nm=lw
    case neg=>
     rw[aH aN0] at ht
     subst ht
     have hne:((dU nm:Int)=(lw:Int))=False:=cO (by omega)
     simp -implicitDefEqProofs only[aG,cB,cM,bY,fB (bY _),eX (a7 _),hne,hbb.symm,b9,aA,seval,s9]
     exact⟨sU rfl,hE _ _ _⟩
    rw[aE (by simpa using aN0)] at ht
    have hne:((dU nm:Int)=(lw:Int))=True:=dF (by omega)
    simp -implicitDefEqProofs only[hne,hwl,bX,aA,seval]
    refine(IH d e1 lv _ k2 (by omega) hd (by omega)).mono ?_
    rintro r _ ⟨hr,rfl⟩
    cases hRj:rd (sb s) n d e1 lv with
    | none=>
     rw[hRj] at hr ht
     simp only at ht
     subst ht
     obtain⟨k,hk,rfl⟩:=hr
     have hk0:((-1 - (k:Int))<0)=True:=dF (by omega)
     simp -implicitDefEqProofs only[aG,aK,cB,cM,hk0,lY,hbb.symm,bX,aA,↓aX,seval,s9]
     exact⟨FR hk,hE _ _ _⟩
    | some p=>
     obtain⟨t2,e2⟩:=p
     rw[hRj] at hr ht
     simp only[mX] at hr ht
     subst hr
     obtain⟨q1,q2,q3⟩:=CZ hl1 n d lv e1 t2 e2 (by rw[cQ];exact k2) hRj
     rw[cQ] at q2
     have he2:((e2:Int)<0)=False:=cO (by omega)
     simp -implicitDefEqProofs only[a7,aK,cB,cM,bY,fB (bY _),eX (a7 _),he2,b9,aA,↓aX,seval,s9]
     refine(tX nm [t,t2] (by simp) _).to ?_
     by_cases h3:lw=3
     · rw[aH h3] at ht
       subst ht
       have h3':((lw:Int)=3)=True:=dF (by omega)
       simp -implicitDefEqProofs only[aG,cB,cM,bY,fB (bY _),eX (a7 _),h3',hbb.symm,bX,aA,seval,s9]
       exact⟨sU rfl,hE _ _ _⟩
     · rw[aE h3] at ht
       have h3':((lw:Int)=3)=False:=cO (by omega)
       simp -implicitDefEqProofs only[aG,cB,bY,h3',b9,aA,seval,s9]
       exact⟨(pH nm [t,t2],e2,m),by simp only;omega,⟨ht,by simp only;omega,q2,by simp only;omega⟩,aN.mk (by simp -implicitDefEqProofs only[aA,seval])⟩
theorem aPV{k n:Int}{s:ByteArray}{ts:List Tm}:sR (.mk k n s ts)=(decide (k=3)&&(decide (s=⟨#[46]⟩)&&decide (ts.length=2))):=rfl
theorem a4Z{k n:Int}{s:ByteArray}{ts:List Tm}:NP (.mk k n s ts)=(decide (k=3)&&(decide (s=⟨#[91,93]⟩)&&decide (ts.length=0))):=rfl
theorem a3T{k n:Int}{s:ByteArray}{ts:List Tm}:xY (.mk k n s ts)=(decide (k=3)&&(decide (ts.length=2)&&decide (0<dU s))):=rfl
theorem QU{k n:Int}{s:ByteArray}{ts:List Tm}:QV (.mk k n s ts)=(decide (k=3)&&decide (0<ts.length)):=rfl
theorem a66{k n:Int}{s:ByteArray}{ts:List Tm}:FU (.mk k n s ts)=(decide (k=3)&&(decide (ts.length=0)&&decide (0<dU s))):=rfl
abbrev WS:=zi tI_3 (zi zI_3 (zi aZ (zi tI_4 (zi zI_4 (zi cG (zi tI_9 (zi zI_9 (zi cF (zi tI_31 (zi zI_31 (zi aO (zi bH (zi bJ (zi bZ (zi tI_66 (zi zI_66 (zi bS (zi bT (zi bU (zi bV bR))))))))))))))))))))
theorem LU(t:Tm)(st:aB):aD prog 274 [t.av] st (fun r st'=>r=.bool (sR t)∧st'=st):=by
 obtain⟨k,n,s,ts⟩:=t
 rw[aPV]
 refine wF [1000000] 1 func274 ntmps274 rfl rfl ?_
 intro _
 simp only[aY]
 by_cases h1:k=3
 case neg=>
  rw[gG h1,iF]
  simp -implicitDefEqProofs only[h1,b9,aA,seval,WS]
 rw[g8 h1,fP]
 by_cases h2:s=⟨#[46]⟩
 case neg=>
  rw[gG h2,iF]
  simp -implicitDefEqProofs only[h1,h2,bX,b9,aA,seval,WS]
 rw[g8 h2,fP]
 have h3:decide (((ts.length:Nat):Int)=2)=decide (ts.length=2):=by rw[BX];omega
 simp -implicitDefEqProofs only[h1,h2,h3,bX,aF,aA,seval,WS]
abbrev WU:=zi tI_3 (zi zI_3 (zi aZ (zi tI_4 (zi zI_4 (zi cG (zi tI_9 (zi zI_9 (zi cF (zi tI_31 (zi zI_31 (zi aO (zi bH (zi bJ (zi bZ (zi tI_66 (zi zI_66 (zi bS (zi bT (zi bU (zi bV bR))))))))))))))))))))
theorem aWS(t:Tm)(st:aB):aD prog 332 [t.av] st (fun r st'=>r=.bool (NP t)∧st'=st):=by
 obtain⟨k,n,s,ts⟩:=t
 rw[a4Z]
 refine wF [1000000] 1 func332 ntmps332 rfl rfl ?_
 intro _
 simp only[aY]
 by_cases h1:k=3
 case neg=>
  rw[gG h1,iF]
  simp -implicitDefEqProofs only[h1,b9,aA,seval,WU]
 rw[g8 h1,fP]
 by_cases h2:s=⟨#[91,93]⟩
 case neg=>
  rw[gG h2,iF]
  simp -implicitDefEqProofs only[h1,h2,bX,b9,aA,seval,WU]
 rw[g8 h2,fP]
 have h3:decide (((ts.length:Nat):Int)=0)=decide (ts.length=0):=by rw[BX];omega
 simp -implicitDefEqProofs only[h1,h2,h3,bX,aF,aA,seval,WU]
abbrev WT:=zi tI_3 (zi zI_3 (zi aZ (zi tI_4 (zi zI_4 (zi cG (zi tI_9 (zi zI_9 (zi cF (zi tI_31 (zi zI_31 (zi aO (zi bH (zi bJ (zi bZ (zi tI_66 (zi zI_66 (zi bS (zi bT (zi bU (zi bV bR))))))))))))))))))))
theorem aAM(t:Tm)(st:aB):aD prog 276 [t.av] st (fun r st'=>r=.bool (xY t)∧st'=st):=by
 obtain⟨k,n,s,ts⟩:=t
 rw[a3T]
 refine wF [1000000] 1 func276 ntmps276 rfl rfl ?_
 intro _
 simp only[aY]
 by_cases h1:k=3
 case neg=>
  rw[gG h1,iF]
  simp -implicitDefEqProofs only[h1,b9,aA,seval,WT]
 rw[g8 h1,fP]
 by_cases h2:ts.length=2
 case neg=>
  rw[gG h2,iF]
  have h2':(((ts.length:Nat):Int)=2)=False:=cO (by omega)
  simp -implicitDefEqProofs only[h1,h2',bX,b9,aF,aA,seval,WT]
 rw[g8 h2,fP]
 have h2':(((ts.length:Nat):Int)=2)=True:=dF (by omega)
 simp -implicitDefEqProofs only[h1,h2',bX,aF,aA,seval,WT]
 refine(xD s _).to ?_
 have h3:decide ((0:Int)<(dU s:Int))=decide (0<dU s):=by rw[BX];omega
 simp -implicitDefEqProofs only[h3,aA,seval]
abbrev WV:=zi tI_3 (zi zI_3 (zi aZ (zi tI_4 (zi zI_4 (zi cG (zi tI_9 (zi zI_9 (zi cF (zi tI_31 (zi zI_31 (zi aO (zi bH (zi bJ (zi bZ (zi tI_66 (zi zI_66 (zi bS (zi bT (zi bU (zi bV bR))))))))))))))))))))
theorem aAN(t:Tm)(st:aB):aD prog 333 [t.av] st (fun r st'=>r=.bool (FU t)∧st'=st):=by
 obtain⟨k,n,s,ts⟩:=t
 rw[a66]
 refine wF [1000000] 1 func333 ntmps333 rfl rfl ?_
 intro _
 simp only[aY]
 by_cases h1:k=3
 case neg=>
  rw[gG h1,iF]
  simp -implicitDefEqProofs only[h1,b9,aA,seval,WV]
 rw[g8 h1,fP]
 by_cases h2:ts.length=0
 case neg=>
  rw[gG h2,iF]
  have h2':(((ts.length:Nat):Int)=0)=False:=cO (by omega)
  simp -implicitDefEqProofs only[h1,h2',bX,b9,aF,aA,seval,WV]
 rw[g8 h2,fP]
 have h2':(((ts.length:Nat):Int)=0)=True:=dF (by omega)
 simp -implicitDefEqProofs only[h1,h2',bX,aF,aA,seval,WV]
 refine(xD s _).to ?_
 have h3:decide ((0:Int)<(dU s:Int))=decide (0<dU s):=by rw[BX];omega
 simp -implicitDefEqProofs only[h3,aA,seval]
theorem aXA(s:ByteArray)(hs:s.size≤1000)(st:aB):aD prog 278 [.str s] st (fun r st'=>r=.str (sV s)∧st'=st):=by
 refine wF [1000000] 1 func278 ntmps278 rfl rfl ?_
 intro _
 have hm:maxLen=9223372036854775807:=by rfl
 have g1:(⟨#[32]⟩:ByteArray).size+s.size≤maxLen:=by show 1+s.size≤_;omega
 have g2:((⟨#[32]⟩:ByteArray)++s).size+(⟨#[32]⟩:ByteArray).size≤maxLen:=by rw[dJ];show 1+s.size+1≤_;omega
 by_cases h1:s=⟨#[105,115]⟩
 · have hW:jL s=true:=by unfold jL;rw[g8 h1];try rfl
   unfold sV
   rw[aH hW]
   have h1':=dF h1
   simp -implicitDefEqProofs only[h1',g1,g2,↓reduceIte,bX,aA,seval]
 · have h1':=cO h1
   by_cases h2:s=⟨#[109,111,100]⟩
   · have hW:jL s=true:=by unfold jL;rw[g8 h2];exact A9 _
     unfold sV
     rw[aH hW]
     have h2':=dF h2
     simp -implicitDefEqProofs only[h1',h2',g1,g2,↓reduceIte,bX,b9,aA,seval]
   · have hW:jL s=false:=by unfold jL;rw[gG h1,gG h2];try rfl
     unfold sV
     rw[aE (by rw[hW];decide)]
     have h2':=cO h2
     simp -implicitDefEqProofs only[h1',h2',b9,aA,seval]
theorem aW6(s:ByteArray)(hs:1≤s.size)(st:aB):aD prog 335 [.str s] st (fun r st'=>r=.bool (NY (sb s))∧st'=st):=by
 refine wF [1000000] 1 func335 ntmps335 rfl rfl ?_
 intro _
 obtain⟨x,hx⟩:=xC (s:=s) (n:=0) (by omega)
 have hix:=uK (P:=prog) (t:=9) cF hx
 rw[show((0:Nat):Int)=0 from rfl] at hix
 unfold NY
 simp only[xZ hx,uL hx]
 simp -implicitDefEqProofs only[aA,seval]
 refine(aO3 s 0 _).to ?_
 rw[xZ hx]
 cases h1:letter x with
 | true=>
  simp -implicitDefEqProofs only[aA,seval]
  simp
 | false=>
  simp -implicitDefEqProofs only[aA,seval]
  refine(CO s 0 _).to ?_
  rw[xZ hx]
  cases h2:dY x with
  | true=>
   simp -implicitDefEqProofs only[aA,seval]
   simp
  | false=>
   by_cases h3:65≤x.toNat
   case' pos=>have h3':((65:Int)≤(x.toNat:Int))=True:=dF (by omega)
   case' neg=>have h3':((65:Int)≤(x.toNat:Int))=False:=cO (by omega)
   all_goals
    by_cases h4:x.toNat≤90
    case' pos=>have h4':((x.toNat:Int)≤90)=True:=dF (by omega)
    case' neg=>have h4':((x.toNat:Int)≤90)=False:=cO (by omega)
   all_goals
    by_cases h5:x.toNat=91
    case' pos=>have h5':((x.toNat:Int)=91)=True:=dF (by omega)
    case' neg=>have h5':((x.toNat:Int)=91)=False:=cO (by omega)
   all_goals
    by_cases h6:x.toNat=40
    case' pos=>have h6':((x.toNat:Int)=40)=True:=dF (by omega)
    case' neg=>have h6':((x.toNat:Int)=40)=False:=cO (by omega)
   all_goals try (exfalso;omega)
   all_goals
    simp -implicitDefEqProofs only[hix,h3',h4',h5',h6',bX,b9,aA,seval]
    simp [uW,h3,h4,h5,h6]
theorem Q6(n:Nat):bytesOf [AV.int .u8 ((n:Nat):Int)]=some [UInt8.ofNat n]:=by simp only[bytesOf,jU,oD]
theorem PP{x:Int}{m:Nat}(h:x=(m:Int))(hm:m≤255):IntKind.wrap .u8 x=(m:Int):=by rw[IntKind.wrap_u8];omega
abbrev a8E:=zi tI_3 (zi zI_3 (zi aZ (zi tI_5 (zi zI_5 (zi lO (zi tI_9 (zi zI_9 (zi cF (zi tI_40 (zi zI_40 (zi qZ (zi xI (zi xK wN)))))))))))))
theorem aWR(m:Nat)(hm:m≤25)(st:aB):aD prog 212 [.int .i64 (m:Int)] st (fun r st'=>r=.str (NN m)∧st'=st):=by
 refine wF [1000000] 1 func212 ntmps212 rfl rfl ?_
 intro _
 have hw:=PP (x:=(m:Int)) rfl (by omega)
 obtain⟨y,hy⟩:∃y,y=65+m:=⟨_,rfl⟩
 have hw2:=PP (x:=65+(m:Int)) (m:=y) (by omega) (by omega)
 simp -implicitDefEqProofs only[tP,hw,hw2,Q6,aA,seval,a8E]
 subst hy
 rfl
abbrev aR8:=zi tI_3 (zi zI_3 (zi aZ (zi tI_5 (zi zI_5 (zi lO (zi tI_9 (zi zI_9 (zi cF (zi tI_40 (zi zI_40 (zi qZ (zi xI (zi xK wN)))))))))))))
theorem RD(n:Nat)(hn:n≤1000000)(st:aB):aD prog 264 [.int .i64 (n:Int)] st (fun r st'=>r=.str (kR 20 n ⟨#[]⟩)∧st'=st):=by
 refine wF [1000000] 1 func264 ntmps264 rfl rfl ?_
 intro _
 have h1:((n:Int)< -9223372036854775807)=False:=cO (by omega)
 have h2:((n:Int)<0)=False:=cO (by omega)
 simp -implicitDefEqProofs only[h1,h2,b9,aA,seval]
 generalize hT:kR 20 n ⟨#[]⟩=T
 refine iN (σ:=Nat×ByteArray×Nat) [1000000] [2] (fun x=>kR x.2.2 x.1 x.2.1=T∧x.1<10 ^ x.2.2∧x.1≤1000000∧1≤x.2.2∧x.2.1.size+x.2.2≤20) (fun x=>[(0,.int .i64 (x.1:Int)),(3,.str x.2.1)]) (fun _=>st) (fun x=>x.2.2) (by decide +kernel) ⟨(n,⟨#[]⟩,20),⟨hT,by simp only;omega,hn,by simp only;omega,by show 0+20≤20;omega⟩,aN.mk (by simp -implicitDefEqProofs only[aA,seval])⟩ ?_
 rintro⟨k,acc,f⟩ ⟨hd,hk,hk6,hf,hb⟩
 simp only at hd hk hk6 hf hb ⊢
 obtain⟨f,rfl⟩:∃f',f=f'+1:=⟨f - 1,by omega⟩
 have hm:maxLen=9223372036854775807:=by rfl
 have hsz:∀u:UInt8,(⟨#[u]⟩:ByteArray).size+acc.size≤maxLen:=fun u=>by show 1+acc.size≤_;omega
 have hr:((k:Int)).tmod 10=((k % 10:Nat):Int):=by rw[Int.tmod_eq_emod_of_nonneg (by omega)];omega
 have hq:((k:Int)).tdiv 10=((k / 10:Nat):Int):=by rw[Int.tdiv_eq_ediv_of_nonneg (by omega)];omega
 simp -implicitDefEqProofs only[aA,seval]
 refine aS (fun h3=>?_) (fun h3=>?_)
 · simp only[bL] at h3
   unfold kR at hd
   rw[aH (by omega)] at hd
   rw[Nat.pow_succ] at hk
   obtain⟨y,hy⟩:∃y,y=48+k % 10:=⟨_,rfl⟩
   obtain⟨q,hq'⟩:∃q,q=k / 10:=⟨_,rfl⟩
   obtain⟨r,hr'⟩:∃r,r=k % 10:=⟨_,rfl⟩
   rw[←hr'] at hr
   rw[←hq'] at hq
   have hwr:=bE (n:=(r:Int))
   have hw:=oS (x:=48+(r:Int)) (m:=y) (by omega) (by omega)
   have hw8:=PP (x:=(y:Int)) (m:=y) rfl (by omega)
   have hw2:=bE (n:=(q:Int))
   simp -implicitDefEqProofs only[tP,hr,hq,hw,hw8,hw2,Q6,hsz,aA,seval,aR8]
   refine⟨(q,⟨#[UInt8.ofNat y]⟩++acc,f),by simp only;omega,⟨by rw[hq',hy];exact hd,by simp only;omega,by simp only;omega,?_,?_⟩,aN.mk (by simp -implicitDefEqProofs only[aA,seval]<;>rfl)⟩
   · show 1≤f
     rcases P8 f with rfl | h
     · simp only[Nat.pow_zero] at hk;omega
     · exact h
   · show(⟨#[UInt8.ofNat y]⟩++acc:ByteArray).size+f≤20
     rw[dJ]
     show 1+acc.size+f≤20
     omega
 · simp only[cP] at h3
   unfold kR at hd
   rw[aE (by omega)] at hd
   obtain⟨y,hy⟩:∃y,y=48+k:=⟨_,rfl⟩
   have hw:=oS (x:=48+(k:Int)) (m:=y) (by omega) (by omega)
   have hw8:=PP (x:=(y:Int)) (m:=y) rfl (by omega)
   simp -implicitDefEqProofs only[tP,hw,hw8,Q6,hsz,aA,seval,aR8]
   rw[←hd,hy]
theorem aAD(n:Int)(h1: -999≤n)(h2:n≤999)(st:aB):aD prog 263 [.int .i64 n] st (fun r st'=>r=.str (nA n)∧st'=st):=by
 refine wF [1000000] 1 func263 ntmps263 rfl rfl ?_
 intro _
 unfold nA
 have hm:maxLen=9223372036854775807:=by rfl
 by_cases h:n<0
 · rw[aH h]
   obtain⟨m,hm'⟩:∃m:Nat,m=(-n).toNat:=⟨_,rfl⟩
   rw[←hm']
   have h':=dF h
   have hw:=oS (x:=0 - n) (m:=m) (by omega) (by omega)
   have hw':=oS (x:= -n) (m:=m) (by omega) (by omega)
   have hs:(⟨#[45]⟩:ByteArray).size+(kR 20 m ⟨#[]⟩).size≤maxLen:=by have:=zC 20 m ⟨#[]⟩;have h0:(⟨#[]⟩:ByteArray).size=0:=rfl;show 1+_≤_;omega
   simp -implicitDefEqProofs only[h',hw,↓reduceIte,bX,aA,seval]
   refine(RD m (by omega) _).to ?_
   simp -implicitDefEqProofs only[hs,↓reduceIte,aA,seval]
 · rw[aE h]
   obtain⟨m,rfl⟩:=tJ (show 0≤n by omega)
   have h':=cO h
   rw[jU]
   simp -implicitDefEqProofs only[h',b9,aA,seval]
   refine(RD m (by omega) _).to ?_
   simp -implicitDefEqProofs only[aA,seval]
abbrev JX:=zi tI_3 (zi zI_3 (zi aZ (zi tI_9 (zi zI_9 (zi cF (zi tI_31 (zi zI_31 (zi aO (zi bH (zi bJ (zi bZ (zi tI_66 (zi zI_66 (zi bS (zi bT (zi bU (zi bV bR)))))))))))))))))
theorem aW1(t:Tm)(ht:Ws t)(h0:t.k=3→t.ts= [])(st:aB):aD prog 281 [t.av] st (fun r st'=>r=.str (FB t)∧st'=st):=by
 obtain⟨k,n,s,ts⟩:=t
 have hp:=LU (.mk k n s ts)
 simp only[aY] at hp ⊢
 rw[show FB (.mk k n s ts)=if k=1 then NN n else if k=2 then nA n else s from rfl]
 have h0:k=3→ts= []:=h0
 refine wF [1000000] 1 func281 ntmps281 rfl rfl ?_
 intro _
 rcases I8 ht.own.1 with ⟨rfl,h1,h2,rfl,h4⟩ | ⟨rfl,h1,h2,rfl,h4⟩ | ⟨rfl,rfl,h2,h4⟩
 · obtain⟨m,rfl⟩:=tJ h1
   simp -implicitDefEqProofs only[aA,seval,JX]
   refine(aWR m (by omega) _).to ?_
   simp -implicitDefEqProofs only[aA,seval]
 · skip
   simp -implicitDefEqProofs only[aA,seval,JX]
   refine(aAD n h1 h2 _).to ?_
   simp -implicitDefEqProofs only[aA,seval]
 · obtain rfl:=h0 rfl
   simp -implicitDefEqProofs only[aU,aA,seval,JX]
   refine(hp _).to ?_
   rw[show sR (.mk 3 0 s [])=false by rw[aPV];simp]
   simp -implicitDefEqProofs only[aA,seval,JX]
   refine iN (σ:=Unit) [1000000] [1,2] (fun _=>True) (fun _=>[(3,.str s),(4,.int .i64 0)]) (fun _=>st) (fun _=>0) (by decide +kernel) ⟨(),trivial,aN.mk (by simp -implicitDefEqProofs only[aA,seval])⟩ ?_
   rintro _ _
   simp -implicitDefEqProofs only[bA,aA,seval,JX]
theorem NU{N:Int}{t:Tm}(h:bF N t):(t.k=1∨t.k=2∨t.k=3)∧(t.k=1→t.ts= [])∧(t.k=2→-999≤t.n∧t.n≤999)∧(t.k=3→t.s.size≤6)∧t.ts.length≤4:=by
 obtain⟨h,-⟩:=h
 obtain⟨k,n,s,ts⟩:=t
 have hk:=h.kind
 refine⟨hk.1,fun e=>?_,fun e=>?_,fun e=>?_,hk.2⟩<;>simp only[Tm.k] at e<;>subst e
 · exact h.var.2.2.2
 · have:=(h.own (by decide)).1
   simp [eU] at this
   simp only[Tm.n];omega
 · have:=(h.own (by decide)).1
   simp [eU] at this
   exact(UW this.1.2).2
theorem aPN{N:Int}{t:Tm}(h:bF N t){x:Tm}{l:List Tm}(e:t.ts=x::l):bF N x:=by
 have h1:t.k≠1:=fun hk=>by have:=(NU h).2.1 hk;rw[e] at this;cases this
 exact rL N t h1 h x (by rw[e];simp)
theorem aON{N:Int}{t:Tm}(h:bF N t):kJ t=match t.ts with
 | []=>⟨#[]⟩
 | x::_=>sP x:=by
 unfold kJ
 by_cases h1:t.k=1
 · rw[aH h1,(NU h).2.1 h1]
 · rw[aE h1]
   try rfl
abbrev OS:=zi tI_3 (zi zI_3 (zi aZ (zi tI_9 (zi zI_9 (zi cF (zi tI_31 (zi zI_31 (zi aO (zi bH (zi bJ (zi bZ (zi tI_66 (zi zI_66 (zi bS (zi bT (zi bU (zi bV bR)))))))))))))))))
theorem aAW{N:Int}{t:Tm}(ht:bF N t)(st:aB):aD prog 200 [t.av] st (fun r st'=>r=.str (kJ t)∧st'=st):=by
 refine aD.drop ?_
 rw[aON ht]
 have hx:=@aPN N t ht
 obtain⟨k,n,s,ts⟩:=t
 simp only[Tm.ts] at hx ⊢
 rw[aY]
 refine wF [1000000] 1 func200 ntmps200 rfl rfl ?_
 intro _
 simp -implicitDefEqProofs only[aF,aA,seval,OS]
 refine aS (fun h=>?_) (fun h=>?_)
 · have h':ts= []:=oB (by simp at h;simp [h])
   subst h'
   simp -implicitDefEqProofs only[aA,seval]
   first | exact aL.refl _ | exact⟨aL.refl _,rfl⟩
 cases ts with
 | nil=>simp at h
 | cons x l=>
  obtain⟨hk,h1,h2,h3,h4⟩:=NU (hx rfl)
  obtain⟨xk,xn,xs,xt⟩:=x
  simp only[Tm.k,Tm.ts,Tm.n,Tm.s] at hk h1 h2 h3 h4
  have hat:dM prog 31 (.slice ((Tm.mk xk xn xs xt).av::l.map Tm.av)) (.int .i64 0)=some (.pptr (.agg [.int .i64 xk,.int .i64 xn,.str xs,.slice (xt.map Tm.av)])):=by
   rw[←aY]
   exact bO (av:=Tm.av) (l:=.mk xk xn xs xt::l) (i:=0) aO rfl (aK _)
  have hu:sP (.mk xk xn xs xt)=if xk=1 then⟨#[]⟩ else if xk=2 then nA xn else xs++⟨#[47]⟩++kR 20 xt.length ⟨#[]⟩:=rfl
  simp only
  rw[hu]
  simp -implicitDefEqProofs only[hat,aA,↓aX,seval,OS]
  refine aS (fun h=>?_) (fun h=>?_)
  · rw[aH (by simpa using h)]
    simp -implicitDefEqProofs only[aA,seval]
    first | exact aL.refl _ | exact⟨aL.refl _,rfl⟩
  have h5:xk≠1:=by simpa using h
  rw[aE h5]
  simp -implicitDefEqProofs only[aA,seval]
  refine aS (fun h=>?_) (fun h=>?_)
  · have h6:xk=2:=by simpa using h
    rw[aH h6]
    simp -implicitDefEqProofs only[aA,seval,OS]
    refine(aAD xn (h2 h6).1 (h2 h6).2 _).to ?_
    simp -implicitDefEqProofs only[aA,seval]
    first | exact aL.refl _ | exact⟨aL.refl _,rfl⟩
  have h6:xk≠2:=by simpa using h
  rw[aE h6]
  have hs:=h3 (by omega)
  have hm:maxLen=9223372036854775807:=by rfl
  have hs1:xs.size+(⟨#[47]⟩:ByteArray).size≤maxLen:=by show xs.size+1≤_;omega
  have hs2:(xs++(⟨#[47]⟩:ByteArray)).size+(kR 20 xt.length ⟨#[]⟩).size≤maxLen:=by
   have:=zC 20 xt.length ⟨#[]⟩
   have h0:(⟨#[]⟩:ByteArray).size=0:=rfl
   rw[dJ]
   show xs.size+1+_≤_
   omega
  simp -implicitDefEqProofs only[aA,seval]
  refine xA mixed (by decide +kernel) (by decide +kernel) ?_
  simp -implicitDefEqProofs only[aF,hs1,↓reduceIte,aA,seval,OS]
  refine iE (RD xt.length (by omega) _) ?_
  simp -implicitDefEqProofs only[hs2,↓reduceIte,aA,seval]
  first | exact aL.refl _ | exact⟨aL.refl _,rfl⟩
theorem aVP(a b:ByteArray)(st:aB):aD prog 199 [.str a,.str b] st (fun r st'=>r=.bool (vV a b)∧st'=st):=by
 unfold vV
 refine wF [1000000] 2 func199 ntmps199 rfl rfl ?_
 intro _
 simp -implicitDefEqProofs only[aA,seval]
 refine cS (fun h=>?_) (fun h=>?_)
 case refine_2=>
  have h':decide (a=⟨#[]⟩)=true:=by simpa using h
  simp -implicitDefEqProofs only[h,aA,seval]
  try simp []
 have h1:decide (a=⟨#[]⟩)=false:=by simpa using h
 simp -implicitDefEqProofs only[h,aA,seval]
 refine cS (fun h=>?_) (fun h=>?_)
 case refine_2=>
  have h':decide (b=⟨#[]⟩)=true:=by simpa using h
  simp -implicitDefEqProofs only[h,aA,seval]
  try simp []
 have h2:decide (b=⟨#[]⟩)=false:=by simpa using h
 simp -implicitDefEqProofs only[h,aA,seval]
 try simp [h1,h2]
theorem a7I{f:Nat→Bool}{l:List Nat}{i x:Nat}(hx:l[i]?=some x):(l.take (i+1)).filter f=(l.take i).filter f++(if f x=true then[x] else[]):=by
 rw[fS,hx,GI]
 congr 1
 by_cases h:f x=true
 · rw[aH h];simp [h]
 · rw[aE h];simp [h]
abbrev F5:=zi tI_3 (zi zI_3 (zi aZ (zi tI_9 (zi zI_9 (zi cF (zi tI_29 (zi zI_29 (zi fN (zi iT (zi iU (zi jK (zi tI_46 (zi zI_46 (zi dK (zi fM (zi fJ (zi fX (zi tI_66 (zi zI_66 (zi bS (zi bT (zi bU (zi bV (zi bR (zi tI_84 (zi zI_84 (zi kG (zi kH kD))))))))))))))))))))))))))))
theorem aX0{p:List Cl}(hp:∀c∈p,fL c∧c.2.length≤6)(hpl:p.length≤1048576){N:Int}{t:Tm}(ht:bF N t)(st:aB):aD prog 119 [.slice (p.map bB),t.av] st (fun r st'=>r=.slice ((dE p t (dG p t)).map nv)∧st'=st):=by
 refine aD.done ?_
 have xV:=fun st=>RL p t hpl st
 have hk:=fun st=>aAW ht st
 have hlt:∀i∈dG p t,i<p.length:=fun i hi=>by unfold dG at hi;exact qT.1 (u7.1 hi).1
 have hln:(dG p t).length≤p.length:=by have:=B6 p t p.length;rwa [←B5] at this
 unfold dE
 generalize hkt:kJ t=kt at *
 generalize dG p t=L at *
 obtain⟨tk,tn,ts',tts⟩:=t
 simp only[aY] at xV hk ⊢
 refine wF [1000000] 2 func119 ntmps119 rfl rfl ?_
 intro _
 simp -implicitDefEqProofs only[aA,seval,F5]
 refine(xV _).to ?_
 simp -implicitDefEqProofs only[aA,seval]
 refine tE (σ:=Unit) [1000000] [0,3,4,6] L 1 5 (fun i _=>((L.take i).filter (q9 p kt)).map nv) (fun _ _=>True) (fun i _=>[(7,.int .i64 i)]) (fun _ _=>st) (fun i _ _ e he=>by simp only[cU] at he;obtain⟨t,_,rfl⟩:=he;exact⟨rfl,rfl⟩) (by decide +kernel) ⟨(),0,trivial,fun h=>absurd rfl h,aN.mk (by simp -implicitDefEqProofs only[kB,j9,KN,aU,aA,↓aX,seval])⟩ (fun i x s b hx bBD bQ hdr hinv hb=>?_) (fun s b hge hinv=>?_)
 case refine_2=>
  simp -implicitDefEqProofs only[hge,eT,jB,o7,B4,mI,eN,aF,aA,seval,F5]
  exact⟨rfl,aL.refl _⟩
 have hw:=bE (n:=(i:Int)+1)
 have hst:=a7I (f:=q9 p kt) hx
 obtain⟨c,hc⟩:∃c,p[x]?=some c:=⟨_,dZ (hlt x (cJ hx))⟩
 have hat:=bO (av:=bB) (P:=prog) fN hc (i8 c)
 have S8:=bO (av:=nv) (P:=prog) dK hx rfl
 have hck:=fun st=>aAW (hp c (cJ hc)).1.head st
 have hF:q9 p kt x=vV (kJ c.1) kt:=by unfold q9;rw[hc]
 obtain⟨⟨k,n,s',ts⟩,bd⟩:=c
 rw[fU] at hat
 simp only[aY] at hck
 generalize kJ (Tm.mk k n s' ts)=kc at *
 simp only[nv] at S8
 rw[hF] at hst
 have hfl:((L.take i).filter (q9 p kt)).length≤i:=lF (KS _ _) (by rw[dQ];omega)
 simp -implicitDefEqProofs only[bQ,aF,aA,seval,F5]
 refine xA mixed (by decide +kernel) (by decide +kernel) ?_
 simp -implicitDefEqProofs only[hat,S8,aA,seval,F5]
 refine iE (hck _) ?_
 simp -implicitDefEqProofs only[aA,seval,F5]
 refine iE (hk _) ?_
 simp -implicitDefEqProofs only[aA,seval]
 refine iE (aVP kc kt _) ?_
 simp -implicitDefEqProofs only[aA,seval]
 refine aS (fun h=>?_) (fun h=>?_)
 · rw[aH h] at hst
   simp -implicitDefEqProofs only[S8,aA,seval,F5]
   refine fG dK fM fJ rfl rfl (gA rfl rfl) (NR _) hb (by simp only[aF,aQ,bA];omega) (by simp only[aF,aQ,bA];omega) (fun b' hb'=>?_)
   rw[show ∀l:List Nat,l.map nv++ [AV.int .i64 (x:Int)]=(l++ [x]).map nv from fun l=>by simp [nv],←hst] at hb' ⊢
   simp -implicitDefEqProofs only[hw,aA,seval]
   exact⟨(),b',hb',aN.mk (by simp -implicitDefEqProofs only[aA,seval])⟩
 · rw[aE (by simp [h]),gI] at hst
   rw[←hst] at hb ⊢
   simp -implicitDefEqProofs only[hw,aA,seval]
   exact⟨(),b,hb,aN.mk (by simp -implicitDefEqProofs only[aA,seval])⟩
abbrev OF:=zi tI_3 (zi zI_3 (zi aZ (zi tI_9 (zi zI_9 (zi cF (zi tI_31 (zi zI_31 (zi aO (zi bH (zi bJ (zi bZ (zi tI_66 (zi zI_66 (zi bS (zi bT (zi bU (zi bV bR)))))))))))))))))
theorem Z0{N:Int}{t:Tm}(ht:bF N t)(st:aB)(hT:st j6=some nU):aD prog 185 [t.av] st (fun r st'=>r=.str (kJ t)∧st'=st):=by
 refine aD.drop ?_
 rw[aON ht]
 have hx:=@aPN N t ht
 obtain⟨k,n,s,ts⟩:=t
 simp only[Tm.ts] at hx ⊢
 rw[aY]
 refine wF [1000000] 1 func185 ntmps185 rfl rfl ?_
 intro _
 simp -implicitDefEqProofs only[aF,aA,seval,OF]
 refine aS (fun h=>?_) (fun h=>?_)
 · have h':ts= []:=oB (by simp at h;simp [h])
   subst h'
   simp -implicitDefEqProofs only[aA,seval]
   first | exact aL.refl _ | exact⟨aL.refl _,rfl⟩
 cases ts with
 | nil=>simp at h
 | cons x l=>
  obtain⟨hk,h1,h2,h3,h4⟩:=NU (hx rfl)
  obtain⟨xk,xn,xs,xt⟩:=x
  simp only[Tm.k,Tm.ts,Tm.n,Tm.s] at hk h1 h2 h3 h4
  have hat:dM prog 31 (.slice ((Tm.mk xk xn xs xt).av::l.map Tm.av)) (.int .i64 0)=some (.pptr (.agg [.int .i64 xk,.int .i64 xn,.str xs,.slice (xt.map Tm.av)])):=by
   rw[←aY]
   exact bO (av:=Tm.av) (l:=.mk xk xn xs xt::l) (i:=0) aO rfl (aK _)
  have hdx:nA (xt.length:Int)=kR 20 xt.length ⟨#[]⟩:=by unfold nA;rw[aE (by omega),jU]
  have hu:sP (.mk xk xn xs xt)=if xk=1 then⟨#[]⟩ else if xk=2 then nA xn else xs++⟨#[47]⟩++kR 20 xt.length ⟨#[]⟩:=rfl
  simp only
  rw[hu]
  simp -implicitDefEqProofs only[hat,aA,↓aX,seval,OF]
  refine aS (fun h=>?_) (fun h=>?_)
  · rw[aH (by simpa using h)]
    simp -implicitDefEqProofs only[aA,seval]
    first | exact aL.refl _ | exact⟨aL.refl _,rfl⟩
  have h5:xk≠1:=by simpa using h
  rw[aE h5]
  simp -implicitDefEqProofs only[aA,seval]
  refine aS (fun h=>?_) (fun h=>?_)
  · have h6:xk=2:=by simpa using h
    rw[aH h6]
    simp -implicitDefEqProofs only[aA,seval,OF]
    refine(aO9 xn (h2 h6).1 (h2 h6).2 _ hT).to ?_
    simp -implicitDefEqProofs only[aA,seval]
    first | exact aL.refl _ | exact⟨aL.refl _,rfl⟩
  have h6:xk≠2:=by simpa using h
  rw[aE h6]
  have hs:=h3 (by omega)
  have hm:maxLen=9223372036854775807:=by rfl
  have hs1:xs.size+(⟨#[47]⟩:ByteArray).size≤maxLen:=by show xs.size+1≤_;omega
  have hs2:(xs++(⟨#[47]⟩:ByteArray)).size+(kR 20 xt.length ⟨#[]⟩).size≤maxLen:=by
   have:=zC 20 xt.length ⟨#[]⟩
   have h0:(⟨#[]⟩:ByteArray).size=0:=rfl
   rw[dJ]
   show xs.size+1+_≤_
   omega
  simp -implicitDefEqProofs only[aA,seval]
  refine xA mixed (by decide +kernel) (by decide +kernel) ?_
  simp -implicitDefEqProofs only[aF,hs1,↓reduceIte,aA,seval,OF]
  refine iE (aO9 xt.length (by omega) (by omega) _ hT) ?_
  simp -implicitDefEqProofs only[hs2,hdx,↓reduceIte,aA,seval]
  first | exact aL.refl _ | exact⟨aL.refl _,rfl⟩
theorem aV9(a b:ByteArray)(st:aB):aD prog 189 [.str a,.str b] st (fun r st'=>r=.bool (vV a b)∧st'=st):=by
 unfold vV
 refine wF [1000000] 2 func189 ntmps189 rfl rfl ?_
 intro _
 simp -implicitDefEqProofs only[aA,seval]
 refine cS (fun h=>?_) (fun h=>?_)
 case refine_2=>
  have h':decide (a=⟨#[]⟩)=true:=by simpa using h
  simp -implicitDefEqProofs only[h,aA,seval]
  try simp []
 have h1:decide (a=⟨#[]⟩)=false:=by simpa using h
 simp -implicitDefEqProofs only[h,aA,seval]
 refine cS (fun h=>?_) (fun h=>?_)
 case refine_2=>
  have h':decide (b=⟨#[]⟩)=true:=by simpa using h
  simp -implicitDefEqProofs only[h,aA,seval]
  try simp []
 have h2:decide (b=⟨#[]⟩)=false:=by simpa using h
 simp -implicitDefEqProofs only[h,aA,seval]
 try simp [h1,h2]
theorem VY{h:bP}{st:aB}{b:Nat}{cs cs':List AV}(hb:st b=some (.cells cs)):cC h st h (st.aC b (.cells cs')):=
 ⟨dB _,fun y _ e=>⟨rfl,by
  have hne:y≠b:=by rintro rfl;rw[hb] at e;cases e
  rw[aB.aJ _ _ hne];exact e⟩,fun _ c _ _ e=>⟨c,e,rfl⟩⟩
theorem aBH{h:bP}{b:Nat}:∀ {vs:List Value} {off:Nat} (k:Nat),fH h b off vs→fH h b off (vs.take k)
 | _,_,0,_=>by simp [fH]
 | [],_,k+1,_=>by simp [fH]
 | v::vs,off,k+1,x=>⟨x.1,aBH k x.2⟩
theorem a6U{h:bP}{st:aB}{b:Nat}{cs:List AV}(k:Nat)(hb:st b=some (.cells cs))(S:cX h st):cX h (st.aC b (.cells (cs.take k))):=fun y o e=>by
 have T:=VY (h:=h) (cs':=cs.take k) hb
 by_cases hy:y=b
 · subst hy
   rw[aB.aP] at e
   cases e
   obtain⟨h1,c,t,e1,e2,vs,e3,e4⟩:=S y _ hb
   exact⟨h1,c,t,e1,lF (by rw[dQ];omega) e2,vs.take k,aBH k e3,bD.mono T _ _ (e4.take k)⟩
 · rw[aB.aJ _ _ hy] at e
   obtain⟨h1,h2⟩:=S y o e
   exact⟨h1,lK.mono T rfl h2⟩
theorem aD.cut{P:Program}{g:FuncId}{args:List AV}{st:aB}{Q:AV→aB→Prop}(x:aD P g args st (fun r st'=>∃b cs k,st' b=some (.cells cs)∧Q r (st'.aC b (.cells (cs.take k))))):aD P g args st Q:=
 x.mT fun r st' ⟨b,cs,k,h1,h2⟩=>⟨r,_,fun h S=>⟨a6U k h1 S,VY h1⟩,fun h v S y=>y.mono (VY h1),h2⟩
theorem aOK{st:aB}{b i:Nat}{cs:List AV}{x:AV}(hs:st b=some (.cells cs))(hx:cs[i]?=some x)(ha:x.isAgg=false):iM prog st 3 (.ptr b i)=some x:=by
 simp [iM,tI_3,hs,sub,hx,ha]
abbrev a72:=zi tI_3 (zi zI_3 (zi aZ (zi tI_46 (zi zI_46 (zi dK (zi fM (zi fJ fX)))))))
theorem a47(l:List Nat)(g:FuncId)(dT:List AV)(p:Nat→Bool)(b:Nat)(cs:List AV)(h9:l.length≤1048576)(st:aB)(hb:st b=some (.cells cs))(hcs:∀(i x:Nat),l[i]?=some x→cs[i]?=some (nv x))(hc:∀x∈l,aD prog g ([nv x]++dT) st (fun r st'=>r=.bool (p x)∧st'=st)) :
 aD prog 259 [.mslice b 0 l.length 1,.func g dT] st (fun r st'=>r=.int .i64 (pD p l 0)∧st'=st):=by
 refine wF [1000000] 2 func259 ntmps259 rfl rfl ?_
 intro _
 simp -implicitDefEqProofs only[aA,seval,a72]
 refine eH (σ:=Unit) [1000000] [0,1,7] l (fun i _=>pD p (l.drop i) i=pD p l 0) (fun i _=>[(8,.int .i64 i)]) (fun _ _=>st) (by decide +kernel) ⟨(),rfl,aN.mk (by simp -implicitDefEqProofs only[aA,↓aX,seval])⟩ (fun i x _ hx hlt bQ hdr hinv=>?_) (fun _ hge hinv=>?_)
 case refine_2=>
  simp -implicitDefEqProofs only[hge,aA,seval]
  rw[←hinv,j8]
  try rfl
 rw[hdr,pD] at hinv
 have hw:=bE (n:=(i:Int)+1)
 have hat:=pB (P:=prog) (t:=46) (b:=b) (w:=1) dK hlt
 rw[wU] at hat
 have hld:=aOK hb (hcs i x hx) rfl
 have hca:=hc x (cJ hx)
 simp only[nv,fQ,eS] at hld hca
 simp -implicitDefEqProofs only[bQ,hat,hld,aA,seval]
 refine(hca).to ?_
 simp -implicitDefEqProofs only[aA,seval]
 refine aS (fun h=>?_) (fun h=>?_)
 · rw[aH h] at hinv
   simp -implicitDefEqProofs only[hinv,aA,seval]
 · rw[aE (by simp [h])] at hinv
   simp -implicitDefEqProofs only[hw,aA,seval]
   exact⟨(),by rw[←hinv],aN.mk (by simp -implicitDefEqProofs only[aA,seval])⟩
end Go.AW

namespace Go.AW
open Go.Proofs.Tryz
open Go.Shelf
set_option linter.unusedSimpArgs false
set_option linter.unusedVariables false
set_option maxRecDepth 100000
def aY9:Go.Shelf.Ren:=⟨fun | 15=>187 | n=>n,fun | 22=>46 | 3=>3 | 4=>4 | n=>n,fun | n=>n⟩
theorem aY8:Go.Proofs.Lays2.n15 prog aY9:={
 mixed:=by kernel_rfl
 f15:=func187.trans (jG some (by kernel_rfl))
 t3:=aZ
 a3:=isAgg3
 z3:=sizeOf3
 v3:=zeroValue3
 t4:=cG
 a4:=isAgg4
 z4:=sizeOf4
 v4:=zeroValue4
 t22:=fX
 a22:=isAgg46
 z22:=sizeOf46
 v22:=zeroValue46
 i3:=by kernel_rfl }
def CI(i:Nat):Value:=.int .i64 (i:Int)
theorem YB{h:bP}{st:aB}{b:Nat}:∀ {l:List Nat} {off:Nat},dP h st b off (l.map nv)→∀(j x:Nat),l[j]?=some x→cellAt h b (off+j)=some (CI x)
 | [],_,_,j,x,e=>by simp at e
 | a::l,off,v,0,x,e=>by
  simp only[KP,Option.some.injEq] at e
  subst e
  obtain⟨⟨cs,c1,c2,c3⟩,_⟩:=v
  have c3:cs= [CI a]:=c3
  subst c3
  exact c1.1
 | a::l,off,v,j+1,x,e=>by
  rw[KO] at e
  have:=YB v.2 j x e
  rwa [show(nv a).width=1 from rfl,BF,Nat.add_comm 1 j] at this
theorem X9{h:bP}{st:aB}:∀l:List Nat,bD h st (l.map nv) (l.map CI)
 | []=>rfl
 | a::l=>⟨CI a,l.map CI,rfl,rfl,X9 l⟩
theorem a44(l:List Nat)(hl:l≠[])(h9:l.length≤1048576)(st:aB):aD prog 187 [.slice (l.map nv)] st (fun r st'=>∃b,st b=none∧r=.mslice b 0 l.length 1∧st'=st.aC b (.cells (l.map nv))):=by
 refine⟨⟨_,func187,rfl,by kernel_rfl⟩,fun w vs S V=>?_⟩
 obtain⟨v,r,rfl,v1,v2⟩:=V
 obtain rfl:r= []:=v2
 have hne:l.map nv≠[]:=by simpa using hl
 obtain⟨hag,hv⟩:=v1
 unfold VC at hv
 rcases hv with ⟨_,h⟩ | ⟨b,off,cap,e1,e2,e3,e4,e5,e6,e7⟩
 · exact absurd h hne
 obtain rfl:v=.slice (some ⟨b,off,none⟩) (l.map nv).length cap:=by
  cases v<;>first | exact absurd hag Bool.false_ne_true | simp_all [Value.cells]
 rw[aF]
 have iV:∀j,j<(l.map fun i:Nat=>(i:Int)).length→w.cell? ⟨b,off+j,none⟩=some (.int .i64 ((l.map fun i:Nat=>(i:Int)).getD j 0)):=fun j hj=>by
  rw[aF] at hj
  have h1:=YB e7 j l[j] (dZ hj)
  unfold cellAt at h1
  unfold World.cell?
  simp only[XV,nO,dZ hj,oD,GR]
  split at h1
  · rename_i hb;rw[hb];exact h1
  · cases h1
 refine(Go.Proofs.Any.slices_Clone_int aY8 b off l.length cap (l.map fun i:Nat=>(i:Int)) w (by rw[aF];omega) (by omega) iV).mono ?_
 rintro e w' ⟨v',rfl,⟨_,ho⟩,hnn,hB⟩
 rcases ho with ⟨h,_⟩ | ⟨g,aYS,cur,rfl,h1,h2,h3,h4,h5,h6⟩
 · exact absurd h hnn
 have X:Ext w.heap w'.heap:=⟨hB.size,hB.block⟩
 have hg:st g=none:=by
  cases hs:st g with
  | none=>rfl
  | some o=>exact absurd (S g o hs).1 (by omega)
 have hgl:g<w'.heap.size:=(DK.1 h2).1
 have T:cC w.heap st w'.heap (st.aC g (.cells (l.map nv))):=⟨hB.size,fun y hy hn=>⟨hB.block y hy,by rw[aB.aJ _ _ (by omega)];exact hn⟩,(X.step st).shape⟩
 have h7:(l.map fun i:Nat=>(i:Int)).take l.length=l.map fun i:Nat=>(i:Int):=lT (by rw[aF];omega)
 rw[wU] at h5 h6
 rw[h7,rW] at h6
 have hvs:(l.map CI)=(cur.toList.drop 0).take l.length:=by rw[rV,h6];try rfl
 refine⟨_,.mslice g 0 l.length 1,st.aC g (.cells (l.map nv)),rfl,⟨rfl,aYS,rfl,h3,h4,cur,_,h2,by omega⟩,fun y o e=>?_,T,⟨hB.os,hB.tape,hB.output⟩,g,hg,rfl,rfl⟩
 by_cases hy:y=g
 · subst hy
   rw[aB.aP] at e
   cases e
   exact⟨hgl,cur,_,h2,by rw[aF];omega,l.map CI,by rw[hvs];exact BT h2 _ 0 (by omega),X9 l⟩
 · rw[aB.aJ _ _ hy] at e
   obtain⟨p1,p2⟩:=S y o e
   exact⟨u9 p1 hB.size,lK.mono T (hB.block y p1) p2⟩
end Go.AW

