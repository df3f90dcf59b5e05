import Derived.Test.YtkkihpokegenbaaGreatDoorVai
import Derived.Test.YtkkihpokegenbaaGreatDoorVah
set_option linter.unusedSimpArgs false
set_option linter.unusedVariables false
set_option maxRecDepth 100000
namespace Go.AW
open Go.Proofs.Tryz
theorem GC{φ:AF}{y z:Operand}{s:ByteArray}{k m:Nat}(h:φ.eval y=.int .i64 (k:Int))(h':φ.eval z=.int .i64 (m:Int))(hk:k≤m)(hm:m≤s.size):gJ prog φ 9 (.str s) (some y) (some z) none=some (.str (s.extract k m)):=by
 unfold gJ nU
 rw[aK (by simp [qV])]
 simp only[show prog.underlying 9=some .string from nO,dE,h,h']
 rw[aN (by omega)]
 simp only[gI]
 rw[aN (by omega)]
 try simp
theorem MP(s:ByteArray)(n:Nat)(p:UInt8→Bool):nX s (n:Int) p=eV (sb s) n p:=by
 unfold nX eV
 rw[gI]
 by_cases h:n<s.size
 · rw[d9 (by omega:(0:Int)≤(n:Int)),d9 (by omega:(n:Int)<(s.size:Int))];try rfl
 · rw[eM (by omega:¬(n:Int)<(s.size:Int)),uD (by rw[b9];omega)];simp
theorem kE(s:ByteArray)(n c:Nat)(st:aA):aD prog 137 [.str s,.int .i64 (n:Int),.int .u8 (c:Int)] st (fun r st'=>r=.bool (cD (sb s) n c)∧st'=st):=by
 have h:=aQM s n c st
 rwa [show xC s n c=cD (sb s) n c from MP s n _] at h
theorem y6(s:ByteArray)(n:Nat)(st:aA):aD prog 242 [.str s,.int .i64 (n:Int)] st (fun r st'=>r=.bool (eV (sb s) n cY)∧st'=st):=by
 have h:=aQF s n st
 rwa [show wK s n=eV (sb s) n cY from MP s n _] at h
theorem aHF(s:ByteArray)(n:Nat)(st:aA):aD prog 304 [.str s,.int .i64 (n:Int)] st (fun r st'=>r=.bool (eV (sb s) n letter)∧st'=st):=by
 have h:=aQO s n st
 rwa [show xE s n=eV (sb s) n letter from MP s n _] at h
theorem SK{n k:Nat}(h:n≤1048576)(hk:k≤1048576):IntKind.wrap .i64 ((n:Int)+(k:Int))=((n+k:Nat):Int):=by
 rw[wrap64 (by omega) (by omega)];try rfl
abbrev DH:=zi aS (zi bV (zi gD cH))
theorem TJ(s:ByteArray)(hd:∀x∈sb s,cY x=true)(hl:s.size≤4)(st:aA):aD prog 303 [.str s] st (fun r st'=>r=.tup [.int .i64 ((fR (sb s)).1:Int),.bool (fR (sb s)).2]∧st'=st):=by
 refine wF [1000000] 1 func303 ntmps303 rfl rfl ?_
 intro _
 by_cases hs:s.size=0
 · have e:fR (sb s)=(0,false):=by unfold fR;rw[aN (Or.inl (by rw[b9];exact hs))]
   rw[e]
   simp only[hs,aB,↓aU,seval,DH]
 have wR:(0:Int)<(s.size:Int):=by omega
 obtain⟨x0,hx0⟩:=uS (s:=s) (n:=0) (by omega)
 have hix:=pP (P:=prog) (t:=9) nO hx0
 rw[show((0:Nat):Int)=0 from rfl] at hix
 have hdx:=hd x0 (cQ hx0)
 simp only[cY,bD,bA] at hdx
 have h45:((x0.toNat:Int)=45)=False:=bG (by omega)
 have h0:((s.size:Int)=0)=False:=bG (by omega)
 have h17:((17:Int)<(s.size:Int))=False:=bG (by omega)
 simp only[wR,hix,h45,h0,h17,aZ,bB,aB,seval,DH]
 by_cases h48:x0.toNat=48
 case pos=>
  have B0:((x0.toNat:Int)=48)=True:=bT (by omega)
  by_cases h1:1<s.size
  case pos=>
   have h1':((1:Int)<(s.size:Int))=True:=bT (by omega)
   have e:fR (sb s)=(0,false):=by unfold fR;rw[aN (Or.inr ⟨by rw[r9 hx0,h48];try rfl,by rw[b9];exact h1⟩)]
   rw[e]
   simp only[B0,h1',aZ,aB,↓aU,seval,DH]
  have h1':((1:Int)<(s.size:Int))=False:=bG (by omega)
  have hnd:fR (sb s)=(mO (sb s),true):=by unfold fR;rw[aK (by rw[b9];rintro(h | ⟨_,h⟩)<;>omega)]
  simp only[B0,h1',aZ,bB,aB,seval,DH]
  rw[hnd]
  refine i8 (σ:=Nat) [1000000] [0,4] (fun i=>i≤s.size) (fun i=>[(5,.int .i64 (mO ((sb s).take i):Int)),(6,.int .i64 (i:Int))]) (fun _=>st) (fun i=>s.size - i) (by decide +kernel) ⟨0,by omega,aO.mk (by simp only[mK,aB,↓aU,seval];rfl)⟩ ?_
  intro i hi
  have hb:mO ((sb s).take i)<10000:=uF (NE fun x hx=>hd x (lY hx)) (lZ (Nat.pow_le_pow_right (by omega) (by rw[dK];omega:((sb s).take i).length≤4)) (by decide))
  simp only[aB,seval,DH]
  refine aQ (fun h5=>?_) (fun h5=>?_)
  case refine_2=>
   simp only[dC] at h5
   obtain rfl:i=s.size:=by omega
   rw[oR (by rw[b9];omega)]
   simp only[aB,seval]
  simp only[bA] at h5
  obtain⟨c,hc⟩:=uS (s:=s) (n:=i) (by omega)
  have hic:=pP (P:=prog) (t:=9) nO hc
  have hdc:=hd c (cQ hc)
  simp only[cY,bD,bA] at hdc
  have c48:((c.toNat:Int)<48)=False:=bG (by omega)
  have c57:((57:Int)<(c.toNat:Int))=False:=bG (by omega)
  have hw0:=SK (n:=i) (k:=1) (by omega) (by omega)
  rw[show((1:Nat):Int)=1 from rfl] at hw0
  have hw1:=bC (n:=(mO ((sb s).take i):Int)*10)
  have hw2:IntKind.wrap .u8 ((c.toNat:Int) - 48)=((c.toNat - 48:Nat):Int):=by rw[IntKind.wrap_u8];omega
  have hw3:=bC (n:=((c.toNat - 48:Nat):Int))
  have hw4:=bC (n:=(mO ((sb s).take i):Int)*10+((c.toNat - 48:Nat):Int))
  have fC:=UY hc
  simp only[hic,c48,c57,hw1,hw2,bB,aB,seval]
  refine⟨i+1,by omega,by omega,aO.mk ?_⟩
  rw[fC]
  simp only[hw0,hw3,hw4,aB,seval]
  rfl
 have B0:((x0.toNat:Int)=48)=False:=bG (by omega)
 have hnd:fR (sb s)=(mO (sb s),true):=by unfold fR;rw[aK (by rw[b9,r9 hx0];rintro(h | ⟨h,_⟩);omega;exact h48 (of_decide_eq_true h))]
 simp only[B0,bB,aB,seval]
 rw[hnd]
 refine i8 (σ:=Nat) [1000000] [0,4] (fun i=>i≤s.size) (fun i=>[(5,.int .i64 (mO ((sb s).take i):Int)),(6,.int .i64 (i:Int))]) (fun _=>st) (fun i=>s.size - i) (by decide +kernel) ⟨0,by omega,aO.mk (by simp only[mK,aB,↓aU,seval];rfl)⟩ ?_
 intro i hi
 have hb:mO ((sb s).take i)<10000:=uF (NE fun x hx=>hd x (lY hx)) (lZ (Nat.pow_le_pow_right (by omega) (by rw[dK];omega:((sb s).take i).length≤4)) (by decide))
 simp only[aB,seval,DH]
 refine aQ (fun h5=>?_) (fun h5=>?_)
 case refine_2=>
  simp only[dC] at h5
  obtain rfl:i=s.size:=by omega
  rw[oR (by rw[b9];omega)]
  simp only[aB,seval]
 simp only[bA] at h5
 obtain⟨c,hc⟩:=uS (s:=s) (n:=i) (by omega)
 have hic:=pP (P:=prog) (t:=9) nO hc
 have hdc:=hd c (cQ hc)
 simp only[cY,bD,bA] at hdc
 have c48:((c.toNat:Int)<48)=False:=bG (by omega)
 have c57:((57:Int)<(c.toNat:Int))=False:=bG (by omega)
 have hw0:=SK (n:=i) (k:=1) (by omega) (by omega)
 rw[show((1:Nat):Int)=1 from rfl] at hw0
 have hw1:=bC (n:=(mO ((sb s).take i):Int)*10)
 have hw2:IntKind.wrap .u8 ((c.toNat:Int) - 48)=((c.toNat - 48:Nat):Int):=by rw[IntKind.wrap_u8];omega
 have hw3:=bC (n:=((c.toNat - 48:Nat):Int))
 have hw4:=bC (n:=(mO ((sb s).take i):Int)*10+((c.toNat - 48:Nat):Int))
 have fC:=UY hc
 simp only[hic,c48,c57,hw1,hw2,bB,aB,seval]
 refine⟨i+1,by omega,by omega,aO.mk ?_⟩
 rw[fC]
 simp only[hw0,hw3,hw4,aB,seval]
 rfl
theorem jL{x:Int}{m:Nat}(h:x=(m:Int))(hm:m≤1099511627776):IntKind.wrap .i64 x=(m:Int):=by rw[wrap64 (by omega) (by omega)];exact h
abbrev GT:Tm:=.mk 0 0 ⟨#[]⟩ []
def y8(o:Option (Int×Nat)):AV:=match o with | some (n,e)=>.tup [(Tm.mk 2 n ⟨#[]⟩ []).av,.int .i64 (e:Int)] | none=>.tup [GT.av,.int .i64 (-1)]
abbrev zU:=zi aS (zi bV (zi gD (zi vY (zi cH cC))))
set_option maxHeartbeats 1000000 in
theorem aQJ(s:ByteArray)(hs:s.size≤1000)(a:Nat)(ha:a≤s.size)(st:aA):aD prog 243 [.str s,.int .i64 (a:Int)] st (fun r st'=>r=y8 (tS (sb s) a)∧st'=st):=by
 refine aD.done ?_
 refine wF [1000000] 2 func243 ntmps243 rfl rfl ?_
 intro _
 simp only[aB,seval,zU]
 intro b hb
 refine(kE s a 45 _).to ?_
 obtain⟨f1,hf1⟩:∃f,f=a+1:=⟨_,rfl⟩
 have hw1:=jL (x:=(a:Int)+1) (m:=f1) (by omega) (by omega)
 simp only[aB,seval]
 refine aQ (fun h1=>?_) (fun h1=>?_)
 · have hf:=nB h1
   rw[b9] at hf
   simp only[hw1,aB,seval]
   obtain⟨f,rfl⟩:∃f,f=f1:=⟨_,rfl⟩
   replace hf:f≤s.size:=by omega
   refine i8 (σ:=Nat) [1000000] [0,1,4,5,7] (fun j=>f≤j∧j≤f+4∧j - f≤(((sb s).drop f).takeWhile cY).length) (fun j=>[(6,.int .i64 (j:Int))]) (fun _=>st.aC b (.cells [.int .i64 0,.int .i64 0,.str ⟨#[]⟩,.fslice []])) (fun j=>f+4 - j) (by decide +kernel) ⟨f,⟨by omega,by omega,by omega⟩,aO.mk (by simp only[aB,seval])⟩ ?_
   rintro j ⟨hj1,hj4,hj⟩
   have hfi:j≤s.size:=by have:=GX cY ((sb s).drop f);rw[j6,b9] at this;omega
   simp only[aB,seval]
   refine(y6 s j _).to ?_
   have hw4:=bC (n:=(f:Int)+4)
   have FK:=bC (n:=(j:Int)+1)
   simp only[aB,seval]
   refine cK (fun h5=>?_) (fun h5=>?_)
   simp only[h5,hw4,aB,seval]
   refine aQ (fun h6=>?_) (fun h6=>?_)
   case' refine_1.refine_1=>
    rw[show j=f+(j - f) by omega,←B8] at h5
    simp only[bA] at h6
    simp only[FK,aB,seval]
    exact⟨j+1,by omega,⟨by omega,by omega,by have:=Q2 hj h5;omega⟩,aO.mk (by simp only[aB,seval]<;>rfl)⟩
   all_goals
    have ht:(((sb s).drop f).takeWhile cY).take 4=((sb s).drop f).take (j - f):=by
     rw[aK4 hj]
     rcases kK (j - f) 4 with h7 | h7
     · have h8:j - f=(((sb s).drop f).takeWhile cY).length:=by
        refine Q1 hj ?_
        rw[B8,show f+(j - f)=j by omega]
        first | exact h5 | (simp only[dC] at h6;omega)
       rw[h8,d6,oR (by omega)]
     · rw[show j - f=4 by omega]
    have hex:s.extract f j=ba ((((sb s).drop f).takeWhile cY).take 4):=by rw[ES,ht]
    have hln:((((sb s).drop f).takeWhile cY).take 4).length=j - f:=by rw[ht,dK,j6,b9];omega
    have hdg:∀x∈(((sb s).drop f).takeWhile cY).take 4,cY x=true:=fun x hx=>aK3 x (lY hx)
    have hsl:=fun(φ:AF) (y z:Operand) (h:φ.eval y=.int .i64 (f:Int)) (h':φ.eval z=.int .i64 (j:Int))=>GC (s:=s) h h' hj1 hfi
    rw[hex] at hsl
    have hrd:tS (sb s) a=if(fR ((((sb s).drop f).takeWhile cY).take 4)).2=false∨(a<f∧(fR ((((sb s).drop f).takeWhile cY).take 4)).1=0)∨999<(fR ((((sb s).drop f).takeWhile cY).take 4)).1 then none else some (if a<f then -((fR ((((sb s).drop f).takeWhile cY).take 4)).1:Int) else((fR ((((sb s).drop f).takeWhile cY).take 4)).1:Int),f+((((sb s).drop f).takeWhile cY).take 4).length):=by
     unfold tS
     simp only[h1,↓reduceIte,←hf1]
    rw[hrd]
    clear hrd
    generalize (((sb s).drop f).takeWhile cY).take 4=t at *
    simp only[hsl,h5,aB,seval]
    refine(TJ (ba t) hdg (by show t.length≤4;omega) _).to ?_
    have hn:=aHK hdg (by omega)
    rw[show sb (ba t)=t from rfl]
    generalize fR t=nd at *
    obtain⟨n,ok⟩:=nd
    simp only at hn ⊢
    have hw5:=bC (n:=0 - (n:Int))
    have hw6:=bC (n:= -(n:Int))
    have hfa:((a:Int)<(f:Int))=True:=bT (by omega)
    have hfn:(a<f)=True:=bT (by omega)
    cases ok
    case false=>
     simp only[aG,aB,seval,zU]
     refine⟨?_,(aL.refl _).aC hb⟩
     rw[aN (Or.inl trivial)]
     simp only[y8,bU,jV,kG,jW,nJ,nI,bL,bE,bE]
    by_cases hz:(n:Int)=0
    case' pos=>have hz':n=0:=by omega
    case' neg=>have hz':n≠0:=by omega
    all_goals
     by_cases h9:(999:Int)<(n:Int)
     case' pos=>have h9':999<n:=by omega
     case' neg=>have h9':¬ 999<n:=by omega
     all_goals try (exfalso;omega)
     all_goals
      simp only[aG,hw5,hz,h9,hfa,aB,seval,zU]
      try
       refine(MX _ _).to ?_
       simp only[aG,aB,seval,zU]
      refine⟨?_,(aL.refl _).aC hb⟩
      first
       | rw[aN (by omega)]
       | rw[aK (by omega),aN (by omega),show f+t.length=j by omega]
       | rw[aK (by omega),aK (by omega),show f+t.length=j by omega]
      simp only[y8,bU,jV,kG,jW,nJ,pV,nI,bL,bE,bE,Int.zero_sub]
 · skip
   simp only[aB,seval]
   obtain⟨f,rfl⟩:∃f,f=a:=⟨_,rfl⟩
   have hf:=ha
   refine i8 (σ:=Nat) [1000000] [0,1,4,5,7] (fun j=>f≤j∧j≤f+4∧j - f≤(((sb s).drop f).takeWhile cY).length) (fun j=>[(6,.int .i64 (j:Int))]) (fun _=>st.aC b (.cells [.int .i64 0,.int .i64 0,.str ⟨#[]⟩,.fslice []])) (fun j=>f+4 - j) (by decide +kernel) ⟨f,⟨by omega,by omega,by omega⟩,aO.mk (by simp only[aB,seval])⟩ ?_
   rintro j ⟨hj1,hj4,hj⟩
   have hfi:j≤s.size:=by have:=GX cY ((sb s).drop f);rw[j6,b9] at this;omega
   simp only[aB,seval]
   refine(y6 s j _).to ?_
   have hw4:=bC (n:=(f:Int)+4)
   have FK:=bC (n:=(j:Int)+1)
   simp only[aB,seval]
   refine cK (fun h5=>?_) (fun h5=>?_)
   simp only[h5,hw4,aB,seval]
   refine aQ (fun h6=>?_) (fun h6=>?_)
   case' refine_1.refine_1=>
    rw[show j=f+(j - f) by omega,←B8] at h5
    simp only[bA] at h6
    simp only[FK,aB,seval]
    exact⟨j+1,by omega,⟨by omega,by omega,by have:=Q2 hj h5;omega⟩,aO.mk (by simp only[aB,seval]<;>rfl)⟩
   all_goals
    have ht:(((sb s).drop f).takeWhile cY).take 4=((sb s).drop f).take (j - f):=by
     rw[aK4 hj]
     rcases kK (j - f) 4 with h7 | h7
     · have h8:j - f=(((sb s).drop f).takeWhile cY).length:=by
        refine Q1 hj ?_
        rw[B8,show f+(j - f)=j by omega]
        first | exact h5 | (simp only[dC] at h6;omega)
       rw[h8,d6,oR (by omega)]
     · rw[show j - f=4 by omega]
    have hex:s.extract f j=ba ((((sb s).drop f).takeWhile cY).take 4):=by rw[ES,ht]
    have hln:((((sb s).drop f).takeWhile cY).take 4).length=j - f:=by rw[ht,dK,j6,b9];omega
    have hdg:∀x∈(((sb s).drop f).takeWhile cY).take 4,cY x=true:=fun x hx=>aK3 x (lY hx)
    have hsl:=fun(φ:AF) (y z:Operand) (h:φ.eval y=.int .i64 (f:Int)) (h':φ.eval z=.int .i64 (j:Int))=>GC (s:=s) h h' hj1 hfi
    rw[hex] at hsl
    have hrd:tS (sb s) f=if(fR ((((sb s).drop f).takeWhile cY).take 4)).2=false∨(f<f∧(fR ((((sb s).drop f).takeWhile cY).take 4)).1=0)∨999<(fR ((((sb s).drop f).takeWhile cY).take 4)).1 then none else some (if f<f then -((fR ((((sb s).drop f).takeWhile cY).take 4)).1:Int) else((fR ((((sb s).drop f).takeWhile cY).take 4)).1:Int),f+((((sb s).drop f).takeWhile cY).take 4).length):=by
     unfold tS
     simp only[h1,↓reduceIte,iF]
    rw[hrd]
    clear hrd
    generalize (((sb s).drop f).takeWhile cY).take 4=t at *
    simp only[hsl,h5,aB,seval]
    refine(TJ (ba t) hdg (by show t.length≤4;omega) _).to ?_
    have hn:=aHK hdg (by omega)
    rw[show sb (ba t)=t from rfl]
    generalize fR t=nd at *
    obtain⟨n,ok⟩:=nd
    simp only at hn ⊢
    have hw5:=bC (n:=0 - (n:Int))
    have hw6:=bC (n:= -(n:Int))
    have hfa:((f:Int)<(f:Int))=False:=bG (by omega)
    have hfn:(f<f)=False:=bG (by omega)
    cases ok
    case false=>
     simp only[aG,aB,seval,zU]
     refine⟨?_,(aL.refl _).aC hb⟩
     rw[aN (Or.inl trivial)]
     simp only[y8,bU,jV,kG,jW,nJ,nI,bL,bE,bE]
    by_cases hz:(n:Int)=0
    case' pos=>have hz':n=0:=by omega
    case' neg=>have hz':n≠0:=by omega
    all_goals
     by_cases h9:(999:Int)<(n:Int)
     case' pos=>have h9':999<n:=by omega
     case' neg=>have h9':¬ 999<n:=by omega
     all_goals try (exfalso;omega)
     all_goals
      simp only[aG,hz,h9,hfa,aB,seval,zU]
      try
       refine(MX _ _).to ?_
       simp only[aG,aB,seval,zU]
      refine⟨?_,(aL.refl _).aC hb⟩
      first
       | rw[aN (by omega)]
       | rw[aK (by omega),aN (by omega),show f+t.length=j by omega]
       | rw[aK (by omega),aK (by omega),show f+t.length=j by omega]
      simp only[y8,bU,jV,kG,jW,nJ,pV,nI,bL,bE,bE]
def y7(o:Option (ByteArray×Nat)):AV:=match o with | some (b,e)=>.tup [.str b,.int .i64 (e:Int)] | none=>.tup [.str ⟨#[]⟩,.int .i64 (-1)]
theorem aQN(st:aA):aD prog 305 [] st (fun r st'=>r=.slice (gT.map .str)∧st'=st):=aD.done ((TQ st).mono (by rintro _ _ ⟨rfl,rfl⟩;exact⟨rfl,aL.refl _⟩))
abbrev zW:=zi aS (zi cH rD)
set_option maxHeartbeats 1000000 in
theorem MY(s:ByteArray)(hs:s.size≤1000)(a:Nat)(ha:a≤s.size)(st:aA):aD prog 244 [.str s,.int .i64 (a:Int)] st (fun r st'=>r=y7 (nG (sb s) a)∧st'=st):=by
 refine wF [1000000] 2 func244 ntmps244 rfl rfl ?_
 intro _
 simp only[aB,seval]
 refine i8 (σ:=Nat) [1000000] [0,1,4,5] (fun j=>a≤j∧j - a≤(((sb s).drop a).takeWhile letter).length) (fun j=>[(6,.int .i64 (j:Int))]) (fun _=>st) (fun j=>s.size - j) (by decide +kernel) ⟨a,⟨by omega,by omega⟩,aO.mk (by simp only[aB,seval])⟩ ?_
 rintro j ⟨hj1,hj⟩
 have hfi:j≤s.size:=by have:=GX letter ((sb s).drop a);rw[j6,b9] at this;omega
 simp only[aB,seval]
 refine(aHF s j _).to ?_
 have hw6:=bC (n:=(a:Int)+6)
 have FK:=bC (n:=(j:Int)+1)
 simp only[aB,seval]
 refine aQ (fun h5=>?_) (fun h5=>?_)
 · have hlt:=aYA h5
   rw[show j=a+(j - a) by omega,←B8] at h5
   simp only[FK,aB,seval]
   exact⟨j+1,by rw[b9] at hlt;omega,⟨by omega,by have:=Q2 hj h5;omega⟩,aO.mk (by simp only[aB,seval]<;>rfl)⟩
 rw[show j=a+(j - a) by omega,←B8] at h5
 have he:=Q1 hj h5
 have hex:s.extract a j=ba (((sb s).drop a).takeWhile letter):=by rw[ES,he,aK5]
 have hsl:=fun(φ:AF) (y z:Operand) (h:φ.eval y=.int .i64 (a:Int)) (h':φ.eval z=.int .i64 (j:Int))=>GC (s:=s) h h' hj1 hfi
 rw[hex] at hsl
 simp only[hw6,aB,seval]
 refine aQ (fun h6=>?_) (fun h6=>?_)
 · simp only[bA] at h6
   simp only[aB,seval]
   unfold nG
   rw[aN (by omega)]
   try rfl
 simp only[dC] at h6
 simp only[aB,seval]
 refine aQ (fun h7=>?_) (fun h7=>?_)
 · simp only[bA] at h7
   simp only[hsl,aB,seval]
   unfold nG
   rw[aK (by omega),aN (by omega),←he,show a+(j - a)=j by omega]
   try rfl
 simp only[dC] at h7
 obtain rfl:j=a:=by omega
 have hrd:nG (sb s) j=if(gT.foldl (jC ((sb s).drop j)) ⟨#[]⟩).size=0 then none else some (gT.foldl (jC ((sb s).drop j)) ⟨#[]⟩,j+(gT.foldl (jC ((sb s).drop j)) ⟨#[]⟩).size):=by
  unfold nG
  rw[aK (by omega),aK (by omega)]
 rw[hrd]
 clear hrd
 simp only[aB,seval]
 refine(aQN _).to ?_
 simp only[aB,seval]
 refine i8 (σ:=Nat) [1000000] [0,1,4,5,8] (fun i=>i≤gT.length) (fun i=>[(7,.str ((gT.take i).foldl (jC ((sb s).drop j)) ⟨#[]⟩)),(9,.int .i64 (i:Int))]) (fun _=>st) (fun i=>gT.length - i) (by decide +kernel) ⟨0,by omega,aO.mk (by simp only[mK,List.foldl_nil,aB,↓aU,seval])⟩ ?_
 intro i hi
 have hbl:=aOB ((sb s).drop j) i
 simp only[aE,aB,seval,zW]
 refine aQ (fun h8=>?_) (fun h8=>?_)
 case refine_2=>
  simp only[dC] at h8
  rw[show i=gT.length by omega,d6] at hbl ⊢
  generalize gT.foldl (jC ((sb s).drop j)) ⟨#[]⟩=g at *
  have hw7:=bC (n:=(j:Int)+(g.size:Int))
  simp only[aB,seval]
  refine aQ (fun h9=>?_) (fun h9=>?_)
  · simp only[bA] at h9
    subst h9
    simp only[aB,seval]
    rfl
  · simp only[dC] at h9
    simp only[hw7,aB,seval,zW]
    rw[aK fun h=>h9 (aN8 h)]
    try rfl
 simp only[bA] at h8
 obtain⟨g,hg⟩:∃g,gT[i]?=some g:=⟨_,eL (by omega)⟩
 have hat:=bS (av:=AV.str) tC hg rfl
 have hgl:=aIY g (cQ hg)
 have h15:gT.length=15:=rfl
 obtain⟨m,hm⟩:∃m,m=j+g.size:=⟨_,rfl⟩
 have hwn:=jL (x:=(j:Int)+(g.size:Int)) (m:=m) (by omega) (by omega)
 have hw1:=bC (n:=(i:Int)+1)
 have fC:(gT.take (i+1)).foldl (jC ((sb s).drop j)) ⟨#[]⟩=jC ((sb s).drop j) ((gT.take i).foldl (jC ((sb s).drop j)) ⟨#[]⟩) g:=by
  rw[eS,hg,HA];try rfl
 generalize hB:(gT.take i).foldl (jC ((sb s).drop j)) ⟨#[]⟩=B at *
 simp only[hat,aB,seval,zW]
 refine wP [(0,1),(1,1),(2,1),(3,1),(4,1),(5,1),(6,1),(7,1),(8,1),(9,1),(10,1),(11,1),(12,1),(13,1),(14,1),(15,1),(16,2),(17,1),(18,1),(19,1),(20,1),(21,1),(22,1),(23,1),(24,1)] [0,1,2,3,4,5,6,7,8,9,10,11,12,13,14,15,16,17,18,19,20,21,22,23,24] mixed ?_
 by_cases hle:m≤s.size
 · have hex:s.extract j m=ba (((sb s).drop j).take g.size):=by rw[ES,hm,Nat.add_sub_cancel_left]
   have hsl:=fun(φ:AF) (y z:Operand) (h:φ.eval y=.int .i64 (j:Int)) (h':φ.eval z=.int .i64 (m:Int))=>GC (s:=s) h h' (by omega) hle
   rw[hex] at hsl
   have FF:((m:Int)≤(s.size:Int))=True:=bT (by omega)
   by_cases heq:ba (((sb s).drop j).take g.size)=g
   · by_cases hlt:B.size<g.size
     · have bP:((B.size:Int)<(g.size:Int))=True:=bT (by omega)
       have hb:jC ((sb s).drop j) B g=g:=by unfold jC;rw[aN ⟨rX sb heq,hlt⟩]
       simp only[hat,hwn,hw1,FF,hsl,heq,bP,aZ,aB,seval,zW]
       exact⟨i+1,by omega,by omega,aO.mk (by simp only[fC,hb,aB,seval])⟩
     · have bP:((B.size:Int)<(g.size:Int))=False:=bG (by omega)
       have hb:jC ((sb s).drop j) B g=B:=by unfold jC;rw[aK fun h=>hlt h.2]
       simp only[hat,hwn,hw1,FF,hsl,heq,bP,aZ,bB,aB,seval,zW]
       exact⟨i+1,by omega,by omega,aO.mk (by simp only[fC,hb,aB,seval])⟩
   · have hb:jC ((sb s).drop j) B g=B:=by unfold jC;rw[aK fun h=>heq (by rw[h.1])]
     simp only[hat,hwn,hw1,FF,hsl,heq,aZ,bB,aB,seval,zW]
     exact⟨i+1,by omega,by omega,aO.mk (by simp only[fC,hb,aB,seval])⟩
 · have FF:((m:Int)≤(s.size:Int))=False:=bG (by omega)
   have hb:jC ((sb s).drop j) B g=B:=by
    unfold jC
    rw[aK]
    rintro⟨h,_⟩
    have:=rX List.length h
    rw[dK,j6,b9,b9] at this
    omega
   simp only[hwn,hw1,FF,bB,aB,seval,zW]
   exact⟨i+1,by omega,by omega,aO.mk (by simp only[fC,hb,aB,seval])⟩
end Go.AW
namespace Go.AW
def gF(nm:ByteArray):Bool:=decide (nm=⟨#[105,115]⟩)||decide (nm=⟨#[109,111,100]⟩)
def pS(l:List UInt8)(a:Nat):Option (ByteArray×Nat):=
 let f:=if cD l a 32 then a+1 else a
 if l.length≤f then none else match nG l f with
 | none=>none
 | some (nm,e)=>if cV nm=0 then none else if gF nm≠decide (a<f)∨(gF nm=true∧cD l e 32=false) then none else some (nm,if gF nm then e+1 else e)
abbrev kL:=Nat→Option (Tm×Nat)
def rF(R:kL)(l:List UInt8)(c1 c2:Nat):Nat→Nat→List Tm→Option (List Tm×Nat)
 | 0,_,_=>none
 | n+1,a,acc=>match R a with
  | none=>none
  | some (t,e)=>if(cD l e c1||cD l e c2)=true then some (acc++ [t],e) else if cD l e 44 then rF R l c1 c2 n (e+1) (acc++ [t]) else none
abbrev nD (nm:ByteArray) (ts:List Tm):Tm:=.mk 3 0 nm ts
def uV:List Tm→Tm→Tm
 | [],t=>t
 | x::xs,t=>nD ⟨#[46]⟩ [x,uV xs t]
def yW(R:kL)(l:List UInt8)(a:Nat):Option (Tm×Nat):=
 match rF R l 93 124 (l.length+1) a [] with
 | none=>none
 | some (ts,e)=>if cD l e 93 then some (uV ts (nD ⟨#[91,93]⟩ []),e+1) else match R (e+1) with
  | none=>none
  | some (t,e')=>if cD l e' 93 then some (uV ts t,e'+1) else none
def HY(l:List UInt8)(a:Nat):Nat:=match l[a]? with | some x=>x.toNat | none=>0
def l9(R:Nat→kL)(l:List UInt8)(d a:Nat):Option (Tm×Nat):=
 if d<1∨l.length≤a then none
 else if cD l a 40 then match R d (a+1) with
  | none=>none
  | some (t,e)=>if cD l e 41 then some (t,e+1) else none
 else if(cD l a 91&& !cD l (a+1) 93)=true then yW (R (d - 1)) l (a+1)
 else if eV l a sL then some (vr ((HY l a - 65:Nat):Int),a+1)
 else if(eV l a cY||(cD l a 45&&eV l (a+1) cY))=true then match tS l a with
  | none=>none
  | some (n,e)=>some (.mk 2 n ⟨#[]⟩ [],e)
 else match nG l a with
  | none=>none
  | some (nm,e)=>if cD l e 40=false then some (nD nm [],e) else match rF (R (d - 1)) l 41 41 (l.length+1) (e+1) [] with
   | none=>none
   | some (ts,e')=>some (nD nm ts,e'+1)
def CM(R:kL)(l:List UInt8)(lev:Nat):Nat→Tm→Nat→Option (Tm×Nat)
 | 0,_,_=>none
 | n+1,left,e=>match pS l e with
  | none=>some (left,e)
  | some (nm,e1)=>if cV nm≠lev then some (left,e) else match R e1 with
   | none=>none
   | some (rt,e2)=>if lev=3 then some (nD nm [left,rt],e2) else CM R l lev n (nD nm [left,rt]) e2
def rd(l:List UInt8):Nat→Nat→Nat→Nat→Option (Tm×Nat)
 | 0,_,_,_=>none
 | n+1,d,a,0=>l9 (fun d a=>rd l n d a 3) l d a
 | n+1,d,a,lv+1=>match rd l n d a lv with
  | none=>none
  | some (t,e)=>CM (fun a=>rd l n d a lv) l (lv+1) (l.length+1) t e
theorem a1A{l:List UInt8}{a c:Nat}(ha:a≤l.length):a≤(if cD l a c=true then a+1 else a)∧(if cD l a c=true then a+1 else a)≤l.length:=by
 split
 · have:=nB ‹_›;omega
 · omega
theorem a0P{l:List UInt8}{a:Nat}{x:Int}{e:Nat}(ha:a≤l.length)(h:tS l a=some (x,e)):a<e∧e≤l.length:=by
 unfold tS at h
 have hf:=a1A (c:=45) ha
 simp only at h
 generalize (if cD l a 45=true then a+1 else a)=f at h hf
 split at h
 · cases h
 rename_i h1
 simp only[Option.some.injEq,Prod.mk.injEq] at h
 obtain⟨_,rfl⟩:=h
 have h2:(((l.drop f).takeWhile cY).take 4).length≠0:=by
  intro h0
  refine h1 (Or.inl ?_)
  unfold fR
  rw[aN (Or.inl h0)]
 have h3:=GX cY (l.drop f)
 rw[j6] at h3
 have h4:(((l.drop f).takeWhile cY).take 4).length≤((l.drop f).takeWhile cY).length:=by rw[dK];omega
 omega
theorem SY(L:List UInt8):∀(gs:List ByteArray) (b:ByteArray),b.size≤L.length→(gs.foldl (jC L) b).size≤L.length
 | [],b,h=>h
 | g::gs,b,h=>by
  rw[uC]
  refine SY L gs _ ?_
  unfold jC
  split
  · rename_i h1
    have:=rX List.length h1.1
    rw[dK,b9] at this
    omega
  · exact h
theorem FZ{l:List UInt8}{a:Nat}{x:ByteArray}{e:Nat}(ha:a≤l.length)(h:nG l a=some (x,e)):a<e∧e≤l.length:=by
 unfold nG at h
 simp only at h
 have h3:=GX letter (l.drop a)
 rw[j6] at h3
 split at h
 · cases h
 split at h
 · cases h;omega
 split at h
 · cases h
 · have:=SY (l.drop a) gT ⟨#[]⟩ (iI _)
   rw[j6] at this
   cases h;omega
theorem aH1{l:List UInt8}{a:Nat}{x:ByteArray}{e:Nat}(h:pS l a=some (x,e)):a<e∧e≤l.length∧cV x≠0:=by
 unfold pS at h
 have h6:a≤(if cD l a 32=true then a+1 else a):=by split<;>omega
 simp only at h
 generalize (if cD l a 32=true then a+1 else a)=f at h h6
 split at h
 · cases h
 rename_i h1
 split at h
 · cases h
 rename_i nm e0 h2
 have h3:=FZ (by omega) h2
 split at h
 · cases h
 rename_i h7
 split at h
 · cases h
 rename_i h4
 simp only[Option.some.injEq,Prod.mk.injEq] at h
 obtain⟨rfl,rfl⟩:=h
 split
 · rename_i h5
   have:cD l e0 32=true:=by
    cases hb:cD l e0 32 with
    | true=>rfl
    | false=>exact absurd (Or.inr ⟨h5,hb⟩) h4
   have:=nB this
   exact⟨by omega,by omega,h7⟩
 · exact⟨by omega,by omega,h7⟩
def wC(R:kL)(l:List UInt8):Prop:=∀a t e,a≤l.length→R a=some (t,e)→a<e∧e≤l.length∧Dn t
theorem KY{R:kL}{l:List UInt8}{c1 c2:Nat}(hR:wC R l):∀(n a:Nat) (acc:List Tm) (ts:List Tm) (e:Nat),a≤l.length→(∀x∈acc,Dn x)→rF R l c1 c2 n a acc=some (ts,e)→a<e∧e<l.length∧(∀x∈ts,Dn x)∧ts.length≤acc.length+n∧(cD l e c1=true∨cD l e c2=true):=by
 intro n
 induction n with
 | zero=>intro a acc ts e _ _ h;cases h
 | succ n ih=>
  intro a acc ts e ha OA h
  unfold rF at h
  split at h
  · cases h
  rename_i t e1 h1
  obtain⟨h2,h3,h4⟩:=hR a t e1 ha h1
  have FB:∀x∈acc++ [t],Dn x:=by intro x hx;rw[fG] at hx;rcases hx with hx | hx;exact OA x hx;rw[LW] at hx;subst hx;exact h4
  split at h
  · rename_i h5
    cases h
    rw[kZ] at h5
    refine⟨h2,?_,FB,by rw[dO,LV];omega,h5⟩
    rcases h5 with h5 | h5<;>exact nB h5
  split at h
  · rename_i h5
    have h6:=nB h5
    obtain⟨g1,g2,g3,g4,g5⟩:=ih (e1+1) _ ts e (by omega) FB h
    rw[dO,LV] at g4
    exact⟨by omega,g2,g3,by omega,g5⟩
  · cases h
theorem NG{nm:ByteArray}{ts:List Tm}(hl:ts.length≤1048576)(h:∀x∈ts,Dn x):Dn (nD nm ts):=UZ (by decide) hl h
theorem NH{nm:ByteArray}{x y:Tm}(hx:Dn x)(hy:Dn y):Dn (nD nm [x,y]):=NG (by simp) (by intro z hz;simp only[cL,c8,dP] at hz;rcases hz with rfl | rfl;exact hx;exact hy)
theorem U0{nm:ByteArray}:Dn (nD nm []):=NG (by simp) (by simp)
theorem M9{t:Tm}(ht:Dn t):∀ts:List Tm,(∀x∈ts,Dn x)→Dn (uV ts t)
 | [],_=>ht
 | x::xs,h=>NH (h x (by simp)) (M9 ht xs fun y hy=>h y (by simp [hy]))
theorem aYB{R:kL}{l:List UInt8}(hR:wC R l)(hl:l.length≤1000){a:Nat}{t:Tm}{e:Nat}(ha:a≤l.length)(h:yW R l a=some (t,e)):a<e∧e≤l.length∧Dn t:=by
 unfold yW at h
 split at h
 · cases h
 rename_i ts e1 h1
 obtain⟨g1,g2,g3,g4,g5⟩:=KY hR _ _ _ _ _ ha (by simp) h1
 split at h
 · cases h
   exact⟨by omega,by omega,M9 U0 _ g3⟩
 split at h
 · cases h
 rename_i t2 e2 h2
 obtain⟨k1,k2,k3⟩:=hR _ _ _ (by omega) h2
 split at h
 · rename_i h5
   cases h
   have:=nB h5
   exact⟨by omega,by omega,M9 k3 _ g3⟩
 · cases h
theorem aZ3{R:Nat→kL}{l:List UInt8}(hR:∀d,wC (R d) l)(hl:l.length≤1000){d a:Nat}{t:Tm}{e:Nat}(h:l9 R l d a=some (t,e)):a<e∧e≤l.length∧Dn t:=by
 unfold l9 at h
 split at h
 · cases h
 rename_i h0
 have ha:a<l.length:=by omega
 split at h
 · split at h
   · cases h
   rename_i t1 e1 h1
   obtain⟨k1,k2,k3⟩:=hR _ _ _ _ (by omega) h1
   split at h
   · rename_i h5
     cases h
     have:=nB h5
     exact⟨by omega,by omega,k3⟩
   · cases h
 split at h
 · obtain⟨k1,k2,k3⟩:=aYB (hR _) hl (by omega) h
   exact⟨by omega,k2,k3⟩
 split at h
 · cases h
   exact⟨by omega,by omega,aSX _⟩
 split at h
 · split at h
   · cases h
   rename_i n e1 h1
   cases h
   have:=a0P (by omega) h1
   exact⟨this.1,this.2,UZ (by decide) (by simp) (by simp)⟩
 split at h
 · cases h
 rename_i nm e1 h1
 have g:=FZ (by omega) h1
 split at h
 · cases h
   exact⟨g.1,g.2,U0⟩
 split at h
 · cases h
 rename_i h6 _ ts e2 h2
 have h7:cD l e1 40=true:=by simpa using h6
 have h8:=nB h7
 obtain⟨k1,k2,k3,k4,k5⟩:=KY (hR _) _ _ _ _ _ (by omega) (by simp) h2
 cases h
 refine⟨by omega,by omega,NG ?_ k3⟩
 rw[a8] at k4
 omega
theorem aZS{R:kL}{l:List UInt8}(hR:wC R l)(lev:Nat):∀(n:Nat) (t0:Tm) (e0:Nat) (t:Tm) (e:Nat),e0≤l.length→Dn t0→CM R l lev n t0 e0=some (t,e)→e0≤e∧e≤l.length∧Dn t:=by
 intro n
 induction n with
 | zero=>intro t0 e0 t e _ _ h;cases h
 | succ n ih=>
  intro t0 e0 t e h0 ht h
  unfold CM at h
  split at h
  · cases h;exact⟨by omega,h0,ht⟩
  rename_i nm e1 h1
  have g:=aH1 h1
  split at h
  · cases h;exact⟨by omega,h0,ht⟩
  split at h
  · cases h
  rename_i rt e2 h2
  obtain⟨k1,k2,k3⟩:=hR _ _ _ g.2.1 h2
  split at h
  · cases h;exact⟨by omega,k2,NH ht k3⟩
  · obtain⟨q1,q2,q3⟩:=ih _ _ _ _ k2 (NH ht k3) h
    exact⟨by omega,q2,q3⟩
theorem zG{l:List UInt8}(hl:l.length≤1000):∀(n d lv:Nat),wC (fun a=>rd l n d a lv) l:=by
 intro n
 induction n with
 | zero=>intro d lv a t e _ h;cases h
 | succ n ih=>
  intro d lv a t e ha h
  cases lv with
  | zero=>
   simp only[rd] at h
   exact aZ3 (fun d=>ih d 3) hl h
  | succ lv=>
   simp only[rd] at h
   split at h
   · cases h
   rename_i t1 e1 h1
   obtain⟨k1,k2,k3⟩:=ih d lv a t1 e1 ha h1
   obtain⟨q1,q2,q3⟩:=aZS (ih d lv) _ _ _ _ _ _ k2 k3 h
   exact⟨by omega,q2,q3⟩
end Go.AW
namespace Go.AW
open Go.Proofs.Tryz
def kR(a:Int):AV:=.tup [GT.av,.int .i64 (-1 - a)]
abbrev a2O:=zi aS cC
theorem BF(a:Nat)(ha:a≤1048576)(st:aA):aD prog 240 [.int .i64 (a:Int)] st (fun r st'=>r=kR a∧st'=st):=by
 refine aD.done ?_
 refine wF [1000000] 1 func240 ntmps240 rfl rfl ?_
 intro _
 have hw:=bC (n:= -1 - (a:Int))
 simp only[aG,hw,aB,seval,a2O]
 intro b hb
 exact⟨by simp only[kR,bU,jV,kG,jW,nJ,nI,bL,bE,bE],(aL.refl _).aC hb⟩
def PB(a:Nat)(o:Option (ByteArray×Nat)):AV:=match o with | some (b,e)=>.tup [.str b,.int .i64 (e:Int)] | none=>.tup [.str ⟨#[]⟩,.int .i64 (a:Int)]
abbrev DI:=zi aS (zi bV (zi gD (zi vY cH)))
set_option maxHeartbeats 1000000 in
theorem aQU(s:ByteArray)(hs:s.size≤1000)(a:Nat)(ha:a≤s.size)(st:aA):aD prog 183 [.str s,.int .i64 (a:Int)] st (fun r st'=>r=PB a (pS (sb s) a)∧st'=st):=by
 refine wF [1000000] 2 func183 ntmps183 rfl rfl ?_
 intro _
 simp only[aB,seval]
 refine(kE s a 32 _).to ?_
 obtain⟨f1,hf1⟩:∃f,f=a+1:=⟨_,rfl⟩
 have hw1:=jL (x:=(a:Int)+1) (m:=f1) (by omega) (by omega)
 simp only[aB,seval]
 refine aQ (fun h1=>?_) (fun h1=>?_)
 · have hf:=nB h1
   rw[b9] at hf
   simp only[hw1,aB,seval,DI]
   obtain⟨f,rfl⟩:∃f,f=f1:=⟨_,rfl⟩
   replace hf:f≤s.size:=by omega
   by_cases hlen:s.size≤f
   case pos=>
    have hrd:pS (sb s) a=none:=by
     unfold pS
     simp only[h1,↓reduceIte,←hf1]
     rw[aN (by rw[b9];exact hlen)]
    rw[hrd]
    have cU:((s.size:Int)≤(f:Int))=True:=bT (by omega)
    simp only[cU,aZ,aB,seval]
    rfl
   have cU:((s.size:Int)≤(f:Int))=False:=bG (by omega)
   have hrd:pS (sb s) a=match nG (sb s) f with
    | none=>none
    | some (nm,e)=>if cV nm=0 then none else if gF nm≠decide (a<f)∨(gF nm=true∧cD (sb s) e 32=false) then none else some (nm,if gF nm then e+1 else e):=by
    unfold pS
    simp only[h1,↓reduceIte,←hf1]
    rw[aK (by rw[b9];exact hlen)]
    try rfl
   rw[hrd]
   clear hrd
   have hfa:((a:Int)<(f:Int))=True:=bT (by omega)
   have hfn:(a<f)=True:=bT (by omega)
   simp only[cU,bB,aB,seval]
   refine(MY s hs f (by omega) _).to ?_
   cases hn:nG (sb s) f with
   | none=>
    simp only[y7]
    simp only[aZ,aB,seval]
    rfl
   | some p=>
    obtain⟨nm,e⟩:=p
    have he:=FZ (by rw[b9];omega) hn
    rw[b9] at he
    simp only[y7]
    have he0:((e:Int)<0)=False:=bG (by omega)
    simp only[he0,bB,aB,seval]
    refine(uU nm _).to ?_
    by_cases hl0:cV nm=0
    case pos=>
     rw[aN hl0]
     have vF:((cV nm:Int)=0)=True:=bT (by omega)
     simp only[vF,aZ,aB,seval]
     rfl
    rw[aK hl0]
    have vF:((cV nm:Int)=0)=False:=bG (by omega)
    simp only[hfn,aZ]
    have hw1:=bC (n:=(e:Int)+1)
    by_cases hi:nm=⟨#[105,115]⟩
    case' pos=>
     have hi':=bT hi
     have hm':(nm=⟨#[109,111,100]⟩)=False:=bG (by rw[hi];decide)
     have hW:gF nm=true:=by unfold gF;rw[d9 hi];try rfl
    case' neg=>
     have hi':=bG hi
     by_cases hm:nm=⟨#[109,111,100]⟩
     case' pos=>
      have hm':=bT hm
      have hW:gF nm=true:=by unfold gF;rw[d9 hm];exact v5 _
     case' neg=>
      have hm':=bG hm
      have hW:gF nm=false:=by unfold gF;rw[eM hm,eM hi];try rfl
    all_goals
     rw[hW]
     simp only[vF,hfa,hi',hm',aZ,bB,aB,seval,DI]
     first
      | (rw[aN (Or.inl trivial)];rfl)
      | (rw[aK fun h=>h.1];rfl)
      | skip
     try
      refine(kE s e 32 _).to ?_
      cases hb:cD (sb s) e 32 with
      | false=>
       simp only[aB,seval]
       rfl
      | true=>
       simp only[hw1,aB,seval]
       rfl
 · skip
   simp only[aB,seval,DI]
   obtain⟨f,rfl⟩:∃f,f=a:=⟨_,rfl⟩
   have hf:=ha
   by_cases hlen:s.size≤f
   case pos=>
    have hrd:pS (sb s) f=none:=by
     unfold pS
     simp only[h1,↓reduceIte,iF]
     rw[aN (by rw[b9];exact hlen)]
    rw[hrd]
    have cU:((s.size:Int)≤(f:Int))=True:=bT (by omega)
    simp only[cU,aZ,aB,seval]
    rfl
   have cU:((s.size:Int)≤(f:Int))=False:=bG (by omega)
   have hrd:pS (sb s) f=match nG (sb s) f with
    | none=>none
    | some (nm,e)=>if cV nm=0 then none else if gF nm≠decide (f<f)∨(gF nm=true∧cD (sb s) e 32=false) then none else some (nm,if gF nm then e+1 else e):=by
    unfold pS
    simp only[h1,↓reduceIte,iF]
    rw[aK (by rw[b9];exact hlen)]
    try rfl
   rw[hrd]
   clear hrd
   have hfa:((f:Int)<(f:Int))=False:=bG (by omega)
   have hfn:(f<f)=False:=bG (by omega)
   simp only[cU,bB,aB,seval]
   refine(MY s hs f (by omega) _).to ?_
   cases hn:nG (sb s) f with
   | none=>
    simp only[y7]
    simp only[aZ,aB,seval]
    rfl
   | some p=>
    obtain⟨nm,e⟩:=p
    have he:=FZ (by rw[b9];omega) hn
    rw[b9] at he
    simp only[y7]
    have he0:((e:Int)<0)=False:=bG (by omega)
    simp only[he0,bB,aB,seval]
    refine(uU nm _).to ?_
    by_cases hl0:cV nm=0
    case pos=>
     rw[aN hl0]
     have vF:((cV nm:Int)=0)=True:=bT (by omega)
     simp only[vF,aZ,aB,seval]
     rfl
    rw[aK hl0]
    have vF:((cV nm:Int)=0)=False:=bG (by omega)
    simp only[hfn,bB]
    have hw1:=bC (n:=(e:Int)+1)
    by_cases hi:nm=⟨#[105,115]⟩
    case' pos=>
     have hi':=bT hi
     have hm':(nm=⟨#[109,111,100]⟩)=False:=bG (by rw[hi];decide)
     have hW:gF nm=true:=by unfold gF;rw[d9 hi];try rfl
    case' neg=>
     have hi':=bG hi
     by_cases hm:nm=⟨#[109,111,100]⟩
     case' pos=>
      have hm':=bT hm
      have hW:gF nm=true:=by unfold gF;rw[d9 hm];exact v5 _
     case' neg=>
      have hm':=bG hm
      have hW:gF nm=false:=by unfold gF;rw[eM hm,eM hi];try rfl
    all_goals
     rw[hW]
     simp only[vF,hfa,hi',hm',aZ,bB,aB,seval,DI]
     first
      | (rw[aN (Or.inl trivial)];rfl)
      | (rw[aK fun h=>h.1];rfl)
      | skip
     try
      refine(kE s e 32 _).to ?_
      cases hb:cD (sb s) e 32 with
      | false=>
       simp only[vF,hfa,hi',hm',hw1,aZ,bB,aB,↓aU,seval,DI]
       rfl
      | true=>
       simp only[vF,hfa,hi',hm',hw1,aZ,bB,aB,↓aU,seval,DI]
       rfl
theorem aSB{ts:List Tm}{i:Nat}{x t:Tm}(hx:ts[i]?=some x):uV (ts.drop i) t=nD ⟨#[46]⟩ [x,uV (ts.drop (i+1)) t]:=by
 obtain⟨h1,h2⟩:=fM.1 hx
 rw[uA h1,h2]
 try rfl
abbrev KM:=zi aS (zi cH (zi cB cC))
set_option maxHeartbeats 1000000 in
theorem TL(ts:List Tm)(tl:Tm)(hl:ts.length≤1048576)(st:aA):aD prog 302 [.slice (ts.map Tm.av),tl.av] st (fun r st'=>r=(uV ts tl).av∧st'=st):=by
 refine aD.done ?_
 refine wF [1000000,5] 2 func302 ntmps302 rfl rfl ?_
 intro _
 have hw0:=bC (n:=(ts.length:Int) - 1)
 simp only[aG,bM,aP,cR,cT,cI,aE,hw0,aB,↓aU,seval,KM]
 intro b hb b5 hb5
 have hbb:b5≠b:=fun h=>by rw[h,aA.aH] at hb5;cases hb5
 refine i8 (σ:=Nat) [1000000] [0,4,5] (fun i=>i≤ts.length) (fun i=>[(6,.int .i64 ((i:Int) - 1))]) (fun i=>(st.aC b (.cells [.int .i64 0,.int .i64 0,.str ⟨#[]⟩,.fslice []])).aC b5 (.cells (uV (ts.drop i) tl).av.cells)) (fun i=>i) (by decide +kernel) ⟨ts.length,by omega,by rw[mJ];exact aO.mk (by simp only[aB,seval])⟩ ?_
 intro i hi
 simp only[aB,seval]
 refine aQ (fun h1=>?_) (fun h1=>?_)
 · simp only[bA] at h1
   obtain⟨k,rfl⟩:∃k,i=k+1:=⟨i - 1,by omega⟩
   obtain⟨x,hx⟩:∃x,ts[k]?=some x:=⟨_,eL (by omega)⟩
   have hk:((k+1:Nat):Int) - 1=(k:Int):=by omega
   have hw:=bC (n:=(k:Int) - 1)
   have hst:=aSB (t:=tl) hx
   have hat:=bS (av:=Tm.av) cF hx (aP x)
   rw[hk]
   generalize uV (ts.drop (k+1)) tl=y at *
   have hax:=cI x
   have hay:=cI y
   simp only[aB,seval]
   refine wP [(0,1),(1,1),(2,1),(3,2),(4,2),(5,1),(6,2),(7,0)] [0,1,2,3,4,5,6] mixed ?_
   simp only[bM,aP,cT,cI,fL (cI _),fJ (bM _),hat,aB,seval,KM]
   refine gG (H2 ⟨#[46]⟩ [x,y] (by simp) _) ?_
   simp only[aG,cR,cI,hw,aB,seval,KM]
   refine⟨k,by omega,by omega,?_⟩
   rw[hst]
   exact aO.mk (by simp only[aB,seval])
 · simp only[dC] at h1
   obtain rfl:i=0:=by omega
   rw[sN]
   simp only[aG,cR,cI,fL (cI _),fJ (bM _),hbb.symm,aB,↓aU,seval,KM]
   exact⟨Tm.soft _,(((aL.refl _).aC hb).aC (by rwa [aA.aJ _ _ hbb] at hb5)).aC hb⟩
def lL(o:Option (Tm×Nat))(r:AV):Prop:=match o with | some (t,e)=>r=.tup [t.av,.int .i64 (e:Int)] | none=>∃k:Nat,k≤1048576∧r=kR k
def uH(o:Option (List Tm×Nat))(r:AV):Prop:=match o with | some (ts,e)=>r=.tup [.slice (ts.map Tm.av),.int .i64 (e:Int)] | none=>∃k:Nat,k≤1048576∧r=.tup [.slice [],.int .i64 (-1 - (k:Int))]
abbrev L0 (s:ByteArray) (R:kL) (d lv lo:Nat):Prop:=∀(a:Nat) (st:aA),lo≤a→a≤s.size→aD prog 136 [.str s,.int .i64 (a:Int),.int .i64 (d:Int),.int .i64 (lv:Int)] st (fun r st'=>lL (R a) r∧st'=st)
abbrev QO:=zi aS (zi bV (zi gD (zi vY (zi cH (zi cB cC)))))
set_option maxHeartbeats 1000000 in
theorem TW{s:ByteArray}{R:kL}{d lo c1 c2:Nat}(hR:L0 s R d 3 lo)(hok:wC R (sb s))(hs:s.size≤1000)(a:Nat)(ha:lo≤a)(ha':a≤s.size)(st:aA) :
 aD prog 245 [.str s,.int .i64 (a:Int),.int .i64 (d:Int),.int .u8 (c1:Int),.int .u8 (c2:Int)] st (fun r st'=>uH (rF R (sb s) c1 c2 ((sb s).length+1) a []) r∧st'=st):=by
 generalize hT:rF R (sb s) c1 c2 ((sb s).length+1) a []=T
 rw[b9] at hT
 refine aD.drop (Q:=uH T) (aD.fin ?_)
 refine wF [1000000] 5 func245 ntmps245 rfl rfl ?_
 intro _
 simp only[aB,seval,QO]
 refine i8 (σ:=Nat×List Tm×Nat×Nat) [1000000] [0,2,3,4] (fun x=>rF R (sb s) c1 c2 x.2.2.1 x.1 x.2.1=T∧lo≤x.1∧x.1≤s.size∧s.size<x.2.2.1+x.1∧x.2.1.length+x.2.2.1≤1001∧(x.2.1.map Tm.av≠[]→st x.2.2.2=none)) (fun x=>[(1,.int .i64 (x.1:Int)),(10,.fslice []),(11,.int .i64 0),(12,bK 4 x.2.2.2 (x.2.1.map Tm.av))]) (fun x=>a9 st x.2.2.2 (x.2.1.map Tm.av)) (fun x=>x.2.2.1) (by decide +kernel) ⟨(a,[],s.size+1,0),⟨hT,ha,ha',by simp only;omega,by simp only[a8];omega,by simp⟩,aO.mk (by simp only[bE,j8,aB,seval])⟩ ?_
 rintro⟨i,acc,m,b⟩ ⟨ht,hlo,hi,hm,hlen,hb⟩
 simp only at ht hlo hi hm hlen hb ⊢
 obtain⟨m,rfl⟩:∃m',m=m'+1:=⟨m - 1,by omega⟩
 simp only[rF] at ht
 simp only[aB,seval]
 refine(hR i _ hlo hi).mono ?_
 rintro r _ ⟨hr,rfl⟩
 have fin:∀(l:List Tm) (b':Nat) (r':AV),(l.map Tm.av≠[]→st b'=none)→uH T (r'.fin b' (l.map Tm.av))→∃b2 l2 s0,a9 st b' (l.map Tm.av)=a9 s0 b2 l2∧(l2≠[]→s0 b2=none)∧(∀e∈l2,e.bR=false)∧gW l2∧aL s0 st∧uH T (r'.fin b2 l2):=fun l b' r' h1 h2=>⟨b',_,st,rfl,h1,oM _,⟨4,gE _⟩,aL.refl _,h2⟩
 have hTn:T=none→∀k:Nat,k≤1048576→∀(b':Nat) (l:List AV),uH T ((AV.tup [.fslice [],.int .i64 (-1 - (k:Int))]).fin b' l):=by
  rintro rfl k hk b' l
  exact⟨k,hk,by simp only[gB,fW,pF,bL,bE]⟩
 cases hRi:R i with
 | none=>
  rw[hRi] at ht hr
  obtain⟨k,hk,rfl⟩:=hr
  have hk0:((-1 - (k:Int))<0)=True:=bT (by omega)
  simp only[aP,cR,cT,hk0,kR,aZ,aB,↓aU,seval,QO]
  exact fin _ _ _ hb (hTn ht.symm k hk _ _)
 | some p=>
  obtain⟨t,e⟩:=p
  rw[hRi] at ht hr
  simp only at ht
  obtain⟨g1,g2,g3⟩:=hok i t e (by rw[b9];exact hi) hRi
  rw[b9] at g2
  simp only[lL] at hr
  subst hr
  have he0:((e:Int)<0)=False:=bG (by omega)
  simp only[bM,aP,cR,cT,he0,eK,sI,bB,aB,↓aU,seval,QO]
  refine eY cF kP kQ rfl rfl (gN (aP _) (cR _)) (gE _) hb (by simp only[aE,aX,a8];omega) (by simp only[aE,aX,a8];omega) (fun b' hb'=>?_)
  rw[show acc.map Tm.av++ [t.av]=(acc++ [t]).map Tm.av by simp] at hb' ⊢
  simp only[aB,seval]
  have wT:T=some (acc++ [t],e)→uH T ((AV.tup [bK 4 b' ((acc++ [t]).map Tm.av),.int .i64 (e:Int)]).fin b' ((acc++ [t]).map Tm.av)):=by
   rintro rfl
   simp only[uH,gB,fW,lP,bL,bE]
  have hw1:=bC (n:=(e:Int)+1)
  have hw2:=bC (n:= -1 - (e:Int))
  refine(kE s e c1 _).to ?_
  cases h1:cD (sb s) e c1 with
  | true=>
   rw[h1,t8,aN rfl] at ht
   simp only[l6,eK,sI,aB,seval]
   exact fin _ _ _ hb' (wT ht.symm)
  | false=>
  simp only[aB,seval]
  refine(kE s e c2 _).to ?_
  cases h2:cD (sb s) e c2 with
  | true=>
   rw[h2,v5,aN rfl] at ht
   simp only[l6,eK,sI,aB,seval]
   exact fin _ _ _ hb' (wT ht.symm)
  | false=>
  rw[h1,h2,DV,aK (by decide)] at ht
  simp only[aB,seval]
  refine(kE s e 44 _).to ?_
  cases h3:cD (sb s) e 44 with
  | true=>
   have h4:=nB h3
   rw[b9] at h4
   rw[h3,aN rfl] at ht
   simp only[hw1,aB,seval]
   refine⟨(e+1,acc++ [t],m,b'),by simp only;omega,⟨ht,by simp only;omega,by simp only;omega,by simp only;omega,by simp only[dO,aX,a8];omega,hb'⟩,aO.mk (by simp only[aB,seval]<;>rfl)⟩
  | false=>
   rw[h3,aK (by decide)] at ht
   simp only[hw2,aB,seval]
   exact fin _ _ _ hb' (hTn ht.symm e (by omega) _ _)
theorem aD.NI{P:Program}{g:FuncId}{args:List AV}{st:aA}{Q:AV→Prop}(x:aD P g args st (fun r' st'=>Q r'.soft∧aL st' st)):aD P g args st (fun r' st'=>Q r'∧st'=st):=
 aD.drop (aD.soft (x.mono fun _ _ h=>⟨h.2,h.1⟩))
theorem CT{k:Nat}(hk:k≤1048576):lL none (AV.tup [.agg [.int .i64 0,.int .i64 0,.str ⟨#[]⟩,.fslice []],.int .i64 (-1 - (k:Int))]).soft:=
 ⟨k,hk,by simp only[kR,bU,jV,kG,jW,nJ,nI,bL,bE]⟩
theorem q7{t:Tm}{e:Nat}{x:Int}(h:x=(e:Int)):lL (some (t,e)) (AV.tup [t.av,.int .i64 x]).soft:=by
 subst h
 simp only[lL,kG,jW,Tm.soft,bL,bE]
theorem xA{k:Nat}(hk:k≤1048576):lL none (AV.tup [GT.av,.int .i64 (-1 - (k:Int))]).soft:=
 ⟨k,hk,by simp only[kR,kG,jW,Tm.soft,bL,bE]⟩
abbrev xO:=zi aS (zi bV (zi gD (zi vY (zi cH (zi cB (zi aKN cC))))))
set_option maxHeartbeats 1000000 in
theorem aQR{s:ByteArray}{R:kL}{d lo:Nat}(hR:L0 s R d 3 lo)(hok:wC R (sb s))(hs:s.size≤1000)(a:Nat)(ha:lo≤a)(ha':a≤s.size)(st:aA) :
 aD prog 241 [.str s,.int .i64 (a:Int),.int .i64 (d:Int)] st (fun r st'=>lL (yW R (sb s) a) r∧st'=st):=by
 refine aD.NI ?_
 refine wF [1000000] 3 func241 ntmps241 rfl rfl ?_
 intro _
 simp only[aB,seval,xO]
 intro b hb
 unfold yW
 refine(TW hR hok hs a ha ha' _ (c1:=93) (c2:=124)).mono ?_
 rintro r _ ⟨hr,rfl⟩
 have hD:=fun(o:AO)=>(aL.refl st).aC (o:=o) hb
 cases hT:rF R (sb s) 93 124 ((sb s).length+1) a [] with
 | none=>
  rw[hT] at hr
  obtain⟨k,hk,rfl⟩:=hr
  have hk0:((-1 - (k:Int))<0)=True:=bT (by omega)
  simp only[aG,hk0,aZ,aB,seval,xO]
  exact⟨CT hk,hD _⟩
 | some p=>
  obtain⟨ts,e⟩:=p
  rw[hT] at hr
  simp only[uH] at hr
  subst hr
  obtain⟨g1,g2,g3,g4,g5⟩:=KY hok _ _ _ _ _ (by rw[b9];exact ha') (by simp) hT
  rw[b9] at g2 g4
  rw[a8] at g4
  have he0:((e:Int)<0)=False:=bG (by omega)
  obtain⟨f,hf⟩:∃f,f=e+1:=⟨_,rfl⟩
  have hw:=jL (x:=(e:Int)+1) (m:=f) (by omega) (by omega)
  simp only[he0,bB,aB,seval]
  refine(kE s e 93 _).to ?_
  cases h1:cD (sb s) e 93 with
  | true=>
   simp only[aB,seval]
   refine(H2 ⟨#[91,93]⟩ [] (by simp) _).to ?_
   simp only[aB,seval]
   refine(TL ts (nD ⟨#[91,93]⟩ []) (by omega) _).to ?_
   simp only[aG,cR,cT,cI,fL (cI _),fJ (bM _),hw,aB,seval,xO]
   exact⟨q7 (by omega),hD _⟩
  | false=>
   simp only[hw,aB,seval]
   refine(hR f _ (by omega) (by omega)).mono ?_
   rintro r _ ⟨hr,rfl⟩
   rw[←hf]
   cases hRi:R f with
   | none=>
    rw[hRi] at hr
    obtain⟨k,hk,rfl⟩:=hr
    have hk0:((-1 - (k:Int))<0)=True:=bT (by omega)
    simp only[aG,aP,cR,cT,hk0,kR,aZ,aB,↓aU,seval,xO]
    exact⟨CT hk,hD _⟩
   | some p=>
    obtain⟨t,e2⟩:=p
    rw[hRi] at hr
    simp only[lL] at hr
    subst hr
    obtain⟨k1,k2,k3⟩:=hok f t e2 (by rw[b9];omega) hRi
    rw[b9] at k2
    have he2:((e2:Int)<0)=False:=bG (by omega)
    have hw2:=bC (n:=(e2:Int)+1)
    simp only[aP,cR,cT,he2,bB,aB,↓aU,seval,xO]
    refine(kE s e2 93 _).to ?_
    cases h2:cD (sb s) e2 93 with
    | true=>
     simp only[bM,aP,aB,seval,xO]
     refine(TL ts t (by omega) _).to ?_
     simp only[aG,cR,cT,cI,fL (cI _),fJ (bM _),hw2,aB,seval,xO]
     exact⟨q7 rfl,hD _⟩
    | false=>
     simp only[aB,seval]
     refine(BF e2 (by omega) _).to ?_
     simp only[aG,cR,cT,cI,fL (cI _),fJ (bM _),kR,aB,seval,xO]
     exact⟨xA (by omega),hD _⟩
theorem aZ7{R:Nat→kL}{l:List UInt8}{d a:Nat}(h:d<1∨l.length≤a):l9 R l d a=none:=by unfold l9;rw[aN h]
theorem aZ8{R:Nat→kL}{l:List UInt8}{d a:Nat}(h:¬(d<1∨l.length≤a))(h1:cD l a 40=true):l9 R l d a=match R d (a+1) with
 | none=>none
 | some (t,e)=>if cD l e 41 then some (t,e+1) else none:=by unfold l9;rw[aK h,aN h1];try rfl
theorem aZ4{R:Nat→kL}{l:List UInt8}{d a:Nat}(h:¬(d<1∨l.length≤a))(h1:cD l a 40=false)(h2:cD l a 91=true)(h3:cD l (a+1) 93=false):l9 R l d a=yW (R (d - 1)) l (a+1):=by
 unfold l9;rw[aK h,aK (by simp [h1]),aN (by simp [h2,h3])]
theorem aZ9{R:Nat→kL}{l:List UInt8}{d a:Nat}(h:¬(d<1∨l.length≤a))(h1:cD l a 40=false)(h2:(cD l a 91&& !cD l (a+1) 93)=false)(h3:eV l a sL=true):l9 R l d a=some (vr ((HY l a - 65:Nat):Int),a+1):=by
 unfold l9;rw[aK h,aK (by simp [h1]),aK (by simp [h2]),aN h3]
theorem aZ6{R:Nat→kL}{l:List UInt8}{d a:Nat}(h:¬(d<1∨l.length≤a))(h1:cD l a 40=false)(h2:(cD l a 91&& !cD l (a+1) 93)=false)(h3:eV l a sL=false)(h4:(eV l a cY||(cD l a 45&&eV l (a+1) cY))=true):l9 R l d a=match tS l a with
 | none=>none
 | some (n,e)=>some (.mk 2 n ⟨#[]⟩ [],e):=by
 unfold l9;rw[aK h,aK (by simp [h1]),aK (by simp [h2]),aK (by simp [h3]),aN h4];try rfl
theorem aZ5{R:Nat→kL}{l:List UInt8}{d a:Nat}(h:¬(d<1∨l.length≤a))(h1:cD l a 40=false)(h2:(cD l a 91&& !cD l (a+1) 93)=false)(h3:eV l a sL=false)(h4:(eV l a cY||(cD l a 45&&eV l (a+1) cY))=false):l9 R l d a=match nG l a with
 | none=>none
 | some (nm,e)=>if cD l e 40=false then some (nD nm [],e) else match rF (R (d - 1)) l 41 41 (l.length+1) (e+1) [] with
  | none=>none
  | some (ts,e')=>some (nD nm ts,e'+1):=by
 unfold l9;rw[aK h,aK (by simp [h1]),aK (by simp [h2]),aK (by simp [h3]),aK (by simp [h4])];try rfl
abbrev jJ:=zi aS (zi bV (zi gD (zi vY (zi cH (zi cB (zi aKN cC))))))
set_option maxHeartbeats 2000000 in
theorem aQW{s:ByteArray}{R:Nat→kL}{a:Nat}(hR:∀d,d≤1048576→L0 s (R d) d 3 (a+1))(hok:∀d,wC (R d) (sb s))(hs:s.size≤1000)(ha:a≤s.size)(d:Nat)(hd:d≤1048576)(st:aA) :
 aD prog 182 [.str s,.int .i64 (a:Int),.int .i64 (d:Int)] st (fun r st'=>lL (l9 R (sb s) d a) r∧st'=st):=by
 refine aD.NI ?_
 refine wF [1000000] 3 func182 ntmps182 rfl rfl ?_
 intro _
 generalize hP:l9 R (sb s) d a=o
 simp only[aB,seval,jJ]
 intro b hb
 have hD:=fun(o:AO)=>(aL.refl st).aC (o:=o) hb
 by_cases h0:d<1∨s.size≤a
 case pos=>
  rw[aZ7 (by rw[b9];exact h0)] at hP
  subst hP
  by_cases h01:d<1
  case pos=>
   have vC:((d:Int)<1)=True:=bT (by omega)
   simp only[vC,aZ,aB,seval]
   refine(BF a (by omega) _).to ?_
   simp only[aG,cR,cT,cI,fL (cI _),fJ (bM _),kR,aB,seval,jJ]
   exact⟨xA (by omega),hD _⟩
  case neg=>
   have vC:((d:Int)<1)=False:=bG (by omega)
   have yP:((s.size:Int)≤(a:Int))=True:=bT (by omega)
   simp only[vC,yP,aZ,bB,aB,seval,jJ]
   refine(BF a (by omega) _).to ?_
   simp only[aG,cR,cT,cI,fL (cI _),fJ (bM _),kR,aB,seval,jJ]
   exact⟨xA (by omega),hD _⟩
 have h0':¬(d<1∨(sb s).length≤a):=by rw[b9];exact h0
 have vC:((d:Int)<1)=False:=bG (by omega)
 have yP:((s.size:Int)≤(a:Int))=False:=bG (by omega)
 obtain⟨x,hx⟩:=uS (s:=s) (n:=a) (by omega)
 have hix:=pP (P:=prog) (t:=9) nO hx
 obtain⟨f,hf⟩:∃f,f=a+1:=⟨_,rfl⟩
 have hw:=jL (x:=(a:Int)+1) (m:=f) (by omega) (by omega)
 obtain⟨d1,hd1⟩:∃d1,d1=d - 1:=⟨_,rfl⟩
 have hwd:=jL (x:=(d:Int) - 1) (m:=d1) (by omega) (by omega)
 by_cases h40:x.toNat=40
 case pos=>
  rw[aZ8 h0' (by rw[r9 hx,h40];try rfl),←hf] at hP
  have BY:((x.toNat:Int)=40)=True:=bT (by omega)
  simp only[vC,yP,hix,BY,hw,aZ,bB,aB,seval,jJ]
  refine(hR d hd f _ (by omega) (by omega)).mono ?_
  rintro r _ ⟨hr,rfl⟩
  cases hRi:R d f with
  | none=>
   rw[hRi] at hr hP
   subst hP
   obtain⟨k,hk,rfl⟩:=hr
   have hk0:((-1 - (k:Int))<0)=True:=bT (by omega)
   simp only[aG,aP,cR,cT,hk0,kR,aZ,aB,↓aU,seval,jJ]
   exact⟨CT hk,hD _⟩
  | some p=>
   obtain⟨t,e2⟩:=p
   rw[hRi] at hr hP
   simp only[lL] at hr
   subst hr
   obtain⟨k1,k2,k3⟩:=hok d f t e2 (by rw[b9];omega) hRi
   rw[b9] at k2
   have he2:((e2:Int)<0)=False:=bG (by omega)
   have hw2:=bC (n:=(e2:Int)+1)
   simp only[aP,cR,cT,he2,bB,aB,↓aU,seval,jJ]
   refine(kE s e2 41 _).to ?_
   cases h2:cD (sb s) e2 41 with
   | true=>
    simp only[h2,↓reduceIte] at hP
    subst hP
    simp only[aG,bM,aP,cR,cT,cI,fL (cI _),fJ (bM _),hw2,aB,seval,jJ]
    exact⟨q7 rfl,hD _⟩
   | false=>
    simp only[h2,↓reduceIte,iF] at hP
    subst hP
    simp only[aB,seval]
    refine(BF e2 (by omega) _).to ?_
    simp only[aG,cR,cT,cI,fL (cI _),fJ (bM _),kR,aB,seval,jJ]
    exact⟨xA (by omega),hD _⟩
 have g40:cD (sb s) a 40=false:=by rw[r9 hx];exact eM h40
 have BY:((x.toNat:Int)=40)=False:=bG (by omega)
 -- a list
 by_cases hL:x.toNat=91∧cD (sb s) f 93=false
 case pos=>
  obtain⟨h91,h93⟩:=hL
  rw[aZ4 h0' g40 (by rw[r9 hx,h91];try rfl) (by rw[←hf];exact h93),←hf,←hd1] at hP
  subst hP
  have r6:((x.toNat:Int)=91)=True:=bT (by omega)
  simp only[vC,yP,hix,BY,r6,hw,aZ,bB,aB,seval,jJ]
  refine(kE s f 93 _).to ?_
  rw[h93]
  simp only[hw,hwd,aB,seval]
  refine(aQR (hR d1 (by omega)) (hok d1) hs f (by omega) (by omega) _).mono ?_
  rintro r _ ⟨hr,rfl⟩
  cases hI:yW (R d1) (sb s) f with
  | none=>
   rw[hI] at hr
   obtain⟨k,hk,rfl⟩:=hr
   simp only[aG,cR,cT,cI,fL (cI _),fJ (bM _),kR,aB,seval,jJ]
   exact⟨xA hk,hD _⟩
  | some p=>
   obtain⟨t,e2⟩:=p
   rw[hI] at hr
   simp only[lL] at hr
   subst hr
   simp only[aG,cR,cT,cI,fL (cI _),fJ (bM _),aB,seval,jJ]
   exact⟨q7 rfl,hD _⟩
 have gL:(cD (sb s) a 91&& !cD (sb s) (a+1) 93)=false:=by
  rw[←hf,r9 hx]
  rcases Nat.decEq x.toNat 91 with h | h
  · rw[eM h,eJ]
  · rw[d9 h,cZ]
    cases h93:cD (sb s) f 93 with
    | true=>rfl
    | false=>exact absurd ⟨h,h93⟩ hL
 by_cases hU:sL x=true
 case pos=>
  have hP':=aZ9 (R:=R) h0' g40 gL (by rw[vL hx];exact hU)
  rw[hP'] at hP
  subst hP
  have hbn:HY (sb s) a=x.toNat:=by unfold HY;rw[hx]
  simp only[sL,bD,bA] at hU
  have r6:((x.toNat:Int)=91)=False:=bG (by omega)
  have h65:((65:Int)≤(x.toNat:Int))=True:=bT (by omega)
  have h90:((x.toNat:Int)≤90)=True:=bT (by omega)
  obtain⟨y,hy⟩:∃y,y=x.toNat - 65:=⟨_,rfl⟩
  have hw2:IntKind.wrap .u8 ((x.toNat:Int) - 65)=(y:Int):=by rw[IntKind.wrap_u8];omega
  have hw3:=bC (n:=(y:Int))
  simp only[vC,yP,hix,BY,r6,h65,h90,hw2,hw3,lM,aZ,bB,aB,seval,jJ]
  refine(TR (y:Int) _).to ?_
  simp only[aG,cR,cT,cI,fL (cI _),fJ (bM _),hw,aB,seval,jJ]
  rw[hbn,←hy,←hf]
  exact⟨q7 rfl,hD _⟩
 have gU:eV (sb s) a sL=false:=by rw[vL hx];simpa using hU
 cases hdg:(eV (sb s) a cY||(cD (sb s) a 45&&eV (sb s) (a+1) cY)) with
 | true=>
  have hP':=aZ6 (R:=R) h0' g40 gL gU hdg
  rw[hP'] at hP
  by_cases hdx:cY x=true
  case' pos=>have BZ:=hdx
  case' neg=>
   have hdx:cY x=false:=by simpa using hdx
   rw[vL hx,hdx,mT,bD,r9 hx,bA] at hdg
   have BZ:((x.toNat:Int)=45)=True:=bT (by omega)
  all_goals
   by_cases h91:x.toNat=91
   case' pos=>
    have r6:((x.toNat:Int)=91)=True:=bT (by omega)
    have h93:cD (sb s) f 93=true:=by rw[r9 hx,d9 h91,cZ,←hf] at gL;simpa using gL
   case' neg=>
    have r6:((x.toNat:Int)=91)=False:=bG (by omega)
    have h93:=r6
   all_goals
    by_cases h65:65≤x.toNat
    case' pos=>
     have vD:((65:Int)≤(x.toNat:Int))=True:=bT (by omega)
     have yQ:((x.toNat:Int)≤90)=False:=bG (by intro h;exact hU (by simp only[sL,bD,bA];omega))
    case' neg=>
     have vD:((65:Int)≤(x.toNat:Int))=False:=bG (by omega)
     have yQ:=vD
   all_goals
    simp only[vC,yP,hix,BY,r6,vD,yQ,hw,aZ,bB,aB,seval,jJ]
    try
     refine(kE s f 93 _).to ?_
     rw[h93]
     simp only[hix,vD,yQ,aZ,bB,aB,seval]
    refine(y6 s a _).to ?_
    rw[vL hx]
   all_goals
    simp only[hix,hdx,BZ,hw,aZ,aB,seval]
    try
     refine(y6 s f _).to ?_
     rw[hf,hdg.2]
     simp only[aB,seval]
    refine(aQJ s hs a ha _).to ?_
    cases hn:tS (sb s) a with
    | none=>
     rw[hn] at hP
     subst hP
     simp only[aP,cR,cT,y8,aZ,aB,↓aU,seval,jJ]
     refine(BF a (by omega) _).to ?_
     simp only[aG,cR,cT,cI,fL (cI _),fJ (bM _),kR,aB,seval,jJ]
     exact⟨xA (by omega),hD _⟩
    | some p=>
     obtain⟨n,e⟩:=p
     rw[hn] at hP
     subst hP
     have he0:((e:Int)<0)=False:=bG (by omega)
     simp only[aG,bM,aP,cR,cT,cI,fL (cI _),fJ (bM _),y8,he0,bB,aB,↓aU,seval,jJ]
     exact⟨q7 rfl,hD _⟩
 | false=>
  have hP':=aZ5 (R:=R) h0' g40 gL gU hdg
  rw[hP',←hd1] at hP
  rw[vL hx,LN,r9 hx,←hf] at hdg
  have hdx:=hdg.1
  by_cases h45:x.toNat=45
  case' pos=>
   have BZ:((x.toNat:Int)=45)=True:=bT (by omega)
   have hfd:eV (sb s) f cY=false:=by have:=hdg.2;rwa [d9 h45,cZ] at this
  case' neg=>
   have BZ:((x.toNat:Int)=45)=False:=bG (by omega)
   have hfd:=BZ
  all_goals
   by_cases h91:x.toNat=91
   case' pos=>
    have r6:((x.toNat:Int)=91)=True:=bT (by omega)
    have h93:cD (sb s) f 93=true:=by rw[r9 hx,d9 h91,cZ,←hf] at gL;simpa using gL
   case' neg=>
    have r6:((x.toNat:Int)=91)=False:=bG (by omega)
    have h93:=r6
   all_goals
    by_cases h65:65≤x.toNat
    case' pos=>
     have vD:((65:Int)≤(x.toNat:Int))=True:=bT (by omega)
     have yQ:((x.toNat:Int)≤90)=False:=bG (by intro h;exact hU (by simp only[sL,bD,bA];omega))
    case' neg=>
     have vD:((65:Int)≤(x.toNat:Int))=False:=bG (by omega)
     have yQ:=vD
   all_goals
    simp only[vC,yP,hix,BY,r6,vD,yQ,hw,aZ,bB,aB,seval,jJ]
    try
     refine(kE s f 93 _).to ?_
     rw[h93]
     simp only[hix,vD,yQ,aZ,bB,aB,seval]
    refine(y6 s a _).to ?_
    rw[vL hx]
   all_goals
    simp only[hix,hdx,BZ,hw,aZ,bB,aB,seval]
    try
     refine(y6 s f _).to ?_
     rw[hfd]
     simp only[aB,seval]
    refine(MY s hs a ha _).to ?_
    cases hn:nG (sb s) a with
    | none=>
     rw[hn] at hP
     subst hP
     simp only[y7,aZ,aB,seval]
     refine(BF a (by omega) _).to ?_
     simp only[aG,cR,cT,cI,fL (cI _),fJ (bM _),kR,aB,seval,jJ]
     exact⟨xA (by omega),hD _⟩
    | some p=>
     obtain⟨nm,e⟩:=p
     rw[hn] at hP
     simp only at hP
     have hel:=FZ (by rw[b9];exact ha) hn
     rw[b9] at hel
     have he0:((e:Int)<0)=False:=bG (by omega)
     obtain⟨f2,hf2⟩:∃f2,f2=e+1:=⟨_,rfl⟩
     have hwe:=jL (x:=(e:Int)+1) (m:=f2) (by omega) (by omega)
     simp only[y7,he0,bB,aB,seval]
     refine(kE s e 40 _).to ?_
     cases h4:cD (sb s) e 40 with
     | false=>
      rw[aN h4] at hP
      subst hP
      simp only[aB,seval]
      refine(H2 nm [] (by simp) _).to ?_
      simp only[aG,cR,cT,cI,fL (cI _),fJ (bM _),aB,seval,jJ]
      exact⟨q7 rfl,hD _⟩
     | true=>
      rw[aK (by simp [h4]),←hf2] at hP
      have h5:=nB h4
      rw[b9] at h5
      simp only[hwd,hwe,aB,seval]
      refine(TW (hR d1 (by omega)) (hok d1) hs f2 (by omega) (by omega) _ (c1:=41) (c2:=41)).mono ?_
      rintro r _ ⟨hr,rfl⟩
      cases hT:rF (R d1) (sb s) 41 41 ((sb s).length+1) f2 [] with
      | none=>
       rw[hT] at hr hP
       subst hP
       obtain⟨k,hk,rfl⟩:=hr
       have hk0:((-1 - (k:Int))<0)=True:=bT (by omega)
       simp only[aG,hk0,aZ,aB,seval,jJ]
       exact⟨CT hk,hD _⟩
      | some p=>
       obtain⟨ts,e3⟩:=p
       rw[hT] at hr hP
       simp only[uH] at hr hP
       subst hr hP
       obtain⟨g1,g2,g3,g4,g5⟩:=KY (hok d1) _ _ _ _ _ (by rw[b9];omega) (by simp) hT
       rw[b9] at g2
       have he3:((e3:Int)<0)=False:=bG (by omega)
       have hw3:=bC (n:=(e3:Int)+1)
       simp only[aG,he3,hw3,bB,aB,seval,jJ]
       exact⟨by rw[show(AV.agg [.int .i64 3,.int .i64 0,.str nm,.slice (ts.map Tm.av)])=(nD nm ts).av from (bU ..).symm];exact q7 rfl,hD _⟩
theorem aYR{nm:ByteArray}(h:cV nm≠0):nm≠⟨#[]⟩:=by rintro rfl;exact h (by decide)
abbrev rC:=zi aS (zi cH (zi cB cC))
set_option maxHeartbeats 2000000 in
theorem aQX{s:ByteArray}(hs:s.size≤1000):∀(n d a lv:Nat) (st:aA),a≤s.size→lv≤3→d≤1048576→(s.size - a)*4+lv<n →
 aD prog 136 [.str s,.int .i64 (a:Int),.int .i64 (d:Int),.int .i64 (lv:Int)] st (fun r st'=>lL (rd (sb s) n d a lv) r∧st'=st):=by
 intro n
 induction n with
 | zero=>intro d a lv st _ _ _ h;omega
 | succ n IH=>
 intro d a lv st ha hlv hd hn
 have hl1:(sb s).length≤1000:=by rw[b9];exact hs
 refine aD.NI ?_
 refine wF [1000000,10] 4 func136 ntmps136 rfl rfl ?_
 intro _
 generalize hP:rd (sb s) (n+1) d a lv=o
 simp only[aB,seval,rC]
 intro b hb
 have hD:=fun(o:AO)=>(aL.refl st).aC (o:=o) hb
 cases lv with
 | zero=>
  simp only[rd] at hP
  have h0:(((0:Nat):Int)=0)=True:=bT rfl
  simp only[aZ,aB,↓aU,seval]
  refine(aQW (R:=fun d a=>rd (sb s) n d a 3) (a:=a) (fun d hd a' st' h1 h2=>IH d a' 3 st' h2 (by omega) hd (by omega)) (fun d=>zG hl1 n d 3) hs ha d hd _).mono ?_
  rintro r _ ⟨hr,rfl⟩
  rw[hP] at hr
  cases o with
  | none=>
   obtain⟨k,hk,rfl⟩:=hr
   simp only[aG,cR,cT,cI,fL (cI _),fJ (bM _),kR,aB,seval,rC]
   exact⟨xA hk,hD _⟩
  | some p=>
   obtain⟨t,e⟩:=p
   simp only[lL] at hr
   subst hr
   simp only[aG,cR,cT,cI,fL (cI _),fJ (bM _),aB,seval,rC]
   exact⟨q7 rfl,hD _⟩
 | succ lv=>
  simp only[rd] at hP
  have h0:(((lv+1:Nat):Int)=0)=False:=bG (by omega)
  obtain⟨lw,hlw⟩:∃lw,lw=lv+1:=⟨_,rfl⟩
  rw[←hlw] at hP h0 ⊢
  have hwl:=jL (x:=(lw:Int) - 1) (m:=lv) (by omega) (by omega)
  simp only[h0,hwl,bB,aB,seval]
  refine(IH d a lv _ ha (by omega) hd (by omega)).mono ?_
  rintro r _ ⟨hr,rfl⟩
  cases hRi:rd (sb s) n d a lv with
  | none=>
   rw[hRi] at hr hP
   simp only at hP
   subst hP
   obtain⟨k,hk,rfl⟩:=hr
   have hk0:((0:Int)≤(-1 - (k:Int)))=False:=bG (by omega)
   simp only[aG,cR,cI,kR,aB,↓aU,seval,rC]
   intro b10 h10
   have hbb:b10≠b:=fun h=>by rw[h,aA.aH] at h10;cases h10
   have N5:st b10=none:=by rwa [aA.aJ _ _ hbb] at h10
   refine i8 (σ:=Unit) [1000000,10] [0,2,3,8,10] (fun _=>True) (fun _=>[(9,.int .i64 0),(11,.int .i64 (-1 - (k:Int)))]) (fun _=>(st.aC b (.cells [.int .i64 0,.int .i64 0,.str ⟨#[]⟩,.fslice []])).aC b10 (.cells GT.av.cells)) (fun _=>0) (by decide +kernel) ⟨(),trivial,aO.mk (by simp only[aB,seval])⟩ ?_
   rintro _ _
   simp only[aG,hk0,hbb.symm,bB,aB,seval,rC]
   exact⟨CT hk,((hD _).aC N5).aC hb⟩
  | some p=>
   obtain⟨t,e⟩:=p
   rw[hRi] at hr hP
   simp only[lL] at hr hP
   subst hr
   obtain⟨g1,g2,g3⟩:=zG hl1 n d lv a t e (by rw[b9];exact ha) hRi
   rw[b9] at g2 hP
   simp only[aG,cR,cI,aB,↓aU,seval,rC]
   intro b10 h10
   have hbb:b10≠b:=fun h=>by rw[h,aA.aH] at h10;cases h10
   have N5:st b10=none:=by rwa [aA.aJ _ _ hbb] at h10
   have hE:∀o1 o2 o3,aL (((st.aC b o1).aC b10 o2).aC b o3) st:=fun o1 o2 o3=>((hD _).aC N5).aC hb
   refine i8 (σ:=Tm×Nat×Nat) [1000000,10] [0,2,3,8,10] (fun x=>CM (fun a=>rd (sb s) n d a lv) (sb s) lw x.2.2 x.1 x.2.1=o∧a<x.2.1∧x.2.1≤s.size∧s.size<x.2.2+x.2.1) (fun x=>[(9,.int .i64 0),(11,.int .i64 (x.2.1:Int))]) (fun x=>(st.aC b (.cells [.int .i64 0,.int .i64 0,.str ⟨#[]⟩,.fslice []])).aC b10 (.cells x.1.av.cells)) (fun x=>x.2.2) (by decide +kernel) ⟨(t,e,s.size+1),⟨hP,g1,g2,by simp only;omega⟩,aO.mk (by simp only[aB,seval])⟩ ?_
   rintro⟨t,e,m⟩ ⟨ht,hae,hes,hm⟩
   simp only at ht hae hes hm ⊢
   obtain⟨m,rfl⟩:∃m',m=m'+1:=⟨m - 1,by omega⟩
   simp only[CM] at ht
   have he0:((0:Int)≤(e:Int))=True:=bT (by omega)
   simp only[he0,aZ,aB,seval]
   refine(aQU s hs e hes _).to ?_
   cases hop:pS (sb s) e with
   | none=>
    rw[hop] at ht
    simp only at ht
    subst ht
    simp only[aG,cR,cT,cI,fL (cI _),fJ (bM _),PB,hbb.symm,aZ,aB,seval,rC]
    exact⟨q7 rfl,hE _ _ _⟩
   | some p=>
    obtain⟨nm,e1⟩:=p
    rw[hop] at ht
    simp only at ht
    obtain⟨k1,k2,k3⟩:=aH1 hop
    rw[b9] at k2
    have hnm:=bG (aYR k3)
    simp only[PB,hnm,bB,aB,seval]
    refine(uU nm _).to ?_
    by_cases aGL:cV nm=lw
    case neg=>
     rw[aN aGL] at ht
     subst ht
     have hne:((cV nm:Int)=(lw:Int))=False:=bG (by omega)
     simp only[aG,cR,cT,cI,fL (cI _),fJ (bM _),hne,hbb.symm,bB,aB,seval,rC]
     exact⟨q7 rfl,hE _ _ _⟩
    rw[aK (by simpa using aGL)] at ht
    have hne:((cV nm:Int)=(lw:Int))=True:=bT (by omega)
    simp only[hne,hwl,aZ,aB,seval]
    refine(IH d e1 lv _ k2 (by omega) hd (by omega)).mono ?_
    rintro r _ ⟨hr,rfl⟩
    cases hRj:rd (sb s) n d e1 lv with
    | none=>
     rw[hRj] at hr ht
     simp only at ht
     subst ht
     obtain⟨k,hk,rfl⟩:=hr
     have hk0:((-1 - (k:Int))<0)=True:=bT (by omega)
     simp only[aG,aP,cR,cT,hk0,kR,hbb.symm,aZ,aB,↓aU,seval,rC]
     exact⟨CT hk,hE _ _ _⟩
    | some p=>
     obtain⟨t2,e2⟩:=p
     rw[hRj] at hr ht
     simp only[lL] at hr ht
     subst hr
     obtain⟨q1,q2,q3⟩:=zG hl1 n d lv e1 t2 e2 (by rw[b9];exact k2) hRj
     rw[b9] at q2
     have he2:((e2:Int)<0)=False:=bG (by omega)
     simp only[bM,aP,cR,cT,cI,fL (cI _),fJ (bM _),he2,bB,aB,↓aU,seval,rC]
     refine(H2 nm [t,t2] (by simp) _).to ?_
     by_cases h3:lw=3
     · rw[aN h3] at ht
       subst ht
       have h3':((lw:Int)=3)=True:=bT (by omega)
       simp only[aG,cR,cT,cI,fL (cI _),fJ (bM _),h3',hbb.symm,aZ,aB,seval,rC]
       exact⟨q7 rfl,hE _ _ _⟩
     · rw[aK h3] at ht
       have h3':((lw:Int)=3)=False:=bG (by omega)
       simp only[aG,cR,cI,h3',bB,aB,seval,rC]
       exact⟨(nD nm [t,t2],e2,m),by simp only;omega,⟨ht,by simp only;omega,q2,by simp only;omega⟩,aO.mk (by simp only[aB,seval])⟩
end Go.AW
namespace Go.AW
def kB:Nat→Nat→ByteArray→ByteArray
 | 0,_,acc=>acc
 | f+1,n,acc=>if 9<n then kB f (n / 10) (⟨#[UInt8.ofNat (48+n % 10)]⟩++acc) else⟨#[UInt8.ofNat (48+n)]⟩++acc
def uX(n:Int):ByteArray:=if n<0 then⟨#[45]⟩++kB 20 (-n).toNat ⟨#[]⟩ else kB 20 n.toNat ⟨#[]⟩
def tO(n:Int):ByteArray:=⟨#[UInt8.ofNat (65+n.toNat)]⟩
def qY(t:Tm):Bool:=decide (t.k=3)&&(decide (t.s=⟨#[46]⟩)&&decide (t.ts.length=2))
def JL(t:Tm):Bool:=decide (t.k=3)&&(decide (t.s=⟨#[91,93]⟩)&&decide (t.ts.length=0))
def tK(t:Tm):Bool:=decide (t.k=3)&&(decide (t.ts.length=2)&&decide (0<cV t.s))
def CX(t:Tm):Bool:=decide (t.k=3)&&(decide (t.ts.length=0)&&decide (0<cV t.s))
def HS(t:Tm):Bool:=decide (t.k=3)&&decide (0<t.ts.length)
def l8(t:Tm)(i:Nat):Tm:=t.ts.getD i a2V
 where a2V:Tm:=.mk 0 0 ⟨#[]⟩ []
def kA(T:Tm→ByteArray):List Tm→ByteArray
 | []=>⟨#[]⟩
 | x::xs=>xs.foldl (fun o y=>(o++⟨#[44]⟩)++T y) (⟨#[]⟩++T x)
def spine:Nat→Tm→List Tm×Tm
 | 0,t=>([],t)
 | n+1,t=>if qY t then(l8 t 0::(spine n (l8 t 1)).1,(spine n (l8 t 1)).2) else([],t)
def oI(nm:ByteArray):ByteArray:=if gF nm then(⟨#[32]⟩++nm)++⟨#[32]⟩ else nm
def JT(l:List UInt8):Bool:=eV l 0 letter||(eV l 0 cY||(eV l 0 sL||(cD l 0 91||cD l 0 40)))
def qK(T:Tm→ByteArray)(t:Tm)(lv:Nat):ByteArray:=if tK t&&decide (lv<cV t.s) then(⟨#[40]⟩++T t)++⟨#[41]⟩ else T t
def wW(T:Tm→ByteArray)(t:Tm)(lv:Nat):ByteArray:=if CX t then(⟨#[40]⟩++T t)++⟨#[41]⟩ else qK T t lv
def xB(T:Tm→ByteArray)(t:Tm)(lv:Nat):ByteArray:=if CX t|| !JT (sb (qK T t lv)) then(⟨#[40]⟩++qK T t lv)++⟨#[41]⟩ else qK T t lv
def CA(T:Tm→ByteArray)(p:List Tm×Tm):ByteArray:=if JL p.2 then(⟨#[91]⟩++kA T p.1)++⟨#[93]⟩ else(((⟨#[91]⟩++kA T p.1)++⟨#[124]⟩)++T p.2)++⟨#[93]⟩
def yY(t:Tm):ByteArray:=if t.k=1 then tO t.n else if t.k=2 then uX t.n else t.s
def lvl(n:Nat):Nat:=if n=3 then 2 else n
def tx:Nat→Tm→ByteArray
 | 0,_=>⟨#[]⟩
 | n+1,t=>if qY t then CA (tx n) (spine n t) else if tK t then(wW (tx n) (l8 t 0) (lvl (cV t.s))++oI t.s)++xB (tx n) (l8 t 1) (cV t.s - 1)
  else if HS t then((t.s++⟨#[40]⟩)++kA (tx n) t.ts)++⟨#[41]⟩ else yY t
theorem aNE{T:Tm→ByteArray}{l:List Tm}{i:Nat}{x:Tm}(hx:l[i]?=some x):kA T (l.take (i+1))=(if 0<i then kA T (l.take i)++⟨#[44]⟩ else kA T (l.take i))++T x:=by
 rw[eS,hx]
 cases l with
 | nil=>simp at hx
 | cons y l=>
  cases i with
  | zero=>simp at hx;subst hx;rfl
  | succ i=>
   rw[aN (by omega),uE]
   simp only[kA,LY,fU,HA,uC,List.foldl_nil]
theorem cG(a b:ByteArray):(a++b).size=a.size+b.size:=ByteArray.size_append
theorem IF:∀(f n:Nat) (acc:ByteArray),(kB f n acc).size≤f+acc.size
 | 0,n,acc=>by simp [kB]
 | f+1,n,acc=>by
  unfold kB
  split
  · refine lZ (IF f _ _) ?_
    rw[cG]
    show f+(1+acc.size)≤_
    omega
  · rw[cG]
    show 1+acc.size≤_
    omega
abbrev Ws (t:Tm):Prop:=∃d,t.shape d=true
theorem Ws.own{k n:Int}{s:ByteArray}{ts:List Tm}(h:Ws (.mk k n s ts)):dY k n s ts.length=true∧∀x∈ts,Ws x:=by
 obtain⟨d,h⟩:=h
 rw[Tm.zL,bD,bD,c6] at h
 exact⟨h.1.2,fun x hx=>⟨_,h.2 x hx⟩⟩
theorem zD{k n:Int}{s:ByteArray}{len:Int}(h:dY k n s len=true):(k=1∧0≤n∧n≤25∧s=⟨#[]⟩∧len=0)∨(k=2∧-999≤n∧n≤999∧s=⟨#[]⟩∧len=0)∨(k=3∧n=0∧tR s=true∧len≤4):=by
 unfold dY at h
 by_cases h1:k=1
 · rw[d9 h1] at h
   simp only[cond_true,bD,bA] at h
   exact Or.inl ⟨h1,h.1.1.1,h.1.1.2,h.1.2,h.2⟩
 rw[eM h1] at h
 by_cases h2:k=2
 · rw[d9 h2] at h
   simp only[cond_true,yG,bD,bA] at h
   exact Or.inr (Or.inl ⟨h2,h.1.1.1,h.1.1.2,h.1.2,h.2⟩)
 rw[eM h2] at h
 by_cases h3:k=3
 · rw[d9 h3] at h
   simp only[cond_true,yG,bD,bA] at h
   exact Or.inr (Or.inr ⟨h3,h.1.1,h.1.2,h.2⟩)
 · rw[eM h3] at h
   cases h
theorem aHG{s:ByteArray}(h:tR s=true):1≤s.size∧s.size≤6:=by
 unfold tR at h
 rw[kZ] at h
 rcases h with h | h
 · simp only[qW,bD,bA] at h
   omega
 · rw[G7] at h
   obtain⟨x,hx,h⟩:=h
   rw[bA] at h
   subst h
   revert hx
   revert s
   decide
theorem Ws.size{t:Tm}(h:Ws t):t.s.size≤6∧(t.k=3→1≤t.s.size):=by
 obtain⟨k,n,s,ts⟩:=t
 rcases zD h.own.1 with h | h | h
 · rw[show(Tm.mk k n s ts).s=s from rfl,h.2.2.2.1];exact⟨by decide,fun h3=>by have:k=3:=h3;omega⟩
 · rw[show(Tm.mk k n s ts).s=s from rfl,h.2.2.2.1];exact⟨by decide,fun h3=>by have:k=3:=h3;omega⟩
 · have:=aHG h.2.2.1;exact⟨this.2,fun _=>this.1⟩
theorem qX(t:Tm):1≤t.nodes:=by obtain⟨k,n,s,ts⟩:=t;rw[Tm.gR];omega
theorem aHC{x:Tm}{l:List Tm}(h:x∈l):x.nodes≤bH Tm.nodes l:=by
 induction l with
 | nil=>cases h
 | cons y l ih=>
  simp only[bH]
  rcases cL.1 h with rfl | h
  · omega
  · have:=ih h;omega
theorem aJC:∀(l:List Tm) (i:Nat),bH Tm.nodes (l.take i)≤bH Tm.nodes l
 | [],i=>by simp
 | x::l,0=>by simp [bH]
 | x::l,i+1=>by simp only[uE,bH];have:=aJC l i;omega
theorem EQ{T:Tm→ByteArray}{l:List Tm}(h:∀x∈l,(T x).size≤32*x.nodes):(kA T l).size≤32*bH Tm.nodes l+l.length:=by
 have hg:∀(xs:List Tm) (o:ByteArray),(∀x∈xs,(T x).size≤32*x.nodes)→(xs.foldl (fun o y=>(o++⟨#[44]⟩)++T y) o).size≤o.size+32*bH Tm.nodes xs+xs.length:=by
  intro xs
  induction xs with
  | nil=>intro o _;simp [bH]
  | cons x xs ih=>
   intro o hx
   refine lZ (ih _ fun y hy=>hx y (by simp [hy])) ?_
   rw[cG,cG]
   have:=hx x (by simp)
   simp only[bH,aX]
   show o.size+1+_+_+_≤_
   omega
 cases l with
 | nil=>exact iI _
 | cons x l=>
  refine lZ (hg l _ fun y hy=>h y (by simp [hy])) ?_
  rw[cG]
  have:=h x (by simp)
  simp only[bH,aX]
  show 0+_+_+_≤_
  omega
theorem CO{t:Tm}(h:qY t=true):∃n x y,t=.mk 3 n ⟨#[46]⟩ [x,y]:=by
 obtain⟨k,n,s,ts⟩:=t
 simp only[qY,bD,bA] at h
 simp only[Tm.k,Tm.s,Tm.ts] at h
 obtain⟨rfl,rfl,h3⟩:=h
 match ts,h3 with
 | [x,y],_=>exact⟨n,x,y,rfl⟩
theorem B9{k n:Int}{s:ByteArray}{x y:Tm}:l8 (.mk k n s [x,y]) 0=x∧l8 (.mk k n s [x,y]) 1=y:=⟨rfl,rfl⟩
theorem J4:∀(n:Nat) (t:Tm),Ws t→(∀x∈(spine n t).1,Ws x)∧Ws (spine n t).2∧bH Tm.nodes (spine n t).1+(spine n t).1.length+(spine n t).2.nodes=t.nodes
 | 0,t,h=>⟨by simp [spine],h,by simp [spine,bH]⟩
 | n+1,t,h=>by
  unfold spine
  split
  · rename_i hp
    obtain⟨m,x,y,rfl⟩:=CO hp
    have hk:=h.own.2
    obtain⟨h1,h2,h3⟩:=J4 n y (hk y (by simp))
    simp only[B9]
    refine⟨fun z hz=>?_,h2,?_⟩
    · rcases cL.1 hz with rfl | hz
      · exact hk z (by simp)
      · exact h1 z hz
    · simp only[bH,aX,Tm.gR]
      omega
  · exact⟨by simp,h,by simp [bH]⟩
theorem OZ{t:Tm}(h:tK t=true):∃n s x y,t=.mk 3 n s [x,y]∧0<cV s:=by
 obtain⟨k,n,s,ts⟩:=t
 simp only[tK,bD,bA] at h
 simp only[Tm.k,Tm.s,Tm.ts] at h
 obtain⟨rfl,h2,h3⟩:=h
 match ts,h2 with
 | [x,y],_=>exact⟨n,s,x,y,rfl,h3⟩
theorem MN{T:Tm→ByteArray}{t:Tm}(lv:Nat):(T t).size≤(qK T t lv).size∧(qK T t lv).size≤(T t).size+2:=by
 unfold qK
 split
 · rw[cG,cG];show _≤1+_+1∧1+_+1≤_;omega
 · omega
theorem aYL{T:Tm→ByteArray}{t:Tm}(lv:Nat):(T t).size≤(wW T t lv).size∧(wW T t lv).size≤(T t).size+2:=by
 unfold wW
 split
 · rw[cG,cG];show _≤1+_+1∧1+_+1≤_;omega
 · exact MN lv
theorem a0Z{T:Tm→ByteArray}{t:Tm}(lv:Nat):(T t).size≤(xB T t lv).size∧(xB T t lv).size≤(T t).size+4:=by
 have:=MN (T:=T) (t:=t) lv
 unfold xB
 split
 · rw[cG,cG];show _≤1+_+1∧1+_+1≤_;omega
 · omega
theorem xP:∀(n:Nat) (t:Tm),Ws t→(tx n t).size≤32*t.nodes
 | 0,t,_=>iI _
 | n+1,t,h=>by
  have hT:=xP n
  unfold tx
  split
  · rename_i hp
    obtain⟨h1,h2,h3⟩:=J4 n t h
    have ha:=EQ (T:=tx n) (l:=(spine n t).1) fun x hx=>hT x (h1 x hx)
    have hb:=hT _ h2
    have hq:=qX (spine n t).2
    have hl:1≤(spine n t).1.length∨n=0:=by
     cases n with
     | zero=>exact Or.inr rfl
     | succ m=>left;unfold spine;rw[aN hp];simp
    have h4:3≤t.nodes:=by obtain⟨m,x,y,rfl⟩:=CO hp;simp only[Tm.gR,bH];have:=qX x;have:=qX y;omega
    have hb2:1≤(spine n t).1.length∨((tx n (spine n t).2).size=0∧(kA (tx n) (spine n t).1).size=0):=by
     rcases hl with hl | rfl
     · left;omega
     · right;exact⟨rfl,rfl⟩
    unfold CA
    split
    · rw[cG,cG];show 1+_+1≤_;omega
    · rw[cG,cG,cG,cG];show 1+_+1+_+1≤_;omega
  split
  · rename_i hp
    obtain⟨m,s,x,y,rfl,hs⟩:=OZ hp
    have hk:=h.own.2
    have h6:=h.size.1
    simp only[B9,Tm.gR,bH,Tm.s]
    have hx:=hT x (hk x (by simp))
    have hy:=hT y (hk y (by simp))
    have hl:=(aYL (T:=tx n) (t:=x) (lvl (cV s))).2
    have hr:=(a0Z (T:=tx n) (t:=y) (cV s - 1)).2
    rw[cG,cG]
    have hsp:(oI s).size≤8:=by
     have h6:s.size≤6:=h6
     unfold oI
     split
     · rw[cG,cG];show 1+_+1≤_;omega
     · omega
    show _+(oI s).size+_≤_
    omega
  split
  · obtain⟨k,m,s,ts⟩:=t
    have ha:=EQ (T:=tx n) (l:=ts) fun x hx=>hT x (h.own.2 x hx)
    have h6:s.size≤6:=h.size.1
    have h4:ts.length≤4:=by rcases zD h.own.1 with h | h | h<;>omega
    rw[cG,cG,cG,Tm.gR]
    simp only[Tm.s,Tm.ts]
    show s.size+1+_+1≤_
    omega
  · have h6:=h.size.1
    have hp:=qX t
    unfold yY
    split
    · show 1≤_;omega
    · split
      · unfold uX
        split
        · rw[cG];have:=IF 20 (-t.n).toNat ⟨#[]⟩;have h0:(⟨#[]⟩:ByteArray).size=0:=rfl;show 1+_≤_;omega
        · have:=IF 20 t.n.toNat ⟨#[]⟩;have h0:(⟨#[]⟩:ByteArray).size=0:=rfl;omega
      · omega
def vT:Nat→Tm→Tm
 | 0,t=>t
 | i+1,t=>vT i (l8 t 1)
theorem aI1:∀(i:Nat) (t:Tm),vT (i+1) t=l8 (vT i t) 1
 | 0,t=>rfl
 | i+1,t=>by rw[vT,aI1 i];try rfl
theorem aI2:∀(n:Nat) (t:Tm) (i:Nat) (x:Tm),(spine n t).1[i]?=some x→qY (vT i t)=true∧l8 (vT i t) 0=x
 | 0,t,i,x,h=>by simp [spine] at h
 | n+1,t,i,x,h=>by
  unfold spine at h
  split at h
  · rename_i hp
    cases i with
    | zero=>simp at h;exact⟨hp,h⟩
    | succ i=>exact aI2 n _ i x (by simpa using h)
  · simp at h
theorem aI3:∀(n:Nat) (t:Tm),t.nodes≤n+1→(spine n t).2=vT (spine n t).1.length t∧qY (spine n t).2=false
 | 0,t,h=>by
  refine⟨rfl,?_⟩
  cases hp:qY t with
  | false=>exact hp
  | true=>obtain⟨m,x,y,rfl⟩:=CO hp;simp only[Tm.gR,bH] at h;have:=qX x;omega
 | n+1,t,h=>by
  unfold spine
  split
  · rename_i hp
    obtain⟨m,x,y,rfl⟩:=CO hp
    simp only[Tm.gR,bH] at h
    have:=qX x
    have:=aI3 n y (by omega)
    exact⟨this.1,this.2⟩
  · rename_i hp
    exact⟨rfl,by simpa using hp⟩
theorem Q5{n:Nat}{t:Tm}(h:Ws t)(hn:1≤n):1≤(tx n t).size:=by
 obtain⟨n,rfl⟩:∃m,n=m+1:=⟨n - 1,by omega⟩
 unfold tx
 split
 · unfold CA
   split
   · rw[cG,cG];show 1≤1+_+1;omega
   · rw[cG];show 1≤_+1;omega
 split
 · rename_i hp
   obtain⟨m,s,x,y,rfl,hs⟩:=OZ hp
   have h6:1≤s.size:=h.size.2 rfl
   rw[cG,cG]
   have:1≤(oI s).size:=by
    unfold oI
    split
    · rw[cG,cG];omega
    · exact h6
   show 1≤_+(oI s).size+_
   omega
 split
 · rw[cG];show 1≤_+1;omega
 · obtain⟨k,m,s,ts⟩:=t
   rw[show yY (.mk k m s ts)=if k=1 then tO m else if k=2 then uX m else s from rfl]
   rcases zD h.own.1 with h1 | h1 | h1
   · rw[aN h1.1];exact cX _
   · rw[aK (by omega),aN h1.1]
     unfold uX
     split
     · rw[cG];show 1≤1+_;omega
     · have hf:∀f n acc,1≤(kB (f+1) n acc).size:=by
        intro f
        induction f with
        | zero=>
         intro n acc;unfold kB;split
         · simp only[kB];rw[cG];show 1≤1+_;omega
         · rw[cG];show 1≤1+_;omega
        | succ f ih=>
         intro n acc;unfold kB;split
         · exact ih _ _
         · rw[cG];show 1≤1+_;omega
       exact hf 19 _ _
   · rw[aK (by omega),aK (by omega)];exact(aHG h1.2.2.1).1
end Go.AW
namespace Go.AW
open Go.Proofs.Tryz
theorem aH6{k n:Int}{s:ByteArray}{ts:List Tm}:qY (.mk k n s ts)=(decide (k=3)&&(decide (s=⟨#[46]⟩)&&decide (ts.length=2))):=rfl
theorem aZD{k n:Int}{s:ByteArray}{ts:List Tm}:JL (.mk k n s ts)=(decide (k=3)&&(decide (s=⟨#[91,93]⟩)&&decide (ts.length=0))):=rfl
theorem aX8{k n:Int}{s:ByteArray}{ts:List Tm}:tK (.mk k n s ts)=(decide (k=3)&&(decide (ts.length=2)&&decide (0<cV s))):=rfl
theorem MG{k n:Int}{s:ByteArray}{ts:List Tm}:HS (.mk k n s ts)=(decide (k=3)&&decide (0<ts.length)):=rfl
theorem a1O{k n:Int}{s:ByteArray}{ts:List Tm}:CX (.mk k n s ts)=(decide (k=3)&&(decide (ts.length=0)&&decide (0<cV s))):=rfl
abbrev QI:=zi aS (zi bV (zi cH (zi cB cC)))
theorem H1(t:Tm)(st:aA):aD prog 311 [t.av] st (fun r st'=>r=.bool (qY t)∧st'=st):=by
 obtain⟨k,n,s,ts⟩:=t
 rw[aH6]
 refine wF [1000000] 1 func311 ntmps311 rfl rfl ?_
 intro _
 simp only[bU]
 by_cases h1:k=3
 case neg=>
  rw[eM h1,eJ]
  simp only[h1,bB,aB,seval,QI]
 rw[d9 h1,cZ]
 by_cases h2:s=⟨#[46]⟩
 case neg=>
  rw[eM h2,eJ]
  simp only[h1,h2,aZ,bB,aB,seval,QI]
 rw[d9 h2,cZ]
 have h3:decide (((ts.length:Nat):Int)=2)=decide (ts.length=2):=by rw[qM];omega
 simp only[h1,h2,h3,aZ,aE,aB,seval,QI]
abbrev QK:=zi aS (zi bV (zi cH (zi cB cC)))
theorem aQI(t:Tm)(st:aA):aD prog 359 [t.av] st (fun r st'=>r=.bool (JL t)∧st'=st):=by
 obtain⟨k,n,s,ts⟩:=t
 rw[aZD]
 refine wF [1000000] 1 func359 ntmps359 rfl rfl ?_
 intro _
 simp only[bU]
 by_cases h1:k=3
 case neg=>
  rw[eM h1,eJ]
  simp only[h1,bB,aB,seval,QK]
 rw[d9 h1,cZ]
 by_cases h2:s=⟨#[91,93]⟩
 case neg=>
  rw[eM h2,eJ]
  simp only[h1,h2,aZ,bB,aB,seval,QK]
 rw[d9 h2,cZ]
 have h3:decide (((ts.length:Nat):Int)=0)=decide (ts.length=0):=by rw[qM];omega
 simp only[h1,h2,h3,aZ,aE,aB,seval,QK]
abbrev QJ:=zi aS (zi bV (zi cH (zi cB cC)))
theorem TU(t:Tm)(st:aA):aD prog 313 [t.av] st (fun r st'=>r=.bool (tK t)∧st'=st):=by
 obtain⟨k,n,s,ts⟩:=t
 rw[aX8]
 refine wF [1000000] 1 func313 ntmps313 rfl rfl ?_
 intro _
 simp only[bU]
 by_cases h1:k=3
 case neg=>
  rw[eM h1,eJ]
  simp only[h1,bB,aB,seval,QJ]
 rw[d9 h1,cZ]
 by_cases h2:ts.length=2
 case neg=>
  rw[eM h2,eJ]
  have h2':(((ts.length:Nat):Int)=2)=False:=bG (by omega)
  simp only[h1,h2',aZ,bB,aE,aB,seval,QJ]
 rw[d9 h2,cZ]
 have h2':(((ts.length:Nat):Int)=2)=True:=bT (by omega)
 simp only[h1,h2',aZ,aE,aB,seval,QJ]
 refine(uU s _).to ?_
 have h3:decide ((0:Int)<(cV s:Int))=decide (0<cV s):=by rw[qM];omega
 simp only[h3,aB,seval]
abbrev QL:=zi aS (zi bV (zi cH (zi cB cC)))
theorem TV(t:Tm)(st:aA):aD prog 360 [t.av] st (fun r st'=>r=.bool (CX t)∧st'=st):=by
 obtain⟨k,n,s,ts⟩:=t
 rw[a1O]
 refine wF [1000000] 1 func360 ntmps360 rfl rfl ?_
 intro _
 simp only[bU]
 by_cases h1:k=3
 case neg=>
  rw[eM h1,eJ]
  simp only[h1,bB,aB,seval,QL]
 rw[d9 h1,cZ]
 by_cases h2:ts.length=0
 case neg=>
  rw[eM h2,eJ]
  have h2':(((ts.length:Nat):Int)=0)=False:=bG (by omega)
  simp only[h1,h2',aZ,bB,aE,aB,seval,QL]
 rw[d9 h2,cZ]
 have h2':(((ts.length:Nat):Int)=0)=True:=bT (by omega)
 simp only[h1,h2',aZ,aE,aB,seval,QL]
 refine(uU s _).to ?_
 have h3:decide ((0:Int)<(cV s:Int))=decide (0<cV s):=by rw[qM];omega
 simp only[h3,aB,seval]
theorem aQZ(s:ByteArray)(hs:s.size≤1000)(st:aA):aD prog 315 [.str s] st (fun r st'=>r=.str (oI s)∧st'=st):=by
 refine wF [1000000] 1 func315 ntmps315 rfl rfl ?_
 intro _
 have hm:maxLen=9223372036854775807:=by rfl
 have g1:(⟨#[32]⟩:ByteArray).size+s.size≤maxLen:=by show 1+s.size≤_;omega
 have g2:((⟨#[32]⟩:ByteArray)++s).size+(⟨#[32]⟩:ByteArray).size≤maxLen:=by rw[cG];show 1+s.size+1≤_;omega
 by_cases h1:s=⟨#[105,115]⟩
 · have hW:gF s=true:=by unfold gF;rw[d9 h1];try rfl
   unfold oI
   rw[aN hW]
   have h1':=bT h1
   simp only[h1',g1,g2,↓reduceIte,aZ,aB,seval]
 · have h1':=bG h1
   by_cases h2:s=⟨#[109,111,100]⟩
   · have hW:gF s=true:=by unfold gF;rw[d9 h2];exact v5 _
     unfold oI
     rw[aN hW]
     have h2':=bT h2
     simp only[h1',h2',g1,g2,↓reduceIte,aZ,bB,aB,seval]
   · have hW:gF s=false:=by unfold gF;rw[eM h1,eM h2];try rfl
     unfold oI
     rw[aK (by rw[hW];decide)]
     have h2':=bG h2
     simp only[h1',h2',bB,aB,seval]
theorem aQV(s:ByteArray)(hs:1≤s.size)(st:aA):aD prog 362 [.str s] st (fun r st'=>r=.bool (JT (sb s))∧st'=st):=by
 refine wF [1000000] 1 func362 ntmps362 rfl rfl ?_
 intro _
 obtain⟨x,hx⟩:=uS (s:=s) (n:=0) (by omega)
 have hix:=pP (P:=prog) (t:=9) nO hx
 rw[show((0:Nat):Int)=0 from rfl] at hix
 unfold JT
 simp only[vL hx,r9 hx]
 simp only[aB,seval]
 refine(aHF s 0 _).to ?_
 rw[vL hx]
 cases h1:letter x with
 | true=>
  simp only[aB,seval]
  simp
 | false=>
  simp only[aB,seval]
  refine(y6 s 0 _).to ?_
  rw[vL hx]
  cases h2:cY x with
  | true=>
   simp only[aB,seval]
   simp
  | false=>
   by_cases h3:65≤x.toNat
   case' pos=>have h3':((65:Int)≤(x.toNat:Int))=True:=bT (by omega)
   case' neg=>have h3':((65:Int)≤(x.toNat:Int))=False:=bG (by omega)
   all_goals
    by_cases h4:x.toNat≤90
    case' pos=>have h4':((x.toNat:Int)≤90)=True:=bT (by omega)
    case' neg=>have h4':((x.toNat:Int)≤90)=False:=bG (by omega)
   all_goals
    by_cases h5:x.toNat=91
    case' pos=>have h5':((x.toNat:Int)=91)=True:=bT (by omega)
    case' neg=>have h5':((x.toNat:Int)=91)=False:=bG (by omega)
   all_goals
    by_cases h6:x.toNat=40
    case' pos=>have h6':((x.toNat:Int)=40)=True:=bT (by omega)
    case' neg=>have h6':((x.toNat:Int)=40)=False:=bG (by omega)
   all_goals try (exfalso;omega)
   all_goals
    simp only[hix,h3',h4',h5',h6',aZ,bB,aB,seval]
    simp [sL,h3,h4,h5,h6]
theorem MQ(n:Nat):bytesOf [AV.int .u8 ((n:Nat):Int)]=some [UInt8.ofNat n]:=by simp only[bytesOf,gI,oT]
theorem LF{x:Int}{m:Nat}(h:x=(m:Int))(hm:m≤255):IntKind.wrap .u8 x=(m:Int):=by rw[IntKind.wrap_u8];omega
abbrev a2N:=zi aS (zi gD (zi cH kH))
theorem TN(m:Nat)(hm:m≤25)(st:aA):aD prog 262 [.int .i64 (m:Int)] st (fun r st'=>r=.str (tO m)∧st'=st):=by
 refine wF [1000000] 1 func262 ntmps262 rfl rfl ?_
 intro _
 have hw:=LF (x:=(m:Int)) rfl (by omega)
 obtain⟨y,hy⟩:∃y,y=65+m:=⟨_,rfl⟩
 have hw2:=LF (x:=65+(m:Int)) (m:=y) (by omega) (by omega)
 simp only[lM,hw,hw2,MQ,aB,seval,a2N]
 subst hy
 rfl
abbrev aKB:=zi aS (zi gD (zi cH kH))
theorem MW(n:Nat)(hn:n≤1000000)(st:aA):aD prog 93 [.int .i64 (n:Int)] st (fun r st'=>r=.str (kB 20 n ⟨#[]⟩)∧st'=st):=by
 refine wF [1000000] 1 func93 ntmps93 rfl rfl ?_
 intro _
 have h1:((n:Int)< -9223372036854775807)=False:=bG (by omega)
 have h2:((n:Int)<0)=False:=bG (by omega)
 simp only[h1,h2,bB,aB,seval]
 generalize hT:kB 20 n ⟨#[]⟩=T
 refine i8 (σ:=Nat×ByteArray×Nat) [1000000] [2] (fun x=>kB x.2.2 x.1 x.2.1=T∧x.1<10 ^ x.2.2∧x.1≤1000000∧1≤x.2.2∧x.2.1.size+x.2.2≤20) (fun x=>[(0,.int .i64 (x.1:Int)),(3,.str x.2.1)]) (fun _=>st) (fun x=>x.2.2) (by decide +kernel) ⟨(n,⟨#[]⟩,20),⟨hT,by simp only;omega,hn,by simp only;omega,by show 0+20≤20;omega⟩,aO.mk (by simp only[aB,seval])⟩ ?_
 rintro⟨k,acc,f⟩ ⟨hd,hk,hk6,hf,hb⟩
 simp only at hd hk hk6 hf hb ⊢
 obtain⟨f,rfl⟩:∃f',f=f'+1:=⟨f - 1,by omega⟩
 have hm:maxLen=9223372036854775807:=by rfl
 have hsz:∀u:UInt8,(⟨#[u]⟩:ByteArray).size+acc.size≤maxLen:=fun u=>by show 1+acc.size≤_;omega
 have hr:((k:Int)).tmod 10=((k % 10:Nat):Int):=by rw[Int.tmod_eq_emod_of_nonneg (by omega)];omega
 have hq:((k:Int)).tdiv 10=((k / 10:Nat):Int):=by rw[Int.tdiv_eq_ediv_of_nonneg (by omega)];omega
 simp only[aB,seval]
 refine aQ (fun h3=>?_) (fun h3=>?_)
 · simp only[bA] at h3
   unfold kB at hd
   rw[aN (by omega)] at hd
   rw[Nat.pow_succ] at hk
   obtain⟨y,hy⟩:∃y,y=48+k % 10:=⟨_,rfl⟩
   obtain⟨q,hq'⟩:∃q,q=k / 10:=⟨_,rfl⟩
   obtain⟨r,hr'⟩:∃r,r=k % 10:=⟨_,rfl⟩
   rw[←hr'] at hr
   rw[←hq'] at hq
   have hwr:=bC (n:=(r:Int))
   have hw:=jL (x:=48+(r:Int)) (m:=y) (by omega) (by omega)
   have hw8:=LF (x:=(y:Int)) (m:=y) rfl (by omega)
   have hw2:=bC (n:=(q:Int))
   simp only[lM,hr,hq,hw,hw8,hw2,MQ,hsz,aB,seval,aKB]
   refine⟨(q,⟨#[UInt8.ofNat y]⟩++acc,f),by simp only;omega,⟨by rw[hq',hy];exact hd,by simp only;omega,by simp only;omega,?_,?_⟩,aO.mk (by simp only[aB,seval]<;>rfl)⟩
   · show 1≤f
     rcases Nat.eq_zero_or_pos f with rfl | h
     · simp only[Nat.pow_zero] at hk;omega
     · exact h
   · show(⟨#[UInt8.ofNat y]⟩++acc:ByteArray).size+f≤20
     rw[cG]
     show 1+acc.size+f≤20
     omega
 · simp only[dC] at h3
   unfold kB at hd
   rw[aK (by omega)] at hd
   obtain⟨y,hy⟩:∃y,y=48+k:=⟨_,rfl⟩
   have hw:=jL (x:=48+(k:Int)) (m:=y) (by omega) (by omega)
   have hw8:=LF (x:=(y:Int)) (m:=y) rfl (by omega)
   simp only[lM,hw,hw8,MQ,hsz,aB,seval,aKB]
   rw[←hd,hy]
theorem aQE(n:Int)(h1: -999≤n)(h2:n≤999)(st:aA):aD prog 363 [.int .i64 n] st (fun r st'=>r=.str (uX n)∧st'=st):=by
 refine wF [1000000] 1 func363 ntmps363 rfl rfl ?_
 intro _
 unfold uX
 have hm:maxLen=9223372036854775807:=by rfl
 by_cases h:n<0
 · rw[aN h]
   obtain⟨m,hm'⟩:∃m:Nat,m=(-n).toNat:=⟨_,rfl⟩
   rw[←hm']
   have h':=bT h
   have hw:=jL (x:=0 - n) (m:=m) (by omega) (by omega)
   have hw':=jL (x:= -n) (m:=m) (by omega) (by omega)
   have hs:(⟨#[45]⟩:ByteArray).size+(kB 20 m ⟨#[]⟩).size≤maxLen:=by have:=IF 20 m ⟨#[]⟩;have h0:(⟨#[]⟩:ByteArray).size=0:=rfl;show 1+_≤_;omega
   simp only[h',hw,↓reduceIte,aZ,aB,seval]
   refine(MW m (by omega) _).to ?_
   simp only[hs,↓reduceIte,aB,seval]
 · rw[aK h]
   obtain⟨m,rfl⟩:=v6 (show 0≤n by omega)
   have h':=bG h
   rw[gI]
   simp only[h',bB,aB,seval]
   refine(MW m (by omega) _).to ?_
   simp only[aB,seval]
abbrev GN:=zi aS (zi cH (zi cB cC))
theorem aQQ(t:Tm)(ht:Ws t)(h0:t.k=3→t.ts= [])(st:aA):aD prog 317 [t.av] st (fun r st'=>r=.str (yY t)∧st'=st):=by
 obtain⟨k,n,s,ts⟩:=t
 have hp:=H1 (.mk k n s ts)
 simp only[bU] at hp ⊢
 rw[show yY (.mk k n s ts)=if k=1 then tO n else if k=2 then uX n else s from rfl]
 have h0:k=3→ts= []:=h0
 refine wF [1000000] 1 func317 ntmps317 rfl rfl ?_
 intro _
 rcases zD ht.own.1 with ⟨rfl,h1,h2,rfl,h4⟩ | ⟨rfl,h1,h2,rfl,h4⟩ | ⟨rfl,rfl,h2,h4⟩
 · obtain⟨m,rfl⟩:=v6 h1
   simp only[aB,seval,GN]
   refine(TN m (by omega) _).to ?_
   simp only[aB,seval]
 · skip
   simp only[aB,seval,GN]
   refine(aQE n h1 h2 _).to ?_
   simp only[aB,seval]
 · obtain rfl:=h0 rfl
   simp only[bE,aB,seval,GN]
   refine(hp _).to ?_
   rw[show qY (.mk 3 0 s [])=false by rw[aH6];simp]
   simp only[aB,seval,GN]
   refine i8 (σ:=Unit) [1000000] [1,2] (fun _=>True) (fun _=>[(3,.str s),(4,.int .i64 0)]) (fun _=>st) (fun _=>0) (by decide +kernel) ⟨(),trivial,aO.mk (by simp only[aB,seval])⟩ ?_
   rintro _ _
   simp only[a8,aB,seval,GN]
def Grown(st:aA)(l:List Int)(r:AV)(st':aA):Prop:=∃b',r=bK 1 b' (l.map iv)∧st'=a9 st b' (l.map iv)∧(l.map iv≠[]→st b'=none)
abbrev a5D:=zi aS (zi cB (zi mG cC))
abbrev GM:=zi aS (zi cB (zi mG cC))
theorem EW:∀(t:Tm) (l:List Int) (b:Nat) (st:aA),t.wf=true→(l.map iv≠[]→st b=none)→l.length+t.nodes≤1099511627776→aD prog 188 [bK 1 b (l.map iv),t.av] (a9 st b (l.map iv)) (Grown st (t.vars l))
 | .mk k n s ts,l,b,st,hwf,hb,hsz=>by
  obtain⟨hk,aXZ⟩:=Tm.aLP hwf
  have IH:=fun(x:Tm) (hx:x∈ts) l b st=>EW x l b st (aXZ x hx)
  have haL:=EN (w:=1) (b:=b) (l:=l.map iv) aK9
  simp only[Tm.vars]
  rw[Tm.gR] at hsz
  refine wF [] 2 func188 ntmps188 rfl rfl ?_
  simp only[bU,dS,AV.fits,dU,aE]
  intro ⟨_,⟨_,_,_,hl,_⟩⟩
  simp only[aB,seval,GM]
  refine aQ (fun h=>?_) (fun h=>?_)
  · simp only[bA] at h
    obtain rfl:=hk h
    subst h
    simp only[aB,seval]
    have hnn:l.length≤1099511627776:=by omega
    refine dX (σ:=Unit) [] [0,3] l (fun i _=>∀y∈l.take i,y≠n) (fun i _=>[(5,.int .i64 i)]) (fun _ _=>a9 st b (l.map iv)) (by decide +kernel) ⟨(),by simp,aO.mk (by simp only[aB,↓aU,seval])⟩ (fun i x _ hx hlt bP hdr hinv=>?_) (fun _ hge hinv=>?_)
    case refine_2=>
     rw[d6] at hinv
     have fQ:n∉l:=fun h=>hinv n h rfl
     simp only[haL,aE,hge,aB,seval,GM]
     refine eY qO NM NQ rfl rfl (gN rfl rfl) (aYE l) hb (by simp;omega) (by simp;omega) (fun b' hb'=>?_)
     rw[show l.map iv++ [AV.int .i64 n]=(l++ [n]).map iv by simp] at hb' ⊢
     simp only[aB,seval]
     exact⟨b',by simp [cE,fQ],by simp [cE,fQ],by simp only[cE,fQ,FR,eN];exact hb'⟩
    have hat:=SH (b:=b) (l:=l.map iv) (i:=i) (x:=iv x) qO (by rw[lK,hx];try rfl)
    obtain⟨eT,B4⟩:=SJ (st:=st) (b:=b) hx
    have hw:=bC (n:=(i:Int)+1)
    simp only[haL,aE,bP,aB,seval]
    refine MJ mixed (by decide +kernel) (by decide +kernel) ?_
    simp only[hat,eT,B4,AJ,aB,seval,GM]
    refine aQ (fun h=>?_) (fun h=>?_)
    · simp only[bA] at h
      subst h
      have fQ:=cQ hx
      simp only[aB,seval]
      exact⟨b,by simp [cE,fQ],by simp [cE,fQ],by simp only[cE,fQ,JN,dA];exact hb⟩
    · simp only[dC] at h
      simp only[aB,seval]
      refine⟨(),?_,aO.mk (by simp only[hw,aB,seval])⟩
      intro y hy
      rw[eS,hx] at hy
      rcases fG.1 hy with hy | hy
      · exact hinv y hy
      · simp at hy;subst hy;exact h
  · simp only[dC] at h
    rw[aK (by simp [h])]
    simp only[aB,seval]
    refine dX (σ:=List Int×Nat) [] [3,4] ts (fun i p=>cE (ts.drop i) p.1=cE ts l∧p.1.length+bH Tm.nodes (ts.drop i)≤1099511627776∧(p.1.map iv≠[]→st p.2=none)) (fun i p=>[(0,bK 1 p.2 (p.1.map iv)),(6,.int .i64 i)]) (fun _ p=>a9 st p.2 (p.1.map iv)) (by decide +kernel)
     ⟨(l,b),⟨rfl,by simp;omega,hb⟩,aO.mk (by simp only[aB,↓aU,seval])⟩ (fun i x p hx hlt bP hdr hinv=>?_) (fun p hge hinv=>?_)
    case refine_2=>
     simp only[aE,hge,aB,seval,GM]
     rw[←hinv.1,mJ]
     exact⟨p.2,rfl,rfl,hinv.2.2⟩
    obtain⟨acc,b⟩:=p
    rw[hdr] at hinv
    obtain⟨i1,i2,i3⟩:=hinv
    simp only[bH] at i2
    have hw:=bC (n:=(i:Int)+1)
    simp only[aE,bP,bS (av:=Tm.av) cF hx (aP x),bM,aP,aB,seval,GM]
    refine(IH x (cQ hx) acc b st i3 (by omega)).mono ?_
    rintro _ _ ⟨b',rfl,rfl,hb'⟩
    have hvl:=Tm.aLK x acc
    simp only[hw,aB,seval]
    exact⟨(x.vars acc,b'),⟨i1,by simp only;omega,hb'⟩,aO.mk (by simp only[aB,seval])⟩
termination_by t=>SizeOf.sizeOf t
decreasing_by have:=List.sizeOf_lt_of_mem hx;simp only[Tm.mk.sizeOf_spec];omega
end Go.AW
