/- The reference's reader as data: operators and terms. -/
import Derived.Test.YthigelfjekcbmaaGreatDoorUzp
import Derived.Test.YthigelfjekcbmaaGreatDoorUzk
import Derived.Test.YthigelfjekcbmaaGreatDoorUzi
set_option linter.unusedSimpArgs false
set_option linter.unusedVariables false
set_option maxRecDepth 100000
namespace Go.AW
def j5(nm:ByteArray):Bool:=decide (nm=⟨#[105,115]⟩)||decide (nm=⟨#[109,111,100]⟩)
def r9(l:List UInt8)(a:Nat):Option (ByteArray×Nat):=
 let f:=if c7 l a 32 then a+1 else a
 if l.length≤f then none else match qA l f with
 | none=>none
 | some (nm,e)=>if dZ nm=0 then none else if j5 nm≠decide (a<f)∨(j5 nm=true∧c7 l e 32=false) then none else some (nm,if j5 nm then e+1 else e)
abbrev l8:=Nat→Option (Tm×Nat)
def tL(R:l8)(l:List UInt8)(c1 c2:Nat):Nat→Nat→List Tm→Option (List Tm×Nat)
 | 0,_,_=>none
 | n+1,a,acc=>match R a with
  | none=>none
  | some (t,e)=>if(c7 l e c1||c7 l e c2)=true then some (acc++ [t],e) else if c7 l e 44 then tL R l c1 c2 n (e+1) (acc++ [t]) else none
abbrev p8 (nm:ByteArray) (ts:List Tm):Tm:=.mk 3 0 nm ts
def xA:List Tm→Tm→Tm
 | [],t=>t
 | x::xs,t=>p8 ⟨#[46]⟩ [x,xA xs t]
def C6(R:l8)(l:List UInt8)(a:Nat):Option (Tm×Nat):=
 match tL R l 93 124 (l.length+1) a [] with
 | none=>none
 | some (ts,e)=>if c7 l e 93 then some (xA ts (p8 ⟨#[91,93]⟩ []),e+1) else match R (e+1) with
  | none=>none
  | some (t,e')=>if c7 l e' 93 then some (xA ts t,e'+1) else none
def MD(l:List UInt8)(a:Nat):Nat:=match l[a]? with | some x=>x.toNat | none=>0
def oI(R:Nat→l8)(l:List UInt8)(d a:Nat):Option (Tm×Nat):=
 if d<1∨l.length≤a then none
 else if c7 l a 40 then match R d (a+1) with
  | none=>none
  | some (t,e)=>if c7 l e 41 then some (t,e+1) else none
 else if(c7 l a 91&& !c7 l (a+1) 93)=true then C6 (R (d - 1)) l (a+1)
 else if gT l a vE then some (vr ((MD l a - 65:Nat):Int),a+1)
 else if(gT l a d7||(c7 l a 45&&gT l (a+1) d7))=true then match wD l a with
  | none=>none
  | some (n,e)=>some (.mk 2 n ⟨#[]⟩ [],e)
 else match qA l a with
  | none=>none
  | some (nm,e)=>if c7 l e 40=false then some (p8 nm [],e) else match tL (R (d - 1)) l 41 41 (l.length+1) (e+1) [] with
   | none=>none
   | some (ts,e')=>some (p8 nm ts,e'+1)
def F8(R:l8)(l:List UInt8)(lev:Nat):Nat→Tm→Nat→Option (Tm×Nat)
 | 0,_,_=>none
 | n+1,left,e=>match r9 l e with
  | none=>some (left,e)
  | some (nm,e1)=>if dZ nm≠lev then some (left,e) else match R e1 with
   | none=>none
   | some (rt,e2)=>if lev=3 then some (p8 nm [left,rt],e2) else F8 R l lev n (p8 nm [left,rt]) e2
def rd(l:List UInt8):Nat→Nat→Nat→Nat→Option (Tm×Nat)
 | 0,_,_,_=>none
 | n+1,d,a,0=>oI (fun d a=>rd l n d a 3) l d a
 | n+1,d,a,lv+1=>match rd l n d a lv with
  | none=>none
  | some (t,e)=>F8 (fun a=>rd l n d a lv) l (lv+1) (l.length+1) t e
theorem a6F{l:List UInt8}{a c:Nat}(ha:a≤l.length):a≤(if c7 l a c=true then a+1 else a)∧(if c7 l a c=true then a+1 else a)≤l.length:=by
 split
 · have:=pZ ‹_›;omega
 · omega
theorem a5R{l:List UInt8}{a:Nat}{x:Int}{e:Nat}(ha:a≤l.length)(h:wD l a=some (x,e)):a<e∧e≤l.length:=by
 unfold wD at h
 have hf:=a6F (c:=45) ha
 simp only at h
 generalize (if c7 l a 45=true then a+1 else a)=f at h hf
 split at h
 · cases h
 rename_i h1
 simp only[Option.some.injEq,Prod.mk.injEq] at h
 obtain⟨_,rfl⟩:=h
 have h2:(((l.drop f).takeWhile d7).take 4).length≠0:=by
  intro h0
  refine h1 (Or.inl ?_)
  unfold jH
  rw[aH (Or.inl h0)]
 have h3:=K9 d7 (l.drop f)
 rw[lO] at h3
 have h4:(((l.drop f).takeWhile d7).take 4).length≤((l.drop f).takeWhile d7).length:=by rw[eC];omega
 omega
theorem ZX(L:List UInt8):∀(gs:List ByteArray) (b:ByteArray),b.size≤L.length→(gs.foldl (lI L) b).size≤L.length
 | [],b,h=>h
 | g::gs,b,h=>by
  rw[BG]
  refine ZX L gs _ ?_
  unfold lI
  split
  · rename_i h1
    have:=oC List.length h1.1
    rw[eC,cV] at this
    omega
  · exact h
theorem J8{l:List UInt8}{a:Nat}{x:ByteArray}{e:Nat}(ha:a≤l.length)(h:qA l a=some (x,e)):a<e∧e≤l.length:=by
 unfold qA at h
 simp only at h
 have h3:=K9 letter (l.drop a)
 rw[lO] at h3
 split at h
 · cases h
 split at h
 · cases h;omega
 split at h
 · cases h
 · have:=ZX (l.drop a) kC ⟨#[]⟩ (jU _)
   rw[lO] at this
   cases h;omega
theorem aPX{l:List UInt8}{a:Nat}{x:ByteArray}{e:Nat}(h:r9 l a=some (x,e)):a<e∧e≤l.length∧dZ x≠0:=by
 unfold r9 at h
 have h6:a≤(if c7 l a 32=true then a+1 else a):=by split<;>omega
 simp only at h
 generalize (if c7 l a 32=true then a+1 else a)=f at h h6
 split at h
 · cases h
 rename_i h1
 split at h
 · cases h
 rename_i nm e0 h2
 have h3:=J8 (by omega) h2
 split at h
 · cases h
 rename_i h7
 split at h
 · cases h
 rename_i h4
 simp only[Option.some.injEq,Prod.mk.injEq] at h
 obtain⟨rfl,rfl⟩:=h
 split
 · rename_i h5
   have:c7 l e0 32=true:=by
    cases hb:c7 l e0 32 with
    | true=>rfl
    | false=>exact absurd (Or.inr ⟨h5,hb⟩) h4
   have:=pZ this
   exact⟨by omega,by omega,h7⟩
 · exact⟨by omega,by omega,h7⟩
def y8(R:l8)(l:List UInt8):Prop:=∀a t e,a≤l.length→R a=some (t,e)→a<e∧e≤l.length∧Dn t
theorem PS{R:l8}{l:List UInt8}{c1 c2:Nat}(hR:y8 R l):∀(n a:Nat) (acc:List Tm) (ts:List Tm) (e:Nat),a≤l.length→(∀x∈acc,Dn x)→tL R l c1 c2 n a acc=some (ts,e)→a<e∧e<l.length∧(∀x∈ts,Dn x)∧ts.length≤acc.length+n∧(c7 l e c1=true∨c7 l e c2=true):=by
 intro n
 induction n with
 | zero=>intro a acc ts e _ _ h;cases h
 | succ n ih=>
  intro a acc ts e ha pW h
  unfold tL at h
  split at h
  · cases h
  rename_i t e1 h1
  obtain⟨h2,h3,h4⟩:=hR a t e1 ha h1
  have JC:∀x∈acc++ [t],Dn x:=by intro x hx;rw[eK] at hx;rcases hx with hx | hx;exact pW x hx;rw[ED] at hx;subst hx;exact h4
  split at h
  · rename_i h5
    cases h
    rw[oV] at h5
    refine⟨h2,?_,JC,by rw[dW,QQ];omega,h5⟩
    rcases h5 with h5 | h5<;>exact pZ h5
  split at h
  · rename_i h5
    have h6:=pZ h5
    obtain⟨g1,g2,g3,g4,g5⟩:=ih (e1+1) _ ts e (by omega) JC h
    rw[dW,QQ] at g4
    exact⟨by omega,g2,g3,by omega,g5⟩
  · cases h
theorem SY{nm:ByteArray}{ts:List Tm}(hl:ts.length≤1048576)(h:∀x∈ts,Dn x):Dn (p8 nm ts):=zW (by decide) hl h
theorem SZ{nm:ByteArray}{x y:Tm}(hx:Dn x)(hy:Dn y):Dn (p8 nm [x,y]):=SY (by simp) (by intro z hz;simp only[dB,dV,eA] at hz;rcases hz with rfl | rfl;exact hx;exact hy)
theorem aB3{nm:ByteArray}:Dn (p8 nm []):=SY (by simp) (by simp)
theorem SQ{t:Tm}(ht:Dn t):∀ts:List Tm,(∀x∈ts,Dn x)→Dn (xA ts t)
 | [],_=>ht
 | x::xs,h=>SZ (h x (by simp)) (SQ ht xs fun y hy=>h y (by simp [hy]))
theorem a3R{R:l8}{l:List UInt8}(hR:y8 R l)(hl:l.length≤1000){a:Nat}{t:Tm}{e:Nat}(ha:a≤l.length)(h:C6 R l a=some (t,e)):a<e∧e≤l.length∧Dn t:=by
 unfold C6 at h
 split at h
 · cases h
 rename_i ts e1 h1
 obtain⟨g1,g2,g3,g4,g5⟩:=PS hR _ _ _ _ _ ha (by simp) h1
 split at h
 · cases h
   exact⟨by omega,by omega,SQ aB3 _ g3⟩
 split at h
 · cases h
 rename_i t2 e2 h2
 obtain⟨k1,k2,k3⟩:=hR _ _ _ (by omega) h2
 split at h
 · rename_i h5
   cases h
   have:=pZ h5
   exact⟨by omega,by omega,SQ k3 _ g3⟩
 · cases h
theorem a46{R:Nat→l8}{l:List UInt8}(hR:∀d,y8 (R d) l)(hl:l.length≤1000){d a:Nat}{t:Tm}{e:Nat}(h:oI R l d a=some (t,e)):a<e∧e≤l.length∧Dn t:=by
 unfold oI at h
 split at h
 · cases h
 rename_i h0
 have ha:a<l.length:=by omega
 split at h
 · split at h
   · cases h
   rename_i t1 e1 h1
   obtain⟨k1,k2,k3⟩:=hR _ _ _ _ (by omega) h1
   split at h
   · rename_i h5
     cases h
     have:=pZ h5
     exact⟨by omega,by omega,k3⟩
   · cases h
 split at h
 · obtain⟨k1,k2,k3⟩:=a3R (hR _) hl (by omega) h
   exact⟨by omega,k2,k3⟩
 split at h
 · cases h
   exact⟨by omega,by omega,S0 _⟩
 split at h
 · split at h
   · cases h
   rename_i n e1 h1
   cases h
   have:=a5R (by omega) h1
   exact⟨this.1,this.2,zW (by decide) (by simp) (by simp)⟩
 split at h
 · cases h
 rename_i nm e1 h1
 have g:=J8 (by omega) h1
 split at h
 · cases h
   exact⟨g.1,g.2,aB3⟩
 split at h
 · cases h
 rename_i h6 _ ts e2 h2
 have h7:c7 l e1 40=true:=by simpa using h6
 have h8:=pZ h7
 obtain⟨k1,k2,k3,k4,k5⟩:=PS (hR _) _ _ _ _ _ (by omega) (by simp) h2
 cases h
 refine⟨by omega,by omega,SY ?_ k3⟩
 rw[aX] at k4
 omega
theorem a4U{R:l8}{l:List UInt8}(hR:y8 R l)(lev:Nat):∀(n:Nat) (t0:Tm) (e0:Nat) (t:Tm) (e:Nat),e0≤l.length→Dn t0→F8 R l lev n t0 e0=some (t,e)→e0≤e∧e≤l.length∧Dn t:=by
 intro n
 induction n with
 | zero=>intro t0 e0 t e _ _ h;cases h
 | succ n ih=>
  intro t0 e0 t e h0 ht h
  unfold F8 at h
  split at h
  · cases h;exact⟨by omega,h0,ht⟩
  rename_i nm e1 h1
  have g:=aPX h1
  split at h
  · cases h;exact⟨by omega,h0,ht⟩
  split at h
  · cases h
  rename_i rt e2 h2
  obtain⟨k1,k2,k3⟩:=hR _ _ _ g.2.1 h2
  split at h
  · cases h;exact⟨by omega,k2,SZ ht k3⟩
  · obtain⟨q1,q2,q3⟩:=ih _ _ _ _ k2 (SZ ht k3) h
    exact⟨by omega,q2,q3⟩
theorem DK{l:List UInt8}(hl:l.length≤1000):∀(n d lv:Nat),y8 (fun a=>rd l n d a lv) l:=by
 intro n
 induction n with
 | zero=>intro d lv a t e _ h;cases h
 | succ n ih=>
  intro d lv a t e ha h
  cases lv with
  | zero=>
   simp only[rd] at h
   exact a46 (fun d=>ih d 3) hl h
  | succ lv=>
   simp only[rd] at h
   split at h
   · cases h
   rename_i t1 e1 h1
   obtain⟨k1,k2,k3⟩:=ih d lv a t1 e1 ha h1
   obtain⟨q1,q2,q3⟩:=a4U (ih d lv) _ _ _ _ _ _ k2 k3 h
   exact⟨by omega,q2,q3⟩
end Go.AW
namespace Go.AW
open Go.Proofs.Tryz
def mD(a:Int):AV:=.tup [K4.av,.int .i64 (-1 - a)]
abbrev a7Z:=zi tI_3 (zi zI_3 (zi aU (zi tI_52 (zi zI_52 (zi bU (zi bV (zi bX (zi bY bT))))))))
theorem E0(a:Nat)(ha:a≤1048576)(st:aB):aD prog 250 [.int .i64 (a:Int)] st (fun r st'=>r=mD a∧st'=st):=by
 refine aD.done ?_
 refine wF [1000000] 1 func250 ntmps250 rfl rfl ?_
 intro _
 have hw:=bO (n:= -1 - (a:Int))
 simp -implicitDefEqProofs only[aK,hw,aA,seval,a7Z]
 intro b hb
 exact⟨by simp only[mD,a8,jI,jQ,jB,nB,lW,bB,aW,aW],(aL.refl _).aC hb⟩
def VT(a:Nat)(o:Option (ByteArray×Nat)):AV:=match o with | some (b,e)=>.tup [.str b,.int .i64 (e:Int)] | none=>.tup [.str ⟨#[]⟩,.int .i64 (a:Int)]
abbrev G0:=zi tI_3 (zi zI_3 (zi aU (zi tI_4 (zi zI_4 (zi cI (zi tI_5 (zi zI_5 (zi mH (zi tI_8 (zi zI_8 (zi zZ (zi z5 (zi z6 (zi z7 (zi zL (zi tI_9 (zi zI_9 cT)))))))))))))))))
set_option maxHeartbeats 1000000 in
theorem aXC(s:ByteArray)(hs:s.size≤1000)(a:Nat)(ha:a≤s.size)(st:aB):aD prog 219 [.str s,.int .i64 (a:Int)] st (fun r st'=>r=VT a (r9 (sb s) a)∧st'=st):=by
 refine wF [1000000] 2 func219 ntmps219 rfl rfl ?_
 intro _
 simp -implicitDefEqProofs only[aA,seval]
 refine(lV s a 32 _).to ?_
 obtain⟨f1,hf1⟩:∃f,f=a+1:=⟨_,rfl⟩
 have hw1:=pK (x:=(a:Int)+1) (m:=f1) (by omega) (by omega)
 simp -implicitDefEqProofs only[aA,seval]
 refine aQ (fun h1=>?_) (fun h1=>?_)
 · have hf:=pZ h1
   rw[cV] at hf
   simp -implicitDefEqProofs only[hw1,aA,seval,G0]
   obtain⟨f,rfl⟩:∃f,f=f1:=⟨_,rfl⟩
   replace hf:f≤s.size:=by omega
   by_cases hlen:s.size≤f
   case pos=>
    have hrd:r9 (sb s) a=none:=by
     unfold r9
     simp only[h1,↓reduceIte,←hf1]
     rw[aH (by rw[cV];exact hlen)]
    rw[hrd]
    have c8:((s.size:Int)≤(f:Int))=True:=cM (by omega)
    simp -implicitDefEqProofs only[c8,bE,aA,seval]
    rfl
   have c8:((s.size:Int)≤(f:Int))=False:=cB (by omega)
   have hrd:r9 (sb s) a=match qA (sb s) f with
    | none=>none
    | some (nm,e)=>if dZ nm=0 then none else if j5 nm≠decide (a<f)∨(j5 nm=true∧c7 (sb s) e 32=false) then none else some (nm,if j5 nm then e+1 else e):=by
    unfold r9
    simp only[h1,↓reduceIte,←hf1]
    rw[aE (by rw[cV];exact hlen)]
    try rfl
   rw[hrd]
   clear hrd
   have hfa:((a:Int)<(f:Int))=True:=cM (by omega)
   have hfn:(a<f)=True:=cM (by omega)
   simp -implicitDefEqProofs only[c8,bM,aA,seval]
   refine(SB s hs f (by omega) _).to ?_
   cases hn:qA (sb s) f with
   | none=>
    simp only[DD]
    simp -implicitDefEqProofs only[bE,aA,seval]
    rfl
   | some p=>
    obtain⟨nm,e⟩:=p
    have he:=J8 (by rw[cV];omega) hn
    rw[cV] at he
    simp only[DD]
    have he0:((e:Int)<0)=False:=cB (by omega)
    simp -implicitDefEqProofs only[he0,bM,aA,seval]
    refine(w8 nm _).to ?_
    by_cases hl0:dZ nm=0
    case pos=>
     rw[aH hl0]
     have rW:((dZ nm:Int)=0)=True:=cM (by omega)
     simp -implicitDefEqProofs only[rW,bE,aA,seval]
     rfl
    rw[aE hl0]
    have rW:((dZ nm:Int)=0)=False:=cB (by omega)
    simp only[hfn,bE]
    have hw1:=bO (n:=(e:Int)+1)
    by_cases hi:nm=⟨#[105,115]⟩
    case' pos=>
     have hi':=cM hi
     have hm':(nm=⟨#[109,111,100]⟩)=False:=cB (by rw[hi];decide)
     have hW:j5 nm=true:=by unfold j5;rw[gJ hi];try rfl
    case' neg=>
     have hi':=cB hi
     by_cases hm:nm=⟨#[109,111,100]⟩
     case' pos=>
      have hm':=cM hm
      have hW:j5 nm=true:=by unfold j5;rw[gJ hm];exact BB _
     case' neg=>
      have hm':=cB hm
      have hW:j5 nm=false:=by unfold j5;rw[f0 hm,f0 hi];try rfl
    all_goals
     rw[hW]
     simp -implicitDefEqProofs only[rW,hfa,hi',hm',bE,bM,aA,seval,G0]
     first
      | (rw[aH (Or.inl trivial)];rfl)
      | (rw[aE fun h=>h.1];rfl)
      | skip
     try
      refine(lV s e 32 _).to ?_
      cases hb:c7 (sb s) e 32 with
      | false=>
       simp -implicitDefEqProofs only[aA,seval]
       rfl
      | true=>
       simp -implicitDefEqProofs only[hw1,aA,seval]
       rfl
 · skip
   simp -implicitDefEqProofs only[aA,seval,G0]
   obtain⟨f,rfl⟩:∃f,f=a:=⟨_,rfl⟩
   have hf:=ha
   by_cases hlen:s.size≤f
   case pos=>
    have hrd:r9 (sb s) f=none:=by
     unfold r9
     simp only[h1,↓reduceIte,jR]
     rw[aH (by rw[cV];exact hlen)]
    rw[hrd]
    have c8:((s.size:Int)≤(f:Int))=True:=cM (by omega)
    simp -implicitDefEqProofs only[c8,bE,aA,seval]
    rfl
   have c8:((s.size:Int)≤(f:Int))=False:=cB (by omega)
   have hrd:r9 (sb s) f=match qA (sb s) f with
    | none=>none
    | some (nm,e)=>if dZ nm=0 then none else if j5 nm≠decide (f<f)∨(j5 nm=true∧c7 (sb s) e 32=false) then none else some (nm,if j5 nm then e+1 else e):=by
    unfold r9
    simp only[h1,↓reduceIte,jR]
    rw[aE (by rw[cV];exact hlen)]
    try rfl
   rw[hrd]
   clear hrd
   have hfa:((f:Int)<(f:Int))=False:=cB (by omega)
   have hfn:(f<f)=False:=cB (by omega)
   simp -implicitDefEqProofs only[c8,bM,aA,seval]
   refine(SB s hs f (by omega) _).to ?_
   cases hn:qA (sb s) f with
   | none=>
    simp only[DD]
    simp -implicitDefEqProofs only[bE,aA,seval]
    rfl
   | some p=>
    obtain⟨nm,e⟩:=p
    have he:=J8 (by rw[cV];omega) hn
    rw[cV] at he
    simp only[DD]
    have he0:((e:Int)<0)=False:=cB (by omega)
    simp -implicitDefEqProofs only[he0,bM,aA,seval]
    refine(w8 nm _).to ?_
    by_cases hl0:dZ nm=0
    case pos=>
     rw[aH hl0]
     have rW:((dZ nm:Int)=0)=True:=cM (by omega)
     simp -implicitDefEqProofs only[rW,bE,aA,seval]
     rfl
    rw[aE hl0]
    have rW:((dZ nm:Int)=0)=False:=cB (by omega)
    simp only[hfn,bM]
    have hw1:=bO (n:=(e:Int)+1)
    by_cases hi:nm=⟨#[105,115]⟩
    case' pos=>
     have hi':=cM hi
     have hm':(nm=⟨#[109,111,100]⟩)=False:=cB (by rw[hi];decide)
     have hW:j5 nm=true:=by unfold j5;rw[gJ hi];try rfl
    case' neg=>
     have hi':=cB hi
     by_cases hm:nm=⟨#[109,111,100]⟩
     case' pos=>
      have hm':=cM hm
      have hW:j5 nm=true:=by unfold j5;rw[gJ hm];exact BB _
     case' neg=>
      have hm':=cB hm
      have hW:j5 nm=false:=by unfold j5;rw[f0 hm,f0 hi];try rfl
    all_goals
     rw[hW]
     simp -implicitDefEqProofs only[rW,hfa,hi',hm',bE,bM,aA,seval,G0]
     first
      | (rw[aH (Or.inl trivial)];rfl)
      | (rw[aE fun h=>h.1];rfl)
      | skip
     try
      refine(lV s e 32 _).to ?_
      cases hb:c7 (sb s) e 32 with
      | false=>
       simp -implicitDefEqProofs only[rW,hfa,hi',hm',hw1,bE,bM,aA,↓aS,seval,G0]
       rfl
      | true=>
       simp -implicitDefEqProofs only[rW,hfa,hi',hm',hw1,bE,bM,aA,↓aS,seval,G0]
       rfl
theorem aYX{ts:List Tm}{i:Nat}{x t:Tm}(hx:ts[i]?=some x):xA (ts.drop i) t=p8 ⟨#[46]⟩ [x,xA (ts.drop (i+1)) t]:=by
 obtain⟨h1,h2⟩:=gW.1 hx
 rw[rH h1,h2]
 try rfl
abbrev PF:=zi tI_3 (zi zI_3 (zi aU (zi tI_9 (zi zI_9 (zi cT (zi tI_28 (zi zI_28 (zi aO (zi bF (zi bG (zi bZ (zi tI_52 (zi zI_52 (zi bU (zi bV (zi bX (zi bY bT)))))))))))))))))
set_option maxHeartbeats 1000000 in
theorem aAM(ts:List Tm)(tl:Tm)(hl:ts.length≤1048576)(st:aB):aD prog 269 [.slice (ts.map Tm.av),tl.av] st (fun r st'=>r=(xA ts tl).av∧st'=st):=by
 refine aD.done ?_
 refine wF [1000000,5] 2 func269 ntmps269 rfl rfl ?_
 intro _
 have hw0:=bO (n:=(ts.length:Int) - 1)
 simp -implicitDefEqProofs only[aK,aY,aM,cH,cP,b9,aF,hw0,aA,↓aS,seval,PF]
 intro b hb b5 hb5
 have hbb:b5≠b:=fun h=>by rw[h,aB.aJ] at hb5;cases hb5
 refine iT (σ:=Nat) [1000000] [0,4,5] (fun i=>i≤ts.length) (fun i=>[(6,.int .i64 ((i:Int) - 1))]) (fun i=>(st.aC b (.cells [.int .i64 0,.int .i64 0,.str ⟨#[]⟩,.fslice []])).aC b5 (.cells (xA (ts.drop i) tl).av.cells)) (fun i=>i) (by decide +kernel) ⟨ts.length,by omega,by rw[lH];exact aP.mk (by simp -implicitDefEqProofs only[aA,seval])⟩ ?_
 intro i hi
 simp -implicitDefEqProofs only[aA,seval]
 refine aQ (fun h1=>?_) (fun h1=>?_)
 · simp only[bK] at h1
   obtain⟨k,rfl⟩:∃k,i=k+1:=⟨i - 1,by omega⟩
   obtain⟨x,hx⟩:∃x,ts[k]?=some x:=⟨_,fF (by omega)⟩
   have hk:((k+1:Nat):Int) - 1=(k:Int):=by omega
   have hw:=bO (n:=(k:Int) - 1)
   have hst:=aYX (t:=tl) hx
   have hat:=bQ (av:=Tm.av) aO hx (aM x)
   rw[hk]
   generalize xA (ts.drop (k+1)) tl=y at *
   have hax:=b9 x
   have hay:=b9 y
   simp -implicitDefEqProofs only[aA,seval]
   refine wP [(0,1),(1,1),(2,1),(3,2),(4,2),(5,1),(6,2),(7,0)] [0,1,2,3,4,5,6] mixed ?_
   simp -implicitDefEqProofs only[aY,aM,cP,b9,eW (b9 _),eU (aY _),hat,aA,seval,PF]
   refine j6 (t9 ⟨#[46]⟩ [x,y] (by simp) _) ?_
   simp -implicitDefEqProofs only[aK,cH,b9,hw,aA,seval,PF]
   refine⟨k,by omega,by omega,?_⟩
   rw[hst]
   exact aP.mk (by simp -implicitDefEqProofs only[aA,seval])
 · simp only[dL] at h1
   obtain rfl:i=0:=by omega
   rw[vK]
   simp -implicitDefEqProofs only[aK,cH,b9,eW (b9 _),eU (aY _),hbb.symm,aA,↓aS,seval,PF]
   exact⟨Tm.soft _,(((aL.refl _).aC hb).aC (by rwa [aB.aG _ _ hbb] at hb5)).aC hb⟩
def nG(o:Option (Tm×Nat))(r:AV):Prop:=match o with | some (t,e)=>r=.tup [t.av,.int .i64 (e:Int)] | none=>∃k:Nat,k≤1048576∧r=mD k
def wT(o:Option (List Tm×Nat))(r:AV):Prop:=match o with | some (ts,e)=>r=.tup [.slice (ts.map Tm.av),.int .i64 (e:Int)] | none=>∃k:Nat,k≤1048576∧r=.tup [.slice [],.int .i64 (-1 - (k:Int))]
abbrev QU (s:ByteArray) (R:l8) (d lv lo:Nat):Prop:=∀(a:Nat) (st:aB),lo≤a→a≤s.size→aD prog 178 [.str s,.int .i64 (a:Int),.int .i64 (d:Int),.int .i64 (lv:Int)] st (fun r st'=>nG (R a) r∧st'=st)
abbrev XI:=zi tI_3 (zi zI_3 (zi aU (zi tI_4 (zi zI_4 (zi cI (zi tI_5 (zi zI_5 (zi mH (zi tI_8 (zi zI_8 (zi zZ (zi z5 (zi z6 (zi z7 (zi zL (zi tI_9 (zi zI_9 (zi cT (zi tI_28 (zi zI_28 (zi aO (zi bF (zi bG (zi bZ (zi tI_52 (zi zI_52 (zi bU (zi bV (zi bX (zi bY bT))))))))))))))))))))))))))))))
set_option maxHeartbeats 1000000 in
theorem aAY{s:ByteArray}{R:l8}{d lo c1 c2:Nat}(hR:QU s R d 3 lo)(hok:y8 R (sb s))(hs:s.size≤1000)(a:Nat)(ha:lo≤a)(ha':a≤s.size)(st:aB) :
 aD prog 255 [.str s,.int .i64 (a:Int),.int .i64 (d:Int),.int .u8 (c1:Int),.int .u8 (c2:Int)] st (fun r st'=>wT (tL R (sb s) c1 c2 ((sb s).length+1) a []) r∧st'=st):=by
 generalize hT:tL R (sb s) c1 c2 ((sb s).length+1) a []=T
 rw[cV] at hT
 refine aD.drop (Q:=wT T) (aD.fin ?_)
 refine wF [1000000] 5 func255 ntmps255 rfl rfl ?_
 intro _
 simp -implicitDefEqProofs only[aA,seval,XI]
 refine iT (σ:=Nat×List Tm×Nat×Nat) [1000000] [0,2,3,4] (fun x=>tL R (sb s) c1 c2 x.2.2.1 x.1 x.2.1=T∧lo≤x.1∧x.1≤s.size∧s.size<x.2.2.1+x.1∧x.2.1.length+x.2.2.1≤1001∧(x.2.1.map Tm.av≠[]→st x.2.2.2=none)) (fun x=>[(1,.int .i64 (x.1:Int)),(10,.fslice []),(11,.int .i64 0),(12,aZ 4 x.2.2.2 (x.2.1.map Tm.av))]) (fun x=>aV st x.2.2.2 (x.2.1.map Tm.av)) (fun x=>x.2.2.1) (by decide +kernel) ⟨(a,[],s.size+1,0),⟨hT,ha,ha',by simp only;omega,by simp only[aX];omega,by simp⟩,aP.mk (by simp -implicitDefEqProofs only[aW,jV,aA,seval])⟩ ?_
 rintro⟨i,acc,m,b⟩ ⟨ht,hlo,hi,hm,hlen,hb⟩
 simp only at ht hlo hi hm hlen hb ⊢
 obtain⟨m,rfl⟩:∃m',m=m'+1:=⟨m - 1,by omega⟩
 simp only[tL] at ht
 simp -implicitDefEqProofs only[aA,seval]
 refine(hR i _ hlo hi).mono ?_
 rintro r _ ⟨hr,rfl⟩
 have fin:∀(l:List Tm) (b':Nat) (r':AV),(l.map Tm.av≠[]→st b'=none)→wT T (r'.fin b' (l.map Tm.av))→∃b2 l2 s0,aV st b' (l.map Tm.av)=aV s0 b2 l2∧(l2≠[]→s0 b2=none)∧(∀e∈l2,e.cJ=false)∧iU l2∧aL s0 st∧wT T (r'.fin b2 l2):=fun l b' r' h1 h2=>⟨b',_,st,rfl,h1,jJ _,⟨4,d9 _⟩,aL.refl _,h2⟩
 have hTn:T=none→∀k:Nat,k≤1048576→∀(b':Nat) (l:List AV),wT T ((AV.tup [.fslice [],.int .i64 (-1 - (k:Int))]).fin b' l):=by
  rintro rfl k hk b' l
  exact⟨k,hk,by simp only[kK,eS,qO,bB,aW]⟩
 cases hRi:R i with
 | none=>
  rw[hRi] at ht hr
  obtain⟨k,hk,rfl⟩:=hr
  have hk0:((-1 - (k:Int))<0)=True:=cM (by omega)
  simp -implicitDefEqProofs only[aM,cH,cP,hk0,mD,bE,aA,↓aS,seval,XI]
  exact fin _ _ _ hb (hTn ht.symm k hk _ _)
 | some p=>
  obtain⟨t,e⟩:=p
  rw[hRi] at ht hr
  simp only at ht
  obtain⟨g1,g2,g3⟩:=hok i t e (by rw[cV];exact hi) hRi
  rw[cV] at g2
  simp only[nG] at hr
  subst hr
  have he0:((e:Int)<0)=False:=cB (by omega)
  simp -implicitDefEqProofs only[aY,aM,cH,cP,he0,oU,tM,bM,aA,↓aS,seval,XI]
  refine eE aO bF bG rfl rfl (fL (aM _) (cH _)) (d9 _) hb (by simp only[aF,aT,aX];omega) (by simp only[aF,aT,aX];omega) (fun b' hb'=>?_)
  rw[show acc.map Tm.av++ [t.av]=(acc++ [t]).map Tm.av by simp] at hb' ⊢
  simp -implicitDefEqProofs only[aA,seval]
  have sV:T=some (acc++ [t],e)→wT T ((AV.tup [aZ 4 b' ((acc++ [t]).map Tm.av),.int .i64 (e:Int)]).fin b' ((acc++ [t]).map Tm.av)):=by
   rintro rfl
   simp only[wT,kK,eS,mV,bB,aW]
  have hw1:=bO (n:=(e:Int)+1)
  have hw2:=bO (n:= -1 - (e:Int))
  refine(lV s e c1 _).to ?_
  cases h1:c7 (sb s) e c1 with
  | true=>
   rw[h1,yR,aH rfl] at ht
   simp -implicitDefEqProofs only[nM,oU,tM,aA,seval]
   exact fin _ _ _ hb' (sV ht.symm)
  | false=>
  simp -implicitDefEqProofs only[aA,seval]
  refine(lV s e c2 _).to ?_
  cases h2:c7 (sb s) e c2 with
  | true=>
   rw[h2,BB,aH rfl] at ht
   simp -implicitDefEqProofs only[nM,oU,tM,aA,seval]
   exact fin _ _ _ hb' (sV ht.symm)
  | false=>
  rw[h1,h2,G6,aE (by decide)] at ht
  simp -implicitDefEqProofs only[aA,seval]
  refine(lV s e 44 _).to ?_
  cases h3:c7 (sb s) e 44 with
  | true=>
   have h4:=pZ h3
   rw[cV] at h4
   rw[h3,aH rfl] at ht
   simp -implicitDefEqProofs only[hw1,aA,seval]
   refine⟨(e+1,acc++ [t],m,b'),by simp only;omega,⟨ht,by simp only;omega,by simp only;omega,by simp only;omega,by simp only[dW,aT,aX];omega,hb'⟩,aP.mk (by simp -implicitDefEqProofs only[aA,seval]<;>rfl)⟩
  | false=>
   rw[h3,aE (by decide)] at ht
   simp -implicitDefEqProofs only[hw2,aA,seval]
   exact fin _ _ _ hb' (hTn ht.symm e (by omega) _ _)
theorem aD.S3{P:Program}{g:FuncId}{args:List AV}{st:aB}{Q:AV→Prop}(x:aD P g args st (fun r' st'=>Q r'.soft∧aL st' st)):aD P g args st (fun r' st'=>Q r'∧st'=st):=
 aD.drop (aD.soft (x.mono fun _ _ h=>⟨h.2,h.1⟩))
theorem GF{k:Nat}(hk:k≤1048576):nG none (AV.tup [.agg [.int .i64 0,.int .i64 0,.str ⟨#[]⟩,.fslice []],.int .i64 (-1 - (k:Int))]).soft:=
 ⟨k,hk,by simp only[mD,a8,jI,jQ,jB,nB,lW,bB,aW]⟩
theorem tB{t:Tm}{e:Nat}{x:Int}(h:x=(e:Int)):nG (some (t,e)) (AV.tup [t.av,.int .i64 x]).soft:=by
 subst h
 simp only[nG,jQ,jB,Tm.soft,bB,aW]
theorem AK{k:Nat}(hk:k≤1048576):nG none (AV.tup [K4.av,.int .i64 (-1 - (k:Int))]).soft:=
 ⟨k,hk,by simp only[mD,jQ,jB,Tm.soft,bB,aW]⟩
abbrev A2:=zi tI_3 (zi zI_3 (zi aU (zi tI_4 (zi zI_4 (zi cI (zi tI_5 (zi zI_5 (zi mH (zi tI_8 (zi zI_8 (zi zZ (zi z5 (zi z6 (zi z7 (zi zL (zi tI_9 (zi zI_9 (zi cT (zi tI_28 (zi zI_28 (zi aO (zi bF (zi bG (zi bZ (zi tI_52 (zi zI_52 (zi bU (zi bV (zi bX (zi bY (zi bT (zi tI_91 zI_91))))))))))))))))))))))))))))))))
set_option maxHeartbeats 1000000 in
theorem aW9{s:ByteArray}{R:l8}{d lo:Nat}(hR:QU s R d 3 lo)(hok:y8 R (sb s))(hs:s.size≤1000)(a:Nat)(ha:lo≤a)(ha':a≤s.size)(st:aB) :
 aD prog 251 [.str s,.int .i64 (a:Int),.int .i64 (d:Int)] st (fun r st'=>nG (C6 R (sb s) a) r∧st'=st):=by
 refine aD.S3 ?_
 refine wF [1000000] 3 func251 ntmps251 rfl rfl ?_
 intro _
 simp -implicitDefEqProofs only[aA,seval,A2]
 intro b hb
 unfold C6
 refine(aAY hR hok hs a ha ha' _ (c1:=93) (c2:=124)).mono ?_
 rintro r _ ⟨hr,rfl⟩
 have hD:=fun(o:AO)=>(aL.refl st).aC (o:=o) hb
 cases hT:tL R (sb s) 93 124 ((sb s).length+1) a [] with
 | none=>
  rw[hT] at hr
  obtain⟨k,hk,rfl⟩:=hr
  have hk0:((-1 - (k:Int))<0)=True:=cM (by omega)
  simp -implicitDefEqProofs only[aK,hk0,bE,aA,seval,A2]
  exact⟨GF hk,hD _⟩
 | some p=>
  obtain⟨ts,e⟩:=p
  rw[hT] at hr
  simp only[wT] at hr
  subst hr
  obtain⟨g1,g2,g3,g4,g5⟩:=PS hok _ _ _ _ _ (by rw[cV];exact ha') (by simp) hT
  rw[cV] at g2 g4
  rw[aX] at g4
  have he0:((e:Int)<0)=False:=cB (by omega)
  obtain⟨f,hf⟩:∃f,f=e+1:=⟨_,rfl⟩
  have hw:=pK (x:=(e:Int)+1) (m:=f) (by omega) (by omega)
  simp -implicitDefEqProofs only[he0,bM,aA,seval]
  refine(lV s e 93 _).to ?_
  cases h1:c7 (sb s) e 93 with
  | true=>
   simp -implicitDefEqProofs only[aA,seval]
   refine(t9 ⟨#[91,93]⟩ [] (by simp) _).to ?_
   simp -implicitDefEqProofs only[aA,seval]
   refine(aAM ts (p8 ⟨#[91,93]⟩ []) (by omega) _).to ?_
   simp -implicitDefEqProofs only[aK,cH,cP,b9,eW (b9 _),eU (aY _),hw,aA,seval,A2]
   exact⟨tB (by omega),hD _⟩
  | false=>
   simp -implicitDefEqProofs only[hw,aA,seval]
   refine(hR f _ (by omega) (by omega)).mono ?_
   rintro r _ ⟨hr,rfl⟩
   rw[←hf]
   cases hRi:R f with
   | none=>
    rw[hRi] at hr
    obtain⟨k,hk,rfl⟩:=hr
    have hk0:((-1 - (k:Int))<0)=True:=cM (by omega)
    simp -implicitDefEqProofs only[aK,aM,cH,cP,hk0,mD,bE,aA,↓aS,seval,A2]
    exact⟨GF hk,hD _⟩
   | some p=>
    obtain⟨t,e2⟩:=p
    rw[hRi] at hr
    simp only[nG] at hr
    subst hr
    obtain⟨k1,k2,k3⟩:=hok f t e2 (by rw[cV];omega) hRi
    rw[cV] at k2
    have he2:((e2:Int)<0)=False:=cB (by omega)
    have hw2:=bO (n:=(e2:Int)+1)
    simp -implicitDefEqProofs only[aM,cH,cP,he2,bM,aA,↓aS,seval,A2]
    refine(lV s e2 93 _).to ?_
    cases h2:c7 (sb s) e2 93 with
    | true=>
     simp -implicitDefEqProofs only[aY,aM,aA,seval,A2]
     refine(aAM ts t (by omega) _).to ?_
     simp -implicitDefEqProofs only[aK,cH,cP,b9,eW (b9 _),eU (aY _),hw2,aA,seval,A2]
     exact⟨tB rfl,hD _⟩
    | false=>
     simp -implicitDefEqProofs only[aA,seval]
     refine(E0 e2 (by omega) _).to ?_
     simp -implicitDefEqProofs only[aK,cH,cP,b9,eW (b9 _),eU (aY _),mD,aA,seval,A2]
     exact⟨AK (by omega),hD _⟩
theorem a5A{R:Nat→l8}{l:List UInt8}{d a:Nat}(h:d<1∨l.length≤a):oI R l d a=none:=by unfold oI;rw[aH h]
theorem a5B{R:Nat→l8}{l:List UInt8}{d a:Nat}(h:¬(d<1∨l.length≤a))(h1:c7 l a 40=true):oI R l d a=match R d (a+1) with
 | none=>none
 | some (t,e)=>if c7 l e 41 then some (t,e+1) else none:=by unfold oI;rw[aE h,aH h1];try rfl
theorem a47{R:Nat→l8}{l:List UInt8}{d a:Nat}(h:¬(d<1∨l.length≤a))(h1:c7 l a 40=false)(h2:c7 l a 91=true)(h3:c7 l (a+1) 93=false):oI R l d a=C6 (R (d - 1)) l (a+1):=by
 unfold oI;rw[aE h,aE (by simp [h1]),aH (by simp [h2,h3])]
theorem a5C{R:Nat→l8}{l:List UInt8}{d a:Nat}(h:¬(d<1∨l.length≤a))(h1:c7 l a 40=false)(h2:(c7 l a 91&& !c7 l (a+1) 93)=false)(h3:gT l a vE=true):oI R l d a=some (vr ((MD l a - 65:Nat):Int),a+1):=by
 unfold oI;rw[aE h,aE (by simp [h1]),aE (by simp [h2]),aH h3]
theorem a49{R:Nat→l8}{l:List UInt8}{d a:Nat}(h:¬(d<1∨l.length≤a))(h1:c7 l a 40=false)(h2:(c7 l a 91&& !c7 l (a+1) 93)=false)(h3:gT l a vE=false)(h4:(gT l a d7||(c7 l a 45&&gT l (a+1) d7))=true):oI R l d a=match wD l a with
 | none=>none
 | some (n,e)=>some (.mk 2 n ⟨#[]⟩ [],e):=by
 unfold oI;rw[aE h,aE (by simp [h1]),aE (by simp [h2]),aE (by simp [h3]),aH h4];try rfl
theorem a48{R:Nat→l8}{l:List UInt8}{d a:Nat}(h:¬(d<1∨l.length≤a))(h1:c7 l a 40=false)(h2:(c7 l a 91&& !c7 l (a+1) 93)=false)(h3:gT l a vE=false)(h4:(gT l a d7||(c7 l a 45&&gT l (a+1) d7))=false):oI R l d a=match qA l a with
 | none=>none
 | some (nm,e)=>if c7 l e 40=false then some (p8 nm [],e) else match tL (R (d - 1)) l 41 41 (l.length+1) (e+1) [] with
  | none=>none
  | some (ts,e')=>some (p8 nm ts,e'+1):=by
 unfold oI;rw[aE h,aE (by simp [h1]),aE (by simp [h2]),aE (by simp [h3]),aE (by simp [h4])];try rfl
abbrev lM:=zi tI_3 (zi zI_3 (zi aU (zi tI_4 (zi zI_4 (zi cI (zi tI_5 (zi zI_5 (zi mH (zi tI_8 (zi zI_8 (zi zZ (zi z5 (zi z6 (zi z7 (zi zL (zi tI_9 (zi zI_9 (zi cT (zi tI_28 (zi zI_28 (zi aO (zi bF (zi bG (zi bZ (zi tI_40 (zi zI_40 (zi dT (zi fJ (zi fK (zi fU (zi tI_52 (zi zI_52 (zi bU (zi bV (zi bX (zi bY bT))))))))))))))))))))))))))))))))))))
set_option maxHeartbeats 2000000 in
theorem aXE{s:ByteArray}{R:Nat→l8}{a:Nat}(hR:∀d,d≤1048576→QU s (R d) d 3 (a+1))(hok:∀d,y8 (R d) (sb s))(hs:s.size≤1000)(ha:a≤s.size)(d:Nat)(hd:d≤1048576)(st:aB) :
 aD prog 218 [.str s,.int .i64 (a:Int),.int .i64 (d:Int)] st (fun r st'=>nG (oI R (sb s) d a) r∧st'=st):=by
 refine aD.S3 ?_
 refine wF [1000000] 3 func218 ntmps218 rfl rfl ?_
 intro _
 generalize hP:oI R (sb s) d a=o
 simp -implicitDefEqProofs only[aA,seval,lM]
 intro b hb
 have hD:=fun(o:AO)=>(aL.refl st).aC (o:=o) hb
 by_cases h0:d<1∨s.size≤a
 case pos=>
  rw[a5A (by rw[cV];exact h0)] at hP
  subst hP
  by_cases h01:d<1
  case pos=>
   have xO:((d:Int)<1)=True:=cM (by omega)
   simp -implicitDefEqProofs only[xO,bE,aA,seval]
   refine(E0 a (by omega) _).to ?_
   simp -implicitDefEqProofs only[aK,cH,cP,b9,eW (b9 _),eU (aY _),mD,aA,seval,lM]
   exact⟨AK (by omega),hD _⟩
  case neg=>
   have xO:((d:Int)<1)=False:=cB (by omega)
   have CO:((s.size:Int)≤(a:Int))=True:=cM (by omega)
   simp -implicitDefEqProofs only[xO,CO,bE,bM,aA,seval,lM]
   refine(E0 a (by omega) _).to ?_
   simp -implicitDefEqProofs only[aK,cH,cP,b9,eW (b9 _),eU (aY _),mD,aA,seval,lM]
   exact⟨AK (by omega),hD _⟩
 have h0':¬(d<1∨(sb s).length≤a):=by rw[cV];exact h0
 have xO:((d:Int)<1)=False:=cB (by omega)
 have CO:((s.size:Int)≤(a:Int))=False:=cB (by omega)
 obtain⟨x,hx⟩:=w6 (s:=s) (n:=a) (by omega)
 have hix:=uP (P:=prog) (t:=9) cT hx
 obtain⟨f,hf⟩:∃f,f=a+1:=⟨_,rfl⟩
 have hw:=pK (x:=(a:Int)+1) (m:=f) (by omega) (by omega)
 obtain⟨d1,hd1⟩:∃d1,d1=d - 1:=⟨_,rfl⟩
 have hwd:=pK (x:=(d:Int) - 1) (m:=d1) (by omega) (by omega)
 by_cases h40:x.toNat=40
 case pos=>
  rw[a5B h0' (by rw[uQ hx,h40];try rfl),←hf] at hP
  have FF:((x.toNat:Int)=40)=True:=cM (by omega)
  simp -implicitDefEqProofs only[xO,CO,hix,FF,hw,bE,bM,aA,seval,lM]
  refine(hR d hd f _ (by omega) (by omega)).mono ?_
  rintro r _ ⟨hr,rfl⟩
  cases hRi:R d f with
  | none=>
   rw[hRi] at hr hP
   subst hP
   obtain⟨k,hk,rfl⟩:=hr
   have hk0:((-1 - (k:Int))<0)=True:=cM (by omega)
   simp -implicitDefEqProofs only[aK,aM,cH,cP,hk0,mD,bE,aA,↓aS,seval,lM]
   exact⟨GF hk,hD _⟩
  | some p=>
   obtain⟨t,e2⟩:=p
   rw[hRi] at hr hP
   simp only[nG] at hr
   subst hr
   obtain⟨k1,k2,k3⟩:=hok d f t e2 (by rw[cV];omega) hRi
   rw[cV] at k2
   have he2:((e2:Int)<0)=False:=cB (by omega)
   have hw2:=bO (n:=(e2:Int)+1)
   simp -implicitDefEqProofs only[aM,cH,cP,he2,bM,aA,↓aS,seval,lM]
   refine(lV s e2 41 _).to ?_
   cases h2:c7 (sb s) e2 41 with
   | true=>
    simp only[h2,↓reduceIte] at hP
    subst hP
    simp -implicitDefEqProofs only[aK,aY,aM,cH,cP,b9,eW (b9 _),eU (aY _),hw2,aA,seval,lM]
    exact⟨tB rfl,hD _⟩
   | false=>
    simp only[h2,↓reduceIte,jR] at hP
    subst hP
    simp -implicitDefEqProofs only[aA,seval]
    refine(E0 e2 (by omega) _).to ?_
    simp -implicitDefEqProofs only[aK,cH,cP,b9,eW (b9 _),eU (aY _),mD,aA,seval,lM]
    exact⟨AK (by omega),hD _⟩
 have g40:c7 (sb s) a 40=false:=by rw[uQ hx];exact f0 h40
 have FF:((x.toNat:Int)=40)=False:=cB (by omega)
 -- a list
 by_cases hL:x.toNat=91∧c7 (sb s) f 93=false
 case pos=>
  obtain⟨h91,h93⟩:=hL
  rw[a47 h0' g40 (by rw[uQ hx,h91];try rfl) (by rw[←hf];exact h93),←hf,←hd1] at hP
  subst hP
  have uH:((x.toNat:Int)=91)=True:=cM (by omega)
  simp -implicitDefEqProofs only[xO,CO,hix,FF,uH,hw,bE,bM,aA,seval,lM]
  refine(lV s f 93 _).to ?_
  rw[h93]
  simp -implicitDefEqProofs only[hw,hwd,aA,seval]
  refine(aW9 (hR d1 (by omega)) (hok d1) hs f (by omega) (by omega) _).mono ?_
  rintro r _ ⟨hr,rfl⟩
  cases hI:C6 (R d1) (sb s) f with
  | none=>
   rw[hI] at hr
   obtain⟨k,hk,rfl⟩:=hr
   simp -implicitDefEqProofs only[aK,cH,cP,b9,eW (b9 _),eU (aY _),mD,aA,seval,lM]
   exact⟨AK hk,hD _⟩
  | some p=>
   obtain⟨t,e2⟩:=p
   rw[hI] at hr
   simp only[nG] at hr
   subst hr
   simp -implicitDefEqProofs only[aK,cH,cP,b9,eW (b9 _),eU (aY _),aA,seval,lM]
   exact⟨tB rfl,hD _⟩
 have gL:(c7 (sb s) a 91&& !c7 (sb s) (a+1) 93)=false:=by
  rw[←hf,uQ hx]
  rcases Nat.decEq x.toNat 91 with h | h
  · rw[f0 h,g9]
  · rw[gJ h,eP]
    cases h93:c7 (sb s) f 93 with
    | true=>rfl
    | false=>exact absurd ⟨h,h93⟩ hL
 by_cases hU:vE x=true
 case pos=>
  have hP':=a5C (R:=R) h0' g40 gL (by rw[xW hx];exact hU)
  rw[hP'] at hP
  subst hP
  have hbn:MD (sb s) a=x.toNat:=by unfold MD;rw[hx]
  simp only[vE,cE,bK] at hU
  have uH:((x.toNat:Int)=91)=False:=cB (by omega)
  have h65:((65:Int)≤(x.toNat:Int))=True:=cM (by omega)
  have h90:((x.toNat:Int)≤90)=True:=cM (by omega)
  obtain⟨y,hy⟩:∃y,y=x.toNat - 65:=⟨_,rfl⟩
  have hw2:IntKind.wrap .u8 ((x.toNat:Int) - 65)=(y:Int):=by rw[IntKind.wrap_u8];omega
  have hw3:=bO (n:=(y:Int))
  simp -implicitDefEqProofs only[xO,CO,hix,FF,uH,h65,h90,hw2,hw3,vM,bE,bM,aA,seval,lM]
  refine(MJ (y:Int) _).to ?_
  simp -implicitDefEqProofs only[aK,cH,cP,b9,eW (b9 _),eU (aY _),hw,aA,seval,lM]
  rw[hbn,←hy,←hf]
  exact⟨tB rfl,hD _⟩
 have gU:gT (sb s) a vE=false:=by rw[xW hx];simpa using hU
 cases hdg:(gT (sb s) a d7||(c7 (sb s) a 45&&gT (sb s) (a+1) d7)) with
 | true=>
  have hP':=a49 (R:=R) h0' g40 gL gU hdg
  rw[hP'] at hP
  by_cases hdx:d7 x=true
  case' pos=>have FG:=hdx
  case' neg=>
   have hdx:d7 x=false:=by simpa using hdx
   rw[xW hx,hdx,sH,cE,uQ hx,bK] at hdg
   have FG:((x.toNat:Int)=45)=True:=cM (by omega)
  all_goals
   by_cases h91:x.toNat=91
   case' pos=>
    have uH:((x.toNat:Int)=91)=True:=cM (by omega)
    have h93:c7 (sb s) f 93=true:=by rw[uQ hx,gJ h91,eP,←hf] at gL;simpa using gL
   case' neg=>
    have uH:((x.toNat:Int)=91)=False:=cB (by omega)
    have h93:=uH
   all_goals
    by_cases h65:65≤x.toNat
    case' pos=>
     have xP:((65:Int)≤(x.toNat:Int))=True:=cM (by omega)
     have CP:((x.toNat:Int)≤90)=False:=cB (by intro h;exact hU (by simp only[vE,cE,bK];omega))
    case' neg=>
     have xP:((65:Int)≤(x.toNat:Int))=False:=cB (by omega)
     have CP:=xP
   all_goals
    simp -implicitDefEqProofs only[xO,CO,hix,FF,uH,xP,CP,hw,bE,bM,aA,seval,lM]
    try
     refine(lV s f 93 _).to ?_
     rw[h93]
     simp -implicitDefEqProofs only[hix,xP,CP,bE,bM,aA,seval]
    refine(DC s a _).to ?_
    rw[xW hx]
   all_goals
    simp -implicitDefEqProofs only[hix,hdx,FG,hw,bE,aA,seval]
    try
     refine(DC s f _).to ?_
     rw[hf,hdg.2]
     simp -implicitDefEqProofs only[aA,seval]
    refine(aW0 s hs a ha _).to ?_
    cases hn:wD (sb s) a with
    | none=>
     rw[hn] at hP
     subst hP
     simp -implicitDefEqProofs only[aM,cH,cP,DE,bE,aA,↓aS,seval,lM]
     refine(E0 a (by omega) _).to ?_
     simp -implicitDefEqProofs only[aK,cH,cP,b9,eW (b9 _),eU (aY _),mD,aA,seval,lM]
     exact⟨AK (by omega),hD _⟩
    | some p=>
     obtain⟨n,e⟩:=p
     rw[hn] at hP
     subst hP
     have he0:((e:Int)<0)=False:=cB (by omega)
     simp -implicitDefEqProofs only[aK,aY,aM,cH,cP,b9,eW (b9 _),eU (aY _),DE,he0,bM,aA,↓aS,seval,lM]
     exact⟨tB rfl,hD _⟩
 | false=>
  have hP':=a48 (R:=R) h0' g40 gL gU hdg
  rw[hP',←hd1] at hP
  rw[xW hx,Bool.or_eq_false_iff,uQ hx,←hf] at hdg
  have hdx:=hdg.1
  by_cases h45:x.toNat=45
  case' pos=>
   have FG:((x.toNat:Int)=45)=True:=cM (by omega)
   have hfd:gT (sb s) f d7=false:=by have:=hdg.2;rwa [gJ h45,eP] at this
  case' neg=>
   have FG:((x.toNat:Int)=45)=False:=cB (by omega)
   have hfd:=FG
  all_goals
   by_cases h91:x.toNat=91
   case' pos=>
    have uH:((x.toNat:Int)=91)=True:=cM (by omega)
    have h93:c7 (sb s) f 93=true:=by rw[uQ hx,gJ h91,eP,←hf] at gL;simpa using gL
   case' neg=>
    have uH:((x.toNat:Int)=91)=False:=cB (by omega)
    have h93:=uH
   all_goals
    by_cases h65:65≤x.toNat
    case' pos=>
     have xP:((65:Int)≤(x.toNat:Int))=True:=cM (by omega)
     have CP:((x.toNat:Int)≤90)=False:=cB (by intro h;exact hU (by simp only[vE,cE,bK];omega))
    case' neg=>
     have xP:((65:Int)≤(x.toNat:Int))=False:=cB (by omega)
     have CP:=xP
   all_goals
    simp -implicitDefEqProofs only[xO,CO,hix,FF,uH,xP,CP,hw,bE,bM,aA,seval,lM]
    try
     refine(lV s f 93 _).to ?_
     rw[h93]
     simp -implicitDefEqProofs only[hix,xP,CP,bE,bM,aA,seval]
    refine(DC s a _).to ?_
    rw[xW hx]
   all_goals
    simp -implicitDefEqProofs only[hix,hdx,FG,hw,bE,bM,aA,seval]
    try
     refine(DC s f _).to ?_
     rw[hfd]
     simp -implicitDefEqProofs only[aA,seval]
    refine(SB s hs a ha _).to ?_
    cases hn:qA (sb s) a with
    | none=>
     rw[hn] at hP
     subst hP
     simp -implicitDefEqProofs only[DD,bE,aA,seval]
     refine(E0 a (by omega) _).to ?_
     simp -implicitDefEqProofs only[aK,cH,cP,b9,eW (b9 _),eU (aY _),mD,aA,seval,lM]
     exact⟨AK (by omega),hD _⟩
    | some p=>
     obtain⟨nm,e⟩:=p
     rw[hn] at hP
     simp only at hP
     have hel:=J8 (by rw[cV];exact ha) hn
     rw[cV] at hel
     have he0:((e:Int)<0)=False:=cB (by omega)
     obtain⟨f2,hf2⟩:∃f2,f2=e+1:=⟨_,rfl⟩
     have hwe:=pK (x:=(e:Int)+1) (m:=f2) (by omega) (by omega)
     simp -implicitDefEqProofs only[DD,he0,bM,aA,seval]
     refine(lV s e 40 _).to ?_
     cases h4:c7 (sb s) e 40 with
     | false=>
      rw[aH h4] at hP
      subst hP
      simp -implicitDefEqProofs only[aA,seval]
      refine(t9 nm [] (by simp) _).to ?_
      simp -implicitDefEqProofs only[aK,cH,cP,b9,eW (b9 _),eU (aY _),aA,seval,lM]
      exact⟨tB rfl,hD _⟩
     | true=>
      rw[aE (by simp [h4]),←hf2] at hP
      have h5:=pZ h4
      rw[cV] at h5
      simp -implicitDefEqProofs only[hwd,hwe,aA,seval]
      refine(aAY (hR d1 (by omega)) (hok d1) hs f2 (by omega) (by omega) _ (c1:=41) (c2:=41)).mono ?_
      rintro r _ ⟨hr,rfl⟩
      cases hT:tL (R d1) (sb s) 41 41 ((sb s).length+1) f2 [] with
      | none=>
       rw[hT] at hr hP
       subst hP
       obtain⟨k,hk,rfl⟩:=hr
       have hk0:((-1 - (k:Int))<0)=True:=cM (by omega)
       simp -implicitDefEqProofs only[aK,hk0,bE,aA,seval,lM]
       exact⟨GF hk,hD _⟩
      | some p=>
       obtain⟨ts,e3⟩:=p
       rw[hT] at hr hP
       simp only[wT] at hr hP
       subst hr hP
       obtain⟨g1,g2,g3,g4,g5⟩:=PS (hok d1) _ _ _ _ _ (by rw[cV];omega) (by simp) hT
       rw[cV] at g2
       have he3:((e3:Int)<0)=False:=cB (by omega)
       have hw3:=bO (n:=(e3:Int)+1)
       simp -implicitDefEqProofs only[aK,he3,hw3,bM,aA,seval,lM]
       exact⟨by rw[show(AV.agg [.int .i64 3,.int .i64 0,.str nm,.slice (ts.map Tm.av)])=(p8 nm ts).av from (a8 ..).symm];exact tB rfl,hD _⟩
theorem a32{nm:ByteArray}(h:dZ nm≠0):nm≠⟨#[]⟩:=by rintro rfl;exact h (by decide)
abbrev tK:=zi tI_3 (zi zI_3 (zi aU (zi tI_9 (zi zI_9 (zi cT (zi tI_28 (zi zI_28 (zi aO (zi bF (zi bG (zi bZ (zi tI_52 (zi zI_52 (zi bU (zi bV (zi bX (zi bY bT)))))))))))))))))
set_option maxHeartbeats 2000000 in
theorem aXF{s:ByteArray}(hs:s.size≤1000):∀(n d a lv:Nat) (st:aB),a≤s.size→lv≤3→d≤1048576→(s.size - a)*4+lv<n →
 aD prog 178 [.str s,.int .i64 (a:Int),.int .i64 (d:Int),.int .i64 (lv:Int)] st (fun r st'=>nG (rd (sb s) n d a lv) r∧st'=st):=by
 intro n
 induction n with
 | zero=>intro d a lv st _ _ _ h;omega
 | succ n IH=>
 intro d a lv st ha hlv hd hn
 have hl1:(sb s).length≤1000:=by rw[cV];exact hs
 refine aD.S3 ?_
 refine wF [1000000,10] 4 func178 ntmps178 rfl rfl ?_
 intro _
 generalize hP:rd (sb s) (n+1) d a lv=o
 simp -implicitDefEqProofs only[aA,seval,tK]
 intro b hb
 have hD:=fun(o:AO)=>(aL.refl st).aC (o:=o) hb
 cases lv with
 | zero=>
  simp only[rd] at hP
  have h0:(((0:Nat):Int)=0)=True:=cM rfl
  simp -implicitDefEqProofs only[bE,aA,↓aS,seval]
  refine(aXE (R:=fun d a=>rd (sb s) n d a 3) (a:=a) (fun d hd a' st' h1 h2=>IH d a' 3 st' h2 (by omega) hd (by omega)) (fun d=>DK hl1 n d 3) hs ha d hd _).mono ?_
  rintro r _ ⟨hr,rfl⟩
  rw[hP] at hr
  cases o with
  | none=>
   obtain⟨k,hk,rfl⟩:=hr
   simp -implicitDefEqProofs only[aK,cH,cP,b9,eW (b9 _),eU (aY _),mD,aA,seval,tK]
   exact⟨AK hk,hD _⟩
  | some p=>
   obtain⟨t,e⟩:=p
   simp only[nG] at hr
   subst hr
   simp -implicitDefEqProofs only[aK,cH,cP,b9,eW (b9 _),eU (aY _),aA,seval,tK]
   exact⟨tB rfl,hD _⟩
 | succ lv=>
  simp only[rd] at hP
  have h0:(((lv+1:Nat):Int)=0)=False:=cB (by omega)
  obtain⟨lw,hlw⟩:∃lw,lw=lv+1:=⟨_,rfl⟩
  rw[←hlw] at hP h0 ⊢
  have hwl:=pK (x:=(lw:Int) - 1) (m:=lv) (by omega) (by omega)
  simp -implicitDefEqProofs only[h0,hwl,bM,aA,seval]
  refine(IH d a lv _ ha (by omega) hd (by omega)).mono ?_
  rintro r _ ⟨hr,rfl⟩
  cases hRi:rd (sb s) n d a lv with
  | none=>
   rw[hRi] at hr hP
   simp only at hP
   subst hP
   obtain⟨k,hk,rfl⟩:=hr
   have hk0:((0:Int)≤(-1 - (k:Int)))=False:=cB (by omega)
   simp -implicitDefEqProofs only[aK,cH,b9,mD,aA,↓aS,seval,tK]
   intro b10 h10
   have hbb:b10≠b:=fun h=>by rw[h,aB.aJ] at h10;cases h10
   have TV:st b10=none:=by rwa [aB.aG _ _ hbb] at h10
   refine iT (σ:=Unit) [1000000,10] [0,2,3,8,10] (fun _=>True) (fun _=>[(9,.int .i64 0),(11,.int .i64 (-1 - (k:Int)))]) (fun _=>(st.aC b (.cells [.int .i64 0,.int .i64 0,.str ⟨#[]⟩,.fslice []])).aC b10 (.cells K4.av.cells)) (fun _=>0) (by decide +kernel) ⟨(),trivial,aP.mk (by simp -implicitDefEqProofs only[aA,seval])⟩ ?_
   rintro _ _
   simp -implicitDefEqProofs only[aK,hk0,hbb.symm,bM,aA,seval,tK]
   exact⟨GF hk,((hD _).aC TV).aC hb⟩
  | some p=>
   obtain⟨t,e⟩:=p
   rw[hRi] at hr hP
   simp only[nG] at hr hP
   subst hr
   obtain⟨g1,g2,g3⟩:=DK hl1 n d lv a t e (by rw[cV];exact ha) hRi
   rw[cV] at g2 hP
   simp -implicitDefEqProofs only[aK,cH,b9,aA,↓aS,seval,tK]
   intro b10 h10
   have hbb:b10≠b:=fun h=>by rw[h,aB.aJ] at h10;cases h10
   have TV:st b10=none:=by rwa [aB.aG _ _ hbb] at h10
   have hE:∀o1 o2 o3,aL (((st.aC b o1).aC b10 o2).aC b o3) st:=fun o1 o2 o3=>((hD _).aC TV).aC hb
   refine iT (σ:=Tm×Nat×Nat) [1000000,10] [0,2,3,8,10] (fun x=>F8 (fun a=>rd (sb s) n d a lv) (sb s) lw x.2.2 x.1 x.2.1=o∧a<x.2.1∧x.2.1≤s.size∧s.size<x.2.2+x.2.1) (fun x=>[(9,.int .i64 0),(11,.int .i64 (x.2.1:Int))]) (fun x=>(st.aC b (.cells [.int .i64 0,.int .i64 0,.str ⟨#[]⟩,.fslice []])).aC b10 (.cells x.1.av.cells)) (fun x=>x.2.2) (by decide +kernel) ⟨(t,e,s.size+1),⟨hP,g1,g2,by simp only;omega⟩,aP.mk (by simp -implicitDefEqProofs only[aA,seval])⟩ ?_
   rintro⟨t,e,m⟩ ⟨ht,hae,hes,hm⟩
   simp only at ht hae hes hm ⊢
   obtain⟨m,rfl⟩:∃m',m=m'+1:=⟨m - 1,by omega⟩
   simp only[F8] at ht
   have he0:((0:Int)≤(e:Int))=True:=cM (by omega)
   simp -implicitDefEqProofs only[he0,bE,aA,seval]
   refine(aXC s hs e hes _).to ?_
   cases hop:r9 (sb s) e with
   | none=>
    rw[hop] at ht
    simp only at ht
    subst ht
    simp -implicitDefEqProofs only[aK,cH,cP,b9,eW (b9 _),eU (aY _),VT,hbb.symm,bE,aA,seval,tK]
    exact⟨tB rfl,hE _ _ _⟩
   | some p=>
    obtain⟨nm,e1⟩:=p
    rw[hop] at ht
    simp only at ht
    obtain⟨k1,k2,k3⟩:=aPX hop
    rw[cV] at k2
    have hnm:=cB (a32 k3)
    simp -implicitDefEqProofs only[VT,hnm,bM,aA,seval]
    refine(w8 nm _).to ?_
    by_cases aOE:dZ nm=lw
    case neg=>
     rw[aH aOE] at ht
     subst ht
     have hne:((dZ nm:Int)=(lw:Int))=False:=cB (by omega)
     simp -implicitDefEqProofs only[aK,cH,cP,b9,eW (b9 _),eU (aY _),hne,hbb.symm,bM,aA,seval,tK]
     exact⟨tB rfl,hE _ _ _⟩
    rw[aE (by simpa using aOE)] at ht
    have hne:((dZ nm:Int)=(lw:Int))=True:=cM (by omega)
    simp -implicitDefEqProofs only[hne,hwl,bE,aA,seval]
    refine(IH d e1 lv _ k2 (by omega) hd (by omega)).mono ?_
    rintro r _ ⟨hr,rfl⟩
    cases hRj:rd (sb s) n d e1 lv with
    | none=>
     rw[hRj] at hr ht
     simp only at ht
     subst ht
     obtain⟨k,hk,rfl⟩:=hr
     have hk0:((-1 - (k:Int))<0)=True:=cM (by omega)
     simp -implicitDefEqProofs only[aK,aM,cH,cP,hk0,mD,hbb.symm,bE,aA,↓aS,seval,tK]
     exact⟨GF hk,hE _ _ _⟩
    | some p=>
     obtain⟨t2,e2⟩:=p
     rw[hRj] at hr ht
     simp only[nG] at hr ht
     subst hr
     obtain⟨q1,q2,q3⟩:=DK hl1 n d lv e1 t2 e2 (by rw[cV];exact k2) hRj
     rw[cV] at q2
     have he2:((e2:Int)<0)=False:=cB (by omega)
     simp -implicitDefEqProofs only[aY,aM,cH,cP,b9,eW (b9 _),eU (aY _),he2,bM,aA,↓aS,seval,tK]
     refine(t9 nm [t,t2] (by simp) _).to ?_
     by_cases h3:lw=3
     · rw[aH h3] at ht
       subst ht
       have h3':((lw:Int)=3)=True:=cM (by omega)
       simp -implicitDefEqProofs only[aK,cH,cP,b9,eW (b9 _),eU (aY _),h3',hbb.symm,bE,aA,seval,tK]
       exact⟨tB rfl,hE _ _ _⟩
     · rw[aE h3] at ht
       have h3':((lw:Int)=3)=False:=cB (by omega)
       simp -implicitDefEqProofs only[aK,cH,b9,h3',bM,aA,seval,tK]
       exact⟨(p8 nm [t,t2],e2,m),by simp only;omega,⟨ht,by simp only;omega,q2,by simp only;omega⟩,aP.mk (by simp -implicitDefEqProofs only[aA,seval])⟩
end Go.AW
namespace Go.AW
def pA:Nat→Nat→ByteArray→ByteArray
 | 0,_,acc=>acc
 | f+1,n,acc=>if 9<n then pA f (n / 10) (⟨#[UInt8.ofNat (48+n % 10)]⟩++acc) else⟨#[UInt8.ofNat (48+n)]⟩++acc
def CD(n:Int):ByteArray:=if n<0 then⟨#[45]⟩++pA 20 (-n).toNat ⟨#[]⟩ else pA 20 n.toNat ⟨#[]⟩
def OA(n:Int):ByteArray:=⟨#[UInt8.ofNat (65+n.toNat)]⟩
def s9(t:Tm):Bool:=decide (t.k=3)&&(decide (t.s=⟨#[46]⟩)&&decide (t.ts.length=2))
def OC(t:Tm):Bool:=decide (t.k=3)&&(decide (t.s=⟨#[91,93]⟩)&&decide (t.ts.length=0))
def xV(t:Tm):Bool:=decide (t.k=3)&&(decide (t.ts.length=2)&&decide (0<dZ t.s))
def GK(t:Tm):Bool:=decide (t.k=3)&&(decide (t.ts.length=0)&&decide (0<dZ t.s))
def RJ(t:Tm):Bool:=decide (t.k=3)&&decide (0<t.ts.length)
def p6(t:Tm)(i:Nat):Tm:=t.ts.getD i a74
 where a74:Tm:=.mk 0 0 ⟨#[]⟩ []
def mB(T:Tm→ByteArray):List Tm→ByteArray
 | []=>⟨#[]⟩
 | x::xs=>xs.foldl (fun o y=>(o++⟨#[44]⟩)++T y) (⟨#[]⟩++T x)
def spine:Nat→Tm→List Tm×Tm
 | 0,t=>([],t)
 | n+1,t=>if s9 t then(p6 t 0::(spine n (p6 t 1)).1,(spine n (p6 t 1)).2) else([],t)
def tC(nm:ByteArray):ByteArray:=if j5 nm then(⟨#[32]⟩++nm)++⟨#[32]⟩ else nm
def OJ(l:List UInt8):Bool:=gT l 0 letter||(gT l 0 d7||(gT l 0 vE||(c7 l 0 91||c7 l 0 40)))
def vU(T:Tm→ByteArray)(t:Tm)(lv:Nat):ByteArray:=if xV t&&decide (lv<dZ t.s) then(⟨#[40]⟩++T t)++⟨#[41]⟩ else T t
def C8(T:Tm→ByteArray)(t:Tm)(lv:Nat):ByteArray:=if GK t then(⟨#[40]⟩++T t)++⟨#[41]⟩ else vU T t lv
def DM(T:Tm→ByteArray)(t:Tm)(lv:Nat):ByteArray:=if GK t|| !OJ (sb (vU T t lv)) then(⟨#[40]⟩++vU T t lv)++⟨#[41]⟩ else vU T t lv
def JX(T:Tm→ByteArray)(p:List Tm×Tm):ByteArray:=if OC p.2 then(⟨#[91]⟩++mB T p.1)++⟨#[93]⟩ else(((⟨#[91]⟩++mB T p.1)++⟨#[124]⟩)++T p.2)++⟨#[93]⟩
def FU(t:Tm):ByteArray:=if t.k=1 then OA t.n else if t.k=2 then CD t.n else t.s
def lvl(n:Nat):Nat:=if n=3 then 2 else n
def tx:Nat→Tm→ByteArray
 | 0,_=>⟨#[]⟩
 | n+1,t=>if s9 t then JX (tx n) (spine n t) else if xV t then(C8 (tx n) (p6 t 0) (lvl (dZ t.s))++tC t.s)++DM (tx n) (p6 t 1) (dZ t.s - 1)
  else if RJ t then((t.s++⟨#[40]⟩)++mB (tx n) t.ts)++⟨#[41]⟩ else FU t
theorem aUP{T:Tm→ByteArray}{l:List Tm}{i:Nat}{x:Tm}(hx:l[i]?=some x):mB T (l.take (i+1))=(if 0<i then mB T (l.take i)++⟨#[44]⟩ else mB T (l.take i))++T x:=by
 rw[gC,hx]
 cases l with
 | nil=>simp at hx
 | cons y l=>
  cases i with
  | zero=>simp at hx;subst hx;rfl
  | succ i=>
   rw[aH (by omega),wQ]
   simp only[mB,HF,fE,List.foldl_append,BG,List.foldl_nil]
theorem dP(a b:ByteArray):(a++b).size=a.size+b.size:=ByteArray.size_append
theorem MU:∀(f n:Nat) (acc:ByteArray),(pA f n acc).size≤f+acc.size
 | 0,n,acc=>by simp [pA]
 | f+1,n,acc=>by
  unfold pA
  split
  · refine oZ (MU f _ _) ?_
    rw[dP]
    show f+(1+acc.size)≤_
    omega
  · rw[dP]
    show 1+acc.size≤_
    omega
abbrev Ws (t:Tm):Prop:=∃d,t.shape d=true
theorem Ws.own{k n:Int}{s:ByteArray}{ts:List Tm}(h:Ws (.mk k n s ts)):fB k n s ts.length=true∧∀x∈ts,Ws x:=by
 obtain⟨d,h⟩:=h
 rw[Tm.GI,cE,cE,eM] at h
 exact⟨h.1.2,fun x hx=>⟨_,h.2 x hx⟩⟩
theorem J4{k n:Int}{s:ByteArray}{len:Int}(h:fB k n s len=true):(k=1∧0≤n∧n≤25∧s=⟨#[]⟩∧len=0)∨(k=2∧-999≤n∧n≤999∧s=⟨#[]⟩∧len=0)∨(k=3∧n=0∧AG s=true∧len≤4):=by
 unfold fB at h
 by_cases h1:k=1
 · rw[gJ h1] at h
   simp only[cond_true,cE,bK] at h
   exact Or.inl ⟨h1,h.1.1.1,h.1.1.2,h.1.2,h.2⟩
 rw[f0 h1] at h
 by_cases h2:k=2
 · rw[gJ h2] at h
   simp only[cond_true,CC,cE,bK] at h
   exact Or.inr (Or.inl ⟨h2,h.1.1.1,h.1.1.2,h.1.2,h.2⟩)
 rw[f0 h2] at h
 by_cases h3:k=3
 · rw[gJ h3] at h
   simp only[cond_true,CC,cE,bK] at h
   exact Or.inr (Or.inr ⟨h3,h.1.1,h.1.2,h.2⟩)
 · rw[f0 h3] at h
   cases h
theorem aPG{s:ByteArray}(h:AG s=true):1≤s.size∧s.size≤6:=by
 unfold AG at h
 rw[oV] at h
 rcases h with h | h
 · simp only[uR,cE,bK] at h
   omega
 · rw[List.any_eq_true] at h
   obtain⟨x,hx,h⟩:=h
   rw[bK] at h
   subst h
   revert hx
   revert s
   decide
theorem Ws.size{t:Tm}(h:Ws t):t.s.size≤6∧(t.k=3→1≤t.s.size):=by
 obtain⟨k,n,s,ts⟩:=t
 rcases J4 h.own.1 with h | h | h
 · rw[show(Tm.mk k n s ts).s=s from rfl,h.2.2.2.1];exact⟨by decide,fun h3=>by have:k=3:=h3;omega⟩
 · rw[show(Tm.mk k n s ts).s=s from rfl,h.2.2.2.1];exact⟨by decide,fun h3=>by have:k=3:=h3;omega⟩
 · have:=aPG h.2.2.1;exact⟨this.2,fun _=>this.1⟩
theorem sY(t:Tm):1≤t.nodes:=by obtain⟨k,n,s,ts⟩:=t;rw[Tm.iS];omega
theorem aPC{x:Tm}{l:List Tm}(h:x∈l):x.nodes≤bH Tm.nodes l:=by
 induction l with
 | nil=>cases h
 | cons y l ih=>
  simp only[bH]
  rcases dB.1 h with rfl | h
  · omega
  · have:=ih h;omega
theorem aRC:∀(l:List Tm) (i:Nat),bH Tm.nodes (l.take i)≤bH Tm.nodes l
 | [],i=>by simp
 | x::l,0=>by simp [bH]
 | x::l,i+1=>by simp only[wQ,bH];have:=aRC l i;omega
theorem L7{T:Tm→ByteArray}{l:List Tm}(h:∀x∈l,(T x).size≤32*x.nodes):(mB T l).size≤32*bH Tm.nodes l+l.length:=by
 have hg:∀(xs:List Tm) (o:ByteArray),(∀x∈xs,(T x).size≤32*x.nodes)→(xs.foldl (fun o y=>(o++⟨#[44]⟩)++T y) o).size≤o.size+32*bH Tm.nodes xs+xs.length:=by
  intro xs
  induction xs with
  | nil=>intro o _;simp [bH]
  | cons x xs ih=>
   intro o hx
   refine oZ (ih _ fun y hy=>hx y (by simp [hy])) ?_
   rw[dP,dP]
   have:=hx x (by simp)
   simp only[bH,aT]
   show o.size+1+_+_+_≤_
   omega
 cases l with
 | nil=>exact jU _
 | cons x l=>
  refine oZ (hg l _ fun y hy=>h y (by simp [hy])) ?_
  rw[dP]
  have:=h x (by simp)
  simp only[bH,aT]
  show 0+_+_+_≤_
  omega
theorem GB{t:Tm}(h:s9 t=true):∃n x y,t=.mk 3 n ⟨#[46]⟩ [x,y]:=by
 obtain⟨k,n,s,ts⟩:=t
 simp only[s9,cE,bK] at h
 simp only[Tm.k,Tm.s,Tm.ts] at h
 obtain⟨rfl,rfl,h3⟩:=h
 match ts,h3 with
 | [x,y],_=>exact⟨n,x,y,rfl⟩
theorem FT{k n:Int}{s:ByteArray}{x y:Tm}:p6 (.mk k n s [x,y]) 0=x∧p6 (.mk k n s [x,y]) 1=y:=⟨rfl,rfl⟩
theorem WP:∀(n:Nat) (t:Tm),Ws t→(∀x∈(spine n t).1,Ws x)∧Ws (spine n t).2∧bH Tm.nodes (spine n t).1+(spine n t).1.length+(spine n t).2.nodes=t.nodes
 | 0,t,h=>⟨by simp [spine],h,by simp [spine,bH]⟩
 | n+1,t,h=>by
  unfold spine
  split
  · rename_i hp
    obtain⟨m,x,y,rfl⟩:=GB hp
    have hk:=h.own.2
    obtain⟨h1,h2,h3⟩:=WP n y (hk y (by simp))
    simp only[FT]
    refine⟨fun z hz=>?_,h2,?_⟩
    · rcases dB.1 hz with rfl | hz
      · exact hk z (by simp)
      · exact h1 z hz
    · simp only[bH,aT,Tm.iS]
      omega
  · exact⟨by simp,h,by simp [bH]⟩
theorem VD{t:Tm}(h:xV t=true):∃n s x y,t=.mk 3 n s [x,y]∧0<dZ s:=by
 obtain⟨k,n,s,ts⟩:=t
 simp only[xV,cE,bK] at h
 simp only[Tm.k,Tm.s,Tm.ts] at h
 obtain⟨rfl,h2,h3⟩:=h
 match ts,h2 with
 | [x,y],_=>exact⟨n,s,x,y,rfl,h3⟩
theorem RU{T:Tm→ByteArray}{t:Tm}(lv:Nat):(T t).size≤(vU T t lv).size∧(vU T t lv).size≤(T t).size+2:=by
 unfold vU
 split
 · rw[dP,dP];show _≤1+_+1∧1+_+1≤_;omega
 · omega
theorem a3W{T:Tm→ByteArray}{t:Tm}(lv:Nat):(T t).size≤(C8 T t lv).size∧(C8 T t lv).size≤(T t).size+2:=by
 unfold C8
 split
 · rw[dP,dP];show _≤1+_+1∧1+_+1≤_;omega
 · exact RU lv
theorem a53{T:Tm→ByteArray}{t:Tm}(lv:Nat):(T t).size≤(DM T t lv).size∧(DM T t lv).size≤(T t).size+4:=by
 have:=RU (T:=T) (t:=t) lv
 unfold DM
 split
 · rw[dP,dP];show _≤1+_+1∧1+_+1≤_;omega
 · omega
theorem P2:∀(n:Nat) (t:Tm),Ws t→(tx n t).size≤32*t.nodes
 | 0,t,_=>jU _
 | n+1,t,h=>by
  have hT:=P2 n
  unfold tx
  split
  · rename_i hp
    obtain⟨h1,h2,h3⟩:=WP n t h
    have ha:=L7 (T:=tx n) (l:=(spine n t).1) fun x hx=>hT x (h1 x hx)
    have hb:=hT _ h2
    have hq:=sY (spine n t).2
    have hl:1≤(spine n t).1.length∨n=0:=by
     cases n with
     | zero=>exact Or.inr rfl
     | succ m=>left;unfold spine;rw[aH hp];simp
    have h4:3≤t.nodes:=by obtain⟨m,x,y,rfl⟩:=GB hp;simp only[Tm.iS,bH];have:=sY x;have:=sY y;omega
    have hb2:1≤(spine n t).1.length∨((tx n (spine n t).2).size=0∧(mB (tx n) (spine n t).1).size=0):=by
     rcases hl with hl | rfl
     · left;omega
     · right;exact⟨rfl,rfl⟩
    unfold JX
    split
    · rw[dP,dP];show 1+_+1≤_;omega
    · rw[dP,dP,dP,dP];show 1+_+1+_+1≤_;omega
  split
  · rename_i hp
    obtain⟨m,s,x,y,rfl,hs⟩:=VD hp
    have hk:=h.own.2
    have h6:=h.size.1
    simp only[FT,Tm.iS,bH,Tm.s]
    have hx:=hT x (hk x (by simp))
    have hy:=hT y (hk y (by simp))
    have hl:=(a3W (T:=tx n) (t:=x) (lvl (dZ s))).2
    have hr:=(a53 (T:=tx n) (t:=y) (dZ s - 1)).2
    rw[dP,dP]
    have hsp:(tC s).size≤8:=by
     have h6:s.size≤6:=h6
     unfold tC
     split
     · rw[dP,dP];show 1+_+1≤_;omega
     · omega
    show _+(tC s).size+_≤_
    omega
  split
  · obtain⟨k,m,s,ts⟩:=t
    have ha:=L7 (T:=tx n) (l:=ts) fun x hx=>hT x (h.own.2 x hx)
    have h6:s.size≤6:=h.size.1
    have h4:ts.length≤4:=by rcases J4 h.own.1 with h | h | h<;>omega
    rw[dP,dP,dP,Tm.iS]
    simp only[Tm.s,Tm.ts]
    show s.size+1+_+1≤_
    omega
  · have h6:=h.size.1
    have hp:=sY t
    unfold FU
    split
    · show 1≤_;omega
    · split
      · unfold CD
        split
        · rw[dP];have:=MU 20 (-t.n).toNat ⟨#[]⟩;have h0:(⟨#[]⟩:ByteArray).size=0:=rfl;show 1+_≤_;omega
        · have:=MU 20 t.n.toNat ⟨#[]⟩;have h0:(⟨#[]⟩:ByteArray).size=0:=rfl;omega
      · omega
def yH:Nat→Tm→Tm
 | 0,t=>t
 | i+1,t=>yH i (p6 t 1)
theorem aQ1:∀(i:Nat) (t:Tm),yH (i+1) t=p6 (yH i t) 1
 | 0,t=>rfl
 | i+1,t=>by rw[yH,aQ1 i];try rfl
theorem aQ2:∀(n:Nat) (t:Tm) (i:Nat) (x:Tm),(spine n t).1[i]?=some x→s9 (yH i t)=true∧p6 (yH i t) 0=x
 | 0,t,i,x,h=>by simp [spine] at h
 | n+1,t,i,x,h=>by
  unfold spine at h
  split at h
  · rename_i hp
    cases i with
    | zero=>simp at h;exact⟨hp,h⟩
    | succ i=>exact aQ2 n _ i x (by simpa using h)
  · simp at h
theorem aQ3:∀(n:Nat) (t:Tm),t.nodes≤n+1→(spine n t).2=yH (spine n t).1.length t∧s9 (spine n t).2=false
 | 0,t,h=>by
  refine⟨rfl,?_⟩
  cases hp:s9 t with
  | false=>exact hp
  | true=>obtain⟨m,x,y,rfl⟩:=GB hp;simp only[Tm.iS,bH] at h;have:=sY x;omega
 | n+1,t,h=>by
  unfold spine
  split
  · rename_i hp
    obtain⟨m,x,y,rfl⟩:=GB hp
    simp only[Tm.iS,bH] at h
    have:=sY x
    have:=aQ3 n y (by omega)
    exact⟨this.1,this.2⟩
  · rename_i hp
    exact⟨rfl,by simpa using hp⟩
theorem a8B{n:Nat}{t:Tm}(h:Ws t)(hn:1≤n):1≤(tx n t).size:=by
 obtain⟨n,rfl⟩:∃m,n=m+1:=⟨n - 1,by omega⟩
 unfold tx
 split
 · unfold JX
   split
   · rw[dP,dP];show 1≤1+_+1;omega
   · rw[dP];show 1≤_+1;omega
 split
 · rename_i hp
   obtain⟨m,s,x,y,rfl,hs⟩:=VD hp
   have h6:1≤s.size:=h.size.2 rfl
   rw[dP,dP]
   have:1≤(tC s).size:=by
    unfold tC
    split
    · rw[dP,dP];omega
    · exact h6
   show 1≤_+(tC s).size+_
   omega
 split
 · rw[dP];show 1≤_+1;omega
 · obtain⟨k,m,s,ts⟩:=t
   rw[show FU (.mk k m s ts)=if k=1 then OA m else if k=2 then CD m else s from rfl]
   rcases J4 h.own.1 with h1 | h1 | h1
   · rw[aH h1.1];exact dC _
   · rw[aE (by omega),aH h1.1]
     unfold CD
     split
     · rw[dP];show 1≤1+_;omega
     · have hf:∀f n acc,1≤(pA (f+1) n acc).size:=by
        intro f
        induction f with
        | zero=>
         intro n acc;unfold pA;split
         · simp only[pA];rw[dP];show 1≤1+_;omega
         · rw[dP];show 1≤1+_;omega
        | succ f ih=>
         intro n acc;unfold pA;split
         · exact ih _ _
         · rw[dP];show 1≤1+_;omega
       exact hf 19 _ _
   · rw[aE (by omega),aE (by omega)];exact(aPG h1.2.2.1).1
end Go.AW
namespace Go.AW
open Go.Proofs.Tryz
theorem aP3{k n:Int}{s:ByteArray}{ts:List Tm}:s9 (.mk k n s ts)=(decide (k=3)&&(decide (s=⟨#[46]⟩)&&decide (ts.length=2))):=rfl
theorem a4P{k n:Int}{s:ByteArray}{ts:List Tm}:OC (.mk k n s ts)=(decide (k=3)&&(decide (s=⟨#[91,93]⟩)&&decide (ts.length=0))):=rfl
theorem a3M{k n:Int}{s:ByteArray}{ts:List Tm}:xV (.mk k n s ts)=(decide (k=3)&&(decide (ts.length=2)&&decide (0<dZ s))):=rfl
theorem RH{k n:Int}{s:ByteArray}{ts:List Tm}:RJ (.mk k n s ts)=(decide (k=3)&&decide (0<ts.length)):=rfl
theorem a6T{k n:Int}{s:ByteArray}{ts:List Tm}:GK (.mk k n s ts)=(decide (k=3)&&(decide (ts.length=0)&&decide (0<dZ s))):=rfl
abbrev XC:=zi tI_3 (zi zI_3 (zi aU (zi tI_4 (zi zI_4 (zi cI (zi tI_9 (zi zI_9 (zi cT (zi tI_28 (zi zI_28 (zi aO (zi bF (zi bG (zi bZ (zi tI_52 (zi zI_52 (zi bU (zi bV (zi bX (zi bY bT))))))))))))))))))))
theorem MI(t:Tm)(st:aB):aD prog 273 [t.av] st (fun r st'=>r=.bool (s9 t)∧st'=st):=by
 obtain⟨k,n,s,ts⟩:=t
 rw[aP3]
 refine wF [1000000] 1 func273 ntmps273 rfl rfl ?_
 intro _
 simp only[a8]
 by_cases h1:k=3
 case neg=>
  rw[f0 h1,g9]
  simp -implicitDefEqProofs only[h1,bM,aA,seval,XC]
 rw[gJ h1,eP]
 by_cases h2:s=⟨#[46]⟩
 case neg=>
  rw[f0 h2,g9]
  simp -implicitDefEqProofs only[h1,h2,bE,bM,aA,seval,XC]
 rw[gJ h2,eP]
 have h3:decide (((ts.length:Nat):Int)=2)=decide (ts.length=2):=by rw[CE];omega
 simp -implicitDefEqProofs only[h1,h2,h3,bE,aF,aA,seval,XC]
abbrev XE:=zi tI_3 (zi zI_3 (zi aU (zi tI_4 (zi zI_4 (zi cI (zi tI_9 (zi zI_9 (zi cT (zi tI_28 (zi zI_28 (zi aO (zi bF (zi bG (zi bZ (zi tI_52 (zi zI_52 (zi bU (zi bV (zi bX (zi bY bT))))))))))))))))))))
theorem aWZ(t:Tm)(st:aB):aD prog 285 [t.av] st (fun r st'=>r=.bool (OC t)∧st'=st):=by
 obtain⟨k,n,s,ts⟩:=t
 rw[a4P]
 refine wF [1000000] 1 func285 ntmps285 rfl rfl ?_
 intro _
 simp only[a8]
 by_cases h1:k=3
 case neg=>
  rw[f0 h1,g9]
  simp -implicitDefEqProofs only[h1,bM,aA,seval,XE]
 rw[gJ h1,eP]
 by_cases h2:s=⟨#[91,93]⟩
 case neg=>
  rw[f0 h2,g9]
  simp -implicitDefEqProofs only[h1,h2,bE,bM,aA,seval,XE]
 rw[gJ h2,eP]
 have h3:decide (((ts.length:Nat):Int)=0)=decide (ts.length=0):=by rw[CE];omega
 simp -implicitDefEqProofs only[h1,h2,h3,bE,aF,aA,seval,XE]
abbrev XD:=zi tI_3 (zi zI_3 (zi aU (zi tI_4 (zi zI_4 (zi cI (zi tI_9 (zi zI_9 (zi cT (zi tI_28 (zi zI_28 (zi aO (zi bF (zi bG (zi bZ (zi tI_52 (zi zI_52 (zi bU (zi bV (zi bX (zi bY bT))))))))))))))))))))
theorem aAW(t:Tm)(st:aB):aD prog 275 [t.av] st (fun r st'=>r=.bool (xV t)∧st'=st):=by
 obtain⟨k,n,s,ts⟩:=t
 rw[a3M]
 refine wF [1000000] 1 func275 ntmps275 rfl rfl ?_
 intro _
 simp only[a8]
 by_cases h1:k=3
 case neg=>
  rw[f0 h1,g9]
  simp -implicitDefEqProofs only[h1,bM,aA,seval,XD]
 rw[gJ h1,eP]
 by_cases h2:ts.length=2
 case neg=>
  rw[f0 h2,g9]
  have h2':(((ts.length:Nat):Int)=2)=False:=cB (by omega)
  simp -implicitDefEqProofs only[h1,h2',bE,bM,aF,aA,seval,XD]
 rw[gJ h2,eP]
 have h2':(((ts.length:Nat):Int)=2)=True:=cM (by omega)
 simp -implicitDefEqProofs only[h1,h2',bE,aF,aA,seval,XD]
 refine(w8 s _).to ?_
 have h3:decide ((0:Int)<(dZ s:Int))=decide (0<dZ s):=by rw[CE];omega
 simp -implicitDefEqProofs only[h3,aA,seval]
abbrev XF:=zi tI_3 (zi zI_3 (zi aU (zi tI_4 (zi zI_4 (zi cI (zi tI_9 (zi zI_9 (zi cT (zi tI_28 (zi zI_28 (zi aO (zi bF (zi bG (zi bZ (zi tI_52 (zi zI_52 (zi bU (zi bV (zi bX (zi bY bT))))))))))))))))))))
theorem aAX(t:Tm)(st:aB):aD prog 286 [t.av] st (fun r st'=>r=.bool (GK t)∧st'=st):=by
 obtain⟨k,n,s,ts⟩:=t
 rw[a6T]
 refine wF [1000000] 1 func286 ntmps286 rfl rfl ?_
 intro _
 simp only[a8]
 by_cases h1:k=3
 case neg=>
  rw[f0 h1,g9]
  simp -implicitDefEqProofs only[h1,bM,aA,seval,XF]
 rw[gJ h1,eP]
 by_cases h2:ts.length=0
 case neg=>
  rw[f0 h2,g9]
  have h2':(((ts.length:Nat):Int)=0)=False:=cB (by omega)
  simp -implicitDefEqProofs only[h1,h2',bE,bM,aF,aA,seval,XF]
 rw[gJ h2,eP]
 have h2':(((ts.length:Nat):Int)=0)=True:=cM (by omega)
 simp -implicitDefEqProofs only[h1,h2',bE,aF,aA,seval,XF]
 refine(w8 s _).to ?_
 have h3:decide ((0:Int)<(dZ s:Int))=decide (0<dZ s):=by rw[CE];omega
 simp -implicitDefEqProofs only[h3,aA,seval]
theorem aXH(s:ByteArray)(hs:s.size≤1000)(st:aB):aD prog 277 [.str s] st (fun r st'=>r=.str (tC s)∧st'=st):=by
 refine wF [1000000] 1 func277 ntmps277 rfl rfl ?_
 intro _
 have hm:maxLen=9223372036854775807:=by rfl
 have g1:(⟨#[32]⟩:ByteArray).size+s.size≤maxLen:=by show 1+s.size≤_;omega
 have g2:((⟨#[32]⟩:ByteArray)++s).size+(⟨#[32]⟩:ByteArray).size≤maxLen:=by rw[dP];show 1+s.size+1≤_;omega
 by_cases h1:s=⟨#[105,115]⟩
 · have hW:j5 s=true:=by unfold j5;rw[gJ h1];try rfl
   unfold tC
   rw[aH hW]
   have h1':=cM h1
   simp -implicitDefEqProofs only[h1',g1,g2,↓reduceIte,bE,aA,seval]
 · have h1':=cB h1
   by_cases h2:s=⟨#[109,111,100]⟩
   · have hW:j5 s=true:=by unfold j5;rw[gJ h2];exact BB _
     unfold tC
     rw[aH hW]
     have h2':=cM h2
     simp -implicitDefEqProofs only[h1',h2',g1,g2,↓reduceIte,bE,bM,aA,seval]
   · have hW:j5 s=false:=by unfold j5;rw[f0 h1,f0 h2];try rfl
     unfold tC
     rw[aE (by rw[hW];decide)]
     have h2':=cB h2
     simp -implicitDefEqProofs only[h1',h2',bM,aA,seval]
theorem aXD(s:ByteArray)(hs:1≤s.size)(st:aB):aD prog 288 [.str s] st (fun r st'=>r=.bool (OJ (sb s))∧st'=st):=by
 refine wF [1000000] 1 func288 ntmps288 rfl rfl ?_
 intro _
 obtain⟨x,hx⟩:=w6 (s:=s) (n:=0) (by omega)
 have hix:=uP (P:=prog) (t:=9) cT hx
 rw[show((0:Nat):Int)=0 from rfl] at hix
 unfold OJ
 simp only[xW hx,uQ hx]
 simp -implicitDefEqProofs only[aA,seval]
 refine(aPF s 0 _).to ?_
 rw[xW hx]
 cases h1:letter x with
 | true=>
  simp -implicitDefEqProofs only[aA,seval]
  simp
 | false=>
  simp -implicitDefEqProofs only[aA,seval]
  refine(DC s 0 _).to ?_
  rw[xW hx]
  cases h2:d7 x with
  | true=>
   simp -implicitDefEqProofs only[aA,seval]
   simp
  | false=>
   by_cases h3:65≤x.toNat
   case' pos=>have h3':((65:Int)≤(x.toNat:Int))=True:=cM (by omega)
   case' neg=>have h3':((65:Int)≤(x.toNat:Int))=False:=cB (by omega)
   all_goals
    by_cases h4:x.toNat≤90
    case' pos=>have h4':((x.toNat:Int)≤90)=True:=cM (by omega)
    case' neg=>have h4':((x.toNat:Int)≤90)=False:=cB (by omega)
   all_goals
    by_cases h5:x.toNat=91
    case' pos=>have h5':((x.toNat:Int)=91)=True:=cM (by omega)
    case' neg=>have h5':((x.toNat:Int)=91)=False:=cB (by omega)
   all_goals
    by_cases h6:x.toNat=40
    case' pos=>have h6':((x.toNat:Int)=40)=True:=cM (by omega)
    case' neg=>have h6':((x.toNat:Int)=40)=False:=cB (by omega)
   all_goals try (exfalso;omega)
   all_goals
    simp -implicitDefEqProofs only[hix,h3',h4',h5',h6',bE,bM,aA,seval]
    simp [vE,h3,h4,h5,h6]
theorem RW(n:Nat):bytesOf [AV.int .u8 ((n:Nat):Int)]=some [UInt8.ofNat n]:=by simp only[bytesOf,jT,pN]
theorem QA{x:Int}{m:Nat}(h:x=(m:Int))(hm:m≤255):IntKind.wrap .u8 x=(m:Int):=by rw[IntKind.wrap_u8];omega
abbrev a7Y:=zi tI_3 (zi zI_3 (zi aU (zi tI_5 (zi zI_5 (zi mH (zi tI_9 (zi zI_9 (zi cT (zi tI_47 (zi zI_47 (zi mU (zi pT (zi pU pJ)))))))))))))
theorem aWY(m:Nat)(hm:m≤25)(st:aB):aD prog 289 [.int .i64 (m:Int)] st (fun r st'=>r=.str (OA m)∧st'=st):=by
 refine wF [1000000] 1 func289 ntmps289 rfl rfl ?_
 intro _
 have hw:=QA (x:=(m:Int)) rfl (by omega)
 obtain⟨y,hy⟩:∃y,y=65+m:=⟨_,rfl⟩
 have hw2:=QA (x:=65+(m:Int)) (m:=y) (by omega) (by omega)
 simp -implicitDefEqProofs only[vM,hw,hw2,RW,aA,seval,a7Y]
 subst hy
 rfl
abbrev aR7:=zi tI_3 (zi zI_3 (zi aU (zi tI_5 (zi zI_5 (zi mH (zi tI_9 (zi zI_9 (zi cT (zi tI_47 (zi zI_47 (zi mU (zi pT (zi pU pJ)))))))))))))
theorem aAK(n:Nat)(hn:n≤1000000)(st:aB):aD prog 268 [.int .i64 (n:Int)] st (fun r st'=>r=.str (pA 20 n ⟨#[]⟩)∧st'=st):=by
 refine wF [1000000] 1 func268 ntmps268 rfl rfl ?_
 intro _
 have h1:((n:Int)< -9223372036854775807)=False:=cB (by omega)
 have h2:((n:Int)<0)=False:=cB (by omega)
 simp -implicitDefEqProofs only[h1,h2,bM,aA,seval]
 generalize hT:pA 20 n ⟨#[]⟩=T
 refine iT (σ:=Nat×ByteArray×Nat) [1000000] [2] (fun x=>pA x.2.2 x.1 x.2.1=T∧x.1<10 ^ x.2.2∧x.1≤1000000∧1≤x.2.2∧x.2.1.size+x.2.2≤20) (fun x=>[(0,.int .i64 (x.1:Int)),(3,.str x.2.1)]) (fun _=>st) (fun x=>x.2.2) (by decide +kernel) ⟨(n,⟨#[]⟩,20),⟨hT,by simp only;omega,hn,by simp only;omega,by show 0+20≤20;omega⟩,aP.mk (by simp -implicitDefEqProofs only[aA,seval])⟩ ?_
 rintro⟨k,acc,f⟩ ⟨hd,hk,hk6,hf,hb⟩
 simp only at hd hk hk6 hf hb ⊢
 obtain⟨f,rfl⟩:∃f',f=f'+1:=⟨f - 1,by omega⟩
 have hm:maxLen=9223372036854775807:=by rfl
 have hsz:∀u:UInt8,(⟨#[u]⟩:ByteArray).size+acc.size≤maxLen:=fun u=>by show 1+acc.size≤_;omega
 have hr:((k:Int)).tmod 10=((k % 10:Nat):Int):=by rw[Int.tmod_eq_emod_of_nonneg (by omega)];omega
 have hq:((k:Int)).tdiv 10=((k / 10:Nat):Int):=by rw[Int.tdiv_eq_ediv_of_nonneg (by omega)];omega
 simp -implicitDefEqProofs only[aA,seval]
 refine aQ (fun h3=>?_) (fun h3=>?_)
 · simp only[bK] at h3
   unfold pA at hd
   rw[aH (by omega)] at hd
   rw[Nat.pow_succ] at hk
   obtain⟨y,hy⟩:∃y,y=48+k % 10:=⟨_,rfl⟩
   obtain⟨q,hq'⟩:∃q,q=k / 10:=⟨_,rfl⟩
   obtain⟨r,hr'⟩:∃r,r=k % 10:=⟨_,rfl⟩
   rw[←hr'] at hr
   rw[←hq'] at hq
   have hwr:=bO (n:=(r:Int))
   have hw:=pK (x:=48+(r:Int)) (m:=y) (by omega) (by omega)
   have hw8:=QA (x:=(y:Int)) (m:=y) rfl (by omega)
   have hw2:=bO (n:=(q:Int))
   simp -implicitDefEqProofs only[vM,hr,hq,hw,hw8,hw2,RW,hsz,aA,seval,aR7]
   refine⟨(q,⟨#[UInt8.ofNat y]⟩++acc,f),by simp only;omega,⟨by rw[hq',hy];exact hd,by simp only;omega,by simp only;omega,?_,?_⟩,aP.mk (by simp -implicitDefEqProofs only[aA,seval]<;>rfl)⟩
   · show 1≤f
     rcases Nat.eq_zero_or_pos f with rfl | h
     · simp only[Nat.pow_zero] at hk;omega
     · exact h
   · show(⟨#[UInt8.ofNat y]⟩++acc:ByteArray).size+f≤20
     rw[dP]
     show 1+acc.size+f≤20
     omega
 · simp only[dL] at h3
   unfold pA at hd
   rw[aE (by omega)] at hd
   obtain⟨y,hy⟩:∃y,y=48+k:=⟨_,rfl⟩
   have hw:=pK (x:=48+(k:Int)) (m:=y) (by omega) (by omega)
   have hw8:=QA (x:=(y:Int)) (m:=y) rfl (by omega)
   simp -implicitDefEqProofs only[vM,hw,hw8,RW,hsz,aA,seval,aR7]
   rw[←hd,hy]
theorem aWU(n:Int)(h1: -999≤n)(h2:n≤999)(st:aB):aD prog 267 [.int .i64 n] st (fun r st'=>r=.str (CD n)∧st'=st):=by
 refine wF [1000000] 1 func267 ntmps267 rfl rfl ?_
 intro _
 unfold CD
 have hm:maxLen=9223372036854775807:=by rfl
 by_cases h:n<0
 · rw[aH h]
   obtain⟨m,hm'⟩:∃m:Nat,m=(-n).toNat:=⟨_,rfl⟩
   rw[←hm']
   have h':=cM h
   have hw:=pK (x:=0 - n) (m:=m) (by omega) (by omega)
   have hw':=pK (x:= -n) (m:=m) (by omega) (by omega)
   have hs:(⟨#[45]⟩:ByteArray).size+(pA 20 m ⟨#[]⟩).size≤maxLen:=by have:=MU 20 m ⟨#[]⟩;have h0:(⟨#[]⟩:ByteArray).size=0:=rfl;show 1+_≤_;omega
   simp -implicitDefEqProofs only[h',hw,↓reduceIte,bE,aA,seval]
   refine(aAK m (by omega) _).to ?_
   simp -implicitDefEqProofs only[hs,↓reduceIte,aA,seval]
 · rw[aE h]
   obtain⟨m,rfl⟩:=qF (show 0≤n by omega)
   have h':=cB h
   rw[jT]
   simp -implicitDefEqProofs only[h',bM,aA,seval]
   refine(aAK m (by omega) _).to ?_
   simp -implicitDefEqProofs only[aA,seval]
abbrev KV:=zi tI_3 (zi zI_3 (zi aU (zi tI_9 (zi zI_9 (zi cT (zi tI_28 (zi zI_28 (zi aO (zi bF (zi bG (zi bZ (zi tI_52 (zi zI_52 (zi bU (zi bV (zi bX (zi bY bT)))))))))))))))))
theorem aW8(t:Tm)(ht:Ws t)(h0:t.k=3→t.ts= [])(st:aB):aD prog 280 [t.av] st (fun r st'=>r=.str (FU t)∧st'=st):=by
 obtain⟨k,n,s,ts⟩:=t
 have hp:=MI (.mk k n s ts)
 simp only[a8] at hp ⊢
 rw[show FU (.mk k n s ts)=if k=1 then OA n else if k=2 then CD n else s from rfl]
 have h0:k=3→ts= []:=h0
 refine wF [1000000] 1 func280 ntmps280 rfl rfl ?_
 intro _
 rcases J4 ht.own.1 with ⟨rfl,h1,h2,rfl,h4⟩ | ⟨rfl,h1,h2,rfl,h4⟩ | ⟨rfl,rfl,h2,h4⟩
 · obtain⟨m,rfl⟩:=qF h1
   simp -implicitDefEqProofs only[aA,seval,KV]
   refine(aWY m (by omega) _).to ?_
   simp -implicitDefEqProofs only[aA,seval]
 · skip
   simp -implicitDefEqProofs only[aA,seval,KV]
   refine(aWU n h1 h2 _).to ?_
   simp -implicitDefEqProofs only[aA,seval]
 · obtain rfl:=h0 rfl
   simp -implicitDefEqProofs only[aW,aA,seval,KV]
   refine(hp _).to ?_
   rw[show s9 (.mk 3 0 s [])=false by rw[aP3];simp]
   simp -implicitDefEqProofs only[aA,seval,KV]
   refine iT (σ:=Unit) [1000000] [1,2] (fun _=>True) (fun _=>[(3,.str s),(4,.int .i64 0)]) (fun _=>st) (fun _=>0) (by decide +kernel) ⟨(),trivial,aP.mk (by simp -implicitDefEqProofs only[aA,seval])⟩ ?_
   rintro _ _
   simp -implicitDefEqProofs only[aX,aA,seval,KV]
def zA(T:Tm→ByteArray)(t:Tm):Prop:=(∀st:aB,aD prog 256 [t.av] st (fun r st'=>r=.str (T t)∧st'=st))∧(T t).size≤32*t.nodes∧1≤(T t).size∧t.nodes≤1000
abbrev XH:=zi tI_3 (zi zI_3 (zi aU (zi tI_9 (zi zI_9 (zi cT (zi tI_28 (zi zI_28 (zi aO (zi bF (zi bG (zi bZ (zi tI_52 (zi zI_52 (zi bU (zi bV (zi bX (zi bY bT)))))))))))))))))
theorem aAU{T:Tm→ByteArray}(l:List Tm)(hT:∀t∈l,zA T t)(hn:bH Tm.nodes l≤10000)(hl:l.length≤10000)(st:aB):aD prog 279 [.slice (l.map Tm.av)] st (fun r st'=>r=.str (mB T l)∧st'=st):=by
 refine wF [1000000] 1 func279 ntmps279 rfl rfl ?_
 intro _
 simp -implicitDefEqProofs only[aA,seval]
 refine eL (σ:=Unit) [1000000] [0,2] l (fun i _=>True) (fun i _=>[(3,.str (mB T (l.take i))),(4,.int .i64 i)]) (fun _ _=>st) (by decide +kernel) ⟨(),trivial,aP.mk (by simp -implicitDefEqProofs only[l7,aA,↓aS,seval]<;>rfl)⟩ (fun i x _ hx hlt bR hdr hinv=>?_) (fun _ hge hinv=>?_)
 case refine_2=>
  rw[fG]
  simp -implicitDefEqProofs only[hge,aF,aA,seval,XH]
 have hxm:=dA hx
 obtain⟨c1,c2,c3,c4⟩:=hT x hxm
 have hw:=bO (n:=(i:Int)+1)
 have hat:=bQ (av:=Tm.av) aO hx (aM x)
 have jG:=aUP (T:=T) hx
 have hsz:=L7 (T:=T) (l:=l.take i) fun y hy=>(hT y (mJ hy)).2.1
 have hsl:bH Tm.nodes (l.take i)≤bH Tm.nodes l:=aRC l i
 have hln:(l.take i).length≤10000:=by rw[eC];omega
 have hm:maxLen=9223372036854775807:=by rfl
 have hs1:(mB T (l.take i)).size+(⟨#[44]⟩:ByteArray).size≤maxLen:=by show _+1≤_;omega
 have hs2:(mB T (l.take i)++(⟨#[44]⟩:ByteArray)).size+(T x).size≤maxLen:=by rw[dP];show _+1+_≤_;omega
 have hs3:(mB T (l.take i)).size+(T x).size≤maxLen:=by omega
 by_cases h0:0<i
 · rw[aH h0] at jG
   have h0':((0:Int)<(i:Int))=True:=cM (by omega)
   simp -implicitDefEqProofs only[aF,hat,aY,aM,bR,h0',hs1,↓reduceIte,bE,aA,seval,XH]
   refine(c1 _).to ?_
   simp -implicitDefEqProofs only[hs2,↓reduceIte,aA,seval]
   exact⟨(),aP.mk (by simp -implicitDefEqProofs only[hw,jG,↓reduceIte,aA,seval])⟩
 · rw[aE h0] at jG
   have h0':((0:Int)<(i:Int))=False:=cB (by omega)
   simp -implicitDefEqProofs only[aF,hat,aY,aM,bR,h0',↓reduceIte,bE,bM,aA,seval,XH]
   refine(c1 _).to ?_
   simp -implicitDefEqProofs only[hs3,↓reduceIte,aA,seval]
   exact⟨(),aP.mk (by simp -implicitDefEqProofs only[hw,jG,↓reduceIte,aA,seval])⟩
abbrev KW:=zi tI_3 (zi zI_3 (zi aU (zi tI_9 (zi zI_9 (zi cT (zi tI_52 (zi zI_52 (zi bU (zi bV (zi bX (zi bY bT)))))))))))
theorem aAV{T:Tm→ByteArray}(t:Tm)(hT:zA T t)(lv:Nat)(hlv:lv≤10)(st:aB):aD prog 287 [t.av,.int .i64 (lv:Int)] st (fun r st'=>r=.str (vU T t lv)∧st'=st):=by
 obtain⟨c1,c2,c3,c4⟩:=hT
 have hm:maxLen=9223372036854775807:=by rfl
 have hs1:(⟨#[40]⟩:ByteArray).size+(T t).size≤maxLen:=by show 1+_≤_;omega
 have hs2:((⟨#[40]⟩:ByteArray)++T t).size+(⟨#[41]⟩:ByteArray).size≤maxLen:=by rw[dP];show 1+_+1≤_;omega
 have hi:=aAW t
 obtain⟨k,n,s,ts⟩:=t
 rw[show vU T (.mk k n s ts) lv=if(xV (.mk k n s ts)&&decide (lv<dZ s))=true then(⟨#[40]⟩++T (.mk k n s ts))++⟨#[41]⟩ else T (.mk k n s ts) from rfl]
 generalize hTT:T (.mk k n s ts)=u at *
 simp only[a8] at hi c1 ⊢
 refine wF [1000000] 2 func287 ntmps287 rfl rfl ?_
 intro _
 simp -implicitDefEqProofs only[aA,seval,KW]
 refine(hi _).to ?_
 cases hk:xV (.mk k n s ts) with
 | false=>
  rw[g9,aE (by decide)]
  simp -implicitDefEqProofs only[aA,seval,KW]
  refine(c1 _).to ?_
  simp -implicitDefEqProofs only[aA,seval]
 | true=>
  rw[eP]
  simp -implicitDefEqProofs only[aA,seval,KW]
  refine(w8 s _).to ?_
  by_cases h:lv<dZ s
  · rw[gJ h,aH rfl]
    have h':((lv:Int)<(dZ s:Int))=True:=cM (by omega)
    simp -implicitDefEqProofs only[h',↓reduceIte,bE,aA,seval,KW]
    refine(c1 _).to ?_
    simp -implicitDefEqProofs only[hs1,hs2,↓reduceIte,aA,seval]
  · rw[f0 h,aE (by decide)]
    have h':((lv:Int)<(dZ s:Int))=False:=cB (by omega)
    simp -implicitDefEqProofs only[h',↓reduceIte,bM,aA,seval,KW]
    refine(c1 _).to ?_
    simp -implicitDefEqProofs only[↓reduceIte,aA,seval]
abbrev XG:=zi tI_3 (zi zI_3 (zi aU (zi tI_9 (zi zI_9 (zi cT (zi tI_52 (zi zI_52 (zi bU (zi bV (zi bX (zi bY bT)))))))))))
theorem aXA{T:Tm→ByteArray}(t:Tm)(hT:zA T t)(lv:Nat)(hlv:lv≤10)(st:aB):aD prog 276 [t.av,.int .i64 (lv:Int)] st (fun r st'=>r=.str (C8 T t lv)∧st'=st):=by
 have hb:=aAV t hT lv hlv
 obtain⟨c1,c2,c3,c4⟩:=hT
 have hm:maxLen=9223372036854775807:=by rfl
 have hs1:(⟨#[40]⟩:ByteArray).size+(T t).size≤maxLen:=by show 1+_≤_;omega
 have hs2:((⟨#[40]⟩:ByteArray)++T t).size+(⟨#[41]⟩:ByteArray).size≤maxLen:=by rw[dP];show 1+_+1≤_;omega
 have hi:=aAX t
 unfold C8
 refine wF [1000000] 2 func276 ntmps276 rfl rfl ?_
 intro _
 simp -implicitDefEqProofs only[aY,aM,cP,↓reduceIte,aA,seval,XG]
 refine(hi _).to ?_
 cases hk:GK t with
 | false=>
  rw[aE (by decide)]
  simp -implicitDefEqProofs only[aY,aM,↓reduceIte,aA,seval,XG]
  refine(hb _).to ?_
  simp -implicitDefEqProofs only[↓reduceIte,aA,seval]
 | true=>
  rw[aH rfl]
  simp -implicitDefEqProofs only[aY,aM,↓reduceIte,aA,seval,XG]
  refine(c1 _).to ?_
  simp -implicitDefEqProofs only[↓reduceIte,hs1,hs2,aA,seval]
abbrev aR8:=zi tI_3 (zi zI_3 (zi aU (zi tI_4 (zi zI_4 (zi cI (zi tI_9 (zi zI_9 (zi cT (zi tI_52 (zi zI_52 (zi bU (zi bV (zi bX (zi bY bT))))))))))))))
theorem aXG{T:Tm→ByteArray}(t:Tm)(hT:zA T t)(lv:Nat)(hlv:lv≤10)(st:aB):aD prog 278 [t.av,.int .i64 (lv:Int)] st (fun r st'=>r=.str (DM T t lv)∧st'=st):=by
 have hb:=aAV t hT lv hlv
 have hbs:=RU (T:=T) (t:=t) lv
 obtain⟨c1,c2,c3,c4⟩:=hT
 have hm:maxLen=9223372036854775807:=by rfl
 unfold DM
 generalize vU T t lv=u at *
 have hs1:(⟨#[40]⟩:ByteArray).size+u.size≤maxLen:=by show 1+_≤_;omega
 have hs2:((⟨#[40]⟩:ByteArray)++u).size+(⟨#[41]⟩:ByteArray).size≤maxLen:=by rw[dP];show 1+_+1≤_;omega
 have hi:=aAX t
 have hpl:=aXD u (by omega)
 refine wF [1000000] 2 func278 ntmps278 rfl rfl ?_
 intro _
 simp -implicitDefEqProofs only[aY,aM,cP,↓reduceIte,aA,seval,aR8]
 refine(hb _).to ?_
 simp -implicitDefEqProofs only[aY,aM,↓reduceIte,aA,seval,aR8]
 refine(hi _).to ?_
 cases hk:GK t with
 | true=>
  rw[yR,aH rfl]
  simp -implicitDefEqProofs only[↓reduceIte,hs1,hs2,aA,seval]
 | false=>
  rw[sH]
  simp -implicitDefEqProofs only[↓reduceIte,aA,seval]
  refine(hpl _).to ?_
  cases hq:OJ (sb u) with
  | true=>
   rw[aE (by decide)]
   simp -implicitDefEqProofs only[↓reduceIte,aA,seval]
  | false=>
   rw[aH (by decide)]
   simp -implicitDefEqProofs only[↓reduceIte,hs1,hs2,aA,seval]
theorem Y3{st:aB}{b q:Nat}{l:List AV}{o:AO}(hb:l≠[]→st b=none)(h:st q=some o):aV st b l q=some o:=by
 cases l with
 | nil=>exact h
 | cons x l=>exact(aB.aG _ _ (by rintro rfl;have:=hb (by simp);rw[h] at this;cases this)).trans h
abbrev DV:=zi tI_9 (zi zI_9 (zi cT (zi tI_28 (zi zI_28 (zi aO (zi bF (zi bG (zi bZ (zi tI_52 (zi zI_52 (zi bU (zi bV (zi bX (zi bY bT))))))))))))))
set_option maxHeartbeats 1000000 in
theorem aXB{T:Tm→ByteArray}(n:Nat)(t:Tm)(hn:t.nodes≤n+1)(hws:Ws t)(TW:t.nodes≤1000)(hT:∀x,Ws x→x.nodes<t.nodes→zA T x)(hp:s9 t=true)(st:aB):aD prog 274 [t.av] st (fun r st'=>r=.str (JX T (spine n t))∧st'=st):=by
 obtain⟨q1,q2,q3⟩:=WP n t hws
 obtain⟨e1,e2⟩:=aQ3 n t hn
 have eG:=aQ2 n t
 have hnp:=sY (spine n t).2
 have hne:1≤(spine n t).1.length:=by
  cases n with
  | zero=>obtain⟨m,x,y,rfl⟩:=GB hp;simp only[Tm.iS,bH] at hn;have:=sY x;omega
  | succ m=>unfold spine;rw[aH hp];simp
 generalize spine n t=p at *
 obtain⟨its,tl⟩:=p
 simp only at q1 q2 q3 e1 e2 eG hnp hne
 have hTi:∀x∈its,zA T x:=fun x hx=>hT x (q1 x hx) (by have:=aPC hx;omega)
 have hTt:zA T tl:=hT tl q2 (by omega)
 have sS:=aAU its hTi (by omega) (by omega)
 have bAE:=L7 (T:=T) (l:=its) fun x hx=>(hTi x hx).2.1
 obtain⟨c1,c2,c3,c4⟩:=hTt
 have hm:maxLen=9223372036854775807:=by rfl
 have hs1:(⟨#[91]⟩:ByteArray).size+(mB T its).size≤maxLen:=by show 1+_≤_;omega
 have hs2:((⟨#[91]⟩:ByteArray)++mB T its).size+(⟨#[93]⟩:ByteArray).size≤maxLen:=by rw[dP];show 1+_+1≤_;omega
 have hs3:((⟨#[91]⟩:ByteArray)++mB T its).size+(⟨#[124]⟩:ByteArray).size≤maxLen:=by rw[dP];show 1+_+1≤_;omega
 have hs4:(((⟨#[91]⟩:ByteArray)++mB T its)++(⟨#[124]⟩:ByteArray)).size+(T tl).size≤maxLen:=by rw[dP,dP];show 1+_+1+_≤_;omega
 have hs5:((((⟨#[91]⟩:ByteArray)++mB T its)++(⟨#[124]⟩:ByteArray))++T tl).size+(⟨#[93]⟩:ByteArray).size≤maxLen:=by rw[dP,dP,dP];show 1+_+1+_+1≤_;omega
 refine aD.qM ?_
 refine wF [1000000,1] 1 func274 ntmps274 rfl rfl ?_
 intro _
 simp -implicitDefEqProofs only[cP,↓reduceIte,aA,seval,DV]
 intro b1 hb1
 have hD:=fun(o:AO)=>(aL.refl st).aC (o:=o) hb1
 refine vG (σ:=Unit) [1000000,1] [1,2] its 4 3 (fun i _=>(its.take i).map Tm.av) (fun _ _=>True) (fun i _=>[]) (fun i _=>st.aC b1 (.cells (yH i t).av.cells)) (fun i _ _ e he=>by simp only[cY] at he;obtain⟨x,_,rfl⟩:=he;exact⟨cP _,aM _⟩) (by decide +kernel) ⟨(),0,trivial,fun h=>absurd rfl h,aP.mk (by simp -implicitDefEqProofs only[jV,l7,aW,↓reduceIte,aA,seval])⟩ (fun i x s b hx hlt bR hdr hinv hb=>?_) (fun s b hge hinv=>?_)
 case refine_1=>
  obtain⟨g1,g2⟩:=eG i x hx
  have hst:=aQ1 i t
  generalize yH i t=u at *
  have hpu:=MI u
  rw[g1] at hpu
  obtain⟨m,y,z,rfl⟩:=GB g1
  rw[FT.1] at g2
  rw[FT.2] at hst
  subst g2
  have hcs:(Tm.mk 3 m ⟨#[46]⟩ [y,z]).av.cells= [.int .i64 3,.int .i64 m,.str ⟨#[46]⟩,.slice [y.av,z.av]]:=by rw[a8];try rfl
  rw[hcs] at hb ⊢
  have hlk:aV (st.aC b1 (.cells [.int .i64 3,.int .i64 m,.str ⟨#[46]⟩,.slice [y.av,z.av]])) b ((its.take i).map Tm.av) b1=some (.cells [.int .i64 3,.int .i64 m,.str ⟨#[46]⟩,.slice [y.av,z.av]]):=Y3 hb (aB.aJ _ _ _)
  have hi0:=bQ (av:=Tm.av) (l:=[y,z]) (i:=0) aO rfl (aM y)
  have hi1:=bQ (av:=Tm.av) (l:=[y,z]) (i:=1) aO rfl (aM z)
  rw[show((0:Nat):Int)=0 from rfl] at hi0
  rw[show((1:Nat):Int)=1 from rfl] at hi1
  have c8:((its.take i).map Tm.av).length=i:=by simp only[aF,eC];omega
  have htk:(its.take i).map Tm.av++ [y.av]=(its.take (i+1)).map Tm.av:=by rw[gC,hx];simp
  rw[hst]
  simp only[a8,bB,aW] at hlk hpu hi0 hi1 hb ⊢
  have hLw:∀e∈(its.take i).map Tm.av,e.width=4:=d9 _
  generalize (its.take i).map Tm.av=L at *
  simp -implicitDefEqProofs only[↓reduceIte,hlk,aA,seval,DV]
  refine(hpu _).to ?_
  simp -implicitDefEqProofs only[aY,aM,cP,↓reduceIte,hlk,hi0,aA,seval,DV]
  refine eE aO bF bG rfl rfl (fL (aM _) (cH _)) (fun e he=>hLw e he) hb (by simp only[c8,aT,aX];omega) (by simp only[c8,aT,aX];omega) (fun b' hb'=>?_)
  rw[htk] at hb' ⊢
  have a19:=Y3 (l:=(its.take (i+1)).map Tm.av) hb' (aB.aJ st b1 (.cells [.int .i64 3,.int .i64 m,.str ⟨#[46]⟩,.slice [y.av,z.av]]))
  have hnb:(its.take (i+1)).map Tm.av≠[]→b1≠b':=fun h=>by rintro rfl;have:=hb' h;rw[aB.aJ] at this;cases this
  have hup:=fun o=>lQ (st:=st.aC b1 (.cells [.int .i64 3,.int .i64 m,.str ⟨#[46]⟩,.slice [y.av,z.av]])) (o:=o) hnb
  simp -implicitDefEqProofs only[aK,aY,aM,cH,b9,↓reduceIte,a19,hi1,hup,cK,aA,seval,DV]
  exact⟨(),b',fun h=>by have:=hb' h;rw[aB.aG _ _ (dG (hnb h))] at this ⊢;exact this,aP.mk (by simp -implicitDefEqProofs only[↓reduceIte,aA,seval])⟩
 rw[fG,←e1]
 have hpt:=MI tl
 rw[e2] at hpt
 have hnt:=aWZ tl
 simp -implicitDefEqProofs only[kA,I6,mV,aW,b9,eW (b9 _),eU (aY _),↓reduceIte,aA,seval,DV]
 refine(hpt _).to ?_
 simp -implicitDefEqProofs only[b9,eW (b9 _),eU (aY _),↓reduceIte,aA,seval,DV]
 refine(hnt _).to ?_
 unfold JX
 cases hnk:OC tl with
 | true=>
  rw[aH rfl]
  simp -implicitDefEqProofs only[↓reduceIte,aA,seval]
  refine(sS _).to ?_
  simp -implicitDefEqProofs only[↓reduceIte,hs1,hs2,aA,seval]
  exact hD _
 | false=>
  rw[aE (by decide)]
  simp -implicitDefEqProofs only[↓reduceIte,aA,seval]
  refine wP [(0,1),(1,2),(2,1),(3,1),(4,2),(5,2),(6,1),(7,1),(8,1)] [0,1,2,3,4,5,6,7,8] mixed ?_
  simp -implicitDefEqProofs only[↓reduceIte,aA,seval]
  refine j6 (sS _) ?_
  simp -implicitDefEqProofs only[b9,eW (b9 _),eU (aY _),↓reduceIte,hs1,hs3,aA,seval,DV]
  refine j6 (c1 _) ?_
  simp -implicitDefEqProofs only[↓reduceIte,hs4,hs5,aA,seval]
  exact hD _
abbrev vA:=zi tI_3 (zi zI_3 (zi aU (zi tI_9 (zi zI_9 (zi cT (zi tI_28 (zi zI_28 (zi aO (zi bF (zi bG (zi bZ (zi tI_52 (zi zI_52 (zi bU (zi bV (zi bX (zi bY bT)))))))))))))))))
set_option maxHeartbeats 1000000 in
theorem aXI:∀(n:Nat) (t:Tm) (st:aB),Ws t→t.nodes≤n→t.nodes≤1000→aD prog 256 [t.av] st (fun r st'=>r=.str (tx n t)∧st'=st):=by
 intro n
 induction n with
 | zero=>intro t st _ h;have:=sY t;omega
 | succ n IH=>
 intro t st hws hn TW
 have hsz:=P2 (n+1) t hws
 have hT:∀x,Ws x→x.nodes<t.nodes→zA (tx n) x:=fun x hx hlt=>⟨fun st=>IH x st hx (by omega) (by omega),P2 n x hx,a8B hx (by have:=sY x;omega),by omega⟩
 have hpt:=MI t
 have hit:=aAW t
 have a18:=aXB (T:=tx n) n t hn hws TW hT
 have hm:maxLen=9223372036854775807:=by rfl
 unfold tx at hsz ⊢
 refine wF [1000000] 1 func256 ntmps256 rfl rfl ?_
 intro _
 simp -implicitDefEqProofs only[aY,aM,cP,↓reduceIte,aA,seval,vA]
 refine(hpt _).to ?_
 cases hp:s9 t with
 | true=>
  rw[aH rfl]
  simp -implicitDefEqProofs only[aY,aM,↓reduceIte,aA,seval,vA]
  refine(a18 hp _).to ?_
  simp -implicitDefEqProofs only[↓reduceIte,aA,seval]
 | false=>
  rw[hp] at hsz
  rw[aE (by decide)] at hsz ⊢
  simp -implicitDefEqProofs only[aY,aM,↓reduceIte,aA,seval,vA]
  refine(hit _).to ?_
  cases hi:xV t with
  | true=>
   rw[hi] at hsz
   rw[aH rfl] at hsz ⊢
   obtain⟨m,s,x,y,rfl,hs⟩:=VD hi
   have hk:=hws.own.2
   have hxl:x.nodes<(Tm.mk 3 m s [x,y]).nodes:=by simp only[Tm.iS,bH];have:=sY y;omega
   have hyl:y.nodes<(Tm.mk 3 m s [x,y]).nodes:=by simp only[Tm.iS,bH];have:=sY x;omega
   have hx:=hT x (hk x (by simp)) hxl
   have hy:=hT y (hk y (by simp)) hyl
   rw[FT.1,FT.2,show(Tm.mk 3 m s [x,y]).s=s from rfl] at hsz ⊢
   have h6:s.size≤6:=hws.size.1
   have hl3:dZ s≤3:=by unfold dZ;cases (decide (s=⟨#[61]⟩)||decide (s=⟨#[92,61]⟩)||decide (s=⟨#[61,61]⟩)||decide (s=⟨#[60]⟩)||decide (s=⟨#[62]⟩)||decide (s=⟨#[61,60]⟩)||decide (s=⟨#[62,61]⟩)||decide (s=⟨#[61,58,61]⟩)||decide (s=⟨#[105,115]⟩))<;>cases (decide (s=⟨#[43]⟩)||decide (s=⟨#[45]⟩))<;>cases (decide (s=⟨#[42]⟩)||decide (s=⟨#[47,47]⟩)||decide (s=⟨#[109,111,100]⟩))<;>decide
   have hll:lvl (dZ s)≤10:=by unfold lvl;split<;>omega
   have cl:=aXA x hx (lvl (dZ s)) hll
   have cr:=aXG y hy (dZ s - 1) (by omega)
   have csp:=aXH s (by omega)
   have clv:=w8 s
   rw[dP,dP] at hsz
   generalize hA:C8 (tx n) x (lvl (dZ s))=A at *
   generalize hB:DM (tx n) y (dZ s - 1)=B at *
   generalize tC s=C at *
   have hs1:A.size+C.size≤maxLen:=by omega
   have hs2:(A++C).size+B.size≤maxLen:=by rw[dP];omega
   have hi0:=bQ (av:=Tm.av) (l:=[x,y]) (i:=0) aO rfl (aM x)
   have hi1:=bQ (av:=Tm.av) (l:=[x,y]) (i:=1) aO rfl (aM y)
   rw[show((0:Nat):Int)=0 from rfl] at hi0
   rw[show((1:Nat):Int)=1 from rfl] at hi1
   simp only[a8,bB,aW] at hi0 hi1 ⊢
   generalize hL:dZ s=L at *
   obtain⟨L1,hL1⟩:∃L1,L1=L - 1:=⟨_,rfl⟩
   have hw:=pK (x:=(L:Int) - 1) (m:=L1) (by omega) (by omega)
   rw[←hL1] at cr
   by_cases h3:L=3
   case' pos=>
    have h3':((L:Int)=3)=True:=cM (by omega)
    have hlv:lvl L=2:=by unfold lvl;rw[aH h3]
   case' neg=>
    have h3':((L:Int)=3)=False:=cB (by omega)
    have hlv:lvl L=L:=by unfold lvl;rw[aE h3]
   all_goals
    rw[hlv] at cl
    simp -implicitDefEqProofs only[↓reduceIte,aA,seval,vA]
    refine(clv _).to ?_
    simp -implicitDefEqProofs only[↓reduceIte,h3',bE,bM,aA,seval]
    refine wP [(0,1),(4,1),(6,1),(10,1),(14,1),(15,1),(1,2),(2,1),(3,2),(5,2),(7,2),(8,2),(9,1),(11,2),(12,1),(13,2),(16,2),(17,1),(18,1)] [0,4,6,10,14,15,1,2,3,5,7,8,9,11,12,13,16,17,18] mixed ?_
    simp -implicitDefEqProofs only[aY,aM,↓reduceIte,hi0,hw,aA,seval,vA]
    refine j6 (cl _) ?_
    simp -implicitDefEqProofs only[↓reduceIte,aA,seval,vA]
    refine j6 (csp _) ?_
    simp -implicitDefEqProofs only[aY,aM,↓reduceIte,hi1,hs1,aA,seval,vA]
    refine j6 (cr _) ?_
    simp -implicitDefEqProofs only[↓reduceIte,hs2,aA,seval]
  | false=>
   rw[hi] at hsz
   rw[aE (by decide)] at hsz ⊢
   cases ha:RJ t with
   | true=>
    rw[ha] at hsz
    rw[aH rfl] at hsz ⊢
    obtain⟨k,m,s,ts⟩:=t
    rw[RH,cE,bK,bK] at ha
    obtain⟨rfl,h0⟩:=ha
    have h0':((0:Int)<(ts.length:Int))=True:=cM (by omega)
    simp only[Tm.s,Tm.ts] at hsz ⊢
    simp only[Tm.iS] at hn TW hT hsz
    have hk:=hws.own.2
    have h4:ts.length≤4:=by rcases J4 hws.own.1 with h | h | h<;>omega
    have sS:=aAU (T:=tx n) ts (fun x hx=>hT x (hk x hx) (by have:=aPC hx;omega)) (by omega) (by omega)
    rw[dP,dP,dP] at hsz
    generalize mB (tx n) ts=A at *
    have bAT:s.size+A.size≤100000:=by omega
    have hs1:s.size+(⟨#[40]⟩:ByteArray).size≤maxLen:=by show _+1≤_;omega
    have hs2:(s++(⟨#[40]⟩:ByteArray)).size+A.size≤maxLen:=by rw[dP];show _+1+_≤_;omega
    have hs3:((s++(⟨#[40]⟩:ByteArray))++A).size+(⟨#[41]⟩:ByteArray).size≤maxLen:=by rw[dP,dP];show _+1+_+1≤_;omega
    simp only[a8]
    simp -implicitDefEqProofs only[↓reduceIte,h0',aF,bE,aA,seval,vA]
    refine wP [(0,1),(3,1),(1,2),(2,1),(4,2),(5,2),(6,1),(7,1),(8,1)] [0,3,1,2,4,5,6,7,8] mixed ?_
    simp -implicitDefEqProofs only[↓reduceIte,hs1,aA,seval,vA]
    refine j6 (sS _) ?_
    simp -implicitDefEqProofs only[↓reduceIte,hs2,hs3,aA,seval]
   | false=>
    rw[aE (by decide)]
    have hl:=aW8 t hws (fun h=>by
     obtain⟨k,m,s,ts⟩:=t
     rw[RH,show k=3 from h] at ha
     simp only[bE,eP,dL] at ha
     exact List.length_eq_zero_iff.1 (by show ts.length=0;omega))
    generalize FU t=A at *
    obtain⟨k,m,s,ts⟩:=t
    rw[RH] at ha
    simp only[a8] at hl ⊢
    by_cases hk:k=3
    case pos=>
     rw[hk] at ha hl ⊢
     simp only[bE,eP,dL] at ha
     have h0':((0:Int)<(ts.length:Int))=False:=cB (by omega)
     simp -implicitDefEqProofs only[↓reduceIte,h0',aF,bE,bM,aA,seval,vA]
     refine(hl _).to ?_
     simp -implicitDefEqProofs only[↓reduceIte,aA,seval]
    case neg=>
     have hk':=cB hk
     simp -implicitDefEqProofs only[↓reduceIte,hk',bM,aA,seval,vA]
     refine(hl _).to ?_
     simp -implicitDefEqProofs only[↓reduceIte,aA,seval]
end Go.AW
