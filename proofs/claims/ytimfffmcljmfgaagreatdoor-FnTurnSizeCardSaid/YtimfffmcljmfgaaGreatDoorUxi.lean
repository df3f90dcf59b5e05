import Derived.Test.YtimfffmcljmfgaaGreatDoorUxf
import Derived.Test.YtimfffmcljmfgaaGreatDoorUxh
set_option linter.unusedSimpArgs false
set_option linter.unusedVariables false
set_option maxRecDepth 100000
namespace Go.AW
open Go.Proofs.Tryz
theorem CJ(n lo hi:Int)(st:aA):aD prog 170 [.int .i64 n,.int .i64 lo,.int .i64 hi] st (fun r st'=>r=.bool (decide (lo≤n)&&decide (n≤hi))∧st'=st):=by
 refine wF [] 3 func170 ntmps170 rfl rfl ?_
 intro _
 repeat' (first
  | (simp -implicitDefEqProofs only[*,aB,seval])
  | (refine cX (fun h=>?_) (fun h=>?_))
  | (refine aP (fun h=>?_) (fun h=>?_)))
 all_goals simp_all
theorem aXR(s:ByteArray)(st:aA):aD prog 250 [.str s] st (fun r st'=>r=.tup [.int .i64 (dW s),.bool (dW s == 1||dW s == 2)]∧st'=st):=by
 refine wF [] 1 func250 ntmps250 rfl rfl ?_
 intro _
 repeat' (first
  | (simp -implicitDefEqProofs only[*,aB,seval])
  | (refine cX (fun h=>?_) (fun h=>?_))
  | (refine aP (fun h=>?_) (fun h=>?_)))
 all_goals (simp only[dW, *,xG,zO,Bool.or_self,cond_true,CM];first | done | rfl)
theorem x6(s:ByteArray)(st:aA):aD prog 197 [.str s] st (fun r st'=>r=.int .i64 (dW s)∧st'=st):=by
 refine wF [] 1 func197 ntmps197 rfl rfl ?_
 intro _
 repeat' (first
  | (simp -implicitDefEqProofs only[*,aB,seval])
  | (refine cX (fun h=>?_) (fun h=>?_))
  | (refine aP (fun h=>?_) (fun h=>?_)))
 all_goals (simp only[dW, *,xG,zO,Bool.or_self,cond_true,CM];first | done | rfl)
theorem aYD(s:ByteArray)(n:Int)(st:aA):aD prog 149 [.str s,.int .i64 n] st (fun r st'=>r=.bool (isBuiltin s n)∧st'=st):=by
 refine wF [] 2 func149 ntmps149 rfl rfl ?_
 intro _
 repeat' (first
  | (simp -implicitDefEqProofs only[*,aB,seval])
  | (refine cX (fun h=>?_) (fun h=>?_))
  | (refine aP (fun h=>?_) (fun h=>?_)))
 all_goals (simp only[isBuiltin, *,xG,zO,Bool.or_self,cond_true,CM];first | done | rfl)
theorem SR(s:ByteArray)(n:Int)(st:aA):aD prog 196 [.str s,.int .i64 n] st (fun r st'=>r=.bool (isBuiltin s n)∧st'=st):=by
 refine wF [] 2 func196 ntmps196 rfl rfl ?_
 intro _
 repeat' (first
  | (simp -implicitDefEqProofs only[*,aB,seval])
  | (refine cX (fun h=>?_) (fun h=>?_))
  | (refine aP (fun h=>?_) (fun h=>?_)))
 all_goals (simp only[isBuiltin, *,xG,zO,Bool.or_self,cond_true,CM];first | done | rfl)
abbrev aS5:=zi tI_3 (zi zI_3 (zi aY (zi tI_4 (zi zI_4 (zi cJ (zi tI_5 (zi zI_5 (zi m6 (zi tI_9 (zi zI_9 cV))))))))))
theorem aBR(s:ByteArray)(st:aA):aD prog 195 [.str s] st (fun r st'=>r=.bool (vB s)∧st'=st):=by
 refine wF [] 1 func195 ntmps195 rfl rfl ?_
 simp only[eW,AV.fits,fC]
 intro hs
 simp -implicitDefEqProofs only[aB,seval]
 refine zN (α:=Nat) [] (fun i=>i≤s.size∧∀(j:Nat) c,j<i→(sb s)[j]?=some c→letter c=true)
  (fun i=>[(0,.str s),(3,.int .i64 i)]) (fun _=>st) (fun i=>s.size - i) (by decide +kernel)
  ⟨0,⟨by omega,by intro j x h;omega⟩,aM.mk (by simp -implicitDefEqProofs only[aB,↓aU,seval])⟩ ?_
 intro i ⟨hi,d7⟩
 simp -implicitDefEqProofs only[aB,seval,aS5]
 refine⟨fun h5=>?_,fun h5=>?_⟩
 case refine_2=>
  simp only[dJ,oE] at h5
  have ha:(sb s).all letter=true:=MC fun j c hc=>d7 j c (by have:=(fL.1 hc).1;rw[cQ] at this;omega) hc
  repeat' (first
   | (simp -implicitDefEqProofs only[*,aB,seval,aS5])
   | (refine cX (fun h=>?_) (fun h=>?_))
   | (refine aP (fun h=>?_) (fun h=>?_)))
  all_goals simp only[vB,ha,eU,AV.bool.injEq]
  all_goals simp only[*,kP,eU,iA]
 simp only[bK,oE] at h5
 obtain⟨c,hc⟩:∃c,(sb s)[i]?=some c:=⟨_,eA (by rw[cQ];exact h5)⟩
 have hx:=u9 (P:=prog) (t:=9) cV hc
 simp -implicitDefEqProofs only[hx,aB,seval]
 refine cX (fun h6=>?_) (fun h6=>?_)
 case refine_2=>
  simp -implicitDefEqProofs only[h6,aB,seval]
  simp only[o7,bK] at h6
  simp only[vB,xT hc (show letter c=false by simp [letter];omega),iA]
 simp -implicitDefEqProofs only[h6,hx,aB,seval]
 refine⟨fun h7=>?_,fun h7=>?_⟩
 · simp -implicitDefEqProofs only[aB,seval]
   simp only[bK] at h7
   simp only[vB,xT hc (show letter c=false by simp [letter];omega),iA]
 simp only[dJ] at h6 h7
 simp -implicitDefEqProofs only[aB,seval]
 refine⟨i+1,by omega,⟨by omega,fun j u hj hu=>?_⟩,aM.mk ?_⟩
 · rcases mL j i with h8 | h8
   · exact d7 j u h8 hu
   · obtain rfl:j=i:=by omega
     rw[hc] at hu;cases hu
     simp [letter];omega
 · have:=bE (n:=(i:Int)+1)
   simp -implicitDefEqProofs only[this,aB,seval]
abbrev aS6:=zi tI_3 (zi zI_3 (zi aY (zi tI_4 (zi zI_4 (zi cJ (zi tI_5 (zi zI_5 (zi m6 (zi tI_6 (zi zI_6 (zi uU6 (zi tI_9 (zi zI_9 cV)))))))))))))
theorem aBF(s:ByteArray)(st:aA):aD prog 201 [.str s] st (fun r st'=>r=.bool (vB s)∧st'=st):=by
 refine wF [] 1 func201 ntmps201 rfl rfl ?_
 simp only[eW,AV.fits,fC]
 intro hs
 simp -implicitDefEqProofs only[aB,seval,aS6]
 refine zN (α:=Nat) [] (fun i=>i≤s.size∧∀(j:Nat) c,j<i→(sb s)[j]?=some c→letter c=true)
  (fun i=>[(0,.str s),(5,.int .i64 s.size),(6,.int .i64 i)]) (fun _=>st) (fun i=>s.size - i) (by decide +kernel)
  ⟨0,⟨by omega,by intro j x h;omega⟩,aM.mk (by simp -implicitDefEqProofs only[aB,↓aU,seval])⟩ ?_
 intro i ⟨hi,d7⟩
 simp -implicitDefEqProofs only[aB,seval]
 refine⟨fun h5=>?_,fun h5=>?_⟩
 case refine_2=>
  simp only[dJ,oE] at h5
  have ha:(sb s).all letter=true:=MC fun j c hc=>d7 j c (by have:=(fL.1 hc).1;rw[cQ] at this;omega) hc
  simp -implicitDefEqProofs only[aB,seval,aS6]
  refine(CJ _ _ _ st).to ?_
  simp -implicitDefEqProofs only[aB,seval]
  simp only[vB,ha,eU]
 simp only[bK,oE] at h5
 obtain⟨c,hc⟩:∃c,(sb s)[i]?=some c:=⟨_,eA (by rw[cQ];exact h5)⟩
 have hx:=u9 (P:=prog) (t:=9) cV hc
 simp -implicitDefEqProofs only[hx,aB,seval]
 refine cX (fun h6=>?_) (fun h6=>?_)
 case refine_2=>
  simp -implicitDefEqProofs only[h6,aB,seval]
  simp only[o7,bK] at h6
  simp only[vB,xT hc (show letter c=false by simp [letter];omega),iA]
 simp -implicitDefEqProofs only[h6,hx,aB,seval]
 refine⟨fun h7=>?_,fun h7=>?_⟩
 · simp -implicitDefEqProofs only[aB,seval]
   simp only[bK] at h7
   simp only[vB,xT hc (show letter c=false by simp [letter];omega),iA]
 simp only[dJ] at h6 h7
 simp -implicitDefEqProofs only[aB,seval]
 refine⟨i+1,by omega,⟨by omega,fun j u hj hu=>?_⟩,aM.mk ?_⟩
 · rcases mL j i with h8 | h8
   · exact d7 j u h8 hu
   · obtain rfl:j=i:=by omega
     rw[hc] at hu;cases hu
     simp [letter];omega
 · have:=bE (n:=(i:Int)+1)
   simp -implicitDefEqProofs only[this,aB,seval]
theorem aYI(s:ByteArray)(st:aA):aD prog 202 [.str s] st (fun r st'=>r=.bool (decide ((0:Int)<(dW s:Int)))∧st'=st):=by
 refine wF [] 1 func202 ntmps202 rfl rfl ?_
 intro _
 simp -implicitDefEqProofs only[aB,seval]
 refine(aXR s st).to ?_
 simp -implicitDefEqProofs only[aB,seval]
abbrev a92:=zi tI_3 (zi zI_3 (zi aY (zi tI_4 (zi zI_4 (zi cJ (zi tI_31 (zi zI_31 (zi aQ (zi bS (zi bT (zi cI (zi tI_66 (zi zI_66 (zi bZ (zi b9 (zi cA (zi cB bY)))))))))))))))))
theorem IP(k n:Int)(s:ByteArray)(ts:List Tm)(st:aA):aD prog 203 [(Tm.mk k n s ts).av] st (fun r st'=>r=.bool (decide (k=3)&&decide ((ts.length:Int)=0))∧st'=st):=by
 refine wF [] 1 func203 ntmps203 rfl rfl ?_
 intro _
 simp only[bA]
 repeat' (first
  | (simp -implicitDefEqProofs only[*,aB,seval,a92])
  | (refine cX (fun h=>?_) (fun h=>?_))
  | (refine aP (fun h=>?_) (fun h=>?_)))
 all_goals simp_all
def jY:List ByteArray:=[⟨#[43]⟩,⟨#[45]⟩,⟨#[42]⟩,⟨#[47,47]⟩,⟨#[61]⟩,⟨#[92,61]⟩,⟨#[61,61]⟩,⟨#[60]⟩,⟨#[62]⟩,⟨#[61,60]⟩,⟨#[62,61]⟩,⟨#[61,58,61]⟩,⟨#[46]⟩,⟨#[91,93]⟩,⟨#[33]⟩]
abbrev a93:=zi tI_147 (zi zI_147 (zi lT (zi qP (zi qR sN))))
theorem a0I(st:aA):aD prog 320 [] st (fun r st'=>r=.fslice (jY.map .str)∧st'=st):=by
 refine wF [] 0 func320 ntmps320 rfl rfl ?_
 intro _
 simp -implicitDefEqProofs only[jY,aB,seval,a93]
abbrev a94:=zi tI_147 (zi zI_147 (zi lT (zi qP (zi qR sN))))
theorem aBP(st:aA):aD prog 367 [] st (fun r st'=>r=.fslice (jY.map .str)∧st'=st):=by
 refine wF [] 0 func367 ntmps367 rfl rfl ?_
 intro _
 simp -implicitDefEqProofs only[jY,aB,seval,a94]
abbrev aS8:=zi tI_3 (zi zI_3 (zi aY (zi tI_4 (zi zI_4 (zi cJ (zi tI_9 (zi zI_9 (zi cV (zi tI_147 (zi zI_147 (zi lT (zi qP (zi qR sN)))))))))))))
theorem aYX(l:List ByteArray)(s:ByteArray)(st:aA):aD prog 366 [.slice (l.map .str),.str s] st (fun r st'=>r=.bool (l.any fun x=>decide (x=s))∧st'=st):=by
 refine wF [] 2 func366 ntmps366 rfl rfl ?_
 simp only[eW,AV.fits,fC,aF]
 intro ⟨⟨hl,_⟩,_⟩
 simp -implicitDefEqProofs only[aB,seval]
 refine zN (α:=Nat) [] (fun i=>i≤l.length∧∀(j:Nat) x,j<i→l[j]?=some x→decide (x=s)=false)
  (fun i=>[(0,.slice (l.map .str)),(1,.str s),(5,.int .i64 i)]) (fun _=>st) (fun i=>l.length - i) (by decide +kernel)
  ⟨0,⟨by omega,by intro j x h;omega⟩,aM.mk (by simp -implicitDefEqProofs only[aB,↓aU,seval])⟩ ?_
 intro i ⟨hi,d7⟩
 simp -implicitDefEqProofs only[aF,aB,seval,aS8]
 refine⟨fun h5=>?_,fun h5=>?_⟩
 case refine_2=>
  simp -implicitDefEqProofs only[aB,seval]
  simp only[dJ,oE] at h5
  have:(l.any fun x=>decide (x=s))=false:=by
   rw[List.any_eq_false]
   intro x hx
   obtain⟨j,hj⟩:=B4 hx
   simp [d7 j x (by have:=(fL.1 hj).1;omega) hj]
  rw[this]
 simp only[bK,oE] at h5
 obtain⟨x,hx⟩:∃x,l[i]?=some x:=⟨_,eA h5⟩
 simp -implicitDefEqProofs only[bP (av:=AV.str) lT hx rfl,aB,seval,aS8]
 refine⟨fun h6=>?_,fun h6=>?_⟩
 · simp -implicitDefEqProofs only[aB,seval]
   have:(l.any fun x=>decide (x=s))=true:=by
    rw[B1]
    exact⟨x,cM hx,h6⟩
   rw[this]
 simp -implicitDefEqProofs only[aB,seval]
 refine⟨i+1,by omega,⟨by omega,fun j u hj hu=>?_⟩,aM.mk ?_⟩
 · rcases mL j i with h8 | h8
   · exact d7 j u h8 hu
   · obtain rfl:j=i:=by omega
     rw[hx] at hu;cases hu
     exact h6
 · have:=bE (n:=(i:Int)+1)
   simp -implicitDefEqProofs only[this,aB,seval]
abbrev aS7:=zi tI_3 (zi zI_3 (zi aY (zi tI_9 (zi zI_9 (zi cV (zi tI_147 (zi zI_147 (zi lT (zi qP (zi qR sN))))))))))
theorem aXP(l:List ByteArray)(s:ByteArray)(st:aA):aD prog 217 [.slice (l.map .str),.str s] st (fun r st'=>(∃k:Int,r=.int .i64 k∧decide (0≤k)=l.any fun x=>decide (s=x))∧st'=st):=by
 refine wF [] 2 func217 ntmps217 rfl rfl ?_
 simp only[eW,AV.fits,fC,aF]
 intro ⟨⟨hl,_⟩,_⟩
 simp -implicitDefEqProofs only[aF,aB,seval,aS7]
 refine zN (α:=Nat) [] (fun i=>i≤l.length∧∀(j:Nat) x,j<i→l[j]?=some x→decide (s=x)=false)
  (fun i=>[(0,.slice (l.map .str)),(1,.str s),(7,.int .i64 l.length),(8,.int .i64 i)]) (fun _=>st) (fun i=>l.length - i) (by decide +kernel)
  ⟨0,⟨by omega,by intro j x h;omega⟩,aM.mk (by simp -implicitDefEqProofs only[aB,↓aU,seval])⟩ ?_
 intro i ⟨hi,d7⟩
 simp -implicitDefEqProofs only[aB,seval]
 refine⟨fun h5=>?_,fun h5=>?_⟩
 case refine_2=>
  simp -implicitDefEqProofs only[aB,seval]
  simp only[dJ,oE] at h5
  have:(l.any fun x=>decide (s=x))=false:=by
   rw[List.any_eq_false]
   intro x hx
   obtain⟨j,hj⟩:=B4 hx
   simp [d7 j x (by have:=(fL.1 hj).1;omega) hj]
  rw[this]
  exact⟨_,rfl,rfl⟩
 simp only[bK,oE] at h5
 obtain⟨x,hx⟩:∃x,l[i]?=some x:=⟨_,eA h5⟩
 simp -implicitDefEqProofs only[bP (av:=AV.str) lT hx rfl,aB,seval,aS7]
 refine⟨fun h6=>?_,fun h6=>?_⟩
 · simp -implicitDefEqProofs only[aB,seval]
   have:(l.any fun x=>decide (s=x))=true:=by
    rw[B1]
    exact⟨x,cM hx,h6⟩
   rw[this]
   exact⟨_,rfl,by simp⟩
 simp -implicitDefEqProofs only[aB,seval]
 refine⟨i+1,by omega,⟨by omega,fun j u hj hu=>?_⟩,aM.mk ?_⟩
 · rcases mL j i with h8 | h8
   · exact d7 j u h8 hu
   · obtain rfl:j=i:=by omega
     rw[hx] at hu;cases hu
     exact h6
 · have:=bE (n:=(i:Int)+1)
   simp -implicitDefEqProofs only[this,aB,seval]
theorem aXH(l:List ByteArray)(s:ByteArray)(st:aA):aD prog 145 [.slice (l.map .str),.str s] st (fun r st'=>r=.bool (l.any fun x=>decide (s=x))∧st'=st):=by
 refine wF [] 2 func145 ntmps145 rfl rfl ?_
 intro _
 simp -implicitDefEqProofs only[aB,seval]
 refine(aXP l s st).mono ?_
 rintro _ _ ⟨⟨k,rfl,hk⟩,rfl⟩
 simp -implicitDefEqProofs only[aB,seval]
 rw[←hk]
theorem SB(l:List ByteArray)(s:ByteArray)(st:aA):aD prog 145 [.fslice (l.map .str),.str s] st (fun r st'=>r=.bool (l.any fun x=>decide (s=x))∧st'=st):=
 aD.rH (by simp only[iS,AV.soft];exact aXH l s st)
theorem aYY(l:List ByteArray)(s:ByteArray)(st:aA):aD prog 366 [.fslice (l.map .str),.str s] st (fun r st'=>r=.bool (l.any fun x=>decide (x=s))∧st'=st):=
 aD.rH (by simp only[iS,AV.soft];exact aYX l s st)
def A8(s:ByteArray):Bool:=vB s||jY.any fun x=>decide (s=x)
theorem aWC(s:ByteArray):(jY.any fun x=>decide (x=s))=jY.any fun x=>decide (s=x):=by
 congr 1
 funext x
 exact CO.2 ⟨Eq.symm,Eq.symm⟩
theorem aYE(s:ByteArray)(st:aA):aD prog 260 [.str s] st (fun r st'=>r=.bool (A8 s)∧st'=st):=by
 refine wF [] 1 func260 ntmps260 rfl rfl ?_
 intro _
 repeat' (first
  | (simp -implicitDefEqProofs only[*,aB,seval])
  | (refine cX (fun h=>?_) (fun h=>?_))
  | (refine(aBF s st).to ?_) | (refine(a0I st).to ?_) | (refine(SB jY s st).to ?_)
  | (refine aP (fun h=>?_) (fun h=>?_)))
 all_goals simp only[A8, *,o7,zO,qD]
theorem a0E(s:ByteArray)(st:aA):aD prog 321 [.str s] st (fun r st'=>r=.bool (A8 s)∧st'=st):=by
 refine wF [] 1 func321 ntmps321 rfl rfl ?_
 intro _
 repeat' (first
  | (simp -implicitDefEqProofs only[*,aB,seval])
  | (refine cX (fun h=>?_) (fun h=>?_))
  | (refine(aBR s st).to ?_) | (refine(aBP st).to ?_) | (refine(aYY jY s st).to ?_)
  | (refine aP (fun h=>?_) (fun h=>?_)))
 all_goals simp only[A8,aWC, *,o7,zO,qD]
end Go.AW
namespace Go.AW
def eO(k n:Int)(s:ByteArray)(len:Int):Bool:=
 cond (decide (k=1)) (decide ((0:Int)≤n)&&decide (n≤25)&&decide (s=⟨#[]⟩)&&decide (len=0))
  (cond (decide (k=2)) (decide ((-999:Int)≤n)&&decide (n≤999)&&decide (s=⟨#[]⟩)&&decide (len=0))
   (cond (decide (k=3)) (decide (n=0)&&A8 s&&decide (len≤4)) false))
mutual
def Tm.shape:Tm→Int→Bool
 | .mk k n s ts,d=>decide (1≤d)&&eO k n s ts.length&&P7 ts (d - 1)
def P7:List Tm→Int→Bool
 | [],_=>true
 | t::ts,d=>t.shape d&&P7 ts d
end
theorem aUD:∀(ts:List Tm) (d:Int),P7 ts d=ts.all fun t=>t.shape d
 | [],_=>rfl
 | t::ts,d=>by simp only[P7,kJ,aUD ts d]
theorem Tm.G0(k n:Int)(s:ByteArray)(ts:List Tm)(d:Int):(Tm.mk k n s ts).shape d=(decide (1≤d)&&eO k n s ts.length&&ts.all fun t=>t.shape (d - 1)):=by simp only[Tm.shape,aUD]
mutual
def Tm.nodes:Tm→Nat
 | .mk _ _ _ ts=>1+P2 ts
def P2:List Tm→Nat
 | []=>0
 | t::ts=>t.nodes+P2 ts
end
theorem aT9:∀(ts:List Tm),P2 ts=bD Tm.nodes ts
 | []=>rfl
 | t::ts=>by simp only[P2,bD,aT9 ts]
theorem Tm.iD(k n:Int)(s:ByteArray)(ts:List Tm):(Tm.mk k n s ts).nodes=1+bD Tm.nodes ts:=by simp only[Tm.nodes,aT9]
def Tm.valid(t:Tm):Bool:=t.shape 30&&decide (t.nodes≤120)
mutual
def Tm.vars:Tm→List Int→List Int
 | .mk k n _ ts,l=>cG ts (if k=1∧n∉l then l++ [n] else l)
def cG:List Tm→List Int→List Int
 | [],l=>l
 | t::ts,l=>cG ts (t.vars l)
end
mutual
theorem Tm.HL:∀(t:Tm) (l:List Int),(t.vars l).length≤l.length+t.nodes
 | .mk k n s ts,l=>by
  have h:=BP ts (if k=1∧n∉l then l++ [n] else l)
  have h2:(if k=1∧n∉l then l++ [n] else l).length≤l.length+1:=by split<;>simp
  rw[Tm.vars,Tm.iD]
  omega
theorem BP:∀(ts:List Tm) (l:List Int),(cG ts l).length≤l.length+bD Tm.nodes ts
 | [],l=>by simp [cG,bD]
 | t::ts,l=>by
  have h1:=Tm.HL t l
  have h2:=BP ts (t.vars l)
  simp only[cG,bD]
  omega
end
def fE(v:Int):List Int→Int→Int
 | [],_=> -1
 | x::xs,i=>if v=x then i else fE v xs (i+1)
theorem aP8(v:Int):∀(l:List Int) (i:Int),0≤i→(0≤fE v l i↔v∈l)
 | [],i,h=>by simp [fE]
 | x::xs,i,h=>by
  simp only[fE,c7]
  split
  · rename_i e;simp [e,h]
  · rename_i e;rw[aP8 v xs (i+1) (by omega)];simp [e]
theorem mP{st:aA}{b x:Nat}{l:List AV}{o:AO}(h:l≠[]→x≠b):(aZ st b l).aC x o=aZ (st.aC x o) b l:=by
 cases l with
 | nil=>rfl
 | cons y l=>exact aA.m7 _ _ _ (dH (h (by simp)))
theorem MB{st:aA}{b x:Nat}{l:List AV}{o:AO}(hx:st x=none)(h:l≠[]→(st.aC x o) b=none):aL (aZ (st.aC x o) b l) (aZ st b l)∧(l≠[]→st b=none):=by
 cases l with
 | nil=>exact⟨(aL.refl _).aC hx,fun h=>absurd rfl h⟩
 | cons y l=>
  have hb:=h (by simp)
  have hne:b≠x:=by rintro rfl;rw[aA.aJ] at hb;cases hb
  rw[aA.aG _ _ hne] at hb
  refine⟨?_,fun _=>hb⟩
  simp only[aZ]
  rw[aA.m7 _ _ _ (dH hne)]
  exact(aL.refl _).aC (by rw[aA.aG _ _ (dH hne)];exact hx)
theorem Z4{P:Program}{t:TypeId}{ag:Bool}{w b i:Nat}{l:List AV}{x:AV}(hI:eI P t=some (ag,w))(h:l[i]?=some x):dG P t (bU w b l) (.int .i64 (i:Int))=some (.ptr b (i*w)):=by
 have hi:=(fL.1 h).1
 rw[qK (by rintro rfl;simp at hi)]
 exact qV hI hi
theorem Z5{st:aA}{b i:Nat}{l:List Int}{x:Int}(h:l[i]?=some x):aZ st b (l.map iv) b=some (.cells (l.map iv))∧(l.map iv)[i]?=some (iv x):=by
 have hi:=(fL.1 h).1
 have hne:l.map iv≠[]:=by rintro e;rw[List.map_eq_nil_iff] at e;subst e;simp at hi
 have hfl:(l.map iv).flatMap AV.cells=l.map iv:=by
  clear h hi hne
  induction l with
  | nil=>rfl
  | cons y l ih=>simp only[bH,rN,ih];rfl
 exact⟨by rw[jU hne,hfl,aA.aJ],by rw[lY,h];try rfl⟩
mutual
def Tm.wf:Tm→Bool
 | .mk k _ _ ts=>(!decide (k=1)||ts.isEmpty)&&P9 ts
def P9:List Tm→Bool
 | []=>true
 | t::ts=>t.wf&&P9 ts
end
theorem X9:∀(ts:List Tm),P9 ts=ts.all Tm.wf
 | []=>rfl
 | t::ts=>by simp only[P9,kJ,X9 ts]
theorem Tm.YL{k n:Int}{s:ByteArray}{ts:List Tm}(h:(Tm.mk k n s ts).wf=true):(k=1→ts= [])∧∀x∈ts,x.wf=true:=by
 simp only[Tm.wf,X9,cF,pP,mG,dJ,List.isEmpty_iff,eH] at h
 exact⟨fun hk=>h.1.resolve_left (fun hn=>hn hk),h.2⟩
theorem Tm.LM{t:Tm}(h:t.valid=true):t.nodes≤120:=by simp only[Tm.valid,cF,bK] at h;exact h.2
def mC(S:aA)(c b:Nat)(hd:List AV)(l:List AV):aA:=aZ (S.aC c (.cells (hd++ [bU 4 b l]))) b l
theorem nL{S:aA}{c b:Nat}{hd l:List AV}(hb:l≠[]→(S.aC c (.cells (hd++ [bU 4 b l]))) b=none):mC S c b hd l c=some (.cells (hd++ [bU 4 b l])):=by
 unfold mC
 cases l with
 | nil=>simp only[aZ,aA.aJ]
 | cons y l=>
  have h:=hb (by simp)
  have hne:c≠b:=fun e=>by rw[←e,aA.aJ] at h;cases h
  rw[oG hne,aA.aJ]
theorem yV{S:aA}{c b b':Nat}{hd l l':List AV}(hb:l'≠[]→(S.aC c (.cells (hd++ [bU 4 b l]))) b'=none) :
 (aZ (S.aC c (.cells (hd++ [bU 4 b l]))) b' l').aC c (.cells (hd++ [bU 4 b' l']))=mC S c b' hd l'∧(l'≠[]→(S.aC c (.cells (hd++ [bU 4 b' l']))) b'=none)∧aZ (S.aC c (.cells (hd++ [bU 4 b l]))) b' l' c=some (.cells (hd++ [bU 4 b l])):=by
 have hne:l'≠[]→c≠b':=fun h e=>by have:=hb h;rw[←e,aA.aJ] at this;cases this
 refine⟨?_,fun h=>?_,?_⟩
 · rw[mP hne,dS];try rfl
 · have:=hb h
   rw[aA.aG _ _ (dH (hne h))] at this ⊢
   exact this
 · cases l' with
   | nil=>simp only[aZ,aA.aJ]
   | cons y l=>rw[oG (hne (by simp)),aA.aJ]
theorem pH{S:aA}{c b x:Nat}{hd l:List AV}(hb:l≠[]→(S.aC c (.cells (hd++ [bU 4 b l]))) b=none)(hx:S x≠none)(hxc:x≠c):mC S c b hd l x=S x:=by
 unfold mC
 cases l with
 | nil=>simp only[aZ,aA.aG _ _ hxc]
 | cons y l=>
  have h:=hb (by simp)
  have hne:x≠b:=fun e=>by
   rw[←e,aA.aG _ _ hxc] at h
   exact hx h
  rw[oG hne,aA.aG _ _ hxc]
theorem wV{S:aA}{c b x:Nat}{hd l:List AV}{o:AO}(hb:l≠[]→(S.aC c (.cells (hd++ [bU 4 b l]))) b=none)(hx:S x≠none)(hxc:x≠c):(mC S c b hd l).aC x o=aZ ((S.aC c (.cells (hd++ [bU 4 b l]))).aC x o) b l∧(l≠[]→((S.aC c (.cells (hd++ [bU 4 b l]))).aC x o) b=none):=by
 have hne:l≠[]→x≠b:=fun h e=>by
  have:=hb h
  rw[←e,aA.aG _ _ hxc] at this
  exact hx this
 refine⟨by unfold mC;rw[mP hne],fun h=>by rw[aA.aG _ _ (dH (hne h))];exact hb h⟩
theorem aQC{S:aA}{c b x:Nat}{hd l:List AV}{o:AO}(hb:l≠[]→(S.aC c (.cells (hd++ [bU 4 b l]))) b=none)(hx:S x≠none)(hxc:x≠c) :
 (mC S c b hd l).aC x o=mC (S.aC x o) c b hd l∧(l≠[]→((S.aC x o).aC c (.cells (hd++ [bU 4 b l]))) b=none):=by
 have hne:l≠[]→x≠b:=fun h e=>by
  have:=hb h
  rw[←e,aA.aG _ _ hxc] at this
  exact hx this
 refine⟨by unfold mC;rw[mP hne,aA.m7 _ _ _ (dH hxc)],fun h=>?_⟩
 have:=hb h
 rw[aA.m7 _ _ _ hxc,aA.aG _ _ (dH (hne h))]
 exact this
theorem a57{S T:aA}{c b:Nat}{hd l:List AV}(D:aL (S.aC c (.cells (hd++ [bU 4 b l]))) T)(hb:l≠[]→(S.aC c (.cells (hd++ [bU 4 b l]))) b=none):aL (mC S c b hd l) T:=
 D.aZ fun h=>(D b).1 (hb h)
theorem aA.BR{st:aA}{b c:Nat}{a z a':AO}(h:b≠c):((st.aC c a).aC b z).aC c a'=(st.aC b z).aC c a':=by rw[aA.m7 _ _ _ (dH h),dS]
theorem gZ(l:List Tm):∀e∈l.map Tm.av,e.width=4:=by intro e h;simp only[cH] at h;obtain⟨t,_,rfl⟩:=h;exact aO t
theorem pM(l:List Tm):∀e∈l.map Tm.av,e.cE=false:=by intro e h;simp only[cH] at h;obtain⟨t,_,rfl⟩:=h;exact cU t
end Go.AW
namespace Go.AW
open Go.Proofs.Tryz
mutual
def Tm.small:Tm→Bool
 | .mk _ _ _ ts=>decide (ts.length≤1048576)&&LD ts
def LD:List Tm→Bool
 | []=>true
 | t::ts=>t.small&&LD ts
end
theorem LE:∀(ts:List Tm),LD ts=ts.all Tm.small
 | []=>rfl
 | t::ts=>by simp only[LD,kJ,LE ts]
theorem Tm.rG{k n:Int}{s:ByteArray}{ts:List Tm}(h:(Tm.mk k n s ts).small=true):ts.length≤1048576∧∀x∈ts,x.small=true:=by
 simpa [Tm.small,LE] using h
abbrev PQ:=zi tI_3 (zi zI_3 (zi aY (zi tI_31 (zi zI_31 (zi aQ (zi bS (zi bT (zi cI (zi tI_66 (zi zI_66 (zi bZ (zi b9 (zi cA (zi cB bY))))))))))))))
theorem OL(l:List Tm)(st:aA)(hb:l.length≤1048576)(hc:∀x∈l,∀(st:aA),aD prog 111 [Tm.av x] st (Made st (Tm.av x))) :
 aD prog 130 [.slice (l.map Tm.av)] st (Made st (.slice (l.map Tm.av))):=by
 have hws:∀e∈l.map Tm.av,e.width=4:=fun e he=>by simp only[cH] at he;obtain⟨t,_,rfl⟩:=he;exact aO t
 refine wF [] 1 func130 ntmps130 rfl rfl ?_
 intro _
 simp -implicitDefEqProofs only[aF,aB,seval,PQ]
 refine d8 (σ:=List AV×List Nat×Nat×aA) [] [2,6,7] l (fun i p=>tZ (l.map Tm.av) st i p.1 p.2.1 p.2.2.1 p.2.2.2) (fun i p=>[(3,bU 4 p.2.2.1 p.1),(8,.int .i64 i)]) (fun _ p=>p.2.2.2) (by decide +kernel)
  ⟨([],[],0,st),tZ.start,aM.mk (by simp -implicitDefEqProofs only[iY,aB,↓aU,seval])⟩ (fun i x p hx hlt bL hdr hinv=>?_) (fun p hge hinv=>?_)
 case refine_2=>
  obtain⟨os,bs,b,s⟩:=p
  simp -implicitDefEqProofs only[hge,aB,seval]
  exact hinv.done (aF _) hws
 obtain⟨os,bs,b,s⟩:=p
 simp only at hinv
 have hw:=bE (n:=(i:Int)+1)
 have nJ:∀zs:List AV,zs.length=4→aK zs 0 (Tm.av x).cells=(Tm.av x).cells:=fun zs h=>BE (cL x) h
 simp -implicitDefEqProofs only[bL,bP (av:=Tm.av) aQ hx (aO x),bG,aO,cL,cP,dS,nJ,aB,seval,PQ]
 intro b2 hb2
 try simp -implicitDefEqProofs only[lN,cL,gI (cL x),gG (bG x),cY,nJ,dS,cP,aB,↓aU,seval,PQ]
 refine(hc x (cM hx) _).mono ?_
 rintro r s2 ⟨bx,m1,m2,m3,m4⟩
 obtain⟨f1,f2,f3⟩:=m3.aCO (aO x) (cP x)
 have hra:r.isAgg=true:=by rw[(bM.shape m3).1,bG]
 have hrj:r.cE=false:=(bM.shape m3).2.2.1
 simp -implicitDefEqProofs only[f1,hra,hrj,aB,seval,PQ]
 have hlen:os.length=i:=hinv.1
 have U4:∀e∈os,e.width=4:=fun e he=>by
  obtain⟨k,hk,rfl⟩:=List.getElem_of_mem he
  exact hinv.2.1.BU (fun q hq=>hws q (m9 hq)) _ he
 have hkb:os≠[]→s2 b=some (.cells (os.flatMap AV.cells)):=fun hne=>by
  have h:=(hinv.2.2.2.2.1 hne).2.2
  have hbx:b∉bx:=fun hq=>by
   have:=m2 b hq
   have yP:b≠b2:=fun e=>by rw[e,hb2] at h;cases h
   rw[aA.aG _ _ yP,h] at this;cases this
  have yP:b≠b2:=fun e=>by rw[e,hb2] at h;cases h
  rw[m4 b hbx,aA.aG _ _ yP,h]
 refine Z3 aQ bS bT rfl rfl (f9 f1 f3) U4 hkb (by simp only[aX,a8,hlen];omega) (by simp only[aX,a8,hlen];omega) (fun b' s' k1 k2 k3 k4=>?_)
 have iQ:=hinv.step hb2 (show(l.map Tm.av)[i]?=some (Tm.av x) by rw[lY,hx];try rfl) m1 m2 m3 m4 (k1 (by simp)) (k2 (by simp)) (fun q h1 h2=>k3 q (fun _=>h1) h2) k4
 simp -implicitDefEqProofs only[hw,aB,seval]
 exact⟨(os++ [r],bs++bx,b',s'.erase b2),iQ,aM.drop (kB _ _) (by simp -implicitDefEqProofs only[aB,seval])⟩
abbrev aTW:=zi tI_31 (zi zI_31 (zi aQ (zi bS (zi bT (zi cI (zi tI_66 (zi zI_66 (zi bZ (zi b9 (zi cA (zi cB bY)))))))))))
theorem KF:∀(t:Tm) (st:aA),t.small=true→aD prog 111 [t.av] st (Made st t.av)
 | .mk k n s ts,st,hb=>by
  obtain⟨hb1,hb2⟩:=Tm.rG hb
  have hc:=fun st=>OL ts st hb1 fun x hx st=>KF x st (hb2 x hx)
  refine aD.VM ?_
  refine wF [1] 1 func111 ntmps111 rfl rfl ?_
  intro _
  simp only[bA]
  simp -implicitDefEqProofs only[aB,seval,aTW]
  intro b a3E b2 NV
  have hne:b2≠b:=by rintro rfl;rw[aA.aJ] at NV;cases NV
  have hn2:st b2=none:=by rw[aA.aG st _ hne] at NV;exact NV
  simp -implicitDefEqProofs only[lN,hne.symm,aB,seval]
  refine(hc _).mono ?_
  rintro q s2 ⟨bs,m1,m2,m3,m4⟩
  have hbb:b∉bs:=fun h=>by have:=m2 b h;simp [lN,hne.symm] at this
  have NX:b2∉bs:=fun h=>by have:=m2 b2 h;simp [lN] at this
  have e1:=m4 b hbb
  have e2:=m4 b2 NX
  simp only[lN,hne,hne.symm,eX,dY] at e1 e2
  have hqc:q.cells= [q]:=by have:=(bM.shape m3).1;cases q<;>first | rfl | simp [AV.isAgg] at this
  have hqs:q.storable=true:=by
   have:=m3
   simp only[bM] at this
   rcases this with ⟨_,rfl,_⟩ | ⟨_,_,_,_,rfl,_⟩<;>rfl
  simp -implicitDefEqProofs only[lN,hne,e1,e2,hqc,hqs,aK,aB,seval,aTW]
  refine⟨[b,b2],bs,m1,fun x hx=>?_,?_,?_,?_⟩
  · have:=m2 x hx
    have h1:x≠b:=fun e=>hbb (e▸hx)
    have h2:x≠b2:=fun e=>NX (e▸hx)
    simpa [lN,h1,h2] using this
  · simp [a3E,hn2,hbb,NX]
  · rw[←bA]
    refine aRF.2 ⟨q,rfl,bM.aV _ _ _ (fun x hx=>?_) m3⟩
    have h1:x≠b:=fun e=>hbb (e▸hx)
    have h2:x≠b2:=fun e=>NX (e▸hx)
    simp only[lN,h1,h2,dY]
  · intro x hx hd
    simp only[c7,dT,d4,nO] at hd
    simp only[lN,hd.1,hd.2,dY]
    rw[m4 x hx]
    simp only[lN,hd.1,hd.2,dY]
termination_by t=>SizeOf.sizeOf t
decreasing_by have:=List.sizeOf_lt_of_mem hx;simp only[Tm.mk.sizeOf_spec];omega
abbrev D1:=zi tI_3 (zi zI_3 (zi aY (zi tI_9 (zi zI_9 (zi cV (zi tI_31 (zi zI_31 (zi aQ (zi bS (zi bT (zi cI (zi tI_66 (zi zI_66 (zi bZ (zi b9 (zi cA (zi cB bY)))))))))))))))))
theorem IQ:∀(t:Tm) (st:aA),t.small=true→aD prog 102 [t.av] st (fun r st'=>r=t.av∧st'=st)
 | .mk k n s ts,st,hsm=>by
  obtain⟨hlen,qY⟩:=Tm.rG hsm
  have IH:=fun(x:Tm) (hx:x∈ts) st=>IQ x st (qY x hx)
  refine aD.oK (aD.fin ?_)
  simp only[bA]
  refine wF [] 1 func102 ntmps102 rfl rfl ?_
  simp only[eW,AV.fits,fC,aF]
  intro ⟨_,_,_,hl,_⟩
  simp -implicitDefEqProofs only[aB,seval,D1]
  intro b2 hb2 c hc
  have hne:c≠b2:=by rintro rfl;rw[aA.aJ] at hc;cases hc
  have hn2:st c=none:=by rw[aA.aG st _ hne] at hc;exact hc
  simp -implicitDefEqProofs only[aK,aB,seval]
  refine d8 (σ:=Nat) [] [1,2,3] ts (fun i b=>(((ts.take i).map (fun y=>y)).map Tm.av≠[]→(aA.aC (st.aC b2 (.cells [AV.int .i64 0,AV.int .i64 0,AV.str ⟨#[]⟩,AV.fslice []])) c (.cells ([AV.int .i64 k,AV.int .i64 n,AV.str s]++ [bU 4 b (((ts.take i).map (fun y=>y)).map Tm.av)]))) b=none)) (fun i b=>[(4,.int .i64 i)]) (fun i b=>mC (st.aC b2 (.cells [AV.int .i64 0,AV.int .i64 0,AV.str ⟨#[]⟩,AV.fslice []])) c b [AV.int .i64 k,AV.int .i64 n,AV.str s] (((ts.take i).map (fun y=>y)).map Tm.av)) (by decide +kernel)
   ⟨0,fun h=>absurd rfl h,aM.mk (by simp -implicitDefEqProofs only[aB,↓aU,seval])⟩ (fun i x b hx hlt bL hdr hinv=>?_) (fun b hge hinv=>?_)
  case refine_1=>
   have hw:=bE (n:=(i:Int)+1)
   have c8:(((ts.take i).map (fun y=>y)).map Tm.av).length=i:=by simp only[aF,dE];omega
   have htk:(ts.take (i+1)).map (fun y=>y)=(ts.take i).map (fun y=>y)++ [(fun y=>y) x]:=by rw[eD,hx];simp
   have hbo:=nL hinv
   simp -implicitDefEqProofs only[aF,bL,aB,seval,D1]
   refine wP [(0,1),(2,1),(4,1),(1,2),(3,2),(5,1),(6,2),(7,2),(8,1),(9,0),(10,1),(11,0)] [0,2,4,1,3,5,6,7,8,10] mixed ?_
   simp -implicitDefEqProofs only[bP (av:=Tm.av) aQ hx (aO x),bG,aO,hbo,sV,iE,aB,seval,D1]
   refine jC (IH x (cM hx) _) ?_
   simp -implicitDefEqProofs only[bG,aO,cU,iE,aB,seval,D1]
   refine eQ aQ bS bT rfl rfl (f9 (aO _) (cP _)) (gZ _) hinv (by simp only[c8,aX,a8];omega) (by simp only[c8,aX,a8];omega) (fun b' hb'=>?_)
   rw[show(((ts.take i).map (fun y=>y)).map Tm.av)++ [((fun y=>y) x).av]=((ts.take (i+1)).map (fun y=>y)).map Tm.av by rw[htk];simp] at hb' ⊢
   obtain⟨g1,g2,g3⟩:=yV hb'
   simp only[iB,fF] at g1 g3
   simp -implicitDefEqProofs only[g3,rS,kU,aK,g1,hw,aB,seval,D1]
   exact⟨b',g2,aM.mk (by simp -implicitDefEqProofs only[aB,seval])⟩
  have hbo:=nL hinv
  rw[dZ] at hinv hbo ⊢
  simp -implicitDefEqProofs only[aF,hge,aB,seval,D1]
  simp -implicitDefEqProofs only[hbo,aB,seval,D1]
  have r7:b2≠c:=dH hne
  have hS:(st.aC b2 (.cells [AV.int .i64 0,AV.int .i64 0,AV.str ⟨#[]⟩,AV.fslice []])) b2≠none:=by rw[aA.aJ];simp
  have h1:=pH hinv hS r7
  rw[aA.aJ] at h1
  simp -implicitDefEqProofs only[h1,kU,aK,aB,seval]
  obtain⟨h2,h3⟩:=wV (o:=.cells [AV.int .i64 k,AV.int .i64 n,AV.str s,bU 4 b ((ts.map fun y=>y).map Tm.av)]) hinv hS r7
  refine⟨b,_,_,h2,h3,pM _,⟨4,gZ _⟩,?_,?_⟩
  · simp only[jH,bH,a7,fS,pE,oH,HQ]
  · exact(((aL.refl _).aC hb2).aC hn2).aC hb2
termination_by t=>SizeOf.sizeOf t
decreasing_by have:=List.sizeOf_lt_of_mem hx;simp only[Tm.mk.sizeOf_spec];omega
end Go.AW
namespace Go.AW
def Tm.k:Tm→Int | .mk k _ _ _=>k
def Tm.n:Tm→Int | .mk _ n _ _=>n
def Tm.s:Tm→ByteArray | .mk _ _ s _=>s
def Tm.ts:Tm→List Tm | .mk _ _ _ ts=>ts
theorem Tm.eta(t:Tm):t=.mk t.k t.n t.s t.ts:=by cases t;rfl
def vr(n:Int):Tm:=.mk 1 n ⟨#[]⟩ []
mutual
def Tm.aN(f:Int→Tm):Tm→Tm
 | .mk k n s ts=>if k=1 then f n else .mk k n s (P0 f ts)
def P0(f:Int→Tm):List Tm→List Tm
 | []=>[]
 | t::ts=>t.aN f::P0 f ts
end
theorem aT7(f:Int→Tm):∀ts:List Tm,P0 f ts=ts.map (Tm.aN f)
 | []=>rfl
 | t::ts=>by simp only[P0,bH,aT7 f ts]
theorem Tm.oO(f:Int→Tm){k n:Int}{s:ByteArray}{ts:List Tm}(h:k=1):(Tm.mk k n s ts).aN f=f n:=by simp only[Tm.aN,h,eX]
theorem Tm.nM(f:Int→Tm){k n:Int}{s:ByteArray}{ts:List Tm}(h:k≠1):(Tm.mk k n s ts).aN f=.mk k n s (ts.map (Tm.aN f)):=by simp only[Tm.aN,h,dY,aT7]
theorem yW(f:Int→Tm)(n:Int):(vr n).aN f=f n:=Tm.oO f rfl
mutual
def Tm.vl:Tm→List Int
 | .mk k n _ ts=>if k=1 then[n] else LF ts
def LF:List Tm→List Int
 | []=>[]
 | t::ts=>t.vl++LF ts
end
theorem aUF{v:Int}:∀ {ts:List Tm},v∈LF ts↔∃t∈ts,v∈t.vl
 | []=>by simp [LF]
 | t::ts=>by simp [LF,aUF (ts:=ts)]
theorem Tm.o0{k n:Int}{s:ByteArray}{ts:List Tm}(h:k=1):(Tm.mk k n s ts).vl= [n]:=by simp only[Tm.vl,h,eX]
theorem Tm.m8{k n v:Int}{s:ByteArray}{ts:List Tm}(h:k≠1):v∈(Tm.mk k n s ts).vl↔∃t∈ts,v∈t.vl:=by simp only[Tm.vl,h,dY,aUF]
theorem BT(n:Int):(vr n).vl= [n]:=Tm.o0 rfl
theorem Tm.ind{p:Tm→Prop}(h:∀k n s ts,(∀t∈ts,p t)→p (.mk k n s ts)):∀t,p t
 | .mk k n s ts=>h k n s ts fun t ht=>Tm.ind h t
termination_by t=>SizeOf.sizeOf t
decreasing_by have:=List.sizeOf_lt_of_mem ht;simp only[Tm.mk.sizeOf_spec];omega
theorem sC{f g:Int→Tm}:∀(t:Tm),(∀v∈t.vl,f v=g v)→t.aN f=t.aN g:=by
 intro t
 induction t using Tm.ind with
 | h k n s ts ih=>
  intro h
  by_cases hk:k=1
  · rw[Tm.oO f hk,Tm.oO g hk];exact h n (by rw[Tm.o0 hk];simp)
  · rw[Tm.nM f hk,Tm.nM g hk]
    congr 1
    exact sQ fun x hx=>ih x hx fun v hv=>h v ((Tm.m8 hk).2 ⟨x,hx,hv⟩)
theorem A7(f g:Int→Tm)(t:Tm):(t.aN f).aN g=t.aN fun v=>(f v).aN g:=by
 induction t using Tm.ind with
 | h k n s ts ih=>
  by_cases hk:k=1
  · rw[Tm.oO f hk,Tm.oO _ hk]
  · rw[Tm.nM f hk,Tm.nM g hk,Tm.nM _ hk,uA]
    congr 1
    exact sQ fun x hx=>ih x hx
theorem BS{f:Int→Tm}{w:Int}(t:Tm):w∈(t.aN f).vl↔∃v∈t.vl,w∈(f v).vl:=by
 induction t using Tm.ind with
 | h k n s ts ih=>
  by_cases hk:k=1
  · rw[Tm.oO f hk,Tm.o0 hk];simp
  · rw[Tm.nM f hk,Tm.m8 hk]
    constructor
    · rintro⟨x,hx,hw⟩
      obtain⟨y,hy,rfl⟩:=cH.1 hx
      obtain⟨v,hv,hvw⟩:=(ih y hy).1 hw
      exact⟨v,(Tm.m8 hk).2 ⟨y,hy,hv⟩,hvw⟩
    · rintro⟨v,hv,hw⟩
      obtain⟨y,hy,hvy⟩:=(Tm.m8 hk).1 hv
      exact⟨_,cH.2 ⟨y,hy,rfl⟩,(ih y hy).2 ⟨v,hvy,hw⟩⟩
theorem a66{f:Int→Tm}{v:Int}:∀(t:Tm),v∈t.vl→(f v).nodes≤(t.aN f).nodes∧(t.k≠1→(f v).nodes<(t.aN f).nodes):=by
 intro t
 induction t using Tm.ind with
 | h k n s ts ih=>
  intro hv
  by_cases hk:k=1
  · rw[Tm.o0 hk] at hv
    simp only[c7,dT,d4] at hv
    subst hv
    rw[Tm.oO f hk]
    exact⟨cY _,fun h=>absurd hk h⟩
  · obtain⟨x,hx,hvx⟩:=(Tm.m8 hk).1 hv
    have h1:=(ih x hx hvx).1
    have h2:=KW (f:=Tm.nodes) (cH.2 ⟨x,hx,rfl⟩:x.aN f∈ts.map (Tm.aN f))
    rw[Tm.nM f hk,Tm.iD]
    omega
abbrev Sub:=Int→Option Tm
def Sub.set(σ:Sub)(n:Int)(t:Tm):Sub:=fun m=>if m=n then some t else σ m
def Sub.none:Sub:=fun _=>Option.none
structure Good (σ:Sub) (R:Int→Tm) (rk:Int→Nat) (B:Nat):Prop where
 zA:∀n,R n=match σ n with | some u=>u.aN R | .none=>vr n
 KK:∀n u,σ n=some u→∀w∈u.vl,rk w<rk n
 bd:∀n,rk n<B
def sR(θ:Int→Tm)(σ:Sub):Prop:=∀n u,σ n=some u→θ n=u.aN θ
section
variable {σ:Sub} {R R':Int→Tm} {rk rk':Int→Nat} {B B':Nat}
theorem Good.none:Good Sub.none vr (fun _=>0) 1:=⟨fun n=>rfl,fun n u h=>(by cases h),fun n=>Nat.zero_lt_one⟩
theorem Good.free(G:Good σ R rk B){n:Int}(h:σ n=.none):R n=vr n:=by rw[G.zA n,h]
theorem Good.bound(G:Good σ R rk B){n:Int}{u:Tm}(h:σ n=some u):R n=u.aN R:=by rw[G.zA n,h]
theorem Good.yU(G:Good σ R rk B):sR R σ:=fun n u h=>G.bound h
theorem Good.ind(G:Good σ R rk B){p:Int→Prop}(h0:∀n,σ n=.none→p n)(h1:∀n u,σ n=some u→(∀w∈u.vl,p w)→p n):∀n,p n:=by
 intro n
 generalize hk:rk n=k
 induction k using Nat.strongRecOn generalizing n with
 | _ k ih=>
  cases h:σ n with
  | none=>exact h0 n h
  | some u=>exact h1 n u h fun w hw=>ih (rk w) (hk▸G.KK n u h w hw) w rfl
theorem Good.uniq(G:Good σ R rk B)(G':Good σ R' rk' B'):R=R':=by
 funext n
 refine G.ind (p:=fun n=>R n=R' n) (fun n h=>?_) (fun n u h ih=>?_) n
 · rw[G.free h,G'.free h]
 · rw[G.bound h,G'.bound h];exact sC u ih
theorem Good.a2F(G:Good σ R rk B){θ:Int→Tm}(S:sR θ σ)(n:Int):(R n).aN θ=θ n:=by
 refine G.ind (p:=fun n=>(R n).aN θ=θ n) (fun n h=>?_) (fun n u h ih=>?_) n
 · rw[G.free h,yW]
 · rw[G.bound h,A7,S n u h];exact sC u ih
theorem Good.TQ(G:Good σ R rk B){θ:Int→Tm}(S:sR θ σ)(t:Tm):(t.aN R).aN θ=t.aN θ:=by
 rw[A7];exact sC t fun v _=>G.a2F S v
theorem Good.canon(G:Good σ R rk B)(n:Int):(R n).aN vr=R n:=by
 refine G.ind (p:=fun n=>(R n).aN vr=R n) (fun n h=>?_) (fun n u h ih=>?_) n
 · rw[G.free h,yW]
 · rw[G.bound h,A7];exact sC u ih
theorem Good.a0M(G:Good σ R rk B)(t:Tm):(t.aN R).aN vr=t.aN R:=by
 rw[A7];exact sC t fun v _=>G.canon v
theorem Good.bind(G:Good σ R rk B){n:Int}{t:Tm}(hn:σ n=.none)(ho:n∉(t.aN R).vl) :
 ∃rk' B',Good (σ.set n t) (fun m=>(R m).aN fun v=>if v=n then t.aN R else vr v) rk' B':=by
 have key:(t.aN R).aN (fun v=>if v=n then t.aN R else vr v)=t.aN R:=by
  rw[sC (g:=vr) (t.aN R) (fun v hv=>aE fun e=>ho (by rw[←e];exact hv)),G.a0M]
 refine⟨fun v=>if n∈(R v).vl then rk v+B else rk v,B+B,fun m=>?_,fun m u h w hw=>?_,fun m=>?_⟩
 · by_cases hm:m=n
   · subst hm
     simp only[Sub.set,eX]
     rw[G.free hn,yW,aH rfl]
     rw[←A7,key]
   · simp only[Sub.set,hm,dY]
     cases h:σ m with
     | none=>rw[G.free h,yW,aE hm]
     | some u=>rw[G.bound h,A7]
 · by_cases hm:m=n
   · subst hm
     simp only[Sub.set,eX,Option.some.injEq] at h
     subst h
     have hw':m∉(R w).vl:=fun h=>ho ((BS t).2 ⟨w,hw,h⟩)
     have:m∈(R m).vl:=by rw[G.free hn,BT];simp
     have:=G.bd w
     simp only[hw',dY]
     rw[aH (by assumption)]
     omega
   · simp only[Sub.set,hm,dY] at h
     have h1:=G.KK m u h w hw
     by_cases hw':n∈(R w).vl
     · have:n∈(R m).vl:=by rw[G.bound h];exact(BS u).2 ⟨w,hw,hw'⟩
       simp only[hw',this,eX];omega
     · simp only[hw',dY];split<;>omega
 · have:=G.bd m
   split<;>omega
end
open Classical in
noncomputable def rs(σ:Sub):Int→Tm:=if h:∃R rk B,Good σ R rk B then h.choose else vr
theorem Good.rs{σ:Sub}{R:Int→Tm}{rk:Int→Nat}{B:Nat}(G:Good σ R rk B):rs σ=R:=by
 unfold AW.rs
 have h:∃R rk B,Good σ R rk B:=⟨R,rk,B,G⟩
 rw[dif_pos h]
 obtain⟨rk',B',G'⟩:=h.choose_spec
 exact G'.uniq G
inductive gK (σ:Sub):Nat→Tm→Tm→Prop
 | stop {t:Tm} (h:t.k=1→σ t.n=none):gK σ 0 t t
 | go {f:Nat} {t u v:Tm} (h1:t.k=1) (h2:σ t.n=some u) (h3:gK σ f u v):gK σ (f+1) t v
theorem gK.det{σ:Sub}{f g:Nat}{t u v:Tm}(h:gK σ f t u):gK σ g t v→u=v:=by
 induction h generalizing g v with
 | stop h=>
  intro h'
  cases h' with
  | stop=>rfl
  | go h1 h2 h3=>rw[h h1] at h2;cases h2
 | go h1 h2 h3 ih=>
  intro h'
  cases h' with
  | stop h=>rw[h h1] at h2;cases h2
  | go h1' h2' h3'=>rw[h2] at h2';cases h2';exact ih h3'
theorem gK.total{σ:Sub}{R:Int→Tm}{rk:Int→Nat}{B:Nat}(G:Good σ R rk B)(t:Tm):∃f u,gK σ f t u:=by
 have key:∀n,∀t:Tm,t.k=1→t.n=n→∃f u,gK σ f t u:=by
  intro n
  refine G.ind (p:=fun n=>∀t:Tm,t.k=1→t.n=n→∃f u,gK σ f t u) (fun n h t hk hn=>?_) (fun n u h ih t hk hn=>?_) n
  · exact⟨0,t,.stop fun _=>by rw[hn,h]⟩
  · by_cases hu:u.k=1
    · have:u.n∈u.vl:=by rw[Tm.eta u,Tm.o0 hu];simp [Tm.n]
      obtain⟨f,v,hv⟩:=ih u.n this u hu rfl
      exact⟨f+1,v,.go hk (by rw[hn,h]) hv⟩
    · exact⟨1,u,.go hk (by rw[hn,h]) (.stop fun h=>absurd h hu)⟩
 by_cases hk:t.k=1
 · exact key t.n t hk rfl
 · exact⟨0,t,.stop fun h=>absurd h hk⟩
theorem Tm.HM{t:Tm}(h:t.k=1):t.vl= [t.n]:=by cases t;exact Tm.o0 h
theorem Tm.GE{t:Tm}(f:Int→Tm)(h:t.k=1):t.aN f=f t.n:=by cases t;exact Tm.oO f h
theorem Tm.tJ{t:Tm}(f:Int→Tm)(h:t.k≠1):t.aN f=.mk t.k t.n t.s (t.ts.map (Tm.aN f)):=by cases t;exact Tm.nM f h
theorem gK.end{σ:Sub}{f:Nat}{t u:Tm}(h:gK σ f t u):u.k=1→σ u.n=none:=by induction h with | stop h=>exact h | go _ _ _ ih=>exact ih
theorem gK.aN{σ:Sub}{θ:Int→Tm}(S:sR θ σ){f:Nat}{t u:Tm}(h:gK σ f t u):u.aN θ=t.aN θ:=by
 induction h with
 | stop=>rfl
 | go h1 h2 _ ih=>rw[ih,Tm.GE θ h1,S _ _ h2]
theorem gK.KK{σ:Sub}{R:Int→Tm}{rk:Int→Nat}{B:Nat}(G:Good σ R rk B){f:Nat}{t u:Tm}(h:gK σ f t u):∀w∈u.vl,∃v∈t.vl,rk w≤rk v∧(f≠0→rk w<rk v):=by
 induction h with
 | stop h=>exact fun w hw=>⟨w,hw,cY _,fun h=>absurd rfl h⟩
 | @go f t u v h1 h2 _ ih=>
  intro w hw
  obtain⟨x,hx,hle,_⟩:=ih w hw
  have:=G.KK _ _ h2 x hx
  exact⟨t.n,by rw[Tm.HM h1];simp,by omega,fun _=>by omega⟩
theorem gK.all{σ:Sub}{p:Tm→Prop}(hp:∀n u,σ n=some u→p u){f:Nat}{t u:Tm}(h:gK σ f t u)(ht:p t):p u:=by
 induction h with
 | stop=>exact ht
 | go _ h2 _ ih=>exact ih (hp _ _ h2)
open Classical in
noncomputable def wk(σ:Sub)(t:Tm):Tm:=if h:∃u f,gK σ f t u then h.choose else t
theorem gK.wk{σ:Sub}{f:Nat}{t u:Tm}(h:gK σ f t u):wk σ t=u:=by
 unfold AW.wk
 have h':∃u f,gK σ f t u:=⟨u,f,h⟩
 rw[dif_pos h']
 obtain⟨g,hg⟩:=h'.choose_spec
 exact hg.det h
theorem Good.wk{σ:Sub}{R:Int→Tm}{rk:Int→Nat}{B:Nat}(G:Good σ R rk B)(t:Tm):∃f,gK σ f t (wk σ t):=by
 obtain⟨f,u,h⟩:=gK.total G t
 exact⟨f,by rw[h.wk];exact h⟩
open Classical in
noncomputable def kV(σ:Sub)(n:Int)(t:Tm):Bool×Sub×List Int:=if n∈(t.aN (rs σ)).vl then(false,σ,[]) else(true,σ.set n t,[n])
open Classical in
def wM(a b:Tm):Bool:=decide (a.k=b.k)&&decide (a.n=b.n)&&decide (a.s=b.s)&&decide (a.ts.length=b.ts.length)
mutual
noncomputable def dP:Nat→Sub→Tm→Tm→Option (Bool×Sub×List Int)
 | 0,_,_,_=>none
 | g+1,σ,a,b=>
  if(wk σ a).k=1∧(wk σ b).k=1∧(wk σ a).n=(wk σ b).n then some (true,σ,[])
  else if(wk σ a).k=1 then some (kV σ (wk σ a).n (wk σ b))
  else if(wk σ b).k=1 then some (kV σ (wk σ b).n (wk σ a))
  else if wM (wk σ a) (wk σ b)=true then eF g σ (wk σ a).ts (wk σ b).ts
  else some (false,σ,[])
termination_by g=>(g,0)
noncomputable def eF:Nat→Sub→List Tm→List Tm→Option (Bool×Sub×List Int)
 | g,σ,a::xs,b::ys=>match dP g σ a b with
  | none=>none
  | some (false,σ',tr)=>some (false,σ',tr)
  | some (true,σ',tr)=>match eF g σ' xs ys with
   | none=>none
   | some (r,σ'',tr')=>some (r,σ'',tr++tr')
 | _,σ,_,_=>some (true,σ,[])
termination_by g _ xs=>(g,xs.length+1)
end
theorem QJ{g:Nat}{σ σ':Sub}{a b:Tm}{r:Bool}{add:List Int}(h:dP (g+1) σ a b=some (r,σ',add)) :
 ((wk σ a).k=1∧(wk σ b).k=1∧(wk σ a).n=(wk σ b).n∧true=r∧σ=σ'∧[]=add) ∨
 ((wk σ a).k=1∧¬((wk σ b).k=1∧(wk σ a).n=(wk σ b).n)∧kV σ (wk σ a).n (wk σ b)=(r,σ',add)) ∨
 ((wk σ a).k≠1∧(wk σ b).k=1∧kV σ (wk σ b).n (wk σ a)=(r,σ',add)) ∨
 ((wk σ a).k≠1∧(wk σ b).k≠1∧wM (wk σ a) (wk σ b)=true∧eF g σ (wk σ a).ts (wk σ b).ts=some (r,σ',add)) ∨
 ((wk σ a).k≠1∧(wk σ b).k≠1∧wM (wk σ a) (wk σ b)=false∧false=r∧σ=σ'∧[]=add):=by
 rw[dP] at h
 split at h
 · rename_i h1;exact .inl ⟨h1.1,h1.2.1,h1.2.2,by simpa using h⟩
 · rename_i h1
   split at h
   · rename_i h2;exact .inr (.inl ⟨h2,fun h3=>h1 ⟨h2,h3⟩,nC h⟩)
   · rename_i h2
     split at h
     · rename_i h3;exact .inr (.inr (.inl ⟨h2,h3,nC h⟩))
     · rename_i h3
       split at h
       · rename_i h4;exact .inr (.inr (.inr (.inl ⟨h2,h3,h4,h⟩)))
       · rename_i h4;exact .inr (.inr (.inr (.inr ⟨h2,h3,by simpa using h4,by simpa using h⟩)))
theorem Tm.soft(t:Tm):t.av.soft=t.av:=by cases t;simp [bA,AV.soft,iS]
theorem Tm.CS(t:Tm)(b:Nat):t.av.fin b []=t.av:=Tm.soft t
abbrev Bd:=Int×Tm
def aOC:List Bd→Int→Option Tm
 | [],_=>none
 | (m,x)::r,n=>if m=n then some x else aOC r n
def XC(bs:List Bd)(n:Int):Tm:=(aOC bs n).getD (vr n)
def Tm.zero:Tm:=.mk 0 0 ⟨#[]⟩ []
mutual
def Tm.cv:Tm→Bool
 | .mk k _ s ts=>(!decide (k=1)||(decide (s=⟨#[]⟩)&&ts.isEmpty))&&PX ts
def PX:List Tm→Bool
 | []=>true
 | t::ts=>t.cv&&PX ts
end
theorem aT4:∀(ts:List Tm),PX ts=ts.all Tm.cv
 | []=>rfl
 | t::ts=>by simp only[PX,kJ,aT4 ts]
theorem Tm.pU{k n:Int}{s:ByteArray}{ts:List Tm}:(Tm.mk k n s ts).cv=true↔(k=1→s=⟨#[]⟩∧ts= [])∧∀x∈ts,x.cv=true:=by
 simp only[Tm.cv,aT4,cF,pP,mG,dJ,List.isEmpty_iff,eH,bK]
 constructor
 · exact fun h=>⟨fun hk=>h.1.resolve_left (fun hn=>hn hk),h.2⟩
 · intro h
   refine⟨?_,h.2⟩
   by_cases hk:k=1
   · exact .inr (h.1 hk)
   · exact .inl hk
theorem Tm.wG:∀(t:Tm),t.cv=true→t.wf=true:=by
 intro t
 induction t using Tm.ind with
 | h k n s ts ih=>
  intro h
  obtain⟨h1,h2⟩:=Tm.pU.1 h
  simp only[Tm.wf,X9,cF,pP,mG,dJ,List.isEmpty_iff,eH]
  refine⟨?_,fun x hx=>ih x hx (h2 x hx)⟩
  by_cases hk:k=1
  · exact .inr (h1 hk).2
  · exact .inl hk
theorem Tm.a85:∀(t:Tm) (d:Int),t.shape d=true→t.small=true:=by
 intro t
 induction t using Tm.ind with
 | h k n s ts ih=>
  intro d h
  rw[Tm.G0] at h
  simp only[cF,eH] at h
  obtain⟨⟨_,h1⟩,h2⟩:=h
  simp only[Tm.small,LE,cF,bK,eH]
  refine⟨?_,fun x hx=>ih x hx _ (h2 x hx)⟩
  unfold eO at h1
  cases h3:decide (k=1)<;>rw[h3] at h1
  · cases h4:decide (k=2)<;>rw[h4] at h1
    · cases h5:decide (k=3)<;>rw[h5] at h1<;>simp at h1;omega
    · simp at h1;rw[h1.2];simp
  · simp at h1;rw[h1.2];simp
theorem Tm.QN{t:Tm}(h:t.valid=true):t.small=true:=by simp only[Tm.valid,cF] at h;exact Tm.a85 t 30 h.1
def pZ{α:Type}(p:α→Bool):List α→Int→Int
 | [],_=> -1
 | x::xs,i=>if p x=true then i else pZ p xs (i+1)
theorem VH{α:Type}(p:α→Bool):∀(l:List α) (i:Int),0≤i→(pZ p l i= -1∧l.any p=false)∨∃(j:Nat) (x:α),pZ p l i=i+j∧l[j]?=some x∧p x=true∧l.any p=true∧∀(k:Nat) y,k<j→l[k]?=some y→p y=false
 | [],i,_=>.inl ⟨rfl,rfl⟩
 | x::xs,i,h=>by
  by_cases hp:p x=true
  · exact .inr ⟨0,x,by simp [pZ,hp],rfl,hp,by simp [hp],fun k y hk=>absurd hk (Nat.not_lt_zero k)⟩
  · rcases VH p xs (i+1) (by omega) with ⟨h1,h2⟩ | ⟨j,y,h1,h2,h3,h4,h5⟩
    · exact .inl ⟨by simp [pZ,hp,h1],by simp [hp,h2]⟩
    · refine .inr ⟨j+1,y,by simp only[pZ,hp,h1];simp;omega,by simpa using h2,h3,by simp [h4],fun k z hk hz=>?_⟩
      cases k with
      | zero=>simp at hz;subst hz;simpa using hp
      | succ k=>exact h5 k z (by omega) (by simpa using hz)
theorem a5O{α:Type}(p:α→Bool)(l:List α):decide (0≤pZ p l 0)=l.any p:=by
 rcases VH p l 0 (Int.le_refl 0) with ⟨h1,h2⟩ | ⟨j,y,h1,_,_,h4,_⟩
 · rw[h1,h2];try rfl
 · rw[h1,h4];simp
end Go.AW
namespace Go.AW
open Go.Proofs.Tryz
abbrev a99:=zi tI_3 (zi zI_3 (zi aY (zi tI_4 (zi zI_4 (zi cJ (zi tI_9 (zi zI_9 (zi cV (zi tI_31 (zi zI_31 (zi aQ (zi bS (zi bT (zi cI (zi tI_66 (zi zI_66 (zi bZ (zi b9 (zi cA (zi cB bY))))))))))))))))))))
theorem aY2(k n:Int)(s:ByteArray)(ts:List Tm)(st:aA):aD prog 262 [(Tm.mk k n s ts).av] st (fun r st'=>r=.bool (eO k n s ts.length)∧st'=st):=by
 refine wF [] 1 func262 ntmps262 rfl rfl ?_
 intro _
 simp only[bA]
 have hl:(ts.map Tm.av).length=ts.length:=aF _
 repeat' (first
  | (simp -implicitDefEqProofs only[*,aB,seval,a99])
  | (refine cX (fun h=>?_) (fun h=>?_))
  | (refine(a0E s st).to ?_)
  | (refine aP (fun h=>?_) (fun h=>?_)))
 all_goals simp only[eO, *,cond_true,CM,kP,eU,iA,vW,EF]
abbrev PF:=zi tI_3 (zi zI_3 (zi aY (zi tI_4 (zi zI_4 (zi cJ (zi tI_31 (zi zI_31 (zi aQ (zi bS (zi bT (zi cI (zi tI_66 (zi zI_66 (zi bZ (zi b9 (zi cA (zi cB bY)))))))))))))))))
theorem aBO:∀(t:Tm) (d:Int) (st:aA),d≤30→-1≤d→aD prog 193 [t.av,.int .i64 d] st (fun r st'=>r=.bool (t.shape d)∧st'=st)
 | .mk k n s ts,d,st,hd,hd0=>by
  have hc:=fun(x:Tm) (hx:x∈ts) d st h h0=>aBO x d st h h0
  have h1:=aY2 k n s ts st
  rw[bA] at h1
  refine wF [] 2 func193 ntmps193 rfl rfl ?_
  simp only[bA,eW,AV.fits,fC,aF,Tm.G0]
  intro ⟨_,_,_,hl,_⟩
  generalize eO k n s ts.length=z at *
  simp -implicitDefEqProofs only[aB,seval,PF]
  refine cX (fun h=>?_) (fun h=>?_)
  case refine_2=>
   simp -implicitDefEqProofs only[h,aB,seval]
   simp only[o7,bK] at h
   simp;omega
  simp -implicitDefEqProofs only[h,aB,seval,PF]
  refine h1.to ?_
  simp -implicitDefEqProofs only[aB,seval]
  refine⟨fun h2=>?_,fun h2=>?_⟩
  · simp -implicitDefEqProofs only[aB,seval]
    simp only[mG] at h2
    simp [h2]
  simp only[rM,dJ] at h2 h
  subst h2
  have hw:=bE (n:=d - 1)
  rw[show decide (1≤d)=true by simp;omega]
  simp -implicitDefEqProofs only[aB,seval]
  refine zN (α:=Nat) [] (fun i=>i≤ts.length∧∀(j:Nat) x,j<i→ts[j]?=some x→x.shape (d - 1)=true)
   (fun i=>[(1,.int .i64 d),(2,.pptr (.agg [.int .i64 k,.int .i64 n,.str s,.slice (ts.map Tm.av)])),(5,.int .i64 i)]) (fun _=>st) (fun i=>ts.length - i) (by decide +kernel)
   ⟨0,⟨by omega,by intro j x h;omega⟩,aM.mk (by simp -implicitDefEqProofs only[aB,↓aU,seval])⟩ ?_
  intro i ⟨hi,d7⟩
  simp -implicitDefEqProofs only[aF,aB,seval,PF]
  refine⟨fun h5=>?_,fun h5=>?_⟩
  case refine_2=>
   simp -implicitDefEqProofs only[aB,seval]
   simp only[dJ,oE] at h5
   rw[MC fun j x hx=>d7 j x (by have:=(fL.1 hx).1;omega) hx]
  simp only[bK,oE] at h5
  obtain⟨x,hx⟩:∃x,ts[i]?=some x:=⟨_,eA h5⟩
  simp -implicitDefEqProofs only[bP (av:=Tm.av) aQ hx (aO x),bG,aO,hw,aB,seval,PF]
  refine(hc x (cM hx) (d - 1) st (by omega) (by omega)).to ?_
  simp -implicitDefEqProofs only[aB,seval]
  refine⟨fun h6=>?_,fun h6=>?_⟩
  · simp -implicitDefEqProofs only[aB,seval]
    simp only[mG] at h6
    rw[xT hx h6]
  simp only[rM] at h6
  simp -implicitDefEqProofs only[aB,seval]
  refine⟨i+1,by omega,⟨by omega,fun j u hj hu=>?_⟩,aM.mk ?_⟩
  · rcases mL j i with h8 | h8
    · exact d7 j u h8 hu
    · obtain rfl:j=i:=by omega
      rw[hx] at hu;cases hu;exact h6
  · have:=bE (n:=(i:Int)+1)
    simp -implicitDefEqProofs only[this,aB,seval]
termination_by t=>SizeOf.sizeOf t
decreasing_by have:=List.sizeOf_lt_of_mem hx;simp only[Tm.mk.sizeOf_spec];omega
abbrev XM:=zi tI_3 (zi zI_3 (zi aY (zi tI_31 (zi zI_31 (zi aQ (zi bS (zi bT (zi cI (zi tI_66 (zi zI_66 (zi bZ (zi b9 (zi cA (zi cB bY))))))))))))))
theorem aBM:∀(t:Tm) (m:Int) (st:aA),0≤m→m≤120→aD prog 194 [t.av,.int .i64 m] st (fun r st'=>r=.int .i64 (min (t.nodes:Int) (m+1))∧st'=st)
 | .mk k n s ts,m,st,hm0,hm=>by
  have hc:=fun(x:Tm) (hx:x∈ts) m st h h0=>aBM x m st h h0
  refine wF [] 2 func194 ntmps194 rfl rfl ?_
  simp only[bA,eW,AV.fits,fC,aF,Tm.iD]
  intro ⟨_,_,_,hl,_⟩
  simp -implicitDefEqProofs only[aB,seval,XM]
  refine zN (α:=Nat) [] (fun i=>i≤ts.length)
   (fun i=>[(1,.int .i64 m),(2,.pptr (.agg [.int .i64 k,.int .i64 n,.str s,.slice (ts.map Tm.av)])),(5,.int .i64 (min ((1+bD Tm.nodes (ts.take i):Nat):Int) (m+1))),(6,.int .i64 i)]) (fun _=>st) (fun i=>ts.length - i) (by decide +kernel)
   ⟨0,by omega,aM.mk (by simp -implicitDefEqProofs only[jR,bD,show min ((0:Int)+1) (m+1)=1 by omega,yD,↓LT,↓reduceIte,reduceCtorEq,Nat.reduceEqDiff,Nat.reduceAdd])⟩ ?_
  intro i hi
  simp -implicitDefEqProofs only[aF,aB,seval,XM]
  have US:¬i<ts.length→bD Tm.nodes (ts.take i)=bD Tm.nodes ts:=fun h=>by rw[nA (by omega)]
  refine cX (fun h5=>?_) (fun h5=>?_)
  case refine_2=>
   simp -implicitDefEqProofs only[h5,aB,seval]
   simp only[kP,dJ,oE] at h5
   rw[US h5]
  simp -implicitDefEqProofs only[h5,aB,seval]
  simp only[bK,oE] at h5
  obtain⟨x,hx⟩:∃x,ts[i]?=some x:=⟨_,eA h5⟩
  have hs:=KX Tm.nodes hx
  refine⟨fun h6=>?_,fun h6=>?_⟩
  case refine_2=>
   simp -implicitDefEqProofs only[aB,seval]
   simp only[dJ] at h6
   simp only[AV.int.injEq,vP]
   omega
  simp only[bK] at h6
  have e6:min (((1+bD Tm.nodes (ts.take i):Nat):Int)) (m+1)=((1+bD Tm.nodes (ts.take i):Nat):Int):=by omega
  rw[e6] at h6 ⊢
  have hw:=bE (n:=m - ((1+bD Tm.nodes (ts.take i):Nat):Int))
  simp -implicitDefEqProofs only[bP (av:=Tm.av) aQ hx (aO x),bG,aO,hw,aB,seval,XM]
  refine(hc x (cM hx) _ st (by omega) (by omega)).to ?_
  have hw2:=bE (n:=((1+bD Tm.nodes (ts.take i):Nat):Int)+min (x.nodes:Int) (m - ((1+bD Tm.nodes (ts.take i):Nat):Int)+1))
  simp -implicitDefEqProofs only[hw2,aB,seval]
  refine⟨i+1,by omega,by omega,aM.mk ?_⟩
  have:=bE (n:=(i:Int)+1)
  simp -implicitDefEqProofs only[this,show((1+bD Tm.nodes (ts.take i):Nat):Int)+min (x.nodes:Int) (m - ((1+bD Tm.nodes (ts.take i):Nat):Int)+1)=min ((1+bD Tm.nodes (ts.take (i+1)):Nat):Int) (m+1) by omega,aB,seval]
termination_by t=>SizeOf.sizeOf t
decreasing_by have:=List.sizeOf_lt_of_mem hx;simp only[Tm.mk.sizeOf_spec];omega
abbrev aTB:=zi tI_3 (zi zI_3 (zi aY (zi tI_4 (zi zI_4 (zi cJ (zi tI_66 (zi zI_66 (zi bZ (zi b9 (zi cA (zi cB bY)))))))))))
theorem ST(t:Tm)(st:aA):aD prog 117 [t.av] st (fun r st'=>r=.bool t.valid∧st'=st):=by
 refine wF [] 1 func117 ntmps117 rfl rfl ?_
 intro _
 simp -implicitDefEqProofs only[cU,bG,aO,aB,seval,aTB]
 refine(aBO t 30 st (by omega) (by omega)).to ?_
 simp -implicitDefEqProofs only[aB,seval]
 refine cX (fun h=>?_) (fun h=>?_)
 · simp -implicitDefEqProofs only[h,bG,aO,aB,seval,aTB]
   refine(aBM t 120 st (by omega) (by omega)).to ?_
   simp -implicitDefEqProofs only[aB,seval]
   simp only[Tm.valid,h,eU,AV.bool.injEq,CO]
   omega
 · simp -implicitDefEqProofs only[h,aB,seval]
   simp at h
   simp [Tm.valid,h]
abbrev a98:=zi tI_3 (zi zI_3 (zi aY (zi tI_4 (zi zI_4 (zi cJ (zi tI_9 (zi zI_9 (zi cV (zi tI_31 (zi zI_31 (zi aQ (zi bS (zi bT (zi cI (zi tI_66 (zi zI_66 (zi bZ (zi b9 (zi cA (zi cB bY))))))))))))))))))))
theorem aBX(k n:Int)(s:ByteArray)(ts:List Tm)(st:aA):aD prog 269 [(Tm.mk k n s ts).av] st (fun r st'=>r=.bool (decide (k=3)&&decide (s=⟨#[33]⟩)&&decide ((ts.length:Int)=0))∧st'=st):=by
 refine wF [] 1 func269 ntmps269 rfl rfl ?_
 intro _
 simp only[bA]
 repeat' (first
  | (simp -implicitDefEqProofs only[*,aB,seval,a98])
  | (refine cX (fun h=>?_) (fun h=>?_))
  | (refine aP (fun h=>?_) (fun h=>?_)))
 all_goals simp only[*,aF,iA]
abbrev aTA:=zi tI_4 (zi zI_4 (zi cJ (zi tI_9 (zi zI_9 (zi cV (zi tI_66 (zi zI_66 (zi bZ (zi b9 (zi cA (zi cB bY)))))))))))
theorem aBE(k n:Int)(s:ByteArray)(ts:List Tm)(st:aA):aD prog 122 [(Tm.mk k n s ts).av] st (fun r st'=>r=.bool (decide (k=3)&&decide ((ts.length:Int)=0)&&decide (s=⟨#[33]⟩))∧st'=st):=by
 have h1:=IP k n s ts st
 rw[bA] at h1
 refine wF [] 1 func122 ntmps122 rfl rfl ?_
 intro _
 simp only[bA]
 simp -implicitDefEqProofs only[aB,seval,aTA]
 refine h1.to ?_
 clear h1
 repeat' (first
  | (simp -implicitDefEqProofs only[*,aB,seval,aTA])
  | (refine cX (fun h=>?_) (fun h=>?_))
  | (refine aP (fun h=>?_) (fun h=>?_)))
 all_goals simp_all
abbrev aS9:=zi tI_3 (zi zI_3 (zi aY (zi tI_4 (zi zI_4 (zi cJ (zi tI_9 (zi zI_9 (zi cV (zi tI_31 (zi zI_31 (zi aQ (zi bS (zi bT (zi cI (zi tI_66 (zi zI_66 (zi bZ (zi b9 (zi cA (zi cB bY))))))))))))))))))))
theorem SG(k n:Int)(s:ByteArray)(ts:List Tm)(st:aA):aD prog 121 [(Tm.mk k n s ts).av] st (fun r st'=>r=.bool (decide (k=3)&&isBuiltin s (ts.length:Int))∧st'=st):=by
 have h1:=aYD s ts.length st
 refine wF [] 1 func121 ntmps121 rfl rfl ?_
 intro _
 simp only[bA]
 simp -implicitDefEqProofs only[aB,seval,aS9]
 refine cX (fun h=>?_) (fun h=>?_)
 · simp -implicitDefEqProofs only[h,aF,aB,seval,aS9]
   refine h1.to ?_
   clear h1
   simp -implicitDefEqProofs only[aB,seval]
 · simp -implicitDefEqProofs only[h,aB,seval]
   simp at h
   simp []
def sG(k:Int)(s:ByteArray)(len:Int):Bool:=decide (k=3)&&vB s&& !isBuiltin s len&&decide ((dW s:Int)=0)
abbrev a96:=zi tI_3 (zi zI_3 (zi aY (zi tI_4 (zi zI_4 (zi cJ (zi tI_9 (zi zI_9 (zi cV (zi tI_66 (zi zI_66 (zi bZ (zi b9 (zi cA (zi cB bY))))))))))))))
theorem aBG(k n:Int)(s:ByteArray)(ts:List Tm)(st:aA):aD prog 120 [(Tm.mk k n s ts).av] st (fun r st'=>r=.bool (sG k s (ts.length:Int))∧st'=st):=by
 have h1:=SG k n s ts st
 rw[bA] at h1
 have e:decide ((0:Int)<(dW s:Int))= !decide ((dW s:Int)=0):=by
  by_cases h:dW s=0
  · simp [h]
  · simp [h];omega
 have e3:∀b:Bool,k=3→(decide (k=3)&&b)=b:=fun b h=>by simp [h]
 refine wF [] 1 func120 ntmps120 rfl rfl ?_
 intro _
 simp only[bA]
 repeat' (first
  | (simp -implicitDefEqProofs only[*,aB,seval,a96])
  | (refine cX (fun h=>?_) (fun h=>?_))
  | (refine(aBF s st).to ?_) | (refine(aYI s st).to ?_) | (refine h1.to ?_)
  | (refine aP (fun h=>?_) (fun h=>?_)))
 all_goals (clear h1;simp_all [sG])
abbrev a95:=zi tI_3 (zi zI_3 (zi aY (zi tI_4 (zi zI_4 (zi cJ (zi tI_9 (zi zI_9 (zi cV (zi tI_31 (zi zI_31 (zi aQ (zi bS (zi bT (zi cI (zi tI_66 (zi zI_66 (zi bZ (zi b9 (zi cA (zi cB bY))))))))))))))))))))
theorem aBZ(k n:Int)(s:ByteArray)(ts:List Tm)(st:aA):aD prog 118 [(Tm.mk k n s ts).av] st (fun r st'=>r=.bool (sG k s (ts.length:Int))∧st'=st):=by
 refine wF [] 1 func118 ntmps118 rfl rfl ?_
 intro _
 simp only[bA]
 have hl:(ts.map Tm.av).length=ts.length:=aF _
 repeat' (first
  | (simp -implicitDefEqProofs only[*,aB,seval,a95])
  | (refine cX (fun h=>?_) (fun h=>?_))
  | (refine(aBR s st).to ?_) | (refine(SR s _ st).to ?_) | (refine(x6 s st).to ?_)
  | (refine aP (fun h=>?_) (fun h=>?_)))
 all_goals simp_all [sG]
def AY(k:Int)(s:ByteArray)(len:Int):Bool:=(decide (k=3)&&decide (s=⟨#[33]⟩)&&decide (len=0))||sG k s len||(decide (k=3)&&isBuiltin s len)
abbrev a97:=zi tI_3 (zi zI_3 (zi aY (zi tI_4 (zi zI_4 (zi cJ (zi tI_9 (zi zI_9 (zi cV (zi tI_31 (zi zI_31 (zi aQ (zi bS (zi bT (zi cI (zi tI_66 (zi zI_66 (zi bZ (zi b9 (zi cA (zi cB bY))))))))))))))))))))
theorem aZK(k n:Int)(s:ByteArray)(ts:List Tm)(st:aA):aD prog 235 [(Tm.mk k n s ts).av] st (fun r st'=>r=.bool (AY k s (ts.length:Int))∧st'=st):=by
 have h1:=aBX k n s ts st
 have h2:=aBZ k n s ts st
 rw[bA] at h1 h2
 refine wF [] 1 func235 ntmps235 rfl rfl ?_
 intro _
 simp only[bA]
 have hl:(ts.map Tm.av).length=ts.length:=aF _
 unfold AY
 generalize (decide (k=3)&&decide (s=⟨#[33]⟩)&&decide ((ts.length:Int)=0))=z1 at *
 generalize sG k s (ts.length:Int)=z2 at *
 repeat' (first
  | (simp -implicitDefEqProofs only[*,aB,seval,a97])
  | (refine cX (fun h=>?_) (fun h=>?_))
  | (refine h1.to ?_) | (refine h2.to ?_) | (refine(SR s _ st).to ?_)
  | (refine aP (fun h=>?_) (fun h=>?_)))
 all_goals (clear h1 h2;simp_all)
theorem bBG{st:aA}{b:Nat}{o:AO}(h:st b=some o):st.aC b o=st:=by
 funext x;simp only[aA.aC];split
 · rename_i e;rw[e,h]
 · rfl
def KR(ok:Bool)(c n:Int)(b:Nat)(st:aA)(r:AV)(st':aA):Prop:=
 ∃c',r=.bool (decide (c+n≤120)&&ok)∧st'=st.aC b (.cells [.int .i64 c'])∧((decide (c+n≤120)&&ok)=true→c'=c+n)
abbrev bAA:=zi tI_3 (zi zI_3 (zi aY (zi tI_4 (zi zI_4 (zi cJ (zi tI_66 (zi zI_66 (zi bZ (zi b9 (zi cA (zi cB (zi bY (zi tI_202 zI_202)))))))))))))
theorem a0C(x:Tm)(d c:Int)(b:Nat)(st:aA)(hd: -1000≤d)(hd1:d≤1000)
 (h:aD prog 192 [x.av,.int .i64 (d+1),.ptr b 0] st (KR (x.shape (30 - d)) c x.nodes b st)) :
 aD prog 261 [x.av,.pptr (.int .i64 d),.pptr (.ptr b 0)] st (fun r st'=>∃c',r=.bool (!(decide (c+x.nodes≤120)&&x.shape (30 - d)))∧st'=st.aC b (.cells [.int .i64 c'])∧((decide (c+(x.nodes:Int)≤120)&&x.shape (30 - d))=true→c'=c+x.nodes)):=by
 have hw:=bE (n:=d+1)
 refine wF [] 3 func261 ntmps261 rfl rfl ?_
 intro _
 simp -implicitDefEqProofs only[hw,cU,bG,aO,aB,seval,bAA]
 refine h.mono ?_
 rintro _ _ ⟨c',rfl,rfl,hc⟩
 simp -implicitDefEqProofs only[aB,seval]
 refine⟨c',?_⟩
 first | exact hc | exact⟨rfl,rfl,hc⟩ | exact⟨rfl,hc⟩ | trace_state
abbrev aTC:=zi tI_3 (zi zI_3 (zi aY (zi tI_31 (zi zI_31 (zi aQ (zi bS (zi bT (zi cI (zi tI_66 (zi zI_66 (zi bZ (zi b9 (zi cA (zi cB bY))))))))))))))
theorem aXQ(l:List Tm)(d c:Int)(b:Nat)(st:aA)(hd: -1000≤d)(hd1:d≤1000)(hb:st b=some (.cells [.int .i64 c]))(hc0:0≤c)(hc1:c≤120)
 (h:∀x∈l,∀(c:Int) (st:aA),st b=some (.cells [.int .i64 c])→0≤c→c≤120→aD prog 192 [x.av,.int .i64 (d+1),.ptr b 0] st (KR (x.shape (30 - d)) c x.nodes b st)) :
 aD prog 218 [.slice (l.map Tm.av),.func 261 [.pptr (.int .i64 d),.pptr (.ptr b 0)]] st
  (fun r st'=>∃j c',r=.int .i64 j∧decide (0≤j)=(!(decide (c+(bD Tm.nodes l:Int)≤120)&&l.all fun t=>t.shape (30 - d)))∧st'=st.aC b (.cells [.int .i64 c'])∧(decide (0≤j)=false→c'=c+(bD Tm.nodes l:Int))):=by
 refine wF [] 2 func218 ntmps218 rfl rfl ?_
 simp only[eW,AV.fits,fC,aF]
 intro ⟨hl,_⟩
 simp -implicitDefEqProofs only[aF,aB,seval,aTC]
 refine zN (α:=Nat) [] (fun i=>i≤l.length∧c+(bD Tm.nodes (l.take i):Int)≤120∧∀(j:Nat) x,j<i→l[j]?=some x→x.shape (30 - d)=true)
  (fun i=>[(0,.slice (l.map Tm.av)),(1,.func 261 [.pptr (.int .i64 d),.pptr (.ptr b 0)]),(7,.int .i64 l.length),(8,.int .i64 i)]) (fun i=>st.aC b (.cells [.int .i64 (c+(bD Tm.nodes (l.take i):Int))])) (fun i=>l.length - i) (by decide +kernel)
  ⟨0,⟨by omega,by simp only[jR,bD];omega,by intro j x h;omega⟩,by
   simp only[jR,bD]
   rw[show c+((0:Nat):Int)=c by omega,bBG hb]
   exact aM.mk (by simp -implicitDefEqProofs only[aB,↓aU,seval])⟩ ?_
 intro i ⟨hi,A5,d7⟩
 simp -implicitDefEqProofs only[aB,seval]
 refine⟨fun h5=>?_,fun h5=>?_⟩
 case refine_2=>
  simp -implicitDefEqProofs only[aB,seval]
  simp only[dJ,oE] at h5
  rw[nA (by omega)] at A5 ⊢
  have ha:(l.all fun t=>t.shape (30 - d))=true:=MC fun j x hx=>d7 j x (by have:=(fL.1 hx).1;omega) hx
  exact⟨-1,_,rfl,by rw[ha];simp<;>omega,rfl,fun _=>rfl⟩
 simp only[bK,oE] at h5
 obtain⟨x,hx⟩:∃x,l[i]?=some x:=⟨_,eA h5⟩
 have hs:=KX Tm.nodes hx
 simp -implicitDefEqProofs only[bP (av:=Tm.av) aQ hx (aO x),bG,aO,aB,seval,aTC]
 refine(a0C x d (c+(bD Tm.nodes (l.take i):Int)) b _ hd hd1 (h x (cM hx) _ _ (aA.aJ _ _ _) (by omega) A5)).mono ?_
 rintro _ _ ⟨c',rfl,rfl,hc'⟩
 simp -implicitDefEqProofs only[dS,aB,seval]
 refine⟨fun h6=>?_,fun h6=>?_⟩
 · simp -implicitDefEqProofs only[aB,seval]
   refine⟨i,c',rfl,?_,rfl,fun h7=>absurd h7 (by simp)⟩
   simp only[mG,Bool.and_eq_false_iff,dJ] at h6
   rcases h6 with h6 | h6
   · rw[show decide (c+(bD Tm.nodes l:Int)≤120)=false by simp;omega]
     simp
   · rw[xT hx h6]
     simp
 simp only[rM] at h6
 rw[hc' h6]
 simp only[cF,bK] at h6
 simp -implicitDefEqProofs only[aB,seval]
 refine⟨i+1,by omega,⟨by omega,by omega,fun j u hj hu=>?_⟩,?_⟩
 · rcases mL j i with h8 | h8
   · exact d7 j u h8 hu
   · obtain rfl:j=i:=by omega
     rw[hx] at hu;cases hu;exact h6.2
 · rw[show c+(bD Tm.nodes (l.take i):Int)+(x.nodes:Int)=c+(bD Tm.nodes (l.take (i+1)):Int) by omega]
   have:=bE (n:=(i:Int)+1)
   exact aM.mk (by simp -implicitDefEqProofs only[this,aB,seval])
theorem aXI(l:List Tm)(d c:Int)(b:Nat)(st:aA)(hd: -1000≤d)(hd1:d≤1000)(hb:st b=some (.cells [.int .i64 c]))(hc0:0≤c)(hc1:c≤120)
 (h:∀x∈l,∀(c:Int) (st:aA),st b=some (.cells [.int .i64 c])→0≤c→c≤120→aD prog 192 [x.av,.int .i64 (d+1),.ptr b 0] st (KR (x.shape (30 - d)) c x.nodes b st)) :
 aD prog 147 [.slice (l.map Tm.av),.func 261 [.pptr (.int .i64 d),.pptr (.ptr b 0)]] st
  (fun r st'=>∃c',r=.bool (!(decide (c+(bD Tm.nodes l:Int)≤120)&&l.all fun t=>t.shape (30 - d)))∧st'=st.aC b (.cells [.int .i64 c'])∧((decide (c+(bD Tm.nodes l:Int)≤120)&&l.all fun t=>t.shape (30 - d))=true→c'=c+(bD Tm.nodes l:Int))):=by
 have h1:=aXQ l d c b st hd hd1 hb hc0 hc1 h
 refine wF [] 2 func147 ntmps147 rfl rfl ?_
 intro _
 simp -implicitDefEqProofs only[aB,seval]
 refine h1.mono ?_
 rintro _ _ ⟨j,c',rfl,hj,rfl,hc⟩
 simp -implicitDefEqProofs only[aB,seval]
 refine⟨c',by rw[hj],rfl,fun h=>hc (by rw[hj,h];try rfl)⟩
abbrev BJ:=zi tI_3 (zi zI_3 (zi aY (zi tI_4 (zi zI_4 (zi cJ (zi tI_9 (zi zI_9 (zi cV (zi tI_31 (zi zI_31 (zi aQ (zi bS (zi bT (zi cI (zi tI_66 (zi zI_66 (zi bZ (zi b9 (zi cA (zi cB (zi bY (zi tI_202 zI_202))))))))))))))))))))))
theorem aCB:∀(t:Tm) (d c:Int) (b:Nat) (st:aA),st b=some (.cells [.int .i64 c])→0≤c→c≤120→0≤d→d≤31→aD prog 192 [t.av,.int .i64 d,.ptr b 0] st (KR (t.shape (31 - d)) c t.nodes b st)
 | .mk k n s ts,d,c,b,st,hb,hc0,hc1,hd0,hd1=>by
  have hk:=fun(st:aA) (hb:st b=some (.cells [.int .i64 (c+1)])) (h1:c+1≤120) (h2:d≤30)=>aXI ts d (c+1) b st (by omega) (by omega) hb (by omega) h1 fun x hx c st hb hc0 hc1=>by
   have:=aCB x (d+1) c b st hb hc0 hc1 (by omega) (by omega)
   rw[show(31:Int) - (d+1)=30 - d by omega] at this
   exact this
  have hw:=bE (n:=c+1)
  unfold KR
  rw[Tm.iD,Tm.G0]
  refine wF [] 3 func192 ntmps192 rfl rfl ?_
  simp only[bA,eW,AV.fits,fC,aF]
  intro ⟨_,_,_,hl,_⟩
  simp -implicitDefEqProofs only[hb,aK,hw,aB,seval,BJ]
  have hL:(ts.map Tm.av).length=ts.length:=aF _
  have fX:∀(v:Bool),v=(decide (c+((1+bD Tm.nodes ts:Nat):Int)≤120)&&(decide (1≤31 - d)&&eO k n s ts.length&&ts.all fun t=>t.shape (31 - d - 1)))→(v=true→ts= []) →
   ∃c',AV.bool v=AV.bool (decide (c+((1+bD Tm.nodes ts:Nat):Int)≤120)&&(decide (1≤31 - d)&&eO k n s ts.length&&ts.all fun t=>t.shape (31 - d - 1)))∧st.aC b (.cells [.int .i64 (c+1)])=st.aC b (.cells [.int .i64 c'])∧((decide (c+((1+bD Tm.nodes ts:Nat):Int)≤120)&&(decide (1≤31 - d)&&eO k n s ts.length&&ts.all fun t=>t.shape (31 - d - 1)))=true→c'=c+((1+bD Tm.nodes ts:Nat):Int)):=
   fun v h1 h2=>⟨c+1,by rw[h1],rfl,fun h3=>by rw[h2 (h1.trans h3)];simp [bD]⟩
  refine cX (fun h1=>?_) (fun h1=>?_)
  case refine_2=>
   simp -implicitDefEqProofs only[h1,aB,seval]
   simp only[o7,bK] at h1
   refine fX false ?_ (by intro h;cases h)
   rw[show decide (c+((1+bD Tm.nodes ts:Nat):Int)≤120)=false by simp;omega]
   try rfl
  simp -implicitDefEqProofs only[h1,aB,seval,BJ]
  refine⟨fun h2=>?_,fun h2=>?_⟩
  · simp -implicitDefEqProofs only[aB,seval]
    simp only[bK] at h2
    refine fX false ?_ (by intro h;cases h)
    rw[show decide (1≤31 - d)=false by simp;omega]
    simp
  simp only[dJ] at h1 h2
  rw[show decide (1≤31 - d)=true by simp;omega] at fX ⊢
  simp only[eU] at fX ⊢
  rw[show 31 - d - 1=30 - d by omega] at fX ⊢
  -- no kids
  have aPI:∀q:Bool,(∀h:ts= [],eO k n s ts.length=q)→(ts≠[]→eO k n s ts.length=false)→(q&&decide ((ts.length:Int)=0))=(decide (c+((1+bD Tm.nodes ts:Nat):Int)≤120)&&(eO k n s ts.length&&ts.all fun t=>t.shape (30 - d))):=by
   intro q hq1 hq2
   by_cases ht:ts= []
   · rw[hq1 ht];subst ht
     have e:c+((1+bD Tm.nodes []:Nat):Int)≤120:=by simp only[bD];omega
     rw[fQ e]
     simp
   · rw[hq2 ht]
     have:¬(ts.length:Int)=0:=by intro h;exact ht (pQ (by omega))
     rw[fP this]
     simp
  simp -implicitDefEqProofs only[aB,seval,BJ]
  refine aP (fun hk1=>?_) (fun hk1=>?_)
  · simp only[bK] at hk1
    subst hk1
    simp -implicitDefEqProofs only[aB,seval,BJ]
    refine(CJ _ _ _ _).to ?_
    repeat' (first
     | (simp -implicitDefEqProofs only[*,aB,seval,BJ])
     | (refine cX (fun h=>?_) (fun h=>?_))
     | (refine aP (fun h=>?_) (fun h=>?_)))
    all_goals first
     | (refine fX false ?_ (by intro h;cases h);rw[show eO 1 n s ts.length=false by first | (simp only[eO, *,kP,iA,vW];done) | (simp_all [eO];done) | (simp_all [eO];intro a e;have:=h a;omega)];simp;done)
     | (refine fX _ ?_ (fun h=>pQ (by simpa using h));rw[←aPI true (fun h=>by simp_all [eO]) (fun h=>by simp [eO,h])];simp;done)
  simp only[dJ] at hk1
  simp -implicitDefEqProofs only[aB,seval]
  refine aP (fun hk2=>?_) (fun hk2=>?_)
  · simp only[bK] at hk2
    subst hk2
    simp -implicitDefEqProofs only[aB,seval,BJ]
    refine(CJ _ _ _ _).to ?_
    repeat' (first
     | (simp -implicitDefEqProofs only[*,aB,seval,BJ])
     | (refine cX (fun h=>?_) (fun h=>?_))
     | (refine aP (fun h=>?_) (fun h=>?_)))
    all_goals first
     | (refine fX false ?_ (by intro h;cases h);rw[show eO 2 n s ts.length=false by first | (simp only[eO, *,kP,iA,vW];done) | (simp_all [eO];done) | (simp_all [eO];intro a e;have:=h a;omega)];simp;done)
     | (refine fX _ ?_ (fun h=>pQ (by simpa using h));rw[←aPI true (fun h=>by simp_all [eO]) (fun h=>by simp [eO,h])];simp;done)
  simp only[dJ] at hk2
  simp -implicitDefEqProofs only[aB,seval]
  refine aP (fun hk3=>?_) (fun hk3=>?_)
  case refine_2=>
   simp only[dJ] at hk3
   simp -implicitDefEqProofs only[aB,seval]
   refine fX false ?_ (by intro h;cases h)
   rw[show eO k n s ts.length=false by simp [eO,hk1,hk2,hk3]]
   simp
  simp only[bK] at hk3
  subst hk3
  have hk':=fun st hb=>hk st hb (by omega) (by omega)
  clear hk
  repeat' (first
   | (simp -implicitDefEqProofs only[*,aB,seval,BJ])
   | (refine cX (fun h=>?_) (fun h=>?_))
   | (refine(aYE s _).to ?_)
   | (refine aP (fun h=>?_) (fun h=>?_)))
  all_goals first
   | (refine fX false ?_ (by intro h;cases h);rw[show eO 3 n s ts.length=false by(simp_all [eO];done)];simp;done)
   | skip
  refine(hk' _ (aA.aJ _ _ _)).mono ?_
  rintro _ _ ⟨c',rfl,rfl,hc'⟩
  simp -implicitDefEqProofs only[dS,aB,seval]
  have ho:eO 3 n s ts.length=true:=by simp_all [eO]
  rw[ho,show c+((1+bD Tm.nodes ts:Nat):Int)=c+1+(bD Tm.nodes ts:Int) by omega]
  simp only[eU,Bool.not_not]
  first | exact⟨c',trivial,rfl,hc'⟩ | exact⟨c',rfl,rfl,hc'⟩
termination_by t=>SizeOf.sizeOf t
decreasing_by have:=List.sizeOf_lt_of_mem hx;simp only[Tm.mk.sizeOf_spec];omega
abbrev bAB:=zi tI_3 (zi zI_3 (zi aY (zi tI_4 (zi zI_4 (zi cJ (zi tI_66 (zi zI_66 (zi bZ (zi b9 (zi cA (zi cB (zi bY (zi tI_202 zI_202)))))))))))))
theorem aBD(t:Tm)(st:aA):aD prog 108 [t.av] st (fun r st'=>r=.bool t.valid∧st'=st):=by
 have hd:aD prog 108 [t.av] st (fun r st'=>aL st' st∧r=.bool t.valid):=by
  refine wF [] 1 func108 ntmps108 rfl rfl ?_
  intro _
  simp -implicitDefEqProofs only[cU,bG,aO,aB,seval,bAB]
  intro b hb
  simp -implicitDefEqProofs only[aK,aB,seval]
  refine(aCB t 1 0 b _ (aA.aJ _ _ _) (by omega) (by omega) (by omega) (by omega)).mono ?_
  rintro _ _ ⟨c',rfl,rfl,_⟩
  simp -implicitDefEqProofs only[dS,yD,↓reduceIte]
  refine⟨(aL.refl st).aC hb,?_⟩
  simp only[Tm.valid,AV.bool.injEq]
  rw[Bool.and_comm,show(31:Int) - 1=30 from rfl]
  congr 1
  simp only[CO]
  omega
 exact hd.drop
def Tm.goal:Tm→Bool
 | .mk k n s ts=>(Tm.mk k n s ts).valid&&AY k s ts.length
abbrev aTD:=zi tI_4 (zi zI_4 (zi cJ (zi tI_66 (zi zI_66 (zi bZ (zi b9 (zi cA (zi cB bY))))))))
theorem aCE:∀(t:Tm) (st:aA),aD prog 156 [t.av] st (fun r st'=>r=.bool t.goal∧st'=st)
 | .mk k n s ts,st=>by
  have h1:=ST (.mk k n s ts) st
  have h2:=aZK k n s ts st
  rw[show(Tm.mk k n s ts).goal=((Tm.mk k n s ts).valid&&AY k s ts.length) from rfl]
  generalize (Tm.mk k n s ts).valid=z at *
  rw[bA] at *
  refine wF [] 1 func156 ntmps156 rfl rfl ?_
  intro _
  simp -implicitDefEqProofs only[aB,seval,aTD]
  refine h1.to ?_
  simp -implicitDefEqProofs only[aB,seval]
  refine cX (fun h=>?_) (fun h=>?_)
  · simp -implicitDefEqProofs only[h,aB,seval,aTD]
    refine h2.to ?_
    simp -implicitDefEqProofs only[aB,seval]
  · simp -implicitDefEqProofs only[h,aB,seval]
    simp at h
    simp []
abbrev bAC:=zi tI_4 (zi zI_4 (zi cJ (zi tI_66 (zi zI_66 (zi bZ (zi b9 (zi cA (zi cB bY))))))))
theorem aYC:∀(t:Tm) (st:aA),aD prog 49 [t.av] st (fun r st'=>r=.bool t.goal∧st'=st)
 | .mk k n s ts,st=>by
  have h1:=aBD (.mk k n s ts) st
  have h2:=aBG k n s ts st
  have h3:=SG k n s ts st
  have h4:=aBE k n s ts st
  rw[show(Tm.mk k n s ts).goal=((Tm.mk k n s ts).valid&&AY k s ts.length) from rfl]
  unfold AY
  generalize (Tm.mk k n s ts).valid=z at *
  generalize sG k s (ts.length:Int)=z2 at *
  generalize (decide (k=3)&&isBuiltin s (ts.length:Int))=z3 at *
  rw[show(decide (k=3)&&decide (s=⟨#[33]⟩)&&decide ((ts.length:Int)=0))=(decide (k=3)&&decide ((ts.length:Int)=0)&&decide (s=⟨#[33]⟩)) from by cases decide (k=3)<;>cases decide (s=⟨#[33]⟩)<;>cases decide ((ts.length:Int)=0)<;>rfl]
  generalize (decide (k=3)&&decide ((ts.length:Int)=0)&&decide (s=⟨#[33]⟩))=z4 at *
  rw[bA] at *
  refine wF [] 1 func49 ntmps49 rfl rfl ?_
  intro _
  repeat' (first
   | (simp -implicitDefEqProofs only[*,aB,seval,bAC])
   | (refine cX (fun h=>?_) (fun h=>?_))
   | (refine h1.to ?_) | (refine h2.to ?_) | (refine h3.to ?_) | (refine h4.to ?_)
   | (refine aP (fun h=>?_) (fun h=>?_)))
  all_goals (clear h1 h2 h3 h4;simp_all)
abbrev aTV:=zi tI_3 (zi zI_3 (zi aY (zi tI_31 (zi zI_31 (zi aQ (zi bS (zi bT (zi cI (zi tI_66 (zi zI_66 (zi bZ (zi b9 (zi cA (zi cB bY))))))))))))))
theorem aXN(l:List Tm)(g:FuncId)(dL:List AV)(p:Tm→Bool)(st:aA)(hc:∀x∈l,aD prog g ([Tm.av x]++dL) st (fun r st'=>r=.bool (p x)∧st'=st)) :
 aD prog 218 [.slice (l.map Tm.av),.func g dL] st (fun r st'=>∃j:Int,r=.int .i64 j∧decide (0≤j)=l.any p∧st'=st):=by
 refine wF [] 2 func218 ntmps218 rfl rfl ?_
 simp only[eW,AV.fits,fC,aF]
 intro ⟨hl,_⟩
 simp -implicitDefEqProofs only[aF,aB,seval,aTV]
 refine d8 (σ:=Unit) [] [0,1,7] l (fun i _=>(l.drop i).any p=l.any p) (fun i _=>[(8,.int .i64 i)]) (fun _ _=>st) (by decide +kernel) ⟨(),rfl,aM.mk (by simp -implicitDefEqProofs only[aB,↓aU,seval])⟩ (fun i x _ hx hlt bL hdr hinv=>?_) (fun _ hge hinv=>?_)
 case refine_2=>
  simp -implicitDefEqProofs only[hge,aB,seval]
  rw[kK] at hinv
  exact⟨-1,rfl,by rw[←hinv];try rfl⟩
 rw[hdr,B0] at hinv
 have hw:=bE (n:=(i:Int)+1)
 simp -implicitDefEqProofs only[bL,bP (av:=Tm.av) aQ hx (aO x),bG,aO,aB,seval,aTV]
 refine(hc x (cM hx)).to ?_
 simp -implicitDefEqProofs only[aB,seval]
 refine aP (fun h=>?_) (fun h=>?_)
 · simp -implicitDefEqProofs only[aB,seval]
   exact⟨i,rfl,by rw[←hinv,h];simp⟩
 · rw[h,qD] at hinv
   simp -implicitDefEqProofs only[aB,seval]
   exact⟨(),hinv,aM.mk (by simp -implicitDefEqProofs only[hw,aB,seval])⟩
theorem aXE(l:List Tm)(g:FuncId)(dL:List AV)(p:Tm→Bool)(st:aA)(hc:∀x∈l,aD prog g ([Tm.av x]++dL) st (fun r st'=>r=.bool (p x)∧st'=st)) :
 aD prog 147 [.slice (l.map Tm.av),.func g dL] st (fun r st'=>r=.bool (l.any p)∧st'=st):=by
 refine wF [] 2 func147 ntmps147 rfl rfl ?_
 intro _
 simp -implicitDefEqProofs only[aB,seval]
 refine(aXN l g dL p st hc).mono ?_
 rintro _ _ ⟨j,rfl,hj,rfl⟩
 simp -implicitDefEqProofs only[hj,aB,seval]
theorem RQ{α:Type}(p:α→Bool):∀l:List α,(!(l.any fun x=> !p x))=l.all p
 | []=>rfl
 | x::l=>by rw[B0,kJ,←RQ p l];cases p x<;>simp
abbrev bAL:=zi tI_4 (zi zI_4 (zi cJ (zi tI_66 (zi zI_66 (zi bZ (zi b9 (zi cA (zi cB bY))))))))
theorem aX8(t:Tm)(st:aA):aD prog 282 [t.av] st (fun r st'=>r=.bool (!t.goal)∧st'=st):=by
 refine wF [] 1 func282 ntmps282 rfl rfl ?_
 intro _
 simp -implicitDefEqProofs only[cU,bG,aO,aB,seval,bAL]
 refine(aYC t st).to ?_
 simp -implicitDefEqProofs only[aB,seval]
def lM(l:List Tm):Bool:=decide (l.length≤6)&&l.all Tm.goal
abbrev bAK:=zi tI_3 (zi zI_3 (zi aY (zi tI_4 (zi zI_4 (zi cJ (zi tI_31 (zi zI_31 (zi aQ (zi bS (zi bT cI))))))))))
theorem aBA(l:List Tm)(st:aA):aD prog 216 [.slice (l.map Tm.av)] st (fun r st'=>r=.bool (lM l)∧st'=st):=by
 refine wF [] 1 func216 ntmps216 rfl rfl ?_
 simp only[eW,AV.fits,fC,aF]
 intro _
 unfold lM
 simp -implicitDefEqProofs only[aF,aB,seval,bAK]
 refine cX (fun h=>?_) (fun h=>?_)
 · simp only[bK] at h
   rw[show decide (l.length≤6)=true by simp;omega]
   simp -implicitDefEqProofs only[h,aB,seval]
   refine(aXE l _ [] (fun t=> !t.goal) st fun x _=>aX8 x st).to ?_
   simp -implicitDefEqProofs only[RQ,aB,seval]
 · simp only[kP,dJ] at h
   rw[show decide (l.length≤6)=false by simp;omega]
   simp -implicitDefEqProofs only[h,aB,seval]
   rfl
theorem aBC(l:List Tm)(st:aA):aD prog 150 [.slice (l.map Tm.av)] st (fun r st'=>r=.bool (lM l)∧st'=st):=by
 refine wF [] 1 func150 ntmps150 rfl rfl ?_
 intro _
 simp -implicitDefEqProofs only[aB,seval]
 refine(aBA l st).to ?_
 simp -implicitDefEqProofs only[aB,seval]
abbrev PP:=zi tI_3 (zi zI_3 (zi aY (zi tI_4 (zi zI_4 (zi cJ (zi tI_31 (zi zI_31 (zi aQ (zi bS (zi bT (zi cI (zi tI_66 (zi zI_66 (zi bZ (zi b9 (zi cA (zi cB bY)))))))))))))))))
theorem SS(l:List Tm)(st:aA):aD prog 71 [.slice (l.map Tm.av)] st (fun r st'=>r=.bool (lM l)∧st'=st):=by
 refine wF [] 1 func71 ntmps71 rfl rfl ?_
 simp only[eW,AV.fits,fC,aF]
 intro ⟨hl,_⟩
 simp -implicitDefEqProofs only[aB,seval]
 refine d8 (σ:=Unit) [] [0] l (fun i _=>i≤7∧(l.take i).all Tm.goal=true) (fun i _=>[(3,.int .i64 i)]) (fun _ _=>st) (by decide +kernel) ⟨(),⟨by omega,by simp⟩,aM.mk (by simp -implicitDefEqProofs only[aB,↓aU,seval])⟩ (fun i x _ hx hlt bL hdr hinv=>?_) (fun _ hge hinv=>?_)
 case refine_2=>
  obtain⟨i1,i2⟩:=hinv
  rw[dZ] at i2
  simp -implicitDefEqProofs only[aF,hge,aB,seval,PP]
  simp only[lM,i2,EF,AV.bool.injEq,CO]
  omega
 obtain⟨i1,i2⟩:=hinv
 have hw:=bE (n:=(i:Int)+1)
 simp -implicitDefEqProofs only[aF,bL,aB,seval,PP]
 refine aP (fun h=>?_) (fun h=>?_)
 case refine_2=>
  simp only[dJ] at h
  simp -implicitDefEqProofs only[aF,aB,seval,PP]
  simp only[lM,AV.bool.injEq]
  rw[show decide (l.length≤6)=false by simp;omega,show decide ((l.length:Int)≤6)=false by simp;omega]
  try rfl
 simp only[bK] at h
 simp -implicitDefEqProofs only[bP (av:=Tm.av) aQ hx (aO x),bG,aO,aB,seval,PP]
 refine(aCE x st).to ?_
 simp -implicitDefEqProofs only[aB,seval]
 refine aP (fun h2=>?_) (fun h2=>?_)
 · simp only[mG] at h2
   simp -implicitDefEqProofs only[aB,seval]
   have:l.all Tm.goal=false:=xT hx h2
   simp only[lM,this,vW]
 · simp only[rM] at h2
   simp -implicitDefEqProofs only[aB,seval]
   refine⟨(),⟨by omega,?_⟩,aM.mk (by simp -implicitDefEqProofs only[hw,aB,seval])⟩
   rw[eD,hx,EH,i2]
   simp [h2]
abbrev bDW:=zi tI_3 (zi zI_3 (zi aY (zi tI_70 (zi zI_70 (zi a1E (zi a1D (zi a1G (zi bA6 (zi tI_129 (zi zI_129 (zi a15 (zi a16 aWV))))))))))))
abbrev bAM:=zi tI_3 (zi zI_3 (zi aY (zi tI_66 (zi zI_66 (zi bZ (zi b9 (zi cA (zi cB bY))))))))
theorem SV(n:Int)(st:aA):aD prog 116 [.int .i64 n] st (fun r st'=>r=(vr n).av∧st'=st):=by
 refine aD.done ?_
 refine wF [1000000] 1 func116 ntmps116 rfl rfl ?_
 intro _
 simp -implicitDefEqProofs only[aB,seval,bAM]
 intro b hb
 simp -implicitDefEqProofs only[aK,aB,seval]
 exact⟨by simp only[vr,bA,iT,iU,nT,mV,bH,a7,a7],(aL.refl _).aC hb⟩
abbrev xB:=zi tI_3 (zi zI_3 (zi aY (zi tI_31 (zi zI_31 (zi aQ (zi bS (zi bT (zi cI (zi tI_66 (zi zI_66 (zi bZ (zi b9 (zi cA (zi cB bY))))))))))))))
theorem SM(f:Int→Tm)(g:FuncId)(dL:List AV)(FW:mF dL=true):∀(t:Tm) (st:aA),t.small=true→(∀n∈t.vl,∀s,aD prog g (.int .i64 n::dL) s (fun r s'=>r=(f n).av∧s'=s)) →
 aD prog 112 [t.av,.func g dL] st (fun r st'=>r=(t.aN f).av∧st'=st)
 | .mk k n s ts,st,hsm,hg=>by
  obtain⟨hlen,qY⟩:=Tm.rG hsm
  have IH:=fun(x:Tm) (hx:x∈ts) st h=>SM f g dL FW x st (qY x hx) h
  refine aD.oK (aD.fin ?_)
  simp only[bA]
  refine wF [1000000,2] 2 func112 ntmps112 rfl rfl ?_
  simp only[eW,AV.fits,fC,aF]
  intro ⟨_,_,_,hl,_⟩
  simp -implicitDefEqProofs only[aB,seval,xB]
  intro c hc b2 hb2
  have hne:b2≠c:=by rintro rfl;rw[aA.aJ] at hb2;cases hb2
  have hn2:st b2=none:=by rw[aA.aG st _ hne] at hb2;exact hb2
  simp -implicitDefEqProofs only[hne.symm,aB,seval]
  refine aP (fun h=>?_) (fun h=>?_)
  · simp only[bK] at h
    subst h
    simp -implicitDefEqProofs only[hne.symm,aB,seval,xB]
    refine(hg n (by rw[Tm.o0 rfl];simp) _).to ?_
    simp -implicitDefEqProofs only[aB,seval,xB]
    refine⟨0,[],_,rfl,by simp,by simp,⟨4,by simp⟩,by rw[Tm.CS,Tm.oO f rfl],?_⟩
    exact((aL.refl _).aC hc).aC hn2
  simp only[dJ] at h
  have hg':∀x∈ts,∀v∈x.vl,∀s,aD prog g (.int .i64 v::dL) s (fun r s'=>r=(f v).av∧s'=s):=fun x hx v hv=>hg v ((Tm.m8 h).2 ⟨x,hx,hv⟩)
  simp -implicitDefEqProofs only[hne.symm,aK,aF,aB,seval,xB]
  rw[aA.BR hne]
  refine d8 (σ:=Nat) [1000000] [1,2,4,18,19] ts (fun i b=>(((ts.take i).map (Tm.aN f)).map Tm.av≠[]→(aA.aC (st.aC b2 (.cells [AV.int .i64 0,AV.int .i64 0,AV.str ⟨#[]⟩,AV.fslice []])) c (.cells ([AV.int .i64 k,AV.int .i64 n,AV.str s]++ [bU 4 b (((ts.take i).map (Tm.aN f)).map Tm.av)]))) b=none)) (fun i b=>[(20,.int .i64 i)]) (fun i b=>mC (st.aC b2 (.cells [AV.int .i64 0,AV.int .i64 0,AV.str ⟨#[]⟩,AV.fslice []])) c b [AV.int .i64 k,AV.int .i64 n,AV.str s] (((ts.take i).map (Tm.aN f)).map Tm.av)) (by decide +kernel)
   ⟨0,fun h=>absurd rfl h,aM.mk (by simp -implicitDefEqProofs only[aB,↓aU,seval])⟩ (fun i x b hx hlt bL hdr hinv=>?_) (fun b hge hinv=>?_)
  case refine_1=>
   have hw:=bE (n:=(i:Int)+1)
   have c8:(((ts.take i).map (Tm.aN f)).map Tm.av).length=i:=by simp only[aF,dE];omega
   have htk:(ts.take (i+1)).map (Tm.aN f)=(ts.take i).map (Tm.aN f)++ [(Tm.aN f) x]:=by rw[eD,hx];simp
   have hbo:=nL hinv
   simp -implicitDefEqProofs only[bL,bP (av:=Tm.av) aQ hx (aO x),aB,↓aU,seval,xB]
   refine wP [(0,1),(3,1),(1,2),(2,2),(4,2),(5,1),(6,0),(7,1),(8,0)] [0,3,1,2,4,5,7] mixed ?_
   simp -implicitDefEqProofs only[bG,aO,hbo,sV,aB,seval,xB]
   refine jC (IH x (cM hx) _ (hg' x (cM hx))) ?_
   simp -implicitDefEqProofs only[bG,aO,cU,aB,seval,xB]
   refine eQ aQ bS bT rfl rfl (f9 (aO _) (cP _)) (gZ _) hinv (by simp only[c8,aX,a8];omega) (by simp only[c8,aX,a8];omega) (fun b' hb'=>?_)
   rw[show(((ts.take i).map (Tm.aN f)).map Tm.av)++ [((Tm.aN f) x).av]=((ts.take (i+1)).map (Tm.aN f)).map Tm.av by rw[htk];simp] at hb' ⊢
   obtain⟨g1,g2,g3⟩:=yV hb'
   simp only[iB,fF] at g1 g3
   simp -implicitDefEqProofs only[g3,rS,kU,aK,g1,hw,aB,seval,xB]
   exact⟨b',g2,aM.mk (by simp -implicitDefEqProofs only[aB,seval])⟩
  have hbo:=nL hinv
  rw[dZ] at hinv hbo ⊢
  simp -implicitDefEqProofs only[hge,aB,seval,xB]
  simp -implicitDefEqProofs only[hbo,aB,seval,xB]
  have hS:(st.aC b2 (.cells [AV.int .i64 0,AV.int .i64 0,AV.str ⟨#[]⟩,AV.fslice []])) b2≠none:=by rw[aA.aJ];simp
  have h1:=pH hinv hS hne
  rw[aA.aJ] at h1
  simp -implicitDefEqProofs only[h1,kU,aK,aB,seval]
  obtain⟨h2,h3⟩:=wV (o:=.cells [AV.int .i64 k,AV.int .i64 n,AV.str s,bU 4 b ((ts.map (Tm.aN f)).map Tm.av)]) hinv hS hne
  refine⟨b,_,_,h2,h3,pM _,⟨4,gZ _⟩,?_,?_⟩
  · rw[Tm.nM f h]
    simp only[jH,bH,a7,fS,pE,oH,bA]
  · exact(((aL.refl _).aC hn2).aC hc).aC hn2
termination_by t=>SizeOf.sizeOf t
decreasing_by have:=List.sizeOf_lt_of_mem hx;simp only[Tm.mk.sizeOf_spec];omega


abbrev Bt:=Fin 256
def iZ(b:Bt):AV:=.int .u8 (b.val:Int)
theorem MK(b:Bt):(iZ b).width=1:=rfl
def iF(st:aA)(c:Nat)(bs:List Bt)(p:Nat):Prop:=st c=some (.cells [.slice (bs.map iZ),.int .i64 (p:Int)])
def kF(bs:List Bt)(p:Nat):AO:=.cells [.slice (bs.map iZ),.int .i64 (p:Int)]
theorem PV(a b:Nat):(a:Int).tmod (b:Int)=((a % b:Nat):Int):=(Int.ofNat_tmod a b).symm
theorem aS1(a b:Nat):(a:Int).tdiv (b:Int)=((a / b:Nat):Int):=(Int.ofNat_tdiv a b).symm
theorem aV2(a b:Nat)(ha:a<2 ^ 62)(hb:b<2 ^ 62):∃m:Nat,ID .i64 (a:Int) (b:Int)=(m:Int):=by
 have hx:=Nat.xor_lt_two_pow ha hb
 refine⟨a ^^^ b,?_⟩
 unfold ID
 show IntKind.i64.wrap (((BitVec.ofInt 64 (a:Int) ^^^ BitVec.ofInt 64 (b:Int)).toNat:Nat):Int)=_
 rw[BitVec.ofInt_natCast,BitVec.ofInt_natCast,BitVec.toNat_xor,BitVec.toNat_ofNat,BitVec.toNat_ofNat,Nat.mod_eq_of_lt (by omega),Nat.mod_eq_of_lt (by omega)]
 rw[wrap64 (by omega) (by omega)]
abbrev KZ:=zi tI_3 (zi zI_3 (zi aY (zi tI_5 (zi zI_5 (zi m6 (zi tI_40 (zi zI_40 (zi tD (zi AL (zi AP (zi zH (zi tI_116 (zi zI_116 (zi tI_184 (zi zI_184 (zi aNN (zi aNO aAK)))))))))))))))))
theorem AG(bs:List Bt)(c p:Nat)(hp:p≤1099511627776)(n:Nat)(hn:1≤n)(hn2:n≤1048576)(st:aA)(h:iF st c bs p) :
 aD prog 96 [.ptr c 0,.int .i64 (n:Int)] st (fun r st'=>∃k:Nat,k<n∧r=.int .i64 (k:Int)∧st'=st.aC c (kF bs (p+1))):=by
 unfold iF at h
 refine wF [1000000] 2 func96 ntmps96 rfl rfl ?_
 intro _
 have hw1:IntKind.i64.wrap ((p:Int)+1)=(p:Int)+1:=wrap64 (by omega) (by omega)
 simp -implicitDefEqProofs only[aK,h,hw1,aB,seval,KZ]
 have hn1:¬(n:Int)<1:=by omega
 have hw2:IntKind.i64.wrap ((p:Int)+1 - 1)=(p:Int):=by rw[wrap64 (by omega) (by omega)];omega
 have hst:∀(q:aA),q c=some (.cells [.slice (bs.map iZ),.int .i64 ((p:Int)+1)])→True:=fun _ _=>trivial
 have hrd:kF bs (p+1)=.cells [.slice (bs.map iZ),.int .i64 ((p:Int)+1)]:=by simp [kF]
 rw[hrd]
 refine cX (fun h1=>?_) (fun h1=>?_)
 case refine_2=>simp [hn1] at h1
 simp -implicitDefEqProofs only[bX,lB,hn1,aF,aB,seval,KZ]
 refine aP (fun h2=>?_) (fun h2=>?_)
 · simp -implicitDefEqProofs only[aB,seval]
   exact⟨0,by omega,rfl⟩
 simp -implicitDefEqProofs only[hw2,aF,aB,seval,KZ]
 have hbl:bs.length≠0:=by simpa using h2
 refine aP (fun h3=>?_) (fun h3=>?_)
 · simp only[bK] at h3
   obtain⟨x,hx⟩:∃x,bs[p]?=some x:=⟨_,eA (by omega)⟩
   have hx2:=x.isLt
   have hb1:IntKind.i64.wrap (x.val:Int)=(x.val:Int):=wrap64 (by omega) (by omega)
   have hn0:¬(n:Int)=0:=by omega
   have UE:dG prog 40 (.slice (bs.map iZ)) (.int .i64 (p:Int))=some (.pptr (.int .u8 x.val)):=bP (av:=iZ) tD hx (MK x)
   simp -implicitDefEqProofs only[UE,v7,hb1,hn0,aB,seval,KZ]
   exact⟨x.val % n,Nat.mod_lt _ (by omega),by rw[PV]⟩
 · simp only[dJ] at h3
   obtain⟨x,hx⟩:∃x,bs[p % bs.length]?=some x:=⟨_,eA (Nat.mod_lt _ (by omega))⟩
   obtain⟨y,hy⟩:∃y,bs[(p*7+3) % bs.length]?=some y:=⟨_,eA (Nat.mod_lt _ (by omega))⟩
   have hx2:=x.isLt
   have hy2:=y.isLt
   have hl0:¬(bs.length:Int)=0:=by omega
   simp -implicitDefEqProofs only[aB,seval]
   refine vU [(0,1),(1,1),(2,1),(3,1),(4,1),(5,1),(6,1),(7,1),(8,1),(9,1),(10,1),(11,1),(12,1),(13,1),(14,1),(15,1),(16,1),(17,1),(18,1),(19,1),(20,1),(21,1),(22,1),(23,1),(24,1),(25,1),(26,1),(27,1),(28,1),(29,1),(30,1),(31,1),(32,1),(33,1),(34,1),(35,1),(36,1),(37,1),(38,1),(39,1),(40,1),(41,1),(42,1),(43,1),(44,1),(45,1)] [0,1,2,3,4,5,6,7,8,9,10,11,12,13,14,15,16,17,18,19,20,21,22,23,24,25,26,27,28,29,30,31,32,33,34,35,36,37,38,39,40,41,42,43,44,45] (d9.aC c (.cells [.slice (bs.map iZ),.int .i64 ((p:Int)+1)])) mixed (by decide +kernel) (by decide +kernel) (by decide +kernel) rfl (fR (aA.aJ _ _ _)) ?_
   have e7:IntKind.i64.wrap ((p:Int)*7)=(p:Int)*7:=wrap64 (by omega) (by omega)
   have e8:IntKind.i64.wrap ((p:Int)*7+3)=(p:Int)*7+3:=wrap64 (by omega) (by omega)
   have e9:((p:Int)*7+3).tmod (bs.length:Int)=(((p*7+3) % bs.length:Nat):Int):=by rw[←PV];congr 1
   have f1:IntKind.i64.wrap ((x.val:Int)*131)=(x.val:Int)*131:=wrap64 (by omega) (by omega)
   have f2:IntKind.i64.wrap ((y.val:Int)*1117)=(y.val:Int)*1117:=wrap64 (by omega) (by omega)
   have f3:IntKind.i64.wrap ((x.val:Int)*131+(y.val:Int)*1117)=(x.val:Int)*131+(y.val:Int)*1117:=wrap64 (by omega) (by omega)
   have f4:IntKind.i64.wrap ((p:Int)*29)=(p:Int)*29:=wrap64 (by omega) (by omega)
   have f5:IntKind.i64.wrap ((x.val:Int)*131+(y.val:Int)*1117+(p:Int)*29)=(x.val:Int)*131+(y.val:Int)*1117+(p:Int)*29:=wrap64 (by omega) (by omega)
   have hb1:IntKind.i64.wrap (x.val:Int)=(x.val:Int):=wrap64 (by omega) (by omega)
   have hb2:IntKind.i64.wrap (y.val:Int)=(y.val:Int):=wrap64 (by omega) (by omega)
   generalize hjx:p % bs.length=jx at *
   generalize hjy:(p*7+3) % bs.length=jy at *
   have e10:(p:Int).tmod (bs.length:Int)=(jx:Int):=by rw[PV,hjx]
   have UE:dG prog 40 (.slice (bs.map iZ)) (.int .i64 (jx:Int))=some (.pptr (.int .u8 x.val)):=bP (av:=iZ) tD hx (MK x)
   have a3C:dG prog 40 (.slice (bs.map iZ)) (.int .i64 (jy:Int))=some (.pptr (.int .u8 y.val)):=bP (av:=iZ) tD hy (MK y)
   have hdv:p / bs.length≤p:=Nat.div_le_self _ _
   generalize hq:p / bs.length=q at *
   have hqq:IntKind.i64.wrap ((p:Int).tdiv (bs.length:Int))=(q:Int):=by rw[aS1,hq,wrap64 (by omega) (by omega)]
   have f6:IntKind.i64.wrap ((q:Int)*53)=(q:Int)*53:=wrap64 (by omega) (by omega)
   obtain⟨z,hz,hz2⟩:∃z:Nat,(x.val:Int)*131+(y.val:Int)*1117+(p:Int)*29+(q:Int)*53=(z:Int)∧z<2 ^ 61:=⟨x.val*131+y.val*1117+p*29+q*53,by omega,by omega⟩
   have f7:IntKind.i64.wrap ((x.val:Int)*131+(y.val:Int)*1117+(p:Int)*29+(q:Int)*53)=(z:Int):=by rw[hz];exact wrap64 (by omega) (by omega)
   have bDO:z / 64≤z:=Nat.div_le_self _ _
   obtain⟨m,hm⟩:=aV2 z (z / 64) (by omega) (by omega)
   have f8:IntKind.i64.wrap ((z:Int).tdiv 64)=((z / 64:Nat):Int):=by rw[show(64:Int)=((64:Nat):Int) from rfl,aS1,wrap64 (by omega) (by omega)]
   generalize z / 64=z2 at *
   have hn0:¬(n:Int)=0:=by omega
   simp -implicitDefEqProofs only[aF,hl0,e7,e8,e9,e10,f1,f2,f3,f4,f5,f6,f7,f8,hm,hn0,UE,a3C,hb1,hb2,hqq,v7,aB,seval,KZ]
   exact⟨m % n,Nat.mod_lt _ (by omega),rfl⟩
abbrev aS4:=zi tI_3 (zi zI_3 (zi aY (zi tI_46 (zi zI_46 (zi cZ (zi eG (zi eE (zi eT (zi tI_116 zI_116)))))))))
theorem aZ5(l:List Int)(h1:1≤l.length)(h2:l.length≤1048576)(bs:List Bt)(c p:Nat)(hp:p≤1099511627776)(st:aA)(h:iF st c bs p) :
 aD prog 94 [.ptr c 0,.slice (l.map iv)] st (fun r st'=>∃x∈l,r=.int .i64 x∧st'=st.aC c (kF bs (p+1))):=by
 refine wF [1000000] 2 func94 ntmps94 rfl rfl ?_
 intro _
 simp -implicitDefEqProofs only[aF,aB,seval,aS4]
 refine(AG bs c p hp l.length h1 h2 st h).mono ?_
 rintro _ _ ⟨k,hk,rfl,rfl⟩
 obtain⟨x,hx⟩:∃x,l[k]?=some x:=⟨_,eA hk⟩
 have hat:=bP (av:=iv) cZ hx rfl
 simp -implicitDefEqProofs only[hat,aB,seval,aS4]
 exact⟨x,cM hx,rfl⟩
theorem x7(l:List Int)(h1:1≤l.length)(h2:l.length≤1048576)(bs:List Bt)(c p:Nat)(hp:p≤1099511627776)(st:aA)(h:iF st c bs p) :
 aD prog 94 [.ptr c 0,.fslice (l.map iv)] st (fun r st'=>∃x∈l,r=.int .i64 x∧st'=st.aC c (kF bs (p+1))):=
 aD.rH (by simp only[iS,AV.soft];exact aZ5 l h1 h2 bs c p hp st h)
abbrev XL:=zi tI_3 (zi zI_3 (zi aY (zi tI_40 (zi zI_40 (zi tD (zi AL (zi AP (zi zH (zi tI_116 (zi zI_116 (zi tI_184 (zi zI_184 (zi aNN (zi aNO aAK))))))))))))))
theorem aYO(bs:List Bt)(st:aA):aD prog 93 [.slice (bs.map iZ)] st (fun r st'=>∃c bs',r=.ptr c 0∧st c=none∧st'=st.aC c (kF bs' 0)):=by
 refine wF [1000000,10] 1 func93 ntmps93 rfl rfl ?_
 simp only[eW,AV.fits,fC,aF]
 intro ⟨hl,_⟩
 have hs:bs.length>2000→∀φ,fH prog φ 40 (.slice (bs.map iZ)) none (some (.const (.int .i64 2000))) none=some (.slice ((bs.take 2000).map iZ)):=fun h φ=>by
  have h2:((0:Int)≤2000∧(2000:Int)≤(bs.map iZ).length):=⟨by omega,by rw[aF];omega⟩
  have h3:dK φ (some (.const (.int .i64 2000))) (bs.map iZ).length (bs.map iZ).length=some 2000:=by
   show(if((0:Int)≤2000∧(2000:Int)≤(bs.map iZ).length) then some (Int.toNat 2000) else none)=some 2000
   exact aH h2
  unfold fH nE
  rw[aE (by simp [oN])]
  simp only[tD]
  have h4:dK φ none (bs.map iZ).length (bs.map iZ).length=some (bs.map iZ).length:=rfl
  rw[h4]
  simp only[h3]
  have h5:dK φ none 0 2000=some 0:=rfl
  rw[h5]
  simp
 simp -implicitDefEqProofs only[aF,aB,seval,XL]
 refine aP (fun h=>?_) (fun h=>?_)
 · simp only[bK] at h
   have hs':=hs (by omega)
   simp -implicitDefEqProofs only[hs',aB,seval,XL]
   intro b hb
   exact⟨b,bs.take 2000,rfl,hb,by simp [kF]⟩
 · simp -implicitDefEqProofs only[aB,seval,XL]
   intro b hb
   exact⟨b,bs,rfl,hb,by simp [kF]⟩
abbrev a90:=zi tI_3 (zi zI_3 (zi aY (zi tI_66 (zi zI_66 (zi bZ (zi b9 (zi cA (zi cB bY))))))))
theorem aBQ(n:Int)(st:aA):aD prog 181 [.int .i64 n] st (fun r st'=>r=(vr n).av∧st'=st):=by
 refine aD.done ?_
 refine wF [1000000] 1 func181 ntmps181 rfl rfl ?_
 intro _
 simp -implicitDefEqProofs only[aK,aB,seval,a90]
 intro b hb
 exact⟨by simp only[vr,bA,iT,iU,nT,mV,bH,a7],(aL.refl _).aC hb⟩
abbrev a91:=zi tI_2 (zi zI_2 (zi QI (zi tI_3 (zi zI_3 (zi aY (zi tI_66 (zi zI_66 (zi bZ (zi b9 (zi cA (zi cB bY)))))))))))
theorem SI(n:Int)(st:aA):aD prog 182 [.int .i64 n] st (fun r st'=>r=(Tm.mk 2 n ⟨#[]⟩ []).av∧st'=st):=by
 refine aD.done ?_
 refine wF [1000000] 1 func182 ntmps182 rfl rfl ?_
 intro _
 simp -implicitDefEqProofs only[aK,aB,seval,a91]
 intro b hb
 exact⟨by simp only[bA,iT,iU,nT,mV,bH,a7],(aL.refl _).aC hb⟩
abbrev aS3:=zi tI_3 (zi zI_3 (zi aY (zi tI_9 (zi zI_9 (zi cV (zi tI_31 (zi zI_31 (zi aQ (zi bS (zi bT (zi cI (zi tI_66 (zi zI_66 (zi bZ (zi b9 (zi cA (zi cB bY)))))))))))))))))
theorem aY7(s:ByteArray)(l:List Tm)(hl:l.length≤1048576)(st:aA):aD prog 183 [.str s,.slice (l.map Tm.av)] st (fun r st'=>r=(Tm.mk 3 0 s l).av∧st'=st):=by
 refine aD.oK (aD.fin ?_)
 refine wF [1000000] 2 func183 ntmps183 rfl rfl ?_
 intro _
 simp -implicitDefEqProofs only[aB,seval,aS3]
 intro b hb
 change jT prog 31 (aZ (st.aC b (.cells [.int .i64 0,.int .i64 0,.str ⟨#[]⟩,.fslice []])) 0 []) (bU 4 0 []) (.slice (l.map Tm.av)) _
 refine eQ aQ bS bT rfl rfl (by intro e he;simp only[cH] at he;obtain⟨t,_,rfl⟩:=he;exact⟨aO _,cP _⟩) (by simp) (fun h=>absurd rfl h) (by simp only[a8,aF];omega) (by simp only[a8,aF];omega) (fun b' hb'=>?_)
 rw[fF] at hb' ⊢
 have hne:l.map Tm.av≠[]→b≠b':=fun h e=>by have:=hb' h;rw[←e,aA.aJ] at this;cases this
 have h1:aZ (st.aC b (.cells [.int .i64 0,.int .i64 0,.str ⟨#[]⟩,.fslice []])) b' (l.map Tm.av) b=some (.cells [.int .i64 0,.int .i64 0,.str ⟨#[]⟩,.fslice []]):=by
  by_cases h:l.map Tm.av= []
  · rw[h,uJ,aA.aJ]
  · rw[oG (hne h),aA.aJ]
 simp -implicitDefEqProofs only[aK,h1,rS,kU,nF,aB,seval,aS3]
 rw[mP hne,dS]
 exact⟨b',l.map Tm.av,st.aC b _,rfl,fun h=>by rw[aA.aG _ _ (dH (hne h))];have:=hb' h;rwa [aA.aG _ _ (dH (hne h))] at this,pM _,⟨4,gZ _⟩,by simp only[bA,jH,fS,pE,lU,bH,a7],(aL.refl _).aC hb⟩
theorem MR(s:ByteArray)(l:List Tm)(hl:l.length≤1048576)(st:aA):aD prog 183 [.str s,.fslice (l.map Tm.av)] st (fun r st'=>r=(Tm.mk 3 0 s l).av∧st'=st):=
 aD.rH (by simp only[iS,AV.soft];exact aY7 s l hl st)
abbrev Dn (t:Tm):Prop:=t.cv=true∧t.small=true
theorem a08(n:Int):Dn (vr n):=by
 refine⟨Tm.pU.2 ⟨fun _=>⟨rfl,rfl⟩,fun x hx=>by cases hx⟩,?_⟩
 simp [vr,Tm.small,LD]
theorem aC7{k n:Int}{s:ByteArray}{ts:List Tm}(hk:k≠1)(hl:ts.length≤1048576)(h:∀x∈ts,Dn x):Dn (.mk k n s ts):=by
 refine⟨Tm.pU.2 ⟨fun h=>absurd h hk,fun x hx=>(h x hx).1⟩,?_⟩
 simp only[Tm.small,LE,cF,bK,eH]
 exact⟨hl,fun x hx=>(h x hx).2⟩
def Dr(bs:List Bt)(c p m:Nat)(st:aA)(Q:AV→Prop)(r:AV)(st':aA):Prop:=∃p',p≤p'∧p'≤p+m∧st'=st.aC c (kF bs p')∧Q r
theorem iF.aC{st:aA}{c p:Nat}{bs:List Bt}{b:Nat}{o:AO}(h:iF st c bs p)(hb:b≠c):iF (st.aC b o) c bs p:=by unfold iF;rw[aA.aG _ _ (dH hb)];exact h
theorem iF.new{st:aA}{c p:Nat}{bs:List Bt}:iF (st.aC c (kF bs p)) c bs p:=aA.aJ _ _ _
theorem iF.ne{st:aA}{c p:Nat}{bs:List Bt}{b:Nat}(h:iF st c bs p)(hb:st b=none):b≠c:=by rintro rfl;rw[iF,hb] at h;cases h
end Go.AW
namespace Go.AW
theorem cC.of{h:bQ}{st st':aA}(hk:∀x,st x=none→st' x=none):cC h st h st':=⟨cY _,fun x _ e=>⟨rfl,hk x e⟩,fun _ c _ _ e=>⟨c,e,rfl⟩⟩
theorem gJ.a2S{φ:AF}{st:aA}{b c:Nat}{es cs:List AV}(hbc:b≠c)(h1:st b=some (.cells (es.flatMap AV.cells)))(h2:∀e∈es,e.cE=false)(h3:iV es)(hc:st c=some (.cells cs)) :
 gJ φ st φ ((st.erase b).aC c (.cells (lK b es cs))):=fun h tmps S F=>by
 have T2:cC h (st.erase b) h ((st.erase b).aC c (.cells (lK b es cs))):=cC.of fun x hx=>by
  have:x≠c:=by rintro rfl;simp [aA.erase,dH hbc,hc] at hx
  rw[aA.aG _ _ this];exact hx
 have T:cC h st h ((st.erase b).aC c (.cells (lK b es cs))):=((kB st b).step h).trans T2
 refine⟨fun x o hx=>?_,T,fun d=>(F d).mono T⟩
 by_cases e:x=c
 · subst e
   rw[aA.aJ] at hx
   cases hx
   obtain⟨hl,c0,t,e1,e2,vs,e3,e4⟩:=S x _ hc
   refine⟨hl,c0,t,e1,?_,vs,e3,bB.mono T2 _ _ (bB.fz S h1 h2 h3 cs vs e4)⟩
   rw[CU,aF];exact e2
 · rw[aA.aG _ _ e] at hx
   have hx':st x=some o:=by
    simp only[aA.erase] at hx
    split at hx
    · cases hx
    · exact hx
   obtain⟨hl,y⟩:=S x o hx'
   exact⟨hl,l7.mono T rfl y⟩
theorem a1B{s0 st:aA}{b:Nat}{l:List AV}(D:aL s0 st):aL (aZ s0 b l) (aZ st b l):=by
 cases l with
 | nil=>exact D
 | cons y l=>
  intro x
  simp only[aZ]
  by_cases e:x=b
  · subst e;simp [aA.aJ]
  · rw[aA.aG _ _ e,aA.aG _ _ e];exact D x
end Go.AW
