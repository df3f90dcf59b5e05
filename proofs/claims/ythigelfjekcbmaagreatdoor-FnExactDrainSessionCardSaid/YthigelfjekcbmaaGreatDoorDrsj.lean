import Derived.Test.YthigelfjekcbmaaGreatDoorDrsg
import Derived.Test.YthigelfjekcbmaaGreatDoorDrsi
set_option linter.unusedSimpArgs false
set_option linter.unusedVariables false
set_option maxRecDepth 100000
namespace Go.AW
open Go.Proofs.Tryz
theorem xJ(n lo hi:Int)(st:aA):aD prog 87 [.int .i64 n,.int .i64 lo,.int .i64 hi] st (fun r st'=>r=.bool (decide (lo≤n)&&decide (n≤hi))∧st'=st):=by
 refine wF [] 3 func87 ntmps87 rfl rfl ?_
 intro _
 repeat' (first
  | (simp -implicitDefEqProofs only[*,aB,seval])
  | (refine cT (fun h=>?_) (fun h=>?_))
  | (refine aT (fun h=>?_) (fun h=>?_)))
 all_goals simp_all
theorem aMV(s:ByteArray)(st:aA):aD prog 247 [.str s] st (fun r st'=>r=.tup [.int .i64 (kI s),.bool (kI s == 1||kI s == 2)]∧st'=st):=by
 refine wF [] 1 func247 ntmps247 rfl rfl ?_
 intro _
 repeat' (first
  | (simp -implicitDefEqProofs only[*,aB,seval])
  | (refine cT (fun h=>?_) (fun h=>?_))
  | (refine aT (fun h=>?_) (fun h=>?_)))
 all_goals (simp only[kI, *,Bool.or_true,y8,Bool.or_self,cond_true,cond_false];first | done | rfl)
theorem S0(s:ByteArray)(st:aA):aD prog 198 [.str s] st (fun r st'=>r=.int .i64 (kI s)∧st'=st):=by
 refine wF [] 1 func198 ntmps198 rfl rfl ?_
 intro _
 repeat' (first
  | (simp -implicitDefEqProofs only[*,aB,seval])
  | (refine cT (fun h=>?_) (fun h=>?_))
  | (refine aT (fun h=>?_) (fun h=>?_)))
 all_goals (simp only[kI, *,Bool.or_true,y8,Bool.or_self,cond_true,cond_false];first | done | rfl)
theorem aNK(s:ByteArray)(n:Int)(st:aA):aD prog 224 [.str s,.int .i64 n] st (fun r st'=>r=.bool (isBuiltin s n)∧st'=st):=by
 refine wF [] 2 func224 ntmps224 rfl rfl ?_
 intro _
 repeat' (first
  | (simp -implicitDefEqProofs only[*,aB,seval])
  | (refine cT (fun h=>?_) (fun h=>?_))
  | (refine aT (fun h=>?_) (fun h=>?_)))
 all_goals (simp only[isBuiltin, *,Bool.or_true,y8,Bool.or_self,cond_true,cond_false];first | done | rfl)
theorem L8(s:ByteArray)(n:Int)(st:aA):aD prog 164 [.str s,.int .i64 n] st (fun r st'=>r=.bool (isBuiltin s n)∧st'=st):=by
 refine wF [] 2 func164 ntmps164 rfl rfl ?_
 intro _
 repeat' (first
  | (simp -implicitDefEqProofs only[*,aB,seval])
  | (refine cT (fun h=>?_) (fun h=>?_))
  | (refine aT (fun h=>?_) (fun h=>?_)))
 all_goals (simp only[isBuiltin, *,Bool.or_true,y8,Bool.or_self,cond_true,cond_false];first | done | rfl)
abbrev aI6:=zi tI_3 (zi zI_3 (zi aZ (zi tI_4 (zi zI_4 (zi cG (zi tI_5 (zi zI_5 (zi QE (zi tI_9 (zi zI_9 eF))))))))))
theorem SZ(s:ByteArray)(st:aA):aD prog 197 [.str s] st (fun r st'=>r=.bool (s9 s)∧st'=st):=by
 refine wF [] 1 func197 ntmps197 rfl rfl ?_
 simp only[dK,AV.fits,dZ]
 intro hs
 simp -implicitDefEqProofs only[aB,seval]
 refine oI (α:=Nat) [] (fun i=>i≤s.size∧∀(j:Nat) c,j<i→(sb s)[j]?=some c→letter c=true)
  (fun i=>[(0,.str s),(3,.int .i64 i)]) (fun _=>st) (fun i=>s.size - i) (by decide +kernel)
  ⟨0,⟨by omega,by intro j x h;omega⟩,aP.mk (by simp -implicitDefEqProofs only[aB,↓aX,seval])⟩ ?_
 intro i ⟨hi,c9⟩
 simp -implicitDefEqProofs only[aB,seval,aI6]
 refine⟨fun h5=>?_,fun h5=>?_⟩
 case refine_2=>
  simp only[cI,gT] at h5
  have ha:(sb s).all letter=true:=GP fun j c hc=>c9 j c (by have:=(fD.1 hc).1;rw[FA] at this;omega) hc
  repeat' (first
   | (simp -implicitDefEqProofs only[*,aB,seval,aI6])
   | (refine cT (fun h=>?_) (fun h=>?_))
   | (refine aT (fun h=>?_) (fun h=>?_)))
  all_goals simp only[s9,ha,iL,AV.bool.injEq]
  all_goals simp only[*,mY,iL,lV]
 simp only[bL,gT] at h5
 obtain⟨c,hc⟩:∃c,(sb s)[i]?=some c:=⟨_,eQ (by rw[FA];exact h5)⟩
 have hx:=aGY (P:=prog) (t:=9) eF hc
 simp -implicitDefEqProofs only[hx,aB,seval]
 refine cT (fun h6=>?_) (fun h6=>?_)
 case refine_2=>
  simp -implicitDefEqProofs only[h6,aB,seval]
  simp only[tM,bL] at h6
  simp only[s9,tT hc (show letter c=false by simp [letter];omega),lV]
 simp -implicitDefEqProofs only[h6,hx,aB,seval]
 refine⟨fun h7=>?_,fun h7=>?_⟩
 · simp -implicitDefEqProofs only[aB,seval]
   simp only[bL] at h7
   simp only[s9,tT hc (show letter c=false by simp [letter];omega),lV]
 simp only[cI] at h6 h7
 simp -implicitDefEqProofs only[aB,seval]
 refine⟨i+1,by omega,⟨by omega,fun j u hj hu=>?_⟩,aP.mk ?_⟩
 · rcases kN j i with h8 | h8
   · exact c9 j u h8 hu
   · obtain rfl:j=i:=by omega
     rw[hc] at hu;cases hu
     simp [letter];omega
 · have:=bK (n:=(i:Int)+1)
   simp -implicitDefEqProofs only[this,aB,seval]
abbrev aI7:=zi tI_3 (zi zI_3 (zi aZ (zi tI_4 (zi zI_4 (zi cG (zi tI_5 (zi zI_5 (zi QE (zi tI_6 (zi zI_6 (zi uU6 (zi tI_9 (zi zI_9 eF)))))))))))))
theorem SR(s:ByteArray)(st:aA):aD prog 212 [.str s] st (fun r st'=>r=.bool (s9 s)∧st'=st):=by
 refine wF [] 1 func212 ntmps212 rfl rfl ?_
 simp only[dK,AV.fits,dZ]
 intro hs
 simp -implicitDefEqProofs only[aB,seval,aI7]
 refine oI (α:=Nat) [] (fun i=>i≤s.size∧∀(j:Nat) c,j<i→(sb s)[j]?=some c→letter c=true)
  (fun i=>[(0,.str s),(5,.int .i64 s.size),(6,.int .i64 i)]) (fun _=>st) (fun i=>s.size - i) (by decide +kernel)
  ⟨0,⟨by omega,by intro j x h;omega⟩,aP.mk (by simp -implicitDefEqProofs only[aB,↓aX,seval])⟩ ?_
 intro i ⟨hi,c9⟩
 simp -implicitDefEqProofs only[aB,seval]
 refine⟨fun h5=>?_,fun h5=>?_⟩
 case refine_2=>
  simp only[cI,gT] at h5
  have ha:(sb s).all letter=true:=GP fun j c hc=>c9 j c (by have:=(fD.1 hc).1;rw[FA] at this;omega) hc
  simp -implicitDefEqProofs only[aB,seval,aI7]
  refine(xJ _ _ _ st).to ?_
  simp -implicitDefEqProofs only[aB,seval]
  simp only[s9,ha,iL]
 simp only[bL,gT] at h5
 obtain⟨c,hc⟩:∃c,(sb s)[i]?=some c:=⟨_,eQ (by rw[FA];exact h5)⟩
 have hx:=aGY (P:=prog) (t:=9) eF hc
 simp -implicitDefEqProofs only[hx,aB,seval]
 refine cT (fun h6=>?_) (fun h6=>?_)
 case refine_2=>
  simp -implicitDefEqProofs only[h6,aB,seval]
  simp only[tM,bL] at h6
  simp only[s9,tT hc (show letter c=false by simp [letter];omega),lV]
 simp -implicitDefEqProofs only[h6,hx,aB,seval]
 refine⟨fun h7=>?_,fun h7=>?_⟩
 · simp -implicitDefEqProofs only[aB,seval]
   simp only[bL] at h7
   simp only[s9,tT hc (show letter c=false by simp [letter];omega),lV]
 simp only[cI] at h6 h7
 simp -implicitDefEqProofs only[aB,seval]
 refine⟨i+1,by omega,⟨by omega,fun j u hj hu=>?_⟩,aP.mk ?_⟩
 · rcases kN j i with h8 | h8
   · exact c9 j u h8 hu
   · obtain rfl:j=i:=by omega
     rw[hc] at hu;cases hu
     simp [letter];omega
 · have:=bK (n:=(i:Int)+1)
   simp -implicitDefEqProofs only[this,aB,seval]
theorem aNP(s:ByteArray)(st:aA):aD prog 213 [.str s] st (fun r st'=>r=.bool (decide ((0:Int)<(kI s:Int)))∧st'=st):=by
 refine wF [] 1 func213 ntmps213 rfl rfl ?_
 intro _
 simp -implicitDefEqProofs only[aB,seval]
 refine(aMV s st).to ?_
 simp -implicitDefEqProofs only[aB,seval]
abbrev aWR:=zi tI_3 (zi zI_3 (zi aZ (zi tI_4 (zi zI_4 (zi cG (zi tI_28 (zi zI_28 (zi aQ (zi bM (zi bO (zi cA (zi tI_52 (zi zI_52 (zi bX (zi bY (zi bZ (zi b7 bV)))))))))))))))))
theorem DB(k n:Int)(s:ByteArray)(ts:List Tm)(st:aA):aD prog 223 [(Tm.mk k n s ts).av] st (fun r st'=>r=.bool (decide (k=3)&&decide ((ts.length:Int)=0))∧st'=st):=by
 refine wF [] 1 func223 ntmps223 rfl rfl ?_
 intro _
 simp only[a7]
 repeat' (first
  | (simp -implicitDefEqProofs only[*,aB,seval,aWR])
  | (refine cT (fun h=>?_) (fun h=>?_))
  | (refine aT (fun h=>?_) (fun h=>?_)))
 all_goals simp_all
def uP:List ByteArray:=[⟨#[43]⟩,⟨#[45]⟩,⟨#[42]⟩,⟨#[47,47]⟩,⟨#[61]⟩,⟨#[92,61]⟩,⟨#[61,61]⟩,⟨#[60]⟩,⟨#[62]⟩,⟨#[61,60]⟩,⟨#[62,61]⟩,⟨#[61,58,61]⟩,⟨#[46]⟩,⟨#[91,93]⟩,⟨#[33]⟩]
abbrev aWS:=zi tI_138 (zi zI_138 (zi vX (zi AJ (zi AM CB))))
theorem aO0(st:aA):aD prog 266 [] st (fun r st'=>r=.fslice (uP.map .str)∧st'=st):=by
 refine wF [] 0 func266 ntmps266 rfl rfl ?_
 intro _
 simp -implicitDefEqProofs only[uP,aB,seval,aWS]
abbrev aWT:=zi tI_138 (zi zI_138 (zi vX (zi AJ (zi AM CB))))
theorem aNX(st:aA):aD prog 272 [] st (fun r st'=>r=.fslice (uP.map .str)∧st'=st):=by
 refine wF [] 0 func272 ntmps272 rfl rfl ?_
 intro _
 simp -implicitDefEqProofs only[uP,aB,seval,aWT]
abbrev aI9:=zi tI_3 (zi zI_3 (zi aZ (zi tI_4 (zi zI_4 (zi cG (zi tI_9 (zi zI_9 (zi eF (zi tI_138 (zi zI_138 (zi vX (zi AJ (zi AM CB)))))))))))))
theorem aNS(l:List ByteArray)(s:ByteArray)(st:aA):aD prog 284 [.slice (l.map .str),.str s] st (fun r st'=>r=.bool (l.any fun x=>decide (x=s))∧st'=st):=by
 refine wF [] 2 func284 ntmps284 rfl rfl ?_
 simp only[dK,AV.fits,dZ,aE]
 intro ⟨⟨hl,_⟩,_⟩
 simp -implicitDefEqProofs only[aB,seval]
 refine oI (α:=Nat) [] (fun i=>i≤l.length∧∀(j:Nat) x,j<i→l[j]?=some x→decide (x=s)=false)
  (fun i=>[(0,.slice (l.map .str)),(1,.str s),(5,.int .i64 i)]) (fun _=>st) (fun i=>l.length - i) (by decide +kernel)
  ⟨0,⟨by omega,by intro j x h;omega⟩,aP.mk (by simp -implicitDefEqProofs only[aB,↓aX,seval])⟩ ?_
 intro i ⟨hi,c9⟩
 simp -implicitDefEqProofs only[aE,aB,seval,aI9]
 refine⟨fun h5=>?_,fun h5=>?_⟩
 case refine_2=>
  simp -implicitDefEqProofs only[aB,seval]
  simp only[cI,gT] at h5
  have:(l.any fun x=>decide (x=s))=false:=by
   rw[List.any_eq_false]
   intro x hx
   obtain⟨j,hj⟩:=CH hx
   simp [c9 j x (by have:=(fD.1 hj).1;omega) hj]
  rw[this]
 simp only[bL,gT] at h5
 obtain⟨x,hx⟩:∃x,l[i]?=some x:=⟨_,eQ h5⟩
 simp -implicitDefEqProofs only[bJ (av:=AV.str) vX hx rfl,aB,seval,aI9]
 refine⟨fun h6=>?_,fun h6=>?_⟩
 · simp -implicitDefEqProofs only[aB,seval]
   have:(l.any fun x=>decide (x=s))=true:=by
    rw[List.any_eq_true]
    exact⟨x,cL hx,h6⟩
   rw[this]
 simp -implicitDefEqProofs only[aB,seval]
 refine⟨i+1,by omega,⟨by omega,fun j u hj hu=>?_⟩,aP.mk ?_⟩
 · rcases kN j i with h8 | h8
   · exact c9 j u h8 hu
   · obtain rfl:j=i:=by omega
     rw[hx] at hu;cases hu
     exact h6
 · have:=bK (n:=(i:Int)+1)
   simp -implicitDefEqProofs only[this,aB,seval]
abbrev aI8:=zi tI_3 (zi zI_3 (zi aZ (zi tI_9 (zi zI_9 (zi eF (zi tI_138 (zi zI_138 (zi vX (zi AJ (zi AM CB))))))))))
theorem aMT(l:List ByteArray)(s:ByteArray)(st:aA):aD prog 281 [.slice (l.map .str),.str s] st (fun r st'=>(∃k:Int,r=.int .i64 k∧decide (0≤k)=l.any fun x=>decide (s=x))∧st'=st):=by
 refine wF [] 2 func281 ntmps281 rfl rfl ?_
 simp only[dK,AV.fits,dZ,aE]
 intro ⟨⟨hl,_⟩,_⟩
 simp -implicitDefEqProofs only[aE,aB,seval,aI8]
 refine oI (α:=Nat) [] (fun i=>i≤l.length∧∀(j:Nat) x,j<i→l[j]?=some x→decide (s=x)=false)
  (fun i=>[(0,.slice (l.map .str)),(1,.str s),(7,.int .i64 l.length),(8,.int .i64 i)]) (fun _=>st) (fun i=>l.length - i) (by decide +kernel)
  ⟨0,⟨by omega,by intro j x h;omega⟩,aP.mk (by simp -implicitDefEqProofs only[aB,↓aX,seval])⟩ ?_
 intro i ⟨hi,c9⟩
 simp -implicitDefEqProofs only[aB,seval]
 refine⟨fun h5=>?_,fun h5=>?_⟩
 case refine_2=>
  simp -implicitDefEqProofs only[aB,seval]
  simp only[cI,gT] at h5
  have:(l.any fun x=>decide (s=x))=false:=by
   rw[List.any_eq_false]
   intro x hx
   obtain⟨j,hj⟩:=CH hx
   simp [c9 j x (by have:=(fD.1 hj).1;omega) hj]
  rw[this]
  exact⟨_,rfl,rfl⟩
 simp only[bL,gT] at h5
 obtain⟨x,hx⟩:∃x,l[i]?=some x:=⟨_,eQ h5⟩
 simp -implicitDefEqProofs only[bJ (av:=AV.str) vX hx rfl,aB,seval,aI8]
 refine⟨fun h6=>?_,fun h6=>?_⟩
 · simp -implicitDefEqProofs only[aB,seval]
   have:(l.any fun x=>decide (s=x))=true:=by
    rw[List.any_eq_true]
    exact⟨x,cL hx,h6⟩
   rw[this]
   exact⟨_,rfl,by simp⟩
 simp -implicitDefEqProofs only[aB,seval]
 refine⟨i+1,by omega,⟨by omega,fun j u hj hu=>?_⟩,aP.mk ?_⟩
 · rcases kN j i with h8 | h8
   · exact c9 j u h8 hu
   · obtain rfl:j=i:=by omega
     rw[hx] at hu;cases hu
     exact h6
 · have:=bK (n:=(i:Int)+1)
   simp -implicitDefEqProofs only[this,aB,seval]
theorem aMM(l:List ByteArray)(s:ByteArray)(st:aA):aD prog 258 [.slice (l.map .str),.str s] st (fun r st'=>r=.bool (l.any fun x=>decide (s=x))∧st'=st):=by
 refine wF [] 2 func258 ntmps258 rfl rfl ?_
 intro _
 simp -implicitDefEqProofs only[aB,seval]
 refine(aMT l s st).mono ?_
 rintro _ _ ⟨⟨k,rfl,hk⟩,rfl⟩
 simp -implicitDefEqProofs only[aB,seval]
 rw[←hk]
theorem LW(l:List ByteArray)(s:ByteArray)(st:aA):aD prog 258 [.fslice (l.map .str),.str s] st (fun r st'=>r=.bool (l.any fun x=>decide (s=x))∧st'=st):=
 aD.FF (by simp only[nJ,AV.soft];exact aMM l s st)
theorem aNT(l:List ByteArray)(s:ByteArray)(st:aA):aD prog 284 [.fslice (l.map .str),.str s] st (fun r st'=>r=.bool (l.any fun x=>decide (x=s))∧st'=st):=
 aD.FF (by simp only[nJ,AV.soft];exact aNS l s st)
def EX(s:ByteArray):Bool:=s9 s||uP.any fun x=>decide (s=x)
theorem aLU(s:ByteArray):(uP.any fun x=>decide (x=s))=uP.any fun x=>decide (s=x):=by
 congr 1
 funext x
 exact decide_eq_decide.2 ⟨Eq.symm,Eq.symm⟩
theorem aNL(s:ByteArray)(st:aA):aD prog 245 [.str s] st (fun r st'=>r=.bool (EX s)∧st'=st):=by
 refine wF [] 1 func245 ntmps245 rfl rfl ?_
 intro _
 repeat' (first
  | (simp -implicitDefEqProofs only[*,aB,seval])
  | (refine cT (fun h=>?_) (fun h=>?_))
  | (refine(SR s st).to ?_) | (refine(aO0 st).to ?_) | (refine(LW uP s st).to ?_)
  | (refine aT (fun h=>?_) (fun h=>?_)))
 all_goals simp only[EX, *,tM,y8,sC]
theorem aOV(s:ByteArray)(st:aA):aD prog 262 [.str s] st (fun r st'=>r=.bool (EX s)∧st'=st):=by
 refine wF [] 1 func262 ntmps262 rfl rfl ?_
 intro _
 repeat' (first
  | (simp -implicitDefEqProofs only[*,aB,seval])
  | (refine cT (fun h=>?_) (fun h=>?_))
  | (refine(SZ s st).to ?_) | (refine(aNX st).to ?_) | (refine(aNT uP s st).to ?_)
  | (refine aT (fun h=>?_) (fun h=>?_)))
 all_goals simp only[EX,aLU, *,tM,y8,sC]
end Go.AW
namespace Go.AW
def eH(k n:Int)(s:ByteArray)(len:Int):Bool:=
 cond (decide (k=1)) (decide ((0:Int)≤n)&&decide (n≤25)&&decide (s=⟨#[]⟩)&&decide (len=0))
  (cond (decide (k=2)) (decide ((-999:Int)≤n)&&decide (n≤999)&&decide (s=⟨#[]⟩)&&decide (len=0))
   (cond (decide (k=3)) (decide (n=0)&&EX s&&decide (len≤4)) false))
mutual
def Tm.shape:Tm→Int→Bool
 | .mk k n s ts,d=>decide (1≤d)&&eH k n s ts.length&&KB ts (d - 1)
def KB:List Tm→Int→Bool
 | [],_=>true
 | t::ts,d=>t.shape d&&KB ts d
end
theorem aJ7:∀(ts:List Tm) (d:Int),KB ts d=ts.all fun t=>t.shape d
 | [],_=>rfl
 | t::ts,d=>by simp only[KB,iS,aJ7 ts d]
theorem Tm.FC(k n:Int)(s:ByteArray)(ts:List Tm)(d:Int):(Tm.mk k n s ts).shape d=(decide (1≤d)&&eH k n s ts.length&&ts.all fun t=>t.shape (d - 1)):=by simp only[Tm.shape,aJ7]
mutual
def Tm.nodes:Tm→Nat
 | .mk _ _ _ ts=>1+J7 ts
def J7:List Tm→Nat
 | []=>0
 | t::ts=>t.nodes+J7 ts
end
theorem aJ3:∀(ts:List Tm),J7 ts=aM Tm.nodes ts
 | []=>rfl
 | t::ts=>by simp only[J7,aM,aJ3 ts]
theorem Tm.jS(k n:Int)(s:ByteArray)(ts:List Tm):(Tm.mk k n s ts).nodes=1+aM Tm.nodes ts:=by simp only[Tm.nodes,aJ3]
def Tm.valid(t:Tm):Bool:=t.shape 30&&decide (t.nodes≤120)
mutual
def Tm.vars:Tm→List Int→List Int
 | .mk k n _ ts,l=>bR ts (if k=1∧n∉l then l++ [n] else l)
def bR:List Tm→List Int→List Int
 | [],l=>l
 | t::ts,l=>bR ts (t.vars l)
end
mutual
theorem Tm.CD:∀(t:Tm) (l:List Int),(t.vars l).length≤l.length+t.nodes
 | .mk k n s ts,l=>by
  have h:=wQ ts (if k=1∧n∉l then l++ [n] else l)
  have h2:(if k=1∧n∉l then l++ [n] else l).length≤l.length+1:=by split<;>simp
  rw[Tm.vars,Tm.jS]
  omega
theorem wQ:∀(ts:List Tm) (l:List Int),(bR ts l).length≤l.length+aM Tm.nodes ts
 | [],l=>by simp [bR,aM]
 | t::ts,l=>by
  have h1:=Tm.CD t l
  have h2:=wQ ts (t.vars l)
  simp only[bR,aM]
  omega
end
def eE(v:Int):List Int→Int→Int
 | [],_=> -1
 | x::xs,i=>if v=x then i else eE v xs (i+1)
theorem aGW(v:Int):∀(l:List Int) (i:Int),0≤i→(0≤eE v l i↔v∈l)
 | [],i,h=>by simp [eE]
 | x::xs,i,h=>by
  simp only[eE,cP]
  split
  · rename_i e;simp [e,h]
  · rename_i e;rw[aGW v xs (i+1) (by omega)];simp [e]
theorem kO{st:aA}{b x:Nat}{l:List AV}{o:AO}(h:l≠[]→x≠b):(bE st b l).aC x o=bE (st.aC x o) b l:=by
 cases l with
 | nil=>rfl
 | cons y l=>exact aA.nN _ _ _ (dA (h (by simp)))
theorem GO{st:aA}{b x:Nat}{l:List AV}{o:AO}(hx:st x=none)(h:l≠[]→(st.aC x o) b=none):aL (bE (st.aC x o) b l) (bE st b l)∧(l≠[]→st b=none):=by
 cases l with
 | nil=>exact⟨(aL.refl _).aC hx,fun h=>absurd rfl h⟩
 | cons y l=>
  have hb:=h (by simp)
  have hne:b≠x:=by rintro rfl;rw[aA.aH] at hb;cases hb
  rw[aA.aF _ _ hne] at hb
  refine⟨?_,fun _=>hb⟩
  simp only[bE]
  rw[aA.nN _ _ _ (dA hne)]
  exact(aL.refl _).aC (by rw[aA.aF _ _ (dA hne)];exact hx)
theorem RF{P:Program}{t:TypeId}{ag:Bool}{w b i:Nat}{l:List AV}{x:AV}(hI:eI P t=some (ag,w))(h:l[i]?=some x):dG P t (bQ w b l) (.int .i64 (i:Int))=some (.ptr b (i*w)):=by
 have hi:=(fD.1 h).1
 rw[rB (by rintro rfl;simp at hi)]
 exact n6 hI hi
theorem RH{st:aA}{b i:Nat}{l:List Int}{x:Int}(h:l[i]?=some x):bE st b (l.map iv) b=some (.cells (l.map iv))∧(l.map iv)[i]?=some (iv x):=by
 have hi:=(fD.1 h).1
 have hne:l.map iv≠[]:=by rintro e;rw[List.map_eq_nil_iff] at e;subst e;simp at hi
 have hfl:(l.map iv).flatMap AV.cells=l.map iv:=by
  clear h hi hne
  induction l with
  | nil=>rfl
  | cons y l ih=>simp only[bH,qR,ih];rfl
 exact⟨by rw[jE hne,hfl,aA.aH],by rw[lX,h];try rfl⟩
mutual
def Tm.wf:Tm→Bool
 | .mk k _ _ ts=>(!decide (k=1)||ts.isEmpty)&&KF ts
def KF:List Tm→Bool
 | []=>true
 | t::ts=>t.wf&&KF ts
end
theorem P6:∀(ts:List Tm),KF ts=ts.all Tm.wf
 | []=>rfl
 | t::ts=>by simp only[KF,iS,P6 ts]
theorem Tm.QH{k n:Int}{s:ByteArray}{ts:List Tm}(h:(Tm.mk k n s ts).wf=true):(k=1→ts= [])∧∀x∈ts,x.wf=true:=by
 simp only[Tm.wf,P6,cK,oJ,gH,cI,List.isEmpty_iff,eL] at h
 exact⟨fun hk=>h.1.resolve_left (fun hn=>hn hk),h.2⟩
theorem Tm.FZ{t:Tm}(h:t.valid=true):t.nodes≤120:=by simp only[Tm.valid,cK,bL] at h;exact h.2
def j0(S:aA)(c b:Nat)(hd:List AV)(l:List AV):aA:=bE (S.aC c (.cells (hd++ [bQ 4 b l]))) b l
theorem kW{S:aA}{c b:Nat}{hd l:List AV}(hb:l≠[]→(S.aC c (.cells (hd++ [bQ 4 b l]))) b=none):j0 S c b hd l c=some (.cells (hd++ [bQ 4 b l])):=by
 unfold j0
 cases l with
 | nil=>simp only[bE,aA.aH]
 | cons y l=>
  have h:=hb (by simp)
  have hne:c≠b:=fun e=>by rw[←e,aA.aH] at h;cases h
  rw[iW hne,aA.aH]
theorem uH{S:aA}{c b b':Nat}{hd l l':List AV}(hb:l'≠[]→(S.aC c (.cells (hd++ [bQ 4 b l]))) b'=none) :
 (bE (S.aC c (.cells (hd++ [bQ 4 b l]))) b' l').aC c (.cells (hd++ [bQ 4 b' l']))=j0 S c b' hd l'∧(l'≠[]→(S.aC c (.cells (hd++ [bQ 4 b' l']))) b'=none)∧bE (S.aC c (.cells (hd++ [bQ 4 b l]))) b' l' c=some (.cells (hd++ [bQ 4 b l])):=by
 have hne:l'≠[]→c≠b':=fun h e=>by have:=hb h;rw[←e,aA.aH] at this;cases this
 refine⟨?_,fun h=>?_,?_⟩
 · rw[kO hne,d4];try rfl
 · have:=hb h
   rw[aA.aF _ _ (dA (hne h))] at this ⊢
   exact this
 · cases l' with
   | nil=>simp only[bE,aA.aH]
   | cons y l=>rw[iW (hne (by simp)),aA.aH]
theorem mR{S:aA}{c b x:Nat}{hd l:List AV}(hb:l≠[]→(S.aC c (.cells (hd++ [bQ 4 b l]))) b=none)(hx:S x≠none)(hxc:x≠c):j0 S c b hd l x=S x:=by
 unfold j0
 cases l with
 | nil=>simp only[bE,aA.aF _ _ hxc]
 | cons y l=>
  have h:=hb (by simp)
  have hne:x≠b:=fun e=>by
   rw[←e,aA.aF _ _ hxc] at h
   exact hx h
  rw[iW hne,aA.aF _ _ hxc]
theorem sZ{S:aA}{c b x:Nat}{hd l:List AV}{o:AO}(hb:l≠[]→(S.aC c (.cells (hd++ [bQ 4 b l]))) b=none)(hx:S x≠none)(hxc:x≠c):(j0 S c b hd l).aC x o=bE ((S.aC c (.cells (hd++ [bQ 4 b l]))).aC x o) b l∧(l≠[]→((S.aC c (.cells (hd++ [bQ 4 b l]))).aC x o) b=none):=by
 have hne:l≠[]→x≠b:=fun h e=>by
  have:=hb h
  rw[←e,aA.aF _ _ hxc] at this
  exact hx this
 refine⟨by unfold j0;rw[kO hne],fun h=>by rw[aA.aF _ _ (dA (hne h))];exact hb h⟩
theorem aG1{S:aA}{c b x:Nat}{hd l:List AV}{o:AO}(hb:l≠[]→(S.aC c (.cells (hd++ [bQ 4 b l]))) b=none)(hx:S x≠none)(hxc:x≠c) :
 (j0 S c b hd l).aC x o=j0 (S.aC x o) c b hd l∧(l≠[]→((S.aC x o).aC c (.cells (hd++ [bQ 4 b l]))) b=none):=by
 have hne:l≠[]→x≠b:=fun h e=>by
  have:=hb h
  rw[←e,aA.aF _ _ hxc] at this
  exact hx this
 refine⟨by unfold j0;rw[kO hne,aA.nN _ _ _ (dA hxc)],fun h=>?_⟩
 have:=hb h
 rw[aA.nN _ _ _ hxc,aA.aF _ _ (dA (hne h))]
 exact this
theorem aTQ{S T:aA}{c b:Nat}{hd l:List AV}(D:aL (S.aC c (.cells (hd++ [bQ 4 b l]))) T)(hb:l≠[]→(S.aC c (.cells (hd++ [bQ 4 b l]))) b=none):aL (j0 S c b hd l) T:=
 D.bE fun h=>(D b).1 (hb h)
theorem aA.wS{st:aA}{b c:Nat}{a z a':AO}(h:b≠c):((st.aC c a).aC b z).aC c a'=(st.aC b z).aC c a':=by rw[aA.nN _ _ _ (dA h),d4]
theorem iC(l:List Tm):∀e∈l.map Tm.av,e.width=4:=by intro e h;simp only[cE] at h;obtain⟨t,_,rfl⟩:=h;exact aN t
theorem qL(l:List Tm):∀e∈l.map Tm.av,e.b9=false:=by intro e h;simp only[cE] at h;obtain⟨t,_,rfl⟩:=h;exact Tm.eO t
end Go.AW
namespace Go.AW
open Go.Proofs.Tryz
mutual
def Tm.small:Tm→Bool
 | .mk _ _ _ ts=>decide (ts.length≤1048576)&&KC ts
def KC:List Tm→Bool
 | []=>true
 | t::ts=>t.small&&KC ts
end
theorem FT:∀(ts:List Tm),KC ts=ts.all Tm.small
 | []=>rfl
 | t::ts=>by simp only[KC,iS,FT ts]
theorem Tm.pI{k n:Int}{s:ByteArray}{ts:List Tm}(h:(Tm.mk k n s ts).small=true):ts.length≤1048576∧∀x∈ts,x.small=true:=by
 simpa [Tm.small,FT] using h
abbrev JZ:=zi tI_3 (zi zI_3 (zi aZ (zi tI_28 (zi zI_28 (zi aQ (zi bM (zi bO (zi cA (zi tI_52 (zi zI_52 (zi bX (zi bY (zi bZ (zi b7 bV))))))))))))))
theorem IZ(l:List Tm)(st:aA)(hb:l.length≤1048576)(hc:∀x∈l,∀(st:aA),aD prog 137 [Tm.av x] st (Made st (Tm.av x))) :
 aD prog 97 [.slice (l.map Tm.av)] st (Made st (.slice (l.map Tm.av))):=by
 have hws:∀e∈l.map Tm.av,e.width=4:=fun e he=>by simp only[cE] at he;obtain⟨t,_,rfl⟩:=he;exact aN t
 refine wF [] 1 func97 ntmps97 rfl rfl ?_
 intro _
 simp -implicitDefEqProofs only[aE,aB,seval,JZ]
 refine dW (σ:=List AV×List Nat×Nat×aA) [] [2,6,7] l (fun i p=>qP (l.map Tm.av) st i p.1 p.2.1 p.2.2.1 p.2.2.2) (fun i p=>[(3,bQ 4 p.2.2.1 p.1),(8,.int .i64 i)]) (fun _ p=>p.2.2.2) (by decide +kernel)
  ⟨([],[],0,st),qP.start,aP.mk (by simp -implicitDefEqProofs only[kP,aB,↓aX,seval])⟩ (fun i x p hx hlt bF hdr hinv=>?_) (fun p hge hinv=>?_)
 case refine_2=>
  obtain⟨os,bs,b,s⟩:=p
  simp -implicitDefEqProofs only[hge,aB,seval]
  exact hinv.done (aE _) hws
 obtain⟨os,bs,b,s⟩:=p
 simp only at hinv
 have hw:=bK (n:=(i:Int)+1)
 have sX:∀zs:List AV,zs.length=4→aS zs 0 (Tm.av x).cells=(Tm.av x).cells:=fun zs h=>wH (Tm.fG x) h
 simp -implicitDefEqProofs only[bF,bJ (av:=Tm.av) aQ hx (aN x),bU,aN,Tm.fG,Tm.d8,d4,sX,aB,seval,JZ]
 intro b2 hb2
 try simp -implicitDefEqProofs only[dP,Tm.fG,pJ (Tm.fG x),oO (bU x),cQ,sX,d4,Tm.d8,aB,↓aX,seval,JZ]
 refine(hc x (cL hx) _).mono ?_
 rintro r s2 ⟨bx,m1,m2,m3,m4⟩
 obtain⟨f1,f2,f3⟩:=m3.MG (aN x) (Tm.d8 x)
 have hra:r.isAgg=true:=by rw[(aR.shape m3).1,bU]
 have hrj:r.b9=false:=(aR.shape m3).2.2.1
 simp -implicitDefEqProofs only[f1,hra,hrj,aB,seval,JZ]
 have hlen:os.length=i:=hinv.1
 have NV:∀e∈os,e.width=4:=fun e he=>by
  obtain⟨k,hk,rfl⟩:=List.getElem_of_mem he
  exact hinv.2.1.yV (fun q hq=>hws q (nP hq)) _ he
 have hkb:os≠[]→s2 b=some (.cells (os.flatMap AV.cells)):=fun hne=>by
  have h:=(hinv.2.2.2.2.1 hne).2.2
  have hbx:b∉bx:=fun hq=>by
   have:=m2 b hq
   have uC:b≠b2:=fun e=>by rw[e,hb2] at h;cases h
   rw[aA.aF _ _ uC,h] at this;cases this
  have uC:b≠b2:=fun e=>by rw[e,hb2] at h;cases h
  rw[m4 b hbx,aA.aF _ _ uC,h]
 refine RE aQ bM bO rfl rfl (g9 f1 f3) NV hkb (by simp only[bA,bS,hlen];omega) (by simp only[bA,bS,hlen];omega) (fun b' s' k1 k2 k3 k4=>?_)
 have rS:=hinv.step hb2 (show(l.map Tm.av)[i]?=some (Tm.av x) by rw[lX,hx];try rfl) m1 m2 m3 m4 (k1 (by simp)) (k2 (by simp)) (fun q h1 h2=>k3 q (fun _=>h1) h2) k4
 simp -implicitDefEqProofs only[hw,aB,seval]
 exact⟨(os++ [r],bs++bx,b',s'.erase b2),rS,aP.drop (iZ _ _) (by simp -implicitDefEqProofs only[aB,seval])⟩
abbrev aJW:=zi tI_28 (zi zI_28 (zi aQ (zi bM (zi bO (zi cA (zi tI_52 (zi zI_52 (zi bX (zi bY (zi bZ (zi b7 bV)))))))))))
theorem EZ:∀(t:Tm) (st:aA),t.small=true→aD prog 137 [t.av] st (Made st t.av)
 | .mk k n s ts,st,hb=>by
  obtain⟨hb1,hb2⟩:=Tm.pI hb
  have hc:=fun st=>IZ ts st hb1 fun x hx st=>EZ x st (hb2 x hx)
  refine aD.BG ?_
  refine wF [1] 1 func137 ntmps137 rfl rfl ?_
  intro _
  simp only[a7]
  simp -implicitDefEqProofs only[aB,seval,aJW]
  intro b aRA b2 H5
  have hne:b2≠b:=by rintro rfl;rw[aA.aH] at H5;cases H5
  have hn2:st b2=none:=by rw[aA.aF st _ hne] at H5;exact H5
  simp -implicitDefEqProofs only[dP,hne.symm,aB,seval]
  refine(hc _).mono ?_
  rintro q s2 ⟨bs,m1,m2,m3,m4⟩
  have hbb:b∉bs:=fun h=>by have:=m2 b h;simp [dP,hne.symm] at this
  have nZ:b2∉bs:=fun h=>by have:=m2 b2 h;simp [dP] at this
  have e1:=m4 b hbb
  have e2:=m4 b2 nZ
  simp only[dP,hne,hne.symm,d3,cM] at e1 e2
  have hqc:q.cells= [q]:=by have:=(aR.shape m3).1;cases q<;>first | rfl | simp [AV.isAgg] at this
  have hqs:q.storable=true:=by
   have:=m3
   simp only[aR] at this
   rcases this with ⟨_,rfl,_⟩ | ⟨_,_,_,_,rfl,_⟩<;>rfl
  simp -implicitDefEqProofs only[dP,hne,e1,e2,hqc,hqs,aS,aB,seval,aJW]
  refine⟨[b,b2],bs,m1,fun x hx=>?_,?_,?_,?_⟩
  · have:=m2 x hx
    have h1:x≠b:=fun e=>hbb (e▸hx)
    have h2:x≠b2:=fun e=>nZ (e▸hx)
    simpa [dP,h1,h2] using this
  · simp [aRA,hn2,hbb,nZ]
  · rw[←a7]
    refine BT.2 ⟨q,rfl,aR.aV _ _ _ (fun x hx=>?_) m3⟩
    have h1:x≠b:=fun e=>hbb (e▸hx)
    have h2:x≠b2:=fun e=>nZ (e▸hx)
    simp only[dP,h1,h2,cM]
  · intro x hx hd
    simp only[cP,dI,dN,jJ] at hd
    simp only[dP,hd.1,hd.2,cM]
    rw[m4 x hx]
    simp only[dP,hd.1,hd.2,cM]
termination_by t=>SizeOf.sizeOf t
decreasing_by have:=List.sizeOf_lt_of_mem hx;simp only[Tm.mk.sizeOf_spec];omega
abbrev yQ:=zi tI_3 (zi zI_3 (zi aZ (zi tI_9 (zi zI_9 (zi eF (zi tI_28 (zi zI_28 (zi aQ (zi bM (zi bO (zi cA (zi tI_52 (zi zI_52 (zi bX (zi bY (zi bZ (zi b7 bV)))))))))))))))))
theorem GZ:∀(t:Tm) (st:aA),t.small=true→aD prog 112 [t.av] st (fun r st'=>r=t.av∧st'=st)
 | .mk k n s ts,st,hsm=>by
  obtain⟨hlen,p8⟩:=Tm.pI hsm
  have IH:=fun(x:Tm) (hx:x∈ts) st=>GZ x st (p8 x hx)
  refine aD.rH (aD.fin ?_)
  simp only[a7]
  refine wF [] 1 func112 ntmps112 rfl rfl ?_
  simp only[dK,AV.fits,dZ,aE]
  intro ⟨_,_,_,hl,_⟩
  simp -implicitDefEqProofs only[aB,seval,yQ]
  intro b2 hb2 c hc
  have hne:c≠b2:=by rintro rfl;rw[aA.aH] at hc;cases hc
  have hn2:st c=none:=by rw[aA.aF st _ hne] at hc;exact hc
  simp -implicitDefEqProofs only[aS,aB,seval]
  refine dW (σ:=Nat) [] [1,2,3] ts (fun i b=>(((ts.take i).map (fun y=>y)).map Tm.av≠[]→(aA.aC (st.aC b2 (.cells [AV.int .i64 0,AV.int .i64 0,AV.str ⟨#[]⟩,AV.fslice []])) c (.cells ([AV.int .i64 k,AV.int .i64 n,AV.str s]++ [bQ 4 b (((ts.take i).map (fun y=>y)).map Tm.av)]))) b=none)) (fun i b=>[(4,.int .i64 i)]) (fun i b=>j0 (st.aC b2 (.cells [AV.int .i64 0,AV.int .i64 0,AV.str ⟨#[]⟩,AV.fslice []])) c b [AV.int .i64 k,AV.int .i64 n,AV.str s] (((ts.take i).map (fun y=>y)).map Tm.av)) (by decide +kernel)
   ⟨0,fun h=>absurd rfl h,aP.mk (by simp -implicitDefEqProofs only[aB,↓aX,seval])⟩ (fun i x b hx hlt bF hdr hinv=>?_) (fun b hge hinv=>?_)
  case refine_1=>
   have hw:=bK (n:=(i:Int)+1)
   have dH:(((ts.take i).map (fun y=>y)).map Tm.av).length=i:=by simp only[aE,dY];omega
   have htk:(ts.take (i+1)).map (fun y=>y)=(ts.take i).map (fun y=>y)++ [(fun y=>y) x]:=by rw[f8,hx];simp
   have hbo:=kW hinv
   simp -implicitDefEqProofs only[aE,bF,aB,seval,yQ]
   refine wP [(0,1),(2,1),(4,1),(1,2),(3,2),(5,1),(6,2),(7,2),(8,1),(9,0),(10,1),(11,0)] [0,2,4,1,3,5,6,7,8,10] mixed ?_
   simp -implicitDefEqProofs only[bJ (av:=Tm.av) aQ hx (aN x),bU,aN,hbo,rA,gN,aB,seval,yQ]
   refine jW (IH x (cL hx) _) ?_
   simp -implicitDefEqProofs only[bU,aN,Tm.eO,gN,aB,seval,yQ]
   refine fT aQ bM bO rfl rfl (g9 (aN _) (Tm.d8 _)) (iC _) hinv (by simp only[dH,bA,bS];omega) (by simp only[dH,bA,bS];omega) (fun b' hb'=>?_)
   rw[show(((ts.take i).map (fun y=>y)).map Tm.av)++ [((fun y=>y) x).av]=((ts.take (i+1)).map (fun y=>y)).map Tm.av by rw[htk];simp] at hb' ⊢
   obtain⟨g1,g2,g3⟩:=uH hb'
   simp only[gF,e9] at g1 g3
   simp -implicitDefEqProofs only[g3,pS,jF,aS,g1,hw,aB,seval,yQ]
   exact⟨b',g2,aP.mk (by simp -implicitDefEqProofs only[aB,seval])⟩
  have hbo:=kW hinv
  rw[eM] at hinv hbo ⊢
  simp -implicitDefEqProofs only[aE,hge,aB,seval,yQ]
  simp -implicitDefEqProofs only[hbo,aB,seval,yQ]
  have o7:b2≠c:=dA hne
  have hS:(st.aC b2 (.cells [AV.int .i64 0,AV.int .i64 0,AV.str ⟨#[]⟩,AV.fslice []])) b2≠none:=by rw[aA.aH];simp
  have h1:=mR hinv hS o7
  rw[aA.aH] at h1
  simp -implicitDefEqProofs only[h1,jF,aS,aB,seval]
  obtain⟨h2,h3⟩:=sZ (o:=.cells [AV.int .i64 k,AV.int .i64 n,AV.str s,bQ 4 b ((ts.map fun y=>y).map Tm.av)]) hinv hS o7
  refine⟨b,_,_,h2,h3,qL _,⟨4,iC _⟩,?_,?_⟩
  · simp only[g7,bH,bG,fQ,nW,m9,List.map_id']
  · exact(((aL.refl _).aC hb2).aC hn2).aC hb2
termination_by t=>SizeOf.sizeOf t
decreasing_by have:=List.sizeOf_lt_of_mem hx;simp only[Tm.mk.sizeOf_spec];omega
end Go.AW
namespace Go.AW
def Tm.k:Tm→Int | .mk k _ _ _=>k
def Tm.n:Tm→Int | .mk _ n _ _=>n
def Tm.s:Tm→ByteArray | .mk _ _ s _=>s
def Tm.ts:Tm→List Tm | .mk _ _ _ ts=>ts
theorem Tm.eta(t:Tm):t=.mk t.k t.n t.s t.ts:=by cases t;rfl
def vr(n:Int):Tm:=.mk 1 n ⟨#[]⟩ []
mutual
def Tm.aJ(f:Int→Tm):Tm→Tm
 | .mk k n s ts=>if k=1 then f n else .mk k n s (J5 f ts)
def J5(f:Int→Tm):List Tm→List Tm
 | []=>[]
 | t::ts=>t.aJ f::J5 f ts
end
theorem aJ1(f:Int→Tm):∀ts:List Tm,J5 f ts=ts.map (Tm.aJ f)
 | []=>rfl
 | t::ts=>by simp only[J5,bH,aJ1 f ts]
theorem Tm.l9(f:Int→Tm){k n:Int}{s:ByteArray}{ts:List Tm}(h:k=1):(Tm.mk k n s ts).aJ f=f n:=by simp only[Tm.aJ,h,d3]
theorem Tm.kX(f:Int→Tm){k n:Int}{s:ByteArray}{ts:List Tm}(h:k≠1):(Tm.mk k n s ts).aJ f=.mk k n s (ts.map (Tm.aJ f)):=by simp only[Tm.aJ,h,cM,aJ1]
theorem uI(f:Int→Tm)(n:Int):(vr n).aJ f=f n:=Tm.l9 f rfl
mutual
def Tm.vl:Tm→List Int
 | .mk k n _ ts=>if k=1 then[n] else FU ts
def FU:List Tm→List Int
 | []=>[]
 | t::ts=>t.vl++FU ts
end
theorem aKA{v:Int}:∀ {ts:List Tm},v∈FU ts↔∃t∈ts,v∈t.vl
 | []=>by simp [FU]
 | t::ts=>by simp [FU,aKA (ts:=ts)]
theorem Tm.mH{k n:Int}{s:ByteArray}{ts:List Tm}(h:k=1):(Tm.mk k n s ts).vl= [n]:=by simp only[Tm.vl,h,d3]
theorem Tm.kL{k n v:Int}{s:ByteArray}{ts:List Tm}(h:k≠1):v∈(Tm.mk k n s ts).vl↔∃t∈ts,v∈t.vl:=by simp only[Tm.vl,h,cM,aKA]
theorem wU(n:Int):(vr n).vl= [n]:=Tm.mH rfl
theorem Tm.ind{p:Tm→Prop}(h:∀k n s ts,(∀t∈ts,p t)→p (.mk k n s ts)):∀t,p t
 | .mk k n s ts=>h k n s ts fun t ht=>Tm.ind h t
termination_by t=>SizeOf.sizeOf t
decreasing_by have:=List.sizeOf_lt_of_mem ht;simp only[Tm.mk.sizeOf_spec];omega
theorem pE{f g:Int→Tm}:∀(t:Tm),(∀v∈t.vl,f v=g v)→t.aJ f=t.aJ g:=by
 intro t
 induction t using Tm.ind with
 | h k n s ts ih=>
  intro h
  by_cases hk:k=1
  · rw[Tm.l9 f hk,Tm.l9 g hk];exact h n (by rw[Tm.mH hk];simp)
  · rw[Tm.kX f hk,Tm.kX g hk]
    congr 1
    exact pO fun x hx=>ih x hx fun v hv=>h v ((Tm.kL hk).2 ⟨x,hx,hv⟩)
theorem wB(f g:Int→Tm)(t:Tm):(t.aJ f).aJ g=t.aJ fun v=>(f v).aJ g:=by
 induction t using Tm.ind with
 | h k n s ts ih=>
  by_cases hk:k=1
  · rw[Tm.l9 f hk,Tm.l9 _ hk]
  · rw[Tm.kX f hk,Tm.kX g hk,Tm.kX _ hk,vF]
    congr 1
    exact pO fun x hx=>ih x hx
theorem wT{f:Int→Tm}{w:Int}(t:Tm):w∈(t.aJ f).vl↔∃v∈t.vl,w∈(f v).vl:=by
 induction t using Tm.ind with
 | h k n s ts ih=>
  by_cases hk:k=1
  · rw[Tm.l9 f hk,Tm.mH hk];simp
  · rw[Tm.kX f hk,Tm.kL hk]
    constructor
    · rintro⟨x,hx,hw⟩
      obtain⟨y,hy,rfl⟩:=cE.1 hx
      obtain⟨v,hv,hvw⟩:=(ih y hy).1 hw
      exact⟨v,(Tm.kL hk).2 ⟨y,hy,hv⟩,hvw⟩
    · rintro⟨v,hv,hw⟩
      obtain⟨y,hy,hvy⟩:=(Tm.kL hk).1 hv
      exact⟨_,cE.2 ⟨y,hy,rfl⟩,(ih y hy).2 ⟨v,hvy,hw⟩⟩
theorem aUJ{f:Int→Tm}{v:Int}:∀(t:Tm),v∈t.vl→(f v).nodes≤(t.aJ f).nodes∧(t.k≠1→(f v).nodes<(t.aJ f).nodes):=by
 intro t
 induction t using Tm.ind with
 | h k n s ts ih=>
  intro hv
  by_cases hk:k=1
  · rw[Tm.mH hk] at hv
    simp only[cP,dI,dN] at hv
    subst hv
    rw[Tm.l9 f hk]
    exact⟨cQ _,fun h=>absurd hk h⟩
  · obtain⟨x,hx,hvx⟩:=(Tm.kL hk).1 hv
    have h1:=(ih x hx hvx).1
    have h2:=qF (f:=Tm.nodes) (cE.2 ⟨x,hx,rfl⟩:x.aJ f∈ts.map (Tm.aJ f))
    rw[Tm.kX f hk,Tm.jS]
    omega
abbrev Sub:=Int→Option Tm
def Sub.set(σ:Sub)(n:Int)(t:Tm):Sub:=fun m=>if m=n then some t else σ m
def Sub.none:Sub:=fun _=>Option.none
structure Good (σ:Sub) (R:Int→Tm) (rk:Int→Nat) (B:Nat):Prop where
 uR:∀n,R n=match σ n with | some u=>u.aJ R | .none=>vr n
 E4:∀n u,σ n=some u→∀w∈u.vl,rk w<rk n
 bd:∀n,rk n<B
def pQ(θ:Int→Tm)(σ:Sub):Prop:=∀n u,σ n=some u→θ n=u.aJ θ
section
variable {σ:Sub} {R R':Int→Tm} {rk rk':Int→Nat} {B B':Nat}
theorem Good.none:Good Sub.none vr (fun _=>0) 1:=⟨fun n=>rfl,fun n u h=>(by cases h),fun n=>Nat.zero_lt_one⟩
theorem Good.free(G:Good σ R rk B){n:Int}(h:σ n=.none):R n=vr n:=by rw[G.uR n,h]
theorem Good.bound(G:Good σ R rk B){n:Int}{u:Tm}(h:σ n=some u):R n=u.aJ R:=by rw[G.uR n,h]
theorem Good.uG(G:Good σ R rk B):pQ R σ:=fun n u h=>G.bound h
theorem Good.ind(G:Good σ R rk B){p:Int→Prop}(h0:∀n,σ n=.none→p n)(h1:∀n u,σ n=some u→(∀w∈u.vl,p w)→p n):∀n,p n:=by
 intro n
 generalize hk:rk n=k
 induction k using Nat.strongRecOn generalizing n with
 | _ k ih=>
  cases h:σ n with
  | none=>exact h0 n h
  | some u=>exact h1 n u h fun w hw=>ih (rk w) (hk▸G.E4 n u h w hw) w rfl
theorem Good.uniq(G:Good σ R rk B)(G':Good σ R' rk' B'):R=R':=by
 funext n
 refine G.ind (p:=fun n=>R n=R' n) (fun n h=>?_) (fun n u h ih=>?_) n
 · rw[G.free h,G'.free h]
 · rw[G.bound h,G'.bound h];exact pE u ih
theorem Good.aQI(G:Good σ R rk B){θ:Int→Tm}(S:pQ θ σ)(n:Int):(R n).aJ θ=θ n:=by
 refine G.ind (p:=fun n=>(R n).aJ θ=θ n) (fun n h=>?_) (fun n u h ih=>?_) n
 · rw[G.free h,uI]
 · rw[G.bound h,wB,S n u h];exact pE u ih
theorem Good.MU(G:Good σ R rk B){θ:Int→Tm}(S:pQ θ σ)(t:Tm):(t.aJ R).aJ θ=t.aJ θ:=by
 rw[wB];exact pE t fun v _=>G.aQI S v
theorem Good.canon(G:Good σ R rk B)(n:Int):(R n).aJ vr=R n:=by
 refine G.ind (p:=fun n=>(R n).aJ vr=R n) (fun n h=>?_) (fun n u h ih=>?_) n
 · rw[G.free h,uI]
 · rw[G.bound h,wB];exact pE u ih
theorem Good.aO8(G:Good σ R rk B)(t:Tm):(t.aJ R).aJ vr=t.aJ R:=by
 rw[wB];exact pE t fun v _=>G.canon v
theorem Good.bind(G:Good σ R rk B){n:Int}{t:Tm}(hn:σ n=.none)(ho:n∉(t.aJ R).vl) :
 ∃rk' B',Good (σ.set n t) (fun m=>(R m).aJ fun v=>if v=n then t.aJ R else vr v) rk' B':=by
 have key:(t.aJ R).aJ (fun v=>if v=n then t.aJ R else vr v)=t.aJ R:=by
  rw[pE (g:=vr) (t.aJ R) (fun v hv=>aG fun e=>ho (by rw[←e];exact hv)),G.aO8]
 refine⟨fun v=>if n∈(R v).vl then rk v+B else rk v,B+B,fun m=>?_,fun m u h w hw=>?_,fun m=>?_⟩
 · by_cases hm:m=n
   · subst hm
     simp only[Sub.set,d3]
     rw[G.free hn,uI,aK rfl]
     rw[←wB,key]
   · simp only[Sub.set,hm,cM]
     cases h:σ m with
     | none=>rw[G.free h,uI,aG hm]
     | some u=>rw[G.bound h,wB]
 · by_cases hm:m=n
   · subst hm
     simp only[Sub.set,d3,Option.some.injEq] at h
     subst h
     have hw':m∉(R w).vl:=fun h=>ho ((wT t).2 ⟨w,hw,h⟩)
     have:m∈(R m).vl:=by rw[G.free hn,wU];simp
     have:=G.bd w
     simp only[hw',cM]
     rw[aK (by assumption)]
     omega
   · simp only[Sub.set,hm,cM] at h
     have h1:=G.E4 m u h w hw
     by_cases hw':n∈(R w).vl
     · have:n∈(R m).vl:=by rw[G.bound h];exact(wT u).2 ⟨w,hw,hw'⟩
       simp only[hw',this,d3];omega
     · simp only[hw',cM];split<;>omega
 · have:=G.bd m
   split<;>omega
end
open Classical in
noncomputable def rs(σ:Sub):Int→Tm:=if h:∃R rk B,Good σ R rk B then h.choose else vr
theorem Good.rs{σ:Sub}{R:Int→Tm}{rk:Int→Nat}{B:Nat}(G:Good σ R rk B):rs σ=R:=by
 unfold AW.rs
 have h:∃R rk B,Good σ R rk B:=⟨R,rk,B,G⟩
 rw[dif_pos h]
 obtain⟨rk',B',G'⟩:=h.choose_spec
 exact G'.uniq G
inductive fF (σ:Sub):Nat→Tm→Tm→Prop
 | stop {t:Tm} (h:t.k=1→σ t.n=none):fF σ 0 t t
 | go {f:Nat} {t u v:Tm} (h1:t.k=1) (h2:σ t.n=some u) (h3:fF σ f u v):fF σ (f+1) t v
theorem fF.det{σ:Sub}{f g:Nat}{t u v:Tm}(h:fF σ f t u):fF σ g t v→u=v:=by
 induction h generalizing g v with
 | stop h=>
  intro h'
  cases h' with
  | stop=>rfl
  | go h1 h2 h3=>rw[h h1] at h2;cases h2
 | go h1 h2 h3 ih=>
  intro h'
  cases h' with
  | stop h=>rw[h h1] at h2;cases h2
  | go h1' h2' h3'=>rw[h2] at h2';cases h2';exact ih h3'
theorem fF.total{σ:Sub}{R:Int→Tm}{rk:Int→Nat}{B:Nat}(G:Good σ R rk B)(t:Tm):∃f u,fF σ f t u:=by
 have key:∀n,∀t:Tm,t.k=1→t.n=n→∃f u,fF σ f t u:=by
  intro n
  refine G.ind (p:=fun n=>∀t:Tm,t.k=1→t.n=n→∃f u,fF σ f t u) (fun n h t hk hn=>?_) (fun n u h ih t hk hn=>?_) n
  · exact⟨0,t,.stop fun _=>by rw[hn,h]⟩
  · by_cases hu:u.k=1
    · have:u.n∈u.vl:=by rw[Tm.eta u,Tm.mH hu];simp [Tm.n]
      obtain⟨f,v,hv⟩:=ih u.n this u hu rfl
      exact⟨f+1,v,.go hk (by rw[hn,h]) hv⟩
    · exact⟨1,u,.go hk (by rw[hn,h]) (.stop fun h=>absurd h hu)⟩
 by_cases hk:t.k=1
 · exact key t.n t hk rfl
 · exact⟨0,t,.stop fun h=>absurd h hk⟩
theorem Tm.CE{t:Tm}(h:t.k=1):t.vl= [t.n]:=by cases t;exact Tm.mH h
theorem Tm.BI{t:Tm}(f:Int→Tm)(h:t.k=1):t.aJ f=f t.n:=by cases t;exact Tm.l9 f h
theorem Tm.qA{t:Tm}(f:Int→Tm)(h:t.k≠1):t.aJ f=.mk t.k t.n t.s (t.ts.map (Tm.aJ f)):=by cases t;exact Tm.kX f h
theorem fF.end{σ:Sub}{f:Nat}{t u:Tm}(h:fF σ f t u):u.k=1→σ u.n=none:=by induction h with | stop h=>exact h | go _ _ _ ih=>exact ih
theorem fF.aJ{σ:Sub}{θ:Int→Tm}(S:pQ θ σ){f:Nat}{t u:Tm}(h:fF σ f t u):u.aJ θ=t.aJ θ:=by
 induction h with
 | stop=>rfl
 | go h1 h2 _ ih=>rw[ih,Tm.BI θ h1,S _ _ h2]
theorem fF.E4{σ:Sub}{R:Int→Tm}{rk:Int→Nat}{B:Nat}(G:Good σ R rk B){f:Nat}{t u:Tm}(h:fF σ f t u):∀w∈u.vl,∃v∈t.vl,rk w≤rk v∧(f≠0→rk w<rk v):=by
 induction h with
 | stop h=>exact fun w hw=>⟨w,hw,cQ _,fun h=>absurd rfl h⟩
 | @go f t u v h1 h2 _ ih=>
  intro w hw
  obtain⟨x,hx,hle,_⟩:=ih w hw
  have:=G.E4 _ _ h2 x hx
  exact⟨t.n,by rw[Tm.CE h1];simp,by omega,fun _=>by omega⟩
theorem fF.all{σ:Sub}{p:Tm→Prop}(hp:∀n u,σ n=some u→p u){f:Nat}{t u:Tm}(h:fF σ f t u)(ht:p t):p u:=by
 induction h with
 | stop=>exact ht
 | go _ h2 _ ih=>exact ih (hp _ _ h2)
open Classical in
noncomputable def wk(σ:Sub)(t:Tm):Tm:=if h:∃u f,fF σ f t u then h.choose else t
theorem fF.wk{σ:Sub}{f:Nat}{t u:Tm}(h:fF σ f t u):wk σ t=u:=by
 unfold AW.wk
 have h':∃u f,fF σ f t u:=⟨u,f,h⟩
 rw[dif_pos h']
 obtain⟨g,hg⟩:=h'.choose_spec
 exact hg.det h
theorem Good.wk{σ:Sub}{R:Int→Tm}{rk:Int→Nat}{B:Nat}(G:Good σ R rk B)(t:Tm):∃f,fF σ f t (wk σ t):=by
 obtain⟨f,u,h⟩:=fF.total G t
 exact⟨f,by rw[h.wk];exact h⟩
open Classical in
noncomputable def iY(σ:Sub)(n:Int)(t:Tm):Bool×Sub×List Int:=if n∈(t.aJ (rs σ)).vl then(false,σ,[]) else(true,σ.set n t,[n])
open Classical in
def sT(a b:Tm):Bool:=decide (a.k=b.k)&&decide (a.n=b.n)&&decide (a.s=b.s)&&decide (a.ts.length=b.ts.length)
mutual
noncomputable def cV:Nat→Sub→Tm→Tm→Option (Bool×Sub×List Int)
 | 0,_,_,_=>none
 | g+1,σ,a,b=>
  if(wk σ a).k=1∧(wk σ b).k=1∧(wk σ a).n=(wk σ b).n then some (true,σ,[])
  else if(wk σ a).k=1 then some (iY σ (wk σ a).n (wk σ b))
  else if(wk σ b).k=1 then some (iY σ (wk σ b).n (wk σ a))
  else if sT (wk σ a) (wk σ b)=true then dM g σ (wk σ a).ts (wk σ b).ts
  else some (false,σ,[])
termination_by g=>(g,0)
noncomputable def dM:Nat→Sub→List Tm→List Tm→Option (Bool×Sub×List Int)
 | g,σ,a::xs,b::ys=>match cV g σ a b with
  | none=>none
  | some (false,σ',tr)=>some (false,σ',tr)
  | some (true,σ',tr)=>match dM g σ' xs ys with
   | none=>none
   | some (r,σ'',tr')=>some (r,σ'',tr++tr')
 | _,σ,_,_=>some (true,σ,[])
termination_by g _ xs=>(g,xs.length+1)
end
theorem KJ{g:Nat}{σ σ':Sub}{a b:Tm}{r:Bool}{add:List Int}(h:cV (g+1) σ a b=some (r,σ',add)) :
 ((wk σ a).k=1∧(wk σ b).k=1∧(wk σ a).n=(wk σ b).n∧true=r∧σ=σ'∧[]=add) ∨
 ((wk σ a).k=1∧¬((wk σ b).k=1∧(wk σ a).n=(wk σ b).n)∧iY σ (wk σ a).n (wk σ b)=(r,σ',add)) ∨
 ((wk σ a).k≠1∧(wk σ b).k=1∧iY σ (wk σ b).n (wk σ a)=(r,σ',add)) ∨
 ((wk σ a).k≠1∧(wk σ b).k≠1∧sT (wk σ a) (wk σ b)=true∧dM g σ (wk σ a).ts (wk σ b).ts=some (r,σ',add)) ∨
 ((wk σ a).k≠1∧(wk σ b).k≠1∧sT (wk σ a) (wk σ b)=false∧false=r∧σ=σ'∧[]=add):=by
 rw[cV] at h
 split at h
 · rename_i h1;exact .inl ⟨h1.1,h1.2.1,h1.2.2,by simpa using h⟩
 · rename_i h1
   split at h
   · rename_i h2;exact .inr (.inl ⟨h2,fun h3=>h1 ⟨h2,h3⟩,lE h⟩)
   · rename_i h2
     split at h
     · rename_i h3;exact .inr (.inr (.inl ⟨h2,h3,lE h⟩))
     · rename_i h3
       split at h
       · rename_i h4;exact .inr (.inr (.inr (.inl ⟨h2,h3,h4,h⟩)))
       · rename_i h4;exact .inr (.inr (.inr (.inr ⟨h2,h3,by simpa using h4,by simpa using h⟩)))
theorem Tm.soft(t:Tm):t.av.soft=t.av:=by cases t;simp [a7,AV.soft,nJ]
theorem Tm.xO(t:Tm)(b:Nat):t.av.fin b []=t.av:=Tm.soft t
abbrev Bd:=Int×Tm
def aFB:List Bd→Int→Option Tm
 | [],_=>none
 | (m,x)::r,n=>if m=n then some x else aFB r n
def O8(bs:List Bd)(n:Int):Tm:=(aFB bs n).getD (vr n)
def Tm.zero:Tm:=.mk 0 0 ⟨#[]⟩ []
mutual
def Tm.cv:Tm→Bool
 | .mk k _ s ts=>(!decide (k=1)||(decide (s=⟨#[]⟩)&&ts.isEmpty))&&J2 ts
def J2:List Tm→Bool
 | []=>true
 | t::ts=>t.cv&&J2 ts
end
theorem aJY:∀(ts:List Tm),J2 ts=ts.all Tm.cv
 | []=>rfl
 | t::ts=>by simp only[J2,iS,aJY ts]
theorem Tm.oU{k n:Int}{s:ByteArray}{ts:List Tm}:(Tm.mk k n s ts).cv=true↔(k=1→s=⟨#[]⟩∧ts= [])∧∀x∈ts,x.cv=true:=by
 simp only[Tm.cv,aJY,cK,oJ,gH,cI,List.isEmpty_iff,eL,bL]
 constructor
 · exact fun h=>⟨fun hk=>h.1.resolve_left (fun hn=>hn hk),h.2⟩
 · intro h
   refine⟨?_,h.2⟩
   by_cases hk:k=1
   · exact .inr (h.1 hk)
   · exact .inl hk
theorem Tm.sK:∀(t:Tm),t.cv=true→t.wf=true:=by
 intro t
 induction t using Tm.ind with
 | h k n s ts ih=>
  intro h
  obtain⟨h1,h2⟩:=Tm.oU.1 h
  simp only[Tm.wf,P6,cK,oJ,gH,cI,List.isEmpty_iff,eL]
  refine⟨?_,fun x hx=>ih x hx (h2 x hx)⟩
  by_cases hk:k=1
  · exact .inr (h1 hk).2
  · exact .inl hk
theorem Tm.aVS:∀(t:Tm) (d:Int),t.shape d=true→t.small=true:=by
 intro t
 induction t using Tm.ind with
 | h k n s ts ih=>
  intro d h
  rw[Tm.FC] at h
  simp only[cK,eL] at h
  obtain⟨⟨_,h1⟩,h2⟩:=h
  simp only[Tm.small,FT,cK,bL,eL]
  refine⟨?_,fun x hx=>ih x hx _ (h2 x hx)⟩
  unfold eH at h1
  cases h3:decide (k=1)<;>rw[h3] at h1
  · cases h4:decide (k=2)<;>rw[h4] at h1
    · cases h5:decide (k=3)<;>rw[h5] at h1<;>simp at h1;omega
    · simp at h1;rw[h1.2];simp
  · simp at h1;rw[h1.2];simp
theorem Tm.KN{t:Tm}(h:t.valid=true):t.small=true:=by simp only[Tm.valid,cK] at h;exact Tm.aVS t 30 h.1
def rU{α:Type}(p:α→Bool):List α→Int→Int
 | [],_=> -1
 | x::xs,i=>if p x=true then i else rU p xs (i+1)
theorem aGX{α:Type}(p:α→Bool):∀(l:List α) (i:Int),0≤i→(rU p l i= -1∧l.any p=false)∨∃(j:Nat) (x:α),rU p l i=i+j∧l[j]?=some x∧p x=true∧l.any p=true∧∀(k:Nat) y,k<j→l[k]?=some y→p y=false
 | [],i,_=>.inl ⟨rfl,rfl⟩
 | x::xs,i,h=>by
  by_cases hp:p x=true
  · exact .inr ⟨0,x,by simp [rU,hp],rfl,hp,by simp [hp],fun k y hk=>absurd hk (Nat.not_lt_zero k)⟩
  · rcases aGX p xs (i+1) (by omega) with ⟨h1,h2⟩ | ⟨j,y,h1,h2,h3,h4,h5⟩
    · exact .inl ⟨by simp [rU,hp,h1],by simp [hp,h2]⟩
    · refine .inr ⟨j+1,y,by simp only[rU,hp,h1];simp;omega,by simpa using h2,h3,by simp [h4],fun k z hk hz=>?_⟩
      cases k with
      | zero=>simp at hz;subst hz;simpa using hp
      | succ k=>exact h5 k z (by omega) (by simpa using hz)
theorem aTF{α:Type}(p:α→Bool)(l:List α):decide (0≤rU p l 0)=l.any p:=by
 rcases aGX p l 0 (Int.le_refl 0) with ⟨h1,h2⟩ | ⟨j,y,h1,_,_,h4,_⟩
 · rw[h1,h2];try rfl
 · rw[h1,h4];simp
end Go.AW
namespace Go.AW
open Go.Proofs.Tryz
abbrev aWY:=zi tI_3 (zi zI_3 (zi aZ (zi tI_4 (zi zI_4 (zi cG (zi tI_9 (zi zI_9 (zi eF (zi tI_28 (zi zI_28 (zi aQ (zi bM (zi bO (zi cA (zi tI_52 (zi zI_52 (zi bX (zi bY (zi bZ (zi b7 bV))))))))))))))))))))
theorem aNV(k n:Int)(s:ByteArray)(ts:List Tm)(st:aA):aD prog 240 [(Tm.mk k n s ts).av] st (fun r st'=>r=.bool (eH k n s ts.length)∧st'=st):=by
 refine wF [] 1 func240 ntmps240 rfl rfl ?_
 intro _
 simp only[a7]
 have hl:(ts.map Tm.av).length=ts.length:=aE _
 repeat' (first
  | (simp -implicitDefEqProofs only[*,aB,seval,aWY])
  | (refine cT (fun h=>?_) (fun h=>?_))
  | (refine(aOV s st).to ?_)
  | (refine aT (fun h=>?_) (fun h=>?_)))
 all_goals simp only[eH, *,cond_true,cond_false,mY,iL,lV,wY,y7]
abbrev JN:=zi tI_3 (zi zI_3 (zi aZ (zi tI_4 (zi zI_4 (zi cG (zi tI_28 (zi zI_28 (zi aQ (zi bM (zi bO (zi cA (zi tI_52 (zi zI_52 (zi bX (zi bY (zi bZ (zi b7 bV)))))))))))))))))
theorem SY:∀(t:Tm) (d:Int) (st:aA),d≤30→-1≤d→aD prog 195 [t.av,.int .i64 d] st (fun r st'=>r=.bool (t.shape d)∧st'=st)
 | .mk k n s ts,d,st,hd,hd0=>by
  have hc:=fun(x:Tm) (hx:x∈ts) d st h h0=>SY x d st h h0
  have h1:=aNV k n s ts st
  rw[a7] at h1
  refine wF [] 2 func195 ntmps195 rfl rfl ?_
  simp only[a7,dK,AV.fits,dZ,aE,Tm.FC]
  intro ⟨_,_,_,hl,_⟩
  generalize eH k n s ts.length=z at *
  simp -implicitDefEqProofs only[aB,seval,JN]
  refine cT (fun h=>?_) (fun h=>?_)
  case refine_2=>
   simp -implicitDefEqProofs only[h,aB,seval]
   simp only[tM,bL] at h
   simp;omega
  simp -implicitDefEqProofs only[h,aB,seval,JN]
  refine h1.to ?_
  simp -implicitDefEqProofs only[aB,seval]
  refine⟨fun h2=>?_,fun h2=>?_⟩
  · simp -implicitDefEqProofs only[aB,seval]
    simp only[gH] at h2
    simp [h2]
  simp only[jY,cI] at h2 h
  subst h2
  have hw:=bK (n:=d - 1)
  rw[show decide (1≤d)=true by simp;omega]
  simp -implicitDefEqProofs only[aB,seval]
  refine oI (α:=Nat) [] (fun i=>i≤ts.length∧∀(j:Nat) x,j<i→ts[j]?=some x→x.shape (d - 1)=true)
   (fun i=>[(1,.int .i64 d),(2,.pptr (.agg [.int .i64 k,.int .i64 n,.str s,.slice (ts.map Tm.av)])),(5,.int .i64 i)]) (fun _=>st) (fun i=>ts.length - i) (by decide +kernel)
   ⟨0,⟨by omega,by intro j x h;omega⟩,aP.mk (by simp -implicitDefEqProofs only[aB,↓aX,seval])⟩ ?_
  intro i ⟨hi,c9⟩
  simp -implicitDefEqProofs only[aE,aB,seval,JN]
  refine⟨fun h5=>?_,fun h5=>?_⟩
  case refine_2=>
   simp -implicitDefEqProofs only[aB,seval]
   simp only[cI,gT] at h5
   rw[GP fun j x hx=>c9 j x (by have:=(fD.1 hx).1;omega) hx]
  simp only[bL,gT] at h5
  obtain⟨x,hx⟩:∃x,ts[i]?=some x:=⟨_,eQ h5⟩
  simp -implicitDefEqProofs only[bJ (av:=Tm.av) aQ hx (aN x),bU,aN,hw,aB,seval,JN]
  refine(hc x (cL hx) (d - 1) st (by omega) (by omega)).to ?_
  simp -implicitDefEqProofs only[aB,seval]
  refine⟨fun h6=>?_,fun h6=>?_⟩
  · simp -implicitDefEqProofs only[aB,seval]
    simp only[gH] at h6
    rw[tT hx h6]
  simp only[jY] at h6
  simp -implicitDefEqProofs only[aB,seval]
  refine⟨i+1,by omega,⟨by omega,fun j u hj hu=>?_⟩,aP.mk ?_⟩
  · rcases kN j i with h8 | h8
    · exact c9 j u h8 hu
    · obtain rfl:j=i:=by omega
      rw[hx] at hu;cases hu;exact h6
  · have:=bK (n:=(i:Int)+1)
    simp -implicitDefEqProofs only[this,aB,seval]
termination_by t=>SizeOf.sizeOf t
decreasing_by have:=List.sizeOf_lt_of_mem hx;simp only[Tm.mk.sizeOf_spec];omega
abbrev PQ:=zi tI_3 (zi zI_3 (zi aZ (zi tI_28 (zi zI_28 (zi aQ (zi bM (zi bO (zi cA (zi tI_52 (zi zI_52 (zi bX (zi bY (zi bZ (zi b7 bV))))))))))))))
theorem SW:∀(t:Tm) (m:Int) (st:aA),0≤m→m≤120→aD prog 196 [t.av,.int .i64 m] st (fun r st'=>r=.int .i64 (min (t.nodes:Int) (m+1))∧st'=st)
 | .mk k n s ts,m,st,hm0,hm=>by
  have hc:=fun(x:Tm) (hx:x∈ts) m st h h0=>SW x m st h h0
  refine wF [] 2 func196 ntmps196 rfl rfl ?_
  simp only[a7,dK,AV.fits,dZ,aE,Tm.jS]
  intro ⟨_,_,_,hl,_⟩
  simp -implicitDefEqProofs only[aB,seval,PQ]
  refine oI (α:=Nat) [] (fun i=>i≤ts.length)
   (fun i=>[(1,.int .i64 m),(2,.pptr (.agg [.int .i64 k,.int .i64 n,.str s,.slice (ts.map Tm.av)])),(5,.int .i64 (min ((1+aM Tm.nodes (ts.take i):Nat):Int) (m+1))),(6,.int .i64 i)]) (fun _=>st) (fun i=>ts.length - i) (by decide +kernel)
   ⟨0,by omega,aP.mk (by simp -implicitDefEqProofs only[lC,aM,show min ((0:Int)+1) (m+1)=1 by omega,t0,↓F7,↓reduceIte,reduceCtorEq,Nat.reduceEqDiff,Nat.reduceAdd])⟩ ?_
  intro i hi
  simp -implicitDefEqProofs only[aE,aB,seval,PQ]
  have NK:¬i<ts.length→aM Tm.nodes (ts.take i)=aM Tm.nodes ts:=fun h=>by rw[nQ (by omega)]
  refine cT (fun h5=>?_) (fun h5=>?_)
  case refine_2=>
   simp -implicitDefEqProofs only[h5,aB,seval]
   simp only[mY,cI,gT] at h5
   rw[NK h5]
  simp -implicitDefEqProofs only[h5,aB,seval]
  simp only[bL,gT] at h5
  obtain⟨x,hx⟩:∃x,ts[i]?=some x:=⟨_,eQ h5⟩
  have hs:=uT Tm.nodes hx
  refine⟨fun h6=>?_,fun h6=>?_⟩
  case refine_2=>
   simp -implicitDefEqProofs only[aB,seval]
   simp only[cI] at h6
   simp only[AV.int.injEq,true_and]
   omega
  simp only[bL] at h6
  have e6:min (((1+aM Tm.nodes (ts.take i):Nat):Int)) (m+1)=((1+aM Tm.nodes (ts.take i):Nat):Int):=by omega
  rw[e6] at h6 ⊢
  have hw:=bK (n:=m - ((1+aM Tm.nodes (ts.take i):Nat):Int))
  simp -implicitDefEqProofs only[bJ (av:=Tm.av) aQ hx (aN x),bU,aN,hw,aB,seval,PQ]
  refine(hc x (cL hx) _ st (by omega) (by omega)).to ?_
  have hw2:=bK (n:=((1+aM Tm.nodes (ts.take i):Nat):Int)+min (x.nodes:Int) (m - ((1+aM Tm.nodes (ts.take i):Nat):Int)+1))
  simp -implicitDefEqProofs only[hw2,aB,seval]
  refine⟨i+1,by omega,by omega,aP.mk ?_⟩
  have:=bK (n:=(i:Int)+1)
  simp -implicitDefEqProofs only[this,show((1+aM Tm.nodes (ts.take i):Nat):Int)+min (x.nodes:Int) (m - ((1+aM Tm.nodes (ts.take i):Nat):Int)+1)=min ((1+aM Tm.nodes (ts.take (i+1)):Nat):Int) (m+1) by omega,aB,seval]
termination_by t=>SizeOf.sizeOf t
decreasing_by have:=List.sizeOf_lt_of_mem hx;simp only[Tm.mk.sizeOf_spec];omega
abbrev aJC:=zi tI_3 (zi zI_3 (zi aZ (zi tI_4 (zi zI_4 (zi cG (zi tI_30 (zi zI_30 (zi lM (zi lN (zi lO (zi lP (zi lQ (zi lR (zi lK (zi tI_52 (zi zI_52 (zi bX (zi bY (zi bZ (zi b7 (zi bV (zi tI_120 (zi zI_120 (zi AU (zi AX AA)))))))))))))))))))))))))
theorem L9(t:Tm)(st:aA):aD prog 154 [t.av] st (fun r st'=>r=.bool t.valid∧st'=st):=by
 refine wF [] 1 func154 ntmps154 rfl rfl ?_
 intro _
 simp -implicitDefEqProofs only[Tm.eO,bU,aN,aB,seval,aJC]
 refine(SY t 30 st (by omega) (by omega)).to ?_
 simp -implicitDefEqProofs only[aB,seval]
 refine cT (fun h=>?_) (fun h=>?_)
 · simp -implicitDefEqProofs only[h,bU,aN,aB,seval,aJC]
   refine(SW t 120 st (by omega) (by omega)).to ?_
   simp -implicitDefEqProofs only[aB,seval]
   simp only[Tm.valid,h,iL,AV.bool.injEq,decide_eq_decide]
   omega
 · simp -implicitDefEqProofs only[h,aB,seval]
   simp at h
   simp [Tm.valid,h]
abbrev aWW:=zi tI_3 (zi zI_3 (zi aZ (zi tI_4 (zi zI_4 (zi cG (zi tI_9 (zi zI_9 (zi eF (zi tI_28 (zi zI_28 (zi aQ (zi bM (zi bO (zi cA (zi tI_52 (zi zI_52 (zi bX (zi bY (zi bZ (zi b7 bV))))))))))))))))))))
theorem S3(k n:Int)(s:ByteArray)(ts:List Tm)(st:aA):aD prog 163 [(Tm.mk k n s ts).av] st (fun r st'=>r=.bool (decide (k=3)&&decide (s=⟨#[33]⟩)&&decide ((ts.length:Int)=0))∧st'=st):=by
 refine wF [] 1 func163 ntmps163 rfl rfl ?_
 intro _
 simp only[a7]
 repeat' (first
  | (simp -implicitDefEqProofs only[*,aB,seval,aWW])
  | (refine cT (fun h=>?_) (fun h=>?_))
  | (refine aT (fun h=>?_) (fun h=>?_)))
 all_goals simp only[*,aE,lV]
abbrev aJA:=zi tI_4 (zi zI_4 (zi cG (zi tI_9 (zi zI_9 (zi eF (zi tI_52 (zi zI_52 (zi bX (zi bY (zi bZ (zi b7 bV)))))))))))
theorem SQ(k n:Int)(s:ByteArray)(ts:List Tm)(st:aA):aD prog 184 [(Tm.mk k n s ts).av] st (fun r st'=>r=.bool (decide (k=3)&&decide ((ts.length:Int)=0)&&decide (s=⟨#[33]⟩))∧st'=st):=by
 have h1:=DB k n s ts st
 rw[a7] at h1
 refine wF [] 1 func184 ntmps184 rfl rfl ?_
 intro _
 simp only[a7]
 simp -implicitDefEqProofs only[aB,seval,aJA]
 refine h1.to ?_
 clear h1
 repeat' (first
  | (simp -implicitDefEqProofs only[*,aB,seval,aJA])
  | (refine cT (fun h=>?_) (fun h=>?_))
  | (refine aT (fun h=>?_) (fun h=>?_)))
 all_goals simp_all
abbrev aJB:=zi tI_3 (zi zI_3 (zi aZ (zi tI_4 (zi zI_4 (zi cG (zi tI_9 (zi zI_9 (zi eF (zi tI_28 (zi zI_28 (zi aQ (zi bM (zi bO (zi cA (zi tI_52 (zi zI_52 (zi bX (zi bY (zi bZ (zi b7 bV))))))))))))))))))))
theorem LZ(k n:Int)(s:ByteArray)(ts:List Tm)(st:aA):aD prog 185 [(Tm.mk k n s ts).av] st (fun r st'=>r=.bool (decide (k=3)&&isBuiltin s (ts.length:Int))∧st'=st):=by
 have h1:=aNK s ts.length st
 refine wF [] 1 func185 ntmps185 rfl rfl ?_
 intro _
 simp only[a7]
 simp -implicitDefEqProofs only[aB,seval,aJB]
 refine cT (fun h=>?_) (fun h=>?_)
 · simp -implicitDefEqProofs only[h,aE,aB,seval,aJB]
   refine h1.to ?_
   clear h1
   simp -implicitDefEqProofs only[aB,seval]
 · simp -implicitDefEqProofs only[h,aB,seval]
   simp at h
   simp []
def pG(k:Int)(s:ByteArray)(len:Int):Bool:=decide (k=3)&&s9 s&& !isBuiltin s len&&decide ((kI s:Int)=0)
abbrev aWX:=zi tI_3 (zi zI_3 (zi aZ (zi tI_4 (zi zI_4 (zi cG (zi tI_9 (zi zI_9 (zi eF (zi tI_52 (zi zI_52 (zi bX (zi bY (zi bZ (zi b7 bV))))))))))))))
theorem SS(k n:Int)(s:ByteArray)(ts:List Tm)(st:aA):aD prog 171 [(Tm.mk k n s ts).av] st (fun r st'=>r=.bool (pG k s (ts.length:Int))∧st'=st):=by
 have h1:=LZ k n s ts st
 rw[a7] at h1
 have e:decide ((0:Int)<(kI s:Int))= !decide ((kI s:Int)=0):=by
  by_cases h:kI s=0
  · simp [h]
  · simp [h];omega
 have e3:∀b:Bool,k=3→(decide (k=3)&&b)=b:=fun b h=>by simp [h]
 refine wF [] 1 func171 ntmps171 rfl rfl ?_
 intro _
 simp only[a7]
 repeat' (first
  | (simp -implicitDefEqProofs only[*,aB,seval,aWX])
  | (refine cT (fun h=>?_) (fun h=>?_))
  | (refine(SR s st).to ?_) | (refine(aNP s st).to ?_) | (refine h1.to ?_)
  | (refine aT (fun h=>?_) (fun h=>?_)))
 all_goals (clear h1;simp_all [pG])
abbrev aWU:=zi tI_3 (zi zI_3 (zi aZ (zi tI_4 (zi zI_4 (zi cG (zi tI_9 (zi zI_9 (zi eF (zi tI_28 (zi zI_28 (zi aQ (zi bM (zi bO (zi cA (zi tI_52 (zi zI_52 (zi bX (zi bY (zi bZ (zi b7 bV))))))))))))))))))))
theorem S4(k n:Int)(s:ByteArray)(ts:List Tm)(st:aA):aD prog 155 [(Tm.mk k n s ts).av] st (fun r st'=>r=.bool (pG k s (ts.length:Int))∧st'=st):=by
 refine wF [] 1 func155 ntmps155 rfl rfl ?_
 intro _
 simp only[a7]
 have hl:(ts.map Tm.av).length=ts.length:=aE _
 repeat' (first
  | (simp -implicitDefEqProofs only[*,aB,seval,aWU])
  | (refine cT (fun h=>?_) (fun h=>?_))
  | (refine(SZ s st).to ?_) | (refine(L8 s _ st).to ?_) | (refine(S0 s st).to ?_)
  | (refine aT (fun h=>?_) (fun h=>?_)))
 all_goals simp_all [pG]
def v8(k:Int)(s:ByteArray)(len:Int):Bool:=(decide (k=3)&&decide (s=⟨#[33]⟩)&&decide (len=0))||pG k s len||(decide (k=3)&&isBuiltin s len)
abbrev aWV:=zi tI_3 (zi zI_3 (zi aZ (zi tI_4 (zi zI_4 (zi cG (zi tI_9 (zi zI_9 (zi eF (zi tI_28 (zi zI_28 (zi aQ (zi bM (zi bO (zi cA (zi tI_52 (zi zI_52 (zi bX (zi bY (zi bZ (zi b7 bV))))))))))))))))))))
theorem aN1(k n:Int)(s:ByteArray)(ts:List Tm)(st:aA):aD prog 156 [(Tm.mk k n s ts).av] st (fun r st'=>r=.bool (v8 k s (ts.length:Int))∧st'=st):=by
 have h1:=S3 k n s ts st
 have h2:=S4 k n s ts st
 rw[a7] at h1 h2
 refine wF [] 1 func156 ntmps156 rfl rfl ?_
 intro _
 simp only[a7]
 have hl:(ts.map Tm.av).length=ts.length:=aE _
 unfold v8
 generalize (decide (k=3)&&decide (s=⟨#[33]⟩)&&decide ((ts.length:Int)=0))=z1 at *
 generalize pG k s (ts.length:Int)=z2 at *
 repeat' (first
  | (simp -implicitDefEqProofs only[*,aB,seval,aWV])
  | (refine cT (fun h=>?_) (fun h=>?_))
  | (refine h1.to ?_) | (refine h2.to ?_) | (refine(L8 s _ st).to ?_)
  | (refine aT (fun h=>?_) (fun h=>?_)))
 all_goals (clear h1 h2;simp_all)
theorem aXT{st:aA}{b:Nat}{o:AO}(h:st b=some o):st.aC b o=st:=by
 funext x;simp only[aA.aC];split
 · rename_i e;rw[e,h]
 · rfl
def FB(ok:Bool)(c n:Int)(b:Nat)(st:aA)(r:AV)(st':aA):Prop:=
 ∃c',r=.bool (decide (c+n≤120)&&ok)∧st'=st.aC b (.cells [.int .i64 c'])∧((decide (c+n≤120)&&ok)=true→c'=c+n)
abbrev aWZ:=zi tI_3 (zi zI_3 (zi aZ (zi tI_4 (zi zI_4 (zi cG (zi tI_52 (zi zI_52 (zi bX (zi bY (zi bZ (zi b7 (zi bV (zi tI_240 zI_240)))))))))))))
theorem aOQ(x:Tm)(d c:Int)(b:Nat)(st:aA)(hd: -1000≤d)(hd1:d≤1000)
 (h:aD prog 211 [x.av,.int .i64 (d+1),.ptr b 0] st (FB (x.shape (30 - d)) c x.nodes b st)) :
 aD prog 246 [x.av,.pptr (.int .i64 d),.pptr (.ptr b 0)] st (fun r st'=>∃c',r=.bool (!(decide (c+x.nodes≤120)&&x.shape (30 - d)))∧st'=st.aC b (.cells [.int .i64 c'])∧((decide (c+(x.nodes:Int)≤120)&&x.shape (30 - d))=true→c'=c+x.nodes)):=by
 have hw:=bK (n:=d+1)
 refine wF [] 3 func246 ntmps246 rfl rfl ?_
 intro _
 simp -implicitDefEqProofs only[hw,Tm.eO,bU,aN,aB,seval,aWZ]
 refine h.mono ?_
 rintro _ _ ⟨c',rfl,rfl,hc⟩
 simp -implicitDefEqProofs only[aB,seval]
 refine⟨c',?_⟩
 first | exact hc | exact⟨rfl,rfl,hc⟩ | exact⟨rfl,hc⟩ | trace_state
abbrev aJD:=zi tI_3 (zi zI_3 (zi aZ (zi tI_28 (zi zI_28 (zi aQ (zi bM (zi bO (zi cA (zi tI_52 (zi zI_52 (zi bX (zi bY (zi bZ (zi b7 bV))))))))))))))
theorem aMU(l:List Tm)(d c:Int)(b:Nat)(st:aA)(hd: -1000≤d)(hd1:d≤1000)(hb:st b=some (.cells [.int .i64 c]))(hc0:0≤c)(hc1:c≤120)
 (h:∀x∈l,∀(c:Int) (st:aA),st b=some (.cells [.int .i64 c])→0≤c→c≤120→aD prog 211 [x.av,.int .i64 (d+1),.ptr b 0] st (FB (x.shape (30 - d)) c x.nodes b st)) :
 aD prog 214 [.slice (l.map Tm.av),.func 246 [.pptr (.int .i64 d),.pptr (.ptr b 0)]] st
  (fun r st'=>∃j c',r=.int .i64 j∧decide (0≤j)=(!(decide (c+(aM Tm.nodes l:Int)≤120)&&l.all fun t=>t.shape (30 - d)))∧st'=st.aC b (.cells [.int .i64 c'])∧(decide (0≤j)=false→c'=c+(aM Tm.nodes l:Int))):=by
 refine wF [] 2 func214 ntmps214 rfl rfl ?_
 simp only[dK,AV.fits,dZ,aE]
 intro ⟨hl,_⟩
 simp -implicitDefEqProofs only[aE,aB,seval,aJD]
 refine oI (α:=Nat) [] (fun i=>i≤l.length∧c+(aM Tm.nodes (l.take i):Int)≤120∧∀(j:Nat) x,j<i→l[j]?=some x→x.shape (30 - d)=true)
  (fun i=>[(0,.slice (l.map Tm.av)),(1,.func 246 [.pptr (.int .i64 d),.pptr (.ptr b 0)]),(7,.int .i64 l.length),(8,.int .i64 i)]) (fun i=>st.aC b (.cells [.int .i64 (c+(aM Tm.nodes (l.take i):Int))])) (fun i=>l.length - i) (by decide +kernel)
  ⟨0,⟨by omega,by simp only[lC,aM];omega,by intro j x h;omega⟩,by
   simp only[lC,aM]
   rw[show c+((0:Nat):Int)=c by omega,aXT hb]
   exact aP.mk (by simp -implicitDefEqProofs only[aB,↓aX,seval])⟩ ?_
 intro i ⟨hi,wA,c9⟩
 simp -implicitDefEqProofs only[aB,seval]
 refine⟨fun h5=>?_,fun h5=>?_⟩
 case refine_2=>
  simp -implicitDefEqProofs only[aB,seval]
  simp only[cI,gT] at h5
  rw[nQ (by omega)] at wA ⊢
  have ha:(l.all fun t=>t.shape (30 - d))=true:=GP fun j x hx=>c9 j x (by have:=(fD.1 hx).1;omega) hx
  exact⟨-1,_,rfl,by rw[ha];simp<;>omega,rfl,fun _=>rfl⟩
 simp only[bL,gT] at h5
 obtain⟨x,hx⟩:∃x,l[i]?=some x:=⟨_,eQ h5⟩
 have hs:=uT Tm.nodes hx
 simp -implicitDefEqProofs only[bJ (av:=Tm.av) aQ hx (aN x),bU,aN,aB,seval,aJD]
 refine(aOQ x d (c+(aM Tm.nodes (l.take i):Int)) b _ hd hd1 (h x (cL hx) _ _ (aA.aH _ _ _) (by omega) wA)).mono ?_
 rintro _ _ ⟨c',rfl,rfl,hc'⟩
 simp -implicitDefEqProofs only[d4,aB,seval]
 refine⟨fun h6=>?_,fun h6=>?_⟩
 · simp -implicitDefEqProofs only[aB,seval]
   refine⟨i,c',rfl,?_,rfl,fun h7=>absurd h7 (by simp)⟩
   simp only[gH,Bool.and_eq_false_iff,cI] at h6
   rcases h6 with h6 | h6
   · rw[show decide (c+(aM Tm.nodes l:Int)≤120)=false by simp;omega]
     simp
   · rw[tT hx h6]
     simp
 simp only[jY] at h6
 rw[hc' h6]
 simp only[cK,bL] at h6
 simp -implicitDefEqProofs only[aB,seval]
 refine⟨i+1,by omega,⟨by omega,by omega,fun j u hj hu=>?_⟩,?_⟩
 · rcases kN j i with h8 | h8
   · exact c9 j u h8 hu
   · obtain rfl:j=i:=by omega
     rw[hx] at hu;cases hu;exact h6.2
 · rw[show c+(aM Tm.nodes (l.take i):Int)+(x.nodes:Int)=c+(aM Tm.nodes (l.take (i+1)):Int) by omega]
   have:=bK (n:=(i:Int)+1)
   exact aP.mk (by simp -implicitDefEqProofs only[this,aB,seval])
theorem aMN(l:List Tm)(d c:Int)(b:Nat)(st:aA)(hd: -1000≤d)(hd1:d≤1000)(hb:st b=some (.cells [.int .i64 c]))(hc0:0≤c)(hc1:c≤120)
 (h:∀x∈l,∀(c:Int) (st:aA),st b=some (.cells [.int .i64 c])→0≤c→c≤120→aD prog 211 [x.av,.int .i64 (d+1),.ptr b 0] st (FB (x.shape (30 - d)) c x.nodes b st)) :
 aD prog 172 [.slice (l.map Tm.av),.func 246 [.pptr (.int .i64 d),.pptr (.ptr b 0)]] st
  (fun r st'=>∃c',r=.bool (!(decide (c+(aM Tm.nodes l:Int)≤120)&&l.all fun t=>t.shape (30 - d)))∧st'=st.aC b (.cells [.int .i64 c'])∧((decide (c+(aM Tm.nodes l:Int)≤120)&&l.all fun t=>t.shape (30 - d))=true→c'=c+(aM Tm.nodes l:Int))):=by
 have h1:=aMU l d c b st hd hd1 hb hc0 hc1 h
 refine wF [] 2 func172 ntmps172 rfl rfl ?_
 intro _
 simp -implicitDefEqProofs only[aB,seval]
 refine h1.mono ?_
 rintro _ _ ⟨j,c',rfl,hj,rfl,hc⟩
 simp -implicitDefEqProofs only[aB,seval]
 refine⟨c',by rw[hj],rfl,fun h=>hc (by rw[hj,h];try rfl)⟩
abbrev wM:=zi tI_3 (zi zI_3 (zi aZ (zi tI_4 (zi zI_4 (zi cG (zi tI_9 (zi zI_9 (zi eF (zi tI_25 (zi zI_25 (zi HN (zi HO (zi HP (zi HQ (zi HR (zi HS (zi GV (zi tI_28 (zi zI_28 (zi aQ (zi bM (zi bO (zi cA (zi tI_52 (zi zI_52 (zi bX (zi bY (zi bZ (zi b7 (zi bV (zi tI_240 zI_240)))))))))))))))))))))))))))))))
theorem TF:∀(t:Tm) (d c:Int) (b:Nat) (st:aA),st b=some (.cells [.int .i64 c])→0≤c→c≤120→0≤d→d≤31→aD prog 211 [t.av,.int .i64 d,.ptr b 0] st (FB (t.shape (31 - d)) c t.nodes b st)
 | .mk k n s ts,d,c,b,st,hb,hc0,hc1,hd0,hd1=>by
  have hk:=fun(st:aA) (hb:st b=some (.cells [.int .i64 (c+1)])) (h1:c+1≤120) (h2:d≤30)=>aMN ts d (c+1) b st (by omega) (by omega) hb (by omega) h1 fun x hx c st hb hc0 hc1=>by
   have:=TF x (d+1) c b st hb hc0 hc1 (by omega) (by omega)
   rw[show(31:Int) - (d+1)=30 - d by omega] at this
   exact this
  have hw:=bK (n:=c+1)
  unfold FB
  rw[Tm.jS,Tm.FC]
  refine wF [] 3 func211 ntmps211 rfl rfl ?_
  simp only[a7,dK,AV.fits,dZ,aE]
  intro ⟨_,_,_,hl,_⟩
  simp -implicitDefEqProofs only[hb,aS,hw,aB,seval,wM]
  have hL:(ts.map Tm.av).length=ts.length:=aE _
  have dV:∀(v:Bool),v=(decide (c+((1+aM Tm.nodes ts:Nat):Int)≤120)&&(decide (1≤31 - d)&&eH k n s ts.length&&ts.all fun t=>t.shape (31 - d - 1)))→(v=true→ts= []) →
   ∃c',AV.bool v=AV.bool (decide (c+((1+aM Tm.nodes ts:Nat):Int)≤120)&&(decide (1≤31 - d)&&eH k n s ts.length&&ts.all fun t=>t.shape (31 - d - 1)))∧st.aC b (.cells [.int .i64 (c+1)])=st.aC b (.cells [.int .i64 c'])∧((decide (c+((1+aM Tm.nodes ts:Nat):Int)≤120)&&(decide (1≤31 - d)&&eH k n s ts.length&&ts.all fun t=>t.shape (31 - d - 1)))=true→c'=c+((1+aM Tm.nodes ts:Nat):Int)):=
   fun v h1 h2=>⟨c+1,by rw[h1],rfl,fun h3=>by rw[h2 (h1.trans h3)];simp [aM]⟩
  refine cT (fun h1=>?_) (fun h1=>?_)
  case refine_2=>
   simp -implicitDefEqProofs only[h1,aB,seval]
   simp only[tM,bL] at h1
   refine dV false ?_ (by intro h;cases h)
   rw[show decide (c+((1+aM Tm.nodes ts:Nat):Int)≤120)=false by simp;omega]
   try rfl
  simp -implicitDefEqProofs only[h1,aB,seval,wM]
  refine⟨fun h2=>?_,fun h2=>?_⟩
  · simp -implicitDefEqProofs only[aB,seval]
    simp only[bL] at h2
    refine dV false ?_ (by intro h;cases h)
    rw[show decide (1≤31 - d)=false by simp;omega]
    simp
  simp only[cI] at h1 h2
  rw[show decide (1≤31 - d)=true by simp;omega] at dV ⊢
  simp only[iL] at dV ⊢
  rw[show 31 - d - 1=30 - d by omega] at dV ⊢
  -- no kids
  have aGA:∀q:Bool,(∀h:ts= [],eH k n s ts.length=q)→(ts≠[]→eH k n s ts.length=false)→(q&&decide ((ts.length:Int)=0))=(decide (c+((1+aM Tm.nodes ts:Nat):Int)≤120)&&(eH k n s ts.length&&ts.all fun t=>t.shape (30 - d))):=by
   intro q hq1 hq2
   by_cases ht:ts= []
   · rw[hq1 ht];subst ht
     have e:c+((1+aM Tm.nodes []:Nat):Int)≤120:=by simp only[aM];omega
     rw[sL e]
     simp
   · rw[hq2 ht]
     have:¬(ts.length:Int)=0:=by intro h;exact ht (qQ (by omega))
     rw[vW this]
     simp
  simp -implicitDefEqProofs only[aB,seval,wM]
  refine aT (fun hk1=>?_) (fun hk1=>?_)
  · simp only[bL] at hk1
    subst hk1
    simp -implicitDefEqProofs only[aB,seval,wM]
    refine(xJ _ _ _ _).to ?_
    repeat' (first
     | (simp -implicitDefEqProofs only[*,aB,seval,wM])
     | (refine cT (fun h=>?_) (fun h=>?_))
     | (refine aT (fun h=>?_) (fun h=>?_)))
    all_goals first
     | (refine dV false ?_ (by intro h;cases h);rw[show eH 1 n s ts.length=false by first | (simp only[eH, *,mY,lV,wY];done) | (simp_all [eH];done) | (simp_all [eH];intro a e;have:=h a;omega)];simp;done)
     | (refine dV _ ?_ (fun h=>qQ (by simpa using h));rw[←aGA true (fun h=>by simp_all [eH]) (fun h=>by simp [eH,h])];simp;done)
  simp only[cI] at hk1
  simp -implicitDefEqProofs only[aB,seval]
  refine aT (fun hk2=>?_) (fun hk2=>?_)
  · simp only[bL] at hk2
    subst hk2
    simp -implicitDefEqProofs only[aB,seval,wM]
    refine(xJ _ _ _ _).to ?_
    repeat' (first
     | (simp -implicitDefEqProofs only[*,aB,seval,wM])
     | (refine cT (fun h=>?_) (fun h=>?_))
     | (refine aT (fun h=>?_) (fun h=>?_)))
    all_goals first
     | (refine dV false ?_ (by intro h;cases h);rw[show eH 2 n s ts.length=false by first | (simp only[eH, *,mY,lV,wY];done) | (simp_all [eH];done) | (simp_all [eH];intro a e;have:=h a;omega)];simp;done)
     | (refine dV _ ?_ (fun h=>qQ (by simpa using h));rw[←aGA true (fun h=>by simp_all [eH]) (fun h=>by simp [eH,h])];simp;done)
  simp only[cI] at hk2
  simp -implicitDefEqProofs only[aB,seval]
  refine aT (fun hk3=>?_) (fun hk3=>?_)
  case refine_2=>
   simp only[cI] at hk3
   simp -implicitDefEqProofs only[aB,seval]
   refine dV false ?_ (by intro h;cases h)
   rw[show eH k n s ts.length=false by simp [eH,hk1,hk2,hk3]]
   simp
  simp only[bL] at hk3
  subst hk3
  have hk':=fun st hb=>hk st hb (by omega) (by omega)
  clear hk
  repeat' (first
   | (simp -implicitDefEqProofs only[*,aB,seval,wM])
   | (refine cT (fun h=>?_) (fun h=>?_))
   | (refine(aNL s _).to ?_)
   | (refine aT (fun h=>?_) (fun h=>?_)))
  all_goals first
   | (refine dV false ?_ (by intro h;cases h);rw[show eH 3 n s ts.length=false by(simp_all [eH];done)];simp;done)
   | skip
  refine(hk' _ (aA.aH _ _ _)).mono ?_
  rintro _ _ ⟨c',rfl,rfl,hc'⟩
  simp -implicitDefEqProofs only[d4,aB,seval]
  have ho:eH 3 n s ts.length=true:=by simp_all [eH]
  rw[ho,show c+((1+aM Tm.nodes ts:Nat):Int)=c+1+(aM Tm.nodes ts:Int) by omega]
  simp only[iL,Bool.not_not]
  first | exact⟨c',trivial,rfl,hc'⟩ | exact⟨c',rfl,rfl,hc'⟩
termination_by t=>SizeOf.sizeOf t
decreasing_by have:=List.sizeOf_lt_of_mem hx;simp only[Tm.mk.sizeOf_spec];omega
abbrev aW0:=zi tI_3 (zi zI_3 (zi aZ (zi tI_4 (zi zI_4 (zi cG (zi tI_52 (zi zI_52 (zi bX (zi bY (zi bZ (zi b7 (zi bV (zi tI_240 zI_240)))))))))))))
theorem SP(t:Tm)(st:aA):aD prog 170 [t.av] st (fun r st'=>r=.bool t.valid∧st'=st):=by
 have hd:aD prog 170 [t.av] st (fun r st'=>aL st' st∧r=.bool t.valid):=by
  refine wF [] 1 func170 ntmps170 rfl rfl ?_
  intro _
  simp -implicitDefEqProofs only[Tm.eO,bU,aN,aB,seval,aW0]
  intro b hb
  simp -implicitDefEqProofs only[aS,aB,seval]
  refine(TF t 1 0 b _ (aA.aH _ _ _) (by omega) (by omega) (by omega) (by omega)).mono ?_
  rintro _ _ ⟨c',rfl,rfl,_⟩
  simp -implicitDefEqProofs only[d4,t0,↓reduceIte]
  refine⟨(aL.refl st).aC hb,?_⟩
  simp only[Tm.valid,AV.bool.injEq]
  rw[Bool.and_comm,show(31:Int) - 1=30 from rfl]
  congr 1
  simp only[decide_eq_decide]
  omega
 exact hd.drop
def Tm.goal:Tm→Bool
 | .mk k n s ts=>(Tm.mk k n s ts).valid&&v8 k s ts.length
abbrev aJE:=zi tI_4 (zi zI_4 (zi cG (zi tI_52 (zi zI_52 (zi bX (zi bY (zi bZ (zi b7 bV))))))))
theorem TG:∀(t:Tm) (st:aA),aD prog 126 [t.av] st (fun r st'=>r=.bool t.goal∧st'=st)
 | .mk k n s ts,st=>by
  have h1:=L9 (.mk k n s ts) st
  have h2:=aN1 k n s ts st
  rw[show(Tm.mk k n s ts).goal=((Tm.mk k n s ts).valid&&v8 k s ts.length) from rfl]
  generalize (Tm.mk k n s ts).valid=z at *
  rw[a7] at *
  refine wF [] 1 func126 ntmps126 rfl rfl ?_
  intro _
  simp -implicitDefEqProofs only[aB,seval,aJE]
  refine h1.to ?_
  simp -implicitDefEqProofs only[aB,seval]
  refine cT (fun h=>?_) (fun h=>?_)
  · simp -implicitDefEqProofs only[h,aB,seval,aJE]
    refine h2.to ?_
    simp -implicitDefEqProofs only[aB,seval]
  · simp -implicitDefEqProofs only[h,aB,seval]
    simp at h
    simp []
abbrev aW1:=zi tI_4 (zi zI_4 (zi cG (zi tI_52 (zi zI_52 (zi bX (zi bY (zi bZ (zi b7 bV))))))))
theorem aNJ:∀(t:Tm) (st:aA),aD prog 174 [t.av] st (fun r st'=>r=.bool t.goal∧st'=st)
 | .mk k n s ts,st=>by
  have h1:=SP (.mk k n s ts) st
  have h2:=SS k n s ts st
  have h3:=LZ k n s ts st
  have h4:=SQ k n s ts st
  rw[show(Tm.mk k n s ts).goal=((Tm.mk k n s ts).valid&&v8 k s ts.length) from rfl]
  unfold v8
  generalize (Tm.mk k n s ts).valid=z at *
  generalize pG k s (ts.length:Int)=z2 at *
  generalize (decide (k=3)&&isBuiltin s (ts.length:Int))=z3 at *
  rw[show(decide (k=3)&&decide (s=⟨#[33]⟩)&&decide ((ts.length:Int)=0))=(decide (k=3)&&decide ((ts.length:Int)=0)&&decide (s=⟨#[33]⟩)) from by cases decide (k=3)<;>cases decide (s=⟨#[33]⟩)<;>cases decide ((ts.length:Int)=0)<;>rfl]
  generalize (decide (k=3)&&decide ((ts.length:Int)=0)&&decide (s=⟨#[33]⟩))=z4 at *
  rw[a7] at *
  refine wF [] 1 func174 ntmps174 rfl rfl ?_
  intro _
  repeat' (first
   | (simp -implicitDefEqProofs only[*,aB,seval,aW1])
   | (refine cT (fun h=>?_) (fun h=>?_))
   | (refine h1.to ?_) | (refine h2.to ?_) | (refine h3.to ?_) | (refine h4.to ?_)
   | (refine aT (fun h=>?_) (fun h=>?_)))
  all_goals (clear h1 h2 h3 h4;simp_all)
abbrev aJV:=zi tI_3 (zi zI_3 (zi aZ (zi tI_28 (zi zI_28 (zi aQ (zi bM (zi bO (zi cA (zi tI_52 (zi zI_52 (zi bX (zi bY (zi bZ (zi b7 bV))))))))))))))
theorem aMR(l:List Tm)(g:FuncId)(dJ:List AV)(p:Tm→Bool)(st:aA)(hc:∀x∈l,aD prog g ([Tm.av x]++dJ) st (fun r st'=>r=.bool (p x)∧st'=st)) :
 aD prog 214 [.slice (l.map Tm.av),.func g dJ] st (fun r st'=>∃j:Int,r=.int .i64 j∧decide (0≤j)=l.any p∧st'=st):=by
 refine wF [] 2 func214 ntmps214 rfl rfl ?_
 simp only[dK,AV.fits,dZ,aE]
 intro ⟨hl,_⟩
 simp -implicitDefEqProofs only[aE,aB,seval,aJV]
 refine dW (σ:=Unit) [] [0,1,7] l (fun i _=>(l.drop i).any p=l.any p) (fun i _=>[(8,.int .i64 i)]) (fun _ _=>st) (by decide +kernel) ⟨(),rfl,aP.mk (by simp -implicitDefEqProofs only[aB,↓aX,seval])⟩ (fun i x _ hx hlt bF hdr hinv=>?_) (fun _ hge hinv=>?_)
 case refine_2=>
  simp -implicitDefEqProofs only[hge,aB,seval]
  rw[gU] at hinv
  exact⟨-1,rfl,by rw[←hinv];try rfl⟩
 rw[hdr,zC] at hinv
 have hw:=bK (n:=(i:Int)+1)
 simp -implicitDefEqProofs only[bF,bJ (av:=Tm.av) aQ hx (aN x),bU,aN,aB,seval,aJV]
 refine(hc x (cL hx)).to ?_
 simp -implicitDefEqProofs only[aB,seval]
 refine aT (fun h=>?_) (fun h=>?_)
 · simp -implicitDefEqProofs only[aB,seval]
   exact⟨i,rfl,by rw[←hinv,h];simp⟩
 · rw[h,sC] at hinv
   simp -implicitDefEqProofs only[aB,seval]
   exact⟨(),hinv,aP.mk (by simp -implicitDefEqProofs only[hw,aB,seval])⟩
theorem aMJ(l:List Tm)(g:FuncId)(dJ:List AV)(p:Tm→Bool)(st:aA)(hc:∀x∈l,aD prog g ([Tm.av x]++dJ) st (fun r st'=>r=.bool (p x)∧st'=st)) :
 aD prog 172 [.slice (l.map Tm.av),.func g dJ] st (fun r st'=>r=.bool (l.any p)∧st'=st):=by
 refine wF [] 2 func172 ntmps172 rfl rfl ?_
 intro _
 simp -implicitDefEqProofs only[aB,seval]
 refine(aMR l g dJ p st hc).mono ?_
 rintro _ _ ⟨j,rfl,hj,rfl⟩
 simp -implicitDefEqProofs only[hj,aB,seval]
theorem LP{α:Type}(p:α→Bool):∀l:List α,(!(l.any fun x=> !p x))=l.all p
 | []=>rfl
 | x::l=>by rw[zC,iS,←LP p l];cases p x<;>simp
abbrev aXA:=zi tI_4 (zi zI_4 (zi cG (zi tI_52 (zi zI_52 (zi bX (zi bY (zi bZ (zi b7 bV))))))))
theorem aNG(t:Tm)(st:aA):aD prog 173 [t.av] st (fun r st'=>r=.bool (!t.goal)∧st'=st):=by
 refine wF [] 1 func173 ntmps173 rfl rfl ?_
 intro _
 simp -implicitDefEqProofs only[Tm.eO,bU,aN,aB,seval,aXA]
 refine(aNJ t st).to ?_
 simp -implicitDefEqProofs only[aB,seval]
def mA(l:List Tm):Bool:=decide (l.length≤6)&&l.all Tm.goal
abbrev aW9:=zi tI_3 (zi zI_3 (zi aZ (zi tI_4 (zi zI_4 (zi cG (zi tI_28 (zi zI_28 (zi aQ (zi bM (zi bO cA))))))))))
theorem SI(l:List Tm)(st:aA):aD prog 135 [.slice (l.map Tm.av)] st (fun r st'=>r=.bool (mA l)∧st'=st):=by
 refine wF [] 1 func135 ntmps135 rfl rfl ?_
 simp only[dK,AV.fits,dZ,aE]
 intro _
 unfold mA
 simp -implicitDefEqProofs only[aE,aB,seval,aW9]
 refine cT (fun h=>?_) (fun h=>?_)
 · simp only[bL] at h
   rw[show decide (l.length≤6)=true by simp;omega]
   simp -implicitDefEqProofs only[h,aB,seval]
   refine(aMJ l _ [] (fun t=> !t.goal) st fun x _=>aNG x st).to ?_
   simp -implicitDefEqProofs only[LP,aB,seval]
 · simp only[mY,cI] at h
   rw[show decide (l.length≤6)=false by simp;omega]
   simp -implicitDefEqProofs only[h,aB,seval]
   rfl
theorem SM(l:List Tm)(st:aA):aD prog 86 [.slice (l.map Tm.av)] st (fun r st'=>r=.bool (mA l)∧st'=st):=by
 refine wF [] 1 func86 ntmps86 rfl rfl ?_
 intro _
 simp -implicitDefEqProofs only[aB,seval]
 refine(SI l st).to ?_
 simp -implicitDefEqProofs only[aB,seval]
abbrev JY:=zi tI_3 (zi zI_3 (zi aZ (zi tI_4 (zi zI_4 (zi cG (zi tI_28 (zi zI_28 (zi aQ (zi bM (zi bO (zi cA (zi tI_52 (zi zI_52 (zi bX (zi bY (zi bZ (zi b7 bV)))))))))))))))))
theorem aOX(l:List Tm)(st:aA):aD prog 79 [.slice (l.map Tm.av)] st (fun r st'=>r=.bool (mA l)∧st'=st):=by
 refine wF [] 1 func79 ntmps79 rfl rfl ?_
 simp only[dK,AV.fits,dZ,aE]
 intro ⟨hl,_⟩
 simp -implicitDefEqProofs only[aB,seval]
 refine dW (σ:=Unit) [] [0] l (fun i _=>i≤7∧(l.take i).all Tm.goal=true) (fun i _=>[(3,.int .i64 i)]) (fun _ _=>st) (by decide +kernel) ⟨(),⟨by omega,by simp⟩,aP.mk (by simp -implicitDefEqProofs only[aB,↓aX,seval])⟩ (fun i x _ hx hlt bF hdr hinv=>?_) (fun _ hge hinv=>?_)
 case refine_2=>
  obtain⟨i1,i2⟩:=hinv
  rw[eM] at i2
  simp -implicitDefEqProofs only[aE,hge,aB,seval,JY]
  simp only[mA,i2,y7,AV.bool.injEq,decide_eq_decide]
  omega
 obtain⟨i1,i2⟩:=hinv
 have hw:=bK (n:=(i:Int)+1)
 simp -implicitDefEqProofs only[aE,bF,aB,seval,JY]
 refine aT (fun h=>?_) (fun h=>?_)
 case refine_2=>
  simp only[cI] at h
  simp -implicitDefEqProofs only[aE,aB,seval,JY]
  simp only[mA,AV.bool.injEq]
  rw[show decide (l.length≤6)=false by simp;omega,show decide ((l.length:Int)≤6)=false by simp;omega]
  try rfl
 simp only[bL] at h
 simp -implicitDefEqProofs only[bJ (av:=Tm.av) aQ hx (aN x),bU,aN,aB,seval,JY]
 refine(TG x st).to ?_
 simp -implicitDefEqProofs only[aB,seval]
 refine aT (fun h2=>?_) (fun h2=>?_)
 · simp only[gH] at h2
   simp -implicitDefEqProofs only[aB,seval]
   have:l.all Tm.goal=false:=tT hx h2
   simp only[mA,this,wY]
 · simp only[jY] at h2
   simp -implicitDefEqProofs only[aB,seval]
   refine⟨(),⟨by omega,?_⟩,aP.mk (by simp -implicitDefEqProofs only[hw,aB,seval])⟩
   rw[f8,hx,zB,i2]
   simp [h2]
abbrev aXB:=zi tI_3 (zi zI_3 (zi aZ (zi tI_52 (zi zI_52 (zi bX (zi bY (zi bZ (zi b7 bV))))))))
theorem MC(n:Int)(st:aA):aD prog 192 [.int .i64 n] st (fun r st'=>r=(vr n).av∧st'=st):=by
 refine aD.done ?_
 refine wF [1000000] 1 func192 ntmps192 rfl rfl ?_
 intro _
 simp -implicitDefEqProofs only[aB,seval,aXB]
 intro b hb
 simp -implicitDefEqProofs only[aS,aB,seval]
 exact⟨by simp only[vr,a7,mU,oF,yL,wJ,bH,bG,bG],(aL.refl _).aC hb⟩
abbrev tG:=zi tI_3 (zi zI_3 (zi aZ (zi tI_28 (zi zI_28 (zi aQ (zi bM (zi bO (zi cA (zi tI_52 (zi zI_52 (zi bX (zi bY (zi bZ (zi b7 bV))))))))))))))
theorem L3(f:Int→Tm)(g:FuncId)(dJ:List AV)(A7:kA dJ=true):∀(t:Tm) (st:aA),t.small=true→(∀n∈t.vl,∀s,aD prog g (.int .i64 n::dJ) s (fun r s'=>r=(f n).av∧s'=s)) →
 aD prog 237 [t.av,.func g dJ] st (fun r st'=>r=(t.aJ f).av∧st'=st)
 | .mk k n s ts,st,hsm,hg=>by
  obtain⟨hlen,p8⟩:=Tm.pI hsm
  have IH:=fun(x:Tm) (hx:x∈ts) st h=>L3 f g dJ A7 x st (p8 x hx) h
  refine aD.rH (aD.fin ?_)
  simp only[a7]
  refine wF [1000000,2] 2 func237 ntmps237 rfl rfl ?_
  simp only[dK,AV.fits,dZ,aE]
  intro ⟨_,_,_,hl,_⟩
  simp -implicitDefEqProofs only[aB,seval,tG]
  intro c hc b2 hb2
  have hne:b2≠c:=by rintro rfl;rw[aA.aH] at hb2;cases hb2
  have hn2:st b2=none:=by rw[aA.aF st _ hne] at hb2;exact hb2
  simp -implicitDefEqProofs only[hne.symm,aB,seval]
  refine aT (fun h=>?_) (fun h=>?_)
  · simp only[bL] at h
    subst h
    simp -implicitDefEqProofs only[hne.symm,aB,seval,tG]
    refine(hg n (by rw[Tm.mH rfl];simp) _).to ?_
    simp -implicitDefEqProofs only[aB,seval,tG]
    refine⟨0,[],_,rfl,by simp,by simp,⟨4,by simp⟩,by rw[Tm.xO,Tm.l9 f rfl],?_⟩
    exact((aL.refl _).aC hc).aC hn2
  simp only[cI] at h
  have hg':∀x∈ts,∀v∈x.vl,∀s,aD prog g (.int .i64 v::dJ) s (fun r s'=>r=(f v).av∧s'=s):=fun x hx v hv=>hg v ((Tm.kL h).2 ⟨x,hx,hv⟩)
  simp -implicitDefEqProofs only[hne.symm,aS,aE,aB,seval,tG]
  rw[aA.wS hne]
  refine dW (σ:=Nat) [1000000] [1,2,4,18,19] ts (fun i b=>(((ts.take i).map (Tm.aJ f)).map Tm.av≠[]→(aA.aC (st.aC b2 (.cells [AV.int .i64 0,AV.int .i64 0,AV.str ⟨#[]⟩,AV.fslice []])) c (.cells ([AV.int .i64 k,AV.int .i64 n,AV.str s]++ [bQ 4 b (((ts.take i).map (Tm.aJ f)).map Tm.av)]))) b=none)) (fun i b=>[(20,.int .i64 i)]) (fun i b=>j0 (st.aC b2 (.cells [AV.int .i64 0,AV.int .i64 0,AV.str ⟨#[]⟩,AV.fslice []])) c b [AV.int .i64 k,AV.int .i64 n,AV.str s] (((ts.take i).map (Tm.aJ f)).map Tm.av)) (by decide +kernel)
   ⟨0,fun h=>absurd rfl h,aP.mk (by simp -implicitDefEqProofs only[aB,↓aX,seval])⟩ (fun i x b hx hlt bF hdr hinv=>?_) (fun b hge hinv=>?_)
  case refine_1=>
   have hw:=bK (n:=(i:Int)+1)
   have dH:(((ts.take i).map (Tm.aJ f)).map Tm.av).length=i:=by simp only[aE,dY];omega
   have htk:(ts.take (i+1)).map (Tm.aJ f)=(ts.take i).map (Tm.aJ f)++ [(Tm.aJ f) x]:=by rw[f8,hx];simp
   have hbo:=kW hinv
   simp -implicitDefEqProofs only[bF,bJ (av:=Tm.av) aQ hx (aN x),aB,↓aX,seval,tG]
   refine wP [(0,1),(3,1),(1,2),(2,2),(4,2),(5,1),(6,0),(7,1),(8,0)] [0,3,1,2,4,5,7] mixed ?_
   simp -implicitDefEqProofs only[bU,aN,hbo,rA,aB,seval,tG]
   refine jW (IH x (cL hx) _ (hg' x (cL hx))) ?_
   simp -implicitDefEqProofs only[bU,aN,Tm.eO,aB,seval,tG]
   refine fT aQ bM bO rfl rfl (g9 (aN _) (Tm.d8 _)) (iC _) hinv (by simp only[dH,bA,bS];omega) (by simp only[dH,bA,bS];omega) (fun b' hb'=>?_)
   rw[show(((ts.take i).map (Tm.aJ f)).map Tm.av)++ [((Tm.aJ f) x).av]=((ts.take (i+1)).map (Tm.aJ f)).map Tm.av by rw[htk];simp] at hb' ⊢
   obtain⟨g1,g2,g3⟩:=uH hb'
   simp only[gF,e9] at g1 g3
   simp -implicitDefEqProofs only[g3,pS,jF,aS,g1,hw,aB,seval,tG]
   exact⟨b',g2,aP.mk (by simp -implicitDefEqProofs only[aB,seval])⟩
  have hbo:=kW hinv
  rw[eM] at hinv hbo ⊢
  simp -implicitDefEqProofs only[hge,aB,seval,tG]
  simp -implicitDefEqProofs only[hbo,aB,seval,tG]
  have hS:(st.aC b2 (.cells [AV.int .i64 0,AV.int .i64 0,AV.str ⟨#[]⟩,AV.fslice []])) b2≠none:=by rw[aA.aH];simp
  have h1:=mR hinv hS hne
  rw[aA.aH] at h1
  simp -implicitDefEqProofs only[h1,jF,aS,aB,seval]
  obtain⟨h2,h3⟩:=sZ (o:=.cells [AV.int .i64 k,AV.int .i64 n,AV.str s,bQ 4 b ((ts.map (Tm.aJ f)).map Tm.av)]) hinv hS hne
  refine⟨b,_,_,h2,h3,qL _,⟨4,iC _⟩,?_,?_⟩
  · rw[Tm.kX f h]
    simp only[g7,bH,bG,fQ,nW,m9,a7]
  · exact(((aL.refl _).aC hn2).aC hc).aC hn2
termination_by t=>SizeOf.sizeOf t
decreasing_by have:=List.sizeOf_lt_of_mem hx;simp only[Tm.mk.sizeOf_spec];omega


end Go.AW
namespace Go.AW
abbrev cD (σ:Sub):Prop:=∃R rk B,Good σ R rk B
theorem cD.rs{σ:Sub}(h:cD σ):∃rk B,Good σ (rs σ) rk B:=by
 obtain⟨R,rk,B,G⟩:=h
 exact⟨rk,B,by rw[G.rs];exact G⟩
theorem cD.none:cD Sub.none:=⟨_,_,_,Good.none⟩
structure m7 (σ:Sub) (a b:List Tm) (r:Bool) (σ':Sub) (tr:List Int):Prop where
 gA:cD σ'
 aV:∀m,m∉tr→σ' m=σ m
 new:∀m∈tr,σ m=none∧σ' m≠none
 nodup:tr.Nodup
 eq:r=true→a.map (Tm.aJ (rs σ'))=b.map (Tm.aJ (rs σ'))
 gen:∀θ,pQ θ σ→a.map (Tm.aJ θ)=b.map (Tm.aJ θ)→r=true∧pQ θ σ'
 same:tr= []→σ'=σ
theorem pQ.sub{σ σ':Sub}{θ:Int→Tm}{tr:List Int}(S:pQ θ σ')(aV:∀m,m∉tr→σ' m=σ m)(new:∀m∈tr,σ m=none∧σ' m≠none):pQ θ σ:=fun n u h=>by
 by_cases hn:n∈tr
 · rw[(new n hn).1] at h;cases h
 · exact S n u (by rw[aV n hn];exact h)
theorem m7.uG{σ σ':Sub}{a b:List Tm}{r:Bool}{tr:List Int}(h:m7 σ a b r σ' tr):pQ (rs σ') σ:=by
 obtain⟨rk,B,G⟩:=h.gA.rs
 exact G.uG.sub h.aV h.new
theorem m7.stays{σ σ':Sub}{a b:List Tm}{r:Bool}{tr:List Int}(h:m7 σ a b r σ' tr)(hg:cD σ){x y:Tm}(e:x.aJ (rs σ)=y.aJ (rs σ)):x.aJ (rs σ')=y.aJ (rs σ'):=by
 obtain⟨rk,B,G⟩:=hg.rs
 rw[←G.MU h.uG x,←G.MU h.uG y,e]
theorem R8{σ:Sub}(hg:cD σ){a b:Tm}{n:Int}(ha:a.k=1)(han:a.n=n)(hn:σ n=none)(hb:b.k=1→σ b.n=none∧b.n≠n){r:Bool}{σ':Sub}{tr:List Int}(h:iY σ n b=(r,σ',tr)):m7 σ [a] [b] r σ' tr:=by
 obtain⟨rk,B,G⟩:=hg.rs
 have hav:∀θ,a.aJ θ=θ n:=fun θ=>by rw[Tm.BI θ ha,han]
 unfold iY at h
 split at h
 · rename_i fV
   cases h
   refine⟨hg,fun _ _=>rfl,fun _ h=>absurd h (dI),kM,fun h=>(by cases h),fun θ S e=>?_,fun _=>rfl⟩
   exfalso
   simp only[bH,bG,List.cons.injEq,dZ] at e
   rw[hav] at e
   by_cases hbk:b.k=1
   · rw[Tm.BI _ hbk,G.free (hb hbk).1,wU] at fV
     simp only[cP,dI,dN] at fV
     exact(hb hbk).2 fV.symm
   · rw[←G.MU S b] at e
     have h1:((b.aJ (rs σ)).aJ θ)=(b.aJ (rs σ)).aJ θ:=rfl
     have hk:(b.aJ (rs σ)).k≠1:=by rw[Tm.qA _ hbk];exact hbk
     have:=(aUJ (f:=θ) (b.aJ (rs σ)) fV).2 hk
     rw[e] at this
     exact absurd this (Nat.lt_irrefl _)
 · rename_i fV
   cases h
   obtain⟨rk',B',G'⟩:=G.bind hn fV
   have hR:=G'.rs
   refine⟨⟨_,_,_,G'⟩,fun m hm=>?_,fun m hm=>?_,by simp,fun _=>?_,fun θ S e=>⟨rfl,fun m u hu=>?_⟩,fun h=>(by cases h)⟩
   · simp only[cP,dI,dN] at hm
     simp only[Sub.set,hm,cM]
   · simp only[cP,dI,dN] at hm
     subst hm
     exact⟨hn,by simp [Sub.set]⟩
   · simp only[bH,bG,List.cons.injEq,dZ]
     rw[hav,hR]
     exact G'.bound (by simp [Sub.set])
   · simp only[bH,bG,List.cons.injEq,dZ] at e
     rw[hav] at e
     simp only[Sub.set] at hu
     split at hu
     · rename_i hmn
       cases hu
       rw[hmn,e]
     · exact S m u hu
theorem rO{a b:Tm}:sT a b=true↔a.k=b.k∧a.n=b.n∧a.s=b.s∧a.ts.length=b.ts.length:=by
 simp only[sT,cK,bL,and_assoc]
theorem aKH(g:Nat)(aTH:∀σ a b r σ' tr,cD σ→cV g σ a b=some (r,σ',tr)→m7 σ [a] [b] r σ' tr):∀xs ys σ r σ' tr,cD σ→xs.length=ys.length→dM g σ xs ys=some (r,σ',tr)→m7 σ xs ys r σ' tr:=by
 intro xs
 have ihU:=aTH
 induction xs with
 | nil=>
  intro ys σ r σ' tr hg hl h
  cases ys with
  | cons _ _=>simp at hl
  | nil=>
   simp only[dM,Option.some.injEq,Prod.mk.injEq] at h
   obtain⟨rfl,rfl,rfl⟩:=h
   exact⟨hg,fun _ _=>rfl,fun _ h=>absurd h (dI),kM,fun _=>rfl,fun θ S _=>⟨rfl,S⟩,fun _=>rfl⟩
 | cons a xs ih=>
  intro ys σ r σ' tr hg hl h
  cases ys with
  | nil=>simp at hl
  | cons b ys=>
   rw[dM] at h
   cases h1:cV g σ a b with
   | none=>rw[h1] at h;cases h
   | some p=>
    obtain⟨r1,σ1,tr1⟩:=p
    have U1:=ihU σ a b r1 σ1 tr1 hg h1
    rw[h1] at h
    cases r1 with
    | false=>
     simp only[Option.some.injEq,Prod.mk.injEq] at h
     obtain⟨rfl,rfl,rfl⟩:=h
     refine⟨U1.gA,U1.aV,U1.new,U1.nodup,fun h=>(by cases h),fun θ S e=>?_,U1.same⟩
     simp only[bH,List.cons.injEq] at e
     exact U1.gen θ S (by simp [e.1])
    | true=>
     simp only at h
     cases h2:dM g σ1 xs ys with
     | none=>rw[h2] at h;cases h
     | some p2=>
      obtain⟨r2,σ2,tr2⟩:=p2
      rw[h2] at h
      simp only[Option.some.injEq,Prod.mk.injEq] at h
      obtain⟨rfl,rfl,rfl⟩:=h
      have U2:=ih ys σ1 r2 σ2 tr2 U1.gA (by simpa using hl) h2
      refine⟨U2.gA,fun m hm=>?_,fun m hm=>?_,?_,fun hr=>?_,fun θ S e=>?_,fun h=>?_⟩
      · simp only[dQ,jJ] at hm
        rw[U2.aV m hm.2,U1.aV m hm.1]
      · rcases dQ.1 hm with hm | hm
        · refine⟨(U1.new m hm).1,fun h=>(U1.new m hm).2 ?_⟩
          by_cases h3:m∈tr2
          · exact(U2.new m h3).1
          · rw[←U2.aV m h3];exact h
        · refine⟨?_,(U2.new m hm).2⟩
          by_cases h3:m∈tr1
          · exact(U1.new m h3).1
          · rw[←U1.aV m h3];exact(U2.new m hm).1
      · rw[jN]
        refine⟨U1.nodup,U2.nodup,fun x hx y hy e=>?_⟩
        subst e
        exact(U1.new x hx).2 (U2.new x hy).1
      · have e1:=U1.eq rfl
        simp only[bH,bG,List.cons.injEq,dZ] at e1
        simp only[bH]
        rw[U2.stays U1.gA e1,U2.eq hr]
      · simp only[bH,List.cons.injEq] at e
        obtain⟨_,S1⟩:=U1.gen θ S (by simp [e.1])
        exact U2.gen θ S1 e.2
      · simp only[List.append_eq_nil_iff] at h
        rw[U2.same h.2,U1.same h.1]
theorem aXM:∀(g:Nat),(∀σ a b r σ' tr,cD σ→cV g σ a b=some (r,σ',tr)→m7 σ [a] [b] r σ' tr) ∧
 ∀xs ys σ r σ' tr,cD σ→xs.length=ys.length→dM g σ xs ys=some (r,σ',tr)→m7 σ xs ys r σ' tr:=by
 intro g
 induction g with
 | zero=>
  have h0:∀σ a b r σ' tr,cD σ→cV 0 σ a b=some (r,σ',tr)→m7 σ [a] [b] r σ' tr:=fun σ a b r σ' tr hg h=>by simp only[cV] at h;cases h
  exact⟨h0,aKH _ h0⟩
 | succ g ih=>
  suffices hU:∀σ a b r σ' tr,cD σ→cV (g+1) σ a b=some (r,σ',tr)→m7 σ [a] [b] r σ' tr from ⟨hU,aKH _ hU⟩
  intro σ a b r σ' tr hg h
  obtain⟨ihU,ihL⟩:=ih
  have aTG:=fun xs ys σ r σ' tr hg hl h=>ihL xs ys σ r σ' tr hg hl h
  obtain⟨rk,B,G⟩:=hg.rs
  obtain⟨fa,wa⟩:=G.wk a
  obtain⟨fb,wb⟩:=G.wk b
  have hma:∀θ,pQ θ σ→(wk σ a).aJ θ=a.aJ θ:=fun θ S=>wa.aJ S
  have hmb:∀θ,pQ θ σ→(wk σ b).aJ θ=b.aJ θ:=fun θ S=>wb.aJ S
  -- it suffices to speak of the walked terms
  suffices hw:m7 σ [wk σ a] [wk σ b] r σ' tr by
   refine⟨hw.gA,hw.aV,hw.new,hw.nodup,fun hr=>?_,fun θ S e=>?_,hw.same⟩
   · have:=hw.eq hr
     simp only[bH,bG,List.cons.injEq,dZ] at this ⊢
     rw[←hma _ hw.uG,←hmb _ hw.uG];exact this
   · refine hw.gen θ S ?_
     simp only[bH,bG,List.cons.injEq,dZ] at e ⊢
     rw[hma θ S,hmb θ S];exact e
  have ea:=wa.end
  have eb:=wb.end
  rw[cV] at h
  generalize wk σ a=a at *
  generalize wk σ b=b at *
  split at h
  · rename_i hc
    simp only[Option.some.injEq,Prod.mk.injEq] at h
    obtain⟨rfl,rfl,rfl⟩:=h
    have he:∀θ,a.aJ θ=b.aJ θ:=fun θ=>by rw[Tm.BI θ hc.1,Tm.BI θ hc.2.1,hc.2.2]
    exact⟨hg,fun _ _=>rfl,fun _ h=>absurd h (dI),kM,fun _=>by simp [he],fun θ S _=>⟨rfl,S⟩,fun _=>rfl⟩
  · rename_i hc
    split at h
    · rename_i ha
      exact R8 hg ha rfl (ea ha) (fun hb=>⟨eb hb,fun e=>hc ⟨ha,hb,e.symm⟩⟩) (lE h)
    · rename_i ha
      split at h
      · rename_i hb
        have U:=R8 hg hb rfl (eb hb) (fun ha'=>absurd ha' ha) (lE h)
        exact⟨U.gA,U.aV,U.new,U.nodup,fun hr=>(U.eq hr).symm,fun θ S e=>U.gen θ S e.symm,U.same⟩
      · rename_i hb
        split at h
        · rename_i hh
          rw[rO] at hh
          have U:=aTG a.ts b.ts σ r σ' tr hg hh.2.2.2 h
          refine⟨U.gA,U.aV,U.new,U.nodup,fun hr=>?_,fun θ S e=>?_,U.same⟩
          · simp only[bH,bG,List.cons.injEq,dZ]
            rw[Tm.qA _ ha,Tm.qA _ hb,hh.1,hh.2.1,hh.2.2.1,U.eq hr]
          · simp only[bH,bG,List.cons.injEq,dZ] at e
            rw[Tm.qA _ ha,Tm.qA _ hb] at e
            exact U.gen θ S (by injection e)
        · rename_i hh
          simp only[Option.some.injEq,Prod.mk.injEq] at h
          obtain⟨rfl,rfl,rfl⟩:=h
          refine⟨hg,fun _ _=>rfl,fun _ h=>absurd h (dI),kM,fun h=>(by cases h),fun θ S e=>?_,fun _=>rfl⟩
          exfalso
          simp only[bH,bG,List.cons.injEq,dZ] at e
          rw[Tm.qA _ ha,Tm.qA _ hb] at e
          injection e with e1 e2 e3 e4
          exact hh (rO.2 ⟨e1,e2,e3,by simpa using rF List.length e4⟩)
theorem uY{g:Nat}{σ:Sub}{a b:Tm}{r:Bool}{σ':Sub}{tr:List Int}(hg:cD σ)(h:cV g σ a b=some (r,σ',tr)):m7 σ [a] [b] r σ' tr:=(aXM g).1 σ a b r σ' tr hg h
end Go.AW
