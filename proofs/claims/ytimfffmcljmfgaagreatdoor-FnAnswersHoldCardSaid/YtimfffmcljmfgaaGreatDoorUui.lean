import Derived.Test.YtimfffmcljmfgaaGreatDoorUuf
import Derived.Test.YtimfffmcljmfgaaGreatDoorUuh
set_option linter.unusedSimpArgs false
set_option linter.unusedVariables false
set_option maxRecDepth 100000
namespace Go.AW
open Go.Proofs.Tryz
theorem CL(n lo hi:Int)(st:aB):aD prog 170 [.int .i64 n,.int .i64 lo,.int .i64 hi] st (fun r st'=>r=.bool (decide (lo≤n)&&decide (n≤hi))∧st'=st):=by
 refine wF [] 3 func170 ntmps170 rfl rfl ?_
 intro _
 repeat' (first
  | (simp -implicitDefEqProofs only[*,aA,seval])
  | (refine cV (fun h=>?_) (fun h=>?_))
  | (refine aQ (fun h=>?_) (fun h=>?_)))
 all_goals simp_all
theorem aRK(s:ByteArray)(st:aB):aD prog 250 [.str s] st (fun r st'=>r=.tup [.int .i64 (dQ s),.bool (dQ s == 1||dQ s == 2)]∧st'=st):=by
 refine wF [] 1 func250 ntmps250 rfl rfl ?_
 intro _
 repeat' (first
  | (simp -implicitDefEqProofs only[*,aA,seval])
  | (refine cV (fun h=>?_) (fun h=>?_))
  | (refine aQ (fun h=>?_) (fun h=>?_)))
 all_goals (simp only[dQ, *,yS,uR,Bool.or_self,cond_true,zO];first | done | rfl)
theorem vF(s:ByteArray)(st:aB):aD prog 197 [.str s] st (fun r st'=>r=.int .i64 (dQ s)∧st'=st):=by
 refine wF [] 1 func197 ntmps197 rfl rfl ?_
 intro _
 repeat' (first
  | (simp -implicitDefEqProofs only[*,aA,seval])
  | (refine cV (fun h=>?_) (fun h=>?_))
  | (refine aQ (fun h=>?_) (fun h=>?_)))
 all_goals (simp only[dQ, *,yS,uR,Bool.or_self,cond_true,zO];first | done | rfl)
theorem aR5(s:ByteArray)(n:Int)(st:aB):aD prog 149 [.str s,.int .i64 n] st (fun r st'=>r=.bool (isBuiltin s n)∧st'=st):=by
 refine wF [] 2 func149 ntmps149 rfl rfl ?_
 intro _
 repeat' (first
  | (simp -implicitDefEqProofs only[*,aA,seval])
  | (refine cV (fun h=>?_) (fun h=>?_))
  | (refine aQ (fun h=>?_) (fun h=>?_)))
 all_goals (simp only[isBuiltin, *,yS,uR,Bool.or_self,cond_true,zO];first | done | rfl)
theorem OV(s:ByteArray)(n:Int)(st:aB):aD prog 196 [.str s,.int .i64 n] st (fun r st'=>r=.bool (isBuiltin s n)∧st'=st):=by
 refine wF [] 2 func196 ntmps196 rfl rfl ?_
 intro _
 repeat' (first
  | (simp -implicitDefEqProofs only[*,aA,seval])
  | (refine cV (fun h=>?_) (fun h=>?_))
  | (refine aQ (fun h=>?_) (fun h=>?_)))
 all_goals (simp only[isBuiltin, *,yS,uR,Bool.or_self,cond_true,zO];first | done | rfl)
abbrev aM9:=zi tI_3 (zi zI_3 (zi aX (zi tI_4 (zi zI_4 (zi cE (zi tI_5 (zi zI_5 (zi lM (zi tI_9 (zi zI_9 cI))))))))))
theorem WP(s:ByteArray)(st:aB):aD prog 195 [.str s] st (fun r st'=>r=.bool (sU s)∧st'=st):=by
 refine wF [] 1 func195 ntmps195 rfl rfl ?_
 simp only[eC,AV.fits,eF]
 intro hs
 simp -implicitDefEqProofs only[aA,seval]
 refine wT (α:=Nat) [] (fun i=>i≤s.size∧∀(j:Nat) c,j<i→(sb s)[j]?=some c→letter c=true)
  (fun i=>[(0,.str s),(3,.int .i64 i)]) (fun _=>st) (fun i=>s.size - i) (by decide +kernel)
  ⟨0,⟨by omega,by intro j x h;omega⟩,aO.mk (by simp -implicitDefEqProofs only[aA,↓aU,seval])⟩ ?_
 intro i ⟨hi,dX⟩
 simp -implicitDefEqProofs only[aA,seval,aM9]
 refine⟨fun h5=>?_,fun h5=>?_⟩
 case refine_2=>
  simp only[dJ,mV] at h5
  have ha:(sb s).all letter=true:=JI fun j c hc=>dX j c (by have:=(gP.1 hc).1;rw[cM] at this;omega) hc
  repeat' (first
   | (simp -implicitDefEqProofs only[*,aA,seval,aM9])
   | (refine cV (fun h=>?_) (fun h=>?_))
   | (refine aQ (fun h=>?_) (fun h=>?_)))
  all_goals simp only[sU,ha,eV,AV.bool.injEq]
  all_goals simp only[*,kI,eV,gK]
 simp only[bJ,mV] at h5
 obtain⟨c,hc⟩:∃c,(sb s)[i]?=some c:=⟨_,eE (by rw[cM];exact h5)⟩
 have hx:=sS (P:=prog) (t:=9) cI hc
 simp -implicitDefEqProofs only[hx,aA,seval]
 refine cV (fun h6=>?_) (fun h6=>?_)
 case refine_2=>
  simp -implicitDefEqProofs only[h6,aA,seval]
  simp only[lN,bJ] at h6
  simp only[sU,vA hc (show letter c=false by simp [letter];omega),gK]
 simp -implicitDefEqProofs only[h6,hx,aA,seval]
 refine⟨fun h7=>?_,fun h7=>?_⟩
 · simp -implicitDefEqProofs only[aA,seval]
   simp only[bJ] at h7
   simp only[sU,vA hc (show letter c=false by simp [letter];omega),gK]
 simp only[dJ] at h6 h7
 simp -implicitDefEqProofs only[aA,seval]
 refine⟨i+1,by omega,⟨by omega,fun j u hj hu=>?_⟩,aO.mk ?_⟩
 · rcases lB j i with h8 | h8
   · exact dX j u h8 hu
   · obtain rfl:j=i:=by omega
     rw[hc] at hu;cases hu
     simp [letter];omega
 · have:=bO (n:=(i:Int)+1)
   simp -implicitDefEqProofs only[this,aA,seval]
abbrev aNA:=zi tI_3 (zi zI_3 (zi aX (zi tI_4 (zi zI_4 (zi cE (zi tI_5 (zi zI_5 (zi lM (zi tI_6 (zi zI_6 (zi uU6 (zi tI_9 (zi zI_9 cI)))))))))))))
theorem WF(s:ByteArray)(st:aB):aD prog 201 [.str s] st (fun r st'=>r=.bool (sU s)∧st'=st):=by
 refine wF [] 1 func201 ntmps201 rfl rfl ?_
 simp only[eC,AV.fits,eF]
 intro hs
 simp -implicitDefEqProofs only[aA,seval,aNA]
 refine wT (α:=Nat) [] (fun i=>i≤s.size∧∀(j:Nat) c,j<i→(sb s)[j]?=some c→letter c=true)
  (fun i=>[(0,.str s),(5,.int .i64 s.size),(6,.int .i64 i)]) (fun _=>st) (fun i=>s.size - i) (by decide +kernel)
  ⟨0,⟨by omega,by intro j x h;omega⟩,aO.mk (by simp -implicitDefEqProofs only[aA,↓aU,seval])⟩ ?_
 intro i ⟨hi,dX⟩
 simp -implicitDefEqProofs only[aA,seval]
 refine⟨fun h5=>?_,fun h5=>?_⟩
 case refine_2=>
  simp only[dJ,mV] at h5
  have ha:(sb s).all letter=true:=JI fun j c hc=>dX j c (by have:=(gP.1 hc).1;rw[cM] at this;omega) hc
  simp -implicitDefEqProofs only[aA,seval,aNA]
  refine(CL _ _ _ st).to ?_
  simp -implicitDefEqProofs only[aA,seval]
  simp only[sU,ha,eV]
 simp only[bJ,mV] at h5
 obtain⟨c,hc⟩:∃c,(sb s)[i]?=some c:=⟨_,eE (by rw[cM];exact h5)⟩
 have hx:=sS (P:=prog) (t:=9) cI hc
 simp -implicitDefEqProofs only[hx,aA,seval]
 refine cV (fun h6=>?_) (fun h6=>?_)
 case refine_2=>
  simp -implicitDefEqProofs only[h6,aA,seval]
  simp only[lN,bJ] at h6
  simp only[sU,vA hc (show letter c=false by simp [letter];omega),gK]
 simp -implicitDefEqProofs only[h6,hx,aA,seval]
 refine⟨fun h7=>?_,fun h7=>?_⟩
 · simp -implicitDefEqProofs only[aA,seval]
   simp only[bJ] at h7
   simp only[sU,vA hc (show letter c=false by simp [letter];omega),gK]
 simp only[dJ] at h6 h7
 simp -implicitDefEqProofs only[aA,seval]
 refine⟨i+1,by omega,⟨by omega,fun j u hj hu=>?_⟩,aO.mk ?_⟩
 · rcases lB j i with h8 | h8
   · exact dX j u h8 hu
   · obtain rfl:j=i:=by omega
     rw[hc] at hu;cases hu
     simp [letter];omega
 · have:=bO (n:=(i:Int)+1)
   simp -implicitDefEqProofs only[this,aA,seval]
theorem aSC(s:ByteArray)(st:aB):aD prog 202 [.str s] st (fun r st'=>r=.bool (decide ((0:Int)<(dQ s:Int)))∧st'=st):=by
 refine wF [] 1 func202 ntmps202 rfl rfl ?_
 intro _
 simp -implicitDefEqProofs only[aA,seval]
 refine(aRK s st).to ?_
 simp -implicitDefEqProofs only[aA,seval]
abbrev a3J:=zi tI_3 (zi zI_3 (zi aX (zi tI_4 (zi zI_4 (zi cE (zi tI_31 (zi zI_31 (zi aN (zi bG (zi bH (zi b9 (zi tI_66 (zi zI_66 (zi bQ (zi bR (zi bS (zi bT bP)))))))))))))))))
theorem FS(k n:Int)(s:ByteArray)(ts:List Tm)(st:aB):aD prog 203 [(Tm.mk k n s ts).av] st (fun r st'=>r=.bool (decide (k=3)&&decide ((ts.length:Int)=0))∧st'=st):=by
 refine wF [] 1 func203 ntmps203 rfl rfl ?_
 intro _
 simp only[aV]
 repeat' (first
  | (simp -implicitDefEqProofs only[*,aA,seval,a3J])
  | (refine cV (fun h=>?_) (fun h=>?_))
  | (refine aQ (fun h=>?_) (fun h=>?_)))
 all_goals simp_all
def jA:List ByteArray:=[⟨#[43]⟩,⟨#[45]⟩,⟨#[42]⟩,⟨#[47,47]⟩,⟨#[61]⟩,⟨#[92,61]⟩,⟨#[61,61]⟩,⟨#[60]⟩,⟨#[62]⟩,⟨#[61,60]⟩,⟨#[62,61]⟩,⟨#[61,58,61]⟩,⟨#[46]⟩,⟨#[91,93]⟩,⟨#[33]⟩]
abbrev a3K:=zi tI_147 (zi zI_147 (zi iR (zi lS (zi lT mR))))
theorem aT9(st:aB):aD prog 320 [] st (fun r st'=>r=.fslice (jA.map .str)∧st'=st):=by
 refine wF [] 0 func320 ntmps320 rfl rfl ?_
 intro _
 simp -implicitDefEqProofs only[jA,aA,seval,a3K]
abbrev a3L:=zi tI_147 (zi zI_147 (zi iR (zi lS (zi lT mR))))
theorem WN(st:aB):aD prog 367 [] st (fun r st'=>r=.fslice (jA.map .str)∧st'=st):=by
 refine wF [] 0 func367 ntmps367 rfl rfl ?_
 intro _
 simp -implicitDefEqProofs only[jA,aA,seval,a3L]
abbrev aNC:=zi tI_3 (zi zI_3 (zi aX (zi tI_4 (zi zI_4 (zi cE (zi tI_9 (zi zI_9 (zi cI (zi tI_147 (zi zI_147 (zi iR (zi lS (zi lT mR)))))))))))))
theorem aSJ(l:List ByteArray)(s:ByteArray)(st:aB):aD prog 366 [.slice (l.map .str),.str s] st (fun r st'=>r=.bool (l.any fun x=>decide (x=s))∧st'=st):=by
 refine wF [] 2 func366 ntmps366 rfl rfl ?_
 simp only[eC,AV.fits,eF,aF]
 intro ⟨⟨hl,_⟩,_⟩
 simp -implicitDefEqProofs only[aA,seval]
 refine wT (α:=Nat) [] (fun i=>i≤l.length∧∀(j:Nat) x,j<i→l[j]?=some x→decide (x=s)=false)
  (fun i=>[(0,.slice (l.map .str)),(1,.str s),(5,.int .i64 i)]) (fun _=>st) (fun i=>l.length - i) (by decide +kernel)
  ⟨0,⟨by omega,by intro j x h;omega⟩,aO.mk (by simp -implicitDefEqProofs only[aA,↓aU,seval])⟩ ?_
 intro i ⟨hi,dX⟩
 simp -implicitDefEqProofs only[aF,aA,seval,aNC]
 refine⟨fun h5=>?_,fun h5=>?_⟩
 case refine_2=>
  simp -implicitDefEqProofs only[aA,seval]
  simp only[dJ,mV] at h5
  have:(l.any fun x=>decide (x=s))=false:=by
   rw[List.any_eq_false]
   intro x hx
   obtain⟨j,hj⟩:=BS hx
   simp [dX j x (by have:=(gP.1 hj).1;omega) hj]
  rw[this]
 simp only[bJ,mV] at h5
 obtain⟨x,hx⟩:∃x,l[i]?=some x:=⟨_,eE h5⟩
 simp -implicitDefEqProofs only[bM (av:=AV.str) iR hx rfl,aA,seval,aNC]
 refine⟨fun h6=>?_,fun h6=>?_⟩
 · simp -implicitDefEqProofs only[aA,seval]
   have:(l.any fun x=>decide (x=s))=true:=by
    rw[List.any_eq_true]
    exact⟨x,cP hx,h6⟩
   rw[this]
 simp -implicitDefEqProofs only[aA,seval]
 refine⟨i+1,by omega,⟨by omega,fun j u hj hu=>?_⟩,aO.mk ?_⟩
 · rcases lB j i with h8 | h8
   · exact dX j u h8 hu
   · obtain rfl:j=i:=by omega
     rw[hx] at hu;cases hu
     exact h6
 · have:=bO (n:=(i:Int)+1)
   simp -implicitDefEqProofs only[this,aA,seval]
abbrev aNB:=zi tI_3 (zi zI_3 (zi aX (zi tI_9 (zi zI_9 (zi cI (zi tI_147 (zi zI_147 (zi iR (zi lS (zi lT mR))))))))))
theorem aRI(l:List ByteArray)(s:ByteArray)(st:aB):aD prog 217 [.slice (l.map .str),.str s] st (fun r st'=>(∃k:Int,r=.int .i64 k∧decide (0≤k)=l.any fun x=>decide (s=x))∧st'=st):=by
 refine wF [] 2 func217 ntmps217 rfl rfl ?_
 simp only[eC,AV.fits,eF,aF]
 intro ⟨⟨hl,_⟩,_⟩
 simp -implicitDefEqProofs only[aF,aA,seval,aNB]
 refine wT (α:=Nat) [] (fun i=>i≤l.length∧∀(j:Nat) x,j<i→l[j]?=some x→decide (s=x)=false)
  (fun i=>[(0,.slice (l.map .str)),(1,.str s),(7,.int .i64 l.length),(8,.int .i64 i)]) (fun _=>st) (fun i=>l.length - i) (by decide +kernel)
  ⟨0,⟨by omega,by intro j x h;omega⟩,aO.mk (by simp -implicitDefEqProofs only[aA,↓aU,seval])⟩ ?_
 intro i ⟨hi,dX⟩
 simp -implicitDefEqProofs only[aA,seval]
 refine⟨fun h5=>?_,fun h5=>?_⟩
 case refine_2=>
  simp -implicitDefEqProofs only[aA,seval]
  simp only[dJ,mV] at h5
  have:(l.any fun x=>decide (s=x))=false:=by
   rw[List.any_eq_false]
   intro x hx
   obtain⟨j,hj⟩:=BS hx
   simp [dX j x (by have:=(gP.1 hj).1;omega) hj]
  rw[this]
  exact⟨_,rfl,rfl⟩
 simp only[bJ,mV] at h5
 obtain⟨x,hx⟩:∃x,l[i]?=some x:=⟨_,eE h5⟩
 simp -implicitDefEqProofs only[bM (av:=AV.str) iR hx rfl,aA,seval,aNB]
 refine⟨fun h6=>?_,fun h6=>?_⟩
 · simp -implicitDefEqProofs only[aA,seval]
   have:(l.any fun x=>decide (s=x))=true:=by
    rw[List.any_eq_true]
    exact⟨x,cP hx,h6⟩
   rw[this]
   exact⟨_,rfl,by simp⟩
 simp -implicitDefEqProofs only[aA,seval]
 refine⟨i+1,by omega,⟨by omega,fun j u hj hu=>?_⟩,aO.mk ?_⟩
 · rcases lB j i with h8 | h8
   · exact dX j u h8 hu
   · obtain rfl:j=i:=by omega
     rw[hx] at hu;cases hu
     exact h6
 · have:=bO (n:=(i:Int)+1)
   simp -implicitDefEqProofs only[this,aA,seval]
theorem aRB(l:List ByteArray)(s:ByteArray)(st:aB):aD prog 145 [.slice (l.map .str),.str s] st (fun r st'=>r=.bool (l.any fun x=>decide (s=x))∧st'=st):=by
 refine wF [] 2 func145 ntmps145 rfl rfl ?_
 intro _
 simp -implicitDefEqProofs only[aA,seval]
 refine(aRI l s st).mono ?_
 rintro _ _ ⟨⟨k,rfl,hk⟩,rfl⟩
 simp -implicitDefEqProofs only[aA,seval]
 rw[←hk]
theorem JR(l:List ByteArray)(s:ByteArray)(st:aB):aD prog 145 [.fslice (l.map .str),.str s] st (fun r st'=>r=.bool (l.any fun x=>decide (s=x))∧st'=st):=
 aD.oS (by simp only[gY,AV.soft];exact aRB l s st)
theorem aSK(l:List ByteArray)(s:ByteArray)(st:aB):aD prog 366 [.fslice (l.map .str),.str s] st (fun r st'=>r=.bool (l.any fun x=>decide (x=s))∧st'=st):=
 aD.oS (by simp only[gY,AV.soft];exact aSJ l s st)
def x7(s:ByteArray):Bool:=sU s||jA.any fun x=>decide (s=x)
theorem aQA(s:ByteArray):(jA.any fun x=>decide (x=s))=jA.any fun x=>decide (s=x):=by
 congr 1
 funext x
 exact zQ.2 ⟨Eq.symm,Eq.symm⟩
theorem aR6(s:ByteArray)(st:aB):aD prog 260 [.str s] st (fun r st'=>r=.bool (x7 s)∧st'=st):=by
 refine wF [] 1 func260 ntmps260 rfl rfl ?_
 intro _
 repeat' (first
  | (simp -implicitDefEqProofs only[*,aA,seval])
  | (refine cV (fun h=>?_) (fun h=>?_))
  | (refine(WF s st).to ?_) | (refine(aT9 st).to ?_) | (refine(JR jA s st).to ?_)
  | (refine aQ (fun h=>?_) (fun h=>?_)))
 all_goals simp only[x7, *,lN,uR,oV]
theorem aT6(s:ByteArray)(st:aB):aD prog 321 [.str s] st (fun r st'=>r=.bool (x7 s)∧st'=st):=by
 refine wF [] 1 func321 ntmps321 rfl rfl ?_
 intro _
 repeat' (first
  | (simp -implicitDefEqProofs only[*,aA,seval])
  | (refine cV (fun h=>?_) (fun h=>?_))
  | (refine(WP s st).to ?_) | (refine(WN st).to ?_) | (refine(aSK jA s st).to ?_)
  | (refine aQ (fun h=>?_) (fun h=>?_)))
 all_goals simp only[x7,aQA, *,lN,uR,oV]
end Go.AW
namespace Go.AW
def eD(k n:Int)(s:ByteArray)(len:Int):Bool:=
 cond (decide (k=1)) (decide ((0:Int)≤n)&&decide (n≤25)&&decide (s=⟨#[]⟩)&&decide (len=0))
  (cond (decide (k=2)) (decide ((-999:Int)≤n)&&decide (n≤999)&&decide (s=⟨#[]⟩)&&decide (len=0))
   (cond (decide (k=3)) (decide (n=0)&&x7 s&&decide (len≤4)) false))
mutual
def Tm.shape:Tm→Int→Bool
 | .mk k n s ts,d=>decide (1≤d)&&eD k n s ts.length&&MT ts (d - 1)
def MT:List Tm→Int→Bool
 | [],_=>true
 | t::ts,d=>t.shape d&&MT ts d
end
theorem aOC:∀(ts:List Tm) (d:Int),MT ts d=ts.all fun t=>t.shape d
 | [],_=>rfl
 | t::ts,d=>by simp only[MT,kJ,aOC ts d]
theorem Tm.A8(k n:Int)(s:ByteArray)(ts:List Tm)(d:Int):(Tm.mk k n s ts).shape d=(decide (1≤d)&&eD k n s ts.length&&ts.all fun t=>t.shape (d - 1)):=by simp only[Tm.shape,aOC]
mutual
def Tm.nodes:Tm→Nat
 | .mk _ _ _ ts=>1+MO ts
def MO:List Tm→Nat
 | []=>0
 | t::ts=>t.nodes+MO ts
end
theorem aN8:∀(ts:List Tm),MO ts=bF Tm.nodes ts
 | []=>rfl
 | t::ts=>by simp only[MO,bF,aN8 ts]
theorem Tm.gI(k n:Int)(s:ByteArray)(ts:List Tm):(Tm.mk k n s ts).nodes=1+bF Tm.nodes ts:=by simp only[Tm.nodes,aN8]
def Tm.valid(t:Tm):Bool:=t.shape 30&&decide (t.nodes≤120)
mutual
def Tm.vars:Tm→List Int→List Int
 | .mk k n _ ts,l=>bL ts (if k=1∧n∉l then l++ [n] else l)
def bL:List Tm→List Int→List Int
 | [],l=>l
 | t::ts,l=>bL ts (t.vars l)
end
mutual
theorem Tm.ER:∀(t:Tm) (l:List Int),(t.vars l).length≤l.length+t.nodes
 | .mk k n s ts,l=>by
  have h:=yM ts (if k=1∧n∉l then l++ [n] else l)
  have h2:(if k=1∧n∉l then l++ [n] else l).length≤l.length+1:=by split<;>simp
  rw[Tm.vars,Tm.gI]
  omega
theorem yM:∀(ts:List Tm) (l:List Int),(bL ts l).length≤l.length+bF Tm.nodes ts
 | [],l=>by simp [bL,bF]
 | t::ts,l=>by
  have h1:=Tm.ER t l
  have h2:=yM ts (t.vars l)
  simp only[bL,bF]
  omega
end
def d5(v:Int):List Int→Int→Int
 | [],_=> -1
 | x::xs,i=>if v=x then i else d5 v xs (i+1)
theorem aKP(v:Int):∀(l:List Int) (i:Int),0≤i→(0≤d5 v l i↔v∈l)
 | [],i,h=>by simp [d5]
 | x::xs,i,h=>by
  simp only[d5,cX]
  split
  · rename_i e;simp [e,h]
  · rename_i e;rw[aKP v xs (i+1) (by omega)];simp [e]
theorem oZ{st:aB}{b x:Nat}{l:List AV}{o:AO}(h:l≠[]→x≠b):(a7 st b l).aC x o=a7 (st.aC x o) b l:=by
 cases l with
 | nil=>rfl
 | cons y l=>exact aB.oU _ _ _ (dD (h (by simp)))
theorem JH{st:aB}{b x:Nat}{l:List AV}{o:AO}(hx:st x=none)(h:l≠[]→(st.aC x o) b=none):aM (a7 (st.aC x o) b l) (a7 st b l)∧(l≠[]→st b=none):=by
 cases l with
 | nil=>exact⟨(aM.refl _).aC hx,fun h=>absurd rfl h⟩
 | cons y l=>
  have hb:=h (by simp)
  have hne:b≠x:=by rintro rfl;rw[aB.aP] at hb;cases hb
  rw[aB.aL _ _ hne] at hb
  refine⟨?_,fun _=>hb⟩
  simp only[a7]
  rw[aB.oU _ _ _ (dD hne)]
  exact(aM.refl _).aC (by rw[aB.aL _ _ (dD hne)];exact hx)
theorem U0{P:Program}{t:TypeId}{ag:Bool}{w b i:Nat}{l:List AV}{x:AV}(hI:eI P t=some (ag,w))(h:l[i]?=some x):dF P t (bD w b l) (.int .i64 (i:Int))=some (.ptr b (i*w)):=by
 have hi:=(gP.1 h).1
 rw[o0 (by rintro rfl;simp at hi)]
 exact uC hI hi
theorem U3{st:aB}{b i:Nat}{l:List Int}{x:Int}(h:l[i]?=some x):a7 st b (l.map iv) b=some (.cells (l.map iv))∧(l.map iv)[i]?=some (iv x):=by
 have hi:=(gP.1 h).1
 have hne:l.map iv≠[]:=by rintro e;rw[List.map_eq_nil_iff] at e;subst e;simp at hi
 have hfl:(l.map iv).flatMap AV.cells=l.map iv:=by
  clear h hi hne
  induction l with
  | nil=>rfl
  | cons y l ih=>simp only[bA,rW,ih];rfl
 exact⟨by rw[jP hne,hfl,aB.aP],by rw[mW,h];try rfl⟩
mutual
def Tm.wf:Tm→Bool
 | .mk k _ _ ts=>(!decide (k=1)||ts.isEmpty)&&MV ts
def MV:List Tm→Bool
 | []=>true
 | t::ts=>t.wf&&MV ts
end
theorem TF:∀(ts:List Tm),MV ts=ts.all Tm.wf
 | []=>rfl
 | t::ts=>by simp only[MV,kJ,TF ts]
theorem Tm.TT{k n:Int}{s:ByteArray}{ts:List Tm}(h:(Tm.mk k n s ts).wf=true):(k=1→ts= [])∧∀x∈ts,x.wf=true:=by
 simp only[Tm.wf,TF,cA,pS,kQ,dJ,List.isEmpty_iff,dW] at h
 exact⟨fun hk=>h.1.resolve_left (fun hn=>hn hk),h.2⟩
theorem Tm.EP{t:Tm}(h:t.valid=true):t.nodes≤120:=by simp only[Tm.valid,cA,bJ] at h;exact h.2
theorem a28{l:List Tm}(h:∀x∈l,x.valid=true):bF Tm.nodes l≤120*l.length:=by
 induction l with
 | nil=>simp [bF]
 | cons t l ih=>
  have h1:=Tm.EP (h t (by simp))
  have h2:=ih fun x hx=>h x (by simp [hx])
  simp only[bF,aS]
  omega
def fK(S:aB)(c b:Nat)(hd:List AV)(l:List AV):aB:=a7 (S.aC c (.cells (hd++ [bD 4 b l]))) b l
theorem eN{S:aB}{c b:Nat}{hd l:List AV}(hb:l≠[]→(S.aC c (.cells (hd++ [bD 4 b l]))) b=none):fK S c b hd l c=some (.cells (hd++ [bD 4 b l])):=by
 unfold fK
 cases l with
 | nil=>simp only[a7,aB.aP]
 | cons y l=>
  have h:=hb (by simp)
  have hne:c≠b:=fun e=>by rw[←e,aB.aP] at h;cases h
  rw[oY hne,aB.aP]
theorem oL{S:aB}{c b b':Nat}{hd l l':List AV}(hb:l'≠[]→(S.aC c (.cells (hd++ [bD 4 b l]))) b'=none) :
 (a7 (S.aC c (.cells (hd++ [bD 4 b l]))) b' l').aC c (.cells (hd++ [bD 4 b' l']))=fK S c b' hd l'∧(l'≠[]→(S.aC c (.cells (hd++ [bD 4 b' l']))) b'=none)∧a7 (S.aC c (.cells (hd++ [bD 4 b l]))) b' l' c=some (.cells (hd++ [bD 4 b l])):=by
 have hne:l'≠[]→c≠b':=fun h e=>by have:=hb h;rw[←e,aB.aP] at this;cases this
 refine⟨?_,fun h=>?_,?_⟩
 · rw[oZ hne,dC];try rfl
 · have:=hb h
   rw[aB.aL _ _ (dD (hne h))] at this ⊢
   exact this
 · cases l' with
   | nil=>simp only[a7,aB.aP]
   | cons y l=>rw[oY (hne (by simp)),aB.aP]
theorem gS{S:aB}{c b x:Nat}{hd l:List AV}(hb:l≠[]→(S.aC c (.cells (hd++ [bD 4 b l]))) b=none)(hx:S x≠none)(hxc:x≠c):fK S c b hd l x=S x:=by
 unfold fK
 cases l with
 | nil=>simp only[a7,aB.aL _ _ hxc]
 | cons y l=>
  have h:=hb (by simp)
  have hne:x≠b:=fun e=>by
   rw[←e,aB.aL _ _ hxc] at h
   exact hx h
  rw[oY hne,aB.aL _ _ hxc]
theorem kE{S:aB}{c b x:Nat}{hd l:List AV}{o:AO}(hb:l≠[]→(S.aC c (.cells (hd++ [bD 4 b l]))) b=none)(hx:S x≠none)(hxc:x≠c):(fK S c b hd l).aC x o=a7 ((S.aC c (.cells (hd++ [bD 4 b l]))).aC x o) b l∧(l≠[]→((S.aC c (.cells (hd++ [bD 4 b l]))).aC x o) b=none):=by
 have hne:l≠[]→x≠b:=fun h e=>by
  have:=hb h
  rw[←e,aB.aL _ _ hxc] at this
  exact hx this
 refine⟨by unfold fK;rw[oZ hne],fun h=>by rw[aB.aL _ _ (dD (hne h))];exact hb h⟩
theorem qH{S:aB}{c b x:Nat}{hd l:List AV}{o:AO}(hb:l≠[]→(S.aC c (.cells (hd++ [bD 4 b l]))) b=none)(hx:S x≠none)(hxc:x≠c) :
 (fK S c b hd l).aC x o=fK (S.aC x o) c b hd l∧(l≠[]→((S.aC x o).aC c (.cells (hd++ [bD 4 b l]))) b=none):=by
 have hne:l≠[]→x≠b:=fun h e=>by
  have:=hb h
  rw[←e,aB.aL _ _ hxc] at this
  exact hx this
 refine⟨by unfold fK;rw[oZ hne,aB.oU _ _ _ (dD hxc)],fun h=>?_⟩
 have:=hb h
 rw[aB.oU _ _ _ hxc,aB.aL _ _ (dD (hne h))]
 exact this
theorem aZV{S T:aB}{c b:Nat}{hd l:List AV}(D:aM (S.aC c (.cells (hd++ [bD 4 b l]))) T)(hb:l≠[]→(S.aC c (.cells (hd++ [bD 4 b l]))) b=none):aM (fK S c b hd l) T:=
 D.a7 fun h=>(D b).1 (hb h)
theorem aB.wQ{st:aB}{b c:Nat}{a z a':AO}(h:b≠c):((st.aC c a).aC b z).aC c a'=(st.aC b z).aC c a':=by rw[aB.oU _ _ _ (dD h),dC]
theorem d6(l:List Tm):∀e∈l.map Tm.av,e.width=4:=by intro e h;simp only[cS] at h;obtain⟨t,_,rfl⟩:=h;exact aJ t
theorem iU(l:List Tm):∀e∈l.map Tm.av,e.cF=false:=by intro e h;simp only[cS] at h;obtain⟨t,_,rfl⟩:=h;exact cG t
end Go.AW
namespace Go.AW
open Go.Proofs.Tryz
mutual
def Tm.small:Tm→Bool
 | .mk _ _ _ ts=>decide (ts.length≤1048576)&&IE ts
def IE:List Tm→Bool
 | []=>true
 | t::ts=>t.small&&IE ts
end
theorem EL:∀(ts:List Tm),IE ts=ts.all Tm.small
 | []=>rfl
 | t::ts=>by simp only[IE,kJ,EL ts]
theorem Tm.oR{k n:Int}{s:ByteArray}{ts:List Tm}(h:(Tm.mk k n s ts).small=true):ts.length≤1048576∧∀x∈ts,x.small=true:=by
 simpa [Tm.small,EL] using h
abbrev ME:=zi tI_3 (zi zI_3 (zi aX (zi tI_31 (zi zI_31 (zi aN (zi bG (zi bH (zi b9 (zi tI_66 (zi zI_66 (zi bQ (zi bR (zi bS (zi bT bP))))))))))))))
theorem RJ(l:List Tm)(st:aB)(hb:l.length≤1048576)(hc:∀x∈l,∀(st:aB),aD prog 111 [Tm.av x] st (Made st (Tm.av x))) :
 aD prog 130 [.slice (l.map Tm.av)] st (Made st (.slice (l.map Tm.av))):=by
 have hws:∀e∈l.map Tm.av,e.width=4:=fun e he=>by simp only[cS] at he;obtain⟨t,_,rfl⟩:=he;exact aJ t
 refine wF [] 1 func130 ntmps130 rfl rfl ?_
 intro _
 simp -implicitDefEqProofs only[aF,aA,seval,ME]
 refine eP (σ:=List AV×List Nat×Nat×aB) [] [2,6,7] l (fun i p=>uS (l.map Tm.av) st i p.1 p.2.1 p.2.2.1 p.2.2.2) (fun i p=>[(3,bD 4 p.2.2.1 p.1),(8,.int .i64 i)]) (fun _ p=>p.2.2.2) (by decide +kernel)
  ⟨([],[],0,st),uS.start,aO.mk (by simp -implicitDefEqProofs only[jG,aA,↓aU,seval])⟩ (fun i x p hx hlt bV hdr hinv=>?_) (fun p hge hinv=>?_)
 case refine_2=>
  obtain⟨os,bs,b,s⟩:=p
  simp -implicitDefEqProofs only[hge,aA,seval]
  exact hinv.done (aF _) hws
 obtain⟨os,bs,b,s⟩:=p
 simp only at hinv
 have hw:=bO (n:=(i:Int)+1)
 have uH:∀zs:List AV,zs.length=4→aK zs 0 (Tm.av x).cells=(Tm.av x).cells:=fun zs h=>A7 (bY x) h
 simp -implicitDefEqProofs only[bV,bM (av:=Tm.av) aN hx (aJ x),aT,aJ,bY,cC,dC,uH,aA,seval,ME]
 intro b2 hb2
 try simp -implicitDefEqProofs only[uL,bY,eO (bY x),eK (aT x),c7,uH,dC,cC,aA,↓aU,seval,ME]
 refine(hc x (cP hx) _).mono ?_
 rintro r s2 ⟨bx,m1,m2,m3,m4⟩
 obtain⟨f1,f2,f3⟩:=m3.aUH (aJ x) (cC x)
 have hra:r.isAgg=true:=by rw[(cK.shape m3).1,aT]
 have hrj:r.cF=false:=(cK.shape m3).2.2.1
 simp -implicitDefEqProofs only[f1,hra,hrj,aA,seval,ME]
 have hlen:os.length=i:=hinv.1
 have aYJ:∀e∈os,e.width=4:=fun e he=>by
  obtain⟨k,hk,rfl⟩:=List.getElem_of_mem he
  exact hinv.2.1.aO0 (fun q hq=>hws q (mC hq)) _ he
 have hkb:os≠[]→s2 b=some (.cells (os.flatMap AV.cells)):=fun hne=>by
  have h:=(hinv.2.2.2.2.1 hne).2.2
  have hbx:b∉bx:=fun hq=>by
   have:=m2 b hq
   have GZ:b≠b2:=fun e=>by rw[e,hb2] at h;cases h
   rw[aB.aL _ _ GZ,h] at this;cases this
  have GZ:b≠b2:=fun e=>by rw[e,hb2] at h;cases h
  rw[m4 b hbx,aB.aL _ _ GZ,h]
 refine aP2 aN bG bH rfl rfl (fM f1 f3) aYJ hkb (by simp only[aS,aZ,hlen];omega) (by simp only[aS,aZ,hlen];omega) (fun b' s' k1 k2 k3 k4=>?_)
 have iS:=hinv.step hb2 (show(l.map Tm.av)[i]?=some (Tm.av x) by rw[mW,hx];try rfl) m1 m2 m3 m4 (k1 (by simp)) (k2 (by simp)) (fun q h1 h2=>k3 q (fun _=>h1) h2) k4
 simp -implicitDefEqProofs only[hw,aA,seval]
 exact⟨(os++ [r],bs++bx,b',s'.erase b2),iS,aO.drop (jI _ _) (by simp -implicitDefEqProofs only[aA,seval])⟩
abbrev aNV:=zi tI_31 (zi zI_31 (zi aN (zi bG (zi bH (zi b9 (zi tI_66 (zi zI_66 (zi bQ (zi bR (zi bS (zi bT bP)))))))))))
theorem RH:∀(t:Tm) (st:aB),t.small=true→aD prog 111 [t.av] st (Made st t.av)
 | .mk k n s ts,st,hb=>by
  obtain⟨hb1,hb2⟩:=Tm.oR hb
  have hc:=fun st=>RJ ts st hb1 fun x hx st=>RH x st (hb2 x hx)
  refine aD.a0C ?_
  refine wF [1] 1 func111 ntmps111 rfl rfl ?_
  intro _
  simp only[aV]
  simp -implicitDefEqProofs only[aA,seval,aNV]
  intro b aW8 b2 KZ
  have hne:b2≠b:=by rintro rfl;rw[aB.aP] at KZ;cases KZ
  have hn2:st b2=none:=by rw[aB.aL st _ hne] at KZ;exact KZ
  simp -implicitDefEqProofs only[uL,hne.symm,aA,seval]
  refine(hc _).mono ?_
  rintro q s2 ⟨bs,m1,m2,m3,m4⟩
  have hbb:b∉bs:=fun h=>by have:=m2 b h;simp [uL,hne.symm] at this
  have K1:b2∉bs:=fun h=>by have:=m2 b2 h;simp [uL] at this
  have e1:=m4 b hbb
  have e2:=m4 b2 K1
  simp only[uL,hne,hne.symm,gA,dY] at e1 e2
  have hqc:q.cells= [q]:=by have:=(cK.shape m3).1;cases q<;>first | rfl | simp [AV.isAgg] at this
  have hqs:q.storable=true:=by
   have:=m3
   simp only[cK] at this
   rcases this with ⟨_,rfl,_⟩ | ⟨_,_,_,_,rfl,_⟩<;>rfl
  simp -implicitDefEqProofs only[uL,hne,e1,e2,hqc,hqs,aK,aA,seval,aNV]
  refine⟨[b,b2],bs,m1,fun x hx=>?_,?_,?_,?_⟩
  · have:=m2 x hx
    have h1:x≠b:=fun e=>hbb (e▸hx)
    have h2:x≠b2:=fun e=>K1 (e▸hx)
    simpa [uL,h1,h2] using this
  · simp [aW8,hn2,hbb,K1]
  · rw[←aV]
    refine a02.2 ⟨q,rfl,cK.a8 _ _ _ (fun x hx=>?_) m3⟩
    have h1:x≠b:=fun e=>hbb (e▸hx)
    have h2:x≠b2:=fun e=>K1 (e▸hx)
    simp only[uL,h1,h2,dY]
  · intro x hx hd
    simp only[cX,dN,dV,not_or] at hd
    simp only[uL,hd.1,hd.2,dY]
    rw[m4 x hx]
    simp only[uL,hd.1,hd.2,dY]
termination_by t=>SizeOf.sizeOf t
decreasing_by have:=List.sizeOf_lt_of_mem hx;simp only[Tm.mk.sizeOf_spec];omega
abbrev BC:=zi tI_3 (zi zI_3 (zi aX (zi tI_9 (zi zI_9 (zi cI (zi tI_31 (zi zI_31 (zi aN (zi bG (zi bH (zi b9 (zi tI_66 (zi zI_66 (zi bQ (zi bR (zi bS (zi bT bP)))))))))))))))))
theorem zJ:∀(t:Tm) (st:aB),t.small=true→aD prog 102 [t.av] st (fun r st'=>r=t.av∧st'=st)
 | .mk k n s ts,st,hsm=>by
  obtain⟨hlen,pI⟩:=Tm.oR hsm
  have IH:=fun(x:Tm) (hx:x∈ts) st=>zJ x st (pI x hx)
  refine aD.pZ (aD.fin ?_)
  simp only[aV]
  refine wF [] 1 func102 ntmps102 rfl rfl ?_
  simp only[eC,AV.fits,eF,aF]
  intro ⟨_,_,_,hl,_⟩
  simp -implicitDefEqProofs only[aA,seval,BC]
  intro b2 hb2 c hc
  have hne:c≠b2:=by rintro rfl;rw[aB.aP] at hc;cases hc
  have hn2:st c=none:=by rw[aB.aL st _ hne] at hc;exact hc
  simp -implicitDefEqProofs only[aK,aA,seval]
  refine eP (σ:=Nat) [] [1,2,3] ts (fun i b=>(((ts.take i).map (fun y=>y)).map Tm.av≠[]→(aB.aC (st.aC b2 (.cells [AV.int .i64 0,AV.int .i64 0,AV.str ⟨#[]⟩,AV.fslice []])) c (.cells ([AV.int .i64 k,AV.int .i64 n,AV.str s]++ [bD 4 b (((ts.take i).map (fun y=>y)).map Tm.av)]))) b=none)) (fun i b=>[(4,.int .i64 i)]) (fun i b=>fK (st.aC b2 (.cells [AV.int .i64 0,AV.int .i64 0,AV.str ⟨#[]⟩,AV.fslice []])) c b [AV.int .i64 k,AV.int .i64 n,AV.str s] (((ts.take i).map (fun y=>y)).map Tm.av)) (by decide +kernel)
   ⟨0,fun h=>absurd rfl h,aO.mk (by simp -implicitDefEqProofs only[aA,↓aU,seval])⟩ (fun i x b hx hlt bV hdr hinv=>?_) (fun b hge hinv=>?_)
  case refine_1=>
   have hw:=bO (n:=(i:Int)+1)
   have cZ:(((ts.take i).map (fun y=>y)).map Tm.av).length=i:=by simp only[aF,dS];omega
   have htk:(ts.take (i+1)).map (fun y=>y)=(ts.take i).map (fun y=>y)++ [(fun y=>y) x]:=by rw[fG,hx];simp
   have hbo:=eN hinv
   simp -implicitDefEqProofs only[aF,bV,aA,seval,BC]
   refine wP [(0,1),(2,1),(4,1),(1,2),(3,2),(5,1),(6,2),(7,2),(8,1),(9,0),(10,1),(11,0)] [0,2,4,1,3,5,6,7,8,10] mixed ?_
   simp -implicitDefEqProofs only[bM (av:=Tm.av) aN hx (aJ x),aT,aJ,hbo,mZ,hH,aA,seval,BC]
   refine iD (IH x (cP hx) _) ?_
   simp -implicitDefEqProofs only[aT,aJ,cG,hH,aA,seval,BC]
   refine eW aN bG bH rfl rfl (fM (aJ _) (cC _)) (d6 _) hinv (by simp only[cZ,aS,aZ];omega) (by simp only[cZ,aS,aZ];omega) (fun b' hb'=>?_)
   rw[show(((ts.take i).map (fun y=>y)).map Tm.av)++ [((fun y=>y) x).av]=((ts.take (i+1)).map (fun y=>y)).map Tm.av by rw[htk];simp] at hb' ⊢
   obtain⟨g1,g2,g3⟩:=oL hb'
   simp only[fL,eR] at g1 g3
   simp -implicitDefEqProofs only[g3,m6,fJ,aK,g1,hw,aA,seval,BC]
   exact⟨b',g2,aO.mk (by simp -implicitDefEqProofs only[aA,seval])⟩
  have hbo:=eN hinv
  rw[eS] at hinv hbo ⊢
  simp -implicitDefEqProofs only[aF,hge,aA,seval,BC]
  simp -implicitDefEqProofs only[hbo,aA,seval,BC]
  have nS:b2≠c:=dD hne
  have hS:(st.aC b2 (.cells [AV.int .i64 0,AV.int .i64 0,AV.str ⟨#[]⟩,AV.fslice []])) b2≠none:=by rw[aB.aP];simp
  have h1:=gS hinv hS nS
  rw[aB.aP] at h1
  simp -implicitDefEqProofs only[h1,fJ,aK,aA,seval]
  obtain⟨h2,h3⟩:=kE (o:=.cells [AV.int .i64 k,AV.int .i64 n,AV.str s,bD 4 b ((ts.map fun y=>y).map Tm.av)]) hinv hS nS
  refine⟨b,_,_,h2,h3,iU _,⟨4,d6 _⟩,?_,?_⟩
  · simp only[fZ,bA,aW,eG,iY,iP,List.map_id']
  · exact(((aM.refl _).aC hb2).aC hn2).aC hb2
termination_by t=>SizeOf.sizeOf t
decreasing_by have:=List.sizeOf_lt_of_mem hx;simp only[Tm.mk.sizeOf_spec];omega
end Go.AW
namespace Go.AW
def Tm.k:Tm→Int | .mk k _ _ _=>k
def Tm.n:Tm→Int | .mk _ n _ _=>n
def Tm.s:Tm→ByteArray | .mk _ _ s _=>s
def Tm.ts:Tm→List Tm | .mk _ _ _ ts=>ts
theorem Tm.eta(t:Tm):t=.mk t.k t.n t.s t.ts:=by cases t;rfl
def vr(n:Int):Tm:=.mk 1 n ⟨#[]⟩ []
mutual
def Tm.aG(f:Int→Tm):Tm→Tm
 | .mk k n s ts=>if k=1 then f n else .mk k n s (MN f ts)
def MN(f:Int→Tm):List Tm→List Tm
 | []=>[]
 | t::ts=>t.aG f::MN f ts
end
theorem aN7(f:Int→Tm):∀ts:List Tm,MN f ts=ts.map (Tm.aG f)
 | []=>rfl
 | t::ts=>by simp only[MN,bA,aN7 f ts]
theorem Tm.kY(f:Int→Tm){k n:Int}{s:ByteArray}{ts:List Tm}(h:k=1):(Tm.mk k n s ts).aG f=f n:=by simp only[Tm.aG,h,gA]
theorem Tm.j4(f:Int→Tm){k n:Int}{s:ByteArray}{ts:List Tm}(h:k≠1):(Tm.mk k n s ts).aG f=.mk k n s (ts.map (Tm.aG f)):=by simp only[Tm.aG,h,dY,aN7]
theorem qI(f:Int→Tm)(n:Int):(vr n).aG f=f n:=Tm.kY f rfl
mutual
def Tm.vl:Tm→List Int
 | .mk k n _ ts=>if k=1 then[n] else IF ts
def IF:List Tm→List Int
 | []=>[]
 | t::ts=>t.vl++IF ts
end
theorem aOE{v:Int}:∀ {ts:List Tm},v∈IF ts↔∃t∈ts,v∈t.vl
 | []=>by simp [IF]
 | t::ts=>by simp [IF,aOE (ts:=ts)]
theorem Tm.mS{k n:Int}{s:ByteArray}{ts:List Tm}(h:k=1):(Tm.mk k n s ts).vl= [n]:=by simp only[Tm.vl,h,gA]
theorem Tm.k8{k n v:Int}{s:ByteArray}{ts:List Tm}(h:k≠1):v∈(Tm.mk k n s ts).vl↔∃t∈ts,v∈t.vl:=by simp only[Tm.vl,h,dY,aOE]
theorem yO(n:Int):(vr n).vl= [n]:=Tm.mS rfl
theorem Tm.ind{p:Tm→Prop}(h:∀k n s ts,(∀t∈ts,p t)→p (.mk k n s ts)):∀t,p t
 | .mk k n s ts=>h k n s ts fun t ht=>Tm.ind h t
termination_by t=>SizeOf.sizeOf t
decreasing_by have:=List.sizeOf_lt_of_mem ht;simp only[Tm.mk.sizeOf_spec];omega
theorem mN{f g:Int→Tm}:∀(t:Tm),(∀v∈t.vl,f v=g v)→t.aG f=t.aG g:=by
 intro t
 induction t using Tm.ind with
 | h k n s ts ih=>
  intro h
  by_cases hk:k=1
  · rw[Tm.kY f hk,Tm.kY g hk];exact h n (by rw[Tm.mS hk];simp)
  · rw[Tm.j4 f hk,Tm.j4 g hk]
    congr 1
    exact qU fun x hx=>ih x hx fun v hv=>h v ((Tm.k8 hk).2 ⟨x,hx,hv⟩)
theorem pN(f g:Int→Tm)(t:Tm):(t.aG f).aG g=t.aG fun v=>(f v).aG g:=by
 induction t using Tm.ind with
 | h k n s ts ih=>
  by_cases hk:k=1
  · rw[Tm.kY f hk,Tm.kY _ hk]
  · rw[Tm.j4 f hk,Tm.j4 g hk,Tm.j4 _ hk,tN]
    congr 1
    exact qU fun x hx=>ih x hx
theorem wR{f:Int→Tm}{w:Int}(t:Tm):w∈(t.aG f).vl↔∃v∈t.vl,w∈(f v).vl:=by
 induction t using Tm.ind with
 | h k n s ts ih=>
  by_cases hk:k=1
  · rw[Tm.kY f hk,Tm.mS hk];simp
  · rw[Tm.j4 f hk,Tm.k8 hk]
    constructor
    · rintro⟨x,hx,hw⟩
      obtain⟨y,hy,rfl⟩:=cS.1 hx
      obtain⟨v,hv,hvw⟩:=(ih y hy).1 hw
      exact⟨v,(Tm.k8 hk).2 ⟨y,hy,hv⟩,hvw⟩
    · rintro⟨v,hv,hw⟩
      obtain⟨y,hy,hvy⟩:=(Tm.k8 hk).1 hv
      exact⟨_,cS.2 ⟨y,hy,rfl⟩,(ih y hy).2 ⟨v,hvy,hw⟩⟩
theorem Tm.pO(t:Tm):0<t.nodes:=by cases t;rw[Tm.gI];omega
theorem a0P{f:Int→Tm}{v:Int}:∀(t:Tm),v∈t.vl→(f v).nodes≤(t.aG f).nodes∧(t.k≠1→(f v).nodes<(t.aG f).nodes):=by
 intro t
 induction t using Tm.ind with
 | h k n s ts ih=>
  intro hv
  by_cases hk:k=1
  · rw[Tm.mS hk] at hv
    simp only[cX,dN,dV] at hv
    subst hv
    rw[Tm.kY f hk]
    exact⟨c7 _,fun h=>absurd hk h⟩
  · obtain⟨x,hx,hvx⟩:=(Tm.k8 hk).1 hv
    have h1:=(ih x hx hvx).1
    have h2:=HV (f:=Tm.nodes) (cS.2 ⟨x,hx,rfl⟩:x.aG f∈ts.map (Tm.aG f))
    rw[Tm.j4 f hk,Tm.gI]
    omega
abbrev Sub:=Int→Option Tm
def Sub.set(σ:Sub)(n:Int)(t:Tm):Sub:=fun m=>if m=n then some t else σ m
def Sub.none:Sub:=fun _=>Option.none
structure Good (σ:Sub) (R:Int→Tm) (rk:Int→Nat) (B:Nat):Prop where
 wJ:∀n,R n=match σ n with | some u=>u.aG R | .none=>vr n
 HK:∀n u,σ n=some u→∀w∈u.vl,rk w<rk n
 bd:∀n,rk n<B
def n7(θ:Int→Tm)(σ:Sub):Prop:=∀n u,σ n=some u→θ n=u.aG θ
section
variable {σ:Sub} {R R':Int→Tm} {rk rk':Int→Nat} {B B':Nat}
theorem Good.none:Good Sub.none vr (fun _=>0) 1:=⟨fun n=>rfl,fun n u h=>(by cases h),fun n=>Nat.zero_lt_one⟩
theorem Good.free(G:Good σ R rk B){n:Int}(h:σ n=.none):R n=vr n:=by rw[G.wJ n,h]
theorem Good.bound(G:Good σ R rk B){n:Int}{u:Tm}(h:σ n=some u):R n=u.aG R:=by rw[G.wJ n,h]
theorem Good.v8(G:Good σ R rk B):n7 R σ:=fun n u h=>G.bound h
theorem Good.ind(G:Good σ R rk B){p:Int→Prop}(h0:∀n,σ n=.none→p n)(h1:∀n u,σ n=some u→(∀w∈u.vl,p w)→p n):∀n,p n:=by
 intro n
 generalize hk:rk n=k
 induction k using Nat.strongRecOn generalizing n with
 | _ k ih=>
  cases h:σ n with
  | none=>exact h0 n h
  | some u=>exact h1 n u h fun w hw=>ih (rk w) (hk▸G.HK n u h w hw) w rfl
theorem Good.uniq(G:Good σ R rk B)(G':Good σ R' rk' B'):R=R':=by
 funext n
 refine G.ind (p:=fun n=>R n=R' n) (fun n h=>?_) (fun n u h ih=>?_) n
 · rw[G.free h,G'.free h]
 · rw[G.bound h,G'.bound h];exact mN u ih
theorem Good.aWC(G:Good σ R rk B){θ:Int→Tm}(S:n7 θ σ)(n:Int):(R n).aG θ=θ n:=by
 refine G.ind (p:=fun n=>(R n).aG θ=θ n) (fun n h=>?_) (fun n u h ih=>?_) n
 · rw[G.free h,qI]
 · rw[G.bound h,pN,S n u h];exact mN u ih
theorem Good.KK(G:Good σ R rk B){θ:Int→Tm}(S:n7 θ σ)(t:Tm):(t.aG R).aG θ=t.aG θ:=by
 rw[pN];exact mN t fun v _=>G.aWC S v
theorem Good.canon(G:Good σ R rk B)(n:Int):(R n).aG vr=R n:=by
 refine G.ind (p:=fun n=>(R n).aG vr=R n) (fun n h=>?_) (fun n u h ih=>?_) n
 · rw[G.free h,qI]
 · rw[G.bound h,pN];exact mN u ih
theorem Good.aUD(G:Good σ R rk B)(t:Tm):(t.aG R).aG vr=t.aG R:=by
 rw[pN];exact mN t fun v _=>G.canon v
theorem Good.bind(G:Good σ R rk B){n:Int}{t:Tm}(hn:σ n=.none)(ho:n∉(t.aG R).vl) :
 ∃rk' B',Good (σ.set n t) (fun m=>(R m).aG fun v=>if v=n then t.aG R else vr v) rk' B':=by
 have key:(t.aG R).aG (fun v=>if v=n then t.aG R else vr v)=t.aG R:=by
  rw[mN (g:=vr) (t.aG R) (fun v hv=>aE fun e=>ho (by rw[←e];exact hv)),G.aUD]
 refine⟨fun v=>if n∈(R v).vl then rk v+B else rk v,B+B,fun m=>?_,fun m u h w hw=>?_,fun m=>?_⟩
 · by_cases hm:m=n
   · subst hm
     simp only[Sub.set,gA]
     rw[G.free hn,qI,aH rfl]
     rw[←pN,key]
   · simp only[Sub.set,hm,dY]
     cases h:σ m with
     | none=>rw[G.free h,qI,aE hm]
     | some u=>rw[G.bound h,pN]
 · by_cases hm:m=n
   · subst hm
     simp only[Sub.set,gA,Option.some.injEq] at h
     subst h
     have hw':m∉(R w).vl:=fun h=>ho ((wR t).2 ⟨w,hw,h⟩)
     have:m∈(R m).vl:=by rw[G.free hn,yO];simp
     have:=G.bd w
     simp only[hw',dY]
     rw[aH (by assumption)]
     omega
   · simp only[Sub.set,hm,dY] at h
     have h1:=G.HK m u h w hw
     by_cases hw':n∈(R w).vl
     · have:n∈(R m).vl:=by rw[G.bound h];exact(wR u).2 ⟨w,hw,hw'⟩
       simp only[hw',this,gA];omega
     · simp only[hw',dY];split<;>omega
 · have:=G.bd m
   split<;>omega
end
open Classical in
noncomputable def rs(σ:Sub):Int→Tm:=if h:∃R rk B,Good σ R rk B then h.choose else vr
theorem Good.rs{σ:Sub}{R:Int→Tm}{rk:Int→Nat}{B:Nat}(G:Good σ R rk B):rs σ=R:=by
 unfold AW.rs
 have h:∃R rk B,Good σ R rk B:=⟨R,rk,B,G⟩
 rw[dif_pos h]
 obtain⟨rk',B',G'⟩:=h.choose_spec
 exact G'.uniq G
inductive f0 (σ:Sub):Nat→Tm→Tm→Prop
 | stop {t:Tm} (h:t.k=1→σ t.n=none):f0 σ 0 t t
 | go {f:Nat} {t u v:Tm} (h1:t.k=1) (h2:σ t.n=some u) (h3:f0 σ f u v):f0 σ (f+1) t v
theorem f0.det{σ:Sub}{f g:Nat}{t u v:Tm}(h:f0 σ f t u):f0 σ g t v→u=v:=by
 induction h generalizing g v with
 | stop h=>
  intro h'
  cases h' with
  | stop=>rfl
  | go h1 h2 h3=>rw[h h1] at h2;cases h2
 | go h1 h2 h3 ih=>
  intro h'
  cases h' with
  | stop h=>rw[h h1] at h2;cases h2
  | go h1' h2' h3'=>rw[h2] at h2';cases h2';exact ih h3'
theorem f0.total{σ:Sub}{R:Int→Tm}{rk:Int→Nat}{B:Nat}(G:Good σ R rk B)(t:Tm):∃f u,f0 σ f t u:=by
 have key:∀n,∀t:Tm,t.k=1→t.n=n→∃f u,f0 σ f t u:=by
  intro n
  refine G.ind (p:=fun n=>∀t:Tm,t.k=1→t.n=n→∃f u,f0 σ f t u) (fun n h t hk hn=>?_) (fun n u h ih t hk hn=>?_) n
  · exact⟨0,t,.stop fun _=>by rw[hn,h]⟩
  · by_cases hu:u.k=1
    · have:u.n∈u.vl:=by rw[Tm.eta u,Tm.mS hu];simp [Tm.n]
      obtain⟨f,v,hv⟩:=ih u.n this u hu rfl
      exact⟨f+1,v,.go hk (by rw[hn,h]) hv⟩
    · exact⟨1,u,.go hk (by rw[hn,h]) (.stop fun h=>absurd h hu)⟩
 by_cases hk:t.k=1
 · exact key t.n t hk rfl
 · exact⟨0,t,.stop fun h=>absurd h hk⟩
theorem Tm.ES{t:Tm}(h:t.k=1):t.vl= [t.n]:=by cases t;exact Tm.mS h
theorem Tm.DR{t:Tm}(f:Int→Tm)(h:t.k=1):t.aG f=f t.n:=by cases t;exact Tm.kY f h
theorem Tm.pM{t:Tm}(f:Int→Tm)(h:t.k≠1):t.aG f=.mk t.k t.n t.s (t.ts.map (Tm.aG f)):=by cases t;exact Tm.j4 f h
theorem f0.end{σ:Sub}{f:Nat}{t u:Tm}(h:f0 σ f t u):u.k=1→σ u.n=none:=by induction h with | stop h=>exact h | go _ _ _ ih=>exact ih
theorem f0.aG{σ:Sub}{θ:Int→Tm}(S:n7 θ σ){f:Nat}{t u:Tm}(h:f0 σ f t u):u.aG θ=t.aG θ:=by
 induction h with
 | stop=>rfl
 | go h1 h2 _ ih=>rw[ih,Tm.DR θ h1,S _ _ h2]
theorem f0.HK{σ:Sub}{R:Int→Tm}{rk:Int→Nat}{B:Nat}(G:Good σ R rk B){f:Nat}{t u:Tm}(h:f0 σ f t u):∀w∈u.vl,∃v∈t.vl,rk w≤rk v∧(f≠0→rk w<rk v):=by
 induction h with
 | stop h=>exact fun w hw=>⟨w,hw,c7 _,fun h=>absurd rfl h⟩
 | @go f t u v h1 h2 _ ih=>
  intro w hw
  obtain⟨x,hx,hle,_⟩:=ih w hw
  have:=G.HK _ _ h2 x hx
  exact⟨t.n,by rw[Tm.ES h1];simp,by omega,fun _=>by omega⟩
theorem f0.all{σ:Sub}{p:Tm→Prop}(hp:∀n u,σ n=some u→p u){f:Nat}{t u:Tm}(h:f0 σ f t u)(ht:p t):p u:=by
 induction h with
 | stop=>exact ht
 | go _ h2 _ ih=>exact ih (hp _ _ h2)
open Classical in
noncomputable def wk(σ:Sub)(t:Tm):Tm:=if h:∃u f,f0 σ f t u then h.choose else t
theorem f0.wk{σ:Sub}{f:Nat}{t u:Tm}(h:f0 σ f t u):wk σ t=u:=by
 unfold AW.wk
 have h':∃u f,f0 σ f t u:=⟨u,f,h⟩
 rw[dif_pos h']
 obtain⟨g,hg⟩:=h'.choose_spec
 exact hg.det h
theorem Good.wk{σ:Sub}{R:Int→Tm}{rk:Int→Nat}{B:Nat}(G:Good σ R rk B)(t:Tm):∃f,f0 σ f t (wk σ t):=by
 obtain⟨f,u,h⟩:=f0.total G t
 exact⟨f,by rw[h.wk];exact h⟩
open Classical in
noncomputable def jX(σ:Sub)(n:Int)(t:Tm):Bool×Sub×List Int:=if n∈(t.aG (rs σ)).vl then(false,σ,[]) else(true,σ.set n t,[n])
open Classical in
def uB(a b:Tm):Bool:=decide (a.k=b.k)&&decide (a.n=b.n)&&decide (a.s=b.s)&&decide (a.ts.length=b.ts.length)
mutual
noncomputable def dI:Nat→Sub→Tm→Tm→Option (Bool×Sub×List Int)
 | 0,_,_,_=>none
 | g+1,σ,a,b=>
  if(wk σ a).k=1∧(wk σ b).k=1∧(wk σ a).n=(wk σ b).n then some (true,σ,[])
  else if(wk σ a).k=1 then some (jX σ (wk σ a).n (wk σ b))
  else if(wk σ b).k=1 then some (jX σ (wk σ b).n (wk σ a))
  else if uB (wk σ a) (wk σ b)=true then d7 g σ (wk σ a).ts (wk σ b).ts
  else some (false,σ,[])
termination_by g=>(g,0)
noncomputable def d7:Nat→Sub→List Tm→List Tm→Option (Bool×Sub×List Int)
 | g,σ,a::xs,b::ys=>match dI g σ a b with
  | none=>none
  | some (false,σ',tr)=>some (false,σ',tr)
  | some (true,σ',tr)=>match d7 g σ' xs ys with
   | none=>none
   | some (r,σ'',tr')=>some (r,σ'',tr++tr')
 | _,σ,_,_=>some (true,σ,[])
termination_by g _ xs=>(g,xs.length+1)
end
theorem M3{g:Nat}{σ σ':Sub}{a b:Tm}{r:Bool}{add:List Int}(h:dI (g+1) σ a b=some (r,σ',add)) :
 ((wk σ a).k=1∧(wk σ b).k=1∧(wk σ a).n=(wk σ b).n∧true=r∧σ=σ'∧[]=add) ∨
 ((wk σ a).k=1∧¬((wk σ b).k=1∧(wk σ a).n=(wk σ b).n)∧jX σ (wk σ a).n (wk σ b)=(r,σ',add)) ∨
 ((wk σ a).k≠1∧(wk σ b).k=1∧jX σ (wk σ b).n (wk σ a)=(r,σ',add)) ∨
 ((wk σ a).k≠1∧(wk σ b).k≠1∧uB (wk σ a) (wk σ b)=true∧d7 g σ (wk σ a).ts (wk σ b).ts=some (r,σ',add)) ∨
 ((wk σ a).k≠1∧(wk σ b).k≠1∧uB (wk σ a) (wk σ b)=false∧false=r∧σ=σ'∧[]=add):=by
 rw[dI] at h
 split at h
 · rename_i h1;exact .inl ⟨h1.1,h1.2.1,h1.2.2,by simpa using h⟩
 · rename_i h1
   split at h
   · rename_i h2;exact .inr (.inl ⟨h2,fun h3=>h1 ⟨h2,h3⟩,nK h⟩)
   · rename_i h2
     split at h
     · rename_i h3;exact .inr (.inr (.inl ⟨h2,h3,nK h⟩))
     · rename_i h3
       split at h
       · rename_i h4;exact .inr (.inr (.inr (.inl ⟨h2,h3,h4,h⟩)))
       · rename_i h4;exact .inr (.inr (.inr (.inr ⟨h2,h3,by simpa using h4,by simpa using h⟩)))
theorem Tm.soft(t:Tm):t.av.soft=t.av:=by cases t;simp [aV,AV.soft,gY]
theorem Tm.vQ(t:Tm)(b:Nat):t.av.fin b []=t.av:=Tm.soft t
abbrev Bd:=Int×Tm
def aI2:List Bd→Int→Option Tm
 | [],_=>none
 | (m,x)::r,n=>if m=n then some x else aI2 r n
def SN(bs:List Bd)(n:Int):Tm:=(aI2 bs n).getD (vr n)
def Tm.zero:Tm:=.mk 0 0 ⟨#[]⟩ []
mutual
def Tm.cv:Tm→Bool
 | .mk k _ s ts=>(!decide (k=1)||(decide (s=⟨#[]⟩)&&ts.isEmpty))&&MK ts
def MK:List Tm→Bool
 | []=>true
 | t::ts=>t.cv&&MK ts
end
theorem aN4:∀(ts:List Tm),MK ts=ts.all Tm.cv
 | []=>rfl
 | t::ts=>by simp only[MK,kJ,aN4 ts]
theorem Tm.lR{k n:Int}{s:ByteArray}{ts:List Tm}:(Tm.mk k n s ts).cv=true↔(k=1→s=⟨#[]⟩∧ts= [])∧∀x∈ts,x.cv=true:=by
 simp only[Tm.cv,aN4,cA,pS,kQ,dJ,List.isEmpty_iff,dW,bJ]
 constructor
 · exact fun h=>⟨fun hk=>h.1.resolve_left (fun hn=>hn hk),h.2⟩
 · intro h
   refine⟨?_,h.2⟩
   by_cases hk:k=1
   · exact .inr (h.1 hk)
   · exact .inl hk
theorem Tm.a2H:∀(t:Tm) (d:Int),t.shape d=true→t.cv=true:=by
 intro t
 induction t using Tm.ind with
 | h k n s ts ih=>
  intro d h
  rw[Tm.A8] at h
  simp only[cA,dW] at h
  obtain⟨⟨_,h1⟩,h2⟩:=h
  refine Tm.lR.2 ⟨fun hk=>?_,fun x hx=>ih x hx _ (h2 x hx)⟩
  subst hk
  simp [eD] at h1
  exact⟨h1.1.2,h1.2⟩
theorem Tm.a40{t:Tm}(h:t.valid=true):t.cv=true:=by simp only[Tm.valid,cA] at h;exact Tm.a2H t 30 h.1
theorem Tm.sG:∀(t:Tm),t.cv=true→t.wf=true:=by
 intro t
 induction t using Tm.ind with
 | h k n s ts ih=>
  intro h
  obtain⟨h1,h2⟩:=Tm.lR.1 h
  simp only[Tm.wf,TF,cA,pS,kQ,dJ,List.isEmpty_iff,dW]
  refine⟨?_,fun x hx=>ih x hx (h2 x hx)⟩
  by_cases hk:k=1
  · exact .inr (h1 hk).2
  · exact .inl hk
theorem Tm.aU3{t:Tm}(h:t.cv=true)(hk:t.k=1):t=vr t.n:=by
 obtain⟨k,n,s,ts⟩:=t
 obtain⟨h1,_⟩:=Tm.lR.1 h
 simp only[Tm.k] at hk
 subst hk
 obtain⟨rfl,rfl⟩:=h1 rfl
 rfl
theorem Tm.a2I:∀(t:Tm) (d:Int),t.shape d=true→t.small=true:=by
 intro t
 induction t using Tm.ind with
 | h k n s ts ih=>
  intro d h
  rw[Tm.A8] at h
  simp only[cA,dW] at h
  obtain⟨⟨_,h1⟩,h2⟩:=h
  simp only[Tm.small,EL,cA,bJ,dW]
  refine⟨?_,fun x hx=>ih x hx _ (h2 x hx)⟩
  unfold eD at h1
  cases h3:decide (k=1)<;>rw[h3] at h1
  · cases h4:decide (k=2)<;>rw[h4] at h1
    · cases h5:decide (k=3)<;>rw[h5] at h1<;>simp at h1;omega
    · simp at h1;rw[h1.2];simp
  · simp at h1;rw[h1.2];simp
theorem Tm.IP{t:Tm}(h:t.valid=true):t.small=true:=by simp only[Tm.valid,cA] at h;exact Tm.a2I t 30 h.1
theorem Tm.a0J{f:Int→Tm}(hf:∀n,(f n).small=true):∀(t:Tm),t.small=true→(t.aG f).small=true:=by
 intro t
 induction t using Tm.ind with
 | h k n s ts ih=>
  intro h
  by_cases hk:k=1
  · rw[Tm.kY f hk];exact hf n
  · obtain⟨h1,h2⟩:=Tm.oR h
    rw[Tm.j4 f hk]
    simp only[Tm.small,EL,cA,bJ,dW,aF]
    refine⟨h1,fun x hx=>?_⟩
    obtain⟨y,hy,rfl⟩:=cS.1 hx
    exact ih y hy (h2 y hy)
def oH{α:Type}(p:α→Bool):List α→Int→Int
 | [],_=> -1
 | x::xs,i=>if p x=true then i else oH p xs (i+1)
theorem Q4{α:Type}(p:α→Bool):∀(l:List α) (i:Int),0≤i→(oH p l i= -1∧l.any p=false)∨∃(j:Nat) (x:α),oH p l i=i+j∧l[j]?=some x∧p x=true∧l.any p=true∧∀(k:Nat) y,k<j→l[k]?=some y→p y=false
 | [],i,_=>.inl ⟨rfl,rfl⟩
 | x::xs,i,h=>by
  by_cases hp:p x=true
  · exact .inr ⟨0,x,by simp [oH,hp],rfl,hp,by simp [hp],fun k y hk=>absurd hk (Nat.not_lt_zero k)⟩
  · rcases Q4 p xs (i+1) (by omega) with ⟨h1,h2⟩ | ⟨j,y,h1,h2,h3,h4,h5⟩
    · exact .inl ⟨by simp [oH,hp,h1],by simp [hp,h2]⟩
    · refine .inr ⟨j+1,y,by simp only[oH,hp,h1];simp;omega,by simpa using h2,h3,by simp [h4],fun k z hk hz=>?_⟩
      cases k with
      | zero=>simp at hz;subst hz;simpa using hp
      | succ k=>exact h5 k z (by omega) (by simpa using hz)
theorem aZE{α:Type}(p:α→Bool)(l:List α):decide (0≤oH p l 0)=l.any p:=by
 rcases Q4 p l 0 (Int.le_refl 0) with ⟨h1,h2⟩ | ⟨j,y,h1,_,_,h4,_⟩
 · rw[h1,h2];try rfl
 · rw[h1,h4];simp
end Go.AW
namespace Go.AW
open Go.Proofs.Tryz
abbrev a3Q:=zi tI_3 (zi zI_3 (zi aX (zi tI_4 (zi zI_4 (zi cE (zi tI_9 (zi zI_9 (zi cI (zi tI_31 (zi zI_31 (zi aN (zi bG (zi bH (zi b9 (zi tI_66 (zi zI_66 (zi bQ (zi bR (zi bS (zi bT bP))))))))))))))))))))
theorem aSO(k n:Int)(s:ByteArray)(ts:List Tm)(st:aB):aD prog 262 [(Tm.mk k n s ts).av] st (fun r st'=>r=.bool (eD k n s ts.length)∧st'=st):=by
 refine wF [] 1 func262 ntmps262 rfl rfl ?_
 intro _
 simp only[aV]
 have hl:(ts.map Tm.av).length=ts.length:=aF _
 repeat' (first
  | (simp -implicitDefEqProofs only[*,aA,seval,a3Q])
  | (refine cV (fun h=>?_) (fun h=>?_))
  | (refine(aT6 s st).to ?_)
  | (refine aQ (fun h=>?_) (fun h=>?_)))
 all_goals simp only[eD, *,cond_true,zO,kI,eV,gK,tJ,yR]
abbrev L5:=zi tI_3 (zi zI_3 (zi aX (zi tI_4 (zi zI_4 (zi cE (zi tI_31 (zi zI_31 (zi aN (zi bG (zi bH (zi b9 (zi tI_66 (zi zI_66 (zi bQ (zi bR (zi bS (zi bT bP)))))))))))))))))
theorem WM:∀(t:Tm) (d:Int) (st:aB),d≤30→-1≤d→aD prog 193 [t.av,.int .i64 d] st (fun r st'=>r=.bool (t.shape d)∧st'=st)
 | .mk k n s ts,d,st,hd,hd0=>by
  have hc:=fun(x:Tm) (hx:x∈ts) d st h h0=>WM x d st h h0
  have h1:=aSO k n s ts st
  rw[aV] at h1
  refine wF [] 2 func193 ntmps193 rfl rfl ?_
  simp only[aV,eC,AV.fits,eF,aF,Tm.A8]
  intro ⟨_,_,_,hl,_⟩
  generalize eD k n s ts.length=z at *
  simp -implicitDefEqProofs only[aA,seval,L5]
  refine cV (fun h=>?_) (fun h=>?_)
  case refine_2=>
   simp -implicitDefEqProofs only[h,aA,seval]
   simp only[lN,bJ] at h
   simp;omega
  simp -implicitDefEqProofs only[h,aA,seval,L5]
  refine h1.to ?_
  simp -implicitDefEqProofs only[aA,seval]
  refine⟨fun h2=>?_,fun h2=>?_⟩
  · simp -implicitDefEqProofs only[aA,seval]
    simp only[kQ] at h2
    simp [h2]
  simp only[qR,dJ] at h2 h
  subst h2
  have hw:=bO (n:=d - 1)
  rw[show decide (1≤d)=true by simp;omega]
  simp -implicitDefEqProofs only[aA,seval]
  refine wT (α:=Nat) [] (fun i=>i≤ts.length∧∀(j:Nat) x,j<i→ts[j]?=some x→x.shape (d - 1)=true)
   (fun i=>[(1,.int .i64 d),(2,.pptr (.agg [.int .i64 k,.int .i64 n,.str s,.slice (ts.map Tm.av)])),(5,.int .i64 i)]) (fun _=>st) (fun i=>ts.length - i) (by decide +kernel)
   ⟨0,⟨by omega,by intro j x h;omega⟩,aO.mk (by simp -implicitDefEqProofs only[aA,↓aU,seval])⟩ ?_
  intro i ⟨hi,dX⟩
  simp -implicitDefEqProofs only[aF,aA,seval,L5]
  refine⟨fun h5=>?_,fun h5=>?_⟩
  case refine_2=>
   simp -implicitDefEqProofs only[aA,seval]
   simp only[dJ,mV] at h5
   rw[JI fun j x hx=>dX j x (by have:=(gP.1 hx).1;omega) hx]
  simp only[bJ,mV] at h5
  obtain⟨x,hx⟩:∃x,ts[i]?=some x:=⟨_,eE h5⟩
  simp -implicitDefEqProofs only[bM (av:=Tm.av) aN hx (aJ x),aT,aJ,hw,aA,seval,L5]
  refine(hc x (cP hx) (d - 1) st (by omega) (by omega)).to ?_
  simp -implicitDefEqProofs only[aA,seval]
  refine⟨fun h6=>?_,fun h6=>?_⟩
  · simp -implicitDefEqProofs only[aA,seval]
    simp only[kQ] at h6
    rw[vA hx h6]
  simp only[qR] at h6
  simp -implicitDefEqProofs only[aA,seval]
  refine⟨i+1,by omega,⟨by omega,fun j u hj hu=>?_⟩,aO.mk ?_⟩
  · rcases lB j i with h8 | h8
    · exact dX j u h8 hu
    · obtain rfl:j=i:=by omega
      rw[hx] at hu;cases hu;exact h6
  · have:=bO (n:=(i:Int)+1)
    simp -implicitDefEqProofs only[this,aA,seval]
termination_by t=>SizeOf.sizeOf t
decreasing_by have:=List.sizeOf_lt_of_mem hx;simp only[Tm.mk.sizeOf_spec];omega
abbrev SW:=zi tI_3 (zi zI_3 (zi aX (zi tI_31 (zi zI_31 (zi aN (zi bG (zi bH (zi b9 (zi tI_66 (zi zI_66 (zi bQ (zi bR (zi bS (zi bT bP))))))))))))))
theorem WJ:∀(t:Tm) (m:Int) (st:aB),0≤m→m≤120→aD prog 194 [t.av,.int .i64 m] st (fun r st'=>r=.int .i64 (min (t.nodes:Int) (m+1))∧st'=st)
 | .mk k n s ts,m,st,hm0,hm=>by
  have hc:=fun(x:Tm) (hx:x∈ts) m st h h0=>WJ x m st h h0
  refine wF [] 2 func194 ntmps194 rfl rfl ?_
  simp only[aV,eC,AV.fits,eF,aF,Tm.gI]
  intro ⟨_,_,_,hl,_⟩
  simp -implicitDefEqProofs only[aA,seval,SW]
  refine wT (α:=Nat) [] (fun i=>i≤ts.length)
   (fun i=>[(1,.int .i64 m),(2,.pptr (.agg [.int .i64 k,.int .i64 n,.str s,.slice (ts.map Tm.av)])),(5,.int .i64 (min ((1+bF Tm.nodes (ts.take i):Nat):Int) (m+1))),(6,.int .i64 i)]) (fun _=>st) (fun i=>ts.length - i) (by decide +kernel)
   ⟨0,by omega,aO.mk (by simp -implicitDefEqProofs only[kS,bF,show min ((0:Int)+1) (m+1)=1 by omega,vP,↓IW,↓reduceIte,reduceCtorEq,Nat.reduceEqDiff,Nat.reduceAdd])⟩ ?_
  intro i hi
  simp -implicitDefEqProofs only[aF,aA,seval,SW]
  have QG:¬i<ts.length→bF Tm.nodes (ts.take i)=bF Tm.nodes ts:=fun h=>by rw[lO (by omega)]
  refine cV (fun h5=>?_) (fun h5=>?_)
  case refine_2=>
   simp -implicitDefEqProofs only[h5,aA,seval]
   simp only[kI,dJ,mV] at h5
   rw[QG h5]
  simp -implicitDefEqProofs only[h5,aA,seval]
  simp only[bJ,mV] at h5
  obtain⟨x,hx⟩:∃x,ts[i]?=some x:=⟨_,eE h5⟩
  have hs:=HW Tm.nodes hx
  refine⟨fun h6=>?_,fun h6=>?_⟩
  case refine_2=>
   simp -implicitDefEqProofs only[aA,seval]
   simp only[dJ] at h6
   simp only[AV.int.injEq,tD]
   omega
  simp only[bJ] at h6
  have e6:min (((1+bF Tm.nodes (ts.take i):Nat):Int)) (m+1)=((1+bF Tm.nodes (ts.take i):Nat):Int):=by omega
  rw[e6] at h6 ⊢
  have hw:=bO (n:=m - ((1+bF Tm.nodes (ts.take i):Nat):Int))
  simp -implicitDefEqProofs only[bM (av:=Tm.av) aN hx (aJ x),aT,aJ,hw,aA,seval,SW]
  refine(hc x (cP hx) _ st (by omega) (by omega)).to ?_
  have hw2:=bO (n:=((1+bF Tm.nodes (ts.take i):Nat):Int)+min (x.nodes:Int) (m - ((1+bF Tm.nodes (ts.take i):Nat):Int)+1))
  simp -implicitDefEqProofs only[hw2,aA,seval]
  refine⟨i+1,by omega,by omega,aO.mk ?_⟩
  have:=bO (n:=(i:Int)+1)
  simp -implicitDefEqProofs only[this,show((1+bF Tm.nodes (ts.take i):Nat):Int)+min (x.nodes:Int) (m - ((1+bF Tm.nodes (ts.take i):Nat):Int)+1)=min ((1+bF Tm.nodes (ts.take (i+1)):Nat):Int) (m+1) by omega,aA,seval]
termination_by t=>SizeOf.sizeOf t
decreasing_by have:=List.sizeOf_lt_of_mem hx;simp only[Tm.mk.sizeOf_spec];omega
abbrev aNF:=zi tI_3 (zi zI_3 (zi aX (zi tI_4 (zi zI_4 (zi cE (zi tI_66 (zi zI_66 (zi bQ (zi bR (zi bS (zi bT bP)))))))))))
theorem OW(t:Tm)(st:aB):aD prog 117 [t.av] st (fun r st'=>r=.bool t.valid∧st'=st):=by
 refine wF [] 1 func117 ntmps117 rfl rfl ?_
 intro _
 simp -implicitDefEqProofs only[cG,aT,aJ,aA,seval,aNF]
 refine(WM t 30 st (by omega) (by omega)).to ?_
 simp -implicitDefEqProofs only[aA,seval]
 refine cV (fun h=>?_) (fun h=>?_)
 · simp -implicitDefEqProofs only[h,aT,aJ,aA,seval,aNF]
   refine(WJ t 120 st (by omega) (by omega)).to ?_
   simp -implicitDefEqProofs only[aA,seval]
   simp only[Tm.valid,h,eV,AV.bool.injEq,zQ]
   omega
 · simp -implicitDefEqProofs only[h,aA,seval]
   simp at h
   simp [Tm.valid,h]
abbrev a3P:=zi tI_3 (zi zI_3 (zi aX (zi tI_4 (zi zI_4 (zi cE (zi tI_9 (zi zI_9 (zi cI (zi tI_31 (zi zI_31 (zi aN (zi bG (zi bH (zi b9 (zi tI_66 (zi zI_66 (zi bQ (zi bR (zi bS (zi bT bP))))))))))))))))))))
theorem WV(k n:Int)(s:ByteArray)(ts:List Tm)(st:aB):aD prog 269 [(Tm.mk k n s ts).av] st (fun r st'=>r=.bool (decide (k=3)&&decide (s=⟨#[33]⟩)&&decide ((ts.length:Int)=0))∧st'=st):=by
 refine wF [] 1 func269 ntmps269 rfl rfl ?_
 intro _
 simp only[aV]
 repeat' (first
  | (simp -implicitDefEqProofs only[*,aA,seval,a3P])
  | (refine cV (fun h=>?_) (fun h=>?_))
  | (refine aQ (fun h=>?_) (fun h=>?_)))
 all_goals simp only[*,aF,gK]
abbrev aNE:=zi tI_4 (zi zI_4 (zi cE (zi tI_9 (zi zI_9 (zi cI (zi tI_66 (zi zI_66 (zi bQ (zi bR (zi bS (zi bT bP)))))))))))
theorem WE(k n:Int)(s:ByteArray)(ts:List Tm)(st:aB):aD prog 122 [(Tm.mk k n s ts).av] st (fun r st'=>r=.bool (decide (k=3)&&decide ((ts.length:Int)=0)&&decide (s=⟨#[33]⟩))∧st'=st):=by
 have h1:=FS k n s ts st
 rw[aV] at h1
 refine wF [] 1 func122 ntmps122 rfl rfl ?_
 intro _
 simp only[aV]
 simp -implicitDefEqProofs only[aA,seval,aNE]
 refine h1.to ?_
 clear h1
 repeat' (first
  | (simp -implicitDefEqProofs only[*,aA,seval,aNE])
  | (refine cV (fun h=>?_) (fun h=>?_))
  | (refine aQ (fun h=>?_) (fun h=>?_)))
 all_goals simp_all
abbrev aND:=zi tI_3 (zi zI_3 (zi aX (zi tI_4 (zi zI_4 (zi cE (zi tI_9 (zi zI_9 (zi cI (zi tI_31 (zi zI_31 (zi aN (zi bG (zi bH (zi b9 (zi tI_66 (zi zI_66 (zi bQ (zi bR (zi bS (zi bT bP))))))))))))))))))))
theorem OL(k n:Int)(s:ByteArray)(ts:List Tm)(st:aB):aD prog 121 [(Tm.mk k n s ts).av] st (fun r st'=>r=.bool (decide (k=3)&&isBuiltin s (ts.length:Int))∧st'=st):=by
 have h1:=aR5 s ts.length st
 refine wF [] 1 func121 ntmps121 rfl rfl ?_
 intro _
 simp only[aV]
 simp -implicitDefEqProofs only[aA,seval,aND]
 refine cV (fun h=>?_) (fun h=>?_)
 · simp -implicitDefEqProofs only[h,aF,aA,seval,aND]
   refine h1.to ?_
   clear h1
   simp -implicitDefEqProofs only[aA,seval]
 · simp -implicitDefEqProofs only[h,aA,seval]
   simp at h
   simp []
def lH(k:Int)(s:ByteArray)(len:Int):Bool:=decide (k=3)&&sU s&& !isBuiltin s len&&decide ((dQ s:Int)=0)
abbrev a3N:=zi tI_3 (zi zI_3 (zi aX (zi tI_4 (zi zI_4 (zi cE (zi tI_9 (zi zI_9 (zi cI (zi tI_66 (zi zI_66 (zi bQ (zi bR (zi bS (zi bT bP))))))))))))))
theorem OM(k n:Int)(s:ByteArray)(ts:List Tm)(st:aB):aD prog 120 [(Tm.mk k n s ts).av] st (fun r st'=>r=.bool (lH k s (ts.length:Int))∧st'=st):=by
 have h1:=OL k n s ts st
 rw[aV] at h1
 have e:decide ((0:Int)<(dQ s:Int))= !decide ((dQ s:Int)=0):=by
  by_cases h:dQ s=0
  · simp [h]
  · simp [h];omega
 have e3:∀b:Bool,k=3→(decide (k=3)&&b)=b:=fun b h=>by simp [h]
 refine wF [] 1 func120 ntmps120 rfl rfl ?_
 intro _
 simp only[aV]
 repeat' (first
  | (simp -implicitDefEqProofs only[*,aA,seval,a3N])
  | (refine cV (fun h=>?_) (fun h=>?_))
  | (refine(WF s st).to ?_) | (refine(aSC s st).to ?_) | (refine h1.to ?_)
  | (refine aQ (fun h=>?_) (fun h=>?_)))
 all_goals (clear h1;simp_all [lH])
abbrev a3M:=zi tI_3 (zi zI_3 (zi aX (zi tI_4 (zi zI_4 (zi cE (zi tI_9 (zi zI_9 (zi cI (zi tI_31 (zi zI_31 (zi aN (zi bG (zi bH (zi b9 (zi tI_66 (zi zI_66 (zi bQ (zi bR (zi bS (zi bT bP))))))))))))))))))))
theorem WX(k n:Int)(s:ByteArray)(ts:List Tm)(st:aB):aD prog 118 [(Tm.mk k n s ts).av] st (fun r st'=>r=.bool (lH k s (ts.length:Int))∧st'=st):=by
 refine wF [] 1 func118 ntmps118 rfl rfl ?_
 intro _
 simp only[aV]
 have hl:(ts.map Tm.av).length=ts.length:=aF _
 repeat' (first
  | (simp -implicitDefEqProofs only[*,aA,seval,a3M])
  | (refine cV (fun h=>?_) (fun h=>?_))
  | (refine(WP s st).to ?_) | (refine(OV s _ st).to ?_) | (refine(vF s st).to ?_)
  | (refine aQ (fun h=>?_) (fun h=>?_)))
 all_goals simp_all [lH]
def vT(k:Int)(s:ByteArray)(len:Int):Bool:=(decide (k=3)&&decide (s=⟨#[33]⟩)&&decide (len=0))||lH k s len||(decide (k=3)&&isBuiltin s len)
abbrev a3O:=zi tI_3 (zi zI_3 (zi aX (zi tI_4 (zi zI_4 (zi cE (zi tI_9 (zi zI_9 (zi cI (zi tI_31 (zi zI_31 (zi aN (zi bG (zi bH (zi b9 (zi tI_66 (zi zI_66 (zi bQ (zi bR (zi bS (zi bT bP))))))))))))))))))))
theorem aS8(k n:Int)(s:ByteArray)(ts:List Tm)(st:aB):aD prog 235 [(Tm.mk k n s ts).av] st (fun r st'=>r=.bool (vT k s (ts.length:Int))∧st'=st):=by
 have h1:=WV k n s ts st
 have h2:=WX k n s ts st
 rw[aV] at h1 h2
 refine wF [] 1 func235 ntmps235 rfl rfl ?_
 intro _
 simp only[aV]
 have hl:(ts.map Tm.av).length=ts.length:=aF _
 unfold vT
 generalize (decide (k=3)&&decide (s=⟨#[33]⟩)&&decide ((ts.length:Int)=0))=z1 at *
 generalize lH k s (ts.length:Int)=z2 at *
 repeat' (first
  | (simp -implicitDefEqProofs only[*,aA,seval,a3O])
  | (refine cV (fun h=>?_) (fun h=>?_))
  | (refine h1.to ?_) | (refine h2.to ?_) | (refine(OV s _ st).to ?_)
  | (refine aQ (fun h=>?_) (fun h=>?_)))
 all_goals (clear h1 h2;simp_all)
theorem TQ{st:aB}{b:Nat}{o:AO}(h:st b=some o):st.aC b o=st:=by
 funext x;simp only[aB.aC];split
 · rename_i e;rw[e,h]
 · rfl
def HR(ok:Bool)(c n:Int)(b:Nat)(st:aB)(r:AV)(st':aB):Prop:=
 ∃c',r=.bool (decide (c+n≤120)&&ok)∧st'=st.aC b (.cells [.int .i64 c'])∧((decide (c+n≤120)&&ok)=true→c'=c+n)
abbrev a3R:=zi tI_3 (zi zI_3 (zi aX (zi tI_4 (zi zI_4 (zi cE (zi tI_66 (zi zI_66 (zi bQ (zi bR (zi bS (zi bT (zi bP (zi tI_202 zI_202)))))))))))))
theorem aT4(x:Tm)(d c:Int)(b:Nat)(st:aB)(hd: -1000≤d)(hd1:d≤1000)
 (h:aD prog 192 [x.av,.int .i64 (d+1),.ptr b 0] st (HR (x.shape (30 - d)) c x.nodes b st)) :
 aD prog 261 [x.av,.pptr (.int .i64 d),.pptr (.ptr b 0)] st (fun r st'=>∃c',r=.bool (!(decide (c+x.nodes≤120)&&x.shape (30 - d)))∧st'=st.aC b (.cells [.int .i64 c'])∧((decide (c+(x.nodes:Int)≤120)&&x.shape (30 - d))=true→c'=c+x.nodes)):=by
 have hw:=bO (n:=d+1)
 refine wF [] 3 func261 ntmps261 rfl rfl ?_
 intro _
 simp -implicitDefEqProofs only[hw,cG,aT,aJ,aA,seval,a3R]
 refine h.mono ?_
 rintro _ _ ⟨c',rfl,rfl,hc⟩
 simp -implicitDefEqProofs only[aA,seval]
 refine⟨c',?_⟩
 first | exact hc | exact⟨rfl,rfl,hc⟩ | exact⟨rfl,hc⟩ | trace_state
abbrev aNG:=zi tI_3 (zi zI_3 (zi aX (zi tI_31 (zi zI_31 (zi aN (zi bG (zi bH (zi b9 (zi tI_66 (zi zI_66 (zi bQ (zi bR (zi bS (zi bT bP))))))))))))))
theorem aRJ(l:List Tm)(d c:Int)(b:Nat)(st:aB)(hd: -1000≤d)(hd1:d≤1000)(hb:st b=some (.cells [.int .i64 c]))(hc0:0≤c)(hc1:c≤120)
 (h:∀x∈l,∀(c:Int) (st:aB),st b=some (.cells [.int .i64 c])→0≤c→c≤120→aD prog 192 [x.av,.int .i64 (d+1),.ptr b 0] st (HR (x.shape (30 - d)) c x.nodes b st)) :
 aD prog 218 [.slice (l.map Tm.av),.func 261 [.pptr (.int .i64 d),.pptr (.ptr b 0)]] st
  (fun r st'=>∃j c',r=.int .i64 j∧decide (0≤j)=(!(decide (c+(bF Tm.nodes l:Int)≤120)&&l.all fun t=>t.shape (30 - d)))∧st'=st.aC b (.cells [.int .i64 c'])∧(decide (0≤j)=false→c'=c+(bF Tm.nodes l:Int))):=by
 refine wF [] 2 func218 ntmps218 rfl rfl ?_
 simp only[eC,AV.fits,eF,aF]
 intro ⟨hl,_⟩
 simp -implicitDefEqProofs only[aF,aA,seval,aNG]
 refine wT (α:=Nat) [] (fun i=>i≤l.length∧c+(bF Tm.nodes (l.take i):Int)≤120∧∀(j:Nat) x,j<i→l[j]?=some x→x.shape (30 - d)=true)
  (fun i=>[(0,.slice (l.map Tm.av)),(1,.func 261 [.pptr (.int .i64 d),.pptr (.ptr b 0)]),(7,.int .i64 l.length),(8,.int .i64 i)]) (fun i=>st.aC b (.cells [.int .i64 (c+(bF Tm.nodes (l.take i):Int))])) (fun i=>l.length - i) (by decide +kernel)
  ⟨0,⟨by omega,by simp only[kS,bF];omega,by intro j x h;omega⟩,by
   simp only[kS,bF]
   rw[show c+((0:Nat):Int)=c by omega,TQ hb]
   exact aO.mk (by simp -implicitDefEqProofs only[aA,↓aU,seval])⟩ ?_
 intro i ⟨hi,xZ,dX⟩
 simp -implicitDefEqProofs only[aA,seval]
 refine⟨fun h5=>?_,fun h5=>?_⟩
 case refine_2=>
  simp -implicitDefEqProofs only[aA,seval]
  simp only[dJ,mV] at h5
  rw[lO (by omega)] at xZ ⊢
  have ha:(l.all fun t=>t.shape (30 - d))=true:=JI fun j x hx=>dX j x (by have:=(gP.1 hx).1;omega) hx
  exact⟨-1,_,rfl,by rw[ha];simp<;>omega,rfl,fun _=>rfl⟩
 simp only[bJ,mV] at h5
 obtain⟨x,hx⟩:∃x,l[i]?=some x:=⟨_,eE h5⟩
 have hs:=HW Tm.nodes hx
 simp -implicitDefEqProofs only[bM (av:=Tm.av) aN hx (aJ x),aT,aJ,aA,seval,aNG]
 refine(aT4 x d (c+(bF Tm.nodes (l.take i):Int)) b _ hd hd1 (h x (cP hx) _ _ (aB.aP _ _ _) (by omega) xZ)).mono ?_
 rintro _ _ ⟨c',rfl,rfl,hc'⟩
 simp -implicitDefEqProofs only[dC,aA,seval]
 refine⟨fun h6=>?_,fun h6=>?_⟩
 · simp -implicitDefEqProofs only[aA,seval]
   refine⟨i,c',rfl,?_,rfl,fun h7=>absurd h7 (by simp)⟩
   simp only[kQ,Bool.and_eq_false_iff,dJ] at h6
   rcases h6 with h6 | h6
   · rw[show decide (c+(bF Tm.nodes l:Int)≤120)=false by simp;omega]
     simp
   · rw[vA hx h6]
     simp
 simp only[qR] at h6
 rw[hc' h6]
 simp only[cA,bJ] at h6
 simp -implicitDefEqProofs only[aA,seval]
 refine⟨i+1,by omega,⟨by omega,by omega,fun j u hj hu=>?_⟩,?_⟩
 · rcases lB j i with h8 | h8
   · exact dX j u h8 hu
   · obtain rfl:j=i:=by omega
     rw[hx] at hu;cases hu;exact h6.2
 · rw[show c+(bF Tm.nodes (l.take i):Int)+(x.nodes:Int)=c+(bF Tm.nodes (l.take (i+1)):Int) by omega]
   have:=bO (n:=(i:Int)+1)
   exact aO.mk (by simp -implicitDefEqProofs only[this,aA,seval])
theorem aRC(l:List Tm)(d c:Int)(b:Nat)(st:aB)(hd: -1000≤d)(hd1:d≤1000)(hb:st b=some (.cells [.int .i64 c]))(hc0:0≤c)(hc1:c≤120)
 (h:∀x∈l,∀(c:Int) (st:aB),st b=some (.cells [.int .i64 c])→0≤c→c≤120→aD prog 192 [x.av,.int .i64 (d+1),.ptr b 0] st (HR (x.shape (30 - d)) c x.nodes b st)) :
 aD prog 147 [.slice (l.map Tm.av),.func 261 [.pptr (.int .i64 d),.pptr (.ptr b 0)]] st
  (fun r st'=>∃c',r=.bool (!(decide (c+(bF Tm.nodes l:Int)≤120)&&l.all fun t=>t.shape (30 - d)))∧st'=st.aC b (.cells [.int .i64 c'])∧((decide (c+(bF Tm.nodes l:Int)≤120)&&l.all fun t=>t.shape (30 - d))=true→c'=c+(bF Tm.nodes l:Int))):=by
 have h1:=aRJ l d c b st hd hd1 hb hc0 hc1 h
 refine wF [] 2 func147 ntmps147 rfl rfl ?_
 intro _
 simp -implicitDefEqProofs only[aA,seval]
 refine h1.mono ?_
 rintro _ _ ⟨j,c',rfl,hj,rfl,hc⟩
 simp -implicitDefEqProofs only[aA,seval]
 refine⟨c',by rw[hj],rfl,fun h=>hc (by rw[hj,h];try rfl)⟩
abbrev yH:=zi tI_3 (zi zI_3 (zi aX (zi tI_4 (zi zI_4 (zi cE (zi tI_9 (zi zI_9 (zi cI (zi tI_31 (zi zI_31 (zi aN (zi bG (zi bH (zi b9 (zi tI_66 (zi zI_66 (zi bQ (zi bR (zi bS (zi bT (zi bP (zi tI_202 zI_202))))))))))))))))))))))
theorem XD:∀(t:Tm) (d c:Int) (b:Nat) (st:aB),st b=some (.cells [.int .i64 c])→0≤c→c≤120→0≤d→d≤31→aD prog 192 [t.av,.int .i64 d,.ptr b 0] st (HR (t.shape (31 - d)) c t.nodes b st)
 | .mk k n s ts,d,c,b,st,hb,hc0,hc1,hd0,hd1=>by
  have hk:=fun(st:aB) (hb:st b=some (.cells [.int .i64 (c+1)])) (h1:c+1≤120) (h2:d≤30)=>aRC ts d (c+1) b st (by omega) (by omega) hb (by omega) h1 fun x hx c st hb hc0 hc1=>by
   have:=XD x (d+1) c b st hb hc0 hc1 (by omega) (by omega)
   rw[show(31:Int) - (d+1)=30 - d by omega] at this
   exact this
  have hw:=bO (n:=c+1)
  unfold HR
  rw[Tm.gI,Tm.A8]
  refine wF [] 3 func192 ntmps192 rfl rfl ?_
  simp only[aV,eC,AV.fits,eF,aF]
  intro ⟨_,_,_,hl,_⟩
  simp -implicitDefEqProofs only[hb,aK,hw,aA,seval,yH]
  have hL:(ts.map Tm.av).length=ts.length:=aF _
  have iB:∀(v:Bool),v=(decide (c+((1+bF Tm.nodes ts:Nat):Int)≤120)&&(decide (1≤31 - d)&&eD k n s ts.length&&ts.all fun t=>t.shape (31 - d - 1)))→(v=true→ts= []) →
   ∃c',AV.bool v=AV.bool (decide (c+((1+bF Tm.nodes ts:Nat):Int)≤120)&&(decide (1≤31 - d)&&eD k n s ts.length&&ts.all fun t=>t.shape (31 - d - 1)))∧st.aC b (.cells [.int .i64 (c+1)])=st.aC b (.cells [.int .i64 c'])∧((decide (c+((1+bF Tm.nodes ts:Nat):Int)≤120)&&(decide (1≤31 - d)&&eD k n s ts.length&&ts.all fun t=>t.shape (31 - d - 1)))=true→c'=c+((1+bF Tm.nodes ts:Nat):Int)):=
   fun v h1 h2=>⟨c+1,by rw[h1],rfl,fun h3=>by rw[h2 (h1.trans h3)];simp [bF]⟩
  refine cV (fun h1=>?_) (fun h1=>?_)
  case refine_2=>
   simp -implicitDefEqProofs only[h1,aA,seval]
   simp only[lN,bJ] at h1
   refine iB false ?_ (by intro h;cases h)
   rw[show decide (c+((1+bF Tm.nodes ts:Nat):Int)≤120)=false by simp;omega]
   try rfl
  simp -implicitDefEqProofs only[h1,aA,seval,yH]
  refine⟨fun h2=>?_,fun h2=>?_⟩
  · simp -implicitDefEqProofs only[aA,seval]
    simp only[bJ] at h2
    refine iB false ?_ (by intro h;cases h)
    rw[show decide (1≤31 - d)=false by simp;omega]
    simp
  simp only[dJ] at h1 h2
  rw[show decide (1≤31 - d)=true by simp;omega] at iB ⊢
  simp only[eV] at iB ⊢
  rw[show 31 - d - 1=30 - d by omega] at iB ⊢
  -- no kids
  have aJ5:∀q:Bool,(∀h:ts= [],eD k n s ts.length=q)→(ts≠[]→eD k n s ts.length=false)→(q&&decide ((ts.length:Int)=0))=(decide (c+((1+bF Tm.nodes ts:Nat):Int)≤120)&&(eD k n s ts.length&&ts.all fun t=>t.shape (30 - d))):=by
   intro q hq1 hq2
   by_cases ht:ts= []
   · rw[hq1 ht];subst ht
     have e:c+((1+bF Tm.nodes []:Nat):Int)≤120:=by simp only[bF];omega
     rw[gM e]
     simp
   · rw[hq2 ht]
     have:¬(ts.length:Int)=0:=by intro h;exact ht (pT (by omega))
     rw[fS this]
     simp
  simp -implicitDefEqProofs only[aA,seval,yH]
  refine aQ (fun hk1=>?_) (fun hk1=>?_)
  · simp only[bJ] at hk1
    subst hk1
    simp -implicitDefEqProofs only[aA,seval,yH]
    refine(CL _ _ _ _).to ?_
    repeat' (first
     | (simp -implicitDefEqProofs only[*,aA,seval,yH])
     | (refine cV (fun h=>?_) (fun h=>?_))
     | (refine aQ (fun h=>?_) (fun h=>?_)))
    all_goals first
     | (refine iB false ?_ (by intro h;cases h);rw[show eD 1 n s ts.length=false by first | (simp only[eD, *,kI,gK,tJ];done) | (simp_all [eD];done) | (simp_all [eD];intro a e;have:=h a;omega)];simp;done)
     | (refine iB _ ?_ (fun h=>pT (by simpa using h));rw[←aJ5 true (fun h=>by simp_all [eD]) (fun h=>by simp [eD,h])];simp;done)
  simp only[dJ] at hk1
  simp -implicitDefEqProofs only[aA,seval]
  refine aQ (fun hk2=>?_) (fun hk2=>?_)
  · simp only[bJ] at hk2
    subst hk2
    simp -implicitDefEqProofs only[aA,seval,yH]
    refine(CL _ _ _ _).to ?_
    repeat' (first
     | (simp -implicitDefEqProofs only[*,aA,seval,yH])
     | (refine cV (fun h=>?_) (fun h=>?_))
     | (refine aQ (fun h=>?_) (fun h=>?_)))
    all_goals first
     | (refine iB false ?_ (by intro h;cases h);rw[show eD 2 n s ts.length=false by first | (simp only[eD, *,kI,gK,tJ];done) | (simp_all [eD];done) | (simp_all [eD];intro a e;have:=h a;omega)];simp;done)
     | (refine iB _ ?_ (fun h=>pT (by simpa using h));rw[←aJ5 true (fun h=>by simp_all [eD]) (fun h=>by simp [eD,h])];simp;done)
  simp only[dJ] at hk2
  simp -implicitDefEqProofs only[aA,seval]
  refine aQ (fun hk3=>?_) (fun hk3=>?_)
  case refine_2=>
   simp only[dJ] at hk3
   simp -implicitDefEqProofs only[aA,seval]
   refine iB false ?_ (by intro h;cases h)
   rw[show eD k n s ts.length=false by simp [eD,hk1,hk2,hk3]]
   simp
  simp only[bJ] at hk3
  subst hk3
  have hk':=fun st hb=>hk st hb (by omega) (by omega)
  clear hk
  repeat' (first
   | (simp -implicitDefEqProofs only[*,aA,seval,yH])
   | (refine cV (fun h=>?_) (fun h=>?_))
   | (refine(aR6 s _).to ?_)
   | (refine aQ (fun h=>?_) (fun h=>?_)))
  all_goals first
   | (refine iB false ?_ (by intro h;cases h);rw[show eD 3 n s ts.length=false by(simp_all [eD];done)];simp;done)
   | skip
  refine(hk' _ (aB.aP _ _ _)).mono ?_
  rintro _ _ ⟨c',rfl,rfl,hc'⟩
  simp -implicitDefEqProofs only[dC,aA,seval]
  have ho:eD 3 n s ts.length=true:=by simp_all [eD]
  rw[ho,show c+((1+bF Tm.nodes ts:Nat):Int)=c+1+(bF Tm.nodes ts:Int) by omega]
  simp only[eV,Bool.not_not]
  first | exact⟨c',trivial,rfl,hc'⟩ | exact⟨c',rfl,rfl,hc'⟩
termination_by t=>SizeOf.sizeOf t
decreasing_by have:=List.sizeOf_lt_of_mem hx;simp only[Tm.mk.sizeOf_spec];omega
abbrev a3S:=zi tI_3 (zi zI_3 (zi aX (zi tI_4 (zi zI_4 (zi cE (zi tI_66 (zi zI_66 (zi bQ (zi bR (zi bS (zi bT (zi bP (zi tI_202 zI_202)))))))))))))
theorem FR(t:Tm)(st:aB):aD prog 108 [t.av] st (fun r st'=>r=.bool t.valid∧st'=st):=by
 have hd:aD prog 108 [t.av] st (fun r st'=>aM st' st∧r=.bool t.valid):=by
  refine wF [] 1 func108 ntmps108 rfl rfl ?_
  intro _
  simp -implicitDefEqProofs only[cG,aT,aJ,aA,seval,a3S]
  intro b hb
  simp -implicitDefEqProofs only[aK,aA,seval]
  refine(XD t 1 0 b _ (aB.aP _ _ _) (by omega) (by omega) (by omega) (by omega)).mono ?_
  rintro _ _ ⟨c',rfl,rfl,_⟩
  simp -implicitDefEqProofs only[dC,vP,↓reduceIte]
  refine⟨(aM.refl st).aC hb,?_⟩
  simp only[Tm.valid,AV.bool.injEq]
  rw[Bool.and_comm,show(31:Int) - 1=30 from rfl]
  congr 1
  simp only[zQ]
  omega
 exact hd.drop
def Tm.goal:Tm→Bool
 | .mk k n s ts=>(Tm.mk k n s ts).valid&&vT k s ts.length
abbrev aNH:=zi tI_4 (zi zI_4 (zi cE (zi tI_66 (zi zI_66 (zi bQ (zi bR (zi bS (zi bT bP))))))))
theorem XF:∀(t:Tm) (st:aB),aD prog 156 [t.av] st (fun r st'=>r=.bool t.goal∧st'=st)
 | .mk k n s ts,st=>by
  have h1:=OW (.mk k n s ts) st
  have h2:=aS8 k n s ts st
  rw[show(Tm.mk k n s ts).goal=((Tm.mk k n s ts).valid&&vT k s ts.length) from rfl]
  generalize (Tm.mk k n s ts).valid=z at *
  rw[aV] at *
  refine wF [] 1 func156 ntmps156 rfl rfl ?_
  intro _
  simp -implicitDefEqProofs only[aA,seval,aNH]
  refine h1.to ?_
  simp -implicitDefEqProofs only[aA,seval]
  refine cV (fun h=>?_) (fun h=>?_)
  · simp -implicitDefEqProofs only[h,aA,seval,aNH]
    refine h2.to ?_
    simp -implicitDefEqProofs only[aA,seval]
  · simp -implicitDefEqProofs only[h,aA,seval]
    simp at h
    simp []
abbrev a3T:=zi tI_4 (zi zI_4 (zi cE (zi tI_66 (zi zI_66 (zi bQ (zi bR (zi bS (zi bT bP))))))))
theorem aR4:∀(t:Tm) (st:aB),aD prog 49 [t.av] st (fun r st'=>r=.bool t.goal∧st'=st)
 | .mk k n s ts,st=>by
  have h1:=FR (.mk k n s ts) st
  have h2:=OM k n s ts st
  have h3:=OL k n s ts st
  have h4:=WE k n s ts st
  rw[show(Tm.mk k n s ts).goal=((Tm.mk k n s ts).valid&&vT k s ts.length) from rfl]
  unfold vT
  generalize (Tm.mk k n s ts).valid=z at *
  generalize lH k s (ts.length:Int)=z2 at *
  generalize (decide (k=3)&&isBuiltin s (ts.length:Int))=z3 at *
  rw[show(decide (k=3)&&decide (s=⟨#[33]⟩)&&decide ((ts.length:Int)=0))=(decide (k=3)&&decide ((ts.length:Int)=0)&&decide (s=⟨#[33]⟩)) from by cases decide (k=3)<;>cases decide (s=⟨#[33]⟩)<;>cases decide ((ts.length:Int)=0)<;>rfl]
  generalize (decide (k=3)&&decide ((ts.length:Int)=0)&&decide (s=⟨#[33]⟩))=z4 at *
  rw[aV] at *
  refine wF [] 1 func49 ntmps49 rfl rfl ?_
  intro _
  repeat' (first
   | (simp -implicitDefEqProofs only[*,aA,seval,a3T])
   | (refine cV (fun h=>?_) (fun h=>?_))
   | (refine h1.to ?_) | (refine h2.to ?_) | (refine h3.to ?_) | (refine h4.to ?_)
   | (refine aQ (fun h=>?_) (fun h=>?_)))
  all_goals (clear h1 h2 h3 h4;simp_all)
abbrev aNU:=zi tI_3 (zi zI_3 (zi aX (zi tI_31 (zi zI_31 (zi aN (zi bG (zi bH (zi b9 (zi tI_66 (zi zI_66 (zi bQ (zi bR (zi bS (zi bT bP))))))))))))))
theorem aRG(l:List Tm)(g:FuncId)(dP:List AV)(p:Tm→Bool)(st:aB)(hc:∀x∈l,aD prog g ([Tm.av x]++dP) st (fun r st'=>r=.bool (p x)∧st'=st)) :
 aD prog 218 [.slice (l.map Tm.av),.func g dP] st (fun r st'=>∃j:Int,r=.int .i64 j∧decide (0≤j)=l.any p∧st'=st):=by
 refine wF [] 2 func218 ntmps218 rfl rfl ?_
 simp only[eC,AV.fits,eF,aF]
 intro ⟨hl,_⟩
 simp -implicitDefEqProofs only[aF,aA,seval,aNU]
 refine eP (σ:=Unit) [] [0,1,7] l (fun i _=>(l.drop i).any p=l.any p) (fun i _=>[(8,.int .i64 i)]) (fun _ _=>st) (by decide +kernel) ⟨(),rfl,aO.mk (by simp -implicitDefEqProofs only[aA,↓aU,seval])⟩ (fun i x _ hx hlt bV hdr hinv=>?_) (fun _ hge hinv=>?_)
 case refine_2=>
  simp -implicitDefEqProofs only[hge,aA,seval]
  rw[kK] at hinv
  exact⟨-1,rfl,by rw[←hinv];try rfl⟩
 rw[hdr,BQ] at hinv
 have hw:=bO (n:=(i:Int)+1)
 simp -implicitDefEqProofs only[bV,bM (av:=Tm.av) aN hx (aJ x),aT,aJ,aA,seval,aNU]
 refine(hc x (cP hx)).to ?_
 simp -implicitDefEqProofs only[aA,seval]
 refine aQ (fun h=>?_) (fun h=>?_)
 · simp -implicitDefEqProofs only[aA,seval]
   exact⟨i,rfl,by rw[←hinv,h];simp⟩
 · rw[h,oV] at hinv
   simp -implicitDefEqProofs only[aA,seval]
   exact⟨(),hinv,aO.mk (by simp -implicitDefEqProofs only[hw,aA,seval])⟩
theorem OH(l:List Tm)(g:FuncId)(dP:List AV)(p:Tm→Bool)(st:aB)(hc:∀x∈l,aD prog g ([Tm.av x]++dP) st (fun r st'=>r=.bool (p x)∧st'=st)) :
 aD prog 147 [.slice (l.map Tm.av),.func g dP] st (fun r st'=>r=.bool (l.any p)∧st'=st):=by
 refine wF [] 2 func147 ntmps147 rfl rfl ?_
 intro _
 simp -implicitDefEqProofs only[aA,seval]
 refine(aRG l g dP p st hc).mono ?_
 rintro _ _ ⟨j,rfl,hj,rfl⟩
 simp -implicitDefEqProofs only[hj,aA,seval]
theorem CC{α:Type}(p:α→Bool):∀l:List α,(!(l.any fun x=> !p x))=l.all p
 | []=>rfl
 | x::l=>by rw[BQ,kJ,←CC p l];cases p x<;>simp
abbrev a30:=zi tI_4 (zi zI_4 (zi cE (zi tI_66 (zi zI_66 (zi bQ (zi bR (zi bS (zi bT bP))))))))
theorem aRQ(t:Tm)(st:aB):aD prog 210 [t.av] st (fun r st'=>r=.bool (!t.valid)∧st'=st):=by
 refine wF [] 1 func210 ntmps210 rfl rfl ?_
 intro _
 simp -implicitDefEqProofs only[cG,aT,aJ,aA,seval,a30]
 refine(FR t st).to ?_
 simp -implicitDefEqProofs only[aA,seval]
theorem V9(l:List Tm)(st:aB):aD prog 129 [.slice (l.map Tm.av)] st (fun r st'=>r=.bool (l.all Tm.valid)∧st'=st):=by
 refine wF [] 1 func129 ntmps129 rfl rfl ?_
 intro _
 simp -implicitDefEqProofs only[aA,seval]
 refine(OH l _ [] (fun t=> !t.valid) st fun x _=>aRQ x st).to ?_
 simp -implicitDefEqProofs only[CC,aA,seval]
abbrev a32:=zi tI_4 (zi zI_4 (zi cE (zi tI_66 (zi zI_66 (zi bQ (zi bR (zi bS (zi bT bP))))))))
theorem aR0(t:Tm)(st:aB):aD prog 282 [t.av] st (fun r st'=>r=.bool (!t.goal)∧st'=st):=by
 refine wF [] 1 func282 ntmps282 rfl rfl ?_
 intro _
 simp -implicitDefEqProofs only[cG,aT,aJ,aA,seval,a32]
 refine(aR4 t st).to ?_
 simp -implicitDefEqProofs only[aA,seval]
def kF(l:List Tm):Bool:=decide (l.length≤6)&&l.all Tm.goal
abbrev a31:=zi tI_3 (zi zI_3 (zi aX (zi tI_4 (zi zI_4 (zi cE (zi tI_31 (zi zI_31 (zi aN (zi bG (zi bH b9))))))))))
theorem WC(l:List Tm)(st:aB):aD prog 216 [.slice (l.map Tm.av)] st (fun r st'=>r=.bool (kF l)∧st'=st):=by
 refine wF [] 1 func216 ntmps216 rfl rfl ?_
 simp only[eC,AV.fits,eF,aF]
 intro _
 unfold kF
 simp -implicitDefEqProofs only[aF,aA,seval,a31]
 refine cV (fun h=>?_) (fun h=>?_)
 · simp only[bJ] at h
   rw[show decide (l.length≤6)=true by simp;omega]
   simp -implicitDefEqProofs only[h,aA,seval]
   refine(OH l _ [] (fun t=> !t.goal) st fun x _=>aR0 x st).to ?_
   simp -implicitDefEqProofs only[CC,aA,seval]
 · simp only[kI,dJ] at h
   rw[show decide (l.length≤6)=false by simp;omega]
   simp -implicitDefEqProofs only[h,aA,seval]
   rfl
theorem WD(l:List Tm)(st:aB):aD prog 150 [.slice (l.map Tm.av)] st (fun r st'=>r=.bool (kF l)∧st'=st):=by
 refine wF [] 1 func150 ntmps150 rfl rfl ?_
 intro _
 simp -implicitDefEqProofs only[aA,seval]
 refine(WC l st).to ?_
 simp -implicitDefEqProofs only[aA,seval]
abbrev MD:=zi tI_3 (zi zI_3 (zi aX (zi tI_4 (zi zI_4 (zi cE (zi tI_31 (zi zI_31 (zi aN (zi bG (zi bH (zi b9 (zi tI_66 (zi zI_66 (zi bQ (zi bR (zi bS (zi bT bP)))))))))))))))))
theorem XH(l:List Tm)(st:aB):aD prog 71 [.slice (l.map Tm.av)] st (fun r st'=>r=.bool (kF l)∧st'=st):=by
 refine wF [] 1 func71 ntmps71 rfl rfl ?_
 simp only[eC,AV.fits,eF,aF]
 intro ⟨hl,_⟩
 simp -implicitDefEqProofs only[aA,seval]
 refine eP (σ:=Unit) [] [0] l (fun i _=>i≤7∧(l.take i).all Tm.goal=true) (fun i _=>[(3,.int .i64 i)]) (fun _ _=>st) (by decide +kernel) ⟨(),⟨by omega,by simp⟩,aO.mk (by simp -implicitDefEqProofs only[aA,↓aU,seval])⟩ (fun i x _ hx hlt bV hdr hinv=>?_) (fun _ hge hinv=>?_)
 case refine_2=>
  obtain⟨i1,i2⟩:=hinv
  rw[eS] at i2
  simp -implicitDefEqProofs only[aF,hge,aA,seval,MD]
  simp only[kF,i2,yR,AV.bool.injEq,zQ]
  omega
 obtain⟨i1,i2⟩:=hinv
 have hw:=bO (n:=(i:Int)+1)
 simp -implicitDefEqProofs only[aF,bV,aA,seval,MD]
 refine aQ (fun h=>?_) (fun h=>?_)
 case refine_2=>
  simp only[dJ] at h
  simp -implicitDefEqProofs only[aF,aA,seval,MD]
  simp only[kF,AV.bool.injEq]
  rw[show decide (l.length≤6)=false by simp;omega,show decide ((l.length:Int)≤6)=false by simp;omega]
  try rfl
 simp only[bJ] at h
 simp -implicitDefEqProofs only[bM (av:=Tm.av) aN hx (aJ x),aT,aJ,aA,seval,MD]
 refine(XF x st).to ?_
 simp -implicitDefEqProofs only[aA,seval]
 refine aQ (fun h2=>?_) (fun h2=>?_)
 · simp only[kQ] at h2
   simp -implicitDefEqProofs only[aA,seval]
   have:l.all Tm.goal=false:=vA hx h2
   simp only[kF,this,tJ]
 · simp only[qR] at h2
   simp -implicitDefEqProofs only[aA,seval]
   refine⟨(),⟨by omega,?_⟩,aO.mk (by simp -implicitDefEqProofs only[hw,aA,seval])⟩
   rw[fG,hx,BP,i2]
   simp [h2]
abbrev a7K:=zi tI_3 (zi zI_3 (zi aX (zi tI_70 (zi zI_70 (zi aVB (zi aVA (zi aVD (zi a4N (zi tI_129 (zi zI_129 (zi aV2 (zi aV3 aQR))))))))))))
abbrev a33:=zi tI_3 (zi zI_3 (zi aX (zi tI_66 (zi zI_66 (zi bQ (zi bR (zi bS (zi bT bP))))))))
theorem OY(n:Int)(st:aB):aD prog 116 [.int .i64 n] st (fun r st'=>r=(vr n).av∧st'=st):=by
 refine aD.done ?_
 refine wF [1000000] 1 func116 ntmps116 rfl rfl ?_
 intro _
 simp -implicitDefEqProofs only[aA,seval,a33]
 intro b hb
 simp -implicitDefEqProofs only[aK,aA,seval]
 exact⟨by simp only[vr,aV,kO,j6,l8,nD,bA,aW,aW],(aM.refl _).aC hb⟩
abbrev uN:=zi tI_3 (zi zI_3 (zi aX (zi tI_31 (zi zI_31 (zi aN (zi bG (zi bH (zi b9 (zi tI_66 (zi zI_66 (zi bQ (zi bR (zi bS (zi bT bP))))))))))))))
theorem JY(f:Int→Tm)(g:FuncId)(dP:List AV)(C7:kP dP=true):∀(t:Tm) (st:aB),t.small=true→(∀n∈t.vl,∀s,aD prog g (.int .i64 n::dP) s (fun r s'=>r=(f n).av∧s'=s)) →
 aD prog 112 [t.av,.func g dP] st (fun r st'=>r=(t.aG f).av∧st'=st)
 | .mk k n s ts,st,hsm,hg=>by
  obtain⟨hlen,pI⟩:=Tm.oR hsm
  have IH:=fun(x:Tm) (hx:x∈ts) st h=>JY f g dP C7 x st (pI x hx) h
  refine aD.pZ (aD.fin ?_)
  simp only[aV]
  refine wF [1000000,2] 2 func112 ntmps112 rfl rfl ?_
  simp only[eC,AV.fits,eF,aF]
  intro ⟨_,_,_,hl,_⟩
  simp -implicitDefEqProofs only[aA,seval,uN]
  intro c hc b2 hb2
  have hne:b2≠c:=by rintro rfl;rw[aB.aP] at hb2;cases hb2
  have hn2:st b2=none:=by rw[aB.aL st _ hne] at hb2;exact hb2
  simp -implicitDefEqProofs only[hne.symm,aA,seval]
  refine aQ (fun h=>?_) (fun h=>?_)
  · simp only[bJ] at h
    subst h
    simp -implicitDefEqProofs only[hne.symm,aA,seval,uN]
    refine(hg n (by rw[Tm.mS rfl];simp) _).to ?_
    simp -implicitDefEqProofs only[aA,seval,uN]
    refine⟨0,[],_,rfl,by simp,by simp,⟨4,by simp⟩,by rw[Tm.vQ,Tm.kY f rfl],?_⟩
    exact((aM.refl _).aC hc).aC hn2
  simp only[dJ] at h
  have hg':∀x∈ts,∀v∈x.vl,∀s,aD prog g (.int .i64 v::dP) s (fun r s'=>r=(f v).av∧s'=s):=fun x hx v hv=>hg v ((Tm.k8 h).2 ⟨x,hx,hv⟩)
  simp -implicitDefEqProofs only[hne.symm,aK,aF,aA,seval,uN]
  rw[aB.wQ hne]
  refine eP (σ:=Nat) [1000000] [1,2,4,18,19] ts (fun i b=>(((ts.take i).map (Tm.aG f)).map Tm.av≠[]→(aB.aC (st.aC b2 (.cells [AV.int .i64 0,AV.int .i64 0,AV.str ⟨#[]⟩,AV.fslice []])) c (.cells ([AV.int .i64 k,AV.int .i64 n,AV.str s]++ [bD 4 b (((ts.take i).map (Tm.aG f)).map Tm.av)]))) b=none)) (fun i b=>[(20,.int .i64 i)]) (fun i b=>fK (st.aC b2 (.cells [AV.int .i64 0,AV.int .i64 0,AV.str ⟨#[]⟩,AV.fslice []])) c b [AV.int .i64 k,AV.int .i64 n,AV.str s] (((ts.take i).map (Tm.aG f)).map Tm.av)) (by decide +kernel)
   ⟨0,fun h=>absurd rfl h,aO.mk (by simp -implicitDefEqProofs only[aA,↓aU,seval])⟩ (fun i x b hx hlt bV hdr hinv=>?_) (fun b hge hinv=>?_)
  case refine_1=>
   have hw:=bO (n:=(i:Int)+1)
   have cZ:(((ts.take i).map (Tm.aG f)).map Tm.av).length=i:=by simp only[aF,dS];omega
   have htk:(ts.take (i+1)).map (Tm.aG f)=(ts.take i).map (Tm.aG f)++ [(Tm.aG f) x]:=by rw[fG,hx];simp
   have hbo:=eN hinv
   simp -implicitDefEqProofs only[bV,bM (av:=Tm.av) aN hx (aJ x),aA,↓aU,seval,uN]
   refine wP [(0,1),(3,1),(1,2),(2,2),(4,2),(5,1),(6,0),(7,1),(8,0)] [0,3,1,2,4,5,7] mixed ?_
   simp -implicitDefEqProofs only[aT,aJ,hbo,mZ,aA,seval,uN]
   refine iD (IH x (cP hx) _ (hg' x (cP hx))) ?_
   simp -implicitDefEqProofs only[aT,aJ,cG,aA,seval,uN]
   refine eW aN bG bH rfl rfl (fM (aJ _) (cC _)) (d6 _) hinv (by simp only[cZ,aS,aZ];omega) (by simp only[cZ,aS,aZ];omega) (fun b' hb'=>?_)
   rw[show(((ts.take i).map (Tm.aG f)).map Tm.av)++ [((Tm.aG f) x).av]=((ts.take (i+1)).map (Tm.aG f)).map Tm.av by rw[htk];simp] at hb' ⊢
   obtain⟨g1,g2,g3⟩:=oL hb'
   simp only[fL,eR] at g1 g3
   simp -implicitDefEqProofs only[g3,m6,fJ,aK,g1,hw,aA,seval,uN]
   exact⟨b',g2,aO.mk (by simp -implicitDefEqProofs only[aA,seval])⟩
  have hbo:=eN hinv
  rw[eS] at hinv hbo ⊢
  simp -implicitDefEqProofs only[hge,aA,seval,uN]
  simp -implicitDefEqProofs only[hbo,aA,seval,uN]
  have hS:(st.aC b2 (.cells [AV.int .i64 0,AV.int .i64 0,AV.str ⟨#[]⟩,AV.fslice []])) b2≠none:=by rw[aB.aP];simp
  have h1:=gS hinv hS hne
  rw[aB.aP] at h1
  simp -implicitDefEqProofs only[h1,fJ,aK,aA,seval]
  obtain⟨h2,h3⟩:=kE (o:=.cells [AV.int .i64 k,AV.int .i64 n,AV.str s,bD 4 b ((ts.map (Tm.aG f)).map Tm.av)]) hinv hS hne
  refine⟨b,_,_,h2,h3,iU _,⟨4,d6 _⟩,?_,?_⟩
  · rw[Tm.j4 f h]
    simp only[fZ,bA,aW,eG,iY,iP,aV]
  · exact(((aM.refl _).aC hn2).aC hc).aC hn2
termination_by t=>SizeOf.sizeOf t
decreasing_by have:=List.sizeOf_lt_of_mem hx;simp only[Tm.mk.sizeOf_spec];omega


end Go.AW
namespace Go.AW
abbrev cO (σ:Sub):Prop:=∃R rk B,Good σ R rk B
theorem cO.rs{σ:Sub}(h:cO σ):∃rk B,Good σ (rs σ) rk B:=by
 obtain⟨R,rk,B,G⟩:=h
 exact⟨rk,B,by rw[G.rs];exact G⟩
theorem cO.none:cO Sub.none:=⟨_,_,_,Good.none⟩
structure n8 (σ:Sub) (a b:List Tm) (r:Bool) (σ':Sub) (tr:List Int):Prop where
 gQ:cO σ'
 a8:∀m,m∉tr→σ' m=σ m
 new:∀m∈tr,σ m=none∧σ' m≠none
 nodup:tr.Nodup
 eq:r=true→a.map (Tm.aG (rs σ'))=b.map (Tm.aG (rs σ'))
 gen:∀θ,n7 θ σ→a.map (Tm.aG θ)=b.map (Tm.aG θ)→r=true∧n7 θ σ'
 same:tr= []→σ'=σ
theorem n7.sub{σ σ':Sub}{θ:Int→Tm}{tr:List Int}(S:n7 θ σ')(a8:∀m,m∉tr→σ' m=σ m)(new:∀m∈tr,σ m=none∧σ' m≠none):n7 θ σ:=fun n u h=>by
 by_cases hn:n∈tr
 · rw[(new n hn).1] at h;cases h
 · exact S n u (by rw[a8 n hn];exact h)
theorem n8.v8{σ σ':Sub}{a b:List Tm}{r:Bool}{tr:List Int}(h:n8 σ a b r σ' tr):n7 (rs σ') σ:=by
 obtain⟨rk,B,G⟩:=h.gQ.rs
 exact G.v8.sub h.a8 h.new
theorem n8.stays{σ σ':Sub}{a b:List Tm}{r:Bool}{tr:List Int}(h:n8 σ a b r σ' tr)(hg:cO σ){x y:Tm}(e:x.aG (rs σ)=y.aG (rs σ)):x.aG (rs σ')=y.aG (rs σ'):=by
 obtain⟨rk,B,G⟩:=hg.rs
 rw[←G.KK h.v8 x,←G.KK h.v8 y,e]
theorem VT{σ:Sub}(hg:cO σ){a b:Tm}{n:Int}(ha:a.k=1)(han:a.n=n)(hn:σ n=none)(hb:b.k=1→σ b.n=none∧b.n≠n){r:Bool}{σ':Sub}{tr:List Int}(h:jX σ n b=(r,σ',tr)):n8 σ [a] [b] r σ' tr:=by
 obtain⟨rk,B,G⟩:=hg.rs
 have hav:∀θ,a.aG θ=θ n:=fun θ=>by rw[Tm.DR θ ha,han]
 unfold jX at h
 split at h
 · rename_i gX
   cases h
   refine⟨hg,fun _ _=>rfl,fun _ h=>absurd h (dN),oW,fun h=>(by cases h),fun θ S e=>?_,fun _=>rfl⟩
   exfalso
   simp only[bA,aW,List.cons.injEq,eF] at e
   rw[hav] at e
   by_cases hbk:b.k=1
   · rw[Tm.DR _ hbk,G.free (hb hbk).1,yO] at gX
     simp only[cX,dN,dV] at gX
     exact(hb hbk).2 gX.symm
   · rw[←G.KK S b] at e
     have h1:((b.aG (rs σ)).aG θ)=(b.aG (rs σ)).aG θ:=rfl
     have hk:(b.aG (rs σ)).k≠1:=by rw[Tm.pM _ hbk];exact hbk
     have:=(a0P (f:=θ) (b.aG (rs σ)) gX).2 hk
     rw[e] at this
     exact absurd this (Nat.lt_irrefl _)
 · rename_i gX
   cases h
   obtain⟨rk',B',G'⟩:=G.bind hn gX
   have hR:=G'.rs
   refine⟨⟨_,_,_,G'⟩,fun m hm=>?_,fun m hm=>?_,by simp,fun _=>?_,fun θ S e=>⟨rfl,fun m u hu=>?_⟩,fun h=>(by cases h)⟩
   · simp only[cX,dN,dV] at hm
     simp only[Sub.set,hm,dY]
   · simp only[cX,dN,dV] at hm
     subst hm
     exact⟨hn,by simp [Sub.set]⟩
   · simp only[bA,aW,List.cons.injEq,eF]
     rw[hav,hR]
     exact G'.bound (by simp [Sub.set])
   · simp only[bA,aW,List.cons.injEq,eF] at e
     rw[hav] at e
     simp only[Sub.set] at hu
     split at hu
     · rename_i hmn
       cases hu
       rw[hmn,e]
     · exact S m u hu
theorem sP{a b:Tm}:uB a b=true↔a.k=b.k∧a.n=b.n∧a.s=b.s∧a.ts.length=b.ts.length:=by
 simp only[uB,cA,bJ,and_assoc]
theorem aOQ(g:Nat)(aZG:∀σ a b r σ' tr,cO σ→dI g σ a b=some (r,σ',tr)→n8 σ [a] [b] r σ' tr):∀xs ys σ r σ' tr,cO σ→xs.length=ys.length→d7 g σ xs ys=some (r,σ',tr)→n8 σ xs ys r σ' tr:=by
 intro xs
 have ihU:=aZG
 induction xs with
 | nil=>
  intro ys σ r σ' tr hg hl h
  cases ys with
  | cons _ _=>simp at hl
  | nil=>
   simp only[d7,Option.some.injEq,Prod.mk.injEq] at h
   obtain⟨rfl,rfl,rfl⟩:=h
   exact⟨hg,fun _ _=>rfl,fun _ h=>absurd h (dN),oW,fun _=>rfl,fun θ S _=>⟨rfl,S⟩,fun _=>rfl⟩
 | cons a xs ih=>
  intro ys σ r σ' tr hg hl h
  cases ys with
  | nil=>simp at hl
  | cons b ys=>
   rw[d7] at h
   cases h1:dI g σ a b with
   | none=>rw[h1] at h;cases h
   | some p=>
    obtain⟨r1,σ1,tr1⟩:=p
    have U1:=ihU σ a b r1 σ1 tr1 hg h1
    rw[h1] at h
    cases r1 with
    | false=>
     simp only[Option.some.injEq,Prod.mk.injEq] at h
     obtain⟨rfl,rfl,rfl⟩:=h
     refine⟨U1.gQ,U1.a8,U1.new,U1.nodup,fun h=>(by cases h),fun θ S e=>?_,U1.same⟩
     simp only[bA,List.cons.injEq] at e
     exact U1.gen θ S (by simp [e.1])
    | true=>
     simp only at h
     cases h2:d7 g σ1 xs ys with
     | none=>rw[h2] at h;cases h
     | some p2=>
      obtain⟨r2,σ2,tr2⟩:=p2
      rw[h2] at h
      simp only[Option.some.injEq,Prod.mk.injEq] at h
      obtain⟨rfl,rfl,rfl⟩:=h
      have U2:=ih ys σ1 r2 σ2 tr2 U1.gQ (by simpa using hl) h2
      refine⟨U2.gQ,fun m hm=>?_,fun m hm=>?_,?_,fun hr=>?_,fun θ S e=>?_,fun h=>?_⟩
      · simp only[fF,not_or] at hm
        rw[U2.a8 m hm.2,U1.a8 m hm.1]
      · rcases fF.1 hm with hm | hm
        · refine⟨(U1.new m hm).1,fun h=>(U1.new m hm).2 ?_⟩
          by_cases h3:m∈tr2
          · exact(U2.new m h3).1
          · rw[←U2.a8 m h3];exact h
        · refine⟨?_,(U2.new m hm).2⟩
          by_cases h3:m∈tr1
          · exact(U1.new m h3).1
          · rw[←U1.a8 m h3];exact(U2.new m hm).1
      · rw[tO]
        refine⟨U1.nodup,U2.nodup,fun x hx y hy e=>?_⟩
        subst e
        exact(U1.new x hx).2 (U2.new x hy).1
      · have e1:=U1.eq rfl
        simp only[bA,aW,List.cons.injEq,eF] at e1
        simp only[bA]
        rw[U2.stays U1.gQ e1,U2.eq hr]
      · simp only[bA,List.cons.injEq] at e
        obtain⟨_,S1⟩:=U1.gen θ S (by simp [e.1])
        exact U2.gen θ S1 e.2
      · simp only[List.append_eq_nil_iff] at h
        rw[U2.same h.2,U1.same h.1]
theorem a4Q:∀(g:Nat),(∀σ a b r σ' tr,cO σ→dI g σ a b=some (r,σ',tr)→n8 σ [a] [b] r σ' tr) ∧
 ∀xs ys σ r σ' tr,cO σ→xs.length=ys.length→d7 g σ xs ys=some (r,σ',tr)→n8 σ xs ys r σ' tr:=by
 intro g
 induction g with
 | zero=>
  have h0:∀σ a b r σ' tr,cO σ→dI 0 σ a b=some (r,σ',tr)→n8 σ [a] [b] r σ' tr:=fun σ a b r σ' tr hg h=>by simp only[dI] at h;cases h
  exact⟨h0,aOQ _ h0⟩
 | succ g ih=>
  suffices hU:∀σ a b r σ' tr,cO σ→dI (g+1) σ a b=some (r,σ',tr)→n8 σ [a] [b] r σ' tr from ⟨hU,aOQ _ hU⟩
  intro σ a b r σ' tr hg h
  obtain⟨ihU,ihL⟩:=ih
  have aZF:=fun xs ys σ r σ' tr hg hl h=>ihL xs ys σ r σ' tr hg hl h
  obtain⟨rk,B,G⟩:=hg.rs
  obtain⟨fa,wa⟩:=G.wk a
  obtain⟨fb,wb⟩:=G.wk b
  have hma:∀θ,n7 θ σ→(wk σ a).aG θ=a.aG θ:=fun θ S=>wa.aG S
  have hmb:∀θ,n7 θ σ→(wk σ b).aG θ=b.aG θ:=fun θ S=>wb.aG S
  -- it suffices to speak of the walked terms
  suffices hw:n8 σ [wk σ a] [wk σ b] r σ' tr by
   refine⟨hw.gQ,hw.a8,hw.new,hw.nodup,fun hr=>?_,fun θ S e=>?_,hw.same⟩
   · have:=hw.eq hr
     simp only[bA,aW,List.cons.injEq,eF] at this ⊢
     rw[←hma _ hw.v8,←hmb _ hw.v8];exact this
   · refine hw.gen θ S ?_
     simp only[bA,aW,List.cons.injEq,eF] at e ⊢
     rw[hma θ S,hmb θ S];exact e
  have ea:=wa.end
  have eb:=wb.end
  rw[dI] at h
  generalize wk σ a=a at *
  generalize wk σ b=b at *
  split at h
  · rename_i hc
    simp only[Option.some.injEq,Prod.mk.injEq] at h
    obtain⟨rfl,rfl,rfl⟩:=h
    have he:∀θ,a.aG θ=b.aG θ:=fun θ=>by rw[Tm.DR θ hc.1,Tm.DR θ hc.2.1,hc.2.2]
    exact⟨hg,fun _ _=>rfl,fun _ h=>absurd h (dN),oW,fun _=>by simp [he],fun θ S _=>⟨rfl,S⟩,fun _=>rfl⟩
  · rename_i hc
    split at h
    · rename_i ha
      exact VT hg ha rfl (ea ha) (fun hb=>⟨eb hb,fun e=>hc ⟨ha,hb,e.symm⟩⟩) (nK h)
    · rename_i ha
      split at h
      · rename_i hb
        have U:=VT hg hb rfl (eb hb) (fun ha'=>absurd ha' ha) (nK h)
        exact⟨U.gQ,U.a8,U.new,U.nodup,fun hr=>(U.eq hr).symm,fun θ S e=>U.gen θ S e.symm,U.same⟩
      · rename_i hb
        split at h
        · rename_i hh
          rw[sP] at hh
          have U:=aZF a.ts b.ts σ r σ' tr hg hh.2.2.2 h
          refine⟨U.gQ,U.a8,U.new,U.nodup,fun hr=>?_,fun θ S e=>?_,U.same⟩
          · simp only[bA,aW,List.cons.injEq,eF]
            rw[Tm.pM _ ha,Tm.pM _ hb,hh.1,hh.2.1,hh.2.2.1,U.eq hr]
          · simp only[bA,aW,List.cons.injEq,eF] at e
            rw[Tm.pM _ ha,Tm.pM _ hb] at e
            exact U.gen θ S (by injection e)
        · rename_i hh
          simp only[Option.some.injEq,Prod.mk.injEq] at h
          obtain⟨rfl,rfl,rfl⟩:=h
          refine⟨hg,fun _ _=>rfl,fun _ h=>absurd h (dN),oW,fun h=>(by cases h),fun θ S e=>?_,fun _=>rfl⟩
          exfalso
          simp only[bA,aW,List.cons.injEq,eF] at e
          rw[Tm.pM _ ha,Tm.pM _ hb] at e
          injection e with e1 e2 e3 e4
          exact hh (sP.2 ⟨e1,e2,e3,by simpa using gV List.length e4⟩)
theorem wO{g:Nat}{σ:Sub}{a b:Tm}{r:Bool}{σ':Sub}{tr:List Int}(hg:cO σ)(h:dI g σ a b=some (r,σ',tr)):n8 σ [a] [b] r σ' tr:=(a4Q g).1 σ a b r σ' tr hg h
end Go.AW
