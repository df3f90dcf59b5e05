import Derived.Test.YtimfffmcljmfgaaGreatDoorUzg
import Derived.Test.YtimfffmcljmfgaaGreatDoorUzi
set_option linter.unusedSimpArgs false
set_option linter.unusedVariables false
set_option maxRecDepth 100000
namespace Go.AW
open Go.Proofs.Tryz
theorem EC(n lo hi:Int)(st:aB):aD prog 170 [.int .i64 n,.int .i64 lo,.int .i64 hi] st (fun r st'=>r=.bool (decide (lo≤n)&&decide (n≤hi))∧st'=st):=by
 refine wF [] 3 func170 ntmps170 rfl rfl ?_
 intro _
 repeat' (first
  | (simp -implicitDefEqProofs only[*,aA,seval])
  | (refine cS (fun h=>?_) (fun h=>?_))
  | (refine aS (fun h=>?_) (fun h=>?_)))
 all_goals simp_all
theorem aVQ(s:ByteArray)(st:aB):aD prog 250 [.str s] st (fun r st'=>r=.tup [.int .i64 (dU s),.bool (dU s == 1||dU s == 2)]∧st'=st):=by
 refine wF [] 1 func250 ntmps250 rfl rfl ?_
 intro _
 repeat' (first
  | (simp -implicitDefEqProofs only[*,aA,seval])
  | (refine cS (fun h=>?_) (fun h=>?_))
  | (refine aS (fun h=>?_) (fun h=>?_)))
 all_goals (simp only[dU, *,A9,yN,Bool.or_self,cond_true,BW];first | done | rfl)
theorem xD(s:ByteArray)(st:aB):aD prog 197 [.str s] st (fun r st'=>r=.int .i64 (dU s)∧st'=st):=by
 refine wF [] 1 func197 ntmps197 rfl rfl ?_
 intro _
 repeat' (first
  | (simp -implicitDefEqProofs only[*,aA,seval])
  | (refine cS (fun h=>?_) (fun h=>?_))
  | (refine aS (fun h=>?_) (fun h=>?_)))
 all_goals (simp only[dU, *,A9,yN,Bool.or_self,cond_true,BW];first | done | rfl)
theorem aWC(s:ByteArray)(n:Int)(st:aB):aD prog 149 [.str s,.int .i64 n] st (fun r st'=>r=.bool (isBuiltin s n)∧st'=st):=by
 refine wF [] 2 func149 ntmps149 rfl rfl ?_
 intro _
 repeat' (first
  | (simp -implicitDefEqProofs only[*,aA,seval])
  | (refine cS (fun h=>?_) (fun h=>?_))
  | (refine aS (fun h=>?_) (fun h=>?_)))
 all_goals (simp only[isBuiltin, *,A9,yN,Bool.or_self,cond_true,BW];first | done | rfl)
theorem LY(s:ByteArray)(n:Int)(st:aB):aD prog 196 [.str s,.int .i64 n] st (fun r st'=>r=.bool (isBuiltin s n)∧st'=st):=by
 refine wF [] 2 func196 ntmps196 rfl rfl ?_
 intro _
 repeat' (first
  | (simp -implicitDefEqProofs only[*,aA,seval])
  | (refine cS (fun h=>?_) (fun h=>?_))
  | (refine aS (fun h=>?_) (fun h=>?_)))
 all_goals (simp only[isBuiltin, *,A9,yN,Bool.or_self,cond_true,BW];first | done | rfl)
abbrev aRH:=zi tI_3 (zi zI_3 (zi aZ (zi tI_4 (zi zI_4 (zi cG (zi tI_5 (zi zI_5 (zi lO (zi tI_9 (zi zI_9 cF))))))))))
theorem aAJ(s:ByteArray)(st:aB):aD prog 195 [.str s] st (fun r st'=>r=.bool (uM s)∧st'=st):=by
 refine wF [] 1 func195 ntmps195 rfl rfl ?_
 simp only[d5,AV.fits,d9]
 intro hs
 simp -implicitDefEqProofs only[aA,seval]
 refine pP (α:=Nat) [] (fun i=>i≤s.size∧∀(j:Nat) c,j<i→(sb s)[j]?=some c→letter c=true)
  (fun i=>[(0,.str s),(3,.int .i64 i)]) (fun _=>st) (fun i=>s.size - i) (by decide +kernel)
  ⟨0,⟨by omega,by intro j x h;omega⟩,aN.mk (by simp -implicitDefEqProofs only[aA,↓aX,seval])⟩ ?_
 intro i ⟨hi,dN⟩
 simp -implicitDefEqProofs only[aA,seval,aRH]
 refine⟨fun h5=>?_,fun h5=>?_⟩
 case refine_2=>
  simp only[cP,iY] at h5
  have ha:(sb s).all letter=true:=LD fun j c hc=>dN j c (by have:=(fR.1 hc).1;rw[cQ] at this;omega) hc
  repeat' (first
   | (simp -implicitDefEqProofs only[*,aA,seval,aRH])
   | (refine cS (fun h=>?_) (fun h=>?_))
   | (refine aS (fun h=>?_) (fun h=>?_)))
  all_goals simp only[uM,ha,fP,AV.bool.injEq]
  all_goals simp only[*,nM,fP,iF]
 simp only[bL,iY] at h5
 obtain⟨c,hc⟩:∃c,(sb s)[i]?=some c:=⟨_,dZ (by rw[cQ];exact h5)⟩
 have hx:=uK (P:=prog) (t:=9) cF hc
 simp -implicitDefEqProofs only[hx,aA,seval]
 refine cS (fun h6=>?_) (fun h6=>?_)
 case refine_2=>
  simp -implicitDefEqProofs only[h6,aA,seval]
  simp only[oU,bL] at h6
  simp only[uM,w7 hc (show letter c=false by simp [letter];omega),iF]
 simp -implicitDefEqProofs only[h6,hx,aA,seval]
 refine⟨fun h7=>?_,fun h7=>?_⟩
 · simp -implicitDefEqProofs only[aA,seval]
   simp only[bL] at h7
   simp only[uM,w7 hc (show letter c=false by simp [letter];omega),iF]
 simp only[cP] at h6 h7
 simp -implicitDefEqProofs only[aA,seval]
 refine⟨i+1,by omega,⟨by omega,fun j u hj hu=>?_⟩,aN.mk ?_⟩
 · rcases kX j i with h8 | h8
   · exact dN j u h8 hu
   · obtain rfl:j=i:=by omega
     rw[hc] at hu;cases hu
     simp [letter];omega
 · have:=bE (n:=(i:Int)+1)
   simp -implicitDefEqProofs only[this,aA,seval]
abbrev aRI:=zi tI_3 (zi zI_3 (zi aZ (zi tI_4 (zi zI_4 (zi cG (zi tI_5 (zi zI_5 (zi lO (zi tI_6 (zi zI_6 (zi uU6 (zi tI_9 (zi zI_9 cF)))))))))))))
theorem Z8(s:ByteArray)(st:aB):aD prog 201 [.str s] st (fun r st'=>r=.bool (uM s)∧st'=st):=by
 refine wF [] 1 func201 ntmps201 rfl rfl ?_
 simp only[d5,AV.fits,d9]
 intro hs
 simp -implicitDefEqProofs only[aA,seval,aRI]
 refine pP (α:=Nat) [] (fun i=>i≤s.size∧∀(j:Nat) c,j<i→(sb s)[j]?=some c→letter c=true)
  (fun i=>[(0,.str s),(5,.int .i64 s.size),(6,.int .i64 i)]) (fun _=>st) (fun i=>s.size - i) (by decide +kernel)
  ⟨0,⟨by omega,by intro j x h;omega⟩,aN.mk (by simp -implicitDefEqProofs only[aA,↓aX,seval])⟩ ?_
 intro i ⟨hi,dN⟩
 simp -implicitDefEqProofs only[aA,seval]
 refine⟨fun h5=>?_,fun h5=>?_⟩
 case refine_2=>
  simp only[cP,iY] at h5
  have ha:(sb s).all letter=true:=LD fun j c hc=>dN j c (by have:=(fR.1 hc).1;rw[cQ] at this;omega) hc
  simp -implicitDefEqProofs only[aA,seval,aRI]
  refine(EC _ _ _ st).to ?_
  simp -implicitDefEqProofs only[aA,seval]
  simp only[uM,ha,fP]
 simp only[bL,iY] at h5
 obtain⟨c,hc⟩:∃c,(sb s)[i]?=some c:=⟨_,dZ (by rw[cQ];exact h5)⟩
 have hx:=uK (P:=prog) (t:=9) cF hc
 simp -implicitDefEqProofs only[hx,aA,seval]
 refine cS (fun h6=>?_) (fun h6=>?_)
 case refine_2=>
  simp -implicitDefEqProofs only[h6,aA,seval]
  simp only[oU,bL] at h6
  simp only[uM,w7 hc (show letter c=false by simp [letter];omega),iF]
 simp -implicitDefEqProofs only[h6,hx,aA,seval]
 refine⟨fun h7=>?_,fun h7=>?_⟩
 · simp -implicitDefEqProofs only[aA,seval]
   simp only[bL] at h7
   simp only[uM,w7 hc (show letter c=false by simp [letter];omega),iF]
 simp only[cP] at h6 h7
 simp -implicitDefEqProofs only[aA,seval]
 refine⟨i+1,by omega,⟨by omega,fun j u hj hu=>?_⟩,aN.mk ?_⟩
 · rcases kX j i with h8 | h8
   · exact dN j u h8 hu
   · obtain rfl:j=i:=by omega
     rw[hc] at hu;cases hu
     simp [letter];omega
 · have:=bE (n:=(i:Int)+1)
   simp -implicitDefEqProofs only[this,aA,seval]
theorem aWJ(s:ByteArray)(st:aB):aD prog 202 [.str s] st (fun r st'=>r=.bool (decide ((0:Int)<(dU s:Int)))∧st'=st):=by
 refine wF [] 1 func202 ntmps202 rfl rfl ?_
 intro _
 simp -implicitDefEqProofs only[aA,seval]
 refine(aVQ s st).to ?_
 simp -implicitDefEqProofs only[aA,seval]
abbrev a7R:=zi tI_3 (zi zI_3 (zi aZ (zi tI_4 (zi zI_4 (zi cG (zi tI_31 (zi zI_31 (zi aO (zi bH (zi bJ (zi bZ (zi tI_66 (zi zI_66 (zi bS (zi bT (zi bU (zi bV bR)))))))))))))))))
theorem HF(k n:Int)(s:ByteArray)(ts:List Tm)(st:aB):aD prog 203 [(Tm.mk k n s ts).av] st (fun r st'=>r=.bool (decide (k=3)&&decide ((ts.length:Int)=0))∧st'=st):=by
 refine wF [] 1 func203 ntmps203 rfl rfl ?_
 intro _
 simp only[aY]
 repeat' (first
  | (simp -implicitDefEqProofs only[*,aA,seval,a7R])
  | (refine cS (fun h=>?_) (fun h=>?_))
  | (refine aS (fun h=>?_) (fun h=>?_)))
 all_goals simp_all
def jR:List ByteArray:=[⟨#[43]⟩,⟨#[45]⟩,⟨#[42]⟩,⟨#[47,47]⟩,⟨#[61]⟩,⟨#[92,61]⟩,⟨#[61,61]⟩,⟨#[60]⟩,⟨#[62]⟩,⟨#[61,60]⟩,⟨#[62,61]⟩,⟨#[61,58,61]⟩,⟨#[46]⟩,⟨#[91,93]⟩,⟨#[33]⟩]
abbrev a7S:=zi tI_147 (zi zI_147 (zi jO (zi nC (zi nE n8))))
theorem aYK(st:aB):aD prog 320 [] st (fun r st'=>r=.fslice (jR.map .str)∧st'=st):=by
 refine wF [] 0 func320 ntmps320 rfl rfl ?_
 intro _
 simp -implicitDefEqProofs only[jR,aA,seval,a7S]
abbrev a7T:=zi tI_147 (zi zI_147 (zi jO (zi nC (zi nE n8))))
theorem aAH(st:aB):aD prog 367 [] st (fun r st'=>r=.fslice (jR.map .str)∧st'=st):=by
 refine wF [] 0 func367 ntmps367 rfl rfl ?_
 intro _
 simp -implicitDefEqProofs only[jR,aA,seval,a7T]
abbrev aRK:=zi tI_3 (zi zI_3 (zi aZ (zi tI_4 (zi zI_4 (zi cG (zi tI_9 (zi zI_9 (zi cF (zi tI_147 (zi zI_147 (zi jO (zi nC (zi nE n8)))))))))))))
theorem aWP(l:List ByteArray)(s:ByteArray)(st:aB):aD prog 366 [.slice (l.map .str),.str s] st (fun r st'=>r=.bool (l.any fun x=>decide (x=s))∧st'=st):=by
 refine wF [] 2 func366 ntmps366 rfl rfl ?_
 simp only[d5,AV.fits,d9,aF]
 intro ⟨⟨hl,_⟩,_⟩
 simp -implicitDefEqProofs only[aA,seval]
 refine pP (α:=Nat) [] (fun i=>i≤l.length∧∀(j:Nat) x,j<i→l[j]?=some x→decide (x=s)=false)
  (fun i=>[(0,.slice (l.map .str)),(1,.str s),(5,.int .i64 i)]) (fun _=>st) (fun i=>l.length - i) (by decide +kernel)
  ⟨0,⟨by omega,by intro j x h;omega⟩,aN.mk (by simp -implicitDefEqProofs only[aA,↓aX,seval])⟩ ?_
 intro i ⟨hi,dN⟩
 simp -implicitDefEqProofs only[aF,aA,seval,aRK]
 refine⟨fun h5=>?_,fun h5=>?_⟩
 case refine_2=>
  simp -implicitDefEqProofs only[aA,seval]
  simp only[cP,iY] at h5
  have:(l.any fun x=>decide (x=s))=false:=by
   rw[List.any_eq_false]
   intro x hx
   obtain⟨j,hj⟩:=BE hx
   simp [dN j x (by have:=(fR.1 hj).1;omega) hj]
  rw[this]
 simp only[bL,iY] at h5
 obtain⟨x,hx⟩:∃x,l[i]?=some x:=⟨_,dZ h5⟩
 simp -implicitDefEqProofs only[bO (av:=AV.str) jO hx rfl,aA,seval,aRK]
 refine⟨fun h6=>?_,fun h6=>?_⟩
 · simp -implicitDefEqProofs only[aA,seval]
   have:(l.any fun x=>decide (x=s))=true:=by
    rw[List.any_eq_true]
    exact⟨x,cJ hx,h6⟩
   rw[this]
 simp -implicitDefEqProofs only[aA,seval]
 refine⟨i+1,by omega,⟨by omega,fun j u hj hu=>?_⟩,aN.mk ?_⟩
 · rcases kX j i with h8 | h8
   · exact dN j u h8 hu
   · obtain rfl:j=i:=by omega
     rw[hx] at hu;cases hu
     exact h6
 · have:=bE (n:=(i:Int)+1)
   simp -implicitDefEqProofs only[this,aA,seval]
abbrev aRJ:=zi tI_3 (zi zI_3 (zi aZ (zi tI_9 (zi zI_9 (zi cF (zi tI_147 (zi zI_147 (zi jO (zi nC (zi nE n8))))))))))
theorem aVN(l:List ByteArray)(s:ByteArray)(st:aB):aD prog 217 [.slice (l.map .str),.str s] st (fun r st'=>(∃k:Int,r=.int .i64 k∧decide (0≤k)=l.any fun x=>decide (s=x))∧st'=st):=by
 refine wF [] 2 func217 ntmps217 rfl rfl ?_
 simp only[d5,AV.fits,d9,aF]
 intro ⟨⟨hl,_⟩,_⟩
 simp -implicitDefEqProofs only[aF,aA,seval,aRJ]
 refine pP (α:=Nat) [] (fun i=>i≤l.length∧∀(j:Nat) x,j<i→l[j]?=some x→decide (s=x)=false)
  (fun i=>[(0,.slice (l.map .str)),(1,.str s),(7,.int .i64 l.length),(8,.int .i64 i)]) (fun _=>st) (fun i=>l.length - i) (by decide +kernel)
  ⟨0,⟨by omega,by intro j x h;omega⟩,aN.mk (by simp -implicitDefEqProofs only[aA,↓aX,seval])⟩ ?_
 intro i ⟨hi,dN⟩
 simp -implicitDefEqProofs only[aA,seval]
 refine⟨fun h5=>?_,fun h5=>?_⟩
 case refine_2=>
  simp -implicitDefEqProofs only[aA,seval]
  simp only[cP,iY] at h5
  have:(l.any fun x=>decide (s=x))=false:=by
   rw[List.any_eq_false]
   intro x hx
   obtain⟨j,hj⟩:=BE hx
   simp [dN j x (by have:=(fR.1 hj).1;omega) hj]
  rw[this]
  exact⟨_,rfl,rfl⟩
 simp only[bL,iY] at h5
 obtain⟨x,hx⟩:∃x,l[i]?=some x:=⟨_,dZ h5⟩
 simp -implicitDefEqProofs only[bO (av:=AV.str) jO hx rfl,aA,seval,aRJ]
 refine⟨fun h6=>?_,fun h6=>?_⟩
 · simp -implicitDefEqProofs only[aA,seval]
   have:(l.any fun x=>decide (s=x))=true:=by
    rw[List.any_eq_true]
    exact⟨x,cJ hx,h6⟩
   rw[this]
   exact⟨_,rfl,by simp⟩
 simp -implicitDefEqProofs only[aA,seval]
 refine⟨i+1,by omega,⟨by omega,fun j u hj hu=>?_⟩,aN.mk ?_⟩
 · rcases kX j i with h8 | h8
   · exact dN j u h8 hu
   · obtain rfl:j=i:=by omega
     rw[hx] at hu;cases hu
     exact h6
 · have:=bE (n:=(i:Int)+1)
   simp -implicitDefEqProofs only[this,aA,seval]
theorem aVE(l:List ByteArray)(s:ByteArray)(st:aB):aD prog 145 [.slice (l.map .str),.str s] st (fun r st'=>r=.bool (l.any fun x=>decide (s=x))∧st'=st):=by
 refine wF [] 2 func145 ntmps145 rfl rfl ?_
 intro _
 simp -implicitDefEqProofs only[aA,seval]
 refine(aVN l s st).mono ?_
 rintro _ _ ⟨⟨k,rfl,hk⟩,rfl⟩
 simp -implicitDefEqProofs only[aA,seval]
 rw[←hk]
theorem Q7(l:List ByteArray)(s:ByteArray)(st:aB):aD prog 145 [.fslice (l.map .str),.str s] st (fun r st'=>r=.bool (l.any fun x=>decide (s=x))∧st'=st):=
 aD.qP (by simp only[iL,AV.soft];exact aVE l s st)
theorem aWQ(l:List ByteArray)(s:ByteArray)(st:aB):aD prog 366 [.fslice (l.map .str),.str s] st (fun r st'=>r=.bool (l.any fun x=>decide (x=s))∧st'=st):=
 aD.qP (by simp only[iL,AV.soft];exact aWP l s st)
def AB(s:ByteArray):Bool:=uM s||jR.any fun x=>decide (s=x)
theorem aUD(s:ByteArray):(jR.any fun x=>decide (x=s))=jR.any fun x=>decide (s=x):=by
 congr 1
 funext x
 exact BX.2 ⟨Eq.symm,Eq.symm⟩
theorem aWD(s:ByteArray)(st:aB):aD prog 260 [.str s] st (fun r st'=>r=.bool (AB s)∧st'=st):=by
 refine wF [] 1 func260 ntmps260 rfl rfl ?_
 intro _
 repeat' (first
  | (simp -implicitDefEqProofs only[*,aA,seval])
  | (refine cS (fun h=>?_) (fun h=>?_))
  | (refine(Z8 s st).to ?_) | (refine(aYK st).to ?_) | (refine(Q7 jR s st).to ?_)
  | (refine aS (fun h=>?_) (fun h=>?_)))
 all_goals simp only[AB, *,oU,yN,rT]
theorem aYH(s:ByteArray)(st:aB):aD prog 321 [.str s] st (fun r st'=>r=.bool (AB s)∧st'=st):=by
 refine wF [] 1 func321 ntmps321 rfl rfl ?_
 intro _
 repeat' (first
  | (simp -implicitDefEqProofs only[*,aA,seval])
  | (refine cS (fun h=>?_) (fun h=>?_))
  | (refine(aAJ s st).to ?_) | (refine(aAH st).to ?_) | (refine(aWQ jR s st).to ?_)
  | (refine aS (fun h=>?_) (fun h=>?_)))
 all_goals simp only[AB,aUD, *,oU,yN,rT]
end Go.AW
namespace Go.AW
def eU(k n:Int)(s:ByteArray)(len:Int):Bool:=
 cond (decide (k=1)) (decide ((0:Int)≤n)&&decide (n≤25)&&decide (s=⟨#[]⟩)&&decide (len=0))
  (cond (decide (k=2)) (decide ((-999:Int)≤n)&&decide (n≤999)&&decide (s=⟨#[]⟩)&&decide (len=0))
   (cond (decide (k=3)) (decide (n=0)&&AB s&&decide (len≤4)) false))
mutual
def Tm.shape:Tm→Int→Bool
 | .mk k n s ts,d=>decide (1≤d)&&eU k n s ts.length&&PB ts (d - 1)
def PB:List Tm→Int→Bool
 | [],_=>true
 | t::ts,d=>t.shape d&&PB ts d
end
theorem aSO:∀(ts:List Tm) (d:Int),PB ts d=ts.all fun t=>t.shape d
 | [],_=>rfl
 | t::ts,d=>by simp only[PB,lE,aSO ts d]
theorem Tm.FT(k n:Int)(s:ByteArray)(ts:List Tm)(d:Int):(Tm.mk k n s ts).shape d=(decide (1≤d)&&eU k n s ts.length&&ts.all fun t=>t.shape (d - 1)):=by simp only[Tm.shape,aSO]
mutual
def Tm.nodes:Tm→Nat
 | .mk _ _ _ ts=>1+O5 ts
def O5:List Tm→Nat
 | []=>0
 | t::ts=>t.nodes+O5 ts
end
theorem aSK:∀(ts:List Tm),O5 ts=aR Tm.nodes ts
 | []=>rfl
 | t::ts=>by simp only[O5,aR,aSK ts]
theorem Tm.iI(k n:Int)(s:ByteArray)(ts:List Tm):(Tm.mk k n s ts).nodes=1+aR Tm.nodes ts:=by simp only[Tm.nodes,aSK]
def Tm.valid(t:Tm):Bool:=t.shape 30&&decide (t.nodes≤120)
mutual
def Tm.vars:Tm→List Int→List Int
 | .mk k n _ ts,l=>cD ts (if k=1∧n∉l then l++ [n] else l)
def cD:List Tm→List Int→List Int
 | [],l=>l
 | t::ts,l=>cD ts (t.vars l)
end
mutual
theorem Tm.GB:∀(t:Tm) (l:List Int),(t.vars l).length≤l.length+t.nodes
 | .mk k n s ts,l=>by
  have h:=A2 ts (if k=1∧n∉l then l++ [n] else l)
  have h2:(if k=1∧n∉l then l++ [n] else l).length≤l.length+1:=by split<;>simp
  rw[Tm.vars,Tm.iI]
  omega
theorem A2:∀(ts:List Tm) (l:List Int),(cD ts l).length≤l.length+aR Tm.nodes ts
 | [],l=>by simp [cD,aR]
 | t::ts,l=>by
  have h1:=Tm.GB t l
  have h2:=A2 ts (t.vars l)
  simp only[cD,aR]
  omega
end
def fO(v:Int):List Int→Int→Int
 | [],_=> -1
 | x::xs,i=>if v=x then i else fO v xs (i+1)
theorem aOJ(v:Int):∀(l:List Int) (i:Int),0≤i→(0≤fO v l i↔v∈l)
 | [],i,h=>by simp [fO]
 | x::xs,i,h=>by
  simp only[fO,c8]
  split
  · rename_i e;simp [e,h]
  · rename_i e;rw[aOJ v xs (i+1) (by omega)];simp [e]
theorem pV{st:aB}{b x:Nat}{l:List AV}{o:AO}(h:l≠[]→x≠b):(a8 st b l).aC x o=a8 (st.aC x o) b l:=by
 cases l with
 | nil=>rfl
 | cons y l=>exact aB.nL _ _ _ (c9 (h (by simp)))
theorem LB{st:aB}{b x:Nat}{l:List AV}{o:AO}(hx:st x=none)(h:l≠[]→(st.aC x o) b=none):aL (a8 (st.aC x o) b l) (a8 st b l)∧(l≠[]→st b=none):=by
 cases l with
 | nil=>exact⟨(aL.refl _).aC hx,fun h=>absurd rfl h⟩
 | cons y l=>
  have hb:=h (by simp)
  have hne:b≠x:=by rintro rfl;rw[aB.aP] at hb;cases hb
  rw[aB.aJ _ _ hne] at hb
  refine⟨?_,fun _=>hb⟩
  simp only[a8]
  rw[aB.nL _ _ _ (c9 hne)]
  exact(aL.refl _).aC (by rw[aB.aJ _ _ (c9 hne)];exact hx)
theorem YY{P:Program}{t:TypeId}{ag:Bool}{w b i:Nat}{l:List AV}{x:AV}(hI:eI P t=some (ag,w))(h:l[i]?=some x):dM P t (bM w b l) (.int .i64 (i:Int))=some (.ptr b (i*w)):=by
 have hi:=(fR.1 h).1
 rw[pW (by rintro rfl;simp at hi)]
 exact pB hI hi
theorem YZ{st:aB}{b i:Nat}{l:List Int}{x:Int}(h:l[i]?=some x):a8 st b (l.map iv) b=some (.cells (l.map iv))∧(l.map iv)[i]?=some (iv x):=by
 have hi:=(fR.1 h).1
 have hne:l.map iv≠[]:=by rintro e;rw[List.map_eq_nil_iff] at e;subst e;simp at hi
 have hfl:(l.map iv).flatMap AV.cells=l.map iv:=by
  clear h hi hne
  induction l with
  | nil=>rfl
  | cons y l ih=>simp only[aW,qS,ih];rfl
 exact⟨by rw[jY hne,hfl,aB.aP],by rw[nO,h];try rfl⟩
mutual
def Tm.wf:Tm→Bool
 | .mk k _ _ ts=>(!decide (k=1)||ts.isEmpty)&&PE ts
def PE:List Tm→Bool
 | []=>true
 | t::ts=>t.wf&&PE ts
end
theorem W7:∀(ts:List Tm),PE ts=ts.all Tm.wf
 | []=>rfl
 | t::ts=>by simp only[PE,lE,W7 ts]
theorem Tm.XN{k n:Int}{s:ByteArray}{ts:List Tm}(h:(Tm.mk k n s ts).wf=true):(k=1→ts= [])∧∀x∈ts,x.wf=true:=by
 simp only[Tm.wf,W7,cK,rU,iX,cP,List.isEmpty_iff,eW] at h
 exact⟨fun hk=>h.1.resolve_left (fun hn=>hn hk),h.2⟩
theorem Tm.KD{t:Tm}(h:t.valid=true):t.nodes≤120:=by simp only[Tm.valid,cK,bL] at h;exact h.2
def f9(S:aB)(c b:Nat)(hd:List AV)(l:List AV):aB:=a8 (S.aC c (.cells (hd++ [bM 4 b l]))) b l
theorem fA{S:aB}{c b:Nat}{hd l:List AV}(hb:l≠[]→(S.aC c (.cells (hd++ [bM 4 b l]))) b=none):f9 S c b hd l c=some (.cells (hd++ [bM 4 b l])):=by
 unfold f9
 cases l with
 | nil=>simp only[a8,aB.aP]
 | cons y l=>
  have h:=hb (by simp)
  have hne:c≠b:=fun e=>by rw[←e,aB.aP] at h;cases h
  rw[pU hne,aB.aP]
theorem pG{S:aB}{c b b':Nat}{hd l l':List AV}(hb:l'≠[]→(S.aC c (.cells (hd++ [bM 4 b l]))) b'=none) :
 (a8 (S.aC c (.cells (hd++ [bM 4 b l]))) b' l').aC c (.cells (hd++ [bM 4 b' l']))=f9 S c b' hd l'∧(l'≠[]→(S.aC c (.cells (hd++ [bM 4 b' l']))) b'=none)∧a8 (S.aC c (.cells (hd++ [bM 4 b l]))) b' l' c=some (.cells (hd++ [bM 4 b l])):=by
 have hne:l'≠[]→c≠b':=fun h e=>by have:=hb h;rw[←e,aB.aP] at this;cases this
 refine⟨?_,fun h=>?_,?_⟩
 · rw[pV hne,c7];try rfl
 · have:=hb h
   rw[aB.aJ _ _ (c9 (hne h))] at this ⊢
   exact this
 · cases l' with
   | nil=>simp only[a8,aB.aP]
   | cons y l=>rw[pU (hne (by simp)),aB.aP]
theorem iA{S:aB}{c b x:Nat}{hd l:List AV}(hb:l≠[]→(S.aC c (.cells (hd++ [bM 4 b l]))) b=none)(hx:S x≠none)(hxc:x≠c):f9 S c b hd l x=S x:=by
 unfold f9
 cases l with
 | nil=>simp only[a8,aB.aJ _ _ hxc]
 | cons y l=>
  have h:=hb (by simp)
  have hne:x≠b:=fun e=>by
   rw[←e,aB.aJ _ _ hxc] at h
   exact hx h
  rw[pU hne,aB.aJ _ _ hxc]
theorem lB{S:aB}{c b x:Nat}{hd l:List AV}{o:AO}(hb:l≠[]→(S.aC c (.cells (hd++ [bM 4 b l]))) b=none)(hx:S x≠none)(hxc:x≠c):(f9 S c b hd l).aC x o=a8 ((S.aC c (.cells (hd++ [bM 4 b l]))).aC x o) b l∧(l≠[]→((S.aC c (.cells (hd++ [bM 4 b l]))).aC x o) b=none):=by
 have hne:l≠[]→x≠b:=fun h e=>by
  have:=hb h
  rw[←e,aB.aJ _ _ hxc] at this
  exact hx this
 refine⟨by unfold f9;rw[pV hne],fun h=>by rw[aB.aJ _ _ (c9 (hne h))];exact hb h⟩
theorem rI{S:aB}{c b x:Nat}{hd l:List AV}{o:AO}(hb:l≠[]→(S.aC c (.cells (hd++ [bM 4 b l]))) b=none)(hx:S x≠none)(hxc:x≠c) :
 (f9 S c b hd l).aC x o=f9 (S.aC x o) c b hd l∧(l≠[]→((S.aC x o).aC c (.cells (hd++ [bM 4 b l]))) b=none):=by
 have hne:l≠[]→x≠b:=fun h e=>by
  have:=hb h
  rw[←e,aB.aJ _ _ hxc] at this
  exact hx this
 refine⟨by unfold f9;rw[pV hne,aB.nL _ _ _ (c9 hxc)],fun h=>?_⟩
 have:=hb h
 rw[aB.nL _ _ _ hxc,aB.aJ _ _ (c9 (hne h))]
 exact this
theorem a36{S T:aB}{c b:Nat}{hd l:List AV}(D:aL (S.aC c (.cells (hd++ [bM 4 b l]))) T)(hb:l≠[]→(S.aC c (.cells (hd++ [bM 4 b l]))) b=none):aL (f9 S c b hd l) T:=
 D.a8 fun h=>(D b).1 (hb h)
theorem aB.yK{st:aB}{b c:Nat}{a z a':AO}(h:b≠c):((st.aC c a).aC b z).aC c a'=(st.aC b z).aC c a':=by rw[aB.nL _ _ _ (c9 h),c7]
theorem eD(l:List Tm):∀e∈l.map Tm.av,e.width=4:=by intro e h;simp only[cU] at h;obtain⟨t,_,rfl⟩:=h;exact aK t
theorem jJ(l:List Tm):∀e∈l.map Tm.av,e.cH=false:=by intro e h;simp only[cU] at h;obtain⟨t,_,rfl⟩:=h;exact cM t
end Go.AW
namespace Go.AW
open Go.Proofs.Tryz
mutual
def Tm.small:Tm→Bool
 | .mk _ _ _ ts=>decide (ts.length≤1048576)&&J5 ts
def J5:List Tm→Bool
 | []=>true
 | t::ts=>t.small&&J5 ts
end
theorem J6:∀(ts:List Tm),J5 ts=ts.all Tm.small
 | []=>rfl
 | t::ts=>by simp only[J5,lE,J6 ts]
theorem Tm.qO{k n:Int}{s:ByteArray}{ts:List Tm}(h:(Tm.mk k n s ts).small=true):ts.length≤1048576∧∀x∈ts,x.small=true:=by
 simpa [Tm.small,J6] using h
abbrev OR:=zi tI_3 (zi zI_3 (zi aZ (zi tI_31 (zi zI_31 (zi aO (zi bH (zi bJ (zi bZ (zi tI_66 (zi zI_66 (zi bS (zi bT (zi bU (zi bV bR))))))))))))))
theorem aPB(l:List Tm)(st:aB)(hb:l.length≤1048576)(hc:∀x∈l,∀(st:aB),aD prog 111 [Tm.av x] st (Made st (Tm.av x))) :
 aD prog 130 [.slice (l.map Tm.av)] st (Made st (.slice (l.map Tm.av))):=by
 have hws:∀e∈l.map Tm.av,e.width=4:=fun e he=>by simp only[cU] at he;obtain⟨t,_,rfl⟩:=he;exact aK t
 refine wF [] 1 func130 ntmps130 rfl rfl ?_
 intro _
 simp -implicitDefEqProofs only[aF,aA,seval,OR]
 refine eH (σ:=List AV×List Nat×Nat×aB) [] [2,6,7] l (fun i p=>wR (l.map Tm.av) st i p.1 p.2.1 p.2.2.1 p.2.2.2) (fun i p=>[(3,bM 4 p.2.2.1 p.1),(8,.int .i64 i)]) (fun _ p=>p.2.2.2) (by decide +kernel)
  ⟨([],[],0,st),wR.start,aN.mk (by simp -implicitDefEqProofs only[kB,aA,↓aX,seval])⟩ (fun i x p hx hlt bQ hdr hinv=>?_) (fun p hge hinv=>?_)
 case refine_2=>
  obtain⟨os,bs,b,s⟩:=p
  simp -implicitDefEqProofs only[hge,aA,seval]
  exact hinv.done (aF _) hws
 obtain⟨os,bs,b,s⟩:=p
 simp only at hinv
 have hw:=bE (n:=(i:Int)+1)
 have v7:∀zs:List AV,zs.length=4→aG zs 0 (Tm.av x).cells=(Tm.av x).cells:=fun zs h=>C6 (bY x) h
 simp -implicitDefEqProofs only[bQ,bO (av:=Tm.av) aO hx (aK x),a7,aK,bY,cB,c7,v7,aA,seval,OR]
 intro b2 hb2
 try simp -implicitDefEqProofs only[gZ,bY,fB (bY x),eX (a7 x),dB,v7,c7,cB,aA,↓aX,seval,OR]
 refine(hc x (cJ hx) _).mono ?_
 rintro r s2 ⟨bx,m1,m2,m3,m4⟩
 obtain⟨f1,f2,f3⟩:=m3.aYV (aK x) (cB x)
 have hra:r.isAgg=true:=by rw[(bG.shape m3).1,a7]
 have hrj:r.cH=false:=(bG.shape m3).2.2.1
 simp -implicitDefEqProofs only[f1,hra,hrj,aA,seval,OR]
 have hlen:os.length=i:=hinv.1
 have a2Q:∀e∈os,e.width=4:=fun e he=>by
  obtain⟨k,hk,rfl⟩:=List.getElem_of_mem he
  exact hinv.2.1.aTC (fun q hq=>hws q (lS hq)) _ he
 have hkb:os≠[]→s2 b=some (.cells (os.flatMap AV.cells)):=fun hne=>by
  have h:=(hinv.2.2.2.2.1 hne).2.2
  have hbx:b∉bx:=fun hq=>by
   have:=m2 b hq
   have IL:b≠b2:=fun e=>by rw[e,hb2] at h;cases h
   rw[aB.aJ _ _ IL,h] at this;cases this
  have IL:b≠b2:=fun e=>by rw[e,hb2] at h;cases h
  rw[m4 b hbx,aB.aJ _ _ IL,h]
 refine aT8 aO bH bJ rfl rfl (gA f1 f3) a2Q hkb (by simp only[aQ,bA,hlen];omega) (by simp only[aQ,bA,hlen];omega) (fun b' s' k1 k2 k3 k4=>?_)
 have jH:=hinv.step hb2 (show(l.map Tm.av)[i]?=some (Tm.av x) by rw[nO,hx];try rfl) m1 m2 m3 m4 (k1 (by simp)) (k2 (by simp)) (fun q h1 h2=>k3 q (fun _=>h1) h2) k4
 simp -implicitDefEqProofs only[hw,aA,seval]
 exact⟨(os++ [r],bs++bx,b',s'.erase b2),jH,aN.drop (jZ _ _) (by simp -implicitDefEqProofs only[aA,seval])⟩
abbrev aR7:=zi tI_31 (zi zI_31 (zi aO (zi bH (zi bJ (zi bZ (zi tI_66 (zi zI_66 (zi bS (zi bT (zi bU (zi bV bR)))))))))))
theorem aPA:∀(t:Tm) (st:aB),t.small=true→aD prog 111 [t.av] st (Made st t.av)
 | .mk k n s ts,st,hb=>by
  obtain⟨hb1,hb2⟩:=Tm.qO hb
  have hc:=fun st=>aPB ts st hb1 fun x hx st=>aPA x st (hb2 x hx)
  refine aD.UO ?_
  refine wF [1] 1 func111 ntmps111 rfl rfl ?_
  intro _
  simp only[aY]
  simp -implicitDefEqProofs only[aA,seval,aR7]
  intro b a1B b2 M5
  have hne:b2≠b:=by rintro rfl;rw[aB.aP] at M5;cases M5
  have hn2:st b2=none:=by rw[aB.aJ st _ hne] at M5;exact M5
  simp -implicitDefEqProofs only[gZ,hne.symm,aA,seval]
  refine(hc _).mono ?_
  rintro q s2 ⟨bs,m1,m2,m3,m4⟩
  have hbb:b∉bs:=fun h=>by have:=m2 b h;simp [gZ,hne.symm] at this
  have p9:b2∉bs:=fun h=>by have:=m2 b2 h;simp [gZ] at this
  have e1:=m4 b hbb
  have e2:=m4 b2 p9
  simp only[gZ,hne,hne.symm,gB,dI] at e1 e2
  have hqc:q.cells= [q]:=by have:=(bG.shape m3).1;cases q<;>first | rfl | simp [AV.isAgg] at this
  have hqs:q.storable=true:=by
   have:=m3
   simp only[bG] at this
   rcases this with ⟨_,rfl,_⟩ | ⟨_,_,_,_,rfl,_⟩<;>rfl
  simp -implicitDefEqProofs only[gZ,hne,e1,e2,hqc,hqs,aG,aA,seval,aR7]
  refine⟨[b,b2],bs,m1,fun x hx=>?_,?_,?_,?_⟩
  · have:=m2 x hx
    have h1:x≠b:=fun e=>hbb (e▸hx)
    have h2:x≠b2:=fun e=>p9 (e▸hx)
    simpa [gZ,h1,h2] using this
  · simp [a1B,hn2,hbb,p9]
  · rw[←aY]
    refine I7.2 ⟨q,rfl,bG.aV _ _ _ (fun x hx=>?_) m3⟩
    have h1:x≠b:=fun e=>hbb (e▸hx)
    have h2:x≠b2:=fun e=>p9 (e▸hx)
    simp only[gZ,h1,h2,dI]
  · intro x hx hd
    simp only[c8,dX,eC,pI] at hd
    simp only[gZ,hd.1,hd.2,dI]
    rw[m4 x hx]
    simp only[gZ,hd.1,hd.2,dI]
termination_by t=>SizeOf.sizeOf t
decreasing_by have:=List.sizeOf_lt_of_mem hx;simp only[Tm.mk.sizeOf_spec];omega
abbrev DA:=zi tI_3 (zi zI_3 (zi aZ (zi tI_9 (zi zI_9 (zi cF (zi tI_31 (zi zI_31 (zi aO (zi bH (zi bJ (zi bZ (zi tI_66 (zi zI_66 (zi bS (zi bT (zi bU (zi bV bR)))))))))))))))))
theorem BS:∀(t:Tm) (st:aB),t.small=true→aD prog 102 [t.av] st (fun r st'=>r=t.av∧st'=st)
 | .mk k n s ts,st,hsm=>by
  obtain⟨hlen,qE⟩:=Tm.qO hsm
  have IH:=fun(x:Tm) (hx:x∈ts) st=>BS x st (qE x hx)
  refine aD.sF (aD.fin ?_)
  simp only[aY]
  refine wF [] 1 func102 ntmps102 rfl rfl ?_
  simp only[d5,AV.fits,d9,aF]
  intro ⟨_,_,_,hl,_⟩
  simp -implicitDefEqProofs only[aA,seval,DA]
  intro b2 hb2 c hc
  have hne:c≠b2:=by rintro rfl;rw[aB.aP] at hc;cases hc
  have hn2:st c=none:=by rw[aB.aJ st _ hne] at hc;exact hc
  simp -implicitDefEqProofs only[aG,aA,seval]
  refine eH (σ:=Nat) [] [1,2,3] ts (fun i b=>(((ts.take i).map (fun y=>y)).map Tm.av≠[]→(aB.aC (st.aC b2 (.cells [AV.int .i64 0,AV.int .i64 0,AV.str ⟨#[]⟩,AV.fslice []])) c (.cells ([AV.int .i64 k,AV.int .i64 n,AV.str s]++ [bM 4 b (((ts.take i).map (fun y=>y)).map Tm.av)]))) b=none)) (fun i b=>[(4,.int .i64 i)]) (fun i b=>f9 (st.aC b2 (.cells [AV.int .i64 0,AV.int .i64 0,AV.str ⟨#[]⟩,AV.fslice []])) c b [AV.int .i64 k,AV.int .i64 n,AV.str s] (((ts.take i).map (fun y=>y)).map Tm.av)) (by decide +kernel)
   ⟨0,fun h=>absurd rfl h,aN.mk (by simp -implicitDefEqProofs only[aA,↓aX,seval])⟩ (fun i x b hx hlt bQ hdr hinv=>?_) (fun b hge hinv=>?_)
  case refine_1=>
   have hw:=bE (n:=(i:Int)+1)
   have dA:(((ts.take i).map (fun y=>y)).map Tm.av).length=i:=by simp only[aF,dQ];omega
   have htk:(ts.take (i+1)).map (fun y=>y)=(ts.take i).map (fun y=>y)++ [(fun y=>y) x]:=by rw[fS,hx];simp
   have hbo:=fA hinv
   simp -implicitDefEqProofs only[aF,bQ,aA,seval,DA]
   refine wP [(0,1),(2,1),(4,1),(1,2),(3,2),(5,1),(6,2),(7,2),(8,1),(9,0),(10,1),(11,0)] [0,2,4,1,3,5,6,7,8,10] mixed ?_
   simp -implicitDefEqProofs only[bO (av:=Tm.av) aO hx (aK x),a7,aK,hbo,mE,iJ,aA,seval,DA]
   refine iE (IH x (cJ hx) _) ?_
   simp -implicitDefEqProofs only[a7,aK,cM,iJ,aA,seval,DA]
   refine fG aO bH bJ rfl rfl (gA (aK _) (cB _)) (eD _) hinv (by simp only[dA,aQ,bA];omega) (by simp only[dA,aQ,bA];omega) (fun b' hb'=>?_)
   rw[show(((ts.take i).map (fun y=>y)).map Tm.av)++ [((fun y=>y) x).av]=((ts.take (i+1)).map (fun y=>y)).map Tm.av by rw[htk];simp] at hb' ⊢
   obtain⟨g1,g2,g3⟩:=pG hb'
   simp only[fQ,eS] at g1 g3
   simp -implicitDefEqProofs only[g3,m9,eP,aG,g1,hw,aA,seval,DA]
   exact⟨b',g2,aN.mk (by simp -implicitDefEqProofs only[aA,seval])⟩
  have hbo:=fA hinv
  rw[eN] at hinv hbo ⊢
  simp -implicitDefEqProofs only[aF,hge,aA,seval,DA]
  simp -implicitDefEqProofs only[hbo,aA,seval,DA]
  have oL:b2≠c:=c9 hne
  have hS:(st.aC b2 (.cells [AV.int .i64 0,AV.int .i64 0,AV.str ⟨#[]⟩,AV.fslice []])) b2≠none:=by rw[aB.aP];simp
  have h1:=iA hinv hS oL
  rw[aB.aP] at h1
  simp -implicitDefEqProofs only[h1,eP,aG,aA,seval]
  obtain⟨h2,h3⟩:=lB (o:=.cells [AV.int .i64 k,AV.int .i64 n,AV.str s,bM 4 b ((ts.map fun y=>y).map Tm.av)]) hinv hS oL
  refine⟨b,_,_,h2,h3,jJ _,⟨4,eD _⟩,?_,?_⟩
  · simp only[gJ,aW,aU,eT,jP,jE,List.map_id']
  · exact(((aL.refl _).aC hb2).aC hn2).aC hb2
termination_by t=>SizeOf.sizeOf t
decreasing_by have:=List.sizeOf_lt_of_mem hx;simp only[Tm.mk.sizeOf_spec];omega
end Go.AW
namespace Go.AW
def Tm.k:Tm→Int | .mk k _ _ _=>k
def Tm.n:Tm→Int | .mk _ n _ _=>n
def Tm.s:Tm→ByteArray | .mk _ _ s _=>s
def Tm.ts:Tm→List Tm | .mk _ _ _ ts=>ts
theorem Tm.eta(t:Tm):t=.mk t.k t.n t.s t.ts:=by cases t;rfl
def vr(n:Int):Tm:=.mk 1 n ⟨#[]⟩ []
mutual
def Tm.aM(f:Int→Tm):Tm→Tm
 | .mk k n s ts=>if k=1 then f n else .mk k n s (O3 f ts)
def O3(f:Int→Tm):List Tm→List Tm
 | []=>[]
 | t::ts=>t.aM f::O3 f ts
end
theorem aSI(f:Int→Tm):∀ts:List Tm,O3 f ts=ts.map (Tm.aM f)
 | []=>rfl
 | t::ts=>by simp only[O3,aW,aSI f ts]
theorem Tm.nS(f:Int→Tm){k n:Int}{s:ByteArray}{ts:List Tm}(h:k=1):(Tm.mk k n s ts).aM f=f n:=by simp only[Tm.aM,h,gB]
theorem Tm.mL(f:Int→Tm){k n:Int}{s:ByteArray}{ts:List Tm}(h:k≠1):(Tm.mk k n s ts).aM f=.mk k n s (ts.map (Tm.aM f)):=by simp only[Tm.aM,h,dI,aSI]
theorem x7(f:Int→Tm)(n:Int):(vr n).aM f=f n:=Tm.nS f rfl
mutual
def Tm.vl:Tm→List Int
 | .mk k n _ ts=>if k=1 then[n] else J7 ts
def J7:List Tm→List Int
 | []=>[]
 | t::ts=>t.vl++J7 ts
end
theorem aSR{v:Int}:∀ {ts:List Tm},v∈J7 ts↔∃t∈ts,v∈t.vl
 | []=>by simp [J7]
 | t::ts=>by simp [J7,aSR (ts:=ts)]
theorem Tm.oA{k n:Int}{s:ByteArray}{ts:List Tm}(h:k=1):(Tm.mk k n s ts).vl= [n]:=by simp only[Tm.vl,h,gB]
theorem Tm.mC{k n v:Int}{s:ByteArray}{ts:List Tm}(h:k≠1):v∈(Tm.mk k n s ts).vl↔∃t∈ts,v∈t.vl:=by simp only[Tm.vl,h,dI,aSR]
theorem A5(n:Int):(vr n).vl= [n]:=Tm.oA rfl
theorem Tm.ind{p:Tm→Prop}(h:∀k n s ts,(∀t∈ts,p t)→p (.mk k n s ts)):∀t,p t
 | .mk k n s ts=>h k n s ts fun t ht=>Tm.ind h t
termination_by t=>SizeOf.sizeOf t
decreasing_by have:=List.sizeOf_lt_of_mem ht;simp only[Tm.mk.sizeOf_spec];omega
theorem rJ{f g:Int→Tm}:∀(t:Tm),(∀v∈t.vl,f v=g v)→t.aM f=t.aM g:=by
 intro t
 induction t using Tm.ind with
 | h k n s ts ih=>
  intro h
  by_cases hk:k=1
  · rw[Tm.nS f hk,Tm.nS g hk];exact h n (by rw[Tm.oA hk];simp)
  · rw[Tm.mL f hk,Tm.mL g hk]
    congr 1
    exact mV fun x hx=>ih x hx fun v hv=>h v ((Tm.mC hk).2 ⟨x,hx,hv⟩)
theorem AA(f g:Int→Tm)(t:Tm):(t.aM f).aM g=t.aM fun v=>(f v).aM g:=by
 induction t using Tm.ind with
 | h k n s ts ih=>
  by_cases hk:k=1
  · rw[Tm.nS f hk,Tm.nS _ hk]
  · rw[Tm.mL f hk,Tm.mL g hk,Tm.mL _ hk,rW]
    congr 1
    exact mV fun x hx=>ih x hx
theorem A4{f:Int→Tm}{w:Int}(t:Tm):w∈(t.aM f).vl↔∃v∈t.vl,w∈(f v).vl:=by
 induction t using Tm.ind with
 | h k n s ts ih=>
  by_cases hk:k=1
  · rw[Tm.nS f hk,Tm.oA hk];simp
  · rw[Tm.mL f hk,Tm.mC hk]
    constructor
    · rintro⟨x,hx,hw⟩
      obtain⟨y,hy,rfl⟩:=cU.1 hx
      obtain⟨v,hv,hvw⟩:=(ih y hy).1 hw
      exact⟨v,(Tm.mC hk).2 ⟨y,hy,hv⟩,hvw⟩
    · rintro⟨v,hv,hw⟩
      obtain⟨y,hy,hvy⟩:=(Tm.mC hk).1 hv
      exact⟨_,cU.2 ⟨y,hy,rfl⟩,(ih y hy).2 ⟨v,hvy,hw⟩⟩
theorem a40{f:Int→Tm}{v:Int}:∀(t:Tm),v∈t.vl→(f v).nodes≤(t.aM f).nodes∧(t.k≠1→(f v).nodes<(t.aM f).nodes):=by
 intro t
 induction t using Tm.ind with
 | h k n s ts ih=>
  intro hv
  by_cases hk:k=1
  · rw[Tm.oA hk] at hv
    simp only[c8,dX,eC] at hv
    subst hv
    rw[Tm.nS f hk]
    exact⟨dB _,fun h=>absurd hk h⟩
  · obtain⟨x,hx,hvx⟩:=(Tm.mC hk).1 hv
    have h1:=(ih x hx hvx).1
    have h2:=yF (f:=Tm.nodes) (cU.2 ⟨x,hx,rfl⟩:x.aM f∈ts.map (Tm.aM f))
    rw[Tm.mL f hk,Tm.iI]
    omega
abbrev Sub:=Int→Option Tm
def Sub.set(σ:Sub)(n:Int)(t:Tm):Sub:=fun m=>if m=n then some t else σ m
def Sub.none:Sub:=fun _=>Option.none
structure Good (σ:Sub) (R:Int→Tm) (rk:Int→Nat) (B:Nat):Prop where
 yD:∀n,R n=match σ n with | some u=>u.aM R | .none=>vr n
 JB:∀n u,σ n=some u→∀w∈u.vl,rk w<rk n
 bd:∀n,rk n<B
def r7(θ:Int→Tm)(σ:Sub):Prop:=∀n u,σ n=some u→θ n=u.aM θ
section
variable {σ:Sub} {R R':Int→Tm} {rk rk':Int→Nat} {B B':Nat}
theorem Good.none:Good Sub.none vr (fun _=>0) 1:=⟨fun n=>rfl,fun n u h=>(by cases h),fun n=>Nat.zero_lt_one⟩
theorem Good.free(G:Good σ R rk B){n:Int}(h:σ n=.none):R n=vr n:=by rw[G.yD n,h]
theorem Good.bound(G:Good σ R rk B){n:Int}{u:Tm}(h:σ n=some u):R n=u.aM R:=by rw[G.yD n,h]
theorem Good.x6(G:Good σ R rk B):r7 R σ:=fun n u h=>G.bound h
theorem Good.ind(G:Good σ R rk B){p:Int→Prop}(h0:∀n,σ n=.none→p n)(h1:∀n u,σ n=some u→(∀w∈u.vl,p w)→p n):∀n,p n:=by
 intro n
 generalize hk:rk n=k
 induction k using Nat.strongRecOn generalizing n with
 | _ k ih=>
  cases h:σ n with
  | none=>exact h0 n h
  | some u=>exact h1 n u h fun w hw=>ih (rk w) (hk▸G.JB n u h w hw) w rfl
theorem Good.uniq(G:Good σ R rk B)(G':Good σ R' rk' B'):R=R':=by
 funext n
 refine G.ind (p:=fun n=>R n=R' n) (fun n h=>?_) (fun n u h ih=>?_) n
 · rw[G.free h,G'.free h]
 · rw[G.bound h,G'.bound h];exact rJ u ih
theorem Good.a0G(G:Good σ R rk B){θ:Int→Tm}(S:r7 θ σ)(n:Int):(R n).aM θ=θ n:=by
 refine G.ind (p:=fun n=>(R n).aM θ=θ n) (fun n h=>?_) (fun n u h ih=>?_) n
 · rw[G.free h,x7]
 · rw[G.bound h,AA,S n u h];exact rJ u ih
theorem Good.SU(G:Good σ R rk B){θ:Int→Tm}(S:r7 θ σ)(t:Tm):(t.aM R).aM θ=t.aM θ:=by
 rw[AA];exact rJ t fun v _=>G.a0G S v
theorem Good.canon(G:Good σ R rk B)(n:Int):(R n).aM vr=R n:=by
 refine G.ind (p:=fun n=>(R n).aM vr=R n) (fun n h=>?_) (fun n u h ih=>?_) n
 · rw[G.free h,x7]
 · rw[G.bound h,AA];exact rJ u ih
theorem Good.aYR(G:Good σ R rk B)(t:Tm):(t.aM R).aM vr=t.aM R:=by
 rw[AA];exact rJ t fun v _=>G.canon v
theorem Good.bind(G:Good σ R rk B){n:Int}{t:Tm}(hn:σ n=.none)(ho:n∉(t.aM R).vl) :
 ∃rk' B',Good (σ.set n t) (fun m=>(R m).aM fun v=>if v=n then t.aM R else vr v) rk' B':=by
 have key:(t.aM R).aM (fun v=>if v=n then t.aM R else vr v)=t.aM R:=by
  rw[rJ (g:=vr) (t.aM R) (fun v hv=>aE fun e=>ho (by rw[←e];exact hv)),G.aYR]
 refine⟨fun v=>if n∈(R v).vl then rk v+B else rk v,B+B,fun m=>?_,fun m u h w hw=>?_,fun m=>?_⟩
 · by_cases hm:m=n
   · subst hm
     simp only[Sub.set,gB]
     rw[G.free hn,x7,aH rfl]
     rw[←AA,key]
   · simp only[Sub.set,hm,dI]
     cases h:σ m with
     | none=>rw[G.free h,x7,aE hm]
     | some u=>rw[G.bound h,AA]
 · by_cases hm:m=n
   · subst hm
     simp only[Sub.set,gB,Option.some.injEq] at h
     subst h
     have hw':m∉(R w).vl:=fun h=>ho ((A4 t).2 ⟨w,hw,h⟩)
     have:m∈(R m).vl:=by rw[G.free hn,A5];simp
     have:=G.bd w
     simp only[hw',dI]
     rw[aH (by assumption)]
     omega
   · simp only[Sub.set,hm,dI] at h
     have h1:=G.JB m u h w hw
     by_cases hw':n∈(R w).vl
     · have:n∈(R m).vl:=by rw[G.bound h];exact(A4 u).2 ⟨w,hw,hw'⟩
       simp only[hw',this,gB];omega
     · simp only[hw',dI];split<;>omega
 · have:=G.bd m
   split<;>omega
end
open Classical in
noncomputable def rs(σ:Sub):Int→Tm:=if h:∃R rk B,Good σ R rk B then h.choose else vr
theorem Good.rs{σ:Sub}{R:Int→Tm}{rk:Int→Nat}{B:Nat}(G:Good σ R rk B):rs σ=R:=by
 unfold AW.rs
 have h:∃R rk B,Good σ R rk B:=⟨R,rk,B,G⟩
 rw[dif_pos h]
 obtain⟨rk',B',G'⟩:=h.choose_spec
 exact G'.uniq G
inductive gN (σ:Sub):Nat→Tm→Tm→Prop
 | stop {t:Tm} (h:t.k=1→σ t.n=none):gN σ 0 t t
 | go {f:Nat} {t u v:Tm} (h1:t.k=1) (h2:σ t.n=some u) (h3:gN σ f u v):gN σ (f+1) t v
theorem gN.det{σ:Sub}{f g:Nat}{t u v:Tm}(h:gN σ f t u):gN σ g t v→u=v:=by
 induction h generalizing g v with
 | stop h=>
  intro h'
  cases h' with
  | stop=>rfl
  | go h1 h2 h3=>rw[h h1] at h2;cases h2
 | go h1 h2 h3 ih=>
  intro h'
  cases h' with
  | stop h=>rw[h h1] at h2;cases h2
  | go h1' h2' h3'=>rw[h2] at h2';cases h2';exact ih h3'
theorem gN.total{σ:Sub}{R:Int→Tm}{rk:Int→Nat}{B:Nat}(G:Good σ R rk B)(t:Tm):∃f u,gN σ f t u:=by
 have key:∀n,∀t:Tm,t.k=1→t.n=n→∃f u,gN σ f t u:=by
  intro n
  refine G.ind (p:=fun n=>∀t:Tm,t.k=1→t.n=n→∃f u,gN σ f t u) (fun n h t hk hn=>?_) (fun n u h ih t hk hn=>?_) n
  · exact⟨0,t,.stop fun _=>by rw[hn,h]⟩
  · by_cases hu:u.k=1
    · have:u.n∈u.vl:=by rw[Tm.eta u,Tm.oA hu];simp [Tm.n]
      obtain⟨f,v,hv⟩:=ih u.n this u hu rfl
      exact⟨f+1,v,.go hk (by rw[hn,h]) hv⟩
    · exact⟨1,u,.go hk (by rw[hn,h]) (.stop fun h=>absurd h hu)⟩
 by_cases hk:t.k=1
 · exact key t.n t hk rfl
 · exact⟨0,t,.stop fun h=>absurd h hk⟩
theorem Tm.GC{t:Tm}(h:t.k=1):t.vl= [t.n]:=by cases t;exact Tm.oA h
theorem Tm.FD{t:Tm}(f:Int→Tm)(h:t.k=1):t.aM f=f t.n:=by cases t;exact Tm.nS f h
theorem Tm.rK{t:Tm}(f:Int→Tm)(h:t.k≠1):t.aM f=.mk t.k t.n t.s (t.ts.map (Tm.aM f)):=by cases t;exact Tm.mL f h
theorem gN.end{σ:Sub}{f:Nat}{t u:Tm}(h:gN σ f t u):u.k=1→σ u.n=none:=by induction h with | stop h=>exact h | go _ _ _ ih=>exact ih
theorem gN.aM{σ:Sub}{θ:Int→Tm}(S:r7 θ σ){f:Nat}{t u:Tm}(h:gN σ f t u):u.aM θ=t.aM θ:=by
 induction h with
 | stop=>rfl
 | go h1 h2 _ ih=>rw[ih,Tm.FD θ h1,S _ _ h2]
theorem gN.JB{σ:Sub}{R:Int→Tm}{rk:Int→Nat}{B:Nat}(G:Good σ R rk B){f:Nat}{t u:Tm}(h:gN σ f t u):∀w∈u.vl,∃v∈t.vl,rk w≤rk v∧(f≠0→rk w<rk v):=by
 induction h with
 | stop h=>exact fun w hw=>⟨w,hw,dB _,fun h=>absurd rfl h⟩
 | @go f t u v h1 h2 _ ih=>
  intro w hw
  obtain⟨x,hx,hle,_⟩:=ih w hw
  have:=G.JB _ _ h2 x hx
  exact⟨t.n,by rw[Tm.GC h1];simp,by omega,fun _=>by omega⟩
theorem gN.all{σ:Sub}{p:Tm→Prop}(hp:∀n u,σ n=some u→p u){f:Nat}{t u:Tm}(h:gN σ f t u)(ht:p t):p u:=by
 induction h with
 | stop=>exact ht
 | go _ h2 _ ih=>exact ih (hp _ _ h2)
open Classical in
noncomputable def wk(σ:Sub)(t:Tm):Tm:=if h:∃u f,gN σ f t u then h.choose else t
theorem gN.wk{σ:Sub}{f:Nat}{t u:Tm}(h:gN σ f t u):wk σ t=u:=by
 unfold AW.wk
 have h':∃u f,gN σ f t u:=⟨u,f,h⟩
 rw[dif_pos h']
 obtain⟨g,hg⟩:=h'.choose_spec
 exact hg.det h
theorem Good.wk{σ:Sub}{R:Int→Tm}{rk:Int→Nat}{B:Nat}(G:Good σ R rk B)(t:Tm):∃f,gN σ f t (wk σ t):=by
 obtain⟨f,u,h⟩:=gN.total G t
 exact⟨f,by rw[h.wk];exact h⟩
open Classical in
noncomputable def kQ(σ:Sub)(n:Int)(t:Tm):Bool×Sub×List Int:=if n∈(t.aM (rs σ)).vl then(false,σ,[]) else(true,σ.set n t,[n])
open Classical in
def qA(a b:Tm):Bool:=decide (a.k=b.k)&&decide (a.n=b.n)&&decide (a.s=b.s)&&decide (a.ts.length=b.ts.length)
mutual
noncomputable def dD:Nat→Sub→Tm→Tm→Option (Bool×Sub×List Int)
 | 0,_,_,_=>none
 | g+1,σ,a,b=>
  if(wk σ a).k=1∧(wk σ b).k=1∧(wk σ a).n=(wk σ b).n then some (true,σ,[])
  else if(wk σ a).k=1 then some (kQ σ (wk σ a).n (wk σ b))
  else if(wk σ b).k=1 then some (kQ σ (wk σ b).n (wk σ a))
  else if qA (wk σ a) (wk σ b)=true then eE g σ (wk σ a).ts (wk σ b).ts
  else some (false,σ,[])
termination_by g=>(g,0)
noncomputable def eE:Nat→Sub→List Tm→List Tm→Option (Bool×Sub×List Int)
 | g,σ,a::xs,b::ys=>match dD g σ a b with
  | none=>none
  | some (false,σ',tr)=>some (false,σ',tr)
  | some (true,σ',tr)=>match eE g σ' xs ys with
   | none=>none
   | some (r,σ'',tr')=>some (r,σ'',tr++tr')
 | _,σ,_,_=>some (true,σ,[])
termination_by g _ xs=>(g,xs.length+1)
end
theorem KC{g:Nat}{σ σ':Sub}{a b:Tm}{r:Bool}{add:List Int}(h:dD (g+1) σ a b=some (r,σ',add)) :
 ((wk σ a).k=1∧(wk σ b).k=1∧(wk σ a).n=(wk σ b).n∧true=r∧σ=σ'∧[]=add) ∨
 ((wk σ a).k=1∧¬((wk σ b).k=1∧(wk σ a).n=(wk σ b).n)∧kQ σ (wk σ a).n (wk σ b)=(r,σ',add)) ∨
 ((wk σ a).k≠1∧(wk σ b).k=1∧kQ σ (wk σ b).n (wk σ a)=(r,σ',add)) ∨
 ((wk σ a).k≠1∧(wk σ b).k≠1∧qA (wk σ a) (wk σ b)=true∧eE g σ (wk σ a).ts (wk σ b).ts=some (r,σ',add)) ∨
 ((wk σ a).k≠1∧(wk σ b).k≠1∧qA (wk σ a) (wk σ b)=false∧false=r∧σ=σ'∧[]=add):=by
 rw[dD] at h
 split at h
 · rename_i h1;exact .inl ⟨h1.1,h1.2.1,h1.2.2,by simpa using h⟩
 · rename_i h1
   split at h
   · rename_i h2;exact .inr (.inl ⟨h2,fun h3=>h1 ⟨h2,h3⟩,lL h⟩)
   · rename_i h2
     split at h
     · rename_i h3;exact .inr (.inr (.inl ⟨h2,h3,lL h⟩))
     · rename_i h3
       split at h
       · rename_i h4;exact .inr (.inr (.inr (.inl ⟨h2,h3,h4,h⟩)))
       · rename_i h4;exact .inr (.inr (.inr (.inr ⟨h2,h3,by simpa using h4,by simpa using h⟩)))
theorem Tm.soft(t:Tm):t.av.soft=t.av:=by cases t;simp [aY,AV.soft,iL]
theorem Tm.xL(t:Tm)(b:Nat):t.av.fin b []=t.av:=Tm.soft t
abbrev Bd:=Int×Tm
def aM1:List Bd→Int→Option Tm
 | [],_=>none
 | (m,x)::r,n=>if m=n then some x else aM1 r n
def V3(bs:List Bd)(n:Int):Tm:=(aM1 bs n).getD (vr n)
def Tm.zero:Tm:=.mk 0 0 ⟨#[]⟩ []
mutual
def Tm.cv:Tm→Bool
 | .mk k _ s ts=>(!decide (k=1)||(decide (s=⟨#[]⟩)&&ts.isEmpty))&&OY ts
def OY:List Tm→Bool
 | []=>true
 | t::ts=>t.cv&&OY ts
end
theorem aSF:∀(ts:List Tm),OY ts=ts.all Tm.cv
 | []=>rfl
 | t::ts=>by simp only[OY,lE,aSF ts]
theorem Tm.oZ{k n:Int}{s:ByteArray}{ts:List Tm}:(Tm.mk k n s ts).cv=true↔(k=1→s=⟨#[]⟩∧ts= [])∧∀x∈ts,x.cv=true:=by
 simp only[Tm.cv,aSF,cK,rU,iX,cP,List.isEmpty_iff,eW,bL]
 constructor
 · exact fun h=>⟨fun hk=>h.1.resolve_left (fun hn=>hn hk),h.2⟩
 · intro h
   refine⟨?_,h.2⟩
   by_cases hk:k=1
   · exact .inr (h.1 hk)
   · exact .inl hk
theorem Tm.vP:∀(t:Tm),t.cv=true→t.wf=true:=by
 intro t
 induction t using Tm.ind with
 | h k n s ts ih=>
  intro h
  obtain⟨h1,h2⟩:=Tm.oZ.1 h
  simp only[Tm.wf,W7,cK,rU,iX,cP,List.isEmpty_iff,eW]
  refine⟨?_,fun x hx=>ih x hx (h2 x hx)⟩
  by_cases hk:k=1
  · exact .inr (h1 hk).2
  · exact .inl hk
theorem Tm.a6S:∀(t:Tm) (d:Int),t.shape d=true→t.small=true:=by
 intro t
 induction t using Tm.ind with
 | h k n s ts ih=>
  intro d h
  rw[Tm.FT] at h
  simp only[cK,eW] at h
  obtain⟨⟨_,h1⟩,h2⟩:=h
  simp only[Tm.small,J6,cK,bL,eW]
  refine⟨?_,fun x hx=>ih x hx _ (h2 x hx)⟩
  unfold eU at h1
  cases h3:decide (k=1)<;>rw[h3] at h1
  · cases h4:decide (k=2)<;>rw[h4] at h1
    · cases h5:decide (k=3)<;>rw[h5] at h1<;>simp at h1;omega
    · simp at h1;rw[h1.2];simp
  · simp at h1;rw[h1.2];simp
theorem Tm.a9B{t:Tm}(h:t.valid=true):t.small=true:=by simp only[Tm.valid,cK] at h;exact Tm.a6S t 30 h.1
def pD{α:Type}(p:α→Bool):List α→Int→Int
 | [],_=> -1
 | x::xs,i=>if p x=true then i else pD p xs (i+1)
theorem UL{α:Type}(p:α→Bool):∀(l:List α) (i:Int),0≤i→(pD p l i= -1∧l.any p=false)∨∃(j:Nat) (x:α),pD p l i=i+j∧l[j]?=some x∧p x=true∧l.any p=true∧∀(k:Nat) y,k<j→l[k]?=some y→p y=false
 | [],i,_=>.inl ⟨rfl,rfl⟩
 | x::xs,i,h=>by
  by_cases hp:p x=true
  · exact .inr ⟨0,x,by simp [pD,hp],rfl,hp,by simp [hp],fun k y hk=>absurd hk (Nat.not_lt_zero k)⟩
  · rcases UL p xs (i+1) (by omega) with ⟨h1,h2⟩ | ⟨j,y,h1,h2,h3,h4,h5⟩
    · exact .inl ⟨by simp [pD,hp,h1],by simp [hp,h2]⟩
    · refine .inr ⟨j+1,y,by simp only[pD,hp,h1];simp;omega,by simpa using h2,h3,by simp [h4],fun k z hk hz=>?_⟩
      cases k with
      | zero=>simp at hz;subst hz;simpa using hp
      | succ k=>exact h5 k z (by omega) (by simpa using hz)
theorem a3N{α:Type}(p:α→Bool)(l:List α):decide (0≤pD p l 0)=l.any p:=by
 rcases UL p l 0 (Int.le_refl 0) with ⟨h1,h2⟩ | ⟨j,y,h1,_,_,h4,_⟩
 · rw[h1,h2];try rfl
 · rw[h1,h4];simp
end Go.AW
namespace Go.AW
open Go.Proofs.Tryz
abbrev a7Y:=zi tI_3 (zi zI_3 (zi aZ (zi tI_4 (zi zI_4 (zi cG (zi tI_9 (zi zI_9 (zi cF (zi tI_31 (zi zI_31 (zi aO (zi bH (zi bJ (zi bZ (zi tI_66 (zi zI_66 (zi bS (zi bT (zi bU (zi bV bR))))))))))))))))))))
theorem aWU(k n:Int)(s:ByteArray)(ts:List Tm)(st:aB):aD prog 262 [(Tm.mk k n s ts).av] st (fun r st'=>r=.bool (eU k n s ts.length)∧st'=st):=by
 refine wF [] 1 func262 ntmps262 rfl rfl ?_
 intro _
 simp only[aY]
 have hl:(ts.map Tm.av).length=ts.length:=aF _
 repeat' (first
  | (simp -implicitDefEqProofs only[*,aA,seval,a7Y])
  | (refine cS (fun h=>?_) (fun h=>?_))
  | (refine(aYH s st).to ?_)
  | (refine aS (fun h=>?_) (fun h=>?_)))
 all_goals simp only[eU, *,cond_true,BW,nM,fP,iF,uY,DM]
abbrev OE:=zi tI_3 (zi zI_3 (zi aZ (zi tI_4 (zi zI_4 (zi cG (zi tI_31 (zi zI_31 (zi aO (zi bH (zi bJ (zi bZ (zi tI_66 (zi zI_66 (zi bS (zi bT (zi bU (zi bV bR)))))))))))))))))
theorem aAG:∀(t:Tm) (d:Int) (st:aB),d≤30→-1≤d→aD prog 193 [t.av,.int .i64 d] st (fun r st'=>r=.bool (t.shape d)∧st'=st)
 | .mk k n s ts,d,st,hd,hd0=>by
  have hc:=fun(x:Tm) (hx:x∈ts) d st h h0=>aAG x d st h h0
  have h1:=aWU k n s ts st
  rw[aY] at h1
  refine wF [] 2 func193 ntmps193 rfl rfl ?_
  simp only[aY,d5,AV.fits,d9,aF,Tm.FT]
  intro ⟨_,_,_,hl,_⟩
  generalize eU k n s ts.length=z at *
  simp -implicitDefEqProofs only[aA,seval,OE]
  refine cS (fun h=>?_) (fun h=>?_)
  case refine_2=>
   simp -implicitDefEqProofs only[h,aA,seval]
   simp only[oU,bL] at h
   simp;omega
  simp -implicitDefEqProofs only[h,aA,seval,OE]
  refine h1.to ?_
  simp -implicitDefEqProofs only[aA,seval]
  refine⟨fun h2=>?_,fun h2=>?_⟩
  · simp -implicitDefEqProofs only[aA,seval]
    simp only[iX] at h2
    simp [h2]
  simp only[mD,cP] at h2 h
  subst h2
  have hw:=bE (n:=d - 1)
  rw[show decide (1≤d)=true by simp;omega]
  simp -implicitDefEqProofs only[aA,seval]
  refine pP (α:=Nat) [] (fun i=>i≤ts.length∧∀(j:Nat) x,j<i→ts[j]?=some x→x.shape (d - 1)=true)
   (fun i=>[(1,.int .i64 d),(2,.pptr (.agg [.int .i64 k,.int .i64 n,.str s,.slice (ts.map Tm.av)])),(5,.int .i64 i)]) (fun _=>st) (fun i=>ts.length - i) (by decide +kernel)
   ⟨0,⟨by omega,by intro j x h;omega⟩,aN.mk (by simp -implicitDefEqProofs only[aA,↓aX,seval])⟩ ?_
  intro i ⟨hi,dN⟩
  simp -implicitDefEqProofs only[aF,aA,seval,OE]
  refine⟨fun h5=>?_,fun h5=>?_⟩
  case refine_2=>
   simp -implicitDefEqProofs only[aA,seval]
   simp only[cP,iY] at h5
   rw[LD fun j x hx=>dN j x (by have:=(fR.1 hx).1;omega) hx]
  simp only[bL,iY] at h5
  obtain⟨x,hx⟩:∃x,ts[i]?=some x:=⟨_,dZ h5⟩
  simp -implicitDefEqProofs only[bO (av:=Tm.av) aO hx (aK x),a7,aK,hw,aA,seval,OE]
  refine(hc x (cJ hx) (d - 1) st (by omega) (by omega)).to ?_
  simp -implicitDefEqProofs only[aA,seval]
  refine⟨fun h6=>?_,fun h6=>?_⟩
  · simp -implicitDefEqProofs only[aA,seval]
    simp only[iX] at h6
    rw[w7 hx h6]
  simp only[mD] at h6
  simp -implicitDefEqProofs only[aA,seval]
  refine⟨i+1,by omega,⟨by omega,fun j u hj hu=>?_⟩,aN.mk ?_⟩
  · rcases kX j i with h8 | h8
    · exact dN j u h8 hu
    · obtain rfl:j=i:=by omega
      rw[hx] at hu;cases hu;exact h6
  · have:=bE (n:=(i:Int)+1)
    simp -implicitDefEqProofs only[this,aA,seval]
termination_by t=>SizeOf.sizeOf t
decreasing_by have:=List.sizeOf_lt_of_mem hx;simp only[Tm.mk.sizeOf_spec];omega
abbrev WI:=zi tI_3 (zi zI_3 (zi aZ (zi tI_31 (zi zI_31 (zi aO (zi bH (zi bJ (zi bZ (zi tI_66 (zi zI_66 (zi bS (zi bT (zi bU (zi bV bR))))))))))))))
theorem aAC:∀(t:Tm) (m:Int) (st:aB),0≤m→m≤120→aD prog 194 [t.av,.int .i64 m] st (fun r st'=>r=.int .i64 (min (t.nodes:Int) (m+1))∧st'=st)
 | .mk k n s ts,m,st,hm0,hm=>by
  have hc:=fun(x:Tm) (hx:x∈ts) m st h h0=>aAC x m st h h0
  refine wF [] 2 func194 ntmps194 rfl rfl ?_
  simp only[aY,d5,AV.fits,d9,aF,Tm.iI]
  intro ⟨_,_,_,hl,_⟩
  simp -implicitDefEqProofs only[aA,seval,WI]
  refine pP (α:=Nat) [] (fun i=>i≤ts.length)
   (fun i=>[(1,.int .i64 m),(2,.pptr (.agg [.int .i64 k,.int .i64 n,.str s,.slice (ts.map Tm.av)])),(5,.int .i64 (min ((1+aR Tm.nodes (ts.take i):Nat):Int) (m+1))),(6,.int .i64 i)]) (fun _=>st) (fun i=>ts.length - i) (by decide +kernel)
   ⟨0,by omega,aN.mk (by simp -implicitDefEqProofs only[j9,aR,show min ((0:Int)+1) (m+1)=1 by omega,B0,↓KK,↓reduceIte,reduceCtorEq,Nat.reduceEqDiff,Nat.reduceAdd])⟩ ?_
  intro i hi
  simp -implicitDefEqProofs only[aF,aA,seval,WI]
  have TO:¬i<ts.length→aR Tm.nodes (ts.take i)=aR Tm.nodes ts:=fun h=>by rw[lT (by omega)]
  refine cS (fun h5=>?_) (fun h5=>?_)
  case refine_2=>
   simp -implicitDefEqProofs only[h5,aA,seval]
   simp only[nM,cP,iY] at h5
   rw[TO h5]
  simp -implicitDefEqProofs only[h5,aA,seval]
  simp only[bL,iY] at h5
  obtain⟨x,hx⟩:∃x,ts[i]?=some x:=⟨_,dZ h5⟩
  have hs:=yG Tm.nodes hx
  refine⟨fun h6=>?_,fun h6=>?_⟩
  case refine_2=>
   simp -implicitDefEqProofs only[aA,seval]
   simp only[cP] at h6
   simp only[AV.int.injEq,rQ]
   omega
  simp only[bL] at h6
  have e6:min (((1+aR Tm.nodes (ts.take i):Nat):Int)) (m+1)=((1+aR Tm.nodes (ts.take i):Nat):Int):=by omega
  rw[e6] at h6 ⊢
  have hw:=bE (n:=m - ((1+aR Tm.nodes (ts.take i):Nat):Int))
  simp -implicitDefEqProofs only[bO (av:=Tm.av) aO hx (aK x),a7,aK,hw,aA,seval,WI]
  refine(hc x (cJ hx) _ st (by omega) (by omega)).to ?_
  have hw2:=bE (n:=((1+aR Tm.nodes (ts.take i):Nat):Int)+min (x.nodes:Int) (m - ((1+aR Tm.nodes (ts.take i):Nat):Int)+1))
  simp -implicitDefEqProofs only[hw2,aA,seval]
  refine⟨i+1,by omega,by omega,aN.mk ?_⟩
  have:=bE (n:=(i:Int)+1)
  simp -implicitDefEqProofs only[this,show((1+aR Tm.nodes (ts.take i):Nat):Int)+min (x.nodes:Int) (m - ((1+aR Tm.nodes (ts.take i):Nat):Int)+1)=min ((1+aR Tm.nodes (ts.take (i+1)):Nat):Int) (m+1) by omega,aA,seval]
termination_by t=>SizeOf.sizeOf t
decreasing_by have:=List.sizeOf_lt_of_mem hx;simp only[Tm.mk.sizeOf_spec];omega
abbrev aRN:=zi tI_3 (zi zI_3 (zi aZ (zi tI_4 (zi zI_4 (zi cG (zi tI_66 (zi zI_66 (zi bS (zi bT (zi bU (zi bV bR)))))))))))
theorem RV(t:Tm)(st:aB):aD prog 117 [t.av] st (fun r st'=>r=.bool t.valid∧st'=st):=by
 refine wF [] 1 func117 ntmps117 rfl rfl ?_
 intro _
 simp -implicitDefEqProofs only[cM,a7,aK,aA,seval,aRN]
 refine(aAG t 30 st (by omega) (by omega)).to ?_
 simp -implicitDefEqProofs only[aA,seval]
 refine cS (fun h=>?_) (fun h=>?_)
 · simp -implicitDefEqProofs only[h,a7,aK,aA,seval,aRN]
   refine(aAC t 120 st (by omega) (by omega)).to ?_
   simp -implicitDefEqProofs only[aA,seval]
   simp only[Tm.valid,h,fP,AV.bool.injEq,BX]
   omega
 · simp -implicitDefEqProofs only[h,aA,seval]
   simp at h
   simp [Tm.valid,h]
abbrev a7X:=zi tI_3 (zi zI_3 (zi aZ (zi tI_4 (zi zI_4 (zi cG (zi tI_9 (zi zI_9 (zi cF (zi tI_31 (zi zI_31 (zi aO (zi bH (zi bJ (zi bZ (zi tI_66 (zi zI_66 (zi bS (zi bT (zi bU (zi bV bR))))))))))))))))))))
theorem RK(k n:Int)(s:ByteArray)(ts:List Tm)(st:aB):aD prog 269 [(Tm.mk k n s ts).av] st (fun r st'=>r=.bool (decide (k=3)&&decide (s=⟨#[33]⟩)&&decide ((ts.length:Int)=0))∧st'=st):=by
 refine wF [] 1 func269 ntmps269 rfl rfl ?_
 intro _
 simp only[aY]
 repeat' (first
  | (simp -implicitDefEqProofs only[*,aA,seval,a7X])
  | (refine cS (fun h=>?_) (fun h=>?_))
  | (refine aS (fun h=>?_) (fun h=>?_)))
 all_goals simp only[*,aF,iF]
abbrev aRM:=zi tI_4 (zi zI_4 (zi cG (zi tI_9 (zi zI_9 (zi cF (zi tI_66 (zi zI_66 (zi bS (zi bT (zi bU (zi bV bR)))))))))))
theorem Z7(k n:Int)(s:ByteArray)(ts:List Tm)(st:aB):aD prog 122 [(Tm.mk k n s ts).av] st (fun r st'=>r=.bool (decide (k=3)&&decide ((ts.length:Int)=0)&&decide (s=⟨#[33]⟩))∧st'=st):=by
 have h1:=HF k n s ts st
 rw[aY] at h1
 refine wF [] 1 func122 ntmps122 rfl rfl ?_
 intro _
 simp only[aY]
 simp -implicitDefEqProofs only[aA,seval,aRM]
 refine h1.to ?_
 clear h1
 repeat' (first
  | (simp -implicitDefEqProofs only[*,aA,seval,aRM])
  | (refine cS (fun h=>?_) (fun h=>?_))
  | (refine aS (fun h=>?_) (fun h=>?_)))
 all_goals simp_all
abbrev aRL:=zi tI_3 (zi zI_3 (zi aZ (zi tI_4 (zi zI_4 (zi cG (zi tI_9 (zi zI_9 (zi cF (zi tI_31 (zi zI_31 (zi aO (zi bH (zi bJ (zi bZ (zi tI_66 (zi zI_66 (zi bS (zi bT (zi bU (zi bV bR))))))))))))))))))))
theorem RB(k n:Int)(s:ByteArray)(ts:List Tm)(st:aB):aD prog 121 [(Tm.mk k n s ts).av] st (fun r st'=>r=.bool (decide (k=3)&&isBuiltin s (ts.length:Int))∧st'=st):=by
 have h1:=aWC s ts.length st
 refine wF [] 1 func121 ntmps121 rfl rfl ?_
 intro _
 simp only[aY]
 simp -implicitDefEqProofs only[aA,seval,aRL]
 refine cS (fun h=>?_) (fun h=>?_)
 · simp -implicitDefEqProofs only[h,aF,aA,seval,aRL]
   refine h1.to ?_
   clear h1
   simp -implicitDefEqProofs only[aA,seval]
 · simp -implicitDefEqProofs only[h,aA,seval]
   simp at h
   simp []
def rN(k:Int)(s:ByteArray)(len:Int):Bool:=decide (k=3)&&uM s&& !isBuiltin s len&&decide ((dU s:Int)=0)
abbrev a7V:=zi tI_3 (zi zI_3 (zi aZ (zi tI_4 (zi zI_4 (zi cG (zi tI_9 (zi zI_9 (zi cF (zi tI_66 (zi zI_66 (zi bS (zi bT (zi bU (zi bV bR))))))))))))))
theorem Z9(k n:Int)(s:ByteArray)(ts:List Tm)(st:aB):aD prog 120 [(Tm.mk k n s ts).av] st (fun r st'=>r=.bool (rN k s (ts.length:Int))∧st'=st):=by
 have h1:=RB k n s ts st
 rw[aY] at h1
 have e:decide ((0:Int)<(dU s:Int))= !decide ((dU s:Int)=0):=by
  by_cases h:dU s=0
  · simp [h]
  · simp [h];omega
 have e3:∀b:Bool,k=3→(decide (k=3)&&b)=b:=fun b h=>by simp [h]
 refine wF [] 1 func120 ntmps120 rfl rfl ?_
 intro _
 simp only[aY]
 repeat' (first
  | (simp -implicitDefEqProofs only[*,aA,seval,a7V])
  | (refine cS (fun h=>?_) (fun h=>?_))
  | (refine(Z8 s st).to ?_) | (refine(aWJ s st).to ?_) | (refine h1.to ?_)
  | (refine aS (fun h=>?_) (fun h=>?_)))
 all_goals (clear h1;simp_all [rN])
abbrev a7U:=zi tI_3 (zi zI_3 (zi aZ (zi tI_4 (zi zI_4 (zi cG (zi tI_9 (zi zI_9 (zi cF (zi tI_31 (zi zI_31 (zi aO (zi bH (zi bJ (zi bZ (zi tI_66 (zi zI_66 (zi bS (zi bT (zi bU (zi bV bR))))))))))))))))))))
theorem aAQ(k n:Int)(s:ByteArray)(ts:List Tm)(st:aB):aD prog 118 [(Tm.mk k n s ts).av] st (fun r st'=>r=.bool (rN k s (ts.length:Int))∧st'=st):=by
 refine wF [] 1 func118 ntmps118 rfl rfl ?_
 intro _
 simp only[aY]
 have hl:(ts.map Tm.av).length=ts.length:=aF _
 repeat' (first
  | (simp -implicitDefEqProofs only[*,aA,seval,a7U])
  | (refine cS (fun h=>?_) (fun h=>?_))
  | (refine(aAJ s st).to ?_) | (refine(LY s _ st).to ?_) | (refine(xD s st).to ?_)
  | (refine aS (fun h=>?_) (fun h=>?_)))
 all_goals simp_all [rN]
def zY(k:Int)(s:ByteArray)(len:Int):Bool:=(decide (k=3)&&decide (s=⟨#[33]⟩)&&decide (len=0))||rN k s len||(decide (k=3)&&isBuiltin s len)
abbrev a7W:=zi tI_3 (zi zI_3 (zi aZ (zi tI_4 (zi zI_4 (zi cG (zi tI_9 (zi zI_9 (zi cF (zi tI_31 (zi zI_31 (zi aO (zi bH (zi bJ (zi bZ (zi tI_66 (zi zI_66 (zi bS (zi bT (zi bU (zi bV bR))))))))))))))))))))
theorem aXD(k n:Int)(s:ByteArray)(ts:List Tm)(st:aB):aD prog 235 [(Tm.mk k n s ts).av] st (fun r st'=>r=.bool (zY k s (ts.length:Int))∧st'=st):=by
 have h1:=RK k n s ts st
 have h2:=aAQ k n s ts st
 rw[aY] at h1 h2
 refine wF [] 1 func235 ntmps235 rfl rfl ?_
 intro _
 simp only[aY]
 have hl:(ts.map Tm.av).length=ts.length:=aF _
 unfold zY
 generalize (decide (k=3)&&decide (s=⟨#[33]⟩)&&decide ((ts.length:Int)=0))=z1 at *
 generalize rN k s (ts.length:Int)=z2 at *
 repeat' (first
  | (simp -implicitDefEqProofs only[*,aA,seval,a7W])
  | (refine cS (fun h=>?_) (fun h=>?_))
  | (refine h1.to ?_) | (refine h2.to ?_) | (refine(LY s _ st).to ?_)
  | (refine aS (fun h=>?_) (fun h=>?_)))
 all_goals (clear h1 h2;simp_all)
theorem XJ{st:aB}{b:Nat}{o:AO}(h:st b=some o):st.aC b o=st:=by
 funext x;simp only[aB.aC];split
 · rename_i e;rw[e,h]
 · rfl
def JJ(ok:Bool)(c n:Int)(b:Nat)(st:aB)(r:AV)(st':aB):Prop:=
 ∃c',r=.bool (decide (c+n≤120)&&ok)∧st'=st.aC b (.cells [.int .i64 c'])∧((decide (c+n≤120)&&ok)=true→c'=c+n)
abbrev a7Z:=zi tI_3 (zi zI_3 (zi aZ (zi tI_4 (zi zI_4 (zi cG (zi tI_66 (zi zI_66 (zi bS (zi bT (zi bU (zi bV (zi bR (zi tI_202 zI_202)))))))))))))
theorem aYF(x:Tm)(d c:Int)(b:Nat)(st:aB)(hd: -1000≤d)(hd1:d≤1000)
 (h:aD prog 192 [x.av,.int .i64 (d+1),.ptr b 0] st (JJ (x.shape (30 - d)) c x.nodes b st)) :
 aD prog 261 [x.av,.pptr (.int .i64 d),.pptr (.ptr b 0)] st (fun r st'=>∃c',r=.bool (!(decide (c+x.nodes≤120)&&x.shape (30 - d)))∧st'=st.aC b (.cells [.int .i64 c'])∧((decide (c+(x.nodes:Int)≤120)&&x.shape (30 - d))=true→c'=c+x.nodes)):=by
 have hw:=bE (n:=d+1)
 refine wF [] 3 func261 ntmps261 rfl rfl ?_
 intro _
 simp -implicitDefEqProofs only[hw,cM,a7,aK,aA,seval,a7Z]
 refine h.mono ?_
 rintro _ _ ⟨c',rfl,rfl,hc⟩
 simp -implicitDefEqProofs only[aA,seval]
 refine⟨c',?_⟩
 first | exact hc | exact⟨rfl,rfl,hc⟩ | exact⟨rfl,hc⟩ | trace_state
abbrev aRO:=zi tI_3 (zi zI_3 (zi aZ (zi tI_31 (zi zI_31 (zi aO (zi bH (zi bJ (zi bZ (zi tI_66 (zi zI_66 (zi bS (zi bT (zi bU (zi bV bR))))))))))))))
theorem aVO(l:List Tm)(d c:Int)(b:Nat)(st:aB)(hd: -1000≤d)(hd1:d≤1000)(hb:st b=some (.cells [.int .i64 c]))(hc0:0≤c)(hc1:c≤120)
 (h:∀x∈l,∀(c:Int) (st:aB),st b=some (.cells [.int .i64 c])→0≤c→c≤120→aD prog 192 [x.av,.int .i64 (d+1),.ptr b 0] st (JJ (x.shape (30 - d)) c x.nodes b st)) :
 aD prog 218 [.slice (l.map Tm.av),.func 261 [.pptr (.int .i64 d),.pptr (.ptr b 0)]] st
  (fun r st'=>∃j c',r=.int .i64 j∧decide (0≤j)=(!(decide (c+(aR Tm.nodes l:Int)≤120)&&l.all fun t=>t.shape (30 - d)))∧st'=st.aC b (.cells [.int .i64 c'])∧(decide (0≤j)=false→c'=c+(aR Tm.nodes l:Int))):=by
 refine wF [] 2 func218 ntmps218 rfl rfl ?_
 simp only[d5,AV.fits,d9,aF]
 intro ⟨hl,_⟩
 simp -implicitDefEqProofs only[aF,aA,seval,aRO]
 refine pP (α:=Nat) [] (fun i=>i≤l.length∧c+(aR Tm.nodes (l.take i):Int)≤120∧∀(j:Nat) x,j<i→l[j]?=some x→x.shape (30 - d)=true)
  (fun i=>[(0,.slice (l.map Tm.av)),(1,.func 261 [.pptr (.int .i64 d),.pptr (.ptr b 0)]),(7,.int .i64 l.length),(8,.int .i64 i)]) (fun i=>st.aC b (.cells [.int .i64 (c+(aR Tm.nodes (l.take i):Int))])) (fun i=>l.length - i) (by decide +kernel)
  ⟨0,⟨by omega,by simp only[j9,aR];omega,by intro j x h;omega⟩,by
   simp only[j9,aR]
   rw[show c+((0:Nat):Int)=c by omega,XJ hb]
   exact aN.mk (by simp -implicitDefEqProofs only[aA,↓aX,seval])⟩ ?_
 intro i ⟨hi,z8,dN⟩
 simp -implicitDefEqProofs only[aA,seval]
 refine⟨fun h5=>?_,fun h5=>?_⟩
 case refine_2=>
  simp -implicitDefEqProofs only[aA,seval]
  simp only[cP,iY] at h5
  rw[lT (by omega)] at z8 ⊢
  have ha:(l.all fun t=>t.shape (30 - d))=true:=LD fun j x hx=>dN j x (by have:=(fR.1 hx).1;omega) hx
  exact⟨-1,_,rfl,by rw[ha];simp<;>omega,rfl,fun _=>rfl⟩
 simp only[bL,iY] at h5
 obtain⟨x,hx⟩:∃x,l[i]?=some x:=⟨_,dZ h5⟩
 have hs:=yG Tm.nodes hx
 simp -implicitDefEqProofs only[bO (av:=Tm.av) aO hx (aK x),a7,aK,aA,seval,aRO]
 refine(aYF x d (c+(aR Tm.nodes (l.take i):Int)) b _ hd hd1 (h x (cJ hx) _ _ (aB.aP _ _ _) (by omega) z8)).mono ?_
 rintro _ _ ⟨c',rfl,rfl,hc'⟩
 simp -implicitDefEqProofs only[c7,aA,seval]
 refine⟨fun h6=>?_,fun h6=>?_⟩
 · simp -implicitDefEqProofs only[aA,seval]
   refine⟨i,c',rfl,?_,rfl,fun h7=>absurd h7 (by simp)⟩
   simp only[iX,Bool.and_eq_false_iff,cP] at h6
   rcases h6 with h6 | h6
   · rw[show decide (c+(aR Tm.nodes l:Int)≤120)=false by simp;omega]
     simp
   · rw[w7 hx h6]
     simp
 simp only[mD] at h6
 rw[hc' h6]
 simp only[cK,bL] at h6
 simp -implicitDefEqProofs only[aA,seval]
 refine⟨i+1,by omega,⟨by omega,by omega,fun j u hj hu=>?_⟩,?_⟩
 · rcases kX j i with h8 | h8
   · exact dN j u h8 hu
   · obtain rfl:j=i:=by omega
     rw[hx] at hu;cases hu;exact h6.2
 · rw[show c+(aR Tm.nodes (l.take i):Int)+(x.nodes:Int)=c+(aR Tm.nodes (l.take (i+1)):Int) by omega]
   have:=bE (n:=(i:Int)+1)
   exact aN.mk (by simp -implicitDefEqProofs only[this,aA,seval])
theorem aVF(l:List Tm)(d c:Int)(b:Nat)(st:aB)(hd: -1000≤d)(hd1:d≤1000)(hb:st b=some (.cells [.int .i64 c]))(hc0:0≤c)(hc1:c≤120)
 (h:∀x∈l,∀(c:Int) (st:aB),st b=some (.cells [.int .i64 c])→0≤c→c≤120→aD prog 192 [x.av,.int .i64 (d+1),.ptr b 0] st (JJ (x.shape (30 - d)) c x.nodes b st)) :
 aD prog 147 [.slice (l.map Tm.av),.func 261 [.pptr (.int .i64 d),.pptr (.ptr b 0)]] st
  (fun r st'=>∃c',r=.bool (!(decide (c+(aR Tm.nodes l:Int)≤120)&&l.all fun t=>t.shape (30 - d)))∧st'=st.aC b (.cells [.int .i64 c'])∧((decide (c+(aR Tm.nodes l:Int)≤120)&&l.all fun t=>t.shape (30 - d))=true→c'=c+(aR Tm.nodes l:Int))):=by
 have h1:=aVO l d c b st hd hd1 hb hc0 hc1 h
 refine wF [] 2 func147 ntmps147 rfl rfl ?_
 intro _
 simp -implicitDefEqProofs only[aA,seval]
 refine h1.mono ?_
 rintro _ _ ⟨j,c',rfl,hj,rfl,hc⟩
 simp -implicitDefEqProofs only[aA,seval]
 refine⟨c',by rw[hj],rfl,fun h=>hc (by rw[hj,h];try rfl)⟩
abbrev AU:=zi tI_3 (zi zI_3 (zi aZ (zi tI_4 (zi zI_4 (zi cG (zi tI_9 (zi zI_9 (zi cF (zi tI_31 (zi zI_31 (zi aO (zi bH (zi bJ (zi bZ (zi tI_66 (zi zI_66 (zi bS (zi bT (zi bU (zi bV (zi bR (zi tI_202 zI_202))))))))))))))))))))))
theorem aA2:∀(t:Tm) (d c:Int) (b:Nat) (st:aB),st b=some (.cells [.int .i64 c])→0≤c→c≤120→0≤d→d≤31→aD prog 192 [t.av,.int .i64 d,.ptr b 0] st (JJ (t.shape (31 - d)) c t.nodes b st)
 | .mk k n s ts,d,c,b,st,hb,hc0,hc1,hd0,hd1=>by
  have hk:=fun(st:aB) (hb:st b=some (.cells [.int .i64 (c+1)])) (h1:c+1≤120) (h2:d≤30)=>aVF ts d (c+1) b st (by omega) (by omega) hb (by omega) h1 fun x hx c st hb hc0 hc1=>by
   have:=aA2 x (d+1) c b st hb hc0 hc1 (by omega) (by omega)
   rw[show(31:Int) - (d+1)=30 - d by omega] at this
   exact this
  have hw:=bE (n:=c+1)
  unfold JJ
  rw[Tm.iI,Tm.FT]
  refine wF [] 3 func192 ntmps192 rfl rfl ?_
  simp only[aY,d5,AV.fits,d9,aF]
  intro ⟨_,_,_,hl,_⟩
  simp -implicitDefEqProofs only[hb,aG,hw,aA,seval,AU]
  have hL:(ts.map Tm.av).length=ts.length:=aF _
  have iP:∀(v:Bool),v=(decide (c+((1+aR Tm.nodes ts:Nat):Int)≤120)&&(decide (1≤31 - d)&&eU k n s ts.length&&ts.all fun t=>t.shape (31 - d - 1)))→(v=true→ts= []) →
   ∃c',AV.bool v=AV.bool (decide (c+((1+aR Tm.nodes ts:Nat):Int)≤120)&&(decide (1≤31 - d)&&eU k n s ts.length&&ts.all fun t=>t.shape (31 - d - 1)))∧st.aC b (.cells [.int .i64 (c+1)])=st.aC b (.cells [.int .i64 c'])∧((decide (c+((1+aR Tm.nodes ts:Nat):Int)≤120)&&(decide (1≤31 - d)&&eU k n s ts.length&&ts.all fun t=>t.shape (31 - d - 1)))=true→c'=c+((1+aR Tm.nodes ts:Nat):Int)):=
   fun v h1 h2=>⟨c+1,by rw[h1],rfl,fun h3=>by rw[h2 (h1.trans h3)];simp [aR]⟩
  refine cS (fun h1=>?_) (fun h1=>?_)
  case refine_2=>
   simp -implicitDefEqProofs only[h1,aA,seval]
   simp only[oU,bL] at h1
   refine iP false ?_ (by intro h;cases h)
   rw[show decide (c+((1+aR Tm.nodes ts:Nat):Int)≤120)=false by simp;omega]
   try rfl
  simp -implicitDefEqProofs only[h1,aA,seval,AU]
  refine⟨fun h2=>?_,fun h2=>?_⟩
  · simp -implicitDefEqProofs only[aA,seval]
    simp only[bL] at h2
    refine iP false ?_ (by intro h;cases h)
    rw[show decide (1≤31 - d)=false by simp;omega]
    simp
  simp only[cP] at h1 h2
  rw[show decide (1≤31 - d)=true by simp;omega] at iP ⊢
  simp only[fP] at iP ⊢
  rw[show 31 - d - 1=30 - d by omega] at iP ⊢
  -- no kids
  have aNY:∀q:Bool,(∀h:ts= [],eU k n s ts.length=q)→(ts≠[]→eU k n s ts.length=false)→(q&&decide ((ts.length:Int)=0))=(decide (c+((1+aR Tm.nodes ts:Nat):Int)≤120)&&(eU k n s ts.length&&ts.all fun t=>t.shape (30 - d))):=by
   intro q hq1 hq2
   by_cases ht:ts= []
   · rw[hq1 ht];subst ht
     have e:c+((1+aR Tm.nodes []:Nat):Int)≤120:=by simp only[aR];omega
     rw[g8 e]
     simp
   · rw[hq2 ht]
     have:¬(ts.length:Int)=0:=by intro h;exact ht (oB (by omega))
     rw[gG this]
     simp
  simp -implicitDefEqProofs only[aA,seval,AU]
  refine aS (fun hk1=>?_) (fun hk1=>?_)
  · simp only[bL] at hk1
    subst hk1
    simp -implicitDefEqProofs only[aA,seval,AU]
    refine(EC _ _ _ _).to ?_
    repeat' (first
     | (simp -implicitDefEqProofs only[*,aA,seval,AU])
     | (refine cS (fun h=>?_) (fun h=>?_))
     | (refine aS (fun h=>?_) (fun h=>?_)))
    all_goals first
     | (refine iP false ?_ (by intro h;cases h);rw[show eU 1 n s ts.length=false by first | (simp only[eU, *,nM,iF,uY];done) | (simp_all [eU];done) | (simp_all [eU];intro a e;have:=h a;omega)];simp;done)
     | (refine iP _ ?_ (fun h=>oB (by simpa using h));rw[←aNY true (fun h=>by simp_all [eU]) (fun h=>by simp [eU,h])];simp;done)
  simp only[cP] at hk1
  simp -implicitDefEqProofs only[aA,seval]
  refine aS (fun hk2=>?_) (fun hk2=>?_)
  · simp only[bL] at hk2
    subst hk2
    simp -implicitDefEqProofs only[aA,seval,AU]
    refine(EC _ _ _ _).to ?_
    repeat' (first
     | (simp -implicitDefEqProofs only[*,aA,seval,AU])
     | (refine cS (fun h=>?_) (fun h=>?_))
     | (refine aS (fun h=>?_) (fun h=>?_)))
    all_goals first
     | (refine iP false ?_ (by intro h;cases h);rw[show eU 2 n s ts.length=false by first | (simp only[eU, *,nM,iF,uY];done) | (simp_all [eU];done) | (simp_all [eU];intro a e;have:=h a;omega)];simp;done)
     | (refine iP _ ?_ (fun h=>oB (by simpa using h));rw[←aNY true (fun h=>by simp_all [eU]) (fun h=>by simp [eU,h])];simp;done)
  simp only[cP] at hk2
  simp -implicitDefEqProofs only[aA,seval]
  refine aS (fun hk3=>?_) (fun hk3=>?_)
  case refine_2=>
   simp only[cP] at hk3
   simp -implicitDefEqProofs only[aA,seval]
   refine iP false ?_ (by intro h;cases h)
   rw[show eU k n s ts.length=false by simp [eU,hk1,hk2,hk3]]
   simp
  simp only[bL] at hk3
  subst hk3
  have hk':=fun st hb=>hk st hb (by omega) (by omega)
  clear hk
  repeat' (first
   | (simp -implicitDefEqProofs only[*,aA,seval,AU])
   | (refine cS (fun h=>?_) (fun h=>?_))
   | (refine(aWD s _).to ?_)
   | (refine aS (fun h=>?_) (fun h=>?_)))
  all_goals first
   | (refine iP false ?_ (by intro h;cases h);rw[show eU 3 n s ts.length=false by(simp_all [eU];done)];simp;done)
   | skip
  refine(hk' _ (aB.aP _ _ _)).mono ?_
  rintro _ _ ⟨c',rfl,rfl,hc'⟩
  simp -implicitDefEqProofs only[c7,aA,seval]
  have ho:eU 3 n s ts.length=true:=by simp_all [eU]
  rw[ho,show c+((1+aR Tm.nodes ts:Nat):Int)=c+1+(aR Tm.nodes ts:Int) by omega]
  simp only[fP,Bool.not_not]
  first | exact⟨c',trivial,rfl,hc'⟩ | exact⟨c',rfl,rfl,hc'⟩
termination_by t=>SizeOf.sizeOf t
decreasing_by have:=List.sizeOf_lt_of_mem hx;simp only[Tm.mk.sizeOf_spec];omega
abbrev a70:=zi tI_3 (zi zI_3 (zi aZ (zi tI_4 (zi zI_4 (zi cG (zi tI_66 (zi zI_66 (zi bS (zi bT (zi bU (zi bV (zi bR (zi tI_202 zI_202)))))))))))))
theorem Z5(t:Tm)(st:aB):aD prog 108 [t.av] st (fun r st'=>r=.bool t.valid∧st'=st):=by
 have hd:aD prog 108 [t.av] st (fun r st'=>aL st' st∧r=.bool t.valid):=by
  refine wF [] 1 func108 ntmps108 rfl rfl ?_
  intro _
  simp -implicitDefEqProofs only[cM,a7,aK,aA,seval,a70]
  intro b hb
  simp -implicitDefEqProofs only[aG,aA,seval]
  refine(aA2 t 1 0 b _ (aB.aP _ _ _) (by omega) (by omega) (by omega) (by omega)).mono ?_
  rintro _ _ ⟨c',rfl,rfl,_⟩
  simp -implicitDefEqProofs only[c7,B0,↓reduceIte]
  refine⟨(aL.refl st).aC hb,?_⟩
  simp only[Tm.valid,AV.bool.injEq]
  rw[Bool.and_comm,show(31:Int) - 1=30 from rfl]
  congr 1
  simp only[BX]
  omega
 exact hd.drop
def Tm.goal:Tm→Bool
 | .mk k n s ts=>(Tm.mk k n s ts).valid&&zY k s ts.length
abbrev aRP:=zi tI_4 (zi zI_4 (zi cG (zi tI_66 (zi zI_66 (zi bS (zi bT (zi bU (zi bV bR))))))))
theorem aA4:∀(t:Tm) (st:aB),aD prog 156 [t.av] st (fun r st'=>r=.bool t.goal∧st'=st)
 | .mk k n s ts,st=>by
  have h1:=RV (.mk k n s ts) st
  have h2:=aXD k n s ts st
  rw[show(Tm.mk k n s ts).goal=((Tm.mk k n s ts).valid&&zY k s ts.length) from rfl]
  generalize (Tm.mk k n s ts).valid=z at *
  rw[aY] at *
  refine wF [] 1 func156 ntmps156 rfl rfl ?_
  intro _
  simp -implicitDefEqProofs only[aA,seval,aRP]
  refine h1.to ?_
  simp -implicitDefEqProofs only[aA,seval]
  refine cS (fun h=>?_) (fun h=>?_)
  · simp -implicitDefEqProofs only[h,aA,seval,aRP]
    refine h2.to ?_
    simp -implicitDefEqProofs only[aA,seval]
  · simp -implicitDefEqProofs only[h,aA,seval]
    simp at h
    simp []
abbrev a71:=zi tI_4 (zi zI_4 (zi cG (zi tI_66 (zi zI_66 (zi bS (zi bT (zi bU (zi bV bR))))))))
theorem aWB:∀(t:Tm) (st:aB),aD prog 49 [t.av] st (fun r st'=>r=.bool t.goal∧st'=st)
 | .mk k n s ts,st=>by
  have h1:=Z5 (.mk k n s ts) st
  have h2:=Z9 k n s ts st
  have h3:=RB k n s ts st
  have h4:=Z7 k n s ts st
  rw[show(Tm.mk k n s ts).goal=((Tm.mk k n s ts).valid&&zY k s ts.length) from rfl]
  unfold zY
  generalize (Tm.mk k n s ts).valid=z at *
  generalize rN k s (ts.length:Int)=z2 at *
  generalize (decide (k=3)&&isBuiltin s (ts.length:Int))=z3 at *
  rw[show(decide (k=3)&&decide (s=⟨#[33]⟩)&&decide ((ts.length:Int)=0))=(decide (k=3)&&decide ((ts.length:Int)=0)&&decide (s=⟨#[33]⟩)) from by cases decide (k=3)<;>cases decide (s=⟨#[33]⟩)<;>cases decide ((ts.length:Int)=0)<;>rfl]
  generalize (decide (k=3)&&decide ((ts.length:Int)=0)&&decide (s=⟨#[33]⟩))=z4 at *
  rw[aY] at *
  refine wF [] 1 func49 ntmps49 rfl rfl ?_
  intro _
  repeat' (first
   | (simp -implicitDefEqProofs only[*,aA,seval,a71])
   | (refine cS (fun h=>?_) (fun h=>?_))
   | (refine h1.to ?_) | (refine h2.to ?_) | (refine h3.to ?_) | (refine h4.to ?_)
   | (refine aS (fun h=>?_) (fun h=>?_)))
  all_goals (clear h1 h2 h3 h4;simp_all)
abbrev aR6:=zi tI_3 (zi zI_3 (zi aZ (zi tI_31 (zi zI_31 (zi aO (zi bH (zi bJ (zi bZ (zi tI_66 (zi zI_66 (zi bS (zi bT (zi bU (zi bV bR))))))))))))))
theorem aVL(l:List Tm)(g:FuncId)(dT:List AV)(p:Tm→Bool)(st:aB)(hc:∀x∈l,aD prog g ([Tm.av x]++dT) st (fun r st'=>r=.bool (p x)∧st'=st)) :
 aD prog 218 [.slice (l.map Tm.av),.func g dT] st (fun r st'=>∃j:Int,r=.int .i64 j∧decide (0≤j)=l.any p∧st'=st):=by
 refine wF [] 2 func218 ntmps218 rfl rfl ?_
 simp only[d5,AV.fits,d9,aF]
 intro ⟨hl,_⟩
 simp -implicitDefEqProofs only[aF,aA,seval,aR6]
 refine eH (σ:=Unit) [] [0,1,7] l (fun i _=>(l.drop i).any p=l.any p) (fun i _=>[(8,.int .i64 i)]) (fun _ _=>st) (by decide +kernel) ⟨(),rfl,aN.mk (by simp -implicitDefEqProofs only[aA,↓aX,seval])⟩ (fun i x _ hx hlt bQ hdr hinv=>?_) (fun _ hge hinv=>?_)
 case refine_2=>
  simp -implicitDefEqProofs only[hge,aA,seval]
  rw[j8] at hinv
  exact⟨-1,rfl,by rw[←hinv];try rfl⟩
 rw[hdr,DP] at hinv
 have hw:=bE (n:=(i:Int)+1)
 simp -implicitDefEqProofs only[bQ,bO (av:=Tm.av) aO hx (aK x),a7,aK,aA,seval,aR6]
 refine(hc x (cJ hx)).to ?_
 simp -implicitDefEqProofs only[aA,seval]
 refine aS (fun h=>?_) (fun h=>?_)
 · simp -implicitDefEqProofs only[aA,seval]
   exact⟨i,rfl,by rw[←hinv,h];simp⟩
 · rw[h,rT] at hinv
   simp -implicitDefEqProofs only[aA,seval]
   exact⟨(),hinv,aN.mk (by simp -implicitDefEqProofs only[hw,aA,seval])⟩
theorem aVB(l:List Tm)(g:FuncId)(dT:List AV)(p:Tm→Bool)(st:aB)(hc:∀x∈l,aD prog g ([Tm.av x]++dT) st (fun r st'=>r=.bool (p x)∧st'=st)) :
 aD prog 147 [.slice (l.map Tm.av),.func g dT] st (fun r st'=>r=.bool (l.any p)∧st'=st):=by
 refine wF [] 2 func147 ntmps147 rfl rfl ?_
 intro _
 simp -implicitDefEqProofs only[aA,seval]
 refine(aVL l g dT p st hc).mono ?_
 rintro _ _ ⟨j,rfl,hj,rfl⟩
 simp -implicitDefEqProofs only[hj,aA,seval]
theorem QT{α:Type}(p:α→Bool):∀l:List α,(!(l.any fun x=> !p x))=l.all p
 | []=>rfl
 | x::l=>by rw[DP,lE,←QT p l];cases p x<;>simp
abbrev a8C:=zi tI_4 (zi zI_4 (zi cG (zi tI_66 (zi zI_66 (zi bS (zi bT (zi bU (zi bV bR))))))))
theorem aV8(t:Tm)(st:aB):aD prog 282 [t.av] st (fun r st'=>r=.bool (!t.goal)∧st'=st):=by
 refine wF [] 1 func282 ntmps282 rfl rfl ?_
 intro _
 simp -implicitDefEqProofs only[cM,a7,aK,aA,seval,a8C]
 refine(aWB t st).to ?_
 simp -implicitDefEqProofs only[aA,seval]
def nH(l:List Tm):Bool:=decide (l.length≤6)&&l.all Tm.goal
abbrev a8B:=zi tI_3 (zi zI_3 (zi aZ (zi tI_4 (zi zI_4 (zi cG (zi tI_31 (zi zI_31 (zi aO (zi bH (zi bJ bZ))))))))))
theorem Z1(l:List Tm)(st:aB):aD prog 216 [.slice (l.map Tm.av)] st (fun r st'=>r=.bool (nH l)∧st'=st):=by
 refine wF [] 1 func216 ntmps216 rfl rfl ?_
 simp only[d5,AV.fits,d9,aF]
 intro _
 unfold nH
 simp -implicitDefEqProofs only[aF,aA,seval,a8B]
 refine cS (fun h=>?_) (fun h=>?_)
 · simp only[bL] at h
   rw[show decide (l.length≤6)=true by simp;omega]
   simp -implicitDefEqProofs only[h,aA,seval]
   refine(aVB l _ [] (fun t=> !t.goal) st fun x _=>aV8 x st).to ?_
   simp -implicitDefEqProofs only[QT,aA,seval]
 · simp only[nM,cP] at h
   rw[show decide (l.length≤6)=false by simp;omega]
   simp -implicitDefEqProofs only[h,aA,seval]
   rfl
theorem aWF(l:List Tm)(st:aB):aD prog 150 [.slice (l.map Tm.av)] st (fun r st'=>r=.bool (nH l)∧st'=st):=by
 refine wF [] 1 func150 ntmps150 rfl rfl ?_
 intro _
 simp -implicitDefEqProofs only[aA,seval]
 refine(Z1 l st).to ?_
 simp -implicitDefEqProofs only[aA,seval]
abbrev OQ:=zi tI_3 (zi zI_3 (zi aZ (zi tI_4 (zi zI_4 (zi cG (zi tI_31 (zi zI_31 (zi aO (zi bH (zi bJ (zi bZ (zi tI_66 (zi zI_66 (zi bS (zi bT (zi bU (zi bV bR)))))))))))))))))
theorem aA5(l:List Tm)(st:aB):aD prog 71 [.slice (l.map Tm.av)] st (fun r st'=>r=.bool (nH l)∧st'=st):=by
 refine wF [] 1 func71 ntmps71 rfl rfl ?_
 simp only[d5,AV.fits,d9,aF]
 intro ⟨hl,_⟩
 simp -implicitDefEqProofs only[aA,seval]
 refine eH (σ:=Unit) [] [0] l (fun i _=>i≤7∧(l.take i).all Tm.goal=true) (fun i _=>[(3,.int .i64 i)]) (fun _ _=>st) (by decide +kernel) ⟨(),⟨by omega,by simp⟩,aN.mk (by simp -implicitDefEqProofs only[aA,↓aX,seval])⟩ (fun i x _ hx hlt bQ hdr hinv=>?_) (fun _ hge hinv=>?_)
 case refine_2=>
  obtain⟨i1,i2⟩:=hinv
  rw[eN] at i2
  simp -implicitDefEqProofs only[aF,hge,aA,seval,OQ]
  simp only[nH,i2,DM,AV.bool.injEq,BX]
  omega
 obtain⟨i1,i2⟩:=hinv
 have hw:=bE (n:=(i:Int)+1)
 simp -implicitDefEqProofs only[aF,bQ,aA,seval,OQ]
 refine aS (fun h=>?_) (fun h=>?_)
 case refine_2=>
  simp only[cP] at h
  simp -implicitDefEqProofs only[aF,aA,seval,OQ]
  simp only[nH,AV.bool.injEq]
  rw[show decide (l.length≤6)=false by simp;omega,show decide ((l.length:Int)≤6)=false by simp;omega]
  try rfl
 simp only[bL] at h
 simp -implicitDefEqProofs only[bO (av:=Tm.av) aO hx (aK x),a7,aK,aA,seval,OQ]
 refine(aA4 x st).to ?_
 simp -implicitDefEqProofs only[aA,seval]
 refine aS (fun h2=>?_) (fun h2=>?_)
 · simp only[iX] at h2
   simp -implicitDefEqProofs only[aA,seval]
   have:l.all Tm.goal=false:=w7 hx h2
   simp only[nH,this,uY]
 · simp only[mD] at h2
   simp -implicitDefEqProofs only[aA,seval]
   refine⟨(),⟨by omega,?_⟩,aN.mk (by simp -implicitDefEqProofs only[hw,aA,seval])⟩
   rw[fS,hx,DO,i2]
   simp [h2]
abbrev bBT:=zi tI_3 (zi zI_3 (zi aZ (zi tI_70 (zi zI_70 (zi aZM (zi aZL (zi aZO (zi a8W (zi tI_129 (zi zI_129 (zi a0B (zi a0C aUS))))))))))))
abbrev a8D:=zi tI_3 (zi zI_3 (zi aZ (zi tI_66 (zi zI_66 (zi bS (zi bT (zi bU (zi bV bR))))))))
theorem R5(n:Int)(st:aB):aD prog 116 [.int .i64 n] st (fun r st'=>r=(vr n).av∧st'=st):=by
 refine aD.done ?_
 refine wF [1000000] 1 func116 ntmps116 rfl rfl ?_
 intro _
 simp -implicitDefEqProofs only[aA,seval,a8D]
 intro b hb
 simp -implicitDefEqProofs only[aG,aA,seval]
 exact⟨by simp only[vr,aY,eG,d7,mR,nX,aW,aU,aU],(aL.refl _).aC hb⟩
abbrev wJ:=zi tI_3 (zi zI_3 (zi aZ (zi tI_31 (zi zI_31 (zi aO (zi bH (zi bJ (zi bZ (zi tI_66 (zi zI_66 (zi bS (zi bT (zi bU (zi bV bR))))))))))))))
theorem RP(f:Int→Tm)(g:FuncId)(dT:List AV)(E2:lJ dT=true):∀(t:Tm) (st:aB),t.small=true→(∀n∈t.vl,∀s,aD prog g (.int .i64 n::dT) s (fun r s'=>r=(f n).av∧s'=s)) →
 aD prog 112 [t.av,.func g dT] st (fun r st'=>r=(t.aM f).av∧st'=st)
 | .mk k n s ts,st,hsm,hg=>by
  obtain⟨hlen,qE⟩:=Tm.qO hsm
  have IH:=fun(x:Tm) (hx:x∈ts) st h=>RP f g dT E2 x st (qE x hx) h
  refine aD.sF (aD.fin ?_)
  simp only[aY]
  refine wF [1000000,2] 2 func112 ntmps112 rfl rfl ?_
  simp only[d5,AV.fits,d9,aF]
  intro ⟨_,_,_,hl,_⟩
  simp -implicitDefEqProofs only[aA,seval,wJ]
  intro c hc b2 hb2
  have hne:b2≠c:=by rintro rfl;rw[aB.aP] at hb2;cases hb2
  have hn2:st b2=none:=by rw[aB.aJ st _ hne] at hb2;exact hb2
  simp -implicitDefEqProofs only[hne.symm,aA,seval]
  refine aS (fun h=>?_) (fun h=>?_)
  · simp only[bL] at h
    subst h
    simp -implicitDefEqProofs only[hne.symm,aA,seval,wJ]
    refine(hg n (by rw[Tm.oA rfl];simp) _).to ?_
    simp -implicitDefEqProofs only[aA,seval,wJ]
    refine⟨0,[],_,rfl,by simp,by simp,⟨4,by simp⟩,by rw[Tm.xL,Tm.nS f rfl],?_⟩
    exact((aL.refl _).aC hc).aC hn2
  simp only[cP] at h
  have hg':∀x∈ts,∀v∈x.vl,∀s,aD prog g (.int .i64 v::dT) s (fun r s'=>r=(f v).av∧s'=s):=fun x hx v hv=>hg v ((Tm.mC h).2 ⟨x,hx,hv⟩)
  simp -implicitDefEqProofs only[hne.symm,aG,aF,aA,seval,wJ]
  rw[aB.yK hne]
  refine eH (σ:=Nat) [1000000] [1,2,4,18,19] ts (fun i b=>(((ts.take i).map (Tm.aM f)).map Tm.av≠[]→(aB.aC (st.aC b2 (.cells [AV.int .i64 0,AV.int .i64 0,AV.str ⟨#[]⟩,AV.fslice []])) c (.cells ([AV.int .i64 k,AV.int .i64 n,AV.str s]++ [bM 4 b (((ts.take i).map (Tm.aM f)).map Tm.av)]))) b=none)) (fun i b=>[(20,.int .i64 i)]) (fun i b=>f9 (st.aC b2 (.cells [AV.int .i64 0,AV.int .i64 0,AV.str ⟨#[]⟩,AV.fslice []])) c b [AV.int .i64 k,AV.int .i64 n,AV.str s] (((ts.take i).map (Tm.aM f)).map Tm.av)) (by decide +kernel)
   ⟨0,fun h=>absurd rfl h,aN.mk (by simp -implicitDefEqProofs only[aA,↓aX,seval])⟩ (fun i x b hx hlt bQ hdr hinv=>?_) (fun b hge hinv=>?_)
  case refine_1=>
   have hw:=bE (n:=(i:Int)+1)
   have dA:(((ts.take i).map (Tm.aM f)).map Tm.av).length=i:=by simp only[aF,dQ];omega
   have htk:(ts.take (i+1)).map (Tm.aM f)=(ts.take i).map (Tm.aM f)++ [(Tm.aM f) x]:=by rw[fS,hx];simp
   have hbo:=fA hinv
   simp -implicitDefEqProofs only[bQ,bO (av:=Tm.av) aO hx (aK x),aA,↓aX,seval,wJ]
   refine wP [(0,1),(3,1),(1,2),(2,2),(4,2),(5,1),(6,0),(7,1),(8,0)] [0,3,1,2,4,5,7] mixed ?_
   simp -implicitDefEqProofs only[a7,aK,hbo,mE,aA,seval,wJ]
   refine iE (IH x (cJ hx) _ (hg' x (cJ hx))) ?_
   simp -implicitDefEqProofs only[a7,aK,cM,aA,seval,wJ]
   refine fG aO bH bJ rfl rfl (gA (aK _) (cB _)) (eD _) hinv (by simp only[dA,aQ,bA];omega) (by simp only[dA,aQ,bA];omega) (fun b' hb'=>?_)
   rw[show(((ts.take i).map (Tm.aM f)).map Tm.av)++ [((Tm.aM f) x).av]=((ts.take (i+1)).map (Tm.aM f)).map Tm.av by rw[htk];simp] at hb' ⊢
   obtain⟨g1,g2,g3⟩:=pG hb'
   simp only[fQ,eS] at g1 g3
   simp -implicitDefEqProofs only[g3,m9,eP,aG,g1,hw,aA,seval,wJ]
   exact⟨b',g2,aN.mk (by simp -implicitDefEqProofs only[aA,seval])⟩
  have hbo:=fA hinv
  rw[eN] at hinv hbo ⊢
  simp -implicitDefEqProofs only[hge,aA,seval,wJ]
  simp -implicitDefEqProofs only[hbo,aA,seval,wJ]
  have hS:(st.aC b2 (.cells [AV.int .i64 0,AV.int .i64 0,AV.str ⟨#[]⟩,AV.fslice []])) b2≠none:=by rw[aB.aP];simp
  have h1:=iA hinv hS hne
  rw[aB.aP] at h1
  simp -implicitDefEqProofs only[h1,eP,aG,aA,seval]
  obtain⟨h2,h3⟩:=lB (o:=.cells [AV.int .i64 k,AV.int .i64 n,AV.str s,bM 4 b ((ts.map (Tm.aM f)).map Tm.av)]) hinv hS hne
  refine⟨b,_,_,h2,h3,jJ _,⟨4,eD _⟩,?_,?_⟩
  · rw[Tm.mL f h]
    simp only[gJ,aW,aU,eT,jP,jE,aY]
  · exact(((aL.refl _).aC hn2).aC hc).aC hn2
termination_by t=>SizeOf.sizeOf t
decreasing_by have:=List.sizeOf_lt_of_mem hx;simp only[Tm.mk.sizeOf_spec];omega


end Go.AW
namespace Go.AW
abbrev cT (σ:Sub):Prop:=∃R rk B,Good σ R rk B
theorem cT.rs{σ:Sub}(h:cT σ):∃rk B,Good σ (rs σ) rk B:=by
 obtain⟨R,rk,B,G⟩:=h
 exact⟨rk,B,by rw[G.rs];exact G⟩
theorem cT.none:cT Sub.none:=⟨_,_,_,Good.none⟩
structure oX (σ:Sub) (a b:List Tm) (r:Bool) (σ':Sub) (tr:List Int):Prop where
 gW:cT σ'
 aV:∀m,m∉tr→σ' m=σ m
 new:∀m∈tr,σ m=none∧σ' m≠none
 nodup:tr.Nodup
 eq:r=true→a.map (Tm.aM (rs σ'))=b.map (Tm.aM (rs σ'))
 gen:∀θ,r7 θ σ→a.map (Tm.aM θ)=b.map (Tm.aM θ)→r=true∧r7 θ σ'
 same:tr= []→σ'=σ
theorem r7.sub{σ σ':Sub}{θ:Int→Tm}{tr:List Int}(S:r7 θ σ')(aV:∀m,m∉tr→σ' m=σ m)(new:∀m∈tr,σ m=none∧σ' m≠none):r7 θ σ:=fun n u h=>by
 by_cases hn:n∈tr
 · rw[(new n hn).1] at h;cases h
 · exact S n u (by rw[aV n hn];exact h)
theorem oX.x6{σ σ':Sub}{a b:List Tm}{r:Bool}{tr:List Int}(h:oX σ a b r σ' tr):r7 (rs σ') σ:=by
 obtain⟨rk,B,G⟩:=h.gW.rs
 exact G.x6.sub h.aV h.new
theorem oX.stays{σ σ':Sub}{a b:List Tm}{r:Bool}{tr:List Int}(h:oX σ a b r σ' tr)(hg:cT σ){x y:Tm}(e:x.aM (rs σ)=y.aM (rs σ)):x.aM (rs σ')=y.aM (rs σ'):=by
 obtain⟨rk,B,G⟩:=hg.rs
 rw[←G.SU h.x6 x,←G.SU h.x6 y,e]
theorem ZM{σ:Sub}(hg:cT σ){a b:Tm}{n:Int}(ha:a.k=1)(han:a.n=n)(hn:σ n=none)(hb:b.k=1→σ b.n=none∧b.n≠n){r:Bool}{σ':Sub}{tr:List Int}(h:kQ σ n b=(r,σ',tr)):oX σ [a] [b] r σ' tr:=by
 obtain⟨rk,B,G⟩:=hg.rs
 have hav:∀θ,a.aM θ=θ n:=fun θ=>by rw[Tm.FD θ ha,han]
 unfold kQ at h
 split at h
 · rename_i iG
   cases h
   refine⟨hg,fun _ _=>rfl,fun _ h=>absurd h (dX),pR,fun h=>(by cases h),fun θ S e=>?_,fun _=>rfl⟩
   exfalso
   simp only[aW,aU,List.cons.injEq,d9] at e
   rw[hav] at e
   by_cases hbk:b.k=1
   · rw[Tm.FD _ hbk,G.free (hb hbk).1,A5] at iG
     simp only[c8,dX,eC] at iG
     exact(hb hbk).2 iG.symm
   · rw[←G.SU S b] at e
     have h1:((b.aM (rs σ)).aM θ)=(b.aM (rs σ)).aM θ:=rfl
     have hk:(b.aM (rs σ)).k≠1:=by rw[Tm.rK _ hbk];exact hbk
     have:=(a40 (f:=θ) (b.aM (rs σ)) iG).2 hk
     rw[e] at this
     exact absurd this (Nat.lt_irrefl _)
 · rename_i iG
   cases h
   obtain⟨rk',B',G'⟩:=G.bind hn iG
   have hR:=G'.rs
   refine⟨⟨_,_,_,G'⟩,fun m hm=>?_,fun m hm=>?_,by simp,fun _=>?_,fun θ S e=>⟨rfl,fun m u hu=>?_⟩,fun h=>(by cases h)⟩
   · simp only[c8,dX,eC] at hm
     simp only[Sub.set,hm,dI]
   · simp only[c8,dX,eC] at hm
     subst hm
     exact⟨hn,by simp [Sub.set]⟩
   · simp only[aW,aU,List.cons.injEq,d9]
     rw[hav,hR]
     exact G'.bound (by simp [Sub.set])
   · simp only[aW,aU,List.cons.injEq,d9] at e
     rw[hav] at e
     simp only[Sub.set] at hu
     split at hu
     · rename_i hmn
       cases hu
       rw[hmn,e]
     · exact S m u hu
theorem uH{a b:Tm}:qA a b=true↔a.k=b.k∧a.n=b.n∧a.s=b.s∧a.ts.length=b.ts.length:=by
 simp only[qA,cK,bL,and_assoc]
theorem aS2(g:Nat)(a3P:∀σ a b r σ' tr,cT σ→dD g σ a b=some (r,σ',tr)→oX σ [a] [b] r σ' tr):∀xs ys σ r σ' tr,cT σ→xs.length=ys.length→eE g σ xs ys=some (r,σ',tr)→oX σ xs ys r σ' tr:=by
 intro xs
 have ihU:=a3P
 induction xs with
 | nil=>
  intro ys σ r σ' tr hg hl h
  cases ys with
  | cons _ _=>simp at hl
  | nil=>
   simp only[eE,Option.some.injEq,Prod.mk.injEq] at h
   obtain⟨rfl,rfl,rfl⟩:=h
   exact⟨hg,fun _ _=>rfl,fun _ h=>absurd h (dX),pR,fun _=>rfl,fun θ S _=>⟨rfl,S⟩,fun _=>rfl⟩
 | cons a xs ih=>
  intro ys σ r σ' tr hg hl h
  cases ys with
  | nil=>simp at hl
  | cons b ys=>
   rw[eE] at h
   cases h1:dD g σ a b with
   | none=>rw[h1] at h;cases h
   | some p=>
    obtain⟨r1,σ1,tr1⟩:=p
    have U1:=ihU σ a b r1 σ1 tr1 hg h1
    rw[h1] at h
    cases r1 with
    | false=>
     simp only[Option.some.injEq,Prod.mk.injEq] at h
     obtain⟨rfl,rfl,rfl⟩:=h
     refine⟨U1.gW,U1.aV,U1.new,U1.nodup,fun h=>(by cases h),fun θ S e=>?_,U1.same⟩
     simp only[aW,List.cons.injEq] at e
     exact U1.gen θ S (by simp [e.1])
    | true=>
     simp only at h
     cases h2:eE g σ1 xs ys with
     | none=>rw[h2] at h;cases h
     | some p2=>
      obtain⟨r2,σ2,tr2⟩:=p2
      rw[h2] at h
      simp only[Option.some.injEq,Prod.mk.injEq] at h
      obtain⟨rfl,rfl,rfl⟩:=h
      have U2:=ih ys σ1 r2 σ2 tr2 U1.gW (by simpa using hl) h2
      refine⟨U2.gW,fun m hm=>?_,fun m hm=>?_,?_,fun hr=>?_,fun θ S e=>?_,fun h=>?_⟩
      · simp only[fF,pI] at hm
        rw[U2.aV m hm.2,U1.aV m hm.1]
      · rcases fF.1 hm with hm | hm
        · refine⟨(U1.new m hm).1,fun h=>(U1.new m hm).2 ?_⟩
          by_cases h3:m∈tr2
          · exact(U2.new m h3).1
          · rw[←U2.aV m h3];exact h
        · refine⟨?_,(U2.new m hm).2⟩
          by_cases h3:m∈tr1
          · exact(U1.new m h3).1
          · rw[←U1.aV m h3];exact(U2.new m hm).1
      · rw[oV]
        refine⟨U1.nodup,U2.nodup,fun x hx y hy e=>?_⟩
        subst e
        exact(U1.new x hx).2 (U2.new x hy).1
      · have e1:=U1.eq rfl
        simp only[aW,aU,List.cons.injEq,d9] at e1
        simp only[aW]
        rw[U2.stays U1.gW e1,U2.eq hr]
      · simp only[aW,List.cons.injEq] at e
        obtain⟨_,S1⟩:=U1.gen θ S (by simp [e.1])
        exact U2.gen θ S1 e.2
      · simp only[List.append_eq_nil_iff] at h
        rw[U2.same h.2,U1.same h.1]
theorem a81:∀(g:Nat),(∀σ a b r σ' tr,cT σ→dD g σ a b=some (r,σ',tr)→oX σ [a] [b] r σ' tr) ∧
 ∀xs ys σ r σ' tr,cT σ→xs.length=ys.length→eE g σ xs ys=some (r,σ',tr)→oX σ xs ys r σ' tr:=by
 intro g
 induction g with
 | zero=>
  have h0:∀σ a b r σ' tr,cT σ→dD 0 σ a b=some (r,σ',tr)→oX σ [a] [b] r σ' tr:=fun σ a b r σ' tr hg h=>by simp only[dD] at h;cases h
  exact⟨h0,aS2 _ h0⟩
 | succ g ih=>
  suffices hU:∀σ a b r σ' tr,cT σ→dD (g+1) σ a b=some (r,σ',tr)→oX σ [a] [b] r σ' tr from ⟨hU,aS2 _ hU⟩
  intro σ a b r σ' tr hg h
  obtain⟨ihU,ihL⟩:=ih
  have a3O:=fun xs ys σ r σ' tr hg hl h=>ihL xs ys σ r σ' tr hg hl h
  obtain⟨rk,B,G⟩:=hg.rs
  obtain⟨fa,wa⟩:=G.wk a
  obtain⟨fb,wb⟩:=G.wk b
  have hma:∀θ,r7 θ σ→(wk σ a).aM θ=a.aM θ:=fun θ S=>wa.aM S
  have hmb:∀θ,r7 θ σ→(wk σ b).aM θ=b.aM θ:=fun θ S=>wb.aM S
  -- it suffices to speak of the walked terms
  suffices hw:oX σ [wk σ a] [wk σ b] r σ' tr by
   refine⟨hw.gW,hw.aV,hw.new,hw.nodup,fun hr=>?_,fun θ S e=>?_,hw.same⟩
   · have:=hw.eq hr
     simp only[aW,aU,List.cons.injEq,d9] at this ⊢
     rw[←hma _ hw.x6,←hmb _ hw.x6];exact this
   · refine hw.gen θ S ?_
     simp only[aW,aU,List.cons.injEq,d9] at e ⊢
     rw[hma θ S,hmb θ S];exact e
  have ea:=wa.end
  have eb:=wb.end
  rw[dD] at h
  generalize wk σ a=a at *
  generalize wk σ b=b at *
  split at h
  · rename_i hc
    simp only[Option.some.injEq,Prod.mk.injEq] at h
    obtain⟨rfl,rfl,rfl⟩:=h
    have he:∀θ,a.aM θ=b.aM θ:=fun θ=>by rw[Tm.FD θ hc.1,Tm.FD θ hc.2.1,hc.2.2]
    exact⟨hg,fun _ _=>rfl,fun _ h=>absurd h (dX),pR,fun _=>by simp [he],fun θ S _=>⟨rfl,S⟩,fun _=>rfl⟩
  · rename_i hc
    split at h
    · rename_i ha
      exact ZM hg ha rfl (ea ha) (fun hb=>⟨eb hb,fun e=>hc ⟨ha,hb,e.symm⟩⟩) (lL h)
    · rename_i ha
      split at h
      · rename_i hb
        have U:=ZM hg hb rfl (eb hb) (fun ha'=>absurd ha' ha) (lL h)
        exact⟨U.gW,U.aV,U.new,U.nodup,fun hr=>(U.eq hr).symm,fun θ S e=>U.gen θ S e.symm,U.same⟩
      · rename_i hb
        split at h
        · rename_i hh
          rw[uH] at hh
          have U:=a3O a.ts b.ts σ r σ' tr hg hh.2.2.2 h
          refine⟨U.gW,U.aV,U.new,U.nodup,fun hr=>?_,fun θ S e=>?_,U.same⟩
          · simp only[aW,aU,List.cons.injEq,d9]
            rw[Tm.rK _ ha,Tm.rK _ hb,hh.1,hh.2.1,hh.2.2.1,U.eq hr]
          · simp only[aW,aU,List.cons.injEq,d9] at e
            rw[Tm.rK _ ha,Tm.rK _ hb] at e
            exact U.gen θ S (by injection e)
        · rename_i hh
          simp only[Option.some.injEq,Prod.mk.injEq] at h
          obtain⟨rfl,rfl,rfl⟩:=h
          refine⟨hg,fun _ _=>rfl,fun _ h=>absurd h (dX),pR,fun h=>(by cases h),fun θ S e=>?_,fun _=>rfl⟩
          exfalso
          simp only[aW,aU,List.cons.injEq,d9] at e
          rw[Tm.rK _ ha,Tm.rK _ hb] at e
          injection e with e1 e2 e3 e4
          exact hh (uH.2 ⟨e1,e2,e3,by simpa using jG List.length e4⟩)
theorem yJ{g:Nat}{σ:Sub}{a b:Tm}{r:Bool}{σ':Sub}{tr:List Int}(hg:cT σ)(h:dD g σ a b=some (r,σ',tr)):oX σ [a] [b] r σ' tr:=(a81 g).1 σ a b r σ' tr hg h
end Go.AW
