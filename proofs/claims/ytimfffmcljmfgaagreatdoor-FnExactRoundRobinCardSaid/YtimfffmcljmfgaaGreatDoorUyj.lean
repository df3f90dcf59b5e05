import Derived.Test.YtimfffmcljmfgaaGreatDoorUyg
import Derived.Test.YtimfffmcljmfgaaGreatDoorUyi
set_option linter.unusedSimpArgs false
set_option linter.unusedVariables false
set_option maxRecDepth 100000
namespace Go.AW
open Go.Proofs.Tryz
theorem yS(n lo hi:Int)(st:aA):aD prog 170 [.int .i64 n,.int .i64 lo,.int .i64 hi] st (fun r st'=>r=.bool (decide (lo≤n)&&decide (n≤hi))∧st'=st):=by
 refine wF [] 3 func170 ntmps170 rfl rfl ?_
 intro _
 repeat' (first
  | (simp -implicitDefEqProofs only[*,aB,seval])
  | (refine cU (fun h=>?_) (fun h=>?_))
  | (refine aT (fun h=>?_) (fun h=>?_)))
 all_goals simp_all
theorem aQI(s:ByteArray)(st:aA):aD prog 250 [.str s] st (fun r st'=>r=.tup [.int .i64 (jD s),.bool (jD s == 1||jD s == 2)]∧st'=st):=by
 refine wF [] 1 func250 ntmps250 rfl rfl ?_
 intro _
 repeat' (first
  | (simp -implicitDefEqProofs only[*,aB,seval])
  | (refine cU (fun h=>?_) (fun h=>?_))
  | (refine aT (fun h=>?_) (fun h=>?_)))
 all_goals (simp only[jD, *,DX,AX,Bool.or_self,cond_true,cond_false];first | done | rfl)
theorem VU(s:ByteArray)(st:aA):aD prog 197 [.str s] st (fun r st'=>r=.int .i64 (jD s)∧st'=st):=by
 refine wF [] 1 func197 ntmps197 rfl rfl ?_
 intro _
 repeat' (first
  | (simp -implicitDefEqProofs only[*,aB,seval])
  | (refine cU (fun h=>?_) (fun h=>?_))
  | (refine aT (fun h=>?_) (fun h=>?_)))
 all_goals (simp only[jD, *,DX,AX,Bool.or_self,cond_true,cond_false];first | done | rfl)
theorem aRA(s:ByteArray)(n:Int)(st:aA):aD prog 149 [.str s,.int .i64 n] st (fun r st'=>r=.bool (isBuiltin s n)∧st'=st):=by
 refine wF [] 2 func149 ntmps149 rfl rfl ?_
 intro _
 repeat' (first
  | (simp -implicitDefEqProofs only[*,aB,seval])
  | (refine cU (fun h=>?_) (fun h=>?_))
  | (refine aT (fun h=>?_) (fun h=>?_)))
 all_goals (simp only[isBuiltin, *,DX,AX,Bool.or_self,cond_true,cond_false];first | done | rfl)
theorem N1(s:ByteArray)(n:Int)(st:aA):aD prog 196 [.str s,.int .i64 n] st (fun r st'=>r=.bool (isBuiltin s n)∧st'=st):=by
 refine wF [] 2 func196 ntmps196 rfl rfl ?_
 intro _
 repeat' (first
  | (simp -implicitDefEqProofs only[*,aB,seval])
  | (refine cU (fun h=>?_) (fun h=>?_))
  | (refine aT (fun h=>?_) (fun h=>?_)))
 all_goals (simp only[isBuiltin, *,DX,AX,Bool.or_self,cond_true,cond_false];first | done | rfl)
abbrev aL8:=zi tI_3 (zi zI_3 (zi a7 (zi tI_4 (zi zI_4 (zi cL (zi tI_5 (zi zI_5 (zi S3 (zi tI_9 (zi zI_9 d9))))))))))
theorem VT(s:ByteArray)(st:aA):aD prog 195 [.str s] st (fun r st'=>r=.bool (sU s)∧st'=st):=by
 refine wF [] 1 func195 ntmps195 rfl rfl ?_
 simp only[dK,AV.fits,dT]
 intro hs
 simp -implicitDefEqProofs only[aB,seval]
 refine n6 (α:=Nat) [] (fun i=>i≤s.size∧∀(j:Nat) c,j<i→(sb s)[j]?=some c→letter c=true)
  (fun i=>[(0,.str s),(3,.int .i64 i)]) (fun _=>st) (fun i=>s.size - i) (by decide +kernel)
  ⟨0,⟨by omega,by intro j x h;omega⟩,aN.mk (by simp -implicitDefEqProofs only[aB,↓aY,seval])⟩ ?_
 intro i ⟨hi,dC⟩
 simp -implicitDefEqProofs only[aB,seval,aL8]
 refine⟨fun h5=>?_,fun h5=>?_⟩
 case refine_2=>
  simp only[cM,gX] at h5
  have ha:(sb s).all letter=true:=H3 fun j c hc=>dC j c (by have:=(eE.1 hc).1;rw[GQ] at this;omega) hc
  repeat' (first
   | (simp -implicitDefEqProofs only[*,aB,seval,aL8])
   | (refine cU (fun h=>?_) (fun h=>?_))
   | (refine aT (fun h=>?_) (fun h=>?_)))
  all_goals simp only[sU,ha,iY,AV.bool.injEq]
  all_goals simp only[*,mC,iY,mB]
 simp only[bM,gX] at h5
 obtain⟨c,hc⟩:∃c,(sb s)[i]?=some c:=⟨_,dZ (by rw[GQ];exact h5)⟩
 have hx:=aJJ (P:=prog) (t:=9) d9 hc
 simp -implicitDefEqProofs only[hx,aB,seval]
 refine cU (fun h6=>?_) (fun h6=>?_)
 case refine_2=>
  simp -implicitDefEqProofs only[h6,aB,seval]
  simp only[uI,bM] at h6
  simp only[sU,uU hc (show letter c=false by simp [letter];omega),mB]
 simp -implicitDefEqProofs only[h6,hx,aB,seval]
 refine⟨fun h7=>?_,fun h7=>?_⟩
 · simp -implicitDefEqProofs only[aB,seval]
   simp only[bM] at h7
   simp only[sU,uU hc (show letter c=false by simp [letter];omega),mB]
 simp only[cM] at h6 h7
 simp -implicitDefEqProofs only[aB,seval]
 refine⟨i+1,by omega,⟨by omega,fun j u hj hu=>?_⟩,aN.mk ?_⟩
 · rcases lI j i with h8 | h8
   · exact dC j u h8 hu
   · obtain rfl:j=i:=by omega
     rw[hc] at hu;cases hu
     simp [letter];omega
 · have:=bG (n:=(i:Int)+1)
   simp -implicitDefEqProofs only[this,aB,seval]
abbrev aL9:=zi tI_3 (zi zI_3 (zi a7 (zi tI_4 (zi zI_4 (zi cL (zi tI_5 (zi zI_5 (zi S3 (zi tI_6 (zi zI_6 (zi uU6 (zi tI_9 (zi zI_9 d9)))))))))))))
theorem VM(s:ByteArray)(st:aA):aD prog 201 [.str s] st (fun r st'=>r=.bool (sU s)∧st'=st):=by
 refine wF [] 1 func201 ntmps201 rfl rfl ?_
 simp only[dK,AV.fits,dT]
 intro hs
 simp -implicitDefEqProofs only[aB,seval,aL9]
 refine n6 (α:=Nat) [] (fun i=>i≤s.size∧∀(j:Nat) c,j<i→(sb s)[j]?=some c→letter c=true)
  (fun i=>[(0,.str s),(5,.int .i64 s.size),(6,.int .i64 i)]) (fun _=>st) (fun i=>s.size - i) (by decide +kernel)
  ⟨0,⟨by omega,by intro j x h;omega⟩,aN.mk (by simp -implicitDefEqProofs only[aB,↓aY,seval])⟩ ?_
 intro i ⟨hi,dC⟩
 simp -implicitDefEqProofs only[aB,seval]
 refine⟨fun h5=>?_,fun h5=>?_⟩
 case refine_2=>
  simp only[cM,gX] at h5
  have ha:(sb s).all letter=true:=H3 fun j c hc=>dC j c (by have:=(eE.1 hc).1;rw[GQ] at this;omega) hc
  simp -implicitDefEqProofs only[aB,seval,aL9]
  refine(yS _ _ _ st).to ?_
  simp -implicitDefEqProofs only[aB,seval]
  simp only[sU,ha,iY]
 simp only[bM,gX] at h5
 obtain⟨c,hc⟩:∃c,(sb s)[i]?=some c:=⟨_,dZ (by rw[GQ];exact h5)⟩
 have hx:=aJJ (P:=prog) (t:=9) d9 hc
 simp -implicitDefEqProofs only[hx,aB,seval]
 refine cU (fun h6=>?_) (fun h6=>?_)
 case refine_2=>
  simp -implicitDefEqProofs only[h6,aB,seval]
  simp only[uI,bM] at h6
  simp only[sU,uU hc (show letter c=false by simp [letter];omega),mB]
 simp -implicitDefEqProofs only[h6,hx,aB,seval]
 refine⟨fun h7=>?_,fun h7=>?_⟩
 · simp -implicitDefEqProofs only[aB,seval]
   simp only[bM] at h7
   simp only[sU,uU hc (show letter c=false by simp [letter];omega),mB]
 simp only[cM] at h6 h7
 simp -implicitDefEqProofs only[aB,seval]
 refine⟨i+1,by omega,⟨by omega,fun j u hj hu=>?_⟩,aN.mk ?_⟩
 · rcases lI j i with h8 | h8
   · exact dC j u h8 hu
   · obtain rfl:j=i:=by omega
     rw[hc] at hu;cases hu
     simp [letter];omega
 · have:=bG (n:=(i:Int)+1)
   simp -implicitDefEqProofs only[this,aB,seval]
theorem aRG(s:ByteArray)(st:aA):aD prog 202 [.str s] st (fun r st'=>r=.bool (decide ((0:Int)<(jD s:Int)))∧st'=st):=by
 refine wF [] 1 func202 ntmps202 rfl rfl ?_
 intro _
 simp -implicitDefEqProofs only[aB,seval]
 refine(aQI s st).to ?_
 simp -implicitDefEqProofs only[aB,seval]
abbrev a2I:=zi tI_3 (zi zI_3 (zi a7 (zi tI_4 (zi zI_4 (zi cL (zi tI_31 (zi zI_31 (zi aR (zi bO (zi bP (zi cF (zi tI_66 (zi zI_66 (zi b9 (zi cA (zi cB (zi cC bZ)))))))))))))))))
theorem ES(k n:Int)(s:ByteArray)(ts:List Tm)(st:aA):aD prog 203 [(Tm.mk k n s ts).av] st (fun r st'=>r=.bool (decide (k=3)&&decide ((ts.length:Int)=0))∧st'=st):=by
 refine wF [] 1 func203 ntmps203 rfl rfl ?_
 intro _
 simp only[bA]
 repeat' (first
  | (simp -implicitDefEqProofs only[*,aB,seval,a2I])
  | (refine cU (fun h=>?_) (fun h=>?_))
  | (refine aT (fun h=>?_) (fun h=>?_)))
 all_goals simp_all
def vU:List ByteArray:=[⟨#[43]⟩,⟨#[45]⟩,⟨#[42]⟩,⟨#[47,47]⟩,⟨#[61]⟩,⟨#[92,61]⟩,⟨#[61,61]⟩,⟨#[60]⟩,⟨#[62]⟩,⟨#[61,60]⟩,⟨#[62,61]⟩,⟨#[61,58,61]⟩,⟨#[46]⟩,⟨#[91,93]⟩,⟨#[33]⟩]
abbrev a2J:=zi tI_147 (zi zI_147 (zi wW (zi B1 (zi B4 DS))))
theorem aSZ(st:aA):aD prog 320 [] st (fun r st'=>r=.fslice (vU.map .str)∧st'=st):=by
 refine wF [] 0 func320 ntmps320 rfl rfl ?_
 intro _
 simp -implicitDefEqProofs only[vU,aB,seval,a2J]
abbrev a2K:=zi tI_147 (zi zI_147 (zi wW (zi B1 (zi B4 DS))))
theorem aRW(st:aA):aD prog 367 [] st (fun r st'=>r=.fslice (vU.map .str)∧st'=st):=by
 refine wF [] 0 func367 ntmps367 rfl rfl ?_
 intro _
 simp -implicitDefEqProofs only[vU,aB,seval,a2K]
abbrev aMB:=zi tI_3 (zi zI_3 (zi a7 (zi tI_4 (zi zI_4 (zi cL (zi tI_9 (zi zI_9 (zi d9 (zi tI_147 (zi zI_147 (zi wW (zi B1 (zi B4 DS)))))))))))))
theorem aRR(l:List ByteArray)(s:ByteArray)(st:aA):aD prog 366 [.slice (l.map .str),.str s] st (fun r st'=>r=.bool (l.any fun x=>decide (x=s))∧st'=st):=by
 refine wF [] 2 func366 ntmps366 rfl rfl ?_
 simp only[dK,AV.fits,dT,aE]
 intro ⟨⟨hl,_⟩,_⟩
 simp -implicitDefEqProofs only[aB,seval]
 refine n6 (α:=Nat) [] (fun i=>i≤l.length∧∀(j:Nat) x,j<i→l[j]?=some x→decide (x=s)=false)
  (fun i=>[(0,.slice (l.map .str)),(1,.str s),(5,.int .i64 i)]) (fun _=>st) (fun i=>l.length - i) (by decide +kernel)
  ⟨0,⟨by omega,by intro j x h;omega⟩,aN.mk (by simp -implicitDefEqProofs only[aB,↓aY,seval])⟩ ?_
 intro i ⟨hi,dC⟩
 simp -implicitDefEqProofs only[aE,aB,seval,aMB]
 refine⟨fun h5=>?_,fun h5=>?_⟩
 case refine_2=>
  simp -implicitDefEqProofs only[aB,seval]
  simp only[cM,gX] at h5
  have:(l.any fun x=>decide (x=s))=false:=by
   rw[List.any_eq_false]
   intro x hx
   obtain⟨j,hj⟩:=yC hx
   simp [dC j x (by have:=(eE.1 hj).1;omega) hj]
  rw[this]
 simp only[bM,gX] at h5
 obtain⟨x,hx⟩:∃x,l[i]?=some x:=⟨_,dZ h5⟩
 simp -implicitDefEqProofs only[bH (av:=AV.str) wW hx rfl,aB,seval,aMB]
 refine⟨fun h6=>?_,fun h6=>?_⟩
 · simp -implicitDefEqProofs only[aB,seval]
   have:(l.any fun x=>decide (x=s))=true:=by
    rw[yB]
    exact⟨x,cG hx,h6⟩
   rw[this]
 simp -implicitDefEqProofs only[aB,seval]
 refine⟨i+1,by omega,⟨by omega,fun j u hj hu=>?_⟩,aN.mk ?_⟩
 · rcases lI j i with h8 | h8
   · exact dC j u h8 hu
   · obtain rfl:j=i:=by omega
     rw[hx] at hu;cases hu
     exact h6
 · have:=bG (n:=(i:Int)+1)
   simp -implicitDefEqProofs only[this,aB,seval]
abbrev aMA:=zi tI_3 (zi zI_3 (zi a7 (zi tI_9 (zi zI_9 (zi d9 (zi tI_147 (zi zI_147 (zi wW (zi B1 (zi B4 DS))))))))))
theorem aQG(l:List ByteArray)(s:ByteArray)(st:aA):aD prog 217 [.slice (l.map .str),.str s] st (fun r st'=>(∃k:Int,r=.int .i64 k∧decide (0≤k)=l.any fun x=>decide (s=x))∧st'=st):=by
 refine wF [] 2 func217 ntmps217 rfl rfl ?_
 simp only[dK,AV.fits,dT,aE]
 intro ⟨⟨hl,_⟩,_⟩
 simp -implicitDefEqProofs only[aE,aB,seval,aMA]
 refine n6 (α:=Nat) [] (fun i=>i≤l.length∧∀(j:Nat) x,j<i→l[j]?=some x→decide (s=x)=false)
  (fun i=>[(0,.slice (l.map .str)),(1,.str s),(7,.int .i64 l.length),(8,.int .i64 i)]) (fun _=>st) (fun i=>l.length - i) (by decide +kernel)
  ⟨0,⟨by omega,by intro j x h;omega⟩,aN.mk (by simp -implicitDefEqProofs only[aB,↓aY,seval])⟩ ?_
 intro i ⟨hi,dC⟩
 simp -implicitDefEqProofs only[aB,seval]
 refine⟨fun h5=>?_,fun h5=>?_⟩
 case refine_2=>
  simp -implicitDefEqProofs only[aB,seval]
  simp only[cM,gX] at h5
  have:(l.any fun x=>decide (s=x))=false:=by
   rw[List.any_eq_false]
   intro x hx
   obtain⟨j,hj⟩:=yC hx
   simp [dC j x (by have:=(eE.1 hj).1;omega) hj]
  rw[this]
  exact⟨_,rfl,rfl⟩
 simp only[bM,gX] at h5
 obtain⟨x,hx⟩:∃x,l[i]?=some x:=⟨_,dZ h5⟩
 simp -implicitDefEqProofs only[bH (av:=AV.str) wW hx rfl,aB,seval,aMA]
 refine⟨fun h6=>?_,fun h6=>?_⟩
 · simp -implicitDefEqProofs only[aB,seval]
   have:(l.any fun x=>decide (s=x))=true:=by
    rw[yB]
    exact⟨x,cG hx,h6⟩
   rw[this]
   exact⟨_,rfl,by simp⟩
 simp -implicitDefEqProofs only[aB,seval]
 refine⟨i+1,by omega,⟨by omega,fun j u hj hu=>?_⟩,aN.mk ?_⟩
 · rcases lI j i with h8 | h8
   · exact dC j u h8 hu
   · obtain rfl:j=i:=by omega
     rw[hx] at hu;cases hu
     exact h6
 · have:=bG (n:=(i:Int)+1)
   simp -implicitDefEqProofs only[this,aB,seval]
theorem aP8(l:List ByteArray)(s:ByteArray)(st:aA):aD prog 145 [.slice (l.map .str),.str s] st (fun r st'=>r=.bool (l.any fun x=>decide (s=x))∧st'=st):=by
 refine wF [] 2 func145 ntmps145 rfl rfl ?_
 intro _
 simp -implicitDefEqProofs only[aB,seval]
 refine(aQG l s st).mono ?_
 rintro _ _ ⟨⟨k,rfl,hk⟩,rfl⟩
 simp -implicitDefEqProofs only[aB,seval]
 rw[←hk]
theorem NR(l:List ByteArray)(s:ByteArray)(st:aA):aD prog 145 [.fslice (l.map .str),.str s] st (fun r st'=>r=.bool (l.any fun x=>decide (s=x))∧st'=st):=
 aD.GU (by simp only[nX,AV.soft];exact aP8 l s st)
theorem aRS(l:List ByteArray)(s:ByteArray)(st:aA):aD prog 366 [.fslice (l.map .str),.str s] st (fun r st'=>r=.bool (l.any fun x=>decide (x=s))∧st'=st):=
 aD.GU (by simp only[nX,AV.soft];exact aRR l s st)
def zO(s:ByteArray):Bool:=sU s||vU.any fun x=>decide (s=x)
theorem aPA(s:ByteArray):(vU.any fun x=>decide (x=s))=vU.any fun x=>decide (s=x):=by
 congr 1
 funext x
 exact decide_eq_decide.2 ⟨Eq.symm,Eq.symm⟩
theorem aRB(s:ByteArray)(st:aA):aD prog 260 [.str s] st (fun r st'=>r=.bool (zO s)∧st'=st):=by
 refine wF [] 1 func260 ntmps260 rfl rfl ?_
 intro _
 repeat' (first
  | (simp -implicitDefEqProofs only[*,aB,seval])
  | (refine cU (fun h=>?_) (fun h=>?_))
  | (refine(VM s st).to ?_) | (refine(aSZ st).to ?_) | (refine(NR vU s st).to ?_)
  | (refine aT (fun h=>?_) (fun h=>?_)))
 all_goals simp only[zO, *,uI,AX,qL]
theorem aST(s:ByteArray)(st:aA):aD prog 321 [.str s] st (fun r st'=>r=.bool (zO s)∧st'=st):=by
 refine wF [] 1 func321 ntmps321 rfl rfl ?_
 intro _
 repeat' (first
  | (simp -implicitDefEqProofs only[*,aB,seval])
  | (refine cU (fun h=>?_) (fun h=>?_))
  | (refine(VT s st).to ?_) | (refine(aRW st).to ?_) | (refine(aRS vU s st).to ?_)
  | (refine aT (fun h=>?_) (fun h=>?_)))
 all_goals simp only[zO,aPA, *,uI,AX,qL]
end Go.AW
namespace Go.AW
def eM(k n:Int)(s:ByteArray)(len:Int):Bool:=
 cond (decide (k=1)) (decide ((0:Int)≤n)&&decide (n≤25)&&decide (s=⟨#[]⟩)&&decide (len=0))
  (cond (decide (k=2)) (decide ((-999:Int)≤n)&&decide (n≤999)&&decide (s=⟨#[]⟩)&&decide (len=0))
   (cond (decide (k=3)) (decide (n=0)&&zO s&&decide (len≤4)) false))
mutual
def Tm.shape:Tm→Int→Bool
 | .mk k n s ts,d=>decide (1≤d)&&eM k n s ts.length&&L2 ts (d - 1)
def L2:List Tm→Int→Bool
 | [],_=>true
 | t::ts,d=>t.shape d&&L2 ts d
end
theorem aNF:∀(ts:List Tm) (d:Int),L2 ts d=ts.all fun t=>t.shape d
 | [],_=>rfl
 | t::ts,d=>by simp only[L2,jI,aNF ts d]
theorem Tm.GS(k n:Int)(s:ByteArray)(ts:List Tm)(d:Int):(Tm.mk k n s ts).shape d=(decide (1≤d)&&eM k n s ts.length&&ts.all fun t=>t.shape (d - 1)):=by simp only[Tm.shape,aNF]
mutual
def Tm.nodes:Tm→Nat
 | .mk _ _ _ ts=>1+LX ts
def LX:List Tm→Nat
 | []=>0
 | t::ts=>t.nodes+LX ts
end
theorem aNB:∀(ts:List Tm),LX ts=aL Tm.nodes ts
 | []=>rfl
 | t::ts=>by simp only[LX,aL,aNB ts]
theorem Tm.kG(k n:Int)(s:ByteArray)(ts:List Tm):(Tm.mk k n s ts).nodes=1+aL Tm.nodes ts:=by simp only[Tm.nodes,aNB]
def Tm.valid(t:Tm):Bool:=t.shape 30&&decide (t.nodes≤120)
mutual
def Tm.vars:Tm→List Int→List Int
 | .mk k n _ ts,l=>bX ts (if k=1∧n∉l then l++ [n] else l)
def bX:List Tm→List Int→List Int
 | [],l=>l
 | t::ts,l=>bX ts (t.vars l)
end
mutual
theorem Tm.DU:∀(t:Tm) (l:List Int),(t.vars l).length≤l.length+t.nodes
 | .mk k n s ts,l=>by
  have h:=xU ts (if k=1∧n∉l then l++ [n] else l)
  have h2:(if k=1∧n∉l then l++ [n] else l).length≤l.length+1:=by split<;>simp
  rw[Tm.vars,Tm.kG]
  omega
theorem xU:∀(ts:List Tm) (l:List Int),(bX ts l).length≤l.length+aL Tm.nodes ts
 | [],l=>by simp [bX,aL]
 | t::ts,l=>by
  have h1:=Tm.DU t l
  have h2:=xU ts (t.vars l)
  simp only[bX,aL]
  omega
end
def eQ(v:Int):List Int→Int→Int
 | [],_=> -1
 | x::xs,i=>if v=x then i else eQ v xs (i+1)
theorem aJI(v:Int):∀(l:List Int) (i:Int),0≤i→(0≤eQ v l i↔v∈l)
 | [],i,h=>by simp [eQ]
 | x::xs,i,h=>by
  simp only[eQ,cQ]
  split
  · rename_i e;simp [e,h]
  · rename_i e;rw[aJI v xs (i+1) (by omega)];simp [e]
theorem uT{st:aA}{b x:Nat}{l:List AV}{o:AO}(h:l≠[]→x≠b):(bV st b l).aC x o=bV (st.aC x o) b l:=by
 cases l with
 | nil=>rfl
 | cons y l=>exact aA.nZ _ _ _ (dF (h (by simp)))
theorem H1{st:aA}{b x:Nat}{l:List AV}{o:AO}(hx:st x=none)(h:l≠[]→(st.aC x o) b=none):aM (bV (st.aC x o) b l) (bV st b l)∧(l≠[]→st b=none):=by
 cases l with
 | nil=>exact⟨(aM.refl _).aC hx,fun h=>absurd rfl h⟩
 | cons y l=>
  have hb:=h (by simp)
  have hne:b≠x:=by rintro rfl;rw[aA.aJ] at hb;cases hb
  rw[aA.aF _ _ hne] at hb
  refine⟨?_,fun _=>hb⟩
  simp only[bV]
  rw[aA.nZ _ _ _ (dF hne)]
  exact(aM.refl _).aC (by rw[aA.aF _ _ (dF hne)];exact hx)
theorem UF{P:Program}{t:TypeId}{ag:Bool}{w b i:Nat}{l:List AV}{x:AV}(hI:eI P t=some (ag,w))(h:l[i]?=some x):dM P t (bS w b l) (.int .i64 (i:Int))=some (.ptr b (i*w)):=by
 have hi:=(eE.1 h).1
 rw[oF (by rintro rfl;simp at hi)]
 exact kE hI hi
theorem UG{st:aA}{b i:Nat}{l:List Int}{x:Int}(h:l[i]?=some x):bV st b (l.map iv) b=some (.cells (l.map iv))∧(l.map iv)[i]?=some (iv x):=by
 have hi:=(eE.1 h).1
 have hne:l.map iv≠[]:=by rintro e;rw[List.map_eq_nil_iff] at e;subst e;simp at hi
 have hfl:(l.map iv).flatMap AV.cells=l.map iv:=by
  clear h hi hne
  induction l with
  | nil=>rfl
  | cons y l ih=>simp only[bR,pF,ih];rfl
 exact⟨by rw[j4 hne,hfl,aA.aJ],by rw[kS,h];try rfl⟩
mutual
def Tm.wf:Tm→Bool
 | .mk k _ _ ts=>(!decide (k=1)||ts.isEmpty)&&L6 ts
def L6:List Tm→Bool
 | []=>true
 | t::ts=>t.wf&&L6 ts
end
theorem ST:∀(ts:List Tm),L6 ts=ts.all Tm.wf
 | []=>rfl
 | t::ts=>by simp only[L6,jI,ST ts]
theorem Tm.S7{k n:Int}{s:ByteArray}{ts:List Tm}(h:(Tm.mk k n s ts).wf=true):(k=1→ts= [])∧∀x∈ts,x.wf=true:=by
 simp only[Tm.wf,ST,cT,n7,gW,cM,List.isEmpty_iff,eD] at h
 exact⟨fun hk=>h.1.resolve_left (fun hn=>hn hk),h.2⟩
theorem Tm.HE{t:Tm}(h:t.valid=true):t.nodes≤120:=by simp only[Tm.valid,cT,bM] at h;exact h.2
def kO(S:aA)(c b:Nat)(hd:List AV)(l:List AV):aA:=bV (S.aC c (.cells (hd++ [bS 4 b l]))) b l
theorem lM{S:aA}{c b:Nat}{hd l:List AV}(hb:l≠[]→(S.aC c (.cells (hd++ [bS 4 b l]))) b=none):kO S c b hd l c=some (.cells (hd++ [bS 4 b l])):=by
 unfold kO
 cases l with
 | nil=>simp only[bV,aA.aJ]
 | cons y l=>
  have h:=hb (by simp)
  have hne:c≠b:=fun e=>by rw[←e,aA.aJ] at h;cases h
  rw[oE hne,aA.aJ]
theorem vM{S:aA}{c b b':Nat}{hd l l':List AV}(hb:l'≠[]→(S.aC c (.cells (hd++ [bS 4 b l]))) b'=none) :
 (bV (S.aC c (.cells (hd++ [bS 4 b l]))) b' l').aC c (.cells (hd++ [bS 4 b' l']))=kO S c b' hd l'∧(l'≠[]→(S.aC c (.cells (hd++ [bS 4 b' l']))) b'=none)∧bV (S.aC c (.cells (hd++ [bS 4 b l]))) b' l' c=some (.cells (hd++ [bS 4 b l])):=by
 have hne:l'≠[]→c≠b':=fun h e=>by have:=hb h;rw[←e,aA.aJ] at this;cases this
 refine⟨?_,fun h=>?_,?_⟩
 · rw[uT hne,eA];try rfl
 · have:=hb h
   rw[aA.aF _ _ (dF (hne h))] at this ⊢
   exact this
 · cases l' with
   | nil=>simp only[bV,aA.aJ]
   | cons y l=>rw[oE (hne (by simp)),aA.aJ]
theorem nC{S:aA}{c b x:Nat}{hd l:List AV}(hb:l≠[]→(S.aC c (.cells (hd++ [bS 4 b l]))) b=none)(hx:S x≠none)(hxc:x≠c):kO S c b hd l x=S x:=by
 unfold kO
 cases l with
 | nil=>simp only[bV,aA.aF _ _ hxc]
 | cons y l=>
  have h:=hb (by simp)
  have hne:x≠b:=fun e=>by
   rw[←e,aA.aF _ _ hxc] at h
   exact hx h
  rw[oE hne,aA.aF _ _ hxc]
theorem t7{S:aA}{c b x:Nat}{hd l:List AV}{o:AO}(hb:l≠[]→(S.aC c (.cells (hd++ [bS 4 b l]))) b=none)(hx:S x≠none)(hxc:x≠c):(kO S c b hd l).aC x o=bV ((S.aC c (.cells (hd++ [bS 4 b l]))).aC x o) b l∧(l≠[]→((S.aC c (.cells (hd++ [bS 4 b l]))).aC x o) b=none):=by
 have hne:l≠[]→x≠b:=fun h e=>by
  have:=hb h
  rw[←e,aA.aF _ _ hxc] at this
  exact hx this
 refine⟨by unfold kO;rw[uT hne],fun h=>by rw[aA.aF _ _ (dF (hne h))];exact hb h⟩
theorem aJP{S:aA}{c b x:Nat}{hd l:List AV}{o:AO}(hb:l≠[]→(S.aC c (.cells (hd++ [bS 4 b l]))) b=none)(hx:S x≠none)(hxc:x≠c) :
 (kO S c b hd l).aC x o=kO (S.aC x o) c b hd l∧(l≠[]→((S.aC x o).aC c (.cells (hd++ [bS 4 b l]))) b=none):=by
 have hne:l≠[]→x≠b:=fun h e=>by
  have:=hb h
  rw[←e,aA.aF _ _ hxc] at this
  exact hx this
 refine⟨by unfold kO;rw[uT hne,aA.nZ _ _ _ (dF hxc)],fun h=>?_⟩
 have:=hb h
 rw[aA.nZ _ _ _ hxc,aA.aF _ _ (dF (hne h))]
 exact this
theorem aYK{S T:aA}{c b:Nat}{hd l:List AV}(D:aM (S.aC c (.cells (hd++ [bS 4 b l]))) T)(hb:l≠[]→(S.aC c (.cells (hd++ [bS 4 b l]))) b=none):aM (kO S c b hd l) T:=
 D.bV fun h=>(D b).1 (hb h)
theorem aA.xW{st:aA}{b c:Nat}{a z a':AO}(h:b≠c):((st.aC c a).aC b z).aC c a'=(st.aC b z).aC c a':=by rw[aA.nZ _ _ _ (dF h),eA]
theorem iP(l:List Tm):∀e∈l.map Tm.av,e.width=4:=by intro e h;simp only[bY] at h;obtain⟨t,_,rfl⟩:=h;exact aO t
theorem rT(l:List Tm):∀e∈l.map Tm.av,e.cD=false:=by intro e h;simp only[bY] at h;obtain⟨t,_,rfl⟩:=h;exact Tm.eN t
end Go.AW
namespace Go.AW
open Go.Proofs.Tryz
mutual
def Tm.small:Tm→Bool
 | .mk _ _ _ ts=>decide (ts.length≤1048576)&&L3 ts
def L3:List Tm→Bool
 | []=>true
 | t::ts=>t.small&&L3 ts
end
theorem G7:∀(ts:List Tm),L3 ts=ts.all Tm.small
 | []=>rfl
 | t::ts=>by simp only[L3,jI,G7 ts]
theorem Tm.o9{k n:Int}{s:ByteArray}{ts:List Tm}(h:(Tm.mk k n s ts).small=true):ts.length≤1048576∧∀x∈ts,x.small=true:=by
 simpa [Tm.small,G7] using h
abbrev LO:=zi tI_3 (zi zI_3 (zi a7 (zi tI_31 (zi zI_31 (zi aR (zi bO (zi bP (zi cF (zi tI_66 (zi zI_66 (zi b9 (zi cA (zi cB (zi cC bZ))))))))))))))
theorem aKE(l:List Tm)(st:aA)(hb:l.length≤1048576)(hc:∀x∈l,∀(st:aA),aD prog 111 [Tm.av x] st (Made st (Tm.av x))) :
 aD prog 130 [.slice (l.map Tm.av)] st (Made st (.slice (l.map Tm.av))):=by
 have hws:∀e∈l.map Tm.av,e.width=4:=fun e he=>by simp only[bY] at he;obtain⟨t,_,rfl⟩:=he;exact aO t
 refine wF [] 1 func130 ntmps130 rfl rfl ?_
 intro _
 simp -implicitDefEqProofs only[aE,aB,seval,LO]
 refine dL (σ:=List AV×List Nat×Nat×aA) [] [2,6,7] l (fun i p=>uJ (l.map Tm.av) st i p.1 p.2.1 p.2.2.1 p.2.2.2) (fun i p=>[(3,bS 4 p.2.2.1 p.1),(8,.int .i64 i)]) (fun _ p=>p.2.2.2) (by decide +kernel)
  ⟨([],[],0,st),uJ.start,aN.mk (by simp -implicitDefEqProofs only[lJ,aB,↓aY,seval])⟩ (fun i x p hx hlt bB hdr hinv=>?_) (fun p hge hinv=>?_)
 case refine_2=>
  obtain⟨os,bs,b,s⟩:=p
  simp -implicitDefEqProofs only[hge,aB,seval]
  exact hinv.done (aE _) hws
 obtain⟨os,bs,b,s⟩:=p
 simp only at hinv
 have hw:=bG (n:=(i:Int)+1)
 have mJ:∀zs:List AV,zs.length=4→aP zs 0 (Tm.av x).cells=(Tm.av x).cells:=fun zs h=>z7 (Tm.fN x) h
 simp -implicitDefEqProofs only[bB,bH (av:=Tm.av) aR hx (aO x),cE,aO,Tm.fN,Tm.d5,eA,mJ,aB,seval,LO]
 intro b2 hb2
 try simp -implicitDefEqProofs only[d8,Tm.fN,rO (Tm.fN x),qU (cE x),cO,mJ,eA,Tm.d5,aB,↓aY,seval,LO]
 refine(hc x (cG hx) _).mono ?_
 rintro r s2 ⟨bx,m1,m2,m3,m4⟩
 obtain⟨f1,f2,f3⟩:=m3.aTD (aO x) (Tm.d5 x)
 have hra:r.isAgg=true:=by rw[(aV.shape m3).1,cE]
 have hrj:r.cD=false:=(aV.shape m3).2.2.1
 simp -implicitDefEqProofs only[f1,hra,hrj,aB,seval,LO]
 have hlen:os.length=i:=hinv.1
 have aXB:∀e∈os,e.width=4:=fun e he=>by
  obtain⟨k,hk,rfl⟩:=List.getElem_of_mem he
  exact hinv.2.1.S8 (fun q hq=>hws q (pG hq)) _ he
 have hkb:os≠[]→s2 b=some (.cells (os.flatMap AV.cells)):=fun hne=>by
  have h:=(hinv.2.2.2.2.1 hne).2.2
  have hbx:b∉bx:=fun hq=>by
   have:=m2 b hq
   have FZ:b≠b2:=fun e=>by rw[e,hb2] at h;cases h
   rw[aA.aF _ _ FZ,h] at this;cases this
  have FZ:b≠b2:=fun e=>by rw[e,hb2] at h;cases h
  rw[m4 b hbx,aA.aF _ _ FZ,h]
 refine aO4 aR bO bP rfl rfl (g9 f1 f3) aXB hkb (by simp only[a8,bL,hlen];omega) (by simp only[a8,bL,hlen];omega) (fun b' s' k1 k2 k3 k4=>?_)
 have vJ:=hinv.step hb2 (show(l.map Tm.av)[i]?=some (Tm.av x) by rw[kS,hx];try rfl) m1 m2 m3 m4 (k1 (by simp)) (k2 (by simp)) (fun q h1 h2=>k3 q (fun _=>h1) h2) k4
 simp -implicitDefEqProofs only[hw,aB,seval]
 exact⟨(os++ [r],bs++bx,b',s'.erase b2),vJ,aN.drop (jP _ _) (by simp -implicitDefEqProofs only[aB,seval])⟩
abbrev aM4:=zi tI_31 (zi zI_31 (zi aR (zi bO (zi bP (zi cF (zi tI_66 (zi zI_66 (zi b9 (zi cA (zi cB (zi cC bZ)))))))))))
theorem aKD:∀(t:Tm) (st:aA),t.small=true→aD prog 111 [t.av] st (Made st t.av)
 | .mk k n s ts,st,hb=>by
  obtain⟨hb1,hb2⟩:=Tm.o9 hb
  have hc:=fun st=>aKE ts st hb1 fun x hx st=>aKD x st (hb2 x hx)
  refine aD.KH ?_
  refine wF [1] 1 func111 ntmps111 rfl rfl ?_
  intro _
  simp only[bA]
  simp -implicitDefEqProofs only[aB,seval,aM4]
  intro b aVU b2 JY
  have hne:b2≠b:=by rintro rfl;rw[aA.aJ] at JY;cases JY
  have hn2:st b2=none:=by rw[aA.aF st _ hne] at JY;exact JY
  simp -implicitDefEqProofs only[d8,hne.symm,aB,seval]
  refine(hc _).mono ?_
  rintro q s2 ⟨bs,m1,m2,m3,m4⟩
  have hbb:b∉bs:=fun h=>by have:=m2 b h;simp [d8,hne.symm] at this
  have oN:b2∉bs:=fun h=>by have:=m2 b2 h;simp [d8] at this
  have e1:=m4 b hbb
  have e2:=m4 b2 oN
  simp only[d8,hne,hne.symm,dX,cS] at e1 e2
  have hqc:q.cells= [q]:=by have:=(aV.shape m3).1;cases q<;>first | rfl | simp [AV.isAgg] at this
  have hqs:q.storable=true:=by
   have:=m3
   simp only[aV] at this
   rcases this with ⟨_,rfl,_⟩ | ⟨_,_,_,_,rfl,_⟩<;>rfl
  simp -implicitDefEqProofs only[d8,hne,e1,e2,hqc,hqs,aP,aB,seval,aM4]
  refine⟨[b,b2],bs,m1,fun x hx=>?_,?_,?_,?_⟩
  · have:=m2 x hx
    have h1:x≠b:=fun e=>hbb (e▸hx)
    have h2:x≠b2:=fun e=>oN (e▸hx)
    simpa [d8,h1,h2] using this
  · simp [aVU,hn2,hbb,oN]
  · rw[←bA]
    refine GI.2 ⟨q,rfl,aV.aU _ _ _ (fun x hx=>?_) m3⟩
    have h1:x≠b:=fun e=>hbb (e▸hx)
    have h2:x≠b2:=fun e=>oN (e▸hx)
    simp only[d8,h1,h2,cS]
  · intro x hx hd
    simp only[cQ,dD,dN,kH] at hd
    simp only[d8,hd.1,hd.2,cS]
    rw[m4 x hx]
    simp only[d8,hd.1,hd.2,cS]
termination_by t=>SizeOf.sizeOf t
decreasing_by have:=List.sizeOf_lt_of_mem hx;simp only[Tm.mk.sizeOf_spec];omega
abbrev AG:=zi tI_3 (zi zI_3 (zi a7 (zi tI_9 (zi zI_9 (zi d9 (zi tI_31 (zi zI_31 (zi aR (zi bO (zi bP (zi cF (zi tI_66 (zi zI_66 (zi b9 (zi cA (zi cB (zi cC bZ)))))))))))))))))
theorem IL:∀(t:Tm) (st:aA),t.small=true→aD prog 102 [t.av] st (fun r st'=>r=t.av∧st'=st)
 | .mk k n s ts,st,hsm=>by
  obtain⟨hlen,oQ⟩:=Tm.o9 hsm
  have IH:=fun(x:Tm) (hx:x∈ts) st=>IL x st (oQ x hx)
  refine aD.pQ (aD.fin ?_)
  simp only[bA]
  refine wF [] 1 func102 ntmps102 rfl rfl ?_
  simp only[dK,AV.fits,dT,aE]
  intro ⟨_,_,_,hl,_⟩
  simp -implicitDefEqProofs only[aB,seval,AG]
  intro b2 hb2 c hc
  have hne:c≠b2:=by rintro rfl;rw[aA.aJ] at hc;cases hc
  have hn2:st c=none:=by rw[aA.aF st _ hne] at hc;exact hc
  simp -implicitDefEqProofs only[aP,aB,seval]
  refine dL (σ:=Nat) [] [1,2,3] ts (fun i b=>(((ts.take i).map (fun y=>y)).map Tm.av≠[]→(aA.aC (st.aC b2 (.cells [AV.int .i64 0,AV.int .i64 0,AV.str ⟨#[]⟩,AV.fslice []])) c (.cells ([AV.int .i64 k,AV.int .i64 n,AV.str s]++ [bS 4 b (((ts.take i).map (fun y=>y)).map Tm.av)]))) b=none)) (fun i b=>[(4,.int .i64 i)]) (fun i b=>kO (st.aC b2 (.cells [AV.int .i64 0,AV.int .i64 0,AV.str ⟨#[]⟩,AV.fslice []])) c b [AV.int .i64 k,AV.int .i64 n,AV.str s] (((ts.take i).map (fun y=>y)).map Tm.av)) (by decide +kernel)
   ⟨0,fun h=>absurd rfl h,aN.mk (by simp -implicitDefEqProofs only[aB,↓aY,seval])⟩ (fun i x b hx hlt bB hdr hinv=>?_) (fun b hge hinv=>?_)
  case refine_1=>
   have hw:=bG (n:=(i:Int)+1)
   have c7:(((ts.take i).map (fun y=>y)).map Tm.av).length=i:=by simp only[aE,dI];omega
   have htk:(ts.take (i+1)).map (fun y=>y)=(ts.take i).map (fun y=>y)++ [(fun y=>y) x]:=by rw[eH,hx];simp
   have hbo:=lM hinv
   simp -implicitDefEqProofs only[aE,bB,aB,seval,AG]
   refine wP [(0,1),(2,1),(4,1),(1,2),(3,2),(5,1),(6,2),(7,2),(8,1),(9,0),(10,1),(11,0)] [0,2,4,1,3,5,6,7,8,10] mixed ?_
   simp -implicitDefEqProofs only[bH (av:=Tm.av) aR hx (aO x),cE,aO,hbo,qR,gU,aB,seval,AG]
   refine kC (IH x (cG hx) _) ?_
   simp -implicitDefEqProofs only[cE,aO,Tm.eN,gU,aB,seval,AG]
   refine f9 aR bO bP rfl rfl (g9 (aO _) (Tm.d5 _)) (iP _) hinv (by simp only[c7,a8,bL];omega) (by simp only[c7,a8,bL];omega) (fun b' hb'=>?_)
   rw[show(((ts.take i).map (fun y=>y)).map Tm.av)++ [((fun y=>y) x).av]=((ts.take (i+1)).map (fun y=>y)).map Tm.av by rw[htk];simp] at hb' ⊢
   obtain⟨g1,g2,g3⟩:=vM hb'
   simp only[gH,eU] at g1 g3
   simp -implicitDefEqProofs only[g3,qS,j5,aP,g1,hw,aB,seval,AG]
   exact⟨b',g2,aN.mk (by simp -implicitDefEqProofs only[aB,seval])⟩
  have hbo:=lM hinv
  rw[dQ] at hinv hbo ⊢
  simp -implicitDefEqProofs only[aE,hge,aB,seval,AG]
  simp -implicitDefEqProofs only[hbo,aB,seval,AG]
  have pX:b2≠c:=dF hne
  have hS:(st.aC b2 (.cells [AV.int .i64 0,AV.int .i64 0,AV.str ⟨#[]⟩,AV.fslice []])) b2≠none:=by rw[aA.aJ];simp
  have h1:=nC hinv hS pX
  rw[aA.aJ] at h1
  simp -implicitDefEqProofs only[h1,j5,aP,aB,seval]
  obtain⟨h2,h3⟩:=t7 (o:=.cells [AV.int .i64 k,AV.int .i64 n,AV.str s,bS 4 b ((ts.map fun y=>y).map Tm.av)]) hinv hS pX
  refine⟨b,_,_,h2,h3,rT _,⟨4,iP _⟩,?_,?_⟩
  · simp only[iK,bR,bQ,f7,oL,nL,D1]
  · exact(((aM.refl _).aC hb2).aC hn2).aC hb2
termination_by t=>SizeOf.sizeOf t
decreasing_by have:=List.sizeOf_lt_of_mem hx;simp only[Tm.mk.sizeOf_spec];omega
end Go.AW
namespace Go.AW
def Tm.k:Tm→Int | .mk k _ _ _=>k
def Tm.n:Tm→Int | .mk _ n _ _=>n
def Tm.s:Tm→ByteArray | .mk _ _ s _=>s
def Tm.ts:Tm→List Tm | .mk _ _ _ ts=>ts
theorem Tm.eta(t:Tm):t=.mk t.k t.n t.s t.ts:=by cases t;rfl
def vr(n:Int):Tm:=.mk 1 n ⟨#[]⟩ []
mutual
def Tm.aK(f:Int→Tm):Tm→Tm
 | .mk k n s ts=>if k=1 then f n else .mk k n s (LU f ts)
def LU(f:Int→Tm):List Tm→List Tm
 | []=>[]
 | t::ts=>t.aK f::LU f ts
end
theorem aM9(f:Int→Tm):∀ts:List Tm,LU f ts=ts.map (Tm.aK f)
 | []=>rfl
 | t::ts=>by simp only[LU,bR,aM9 f ts]
theorem Tm.mK(f:Int→Tm){k n:Int}{s:ByteArray}{ts:List Tm}(h:k=1):(Tm.mk k n s ts).aK f=f n:=by simp only[Tm.aK,h,dX]
theorem Tm.lN(f:Int→Tm){k n:Int}{s:ByteArray}{ts:List Tm}(h:k≠1):(Tm.mk k n s ts).aK f=.mk k n s (ts.map (Tm.aK f)):=by simp only[Tm.aK,h,cS,aM9]
theorem vN(f:Int→Tm)(n:Int):(vr n).aK f=f n:=Tm.mK f rfl
mutual
def Tm.vl:Tm→List Int
 | .mk k n _ ts=>if k=1 then[n] else G8 ts
def G8:List Tm→List Int
 | []=>[]
 | t::ts=>t.vl++G8 ts
end
theorem aNI{v:Int}:∀ {ts:List Tm},v∈G8 ts↔∃t∈ts,v∈t.vl
 | []=>by simp [G8]
 | t::ts=>by simp [G8,aNI (ts:=ts)]
theorem Tm.mV{k n:Int}{s:ByteArray}{ts:List Tm}(h:k=1):(Tm.mk k n s ts).vl= [n]:=by simp only[Tm.vl,h,dX]
theorem Tm.lH{k n v:Int}{s:ByteArray}{ts:List Tm}(h:k≠1):v∈(Tm.mk k n s ts).vl↔∃t∈ts,v∈t.vl:=by simp only[Tm.vl,h,cS,aNI]
theorem xY(n:Int):(vr n).vl= [n]:=Tm.mV rfl
theorem Tm.ind{p:Tm→Prop}(h:∀k n s ts,(∀t∈ts,p t)→p (.mk k n s ts)):∀t,p t
 | .mk k n s ts=>h k n s ts fun t ht=>Tm.ind h t
termination_by t=>SizeOf.sizeOf t
decreasing_by have:=List.sizeOf_lt_of_mem ht;simp only[Tm.mk.sizeOf_spec];omega
theorem p8{f g:Int→Tm}:∀(t:Tm),(∀v∈t.vl,f v=g v)→t.aK f=t.aK g:=by
 intro t
 induction t using Tm.ind with
 | h k n s ts ih=>
  intro h
  by_cases hk:k=1
  · rw[Tm.mK f hk,Tm.mK g hk];exact h n (by rw[Tm.mV hk];simp)
  · rw[Tm.lN f hk,Tm.lN g hk]
    congr 1
    exact qM fun x hx=>ih x hx fun v hv=>h v ((Tm.lH hk).2 ⟨x,hx,hv⟩)
theorem xJ(f g:Int→Tm)(t:Tm):(t.aK f).aK g=t.aK fun v=>(f v).aK g:=by
 induction t using Tm.ind with
 | h k n s ts ih=>
  by_cases hk:k=1
  · rw[Tm.mK f hk,Tm.mK _ hk]
  · rw[Tm.lN f hk,Tm.lN g hk,Tm.lN _ hk,r8]
    congr 1
    exact qM fun x hx=>ih x hx
theorem xX{f:Int→Tm}{w:Int}(t:Tm):w∈(t.aK f).vl↔∃v∈t.vl,w∈(f v).vl:=by
 induction t using Tm.ind with
 | h k n s ts ih=>
  by_cases hk:k=1
  · rw[Tm.mK f hk,Tm.mV hk];simp
  · rw[Tm.lN f hk,Tm.lH hk]
    constructor
    · rintro⟨x,hx,hw⟩
      obtain⟨y,hy,rfl⟩:=bY.1 hx
      obtain⟨v,hv,hvw⟩:=(ih y hy).1 hw
      exact⟨v,(Tm.lH hk).2 ⟨y,hy,hv⟩,hvw⟩
    · rintro⟨v,hv,hw⟩
      obtain⟨y,hy,hvy⟩:=(Tm.lH hk).1 hv
      exact⟨_,bY.2 ⟨y,hy,rfl⟩,(ih y hy).2 ⟨v,hvy,hw⟩⟩
theorem aZK{f:Int→Tm}{v:Int}:∀(t:Tm),v∈t.vl→(f v).nodes≤(t.aK f).nodes∧(t.k≠1→(f v).nodes<(t.aK f).nodes):=by
 intro t
 induction t using Tm.ind with
 | h k n s ts ih=>
  intro hv
  by_cases hk:k=1
  · rw[Tm.mV hk] at hv
    simp only[cQ,dD,dN] at hv
    subst hv
    rw[Tm.mK f hk]
    exact⟨cO _,fun h=>absurd hk h⟩
  · obtain⟨x,hx,hvx⟩:=(Tm.lH hk).1 hv
    have h1:=(ih x hx hvx).1
    have h2:=qF (f:=Tm.nodes) (bY.2 ⟨x,hx,rfl⟩:x.aK f∈ts.map (Tm.aK f))
    rw[Tm.lN f hk,Tm.kG]
    omega
abbrev Sub:=Int→Option Tm
def Sub.set(σ:Sub)(n:Int)(t:Tm):Sub:=fun m=>if m=n then some t else σ m
def Sub.none:Sub:=fun _=>Option.none
structure Good (σ:Sub) (R:Int→Tm) (rk:Int→Nat) (B:Nat):Prop where
 vW:∀n,R n=match σ n with | some u=>u.aK R | .none=>vr n
 GK:∀n u,σ n=some u→∀w∈u.vl,rk w<rk n
 bd:∀n,rk n<B
def qO(θ:Int→Tm)(σ:Sub):Prop:=∀n u,σ n=some u→θ n=u.aK θ
section
variable {σ:Sub} {R R':Int→Tm} {rk rk':Int→Nat} {B B':Nat}
theorem Good.none:Good Sub.none vr (fun _=>0) 1:=⟨fun n=>rfl,fun n u h=>(by cases h),fun n=>Nat.zero_lt_one⟩
theorem Good.free(G:Good σ R rk B){n:Int}(h:σ n=.none):R n=vr n:=by rw[G.vW n,h]
theorem Good.bound(G:Good σ R rk B){n:Int}{u:Tm}(h:σ n=some u):R n=u.aK R:=by rw[G.vW n,h]
theorem Good.vL(G:Good σ R rk B):qO R σ:=fun n u h=>G.bound h
theorem Good.ind(G:Good σ R rk B){p:Int→Prop}(h0:∀n,σ n=.none→p n)(h1:∀n u,σ n=some u→(∀w∈u.vl,p w)→p n):∀n,p n:=by
 intro n
 generalize hk:rk n=k
 induction k using Nat.strongRecOn generalizing n with
 | _ k ih=>
  cases h:σ n with
  | none=>exact h0 n h
  | some u=>exact h1 n u h fun w hw=>ih (rk w) (hk▸G.GK n u h w hw) w rfl
theorem Good.uniq(G:Good σ R rk B)(G':Good σ R' rk' B'):R=R':=by
 funext n
 refine G.ind (p:=fun n=>R n=R' n) (fun n h=>?_) (fun n u h ih=>?_) n
 · rw[G.free h,G'.free h]
 · rw[G.bound h,G'.bound h];exact p8 u ih
theorem Good.aU1(G:Good σ R rk B){θ:Int→Tm}(S:qO θ σ)(n:Int):(R n).aK θ=θ n:=by
 refine G.ind (p:=fun n=>(R n).aK θ=θ n) (fun n h=>?_) (fun n u h ih=>?_) n
 · rw[G.free h,vN]
 · rw[G.bound h,xJ,S n u h];exact p8 u ih
theorem Good.OL(G:Good σ R rk B){θ:Int→Tm}(S:qO θ σ)(t:Tm):(t.aK R).aK θ=t.aK θ:=by
 rw[xJ];exact p8 t fun v _=>G.aU1 S v
theorem Good.canon(G:Good σ R rk B)(n:Int):(R n).aK vr=R n:=by
 refine G.ind (p:=fun n=>(R n).aK vr=R n) (fun n h=>?_) (fun n u h ih=>?_) n
 · rw[G.free h,vN]
 · rw[G.bound h,xJ];exact p8 u ih
theorem Good.aS9(G:Good σ R rk B)(t:Tm):(t.aK R).aK vr=t.aK R:=by
 rw[xJ];exact p8 t fun v _=>G.canon v
theorem Good.bind(G:Good σ R rk B){n:Int}{t:Tm}(hn:σ n=.none)(ho:n∉(t.aK R).vl) :
 ∃rk' B',Good (σ.set n t) (fun m=>(R m).aK fun v=>if v=n then t.aK R else vr v) rk' B':=by
 have key:(t.aK R).aK (fun v=>if v=n then t.aK R else vr v)=t.aK R:=by
  rw[p8 (g:=vr) (t.aK R) (fun v hv=>aG fun e=>ho (by rw[←e];exact hv)),G.aS9]
 refine⟨fun v=>if n∈(R v).vl then rk v+B else rk v,B+B,fun m=>?_,fun m u h w hw=>?_,fun m=>?_⟩
 · by_cases hm:m=n
   · subst hm
     simp only[Sub.set,dX]
     rw[G.free hn,vN,aH rfl]
     rw[←xJ,key]
   · simp only[Sub.set,hm,cS]
     cases h:σ m with
     | none=>rw[G.free h,vN,aG hm]
     | some u=>rw[G.bound h,xJ]
 · by_cases hm:m=n
   · subst hm
     simp only[Sub.set,dX,Option.some.injEq] at h
     subst h
     have hw':m∉(R w).vl:=fun h=>ho ((xX t).2 ⟨w,hw,h⟩)
     have:m∈(R m).vl:=by rw[G.free hn,xY];simp
     have:=G.bd w
     simp only[hw',cS]
     rw[aH (by assumption)]
     omega
   · simp only[Sub.set,hm,cS] at h
     have h1:=G.GK m u h w hw
     by_cases hw':n∈(R w).vl
     · have:n∈(R m).vl:=by rw[G.bound h];exact(xX u).2 ⟨w,hw,hw'⟩
       simp only[hw',this,dX];omega
     · simp only[hw',cS];split<;>omega
 · have:=G.bd m
   split<;>omega
end
open Classical in
noncomputable def rs(σ:Sub):Int→Tm:=if h:∃R rk B,Good σ R rk B then h.choose else vr
theorem Good.rs{σ:Sub}{R:Int→Tm}{rk:Int→Nat}{B:Nat}(G:Good σ R rk B):rs σ=R:=by
 unfold AW.rs
 have h:∃R rk B,Good σ R rk B:=⟨R,rk,B,G⟩
 rw[dif_pos h]
 obtain⟨rk',B',G'⟩:=h.choose_spec
 exact G'.uniq G
inductive fM (σ:Sub):Nat→Tm→Tm→Prop
 | stop {t:Tm} (h:t.k=1→σ t.n=none):fM σ 0 t t
 | go {f:Nat} {t u v:Tm} (h1:t.k=1) (h2:σ t.n=some u) (h3:fM σ f u v):fM σ (f+1) t v
theorem fM.det{σ:Sub}{f g:Nat}{t u v:Tm}(h:fM σ f t u):fM σ g t v→u=v:=by
 induction h generalizing g v with
 | stop h=>
  intro h'
  cases h' with
  | stop=>rfl
  | go h1 h2 h3=>rw[h h1] at h2;cases h2
 | go h1 h2 h3 ih=>
  intro h'
  cases h' with
  | stop h=>rw[h h1] at h2;cases h2
  | go h1' h2' h3'=>rw[h2] at h2';cases h2';exact ih h3'
theorem fM.total{σ:Sub}{R:Int→Tm}{rk:Int→Nat}{B:Nat}(G:Good σ R rk B)(t:Tm):∃f u,fM σ f t u:=by
 have key:∀n,∀t:Tm,t.k=1→t.n=n→∃f u,fM σ f t u:=by
  intro n
  refine G.ind (p:=fun n=>∀t:Tm,t.k=1→t.n=n→∃f u,fM σ f t u) (fun n h t hk hn=>?_) (fun n u h ih t hk hn=>?_) n
  · exact⟨0,t,.stop fun _=>by rw[hn,h]⟩
  · by_cases hu:u.k=1
    · have:u.n∈u.vl:=by rw[Tm.eta u,Tm.mV hu];simp [Tm.n]
      obtain⟨f,v,hv⟩:=ih u.n this u hu rfl
      exact⟨f+1,v,.go hk (by rw[hn,h]) hv⟩
    · exact⟨1,u,.go hk (by rw[hn,h]) (.stop fun h=>absurd h hu)⟩
 by_cases hk:t.k=1
 · exact key t.n t hk rfl
 · exact⟨0,t,.stop fun h=>absurd h hk⟩
theorem Tm.DV{t:Tm}(h:t.k=1):t.vl= [t.n]:=by cases t;exact Tm.mV h
theorem Tm.CT{t:Tm}(f:Int→Tm)(h:t.k=1):t.aK f=f t.n:=by cases t;exact Tm.mK f h
theorem Tm.rJ{t:Tm}(f:Int→Tm)(h:t.k≠1):t.aK f=.mk t.k t.n t.s (t.ts.map (Tm.aK f)):=by cases t;exact Tm.lN f h
theorem fM.end{σ:Sub}{f:Nat}{t u:Tm}(h:fM σ f t u):u.k=1→σ u.n=none:=by induction h with | stop h=>exact h | go _ _ _ ih=>exact ih
theorem fM.aK{σ:Sub}{θ:Int→Tm}(S:qO θ σ){f:Nat}{t u:Tm}(h:fM σ f t u):u.aK θ=t.aK θ:=by
 induction h with
 | stop=>rfl
 | go h1 h2 _ ih=>rw[ih,Tm.CT θ h1,S _ _ h2]
theorem fM.GK{σ:Sub}{R:Int→Tm}{rk:Int→Nat}{B:Nat}(G:Good σ R rk B){f:Nat}{t u:Tm}(h:fM σ f t u):∀w∈u.vl,∃v∈t.vl,rk w≤rk v∧(f≠0→rk w<rk v):=by
 induction h with
 | stop h=>exact fun w hw=>⟨w,hw,cO _,fun h=>absurd rfl h⟩
 | @go f t u v h1 h2 _ ih=>
  intro w hw
  obtain⟨x,hx,hle,_⟩:=ih w hw
  have:=G.GK _ _ h2 x hx
  exact⟨t.n,by rw[Tm.DV h1];simp,by omega,fun _=>by omega⟩
theorem fM.all{σ:Sub}{p:Tm→Prop}(hp:∀n u,σ n=some u→p u){f:Nat}{t u:Tm}(h:fM σ f t u)(ht:p t):p u:=by
 induction h with
 | stop=>exact ht
 | go _ h2 _ ih=>exact ih (hp _ _ h2)
open Classical in
noncomputable def wk(σ:Sub)(t:Tm):Tm:=if h:∃u f,fM σ f t u then h.choose else t
theorem fM.wk{σ:Sub}{f:Nat}{t u:Tm}(h:fM σ f t u):wk σ t=u:=by
 unfold AW.wk
 have h':∃u f,fM σ f t u:=⟨u,f,h⟩
 rw[dif_pos h']
 obtain⟨g,hg⟩:=h'.choose_spec
 exact hg.det h
theorem Good.wk{σ:Sub}{R:Int→Tm}{rk:Int→Nat}{B:Nat}(G:Good σ R rk B)(t:Tm):∃f,fM σ f t (wk σ t):=by
 obtain⟨f,u,h⟩:=fM.total G t
 exact⟨f,by rw[h.wk];exact h⟩
open Classical in
noncomputable def jO(σ:Sub)(n:Int)(t:Tm):Bool×Sub×List Int:=if n∈(t.aK (rs σ)).vl then(false,σ,[]) else(true,σ.set n t,[n])
open Classical in
def tV(a b:Tm):Bool:=decide (a.k=b.k)&&decide (a.n=b.n)&&decide (a.s=b.s)&&decide (a.ts.length=b.ts.length)
mutual
noncomputable def c9:Nat→Sub→Tm→Tm→Option (Bool×Sub×List Int)
 | 0,_,_,_=>none
 | g+1,σ,a,b=>
  if(wk σ a).k=1∧(wk σ b).k=1∧(wk σ a).n=(wk σ b).n then some (true,σ,[])
  else if(wk σ a).k=1 then some (jO σ (wk σ a).n (wk σ b))
  else if(wk σ b).k=1 then some (jO σ (wk σ b).n (wk σ a))
  else if tV (wk σ a) (wk σ b)=true then dR g σ (wk σ a).ts (wk σ b).ts
  else some (false,σ,[])
termination_by g=>(g,0)
noncomputable def dR:Nat→Sub→List Tm→List Tm→Option (Bool×Sub×List Int)
 | g,σ,a::xs,b::ys=>match c9 g σ a b with
  | none=>none
  | some (false,σ',tr)=>some (false,σ',tr)
  | some (true,σ',tr)=>match dR g σ' xs ys with
   | none=>none
   | some (r,σ'',tr')=>some (r,σ'',tr++tr')
 | _,σ,_,_=>some (true,σ,[])
termination_by g _ xs=>(g,xs.length+1)
end
theorem MD{g:Nat}{σ σ':Sub}{a b:Tm}{r:Bool}{add:List Int}(h:c9 (g+1) σ a b=some (r,σ',add)) :
 ((wk σ a).k=1∧(wk σ b).k=1∧(wk σ a).n=(wk σ b).n∧true=r∧σ=σ'∧[]=add) ∨
 ((wk σ a).k=1∧¬((wk σ b).k=1∧(wk σ a).n=(wk σ b).n)∧jO σ (wk σ a).n (wk σ b)=(r,σ',add)) ∨
 ((wk σ a).k≠1∧(wk σ b).k=1∧jO σ (wk σ b).n (wk σ a)=(r,σ',add)) ∨
 ((wk σ a).k≠1∧(wk σ b).k≠1∧tV (wk σ a) (wk σ b)=true∧dR g σ (wk σ a).ts (wk σ b).ts=some (r,σ',add)) ∨
 ((wk σ a).k≠1∧(wk σ b).k≠1∧tV (wk σ a) (wk σ b)=false∧false=r∧σ=σ'∧[]=add):=by
 rw[c9] at h
 split at h
 · rename_i h1;exact .inl ⟨h1.1,h1.2.1,h1.2.2,by simpa using h⟩
 · rename_i h1
   split at h
   · rename_i h2;exact .inr (.inl ⟨h2,fun h3=>h1 ⟨h2,h3⟩,mZ h⟩)
   · rename_i h2
     split at h
     · rename_i h3;exact .inr (.inr (.inl ⟨h2,h3,mZ h⟩))
     · rename_i h3
       split at h
       · rename_i h4;exact .inr (.inr (.inr (.inl ⟨h2,h3,h4,h⟩)))
       · rename_i h4;exact .inr (.inr (.inr (.inr ⟨h2,h3,by simpa using h4,by simpa using h⟩)))
theorem Tm.soft(t:Tm):t.av.soft=t.av:=by cases t;simp [bA,AV.soft,nX]
theorem Tm.yY(t:Tm)(b:Nat):t.av.fin b []=t.av:=Tm.soft t
abbrev Bd:=Int×Tm
def aHQ:List Bd→Int→Option Tm
 | [],_=>none
 | (m,x)::r,n=>if m=n then some x else aHQ r n
def RN(bs:List Bd)(n:Int):Tm:=(aHQ bs n).getD (vr n)
def Tm.zero:Tm:=.mk 0 0 ⟨#[]⟩ []
mutual
def Tm.cv:Tm→Bool
 | .mk k _ s ts=>(!decide (k=1)||(decide (s=⟨#[]⟩)&&ts.isEmpty))&&LR ts
def LR:List Tm→Bool
 | []=>true
 | t::ts=>t.cv&&LR ts
end
theorem aM6:∀(ts:List Tm),LR ts=ts.all Tm.cv
 | []=>rfl
 | t::ts=>by simp only[LR,jI,aM6 ts]
theorem Tm.pP{k n:Int}{s:ByteArray}{ts:List Tm}:(Tm.mk k n s ts).cv=true↔(k=1→s=⟨#[]⟩∧ts= [])∧∀x∈ts,x.cv=true:=by
 simp only[Tm.cv,aM6,cT,n7,gW,cM,List.isEmpty_iff,eD,bM]
 constructor
 · exact fun h=>⟨fun hk=>h.1.resolve_left (fun hn=>hn hk),h.2⟩
 · intro h
   refine⟨?_,h.2⟩
   by_cases hk:k=1
   · exact .inr (h.1 hk)
   · exact .inl hk
theorem Tm.tM:∀(t:Tm),t.cv=true→t.wf=true:=by
 intro t
 induction t using Tm.ind with
 | h k n s ts ih=>
  intro h
  obtain⟨h1,h2⟩:=Tm.pP.1 h
  simp only[Tm.wf,ST,cT,n7,gW,cM,List.isEmpty_iff,eD]
  refine⟨?_,fun x hx=>ih x hx (h2 x hx)⟩
  by_cases hk:k=1
  · exact .inr (h1 hk).2
  · exact .inl hk
theorem Tm.a1F:∀(t:Tm) (d:Int),t.shape d=true→t.small=true:=by
 intro t
 induction t using Tm.ind with
 | h k n s ts ih=>
  intro d h
  rw[Tm.GS] at h
  simp only[cT,eD] at h
  obtain⟨⟨_,h1⟩,h2⟩:=h
  simp only[Tm.small,G7,cT,bM,eD]
  refine⟨?_,fun x hx=>ih x hx _ (h2 x hx)⟩
  unfold eM at h1
  cases h3:decide (k=1)<;>rw[h3] at h1
  · cases h4:decide (k=2)<;>rw[h4] at h1
    · cases h5:decide (k=3)<;>rw[h5] at h1<;>simp at h1;omega
    · simp at h1;rw[h1.2];simp
  · simp at h1;rw[h1.2];simp
theorem Tm.MH{t:Tm}(h:t.valid=true):t.small=true:=by simp only[Tm.valid,cT] at h;exact Tm.a1F t 30 h.1
def nS{α:Type}(p:α→Bool):List α→Int→Int
 | [],_=> -1
 | x::xs,i=>if p x=true then i else nS p xs (i+1)
theorem P5{α:Type}(p:α→Bool):∀(l:List α) (i:Int),0≤i→(nS p l i= -1∧l.any p=false)∨∃(j:Nat) (x:α),nS p l i=i+j∧l[j]?=some x∧p x=true∧l.any p=true∧∀(k:Nat) y,k<j→l[k]?=some y→p y=false
 | [],i,_=>.inl ⟨rfl,rfl⟩
 | x::xs,i,h=>by
  by_cases hp:p x=true
  · exact .inr ⟨0,x,by simp [nS,hp],rfl,hp,by simp [hp],fun k y hk=>absurd hk (Nat.not_lt_zero k)⟩
  · rcases P5 p xs (i+1) (by omega) with ⟨h1,h2⟩ | ⟨j,y,h1,h2,h3,h4,h5⟩
    · exact .inl ⟨by simp [nS,hp,h1],by simp [hp,h2]⟩
    · refine .inr ⟨j+1,y,by simp only[nS,hp,h1];simp;omega,by simpa using h2,h3,by simp [h4],fun k z hk hz=>?_⟩
      cases k with
      | zero=>simp at hz;subst hz;simpa using hp
      | succ k=>exact h5 k z (by omega) (by simpa using hz)
theorem aX5{α:Type}(p:α→Bool)(l:List α):decide (0≤nS p l 0)=l.any p:=by
 rcases P5 p l 0 (Int.le_refl 0) with ⟨h1,h2⟩ | ⟨j,y,h1,_,_,h4,_⟩
 · rw[h1,h2];try rfl
 · rw[h1,h4];simp
end Go.AW
namespace Go.AW
open Go.Proofs.Tryz
abbrev a2P:=zi tI_3 (zi zI_3 (zi a7 (zi tI_4 (zi zI_4 (zi cL (zi tI_9 (zi zI_9 (zi d9 (zi tI_31 (zi zI_31 (zi aR (zi bO (zi bP (zi cF (zi tI_66 (zi zI_66 (zi b9 (zi cA (zi cB (zi cC bZ))))))))))))))))))))
theorem aRU(k n:Int)(s:ByteArray)(ts:List Tm)(st:aA):aD prog 262 [(Tm.mk k n s ts).av] st (fun r st'=>r=.bool (eM k n s ts.length)∧st'=st):=by
 refine wF [] 1 func262 ntmps262 rfl rfl ?_
 intro _
 simp only[bA]
 have hl:(ts.map Tm.av).length=ts.length:=aE _
 repeat' (first
  | (simp -implicitDefEqProofs only[*,aB,seval,a2P])
  | (refine cU (fun h=>?_) (fun h=>?_))
  | (refine(aST s st).to ?_)
  | (refine aT (fun h=>?_) (fun h=>?_)))
 all_goals simp only[eM, *,cond_true,cond_false,mC,iY,mB,x8,AT]
abbrev K9:=zi tI_3 (zi zI_3 (zi a7 (zi tI_4 (zi zI_4 (zi cL (zi tI_31 (zi zI_31 (zi aR (zi bO (zi bP (zi cF (zi tI_66 (zi zI_66 (zi b9 (zi cA (zi cB (zi cC bZ)))))))))))))))))
theorem VS:∀(t:Tm) (d:Int) (st:aA),d≤30→-1≤d→aD prog 193 [t.av,.int .i64 d] st (fun r st'=>r=.bool (t.shape d)∧st'=st)
 | .mk k n s ts,d,st,hd,hd0=>by
  have hc:=fun(x:Tm) (hx:x∈ts) d st h h0=>VS x d st h h0
  have h1:=aRU k n s ts st
  rw[bA] at h1
  refine wF [] 2 func193 ntmps193 rfl rfl ?_
  simp only[bA,dK,AV.fits,dT,aE,Tm.GS]
  intro ⟨_,_,_,hl,_⟩
  generalize eM k n s ts.length=z at *
  simp -implicitDefEqProofs only[aB,seval,K9]
  refine cU (fun h=>?_) (fun h=>?_)
  case refine_2=>
   simp -implicitDefEqProofs only[h,aB,seval]
   simp only[uI,bM] at h
   simp;omega
  simp -implicitDefEqProofs only[h,aB,seval,K9]
  refine h1.to ?_
  simp -implicitDefEqProofs only[aB,seval]
  refine⟨fun h2=>?_,fun h2=>?_⟩
  · simp -implicitDefEqProofs only[aB,seval]
    simp only[gW] at h2
    simp [h2]
  simp only[kJ,cM] at h2 h
  subst h2
  have hw:=bG (n:=d - 1)
  rw[show decide (1≤d)=true by simp;omega]
  simp -implicitDefEqProofs only[aB,seval]
  refine n6 (α:=Nat) [] (fun i=>i≤ts.length∧∀(j:Nat) x,j<i→ts[j]?=some x→x.shape (d - 1)=true)
   (fun i=>[(1,.int .i64 d),(2,.pptr (.agg [.int .i64 k,.int .i64 n,.str s,.slice (ts.map Tm.av)])),(5,.int .i64 i)]) (fun _=>st) (fun i=>ts.length - i) (by decide +kernel)
   ⟨0,⟨by omega,by intro j x h;omega⟩,aN.mk (by simp -implicitDefEqProofs only[aB,↓aY,seval])⟩ ?_
  intro i ⟨hi,dC⟩
  simp -implicitDefEqProofs only[aE,aB,seval,K9]
  refine⟨fun h5=>?_,fun h5=>?_⟩
  case refine_2=>
   simp -implicitDefEqProofs only[aB,seval]
   simp only[cM,gX] at h5
   rw[H3 fun j x hx=>dC j x (by have:=(eE.1 hx).1;omega) hx]
  simp only[bM,gX] at h5
  obtain⟨x,hx⟩:∃x,ts[i]?=some x:=⟨_,dZ h5⟩
  simp -implicitDefEqProofs only[bH (av:=Tm.av) aR hx (aO x),cE,aO,hw,aB,seval,K9]
  refine(hc x (cG hx) (d - 1) st (by omega) (by omega)).to ?_
  simp -implicitDefEqProofs only[aB,seval]
  refine⟨fun h6=>?_,fun h6=>?_⟩
  · simp -implicitDefEqProofs only[aB,seval]
    simp only[gW] at h6
    rw[uU hx h6]
  simp only[kJ] at h6
  simp -implicitDefEqProofs only[aB,seval]
  refine⟨i+1,by omega,⟨by omega,fun j u hj hu=>?_⟩,aN.mk ?_⟩
  · rcases lI j i with h8 | h8
    · exact dC j u h8 hu
    · obtain rfl:j=i:=by omega
      rw[hx] at hu;cases hu;exact h6
  · have:=bG (n:=(i:Int)+1)
    simp -implicitDefEqProofs only[this,aB,seval]
termination_by t=>SizeOf.sizeOf t
decreasing_by have:=List.sizeOf_lt_of_mem hx;simp only[Tm.mk.sizeOf_spec];omega
abbrev R8:=zi tI_3 (zi zI_3 (zi a7 (zi tI_31 (zi zI_31 (zi aR (zi bO (zi bP (zi cF (zi tI_66 (zi zI_66 (zi b9 (zi cA (zi cB (zi cC bZ))))))))))))))
theorem VQ:∀(t:Tm) (m:Int) (st:aA),0≤m→m≤120→aD prog 194 [t.av,.int .i64 m] st (fun r st'=>r=.int .i64 (min (t.nodes:Int) (m+1))∧st'=st)
 | .mk k n s ts,m,st,hm0,hm=>by
  have hc:=fun(x:Tm) (hx:x∈ts) m st h h0=>VQ x m st h h0
  refine wF [] 2 func194 ntmps194 rfl rfl ?_
  simp only[bA,dK,AV.fits,dT,aE,Tm.kG]
  intro ⟨_,_,_,hl,_⟩
  simp -implicitDefEqProofs only[aB,seval,R8]
  refine n6 (α:=Nat) [] (fun i=>i≤ts.length)
   (fun i=>[(1,.int .i64 m),(2,.pptr (.agg [.int .i64 k,.int .i64 n,.str s,.slice (ts.map Tm.av)])),(5,.int .i64 (min ((1+aL Tm.nodes (ts.take i):Nat):Int) (m+1))),(6,.int .i64 i)]) (fun _=>st) (fun i=>ts.length - i) (by decide +kernel)
   ⟨0,by omega,aN.mk (by simp -implicitDefEqProofs only[jJ,aL,show min ((0:Int)+1) (m+1)=1 by omega,vA,↓HK,↓reduceIte,reduceCtorEq,Nat.reduceEqDiff,Nat.reduceAdd])⟩ ?_
  intro i hi
  simp -implicitDefEqProofs only[aE,aB,seval,R8]
  have PL:¬i<ts.length→aL Tm.nodes (ts.take i)=aL Tm.nodes ts:=fun h=>by rw[mY (by omega)]
  refine cU (fun h5=>?_) (fun h5=>?_)
  case refine_2=>
   simp -implicitDefEqProofs only[h5,aB,seval]
   simp only[mC,cM,gX] at h5
   rw[PL h5]
  simp -implicitDefEqProofs only[h5,aB,seval]
  simp only[bM,gX] at h5
  obtain⟨x,hx⟩:∃x,ts[i]?=some x:=⟨_,dZ h5⟩
  have hs:=uD Tm.nodes hx
  refine⟨fun h6=>?_,fun h6=>?_⟩
  case refine_2=>
   simp -implicitDefEqProofs only[aB,seval]
   simp only[cM] at h6
   simp only[AV.int.injEq,true_and]
   omega
  simp only[bM] at h6
  have e6:min (((1+aL Tm.nodes (ts.take i):Nat):Int)) (m+1)=((1+aL Tm.nodes (ts.take i):Nat):Int):=by omega
  rw[e6] at h6 ⊢
  have hw:=bG (n:=m - ((1+aL Tm.nodes (ts.take i):Nat):Int))
  simp -implicitDefEqProofs only[bH (av:=Tm.av) aR hx (aO x),cE,aO,hw,aB,seval,R8]
  refine(hc x (cG hx) _ st (by omega) (by omega)).to ?_
  have hw2:=bG (n:=((1+aL Tm.nodes (ts.take i):Nat):Int)+min (x.nodes:Int) (m - ((1+aL Tm.nodes (ts.take i):Nat):Int)+1))
  simp -implicitDefEqProofs only[hw2,aB,seval]
  refine⟨i+1,by omega,by omega,aN.mk ?_⟩
  have:=bG (n:=(i:Int)+1)
  simp -implicitDefEqProofs only[this,show((1+aL Tm.nodes (ts.take i):Nat):Int)+min (x.nodes:Int) (m - ((1+aL Tm.nodes (ts.take i):Nat):Int)+1)=min ((1+aL Tm.nodes (ts.take (i+1)):Nat):Int) (m+1) by omega,aB,seval]
termination_by t=>SizeOf.sizeOf t
decreasing_by have:=List.sizeOf_lt_of_mem hx;simp only[Tm.mk.sizeOf_spec];omega
abbrev aME:=zi tI_3 (zi zI_3 (zi a7 (zi tI_4 (zi zI_4 (zi cL (zi tI_66 (zi zI_66 (zi b9 (zi cA (zi cB (zi cC bZ)))))))))))
theorem N2(t:Tm)(st:aA):aD prog 117 [t.av] st (fun r st'=>r=.bool t.valid∧st'=st):=by
 refine wF [] 1 func117 ntmps117 rfl rfl ?_
 intro _
 simp -implicitDefEqProofs only[Tm.eN,cE,aO,aB,seval,aME]
 refine(VS t 30 st (by omega) (by omega)).to ?_
 simp -implicitDefEqProofs only[aB,seval]
 refine cU (fun h=>?_) (fun h=>?_)
 · simp -implicitDefEqProofs only[h,cE,aO,aB,seval,aME]
   refine(VQ t 120 st (by omega) (by omega)).to ?_
   simp -implicitDefEqProofs only[aB,seval]
   simp only[Tm.valid,h,iY,AV.bool.injEq,decide_eq_decide]
   omega
 · simp -implicitDefEqProofs only[h,aB,seval]
   simp at h
   simp [Tm.valid,h]
abbrev a2O:=zi tI_3 (zi zI_3 (zi a7 (zi tI_4 (zi zI_4 (zi cL (zi tI_9 (zi zI_9 (zi d9 (zi tI_31 (zi zI_31 (zi aR (zi bO (zi bP (zi cF (zi tI_66 (zi zI_66 (zi b9 (zi cA (zi cB (zi cC bZ))))))))))))))))))))
theorem VV(k n:Int)(s:ByteArray)(ts:List Tm)(st:aA):aD prog 269 [(Tm.mk k n s ts).av] st (fun r st'=>r=.bool (decide (k=3)&&decide (s=⟨#[33]⟩)&&decide ((ts.length:Int)=0))∧st'=st):=by
 refine wF [] 1 func269 ntmps269 rfl rfl ?_
 intro _
 simp only[bA]
 repeat' (first
  | (simp -implicitDefEqProofs only[*,aB,seval,a2O])
  | (refine cU (fun h=>?_) (fun h=>?_))
  | (refine aT (fun h=>?_) (fun h=>?_)))
 all_goals simp only[*,aE,mB]
abbrev aMD:=zi tI_4 (zi zI_4 (zi cL (zi tI_9 (zi zI_9 (zi d9 (zi tI_66 (zi zI_66 (zi b9 (zi cA (zi cB (zi cC bZ)))))))))))
theorem VL(k n:Int)(s:ByteArray)(ts:List Tm)(st:aA):aD prog 122 [(Tm.mk k n s ts).av] st (fun r st'=>r=.bool (decide (k=3)&&decide ((ts.length:Int)=0)&&decide (s=⟨#[33]⟩))∧st'=st):=by
 have h1:=ES k n s ts st
 rw[bA] at h1
 refine wF [] 1 func122 ntmps122 rfl rfl ?_
 intro _
 simp only[bA]
 simp -implicitDefEqProofs only[aB,seval,aMD]
 refine h1.to ?_
 clear h1
 repeat' (first
  | (simp -implicitDefEqProofs only[*,aB,seval,aMD])
  | (refine cU (fun h=>?_) (fun h=>?_))
  | (refine aT (fun h=>?_) (fun h=>?_)))
 all_goals simp_all
abbrev aMC:=zi tI_3 (zi zI_3 (zi a7 (zi tI_4 (zi zI_4 (zi cL (zi tI_9 (zi zI_9 (zi d9 (zi tI_31 (zi zI_31 (zi aR (zi bO (zi bP (zi cF (zi tI_66 (zi zI_66 (zi b9 (zi cA (zi cB (zi cC bZ))))))))))))))))))))
theorem NS(k n:Int)(s:ByteArray)(ts:List Tm)(st:aA):aD prog 121 [(Tm.mk k n s ts).av] st (fun r st'=>r=.bool (decide (k=3)&&isBuiltin s (ts.length:Int))∧st'=st):=by
 have h1:=aRA s ts.length st
 refine wF [] 1 func121 ntmps121 rfl rfl ?_
 intro _
 simp only[bA]
 simp -implicitDefEqProofs only[aB,seval,aMC]
 refine cU (fun h=>?_) (fun h=>?_)
 · simp -implicitDefEqProofs only[h,aE,aB,seval,aMC]
   refine h1.to ?_
   clear h1
   simp -implicitDefEqProofs only[aB,seval]
 · simp -implicitDefEqProofs only[h,aB,seval]
   simp at h
   simp []
def qB(k:Int)(s:ByteArray)(len:Int):Bool:=decide (k=3)&&sU s&& !isBuiltin s len&&decide ((jD s:Int)=0)
abbrev a2M:=zi tI_3 (zi zI_3 (zi a7 (zi tI_4 (zi zI_4 (zi cL (zi tI_9 (zi zI_9 (zi d9 (zi tI_66 (zi zI_66 (zi b9 (zi cA (zi cB (zi cC bZ))))))))))))))
theorem VO(k n:Int)(s:ByteArray)(ts:List Tm)(st:aA):aD prog 120 [(Tm.mk k n s ts).av] st (fun r st'=>r=.bool (qB k s (ts.length:Int))∧st'=st):=by
 have h1:=NS k n s ts st
 rw[bA] at h1
 have e:decide ((0:Int)<(jD s:Int))= !decide ((jD s:Int)=0):=by
  by_cases h:jD s=0
  · simp [h]
  · simp [h];omega
 have e3:∀b:Bool,k=3→(decide (k=3)&&b)=b:=fun b h=>by simp [h]
 refine wF [] 1 func120 ntmps120 rfl rfl ?_
 intro _
 simp only[bA]
 repeat' (first
  | (simp -implicitDefEqProofs only[*,aB,seval,a2M])
  | (refine cU (fun h=>?_) (fun h=>?_))
  | (refine(VM s st).to ?_) | (refine(aRG s st).to ?_) | (refine h1.to ?_)
  | (refine aT (fun h=>?_) (fun h=>?_)))
 all_goals (clear h1;simp_all [qB])
abbrev a2L:=zi tI_3 (zi zI_3 (zi a7 (zi tI_4 (zi zI_4 (zi cL (zi tI_9 (zi zI_9 (zi d9 (zi tI_31 (zi zI_31 (zi aR (zi bO (zi bP (zi cF (zi tI_66 (zi zI_66 (zi b9 (zi cA (zi cB (zi cC bZ))))))))))))))))))))
theorem VW(k n:Int)(s:ByteArray)(ts:List Tm)(st:aA):aD prog 118 [(Tm.mk k n s ts).av] st (fun r st'=>r=.bool (qB k s (ts.length:Int))∧st'=st):=by
 refine wF [] 1 func118 ntmps118 rfl rfl ?_
 intro _
 simp only[bA]
 have hl:(ts.map Tm.av).length=ts.length:=aE _
 repeat' (first
  | (simp -implicitDefEqProofs only[*,aB,seval,a2L])
  | (refine cU (fun h=>?_) (fun h=>?_))
  | (refine(VT s st).to ?_) | (refine(N1 s _ st).to ?_) | (refine(VU s st).to ?_)
  | (refine aT (fun h=>?_) (fun h=>?_)))
 all_goals simp_all [qB]
def xA(k:Int)(s:ByteArray)(len:Int):Bool:=(decide (k=3)&&decide (s=⟨#[33]⟩)&&decide (len=0))||qB k s len||(decide (k=3)&&isBuiltin s len)
abbrev a2N:=zi tI_3 (zi zI_3 (zi a7 (zi tI_4 (zi zI_4 (zi cL (zi tI_9 (zi zI_9 (zi d9 (zi tI_31 (zi zI_31 (zi aR (zi bO (zi bP (zi cF (zi tI_66 (zi zI_66 (zi b9 (zi cA (zi cB (zi cC bZ))))))))))))))))))))
theorem aR0(k n:Int)(s:ByteArray)(ts:List Tm)(st:aA):aD prog 235 [(Tm.mk k n s ts).av] st (fun r st'=>r=.bool (xA k s (ts.length:Int))∧st'=st):=by
 have h1:=VV k n s ts st
 have h2:=VW k n s ts st
 rw[bA] at h1 h2
 refine wF [] 1 func235 ntmps235 rfl rfl ?_
 intro _
 simp only[bA]
 have hl:(ts.map Tm.av).length=ts.length:=aE _
 unfold xA
 generalize (decide (k=3)&&decide (s=⟨#[33]⟩)&&decide ((ts.length:Int)=0))=z1 at *
 generalize qB k s (ts.length:Int)=z2 at *
 repeat' (first
  | (simp -implicitDefEqProofs only[*,aB,seval,a2N])
  | (refine cU (fun h=>?_) (fun h=>?_))
  | (refine h1.to ?_) | (refine h2.to ?_) | (refine(N1 s _ st).to ?_)
  | (refine aT (fun h=>?_) (fun h=>?_)))
 all_goals (clear h1 h2;simp_all)
theorem a3W{st:aA}{b:Nat}{o:AO}(h:st b=some o):st.aC b o=st:=by
 funext x;simp only[aA.aC];split
 · rename_i e;rw[e,h]
 · rfl
def GR(ok:Bool)(c n:Int)(b:Nat)(st:aA)(r:AV)(st':aA):Prop:=
 ∃c',r=.bool (decide (c+n≤120)&&ok)∧st'=st.aC b (.cells [.int .i64 c'])∧((decide (c+n≤120)&&ok)=true→c'=c+n)
abbrev a2Q:=zi tI_3 (zi zI_3 (zi a7 (zi tI_4 (zi zI_4 (zi cL (zi tI_66 (zi zI_66 (zi b9 (zi cA (zi cB (zi cC (zi bZ (zi tI_202 zI_202)))))))))))))
theorem aSP(x:Tm)(d c:Int)(b:Nat)(st:aA)(hd: -1000≤d)(hd1:d≤1000)
 (h:aD prog 192 [x.av,.int .i64 (d+1),.ptr b 0] st (GR (x.shape (30 - d)) c x.nodes b st)) :
 aD prog 261 [x.av,.pptr (.int .i64 d),.pptr (.ptr b 0)] st (fun r st'=>∃c',r=.bool (!(decide (c+x.nodes≤120)&&x.shape (30 - d)))∧st'=st.aC b (.cells [.int .i64 c'])∧((decide (c+(x.nodes:Int)≤120)&&x.shape (30 - d))=true→c'=c+x.nodes)):=by
 have hw:=bG (n:=d+1)
 refine wF [] 3 func261 ntmps261 rfl rfl ?_
 intro _
 simp -implicitDefEqProofs only[hw,Tm.eN,cE,aO,aB,seval,a2Q]
 refine h.mono ?_
 rintro _ _ ⟨c',rfl,rfl,hc⟩
 simp -implicitDefEqProofs only[aB,seval]
 refine⟨c',?_⟩
 first | exact hc | exact⟨rfl,rfl,hc⟩ | exact⟨rfl,hc⟩ | trace_state
abbrev aMF:=zi tI_3 (zi zI_3 (zi a7 (zi tI_31 (zi zI_31 (zi aR (zi bO (zi bP (zi cF (zi tI_66 (zi zI_66 (zi b9 (zi cA (zi cB (zi cC bZ))))))))))))))
theorem aQH(l:List Tm)(d c:Int)(b:Nat)(st:aA)(hd: -1000≤d)(hd1:d≤1000)(hb:st b=some (.cells [.int .i64 c]))(hc0:0≤c)(hc1:c≤120)
 (h:∀x∈l,∀(c:Int) (st:aA),st b=some (.cells [.int .i64 c])→0≤c→c≤120→aD prog 192 [x.av,.int .i64 (d+1),.ptr b 0] st (GR (x.shape (30 - d)) c x.nodes b st)) :
 aD prog 218 [.slice (l.map Tm.av),.func 261 [.pptr (.int .i64 d),.pptr (.ptr b 0)]] st
  (fun r st'=>∃j c',r=.int .i64 j∧decide (0≤j)=(!(decide (c+(aL Tm.nodes l:Int)≤120)&&l.all fun t=>t.shape (30 - d)))∧st'=st.aC b (.cells [.int .i64 c'])∧(decide (0≤j)=false→c'=c+(aL Tm.nodes l:Int))):=by
 refine wF [] 2 func218 ntmps218 rfl rfl ?_
 simp only[dK,AV.fits,dT,aE]
 intro ⟨hl,_⟩
 simp -implicitDefEqProofs only[aE,aB,seval,aMF]
 refine n6 (α:=Nat) [] (fun i=>i≤l.length∧c+(aL Tm.nodes (l.take i):Int)≤120∧∀(j:Nat) x,j<i→l[j]?=some x→x.shape (30 - d)=true)
  (fun i=>[(0,.slice (l.map Tm.av)),(1,.func 261 [.pptr (.int .i64 d),.pptr (.ptr b 0)]),(7,.int .i64 l.length),(8,.int .i64 i)]) (fun i=>st.aC b (.cells [.int .i64 (c+(aL Tm.nodes (l.take i):Int))])) (fun i=>l.length - i) (by decide +kernel)
  ⟨0,⟨by omega,by simp only[jJ,aL];omega,by intro j x h;omega⟩,by
   simp only[jJ,aL]
   rw[show c+((0:Nat):Int)=c by omega,a3W hb]
   exact aN.mk (by simp -implicitDefEqProofs only[aB,↓aY,seval])⟩ ?_
 intro i ⟨hi,xH,dC⟩
 simp -implicitDefEqProofs only[aB,seval]
 refine⟨fun h5=>?_,fun h5=>?_⟩
 case refine_2=>
  simp -implicitDefEqProofs only[aB,seval]
  simp only[cM,gX] at h5
  rw[mY (by omega)] at xH ⊢
  have ha:(l.all fun t=>t.shape (30 - d))=true:=H3 fun j x hx=>dC j x (by have:=(eE.1 hx).1;omega) hx
  exact⟨-1,_,rfl,by rw[ha];simp<;>omega,rfl,fun _=>rfl⟩
 simp only[bM,gX] at h5
 obtain⟨x,hx⟩:∃x,l[i]?=some x:=⟨_,dZ h5⟩
 have hs:=uD Tm.nodes hx
 simp -implicitDefEqProofs only[bH (av:=Tm.av) aR hx (aO x),cE,aO,aB,seval,aMF]
 refine(aSP x d (c+(aL Tm.nodes (l.take i):Int)) b _ hd hd1 (h x (cG hx) _ _ (aA.aJ _ _ _) (by omega) xH)).mono ?_
 rintro _ _ ⟨c',rfl,rfl,hc'⟩
 simp -implicitDefEqProofs only[eA,aB,seval]
 refine⟨fun h6=>?_,fun h6=>?_⟩
 · simp -implicitDefEqProofs only[aB,seval]
   refine⟨i,c',rfl,?_,rfl,fun h7=>absurd h7 (by simp)⟩
   simp only[gW,Bool.and_eq_false_iff,cM] at h6
   rcases h6 with h6 | h6
   · rw[show decide (c+(aL Tm.nodes l:Int)≤120)=false by simp;omega]
     simp
   · rw[uU hx h6]
     simp
 simp only[kJ] at h6
 rw[hc' h6]
 simp only[cT,bM] at h6
 simp -implicitDefEqProofs only[aB,seval]
 refine⟨i+1,by omega,⟨by omega,by omega,fun j u hj hu=>?_⟩,?_⟩
 · rcases lI j i with h8 | h8
   · exact dC j u h8 hu
   · obtain rfl:j=i:=by omega
     rw[hx] at hu;cases hu;exact h6.2
 · rw[show c+(aL Tm.nodes (l.take i):Int)+(x.nodes:Int)=c+(aL Tm.nodes (l.take (i+1)):Int) by omega]
   have:=bG (n:=(i:Int)+1)
   exact aN.mk (by simp -implicitDefEqProofs only[this,aB,seval])
theorem aP9(l:List Tm)(d c:Int)(b:Nat)(st:aA)(hd: -1000≤d)(hd1:d≤1000)(hb:st b=some (.cells [.int .i64 c]))(hc0:0≤c)(hc1:c≤120)
 (h:∀x∈l,∀(c:Int) (st:aA),st b=some (.cells [.int .i64 c])→0≤c→c≤120→aD prog 192 [x.av,.int .i64 (d+1),.ptr b 0] st (GR (x.shape (30 - d)) c x.nodes b st)) :
 aD prog 147 [.slice (l.map Tm.av),.func 261 [.pptr (.int .i64 d),.pptr (.ptr b 0)]] st
  (fun r st'=>∃c',r=.bool (!(decide (c+(aL Tm.nodes l:Int)≤120)&&l.all fun t=>t.shape (30 - d)))∧st'=st.aC b (.cells [.int .i64 c'])∧((decide (c+(aL Tm.nodes l:Int)≤120)&&l.all fun t=>t.shape (30 - d))=true→c'=c+(aL Tm.nodes l:Int))):=by
 have h1:=aQH l d c b st hd hd1 hb hc0 hc1 h
 refine wF [] 2 func147 ntmps147 rfl rfl ?_
 intro _
 simp -implicitDefEqProofs only[aB,seval]
 refine h1.mono ?_
 rintro _ _ ⟨j,c',rfl,hj,rfl,hc⟩
 simp -implicitDefEqProofs only[aB,seval]
 refine⟨c',by rw[hj],rfl,fun h=>hc (by rw[hj,h];try rfl)⟩
abbrev xR:=zi tI_3 (zi zI_3 (zi a7 (zi tI_4 (zi zI_4 (zi cL (zi tI_9 (zi zI_9 (zi d9 (zi tI_31 (zi zI_31 (zi aR (zi bO (zi bP (zi cF (zi tI_66 (zi zI_66 (zi b9 (zi cA (zi cB (zi cC (zi bZ (zi tI_202 zI_202))))))))))))))))))))))
theorem WD:∀(t:Tm) (d c:Int) (b:Nat) (st:aA),st b=some (.cells [.int .i64 c])→0≤c→c≤120→0≤d→d≤31→aD prog 192 [t.av,.int .i64 d,.ptr b 0] st (GR (t.shape (31 - d)) c t.nodes b st)
 | .mk k n s ts,d,c,b,st,hb,hc0,hc1,hd0,hd1=>by
  have hk:=fun(st:aA) (hb:st b=some (.cells [.int .i64 (c+1)])) (h1:c+1≤120) (h2:d≤30)=>aP9 ts d (c+1) b st (by omega) (by omega) hb (by omega) h1 fun x hx c st hb hc0 hc1=>by
   have:=WD x (d+1) c b st hb hc0 hc1 (by omega) (by omega)
   rw[show(31:Int) - (d+1)=30 - d by omega] at this
   exact this
  have hw:=bG (n:=c+1)
  unfold GR
  rw[Tm.kG,Tm.GS]
  refine wF [] 3 func192 ntmps192 rfl rfl ?_
  simp only[bA,dK,AV.fits,dT,aE]
  intro ⟨_,_,_,hl,_⟩
  simp -implicitDefEqProofs only[hb,aP,hw,aB,seval,xR]
  have hL:(ts.map Tm.av).length=ts.length:=aE _
  have gD:∀(v:Bool),v=(decide (c+((1+aL Tm.nodes ts:Nat):Int)≤120)&&(decide (1≤31 - d)&&eM k n s ts.length&&ts.all fun t=>t.shape (31 - d - 1)))→(v=true→ts= []) →
   ∃c',AV.bool v=AV.bool (decide (c+((1+aL Tm.nodes ts:Nat):Int)≤120)&&(decide (1≤31 - d)&&eM k n s ts.length&&ts.all fun t=>t.shape (31 - d - 1)))∧st.aC b (.cells [.int .i64 (c+1)])=st.aC b (.cells [.int .i64 c'])∧((decide (c+((1+aL Tm.nodes ts:Nat):Int)≤120)&&(decide (1≤31 - d)&&eM k n s ts.length&&ts.all fun t=>t.shape (31 - d - 1)))=true→c'=c+((1+aL Tm.nodes ts:Nat):Int)):=
   fun v h1 h2=>⟨c+1,by rw[h1],rfl,fun h3=>by rw[h2 (h1.trans h3)];simp [aL]⟩
  refine cU (fun h1=>?_) (fun h1=>?_)
  case refine_2=>
   simp -implicitDefEqProofs only[h1,aB,seval]
   simp only[uI,bM] at h1
   refine gD false ?_ (by intro h;cases h)
   rw[show decide (c+((1+aL Tm.nodes ts:Nat):Int)≤120)=false by simp;omega]
   try rfl
  simp -implicitDefEqProofs only[h1,aB,seval,xR]
  refine⟨fun h2=>?_,fun h2=>?_⟩
  · simp -implicitDefEqProofs only[aB,seval]
    simp only[bM] at h2
    refine gD false ?_ (by intro h;cases h)
    rw[show decide (1≤31 - d)=false by simp;omega]
    simp
  simp only[cM] at h1 h2
  rw[show decide (1≤31 - d)=true by simp;omega] at gD ⊢
  simp only[iY] at gD ⊢
  rw[show 31 - d - 1=30 - d by omega] at gD ⊢
  -- no kids
  have aIU:∀q:Bool,(∀h:ts= [],eM k n s ts.length=q)→(ts≠[]→eM k n s ts.length=false)→(q&&decide ((ts.length:Int)=0))=(decide (c+((1+aL Tm.nodes ts:Nat):Int)≤120)&&(eM k n s ts.length&&ts.all fun t=>t.shape (30 - d))):=by
   intro q hq1 hq2
   by_cases ht:ts= []
   · rw[hq1 ht];subst ht
     have e:c+((1+aL Tm.nodes []:Nat):Int)≤120:=by simp only[aL];omega
     rw[tN e]
     simp
   · rw[hq2 ht]
     have:¬(ts.length:Int)=0:=by intro h;exact ht (nG (by omega))
     rw[rB this]
     simp
  simp -implicitDefEqProofs only[aB,seval,xR]
  refine aT (fun hk1=>?_) (fun hk1=>?_)
  · simp only[bM] at hk1
    subst hk1
    simp -implicitDefEqProofs only[aB,seval,xR]
    refine(yS _ _ _ _).to ?_
    repeat' (first
     | (simp -implicitDefEqProofs only[*,aB,seval,xR])
     | (refine cU (fun h=>?_) (fun h=>?_))
     | (refine aT (fun h=>?_) (fun h=>?_)))
    all_goals first
     | (refine gD false ?_ (by intro h;cases h);rw[show eM 1 n s ts.length=false by first | (simp only[eM, *,mC,mB,x8];done) | (simp_all [eM];done) | (simp_all [eM];intro a e;have:=h a;omega)];simp;done)
     | (refine gD _ ?_ (fun h=>nG (by simpa using h));rw[←aIU true (fun h=>by simp_all [eM]) (fun h=>by simp [eM,h])];simp;done)
  simp only[cM] at hk1
  simp -implicitDefEqProofs only[aB,seval]
  refine aT (fun hk2=>?_) (fun hk2=>?_)
  · simp only[bM] at hk2
    subst hk2
    simp -implicitDefEqProofs only[aB,seval,xR]
    refine(yS _ _ _ _).to ?_
    repeat' (first
     | (simp -implicitDefEqProofs only[*,aB,seval,xR])
     | (refine cU (fun h=>?_) (fun h=>?_))
     | (refine aT (fun h=>?_) (fun h=>?_)))
    all_goals first
     | (refine gD false ?_ (by intro h;cases h);rw[show eM 2 n s ts.length=false by first | (simp only[eM, *,mC,mB,x8];done) | (simp_all [eM];done) | (simp_all [eM];intro a e;have:=h a;omega)];simp;done)
     | (refine gD _ ?_ (fun h=>nG (by simpa using h));rw[←aIU true (fun h=>by simp_all [eM]) (fun h=>by simp [eM,h])];simp;done)
  simp only[cM] at hk2
  simp -implicitDefEqProofs only[aB,seval]
  refine aT (fun hk3=>?_) (fun hk3=>?_)
  case refine_2=>
   simp only[cM] at hk3
   simp -implicitDefEqProofs only[aB,seval]
   refine gD false ?_ (by intro h;cases h)
   rw[show eM k n s ts.length=false by simp [eM,hk1,hk2,hk3]]
   simp
  simp only[bM] at hk3
  subst hk3
  have hk':=fun st hb=>hk st hb (by omega) (by omega)
  clear hk
  repeat' (first
   | (simp -implicitDefEqProofs only[*,aB,seval,xR])
   | (refine cU (fun h=>?_) (fun h=>?_))
   | (refine(aRB s _).to ?_)
   | (refine aT (fun h=>?_) (fun h=>?_)))
  all_goals first
   | (refine gD false ?_ (by intro h;cases h);rw[show eM 3 n s ts.length=false by(simp_all [eM];done)];simp;done)
   | skip
  refine(hk' _ (aA.aJ _ _ _)).mono ?_
  rintro _ _ ⟨c',rfl,rfl,hc'⟩
  simp -implicitDefEqProofs only[eA,aB,seval]
  have ho:eM 3 n s ts.length=true:=by simp_all [eM]
  rw[ho,show c+((1+aL Tm.nodes ts:Nat):Int)=c+1+(aL Tm.nodes ts:Int) by omega]
  simp only[iY,Bool.not_not]
  first | exact⟨c',trivial,rfl,hc'⟩ | exact⟨c',rfl,rfl,hc'⟩
termination_by t=>SizeOf.sizeOf t
decreasing_by have:=List.sizeOf_lt_of_mem hx;simp only[Tm.mk.sizeOf_spec];omega
abbrev a2R:=zi tI_3 (zi zI_3 (zi a7 (zi tI_4 (zi zI_4 (zi cL (zi tI_66 (zi zI_66 (zi b9 (zi cA (zi cB (zi cC (zi bZ (zi tI_202 zI_202)))))))))))))
theorem VK(t:Tm)(st:aA):aD prog 108 [t.av] st (fun r st'=>r=.bool t.valid∧st'=st):=by
 have hd:aD prog 108 [t.av] st (fun r st'=>aM st' st∧r=.bool t.valid):=by
  refine wF [] 1 func108 ntmps108 rfl rfl ?_
  intro _
  simp -implicitDefEqProofs only[Tm.eN,cE,aO,aB,seval,a2R]
  intro b hb
  simp -implicitDefEqProofs only[aP,aB,seval]
  refine(WD t 1 0 b _ (aA.aJ _ _ _) (by omega) (by omega) (by omega) (by omega)).mono ?_
  rintro _ _ ⟨c',rfl,rfl,_⟩
  simp -implicitDefEqProofs only[eA,vA,↓reduceIte]
  refine⟨(aM.refl st).aC hb,?_⟩
  simp only[Tm.valid,AV.bool.injEq]
  rw[Bool.and_comm,show(31:Int) - 1=30 from rfl]
  congr 1
  simp only[decide_eq_decide]
  omega
 exact hd.drop
def Tm.goal:Tm→Bool
 | .mk k n s ts=>(Tm.mk k n s ts).valid&&xA k s ts.length
abbrev aMG:=zi tI_4 (zi zI_4 (zi cL (zi tI_66 (zi zI_66 (zi b9 (zi cA (zi cB (zi cC bZ))))))))
theorem WE:∀(t:Tm) (st:aA),aD prog 156 [t.av] st (fun r st'=>r=.bool t.goal∧st'=st)
 | .mk k n s ts,st=>by
  have h1:=N2 (.mk k n s ts) st
  have h2:=aR0 k n s ts st
  rw[show(Tm.mk k n s ts).goal=((Tm.mk k n s ts).valid&&xA k s ts.length) from rfl]
  generalize (Tm.mk k n s ts).valid=z at *
  rw[bA] at *
  refine wF [] 1 func156 ntmps156 rfl rfl ?_
  intro _
  simp -implicitDefEqProofs only[aB,seval,aMG]
  refine h1.to ?_
  simp -implicitDefEqProofs only[aB,seval]
  refine cU (fun h=>?_) (fun h=>?_)
  · simp -implicitDefEqProofs only[h,aB,seval,aMG]
    refine h2.to ?_
    simp -implicitDefEqProofs only[aB,seval]
  · simp -implicitDefEqProofs only[h,aB,seval]
    simp at h
    simp []
abbrev a2S:=zi tI_4 (zi zI_4 (zi cL (zi tI_66 (zi zI_66 (zi b9 (zi cA (zi cB (zi cC bZ))))))))
theorem aQ9:∀(t:Tm) (st:aA),aD prog 49 [t.av] st (fun r st'=>r=.bool t.goal∧st'=st)
 | .mk k n s ts,st=>by
  have h1:=VK (.mk k n s ts) st
  have h2:=VO k n s ts st
  have h3:=NS k n s ts st
  have h4:=VL k n s ts st
  rw[show(Tm.mk k n s ts).goal=((Tm.mk k n s ts).valid&&xA k s ts.length) from rfl]
  unfold xA
  generalize (Tm.mk k n s ts).valid=z at *
  generalize qB k s (ts.length:Int)=z2 at *
  generalize (decide (k=3)&&isBuiltin s (ts.length:Int))=z3 at *
  rw[show(decide (k=3)&&decide (s=⟨#[33]⟩)&&decide ((ts.length:Int)=0))=(decide (k=3)&&decide ((ts.length:Int)=0)&&decide (s=⟨#[33]⟩)) from by cases decide (k=3)<;>cases decide (s=⟨#[33]⟩)<;>cases decide ((ts.length:Int)=0)<;>rfl]
  generalize (decide (k=3)&&decide ((ts.length:Int)=0)&&decide (s=⟨#[33]⟩))=z4 at *
  rw[bA] at *
  refine wF [] 1 func49 ntmps49 rfl rfl ?_
  intro _
  repeat' (first
   | (simp -implicitDefEqProofs only[*,aB,seval,a2S])
   | (refine cU (fun h=>?_) (fun h=>?_))
   | (refine h1.to ?_) | (refine h2.to ?_) | (refine h3.to ?_) | (refine h4.to ?_)
   | (refine aT (fun h=>?_) (fun h=>?_)))
  all_goals (clear h1 h2 h3 h4;simp_all)
abbrev aM3:=zi tI_3 (zi zI_3 (zi a7 (zi tI_31 (zi zI_31 (zi aR (zi bO (zi bP (zi cF (zi tI_66 (zi zI_66 (zi b9 (zi cA (zi cB (zi cC bZ))))))))))))))
theorem aQE(l:List Tm)(g:FuncId)(cY:List AV)(p:Tm→Bool)(st:aA)(hc:∀x∈l,aD prog g ([Tm.av x]++cY) st (fun r st'=>r=.bool (p x)∧st'=st)) :
 aD prog 218 [.slice (l.map Tm.av),.func g cY] st (fun r st'=>∃j:Int,r=.int .i64 j∧decide (0≤j)=l.any p∧st'=st):=by
 refine wF [] 2 func218 ntmps218 rfl rfl ?_
 simp only[dK,AV.fits,dT,aE]
 intro ⟨hl,_⟩
 simp -implicitDefEqProofs only[aE,aB,seval,aM3]
 refine dL (σ:=Unit) [] [0,1,7] l (fun i _=>(l.drop i).any p=l.any p) (fun i _=>[(8,.int .i64 i)]) (fun _ _=>st) (by decide +kernel) ⟨(),rfl,aN.mk (by simp -implicitDefEqProofs only[aB,↓aY,seval])⟩ (fun i x _ hx hlt bB hdr hinv=>?_) (fun _ hge hinv=>?_)
 case refine_2=>
  simp -implicitDefEqProofs only[hge,aB,seval]
  rw[gT] at hinv
  exact⟨-1,rfl,by rw[←hinv];try rfl⟩
 rw[hdr,yA] at hinv
 have hw:=bG (n:=(i:Int)+1)
 simp -implicitDefEqProofs only[bB,bH (av:=Tm.av) aR hx (aO x),cE,aO,aB,seval,aM3]
 refine(hc x (cG hx)).to ?_
 simp -implicitDefEqProofs only[aB,seval]
 refine aT (fun h=>?_) (fun h=>?_)
 · simp -implicitDefEqProofs only[aB,seval]
   exact⟨i,rfl,by rw[←hinv,h];simp⟩
 · rw[h,qL] at hinv
   simp -implicitDefEqProofs only[aB,seval]
   exact⟨(),hinv,aN.mk (by simp -implicitDefEqProofs only[hw,aB,seval])⟩
theorem aP5(l:List Tm)(g:FuncId)(cY:List AV)(p:Tm→Bool)(st:aA)(hc:∀x∈l,aD prog g ([Tm.av x]++cY) st (fun r st'=>r=.bool (p x)∧st'=st)) :
 aD prog 147 [.slice (l.map Tm.av),.func g cY] st (fun r st'=>r=.bool (l.any p)∧st'=st):=by
 refine wF [] 2 func147 ntmps147 rfl rfl ?_
 intro _
 simp -implicitDefEqProofs only[aB,seval]
 refine(aQE l g cY p st hc).mono ?_
 rintro _ _ ⟨j,rfl,hj,rfl⟩
 simp -implicitDefEqProofs only[hj,aB,seval]
theorem NH{α:Type}(p:α→Bool):∀l:List α,(!(l.any fun x=> !p x))=l.all p
 | []=>rfl
 | x::l=>by rw[yA,jI,←NH p l];cases p x<;>simp
abbrev a26:=zi tI_4 (zi zI_4 (zi cL (zi tI_66 (zi zI_66 (zi b9 (zi cA (zi cB (zi cC bZ))))))))
theorem aQ6(t:Tm)(st:aA):aD prog 282 [t.av] st (fun r st'=>r=.bool (!t.goal)∧st'=st):=by
 refine wF [] 1 func282 ntmps282 rfl rfl ?_
 intro _
 simp -implicitDefEqProofs only[Tm.eN,cE,aO,aB,seval,a26]
 refine(aQ9 t st).to ?_
 simp -implicitDefEqProofs only[aB,seval]
def mM(l:List Tm):Bool:=decide (l.length≤6)&&l.all Tm.goal
abbrev a25:=zi tI_3 (zi zI_3 (zi a7 (zi tI_4 (zi zI_4 (zi cL (zi tI_31 (zi zI_31 (zi aR (zi bO (zi bP cF))))))))))
theorem VD(l:List Tm)(st:aA):aD prog 216 [.slice (l.map Tm.av)] st (fun r st'=>r=.bool (mM l)∧st'=st):=by
 refine wF [] 1 func216 ntmps216 rfl rfl ?_
 simp only[dK,AV.fits,dT,aE]
 intro _
 unfold mM
 simp -implicitDefEqProofs only[aE,aB,seval,a25]
 refine cU (fun h=>?_) (fun h=>?_)
 · simp only[bM] at h
   rw[show decide (l.length≤6)=true by simp;omega]
   simp -implicitDefEqProofs only[h,aB,seval]
   refine(aP5 l _ [] (fun t=> !t.goal) st fun x _=>aQ6 x st).to ?_
   simp -implicitDefEqProofs only[NH,aB,seval]
 · simp only[mC,cM] at h
   rw[show decide (l.length≤6)=false by simp;omega]
   simp -implicitDefEqProofs only[h,aB,seval]
   rfl
theorem VI(l:List Tm)(st:aA):aD prog 150 [.slice (l.map Tm.av)] st (fun r st'=>r=.bool (mM l)∧st'=st):=by
 refine wF [] 1 func150 ntmps150 rfl rfl ?_
 intro _
 simp -implicitDefEqProofs only[aB,seval]
 refine(VD l st).to ?_
 simp -implicitDefEqProofs only[aB,seval]
abbrev LN:=zi tI_3 (zi zI_3 (zi a7 (zi tI_4 (zi zI_4 (zi cL (zi tI_31 (zi zI_31 (zi aR (zi bO (zi bP (zi cF (zi tI_66 (zi zI_66 (zi b9 (zi cA (zi cB (zi cC bZ)))))))))))))))))
theorem aSV(l:List Tm)(st:aA):aD prog 71 [.slice (l.map Tm.av)] st (fun r st'=>r=.bool (mM l)∧st'=st):=by
 refine wF [] 1 func71 ntmps71 rfl rfl ?_
 simp only[dK,AV.fits,dT,aE]
 intro ⟨hl,_⟩
 simp -implicitDefEqProofs only[aB,seval]
 refine dL (σ:=Unit) [] [0] l (fun i _=>i≤7∧(l.take i).all Tm.goal=true) (fun i _=>[(3,.int .i64 i)]) (fun _ _=>st) (by decide +kernel) ⟨(),⟨by omega,by simp⟩,aN.mk (by simp -implicitDefEqProofs only[aB,↓aY,seval])⟩ (fun i x _ hx hlt bB hdr hinv=>?_) (fun _ hge hinv=>?_)
 case refine_2=>
  obtain⟨i1,i2⟩:=hinv
  rw[dQ] at i2
  simp -implicitDefEqProofs only[aE,hge,aB,seval,LN]
  simp only[mM,i2,AT,AV.bool.injEq,decide_eq_decide]
  omega
 obtain⟨i1,i2⟩:=hinv
 have hw:=bG (n:=(i:Int)+1)
 simp -implicitDefEqProofs only[aE,bB,aB,seval,LN]
 refine aT (fun h=>?_) (fun h=>?_)
 case refine_2=>
  simp only[cM] at h
  simp -implicitDefEqProofs only[aE,aB,seval,LN]
  simp only[mM,AV.bool.injEq]
  rw[show decide (l.length≤6)=false by simp;omega,show decide ((l.length:Int)≤6)=false by simp;omega]
  try rfl
 simp only[bM] at h
 simp -implicitDefEqProofs only[bH (av:=Tm.av) aR hx (aO x),cE,aO,aB,seval,LN]
 refine(WE x st).to ?_
 simp -implicitDefEqProofs only[aB,seval]
 refine aT (fun h2=>?_) (fun h2=>?_)
 · simp only[gW] at h2
   simp -implicitDefEqProofs only[aB,seval]
   have:l.all Tm.goal=false:=uU hx h2
   simp only[mM,this,x8]
 · simp only[kJ] at h2
   simp -implicitDefEqProofs only[aB,seval]
   refine⟨(),⟨by omega,?_⟩,aN.mk (by simp -implicitDefEqProofs only[hw,aB,seval])⟩
   rw[eH,hx,A0,i2]
   simp [h2]
abbrev a6R:=zi tI_3 (zi zI_3 (zi a7 (zi tI_70 (zi zI_70 (zi aT4 (zi aT2 (zi aT6 (zi a3K (zi tI_129 (zi zI_129 (zi aUU (zi aUV aPR))))))))))))
abbrev a27:=zi tI_3 (zi zI_3 (zi a7 (zi tI_66 (zi zI_66 (zi b9 (zi cA (zi cB (zi cC bZ))))))))
theorem N5(n:Int)(st:aA):aD prog 116 [.int .i64 n] st (fun r st'=>r=(vr n).av∧st'=st):=by
 refine aD.done ?_
 refine wF [1000000] 1 func116 ntmps116 rfl rfl ?_
 intro _
 simp -implicitDefEqProofs only[aB,seval,a27]
 intro b hb
 simp -implicitDefEqProofs only[aP,aB,seval]
 exact⟨by simp only[vr,bA,rM,uB,AA,GV,bR,bQ,bQ],(aM.refl _).aC hb⟩
abbrev uF:=zi tI_3 (zi zI_3 (zi a7 (zi tI_31 (zi zI_31 (zi aR (zi bO (zi bP (zi cF (zi tI_66 (zi zI_66 (zi b9 (zi cA (zi cB (zi cC bZ))))))))))))))
theorem NW(f:Int→Tm)(g:FuncId)(cY:List AV)(CG:kQ cY=true):∀(t:Tm) (st:aA),t.small=true→(∀n∈t.vl,∀s,aD prog g (.int .i64 n::cY) s (fun r s'=>r=(f n).av∧s'=s)) →
 aD prog 112 [t.av,.func g cY] st (fun r st'=>r=(t.aK f).av∧st'=st)
 | .mk k n s ts,st,hsm,hg=>by
  obtain⟨hlen,oQ⟩:=Tm.o9 hsm
  have IH:=fun(x:Tm) (hx:x∈ts) st h=>NW f g cY CG x st (oQ x hx) h
  refine aD.pQ (aD.fin ?_)
  simp only[bA]
  refine wF [1000000,2] 2 func112 ntmps112 rfl rfl ?_
  simp only[dK,AV.fits,dT,aE]
  intro ⟨_,_,_,hl,_⟩
  simp -implicitDefEqProofs only[aB,seval,uF]
  intro c hc b2 hb2
  have hne:b2≠c:=by rintro rfl;rw[aA.aJ] at hb2;cases hb2
  have hn2:st b2=none:=by rw[aA.aF st _ hne] at hb2;exact hb2
  simp -implicitDefEqProofs only[hne.symm,aB,seval]
  refine aT (fun h=>?_) (fun h=>?_)
  · simp only[bM] at h
    subst h
    simp -implicitDefEqProofs only[hne.symm,aB,seval,uF]
    refine(hg n (by rw[Tm.mV rfl];simp) _).to ?_
    simp -implicitDefEqProofs only[aB,seval,uF]
    refine⟨0,[],_,rfl,by simp,by simp,⟨4,by simp⟩,by rw[Tm.yY,Tm.mK f rfl],?_⟩
    exact((aM.refl _).aC hc).aC hn2
  simp only[cM] at h
  have hg':∀x∈ts,∀v∈x.vl,∀s,aD prog g (.int .i64 v::cY) s (fun r s'=>r=(f v).av∧s'=s):=fun x hx v hv=>hg v ((Tm.lH h).2 ⟨x,hx,hv⟩)
  simp -implicitDefEqProofs only[hne.symm,aP,aE,aB,seval,uF]
  rw[aA.xW hne]
  refine dL (σ:=Nat) [1000000] [1,2,4,18,19] ts (fun i b=>(((ts.take i).map (Tm.aK f)).map Tm.av≠[]→(aA.aC (st.aC b2 (.cells [AV.int .i64 0,AV.int .i64 0,AV.str ⟨#[]⟩,AV.fslice []])) c (.cells ([AV.int .i64 k,AV.int .i64 n,AV.str s]++ [bS 4 b (((ts.take i).map (Tm.aK f)).map Tm.av)]))) b=none)) (fun i b=>[(20,.int .i64 i)]) (fun i b=>kO (st.aC b2 (.cells [AV.int .i64 0,AV.int .i64 0,AV.str ⟨#[]⟩,AV.fslice []])) c b [AV.int .i64 k,AV.int .i64 n,AV.str s] (((ts.take i).map (Tm.aK f)).map Tm.av)) (by decide +kernel)
   ⟨0,fun h=>absurd rfl h,aN.mk (by simp -implicitDefEqProofs only[aB,↓aY,seval])⟩ (fun i x b hx hlt bB hdr hinv=>?_) (fun b hge hinv=>?_)
  case refine_1=>
   have hw:=bG (n:=(i:Int)+1)
   have c7:(((ts.take i).map (Tm.aK f)).map Tm.av).length=i:=by simp only[aE,dI];omega
   have htk:(ts.take (i+1)).map (Tm.aK f)=(ts.take i).map (Tm.aK f)++ [(Tm.aK f) x]:=by rw[eH,hx];simp
   have hbo:=lM hinv
   simp -implicitDefEqProofs only[bB,bH (av:=Tm.av) aR hx (aO x),aB,↓aY,seval,uF]
   refine wP [(0,1),(3,1),(1,2),(2,2),(4,2),(5,1),(6,0),(7,1),(8,0)] [0,3,1,2,4,5,7] mixed ?_
   simp -implicitDefEqProofs only[cE,aO,hbo,qR,aB,seval,uF]
   refine kC (IH x (cG hx) _ (hg' x (cG hx))) ?_
   simp -implicitDefEqProofs only[cE,aO,Tm.eN,aB,seval,uF]
   refine f9 aR bO bP rfl rfl (g9 (aO _) (Tm.d5 _)) (iP _) hinv (by simp only[c7,a8,bL];omega) (by simp only[c7,a8,bL];omega) (fun b' hb'=>?_)
   rw[show(((ts.take i).map (Tm.aK f)).map Tm.av)++ [((Tm.aK f) x).av]=((ts.take (i+1)).map (Tm.aK f)).map Tm.av by rw[htk];simp] at hb' ⊢
   obtain⟨g1,g2,g3⟩:=vM hb'
   simp only[gH,eU] at g1 g3
   simp -implicitDefEqProofs only[g3,qS,j5,aP,g1,hw,aB,seval,uF]
   exact⟨b',g2,aN.mk (by simp -implicitDefEqProofs only[aB,seval])⟩
  have hbo:=lM hinv
  rw[dQ] at hinv hbo ⊢
  simp -implicitDefEqProofs only[hge,aB,seval,uF]
  simp -implicitDefEqProofs only[hbo,aB,seval,uF]
  have hS:(st.aC b2 (.cells [AV.int .i64 0,AV.int .i64 0,AV.str ⟨#[]⟩,AV.fslice []])) b2≠none:=by rw[aA.aJ];simp
  have h1:=nC hinv hS hne
  rw[aA.aJ] at h1
  simp -implicitDefEqProofs only[h1,j5,aP,aB,seval]
  obtain⟨h2,h3⟩:=t7 (o:=.cells [AV.int .i64 k,AV.int .i64 n,AV.str s,bS 4 b ((ts.map (Tm.aK f)).map Tm.av)]) hinv hS hne
  refine⟨b,_,_,h2,h3,rT _,⟨4,iP _⟩,?_,?_⟩
  · rw[Tm.lN f h]
    simp only[iK,bR,bQ,f7,oL,nL,bA]
  · exact(((aM.refl _).aC hn2).aC hc).aC hn2
termination_by t=>SizeOf.sizeOf t
decreasing_by have:=List.sizeOf_lt_of_mem hx;simp only[Tm.mk.sizeOf_spec];omega


end Go.AW
namespace Go.AW
abbrev cJ (σ:Sub):Prop:=∃R rk B,Good σ R rk B
theorem cJ.rs{σ:Sub}(h:cJ σ):∃rk B,Good σ (rs σ) rk B:=by
 obtain⟨R,rk,B,G⟩:=h
 exact⟨rk,B,by rw[G.rs];exact G⟩
theorem cJ.none:cJ Sub.none:=⟨_,_,_,Good.none⟩
structure nK (σ:Sub) (a b:List Tm) (r:Bool) (σ':Sub) (tr:List Int):Prop where
 gJ:cJ σ'
 aU:∀m,m∉tr→σ' m=σ m
 new:∀m∈tr,σ m=none∧σ' m≠none
 nodup:tr.Nodup
 eq:r=true→a.map (Tm.aK (rs σ'))=b.map (Tm.aK (rs σ'))
 gen:∀θ,qO θ σ→a.map (Tm.aK θ)=b.map (Tm.aK θ)→r=true∧qO θ σ'
 same:tr= []→σ'=σ
theorem qO.sub{σ σ':Sub}{θ:Int→Tm}{tr:List Int}(S:qO θ σ')(aU:∀m,m∉tr→σ' m=σ m)(new:∀m∈tr,σ m=none∧σ' m≠none):qO θ σ:=fun n u h=>by
 by_cases hn:n∈tr
 · rw[(new n hn).1] at h;cases h
 · exact S n u (by rw[aU n hn];exact h)
theorem nK.vL{σ σ':Sub}{a b:List Tm}{r:Bool}{tr:List Int}(h:nK σ a b r σ' tr):qO (rs σ') σ:=by
 obtain⟨rk,B,G⟩:=h.gJ.rs
 exact G.vL.sub h.aU h.new
theorem nK.stays{σ σ':Sub}{a b:List Tm}{r:Bool}{tr:List Int}(h:nK σ a b r σ' tr)(hg:cJ σ){x y:Tm}(e:x.aK (rs σ)=y.aK (rs σ)):x.aK (rs σ')=y.aK (rs σ'):=by
 obtain⟨rk,B,G⟩:=hg.rs
 rw[←G.OL h.vL x,←G.OL h.vL y,e]
theorem UY{σ:Sub}(hg:cJ σ){a b:Tm}{n:Int}(ha:a.k=1)(han:a.n=n)(hn:σ n=none)(hb:b.k=1→σ b.n=none∧b.n≠n){r:Bool}{σ':Sub}{tr:List Int}(h:jO σ n b=(r,σ',tr)):nK σ [a] [b] r σ' tr:=by
 obtain⟨rk,B,G⟩:=hg.rs
 have hav:∀θ,a.aK θ=θ n:=fun θ=>by rw[Tm.CT θ ha,han]
 unfold jO at h
 split at h
 · rename_i eX
   cases h
   refine⟨hg,fun _ _=>rfl,fun _ h=>absurd h (dD),lS,fun h=>(by cases h),fun θ S e=>?_,fun _=>rfl⟩
   exfalso
   simp only[bR,bQ,List.cons.injEq,dT] at e
   rw[hav] at e
   by_cases hbk:b.k=1
   · rw[Tm.CT _ hbk,G.free (hb hbk).1,xY] at eX
     simp only[cQ,dD,dN] at eX
     exact(hb hbk).2 eX.symm
   · rw[←G.OL S b] at e
     have h1:((b.aK (rs σ)).aK θ)=(b.aK (rs σ)).aK θ:=rfl
     have hk:(b.aK (rs σ)).k≠1:=by rw[Tm.rJ _ hbk];exact hbk
     have:=(aZK (f:=θ) (b.aK (rs σ)) eX).2 hk
     rw[e] at this
     exact absurd this (Nat.lt_irrefl _)
 · rename_i eX
   cases h
   obtain⟨rk',B',G'⟩:=G.bind hn eX
   have hR:=G'.rs
   refine⟨⟨_,_,_,G'⟩,fun m hm=>?_,fun m hm=>?_,by simp,fun _=>?_,fun θ S e=>⟨rfl,fun m u hu=>?_⟩,fun h=>(by cases h)⟩
   · simp only[cQ,dD,dN] at hm
     simp only[Sub.set,hm,cS]
   · simp only[cQ,dD,dN] at hm
     subst hm
     exact⟨hn,by simp [Sub.set]⟩
   · simp only[bR,bQ,List.cons.injEq,dT]
     rw[hav,hR]
     exact G'.bound (by simp [Sub.set])
   · simp only[bR,bQ,List.cons.injEq,dT] at e
     rw[hav] at e
     simp only[Sub.set] at hu
     split at hu
     · rename_i hmn
       cases hu
       rw[hmn,e]
     · exact S m u hu
theorem sR{a b:Tm}:tV a b=true↔a.k=b.k∧a.n=b.n∧a.s=b.s∧a.ts.length=b.ts.length:=by
 simp only[tV,cT,bM,and_assoc]
theorem aNQ(g:Nat)(aX7:∀σ a b r σ' tr,cJ σ→c9 g σ a b=some (r,σ',tr)→nK σ [a] [b] r σ' tr):∀xs ys σ r σ' tr,cJ σ→xs.length=ys.length→dR g σ xs ys=some (r,σ',tr)→nK σ xs ys r σ' tr:=by
 intro xs
 have ihU:=aX7
 induction xs with
 | nil=>
  intro ys σ r σ' tr hg hl h
  cases ys with
  | cons _ _=>simp at hl
  | nil=>
   simp only[dR,Option.some.injEq,Prod.mk.injEq] at h
   obtain⟨rfl,rfl,rfl⟩:=h
   exact⟨hg,fun _ _=>rfl,fun _ h=>absurd h (dD),lS,fun _=>rfl,fun θ S _=>⟨rfl,S⟩,fun _=>rfl⟩
 | cons a xs ih=>
  intro ys σ r σ' tr hg hl h
  cases ys with
  | nil=>simp at hl
  | cons b ys=>
   rw[dR] at h
   cases h1:c9 g σ a b with
   | none=>rw[h1] at h;cases h
   | some p=>
    obtain⟨r1,σ1,tr1⟩:=p
    have U1:=ihU σ a b r1 σ1 tr1 hg h1
    rw[h1] at h
    cases r1 with
    | false=>
     simp only[Option.some.injEq,Prod.mk.injEq] at h
     obtain⟨rfl,rfl,rfl⟩:=h
     refine⟨U1.gJ,U1.aU,U1.new,U1.nodup,fun h=>(by cases h),fun θ S e=>?_,U1.same⟩
     simp only[bR,List.cons.injEq] at e
     exact U1.gen θ S (by simp [e.1])
    | true=>
     simp only at h
     cases h2:dR g σ1 xs ys with
     | none=>rw[h2] at h;cases h
     | some p2=>
      obtain⟨r2,σ2,tr2⟩:=p2
      rw[h2] at h
      simp only[Option.some.injEq,Prod.mk.injEq] at h
      obtain⟨rfl,rfl,rfl⟩:=h
      have U2:=ih ys σ1 r2 σ2 tr2 U1.gJ (by simpa using hl) h2
      refine⟨U2.gJ,fun m hm=>?_,fun m hm=>?_,?_,fun hr=>?_,fun θ S e=>?_,fun h=>?_⟩
      · simp only[dS,kH] at hm
        rw[U2.aU m hm.2,U1.aU m hm.1]
      · rcases dS.1 hm with hm | hm
        · refine⟨(U1.new m hm).1,fun h=>(U1.new m hm).2 ?_⟩
          by_cases h3:m∈tr2
          · exact(U2.new m h3).1
          · rw[←U2.aU m h3];exact h
        · refine⟨?_,(U2.new m hm).2⟩
          by_cases h3:m∈tr1
          · exact(U1.new m h3).1
          · rw[←U1.aU m h3];exact(U2.new m hm).1
      · rw[jW]
        refine⟨U1.nodup,U2.nodup,fun x hx y hy e=>?_⟩
        subst e
        exact(U1.new x hx).2 (U2.new x hy).1
      · have e1:=U1.eq rfl
        simp only[bR,bQ,List.cons.injEq,dT] at e1
        simp only[bR]
        rw[U2.stays U1.gJ e1,U2.eq hr]
      · simp only[bR,List.cons.injEq] at e
        obtain⟨_,S1⟩:=U1.gen θ S (by simp [e.1])
        exact U2.gen θ S1 e.2
      · simp only[List.append_eq_nil_iff] at h
        rw[U2.same h.2,U1.same h.1]
theorem a3P:∀(g:Nat),(∀σ a b r σ' tr,cJ σ→c9 g σ a b=some (r,σ',tr)→nK σ [a] [b] r σ' tr) ∧
 ∀xs ys σ r σ' tr,cJ σ→xs.length=ys.length→dR g σ xs ys=some (r,σ',tr)→nK σ xs ys r σ' tr:=by
 intro g
 induction g with
 | zero=>
  have h0:∀σ a b r σ' tr,cJ σ→c9 0 σ a b=some (r,σ',tr)→nK σ [a] [b] r σ' tr:=fun σ a b r σ' tr hg h=>by simp only[c9] at h;cases h
  exact⟨h0,aNQ _ h0⟩
 | succ g ih=>
  suffices hU:∀σ a b r σ' tr,cJ σ→c9 (g+1) σ a b=some (r,σ',tr)→nK σ [a] [b] r σ' tr from ⟨hU,aNQ _ hU⟩
  intro σ a b r σ' tr hg h
  obtain⟨ihU,ihL⟩:=ih
  have aX6:=fun xs ys σ r σ' tr hg hl h=>ihL xs ys σ r σ' tr hg hl h
  obtain⟨rk,B,G⟩:=hg.rs
  obtain⟨fa,wa⟩:=G.wk a
  obtain⟨fb,wb⟩:=G.wk b
  have hma:∀θ,qO θ σ→(wk σ a).aK θ=a.aK θ:=fun θ S=>wa.aK S
  have hmb:∀θ,qO θ σ→(wk σ b).aK θ=b.aK θ:=fun θ S=>wb.aK S
  -- it suffices to speak of the walked terms
  suffices hw:nK σ [wk σ a] [wk σ b] r σ' tr by
   refine⟨hw.gJ,hw.aU,hw.new,hw.nodup,fun hr=>?_,fun θ S e=>?_,hw.same⟩
   · have:=hw.eq hr
     simp only[bR,bQ,List.cons.injEq,dT] at this ⊢
     rw[←hma _ hw.vL,←hmb _ hw.vL];exact this
   · refine hw.gen θ S ?_
     simp only[bR,bQ,List.cons.injEq,dT] at e ⊢
     rw[hma θ S,hmb θ S];exact e
  have ea:=wa.end
  have eb:=wb.end
  rw[c9] at h
  generalize wk σ a=a at *
  generalize wk σ b=b at *
  split at h
  · rename_i hc
    simp only[Option.some.injEq,Prod.mk.injEq] at h
    obtain⟨rfl,rfl,rfl⟩:=h
    have he:∀θ,a.aK θ=b.aK θ:=fun θ=>by rw[Tm.CT θ hc.1,Tm.CT θ hc.2.1,hc.2.2]
    exact⟨hg,fun _ _=>rfl,fun _ h=>absurd h (dD),lS,fun _=>by simp [he],fun θ S _=>⟨rfl,S⟩,fun _=>rfl⟩
  · rename_i hc
    split at h
    · rename_i ha
      exact UY hg ha rfl (ea ha) (fun hb=>⟨eb hb,fun e=>hc ⟨ha,hb,e.symm⟩⟩) (mZ h)
    · rename_i ha
      split at h
      · rename_i hb
        have U:=UY hg hb rfl (eb hb) (fun ha'=>absurd ha' ha) (mZ h)
        exact⟨U.gJ,U.aU,U.new,U.nodup,fun hr=>(U.eq hr).symm,fun θ S e=>U.gen θ S e.symm,U.same⟩
      · rename_i hb
        split at h
        · rename_i hh
          rw[sR] at hh
          have U:=aX6 a.ts b.ts σ r σ' tr hg hh.2.2.2 h
          refine⟨U.gJ,U.aU,U.new,U.nodup,fun hr=>?_,fun θ S e=>?_,U.same⟩
          · simp only[bR,bQ,List.cons.injEq,dT]
            rw[Tm.rJ _ ha,Tm.rJ _ hb,hh.1,hh.2.1,hh.2.2.1,U.eq hr]
          · simp only[bR,bQ,List.cons.injEq,dT] at e
            rw[Tm.rJ _ ha,Tm.rJ _ hb] at e
            exact U.gen θ S (by injection e)
        · rename_i hh
          simp only[Option.some.injEq,Prod.mk.injEq] at h
          obtain⟨rfl,rfl,rfl⟩:=h
          refine⟨hg,fun _ _=>rfl,fun _ h=>absurd h (dD),lS,fun h=>(by cases h),fun θ S e=>?_,fun _=>rfl⟩
          exfalso
          simp only[bR,bQ,List.cons.injEq,dT] at e
          rw[Tm.rJ _ ha,Tm.rJ _ hb] at e
          injection e with e1 e2 e3 e4
          exact hh (sR.2 ⟨e1,e2,e3,by simpa using gI List.length e4⟩)
theorem wA{g:Nat}{σ:Sub}{a b:Tm}{r:Bool}{σ':Sub}{tr:List Int}(hg:cJ σ)(h:c9 g σ a b=some (r,σ',tr)):nK σ [a] [b] r σ' tr:=(a3P g).1 σ a b r σ' tr hg h
end Go.AW
