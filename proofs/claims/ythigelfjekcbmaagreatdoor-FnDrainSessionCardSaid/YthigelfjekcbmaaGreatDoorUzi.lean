import Derived.Test.YthigelfjekcbmaaGreatDoorUzf
import Derived.Test.YthigelfjekcbmaaGreatDoorUzh
set_option linter.unusedSimpArgs false
set_option linter.unusedVariables false
set_option maxRecDepth 100000
namespace Go.AW
open Go.Proofs.Tryz
theorem zP(n lo hi:Int)(st:aB):aD prog 87 [.int .i64 n,.int .i64 lo,.int .i64 hi] st (fun r st'=>r=.bool (decide (lo≤n)&&decide (n≤hi))∧st'=st):=by
 refine wF [] 3 func87 ntmps87 rfl rfl ?_
 intro _
 repeat' (first
  | (simp -implicitDefEqProofs only[*,aA,seval])
  | (refine cU (fun h=>?_) (fun h=>?_))
  | (refine aQ (fun h=>?_) (fun h=>?_)))
 all_goals simp_all
theorem aV0(s:ByteArray)(st:aB):aD prog 247 [.str s] st (fun r st'=>r=.tup [.int .i64 (dZ s),.bool (dZ s == 1||dZ s == 2)]∧st'=st):=by
 refine wF [] 1 func247 ntmps247 rfl rfl ?_
 intro _
 repeat' (first
  | (simp -implicitDefEqProofs only[*,aA,seval])
  | (refine cU (fun h=>?_) (fun h=>?_))
  | (refine aQ (fun h=>?_) (fun h=>?_)))
 all_goals (simp only[dZ, *,BB,yR,Bool.or_self,cond_true,CC];first | done | rfl)
theorem w8(s:ByteArray)(st:aB):aD prog 198 [.str s] st (fun r st'=>r=.int .i64 (dZ s)∧st'=st):=by
 refine wF [] 1 func198 ntmps198 rfl rfl ?_
 intro _
 repeat' (first
  | (simp -implicitDefEqProofs only[*,aA,seval])
  | (refine cU (fun h=>?_) (fun h=>?_))
  | (refine aQ (fun h=>?_) (fun h=>?_)))
 all_goals (simp only[dZ, *,BB,yR,Bool.or_self,cond_true,CC];first | done | rfl)
theorem aWK(s:ByteArray)(n:Int)(st:aB):aD prog 224 [.str s,.int .i64 n] st (fun r st'=>r=.bool (isBuiltin s n)∧st'=st):=by
 refine wF [] 2 func224 ntmps224 rfl rfl ?_
 intro _
 repeat' (first
  | (simp -implicitDefEqProofs only[*,aA,seval])
  | (refine cU (fun h=>?_) (fun h=>?_))
  | (refine aQ (fun h=>?_) (fun h=>?_)))
 all_goals (simp only[isBuiltin, *,BB,yR,Bool.or_self,cond_true,CC];first | done | rfl)
theorem SI(s:ByteArray)(n:Int)(st:aB):aD prog 164 [.str s,.int .i64 n] st (fun r st'=>r=.bool (isBuiltin s n)∧st'=st):=by
 refine wF [] 2 func164 ntmps164 rfl rfl ?_
 intro _
 repeat' (first
  | (simp -implicitDefEqProofs only[*,aA,seval])
  | (refine cU (fun h=>?_) (fun h=>?_))
  | (refine aQ (fun h=>?_) (fun h=>?_)))
 all_goals (simp only[isBuiltin, *,BB,yR,Bool.or_self,cond_true,CC];first | done | rfl)
abbrev aRI:=zi tI_3 (zi zI_3 (zi aU (zi tI_4 (zi zI_4 (zi cI (zi tI_5 (zi zI_5 (zi mH (zi tI_9 (zi zI_9 cT))))))))))
theorem aAT(s:ByteArray)(st:aB):aD prog 197 [.str s] st (fun r st'=>r=.bool (uR s)∧st'=st):=by
 refine wF [] 1 func197 ntmps197 rfl rfl ?_
 simp only[eQ,AV.fits,eR]
 intro hs
 simp -implicitDefEqProofs only[aA,seval]
 refine yP (α:=Nat) [] (fun i=>i≤s.size∧∀(j:Nat) c,j<i→(sb s)[j]?=some c→letter c=true)
  (fun i=>[(0,.str s),(3,.int .i64 i)]) (fun _=>st) (fun i=>s.size - i) (by decide +kernel)
  ⟨0,⟨by omega,by intro j x h;omega⟩,aP.mk (by simp -implicitDefEqProofs only[aA,↓aS,seval])⟩ ?_
 intro i ⟨hi,cS⟩
 simp -implicitDefEqProofs only[aA,seval,aRI]
 refine⟨fun h5=>?_,fun h5=>?_⟩
 case refine_2=>
  simp only[dL,n0] at h5
  have ha:(sb s).all letter=true:=L0 fun j c hc=>cS j c (by have:=(gW.1 hc).1;rw[cV] at this;omega) hc
  repeat' (first
   | (simp -implicitDefEqProofs only[*,aA,seval,aRI])
   | (refine cU (fun h=>?_) (fun h=>?_))
   | (refine aQ (fun h=>?_) (fun h=>?_)))
  all_goals simp only[uR,ha,eP,AV.bool.injEq]
  all_goals simp only[*,pM,eP,g9]
 simp only[bK,n0] at h5
 obtain⟨c,hc⟩:∃c,(sb s)[i]?=some c:=⟨_,fF (by rw[cV];exact h5)⟩
 have hx:=uP (P:=prog) (t:=9) cT hc
 simp -implicitDefEqProofs only[hx,aA,seval]
 refine cU (fun h6=>?_) (fun h6=>?_)
 case refine_2=>
  simp -implicitDefEqProofs only[h6,aA,seval]
  simp only[oU,bK] at h6
  simp only[uR,wZ hc (show letter c=false by simp [letter];omega),g9]
 simp -implicitDefEqProofs only[h6,hx,aA,seval]
 refine⟨fun h7=>?_,fun h7=>?_⟩
 · simp -implicitDefEqProofs only[aA,seval]
   simp only[bK] at h7
   simp only[uR,wZ hc (show letter c=false by simp [letter];omega),g9]
 simp only[dL] at h6 h7
 simp -implicitDefEqProofs only[aA,seval]
 refine⟨i+1,by omega,⟨by omega,fun j u hj hu=>?_⟩,aP.mk ?_⟩
 · rcases k7 j i with h8 | h8
   · exact cS j u h8 hu
   · obtain rfl:j=i:=by omega
     rw[hc] at hu;cases hu
     simp [letter];omega
 · have:=bO (n:=(i:Int)+1)
   simp -implicitDefEqProofs only[this,aA,seval]
abbrev aRJ:=zi tI_3 (zi zI_3 (zi aU (zi tI_4 (zi zI_4 (zi cI (zi tI_5 (zi zI_5 (zi mH (zi tI_6 (zi zI_6 (zi uU6 (zi tI_9 (zi zI_9 cT)))))))))))))
theorem aAH(s:ByteArray)(st:aB):aD prog 212 [.str s] st (fun r st'=>r=.bool (uR s)∧st'=st):=by
 refine wF [] 1 func212 ntmps212 rfl rfl ?_
 simp only[eQ,AV.fits,eR]
 intro hs
 simp -implicitDefEqProofs only[aA,seval,aRJ]
 refine yP (α:=Nat) [] (fun i=>i≤s.size∧∀(j:Nat) c,j<i→(sb s)[j]?=some c→letter c=true)
  (fun i=>[(0,.str s),(5,.int .i64 s.size),(6,.int .i64 i)]) (fun _=>st) (fun i=>s.size - i) (by decide +kernel)
  ⟨0,⟨by omega,by intro j x h;omega⟩,aP.mk (by simp -implicitDefEqProofs only[aA,↓aS,seval])⟩ ?_
 intro i ⟨hi,cS⟩
 simp -implicitDefEqProofs only[aA,seval]
 refine⟨fun h5=>?_,fun h5=>?_⟩
 case refine_2=>
  simp only[dL,n0] at h5
  have ha:(sb s).all letter=true:=L0 fun j c hc=>cS j c (by have:=(gW.1 hc).1;rw[cV] at this;omega) hc
  simp -implicitDefEqProofs only[aA,seval,aRJ]
  refine(zP _ _ _ st).to ?_
  simp -implicitDefEqProofs only[aA,seval]
  simp only[uR,ha,eP]
 simp only[bK,n0] at h5
 obtain⟨c,hc⟩:∃c,(sb s)[i]?=some c:=⟨_,fF (by rw[cV];exact h5)⟩
 have hx:=uP (P:=prog) (t:=9) cT hc
 simp -implicitDefEqProofs only[hx,aA,seval]
 refine cU (fun h6=>?_) (fun h6=>?_)
 case refine_2=>
  simp -implicitDefEqProofs only[h6,aA,seval]
  simp only[oU,bK] at h6
  simp only[uR,wZ hc (show letter c=false by simp [letter];omega),g9]
 simp -implicitDefEqProofs only[h6,hx,aA,seval]
 refine⟨fun h7=>?_,fun h7=>?_⟩
 · simp -implicitDefEqProofs only[aA,seval]
   simp only[bK] at h7
   simp only[uR,wZ hc (show letter c=false by simp [letter];omega),g9]
 simp only[dL] at h6 h7
 simp -implicitDefEqProofs only[aA,seval]
 refine⟨i+1,by omega,⟨by omega,fun j u hj hu=>?_⟩,aP.mk ?_⟩
 · rcases k7 j i with h8 | h8
   · exact cS j u h8 hu
   · obtain rfl:j=i:=by omega
     rw[hc] at hu;cases hu
     simp [letter];omega
 · have:=bO (n:=(i:Int)+1)
   simp -implicitDefEqProofs only[this,aA,seval]
theorem aWO(s:ByteArray)(st:aB):aD prog 213 [.str s] st (fun r st'=>r=.bool (decide ((0:Int)<(dZ s:Int)))∧st'=st):=by
 refine wF [] 1 func213 ntmps213 rfl rfl ?_
 intro _
 simp -implicitDefEqProofs only[aA,seval]
 refine(aV0 s st).to ?_
 simp -implicitDefEqProofs only[aA,seval]
abbrev a7G:=zi tI_3 (zi zI_3 (zi aU (zi tI_4 (zi zI_4 (zi cI (zi tI_28 (zi zI_28 (zi aO (zi bF (zi bG (zi bZ (zi tI_52 (zi zI_52 (zi bU (zi bV (zi bX (zi bY bT)))))))))))))))))
theorem H4(k n:Int)(s:ByteArray)(ts:List Tm)(st:aB):aD prog 223 [(Tm.mk k n s ts).av] st (fun r st'=>r=.bool (decide (k=3)&&decide ((ts.length:Int)=0))∧st'=st):=by
 refine wF [] 1 func223 ntmps223 rfl rfl ?_
 intro _
 simp only[a8]
 repeat' (first
  | (simp -implicitDefEqProofs only[*,aA,seval,a7G])
  | (refine cU (fun h=>?_) (fun h=>?_))
  | (refine aQ (fun h=>?_) (fun h=>?_)))
 all_goals simp_all
def kC:List ByteArray:=[⟨#[43]⟩,⟨#[45]⟩,⟨#[42]⟩,⟨#[47,47]⟩,⟨#[61]⟩,⟨#[92,61]⟩,⟨#[61,61]⟩,⟨#[60]⟩,⟨#[62]⟩,⟨#[61,60]⟩,⟨#[62,61]⟩,⟨#[61,58,61]⟩,⟨#[46]⟩,⟨#[91,93]⟩,⟨#[33]⟩]
abbrev a7H:=zi tI_138 (zi zI_138 (zi j9 (zi nQ (zi nR oR))))
theorem aYO(st:aB):aD prog 266 [] st (fun r st'=>r=.fslice (kC.map .str)∧st'=st):=by
 refine wF [] 0 func266 ntmps266 rfl rfl ?_
 intro _
 simp -implicitDefEqProofs only[kC,aA,seval,a7H]
abbrev a7I:=zi tI_138 (zi zI_138 (zi j9 (zi nQ (zi nR oR))))
theorem aAR(st:aB):aD prog 272 [] st (fun r st'=>r=.fslice (kC.map .str)∧st'=st):=by
 refine wF [] 0 func272 ntmps272 rfl rfl ?_
 intro _
 simp -implicitDefEqProofs only[kC,aA,seval,a7I]
abbrev aRL:=zi tI_3 (zi zI_3 (zi aU (zi tI_4 (zi zI_4 (zi cI (zi tI_9 (zi zI_9 (zi cT (zi tI_138 (zi zI_138 (zi j9 (zi nQ (zi nR oR)))))))))))))
theorem aWW(l:List ByteArray)(s:ByteArray)(st:aB):aD prog 284 [.slice (l.map .str),.str s] st (fun r st'=>r=.bool (l.any fun x=>decide (x=s))∧st'=st):=by
 refine wF [] 2 func284 ntmps284 rfl rfl ?_
 simp only[eQ,AV.fits,eR,aF]
 intro ⟨⟨hl,_⟩,_⟩
 simp -implicitDefEqProofs only[aA,seval]
 refine yP (α:=Nat) [] (fun i=>i≤l.length∧∀(j:Nat) x,j<i→l[j]?=some x→decide (x=s)=false)
  (fun i=>[(0,.slice (l.map .str)),(1,.str s),(5,.int .i64 i)]) (fun _=>st) (fun i=>l.length - i) (by decide +kernel)
  ⟨0,⟨by omega,by intro j x h;omega⟩,aP.mk (by simp -implicitDefEqProofs only[aA,↓aS,seval])⟩ ?_
 intro i ⟨hi,cS⟩
 simp -implicitDefEqProofs only[aF,aA,seval,aRL]
 refine⟨fun h5=>?_,fun h5=>?_⟩
 case refine_2=>
  simp -implicitDefEqProofs only[aA,seval]
  simp only[dL,n0] at h5
  have:(l.any fun x=>decide (x=s))=false:=by
   rw[List.any_eq_false]
   intro x hx
   obtain⟨j,hj⟩:=G8 hx
   simp [cS j x (by have:=(gW.1 hj).1;omega) hj]
  rw[this]
 simp only[bK,n0] at h5
 obtain⟨x,hx⟩:∃x,l[i]?=some x:=⟨_,fF h5⟩
 simp -implicitDefEqProofs only[bQ (av:=AV.str) j9 hx rfl,aA,seval,aRL]
 refine⟨fun h6=>?_,fun h6=>?_⟩
 · simp -implicitDefEqProofs only[aA,seval]
   have:(l.any fun x=>decide (x=s))=true:=by
    rw[List.any_eq_true]
    exact⟨x,dA hx,h6⟩
   rw[this]
 simp -implicitDefEqProofs only[aA,seval]
 refine⟨i+1,by omega,⟨by omega,fun j u hj hu=>?_⟩,aP.mk ?_⟩
 · rcases k7 j i with h8 | h8
   · exact cS j u h8 hu
   · obtain rfl:j=i:=by omega
     rw[hx] at hu;cases hu
     exact h6
 · have:=bO (n:=(i:Int)+1)
   simp -implicitDefEqProofs only[this,aA,seval]
abbrev aRK:=zi tI_3 (zi zI_3 (zi aU (zi tI_9 (zi zI_9 (zi cT (zi tI_138 (zi zI_138 (zi j9 (zi nQ (zi nR oR))))))))))
theorem aVY(l:List ByteArray)(s:ByteArray)(st:aB):aD prog 281 [.slice (l.map .str),.str s] st (fun r st'=>(∃k:Int,r=.int .i64 k∧decide (0≤k)=l.any fun x=>decide (s=x))∧st'=st):=by
 refine wF [] 2 func281 ntmps281 rfl rfl ?_
 simp only[eQ,AV.fits,eR,aF]
 intro ⟨⟨hl,_⟩,_⟩
 simp -implicitDefEqProofs only[aF,aA,seval,aRK]
 refine yP (α:=Nat) [] (fun i=>i≤l.length∧∀(j:Nat) x,j<i→l[j]?=some x→decide (s=x)=false)
  (fun i=>[(0,.slice (l.map .str)),(1,.str s),(7,.int .i64 l.length),(8,.int .i64 i)]) (fun _=>st) (fun i=>l.length - i) (by decide +kernel)
  ⟨0,⟨by omega,by intro j x h;omega⟩,aP.mk (by simp -implicitDefEqProofs only[aA,↓aS,seval])⟩ ?_
 intro i ⟨hi,cS⟩
 simp -implicitDefEqProofs only[aA,seval]
 refine⟨fun h5=>?_,fun h5=>?_⟩
 case refine_2=>
  simp -implicitDefEqProofs only[aA,seval]
  simp only[dL,n0] at h5
  have:(l.any fun x=>decide (s=x))=false:=by
   rw[List.any_eq_false]
   intro x hx
   obtain⟨j,hj⟩:=G8 hx
   simp [cS j x (by have:=(gW.1 hj).1;omega) hj]
  rw[this]
  exact⟨_,rfl,rfl⟩
 simp only[bK,n0] at h5
 obtain⟨x,hx⟩:∃x,l[i]?=some x:=⟨_,fF h5⟩
 simp -implicitDefEqProofs only[bQ (av:=AV.str) j9 hx rfl,aA,seval,aRK]
 refine⟨fun h6=>?_,fun h6=>?_⟩
 · simp -implicitDefEqProofs only[aA,seval]
   have:(l.any fun x=>decide (s=x))=true:=by
    rw[List.any_eq_true]
    exact⟨x,dA hx,h6⟩
   rw[this]
   exact⟨_,rfl,by simp⟩
 simp -implicitDefEqProofs only[aA,seval]
 refine⟨i+1,by omega,⟨by omega,fun j u hj hu=>?_⟩,aP.mk ?_⟩
 · rcases k7 j i with h8 | h8
   · exact cS j u h8 hu
   · obtain rfl:j=i:=by omega
     rw[hx] at hu;cases hu
     exact h6
 · have:=bO (n:=(i:Int)+1)
   simp -implicitDefEqProofs only[this,aA,seval]
theorem aVH(l:List ByteArray)(s:ByteArray)(st:aB):aD prog 258 [.slice (l.map .str),.str s] st (fun r st'=>r=.bool (l.any fun x=>decide (s=x))∧st'=st):=by
 refine wF [] 2 func258 ntmps258 rfl rfl ?_
 intro _
 simp -implicitDefEqProofs only[aA,seval]
 refine(aVY l s st).mono ?_
 rintro _ _ ⟨⟨k,rfl,hk⟩,rfl⟩
 simp -implicitDefEqProofs only[aA,seval]
 rw[←hk]
theorem RX(l:List ByteArray)(s:ByteArray)(st:aB):aD prog 258 [.fslice (l.map .str),.str s] st (fun r st'=>r=.bool (l.any fun x=>decide (s=x))∧st'=st):=
 aD.rD (by simp only[jA,AV.soft];exact aVH l s st)
theorem aWX(l:List ByteArray)(s:ByteArray)(st:aB):aD prog 284 [.fslice (l.map .str),.str s] st (fun r st'=>r=.bool (l.any fun x=>decide (x=s))∧st'=st):=
 aD.rD (by simp only[jA,AV.soft];exact aWW l s st)
def AG(s:ByteArray):Bool:=uR s||kC.any fun x=>decide (s=x)
theorem aUH(s:ByteArray):(kC.any fun x=>decide (x=s))=kC.any fun x=>decide (s=x):=by
 congr 1
 funext x
 exact CE.2 ⟨Eq.symm,Eq.symm⟩
theorem aWL(s:ByteArray)(st:aB):aD prog 245 [.str s] st (fun r st'=>r=.bool (AG s)∧st'=st):=by
 refine wF [] 1 func245 ntmps245 rfl rfl ?_
 intro _
 repeat' (first
  | (simp -implicitDefEqProofs only[*,aA,seval])
  | (refine cU (fun h=>?_) (fun h=>?_))
  | (refine(aAH s st).to ?_) | (refine(aYO st).to ?_) | (refine(RX kC s st).to ?_)
  | (refine aQ (fun h=>?_) (fun h=>?_)))
 all_goals simp only[AG, *,oU,yR,sH]
theorem aYK(s:ByteArray)(st:aB):aD prog 262 [.str s] st (fun r st'=>r=.bool (AG s)∧st'=st):=by
 refine wF [] 1 func262 ntmps262 rfl rfl ?_
 intro _
 repeat' (first
  | (simp -implicitDefEqProofs only[*,aA,seval])
  | (refine cU (fun h=>?_) (fun h=>?_))
  | (refine(aAT s st).to ?_) | (refine(aAR st).to ?_) | (refine(aWX kC s st).to ?_)
  | (refine aQ (fun h=>?_) (fun h=>?_)))
 all_goals simp only[AG,aUH, *,oU,yR,sH]
end Go.AW
namespace Go.AW
def fB(k n:Int)(s:ByteArray)(len:Int):Bool:=
 cond (decide (k=1)) (decide ((0:Int)≤n)&&decide (n≤25)&&decide (s=⟨#[]⟩)&&decide (len=0))
  (cond (decide (k=2)) (decide ((-999:Int)≤n)&&decide (n≤999)&&decide (s=⟨#[]⟩)&&decide (len=0))
   (cond (decide (k=3)) (decide (n=0)&&AG s&&decide (len≤4)) false))
mutual
def Tm.shape:Tm→Int→Bool
 | .mk k n s ts,d=>decide (1≤d)&&fB k n s ts.length&&PW ts (d - 1)
def PW:List Tm→Int→Bool
 | [],_=>true
 | t::ts,d=>t.shape d&&PW ts d
end
theorem aSO:∀(ts:List Tm) (d:Int),PW ts d=ts.all fun t=>t.shape d
 | [],_=>rfl
 | t::ts,d=>by simp only[PW,k0,aSO ts d]
theorem Tm.GI(k n:Int)(s:ByteArray)(ts:List Tm)(d:Int):(Tm.mk k n s ts).shape d=(decide (1≤d)&&fB k n s ts.length&&ts.all fun t=>t.shape (d - 1)):=by simp only[Tm.shape,aSO]
mutual
def Tm.nodes:Tm→Nat
 | .mk _ _ _ ts=>1+PQ ts
def PQ:List Tm→Nat
 | []=>0
 | t::ts=>t.nodes+PQ ts
end
theorem aSK:∀(ts:List Tm),PQ ts=bH Tm.nodes ts
 | []=>rfl
 | t::ts=>by simp only[PQ,bH,aSK ts]
theorem Tm.iS(k n:Int)(s:ByteArray)(ts:List Tm):(Tm.mk k n s ts).nodes=1+bH Tm.nodes ts:=by simp only[Tm.nodes,aSK]
def Tm.valid(t:Tm):Bool:=t.shape 30&&decide (t.nodes≤120)
mutual
def Tm.vars:Tm→List Int→List Int
 | .mk k n _ ts,l=>cF ts (if k=1∧n∉l then l++ [n] else l)
def cF:List Tm→List Int→List Int
 | [],l=>l
 | t::ts,l=>cF ts (t.vars l)
end
mutual
theorem Tm.G4:∀(t:Tm) (l:List Int),(t.vars l).length≤l.length+t.nodes
 | .mk k n s ts,l=>by
  have h:=A4 ts (if k=1∧n∉l then l++ [n] else l)
  have h2:(if k=1∧n∉l then l++ [n] else l).length≤l.length+1:=by split<;>simp
  rw[Tm.vars,Tm.iS]
  omega
theorem A4:∀(ts:List Tm) (l:List Int),(cF ts l).length≤l.length+bH Tm.nodes ts
 | [],l=>by simp [cF,bH]
 | t::ts,l=>by
  have h1:=Tm.G4 t l
  have h2:=A4 ts (t.vars l)
  simp only[cF,bH]
  omega
end
def fP(v:Int):List Int→Int→Int
 | [],_=> -1
 | x::xs,i=>if v=x then i else fP v xs (i+1)
theorem aOY(v:Int):∀(l:List Int) (i:Int),0≤i→(0≤fP v l i↔v∈l)
 | [],i,h=>by simp [fP]
 | x::xs,i,h=>by
  simp only[fP,dB]
  split
  · rename_i e;simp [e,h]
  · rename_i e;rw[aOY v xs (i+1) (by omega)];simp [e]
theorem lQ{st:aB}{b x:Nat}{l:List AV}{o:AO}(h:l≠[]→x≠b):(aV st b l).aC x o=aV (st.aC x o) b l:=by
 cases l with
 | nil=>rfl
 | cons y l=>exact aB.nD _ _ _ (dG (h (by simp)))
theorem LZ{st:aB}{b x:Nat}{l:List AV}{o:AO}(hx:st x=none)(h:l≠[]→(st.aC x o) b=none):aL (aV (st.aC x o) b l) (aV st b l)∧(l≠[]→st b=none):=by
 cases l with
 | nil=>exact⟨(aL.refl _).aC hx,fun h=>absurd rfl h⟩
 | cons y l=>
  have hb:=h (by simp)
  have hne:b≠x:=by rintro rfl;rw[aB.aJ] at hb;cases hb
  rw[aB.aG _ _ hne] at hb
  refine⟨?_,fun _=>hb⟩
  simp only[aV]
  rw[aB.nD _ _ _ (dG hne)]
  exact(aL.refl _).aC (by rw[aB.aG _ _ (dG hne)];exact hx)
theorem Y5{P:Program}{t:TypeId}{ag:Bool}{w b i:Nat}{l:List AV}{x:AV}(hI:eI P t=some (ag,w))(h:l[i]?=some x):dN P t (aZ w b l) (.int .i64 (i:Int))=some (.ptr b (i*w)):=by
 have hi:=(gW.1 h).1
 rw[pQ (by rintro rfl;simp at hi)]
 exact CW hI hi
theorem Y6{st:aB}{b i:Nat}{l:List Int}{x:Int}(h:l[i]?=some x):aV st b (l.map iv) b=some (.cells (l.map iv))∧(l.map iv)[i]?=some (iv x):=by
 have hi:=(gW.1 h).1
 have hne:l.map iv≠[]:=by rintro e;rw[List.map_eq_nil_iff] at e;subst e;simp at hi
 have hfl:(l.map iv).flatMap AV.cells=l.map iv:=by
  clear h hi hne
  induction l with
  | nil=>rfl
  | cons y l ih=>simp only[bB,vL,ih];rfl
 exact⟨by rw[jD hne,hfl,aB.aJ],by rw[oX,h];try rfl⟩
mutual
def Tm.wf:Tm→Bool
 | .mk k _ _ ts=>(!decide (k=1)||ts.isEmpty)&&PZ ts
def PZ:List Tm→Bool
 | []=>true
 | t::ts=>t.wf&&PZ ts
end
theorem XL:∀(ts:List Tm),PZ ts=ts.all Tm.wf
 | []=>rfl
 | t::ts=>by simp only[PZ,k0,XL ts]
theorem Tm.X1{k n:Int}{s:ByteArray}{ts:List Tm}(h:(Tm.mk k n s ts).wf=true):(k=1→ts= [])∧∀x∈ts,x.wf=true:=by
 simp only[Tm.wf,XL,cE,oV,lT,dL,List.isEmpty_iff,eM] at h
 exact⟨fun hk=>h.1.resolve_left (fun hn=>hn hk),h.2⟩
theorem Tm.LE{t:Tm}(h:t.valid=true):t.nodes≤120:=by simp only[Tm.valid,cE,bK] at h;exact h.2
def fX(S:aB)(c b:Nat)(hd:List AV)(l:List AV):aB:=aV (S.aC c (.cells (hd++ [aZ 4 b l]))) b l
theorem fA{S:aB}{c b:Nat}{hd l:List AV}(hb:l≠[]→(S.aC c (.cells (hd++ [aZ 4 b l]))) b=none):fX S c b hd l c=some (.cells (hd++ [aZ 4 b l])):=by
 unfold fX
 cases l with
 | nil=>simp only[aV,aB.aJ]
 | cons y l=>
  have h:=hb (by simp)
  have hne:c≠b:=fun e=>by rw[←e,aB.aJ] at h;cases h
  rw[nL hne,aB.aJ]
theorem p7{S:aB}{c b b':Nat}{hd l l':List AV}(hb:l'≠[]→(S.aC c (.cells (hd++ [aZ 4 b l]))) b'=none) :
 (aV (S.aC c (.cells (hd++ [aZ 4 b l]))) b' l').aC c (.cells (hd++ [aZ 4 b' l']))=fX S c b' hd l'∧(l'≠[]→(S.aC c (.cells (hd++ [aZ 4 b' l']))) b'=none)∧aV (S.aC c (.cells (hd++ [aZ 4 b l]))) b' l' c=some (.cells (hd++ [aZ 4 b l])):=by
 have hne:l'≠[]→c≠b':=fun h e=>by have:=hb h;rw[←e,aB.aJ] at this;cases this
 refine⟨?_,fun h=>?_,?_⟩
 · rw[lQ hne,cK];try rfl
 · have:=hb h
   rw[aB.aG _ _ (dG (hne h))] at this ⊢
   exact this
 · cases l' with
   | nil=>simp only[aV,aB.aJ]
   | cons y l=>rw[nL (hne (by simp)),aB.aJ]
theorem iE{S:aB}{c b x:Nat}{hd l:List AV}(hb:l≠[]→(S.aC c (.cells (hd++ [aZ 4 b l]))) b=none)(hx:S x≠none)(hxc:x≠c):fX S c b hd l x=S x:=by
 unfold fX
 cases l with
 | nil=>simp only[aV,aB.aG _ _ hxc]
 | cons y l=>
  have h:=hb (by simp)
  have hne:x≠b:=fun e=>by
   rw[←e,aB.aG _ _ hxc] at h
   exact hx h
  rw[nL hne,aB.aG _ _ hxc]
theorem lK{S:aB}{c b x:Nat}{hd l:List AV}{o:AO}(hb:l≠[]→(S.aC c (.cells (hd++ [aZ 4 b l]))) b=none)(hx:S x≠none)(hxc:x≠c):(fX S c b hd l).aC x o=aV ((S.aC c (.cells (hd++ [aZ 4 b l]))).aC x o) b l∧(l≠[]→((S.aC c (.cells (hd++ [aZ 4 b l]))).aC x o) b=none):=by
 have hne:l≠[]→x≠b:=fun h e=>by
  have:=hb h
  rw[←e,aB.aG _ _ hxc] at this
  exact hx this
 refine⟨by unfold fX;rw[lQ hne],fun h=>by rw[aB.aG _ _ (dG (hne h))];exact hb h⟩
theorem r0{S:aB}{c b x:Nat}{hd l:List AV}{o:AO}(hb:l≠[]→(S.aC c (.cells (hd++ [aZ 4 b l]))) b=none)(hx:S x≠none)(hxc:x≠c) :
 (fX S c b hd l).aC x o=fX (S.aC x o) c b hd l∧(l≠[]→((S.aC x o).aC c (.cells (hd++ [aZ 4 b l]))) b=none):=by
 have hne:l≠[]→x≠b:=fun h e=>by
  have:=hb h
  rw[←e,aB.aG _ _ hxc] at this
  exact hx this
 refine⟨by unfold fX;rw[lQ hne,aB.nD _ _ _ (dG hxc)],fun h=>?_⟩
 have:=hb h
 rw[aB.nD _ _ _ hxc,aB.aG _ _ (dG (hne h))]
 exact this
theorem a3U{S T:aB}{c b:Nat}{hd l:List AV}(D:aL (S.aC c (.cells (hd++ [aZ 4 b l]))) T)(hb:l≠[]→(S.aC c (.cells (hd++ [aZ 4 b l]))) b=none):aL (fX S c b hd l) T:=
 D.aV fun h=>(D b).1 (hb h)
theorem aB.yM{st:aB}{b c:Nat}{a z a':AO}(h:b≠c):((st.aC c a).aC b z).aC c a'=(st.aC b z).aC c a':=by rw[aB.nD _ _ _ (dG h),cK]
theorem d9(l:List Tm):∀e∈l.map Tm.av,e.width=4:=by intro e h;simp only[cY] at h;obtain⟨t,_,rfl⟩:=h;exact aM t
theorem jJ(l:List Tm):∀e∈l.map Tm.av,e.cJ=false:=by intro e h;simp only[cY] at h;obtain⟨t,_,rfl⟩:=h;exact cP t
end Go.AW
namespace Go.AW
open Go.Proofs.Tryz
mutual
def Tm.small:Tm→Bool
 | .mk _ _ _ ts=>decide (ts.length≤1048576)&&K5 ts
def K5:List Tm→Bool
 | []=>true
 | t::ts=>t.small&&K5 ts
end
theorem K6:∀(ts:List Tm),K5 ts=ts.all Tm.small
 | []=>rfl
 | t::ts=>by simp only[K5,k0,K6 ts]
theorem Tm.rC{k n:Int}{s:ByteArray}{ts:List Tm}(h:(Tm.mk k n s ts).small=true):ts.length≤1048576∧∀x∈ts,x.small=true:=by
 simpa [Tm.small,K6] using h
abbrev PE:=zi tI_3 (zi zI_3 (zi aU (zi tI_28 (zi zI_28 (zi aO (zi bF (zi bG (zi bZ (zi tI_52 (zi zI_52 (zi bU (zi bV (zi bX (zi bY bT))))))))))))))
theorem J1(l:List Tm)(st:aB)(hb:l.length≤1048576)(hc:∀x∈l,∀(st:aB),aD prog 137 [Tm.av x] st (Made st (Tm.av x))) :
 aD prog 97 [.slice (l.map Tm.av)] st (Made st (.slice (l.map Tm.av))):=by
 have hws:∀e∈l.map Tm.av,e.width=4:=fun e he=>by simp only[cY] at he;obtain⟨t,_,rfl⟩:=he;exact aM t
 refine wF [] 1 func97 ntmps97 rfl rfl ?_
 intro _
 simp -implicitDefEqProofs only[aF,aA,seval,PE]
 refine eL (σ:=List AV×List Nat×Nat×aB) [] [2,6,7] l (fun i p=>tR (l.map Tm.av) st i p.1 p.2.1 p.2.2.1 p.2.2.2) (fun i p=>[(3,aZ 4 p.2.2.1 p.1),(8,.int .i64 i)]) (fun _ p=>p.2.2.2) (by decide +kernel)
  ⟨([],[],0,st),tR.start,aP.mk (by simp -implicitDefEqProofs only[jV,aA,↓aS,seval])⟩ (fun i x p hx hlt bR hdr hinv=>?_) (fun p hge hinv=>?_)
 case refine_2=>
  obtain⟨os,bs,b,s⟩:=p
  simp -implicitDefEqProofs only[hge,aA,seval]
  exact hinv.done (aF _) hws
 obtain⟨os,bs,b,s⟩:=p
 simp only at hinv
 have hw:=bO (n:=(i:Int)+1)
 have wA:∀zs:List AV,zs.length=4→aK zs 0 (Tm.av x).cells=(Tm.av x).cells:=fun zs h=>AP (b9 x) h
 simp -implicitDefEqProofs only[bR,bQ (av:=Tm.av) aO hx (aM x),aY,aM,b9,cH,cK,wA,aA,seval,PE]
 intro b2 hb2
 try simp -implicitDefEqProofs only[lG,b9,eW (b9 x),eU (aY x),dC,wA,cK,cH,aA,↓aS,seval,PE]
 refine(hc x (dA hx) _).mono ?_
 rintro r s2 ⟨bx,m1,m2,m3,m4⟩
 obtain⟨f1,f2,f3⟩:=m3.aBO (aM x) (cH x)
 have hra:r.isAgg=true:=by rw[(bL.shape m3).1,aY]
 have hrj:r.cJ=false:=(bL.shape m3).2.2.1
 simp -implicitDefEqProofs only[f1,hra,hrj,aA,seval,PE]
 have hlen:os.length=i:=hinv.1
 have UX:∀e∈os,e.width=4:=fun e he=>by
  obtain⟨k,hk,rfl⟩:=List.getElem_of_mem he
  exact hinv.2.1.D4 (fun q hq=>hws q (mJ hq)) _ he
 have hkb:os≠[]→s2 b=some (.cells (os.flatMap AV.cells)):=fun hne=>by
  have h:=(hinv.2.2.2.2.1 hne).2.2
  have hbx:b∉bx:=fun hq=>by
   have:=m2 b hq
   have xS:b≠b2:=fun e=>by rw[e,hb2] at h;cases h
   rw[aB.aG _ _ xS,h] at this;cases this
  have xS:b≠b2:=fun e=>by rw[e,hb2] at h;cases h
  rw[m4 b hbx,aB.aG _ _ xS,h]
 refine Y4 aO bF bG rfl rfl (fL f1 f3) UX hkb (by simp only[aT,aX,hlen];omega) (by simp only[aT,aX,hlen];omega) (fun b' s' k1 k2 k3 k4=>?_)
 have jG:=hinv.step hb2 (show(l.map Tm.av)[i]?=some (Tm.av x) by rw[oX,hx];try rfl) m1 m2 m3 m4 (k1 (by simp)) (k2 (by simp)) (fun q h1 h2=>k3 q (fun _=>h1) h2) k4
 simp -implicitDefEqProofs only[hw,aA,seval]
 exact⟨(os++ [r],bs++bx,b',s'.erase b2),jG,aP.drop (kJ _ _) (by simp -implicitDefEqProofs only[aA,seval])⟩
abbrev aR6:=zi tI_28 (zi zI_28 (zi aO (zi bF (zi bG (zi bZ (zi tI_52 (zi zI_52 (zi bU (zi bV (zi bX (zi bY bT)))))))))))
theorem F0:∀(t:Tm) (st:aB),t.small=true→aD prog 137 [t.av] st (Made st t.av)
 | .mk k n s ts,st,hb=>by
  obtain⟨hb1,hb2⟩:=Tm.rC hb
  have hc:=fun st=>J1 ts st hb1 fun x hx st=>F0 x st (hb2 x hx)
  refine aD.VH ?_
  refine wF [1] 1 func137 ntmps137 rfl rfl ?_
  intro _
  simp only[a8]
  simp -implicitDefEqProofs only[aA,seval,aR6]
  intro b a09 b2 NN
  have hne:b2≠b:=by rintro rfl;rw[aB.aJ] at NN;cases NN
  have hn2:st b2=none:=by rw[aB.aG st _ hne] at NN;exact NN
  simp -implicitDefEqProofs only[lG,hne.symm,aA,seval]
  refine(hc _).mono ?_
  rintro q s2 ⟨bs,m1,m2,m3,m4⟩
  have hbb:b∉bs:=fun h=>by have:=m2 b h;simp [lG,hne.symm] at this
  have NP:b2∉bs:=fun h=>by have:=m2 b2 h;simp [lG] at this
  have e1:=m4 b hbb
  have e2:=m4 b2 NP
  simp only[lG,hne,hne.symm,fS,d4] at e1 e2
  have hqc:q.cells= [q]:=by have:=(bL.shape m3).1;cases q<;>first | rfl | simp [AV.isAgg] at this
  have hqs:q.storable=true:=by
   have:=m3
   simp only[bL] at this
   rcases this with ⟨_,rfl,_⟩ | ⟨_,_,_,_,rfl,_⟩<;>rfl
  simp -implicitDefEqProofs only[lG,hne,e1,e2,hqc,hqs,aK,aA,seval,aR6]
  refine⟨[b,b2],bs,m1,fun x hx=>?_,?_,?_,?_⟩
  · have:=m2 x hx
    have h1:x≠b:=fun e=>hbb (e▸hx)
    have h2:x≠b2:=fun e=>NP (e▸hx)
    simpa [lG,h1,h2] using this
  · simp [a09,hn2,hbb,NP]
  · rw[←a8]
    refine aPZ.2 ⟨q,rfl,bL.a7 _ _ _ (fun x hx=>?_) m3⟩
    have h1:x≠b:=fun e=>hbb (e▸hx)
    have h2:x≠b2:=fun e=>NP (e▸hx)
    simp only[lG,h1,h2,d4]
  · intro x hx hd
    simp only[dB,dV,eA,oG] at hd
    simp only[lG,hd.1,hd.2,d4]
    rw[m4 x hx]
    simp only[lG,hd.1,hd.2,d4]
termination_by t=>SizeOf.sizeOf t
decreasing_by have:=List.sizeOf_lt_of_mem hx;simp only[Tm.mk.sizeOf_spec];omega
abbrev DU:=zi tI_3 (zi zI_3 (zi aU (zi tI_9 (zi zI_9 (zi cT (zi tI_28 (zi zI_28 (zi aO (zi bF (zi bG (zi bZ (zi tI_52 (zi zI_52 (zi bU (zi bV (zi bX (zi bY bT)))))))))))))))))
theorem zO:∀(t:Tm) (st:aB),t.small=true→aD prog 112 [t.av] st (fun r st'=>r=t.av∧st'=st)
 | .mk k n s ts,st,hsm=>by
  obtain⟨hlen,qV⟩:=Tm.rC hsm
  have IH:=fun(x:Tm) (hx:x∈ts) st=>zO x st (qV x hx)
  refine aD.qM (aD.fin ?_)
  simp only[a8]
  refine wF [] 1 func112 ntmps112 rfl rfl ?_
  simp only[eQ,AV.fits,eR,aF]
  intro ⟨_,_,_,hl,_⟩
  simp -implicitDefEqProofs only[aA,seval,DU]
  intro b2 hb2 c hc
  have hne:c≠b2:=by rintro rfl;rw[aB.aJ] at hc;cases hc
  have hn2:st c=none:=by rw[aB.aG st _ hne] at hc;exact hc
  simp -implicitDefEqProofs only[aK,aA,seval]
  refine eL (σ:=Nat) [] [1,2,3] ts (fun i b=>(((ts.take i).map (fun y=>y)).map Tm.av≠[]→(aB.aC (st.aC b2 (.cells [AV.int .i64 0,AV.int .i64 0,AV.str ⟨#[]⟩,AV.fslice []])) c (.cells ([AV.int .i64 k,AV.int .i64 n,AV.str s]++ [aZ 4 b (((ts.take i).map (fun y=>y)).map Tm.av)]))) b=none)) (fun i b=>[(4,.int .i64 i)]) (fun i b=>fX (st.aC b2 (.cells [AV.int .i64 0,AV.int .i64 0,AV.str ⟨#[]⟩,AV.fslice []])) c b [AV.int .i64 k,AV.int .i64 n,AV.str s] (((ts.take i).map (fun y=>y)).map Tm.av)) (by decide +kernel)
   ⟨0,fun h=>absurd rfl h,aP.mk (by simp -implicitDefEqProofs only[aA,↓aS,seval])⟩ (fun i x b hx hlt bR hdr hinv=>?_) (fun b hge hinv=>?_)
  case refine_1=>
   have hw:=bO (n:=(i:Int)+1)
   have c8:(((ts.take i).map (fun y=>y)).map Tm.av).length=i:=by simp only[aF,eC];omega
   have htk:(ts.take (i+1)).map (fun y=>y)=(ts.take i).map (fun y=>y)++ [(fun y=>y) x]:=by rw[gC,hx];simp
   have hbo:=fA hinv
   simp -implicitDefEqProofs only[aF,bR,aA,seval,DU]
   refine wP [(0,1),(2,1),(4,1),(1,2),(3,2),(5,1),(6,2),(7,2),(8,1),(9,0),(10,1),(11,0)] [0,2,4,1,3,5,6,7,8,10] mixed ?_
   simp -implicitDefEqProofs only[bQ (av:=Tm.av) aO hx (aM x),aY,aM,hbo,mP,iA,aA,seval,DU]
   refine j6 (IH x (dA hx) _) ?_
   simp -implicitDefEqProofs only[aY,aM,cP,iA,aA,seval,DU]
   refine eE aO bF bG rfl rfl (fL (aM _) (cH _)) (d9 _) hinv (by simp only[c8,aT,aX];omega) (by simp only[c8,aT,aX];omega) (fun b' hb'=>?_)
   rw[show(((ts.take i).map (fun y=>y)).map Tm.av)++ [((fun y=>y) x).av]=((ts.take (i+1)).map (fun y=>y)).map Tm.av by rw[htk];simp] at hb' ⊢
   obtain⟨g1,g2,g3⟩:=p7 hb'
   simp only[fE,eD] at g1 g3
   simp -implicitDefEqProofs only[g3,mQ,fH,aK,g1,hw,aA,seval,DU]
   exact⟨b',g2,aP.mk (by simp -implicitDefEqProofs only[aA,seval])⟩
  have hbo:=fA hinv
  rw[fG] at hinv hbo ⊢
  simp -implicitDefEqProofs only[aF,hge,aA,seval,DU]
  simp -implicitDefEqProofs only[hbo,aA,seval,DU]
  have mW:b2≠c:=dG hne
  have hS:(st.aC b2 (.cells [AV.int .i64 0,AV.int .i64 0,AV.str ⟨#[]⟩,AV.fslice []])) b2≠none:=by rw[aB.aJ];simp
  have h1:=iE hinv hS mW
  rw[aB.aJ] at h1
  simp -implicitDefEqProofs only[h1,fH,aK,aA,seval]
  obtain⟨h2,h3⟩:=lK (o:=.cells [AV.int .i64 k,AV.int .i64 n,AV.str s,aZ 4 b ((ts.map fun y=>y).map Tm.av)]) hinv hS mW
  refine⟨b,_,_,h2,h3,jJ _,⟨4,d9 _⟩,?_,?_⟩
  · simp only[gG,bB,aW,eS,kA,jE,List.map_id']
  · exact(((aL.refl _).aC hb2).aC hn2).aC hb2
termination_by t=>SizeOf.sizeOf t
decreasing_by have:=List.sizeOf_lt_of_mem hx;simp only[Tm.mk.sizeOf_spec];omega
end Go.AW
namespace Go.AW
def Tm.k:Tm→Int | .mk k _ _ _=>k
def Tm.n:Tm→Int | .mk _ n _ _=>n
def Tm.s:Tm→ByteArray | .mk _ _ s _=>s
def Tm.ts:Tm→List Tm | .mk _ _ _ ts=>ts
theorem Tm.eta(t:Tm):t=.mk t.k t.n t.s t.ts:=by cases t;rfl
def vr(n:Int):Tm:=.mk 1 n ⟨#[]⟩ []
mutual
def Tm.aN(f:Int→Tm):Tm→Tm
 | .mk k n s ts=>if k=1 then f n else .mk k n s (PO f ts)
def PO(f:Int→Tm):List Tm→List Tm
 | []=>[]
 | t::ts=>t.aN f::PO f ts
end
theorem aSI(f:Int→Tm):∀ts:List Tm,PO f ts=ts.map (Tm.aN f)
 | []=>rfl
 | t::ts=>by simp only[PO,bB,aSI f ts]
theorem Tm.oE(f:Int→Tm){k n:Int}{s:ByteArray}{ts:List Tm}(h:k=1):(Tm.mk k n s ts).aN f=f n:=by simp only[Tm.aN,h,fS]
theorem Tm.mZ(f:Int→Tm){k n:Int}{s:ByteArray}{ts:List Tm}(h:k≠1):(Tm.mk k n s ts).aN f=.mk k n s (ts.map (Tm.aN f)):=by simp only[Tm.aN,h,d4,aSI]
theorem xY(f:Int→Tm)(n:Int):(vr n).aN f=f n:=Tm.oE f rfl
mutual
def Tm.vl:Tm→List Int
 | .mk k n _ ts=>if k=1 then[n] else K7 ts
def K7:List Tm→List Int
 | []=>[]
 | t::ts=>t.vl++K7 ts
end
theorem aSQ{v:Int}:∀ {ts:List Tm},v∈K7 ts↔∃t∈ts,v∈t.vl
 | []=>by simp [K7]
 | t::ts=>by simp [K7,aSQ (ts:=ts)]
theorem Tm.oT{k n:Int}{s:ByteArray}{ts:List Tm}(h:k=1):(Tm.mk k n s ts).vl= [n]:=by simp only[Tm.vl,h,fS]
theorem Tm.mI{k n v:Int}{s:ByteArray}{ts:List Tm}(h:k≠1):v∈(Tm.mk k n s ts).vl↔∃t∈ts,v∈t.vl:=by simp only[Tm.vl,h,d4,aSQ]
theorem A7(n:Int):(vr n).vl= [n]:=Tm.oT rfl
theorem Tm.ind{p:Tm→Prop}(h:∀k n s ts,(∀t∈ts,p t)→p (.mk k n s ts)):∀t,p t
 | .mk k n s ts=>h k n s ts fun t ht=>Tm.ind h t
termination_by t=>SizeOf.sizeOf t
decreasing_by have:=List.sizeOf_lt_of_mem ht;simp only[Tm.mk.sizeOf_spec];omega
theorem r8{f g:Int→Tm}:∀(t:Tm),(∀v∈t.vl,f v=g v)→t.aN f=t.aN g:=by
 intro t
 induction t using Tm.ind with
 | h k n s ts ih=>
  intro h
  by_cases hk:k=1
  · rw[Tm.oE f hk,Tm.oE g hk];exact h n (by rw[Tm.oT hk];simp)
  · rw[Tm.mZ f hk,Tm.mZ g hk]
    congr 1
    exact sJ fun x hx=>ih x hx fun v hv=>h v ((Tm.mI hk).2 ⟨x,hx,hv⟩)
theorem AD(f g:Int→Tm)(t:Tm):(t.aN f).aN g=t.aN fun v=>(f v).aN g:=by
 induction t using Tm.ind with
 | h k n s ts ih=>
  by_cases hk:k=1
  · rw[Tm.oE f hk,Tm.oE _ hk]
  · rw[Tm.mZ f hk,Tm.mZ g hk,Tm.mZ _ hk,yX]
    congr 1
    exact sJ fun x hx=>ih x hx
theorem A6{f:Int→Tm}{w:Int}(t:Tm):w∈(t.aN f).vl↔∃v∈t.vl,w∈(f v).vl:=by
 induction t using Tm.ind with
 | h k n s ts ih=>
  by_cases hk:k=1
  · rw[Tm.oE f hk,Tm.oT hk];simp
  · rw[Tm.mZ f hk,Tm.mI hk]
    constructor
    · rintro⟨x,hx,hw⟩
      obtain⟨y,hy,rfl⟩:=cY.1 hx
      obtain⟨v,hv,hvw⟩:=(ih y hy).1 hw
      exact⟨v,(Tm.mI hk).2 ⟨y,hy,hv⟩,hvw⟩
    · rintro⟨v,hv,hw⟩
      obtain⟨y,hy,hvy⟩:=(Tm.mI hk).1 hv
      exact⟨_,cY.2 ⟨y,hy,rfl⟩,(ih y hy).2 ⟨v,hvy,hw⟩⟩
theorem a4Q{f:Int→Tm}{v:Int}:∀(t:Tm),v∈t.vl→(f v).nodes≤(t.aN f).nodes∧(t.k≠1→(f v).nodes<(t.aN f).nodes):=by
 intro t
 induction t using Tm.ind with
 | h k n s ts ih=>
  intro hv
  by_cases hk:k=1
  · rw[Tm.oT hk] at hv
    simp only[dB,dV,eA] at hv
    subst hv
    rw[Tm.oE f hk]
    exact⟨dC _,fun h=>absurd hk h⟩
  · obtain⟨x,hx,hvx⟩:=(Tm.mI hk).1 hv
    have h1:=(ih x hx hvx).1
    have h2:=KI (f:=Tm.nodes) (cY.2 ⟨x,hx,rfl⟩:x.aN f∈ts.map (Tm.aN f))
    rw[Tm.mZ f hk,Tm.iS]
    omega
abbrev Sub:=Int→Option Tm
def Sub.set(σ:Sub)(n:Int)(t:Tm):Sub:=fun m=>if m=n then some t else σ m
def Sub.none:Sub:=fun _=>Option.none
structure Good (σ:Sub) (R:Int→Tm) (rk:Int→Nat) (B:Nat):Prop where
 yG:∀n,R n=match σ n with | some u=>u.aN R | .none=>vr n
 J7:∀n u,σ n=some u→∀w∈u.vl,rk w<rk n
 bd:∀n,rk n<B
def sL(θ:Int→Tm)(σ:Sub):Prop:=∀n u,σ n=some u→θ n=u.aN θ
section
variable {σ:Sub} {R R':Int→Tm} {rk rk':Int→Nat} {B B':Nat}
theorem Good.none:Good Sub.none vr (fun _=>0) 1:=⟨fun n=>rfl,fun n u h=>(by cases h),fun n=>Nat.zero_lt_one⟩
theorem Good.free(G:Good σ R rk B){n:Int}(h:σ n=.none):R n=vr n:=by rw[G.yG n,h]
theorem Good.bound(G:Good σ R rk B){n:Int}{u:Tm}(h:σ n=some u):R n=u.aN R:=by rw[G.yG n,h]
theorem Good.xX(G:Good σ R rk B):sL R σ:=fun n u h=>G.bound h
theorem Good.ind(G:Good σ R rk B){p:Int→Prop}(h0:∀n,σ n=.none→p n)(h1:∀n u,σ n=some u→(∀w∈u.vl,p w)→p n):∀n,p n:=by
 intro n
 generalize hk:rk n=k
 induction k using Nat.strongRecOn generalizing n with
 | _ k ih=>
  cases h:σ n with
  | none=>exact h0 n h
  | some u=>exact h1 n u h fun w hw=>ih (rk w) (hk▸G.J7 n u h w hw) w rfl
theorem Good.uniq(G:Good σ R rk B)(G':Good σ R' rk' B'):R=R':=by
 funext n
 refine G.ind (p:=fun n=>R n=R' n) (fun n h=>?_) (fun n u h ih=>?_) n
 · rw[G.free h,G'.free h]
 · rw[G.bound h,G'.bound h];exact r8 u ih
theorem Good.a0J(G:Good σ R rk B){θ:Int→Tm}(S:sL θ σ)(n:Int):(R n).aN θ=θ n:=by
 refine G.ind (p:=fun n=>(R n).aN θ=θ n) (fun n h=>?_) (fun n u h ih=>?_) n
 · rw[G.free h,xY]
 · rw[G.bound h,AD,S n u h];exact r8 u ih
theorem Good.TP(G:Good σ R rk B){θ:Int→Tm}(S:sL θ σ)(t:Tm):(t.aN R).aN θ=t.aN θ:=by
 rw[AD];exact r8 t fun v _=>G.a0J S v
theorem Good.canon(G:Good σ R rk B)(n:Int):(R n).aN vr=R n:=by
 refine G.ind (p:=fun n=>(R n).aN vr=R n) (fun n h=>?_) (fun n u h ih=>?_) n
 · rw[G.free h,xY]
 · rw[G.bound h,AD];exact r8 u ih
theorem Good.aYS(G:Good σ R rk B)(t:Tm):(t.aN R).aN vr=t.aN R:=by
 rw[AD];exact r8 t fun v _=>G.canon v
theorem Good.bind(G:Good σ R rk B){n:Int}{t:Tm}(hn:σ n=.none)(ho:n∉(t.aN R).vl) :
 ∃rk' B',Good (σ.set n t) (fun m=>(R m).aN fun v=>if v=n then t.aN R else vr v) rk' B':=by
 have key:(t.aN R).aN (fun v=>if v=n then t.aN R else vr v)=t.aN R:=by
  rw[r8 (g:=vr) (t.aN R) (fun v hv=>aE fun e=>ho (by rw[←e];exact hv)),G.aYS]
 refine⟨fun v=>if n∈(R v).vl then rk v+B else rk v,B+B,fun m=>?_,fun m u h w hw=>?_,fun m=>?_⟩
 · by_cases hm:m=n
   · subst hm
     simp only[Sub.set,fS]
     rw[G.free hn,xY,aH rfl]
     rw[←AD,key]
   · simp only[Sub.set,hm,d4]
     cases h:σ m with
     | none=>rw[G.free h,xY,aE hm]
     | some u=>rw[G.bound h,AD]
 · by_cases hm:m=n
   · subst hm
     simp only[Sub.set,fS,Option.some.injEq] at h
     subst h
     have hw':m∉(R w).vl:=fun h=>ho ((A6 t).2 ⟨w,hw,h⟩)
     have:m∈(R m).vl:=by rw[G.free hn,A7];simp
     have:=G.bd w
     simp only[hw',d4]
     rw[aH (by assumption)]
     omega
   · simp only[Sub.set,hm,d4] at h
     have h1:=G.J7 m u h w hw
     by_cases hw':n∈(R w).vl
     · have:n∈(R m).vl:=by rw[G.bound h];exact(A6 u).2 ⟨w,hw,hw'⟩
       simp only[hw',this,fS];omega
     · simp only[hw',d4];split<;>omega
 · have:=G.bd m
   split<;>omega
end
open Classical in
noncomputable def rs(σ:Sub):Int→Tm:=if h:∃R rk B,Good σ R rk B then h.choose else vr
theorem Good.rs{σ:Sub}{R:Int→Tm}{rk:Int→Nat}{B:Nat}(G:Good σ R rk B):rs σ=R:=by
 unfold AW.rs
 have h:∃R rk B,Good σ R rk B:=⟨R,rk,B,G⟩
 rw[dif_pos h]
 obtain⟨rk',B',G'⟩:=h.choose_spec
 exact G'.uniq G
inductive gR (σ:Sub):Nat→Tm→Tm→Prop
 | stop {t:Tm} (h:t.k=1→σ t.n=none):gR σ 0 t t
 | go {f:Nat} {t u v:Tm} (h1:t.k=1) (h2:σ t.n=some u) (h3:gR σ f u v):gR σ (f+1) t v
theorem gR.det{σ:Sub}{f g:Nat}{t u v:Tm}(h:gR σ f t u):gR σ g t v→u=v:=by
 induction h generalizing g v with
 | stop h=>
  intro h'
  cases h' with
  | stop=>rfl
  | go h1 h2 h3=>rw[h h1] at h2;cases h2
 | go h1 h2 h3 ih=>
  intro h'
  cases h' with
  | stop h=>rw[h h1] at h2;cases h2
  | go h1' h2' h3'=>rw[h2] at h2';cases h2';exact ih h3'
theorem gR.total{σ:Sub}{R:Int→Tm}{rk:Int→Nat}{B:Nat}(G:Good σ R rk B)(t:Tm):∃f u,gR σ f t u:=by
 have key:∀n,∀t:Tm,t.k=1→t.n=n→∃f u,gR σ f t u:=by
  intro n
  refine G.ind (p:=fun n=>∀t:Tm,t.k=1→t.n=n→∃f u,gR σ f t u) (fun n h t hk hn=>?_) (fun n u h ih t hk hn=>?_) n
  · exact⟨0,t,.stop fun _=>by rw[hn,h]⟩
  · by_cases hu:u.k=1
    · have:u.n∈u.vl:=by rw[Tm.eta u,Tm.oT hu];simp [Tm.n]
      obtain⟨f,v,hv⟩:=ih u.n this u hu rfl
      exact⟨f+1,v,.go hk (by rw[hn,h]) hv⟩
    · exact⟨1,u,.go hk (by rw[hn,h]) (.stop fun h=>absurd h hu)⟩
 by_cases hk:t.k=1
 · exact key t.n t hk rfl
 · exact⟨0,t,.stop fun h=>absurd h hk⟩
theorem Tm.G5{t:Tm}(h:t.k=1):t.vl= [t.n]:=by cases t;exact Tm.oT h
theorem Tm.FW{t:Tm}(f:Int→Tm)(h:t.k=1):t.aN f=f t.n:=by cases t;exact Tm.oE f h
theorem Tm.sX{t:Tm}(f:Int→Tm)(h:t.k≠1):t.aN f=.mk t.k t.n t.s (t.ts.map (Tm.aN f)):=by cases t;exact Tm.mZ f h
theorem gR.end{σ:Sub}{f:Nat}{t u:Tm}(h:gR σ f t u):u.k=1→σ u.n=none:=by induction h with | stop h=>exact h | go _ _ _ ih=>exact ih
theorem gR.aN{σ:Sub}{θ:Int→Tm}(S:sL θ σ){f:Nat}{t u:Tm}(h:gR σ f t u):u.aN θ=t.aN θ:=by
 induction h with
 | stop=>rfl
 | go h1 h2 _ ih=>rw[ih,Tm.FW θ h1,S _ _ h2]
theorem gR.J7{σ:Sub}{R:Int→Tm}{rk:Int→Nat}{B:Nat}(G:Good σ R rk B){f:Nat}{t u:Tm}(h:gR σ f t u):∀w∈u.vl,∃v∈t.vl,rk w≤rk v∧(f≠0→rk w<rk v):=by
 induction h with
 | stop h=>exact fun w hw=>⟨w,hw,dC _,fun h=>absurd rfl h⟩
 | @go f t u v h1 h2 _ ih=>
  intro w hw
  obtain⟨x,hx,hle,_⟩:=ih w hw
  have:=G.J7 _ _ h2 x hx
  exact⟨t.n,by rw[Tm.G5 h1];simp,by omega,fun _=>by omega⟩
theorem gR.all{σ:Sub}{p:Tm→Prop}(hp:∀n u,σ n=some u→p u){f:Nat}{t u:Tm}(h:gR σ f t u)(ht:p t):p u:=by
 induction h with
 | stop=>exact ht
 | go _ h2 _ ih=>exact ih (hp _ _ h2)
open Classical in
noncomputable def wk(σ:Sub)(t:Tm):Tm:=if h:∃u f,gR σ f t u then h.choose else t
theorem gR.wk{σ:Sub}{f:Nat}{t u:Tm}(h:gR σ f t u):wk σ t=u:=by
 unfold AW.wk
 have h':∃u f,gR σ f t u:=⟨u,f,h⟩
 rw[dif_pos h']
 obtain⟨g,hg⟩:=h'.choose_spec
 exact hg.det h
theorem Good.wk{σ:Sub}{R:Int→Tm}{rk:Int→Nat}{B:Nat}(G:Good σ R rk B)(t:Tm):∃f,gR σ f t (wk σ t):=by
 obtain⟨f,u,h⟩:=gR.total G t
 exact⟨f,by rw[h.wk];exact h⟩
open Classical in
noncomputable def lA(σ:Sub)(n:Int)(t:Tm):Bool×Sub×List Int:=if n∈(t.aN (rs σ)).vl then(false,σ,[]) else(true,σ.set n t,[n])
open Classical in
def v5(a b:Tm):Bool:=decide (a.k=b.k)&&decide (a.n=b.n)&&decide (a.s=b.s)&&decide (a.ts.length=b.ts.length)
mutual
noncomputable def dM:Nat→Sub→Tm→Tm→Option (Bool×Sub×List Int)
 | 0,_,_,_=>none
 | g+1,σ,a,b=>
  if(wk σ a).k=1∧(wk σ b).k=1∧(wk σ a).n=(wk σ b).n then some (true,σ,[])
  else if(wk σ a).k=1 then some (lA σ (wk σ a).n (wk σ b))
  else if(wk σ b).k=1 then some (lA σ (wk σ b).n (wk σ a))
  else if v5 (wk σ a) (wk σ b)=true then eJ g σ (wk σ a).ts (wk σ b).ts
  else some (false,σ,[])
termination_by g=>(g,0)
noncomputable def eJ:Nat→Sub→List Tm→List Tm→Option (Bool×Sub×List Int)
 | g,σ,a::xs,b::ys=>match dM g σ a b with
  | none=>none
  | some (false,σ',tr)=>some (false,σ',tr)
  | some (true,σ',tr)=>match eJ g σ' xs ys with
   | none=>none
   | some (r,σ'',tr')=>some (r,σ'',tr++tr')
 | _,σ,_,_=>some (true,σ,[])
termination_by g _ xs=>(g,xs.length+1)
end
theorem P4{g:Nat}{σ σ':Sub}{a b:Tm}{r:Bool}{add:List Int}(h:dM (g+1) σ a b=some (r,σ',add)) :
 ((wk σ a).k=1∧(wk σ b).k=1∧(wk σ a).n=(wk σ b).n∧true=r∧σ=σ'∧[]=add) ∨
 ((wk σ a).k=1∧¬((wk σ b).k=1∧(wk σ a).n=(wk σ b).n)∧lA σ (wk σ a).n (wk σ b)=(r,σ',add)) ∨
 ((wk σ a).k≠1∧(wk σ b).k=1∧lA σ (wk σ b).n (wk σ a)=(r,σ',add)) ∨
 ((wk σ a).k≠1∧(wk σ b).k≠1∧v5 (wk σ a) (wk σ b)=true∧eJ g σ (wk σ a).ts (wk σ b).ts=some (r,σ',add)) ∨
 ((wk σ a).k≠1∧(wk σ b).k≠1∧v5 (wk σ a) (wk σ b)=false∧false=r∧σ=σ'∧[]=add):=by
 rw[dM] at h
 split at h
 · rename_i h1;exact .inl ⟨h1.1,h1.2.1,h1.2.2,by simpa using h⟩
 · rename_i h1
   split at h
   · rename_i h2;exact .inr (.inl ⟨h2,fun h3=>h1 ⟨h2,h3⟩,jL h⟩)
   · rename_i h2
     split at h
     · rename_i h3;exact .inr (.inr (.inl ⟨h2,h3,jL h⟩))
     · rename_i h3
       split at h
       · rename_i h4;exact .inr (.inr (.inr (.inl ⟨h2,h3,h4,h⟩)))
       · rename_i h4;exact .inr (.inr (.inr (.inr ⟨h2,h3,by simpa using h4,by simpa using h⟩)))
theorem Tm.soft(t:Tm):t.av.soft=t.av:=by cases t;simp [a8,AV.soft,jA]
theorem Tm.xJ(t:Tm)(b:Nat):t.av.fin b []=t.av:=Tm.soft t
abbrev Bd:=Int×Tm
def aM8:List Bd→Int→Option Tm
 | [],_=>none
 | (m,x)::r,n=>if m=n then some x else aM8 r n
def WR(bs:List Bd)(n:Int):Tm:=(aM8 bs n).getD (vr n)
def Tm.zero:Tm:=.mk 0 0 ⟨#[]⟩ []
mutual
def Tm.cv:Tm→Bool
 | .mk k _ s ts=>(!decide (k=1)||(decide (s=⟨#[]⟩)&&ts.isEmpty))&&PL ts
def PL:List Tm→Bool
 | []=>true
 | t::ts=>t.cv&&PL ts
end
theorem aSF:∀(ts:List Tm),PL ts=ts.all Tm.cv
 | []=>rfl
 | t::ts=>by simp only[PL,k0,aSF ts]
theorem Tm.pS{k n:Int}{s:ByteArray}{ts:List Tm}:(Tm.mk k n s ts).cv=true↔(k=1→s=⟨#[]⟩∧ts= [])∧∀x∈ts,x.cv=true:=by
 simp only[Tm.cv,aSF,cE,oV,lT,dL,List.isEmpty_iff,eM,bK]
 constructor
 · exact fun h=>⟨fun hk=>h.1.resolve_left (fun hn=>hn hk),h.2⟩
 · intro h
   refine⟨?_,h.2⟩
   by_cases hk:k=1
   · exact .inr (h.1 hk)
   · exact .inl hk
theorem Tm.vV:∀(t:Tm),t.cv=true→t.wf=true:=by
 intro t
 induction t using Tm.ind with
 | h k n s ts ih=>
  intro h
  obtain⟨h1,h2⟩:=Tm.pS.1 h
  simp only[Tm.wf,XL,cE,oV,lT,dL,List.isEmpty_iff,eM]
  refine⟨?_,fun x hx=>ih x hx (h2 x hx)⟩
  by_cases hk:k=1
  · exact .inr (h1 hk).2
  · exact .inl hk
theorem Tm.a6D:∀(t:Tm) (d:Int),t.shape d=true→t.small=true:=by
 intro t
 induction t using Tm.ind with
 | h k n s ts ih=>
  intro d h
  rw[Tm.GI] at h
  simp only[cE,eM] at h
  obtain⟨⟨_,h1⟩,h2⟩:=h
  simp only[Tm.small,K6,cE,bK,eM]
  refine⟨?_,fun x hx=>ih x hx _ (h2 x hx)⟩
  unfold fB at h1
  cases h3:decide (k=1)<;>rw[h3] at h1
  · cases h4:decide (k=2)<;>rw[h4] at h1
    · cases h5:decide (k=3)<;>rw[h5] at h1<;>simp at h1;omega
    · simp at h1;rw[h1.2];simp
  · simp at h1;rw[h1.2];simp
theorem Tm.P8{t:Tm}(h:t.valid=true):t.small=true:=by simp only[Tm.valid,cE] at h;exact Tm.a6D t 30 h.1
def uO{α:Type}(p:α→Bool):List α→Int→Int
 | [],_=> -1
 | x::xs,i=>if p x=true then i else uO p xs (i+1)
theorem aOZ{α:Type}(p:α→Bool):∀(l:List α) (i:Int),0≤i→(uO p l i= -1∧l.any p=false)∨∃(j:Nat) (x:α),uO p l i=i+j∧l[j]?=some x∧p x=true∧l.any p=true∧∀(k:Nat) y,k<j→l[k]?=some y→p y=false
 | [],i,_=>.inl ⟨rfl,rfl⟩
 | x::xs,i,h=>by
  by_cases hp:p x=true
  · exact .inr ⟨0,x,by simp [uO,hp],rfl,hp,by simp [hp],fun k y hk=>absurd hk (Nat.not_lt_zero k)⟩
  · rcases aOZ p xs (i+1) (by omega) with ⟨h1,h2⟩ | ⟨j,y,h1,h2,h3,h4,h5⟩
    · exact .inl ⟨by simp [uO,hp,h1],by simp [hp,h2]⟩
    · refine .inr ⟨j+1,y,by simp only[uO,hp,h1];simp;omega,by simpa using h2,h3,by simp [h4],fun k z hk hz=>?_⟩
      cases k with
      | zero=>simp at hz;subst hz;simpa using hp
      | succ k=>exact h5 k z (by omega) (by simpa using hz)
theorem a3H{α:Type}(p:α→Bool)(l:List α):decide (0≤uO p l 0)=l.any p:=by
 rcases aOZ p l 0 (Int.le_refl 0) with ⟨h1,h2⟩ | ⟨j,y,h1,_,_,h4,_⟩
 · rw[h1,h2];try rfl
 · rw[h1,h4];simp
end Go.AW
namespace Go.AW
open Go.Proofs.Tryz
abbrev a7N:=zi tI_3 (zi zI_3 (zi aU (zi tI_4 (zi zI_4 (zi cI (zi tI_9 (zi zI_9 (zi cT (zi tI_28 (zi zI_28 (zi aO (zi bF (zi bG (zi bZ (zi tI_52 (zi zI_52 (zi bU (zi bV (zi bX (zi bY bT))))))))))))))))))))
theorem aW1(k n:Int)(s:ByteArray)(ts:List Tm)(st:aB):aD prog 240 [(Tm.mk k n s ts).av] st (fun r st'=>r=.bool (fB k n s ts.length)∧st'=st):=by
 refine wF [] 1 func240 ntmps240 rfl rfl ?_
 intro _
 simp only[a8]
 have hl:(ts.map Tm.av).length=ts.length:=aF _
 repeat' (first
  | (simp -implicitDefEqProofs only[*,aA,seval,a7N])
  | (refine cU (fun h=>?_) (fun h=>?_))
  | (refine(aYK s st).to ?_)
  | (refine aQ (fun h=>?_) (fun h=>?_)))
 all_goals simp only[fB, *,cond_true,CC,pM,eP,g9,vH,BA]
abbrev O4:=zi tI_3 (zi zI_3 (zi aU (zi tI_4 (zi zI_4 (zi cI (zi tI_28 (zi zI_28 (zi aO (zi bF (zi bG (zi bZ (zi tI_52 (zi zI_52 (zi bU (zi bV (zi bX (zi bY bT)))))))))))))))))
theorem aAQ:∀(t:Tm) (d:Int) (st:aB),d≤30→-1≤d→aD prog 195 [t.av,.int .i64 d] st (fun r st'=>r=.bool (t.shape d)∧st'=st)
 | .mk k n s ts,d,st,hd,hd0=>by
  have hc:=fun(x:Tm) (hx:x∈ts) d st h h0=>aAQ x d st h h0
  have h1:=aW1 k n s ts st
  rw[a8] at h1
  refine wF [] 2 func195 ntmps195 rfl rfl ?_
  simp only[a8,eQ,AV.fits,eR,aF,Tm.GI]
  intro ⟨_,_,_,hl,_⟩
  generalize fB k n s ts.length=z at *
  simp -implicitDefEqProofs only[aA,seval,O4]
  refine cU (fun h=>?_) (fun h=>?_)
  case refine_2=>
   simp -implicitDefEqProofs only[h,aA,seval]
   simp only[oU,bK] at h
   simp;omega
  simp -implicitDefEqProofs only[h,aA,seval,O4]
  refine h1.to ?_
  simp -implicitDefEqProofs only[aA,seval]
  refine⟨fun h2=>?_,fun h2=>?_⟩
  · simp -implicitDefEqProofs only[aA,seval]
    simp only[lT] at h2
    simp [h2]
  simp only[qD,dL] at h2 h
  subst h2
  have hw:=bO (n:=d - 1)
  rw[show decide (1≤d)=true by simp;omega]
  simp -implicitDefEqProofs only[aA,seval]
  refine yP (α:=Nat) [] (fun i=>i≤ts.length∧∀(j:Nat) x,j<i→ts[j]?=some x→x.shape (d - 1)=true)
   (fun i=>[(1,.int .i64 d),(2,.pptr (.agg [.int .i64 k,.int .i64 n,.str s,.slice (ts.map Tm.av)])),(5,.int .i64 i)]) (fun _=>st) (fun i=>ts.length - i) (by decide +kernel)
   ⟨0,⟨by omega,by intro j x h;omega⟩,aP.mk (by simp -implicitDefEqProofs only[aA,↓aS,seval])⟩ ?_
  intro i ⟨hi,cS⟩
  simp -implicitDefEqProofs only[aF,aA,seval,O4]
  refine⟨fun h5=>?_,fun h5=>?_⟩
  case refine_2=>
   simp -implicitDefEqProofs only[aA,seval]
   simp only[dL,n0] at h5
   rw[L0 fun j x hx=>cS j x (by have:=(gW.1 hx).1;omega) hx]
  simp only[bK,n0] at h5
  obtain⟨x,hx⟩:∃x,ts[i]?=some x:=⟨_,fF h5⟩
  simp -implicitDefEqProofs only[bQ (av:=Tm.av) aO hx (aM x),aY,aM,hw,aA,seval,O4]
  refine(hc x (dA hx) (d - 1) st (by omega) (by omega)).to ?_
  simp -implicitDefEqProofs only[aA,seval]
  refine⟨fun h6=>?_,fun h6=>?_⟩
  · simp -implicitDefEqProofs only[aA,seval]
    simp only[lT] at h6
    rw[wZ hx h6]
  simp only[qD] at h6
  simp -implicitDefEqProofs only[aA,seval]
  refine⟨i+1,by omega,⟨by omega,fun j u hj hu=>?_⟩,aP.mk ?_⟩
  · rcases k7 j i with h8 | h8
    · exact cS j u h8 hu
    · obtain rfl:j=i:=by omega
      rw[hx] at hu;cases hu;exact h6
  · have:=bO (n:=(i:Int)+1)
    simp -implicitDefEqProofs only[this,aA,seval]
termination_by t=>SizeOf.sizeOf t
decreasing_by have:=List.sizeOf_lt_of_mem hx;simp only[Tm.mk.sizeOf_spec];omega
abbrev W2:=zi tI_3 (zi zI_3 (zi aU (zi tI_28 (zi zI_28 (zi aO (zi bF (zi bG (zi bZ (zi tI_52 (zi zI_52 (zi bU (zi bV (zi bX (zi bY bT))))))))))))))
theorem aAN:∀(t:Tm) (m:Int) (st:aB),0≤m→m≤120→aD prog 196 [t.av,.int .i64 m] st (fun r st'=>r=.int .i64 (min (t.nodes:Int) (m+1))∧st'=st)
 | .mk k n s ts,m,st,hm0,hm=>by
  have hc:=fun(x:Tm) (hx:x∈ts) m st h h0=>aAN x m st h h0
  refine wF [] 2 func196 ntmps196 rfl rfl ?_
  simp only[a8,eQ,AV.fits,eR,aF,Tm.iS]
  intro ⟨_,_,_,hl,_⟩
  simp -implicitDefEqProofs only[aA,seval,W2]
  refine yP (α:=Nat) [] (fun i=>i≤ts.length)
   (fun i=>[(1,.int .i64 m),(2,.pptr (.agg [.int .i64 k,.int .i64 n,.str s,.slice (ts.map Tm.av)])),(5,.int .i64 (min ((1+bH Tm.nodes (ts.take i):Nat):Int) (m+1))),(6,.int .i64 i)]) (fun _=>st) (fun i=>ts.length - i) (by decide +kernel)
   ⟨0,by omega,aP.mk (by simp -implicitDefEqProofs only[l7,bH,show min ((0:Int)+1) (m+1)=1 by omega,xI,↓LK,↓reduceIte,reduceCtorEq,Nat.reduceEqDiff,Nat.reduceAdd])⟩ ?_
  intro i hi
  simp -implicitDefEqProofs only[aF,aA,seval,W2]
  have UM:¬i<ts.length→bH Tm.nodes (ts.take i)=bH Tm.nodes ts:=fun h=>by rw[n7 (by omega)]
  refine cU (fun h5=>?_) (fun h5=>?_)
  case refine_2=>
   simp -implicitDefEqProofs only[h5,aA,seval]
   simp only[pM,dL,n0] at h5
   rw[UM h5]
  simp -implicitDefEqProofs only[h5,aA,seval]
  simp only[bK,n0] at h5
  obtain⟨x,hx⟩:∃x,ts[i]?=some x:=⟨_,fF h5⟩
  have hs:=KJ Tm.nodes hx
  refine⟨fun h6=>?_,fun h6=>?_⟩
  case refine_2=>
   simp -implicitDefEqProofs only[aA,seval]
   simp only[dL] at h6
   simp only[AV.int.injEq,tM]
   omega
  simp only[bK] at h6
  have e6:min (((1+bH Tm.nodes (ts.take i):Nat):Int)) (m+1)=((1+bH Tm.nodes (ts.take i):Nat):Int):=by omega
  rw[e6] at h6 ⊢
  have hw:=bO (n:=m - ((1+bH Tm.nodes (ts.take i):Nat):Int))
  simp -implicitDefEqProofs only[bQ (av:=Tm.av) aO hx (aM x),aY,aM,hw,aA,seval,W2]
  refine(hc x (dA hx) _ st (by omega) (by omega)).to ?_
  have hw2:=bO (n:=((1+bH Tm.nodes (ts.take i):Nat):Int)+min (x.nodes:Int) (m - ((1+bH Tm.nodes (ts.take i):Nat):Int)+1))
  simp -implicitDefEqProofs only[hw2,aA,seval]
  refine⟨i+1,by omega,by omega,aP.mk ?_⟩
  have:=bO (n:=(i:Int)+1)
  simp -implicitDefEqProofs only[this,show((1+bH Tm.nodes (ts.take i):Nat):Int)+min (x.nodes:Int) (m - ((1+bH Tm.nodes (ts.take i):Nat):Int)+1)=min ((1+bH Tm.nodes (ts.take (i+1)):Nat):Int) (m+1) by omega,aA,seval]
termination_by t=>SizeOf.sizeOf t
decreasing_by have:=List.sizeOf_lt_of_mem hx;simp only[Tm.mk.sizeOf_spec];omega
abbrev aRO:=zi tI_3 (zi zI_3 (zi aU (zi tI_4 (zi zI_4 (zi cI (zi tI_30 (zi zI_30 (zi iL (zi iM (zi iN (zi iO (zi iP (zi iQ (zi iK (zi tI_52 (zi zI_52 (zi bU (zi bV (zi bX (zi bY (zi bT (zi tI_120 (zi zI_120 (zi aMK (zi aML ZO)))))))))))))))))))))))))
theorem SK(t:Tm)(st:aB):aD prog 154 [t.av] st (fun r st'=>r=.bool t.valid∧st'=st):=by
 refine wF [] 1 func154 ntmps154 rfl rfl ?_
 intro _
 simp -implicitDefEqProofs only[cP,aY,aM,aA,seval,aRO]
 refine(aAQ t 30 st (by omega) (by omega)).to ?_
 simp -implicitDefEqProofs only[aA,seval]
 refine cU (fun h=>?_) (fun h=>?_)
 · simp -implicitDefEqProofs only[h,aY,aM,aA,seval,aRO]
   refine(aAN t 120 st (by omega) (by omega)).to ?_
   simp -implicitDefEqProofs only[aA,seval]
   simp only[Tm.valid,h,eP,AV.bool.injEq,CE]
   omega
 · simp -implicitDefEqProofs only[h,aA,seval]
   simp at h
   simp [Tm.valid,h]
abbrev a7L:=zi tI_3 (zi zI_3 (zi aU (zi tI_4 (zi zI_4 (zi cI (zi tI_9 (zi zI_9 (zi cT (zi tI_28 (zi zI_28 (zi aO (zi bF (zi bG (zi bZ (zi tI_52 (zi zI_52 (zi bU (zi bV (zi bX (zi bY bT))))))))))))))))))))
theorem aAZ(k n:Int)(s:ByteArray)(ts:List Tm)(st:aB):aD prog 163 [(Tm.mk k n s ts).av] st (fun r st'=>r=.bool (decide (k=3)&&decide (s=⟨#[33]⟩)&&decide ((ts.length:Int)=0))∧st'=st):=by
 refine wF [] 1 func163 ntmps163 rfl rfl ?_
 intro _
 simp only[a8]
 repeat' (first
  | (simp -implicitDefEqProofs only[*,aA,seval,a7L])
  | (refine cU (fun h=>?_) (fun h=>?_))
  | (refine aQ (fun h=>?_) (fun h=>?_)))
 all_goals simp only[*,aF,g9]
abbrev aRM:=zi tI_4 (zi zI_4 (zi cI (zi tI_9 (zi zI_9 (zi cT (zi tI_52 (zi zI_52 (zi bU (zi bV (zi bX (zi bY bT)))))))))))
theorem aAG(k n:Int)(s:ByteArray)(ts:List Tm)(st:aB):aD prog 184 [(Tm.mk k n s ts).av] st (fun r st'=>r=.bool (decide (k=3)&&decide ((ts.length:Int)=0)&&decide (s=⟨#[33]⟩))∧st'=st):=by
 have h1:=H4 k n s ts st
 rw[a8] at h1
 refine wF [] 1 func184 ntmps184 rfl rfl ?_
 intro _
 simp only[a8]
 simp -implicitDefEqProofs only[aA,seval,aRM]
 refine h1.to ?_
 clear h1
 repeat' (first
  | (simp -implicitDefEqProofs only[*,aA,seval,aRM])
  | (refine cU (fun h=>?_) (fun h=>?_))
  | (refine aQ (fun h=>?_) (fun h=>?_)))
 all_goals simp_all
abbrev aRN:=zi tI_3 (zi zI_3 (zi aU (zi tI_4 (zi zI_4 (zi cI (zi tI_9 (zi zI_9 (zi cT (zi tI_28 (zi zI_28 (zi aO (zi bF (zi bG (zi bZ (zi tI_52 (zi zI_52 (zi bU (zi bV (zi bX (zi bY bT))))))))))))))))))))
theorem R9(k n:Int)(s:ByteArray)(ts:List Tm)(st:aB):aD prog 185 [(Tm.mk k n s ts).av] st (fun r st'=>r=.bool (decide (k=3)&&isBuiltin s (ts.length:Int))∧st'=st):=by
 have h1:=aWK s ts.length st
 refine wF [] 1 func185 ntmps185 rfl rfl ?_
 intro _
 simp only[a8]
 simp -implicitDefEqProofs only[aA,seval,aRN]
 refine cU (fun h=>?_) (fun h=>?_)
 · simp -implicitDefEqProofs only[h,aF,aA,seval,aRN]
   refine h1.to ?_
   clear h1
   simp -implicitDefEqProofs only[aA,seval]
 · simp -implicitDefEqProofs only[h,aA,seval]
   simp at h
   simp []
def sA(k:Int)(s:ByteArray)(len:Int):Bool:=decide (k=3)&&uR s&& !isBuiltin s len&&decide ((dZ s:Int)=0)
abbrev a7M:=zi tI_3 (zi zI_3 (zi aU (zi tI_4 (zi zI_4 (zi cI (zi tI_9 (zi zI_9 (zi cT (zi tI_52 (zi zI_52 (zi bU (zi bV (zi bX (zi bY bT))))))))))))))
theorem aAI(k n:Int)(s:ByteArray)(ts:List Tm)(st:aB):aD prog 171 [(Tm.mk k n s ts).av] st (fun r st'=>r=.bool (sA k s (ts.length:Int))∧st'=st):=by
 have h1:=R9 k n s ts st
 rw[a8] at h1
 have e:decide ((0:Int)<(dZ s:Int))= !decide ((dZ s:Int)=0):=by
  by_cases h:dZ s=0
  · simp [h]
  · simp [h];omega
 have e3:∀b:Bool,k=3→(decide (k=3)&&b)=b:=fun b h=>by simp [h]
 refine wF [] 1 func171 ntmps171 rfl rfl ?_
 intro _
 simp only[a8]
 repeat' (first
  | (simp -implicitDefEqProofs only[*,aA,seval,a7M])
  | (refine cU (fun h=>?_) (fun h=>?_))
  | (refine(aAH s st).to ?_) | (refine(aWO s st).to ?_) | (refine h1.to ?_)
  | (refine aQ (fun h=>?_) (fun h=>?_)))
 all_goals (clear h1;simp_all [sA])
abbrev a7J:=zi tI_3 (zi zI_3 (zi aU (zi tI_4 (zi zI_4 (zi cI (zi tI_9 (zi zI_9 (zi cT (zi tI_28 (zi zI_28 (zi aO (zi bF (zi bG (zi bZ (zi tI_52 (zi zI_52 (zi bU (zi bV (zi bX (zi bY bT))))))))))))))))))))
theorem aA1(k n:Int)(s:ByteArray)(ts:List Tm)(st:aB):aD prog 155 [(Tm.mk k n s ts).av] st (fun r st'=>r=.bool (sA k s (ts.length:Int))∧st'=st):=by
 refine wF [] 1 func155 ntmps155 rfl rfl ?_
 intro _
 simp only[a8]
 have hl:(ts.map Tm.av).length=ts.length:=aF _
 repeat' (first
  | (simp -implicitDefEqProofs only[*,aA,seval,a7J])
  | (refine cU (fun h=>?_) (fun h=>?_))
  | (refine(aAT s st).to ?_) | (refine(SI s _ st).to ?_) | (refine(w8 s st).to ?_)
  | (refine aQ (fun h=>?_) (fun h=>?_)))
 all_goals simp_all [sA]
def z8(k:Int)(s:ByteArray)(len:Int):Bool:=(decide (k=3)&&decide (s=⟨#[33]⟩)&&decide (len=0))||sA k s len||(decide (k=3)&&isBuiltin s len)
abbrev a7K:=zi tI_3 (zi zI_3 (zi aU (zi tI_4 (zi zI_4 (zi cI (zi tI_9 (zi zI_9 (zi cT (zi tI_28 (zi zI_28 (zi aO (zi bF (zi bG (zi bZ (zi tI_52 (zi zI_52 (zi bU (zi bV (zi bX (zi bY bT))))))))))))))))))))
theorem aXL(k n:Int)(s:ByteArray)(ts:List Tm)(st:aB):aD prog 156 [(Tm.mk k n s ts).av] st (fun r st'=>r=.bool (z8 k s (ts.length:Int))∧st'=st):=by
 have h1:=aAZ k n s ts st
 have h2:=aA1 k n s ts st
 rw[a8] at h1 h2
 refine wF [] 1 func156 ntmps156 rfl rfl ?_
 intro _
 simp only[a8]
 have hl:(ts.map Tm.av).length=ts.length:=aF _
 unfold z8
 generalize (decide (k=3)&&decide (s=⟨#[33]⟩)&&decide ((ts.length:Int)=0))=z1 at *
 generalize sA k s (ts.length:Int)=z2 at *
 repeat' (first
  | (simp -implicitDefEqProofs only[*,aA,seval,a7K])
  | (refine cU (fun h=>?_) (fun h=>?_))
  | (refine h1.to ?_) | (refine h2.to ?_) | (refine(SI s _ st).to ?_)
  | (refine aQ (fun h=>?_) (fun h=>?_)))
 all_goals (clear h1 h2;simp_all)
theorem XW{st:aB}{b:Nat}{o:AO}(h:st b=some o):st.aC b o=st:=by
 funext x;simp only[aB.aC];split
 · rename_i e;rw[e,h]
 · rfl
def KE(ok:Bool)(c n:Int)(b:Nat)(st:aB)(r:AV)(st':aB):Prop:=
 ∃c',r=.bool (decide (c+n≤120)&&ok)∧st'=st.aC b (.cells [.int .i64 c'])∧((decide (c+n≤120)&&ok)=true→c'=c+n)
abbrev a7O:=zi tI_3 (zi zI_3 (zi aU (zi tI_4 (zi zI_4 (zi cI (zi tI_52 (zi zI_52 (zi bU (zi bV (zi bX (zi bY (zi bT (zi tI_240 zI_240)))))))))))))
theorem aYG(x:Tm)(d c:Int)(b:Nat)(st:aB)(hd: -1000≤d)(hd1:d≤1000)
 (h:aD prog 211 [x.av,.int .i64 (d+1),.ptr b 0] st (KE (x.shape (30 - d)) c x.nodes b st)) :
 aD prog 246 [x.av,.pptr (.int .i64 d),.pptr (.ptr b 0)] st (fun r st'=>∃c',r=.bool (!(decide (c+x.nodes≤120)&&x.shape (30 - d)))∧st'=st.aC b (.cells [.int .i64 c'])∧((decide (c+(x.nodes:Int)≤120)&&x.shape (30 - d))=true→c'=c+x.nodes)):=by
 have hw:=bO (n:=d+1)
 refine wF [] 3 func246 ntmps246 rfl rfl ?_
 intro _
 simp -implicitDefEqProofs only[hw,cP,aY,aM,aA,seval,a7O]
 refine h.mono ?_
 rintro _ _ ⟨c',rfl,rfl,hc⟩
 simp -implicitDefEqProofs only[aA,seval]
 refine⟨c',?_⟩
 first | exact hc | exact⟨rfl,rfl,hc⟩ | exact⟨rfl,hc⟩ | trace_state
abbrev aRP:=zi tI_3 (zi zI_3 (zi aU (zi tI_28 (zi zI_28 (zi aO (zi bF (zi bG (zi bZ (zi tI_52 (zi zI_52 (zi bU (zi bV (zi bX (zi bY bT))))))))))))))
theorem aVZ(l:List Tm)(d c:Int)(b:Nat)(st:aB)(hd: -1000≤d)(hd1:d≤1000)(hb:st b=some (.cells [.int .i64 c]))(hc0:0≤c)(hc1:c≤120)
 (h:∀x∈l,∀(c:Int) (st:aB),st b=some (.cells [.int .i64 c])→0≤c→c≤120→aD prog 211 [x.av,.int .i64 (d+1),.ptr b 0] st (KE (x.shape (30 - d)) c x.nodes b st)) :
 aD prog 214 [.slice (l.map Tm.av),.func 246 [.pptr (.int .i64 d),.pptr (.ptr b 0)]] st
  (fun r st'=>∃j c',r=.int .i64 j∧decide (0≤j)=(!(decide (c+(bH Tm.nodes l:Int)≤120)&&l.all fun t=>t.shape (30 - d)))∧st'=st.aC b (.cells [.int .i64 c'])∧(decide (0≤j)=false→c'=c+(bH Tm.nodes l:Int))):=by
 refine wF [] 2 func214 ntmps214 rfl rfl ?_
 simp only[eQ,AV.fits,eR,aF]
 intro ⟨hl,_⟩
 simp -implicitDefEqProofs only[aF,aA,seval,aRP]
 refine yP (α:=Nat) [] (fun i=>i≤l.length∧c+(bH Tm.nodes (l.take i):Int)≤120∧∀(j:Nat) x,j<i→l[j]?=some x→x.shape (30 - d)=true)
  (fun i=>[(0,.slice (l.map Tm.av)),(1,.func 246 [.pptr (.int .i64 d),.pptr (.ptr b 0)]),(7,.int .i64 l.length),(8,.int .i64 i)]) (fun i=>st.aC b (.cells [.int .i64 (c+(bH Tm.nodes (l.take i):Int))])) (fun i=>l.length - i) (by decide +kernel)
  ⟨0,⟨by omega,by simp only[l7,bH];omega,by intro j x h;omega⟩,by
   simp only[l7,bH]
   rw[show c+((0:Nat):Int)=c by omega,XW hb]
   exact aP.mk (by simp -implicitDefEqProofs only[aA,↓aS,seval])⟩ ?_
 intro i ⟨hi,AB,cS⟩
 simp -implicitDefEqProofs only[aA,seval]
 refine⟨fun h5=>?_,fun h5=>?_⟩
 case refine_2=>
  simp -implicitDefEqProofs only[aA,seval]
  simp only[dL,n0] at h5
  rw[n7 (by omega)] at AB ⊢
  have ha:(l.all fun t=>t.shape (30 - d))=true:=L0 fun j x hx=>cS j x (by have:=(gW.1 hx).1;omega) hx
  exact⟨-1,_,rfl,by rw[ha];simp<;>omega,rfl,fun _=>rfl⟩
 simp only[bK,n0] at h5
 obtain⟨x,hx⟩:∃x,l[i]?=some x:=⟨_,fF h5⟩
 have hs:=KJ Tm.nodes hx
 simp -implicitDefEqProofs only[bQ (av:=Tm.av) aO hx (aM x),aY,aM,aA,seval,aRP]
 refine(aYG x d (c+(bH Tm.nodes (l.take i):Int)) b _ hd hd1 (h x (dA hx) _ _ (aB.aJ _ _ _) (by omega) AB)).mono ?_
 rintro _ _ ⟨c',rfl,rfl,hc'⟩
 simp -implicitDefEqProofs only[cK,aA,seval]
 refine⟨fun h6=>?_,fun h6=>?_⟩
 · simp -implicitDefEqProofs only[aA,seval]
   refine⟨i,c',rfl,?_,rfl,fun h7=>absurd h7 (by simp)⟩
   simp only[lT,Bool.and_eq_false_iff,dL] at h6
   rcases h6 with h6 | h6
   · rw[show decide (c+(bH Tm.nodes l:Int)≤120)=false by simp;omega]
     simp
   · rw[wZ hx h6]
     simp
 simp only[qD] at h6
 rw[hc' h6]
 simp only[cE,bK] at h6
 simp -implicitDefEqProofs only[aA,seval]
 refine⟨i+1,by omega,⟨by omega,by omega,fun j u hj hu=>?_⟩,?_⟩
 · rcases k7 j i with h8 | h8
   · exact cS j u h8 hu
   · obtain rfl:j=i:=by omega
     rw[hx] at hu;cases hu;exact h6.2
 · rw[show c+(bH Tm.nodes (l.take i):Int)+(x.nodes:Int)=c+(bH Tm.nodes (l.take (i+1)):Int) by omega]
   have:=bO (n:=(i:Int)+1)
   exact aP.mk (by simp -implicitDefEqProofs only[this,aA,seval])
theorem aVI(l:List Tm)(d c:Int)(b:Nat)(st:aB)(hd: -1000≤d)(hd1:d≤1000)(hb:st b=some (.cells [.int .i64 c]))(hc0:0≤c)(hc1:c≤120)
 (h:∀x∈l,∀(c:Int) (st:aB),st b=some (.cells [.int .i64 c])→0≤c→c≤120→aD prog 211 [x.av,.int .i64 (d+1),.ptr b 0] st (KE (x.shape (30 - d)) c x.nodes b st)) :
 aD prog 172 [.slice (l.map Tm.av),.func 246 [.pptr (.int .i64 d),.pptr (.ptr b 0)]] st
  (fun r st'=>∃c',r=.bool (!(decide (c+(bH Tm.nodes l:Int)≤120)&&l.all fun t=>t.shape (30 - d)))∧st'=st.aC b (.cells [.int .i64 c'])∧((decide (c+(bH Tm.nodes l:Int)≤120)&&l.all fun t=>t.shape (30 - d))=true→c'=c+(bH Tm.nodes l:Int))):=by
 have h1:=aVZ l d c b st hd hd1 hb hc0 hc1 h
 refine wF [] 2 func172 ntmps172 rfl rfl ?_
 intro _
 simp -implicitDefEqProofs only[aA,seval]
 refine h1.mono ?_
 rintro _ _ ⟨j,c',rfl,hj,rfl,hc⟩
 simp -implicitDefEqProofs only[aA,seval]
 refine⟨c',by rw[hj],rfl,fun h=>hc (by rw[hj,h];try rfl)⟩
abbrev AX:=zi tI_3 (zi zI_3 (zi aU (zi tI_4 (zi zI_4 (zi cI (zi tI_9 (zi zI_9 (zi cT (zi tI_25 (zi zI_25 (zi a0D (zi a0E (zi a0F (zi a0G (zi a0H (zi a0I (zi aUZ (zi tI_28 (zi zI_28 (zi aO (zi bF (zi bG (zi bZ (zi tI_52 (zi zI_52 (zi bU (zi bV (zi bX (zi bY (zi bT (zi tI_240 zI_240)))))))))))))))))))))))))))))))
theorem aBF:∀(t:Tm) (d c:Int) (b:Nat) (st:aB),st b=some (.cells [.int .i64 c])→0≤c→c≤120→0≤d→d≤31→aD prog 211 [t.av,.int .i64 d,.ptr b 0] st (KE (t.shape (31 - d)) c t.nodes b st)
 | .mk k n s ts,d,c,b,st,hb,hc0,hc1,hd0,hd1=>by
  have hk:=fun(st:aB) (hb:st b=some (.cells [.int .i64 (c+1)])) (h1:c+1≤120) (h2:d≤30)=>aVI ts d (c+1) b st (by omega) (by omega) hb (by omega) h1 fun x hx c st hb hc0 hc1=>by
   have:=aBF x (d+1) c b st hb hc0 hc1 (by omega) (by omega)
   rw[show(31:Int) - (d+1)=30 - d by omega] at this
   exact this
  have hw:=bO (n:=c+1)
  unfold KE
  rw[Tm.iS,Tm.GI]
  refine wF [] 3 func211 ntmps211 rfl rfl ?_
  simp only[a8,eQ,AV.fits,eR,aF]
  intro ⟨_,_,_,hl,_⟩
  simp -implicitDefEqProofs only[hb,aK,hw,aA,seval,AX]
  have hL:(ts.map Tm.av).length=ts.length:=aF _
  have fW:∀(v:Bool),v=(decide (c+((1+bH Tm.nodes ts:Nat):Int)≤120)&&(decide (1≤31 - d)&&fB k n s ts.length&&ts.all fun t=>t.shape (31 - d - 1)))→(v=true→ts= []) →
   ∃c',AV.bool v=AV.bool (decide (c+((1+bH Tm.nodes ts:Nat):Int)≤120)&&(decide (1≤31 - d)&&fB k n s ts.length&&ts.all fun t=>t.shape (31 - d - 1)))∧st.aC b (.cells [.int .i64 (c+1)])=st.aC b (.cells [.int .i64 c'])∧((decide (c+((1+bH Tm.nodes ts:Nat):Int)≤120)&&(decide (1≤31 - d)&&fB k n s ts.length&&ts.all fun t=>t.shape (31 - d - 1)))=true→c'=c+((1+bH Tm.nodes ts:Nat):Int)):=
   fun v h1 h2=>⟨c+1,by rw[h1],rfl,fun h3=>by rw[h2 (h1.trans h3)];simp [bH]⟩
  refine cU (fun h1=>?_) (fun h1=>?_)
  case refine_2=>
   simp -implicitDefEqProofs only[h1,aA,seval]
   simp only[oU,bK] at h1
   refine fW false ?_ (by intro h;cases h)
   rw[show decide (c+((1+bH Tm.nodes ts:Nat):Int)≤120)=false by simp;omega]
   try rfl
  simp -implicitDefEqProofs only[h1,aA,seval,AX]
  refine⟨fun h2=>?_,fun h2=>?_⟩
  · simp -implicitDefEqProofs only[aA,seval]
    simp only[bK] at h2
    refine fW false ?_ (by intro h;cases h)
    rw[show decide (1≤31 - d)=false by simp;omega]
    simp
  simp only[dL] at h1 h2
  rw[show decide (1≤31 - d)=true by simp;omega] at fW ⊢
  simp only[eP] at fW ⊢
  rw[show 31 - d - 1=30 - d by omega] at fW ⊢
  -- no kids
  have aOC:∀q:Bool,(∀h:ts= [],fB k n s ts.length=q)→(ts≠[]→fB k n s ts.length=false)→(q&&decide ((ts.length:Int)=0))=(decide (c+((1+bH Tm.nodes ts:Nat):Int)≤120)&&(fB k n s ts.length&&ts.all fun t=>t.shape (30 - d))):=by
   intro q hq1 hq2
   by_cases ht:ts= []
   · rw[hq1 ht];subst ht
     have e:c+((1+bH Tm.nodes []:Nat):Int)≤120:=by simp only[bH];omega
     rw[gJ e]
     simp
   · rw[hq2 ht]
     have:¬(ts.length:Int)=0:=by intro h;exact ht (sI (by omega))
     rw[f0 this]
     simp
  simp -implicitDefEqProofs only[aA,seval,AX]
  refine aQ (fun hk1=>?_) (fun hk1=>?_)
  · simp only[bK] at hk1
    subst hk1
    simp -implicitDefEqProofs only[aA,seval,AX]
    refine(zP _ _ _ _).to ?_
    repeat' (first
     | (simp -implicitDefEqProofs only[*,aA,seval,AX])
     | (refine cU (fun h=>?_) (fun h=>?_))
     | (refine aQ (fun h=>?_) (fun h=>?_)))
    all_goals first
     | (refine fW false ?_ (by intro h;cases h);rw[show fB 1 n s ts.length=false by first | (simp only[fB, *,pM,g9,vH];done) | (simp_all [fB];done) | (simp_all [fB];intro a e;have:=h a;omega)];simp;done)
     | (refine fW _ ?_ (fun h=>sI (by simpa using h));rw[←aOC true (fun h=>by simp_all [fB]) (fun h=>by simp [fB,h])];simp;done)
  simp only[dL] at hk1
  simp -implicitDefEqProofs only[aA,seval]
  refine aQ (fun hk2=>?_) (fun hk2=>?_)
  · simp only[bK] at hk2
    subst hk2
    simp -implicitDefEqProofs only[aA,seval,AX]
    refine(zP _ _ _ _).to ?_
    repeat' (first
     | (simp -implicitDefEqProofs only[*,aA,seval,AX])
     | (refine cU (fun h=>?_) (fun h=>?_))
     | (refine aQ (fun h=>?_) (fun h=>?_)))
    all_goals first
     | (refine fW false ?_ (by intro h;cases h);rw[show fB 2 n s ts.length=false by first | (simp only[fB, *,pM,g9,vH];done) | (simp_all [fB];done) | (simp_all [fB];intro a e;have:=h a;omega)];simp;done)
     | (refine fW _ ?_ (fun h=>sI (by simpa using h));rw[←aOC true (fun h=>by simp_all [fB]) (fun h=>by simp [fB,h])];simp;done)
  simp only[dL] at hk2
  simp -implicitDefEqProofs only[aA,seval]
  refine aQ (fun hk3=>?_) (fun hk3=>?_)
  case refine_2=>
   simp only[dL] at hk3
   simp -implicitDefEqProofs only[aA,seval]
   refine fW false ?_ (by intro h;cases h)
   rw[show fB k n s ts.length=false by simp [fB,hk1,hk2,hk3]]
   simp
  simp only[bK] at hk3
  subst hk3
  have hk':=fun st hb=>hk st hb (by omega) (by omega)
  clear hk
  repeat' (first
   | (simp -implicitDefEqProofs only[*,aA,seval,AX])
   | (refine cU (fun h=>?_) (fun h=>?_))
   | (refine(aWL s _).to ?_)
   | (refine aQ (fun h=>?_) (fun h=>?_)))
  all_goals first
   | (refine fW false ?_ (by intro h;cases h);rw[show fB 3 n s ts.length=false by(simp_all [fB];done)];simp;done)
   | skip
  refine(hk' _ (aB.aJ _ _ _)).mono ?_
  rintro _ _ ⟨c',rfl,rfl,hc'⟩
  simp -implicitDefEqProofs only[cK,aA,seval]
  have ho:fB 3 n s ts.length=true:=by simp_all [fB]
  rw[ho,show c+((1+bH Tm.nodes ts:Nat):Int)=c+1+(bH Tm.nodes ts:Int) by omega]
  simp only[eP,Bool.not_not]
  first | exact⟨c',trivial,rfl,hc'⟩ | exact⟨c',rfl,rfl,hc'⟩
termination_by t=>SizeOf.sizeOf t
decreasing_by have:=List.sizeOf_lt_of_mem hx;simp only[Tm.mk.sizeOf_spec];omega
abbrev a7P:=zi tI_3 (zi zI_3 (zi aU (zi tI_4 (zi zI_4 (zi cI (zi tI_52 (zi zI_52 (zi bU (zi bV (zi bX (zi bY (zi bT (zi tI_240 zI_240)))))))))))))
theorem aAF(t:Tm)(st:aB):aD prog 170 [t.av] st (fun r st'=>r=.bool t.valid∧st'=st):=by
 have hd:aD prog 170 [t.av] st (fun r st'=>aL st' st∧r=.bool t.valid):=by
  refine wF [] 1 func170 ntmps170 rfl rfl ?_
  intro _
  simp -implicitDefEqProofs only[cP,aY,aM,aA,seval,a7P]
  intro b hb
  simp -implicitDefEqProofs only[aK,aA,seval]
  refine(aBF t 1 0 b _ (aB.aJ _ _ _) (by omega) (by omega) (by omega) (by omega)).mono ?_
  rintro _ _ ⟨c',rfl,rfl,_⟩
  simp -implicitDefEqProofs only[cK,xI,↓reduceIte]
  refine⟨(aL.refl st).aC hb,?_⟩
  simp only[Tm.valid,AV.bool.injEq]
  rw[Bool.and_comm,show(31:Int) - 1=30 from rfl]
  congr 1
  simp only[CE]
  omega
 exact hd.drop
def Tm.goal:Tm→Bool
 | .mk k n s ts=>(Tm.mk k n s ts).valid&&z8 k s ts.length
abbrev aRQ:=zi tI_4 (zi zI_4 (zi cI (zi tI_52 (zi zI_52 (zi bU (zi bV (zi bX (zi bY bT))))))))
theorem aBH:∀(t:Tm) (st:aB),aD prog 126 [t.av] st (fun r st'=>r=.bool t.goal∧st'=st)
 | .mk k n s ts,st=>by
  have h1:=SK (.mk k n s ts) st
  have h2:=aXL k n s ts st
  rw[show(Tm.mk k n s ts).goal=((Tm.mk k n s ts).valid&&z8 k s ts.length) from rfl]
  generalize (Tm.mk k n s ts).valid=z at *
  rw[a8] at *
  refine wF [] 1 func126 ntmps126 rfl rfl ?_
  intro _
  simp -implicitDefEqProofs only[aA,seval,aRQ]
  refine h1.to ?_
  simp -implicitDefEqProofs only[aA,seval]
  refine cU (fun h=>?_) (fun h=>?_)
  · simp -implicitDefEqProofs only[h,aA,seval,aRQ]
    refine h2.to ?_
    simp -implicitDefEqProofs only[aA,seval]
  · simp -implicitDefEqProofs only[h,aA,seval]
    simp at h
    simp []
abbrev a7Q:=zi tI_4 (zi zI_4 (zi cI (zi tI_52 (zi zI_52 (zi bU (zi bV (zi bX (zi bY bT))))))))
theorem aWJ:∀(t:Tm) (st:aB),aD prog 174 [t.av] st (fun r st'=>r=.bool t.goal∧st'=st)
 | .mk k n s ts,st=>by
  have h1:=aAF (.mk k n s ts) st
  have h2:=aAI k n s ts st
  have h3:=R9 k n s ts st
  have h4:=aAG k n s ts st
  rw[show(Tm.mk k n s ts).goal=((Tm.mk k n s ts).valid&&z8 k s ts.length) from rfl]
  unfold z8
  generalize (Tm.mk k n s ts).valid=z at *
  generalize sA k s (ts.length:Int)=z2 at *
  generalize (decide (k=3)&&isBuiltin s (ts.length:Int))=z3 at *
  rw[show(decide (k=3)&&decide (s=⟨#[33]⟩)&&decide ((ts.length:Int)=0))=(decide (k=3)&&decide ((ts.length:Int)=0)&&decide (s=⟨#[33]⟩)) from by cases decide (k=3)<;>cases decide (s=⟨#[33]⟩)<;>cases decide ((ts.length:Int)=0)<;>rfl]
  generalize (decide (k=3)&&decide ((ts.length:Int)=0)&&decide (s=⟨#[33]⟩))=z4 at *
  rw[a8] at *
  refine wF [] 1 func174 ntmps174 rfl rfl ?_
  intro _
  repeat' (first
   | (simp -implicitDefEqProofs only[*,aA,seval,a7Q])
   | (refine cU (fun h=>?_) (fun h=>?_))
   | (refine h1.to ?_) | (refine h2.to ?_) | (refine h3.to ?_) | (refine h4.to ?_)
   | (refine aQ (fun h=>?_) (fun h=>?_)))
  all_goals (clear h1 h2 h3 h4;simp_all)
abbrev aR5:=zi tI_3 (zi zI_3 (zi aU (zi tI_28 (zi zI_28 (zi aO (zi bF (zi bG (zi bZ (zi tI_52 (zi zI_52 (zi bU (zi bV (zi bX (zi bY bT))))))))))))))
theorem aVW(l:List Tm)(g:FuncId)(eF:List AV)(p:Tm→Bool)(st:aB)(hc:∀x∈l,aD prog g ([Tm.av x]++eF) st (fun r st'=>r=.bool (p x)∧st'=st)) :
 aD prog 214 [.slice (l.map Tm.av),.func g eF] st (fun r st'=>∃j:Int,r=.int .i64 j∧decide (0≤j)=l.any p∧st'=st):=by
 refine wF [] 2 func214 ntmps214 rfl rfl ?_
 simp only[eQ,AV.fits,eR,aF]
 intro ⟨hl,_⟩
 simp -implicitDefEqProofs only[aF,aA,seval,aR5]
 refine eL (σ:=Unit) [] [0,1,7] l (fun i _=>(l.drop i).any p=l.any p) (fun i _=>[(8,.int .i64 i)]) (fun _ _=>st) (by decide +kernel) ⟨(),rfl,aP.mk (by simp -implicitDefEqProofs only[aA,↓aS,seval])⟩ (fun i x _ hx hlt bR hdr hinv=>?_) (fun _ hge hinv=>?_)
 case refine_2=>
  simp -implicitDefEqProofs only[hge,aA,seval]
  rw[lH] at hinv
  exact⟨-1,rfl,by rw[←hinv];try rfl⟩
 rw[hdr,EB] at hinv
 have hw:=bO (n:=(i:Int)+1)
 simp -implicitDefEqProofs only[bR,bQ (av:=Tm.av) aO hx (aM x),aY,aM,aA,seval,aR5]
 refine(hc x (dA hx)).to ?_
 simp -implicitDefEqProofs only[aA,seval]
 refine aQ (fun h=>?_) (fun h=>?_)
 · simp -implicitDefEqProofs only[aA,seval]
   exact⟨i,rfl,by rw[←hinv,h];simp⟩
 · rw[h,sH] at hinv
   simp -implicitDefEqProofs only[aA,seval]
   exact⟨(),hinv,aP.mk (by simp -implicitDefEqProofs only[hw,aA,seval])⟩
theorem aVE(l:List Tm)(g:FuncId)(eF:List AV)(p:Tm→Bool)(st:aB)(hc:∀x∈l,aD prog g ([Tm.av x]++eF) st (fun r st'=>r=.bool (p x)∧st'=st)) :
 aD prog 172 [.slice (l.map Tm.av),.func g eF] st (fun r st'=>r=.bool (l.any p)∧st'=st):=by
 refine wF [] 2 func172 ntmps172 rfl rfl ?_
 intro _
 simp -implicitDefEqProofs only[aA,seval]
 refine(aVW l g eF p st hc).mono ?_
 rintro _ _ ⟨j,rfl,hj,rfl⟩
 simp -implicitDefEqProofs only[hj,aA,seval]
theorem RF{α:Type}(p:α→Bool):∀l:List α,(!(l.any fun x=> !p x))=l.all p
 | []=>rfl
 | x::l=>by rw[EB,k0,←RF p l];cases p x<;>simp
abbrev a7W:=zi tI_4 (zi zI_4 (zi cI (zi tI_52 (zi zI_52 (zi bU (zi bV (zi bX (zi bY bT))))))))
theorem aWF(t:Tm)(st:aB):aD prog 173 [t.av] st (fun r st'=>r=.bool (!t.goal)∧st'=st):=by
 refine wF [] 1 func173 ntmps173 rfl rfl ?_
 intro _
 simp -implicitDefEqProofs only[cP,aY,aM,aA,seval,a7W]
 refine(aWJ t st).to ?_
 simp -implicitDefEqProofs only[aA,seval]
def kY(l:List Tm):Bool:=decide (l.length≤6)&&l.all Tm.goal
abbrev a7V:=zi tI_3 (zi zI_3 (zi aU (zi tI_4 (zi zI_4 (zi cI (zi tI_28 (zi zI_28 (zi aO (zi bF (zi bG bZ))))))))))
theorem aAD(l:List Tm)(st:aB):aD prog 135 [.slice (l.map Tm.av)] st (fun r st'=>r=.bool (kY l)∧st'=st):=by
 refine wF [] 1 func135 ntmps135 rfl rfl ?_
 simp only[eQ,AV.fits,eR,aF]
 intro _
 unfold kY
 simp -implicitDefEqProofs only[aF,aA,seval,a7V]
 refine cU (fun h=>?_) (fun h=>?_)
 · simp only[bK] at h
   rw[show decide (l.length≤6)=true by simp;omega]
   simp -implicitDefEqProofs only[h,aA,seval]
   refine(aVE l _ [] (fun t=> !t.goal) st fun x _=>aWF x st).to ?_
   simp -implicitDefEqProofs only[RF,aA,seval]
 · simp only[pM,dL] at h
   rw[show decide (l.length≤6)=false by simp;omega]
   simp -implicitDefEqProofs only[h,aA,seval]
   rfl
theorem R7(l:List Tm)(st:aB):aD prog 86 [.slice (l.map Tm.av)] st (fun r st'=>r=.bool (kY l)∧st'=st):=by
 refine wF [] 1 func86 ntmps86 rfl rfl ?_
 intro _
 simp -implicitDefEqProofs only[aA,seval]
 refine(aAD l st).to ?_
 simp -implicitDefEqProofs only[aA,seval]
abbrev PD:=zi tI_3 (zi zI_3 (zi aU (zi tI_4 (zi zI_4 (zi cI (zi tI_28 (zi zI_28 (zi aO (zi bF (zi bG (zi bZ (zi tI_52 (zi zI_52 (zi bU (zi bV (zi bX (zi bY bT)))))))))))))))))
theorem MM(l:List Tm)(st:aB):aD prog 79 [.slice (l.map Tm.av)] st (fun r st'=>r=.bool (kY l)∧st'=st):=by
 refine wF [] 1 func79 ntmps79 rfl rfl ?_
 simp only[eQ,AV.fits,eR,aF]
 intro ⟨hl,_⟩
 simp -implicitDefEqProofs only[aA,seval]
 refine eL (σ:=Unit) [] [0] l (fun i _=>i≤7∧(l.take i).all Tm.goal=true) (fun i _=>[(3,.int .i64 i)]) (fun _ _=>st) (by decide +kernel) ⟨(),⟨by omega,by simp⟩,aP.mk (by simp -implicitDefEqProofs only[aA,↓aS,seval])⟩ (fun i x _ hx hlt bR hdr hinv=>?_) (fun _ hge hinv=>?_)
 case refine_2=>
  obtain⟨i1,i2⟩:=hinv
  rw[fG] at i2
  simp -implicitDefEqProofs only[aF,hge,aA,seval,PD]
  simp only[kY,i2,BA,AV.bool.injEq,CE]
  omega
 obtain⟨i1,i2⟩:=hinv
 have hw:=bO (n:=(i:Int)+1)
 simp -implicitDefEqProofs only[aF,bR,aA,seval,PD]
 refine aQ (fun h=>?_) (fun h=>?_)
 case refine_2=>
  simp only[dL] at h
  simp -implicitDefEqProofs only[aF,aA,seval,PD]
  simp only[kY,AV.bool.injEq]
  rw[show decide (l.length≤6)=false by simp;omega,show decide ((l.length:Int)≤6)=false by simp;omega]
  try rfl
 simp only[bK] at h
 simp -implicitDefEqProofs only[bQ (av:=Tm.av) aO hx (aM x),aY,aM,aA,seval,PD]
 refine(aBH x st).to ?_
 simp -implicitDefEqProofs only[aA,seval]
 refine aQ (fun h2=>?_) (fun h2=>?_)
 · simp only[lT] at h2
   simp -implicitDefEqProofs only[aA,seval]
   have:l.all Tm.goal=false:=wZ hx h2
   simp only[kY,this,vH]
 · simp only[qD] at h2
   simp -implicitDefEqProofs only[aA,seval]
   refine⟨(),⟨by omega,?_⟩,aP.mk (by simp -implicitDefEqProofs only[hw,aA,seval])⟩
   rw[gC,hx,EA,i2]
   simp [h2]
abbrev a7X:=zi tI_3 (zi zI_3 (zi aU (zi tI_52 (zi zI_52 (zi bU (zi bV (zi bX (zi bY bT))))))))
theorem SM(n:Int)(st:aB):aD prog 192 [.int .i64 n] st (fun r st'=>r=(vr n).av∧st'=st):=by
 refine aD.done ?_
 refine wF [1000000] 1 func192 ntmps192 rfl rfl ?_
 intro _
 simp -implicitDefEqProofs only[aA,seval,a7X]
 intro b hb
 simp -implicitDefEqProofs only[aK,aA,seval]
 exact⟨by simp only[vr,a8,jI,jB,nB,lW,bB,aW,aW],(aL.refl _).aC hb⟩
abbrev wK:=zi tI_3 (zi zI_3 (zi aU (zi tI_28 (zi zI_28 (zi aO (zi bF (zi bG (zi bZ (zi tI_52 (zi zI_52 (zi bU (zi bV (zi bX (zi bY bT))))))))))))))
theorem SE(f:Int→Tm)(g:FuncId)(eF:List AV)(FK:lS eF=true):∀(t:Tm) (st:aB),t.small=true→(∀n∈t.vl,∀s,aD prog g (.int .i64 n::eF) s (fun r s'=>r=(f n).av∧s'=s)) →
 aD prog 237 [t.av,.func g eF] st (fun r st'=>r=(t.aN f).av∧st'=st)
 | .mk k n s ts,st,hsm,hg=>by
  obtain⟨hlen,qV⟩:=Tm.rC hsm
  have IH:=fun(x:Tm) (hx:x∈ts) st h=>SE f g eF FK x st (qV x hx) h
  refine aD.qM (aD.fin ?_)
  simp only[a8]
  refine wF [1000000,2] 2 func237 ntmps237 rfl rfl ?_
  simp only[eQ,AV.fits,eR,aF]
  intro ⟨_,_,_,hl,_⟩
  simp -implicitDefEqProofs only[aA,seval,wK]
  intro c hc b2 hb2
  have hne:b2≠c:=by rintro rfl;rw[aB.aJ] at hb2;cases hb2
  have hn2:st b2=none:=by rw[aB.aG st _ hne] at hb2;exact hb2
  simp -implicitDefEqProofs only[hne.symm,aA,seval]
  refine aQ (fun h=>?_) (fun h=>?_)
  · simp only[bK] at h
    subst h
    simp -implicitDefEqProofs only[hne.symm,aA,seval,wK]
    refine(hg n (by rw[Tm.oT rfl];simp) _).to ?_
    simp -implicitDefEqProofs only[aA,seval,wK]
    refine⟨0,[],_,rfl,by simp,by simp,⟨4,by simp⟩,by rw[Tm.xJ,Tm.oE f rfl],?_⟩
    exact((aL.refl _).aC hc).aC hn2
  simp only[dL] at h
  have hg':∀x∈ts,∀v∈x.vl,∀s,aD prog g (.int .i64 v::eF) s (fun r s'=>r=(f v).av∧s'=s):=fun x hx v hv=>hg v ((Tm.mI h).2 ⟨x,hx,hv⟩)
  simp -implicitDefEqProofs only[hne.symm,aK,aF,aA,seval,wK]
  rw[aB.yM hne]
  refine eL (σ:=Nat) [1000000] [1,2,4,18,19] ts (fun i b=>(((ts.take i).map (Tm.aN f)).map Tm.av≠[]→(aB.aC (st.aC b2 (.cells [AV.int .i64 0,AV.int .i64 0,AV.str ⟨#[]⟩,AV.fslice []])) c (.cells ([AV.int .i64 k,AV.int .i64 n,AV.str s]++ [aZ 4 b (((ts.take i).map (Tm.aN f)).map Tm.av)]))) b=none)) (fun i b=>[(20,.int .i64 i)]) (fun i b=>fX (st.aC b2 (.cells [AV.int .i64 0,AV.int .i64 0,AV.str ⟨#[]⟩,AV.fslice []])) c b [AV.int .i64 k,AV.int .i64 n,AV.str s] (((ts.take i).map (Tm.aN f)).map Tm.av)) (by decide +kernel)
   ⟨0,fun h=>absurd rfl h,aP.mk (by simp -implicitDefEqProofs only[aA,↓aS,seval])⟩ (fun i x b hx hlt bR hdr hinv=>?_) (fun b hge hinv=>?_)
  case refine_1=>
   have hw:=bO (n:=(i:Int)+1)
   have c8:(((ts.take i).map (Tm.aN f)).map Tm.av).length=i:=by simp only[aF,eC];omega
   have htk:(ts.take (i+1)).map (Tm.aN f)=(ts.take i).map (Tm.aN f)++ [(Tm.aN f) x]:=by rw[gC,hx];simp
   have hbo:=fA hinv
   simp -implicitDefEqProofs only[bR,bQ (av:=Tm.av) aO hx (aM x),aA,↓aS,seval,wK]
   refine wP [(0,1),(3,1),(1,2),(2,2),(4,2),(5,1),(6,0),(7,1),(8,0)] [0,3,1,2,4,5,7] mixed ?_
   simp -implicitDefEqProofs only[aY,aM,hbo,mP,aA,seval,wK]
   refine j6 (IH x (dA hx) _ (hg' x (dA hx))) ?_
   simp -implicitDefEqProofs only[aY,aM,cP,aA,seval,wK]
   refine eE aO bF bG rfl rfl (fL (aM _) (cH _)) (d9 _) hinv (by simp only[c8,aT,aX];omega) (by simp only[c8,aT,aX];omega) (fun b' hb'=>?_)
   rw[show(((ts.take i).map (Tm.aN f)).map Tm.av)++ [((Tm.aN f) x).av]=((ts.take (i+1)).map (Tm.aN f)).map Tm.av by rw[htk];simp] at hb' ⊢
   obtain⟨g1,g2,g3⟩:=p7 hb'
   simp only[fE,eD] at g1 g3
   simp -implicitDefEqProofs only[g3,mQ,fH,aK,g1,hw,aA,seval,wK]
   exact⟨b',g2,aP.mk (by simp -implicitDefEqProofs only[aA,seval])⟩
  have hbo:=fA hinv
  rw[fG] at hinv hbo ⊢
  simp -implicitDefEqProofs only[hge,aA,seval,wK]
  simp -implicitDefEqProofs only[hbo,aA,seval,wK]
  have hS:(st.aC b2 (.cells [AV.int .i64 0,AV.int .i64 0,AV.str ⟨#[]⟩,AV.fslice []])) b2≠none:=by rw[aB.aJ];simp
  have h1:=iE hinv hS hne
  rw[aB.aJ] at h1
  simp -implicitDefEqProofs only[h1,fH,aK,aA,seval]
  obtain⟨h2,h3⟩:=lK (o:=.cells [AV.int .i64 k,AV.int .i64 n,AV.str s,aZ 4 b ((ts.map (Tm.aN f)).map Tm.av)]) hinv hS hne
  refine⟨b,_,_,h2,h3,jJ _,⟨4,d9 _⟩,?_,?_⟩
  · rw[Tm.mZ f h]
    simp only[gG,bB,aW,eS,kA,jE,a8]
  · exact(((aL.refl _).aC hn2).aC hc).aC hn2
termination_by t=>SizeOf.sizeOf t
decreasing_by have:=List.sizeOf_lt_of_mem hx;simp only[Tm.mk.sizeOf_spec];omega


end Go.AW
namespace Go.AW
abbrev cX (σ:Sub):Prop:=∃R rk B,Good σ R rk B
theorem cX.rs{σ:Sub}(h:cX σ):∃rk B,Good σ (rs σ) rk B:=by
 obtain⟨R,rk,B,G⟩:=h
 exact⟨rk,B,by rw[G.rs];exact G⟩
theorem cX.none:cX Sub.none:=⟨_,_,_,Good.none⟩
structure pP (σ:Sub) (a b:List Tm) (r:Bool) (σ':Sub) (tr:List Int):Prop where
 iR:cX σ'
 a7:∀m,m∉tr→σ' m=σ m
 new:∀m∈tr,σ m=none∧σ' m≠none
 nodup:tr.Nodup
 eq:r=true→a.map (Tm.aN (rs σ'))=b.map (Tm.aN (rs σ'))
 gen:∀θ,sL θ σ→a.map (Tm.aN θ)=b.map (Tm.aN θ)→r=true∧sL θ σ'
 same:tr= []→σ'=σ
theorem sL.sub{σ σ':Sub}{θ:Int→Tm}{tr:List Int}(S:sL θ σ')(a7:∀m,m∉tr→σ' m=σ m)(new:∀m∈tr,σ m=none∧σ' m≠none):sL θ σ:=fun n u h=>by
 by_cases hn:n∈tr
 · rw[(new n hn).1] at h;cases h
 · exact S n u (by rw[a7 n hn];exact h)
theorem pP.xX{σ σ':Sub}{a b:List Tm}{r:Bool}{tr:List Int}(h:pP σ a b r σ' tr):sL (rs σ') σ:=by
 obtain⟨rk,B,G⟩:=h.iR.rs
 exact G.xX.sub h.a7 h.new
theorem pP.stays{σ σ':Sub}{a b:List Tm}{r:Bool}{tr:List Int}(h:pP σ a b r σ' tr)(hg:cX σ){x y:Tm}(e:x.aN (rs σ)=y.aN (rs σ)):x.aN (rs σ')=y.aN (rs σ'):=by
 obtain⟨rk,B,G⟩:=hg.rs
 rw[←G.TP h.xX x,←G.TP h.xX y,e]
theorem ZZ{σ:Sub}(hg:cX σ){a b:Tm}{n:Int}(ha:a.k=1)(han:a.n=n)(hn:σ n=none)(hb:b.k=1→σ b.n=none∧b.n≠n){r:Bool}{σ':Sub}{tr:List Int}(h:lA σ n b=(r,σ',tr)):pP σ [a] [b] r σ' tr:=by
 obtain⟨rk,B,G⟩:=hg.rs
 have hav:∀θ,a.aN θ=θ n:=fun θ=>by rw[Tm.FW θ ha,han]
 unfold lA at h
 split at h
 · rename_i iB
   cases h
   refine⟨hg,fun _ _=>rfl,fun _ h=>absurd h (dV),mK,fun h=>(by cases h),fun θ S e=>?_,fun _=>rfl⟩
   exfalso
   simp only[bB,aW,List.cons.injEq,eR] at e
   rw[hav] at e
   by_cases hbk:b.k=1
   · rw[Tm.FW _ hbk,G.free (hb hbk).1,A7] at iB
     simp only[dB,dV,eA] at iB
     exact(hb hbk).2 iB.symm
   · rw[←G.TP S b] at e
     have h1:((b.aN (rs σ)).aN θ)=(b.aN (rs σ)).aN θ:=rfl
     have hk:(b.aN (rs σ)).k≠1:=by rw[Tm.sX _ hbk];exact hbk
     have:=(a4Q (f:=θ) (b.aN (rs σ)) iB).2 hk
     rw[e] at this
     exact absurd this (Nat.lt_irrefl _)
 · rename_i iB
   cases h
   obtain⟨rk',B',G'⟩:=G.bind hn iB
   have hR:=G'.rs
   refine⟨⟨_,_,_,G'⟩,fun m hm=>?_,fun m hm=>?_,by simp,fun _=>?_,fun θ S e=>⟨rfl,fun m u hu=>?_⟩,fun h=>(by cases h)⟩
   · simp only[dB,dV,eA] at hm
     simp only[Sub.set,hm,d4]
   · simp only[dB,dV,eA] at hm
     subst hm
     exact⟨hn,by simp [Sub.set]⟩
   · simp only[bB,aW,List.cons.injEq,eR]
     rw[hav,hR]
     exact G'.bound (by simp [Sub.set])
   · simp only[bB,aW,List.cons.injEq,eR] at e
     rw[hav] at e
     simp only[Sub.set] at hu
     split at hu
     · rename_i hmn
       cases hu
       rw[hmn,e]
     · exact S m u hu
theorem uK{a b:Tm}:v5 a b=true↔a.k=b.k∧a.n=b.n∧a.s=b.s∧a.ts.length=b.ts.length:=by
 simp only[v5,cE,bK,and_assoc]
theorem aS2(g:Nat)(a3J:∀σ a b r σ' tr,cX σ→dM g σ a b=some (r,σ',tr)→pP σ [a] [b] r σ' tr):∀xs ys σ r σ' tr,cX σ→xs.length=ys.length→eJ g σ xs ys=some (r,σ',tr)→pP σ xs ys r σ' tr:=by
 intro xs
 have ihU:=a3J
 induction xs with
 | nil=>
  intro ys σ r σ' tr hg hl h
  cases ys with
  | cons _ _=>simp at hl
  | nil=>
   simp only[eJ,Option.some.injEq,Prod.mk.injEq] at h
   obtain⟨rfl,rfl,rfl⟩:=h
   exact⟨hg,fun _ _=>rfl,fun _ h=>absurd h (dV),mK,fun _=>rfl,fun θ S _=>⟨rfl,S⟩,fun _=>rfl⟩
 | cons a xs ih=>
  intro ys σ r σ' tr hg hl h
  cases ys with
  | nil=>simp at hl
  | cons b ys=>
   rw[eJ] at h
   cases h1:dM g σ a b with
   | none=>rw[h1] at h;cases h
   | some p=>
    obtain⟨r1,σ1,tr1⟩:=p
    have U1:=ihU σ a b r1 σ1 tr1 hg h1
    rw[h1] at h
    cases r1 with
    | false=>
     simp only[Option.some.injEq,Prod.mk.injEq] at h
     obtain⟨rfl,rfl,rfl⟩:=h
     refine⟨U1.iR,U1.a7,U1.new,U1.nodup,fun h=>(by cases h),fun θ S e=>?_,U1.same⟩
     simp only[bB,List.cons.injEq] at e
     exact U1.gen θ S (by simp [e.1])
    | true=>
     simp only at h
     cases h2:eJ g σ1 xs ys with
     | none=>rw[h2] at h;cases h
     | some p2=>
      obtain⟨r2,σ2,tr2⟩:=p2
      rw[h2] at h
      simp only[Option.some.injEq,Prod.mk.injEq] at h
      obtain⟨rfl,rfl,rfl⟩:=h
      have U2:=ih ys σ1 r2 σ2 tr2 U1.iR (by simpa using hl) h2
      refine⟨U2.iR,fun m hm=>?_,fun m hm=>?_,?_,fun hr=>?_,fun θ S e=>?_,fun h=>?_⟩
      · simp only[eK,oG] at hm
        rw[U2.a7 m hm.2,U1.a7 m hm.1]
      · rcases eK.1 hm with hm | hm
        · refine⟨(U1.new m hm).1,fun h=>(U1.new m hm).2 ?_⟩
          by_cases h3:m∈tr2
          · exact(U2.new m h3).1
          · rw[←U2.a7 m h3];exact h
        · refine⟨?_,(U2.new m hm).2⟩
          by_cases h3:m∈tr1
          · exact(U1.new m h3).1
          · rw[←U1.a7 m h3];exact(U2.new m hm).1
      · rw[n6]
        refine⟨U1.nodup,U2.nodup,fun x hx y hy e=>?_⟩
        subst e
        exact(U1.new x hx).2 (U2.new x hy).1
      · have e1:=U1.eq rfl
        simp only[bB,aW,List.cons.injEq,eR] at e1
        simp only[bB]
        rw[U2.stays U1.iR e1,U2.eq hr]
      · simp only[bB,List.cons.injEq] at e
        obtain⟨_,S1⟩:=U1.gen θ S (by simp [e.1])
        exact U2.gen θ S1 e.2
      · simp only[List.append_eq_nil_iff] at h
        rw[U2.same h.2,U1.same h.1]
theorem a8H:∀(g:Nat),(∀σ a b r σ' tr,cX σ→dM g σ a b=some (r,σ',tr)→pP σ [a] [b] r σ' tr) ∧
 ∀xs ys σ r σ' tr,cX σ→xs.length=ys.length→eJ g σ xs ys=some (r,σ',tr)→pP σ xs ys r σ' tr:=by
 intro g
 induction g with
 | zero=>
  have h0:∀σ a b r σ' tr,cX σ→dM 0 σ a b=some (r,σ',tr)→pP σ [a] [b] r σ' tr:=fun σ a b r σ' tr hg h=>by simp only[dM] at h;cases h
  exact⟨h0,aS2 _ h0⟩
 | succ g ih=>
  suffices hU:∀σ a b r σ' tr,cX σ→dM (g+1) σ a b=some (r,σ',tr)→pP σ [a] [b] r σ' tr from ⟨hU,aS2 _ hU⟩
  intro σ a b r σ' tr hg h
  obtain⟨ihU,ihL⟩:=ih
  have a3I:=fun xs ys σ r σ' tr hg hl h=>ihL xs ys σ r σ' tr hg hl h
  obtain⟨rk,B,G⟩:=hg.rs
  obtain⟨fa,wa⟩:=G.wk a
  obtain⟨fb,wb⟩:=G.wk b
  have hma:∀θ,sL θ σ→(wk σ a).aN θ=a.aN θ:=fun θ S=>wa.aN S
  have hmb:∀θ,sL θ σ→(wk σ b).aN θ=b.aN θ:=fun θ S=>wb.aN S
  -- it suffices to speak of the walked terms
  suffices hw:pP σ [wk σ a] [wk σ b] r σ' tr by
   refine⟨hw.iR,hw.a7,hw.new,hw.nodup,fun hr=>?_,fun θ S e=>?_,hw.same⟩
   · have:=hw.eq hr
     simp only[bB,aW,List.cons.injEq,eR] at this ⊢
     rw[←hma _ hw.xX,←hmb _ hw.xX];exact this
   · refine hw.gen θ S ?_
     simp only[bB,aW,List.cons.injEq,eR] at e ⊢
     rw[hma θ S,hmb θ S];exact e
  have ea:=wa.end
  have eb:=wb.end
  rw[dM] at h
  generalize wk σ a=a at *
  generalize wk σ b=b at *
  split at h
  · rename_i hc
    simp only[Option.some.injEq,Prod.mk.injEq] at h
    obtain⟨rfl,rfl,rfl⟩:=h
    have he:∀θ,a.aN θ=b.aN θ:=fun θ=>by rw[Tm.FW θ hc.1,Tm.FW θ hc.2.1,hc.2.2]
    exact⟨hg,fun _ _=>rfl,fun _ h=>absurd h (dV),mK,fun _=>by simp [he],fun θ S _=>⟨rfl,S⟩,fun _=>rfl⟩
  · rename_i hc
    split at h
    · rename_i ha
      exact ZZ hg ha rfl (ea ha) (fun hb=>⟨eb hb,fun e=>hc ⟨ha,hb,e.symm⟩⟩) (jL h)
    · rename_i ha
      split at h
      · rename_i hb
        have U:=ZZ hg hb rfl (eb hb) (fun ha'=>absurd ha' ha) (jL h)
        exact⟨U.iR,U.a7,U.new,U.nodup,fun hr=>(U.eq hr).symm,fun θ S e=>U.gen θ S e.symm,U.same⟩
      · rename_i hb
        split at h
        · rename_i hh
          rw[uK] at hh
          have U:=a3I a.ts b.ts σ r σ' tr hg hh.2.2.2 h
          refine⟨U.iR,U.a7,U.new,U.nodup,fun hr=>?_,fun θ S e=>?_,U.same⟩
          · simp only[bB,aW,List.cons.injEq,eR]
            rw[Tm.sX _ ha,Tm.sX _ hb,hh.1,hh.2.1,hh.2.2.1,U.eq hr]
          · simp only[bB,aW,List.cons.injEq,eR] at e
            rw[Tm.sX _ ha,Tm.sX _ hb] at e
            exact U.gen θ S (by injection e)
        · rename_i hh
          simp only[Option.some.injEq,Prod.mk.injEq] at h
          obtain⟨rfl,rfl,rfl⟩:=h
          refine⟨hg,fun _ _=>rfl,fun _ h=>absurd h (dV),mK,fun h=>(by cases h),fun θ S e=>?_,fun _=>rfl⟩
          exfalso
          simp only[bB,aW,List.cons.injEq,eR] at e
          rw[Tm.sX _ ha,Tm.sX _ hb] at e
          injection e with e1 e2 e3 e4
          exact hh (uK.2 ⟨e1,e2,e3,by simpa using oC List.length e4⟩)
theorem yL{g:Nat}{σ:Sub}{a b:Tm}{r:Bool}{σ':Sub}{tr:List Int}(hg:cX σ)(h:dM g σ a b=some (r,σ',tr)):pP σ [a] [b] r σ' tr:=(a8H g).1 σ a b r σ' tr hg h
end Go.AW
