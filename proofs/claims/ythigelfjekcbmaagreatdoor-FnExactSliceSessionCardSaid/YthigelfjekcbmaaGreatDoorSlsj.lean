import Derived.Test.YthigelfjekcbmaaGreatDoorSlsg
import Derived.Test.YthigelfjekcbmaaGreatDoorSlsi
set_option linter.unusedSimpArgs false
set_option linter.unusedVariables false
set_option maxRecDepth 100000
namespace Go.AW
open Go.Proofs.Tryz
theorem wS(n lo hi:Int)(st:aA):aD prog 87 [.int .i64 n,.int .i64 lo,.int .i64 hi] st (fun r st'=>r=.bool (decide (lo≤n)&&decide (n≤hi))∧st'=st):=by
 refine wF [] 3 func87 ntmps87 rfl rfl ?_
 intro _
 repeat' (first
  | (simp -implicitDefEqProofs only[*,aB,seval])
  | (refine cS (fun h=>?_) (fun h=>?_))
  | (refine aT (fun h=>?_) (fun h=>?_)))
 all_goals simp_all
theorem aLB(s:ByteArray)(st:aA):aD prog 247 [.str s] st (fun r st'=>r=.tup [.int .i64 (jW s),.bool (jW s == 1||jW s == 2)]∧st'=st):=by
 refine wF [] 1 func247 ntmps247 rfl rfl ?_
 intro _
 repeat' (first
  | (simp -implicitDefEqProofs only[*,aB,seval])
  | (refine cS (fun h=>?_) (fun h=>?_))
  | (refine aT (fun h=>?_) (fun h=>?_)))
 all_goals (simp only[jW, *,Bool.or_true,x9,Bool.or_self,cond_true,cond_false];first | done | rfl)
theorem RM(s:ByteArray)(st:aA):aD prog 198 [.str s] st (fun r st'=>r=.int .i64 (jW s)∧st'=st):=by
 refine wF [] 1 func198 ntmps198 rfl rfl ?_
 intro _
 repeat' (first
  | (simp -implicitDefEqProofs only[*,aB,seval])
  | (refine cS (fun h=>?_) (fun h=>?_))
  | (refine aT (fun h=>?_) (fun h=>?_)))
 all_goals (simp only[jW, *,Bool.or_true,x9,Bool.or_self,cond_true,cond_false];first | done | rfl)
theorem aLZ(s:ByteArray)(n:Int)(st:aA):aD prog 224 [.str s,.int .i64 n] st (fun r st'=>r=.bool (isBuiltin s n)∧st'=st):=by
 refine wF [] 2 func224 ntmps224 rfl rfl ?_
 intro _
 repeat' (first
  | (simp -implicitDefEqProofs only[*,aB,seval])
  | (refine cS (fun h=>?_) (fun h=>?_))
  | (refine aT (fun h=>?_) (fun h=>?_)))
 all_goals (simp only[isBuiltin, *,Bool.or_true,x9,Bool.or_self,cond_true,cond_false];first | done | rfl)
theorem K0(s:ByteArray)(n:Int)(st:aA):aD prog 164 [.str s,.int .i64 n] st (fun r st'=>r=.bool (isBuiltin s n)∧st'=st):=by
 refine wF [] 2 func164 ntmps164 rfl rfl ?_
 intro _
 repeat' (first
  | (simp -implicitDefEqProofs only[*,aB,seval])
  | (refine cS (fun h=>?_) (fun h=>?_))
  | (refine aT (fun h=>?_) (fun h=>?_)))
 all_goals (simp only[isBuiltin, *,Bool.or_true,x9,Bool.or_self,cond_true,cond_false];first | done | rfl)
abbrev aHH:=zi tI_3 (zi zI_3 (zi aY (zi tI_4 (zi zI_4 (zi cG (zi tI_5 (zi zI_5 (zi O5 (zi tI_9 (zi zI_9 d4))))))))))
theorem RL(s:ByteArray)(st:aA):aD prog 197 [.str s] st (fun r st'=>r=.bool (sB s)∧st'=st):=by
 refine wF [] 1 func197 ntmps197 rfl rfl ?_
 simp only[dK,AV.fits,dO]
 intro hs
 simp -implicitDefEqProofs only[aB,seval]
 refine nQ (α:=Nat) [] (fun i=>i≤s.size∧∀(j:Nat) c,j<i→(sb s)[j]?=some c→letter c=true)
  (fun i=>[(0,.str s),(3,.int .i64 i)]) (fun _=>st) (fun i=>s.size - i) (by decide +kernel)
  ⟨0,⟨by omega,by intro j x h;omega⟩,aR.mk (by simp -implicitDefEqProofs only[aB,↓aW,seval])⟩ ?_
 intro i ⟨hi,c7⟩
 simp -implicitDefEqProofs only[aB,seval,aHH]
 refine⟨fun h5=>?_,fun h5=>?_⟩
 case refine_2=>
  simp only[cM,gP] at h5
  have ha:(sb s).all letter=true:=FK fun j c hc=>c7 j c (by have:=(eS.1 hc).1;rw[D8] at this;omega) hc
  repeat' (first
   | (simp -implicitDefEqProofs only[*,aB,seval,aHH])
   | (refine cS (fun h=>?_) (fun h=>?_))
   | (refine aT (fun h=>?_) (fun h=>?_)))
  all_goals simp only[sB,ha,iC,AV.bool.injEq]
  all_goals simp only[*,kU,iC,kT]
 simp only[bM,gP] at h5
 obtain⟨c,hc⟩:∃c,(sb s)[i]?=some c:=⟨_,e7 (by rw[D8];exact h5)⟩
 have hx:=aFD (P:=prog) (t:=9) d4 hc
 simp -implicitDefEqProofs only[hx,aB,seval]
 refine cS (fun h6=>?_) (fun h6=>?_)
 case refine_2=>
  simp -implicitDefEqProofs only[h6,aB,seval]
  simp only[sQ,bM] at h6
  simp only[sB,sZ hc (show letter c=false by simp [letter];omega),kT]
 simp -implicitDefEqProofs only[h6,hx,aB,seval]
 refine⟨fun h7=>?_,fun h7=>?_⟩
 · simp -implicitDefEqProofs only[aB,seval]
   simp only[bM] at h7
   simp only[sB,sZ hc (show letter c=false by simp [letter];omega),kT]
 simp only[cM] at h6 h7
 simp -implicitDefEqProofs only[aB,seval]
 refine⟨i+1,by omega,⟨by omega,fun j u hj hu=>?_⟩,aR.mk ?_⟩
 · rcases j6 j i with h8 | h8
   · exact c7 j u h8 hu
   · obtain rfl:j=i:=by omega
     rw[hc] at hu;cases hu
     simp [letter];omega
 · have:=bJ (n:=(i:Int)+1)
   simp -implicitDefEqProofs only[this,aB,seval]
abbrev aHI:=zi tI_3 (zi zI_3 (zi aY (zi tI_4 (zi zI_4 (zi cG (zi tI_5 (zi zI_5 (zi O5 (zi tI_6 (zi zI_6 (zi uU6 (zi tI_9 (zi zI_9 d4)))))))))))))
theorem RB(s:ByteArray)(st:aA):aD prog 212 [.str s] st (fun r st'=>r=.bool (sB s)∧st'=st):=by
 refine wF [] 1 func212 ntmps212 rfl rfl ?_
 simp only[dK,AV.fits,dO]
 intro hs
 simp -implicitDefEqProofs only[aB,seval,aHI]
 refine nQ (α:=Nat) [] (fun i=>i≤s.size∧∀(j:Nat) c,j<i→(sb s)[j]?=some c→letter c=true)
  (fun i=>[(0,.str s),(5,.int .i64 s.size),(6,.int .i64 i)]) (fun _=>st) (fun i=>s.size - i) (by decide +kernel)
  ⟨0,⟨by omega,by intro j x h;omega⟩,aR.mk (by simp -implicitDefEqProofs only[aB,↓aW,seval])⟩ ?_
 intro i ⟨hi,c7⟩
 simp -implicitDefEqProofs only[aB,seval]
 refine⟨fun h5=>?_,fun h5=>?_⟩
 case refine_2=>
  simp only[cM,gP] at h5
  have ha:(sb s).all letter=true:=FK fun j c hc=>c7 j c (by have:=(eS.1 hc).1;rw[D8] at this;omega) hc
  simp -implicitDefEqProofs only[aB,seval,aHI]
  refine(wS _ _ _ st).to ?_
  simp -implicitDefEqProofs only[aB,seval]
  simp only[sB,ha,iC]
 simp only[bM,gP] at h5
 obtain⟨c,hc⟩:∃c,(sb s)[i]?=some c:=⟨_,e7 (by rw[D8];exact h5)⟩
 have hx:=aFD (P:=prog) (t:=9) d4 hc
 simp -implicitDefEqProofs only[hx,aB,seval]
 refine cS (fun h6=>?_) (fun h6=>?_)
 case refine_2=>
  simp -implicitDefEqProofs only[h6,aB,seval]
  simp only[sQ,bM] at h6
  simp only[sB,sZ hc (show letter c=false by simp [letter];omega),kT]
 simp -implicitDefEqProofs only[h6,hx,aB,seval]
 refine⟨fun h7=>?_,fun h7=>?_⟩
 · simp -implicitDefEqProofs only[aB,seval]
   simp only[bM] at h7
   simp only[sB,sZ hc (show letter c=false by simp [letter];omega),kT]
 simp only[cM] at h6 h7
 simp -implicitDefEqProofs only[aB,seval]
 refine⟨i+1,by omega,⟨by omega,fun j u hj hu=>?_⟩,aR.mk ?_⟩
 · rcases j6 j i with h8 | h8
   · exact c7 j u h8 hu
   · obtain rfl:j=i:=by omega
     rw[hc] at hu;cases hu
     simp [letter];omega
 · have:=bJ (n:=(i:Int)+1)
   simp -implicitDefEqProofs only[this,aB,seval]
theorem aL5(s:ByteArray)(st:aA):aD prog 213 [.str s] st (fun r st'=>r=.bool (decide ((0:Int)<(jW s:Int)))∧st'=st):=by
 refine wF [] 1 func213 ntmps213 rfl rfl ?_
 intro _
 simp -implicitDefEqProofs only[aB,seval]
 refine(aLB s st).to ?_
 simp -implicitDefEqProofs only[aB,seval]
abbrev aVC:=zi tI_3 (zi zI_3 (zi aY (zi tI_4 (zi zI_4 (zi cG (zi tI_28 (zi zI_28 (zi aP (zi bE (zi bF (zi b9 (zi tI_52 (zi zI_52 (zi bU (zi bV (zi bX (zi bY bT)))))))))))))))))
theorem CB(k n:Int)(s:ByteArray)(ts:List Tm)(st:aA):aD prog 223 [(Tm.mk k n s ts).av] st (fun r st'=>r=.bool (decide (k=3)&&decide ((ts.length:Int)=0))∧st'=st):=by
 refine wF [] 1 func223 ntmps223 rfl rfl ?_
 intro _
 simp only[aX]
 repeat' (first
  | (simp -implicitDefEqProofs only[*,aB,seval,aVC])
  | (refine cS (fun h=>?_) (fun h=>?_))
  | (refine aT (fun h=>?_) (fun h=>?_)))
 all_goals simp_all
def t6:List ByteArray:=[⟨#[43]⟩,⟨#[45]⟩,⟨#[42]⟩,⟨#[47,47]⟩,⟨#[61]⟩,⟨#[92,61]⟩,⟨#[61,61]⟩,⟨#[60]⟩,⟨#[62]⟩,⟨#[61,60]⟩,⟨#[62,61]⟩,⟨#[61,58,61]⟩,⟨#[46]⟩,⟨#[91,93]⟩,⟨#[33]⟩]
abbrev aVD:=zi tI_138 (zi zI_138 (zi vD (zi zG (zi zL BC))))
theorem aNF(st:aA):aD prog 266 [] st (fun r st'=>r=.fslice (t6.map .str)∧st'=st):=by
 refine wF [] 0 func266 ntmps266 rfl rfl ?_
 intro _
 simp -implicitDefEqProofs only[t6,aB,seval,aVD]
abbrev aVE:=zi tI_138 (zi zI_138 (zi vD (zi zG (zi zL BC))))
theorem aME(st:aA):aD prog 272 [] st (fun r st'=>r=.fslice (t6.map .str)∧st'=st):=by
 refine wF [] 0 func272 ntmps272 rfl rfl ?_
 intro _
 simp -implicitDefEqProofs only[t6,aB,seval,aVE]
abbrev aHK:=zi tI_3 (zi zI_3 (zi aY (zi tI_4 (zi zI_4 (zi cG (zi tI_9 (zi zI_9 (zi d4 (zi tI_138 (zi zI_138 (zi vD (zi zG (zi zL BC)))))))))))))
theorem aL9(l:List ByteArray)(s:ByteArray)(st:aA):aD prog 284 [.slice (l.map .str),.str s] st (fun r st'=>r=.bool (l.any fun x=>decide (x=s))∧st'=st):=by
 refine wF [] 2 func284 ntmps284 rfl rfl ?_
 simp only[dK,AV.fits,dO,aE]
 intro ⟨⟨hl,_⟩,_⟩
 simp -implicitDefEqProofs only[aB,seval]
 refine nQ (α:=Nat) [] (fun i=>i≤l.length∧∀(j:Nat) x,j<i→l[j]?=some x→decide (x=s)=false)
  (fun i=>[(0,.slice (l.map .str)),(1,.str s),(5,.int .i64 i)]) (fun _=>st) (fun i=>l.length - i) (by decide +kernel)
  ⟨0,⟨by omega,by intro j x h;omega⟩,aR.mk (by simp -implicitDefEqProofs only[aB,↓aW,seval])⟩ ?_
 intro i ⟨hi,c7⟩
 simp -implicitDefEqProofs only[aE,aB,seval,aHK]
 refine⟨fun h5=>?_,fun h5=>?_⟩
 case refine_2=>
  simp -implicitDefEqProofs only[aB,seval]
  simp only[cM,gP] at h5
  have:(l.any fun x=>decide (x=s))=false:=by
   rw[List.any_eq_false]
   intro x hx
   obtain⟨j,hj⟩:=BJ hx
   simp [c7 j x (by have:=(eS.1 hj).1;omega) hj]
  rw[this]
 simp only[bM,gP] at h5
 obtain⟨x,hx⟩:∃x,l[i]?=some x:=⟨_,e7 h5⟩
 simp -implicitDefEqProofs only[bG (av:=AV.str) vD hx rfl,aB,seval,aHK]
 refine⟨fun h6=>?_,fun h6=>?_⟩
 · simp -implicitDefEqProofs only[aB,seval]
   have:(l.any fun x=>decide (x=s))=true:=by
    rw[List.any_eq_true]
    exact⟨x,cI hx,h6⟩
   rw[this]
 simp -implicitDefEqProofs only[aB,seval]
 refine⟨i+1,by omega,⟨by omega,fun j u hj hu=>?_⟩,aR.mk ?_⟩
 · rcases j6 j i with h8 | h8
   · exact c7 j u h8 hu
   · obtain rfl:j=i:=by omega
     rw[hx] at hu;cases hu
     exact h6
 · have:=bJ (n:=(i:Int)+1)
   simp -implicitDefEqProofs only[this,aB,seval]
abbrev aHJ:=zi tI_3 (zi zI_3 (zi aY (zi tI_9 (zi zI_9 (zi d4 (zi tI_138 (zi zI_138 (zi vD (zi zG (zi zL BC))))))))))
theorem aK9(l:List ByteArray)(s:ByteArray)(st:aA):aD prog 281 [.slice (l.map .str),.str s] st (fun r st'=>(∃k:Int,r=.int .i64 k∧decide (0≤k)=l.any fun x=>decide (s=x))∧st'=st):=by
 refine wF [] 2 func281 ntmps281 rfl rfl ?_
 simp only[dK,AV.fits,dO,aE]
 intro ⟨⟨hl,_⟩,_⟩
 simp -implicitDefEqProofs only[aE,aB,seval,aHJ]
 refine nQ (α:=Nat) [] (fun i=>i≤l.length∧∀(j:Nat) x,j<i→l[j]?=some x→decide (s=x)=false)
  (fun i=>[(0,.slice (l.map .str)),(1,.str s),(7,.int .i64 l.length),(8,.int .i64 i)]) (fun _=>st) (fun i=>l.length - i) (by decide +kernel)
  ⟨0,⟨by omega,by intro j x h;omega⟩,aR.mk (by simp -implicitDefEqProofs only[aB,↓aW,seval])⟩ ?_
 intro i ⟨hi,c7⟩
 simp -implicitDefEqProofs only[aB,seval]
 refine⟨fun h5=>?_,fun h5=>?_⟩
 case refine_2=>
  simp -implicitDefEqProofs only[aB,seval]
  simp only[cM,gP] at h5
  have:(l.any fun x=>decide (s=x))=false:=by
   rw[List.any_eq_false]
   intro x hx
   obtain⟨j,hj⟩:=BJ hx
   simp [c7 j x (by have:=(eS.1 hj).1;omega) hj]
  rw[this]
  exact⟨_,rfl,rfl⟩
 simp only[bM,gP] at h5
 obtain⟨x,hx⟩:∃x,l[i]?=some x:=⟨_,e7 h5⟩
 simp -implicitDefEqProofs only[bG (av:=AV.str) vD hx rfl,aB,seval,aHJ]
 refine⟨fun h6=>?_,fun h6=>?_⟩
 · simp -implicitDefEqProofs only[aB,seval]
   have:(l.any fun x=>decide (s=x))=true:=by
    rw[List.any_eq_true]
    exact⟨x,cI hx,h6⟩
   rw[this]
   exact⟨_,rfl,by simp⟩
 simp -implicitDefEqProofs only[aB,seval]
 refine⟨i+1,by omega,⟨by omega,fun j u hj hu=>?_⟩,aR.mk ?_⟩
 · rcases j6 j i with h8 | h8
   · exact c7 j u h8 hu
   · obtain rfl:j=i:=by omega
     rw[hx] at hu;cases hu
     exact h6
 · have:=bJ (n:=(i:Int)+1)
   simp -implicitDefEqProofs only[this,aB,seval]
theorem aK2(l:List ByteArray)(s:ByteArray)(st:aA):aD prog 258 [.slice (l.map .str),.str s] st (fun r st'=>r=.bool (l.any fun x=>decide (s=x))∧st'=st):=by
 refine wF [] 2 func258 ntmps258 rfl rfl ?_
 intro _
 simp -implicitDefEqProofs only[aB,seval]
 refine(aK9 l s st).mono ?_
 rintro _ _ ⟨⟨k,rfl,hk⟩,rfl⟩
 simp -implicitDefEqProofs only[aB,seval]
 rw[←hk]
theorem KR(l:List ByteArray)(s:ByteArray)(st:aA):aD prog 258 [.fslice (l.map .str),.str s] st (fun r st'=>r=.bool (l.any fun x=>decide (s=x))∧st'=st):=
 aD.EC (by simp only[mO,AV.soft];exact aK2 l s st)
theorem aMA(l:List ByteArray)(s:ByteArray)(st:aA):aD prog 284 [.fslice (l.map .str),.str s] st (fun r st'=>r=.bool (l.any fun x=>decide (x=s))∧st'=st):=
 aD.EC (by simp only[mO,AV.soft];exact aL9 l s st)
def DW(s:ByteArray):Bool:=sB s||t6.any fun x=>decide (s=x)
theorem aJ8(s:ByteArray):(t6.any fun x=>decide (x=s))=t6.any fun x=>decide (s=x):=by
 congr 1
 funext x
 exact decide_eq_decide.2 ⟨Eq.symm,Eq.symm⟩
theorem aL0(s:ByteArray)(st:aA):aD prog 245 [.str s] st (fun r st'=>r=.bool (DW s)∧st'=st):=by
 refine wF [] 1 func245 ntmps245 rfl rfl ?_
 intro _
 repeat' (first
  | (simp -implicitDefEqProofs only[*,aB,seval])
  | (refine cS (fun h=>?_) (fun h=>?_))
  | (refine(RB s st).to ?_) | (refine(aNF st).to ?_) | (refine(KR t6 s st).to ?_)
  | (refine aT (fun h=>?_) (fun h=>?_)))
 all_goals simp only[DW, *,sQ,x9,rC]
theorem aM9(s:ByteArray)(st:aA):aD prog 262 [.str s] st (fun r st'=>r=.bool (DW s)∧st'=st):=by
 refine wF [] 1 func262 ntmps262 rfl rfl ?_
 intro _
 repeat' (first
  | (simp -implicitDefEqProofs only[*,aB,seval])
  | (refine cS (fun h=>?_) (fun h=>?_))
  | (refine(RL s st).to ?_) | (refine(aME st).to ?_) | (refine(aMA t6 s st).to ?_)
  | (refine aT (fun h=>?_) (fun h=>?_)))
 all_goals simp only[DW,aJ8, *,sQ,x9,rC]
end Go.AW
namespace Go.AW
def d9(k n:Int)(s:ByteArray)(len:Int):Bool:=
 cond (decide (k=1)) (decide ((0:Int)≤n)&&decide (n≤25)&&decide (s=⟨#[]⟩)&&decide (len=0))
  (cond (decide (k=2)) (decide ((-999:Int)≤n)&&decide (n≤999)&&decide (s=⟨#[]⟩)&&decide (len=0))
   (cond (decide (k=3)) (decide (n=0)&&DW s&&decide (len≤4)) false))
mutual
def Tm.shape:Tm→Int→Bool
 | .mk k n s ts,d=>decide (1≤d)&&d9 k n s ts.length&&I9 ts (d - 1)
def I9:List Tm→Int→Bool
 | [],_=>true
 | t::ts,d=>t.shape d&&I9 ts d
end
theorem aIJ:∀(ts:List Tm) (d:Int),I9 ts d=ts.all fun t=>t.shape d
 | [],_=>rfl
 | t::ts,d=>by simp only[I9,iW,aIJ ts d]
theorem Tm.EA(k n:Int)(s:ByteArray)(ts:List Tm)(d:Int):(Tm.mk k n s ts).shape d=(decide (1≤d)&&d9 k n s ts.length&&ts.all fun t=>t.shape (d - 1)):=by simp only[Tm.shape,aIJ]
mutual
def Tm.nodes:Tm→Nat
 | .mk _ _ _ ts=>1+I5 ts
def I5:List Tm→Nat
 | []=>0
 | t::ts=>t.nodes+I5 ts
end
theorem aIF:∀(ts:List Tm),I5 ts=aJ Tm.nodes ts
 | []=>rfl
 | t::ts=>by simp only[I5,aJ,aIF ts]
theorem Tm.jE(k n:Int)(s:ByteArray)(ts:List Tm):(Tm.mk k n s ts).nodes=1+aJ Tm.nodes ts:=by simp only[Tm.nodes,aIF]
def Tm.valid(t:Tm):Bool:=t.shape 30&&decide (t.nodes≤120)
mutual
def Tm.vars:Tm→List Int→List Int
 | .mk k n _ ts,l=>bO ts (if k=1∧n∉l then l++ [n] else l)
def bO:List Tm→List Int→List Int
 | [],l=>l
 | t::ts,l=>bO ts (t.vars l)
end
mutual
theorem Tm.BE:∀(t:Tm) (l:List Int),(t.vars l).length≤l.length+t.nodes
 | .mk k n s ts,l=>by
  have h:=v3 ts (if k=1∧n∉l then l++ [n] else l)
  have h2:(if k=1∧n∉l then l++ [n] else l).length≤l.length+1:=by split<;>simp
  rw[Tm.vars,Tm.jE]
  omega
theorem v3:∀(ts:List Tm) (l:List Int),(bO ts l).length≤l.length+aJ Tm.nodes ts
 | [],l=>by simp [bO,aJ]
 | t::ts,l=>by
  have h1:=Tm.BE t l
  have h2:=v3 ts (t.vars l)
  simp only[bO,aJ]
  omega
end
def d5(v:Int):List Int→Int→Int
 | [],_=> -1
 | x::xs,i=>if v=x then i else d5 v xs (i+1)
theorem aFB(v:Int):∀(l:List Int) (i:Int),0≤i→(0≤d5 v l i↔v∈l)
 | [],i,h=>by simp [d5]
 | x::xs,i,h=>by
  simp only[d5,cO]
  split
  · rename_i e;simp [e,h]
  · rename_i e;rw[aFB v xs (i+1) (by omega)];simp [e]
theorem sY{st:aA}{b x:Nat}{l:List AV}{o:AO}(h:l≠[]→x≠b):(bS st b l).aC x o=bS (st.aC x o) b l:=by
 cases l with
 | nil=>rfl
 | cons y l=>exact aA.nO _ _ _ (c9 (h (by simp)))
theorem FI{st:aA}{b x:Nat}{l:List AV}{o:AO}(hx:st x=none)(h:l≠[]→(st.aC x o) b=none):aM (bS (st.aC x o) b l) (bS st b l)∧(l≠[]→st b=none):=by
 cases l with
 | nil=>exact⟨(aM.refl _).aC hx,fun h=>absurd rfl h⟩
 | cons y l=>
  have hb:=h (by simp)
  have hne:b≠x:=by rintro rfl;rw[aA.aL] at hb;cases hb
  rw[aA.aF _ _ hne] at hb
  refine⟨?_,fun _=>hb⟩
  simp only[bS]
  rw[aA.nO _ _ _ (c9 hne)]
  exact(aM.refl _).aC (by rw[aA.aF _ _ (c9 hne)];exact hx)
theorem P9{P:Program}{t:TypeId}{ag:Bool}{w b i:Nat}{l:List AV}{x:AV}(hI:eI P t=some (ag,w))(h:l[i]?=some x):dF P t (bR w b l) (.int .i64 (i:Int))=some (.ptr b (i*w)):=by
 have hi:=(eS.1 h).1
 rw[qE (by rintro rfl;simp at hi)]
 exact qN hI hi
theorem QA{st:aA}{b i:Nat}{l:List Int}{x:Int}(h:l[i]?=some x):bS st b (l.map iv) b=some (.cells (l.map iv))∧(l.map iv)[i]?=some (iv x):=by
 have hi:=(eS.1 h).1
 have hne:l.map iv≠[]:=by rintro e;rw[List.map_eq_nil_iff] at e;subst e;simp at hi
 have hfl:(l.map iv).flatMap AV.cells=l.map iv:=by
  clear h hi hne
  induction l with
  | nil=>rfl
  | cons y l ih=>simp only[bK,rF,ih];rfl
 exact⟨by rw[jR hne,hfl,aA.aL],by rw[lS,h];try rfl⟩
mutual
def Tm.wf:Tm→Bool
 | .mk k _ _ ts=>(!decide (k=1)||ts.isEmpty)&&JD ts
def JD:List Tm→Bool
 | []=>true
 | t::ts=>t.wf&&JD ts
end
theorem OW:∀(ts:List Tm),JD ts=ts.all Tm.wf
 | []=>rfl
 | t::ts=>by simp only[JD,iW,OW ts]
theorem Tm.O9{k n:Int}{s:ByteArray}{ts:List Tm}(h:(Tm.mk k n s ts).wf=true):(k=1→ts= [])∧∀x∈ts,x.wf=true:=by
 simp only[Tm.wf,OW,cL,oU,gN,cM,List.isEmpty_iff,eE] at h
 exact⟨fun hk=>h.1.resolve_left (fun hn=>hn hk),h.2⟩
theorem Tm.EW{t:Tm}(h:t.valid=true):t.nodes≤120:=by simp only[Tm.valid,cL,bM] at h;exact h.2
def jK(S:aA)(c b:Nat)(hd:List AV)(l:List AV):aA:=bS (S.aC c (.cells (hd++ [bR 4 b l]))) b l
theorem kA{S:aA}{c b:Nat}{hd l:List AV}(hb:l≠[]→(S.aC c (.cells (hd++ [bR 4 b l]))) b=none):jK S c b hd l c=some (.cells (hd++ [bR 4 b l])):=by
 unfold jK
 cases l with
 | nil=>simp only[bS,aA.aL]
 | cons y l=>
  have h:=hb (by simp)
  have hne:c≠b:=fun e=>by rw[←e,aA.aL] at h;cases h
  rw[nV hne,aA.aL]
theorem tS{S:aA}{c b b':Nat}{hd l l':List AV}(hb:l'≠[]→(S.aC c (.cells (hd++ [bR 4 b l]))) b'=none) :
 (bS (S.aC c (.cells (hd++ [bR 4 b l]))) b' l').aC c (.cells (hd++ [bR 4 b' l']))=jK S c b' hd l'∧(l'≠[]→(S.aC c (.cells (hd++ [bR 4 b' l']))) b'=none)∧bS (S.aC c (.cells (hd++ [bR 4 b l]))) b' l' c=some (.cells (hd++ [bR 4 b l])):=by
 have hne:l'≠[]→c≠b':=fun h e=>by have:=hb h;rw[←e,aA.aL] at this;cases this
 refine⟨?_,fun h=>?_,?_⟩
 · rw[sY hne,eH];try rfl
 · have:=hb h
   rw[aA.aF _ _ (c9 (hne h))] at this ⊢
   exact this
 · cases l' with
   | nil=>simp only[bS,aA.aL]
   | cons y l=>rw[nV (hne (by simp)),aA.aL]
theorem l7{S:aA}{c b x:Nat}{hd l:List AV}(hb:l≠[]→(S.aC c (.cells (hd++ [bR 4 b l]))) b=none)(hx:S x≠none)(hxc:x≠c):jK S c b hd l x=S x:=by
 unfold jK
 cases l with
 | nil=>simp only[bS,aA.aF _ _ hxc]
 | cons y l=>
  have h:=hb (by simp)
  have hne:x≠b:=fun e=>by
   rw[←e,aA.aF _ _ hxc] at h
   exact hx h
  rw[nV hne,aA.aF _ _ hxc]
theorem r9{S:aA}{c b x:Nat}{hd l:List AV}{o:AO}(hb:l≠[]→(S.aC c (.cells (hd++ [bR 4 b l]))) b=none)(hx:S x≠none)(hxc:x≠c):(jK S c b hd l).aC x o=bS ((S.aC c (.cells (hd++ [bR 4 b l]))).aC x o) b l∧(l≠[]→((S.aC c (.cells (hd++ [bR 4 b l]))).aC x o) b=none):=by
 have hne:l≠[]→x≠b:=fun h e=>by
  have:=hb h
  rw[←e,aA.aF _ _ hxc] at this
  exact hx this
 refine⟨by unfold jK;rw[sY hne],fun h=>by rw[aA.aF _ _ (c9 (hne h))];exact hb h⟩
theorem aFG{S:aA}{c b x:Nat}{hd l:List AV}{o:AO}(hb:l≠[]→(S.aC c (.cells (hd++ [bR 4 b l]))) b=none)(hx:S x≠none)(hxc:x≠c) :
 (jK S c b hd l).aC x o=jK (S.aC x o) c b hd l∧(l≠[]→((S.aC x o).aC c (.cells (hd++ [bR 4 b l]))) b=none):=by
 have hne:l≠[]→x≠b:=fun h e=>by
  have:=hb h
  rw[←e,aA.aF _ _ hxc] at this
  exact hx this
 refine⟨by unfold jK;rw[sY hne,aA.nO _ _ _ (c9 hxc)],fun h=>?_⟩
 have:=hb h
 rw[aA.nO _ _ _ hxc,aA.aF _ _ (c9 (hne h))]
 exact this
theorem aSA{S T:aA}{c b:Nat}{hd l:List AV}(D:aM (S.aC c (.cells (hd++ [bR 4 b l]))) T)(hb:l≠[]→(S.aC c (.cells (hd++ [bR 4 b l]))) b=none):aM (jK S c b hd l) T:=
 D.bS fun h=>(D b).1 (hb h)
theorem aA.v5{st:aA}{b c:Nat}{a z a':AO}(h:b≠c):((st.aC c a).aC b z).aC c a'=(st.aC b z).aC c a':=by rw[aA.nO _ _ _ (c9 h),eH]
theorem gV(l:List Tm):∀e∈l.map Tm.av,e.width=4:=by intro e h;simp only[cE] at h;obtain⟨t,_,rfl⟩:=h;exact aO t
theorem pT(l:List Tm):∀e∈l.map Tm.av,e.cA=false:=by intro e h;simp only[cE] at h;obtain⟨t,_,rfl⟩:=h;exact Tm.eG t
end Go.AW
namespace Go.AW
open Go.Proofs.Tryz
mutual
def Tm.small:Tm→Bool
 | .mk _ _ _ ts=>decide (ts.length≤1048576)&&JA ts
def JA:List Tm→Bool
 | []=>true
 | t::ts=>t.small&&JA ts
end
theorem EQ:∀(ts:List Tm),JA ts=ts.all Tm.small
 | []=>rfl
 | t::ts=>by simp only[JA,iW,EQ ts]
theorem Tm.oO{k n:Int}{s:ByteArray}{ts:List Tm}(h:(Tm.mk k n s ts).small=true):ts.length≤1048576∧∀x∈ts,x.small=true:=by
 simpa [Tm.small,EQ] using h
abbrev IW:=zi tI_3 (zi zI_3 (zi aY (zi tI_28 (zi zI_28 (zi aP (zi bE (zi bF (zi b9 (zi tI_52 (zi zI_52 (zi bU (zi bV (zi bX (zi bY bT))))))))))))))
theorem HS(l:List Tm)(st:aA)(hb:l.length≤1048576)(hc:∀x∈l,∀(st:aA),aD prog 137 [Tm.av x] st (Made st (Tm.av x))) :
 aD prog 97 [.slice (l.map Tm.av)] st (Made st (.slice (l.map Tm.av))):=by
 have hws:∀e∈l.map Tm.av,e.width=4:=fun e he=>by simp only[cE] at he;obtain⟨t,_,rfl⟩:=he;exact aO t
 refine wF [] 1 func97 ntmps97 rfl rfl ?_
 intro _
 simp -implicitDefEqProofs only[aE,aB,seval,IW]
 refine dQ (σ:=List AV×List Nat×Nat×aA) [] [2,6,7] l (fun i p=>pX (l.map Tm.av) st i p.1 p.2.1 p.2.2.1 p.2.2.2) (fun i p=>[(3,bR 4 p.2.2.1 p.1),(8,.int .i64 i)]) (fun _ p=>p.2.2.2) (by decide +kernel)
  ⟨([],[],0,st),pX.start,aR.mk (by simp -implicitDefEqProofs only[kZ,aB,↓aW,seval])⟩ (fun i x p hx hlt bD hdr hinv=>?_) (fun p hge hinv=>?_)
 case refine_2=>
  obtain⟨os,bs,b,s⟩:=p
  simp -implicitDefEqProofs only[hge,aB,seval]
  exact hinv.done (aE _) hws
 obtain⟨os,bs,b,s⟩:=p
 simp only at hinv
 have hw:=bJ (n:=(i:Int)+1)
 have r8:∀zs:List AV,zs.length=4→aS zs 0 (Tm.av x).cells=(Tm.av x).cells:=fun zs h=>vT (Tm.eV x) h
 simp -implicitDefEqProofs only[bD,bG (av:=Tm.av) aP hx (aO x),b7,aO,Tm.eV,Tm.dY,eH,r8,aB,seval,IW]
 intro b2 hb2
 try simp -implicitDefEqProofs only[dN,Tm.eV,oP (Tm.eV x),nX (b7 x),cT,r8,eH,Tm.dY,aB,↓aW,seval,IW]
 refine(hc x (cI hx) _).mono ?_
 rintro r s2 ⟨bx,m1,m2,m3,m4⟩
 obtain⟨f1,f2,f3⟩:=m3.K7 (aO x) (Tm.dY x)
 have hra:r.isAgg=true:=by rw[(aQ.shape m3).1,b7]
 have hrj:r.cA=false:=(aQ.shape m3).2.2.1
 simp -implicitDefEqProofs only[f1,hra,hrj,aB,seval,IW]
 have hlen:os.length=i:=hinv.1
 have ML:∀e∈os,e.width=4:=fun e he=>by
  obtain⟨k,hk,rfl⟩:=List.getElem_of_mem he
  exact hinv.2.1.PB (fun q hq=>hws q (mS hq)) _ he
 have hkb:os≠[]→s2 b=some (.cells (os.flatMap AV.cells)):=fun hne=>by
  have h:=(hinv.2.2.2.2.1 hne).2.2
  have hbx:b∉bx:=fun hq=>by
   have:=m2 b hq
   have tO:b≠b2:=fun e=>by rw[e,hb2] at h;cases h
   rw[aA.aF _ _ tO,h] at this;cases this
  have tO:b≠b2:=fun e=>by rw[e,hb2] at h;cases h
  rw[m4 b hbx,aA.aF _ _ tO,h]
 refine P8 aP bE bF rfl rfl (gS f1 f3) ML hkb (by simp only[bA,bQ,hlen];omega) (by simp only[bA,bQ,hlen];omega) (fun b' s' k1 k2 k3 k4=>?_)
 have qQ:=hinv.step hb2 (show(l.map Tm.av)[i]?=some (Tm.av x) by rw[lS,hx];try rfl) m1 m2 m3 m4 (k1 (by simp)) (k2 (by simp)) (fun q h1 h2=>k3 q (fun _=>h1) h2) k4
 simp -implicitDefEqProofs only[hw,aB,seval]
 exact⟨(os++ [r],bs++bx,b',s'.erase b2),qQ,aR.drop (iQ _ _) (by simp -implicitDefEqProofs only[aB,seval])⟩
abbrev aH8:=zi tI_28 (zi zI_28 (zi aP (zi bE (zi bF (zi b9 (zi tI_52 (zi zI_52 (zi bU (zi bV (zi bX (zi bY bT)))))))))))
theorem DY:∀(t:Tm) (st:aA),t.small=true→aD prog 137 [t.av] st (Made st t.av)
 | .mk k n s ts,st,hb=>by
  obtain⟨hb1,hb2⟩:=Tm.oO hb
  have hc:=fun st=>HS ts st hb1 fun x hx st=>DY x st (hb2 x hx)
  refine aD.AH ?_
  refine wF [1] 1 func137 ntmps137 rfl rfl ?_
  intro _
  simp only[aX]
  simp -implicitDefEqProofs only[aB,seval,aH8]
  intro b aPY b2 G3
  have hne:b2≠b:=by rintro rfl;rw[aA.aL] at G3;cases G3
  have hn2:st b2=none:=by rw[aA.aF st _ hne] at G3;exact G3
  simp -implicitDefEqProofs only[dN,hne.symm,aB,seval]
  refine(hc _).mono ?_
  rintro q s2 ⟨bs,m1,m2,m3,m4⟩
  have hbb:b∉bs:=fun h=>by have:=m2 b h;simp [dN,hne.symm] at this
  have nB:b2∉bs:=fun h=>by have:=m2 b2 h;simp [dN] at this
  have e1:=m4 b hbb
  have e2:=m4 b2 nB
  simp only[dN,hne,hne.symm,dP,cJ] at e1 e2
  have hqc:q.cells= [q]:=by have:=(aQ.shape m3).1;cases q<;>first | rfl | simp [AV.isAgg] at this
  have hqs:q.storable=true:=by
   have:=m3
   simp only[aQ] at this
   rcases this with ⟨_,rfl,_⟩ | ⟨_,_,_,_,rfl,_⟩<;>rfl
  simp -implicitDefEqProofs only[dN,hne,e1,e2,hqc,hqs,aS,aB,seval,aH8]
  refine⟨[b,b2],bs,m1,fun x hx=>?_,?_,?_,?_⟩
  · have:=m2 x hx
    have h1:x≠b:=fun e=>hbb (e▸hx)
    have h2:x≠b2:=fun e=>nB (e▸hx)
    simpa [dN,h1,h2] using this
  · simp [aPY,hn2,hbb,nB]
  · rw[←aX]
    refine AZ.2 ⟨q,rfl,aQ.aU _ _ _ (fun x hx=>?_) m3⟩
    have h1:x≠b:=fun e=>hbb (e▸hx)
    have h2:x≠b2:=fun e=>nB (e▸hx)
    simp only[dN,h1,h2,cJ]
  · intro x hx hd
    simp only[cO,dD,dI,jL] at hd
    simp only[dN,hd.1,hd.2,cJ]
    rw[m4 x hx]
    simp only[dN,hd.1,hd.2,cJ]
termination_by t=>SizeOf.sizeOf t
decreasing_by have:=List.sizeOf_lt_of_mem hx;simp only[Tm.mk.sizeOf_spec];omega
abbrev xT:=zi tI_3 (zi zI_3 (zi aY (zi tI_9 (zi zI_9 (zi d4 (zi tI_28 (zi zI_28 (zi aP (zi bE (zi bF (zi b9 (zi tI_52 (zi zI_52 (zi bU (zi bV (zi bX (zi bY bT)))))))))))))))))
theorem FU:∀(t:Tm) (st:aA),t.small=true→aD prog 112 [t.av] st (fun r st'=>r=t.av∧st'=st)
 | .mk k n s ts,st,hsm=>by
  obtain⟨hlen,pG⟩:=Tm.oO hsm
  have IH:=fun(x:Tm) (hx:x∈ts) st=>FU x st (pG x hx)
  refine aD.rQ (aD.fin ?_)
  simp only[aX]
  refine wF [] 1 func112 ntmps112 rfl rfl ?_
  simp only[dK,AV.fits,dO,aE]
  intro ⟨_,_,_,hl,_⟩
  simp -implicitDefEqProofs only[aB,seval,xT]
  intro b2 hb2 c hc
  have hne:c≠b2:=by rintro rfl;rw[aA.aL] at hc;cases hc
  have hn2:st c=none:=by rw[aA.aF st _ hne] at hc;exact hc
  simp -implicitDefEqProofs only[aS,aB,seval]
  refine dQ (σ:=Nat) [] [1,2,3] ts (fun i b=>(((ts.take i).map (fun y=>y)).map Tm.av≠[]→(aA.aC (st.aC b2 (.cells [AV.int .i64 0,AV.int .i64 0,AV.str ⟨#[]⟩,AV.fslice []])) c (.cells ([AV.int .i64 k,AV.int .i64 n,AV.str s]++ [bR 4 b (((ts.take i).map (fun y=>y)).map Tm.av)]))) b=none)) (fun i b=>[(4,.int .i64 i)]) (fun i b=>jK (st.aC b2 (.cells [AV.int .i64 0,AV.int .i64 0,AV.str ⟨#[]⟩,AV.fslice []])) c b [AV.int .i64 k,AV.int .i64 n,AV.str s] (((ts.take i).map (fun y=>y)).map Tm.av)) (by decide +kernel)
   ⟨0,fun h=>absurd rfl h,aR.mk (by simp -implicitDefEqProofs only[aB,↓aW,seval])⟩ (fun i x b hx hlt bD hdr hinv=>?_) (fun b hge hinv=>?_)
  case refine_1=>
   have hw:=bJ (n:=(i:Int)+1)
   have dC:(((ts.take i).map (fun y=>y)).map Tm.av).length=i:=by simp only[aE,dX];omega
   have htk:(ts.take (i+1)).map (fun y=>y)=(ts.take i).map (fun y=>y)++ [(fun y=>y) x]:=by rw[fP,hx];simp
   have hbo:=kA hinv
   simp -implicitDefEqProofs only[aE,bD,aB,seval,xT]
   refine wP [(0,1),(2,1),(4,1),(1,2),(3,2),(5,1),(6,2),(7,2),(8,1),(9,0),(10,1),(11,0)] [0,2,4,1,3,5,6,7,8,10] mixed ?_
   simp -implicitDefEqProofs only[bG (av:=Tm.av) aP hx (aO x),b7,aO,hbo,qD,gI,aB,seval,xT]
   refine jB (IH x (cI hx) _) ?_
   simp -implicitDefEqProofs only[b7,aO,Tm.eG,gI,aB,seval,xT]
   refine gJ aP bE bF rfl rfl (gS (aO _) (Tm.dY _)) (gV _) hinv (by simp only[dC,bA,bQ];omega) (by simp only[dC,bA,bQ];omega) (fun b' hb'=>?_)
   rw[show(((ts.take i).map (fun y=>y)).map Tm.av)++ [((fun y=>y) x).av]=((ts.take (i+1)).map (fun y=>y)).map Tm.av by rw[htk];simp] at hb' ⊢
   obtain⟨g1,g2,g3⟩:=tS hb'
   simp only[gB,eR] at g1 g3
   simp -implicitDefEqProofs only[g3,oZ,iX,aS,g1,hw,aB,seval,xT]
   exact⟨b',g2,aR.mk (by simp -implicitDefEqProofs only[aB,seval])⟩
  have hbo:=kA hinv
  rw[eD] at hinv hbo ⊢
  simp -implicitDefEqProofs only[aE,hge,aB,seval,xT]
  simp -implicitDefEqProofs only[hbo,aB,seval,xT]
  have oF:b2≠c:=c9 hne
  have hS:(st.aC b2 (.cells [AV.int .i64 0,AV.int .i64 0,AV.str ⟨#[]⟩,AV.fslice []])) b2≠none:=by rw[aA.aL];simp
  have h1:=l7 hinv hS oF
  rw[aA.aL] at h1
  simp -implicitDefEqProofs only[h1,iX,aS,aB,seval]
  obtain⟨h2,h3⟩:=r9 (o:=.cells [AV.int .i64 k,AV.int .i64 n,AV.str s,bR 4 b ((ts.map fun y=>y).map Tm.av)]) hinv hS oF
  refine⟨b,_,_,h2,h3,pT _,⟨4,gV _⟩,?_,?_⟩
  · simp only[gR,bK,bL,fR,m8,mH,List.map_id']
  · exact(((aM.refl _).aC hb2).aC hn2).aC hb2
termination_by t=>SizeOf.sizeOf t
decreasing_by have:=List.sizeOf_lt_of_mem hx;simp only[Tm.mk.sizeOf_spec];omega
end Go.AW
namespace Go.AW
def Tm.k:Tm→Int | .mk k _ _ _=>k
def Tm.n:Tm→Int | .mk _ n _ _=>n
def Tm.s:Tm→ByteArray | .mk _ _ s _=>s
def Tm.ts:Tm→List Tm | .mk _ _ _ ts=>ts
theorem Tm.eta(t:Tm):t=.mk t.k t.n t.s t.ts:=by cases t;rfl
def vr(n:Int):Tm:=.mk 1 n ⟨#[]⟩ []
mutual
def Tm.aH(f:Int→Tm):Tm→Tm
 | .mk k n s ts=>if k=1 then f n else .mk k n s (I3 f ts)
def I3(f:Int→Tm):List Tm→List Tm
 | []=>[]
 | t::ts=>t.aH f::I3 f ts
end
theorem aID(f:Int→Tm):∀ts:List Tm,I3 f ts=ts.map (Tm.aH f)
 | []=>rfl
 | t::ts=>by simp only[I3,bK,aID f ts]
theorem Tm.lH(f:Int→Tm){k n:Int}{s:ByteArray}{ts:List Tm}(h:k=1):(Tm.mk k n s ts).aH f=f n:=by simp only[Tm.aH,h,dP]
theorem Tm.kB(f:Int→Tm){k n:Int}{s:ByteArray}{ts:List Tm}(h:k≠1):(Tm.mk k n s ts).aH f=.mk k n s (ts.map (Tm.aH f)):=by simp only[Tm.aH,h,cJ,aID]
theorem tT(f:Int→Tm)(n:Int):(vr n).aH f=f n:=Tm.lH f rfl
mutual
def Tm.vl:Tm→List Int
 | .mk k n _ ts=>if k=1 then[n] else ER ts
def ER:List Tm→List Int
 | []=>[]
 | t::ts=>t.vl++ER ts
end
theorem aIM{v:Int}:∀ {ts:List Tm},v∈ER ts↔∃t∈ts,v∈t.vl
 | []=>by simp [ER]
 | t::ts=>by simp [ER,aIM (ts:=ts)]
theorem Tm.lP{k n:Int}{s:ByteArray}{ts:List Tm}(h:k=1):(Tm.mk k n s ts).vl= [n]:=by simp only[Tm.vl,h,dP]
theorem Tm.j0{k n v:Int}{s:ByteArray}{ts:List Tm}(h:k≠1):v∈(Tm.mk k n s ts).vl↔∃t∈ts,v∈t.vl:=by simp only[Tm.vl,h,cJ,aIM]
theorem v7(n:Int):(vr n).vl= [n]:=Tm.lP rfl
theorem Tm.ind{p:Tm→Prop}(h:∀k n s ts,(∀t∈ts,p t)→p (.mk k n s ts)):∀t,p t
 | .mk k n s ts=>h k n s ts fun t ht=>Tm.ind h t
termination_by t=>SizeOf.sizeOf t
decreasing_by have:=List.sizeOf_lt_of_mem ht;simp only[Tm.mk.sizeOf_spec];omega
theorem oL{f g:Int→Tm}:∀(t:Tm),(∀v∈t.vl,f v=g v)→t.aH f=t.aH g:=by
 intro t
 induction t using Tm.ind with
 | h k n s ts ih=>
  intro h
  by_cases hk:k=1
  · rw[Tm.lH f hk,Tm.lH g hk];exact h n (by rw[Tm.lP hk];simp)
  · rw[Tm.kB f hk,Tm.kB g hk]
    congr 1
    exact oW fun x hx=>ih x hx fun v hv=>h v ((Tm.j0 hk).2 ⟨x,hx,hv⟩)
theorem vO(f g:Int→Tm)(t:Tm):(t.aH f).aH g=t.aH fun v=>(f v).aH g:=by
 induction t using Tm.ind with
 | h k n s ts ih=>
  by_cases hk:k=1
  · rw[Tm.lH f hk,Tm.lH _ hk]
  · rw[Tm.kB f hk,Tm.kB g hk,Tm.kB _ hk,uL]
    congr 1
    exact oW fun x hx=>ih x hx
theorem v6{f:Int→Tm}{w:Int}(t:Tm):w∈(t.aH f).vl↔∃v∈t.vl,w∈(f v).vl:=by
 induction t using Tm.ind with
 | h k n s ts ih=>
  by_cases hk:k=1
  · rw[Tm.lH f hk,Tm.lP hk];simp
  · rw[Tm.kB f hk,Tm.j0 hk]
    constructor
    · rintro⟨x,hx,hw⟩
      obtain⟨y,hy,rfl⟩:=cE.1 hx
      obtain⟨v,hv,hvw⟩:=(ih y hy).1 hw
      exact⟨v,(Tm.j0 hk).2 ⟨y,hy,hv⟩,hvw⟩
    · rintro⟨v,hv,hw⟩
      obtain⟨y,hy,hvy⟩:=(Tm.j0 hk).1 hv
      exact⟨_,cE.2 ⟨y,hy,rfl⟩,(ih y hy).2 ⟨v,hvy,hw⟩⟩
theorem aS5{f:Int→Tm}{v:Int}:∀(t:Tm),v∈t.vl→(f v).nodes≤(t.aH f).nodes∧(t.k≠1→(f v).nodes<(t.aH f).nodes):=by
 intro t
 induction t using Tm.ind with
 | h k n s ts ih=>
  intro hv
  by_cases hk:k=1
  · rw[Tm.lP hk] at hv
    simp only[cO,dD,dI] at hv
    subst hv
    rw[Tm.lH f hk]
    exact⟨cT _,fun h=>absurd hk h⟩
  · obtain⟨x,hx,hvx⟩:=(Tm.j0 hk).1 hv
    have h1:=(ih x hx hvx).1
    have h2:=pN (f:=Tm.nodes) (cE.2 ⟨x,hx,rfl⟩:x.aH f∈ts.map (Tm.aH f))
    rw[Tm.kB f hk,Tm.jE]
    omega
abbrev Sub:=Int→Option Tm
def Sub.set(σ:Sub)(n:Int)(t:Tm):Sub:=fun m=>if m=n then some t else σ m
def Sub.none:Sub:=fun _=>Option.none
structure Good (σ:Sub) (R:Int→Tm) (rk:Int→Nat) (B:Nat):Prop where
 t8:∀n,R n=match σ n with | some u=>u.aH R | .none=>vr n
 D2:∀n u,σ n=some u→∀w∈u.vl,rk w<rk n
 bd:∀n,rk n<B
def oX(θ:Int→Tm)(σ:Sub):Prop:=∀n u,σ n=some u→θ n=u.aH θ
section
variable {σ:Sub} {R R':Int→Tm} {rk rk':Int→Nat} {B B':Nat}
theorem Good.none:Good Sub.none vr (fun _=>0) 1:=⟨fun n=>rfl,fun n u h=>(by cases h),fun n=>Nat.zero_lt_one⟩
theorem Good.free(G:Good σ R rk B){n:Int}(h:σ n=.none):R n=vr n:=by rw[G.t8 n,h]
theorem Good.bound(G:Good σ R rk B){n:Int}{u:Tm}(h:σ n=some u):R n=u.aH R:=by rw[G.t8 n,h]
theorem Good.tR(G:Good σ R rk B):oX R σ:=fun n u h=>G.bound h
theorem Good.ind(G:Good σ R rk B){p:Int→Prop}(h0:∀n,σ n=.none→p n)(h1:∀n u,σ n=some u→(∀w∈u.vl,p w)→p n):∀n,p n:=by
 intro n
 generalize hk:rk n=k
 induction k using Nat.strongRecOn generalizing n with
 | _ k ih=>
  cases h:σ n with
  | none=>exact h0 n h
  | some u=>exact h1 n u h fun w hw=>ih (rk w) (hk▸G.D2 n u h w hw) w rfl
theorem Good.uniq(G:Good σ R rk B)(G':Good σ R' rk' B'):R=R':=by
 funext n
 refine G.ind (p:=fun n=>R n=R' n) (fun n h=>?_) (fun n u h ih=>?_) n
 · rw[G.free h,G'.free h]
 · rw[G.bound h,G'.bound h];exact oL u ih
theorem Good.aO7(G:Good σ R rk B){θ:Int→Tm}(S:oX θ σ)(n:Int):(R n).aH θ=θ n:=by
 refine G.ind (p:=fun n=>(R n).aH θ=θ n) (fun n h=>?_) (fun n u h ih=>?_) n
 · rw[G.free h,tT]
 · rw[G.bound h,vO,S n u h];exact oL u ih
theorem Good.LK(G:Good σ R rk B){θ:Int→Tm}(S:oX θ σ)(t:Tm):(t.aH R).aH θ=t.aH θ:=by
 rw[vO];exact oL t fun v _=>G.aO7 S v
theorem Good.canon(G:Good σ R rk B)(n:Int):(R n).aH vr=R n:=by
 refine G.ind (p:=fun n=>(R n).aH vr=R n) (fun n h=>?_) (fun n u h ih=>?_) n
 · rw[G.free h,tT]
 · rw[G.bound h,vO];exact oL u ih
theorem Good.aNN(G:Good σ R rk B)(t:Tm):(t.aH R).aH vr=t.aH R:=by
 rw[vO];exact oL t fun v _=>G.canon v
theorem Good.bind(G:Good σ R rk B){n:Int}{t:Tm}(hn:σ n=.none)(ho:n∉(t.aH R).vl) :
 ∃rk' B',Good (σ.set n t) (fun m=>(R m).aH fun v=>if v=n then t.aH R else vr v) rk' B':=by
 have key:(t.aH R).aH (fun v=>if v=n then t.aH R else vr v)=t.aH R:=by
  rw[oL (g:=vr) (t.aH R) (fun v hv=>aG fun e=>ho (by rw[←e];exact hv)),G.aNN]
 refine⟨fun v=>if n∈(R v).vl then rk v+B else rk v,B+B,fun m=>?_,fun m u h w hw=>?_,fun m=>?_⟩
 · by_cases hm:m=n
   · subst hm
     simp only[Sub.set,dP]
     rw[G.free hn,tT,aK rfl]
     rw[←vO,key]
   · simp only[Sub.set,hm,cJ]
     cases h:σ m with
     | none=>rw[G.free h,tT,aG hm]
     | some u=>rw[G.bound h,vO]
 · by_cases hm:m=n
   · subst hm
     simp only[Sub.set,dP,Option.some.injEq] at h
     subst h
     have hw':m∉(R w).vl:=fun h=>ho ((v6 t).2 ⟨w,hw,h⟩)
     have:m∈(R m).vl:=by rw[G.free hn,v7];simp
     have:=G.bd w
     simp only[hw',cJ]
     rw[aK (by assumption)]
     omega
   · simp only[Sub.set,hm,cJ] at h
     have h1:=G.D2 m u h w hw
     by_cases hw':n∈(R w).vl
     · have:n∈(R m).vl:=by rw[G.bound h];exact(v6 u).2 ⟨w,hw,hw'⟩
       simp only[hw',this,dP];omega
     · simp only[hw',cJ];split<;>omega
 · have:=G.bd m
   split<;>omega
end
open Classical in
noncomputable def rs(σ:Sub):Int→Tm:=if h:∃R rk B,Good σ R rk B then h.choose else vr
theorem Good.rs{σ:Sub}{R:Int→Tm}{rk:Int→Nat}{B:Nat}(G:Good σ R rk B):rs σ=R:=by
 unfold AW.rs
 have h:∃R rk B,Good σ R rk B:=⟨R,rk,B,G⟩
 rw[dif_pos h]
 obtain⟨rk',B',G'⟩:=h.choose_spec
 exact G'.uniq G
inductive eU (σ:Sub):Nat→Tm→Tm→Prop
 | stop {t:Tm} (h:t.k=1→σ t.n=none):eU σ 0 t t
 | go {f:Nat} {t u v:Tm} (h1:t.k=1) (h2:σ t.n=some u) (h3:eU σ f u v):eU σ (f+1) t v
theorem eU.det{σ:Sub}{f g:Nat}{t u v:Tm}(h:eU σ f t u):eU σ g t v→u=v:=by
 induction h generalizing g v with
 | stop h=>
  intro h'
  cases h' with
  | stop=>rfl
  | go h1 h2 h3=>rw[h h1] at h2;cases h2
 | go h1 h2 h3 ih=>
  intro h'
  cases h' with
  | stop h=>rw[h h1] at h2;cases h2
  | go h1' h2' h3'=>rw[h2] at h2';cases h2';exact ih h3'
theorem eU.total{σ:Sub}{R:Int→Tm}{rk:Int→Nat}{B:Nat}(G:Good σ R rk B)(t:Tm):∃f u,eU σ f t u:=by
 have key:∀n,∀t:Tm,t.k=1→t.n=n→∃f u,eU σ f t u:=by
  intro n
  refine G.ind (p:=fun n=>∀t:Tm,t.k=1→t.n=n→∃f u,eU σ f t u) (fun n h t hk hn=>?_) (fun n u h ih t hk hn=>?_) n
  · exact⟨0,t,.stop fun _=>by rw[hn,h]⟩
  · by_cases hu:u.k=1
    · have:u.n∈u.vl:=by rw[Tm.eta u,Tm.lP hu];simp [Tm.n]
      obtain⟨f,v,hv⟩:=ih u.n this u hu rfl
      exact⟨f+1,v,.go hk (by rw[hn,h]) hv⟩
    · exact⟨1,u,.go hk (by rw[hn,h]) (.stop fun h=>absurd h hu)⟩
 by_cases hk:t.k=1
 · exact key t.n t hk rfl
 · exact⟨0,t,.stop fun h=>absurd h hk⟩
theorem Tm.BF{t:Tm}(h:t.k=1):t.vl= [t.n]:=by cases t;exact Tm.lP h
theorem Tm.AJ{t:Tm}(f:Int→Tm)(h:t.k=1):t.aH f=f t.n:=by cases t;exact Tm.lH f h
theorem Tm.pI{t:Tm}(f:Int→Tm)(h:t.k≠1):t.aH f=.mk t.k t.n t.s (t.ts.map (Tm.aH f)):=by cases t;exact Tm.kB f h
theorem eU.end{σ:Sub}{f:Nat}{t u:Tm}(h:eU σ f t u):u.k=1→σ u.n=none:=by induction h with | stop h=>exact h | go _ _ _ ih=>exact ih
theorem eU.aH{σ:Sub}{θ:Int→Tm}(S:oX θ σ){f:Nat}{t u:Tm}(h:eU σ f t u):u.aH θ=t.aH θ:=by
 induction h with
 | stop=>rfl
 | go h1 h2 _ ih=>rw[ih,Tm.AJ θ h1,S _ _ h2]
theorem eU.D2{σ:Sub}{R:Int→Tm}{rk:Int→Nat}{B:Nat}(G:Good σ R rk B){f:Nat}{t u:Tm}(h:eU σ f t u):∀w∈u.vl,∃v∈t.vl,rk w≤rk v∧(f≠0→rk w<rk v):=by
 induction h with
 | stop h=>exact fun w hw=>⟨w,hw,cT _,fun h=>absurd rfl h⟩
 | @go f t u v h1 h2 _ ih=>
  intro w hw
  obtain⟨x,hx,hle,_⟩:=ih w hw
  have:=G.D2 _ _ h2 x hx
  exact⟨t.n,by rw[Tm.BF h1];simp,by omega,fun _=>by omega⟩
theorem eU.all{σ:Sub}{p:Tm→Prop}(hp:∀n u,σ n=some u→p u){f:Nat}{t u:Tm}(h:eU σ f t u)(ht:p t):p u:=by
 induction h with
 | stop=>exact ht
 | go _ h2 _ ih=>exact ih (hp _ _ h2)
open Classical in
noncomputable def wk(σ:Sub)(t:Tm):Tm:=if h:∃u f,eU σ f t u then h.choose else t
theorem eU.wk{σ:Sub}{f:Nat}{t u:Tm}(h:eU σ f t u):wk σ t=u:=by
 unfold AW.wk
 have h':∃u f,eU σ f t u:=⟨u,f,h⟩
 rw[dif_pos h']
 obtain⟨g,hg⟩:=h'.choose_spec
 exact hg.det h
theorem Good.wk{σ:Sub}{R:Int→Tm}{rk:Int→Nat}{B:Nat}(G:Good σ R rk B)(t:Tm):∃f,eU σ f t (wk σ t):=by
 obtain⟨f,u,h⟩:=eU.total G t
 exact⟨f,by rw[h.wk];exact h⟩
open Classical in
noncomputable def iP(σ:Sub)(n:Int)(t:Tm):Bool×Sub×List Int:=if n∈(t.aH (rs σ)).vl then(false,σ,[]) else(true,σ.set n t,[n])
open Classical in
def rX(a b:Tm):Bool:=decide (a.k=b.k)&&decide (a.n=b.n)&&decide (a.s=b.s)&&decide (a.ts.length=b.ts.length)
mutual
noncomputable def cV:Nat→Sub→Tm→Tm→Option (Bool×Sub×List Int)
 | 0,_,_,_=>none
 | g+1,σ,a,b=>
  if(wk σ a).k=1∧(wk σ b).k=1∧(wk σ a).n=(wk σ b).n then some (true,σ,[])
  else if(wk σ a).k=1 then some (iP σ (wk σ a).n (wk σ b))
  else if(wk σ b).k=1 then some (iP σ (wk σ b).n (wk σ a))
  else if rX (wk σ a) (wk σ b)=true then dH g σ (wk σ a).ts (wk σ b).ts
  else some (false,σ,[])
termination_by g=>(g,0)
noncomputable def dH:Nat→Sub→List Tm→List Tm→Option (Bool×Sub×List Int)
 | g,σ,a::xs,b::ys=>match cV g σ a b with
  | none=>none
  | some (false,σ',tr)=>some (false,σ',tr)
  | some (true,σ',tr)=>match dH g σ' xs ys with
   | none=>none
   | some (r,σ'',tr')=>some (r,σ'',tr++tr')
 | _,σ,_,_=>some (true,σ,[])
termination_by g _ xs=>(g,xs.length+1)
end
theorem JH{g:Nat}{σ σ':Sub}{a b:Tm}{r:Bool}{add:List Int}(h:cV (g+1) σ a b=some (r,σ',add)) :
 ((wk σ a).k=1∧(wk σ b).k=1∧(wk σ a).n=(wk σ b).n∧true=r∧σ=σ'∧[]=add) ∨
 ((wk σ a).k=1∧¬((wk σ b).k=1∧(wk σ a).n=(wk σ b).n)∧iP σ (wk σ a).n (wk σ b)=(r,σ',add)) ∨
 ((wk σ a).k≠1∧(wk σ b).k=1∧iP σ (wk σ b).n (wk σ a)=(r,σ',add)) ∨
 ((wk σ a).k≠1∧(wk σ b).k≠1∧rX (wk σ a) (wk σ b)=true∧dH g σ (wk σ a).ts (wk σ b).ts=some (r,σ',add)) ∨
 ((wk σ a).k≠1∧(wk σ b).k≠1∧rX (wk σ a) (wk σ b)=false∧false=r∧σ=σ'∧[]=add):=by
 rw[cV] at h
 split at h
 · rename_i h1;exact .inl ⟨h1.1,h1.2.1,h1.2.2,by simpa using h⟩
 · rename_i h1
   split at h
   · rename_i h2;exact .inr (.inl ⟨h2,fun h3=>h1 ⟨h2,h3⟩,lV h⟩)
   · rename_i h2
     split at h
     · rename_i h3;exact .inr (.inr (.inl ⟨h2,h3,lV h⟩))
     · rename_i h3
       split at h
       · rename_i h4;exact .inr (.inr (.inr (.inl ⟨h2,h3,h4,h⟩)))
       · rename_i h4;exact .inr (.inr (.inr (.inr ⟨h2,h3,by simpa using h4,by simpa using h⟩)))
theorem Tm.soft(t:Tm):t.av.soft=t.av:=by cases t;simp [aX,AV.soft,mO]
theorem Tm.wW(t:Tm)(b:Nat):t.av.fin b []=t.av:=Tm.soft t
abbrev Bd:=Int×Tm
def aDT:List Bd→Int→Option Tm
 | [],_=>none
 | (m,x)::r,n=>if m=n then some x else aDT r n
def N2(bs:List Bd)(n:Int):Tm:=(aDT bs n).getD (vr n)
def Tm.zero:Tm:=.mk 0 0 ⟨#[]⟩ []
mutual
def Tm.cv:Tm→Bool
 | .mk k _ s ts=>(!decide (k=1)||(decide (s=⟨#[]⟩)&&ts.isEmpty))&&I0 ts
def I0:List Tm→Bool
 | []=>true
 | t::ts=>t.cv&&I0 ts
end
theorem aIA:∀(ts:List Tm),I0 ts=ts.all Tm.cv
 | []=>rfl
 | t::ts=>by simp only[I0,iW,aIA ts]
theorem Tm.n8{k n:Int}{s:ByteArray}{ts:List Tm}:(Tm.mk k n s ts).cv=true↔(k=1→s=⟨#[]⟩∧ts= [])∧∀x∈ts,x.cv=true:=by
 simp only[Tm.cv,aIA,cL,oU,gN,cM,List.isEmpty_iff,eE,bM]
 constructor
 · exact fun h=>⟨fun hk=>h.1.resolve_left (fun hn=>hn hk),h.2⟩
 · intro h
   refine⟨?_,h.2⟩
   by_cases hk:k=1
   · exact .inr (h.1 hk)
   · exact .inl hk
theorem Tm.rO:∀(t:Tm),t.cv=true→t.wf=true:=by
 intro t
 induction t using Tm.ind with
 | h k n s ts ih=>
  intro h
  obtain⟨h1,h2⟩:=Tm.n8.1 h
  simp only[Tm.wf,OW,cL,oU,gN,cM,List.isEmpty_iff,eE]
  refine⟨?_,fun x hx=>ih x hx (h2 x hx)⟩
  by_cases hk:k=1
  · exact .inr (h1 hk).2
  · exact .inl hk
theorem Tm.aUG:∀(t:Tm) (d:Int),t.shape d=true→t.small=true:=by
 intro t
 induction t using Tm.ind with
 | h k n s ts ih=>
  intro d h
  rw[Tm.EA] at h
  simp only[cL,eE] at h
  obtain⟨⟨_,h1⟩,h2⟩:=h
  simp only[Tm.small,EQ,cL,bM,eE]
  refine⟨?_,fun x hx=>ih x hx _ (h2 x hx)⟩
  unfold d9 at h1
  cases h3:decide (k=1)<;>rw[h3] at h1
  · cases h4:decide (k=2)<;>rw[h4] at h1
    · cases h5:decide (k=3)<;>rw[h5] at h1<;>simp at h1;omega
    · simp at h1;rw[h1.2];simp
  · simp at h1;rw[h1.2];simp
theorem Tm.JL{t:Tm}(h:t.valid=true):t.small=true:=by simp only[Tm.valid,cL] at h;exact Tm.aUG t 30 h.1
def qS{α:Type}(p:α→Bool):List α→Int→Int
 | [],_=> -1
 | x::xs,i=>if p x=true then i else qS p xs (i+1)
theorem aFC{α:Type}(p:α→Bool):∀(l:List α) (i:Int),0≤i→(qS p l i= -1∧l.any p=false)∨∃(j:Nat) (x:α),qS p l i=i+j∧l[j]?=some x∧p x=true∧l.any p=true∧∀(k:Nat) y,k<j→l[k]?=some y→p y=false
 | [],i,_=>.inl ⟨rfl,rfl⟩
 | x::xs,i,h=>by
  by_cases hp:p x=true
  · exact .inr ⟨0,x,by simp [qS,hp],rfl,hp,by simp [hp],fun k y hk=>absurd hk (Nat.not_lt_zero k)⟩
  · rcases aFC p xs (i+1) (by omega) with ⟨h1,h2⟩ | ⟨j,y,h1,h2,h3,h4,h5⟩
    · exact .inl ⟨by simp [qS,hp,h1],by simp [hp,h2]⟩
    · refine .inr ⟨j+1,y,by simp only[qS,hp,h1];simp;omega,by simpa using h2,h3,by simp [h4],fun k z hk hz=>?_⟩
      cases k with
      | zero=>simp at hz;subst hz;simpa using hp
      | succ k=>exact h5 k z (by omega) (by simpa using hz)
theorem aR0{α:Type}(p:α→Bool)(l:List α):decide (0≤qS p l 0)=l.any p:=by
 rcases aFC p l 0 (Int.le_refl 0) with ⟨h1,h2⟩ | ⟨j,y,h1,_,_,h4,_⟩
 · rw[h1,h2];try rfl
 · rw[h1,h4];simp
end Go.AW
namespace Go.AW
open Go.Proofs.Tryz
abbrev aVJ:=zi tI_3 (zi zI_3 (zi aY (zi tI_4 (zi zI_4 (zi cG (zi tI_9 (zi zI_9 (zi d4 (zi tI_28 (zi zI_28 (zi aP (zi bE (zi bF (zi b9 (zi tI_52 (zi zI_52 (zi bU (zi bV (zi bX (zi bY bT))))))))))))))))))))
theorem aMC(k n:Int)(s:ByteArray)(ts:List Tm)(st:aA):aD prog 240 [(Tm.mk k n s ts).av] st (fun r st'=>r=.bool (d9 k n s ts.length)∧st'=st):=by
 refine wF [] 1 func240 ntmps240 rfl rfl ?_
 intro _
 simp only[aX]
 have hl:(ts.map Tm.av).length=ts.length:=aE _
 repeat' (first
  | (simp -implicitDefEqProofs only[*,aB,seval,aVJ])
  | (refine cS (fun h=>?_) (fun h=>?_))
  | (refine(aM9 s st).to ?_)
  | (refine aT (fun h=>?_) (fun h=>?_)))
 all_goals simp only[d9, *,cond_true,cond_false,kU,iC,kT,wA,wB]
abbrev IJ:=zi tI_3 (zi zI_3 (zi aY (zi tI_4 (zi zI_4 (zi cG (zi tI_28 (zi zI_28 (zi aP (zi bE (zi bF (zi b9 (zi tI_52 (zi zI_52 (zi bU (zi bV (zi bX (zi bY bT)))))))))))))))))
theorem RK:∀(t:Tm) (d:Int) (st:aA),d≤30→-1≤d→aD prog 195 [t.av,.int .i64 d] st (fun r st'=>r=.bool (t.shape d)∧st'=st)
 | .mk k n s ts,d,st,hd,hd0=>by
  have hc:=fun(x:Tm) (hx:x∈ts) d st h h0=>RK x d st h h0
  have h1:=aMC k n s ts st
  rw[aX] at h1
  refine wF [] 2 func195 ntmps195 rfl rfl ?_
  simp only[aX,dK,AV.fits,dO,aE,Tm.EA]
  intro ⟨_,_,_,hl,_⟩
  generalize d9 k n s ts.length=z at *
  simp -implicitDefEqProofs only[aB,seval,IJ]
  refine cS (fun h=>?_) (fun h=>?_)
  case refine_2=>
   simp -implicitDefEqProofs only[h,aB,seval]
   simp only[sQ,bM] at h
   simp;omega
  simp -implicitDefEqProofs only[h,aB,seval,IJ]
  refine h1.to ?_
  simp -implicitDefEqProofs only[aB,seval]
  refine⟨fun h2=>?_,fun h2=>?_⟩
  · simp -implicitDefEqProofs only[aB,seval]
    simp only[gN] at h2
    simp [h2]
  simp only[j3,cM] at h2 h
  subst h2
  have hw:=bJ (n:=d - 1)
  rw[show decide (1≤d)=true by simp;omega]
  simp -implicitDefEqProofs only[aB,seval]
  refine nQ (α:=Nat) [] (fun i=>i≤ts.length∧∀(j:Nat) x,j<i→ts[j]?=some x→x.shape (d - 1)=true)
   (fun i=>[(1,.int .i64 d),(2,.pptr (.agg [.int .i64 k,.int .i64 n,.str s,.slice (ts.map Tm.av)])),(5,.int .i64 i)]) (fun _=>st) (fun i=>ts.length - i) (by decide +kernel)
   ⟨0,⟨by omega,by intro j x h;omega⟩,aR.mk (by simp -implicitDefEqProofs only[aB,↓aW,seval])⟩ ?_
  intro i ⟨hi,c7⟩
  simp -implicitDefEqProofs only[aE,aB,seval,IJ]
  refine⟨fun h5=>?_,fun h5=>?_⟩
  case refine_2=>
   simp -implicitDefEqProofs only[aB,seval]
   simp only[cM,gP] at h5
   rw[FK fun j x hx=>c7 j x (by have:=(eS.1 hx).1;omega) hx]
  simp only[bM,gP] at h5
  obtain⟨x,hx⟩:∃x,ts[i]?=some x:=⟨_,e7 h5⟩
  simp -implicitDefEqProofs only[bG (av:=Tm.av) aP hx (aO x),b7,aO,hw,aB,seval,IJ]
  refine(hc x (cI hx) (d - 1) st (by omega) (by omega)).to ?_
  simp -implicitDefEqProofs only[aB,seval]
  refine⟨fun h6=>?_,fun h6=>?_⟩
  · simp -implicitDefEqProofs only[aB,seval]
    simp only[gN] at h6
    rw[sZ hx h6]
  simp only[j3] at h6
  simp -implicitDefEqProofs only[aB,seval]
  refine⟨i+1,by omega,⟨by omega,fun j u hj hu=>?_⟩,aR.mk ?_⟩
  · rcases j6 j i with h8 | h8
    · exact c7 j u h8 hu
    · obtain rfl:j=i:=by omega
      rw[hx] at hu;cases hu;exact h6
  · have:=bJ (n:=(i:Int)+1)
    simp -implicitDefEqProofs only[this,aB,seval]
termination_by t=>SizeOf.sizeOf t
decreasing_by have:=List.sizeOf_lt_of_mem hx;simp only[Tm.mk.sizeOf_spec];omega
abbrev OI:=zi tI_3 (zi zI_3 (zi aY (zi tI_28 (zi zI_28 (zi aP (zi bE (zi bF (zi b9 (zi tI_52 (zi zI_52 (zi bU (zi bV (zi bX (zi bY bT))))))))))))))
theorem RH:∀(t:Tm) (m:Int) (st:aA),0≤m→m≤120→aD prog 196 [t.av,.int .i64 m] st (fun r st'=>r=.int .i64 (min (t.nodes:Int) (m+1))∧st'=st)
 | .mk k n s ts,m,st,hm0,hm=>by
  have hc:=fun(x:Tm) (hx:x∈ts) m st h h0=>RH x m st h h0
  refine wF [] 2 func196 ntmps196 rfl rfl ?_
  simp only[aX,dK,AV.fits,dO,aE,Tm.jE]
  intro ⟨_,_,_,hl,_⟩
  simp -implicitDefEqProofs only[aB,seval,OI]
  refine nQ (α:=Nat) [] (fun i=>i≤ts.length)
   (fun i=>[(1,.int .i64 m),(2,.pptr (.agg [.int .i64 k,.int .i64 n,.str s,.slice (ts.map Tm.av)])),(5,.int .i64 (min ((1+aJ Tm.nodes (ts.take i):Nat):Int) (m+1))),(6,.int .i64 i)]) (fun _=>st) (fun i=>ts.length - i) (by decide +kernel)
   ⟨0,by omega,aR.mk (by simp -implicitDefEqProofs only[j5,aJ,show min ((0:Int)+1) (m+1)=1 by omega,tF,↓E5,↓reduceIte,reduceCtorEq,Nat.reduceEqDiff,Nat.reduceAdd])⟩ ?_
  intro i hi
  simp -implicitDefEqProofs only[aE,aB,seval,OI]
  have MA:¬i<ts.length→aJ Tm.nodes (ts.take i)=aJ Tm.nodes ts:=fun h=>by rw[mU (by omega)]
  refine cS (fun h5=>?_) (fun h5=>?_)
  case refine_2=>
   simp -implicitDefEqProofs only[h5,aB,seval]
   simp only[kU,cM,gP] at h5
   rw[MA h5]
  simp -implicitDefEqProofs only[h5,aB,seval]
  simp only[bM,gP] at h5
  obtain⟨x,hx⟩:∃x,ts[i]?=some x:=⟨_,e7 h5⟩
  have hs:=sI Tm.nodes hx
  refine⟨fun h6=>?_,fun h6=>?_⟩
  case refine_2=>
   simp -implicitDefEqProofs only[aB,seval]
   simp only[cM] at h6
   simp only[AV.int.injEq,true_and]
   omega
  simp only[bM] at h6
  have e6:min (((1+aJ Tm.nodes (ts.take i):Nat):Int)) (m+1)=((1+aJ Tm.nodes (ts.take i):Nat):Int):=by omega
  rw[e6] at h6 ⊢
  have hw:=bJ (n:=m - ((1+aJ Tm.nodes (ts.take i):Nat):Int))
  simp -implicitDefEqProofs only[bG (av:=Tm.av) aP hx (aO x),b7,aO,hw,aB,seval,OI]
  refine(hc x (cI hx) _ st (by omega) (by omega)).to ?_
  have hw2:=bJ (n:=((1+aJ Tm.nodes (ts.take i):Nat):Int)+min (x.nodes:Int) (m - ((1+aJ Tm.nodes (ts.take i):Nat):Int)+1))
  simp -implicitDefEqProofs only[hw2,aB,seval]
  refine⟨i+1,by omega,by omega,aR.mk ?_⟩
  have:=bJ (n:=(i:Int)+1)
  simp -implicitDefEqProofs only[this,show((1+aJ Tm.nodes (ts.take i):Nat):Int)+min (x.nodes:Int) (m - ((1+aJ Tm.nodes (ts.take i):Nat):Int)+1)=min ((1+aJ Tm.nodes (ts.take (i+1)):Nat):Int) (m+1) by omega,aB,seval]
termination_by t=>SizeOf.sizeOf t
decreasing_by have:=List.sizeOf_lt_of_mem hx;simp only[Tm.mk.sizeOf_spec];omega
abbrev aHN:=zi tI_3 (zi zI_3 (zi aY (zi tI_4 (zi zI_4 (zi cG (zi tI_30 (zi zI_30 (zi lA (zi lB (zi lC (zi lD (zi lE (zi lF (zi k8 (zi tI_52 (zi zI_52 (zi bU (zi bV (zi bX (zi bY (zi bT (zi tI_120 (zi zI_120 (zi zS (zi zT y8)))))))))))))))))))))))))
theorem K1(t:Tm)(st:aA):aD prog 154 [t.av] st (fun r st'=>r=.bool t.valid∧st'=st):=by
 refine wF [] 1 func154 ntmps154 rfl rfl ?_
 intro _
 simp -implicitDefEqProofs only[Tm.eG,b7,aO,aB,seval,aHN]
 refine(RK t 30 st (by omega) (by omega)).to ?_
 simp -implicitDefEqProofs only[aB,seval]
 refine cS (fun h=>?_) (fun h=>?_)
 · simp -implicitDefEqProofs only[h,b7,aO,aB,seval,aHN]
   refine(RH t 120 st (by omega) (by omega)).to ?_
   simp -implicitDefEqProofs only[aB,seval]
   simp only[Tm.valid,h,iC,AV.bool.injEq,decide_eq_decide]
   omega
 · simp -implicitDefEqProofs only[h,aB,seval]
   simp at h
   simp [Tm.valid,h]
abbrev aVH:=zi tI_3 (zi zI_3 (zi aY (zi tI_4 (zi zI_4 (zi cG (zi tI_9 (zi zI_9 (zi d4 (zi tI_28 (zi zI_28 (zi aP (zi bE (zi bF (zi b9 (zi tI_52 (zi zI_52 (zi bU (zi bV (zi bX (zi bY bT))))))))))))))))))))
theorem RN(k n:Int)(s:ByteArray)(ts:List Tm)(st:aA):aD prog 163 [(Tm.mk k n s ts).av] st (fun r st'=>r=.bool (decide (k=3)&&decide (s=⟨#[33]⟩)&&decide ((ts.length:Int)=0))∧st'=st):=by
 refine wF [] 1 func163 ntmps163 rfl rfl ?_
 intro _
 simp only[aX]
 repeat' (first
  | (simp -implicitDefEqProofs only[*,aB,seval,aVH])
  | (refine cS (fun h=>?_) (fun h=>?_))
  | (refine aT (fun h=>?_) (fun h=>?_)))
 all_goals simp only[*,aE,kT]
abbrev aHL:=zi tI_4 (zi zI_4 (zi cG (zi tI_9 (zi zI_9 (zi d4 (zi tI_52 (zi zI_52 (zi bU (zi bV (zi bX (zi bY bT)))))))))))
theorem RA(k n:Int)(s:ByteArray)(ts:List Tm)(st:aA):aD prog 184 [(Tm.mk k n s ts).av] st (fun r st'=>r=.bool (decide (k=3)&&decide ((ts.length:Int)=0)&&decide (s=⟨#[33]⟩))∧st'=st):=by
 have h1:=CB k n s ts st
 rw[aX] at h1
 refine wF [] 1 func184 ntmps184 rfl rfl ?_
 intro _
 simp only[aX]
 simp -implicitDefEqProofs only[aB,seval,aHL]
 refine h1.to ?_
 clear h1
 repeat' (first
  | (simp -implicitDefEqProofs only[*,aB,seval,aHL])
  | (refine cS (fun h=>?_) (fun h=>?_))
  | (refine aT (fun h=>?_) (fun h=>?_)))
 all_goals simp_all
abbrev aHM:=zi tI_3 (zi zI_3 (zi aY (zi tI_4 (zi zI_4 (zi cG (zi tI_9 (zi zI_9 (zi d4 (zi tI_28 (zi zI_28 (zi aP (zi bE (zi bF (zi b9 (zi tI_52 (zi zI_52 (zi bU (zi bV (zi bX (zi bY bT))))))))))))))))))))
theorem KT(k n:Int)(s:ByteArray)(ts:List Tm)(st:aA):aD prog 185 [(Tm.mk k n s ts).av] st (fun r st'=>r=.bool (decide (k=3)&&isBuiltin s (ts.length:Int))∧st'=st):=by
 have h1:=aLZ s ts.length st
 refine wF [] 1 func185 ntmps185 rfl rfl ?_
 intro _
 simp only[aX]
 simp -implicitDefEqProofs only[aB,seval,aHM]
 refine cS (fun h=>?_) (fun h=>?_)
 · simp -implicitDefEqProofs only[h,aE,aB,seval,aHM]
   refine h1.to ?_
   clear h1
   simp -implicitDefEqProofs only[aB,seval]
 · simp -implicitDefEqProofs only[h,aB,seval]
   simp at h
   simp []
def oN(k:Int)(s:ByteArray)(len:Int):Bool:=decide (k=3)&&sB s&& !isBuiltin s len&&decide ((jW s:Int)=0)
abbrev aVI:=zi tI_3 (zi zI_3 (zi aY (zi tI_4 (zi zI_4 (zi cG (zi tI_9 (zi zI_9 (zi d4 (zi tI_52 (zi zI_52 (zi bU (zi bV (zi bX (zi bY bT))))))))))))))
theorem RD(k n:Int)(s:ByteArray)(ts:List Tm)(st:aA):aD prog 171 [(Tm.mk k n s ts).av] st (fun r st'=>r=.bool (oN k s (ts.length:Int))∧st'=st):=by
 have h1:=KT k n s ts st
 rw[aX] at h1
 have e:decide ((0:Int)<(jW s:Int))= !decide ((jW s:Int)=0):=by
  by_cases h:jW s=0
  · simp [h]
  · simp [h];omega
 have e3:∀b:Bool,k=3→(decide (k=3)&&b)=b:=fun b h=>by simp [h]
 refine wF [] 1 func171 ntmps171 rfl rfl ?_
 intro _
 simp only[aX]
 repeat' (first
  | (simp -implicitDefEqProofs only[*,aB,seval,aVI])
  | (refine cS (fun h=>?_) (fun h=>?_))
  | (refine(RB s st).to ?_) | (refine(aL5 s st).to ?_) | (refine h1.to ?_)
  | (refine aT (fun h=>?_) (fun h=>?_)))
 all_goals (clear h1;simp_all [oN])
abbrev aVF:=zi tI_3 (zi zI_3 (zi aY (zi tI_4 (zi zI_4 (zi cG (zi tI_9 (zi zI_9 (zi d4 (zi tI_28 (zi zI_28 (zi aP (zi bE (zi bF (zi b9 (zi tI_52 (zi zI_52 (zi bU (zi bV (zi bX (zi bY bT))))))))))))))))))))
theorem RP(k n:Int)(s:ByteArray)(ts:List Tm)(st:aA):aD prog 155 [(Tm.mk k n s ts).av] st (fun r st'=>r=.bool (oN k s (ts.length:Int))∧st'=st):=by
 refine wF [] 1 func155 ntmps155 rfl rfl ?_
 intro _
 simp only[aX]
 have hl:(ts.map Tm.av).length=ts.length:=aE _
 repeat' (first
  | (simp -implicitDefEqProofs only[*,aB,seval,aVF])
  | (refine cS (fun h=>?_) (fun h=>?_))
  | (refine(RL s st).to ?_) | (refine(K0 s _ st).to ?_) | (refine(RM s st).to ?_)
  | (refine aT (fun h=>?_) (fun h=>?_)))
 all_goals simp_all [oN]
def vL(k:Int)(s:ByteArray)(len:Int):Bool:=(decide (k=3)&&decide (s=⟨#[33]⟩)&&decide (len=0))||oN k s len||(decide (k=3)&&isBuiltin s len)
abbrev aVG:=zi tI_3 (zi zI_3 (zi aY (zi tI_4 (zi zI_4 (zi cG (zi tI_9 (zi zI_9 (zi d4 (zi tI_28 (zi zI_28 (zi aP (zi bE (zi bF (zi b9 (zi tI_52 (zi zI_52 (zi bU (zi bV (zi bX (zi bY bT))))))))))))))))))))
theorem aMI(k n:Int)(s:ByteArray)(ts:List Tm)(st:aA):aD prog 156 [(Tm.mk k n s ts).av] st (fun r st'=>r=.bool (vL k s (ts.length:Int))∧st'=st):=by
 have h1:=RN k n s ts st
 have h2:=RP k n s ts st
 rw[aX] at h1 h2
 refine wF [] 1 func156 ntmps156 rfl rfl ?_
 intro _
 simp only[aX]
 have hl:(ts.map Tm.av).length=ts.length:=aE _
 unfold vL
 generalize (decide (k=3)&&decide (s=⟨#[33]⟩)&&decide ((ts.length:Int)=0))=z1 at *
 generalize oN k s (ts.length:Int)=z2 at *
 repeat' (first
  | (simp -implicitDefEqProofs only[*,aB,seval,aVG])
  | (refine cS (fun h=>?_) (fun h=>?_))
  | (refine h1.to ?_) | (refine h2.to ?_) | (refine(K0 s _ st).to ?_)
  | (refine aT (fun h=>?_) (fun h=>?_)))
 all_goals (clear h1 h2;simp_all)
theorem aWB{st:aA}{b:Nat}{o:AO}(h:st b=some o):st.aC b o=st:=by
 funext x;simp only[aA.aC];split
 · rename_i e;rw[e,h]
 · rfl
def D9(ok:Bool)(c n:Int)(b:Nat)(st:aA)(r:AV)(st':aA):Prop:=
 ∃c',r=.bool (decide (c+n≤120)&&ok)∧st'=st.aC b (.cells [.int .i64 c'])∧((decide (c+n≤120)&&ok)=true→c'=c+n)
abbrev aVK:=zi tI_3 (zi zI_3 (zi aY (zi tI_4 (zi zI_4 (zi cG (zi tI_52 (zi zI_52 (zi bU (zi bV (zi bX (zi bY (zi bT (zi tI_240 zI_240)))))))))))))
theorem aM5(x:Tm)(d c:Int)(b:Nat)(st:aA)(hd: -1000≤d)(hd1:d≤1000)
 (h:aD prog 211 [x.av,.int .i64 (d+1),.ptr b 0] st (D9 (x.shape (30 - d)) c x.nodes b st)) :
 aD prog 246 [x.av,.pptr (.int .i64 d),.pptr (.ptr b 0)] st (fun r st'=>∃c',r=.bool (!(decide (c+x.nodes≤120)&&x.shape (30 - d)))∧st'=st.aC b (.cells [.int .i64 c'])∧((decide (c+(x.nodes:Int)≤120)&&x.shape (30 - d))=true→c'=c+x.nodes)):=by
 have hw:=bJ (n:=d+1)
 refine wF [] 3 func246 ntmps246 rfl rfl ?_
 intro _
 simp -implicitDefEqProofs only[hw,Tm.eG,b7,aO,aB,seval,aVK]
 refine h.mono ?_
 rintro _ _ ⟨c',rfl,rfl,hc⟩
 simp -implicitDefEqProofs only[aB,seval]
 refine⟨c',?_⟩
 first | exact hc | exact⟨rfl,rfl,hc⟩ | exact⟨rfl,hc⟩ | trace_state
abbrev aHO:=zi tI_3 (zi zI_3 (zi aY (zi tI_28 (zi zI_28 (zi aP (zi bE (zi bF (zi b9 (zi tI_52 (zi zI_52 (zi bU (zi bV (zi bX (zi bY bT))))))))))))))
theorem aLA(l:List Tm)(d c:Int)(b:Nat)(st:aA)(hd: -1000≤d)(hd1:d≤1000)(hb:st b=some (.cells [.int .i64 c]))(hc0:0≤c)(hc1:c≤120)
 (h:∀x∈l,∀(c:Int) (st:aA),st b=some (.cells [.int .i64 c])→0≤c→c≤120→aD prog 211 [x.av,.int .i64 (d+1),.ptr b 0] st (D9 (x.shape (30 - d)) c x.nodes b st)) :
 aD prog 214 [.slice (l.map Tm.av),.func 246 [.pptr (.int .i64 d),.pptr (.ptr b 0)]] st
  (fun r st'=>∃j c',r=.int .i64 j∧decide (0≤j)=(!(decide (c+(aJ Tm.nodes l:Int)≤120)&&l.all fun t=>t.shape (30 - d)))∧st'=st.aC b (.cells [.int .i64 c'])∧(decide (0≤j)=false→c'=c+(aJ Tm.nodes l:Int))):=by
 refine wF [] 2 func214 ntmps214 rfl rfl ?_
 simp only[dK,AV.fits,dO,aE]
 intro ⟨hl,_⟩
 simp -implicitDefEqProofs only[aE,aB,seval,aHO]
 refine nQ (α:=Nat) [] (fun i=>i≤l.length∧c+(aJ Tm.nodes (l.take i):Int)≤120∧∀(j:Nat) x,j<i→l[j]?=some x→x.shape (30 - d)=true)
  (fun i=>[(0,.slice (l.map Tm.av)),(1,.func 246 [.pptr (.int .i64 d),.pptr (.ptr b 0)]),(7,.int .i64 l.length),(8,.int .i64 i)]) (fun i=>st.aC b (.cells [.int .i64 (c+(aJ Tm.nodes (l.take i):Int))])) (fun i=>l.length - i) (by decide +kernel)
  ⟨0,⟨by omega,by simp only[j5,aJ];omega,by intro j x h;omega⟩,by
   simp only[j5,aJ]
   rw[show c+((0:Nat):Int)=c by omega,aWB hb]
   exact aR.mk (by simp -implicitDefEqProofs only[aB,↓aW,seval])⟩ ?_
 intro i ⟨hi,vN,c7⟩
 simp -implicitDefEqProofs only[aB,seval]
 refine⟨fun h5=>?_,fun h5=>?_⟩
 case refine_2=>
  simp -implicitDefEqProofs only[aB,seval]
  simp only[cM,gP] at h5
  rw[mU (by omega)] at vN ⊢
  have ha:(l.all fun t=>t.shape (30 - d))=true:=FK fun j x hx=>c7 j x (by have:=(eS.1 hx).1;omega) hx
  exact⟨-1,_,rfl,by rw[ha];simp<;>omega,rfl,fun _=>rfl⟩
 simp only[bM,gP] at h5
 obtain⟨x,hx⟩:∃x,l[i]?=some x:=⟨_,e7 h5⟩
 have hs:=sI Tm.nodes hx
 simp -implicitDefEqProofs only[bG (av:=Tm.av) aP hx (aO x),b7,aO,aB,seval,aHO]
 refine(aM5 x d (c+(aJ Tm.nodes (l.take i):Int)) b _ hd hd1 (h x (cI hx) _ _ (aA.aL _ _ _) (by omega) vN)).mono ?_
 rintro _ _ ⟨c',rfl,rfl,hc'⟩
 simp -implicitDefEqProofs only[eH,aB,seval]
 refine⟨fun h6=>?_,fun h6=>?_⟩
 · simp -implicitDefEqProofs only[aB,seval]
   refine⟨i,c',rfl,?_,rfl,fun h7=>absurd h7 (by simp)⟩
   simp only[gN,Bool.and_eq_false_iff,cM] at h6
   rcases h6 with h6 | h6
   · rw[show decide (c+(aJ Tm.nodes l:Int)≤120)=false by simp;omega]
     simp
   · rw[sZ hx h6]
     simp
 simp only[j3] at h6
 rw[hc' h6]
 simp only[cL,bM] at h6
 simp -implicitDefEqProofs only[aB,seval]
 refine⟨i+1,by omega,⟨by omega,by omega,fun j u hj hu=>?_⟩,?_⟩
 · rcases j6 j i with h8 | h8
   · exact c7 j u h8 hu
   · obtain rfl:j=i:=by omega
     rw[hx] at hu;cases hu;exact h6.2
 · rw[show c+(aJ Tm.nodes (l.take i):Int)+(x.nodes:Int)=c+(aJ Tm.nodes (l.take (i+1)):Int) by omega]
   have:=bJ (n:=(i:Int)+1)
   exact aR.mk (by simp -implicitDefEqProofs only[this,aB,seval])
theorem aK3(l:List Tm)(d c:Int)(b:Nat)(st:aA)(hd: -1000≤d)(hd1:d≤1000)(hb:st b=some (.cells [.int .i64 c]))(hc0:0≤c)(hc1:c≤120)
 (h:∀x∈l,∀(c:Int) (st:aA),st b=some (.cells [.int .i64 c])→0≤c→c≤120→aD prog 211 [x.av,.int .i64 (d+1),.ptr b 0] st (D9 (x.shape (30 - d)) c x.nodes b st)) :
 aD prog 172 [.slice (l.map Tm.av),.func 246 [.pptr (.int .i64 d),.pptr (.ptr b 0)]] st
  (fun r st'=>∃c',r=.bool (!(decide (c+(aJ Tm.nodes l:Int)≤120)&&l.all fun t=>t.shape (30 - d)))∧st'=st.aC b (.cells [.int .i64 c'])∧((decide (c+(aJ Tm.nodes l:Int)≤120)&&l.all fun t=>t.shape (30 - d))=true→c'=c+(aJ Tm.nodes l:Int))):=by
 have h1:=aLA l d c b st hd hd1 hb hc0 hc1 h
 refine wF [] 2 func172 ntmps172 rfl rfl ?_
 intro _
 simp -implicitDefEqProofs only[aB,seval]
 refine h1.mono ?_
 rintro _ _ ⟨j,c',rfl,hj,rfl,hc⟩
 simp -implicitDefEqProofs only[aB,seval]
 refine⟨c',by rw[hj],rfl,fun h=>hc (by rw[hj,h];try rfl)⟩
abbrev vX:=zi tI_3 (zi zI_3 (zi aY (zi tI_4 (zi zI_4 (zi cG (zi tI_9 (zi zI_9 (zi d4 (zi tI_25 (zi zI_25 (zi GK (zi GM (zi GN (zi GO (zi GP (zi GQ (zi FQ (zi tI_28 (zi zI_28 (zi aP (zi bE (zi bF (zi b9 (zi tI_52 (zi zI_52 (zi bU (zi bV (zi bX (zi bY (zi bT (zi tI_240 zI_240)))))))))))))))))))))))))))))))
theorem R8:∀(t:Tm) (d c:Int) (b:Nat) (st:aA),st b=some (.cells [.int .i64 c])→0≤c→c≤120→0≤d→d≤31→aD prog 211 [t.av,.int .i64 d,.ptr b 0] st (D9 (t.shape (31 - d)) c t.nodes b st)
 | .mk k n s ts,d,c,b,st,hb,hc0,hc1,hd0,hd1=>by
  have hk:=fun(st:aA) (hb:st b=some (.cells [.int .i64 (c+1)])) (h1:c+1≤120) (h2:d≤30)=>aK3 ts d (c+1) b st (by omega) (by omega) hb (by omega) h1 fun x hx c st hb hc0 hc1=>by
   have:=R8 x (d+1) c b st hb hc0 hc1 (by omega) (by omega)
   rw[show(31:Int) - (d+1)=30 - d by omega] at this
   exact this
  have hw:=bJ (n:=c+1)
  unfold D9
  rw[Tm.jE,Tm.EA]
  refine wF [] 3 func211 ntmps211 rfl rfl ?_
  simp only[aX,dK,AV.fits,dO,aE]
  intro ⟨_,_,_,hl,_⟩
  simp -implicitDefEqProofs only[hb,aS,hw,aB,seval,vX]
  have hL:(ts.map Tm.av).length=ts.length:=aE _
  have fX:∀(v:Bool),v=(decide (c+((1+aJ Tm.nodes ts:Nat):Int)≤120)&&(decide (1≤31 - d)&&d9 k n s ts.length&&ts.all fun t=>t.shape (31 - d - 1)))→(v=true→ts= []) →
   ∃c',AV.bool v=AV.bool (decide (c+((1+aJ Tm.nodes ts:Nat):Int)≤120)&&(decide (1≤31 - d)&&d9 k n s ts.length&&ts.all fun t=>t.shape (31 - d - 1)))∧st.aC b (.cells [.int .i64 (c+1)])=st.aC b (.cells [.int .i64 c'])∧((decide (c+((1+aJ Tm.nodes ts:Nat):Int)≤120)&&(decide (1≤31 - d)&&d9 k n s ts.length&&ts.all fun t=>t.shape (31 - d - 1)))=true→c'=c+((1+aJ Tm.nodes ts:Nat):Int)):=
   fun v h1 h2=>⟨c+1,by rw[h1],rfl,fun h3=>by rw[h2 (h1.trans h3)];simp [aJ]⟩
  refine cS (fun h1=>?_) (fun h1=>?_)
  case refine_2=>
   simp -implicitDefEqProofs only[h1,aB,seval]
   simp only[sQ,bM] at h1
   refine fX false ?_ (by intro h;cases h)
   rw[show decide (c+((1+aJ Tm.nodes ts:Nat):Int)≤120)=false by simp;omega]
   try rfl
  simp -implicitDefEqProofs only[h1,aB,seval,vX]
  refine⟨fun h2=>?_,fun h2=>?_⟩
  · simp -implicitDefEqProofs only[aB,seval]
    simp only[bM] at h2
    refine fX false ?_ (by intro h;cases h)
    rw[show decide (1≤31 - d)=false by simp;omega]
    simp
  simp only[cM] at h1 h2
  rw[show decide (1≤31 - d)=true by simp;omega] at fX ⊢
  simp only[iC] at fX ⊢
  rw[show 31 - d - 1=30 - d by omega] at fX ⊢
  -- no kids
  have aES:∀q:Bool,(∀h:ts= [],d9 k n s ts.length=q)→(ts≠[]→d9 k n s ts.length=false)→(q&&decide ((ts.length:Int)=0))=(decide (c+((1+aJ Tm.nodes ts:Nat):Int)≤120)&&(d9 k n s ts.length&&ts.all fun t=>t.shape (30 - d))):=by
   intro q hq1 hq2
   by_cases ht:ts= []
   · rw[hq1 ht];subst ht
     have e:c+((1+aJ Tm.nodes []:Nat):Int)≤120:=by simp only[aJ];omega
     rw[tB e]
     simp
   · rw[hq2 ht]
     have:¬(ts.length:Int)=0:=by intro h;exact ht (pY (by omega))
     rw[vC this]
     simp
  simp -implicitDefEqProofs only[aB,seval,vX]
  refine aT (fun hk1=>?_) (fun hk1=>?_)
  · simp only[bM] at hk1
    subst hk1
    simp -implicitDefEqProofs only[aB,seval,vX]
    refine(wS _ _ _ _).to ?_
    repeat' (first
     | (simp -implicitDefEqProofs only[*,aB,seval,vX])
     | (refine cS (fun h=>?_) (fun h=>?_))
     | (refine aT (fun h=>?_) (fun h=>?_)))
    all_goals first
     | (refine fX false ?_ (by intro h;cases h);rw[show d9 1 n s ts.length=false by first | (simp only[d9, *,kU,kT,wA];done) | (simp_all [d9];done) | (simp_all [d9];intro a e;have:=h a;omega)];simp;done)
     | (refine fX _ ?_ (fun h=>pY (by simpa using h));rw[←aES true (fun h=>by simp_all [d9]) (fun h=>by simp [d9,h])];simp;done)
  simp only[cM] at hk1
  simp -implicitDefEqProofs only[aB,seval]
  refine aT (fun hk2=>?_) (fun hk2=>?_)
  · simp only[bM] at hk2
    subst hk2
    simp -implicitDefEqProofs only[aB,seval,vX]
    refine(wS _ _ _ _).to ?_
    repeat' (first
     | (simp -implicitDefEqProofs only[*,aB,seval,vX])
     | (refine cS (fun h=>?_) (fun h=>?_))
     | (refine aT (fun h=>?_) (fun h=>?_)))
    all_goals first
     | (refine fX false ?_ (by intro h;cases h);rw[show d9 2 n s ts.length=false by first | (simp only[d9, *,kU,kT,wA];done) | (simp_all [d9];done) | (simp_all [d9];intro a e;have:=h a;omega)];simp;done)
     | (refine fX _ ?_ (fun h=>pY (by simpa using h));rw[←aES true (fun h=>by simp_all [d9]) (fun h=>by simp [d9,h])];simp;done)
  simp only[cM] at hk2
  simp -implicitDefEqProofs only[aB,seval]
  refine aT (fun hk3=>?_) (fun hk3=>?_)
  case refine_2=>
   simp only[cM] at hk3
   simp -implicitDefEqProofs only[aB,seval]
   refine fX false ?_ (by intro h;cases h)
   rw[show d9 k n s ts.length=false by simp [d9,hk1,hk2,hk3]]
   simp
  simp only[bM] at hk3
  subst hk3
  have hk':=fun st hb=>hk st hb (by omega) (by omega)
  clear hk
  repeat' (first
   | (simp -implicitDefEqProofs only[*,aB,seval,vX])
   | (refine cS (fun h=>?_) (fun h=>?_))
   | (refine(aL0 s _).to ?_)
   | (refine aT (fun h=>?_) (fun h=>?_)))
  all_goals first
   | (refine fX false ?_ (by intro h;cases h);rw[show d9 3 n s ts.length=false by(simp_all [d9];done)];simp;done)
   | skip
  refine(hk' _ (aA.aL _ _ _)).mono ?_
  rintro _ _ ⟨c',rfl,rfl,hc'⟩
  simp -implicitDefEqProofs only[eH,aB,seval]
  have ho:d9 3 n s ts.length=true:=by simp_all [d9]
  rw[ho,show c+((1+aJ Tm.nodes ts:Nat):Int)=c+1+(aJ Tm.nodes ts:Int) by omega]
  simp only[iC,Bool.not_not]
  first | exact⟨c',trivial,rfl,hc'⟩ | exact⟨c',rfl,rfl,hc'⟩
termination_by t=>SizeOf.sizeOf t
decreasing_by have:=List.sizeOf_lt_of_mem hx;simp only[Tm.mk.sizeOf_spec];omega
abbrev aVL:=zi tI_3 (zi zI_3 (zi aY (zi tI_4 (zi zI_4 (zi cG (zi tI_52 (zi zI_52 (zi bU (zi bV (zi bX (zi bY (zi bT (zi tI_240 zI_240)))))))))))))
theorem Q9(t:Tm)(st:aA):aD prog 170 [t.av] st (fun r st'=>r=.bool t.valid∧st'=st):=by
 have hd:aD prog 170 [t.av] st (fun r st'=>aM st' st∧r=.bool t.valid):=by
  refine wF [] 1 func170 ntmps170 rfl rfl ?_
  intro _
  simp -implicitDefEqProofs only[Tm.eG,b7,aO,aB,seval,aVL]
  intro b hb
  simp -implicitDefEqProofs only[aS,aB,seval]
  refine(R8 t 1 0 b _ (aA.aL _ _ _) (by omega) (by omega) (by omega) (by omega)).mono ?_
  rintro _ _ ⟨c',rfl,rfl,_⟩
  simp -implicitDefEqProofs only[eH,tF,↓reduceIte]
  refine⟨(aM.refl st).aC hb,?_⟩
  simp only[Tm.valid,AV.bool.injEq]
  rw[Bool.and_comm,show(31:Int) - 1=30 from rfl]
  congr 1
  simp only[decide_eq_decide]
  omega
 exact hd.drop
def Tm.goal:Tm→Bool
 | .mk k n s ts=>(Tm.mk k n s ts).valid&&vL k s ts.length
abbrev aHP:=zi tI_4 (zi zI_4 (zi cG (zi tI_52 (zi zI_52 (zi bU (zi bV (zi bX (zi bY bT))))))))
theorem R9:∀(t:Tm) (st:aA),aD prog 126 [t.av] st (fun r st'=>r=.bool t.goal∧st'=st)
 | .mk k n s ts,st=>by
  have h1:=K1 (.mk k n s ts) st
  have h2:=aMI k n s ts st
  rw[show(Tm.mk k n s ts).goal=((Tm.mk k n s ts).valid&&vL k s ts.length) from rfl]
  generalize (Tm.mk k n s ts).valid=z at *
  rw[aX] at *
  refine wF [] 1 func126 ntmps126 rfl rfl ?_
  intro _
  simp -implicitDefEqProofs only[aB,seval,aHP]
  refine h1.to ?_
  simp -implicitDefEqProofs only[aB,seval]
  refine cS (fun h=>?_) (fun h=>?_)
  · simp -implicitDefEqProofs only[h,aB,seval,aHP]
    refine h2.to ?_
    simp -implicitDefEqProofs only[aB,seval]
  · simp -implicitDefEqProofs only[h,aB,seval]
    simp at h
    simp []
abbrev aVM:=zi tI_4 (zi zI_4 (zi cG (zi tI_52 (zi zI_52 (zi bU (zi bV (zi bX (zi bY bT))))))))
theorem aLY:∀(t:Tm) (st:aA),aD prog 174 [t.av] st (fun r st'=>r=.bool t.goal∧st'=st)
 | .mk k n s ts,st=>by
  have h1:=Q9 (.mk k n s ts) st
  have h2:=RD k n s ts st
  have h3:=KT k n s ts st
  have h4:=RA k n s ts st
  rw[show(Tm.mk k n s ts).goal=((Tm.mk k n s ts).valid&&vL k s ts.length) from rfl]
  unfold vL
  generalize (Tm.mk k n s ts).valid=z at *
  generalize oN k s (ts.length:Int)=z2 at *
  generalize (decide (k=3)&&isBuiltin s (ts.length:Int))=z3 at *
  rw[show(decide (k=3)&&decide (s=⟨#[33]⟩)&&decide ((ts.length:Int)=0))=(decide (k=3)&&decide ((ts.length:Int)=0)&&decide (s=⟨#[33]⟩)) from by cases decide (k=3)<;>cases decide (s=⟨#[33]⟩)<;>cases decide ((ts.length:Int)=0)<;>rfl]
  generalize (decide (k=3)&&decide ((ts.length:Int)=0)&&decide (s=⟨#[33]⟩))=z4 at *
  rw[aX] at *
  refine wF [] 1 func174 ntmps174 rfl rfl ?_
  intro _
  repeat' (first
   | (simp -implicitDefEqProofs only[*,aB,seval,aVM])
   | (refine cS (fun h=>?_) (fun h=>?_))
   | (refine h1.to ?_) | (refine h2.to ?_) | (refine h3.to ?_) | (refine h4.to ?_)
   | (refine aT (fun h=>?_) (fun h=>?_)))
  all_goals (clear h1 h2 h3 h4;simp_all)
abbrev aH7:=zi tI_3 (zi zI_3 (zi aY (zi tI_28 (zi zI_28 (zi aP (zi bE (zi bF (zi b9 (zi tI_52 (zi zI_52 (zi bU (zi bV (zi bX (zi bY bT))))))))))))))
theorem aK7(l:List Tm)(g:FuncId)(dG:List AV)(p:Tm→Bool)(st:aA)(hc:∀x∈l,aD prog g ([Tm.av x]++dG) st (fun r st'=>r=.bool (p x)∧st'=st)) :
 aD prog 214 [.slice (l.map Tm.av),.func g dG] st (fun r st'=>∃j:Int,r=.int .i64 j∧decide (0≤j)=l.any p∧st'=st):=by
 refine wF [] 2 func214 ntmps214 rfl rfl ?_
 simp only[dK,AV.fits,dO,aE]
 intro ⟨hl,_⟩
 simp -implicitDefEqProofs only[aE,aB,seval,aH7]
 refine dQ (σ:=Unit) [] [0,1,7] l (fun i _=>(l.drop i).any p=l.any p) (fun i _=>[(8,.int .i64 i)]) (fun _ _=>st) (by decide +kernel) ⟨(),rfl,aR.mk (by simp -implicitDefEqProofs only[aB,↓aW,seval])⟩ (fun i x _ hx hlt bD hdr hinv=>?_) (fun _ hge hinv=>?_)
 case refine_2=>
  simp -implicitDefEqProofs only[hge,aB,seval]
  rw[iD] at hinv
  exact⟨-1,rfl,by rw[←hinv];try rfl⟩
 rw[hdr,yD] at hinv
 have hw:=bJ (n:=(i:Int)+1)
 simp -implicitDefEqProofs only[bD,bG (av:=Tm.av) aP hx (aO x),b7,aO,aB,seval,aH7]
 refine(hc x (cI hx)).to ?_
 simp -implicitDefEqProofs only[aB,seval]
 refine aT (fun h=>?_) (fun h=>?_)
 · simp -implicitDefEqProofs only[aB,seval]
   exact⟨i,rfl,by rw[←hinv,h];simp⟩
 · rw[h,rC] at hinv
   simp -implicitDefEqProofs only[aB,seval]
   exact⟨(),hinv,aR.mk (by simp -implicitDefEqProofs only[hw,aB,seval])⟩
theorem aKZ(l:List Tm)(g:FuncId)(dG:List AV)(p:Tm→Bool)(st:aA)(hc:∀x∈l,aD prog g ([Tm.av x]++dG) st (fun r st'=>r=.bool (p x)∧st'=st)) :
 aD prog 172 [.slice (l.map Tm.av),.func g dG] st (fun r st'=>r=.bool (l.any p)∧st'=st):=by
 refine wF [] 2 func172 ntmps172 rfl rfl ?_
 intro _
 simp -implicitDefEqProofs only[aB,seval]
 refine(aK7 l g dG p st hc).mono ?_
 rintro _ _ ⟨j,rfl,hj,rfl⟩
 simp -implicitDefEqProofs only[hj,aB,seval]
theorem KK{α:Type}(p:α→Bool):∀l:List α,(!(l.any fun x=> !p x))=l.all p
 | []=>rfl
 | x::l=>by rw[yD,iW,←KK p l];cases p x<;>simp
abbrev aVT:=zi tI_4 (zi zI_4 (zi cG (zi tI_52 (zi zI_52 (zi bU (zi bV (zi bX (zi bY bT))))))))
theorem aLV(t:Tm)(st:aA):aD prog 173 [t.av] st (fun r st'=>r=.bool (!t.goal)∧st'=st):=by
 refine wF [] 1 func173 ntmps173 rfl rfl ?_
 intro _
 simp -implicitDefEqProofs only[Tm.eG,b7,aO,aB,seval,aVT]
 refine(aLY t st).to ?_
 simp -implicitDefEqProofs only[aB,seval]
def lI(l:List Tm):Bool:=decide (l.length≤6)&&l.all Tm.goal
abbrev aVS:=zi tI_3 (zi zI_3 (zi aY (zi tI_4 (zi zI_4 (zi cG (zi tI_28 (zi zI_28 (zi aP (zi bE (zi bF b9))))))))))
theorem Q3(l:List Tm)(st:aA):aD prog 135 [.slice (l.map Tm.av)] st (fun r st'=>r=.bool (lI l)∧st'=st):=by
 refine wF [] 1 func135 ntmps135 rfl rfl ?_
 simp only[dK,AV.fits,dO,aE]
 intro _
 unfold lI
 simp -implicitDefEqProofs only[aE,aB,seval,aVS]
 refine cS (fun h=>?_) (fun h=>?_)
 · simp only[bM] at h
   rw[show decide (l.length≤6)=true by simp;omega]
   simp -implicitDefEqProofs only[h,aB,seval]
   refine(aKZ l _ [] (fun t=> !t.goal) st fun x _=>aLV x st).to ?_
   simp -implicitDefEqProofs only[KK,aB,seval]
 · simp only[kU,cM] at h
   rw[show decide (l.length≤6)=false by simp;omega]
   simp -implicitDefEqProofs only[h,aB,seval]
   rfl
theorem Q7(l:List Tm)(st:aA):aD prog 86 [.slice (l.map Tm.av)] st (fun r st'=>r=.bool (lI l)∧st'=st):=by
 refine wF [] 1 func86 ntmps86 rfl rfl ?_
 intro _
 simp -implicitDefEqProofs only[aB,seval]
 refine(Q3 l st).to ?_
 simp -implicitDefEqProofs only[aB,seval]
abbrev IV:=zi tI_3 (zi zI_3 (zi aY (zi tI_4 (zi zI_4 (zi cG (zi tI_28 (zi zI_28 (zi aP (zi bE (zi bF (zi b9 (zi tI_52 (zi zI_52 (zi bU (zi bV (zi bX (zi bY bT)))))))))))))))))
theorem aNB(l:List Tm)(st:aA):aD prog 79 [.slice (l.map Tm.av)] st (fun r st'=>r=.bool (lI l)∧st'=st):=by
 refine wF [] 1 func79 ntmps79 rfl rfl ?_
 simp only[dK,AV.fits,dO,aE]
 intro ⟨hl,_⟩
 simp -implicitDefEqProofs only[aB,seval]
 refine dQ (σ:=Unit) [] [0] l (fun i _=>i≤7∧(l.take i).all Tm.goal=true) (fun i _=>[(3,.int .i64 i)]) (fun _ _=>st) (by decide +kernel) ⟨(),⟨by omega,by simp⟩,aR.mk (by simp -implicitDefEqProofs only[aB,↓aW,seval])⟩ (fun i x _ hx hlt bD hdr hinv=>?_) (fun _ hge hinv=>?_)
 case refine_2=>
  obtain⟨i1,i2⟩:=hinv
  rw[eD] at i2
  simp -implicitDefEqProofs only[aE,hge,aB,seval,IV]
  simp only[lI,i2,wB,AV.bool.injEq,decide_eq_decide]
  omega
 obtain⟨i1,i2⟩:=hinv
 have hw:=bJ (n:=(i:Int)+1)
 simp -implicitDefEqProofs only[aE,bD,aB,seval,IV]
 refine aT (fun h=>?_) (fun h=>?_)
 case refine_2=>
  simp only[cM] at h
  simp -implicitDefEqProofs only[aE,aB,seval,IV]
  simp only[lI,AV.bool.injEq]
  rw[show decide (l.length≤6)=false by simp;omega,show decide ((l.length:Int)≤6)=false by simp;omega]
  try rfl
 simp only[bM] at h
 simp -implicitDefEqProofs only[bG (av:=Tm.av) aP hx (aO x),b7,aO,aB,seval,IV]
 refine(R9 x st).to ?_
 simp -implicitDefEqProofs only[aB,seval]
 refine aT (fun h2=>?_) (fun h2=>?_)
 · simp only[gN] at h2
   simp -implicitDefEqProofs only[aB,seval]
   have:l.all Tm.goal=false:=sZ hx h2
   simp only[lI,this,wA]
 · simp only[j3] at h2
   simp -implicitDefEqProofs only[aB,seval]
   refine⟨(),⟨by omega,?_⟩,aR.mk (by simp -implicitDefEqProofs only[hw,aB,seval])⟩
   rw[fP,hx,yC,i2]
   simp [h2]
abbrev aVU:=zi tI_3 (zi zI_3 (zi aY (zi tI_52 (zi zI_52 (zi bU (zi bV (zi bX (zi bY bT))))))))
theorem K4(n:Int)(st:aA):aD prog 192 [.int .i64 n] st (fun r st'=>r=(vr n).av∧st'=st):=by
 refine aD.done ?_
 refine wF [1000000] 1 func192 ntmps192 rfl rfl ?_
 intro _
 simp -implicitDefEqProofs only[aB,seval,aVU]
 intro b hb
 simp -implicitDefEqProofs only[aS,aB,seval]
 exact⟨by simp only[vr,aX,mA,nM,xP,vU,bK,bL,bL],(aM.refl _).aC hb⟩
abbrev sL:=zi tI_3 (zi zI_3 (zi aY (zi tI_28 (zi zI_28 (zi aP (zi bE (zi bF (zi b9 (zi tI_52 (zi zI_52 (zi bU (zi bV (zi bX (zi bY bT))))))))))))))
theorem KW(f:Int→Tm)(g:FuncId)(dG:List AV)(z6:jM dG=true):∀(t:Tm) (st:aA),t.small=true→(∀n∈t.vl,∀s,aD prog g (.int .i64 n::dG) s (fun r s'=>r=(f n).av∧s'=s)) →
 aD prog 237 [t.av,.func g dG] st (fun r st'=>r=(t.aH f).av∧st'=st)
 | .mk k n s ts,st,hsm,hg=>by
  obtain⟨hlen,pG⟩:=Tm.oO hsm
  have IH:=fun(x:Tm) (hx:x∈ts) st h=>KW f g dG z6 x st (pG x hx) h
  refine aD.rQ (aD.fin ?_)
  simp only[aX]
  refine wF [1000000,2] 2 func237 ntmps237 rfl rfl ?_
  simp only[dK,AV.fits,dO,aE]
  intro ⟨_,_,_,hl,_⟩
  simp -implicitDefEqProofs only[aB,seval,sL]
  intro c hc b2 hb2
  have hne:b2≠c:=by rintro rfl;rw[aA.aL] at hb2;cases hb2
  have hn2:st b2=none:=by rw[aA.aF st _ hne] at hb2;exact hb2
  simp -implicitDefEqProofs only[hne.symm,aB,seval]
  refine aT (fun h=>?_) (fun h=>?_)
  · simp only[bM] at h
    subst h
    simp -implicitDefEqProofs only[hne.symm,aB,seval,sL]
    refine(hg n (by rw[Tm.lP rfl];simp) _).to ?_
    simp -implicitDefEqProofs only[aB,seval,sL]
    refine⟨0,[],_,rfl,by simp,by simp,⟨4,by simp⟩,by rw[Tm.wW,Tm.lH f rfl],?_⟩
    exact((aM.refl _).aC hc).aC hn2
  simp only[cM] at h
  have hg':∀x∈ts,∀v∈x.vl,∀s,aD prog g (.int .i64 v::dG) s (fun r s'=>r=(f v).av∧s'=s):=fun x hx v hv=>hg v ((Tm.j0 h).2 ⟨x,hx,hv⟩)
  simp -implicitDefEqProofs only[hne.symm,aS,aE,aB,seval,sL]
  rw[aA.v5 hne]
  refine dQ (σ:=Nat) [1000000] [1,2,4,18,19] ts (fun i b=>(((ts.take i).map (Tm.aH f)).map Tm.av≠[]→(aA.aC (st.aC b2 (.cells [AV.int .i64 0,AV.int .i64 0,AV.str ⟨#[]⟩,AV.fslice []])) c (.cells ([AV.int .i64 k,AV.int .i64 n,AV.str s]++ [bR 4 b (((ts.take i).map (Tm.aH f)).map Tm.av)]))) b=none)) (fun i b=>[(20,.int .i64 i)]) (fun i b=>jK (st.aC b2 (.cells [AV.int .i64 0,AV.int .i64 0,AV.str ⟨#[]⟩,AV.fslice []])) c b [AV.int .i64 k,AV.int .i64 n,AV.str s] (((ts.take i).map (Tm.aH f)).map Tm.av)) (by decide +kernel)
   ⟨0,fun h=>absurd rfl h,aR.mk (by simp -implicitDefEqProofs only[aB,↓aW,seval])⟩ (fun i x b hx hlt bD hdr hinv=>?_) (fun b hge hinv=>?_)
  case refine_1=>
   have hw:=bJ (n:=(i:Int)+1)
   have dC:(((ts.take i).map (Tm.aH f)).map Tm.av).length=i:=by simp only[aE,dX];omega
   have htk:(ts.take (i+1)).map (Tm.aH f)=(ts.take i).map (Tm.aH f)++ [(Tm.aH f) x]:=by rw[fP,hx];simp
   have hbo:=kA hinv
   simp -implicitDefEqProofs only[bD,bG (av:=Tm.av) aP hx (aO x),aB,↓aW,seval,sL]
   refine wP [(0,1),(3,1),(1,2),(2,2),(4,2),(5,1),(6,0),(7,1),(8,0)] [0,3,1,2,4,5,7] mixed ?_
   simp -implicitDefEqProofs only[b7,aO,hbo,qD,aB,seval,sL]
   refine jB (IH x (cI hx) _ (hg' x (cI hx))) ?_
   simp -implicitDefEqProofs only[b7,aO,Tm.eG,aB,seval,sL]
   refine gJ aP bE bF rfl rfl (gS (aO _) (Tm.dY _)) (gV _) hinv (by simp only[dC,bA,bQ];omega) (by simp only[dC,bA,bQ];omega) (fun b' hb'=>?_)
   rw[show(((ts.take i).map (Tm.aH f)).map Tm.av)++ [((Tm.aH f) x).av]=((ts.take (i+1)).map (Tm.aH f)).map Tm.av by rw[htk];simp] at hb' ⊢
   obtain⟨g1,g2,g3⟩:=tS hb'
   simp only[gB,eR] at g1 g3
   simp -implicitDefEqProofs only[g3,oZ,iX,aS,g1,hw,aB,seval,sL]
   exact⟨b',g2,aR.mk (by simp -implicitDefEqProofs only[aB,seval])⟩
  have hbo:=kA hinv
  rw[eD] at hinv hbo ⊢
  simp -implicitDefEqProofs only[hge,aB,seval,sL]
  simp -implicitDefEqProofs only[hbo,aB,seval,sL]
  have hS:(st.aC b2 (.cells [AV.int .i64 0,AV.int .i64 0,AV.str ⟨#[]⟩,AV.fslice []])) b2≠none:=by rw[aA.aL];simp
  have h1:=l7 hinv hS hne
  rw[aA.aL] at h1
  simp -implicitDefEqProofs only[h1,iX,aS,aB,seval]
  obtain⟨h2,h3⟩:=r9 (o:=.cells [AV.int .i64 k,AV.int .i64 n,AV.str s,bR 4 b ((ts.map (Tm.aH f)).map Tm.av)]) hinv hS hne
  refine⟨b,_,_,h2,h3,pT _,⟨4,gV _⟩,?_,?_⟩
  · rw[Tm.kB f h]
    simp only[gR,bK,bL,fR,m8,mH,aX]
  · exact(((aM.refl _).aC hn2).aC hc).aC hn2
termination_by t=>SizeOf.sizeOf t
decreasing_by have:=List.sizeOf_lt_of_mem hx;simp only[Tm.mk.sizeOf_spec];omega


end Go.AW
namespace Go.AW
abbrev cC (σ:Sub):Prop:=∃R rk B,Good σ R rk B
theorem cC.rs{σ:Sub}(h:cC σ):∃rk B,Good σ (rs σ) rk B:=by
 obtain⟨R,rk,B,G⟩:=h
 exact⟨rk,B,by rw[G.rs];exact G⟩
theorem cC.none:cC Sub.none:=⟨_,_,_,Good.none⟩
structure mF (σ:Sub) (a b:List Tm) (r:Bool) (σ':Sub) (tr:List Int):Prop where
 fO:cC σ'
 aU:∀m,m∉tr→σ' m=σ m
 new:∀m∈tr,σ m=none∧σ' m≠none
 nodup:tr.Nodup
 eq:r=true→a.map (Tm.aH (rs σ'))=b.map (Tm.aH (rs σ'))
 gen:∀θ,oX θ σ→a.map (Tm.aH θ)=b.map (Tm.aH θ)→r=true∧oX θ σ'
 same:tr= []→σ'=σ
theorem oX.sub{σ σ':Sub}{θ:Int→Tm}{tr:List Int}(S:oX θ σ')(aU:∀m,m∉tr→σ' m=σ m)(new:∀m∈tr,σ m=none∧σ' m≠none):oX θ σ:=fun n u h=>by
 by_cases hn:n∈tr
 · rw[(new n hn).1] at h;cases h
 · exact S n u (by rw[aU n hn];exact h)
theorem mF.tR{σ σ':Sub}{a b:List Tm}{r:Bool}{tr:List Int}(h:mF σ a b r σ' tr):oX (rs σ') σ:=by
 obtain⟨rk,B,G⟩:=h.fO.rs
 exact G.tR.sub h.aU h.new
theorem mF.stays{σ σ':Sub}{a b:List Tm}{r:Bool}{tr:List Int}(h:mF σ a b r σ' tr)(hg:cC σ){x y:Tm}(e:x.aH (rs σ)=y.aH (rs σ)):x.aH (rs σ')=y.aH (rs σ'):=by
 obtain⟨rk,B,G⟩:=hg.rs
 rw[←G.LK h.tR x,←G.LK h.tR y,e]
theorem QS{σ:Sub}(hg:cC σ){a b:Tm}{n:Int}(ha:a.k=1)(han:a.n=n)(hn:σ n=none)(hb:b.k=1→σ b.n=none∧b.n≠n){r:Bool}{σ':Sub}{tr:List Int}(h:iP σ n b=(r,σ',tr)):mF σ [a] [b] r σ' tr:=by
 obtain⟨rk,B,G⟩:=hg.rs
 have hav:∀θ,a.aH θ=θ n:=fun θ=>by rw[Tm.AJ θ ha,han]
 unfold iP at h
 split at h
 · rename_i fG
   cases h
   refine⟨hg,fun _ _=>rfl,fun _ h=>absurd h (dD),lT,fun h=>(by cases h),fun θ S e=>?_,fun _=>rfl⟩
   exfalso
   simp only[bK,bL,List.cons.injEq,dO] at e
   rw[hav] at e
   by_cases hbk:b.k=1
   · rw[Tm.AJ _ hbk,G.free (hb hbk).1,v7] at fG
     simp only[cO,dD,dI] at fG
     exact(hb hbk).2 fG.symm
   · rw[←G.LK S b] at e
     have h1:((b.aH (rs σ)).aH θ)=(b.aH (rs σ)).aH θ:=rfl
     have hk:(b.aH (rs σ)).k≠1:=by rw[Tm.pI _ hbk];exact hbk
     have:=(aS5 (f:=θ) (b.aH (rs σ)) fG).2 hk
     rw[e] at this
     exact absurd this (Nat.lt_irrefl _)
 · rename_i fG
   cases h
   obtain⟨rk',B',G'⟩:=G.bind hn fG
   have hR:=G'.rs
   refine⟨⟨_,_,_,G'⟩,fun m hm=>?_,fun m hm=>?_,by simp,fun _=>?_,fun θ S e=>⟨rfl,fun m u hu=>?_⟩,fun h=>(by cases h)⟩
   · simp only[cO,dD,dI] at hm
     simp only[Sub.set,hm,cJ]
   · simp only[cO,dD,dI] at hm
     subst hm
     exact⟨hn,by simp [Sub.set]⟩
   · simp only[bK,bL,List.cons.injEq,dO]
     rw[hav,hR]
     exact G'.bound (by simp [Sub.set])
   · simp only[bK,bL,List.cons.injEq,dO] at e
     rw[hav] at e
     simp only[Sub.set] at hu
     split at hu
     · rename_i hmn
       cases hu
       rw[hmn,e]
     · exact S m u hu
theorem qM{a b:Tm}:rX a b=true↔a.k=b.k∧a.n=b.n∧a.s=b.s∧a.ts.length=b.ts.length:=by
 simp only[rX,cL,bM,and_assoc]
theorem aIT(g:Nat)(aR2:∀σ a b r σ' tr,cC σ→cV g σ a b=some (r,σ',tr)→mF σ [a] [b] r σ' tr):∀xs ys σ r σ' tr,cC σ→xs.length=ys.length→dH g σ xs ys=some (r,σ',tr)→mF σ xs ys r σ' tr:=by
 intro xs
 have ihU:=aR2
 induction xs with
 | nil=>
  intro ys σ r σ' tr hg hl h
  cases ys with
  | cons _ _=>simp at hl
  | nil=>
   simp only[dH,Option.some.injEq,Prod.mk.injEq] at h
   obtain⟨rfl,rfl,rfl⟩:=h
   exact⟨hg,fun _ _=>rfl,fun _ h=>absurd h (dD),lT,fun _=>rfl,fun θ S _=>⟨rfl,S⟩,fun _=>rfl⟩
 | cons a xs ih=>
  intro ys σ r σ' tr hg hl h
  cases ys with
  | nil=>simp at hl
  | cons b ys=>
   rw[dH] at h
   cases h1:cV g σ a b with
   | none=>rw[h1] at h;cases h
   | some p=>
    obtain⟨r1,σ1,tr1⟩:=p
    have U1:=ihU σ a b r1 σ1 tr1 hg h1
    rw[h1] at h
    cases r1 with
    | false=>
     simp only[Option.some.injEq,Prod.mk.injEq] at h
     obtain⟨rfl,rfl,rfl⟩:=h
     refine⟨U1.fO,U1.aU,U1.new,U1.nodup,fun h=>(by cases h),fun θ S e=>?_,U1.same⟩
     simp only[bK,List.cons.injEq] at e
     exact U1.gen θ S (by simp [e.1])
    | true=>
     simp only at h
     cases h2:dH g σ1 xs ys with
     | none=>rw[h2] at h;cases h
     | some p2=>
      obtain⟨r2,σ2,tr2⟩:=p2
      rw[h2] at h
      simp only[Option.some.injEq,Prod.mk.injEq] at h
      obtain⟨rfl,rfl,rfl⟩:=h
      have U2:=ih ys σ1 r2 σ2 tr2 U1.fO (by simpa using hl) h2
      refine⟨U2.fO,fun m hm=>?_,fun m hm=>?_,?_,fun hr=>?_,fun θ S e=>?_,fun h=>?_⟩
      · simp only[dR,jL] at hm
        rw[U2.aU m hm.2,U1.aU m hm.1]
      · rcases dR.1 hm with hm | hm
        · refine⟨(U1.new m hm).1,fun h=>(U1.new m hm).2 ?_⟩
          by_cases h3:m∈tr2
          · exact(U2.new m h3).1
          · rw[←U2.aU m h3];exact h
        · refine⟨?_,(U2.new m hm).2⟩
          by_cases h3:m∈tr1
          · exact(U1.new m h3).1
          · rw[←U1.aU m h3];exact(U2.new m hm).1
      · rw[jO]
        refine⟨U1.nodup,U2.nodup,fun x hx y hy e=>?_⟩
        subst e
        exact(U1.new x hx).2 (U2.new x hy).1
      · have e1:=U1.eq rfl
        simp only[bK,bL,List.cons.injEq,dO] at e1
        simp only[bK]
        rw[U2.stays U1.fO e1,U2.eq hr]
      · simp only[bK,List.cons.injEq] at e
        obtain⟨_,S1⟩:=U1.gen θ S (by simp [e.1])
        exact U2.gen θ S1 e.2
      · simp only[List.append_eq_nil_iff] at h
        rw[U2.same h.2,U1.same h.1]
theorem aV4:∀(g:Nat),(∀σ a b r σ' tr,cC σ→cV g σ a b=some (r,σ',tr)→mF σ [a] [b] r σ' tr) ∧
 ∀xs ys σ r σ' tr,cC σ→xs.length=ys.length→dH g σ xs ys=some (r,σ',tr)→mF σ xs ys r σ' tr:=by
 intro g
 induction g with
 | zero=>
  have h0:∀σ a b r σ' tr,cC σ→cV 0 σ a b=some (r,σ',tr)→mF σ [a] [b] r σ' tr:=fun σ a b r σ' tr hg h=>by simp only[cV] at h;cases h
  exact⟨h0,aIT _ h0⟩
 | succ g ih=>
  suffices hU:∀σ a b r σ' tr,cC σ→cV (g+1) σ a b=some (r,σ',tr)→mF σ [a] [b] r σ' tr from ⟨hU,aIT _ hU⟩
  intro σ a b r σ' tr hg h
  obtain⟨ihU,ihL⟩:=ih
  have aR1:=fun xs ys σ r σ' tr hg hl h=>ihL xs ys σ r σ' tr hg hl h
  obtain⟨rk,B,G⟩:=hg.rs
  obtain⟨fa,wa⟩:=G.wk a
  obtain⟨fb,wb⟩:=G.wk b
  have hma:∀θ,oX θ σ→(wk σ a).aH θ=a.aH θ:=fun θ S=>wa.aH S
  have hmb:∀θ,oX θ σ→(wk σ b).aH θ=b.aH θ:=fun θ S=>wb.aH S
  -- it suffices to speak of the walked terms
  suffices hw:mF σ [wk σ a] [wk σ b] r σ' tr by
   refine⟨hw.fO,hw.aU,hw.new,hw.nodup,fun hr=>?_,fun θ S e=>?_,hw.same⟩
   · have:=hw.eq hr
     simp only[bK,bL,List.cons.injEq,dO] at this ⊢
     rw[←hma _ hw.tR,←hmb _ hw.tR];exact this
   · refine hw.gen θ S ?_
     simp only[bK,bL,List.cons.injEq,dO] at e ⊢
     rw[hma θ S,hmb θ S];exact e
  have ea:=wa.end
  have eb:=wb.end
  rw[cV] at h
  generalize wk σ a=a at *
  generalize wk σ b=b at *
  split at h
  · rename_i hc
    simp only[Option.some.injEq,Prod.mk.injEq] at h
    obtain⟨rfl,rfl,rfl⟩:=h
    have he:∀θ,a.aH θ=b.aH θ:=fun θ=>by rw[Tm.AJ θ hc.1,Tm.AJ θ hc.2.1,hc.2.2]
    exact⟨hg,fun _ _=>rfl,fun _ h=>absurd h (dD),lT,fun _=>by simp [he],fun θ S _=>⟨rfl,S⟩,fun _=>rfl⟩
  · rename_i hc
    split at h
    · rename_i ha
      exact QS hg ha rfl (ea ha) (fun hb=>⟨eb hb,fun e=>hc ⟨ha,hb,e.symm⟩⟩) (lV h)
    · rename_i ha
      split at h
      · rename_i hb
        have U:=QS hg hb rfl (eb hb) (fun ha'=>absurd ha' ha) (lV h)
        exact⟨U.fO,U.aU,U.new,U.nodup,fun hr=>(U.eq hr).symm,fun θ S e=>U.gen θ S e.symm,U.same⟩
      · rename_i hb
        split at h
        · rename_i hh
          rw[qM] at hh
          have U:=aR1 a.ts b.ts σ r σ' tr hg hh.2.2.2 h
          refine⟨U.fO,U.aU,U.new,U.nodup,fun hr=>?_,fun θ S e=>?_,U.same⟩
          · simp only[bK,bL,List.cons.injEq,dO]
            rw[Tm.pI _ ha,Tm.pI _ hb,hh.1,hh.2.1,hh.2.2.1,U.eq hr]
          · simp only[bK,bL,List.cons.injEq,dO] at e
            rw[Tm.pI _ ha,Tm.pI _ hb] at e
            exact U.gen θ S (by injection e)
        · rename_i hh
          simp only[Option.some.injEq,Prod.mk.injEq] at h
          obtain⟨rfl,rfl,rfl⟩:=h
          refine⟨hg,fun _ _=>rfl,fun _ h=>absurd h (dD),lT,fun h=>(by cases h),fun θ S e=>?_,fun _=>rfl⟩
          exfalso
          simp only[bK,bL,List.cons.injEq,dO] at e
          rw[Tm.pI _ ha,Tm.pI _ hb] at e
          injection e with e1 e2 e3 e4
          exact hh (qM.2 ⟨e1,e2,e3,by simpa using tA List.length e4⟩)
theorem uE{g:Nat}{σ:Sub}{a b:Tm}{r:Bool}{σ':Sub}{tr:List Int}(hg:cC σ)(h:cV g σ a b=some (r,σ',tr)):mF σ [a] [b] r σ' tr:=(aV4 g).1 σ a b r σ' tr hg h
end Go.AW
