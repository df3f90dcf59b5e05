import Derived.Test.YtlepdbmhjkmelaaGreatDoorWqg
import Derived.Test.YtlepdbmhjkmelaaGreatDoorWqi
import Derived.Test.YtlepdbmhjkmelaaGreatDoorWqf
set_option linter.unusedSimpArgs false
set_option linter.unusedVariables false
set_option maxRecDepth 100000
namespace Go.AW
open Go.Proofs.Tryz
theorem sD(n lo hi:Int)(st:aA):aD prog 22 [.int .i64 n,.int .i64 lo,.int .i64 hi] st (fun r st'=>r=.bool (decide (lo≤n)&&decide (n≤hi))∧st'=st):=by
 refine wF [] 3 func22 ntmps22 rfl rfl ?_
 intro _
 repeat' (first
  | (simp only[*,aB,seval])
  | (refine cP (fun h=>?_) (fun h=>?_))
  | (refine aQ (fun h=>?_) (fun h=>?_)))
 all_goals simp_all
theorem aTZ(s:ByteArray)(st:aA):aD prog 147 [.str s] st (fun r st'=>r=.tup [.int .i64 (jP s),.bool (jP s == 1||jP s == 2)]∧st'=st):=by
 refine wF [] 1 func147 ntmps147 rfl rfl ?_
 intro _
 repeat' (first
  | (simp only[*,aB,seval])
  | (refine cP (fun h=>?_) (fun h=>?_))
  | (refine aQ (fun h=>?_) (fun h=>?_)))
 all_goals (simp only[jP, *,Bool.or_true,B8,Bool.or_self,cond_true,cond_false];first | done | rfl)
theorem YI(s:ByteArray)(st:aA):aD prog 124 [.str s] st (fun r st'=>r=.int .i64 (jP s)∧st'=st):=by
 refine wF [] 1 func124 ntmps124 rfl rfl ?_
 intro _
 repeat' (first
  | (simp only[*,aB,seval])
  | (refine cP (fun h=>?_) (fun h=>?_))
  | (refine aQ (fun h=>?_) (fun h=>?_)))
 all_goals (simp only[jP, *,Bool.or_true,B8,Bool.or_self,cond_true,cond_false];first | done | rfl)
theorem aUV(s:ByteArray)(n:Int)(st:aA):aD prog 148 [.str s,.int .i64 n] st (fun r st'=>r=.bool (isBuiltin s n)∧st'=st):=by
 refine wF [] 2 func148 ntmps148 rfl rfl ?_
 intro _
 repeat' (first
  | (simp only[*,aB,seval])
  | (refine cP (fun h=>?_) (fun h=>?_))
  | (refine aQ (fun h=>?_) (fun h=>?_)))
 all_goals (simp only[isBuiltin, *,Bool.or_true,B8,Bool.or_self,cond_true,cond_false];first | done | rfl)
theorem P5(s:ByteArray)(n:Int)(st:aA):aD prog 123 [.str s,.int .i64 n] st (fun r st'=>r=.bool (isBuiltin s n)∧st'=st):=by
 refine wF [] 2 func123 ntmps123 rfl rfl ?_
 intro _
 repeat' (first
  | (simp only[*,aB,seval])
  | (refine cP (fun h=>?_) (fun h=>?_))
  | (refine aQ (fun h=>?_) (fun h=>?_)))
 all_goals (simp only[isBuiltin, *,Bool.or_true,B8,Bool.or_self,cond_true,cond_false];first | done | rfl)
abbrev aO3:=zi aX (zi cB (zi tB d9))
theorem YH(s:ByteArray)(st:aA):aD prog 122 [.str s] st (fun r st'=>r=.bool (uG s)∧st'=st):=by
 refine wF [] 1 func122 ntmps122 rfl rfl ?_
 simp only[cV,AV.fits,dE]
 intro hs
 simp only[aB,seval]
 refine oJ (α:=Nat) [] (fun i=>i≤s.size∧∀(j:Nat) c,j<i→(sb s)[j]?=some c→letter c=true)
  (fun i=>[(0,.str s),(3,.int .i64 i)]) (fun _=>st) (fun i=>s.size - i) (by decide +kernel)
  ⟨0,⟨by omega,by intro j x h;omega⟩,aP.mk (by simp only[aB,↓aW,seval])⟩ ?_
 intro i ⟨hi,dN⟩
 simp only[aB,seval,aO3]
 refine⟨fun h5=>?_,fun h5=>?_⟩
 case refine_2=>
  simp only[cL,g7] at h5
  have ha:(sb s).all letter=true:=JW fun j c hc=>dN j c (by have:=(fC.1 hc).1;rw[BP] at this;omega) hc
  repeat' (first
   | (simp only[*,aB,seval,aO3])
   | (refine cP (fun h=>?_) (fun h=>?_))
   | (refine aQ (fun h=>?_) (fun h=>?_)))
  all_goals simp only[uG,ha,gM,AV.bool.injEq]
  all_goals simp only[*,fG,gM,jT]
 simp only[bM,g7] at h5
 obtain⟨c,hc⟩:∃c,(sb s)[i]?=some c:=⟨_,eK (by rw[BP];exact h5)⟩
 have hx:=LX (P:=prog) (t:=9) B0 hc
 simp only[hx,aB,seval]
 refine cP (fun h6=>?_) (fun h6=>?_)
 case refine_2=>
  simp only[h6,aB,seval]
  simp only[kO,bM] at h6
  simp only[uG,tN hc (show letter c=false by simp [letter];omega),jT]
 simp only[h6,hx,aB,seval]
 refine⟨fun h7=>?_,fun h7=>?_⟩
 · simp only[aB,seval]
   simp only[bM] at h7
   simp only[uG,tN hc (show letter c=false by simp [letter];omega),jT]
 simp only[cL] at h6 h7
 simp only[aB,seval]
 refine⟨i+1,by omega,⟨by omega,fun j u hj hu=>?_⟩,aP.mk ?_⟩
 · rcases mB j i with h8 | h8
   · exact dN j u h8 hu
   · obtain rfl:j=i:=by omega
     rw[hc] at hu;cases hu
     simp [letter];omega
 · have:=aZ (n:=(i:Int)+1)
   simp only[this,aB,seval]
abbrev aO4:=zi aX (zi cB (zi tB (zi a9U (zi d9 dD))))
theorem YB(s:ByteArray)(st:aA):aD prog 126 [.str s] st (fun r st'=>r=.bool (uG s)∧st'=st):=by
 refine wF [] 1 func126 ntmps126 rfl rfl ?_
 simp only[cV,AV.fits,dE]
 intro hs
 simp only[aB,seval,aO4]
 refine oJ (α:=Nat) [] (fun i=>i≤s.size∧∀(j:Nat) c,j<i→(sb s)[j]?=some c→letter c=true)
  (fun i=>[(0,.str s),(5,.int .i64 s.size),(6,.int .i64 i)]) (fun _=>st) (fun i=>s.size - i) (by decide +kernel)
  ⟨0,⟨by omega,by intro j x h;omega⟩,aP.mk (by simp only[aB,↓aW,seval])⟩ ?_
 intro i ⟨hi,dN⟩
 simp only[aB,seval]
 refine⟨fun h5=>?_,fun h5=>?_⟩
 case refine_2=>
  simp only[cL,g7] at h5
  have ha:(sb s).all letter=true:=JW fun j c hc=>dN j c (by have:=(fC.1 hc).1;rw[BP] at this;omega) hc
  simp only[aB,seval,aO4]
  refine(sD _ _ _ st).to ?_
  simp only[aB,seval]
  simp only[uG,ha,gM]
 simp only[bM,g7] at h5
 obtain⟨c,hc⟩:∃c,(sb s)[i]?=some c:=⟨_,eK (by rw[BP];exact h5)⟩
 have hx:=LX (P:=prog) (t:=9) B0 hc
 simp only[hx,aB,seval]
 refine cP (fun h6=>?_) (fun h6=>?_)
 case refine_2=>
  simp only[h6,aB,seval]
  simp only[kO,bM] at h6
  simp only[uG,tN hc (show letter c=false by simp [letter];omega),jT]
 simp only[h6,hx,aB,seval]
 refine⟨fun h7=>?_,fun h7=>?_⟩
 · simp only[aB,seval]
   simp only[bM] at h7
   simp only[uG,tN hc (show letter c=false by simp [letter];omega),jT]
 simp only[cL] at h6 h7
 simp only[aB,seval]
 refine⟨i+1,by omega,⟨by omega,fun j u hj hu=>?_⟩,aP.mk ?_⟩
 · rcases mB j i with h8 | h8
   · exact dN j u h8 hu
   · obtain rfl:j=i:=by omega
     rw[hc] at hu;cases hu
     simp [letter];omega
 · have:=aZ (n:=(i:Int)+1)
   simp only[this,aB,seval]
theorem aU0(s:ByteArray)(st:aA):aD prog 127 [.str s] st (fun r st'=>r=.bool (decide ((0:Int)<(jP s:Int)))∧st'=st):=by
 refine wF [] 1 func127 ntmps127 rfl rfl ?_
 intro _
 simp only[aB,seval]
 refine(aTZ s st).to ?_
 simp only[aB,seval]
abbrev a9C:=zi aX (zi cB (zi cI cC))
theorem GQ(k n:Int)(s:ByteArray)(ts:List Tm)(st:aA):aD prog 172 [(Tm.mk k n s ts).av] st (fun r st'=>r=.bool (decide (k=3)&&decide ((ts.length:Int)=0))∧st'=st):=by
 refine wF [] 1 func172 ntmps172 rfl rfl ?_
 intro _
 simp only[bD]
 repeat' (first
  | (simp only[*,aB,seval,a9C])
  | (refine cP (fun h=>?_) (fun h=>?_))
  | (refine aQ (fun h=>?_) (fun h=>?_)))
 all_goals simp_all
def xK:List ByteArray:=[⟨#[43]⟩,⟨#[45]⟩,⟨#[42]⟩,⟨#[47,47]⟩,⟨#[61]⟩,⟨#[92,61]⟩,⟨#[61,61]⟩,⟨#[60]⟩,⟨#[62]⟩,⟨#[61,60]⟩,⟨#[62,61]⟩,⟨#[61,58,61]⟩,⟨#[46]⟩,⟨#[91,93]⟩,⟨#[33]⟩]
theorem aWJ(st:aA):aD prog 171 [] st (fun r st'=>r=.fslice (xK.map .str)∧st'=st):=by
 refine wF [] 0 func171 ntmps171 rfl rfl ?_
 intro _
 simp only[xK,aB,seval,FD]
theorem aVI(st:aA):aD prog 184 [] st (fun r st'=>r=.fslice (xK.map .str)∧st'=st):=by
 refine wF [] 0 func184 ntmps184 rfl rfl ?_
 intro _
 simp only[xK,aB,seval,FD]
abbrev aO5:=zi aX (zi cB (zi d9 FD))
theorem aVD(l:List ByteArray)(s:ByteArray)(st:aA):aD prog 183 [.slice (l.map .str),.str s] st (fun r st'=>r=.bool (l.any fun x=>decide (x=s))∧st'=st):=by
 refine wF [] 2 func183 ntmps183 rfl rfl ?_
 simp only[cV,AV.fits,dE,aE]
 intro ⟨⟨hl,_⟩,_⟩
 simp only[aB,seval]
 refine oJ (α:=Nat) [] (fun i=>i≤l.length∧∀(j:Nat) x,j<i→l[j]?=some x→decide (x=s)=false)
  (fun i=>[(0,.slice (l.map .str)),(1,.str s),(5,.int .i64 i)]) (fun _=>st) (fun i=>l.length - i) (by decide +kernel)
  ⟨0,⟨by omega,by intro j x h;omega⟩,aP.mk (by simp only[aB,↓aW,seval])⟩ ?_
 intro i ⟨hi,dN⟩
 simp only[aE,aB,seval,aO5]
 refine⟨fun h5=>?_,fun h5=>?_⟩
 case refine_2=>
  simp only[aB,seval]
  simp only[cL,g7] at h5
  have:(l.any fun x=>decide (x=s))=false:=by
   rw[List.any_eq_false]
   intro x hx
   obtain⟨j,hj⟩:=CA hx
   simp [dN j x (by have:=(fC.1 hj).1;omega) hj]
  rw[this]
 simp only[bM,g7] at h5
 obtain⟨x,hx⟩:∃x,l[i]?=some x:=⟨_,eK h5⟩
 simp only[bH (av:=AV.str) QT hx rfl,aB,seval,aO5]
 refine⟨fun h6=>?_,fun h6=>?_⟩
 · simp only[aB,seval]
   have:(l.any fun x=>decide (x=s))=true:=by
    rw[List.any_eq_true]
    exact⟨x,cH hx,h6⟩
   rw[this]
 simp only[aB,seval]
 refine⟨i+1,by omega,⟨by omega,fun j u hj hu=>?_⟩,aP.mk ?_⟩
 · rcases mB j i with h8 | h8
   · exact dN j u h8 hu
   · obtain rfl:j=i:=by omega
     rw[hx] at hu;cases hu
     exact h6
 · have:=aZ (n:=(i:Int)+1)
   simp only[this,aB,seval]
abbrev aO6:=zi aX (zi d9 (zi dD FD))
theorem aTX(l:List ByteArray)(s:ByteArray)(st:aA):aD prog 185 [.slice (l.map .str),.str s] st (fun r st'=>(∃k:Int,r=.int .i64 k∧decide (0≤k)=l.any fun x=>decide (s=x))∧st'=st):=by
 refine wF [] 2 func185 ntmps185 rfl rfl ?_
 simp only[cV,AV.fits,dE,aE]
 intro ⟨⟨hl,_⟩,_⟩
 simp only[aE,aB,seval,aO6]
 refine oJ (α:=Nat) [] (fun i=>i≤l.length∧∀(j:Nat) x,j<i→l[j]?=some x→decide (s=x)=false)
  (fun i=>[(0,.slice (l.map .str)),(1,.str s),(7,.int .i64 l.length),(8,.int .i64 i)]) (fun _=>st) (fun i=>l.length - i) (by decide +kernel)
  ⟨0,⟨by omega,by intro j x h;omega⟩,aP.mk (by simp only[aB,↓aW,seval])⟩ ?_
 intro i ⟨hi,dN⟩
 simp only[aB,seval]
 refine⟨fun h5=>?_,fun h5=>?_⟩
 case refine_2=>
  simp only[aB,seval]
  simp only[cL,g7] at h5
  have:(l.any fun x=>decide (s=x))=false:=by
   rw[List.any_eq_false]
   intro x hx
   obtain⟨j,hj⟩:=CA hx
   simp [dN j x (by have:=(fC.1 hj).1;omega) hj]
  rw[this]
  exact⟨_,rfl,rfl⟩
 simp only[bM,g7] at h5
 obtain⟨x,hx⟩:∃x,l[i]?=some x:=⟨_,eK h5⟩
 simp only[bH (av:=AV.str) QT hx rfl,aB,seval,aO6]
 refine⟨fun h6=>?_,fun h6=>?_⟩
 · simp only[aB,seval]
   have:(l.any fun x=>decide (s=x))=true:=by
    rw[List.any_eq_true]
    exact⟨x,cH hx,h6⟩
   rw[this]
   exact⟨_,rfl,by simp⟩
 simp only[aB,seval]
 refine⟨i+1,by omega,⟨by omega,fun j u hj hu=>?_⟩,aP.mk ?_⟩
 · rcases mB j i with h8 | h8
   · exact dN j u h8 hu
   · obtain rfl:j=i:=by omega
     rw[hx] at hu;cases hu
     exact h6
 · have:=aZ (n:=(i:Int)+1)
   simp only[this,aB,seval]
theorem aTN(l:List ByteArray)(s:ByteArray)(st:aA):aD prog 170 [.slice (l.map .str),.str s] st (fun r st'=>r=.bool (l.any fun x=>decide (s=x))∧st'=st):=by
 refine wF [] 2 func170 ntmps170 rfl rfl ?_
 intro _
 simp only[aB,seval]
 refine(aTX l s st).mono ?_
 rintro _ _ ⟨⟨k,rfl,hk⟩,rfl⟩
 simp only[aB,seval]
 rw[←hk]
theorem PU(l:List ByteArray)(s:ByteArray)(st:aA):aD prog 170 [.fslice (l.map .str),.str s] st (fun r st'=>r=.bool (l.any fun x=>decide (s=x))∧st'=st):=
 aD.IB (by simp only[pB,AV.soft];exact aTN l s st)
theorem aVE(l:List ByteArray)(s:ByteArray)(st:aA):aD prog 183 [.fslice (l.map .str),.str s] st (fun r st'=>r=.bool (l.any fun x=>decide (x=s))∧st'=st):=
 aD.IB (by simp only[pB,AV.soft];exact aVD l s st)
def BG(s:ByteArray):Bool:=uG s||xK.any fun x=>decide (s=x)
theorem aRZ(s:ByteArray):(xK.any fun x=>decide (x=s))=xK.any fun x=>decide (s=x):=by
 congr 1
 funext x
 exact wN.2 ⟨Eq.symm,Eq.symm⟩
theorem aUW(s:ByteArray)(st:aA):aD prog 145 [.str s] st (fun r st'=>r=.bool (BG s)∧st'=st):=by
 refine wF [] 1 func145 ntmps145 rfl rfl ?_
 intro _
 repeat' (first
  | (simp only[*,aB,seval])
  | (refine cP (fun h=>?_) (fun h=>?_))
  | (refine(YB s st).to ?_) | (refine(aWJ st).to ?_) | (refine(PU xK s st).to ?_)
  | (refine aQ (fun h=>?_) (fun h=>?_)))
 all_goals simp only[BG, *,kO,B8,rS]
theorem aWE(s:ByteArray)(st:aA):aD prog 169 [.str s] st (fun r st'=>r=.bool (BG s)∧st'=st):=by
 refine wF [] 1 func169 ntmps169 rfl rfl ?_
 intro _
 repeat' (first
  | (simp only[*,aB,seval])
  | (refine cP (fun h=>?_) (fun h=>?_))
  | (refine(YH s st).to ?_) | (refine(aVI st).to ?_) | (refine(aVE xK s st).to ?_)
  | (refine aQ (fun h=>?_) (fun h=>?_)))
 all_goals simp only[BG,aRZ, *,kO,B8,rS]
end Go.AW
namespace Go.AW
def fB(k n:Int)(s:ByteArray)(len:Int):Bool:=
 cond (decide (k=1)) (decide ((0:Int)≤n)&&decide (n≤25)&&decide (s=⟨#[]⟩)&&decide (len=0))
  (cond (decide (k=2)) (decide ((-999:Int)≤n)&&decide (n≤999)&&decide (s=⟨#[]⟩)&&decide (len=0))
   (cond (decide (k=3)) (decide (n=0)&&BG s&&decide (len≤4)) false))
mutual
def Tm.shape:Tm→Int→Bool
 | .mk k n s ts,d=>decide (1≤d)&&fB k n s ts.length&&N4 ts (d - 1)
def N4:List Tm→Int→Bool
 | [],_=>true
 | t::ts,d=>t.shape d&&N4 ts d
end
theorem aQC:∀(ts:List Tm) (d:Int),N4 ts d=ts.all fun t=>t.shape d
 | [],_=>rfl
 | t::ts,d=>by simp only[N4,jK,aQC ts d]
theorem Tm.H9(k n:Int)(s:ByteArray)(ts:List Tm)(d:Int):(Tm.mk k n s ts).shape d=(decide (1≤d)&&fB k n s ts.length&&ts.all fun t=>t.shape (d - 1)):=by simp only[Tm.shape,aQC]
mutual
def Tm.nodes:Tm→Nat
 | .mk _ _ _ ts=>1+N0 ts
def N0:List Tm→Nat
 | []=>0
 | t::ts=>t.nodes+N0 ts
end
theorem aP8:∀(ts:List Tm),N0 ts=aH Tm.nodes ts
 | []=>rfl
 | t::ts=>by simp only[N0,aH,aP8 ts]
theorem Tm.lJ(k n:Int)(s:ByteArray)(ts:List Tm):(Tm.mk k n s ts).nodes=1+aH Tm.nodes ts:=by simp only[Tm.nodes,aP8]
def Tm.valid(t:Tm):Bool:=t.shape 30&&decide (t.nodes≤120)
end Go.AW
namespace Go.AW
open Go.Proofs.Tryz
abbrev a9H:=zi aX (zi cB (zi d9 (zi cI (zi dD cC))))
theorem aVG(k n:Int)(s:ByteArray)(ts:List Tm)(st:aA):aD prog 144 [(Tm.mk k n s ts).av] st (fun r st'=>r=.bool (fB k n s ts.length)∧st'=st):=by
 refine wF [] 1 func144 ntmps144 rfl rfl ?_
 intro _
 simp only[bD]
 have hl:(ts.map Tm.av).length=ts.length:=aE _
 repeat' (first
  | (simp only[*,aB,seval,a9H])
  | (refine cP (fun h=>?_) (fun h=>?_))
  | (refine(aWE s st).to ?_)
  | (refine aQ (fun h=>?_) (fun h=>?_)))
 all_goals simp only[fB, *,cond_true,cond_false,fG,gM,jT,xW,zQ]
abbrev M5:=zi aX (zi cB (zi cI cC))
theorem YG:∀(t:Tm) (d:Int) (st:aA),d≤30→-1≤d→aD prog 120 [t.av,.int .i64 d] st (fun r st'=>r=.bool (t.shape d)∧st'=st)
 | .mk k n s ts,d,st,hd,hd0=>by
  have hc:=fun(x:Tm) (hx:x∈ts) d st h h0=>YG x d st h h0
  have h1:=aVG k n s ts st
  rw[bD] at h1
  refine wF [] 2 func120 ntmps120 rfl rfl ?_
  simp only[bD,cV,AV.fits,dE,aE,Tm.H9]
  intro ⟨_,_,_,hl,_⟩
  generalize fB k n s ts.length=z at *
  simp only[aB,seval,M5]
  refine cP (fun h=>?_) (fun h=>?_)
  case refine_2=>
   simp only[h,aB,seval]
   simp only[kO,bM] at h
   simp;omega
  simp only[h,aB,seval,M5]
  refine h1.to ?_
  simp only[aB,seval]
  refine⟨fun h2=>?_,fun h2=>?_⟩
  · simp only[aB,seval]
    simp only[gZ] at h2
    simp [h2]
  simp only[kZ,cL] at h2 h
  subst h2
  have hw:=aZ (n:=d - 1)
  rw[show decide (1≤d)=true by simp;omega]
  simp only[aB,seval]
  refine oJ (α:=Nat) [] (fun i=>i≤ts.length∧∀(j:Nat) x,j<i→ts[j]?=some x→x.shape (d - 1)=true)
   (fun i=>[(1,.int .i64 d),(2,.pptr (.agg [.int .i64 k,.int .i64 n,.str s,.slice (ts.map Tm.av)])),(5,.int .i64 i)]) (fun _=>st) (fun i=>ts.length - i) (by decide +kernel)
   ⟨0,⟨by omega,by intro j x h;omega⟩,aP.mk (by simp only[aB,↓aW,seval])⟩ ?_
  intro i ⟨hi,dN⟩
  simp only[aE,aB,seval,M5]
  refine⟨fun h5=>?_,fun h5=>?_⟩
  case refine_2=>
   simp only[aB,seval]
   simp only[cL,g7] at h5
   rw[JW fun j x hx=>dN j x (by have:=(fC.1 hx).1;omega) hx]
  simp only[bM,g7] at h5
  obtain⟨x,hx⟩:∃x,ts[i]?=some x:=⟨_,eK h5⟩
  simp only[bH (av:=Tm.av) bY hx (aT x),cD,aT,hw,aB,seval,M5]
  refine(hc x (cH hx) (d - 1) st (by omega) (by omega)).to ?_
  simp only[aB,seval]
  refine⟨fun h6=>?_,fun h6=>?_⟩
  · simp only[aB,seval]
    simp only[gZ] at h6
    rw[tN hx h6]
  simp only[kZ] at h6
  simp only[aB,seval]
  refine⟨i+1,by omega,⟨by omega,fun j u hj hu=>?_⟩,aP.mk ?_⟩
  · rcases mB j i with h8 | h8
    · exact dN j u h8 hu
    · obtain rfl:j=i:=by omega
      rw[hx] at hu;cases hu;exact h6
  · have:=aZ (n:=(i:Int)+1)
    simp only[this,aB,seval]
termination_by t=>SizeOf.sizeOf t
decreasing_by have:=List.sizeOf_lt_of_mem hx;simp only[Tm.mk.sizeOf_spec];omega
abbrev UQ:=zi aX (zi cI cC)
theorem YE:∀(t:Tm) (m:Int) (st:aA),0≤m→m≤120→aD prog 121 [t.av,.int .i64 m] st (fun r st'=>r=.int .i64 (min (t.nodes:Int) (m+1))∧st'=st)
 | .mk k n s ts,m,st,hm0,hm=>by
  have hc:=fun(x:Tm) (hx:x∈ts) m st h h0=>YE x m st h h0
  refine wF [] 2 func121 ntmps121 rfl rfl ?_
  simp only[bD,cV,AV.fits,dE,aE,Tm.lJ]
  intro ⟨_,_,_,hl,_⟩
  simp only[aB,seval,UQ]
  refine oJ (α:=Nat) [] (fun i=>i≤ts.length)
   (fun i=>[(1,.int .i64 m),(2,.pptr (.agg [.int .i64 k,.int .i64 n,.str s,.slice (ts.map Tm.av)])),(5,.int .i64 (min ((1+aH Tm.nodes (ts.take i):Nat):Int) (m+1))),(6,.int .i64 i)]) (fun _=>st) (fun i=>ts.length - i) (by decide +kernel)
   ⟨0,by omega,aP.mk (by simp only[kE,aH,show min ((0:Int)+1) (m+1)=1 by omega,wR,↓I9,↓reduceIte,reduceCtorEq,Nat.reduceEqDiff,Nat.reduceAdd])⟩ ?_
  intro i hi
  simp only[aE,aB,seval,UQ]
  have RY:¬i<ts.length→aH Tm.nodes (ts.take i)=aH Tm.nodes ts:=fun h=>by rw[m9 (by omega)]
  refine cP (fun h5=>?_) (fun h5=>?_)
  case refine_2=>
   simp only[h5,aB,seval]
   simp only[fG,cL,g7] at h5
   rw[RY h5]
  simp only[h5,aB,seval]
  simp only[bM,g7] at h5
  obtain⟨x,hx⟩:∃x,ts[i]?=some x:=⟨_,eK h5⟩
  have hs:=rK Tm.nodes hx
  refine⟨fun h6=>?_,fun h6=>?_⟩
  case refine_2=>
   simp only[aB,seval]
   simp only[cL] at h6
   simp only[AV.int.injEq,true_and]
   omega
  simp only[bM] at h6
  have e6:min (((1+aH Tm.nodes (ts.take i):Nat):Int)) (m+1)=((1+aH Tm.nodes (ts.take i):Nat):Int):=by omega
  rw[e6] at h6 ⊢
  have hw:=aZ (n:=m - ((1+aH Tm.nodes (ts.take i):Nat):Int))
  simp only[bH (av:=Tm.av) bY hx (aT x),cD,aT,hw,aB,seval,UQ]
  refine(hc x (cH hx) _ st (by omega) (by omega)).to ?_
  have hw2:=aZ (n:=((1+aH Tm.nodes (ts.take i):Nat):Int)+min (x.nodes:Int) (m - ((1+aH Tm.nodes (ts.take i):Nat):Int)+1))
  simp only[hw2,aB,seval]
  refine⟨i+1,by omega,by omega,aP.mk ?_⟩
  have:=aZ (n:=(i:Int)+1)
  simp only[this,show((1+aH Tm.nodes (ts.take i):Nat):Int)+min (x.nodes:Int) (m - ((1+aH Tm.nodes (ts.take i):Nat):Int)+1)=min ((1+aH Tm.nodes (ts.take (i+1)):Nat):Int) (m+1) by omega,aB,seval]
termination_by t=>SizeOf.sizeOf t
decreasing_by have:=List.sizeOf_lt_of_mem hx;simp only[Tm.mk.sizeOf_spec];omega
abbrev aO9:=zi aX (zi cB (zi dD (zi cC aPY)))
theorem P6(t:Tm)(st:aA):aD prog 105 [t.av] st (fun r st'=>r=.bool t.valid∧st'=st):=by
 refine wF [] 1 func105 ntmps105 rfl rfl ?_
 intro _
 simp only[Tm.fP,cD,aT,aB,seval,aO9]
 refine(YG t 30 st (by omega) (by omega)).to ?_
 simp only[aB,seval]
 refine cP (fun h=>?_) (fun h=>?_)
 · simp only[h,cD,aT,aB,seval,aO9]
   refine(YE t 120 st (by omega) (by omega)).to ?_
   simp only[aB,seval]
   simp only[Tm.valid,h,gM,AV.bool.injEq,wN]
   omega
 · simp only[h,aB,seval]
   simp at h
   simp [Tm.valid,h]
abbrev a9G:=zi aX (zi cB (zi d9 (zi cI cC)))
theorem YJ(k n:Int)(s:ByteArray)(ts:List Tm)(st:aA):aD prog 133 [(Tm.mk k n s ts).av] st (fun r st'=>r=.bool (decide (k=3)&&decide (s=⟨#[33]⟩)&&decide ((ts.length:Int)=0))∧st'=st):=by
 refine wF [] 1 func133 ntmps133 rfl rfl ?_
 intro _
 simp only[bD]
 repeat' (first
  | (simp only[*,aB,seval,a9G])
  | (refine cP (fun h=>?_) (fun h=>?_))
  | (refine aQ (fun h=>?_) (fun h=>?_)))
 all_goals simp only[*,aE,jT]
abbrev aO8:=zi cB (zi d9 cC)
theorem YA(k n:Int)(s:ByteArray)(ts:List Tm)(st:aA):aD prog 150 [(Tm.mk k n s ts).av] st (fun r st'=>r=.bool (decide (k=3)&&decide ((ts.length:Int)=0)&&decide (s=⟨#[33]⟩))∧st'=st):=by
 have h1:=GQ k n s ts st
 rw[bD] at h1
 refine wF [] 1 func150 ntmps150 rfl rfl ?_
 intro _
 simp only[bD]
 simp only[aB,seval,aO8]
 refine h1.to ?_
 clear h1
 repeat' (first
  | (simp only[*,aB,seval,aO8])
  | (refine cP (fun h=>?_) (fun h=>?_))
  | (refine aQ (fun h=>?_) (fun h=>?_)))
 all_goals simp_all
abbrev aO7:=zi aX (zi cB (zi d9 (zi cI cC)))
theorem PX(k n:Int)(s:ByteArray)(ts:List Tm)(st:aA):aD prog 128 [(Tm.mk k n s ts).av] st (fun r st'=>r=.bool (decide (k=3)&&isBuiltin s (ts.length:Int))∧st'=st):=by
 have h1:=aUV s ts.length st
 refine wF [] 1 func128 ntmps128 rfl rfl ?_
 intro _
 simp only[bD]
 simp only[aB,seval,aO7]
 refine cP (fun h=>?_) (fun h=>?_)
 · simp only[h,aE,aB,seval,aO7]
   refine h1.to ?_
   clear h1
   simp only[aB,seval]
 · simp only[h,aB,seval]
   simp at h
   simp []
def rH(k:Int)(s:ByteArray)(len:Int):Bool:=decide (k=3)&&uG s&& !isBuiltin s len&&decide ((jP s:Int)=0)
abbrev a9E:=zi aX (zi cB (zi d9 cC))
theorem YC(k n:Int)(s:ByteArray)(ts:List Tm)(st:aA):aD prog 110 [(Tm.mk k n s ts).av] st (fun r st'=>r=.bool (rH k s (ts.length:Int))∧st'=st):=by
 have h1:=PX k n s ts st
 rw[bD] at h1
 have e:decide ((0:Int)<(jP s:Int))= !decide ((jP s:Int)=0):=by
  by_cases h:jP s=0
  · simp [h]
  · simp [h];omega
 have e3:∀b:Bool,k=3→(decide (k=3)&&b)=b:=fun b h=>by simp [h]
 refine wF [] 1 func110 ntmps110 rfl rfl ?_
 intro _
 simp only[bD]
 repeat' (first
  | (simp only[*,aB,seval,a9E])
  | (refine cP (fun h=>?_) (fun h=>?_))
  | (refine(YB s st).to ?_) | (refine(aU0 s st).to ?_) | (refine h1.to ?_)
  | (refine aQ (fun h=>?_) (fun h=>?_)))
 all_goals (clear h1;simp_all [rH])
abbrev a9D:=zi aX (zi cB (zi d9 (zi cI cC)))
theorem YK(k n:Int)(s:ByteArray)(ts:List Tm)(st:aA):aD prog 106 [(Tm.mk k n s ts).av] st (fun r st'=>r=.bool (rH k s (ts.length:Int))∧st'=st):=by
 refine wF [] 1 func106 ntmps106 rfl rfl ?_
 intro _
 simp only[bD]
 have hl:(ts.map Tm.av).length=ts.length:=aE _
 repeat' (first
  | (simp only[*,aB,seval,a9D])
  | (refine cP (fun h=>?_) (fun h=>?_))
  | (refine(YH s st).to ?_) | (refine(P5 s _ st).to ?_) | (refine(YI s st).to ?_)
  | (refine aQ (fun h=>?_) (fun h=>?_)))
 all_goals simp_all [rH]
def yN(k:Int)(s:ByteArray)(len:Int):Bool:=(decide (k=3)&&decide (s=⟨#[33]⟩)&&decide (len=0))||rH k s len||(decide (k=3)&&isBuiltin s len)
abbrev a9F:=zi aX (zi cB (zi d9 (zi cI cC)))
theorem aVL(k n:Int)(s:ByteArray)(ts:List Tm)(st:aA):aD prog 114 [(Tm.mk k n s ts).av] st (fun r st'=>r=.bool (yN k s (ts.length:Int))∧st'=st):=by
 have h1:=YJ k n s ts st
 have h2:=YK k n s ts st
 rw[bD] at h1 h2
 refine wF [] 1 func114 ntmps114 rfl rfl ?_
 intro _
 simp only[bD]
 have hl:(ts.map Tm.av).length=ts.length:=aE _
 unfold yN
 generalize (decide (k=3)&&decide (s=⟨#[33]⟩)&&decide ((ts.length:Int)=0))=z1 at *
 generalize rH k s (ts.length:Int)=z2 at *
 repeat' (first
  | (simp only[*,aB,seval,a9F])
  | (refine cP (fun h=>?_) (fun h=>?_))
  | (refine h1.to ?_) | (refine h2.to ?_) | (refine(P5 s _ st).to ?_)
  | (refine aQ (fun h=>?_) (fun h=>?_)))
 all_goals (clear h1 h2;simp_all)
theorem bAM{st:aA}{b:Nat}{o:AO}(h:st b=some o):st.aC b o=st:=by
 funext x;simp only[aA.aC];split
 · rename_i e;rw[e,h]
 · rfl
def H8(ok:Bool)(c n:Int)(b:Nat)(st:aA)(r:AV)(st':aA):Prop:=
 ∃c',r=.bool (decide (c+n≤120)&&ok)∧st'=st.aC b (.cells [.int .i64 c'])∧((decide (c+n≤120)&&ok)=true→c'=c+n)
abbrev a9I:=zi aX (zi cB (zi cC IV))
theorem aV9(x:Tm)(d c:Int)(b:Nat)(st:aA)(hd: -1000≤d)(hd1:d≤1000)
 (h:aD prog 125 [x.av,.int .i64 (d+1),.ptr b 0] st (H8 (x.shape (30 - d)) c x.nodes b st)) :
 aD prog 146 [x.av,.pptr (.int .i64 d),.pptr (.ptr b 0)] st (fun r st'=>∃c',r=.bool (!(decide (c+x.nodes≤120)&&x.shape (30 - d)))∧st'=st.aC b (.cells [.int .i64 c'])∧((decide (c+(x.nodes:Int)≤120)&&x.shape (30 - d))=true→c'=c+x.nodes)):=by
 have hw:=aZ (n:=d+1)
 refine wF [] 3 func146 ntmps146 rfl rfl ?_
 intro _
 simp only[hw,Tm.fP,cD,aT,aB,seval,a9I]
 refine h.mono ?_
 rintro _ _ ⟨c',rfl,rfl,hc⟩
 simp only[aB,seval]
 refine⟨c',?_⟩
 first | exact hc | exact⟨rfl,rfl,hc⟩ | exact⟨rfl,hc⟩ | trace_state
abbrev aPA:=zi aX (zi cI (zi dD cC))
theorem aTY(l:List Tm)(d c:Int)(b:Nat)(st:aA)(hd: -1000≤d)(hd1:d≤1000)(hb:st b=some (.cells [.int .i64 c]))(hc0:0≤c)(hc1:c≤120)
 (h:∀x∈l,∀(c:Int) (st:aA),st b=some (.cells [.int .i64 c])→0≤c→c≤120→aD prog 125 [x.av,.int .i64 (d+1),.ptr b 0] st (H8 (x.shape (30 - d)) c x.nodes b st)) :
 aD prog 149 [.slice (l.map Tm.av),.func 146 [.pptr (.int .i64 d),.pptr (.ptr b 0)]] st
  (fun r st'=>∃j c',r=.int .i64 j∧decide (0≤j)=(!(decide (c+(aH Tm.nodes l:Int)≤120)&&l.all fun t=>t.shape (30 - d)))∧st'=st.aC b (.cells [.int .i64 c'])∧(decide (0≤j)=false→c'=c+(aH Tm.nodes l:Int))):=by
 refine wF [] 2 func149 ntmps149 rfl rfl ?_
 simp only[cV,AV.fits,dE,aE]
 intro ⟨hl,_⟩
 simp only[aE,aB,seval,aPA]
 refine oJ (α:=Nat) [] (fun i=>i≤l.length∧c+(aH Tm.nodes (l.take i):Int)≤120∧∀(j:Nat) x,j<i→l[j]?=some x→x.shape (30 - d)=true)
  (fun i=>[(0,.slice (l.map Tm.av)),(1,.func 146 [.pptr (.int .i64 d),.pptr (.ptr b 0)]),(7,.int .i64 l.length),(8,.int .i64 i)]) (fun i=>st.aC b (.cells [.int .i64 (c+(aH Tm.nodes (l.take i):Int))])) (fun i=>l.length - i) (by decide +kernel)
  ⟨0,⟨by omega,by simp only[kE,aH];omega,by intro j x h;omega⟩,by
   simp only[kE,aH]
   rw[show c+((0:Nat):Int)=c by omega,bAM hb]
   exact aP.mk (by simp only[aB,↓aW,seval])⟩ ?_
 intro i ⟨hi,yS,dN⟩
 simp only[aB,seval]
 refine⟨fun h5=>?_,fun h5=>?_⟩
 case refine_2=>
  simp only[aB,seval]
  simp only[cL,g7] at h5
  rw[m9 (by omega)] at yS ⊢
  have ha:(l.all fun t=>t.shape (30 - d))=true:=JW fun j x hx=>dN j x (by have:=(fC.1 hx).1;omega) hx
  exact⟨-1,_,rfl,by rw[ha];simp<;>omega,rfl,fun _=>rfl⟩
 simp only[bM,g7] at h5
 obtain⟨x,hx⟩:∃x,l[i]?=some x:=⟨_,eK h5⟩
 have hs:=rK Tm.nodes hx
 simp only[bH (av:=Tm.av) bY hx (aT x),cD,aT,aB,seval,aPA]
 refine(aV9 x d (c+(aH Tm.nodes (l.take i):Int)) b _ hd hd1 (h x (cH hx) _ _ (aA.aJ _ _ _) (by omega) yS)).mono ?_
 rintro _ _ ⟨c',rfl,rfl,hc'⟩
 simp only[dR,aB,seval]
 refine⟨fun h6=>?_,fun h6=>?_⟩
 · simp only[aB,seval]
   refine⟨i,c',rfl,?_,rfl,fun h7=>absurd h7 (by simp)⟩
   simp only[gZ,Bool.and_eq_false_iff,cL] at h6
   rcases h6 with h6 | h6
   · rw[show decide (c+(aH Tm.nodes l:Int)≤120)=false by simp;omega]
     simp
   · rw[tN hx h6]
     simp
 simp only[kZ] at h6
 rw[hc' h6]
 simp only[cY,bM] at h6
 simp only[aB,seval]
 refine⟨i+1,by omega,⟨by omega,by omega,fun j u hj hu=>?_⟩,?_⟩
 · rcases mB j i with h8 | h8
   · exact dN j u h8 hu
   · obtain rfl:j=i:=by omega
     rw[hx] at hu;cases hu;exact h6.2
 · rw[show c+(aH Tm.nodes (l.take i):Int)+(x.nodes:Int)=c+(aH Tm.nodes (l.take (i+1)):Int) by omega]
   have:=aZ (n:=(i:Int)+1)
   exact aP.mk (by simp only[this,aB,seval])
theorem aTO(l:List Tm)(d c:Int)(b:Nat)(st:aA)(hd: -1000≤d)(hd1:d≤1000)(hb:st b=some (.cells [.int .i64 c]))(hc0:0≤c)(hc1:c≤120)
 (h:∀x∈l,∀(c:Int) (st:aA),st b=some (.cells [.int .i64 c])→0≤c→c≤120→aD prog 125 [x.av,.int .i64 (d+1),.ptr b 0] st (H8 (x.shape (30 - d)) c x.nodes b st)) :
 aD prog 129 [.slice (l.map Tm.av),.func 146 [.pptr (.int .i64 d),.pptr (.ptr b 0)]] st
  (fun r st'=>∃c',r=.bool (!(decide (c+(aH Tm.nodes l:Int)≤120)&&l.all fun t=>t.shape (30 - d)))∧st'=st.aC b (.cells [.int .i64 c'])∧((decide (c+(aH Tm.nodes l:Int)≤120)&&l.all fun t=>t.shape (30 - d))=true→c'=c+(aH Tm.nodes l:Int))):=by
 have h1:=aTY l d c b st hd hd1 hb hc0 hc1 h
 refine wF [] 2 func129 ntmps129 rfl rfl ?_
 intro _
 simp only[aB,seval]
 refine h1.mono ?_
 rintro _ _ ⟨j,c',rfl,hj,rfl,hc⟩
 simp only[aB,seval]
 refine⟨c',by rw[hj],rfl,fun h=>hc (by rw[hj,h];try rfl)⟩
abbrev zD:=zi aX (zi cB (zi d9 (zi iQ (zi cI (zi dD (zi cC IV))))))
theorem Y1:∀(t:Tm) (d c:Int) (b:Nat) (st:aA),st b=some (.cells [.int .i64 c])→0≤c→c≤120→0≤d→d≤31→aD prog 125 [t.av,.int .i64 d,.ptr b 0] st (H8 (t.shape (31 - d)) c t.nodes b st)
 | .mk k n s ts,d,c,b,st,hb,hc0,hc1,hd0,hd1=>by
  have hk:=fun(st:aA) (hb:st b=some (.cells [.int .i64 (c+1)])) (h1:c+1≤120) (h2:d≤30)=>aTO ts d (c+1) b st (by omega) (by omega) hb (by omega) h1 fun x hx c st hb hc0 hc1=>by
   have:=Y1 x (d+1) c b st hb hc0 hc1 (by omega) (by omega)
   rw[show(31:Int) - (d+1)=30 - d by omega] at this
   exact this
  have hw:=aZ (n:=c+1)
  unfold H8
  rw[Tm.lJ,Tm.H9]
  refine wF [] 3 func125 ntmps125 rfl rfl ?_
  simp only[bD,cV,AV.fits,dE,aE]
  intro ⟨_,_,_,hl,_⟩
  simp only[hb,aM,hw,aB,seval,zD]
  have hL:(ts.map Tm.av).length=ts.length:=aE _
  have fM:∀(v:Bool),v=(decide (c+((1+aH Tm.nodes ts:Nat):Int)≤120)&&(decide (1≤31 - d)&&fB k n s ts.length&&ts.all fun t=>t.shape (31 - d - 1)))→(v=true→ts= []) →
   ∃c',AV.bool v=AV.bool (decide (c+((1+aH Tm.nodes ts:Nat):Int)≤120)&&(decide (1≤31 - d)&&fB k n s ts.length&&ts.all fun t=>t.shape (31 - d - 1)))∧st.aC b (.cells [.int .i64 (c+1)])=st.aC b (.cells [.int .i64 c'])∧((decide (c+((1+aH Tm.nodes ts:Nat):Int)≤120)&&(decide (1≤31 - d)&&fB k n s ts.length&&ts.all fun t=>t.shape (31 - d - 1)))=true→c'=c+((1+aH Tm.nodes ts:Nat):Int)):=
   fun v h1 h2=>⟨c+1,by rw[h1],rfl,fun h3=>by rw[h2 (h1.trans h3)];simp [aH]⟩
  refine cP (fun h1=>?_) (fun h1=>?_)
  case refine_2=>
   simp only[h1,aB,seval]
   simp only[kO,bM] at h1
   refine fM false ?_ (by intro h;cases h)
   rw[show decide (c+((1+aH Tm.nodes ts:Nat):Int)≤120)=false by simp;omega]
   try rfl
  simp only[h1,aB,seval,zD]
  refine⟨fun h2=>?_,fun h2=>?_⟩
  · simp only[aB,seval]
    simp only[bM] at h2
    refine fM false ?_ (by intro h;cases h)
    rw[show decide (1≤31 - d)=false by simp;omega]
    simp
  simp only[cL] at h1 h2
  rw[show decide (1≤31 - d)=true by simp;omega] at fM ⊢
  simp only[gM] at fM ⊢
  rw[show 31 - d - 1=30 - d by omega] at fM ⊢
  -- no kids
  have aLC:∀q:Bool,(∀h:ts= [],fB k n s ts.length=q)→(ts≠[]→fB k n s ts.length=false)→(q&&decide ((ts.length:Int)=0))=(decide (c+((1+aH Tm.nodes ts:Nat):Int)≤120)&&(fB k n s ts.length&&ts.all fun t=>t.shape (30 - d))):=by
   intro q hq1 hq2
   by_cases ht:ts= []
   · rw[hq1 ht];subst ht
     have e:c+((1+aH Tm.nodes []:Nat):Int)≤120:=by simp only[aH];omega
     rw[vC e]
     simp
   · rw[hq2 ht]
     have:¬(ts.length:Int)=0:=by intro h;exact ht (rT (by omega))
     rw[wO this]
     simp
  simp only[aB,seval,zD]
  refine aQ (fun hk1=>?_) (fun hk1=>?_)
  · simp only[bM] at hk1
    subst hk1
    simp only[aB,seval,zD]
    refine(sD _ _ _ _).to ?_
    repeat' (first
     | (simp only[*,aB,seval,zD])
     | (refine cP (fun h=>?_) (fun h=>?_))
     | (refine aQ (fun h=>?_) (fun h=>?_)))
    all_goals first
     | (refine fM false ?_ (by intro h;cases h);rw[show fB 1 n s ts.length=false by first | (simp only[fB, *,fG,jT,xW];done) | (simp_all [fB];done) | (simp_all [fB];intro a e;have:=h a;omega)];simp;done)
     | (refine fM _ ?_ (fun h=>rT (by simpa using h));rw[←aLC true (fun h=>by simp_all [fB]) (fun h=>by simp [fB,h])];simp;done)
  simp only[cL] at hk1
  simp only[aB,seval]
  refine aQ (fun hk2=>?_) (fun hk2=>?_)
  · simp only[bM] at hk2
    subst hk2
    simp only[aB,seval,zD]
    refine(sD _ _ _ _).to ?_
    repeat' (first
     | (simp only[*,aB,seval,zD])
     | (refine cP (fun h=>?_) (fun h=>?_))
     | (refine aQ (fun h=>?_) (fun h=>?_)))
    all_goals first
     | (refine fM false ?_ (by intro h;cases h);rw[show fB 2 n s ts.length=false by first | (simp only[fB, *,fG,jT,xW];done) | (simp_all [fB];done) | (simp_all [fB];intro a e;have:=h a;omega)];simp;done)
     | (refine fM _ ?_ (fun h=>rT (by simpa using h));rw[←aLC true (fun h=>by simp_all [fB]) (fun h=>by simp [fB,h])];simp;done)
  simp only[cL] at hk2
  simp only[aB,seval]
  refine aQ (fun hk3=>?_) (fun hk3=>?_)
  case refine_2=>
   simp only[cL] at hk3
   simp only[aB,seval]
   refine fM false ?_ (by intro h;cases h)
   rw[show fB k n s ts.length=false by simp [fB,hk1,hk2,hk3]]
   simp
  simp only[bM] at hk3
  subst hk3
  have hk':=fun st hb=>hk st hb (by omega) (by omega)
  clear hk
  repeat' (first
   | (simp only[*,aB,seval,zD])
   | (refine cP (fun h=>?_) (fun h=>?_))
   | (refine(aUW s _).to ?_)
   | (refine aQ (fun h=>?_) (fun h=>?_)))
  all_goals first
   | (refine fM false ?_ (by intro h;cases h);rw[show fB 3 n s ts.length=false by(simp_all [fB];done)];simp;done)
   | skip
  refine(hk' _ (aA.aJ _ _ _)).mono ?_
  rintro _ _ ⟨c',rfl,rfl,hc'⟩
  simp only[dR,aB,seval]
  have ho:fB 3 n s ts.length=true:=by simp_all [fB]
  rw[ho,show c+((1+aH Tm.nodes ts:Nat):Int)=c+1+(aH Tm.nodes ts:Int) by omega]
  simp only[gM,Bool.not_not]
  first | exact⟨c',trivial,rfl,hc'⟩ | exact⟨c',rfl,rfl,hc'⟩
termination_by t=>SizeOf.sizeOf t
decreasing_by have:=List.sizeOf_lt_of_mem hx;simp only[Tm.mk.sizeOf_spec];omega
abbrev a9J:=zi aX (zi cB (zi dD (zi cC IV)))
theorem X9(t:Tm)(st:aA):aD prog 109 [t.av] st (fun r st'=>r=.bool t.valid∧st'=st):=by
 have hd:aD prog 109 [t.av] st (fun r st'=>aO st' st∧r=.bool t.valid):=by
  refine wF [] 1 func109 ntmps109 rfl rfl ?_
  intro _
  simp only[Tm.fP,cD,aT,aB,seval,a9J]
  intro b hb
  simp only[aM,aB,seval]
  refine(Y1 t 1 0 b _ (aA.aJ _ _ _) (by omega) (by omega) (by omega) (by omega)).mono ?_
  rintro _ _ ⟨c',rfl,rfl,_⟩
  simp only[dR,wR,↓reduceIte]
  refine⟨(aO.refl st).aC hb,?_⟩
  simp only[Tm.valid,AV.bool.injEq]
  rw[Bool.and_comm,show(31:Int) - 1=30 from rfl]
  congr 1
  simp only[wN]
  omega
 exact hd.drop
def Tm.goal:Tm→Bool
 | .mk k n s ts=>(Tm.mk k n s ts).valid&&yN k s ts.length
abbrev aPB:=zi cB cC
theorem Y4:∀(t:Tm) (st:aA),aD prog 103 [t.av] st (fun r st'=>r=.bool t.goal∧st'=st)
 | .mk k n s ts,st=>by
  have h1:=P6 (.mk k n s ts) st
  have h2:=aVL k n s ts st
  rw[show(Tm.mk k n s ts).goal=((Tm.mk k n s ts).valid&&yN k s ts.length) from rfl]
  generalize (Tm.mk k n s ts).valid=z at *
  rw[bD] at *
  refine wF [] 1 func103 ntmps103 rfl rfl ?_
  intro _
  simp only[aB,seval,aPB]
  refine h1.to ?_
  simp only[aB,seval]
  refine cP (fun h=>?_) (fun h=>?_)
  · simp only[h,aB,seval,aPB]
    refine h2.to ?_
    simp only[aB,seval]
  · simp only[h,aB,seval]
    simp at h
    simp []
abbrev a9K:=zi cB cC
theorem aUU:∀(t:Tm) (st:aA),aD prog 131 [t.av] st (fun r st'=>r=.bool t.goal∧st'=st)
 | .mk k n s ts,st=>by
  have h1:=X9 (.mk k n s ts) st
  have h2:=YC k n s ts st
  have h3:=PX k n s ts st
  have h4:=YA k n s ts st
  rw[show(Tm.mk k n s ts).goal=((Tm.mk k n s ts).valid&&yN k s ts.length) from rfl]
  unfold yN
  generalize (Tm.mk k n s ts).valid=z at *
  generalize rH k s (ts.length:Int)=z2 at *
  generalize (decide (k=3)&&isBuiltin s (ts.length:Int))=z3 at *
  rw[show(decide (k=3)&&decide (s=⟨#[33]⟩)&&decide ((ts.length:Int)=0))=(decide (k=3)&&decide ((ts.length:Int)=0)&&decide (s=⟨#[33]⟩)) from by cases decide (k=3)<;>cases decide (s=⟨#[33]⟩)<;>cases decide ((ts.length:Int)=0)<;>rfl]
  generalize (decide (k=3)&&decide ((ts.length:Int)=0)&&decide (s=⟨#[33]⟩))=z4 at *
  rw[bD] at *
  refine wF [] 1 func131 ntmps131 rfl rfl ?_
  intro _
  repeat' (first
   | (simp only[*,aB,seval,a9K])
   | (refine cP (fun h=>?_) (fun h=>?_))
   | (refine h1.to ?_) | (refine h2.to ?_) | (refine h3.to ?_) | (refine h4.to ?_)
   | (refine aQ (fun h=>?_) (fun h=>?_)))
  all_goals (clear h1 h2 h3 h4;simp_all)
end Go.AW
namespace Go.AW
abbrev Cl:=Tm×List Tm
def aG:Cl→AV
 | (.mk k n s ts,b)=>.agg [.int .i64 k,.int .i64 n,.str s,.slice (ts.map Tm.av),.slice (b.map Tm.av)]
theorem mQ(k n:Int)(s:ByteArray)(ts b:List Tm):aG (.mk k n s ts,b)=.agg [.int .i64 k,.int .i64 n,.str s,.slice (ts.map Tm.av),.slice (b.map Tm.av)]:=rfl
theorem nU(c:Cl):(aG c).isAgg=true:=by obtain⟨⟨k,n,s,ts⟩,b⟩:=c;rfl
theorem fQ(c:Cl):(aG c).width=5:=by obtain⟨⟨k,n,s,ts⟩,b⟩:=c;rfl
theorem QF(c:Cl):(aG c).cells.length=5:=by obtain⟨⟨k,n,s,ts⟩,b⟩:=c;rfl
theorem DB(c:Cl):(aG c).cells.all AV.storable=true:=by obtain⟨⟨k,n,s,ts⟩,b⟩:=c;rfl
theorem GW(c:Cl):(aG c).bV=false:=by obtain⟨⟨k,n,s,ts⟩,b⟩:=c;rfl
def vB(x y:Cl):Bool:=x.1.same y.1&&jL Tm.same x.2 y.2
theorem aXA(x:Cl):vB x x=true:=by
 unfold vB
 rw[(Tm.ET x.1 x.1).2 rfl,(KS (fun x _ y=>Tm.ET x y)).2 rfl]
 try rfl
def mR(c:Cl):Nat:=c.1.sz+(c.2.length+aH Tm.sz c.2)
def fF:Cl→Nat
 | (.mk _ _ _ ts,b)=>3+aH Tm.dB ts+aH Tm.dB b
def nV:Cl→Int→Cl
 | (.mk _ _ _ ts,b),j=>(.mk j (j+1) (mt (j+1+1)) (dX Tm.mark Tm.dB ts (j+1+1+1)),dX Tm.mark Tm.dB b (j+1+1+1+(aH Tm.dB ts:Nat)))
theorem KJ(k n:Int)(s:ByteArray)(ts b:List Tm):fF (.mk k n s ts,b)=3+aH Tm.dB ts+aH Tm.dB b:=rfl
def S4:Tm→Bool | .mk k _ s ts=>rH k s (ts.length:Int)
def sE(c:Cl):Bool:=c.1.valid&&S4 c.1&&(decide (c.2.length≤6)&&c.2.all Tm.goal)
def qG(p:List Cl):Bool:=decide (p.length≤20)&&p.all sE
theorem MF{st:aA}{k n:Int}{s:ByteArray}{ts b:List Tm}{o:AV}{bs:List Nat} :
 aS st (aG (.mk k n s ts,b)) o bs↔∃q b1 q' b2,o=.agg [.int .i64 k,.int .i64 n,.str s,q,q']∧bs=b1++b2∧aS st (.slice (ts.map Tm.av)) q b1∧aS st (.slice (b.map Tm.av)) q' b2:=by
 rw[mQ]
 generalize AV.slice (ts.map Tm.av)=x
 generalize AV.slice (b.map Tm.av)=y
 simp only[aS,aV]
 constructor
 · rintro⟨os,rfl,o1,os1,b1,b1',rfl,rfl,⟨rfl,rfl⟩,o2,os2,b2,b2',rfl,rfl,⟨rfl,rfl⟩,o3,os3,b3,b3',rfl,rfl,⟨rfl,rfl⟩,o4,os4,b4,b4',rfl,rfl,h,o6,os6,b6,b6',rfl,rfl,h',rfl,rfl⟩
   exact⟨o4,b4,o6,b6,rfl,by simp,h,h'⟩
 · rintro⟨q,b1,q',b2,rfl,rfl,h,h'⟩
   exact⟨_,rfl,_,_,[],b1++b2,rfl,rfl,⟨rfl,rfl⟩,_,_,[],b1++b2,rfl,rfl,⟨rfl,rfl⟩,_,_,[],b1++b2,rfl,rfl,⟨rfl,rfl⟩,q,_,b1,b2,rfl,rfl,h,q',[],b2,[],rfl,by simp,h',rfl,rfl⟩
end Go.AW
namespace Go.AW
open Go.Proofs.Tryz
abbrev aPV:=zi aX (zi cI (zi dD cC))
theorem aTV(l:List Tm)(g:FuncId)(cU:List AV)(p:Tm→Bool)(st:aA)(hc:∀x∈l,aD prog g ([Tm.av x]++cU) st (fun r st'=>r=.bool (p x)∧st'=st)) :
 aD prog 149 [.slice (l.map Tm.av),.func g cU] st (fun r st'=>∃j:Int,r=.int .i64 j∧decide (0≤j)=l.any p∧st'=st):=by
 refine wF [] 2 func149 ntmps149 rfl rfl ?_
 simp only[cV,AV.fits,dE,aE]
 intro ⟨hl,_⟩
 simp only[aE,aB,seval,aPV]
 refine dI (σ:=Unit) [] [0,1,7] l (fun i _=>(l.drop i).any p=l.any p) (fun i _=>[(8,.int .i64 i)]) (fun _ _=>st) (by decide +kernel) ⟨(),rfl,aP.mk (by simp only[aB,↓aW,seval])⟩ (fun i x _ hx hlt a7 hdr hinv=>?_) (fun _ hge hinv=>?_)
 case refine_2=>
  simp only[hge,aB,seval]
  rw[iA] at hinv
  exact⟨-1,rfl,by rw[←hinv];try rfl⟩
 rw[hdr,x6] at hinv
 have hw:=aZ (n:=(i:Int)+1)
 simp only[a7,bH (av:=Tm.av) bY hx (aT x),cD,aT,aB,seval,aPV]
 refine(hc x (cH hx)).to ?_
 simp only[aB,seval]
 refine aQ (fun h=>?_) (fun h=>?_)
 · simp only[aB,seval]
   exact⟨i,rfl,by rw[←hinv,h];simp⟩
 · rw[h,rS] at hinv
   simp only[aB,seval]
   exact⟨(),hinv,aP.mk (by simp only[hw,aB,seval])⟩
theorem aTK(l:List Tm)(g:FuncId)(cU:List AV)(p:Tm→Bool)(st:aA)(hc:∀x∈l,aD prog g ([Tm.av x]++cU) st (fun r st'=>r=.bool (p x)∧st'=st)) :
 aD prog 129 [.slice (l.map Tm.av),.func g cU] st (fun r st'=>r=.bool (l.any p)∧st'=st):=by
 refine wF [] 2 func129 ntmps129 rfl rfl ?_
 intro _
 simp only[aB,seval]
 refine(aTV l g cU p st hc).mono ?_
 rintro _ _ ⟨j,rfl,hj,rfl⟩
 simp only[hj,aB,seval]
theorem GM{α:Type}(p:α→Bool):∀l:List α,(!(l.any fun x=> !p x))=l.all p
 | []=>rfl
 | x::l=>by rw[x6,jK,←GM p l];cases p x<;>simp
abbrev a9R:=zi cB cC
theorem aUO(t:Tm)(st:aA):aD prog 130 [t.av] st (fun r st'=>r=.bool (!t.goal)∧st'=st):=by
 refine wF [] 1 func130 ntmps130 rfl rfl ?_
 intro _
 simp only[Tm.fP,cD,aT,aB,seval,a9R]
 refine(aUU t st).to ?_
 simp only[aB,seval]
def rI(l:List Tm):Bool:=decide (l.length≤6)&&l.all Tm.goal
abbrev a9Q:=zi aX (zi cB cI)
theorem XU(l:List Tm)(st:aA):aD prog 111 [.slice (l.map Tm.av)] st (fun r st'=>r=.bool (rI l)∧st'=st):=by
 refine wF [] 1 func111 ntmps111 rfl rfl ?_
 simp only[cV,AV.fits,dE,aE]
 intro _
 unfold rI
 simp only[aE,aB,seval,a9Q]
 refine cP (fun h=>?_) (fun h=>?_)
 · simp only[bM] at h
   rw[show decide (l.length≤6)=true by simp;omega]
   simp only[h,aB,seval]
   refine(aTK l _ [] (fun t=> !t.goal) st fun x _=>aUO x st).to ?_
   simp only[GM,aB,seval]
 · simp only[fG,cL] at h
   rw[show decide (l.length≤6)=false by simp;omega]
   simp only[h,aB,seval]
   rfl
theorem X7(l:List Tm)(st:aA):aD prog 96 [.slice (l.map Tm.av)] st (fun r st'=>r=.bool (rI l)∧st'=st):=by
 refine wF [] 1 func96 ntmps96 rfl rfl ?_
 intro _
 simp only[aB,seval]
 refine(XU l st).to ?_
 simp only[aB,seval]
abbrev NH:=zi aX (zi cB (zi cI cC))
theorem aWF(l:List Tm)(st:aA):aD prog 85 [.slice (l.map Tm.av)] st (fun r st'=>r=.bool (rI l)∧st'=st):=by
 refine wF [] 1 func85 ntmps85 rfl rfl ?_
 simp only[cV,AV.fits,dE,aE]
 intro ⟨hl,_⟩
 simp only[aB,seval]
 refine dI (σ:=Unit) [] [0] l (fun i _=>i≤7∧(l.take i).all Tm.goal=true) (fun i _=>[(3,.int .i64 i)]) (fun _ _=>st) (by decide +kernel) ⟨(),⟨by omega,by simp⟩,aP.mk (by simp only[aB,↓aW,seval])⟩ (fun i x _ hx hlt a7 hdr hinv=>?_) (fun _ hge hinv=>?_)
 case refine_2=>
  obtain⟨i1,i2⟩:=hinv
  rw[eD] at i2
  simp only[aE,hge,aB,seval,NH]
  simp only[rI,i2,zQ,AV.bool.injEq,wN]
  omega
 obtain⟨i1,i2⟩:=hinv
 have hw:=aZ (n:=(i:Int)+1)
 simp only[aE,a7,aB,seval,NH]
 refine aQ (fun h=>?_) (fun h=>?_)
 case refine_2=>
  simp only[cL] at h
  simp only[aE,aB,seval,NH]
  simp only[rI,AV.bool.injEq]
  rw[show decide (l.length≤6)=false by simp;omega,show decide ((l.length:Int)≤6)=false by simp;omega]
  try rfl
 simp only[bM] at h
 simp only[bH (av:=Tm.av) bY hx (aT x),cD,aT,aB,seval,NH]
 refine(Y4 x st).to ?_
 simp only[aB,seval]
 refine aQ (fun h2=>?_) (fun h2=>?_)
 · simp only[gZ] at h2
   simp only[aB,seval]
   have:l.all Tm.goal=false:=tN hx h2
   simp only[rI,this,xW]
 · simp only[kZ] at h2
   simp only[aB,seval]
   refine⟨(),⟨by omega,?_⟩,aP.mk (by simp only[hw,aB,seval])⟩
   rw[fN,hx,xZ,i2]
   simp [h2]
abbrev aOO:=zi aX (zi gL (zi dD kX))
theorem aTS(l:List Cl)(g:FuncId)(cU:List AV)(p:Cl→Bool)(st:aA)(hc:∀x∈l,aD prog g ([aG x]++cU) st (fun r st'=>r=.bool (p x)∧st'=st)) :
 aD prog 108 [.slice (l.map aG),.func g cU] st (fun r st'=>∃j:Int,r=.int .i64 j∧decide (0≤j)=l.any p∧st'=st):=by
 refine wF [] 2 func108 ntmps108 rfl rfl ?_
 simp only[cV,AV.fits,dE,aE]
 intro ⟨hl,_⟩
 simp only[aE,aB,seval,aOO]
 refine dI (σ:=Unit) [] [0,1,7] l (fun i _=>(l.drop i).any p=l.any p) (fun i _=>[(8,.int .i64 i)]) (fun _ _=>st) (by decide +kernel) ⟨(),rfl,aP.mk (by simp only[aB,↓aW,seval])⟩ (fun i x _ hx hlt a7 hdr hinv=>?_) (fun _ hge hinv=>?_)
 case refine_2=>
  simp only[hge,aB,seval]
  rw[iA] at hinv
  exact⟨-1,rfl,by rw[←hinv];try rfl⟩
 rw[hdr,x6] at hinv
 have hw:=aZ (n:=(i:Int)+1)
 simp only[a7,bH (av:=aG) lD hx (fQ x),nU,fQ,aB,seval,aOO]
 refine(hc x (cH hx)).to ?_
 simp only[aB,seval]
 refine aQ (fun h=>?_) (fun h=>?_)
 · simp only[aB,seval]
   exact⟨i,rfl,by rw[←hinv,h];simp⟩
 · rw[h,rS] at hinv
   simp only[aB,seval]
   exact⟨(),hinv,aP.mk (by simp only[hw,aB,seval])⟩
theorem aTH(l:List Cl)(g:FuncId)(cU:List AV)(p:Cl→Bool)(st:aA)(hc:∀x∈l,aD prog g ([aG x]++cU) st (fun r st'=>r=.bool (p x)∧st'=st)) :
 aD prog 93 [.slice (l.map aG),.func g cU] st (fun r st'=>r=.bool (l.any p)∧st'=st):=by
 refine wF [] 2 func93 ntmps93 rfl rfl ?_
 intro _
 simp only[aB,seval]
 refine(aTS l g cU p st hc).mono ?_
 rintro _ _ ⟨j,rfl,hj,rfl⟩
 simp only[hj,aB,seval]
abbrev UC:=zi cB (zi cI (zi cC kX))
theorem aUS(c:Cl)(st:aA):aD prog 95 [aG c] st (fun r st'=>r=.bool (sE c)∧st'=st):=by
 obtain⟨⟨k,n,s,ts⟩,b⟩:=c
 have hv:=fun st=>X9 (.mk k n s ts) st
 have hp:=fun st=>YC k n s ts st
 simp only[bD] at hv hp
 have hg:=fun st=>XU b st
 simp only[mQ,sE,S4]
 simp only[rI] at hg
 generalize (Tm.mk k n s ts).valid=v at *
 refine wF [1000000] 1 func95 ntmps95 rfl rfl ?_
 intro _
 simp only[aB,seval,UC]
 refine(hv _).to ?_
 cases v with
 | false=>simp only[jT,aB,seval]
 | true=>
  simp only[fX,gM,aB,seval,UC]
  refine(hp _).to ?_
  cases hpl:rH k s (ts.length:Int) with
  | false=>simp only[jT,aB,seval]
  | true=>
   simp only[fX,gM,aB,seval,UC]
   refine(hg _).to ?_
   simp only[aB,seval]
abbrev a8Z:=zi cB kX
theorem aT0(c:Cl)(st:aA):aD prog 94 [aG c] st (fun r st'=>r=.bool (!sE c)∧st'=st):=by
 refine wF [1000000] 1 func94 ntmps94 rfl rfl ?_
 intro _
 simp only[GW,nU,fQ,aB,seval,a8Z]
 refine(aUS c st).to ?_
 simp only[aB,seval]
abbrev a8Y:=zi aX (zi cB gL)
theorem PW(p:List Cl)(st:aA):aD prog 71 [.slice (p.map aG)] st (fun r st'=>r=.bool (qG p)∧st'=st):=by
 refine wF [1000000] 1 func71 ntmps71 rfl rfl ?_
 simp only[cV,AV.fits,dE,aE]
 intro _
 unfold qG
 simp only[aE,aB,seval,a8Y]
 refine cP (fun h=>?_) (fun h=>?_)
 · simp only[bM] at h
   rw[show decide (p.length≤20)=true by simp;omega]
   simp only[h,aB,seval]
   refine(aTH p _ [] (fun t=> !sE t) st fun x _=>aT0 x st).to ?_
   simp only[GM,aB,seval]
 · simp only[fG,cL] at h
   rw[show decide (p.length≤20)=false by simp;omega]
   simp only[h,aB,seval]
   rfl
abbrev EZ:=zi aX (zi cB (zi cI (zi cC kX)))
theorem aWB(c:Cl)(st:aA):aD prog 87 [aG c] st (fun r st'=>r=.bool (sE c)∧st'=st):=by
 obtain⟨⟨k,n,s,ts⟩,l⟩:=c
 have hv:=fun st=>P6 (.mk k n s ts) st
 have hp:=fun st=>YK k n s ts st
 simp only[bD] at hv hp
 simp only[mQ,sE,S4]
 generalize (Tm.mk k n s ts).valid=v at *
 refine wF [1000000] 1 func87 ntmps87 rfl rfl ?_
 simp only[cV,AV.fits,dE,aE]
 intro ⟨_,_,_,_,hl,_⟩
 have rA:l.all Tm.goal=true∨l.length>6→(decide ((l.length:Int)≤6)&&v&&rH k s (ts.length:Int))=(v&&rH k s (ts.length:Int)&&(decide (l.length≤6)&&l.all Tm.goal)):=fun h=>by
  by_cases h6:l.length≤6
  · have hg:l.all Tm.goal=true:=h.resolve_right (by omega)
    rw[hg,show decide ((l.length:Int)≤6)=true from vC (by omega),show decide (l.length≤6)=true from vC h6]
    simp
  · rw[show decide ((l.length:Int)≤6)=false from wO (by omega),show decide (l.length≤6)=false from wO h6]
    simp
 simp only[aB,seval,EZ]
 refine dI (σ:=Unit) [1000000] [1] l (fun i _=>i≤7∧(l.take i).all Tm.goal=true) (fun i _=>[(2,.bool false),(3,.int .i64 i)]) (fun _ _=>st) (by decide +kernel) ⟨(),⟨by omega,by simp⟩,aP.mk (by simp only[aB,↓aW,seval])⟩ (fun i x _ hx hlt a7 hdr hinv=>?_) (fun _ hge hinv=>?_)
 · obtain⟨i1,i2⟩:=hinv
   have hw:=aZ (n:=(i:Int)+1)
   by_cases h7:i≤6
   · have h7':decide ((i:Int)≤6)=true:=vC (by omega)
     have hat:=bH (av:=Tm.av) bY hx (aT x)
     simp only[a7,dU,fX,aE,h7',hat,cD,aT,aB,seval,EZ]
     refine(Y4 x st).to ?_
     simp only[aB,seval]
     refine aQ (fun h2=>?_) (fun h2=>?_)
     · simp only[gZ] at h2
       simp only[aB,seval]
       have:l.all Tm.goal=false:=tN hx h2
       rw[this];simp
     · simp only[kZ] at h2
       simp only[aB,seval]
       refine⟨(),⟨by omega,?_⟩,aP.mk (by simp only[hw,aB,seval])⟩
       rw[fN,hx,xZ,i2]
       simp [h2]
   · have h7':decide ((i:Int)≤6)=false:=wO (by omega)
     have h8:decide ((l.length:Int)≤6)=false:=wO (by omega)
     rw[←rA (.inr (by omega)),h8]
     simp only[a7,dU,fX,h8,jT,aE,h7',aB,seval,EZ]
 · obtain⟨i1,i2⟩:=hinv
   rw[eD] at i2
   rw[←rA (.inl i2)]
   cases h8:decide ((l.length:Int)≤6) with
   | false=>
    simp only[hge,aE,h8,jT,aB,seval,EZ]
   | true=>
    simp only[hge,fX,aE,h8,gM,aB,seval,EZ]
    refine(hv _).to ?_
    cases v with
    | false=>simp only[jT,aB,seval]
    | true=>
     simp only[fX,gM,aB,seval,EZ]
     refine(hp _).to ?_
     simp only[aB,seval]
abbrev UB:=zi aX (zi cB (zi gL kX))
theorem Y5(l:List Cl)(st:aA):aD prog 60 [.slice (l.map aG)] st (fun r st'=>r=.bool (qG l)∧st'=st):=by
 refine wF [1000000] 1 func60 ntmps60 rfl rfl ?_
 simp only[cV,AV.fits,dE,aE]
 intro ⟨hl,_⟩
 simp only[aB,seval]
 refine dI (σ:=Unit) [1000000] [0] l (fun i _=>i≤21∧(l.take i).all sE=true) (fun i _=>[(2,.bool false),(3,.int .i64 i)]) (fun _ _=>st) (by decide +kernel) ⟨(),⟨by omega,by simp⟩,aP.mk (by simp only[aB,↓aW,seval])⟩ (fun i x _ hx hlt a7 hdr hinv=>?_) (fun _ hge hinv=>?_)
 · obtain⟨i1,i2⟩:=hinv
   have hw:=aZ (n:=(i:Int)+1)
   by_cases h7:i≤20
   · have h7':decide ((i:Int)≤20)=true:=vC (by omega)
     have hat:=bH (av:=aG) lD hx (fQ x)
     simp only[a7,dU,fX,aE,h7',hat,nU,fQ,aB,seval,UB]
     refine(aWB x st).to ?_
     simp only[aB,seval]
     refine aQ (fun h2=>?_) (fun h2=>?_)
     · simp only[gZ] at h2
       simp only[aB,seval]
       have:l.all sE=false:=tN hx h2
       simp only[qG,this,xW]
     · simp only[kZ] at h2
       simp only[aB,seval]
       refine⟨(),⟨by omega,?_⟩,aP.mk (by simp only[hw,aB,seval])⟩
       rw[fN,hx,xZ,i2]
       simp [h2]
   · have h7':decide ((i:Int)≤20)=false:=wO (by omega)
     have h8:decide ((l.length:Int)≤20)=false:=wO (by omega)
     have h9:decide (l.length≤20)=false:=wO (by omega)
     simp only[a7,dU,fX,aE,h7',h8,qG,h9,jT,aB,seval,UB]
 · obtain⟨i1,i2⟩:=hinv
   rw[eD] at i2
   simp only[hge,aE,aB,seval,UB]
   simp only[qG,i2,zQ,AV.bool.injEq,wN]
   omega
mutual
def Tm.small:Tm→Bool
 | .mk _ _ _ ts=>decide (ts.length≤1048576)&&N5 ts
def N5:List Tm→Bool
 | []=>true
 | t::ts=>t.small&&N5 ts
end
theorem IY:∀(ts:List Tm),N5 ts=ts.all Tm.small
 | []=>rfl
 | t::ts=>by simp only[N5,jK,IY ts]
theorem Tm.rJ{k n:Int}{s:ByteArray}{ts:List Tm}(h:(Tm.mk k n s ts).small=true):ts.length≤1048576∧∀x∈ts,x.small=true:=by
 simpa [Tm.small,IY] using h
abbrev NI:=zi aX (zi cI cC)
theorem MA(l:List Tm)(st:aA)(hb:l.length≤1048576)(hc:∀x∈l,∀(st:aA),aD prog 91 [Tm.av x] st (Made st (Tm.av x))) :
 aD prog 67 [.slice (l.map Tm.av)] st (Made st (.slice (l.map Tm.av))):=by
 have hws:∀e∈l.map Tm.av,e.width=4:=fun e he=>by simp only[cF] at he;obtain⟨t,_,rfl⟩:=he;exact aT t
 refine wF [] 1 func67 ntmps67 rfl rfl ?_
 intro _
 simp only[aE,aB,seval,NI]
 refine dI (σ:=List AV×List Nat×Nat×aA) [] [2,6,7] l (fun i p=>kP (l.map Tm.av) st i p.1 p.2.1 p.2.2.1 p.2.2.2) (fun i p=>[(3,bQ 4 p.2.2.1 p.1),(8,.int .i64 i)]) (fun _ p=>p.2.2.2) (by decide +kernel)
  ⟨([],[],0,st),kP.start,aP.mk (by simp only[lT,aB,↓aW,seval])⟩ (fun i x p hx hlt a7 hdr hinv=>?_) (fun p hge hinv=>?_)
 case refine_2=>
  obtain⟨os,bs,b,s⟩:=p
  simp only[hge,aB,seval]
  exact hinv.done (aE _) hws
 obtain⟨os,bs,b,s⟩:=p
 simp only at hinv
 have hw:=aZ (n:=(i:Int)+1)
 have mV:∀zs:List AV,zs.length=4→aM zs 0 (Tm.av x).cells=(Tm.av x).cells:=fun zs h=>y7 (Tm.gB x) h
 simp only[a7,bH (av:=Tm.av) bY hx (aT x),cD,aT,Tm.gB,Tm.e9,dR,mV,aB,seval,NI]
 intro b2 hb2
 try simp only[eC,Tm.gB,rM (Tm.gB x),qS (cD x),cZ,mV,dR,Tm.e9,aB,↓aW,seval,NI]
 refine(hc x (cH hx) _).mono ?_
 rintro r s2 ⟨bx,m1,m2,m3,m4⟩
 obtain⟨f1,f2,f3⟩:=m3.QD (aT x) (Tm.e9 x)
 have hra:r.isAgg=true:=by rw[(aS.shape m3).1,cD]
 have hrj:r.bV=false:=(aS.shape m3).2.2.1
 simp only[f1,hra,hrj,aB,seval,NI]
 have hlen:os.length=i:=hinv.1
 have HI:∀e∈os,e.width=4:=fun e he=>by
  obtain⟨k,hk,rfl⟩:=OT he
  exact hinv.2.1.OI (fun q hq=>hws q (l9 hq)) _ he
 have hkb:os≠[]→s2 b=some (.cells (os.flatMap AV.cells)):=fun hne=>by
  have h:=(hinv.2.2.2.2.1 hne).2.2
  have hbx:b∉bx:=fun hq=>by
   have:=m2 b hq
   have w7:b≠b2:=fun e=>by rw[e,hb2] at h;cases h
   rw[aA.aF _ _ w7,h] at this;cases this
  have w7:b≠b2:=fun e=>by rw[e,hb2] at h;cases h
  rw[m4 b hbx,aA.aF _ _ w7,h]
 refine PH bY lC lE rfl rfl (g8 f1 f3) HI hkb (by simp only[a8,bG,hlen];omega) (by simp only[a8,bG,hlen];omega) (fun b' s' k1 k2 k3 k4=>?_)
 have rD:=hinv.step hb2 (show(l.map Tm.av)[i]?=some (Tm.av x) by rw[kD,hx];try rfl) m1 m2 m3 m4 (k1 (by simp)) (k2 (by simp)) (fun q h1 h2=>k3 q (fun _=>h1) h2) k4
 simp only[hw,aB,seval]
 exact⟨(os++ [r],bs++bx,b',s'.erase b2),rD,aP.drop (jD _ _) (by simp only[aB,seval])⟩
abbrev aPW:=zi cI cC
theorem HZ:∀(t:Tm) (st:aA),t.small=true→aD prog 91 [t.av] st (Made st t.av)
 | .mk k n s ts,st,hb=>by
  obtain⟨hb1,hb2⟩:=Tm.rJ hb
  have hc:=fun st=>MA ts st hb1 fun x hx st=>HZ x st (hb2 x hx)
  refine aD.uH ?_
  refine wF [1] 1 func91 ntmps91 rfl rfl ?_
  intro _
  simp only[bD]
  simp only[aB,seval,aPW]
  intro b a2F b2 LH
  have hne:b2≠b:=by rintro rfl;rw[aA.aJ] at LH;cases LH
  have hn2:st b2=none:=by rw[aA.aF st _ hne] at LH;exact LH
  simp only[eC,hne.symm,aB,seval]
  refine(hc _).mono ?_
  rintro q s2 ⟨bs,m1,m2,m3,m4⟩
  have hbb:b∉bs:=fun h=>by have:=m2 b h;simp [eC,hne.symm] at this
  have pX:b2∉bs:=fun h=>by have:=m2 b2 h;simp [eC] at this
  have e1:=m4 b hbb
  have e2:=m4 b2 pX
  simp only[eC,hne,hne.symm,dV,cM] at e1 e2
  have hqc:q.cells= [q]:=by have:=(aS.shape m3).1;cases q<;>first | rfl | simp [AV.isAgg] at this
  have hqs:q.storable=true:=by
   have:=m3
   simp only[aS] at this
   rcases this with ⟨_,rfl,_⟩ | ⟨_,_,_,_,rfl,_⟩<;>rfl
  simp only[eC,hne,e1,e2,hqc,hqs,aM,aB,seval,aPW]
  refine⟨[b,b2],bs,m1,fun x hx=>?_,?_,?_,?_⟩
  · have:=m2 x hx
    have h1:x≠b:=fun e=>hbb (e▸hx)
    have h2:x≠b2:=fun e=>pX (e▸hx)
    simpa [eC,h1,h2] using this
  · simp [a2F,hn2,hbb,pX]
  · rw[←bD]
    refine EJ.2 ⟨q,rfl,aS.aU _ _ _ (fun x hx=>?_) m3⟩
    have h1:x≠b:=fun e=>hbb (e▸hx)
    have h2:x≠b2:=fun e=>pX (e▸hx)
    simp only[eC,h1,h2,cM]
  · intro x hx hd
    simp only[cG,cX,dG,jI] at hd
    simp only[eC,hd.1,hd.2,cM]
    rw[m4 x hx]
    simp only[eC,hd.1,hd.2,cM]
termination_by t=>SizeOf.sizeOf t
decreasing_by have:=List.sizeOf_lt_of_mem hx;simp only[Tm.mk.sizeOf_spec];omega
end Go.AW
namespace Go.AW
def CD(st:aA)(xs:List AV)(r:AV)(st':aA):Prop:=∃(os:List AV) (bs:List Nat),r=.tup os∧bs.Nodup∧(∀b∈bs,st b=none)∧aV st' xs os bs∧∀b,b∉bs→st' b=st b
theorem aV.aQV{h:bE}{st s0:aA}(S:cK h st)(D:aO st s0):∀(xs os:List AV) (bs:List Nat) (vs:List Value),aV st xs os bs→(∀b∈bs,s0 b=none)→d8 h st os vs→d8 h s0 xs vs
 | [],os,bs,vs,x,_,y=>by simp only[aV] at x;rw[x.1] at y;exact y
 | a::xs,os,bs,vs,x,hb,y=>by
  simp only[aV] at x
  obtain⟨o,os',b1,b2,rfl,rfl,x1,x2⟩:=x
  simp only[d8] at y ⊢
  obtain⟨v,r,e,⟨y0,y1⟩,y2⟩:=y
  exact⟨v,r,e,⟨x1.shape.1.symm.trans y0,aS.view S D a o b1 _ x1 (fun q hq=>hb q (by simp [hq])) y1⟩,aV.aQV S D xs os' b2 r x2 (fun q hq=>hb q (by simp [hq])) y2⟩
theorem aD.a5N{P:Program}{g:FuncId}{args:List AV}{st:aA}{xs:List AV}(x:aD P g args st (CD st xs)):aD P g args st (fun r st'=>r=.tup xs∧st'=st):=
 x.lN fun r st' ⟨os,bs,hr,_,h2,h3,h4⟩=>by
  have D:aO st' st:=fun b=>⟨fun e=>by
   by_cases hb:b∈bs
   · exact h2 b hb
   · rw[←h4 b hb];exact e,fun o e=>by
   by_cases hb:b∈bs
   · rw[h2 b hb] at e;cases e
   · rw[h4 b hb];exact e⟩
  refine⟨.tup xs,st,D.uV,fun h v S y=>?_,rfl,rfl⟩
  subst hr
  obtain⟨y0,y1⟩:=y
  refine⟨y0,?_⟩
  unfold VC at y1 ⊢
  obtain⟨vs,e,y2⟩:=y1
  exact⟨vs,e,aV.aQV S D xs os bs vs h3 h2 y2⟩
def xV(b1 b2:List Nat):Prop:=∀b∈b1,b∉b2
theorem xV.symm{b1 b2:List Nat}(h:xV b1 b2):xV b2 b1:=fun b h2 h1=>h b h1 h2
theorem aS.a8L{s:aA}{a o:AV}{bs:List Nat}(h:aS s a o bs):∀b∈bs,s b≠none:=fun b hb=>by
 obtain⟨cs,e,_⟩:=(aS.gK _ _ _ h).2.2 b hb
 rw[e];simp
theorem aS.apart{s:aA}{a o:AV}{bs bs':List Nat}(h:aS s a o bs)(hf:∀b∈bs',s b=none):xV bs bs':=fun b hb hb'=>h.a8L b hb (hf b hb')
theorem aS.beside{s s':aA}{a o:AV}{bs bs':List Nat}(h:aS s a o bs)(k:∀b,b∉bs'→s' b=s b)(d:xV bs bs'):aS s' a o bs:=aS.aU _ _ _ (fun b hb=>k b (d b hb)) h
theorem aS.sS{st:aA}{es:List AV}{q:AV}{bs:List Nat}(h:aS st (.slice es) q bs):q.cells= [q]∧q.storable=true∧q.isAgg=false∧q.width=1∧q.bV=false:=by
 simp only[aS] at h
 rcases h with ⟨_,rfl,_⟩ | ⟨_,_,_,_,rfl,_⟩<;>exact⟨rfl,rfl,rfl,rfl,rfl⟩
theorem aS.fits{s:aA}{a o:AV}{bs:List Nat}{w:Nat}(h:aS s a o bs)(hw:a.width=w)(hs:a.cells.all AV.storable=true):o.width=w∧o.cells.length=w∧o.cells.all AV.storable=true∧o.bV=false∧o.isAgg=a.isAgg:=by
 obtain⟨h1,h2,h3⟩:=h.QD hw hs
 exact⟨h1,h2,h3,h.shape.2.2.1,h.shape.1⟩
theorem a63{s:aA}{x o:AV}{bs:List Nat}:aS s (.agg [x]) o bs↔∃q,o=.agg [q]∧aS s x q bs:=by
 simp only[aS,aV]
 constructor
 · rintro⟨os,rfl,o1,os1,b1,b2,rfl,rfl,h,rfl,rfl⟩
   exact⟨o1,rfl,by simpa using h⟩
 · rintro⟨q,rfl,h⟩
   exact⟨_,rfl,q,[],bs,[],rfl,by simp,h,rfl,rfl⟩
theorem a6Z{s:aA}{x y:AV}{os:List AV}{bs:List Nat}:aV s [x,y] os bs↔∃o1 o2 b1 b2,os= [o1,o2]∧bs=b1++b2∧aS s x o1 b1∧aS s y o2 b2:=by
 simp only[aV]
 constructor
 · rintro⟨o1,os1,b1,b1',rfl,rfl,h1,o2,os2,b2,b2',rfl,rfl,h2,rfl,rfl⟩
   exact⟨o1,o2,b1,b2,rfl,by simp,h1,h2⟩
 · rintro⟨o1,o2,b1,b2,rfl,rfl,h1,h2⟩
   exact⟨o1,[o2],b1,b2,rfl,rfl,h1,o2,[],b2,[],rfl,by simp,h2,rfl,rfl⟩
mutual
def Tm.vars:Tm→List Int→List Int
 | .mk k n _ ts,l=>cA ts (if k=1∧n∉l then l++ [n] else l)
def cA:List Tm→List Int→List Int
 | [],l=>l
 | t::ts,l=>cA ts (t.vars l)
end
mutual
theorem Tm.FK:∀(t:Tm) (l:List Int),(t.vars l).length≤l.length+t.nodes
 | .mk k n s ts,l=>by
  have h:=zH ts (if k=1∧n∉l then l++ [n] else l)
  have h2:(if k=1∧n∉l then l++ [n] else l).length≤l.length+1:=by split<;>simp
  rw[Tm.vars,Tm.lJ]
  omega
theorem zH:∀(ts:List Tm) (l:List Int),(cA ts l).length≤l.length+aH Tm.nodes ts
 | [],l=>by simp [cA,aH]
 | t::ts,l=>by
  have h1:=Tm.FK t l
  have h2:=zH ts (t.vars l)
  simp only[cA,aH]
  omega
end
def eN(v:Int):List Int→Int→Int
 | [],_=> -1
 | x::xs,i=>if v=x then i else eN v xs (i+1)
theorem aLU(v:Int):∀(l:List Int) (i:Int),0≤i→(0≤eN v l i↔v∈l)
 | [],i,h=>by simp [eN]
 | x::xs,i,h=>by
  simp only[eN,cG]
  split
  · rename_i e;simp [e,h]
  · rename_i e;rw[aLU v xs (i+1) (by omega)];simp [e]
theorem nR{st:aA}{b x:Nat}{l:List AV}{o:AO}(h:l≠[]→x≠b):(bK st b l).aC x o=bK (st.aC x o) b l:=by
 cases l with
 | nil=>rfl
 | cons y l=>exact aA.pJ _ _ _ (dA (h (by simp)))
theorem JV{st:aA}{b x:Nat}{l:List AV}{o:AO}(hx:st x=none)(h:l≠[]→(st.aC x o) b=none):aO (bK (st.aC x o) b l) (bK st b l)∧(l≠[]→st b=none):=by
 cases l with
 | nil=>exact⟨(aO.refl _).aC hx,fun h=>absurd rfl h⟩
 | cons y l=>
  have hb:=h (by simp)
  have hne:b≠x:=by rintro rfl;rw[aA.aJ] at hb;cases hb
  rw[aA.aF _ _ hne] at hb
  refine⟨?_,fun _=>hb⟩
  simp only[bK]
  rw[aA.pJ _ _ _ (dA hne)]
  exact(aO.refl _).aC (by rw[aA.aF _ _ (dA hne)];exact hx)
theorem WY{P:Program}{t:TypeId}{ag:Bool}{w b i:Nat}{l:List AV}{x:AV}(hI:eI P t=some (ag,w))(h:l[i]?=some x):dP P t (bQ w b l) (.int .i64 (i:Int))=some (.ptr b (i*w)):=by
 have hi:=(fC.1 h).1
 rw[r7 (by rintro rfl;simp at hi)]
 exact kT hI hi
theorem WZ{st:aA}{b i:Nat}{l:List Int}{x:Int}(h:l[i]?=some x):bK st b (l.map iv) b=some (.cells (l.map iv))∧(l.map iv)[i]?=some (iv x):=by
 have hi:=(fC.1 h).1
 have hne:l.map iv≠[]:=by rintro e;rw[List.map_eq_nil_iff] at e;subst e;simp at hi
 have hfl:(l.map iv).flatMap AV.cells=l.map iv:=by
  clear h hi hne
  induction l with
  | nil=>rfl
  | cons y l ih=>simp only[bR,rU,ih];rfl
 exact⟨by rw[lS hne,hfl,aA.aJ],by rw[kD,h];try rfl⟩
mutual
def Tm.wf:Tm→Bool
 | .mk k _ _ ts=>(!decide (k=1)||ts.isEmpty)&&N8 ts
def N8:List Tm→Bool
 | []=>true
 | t::ts=>t.wf&&N8 ts
end
theorem VF:∀(ts:List Tm),N8 ts=ts.all Tm.wf
 | []=>rfl
 | t::ts=>by simp only[N8,jK,VF ts]
theorem Tm.VQ{k n:Int}{s:ByteArray}{ts:List Tm}(h:(Tm.mk k n s ts).wf=true):(k=1→ts= [])∧∀x∈ts,x.wf=true:=by
 simp only[Tm.wf,VF,cY,tF,gZ,cL,List.isEmpty_iff,fU] at h
 exact⟨fun hk=>h.1.resolve_left (fun hn=>hn hk),h.2⟩
theorem Tm.OG{t:Tm}(h:t.valid=true):t.nodes≤120:=by simp only[Tm.valid,cY,bM] at h;exact h.2
def lH(S:aA)(c b:Nat)(hd:List AV)(l:List AV):aA:=bK (S.aC c (.cells (hd++ [bQ 4 b l]))) b l
theorem mF{S:aA}{c b:Nat}{hd l:List AV}(hb:l≠[]→(S.aC c (.cells (hd++ [bQ 4 b l]))) b=none):lH S c b hd l c=some (.cells (hd++ [bQ 4 b l])):=by
 unfold lH
 cases l with
 | nil=>simp only[bK,aA.aJ]
 | cons y l=>
  have h:=hb (by simp)
  have hne:c≠b:=fun e=>by rw[←e,aA.aJ] at h;cases h
  rw[nQ hne,aA.aJ]
theorem xB{S:aA}{c b b':Nat}{hd l l':List AV}(hb:l'≠[]→(S.aC c (.cells (hd++ [bQ 4 b l]))) b'=none) :
 (bK (S.aC c (.cells (hd++ [bQ 4 b l]))) b' l').aC c (.cells (hd++ [bQ 4 b' l']))=lH S c b' hd l'∧(l'≠[]→(S.aC c (.cells (hd++ [bQ 4 b' l']))) b'=none)∧bK (S.aC c (.cells (hd++ [bQ 4 b l]))) b' l' c=some (.cells (hd++ [bQ 4 b l])):=by
 have hne:l'≠[]→c≠b':=fun h e=>by have:=hb h;rw[←e,aA.aJ] at this;cases this
 refine⟨?_,fun h=>?_,?_⟩
 · rw[nR hne,dR];try rfl
 · have:=hb h
   rw[aA.aF _ _ (dA (hne h))] at this ⊢
   exact this
 · cases l' with
   | nil=>simp only[bK,aA.aJ]
   | cons y l=>rw[nQ (hne (by simp)),aA.aJ]
theorem oA{S:aA}{c b x:Nat}{hd l:List AV}(hb:l≠[]→(S.aC c (.cells (hd++ [bQ 4 b l]))) b=none)(hx:S x≠none)(hxc:x≠c):lH S c b hd l x=S x:=by
 unfold lH
 cases l with
 | nil=>simp only[bK,aA.aF _ _ hxc]
 | cons y l=>
  have h:=hb (by simp)
  have hne:x≠b:=fun e=>by
   rw[←e,aA.aF _ _ hxc] at h
   exact hx h
  rw[nQ hne,aA.aF _ _ hxc]
theorem vL{S:aA}{c b x:Nat}{hd l:List AV}{o:AO}(hb:l≠[]→(S.aC c (.cells (hd++ [bQ 4 b l]))) b=none)(hx:S x≠none)(hxc:x≠c):(lH S c b hd l).aC x o=bK ((S.aC c (.cells (hd++ [bQ 4 b l]))).aC x o) b l∧(l≠[]→((S.aC c (.cells (hd++ [bQ 4 b l]))).aC x o) b=none):=by
 have hne:l≠[]→x≠b:=fun h e=>by
  have:=hb h
  rw[←e,aA.aF _ _ hxc] at this
  exact hx this
 refine⟨by unfold lH;rw[nR hne],fun h=>by rw[aA.aF _ _ (dA (hne h))];exact hb h⟩
theorem aL0{S:aA}{c b x:Nat}{hd l:List AV}{o:AO}(hb:l≠[]→(S.aC c (.cells (hd++ [bQ 4 b l]))) b=none)(hx:S x≠none)(hxc:x≠c) :
 (lH S c b hd l).aC x o=lH (S.aC x o) c b hd l∧(l≠[]→((S.aC x o).aC c (.cells (hd++ [bQ 4 b l]))) b=none):=by
 have hne:l≠[]→x≠b:=fun h e=>by
  have:=hb h
  rw[←e,aA.aF _ _ hxc] at this
  exact hx this
 refine⟨by unfold lH;rw[nR hne,aA.pJ _ _ _ (dA hxc)],fun h=>?_⟩
 have:=hb h
 rw[aA.pJ _ _ _ hxc,aA.aF _ _ (dA (hne h))]
 exact this
theorem a41{S T:aA}{c b:Nat}{hd l:List AV}(D:aO (S.aC c (.cells (hd++ [bQ 4 b l]))) T)(hb:l≠[]→(S.aC c (.cells (hd++ [bQ 4 b l]))) b=none):aO (lH S c b hd l) T:=
 D.bK fun h=>(D b).1 (hb h)
theorem aA.zJ{st:aA}{b c:Nat}{a z a':AO}(h:b≠c):((st.aC c a).aC b z).aC c a'=(st.aC b z).aC c a':=by rw[aA.pJ _ _ _ (dA h),dR]
theorem iX(l:List Tm):∀e∈l.map Tm.av,e.width=4:=by intro e h;simp only[cF] at h;obtain⟨t,_,rfl⟩:=h;exact aT t
theorem tC(l:List Tm):∀e∈l.map Tm.av,e.bV=false:=by intro e h;simp only[cF] at h;obtain⟨t,_,rfl⟩:=h;exact Tm.fP t
theorem bT.of{h:bE}{st st':aA}(hk:∀x,st x=none→st' x=none):bT h st h st':=⟨cZ _,fun x _ e=>⟨rfl,hk x e⟩,fun _ c _ _ e=>⟨c,e,rfl⟩⟩
theorem gN.a1X{φ:AF}{st:aA}{b c:Nat}{es cs:List AV}(hbc:b≠c)(h1:st b=some (.cells (es.flatMap AV.cells)))(h2:∀e∈es,e.bV=false)(h3:jU es)(hc:st c=some (.cells cs)) :
 gN φ st φ ((st.erase b).aC c (.cells (kK b es cs))):=fun h tmps S F=>by
 have T2:bT h (st.erase b) h ((st.erase b).aC c (.cells (kK b es cs))):=bT.of fun x hx=>by
  have:x≠c:=by rintro rfl;simp [aA.erase,dA hbc,hc] at hx
  rw[aA.aF _ _ this];exact hx
 have T:bT h st h ((st.erase b).aC c (.cells (kK b es cs))):=((jD st b).step h).trans T2
 refine⟨fun x o hx=>?_,T,fun d=>(F d).mono T⟩
 by_cases e:x=c
 · subst e
   rw[aA.aJ] at hx
   cases hx
   obtain⟨hl,c0,t,e1,e2,vs,e3,e4⟩:=S x _ hc
   refine⟨hl,c0,t,e1,?_,vs,e3,aY.mono T2 _ _ (aY.fz S h1 h2 h3 cs vs e4)⟩
   rw[AQ,aE];exact e2
 · rw[aA.aF _ _ e] at hx
   have hx':st x=some o:=by
    simp only[aA.erase] at hx
    split at hx
    · cases hx
    · exact hx
   obtain⟨hl,y⟩:=S x o hx'
   exact⟨hl,lB.mono T rfl y⟩
theorem aXU{s0 st:aA}{b:Nat}{l:List AV}(D:aO s0 st):aO (bK s0 b l) (bK st b l):=by
 cases l with
 | nil=>exact D
 | cons y l=>
  intro x
  simp only[bK]
  by_cases e:x=b
  · subst e;simp [aA.aJ]
  · rw[aA.aF _ _ e,aA.aF _ _ e];exact D x
end Go.AW
namespace Go.AW
open Go.Proofs.Tryz
abbrev AH (c:Cl):Prop:=c.1.small=true∧c.2.length≤1048576∧∀x∈c.2,x.small=true
abbrev UD:=zi aX (zi gL kX)
theorem aMN(l:List Cl)(st:aA)(hb:l.length≤1048576)(hc:∀x∈l,∀(st:aA),aD prog 66 [aG x] st (Made st (aG x))) :
 aD prog 35 [.slice (l.map aG)] st (Made st (.slice (l.map aG))):=by
 have hws:∀e∈l.map aG,e.width=5:=fun e he=>by simp only[cF] at he;obtain⟨t,_,rfl⟩:=he;exact fQ t
 refine wF [] 1 func35 ntmps35 rfl rfl ?_
 intro _
 simp only[aE,aB,seval,UD]
 refine dI (σ:=List AV×List Nat×Nat×aA) [] [2,6,7] l (fun i p=>kP (l.map aG) st i p.1 p.2.1 p.2.2.1 p.2.2.2) (fun i p=>[(3,bQ 5 p.2.2.1 p.1),(8,.int .i64 i)]) (fun _ p=>p.2.2.2) (by decide +kernel)
  ⟨([],[],0,st),kP.start,aP.mk (by simp only[lT,aB,↓aW,seval])⟩ (fun i x p hx hlt a7 hdr hinv=>?_) (fun p hge hinv=>?_)
 case refine_2=>
  obtain⟨os,bs,b,s⟩:=p
  simp only[hge,aB,seval]
  exact hinv.done (aE _) hws
 obtain⟨os,bs,b,s⟩:=p
 simp only at hinv
 have hw:=aZ (n:=(i:Int)+1)
 have mV:∀zs:List AV,zs.length=5→aM zs 0 (aG x).cells=(aG x).cells:=fun zs h=>y7 (QF x) h
 simp only[a7,bH (av:=aG) lD hx (fQ x),nU,fQ,QF,DB,dR,mV,aB,seval,UD]
 intro b2 hb2
 try simp only[rM (QF x),qS (nU x),seval]
 refine(hc x (cH hx) _).mono ?_
 rintro r s2 ⟨bx,m1,m2,m3,m4⟩
 obtain⟨f1,f2,f3⟩:=m3.QD (fQ x) (DB x)
 have hra:r.isAgg=true:=by rw[(aS.shape m3).1,nU]
 have hrj:r.bV=false:=(aS.shape m3).2.2.1
 simp only[f1,hra,hrj,aB,seval,UD]
 have hlen:os.length=i:=hinv.1
 have HI:∀e∈os,e.width=5:=fun e he=>by
  obtain⟨k,hk,rfl⟩:=OT he
  exact hinv.2.1.OI (fun q hq=>hws q (l9 hq)) _ he
 have hkb:os≠[]→s2 b=some (.cells (os.flatMap AV.cells)):=fun hne=>by
  have h:=(hinv.2.2.2.2.1 hne).2.2
  have hbx:b∉bx:=fun hq=>by
   have:=m2 b hq
   have w7:b≠b2:=fun e=>by rw[e,hb2] at h;cases h
   rw[aA.aF _ _ w7,h] at this;cases this
  have w7:b≠b2:=fun e=>by rw[e,hb2] at h;cases h
  rw[m4 b hbx,aA.aF _ _ w7,h]
 refine PH lD G0 G4 rfl rfl (g8 f1 f3) HI hkb (by simp only[a8,bG,hlen];omega) (by simp only[a8,bG,hlen];omega) (fun b' s' k1 k2 k3 k4=>?_)
 have rD:=hinv.step hb2 (show(l.map aG)[i]?=some (aG x) by rw[kD,hx];try rfl) m1 m2 m3 m4 (k1 (by simp)) (k2 (by simp)) (fun q h1 h2=>k3 q (fun _=>h1) h2) k4
 simp only[hw,aB,seval]
 exact⟨(os++ [r],bs++bx,b',s'.erase b2),rD,aP.drop (jD _ _) (by simp only[aB,seval])⟩
abbrev UE:=zi cI (zi cC kX)
theorem aMM(c:Cl)(st:aA)(hsm:AH c):aD prog 66 [aG c] st (Made st (aG c)):=by
 obtain⟨⟨k,n,s,ts⟩,bd⟩:=c
 obtain⟨h1,h2,h3⟩:=hsm
 have hg:=fun st=>HZ (.mk k n s ts) st h1
 have hc:=fun st=>MA bd st h2 fun x hx st=>HZ x st (h3 x hx)
 simp only[bD] at hg
 simp only[mQ]
 refine aD.uH ?_
 refine wF [1000000] 1 func66 ntmps66 rfl rfl ?_
 intro _
 simp only[aB,seval,UE]
 intro b hb1
 refine wX [(0,1),(1,1),(3,1),(4,1),(2,0),(5,0),(6,1),(7,2)] [0,1,3,4,6] dJ mixed rfl dF ?_
 simp only[aB,seval,UE]
 refine(hg _).mono ?_
 rintro q0 s2 ⟨bs,m1,m2,m3,m4⟩
 rw[←bD] at m3
 obtain⟨q,rfl,m3'⟩:=EJ.1 m3
 have hbb:b∉bs:=fun h=>by have:=m2 b h;simp [eC] at this
 have e1:=m4 b hbb
 rw[aA.aJ] at e1
 obtain⟨hqc,hqs,hqa,hqw,hqj⟩:=aS.sS m3'
 simp only[aB,seval]
 refine⟨dF,?_⟩
 refine(hc _).mono ?_
 rintro r s3 ⟨cs,n1,n2,n3,n4⟩
 have hcb:b∉cs:=fun h=>by have:=n2 b h;rw[e1] at this;cases this
 have f1:=n4 b hcb
 rw[e1] at f1
 obtain⟨hrc,hrs,hra,hrw,hrj⟩:=aS.sS n3
 simp only[aM,f1,hqs,hrc,hrs,hrj,aB,seval,UE]
 have w8:=(aS.gK _ _ _ m3').2.2
 have kS:∀x∈bs,x∉cs:=fun x hx hx'=>by
  obtain⟨u,e,_⟩:=w8 x hx
  have:=n2 x hx'
  rw[e] at this;cases this
 have hcs:∀x∈cs,x≠b:=fun x hx e=>hcb (e▸hx)
 have hbs:∀x∈bs,x≠b:=fun x hx e=>hbb (e▸hx)
 refine⟨dF,[b],bs++cs,mA.2 ⟨m1,n1,fun x hx y hy e=>kS x hx (e▸hy)⟩,fun x hx=>?_,?_,?_,?_⟩
 · rcases eL.1 hx with hx | hx
   · have:=m2 x hx
     rwa [aA.aF _ _ (hbs x hx)] at this
   · have:=n2 x hx
     rw[m4 x (fun h=>kS x h hx),aA.aF _ _ (hcs x hx)] at this
     exact this
 · simp [hb1,hbb,hcb]
 · rw[←mQ]
   refine MF.2 ⟨q,bs,r,cs,rfl,rfl,aS.aU _ _ _ (fun x hx=>?_) m3',aS.aU _ _ _ (fun x hx=>?_) n3⟩
   · rw[aA.aF _ _ (hbs x hx),n4 x (kS x hx)]
   · rw[aA.aF _ _ (hcs x hx)]
 · intro x hx hd
   simp only[cG,cX,dG] at hd
   simp only[eL,jI] at hx
   rw[aA.aF _ _ hd,n4 x hx.2,m4 x hx.1,aA.aF _ _ hd]
abbrev BX:=zi aX (zi d9 (zi cI cC))
theorem KB:∀(t:Tm) (st:aA),t.small=true→aD prog 83 [t.av] st (fun r st'=>r=t.av∧st'=st)
 | .mk k n s ts,st,hsm=>by
  obtain⟨hlen,sP⟩:=Tm.rJ hsm
  have IH:=fun(x:Tm) (hx:x∈ts) st=>KB x st (sP x hx)
  refine aD.oS (aD.fin ?_)
  simp only[bD]
  refine wF [] 1 func83 ntmps83 rfl rfl ?_
  simp only[cV,AV.fits,dE,aE]
  intro ⟨_,_,_,hl,_⟩
  simp only[aB,seval,BX]
  intro b2 hb2 c hc
  have hne:c≠b2:=by rintro rfl;rw[aA.aJ] at hc;cases hc
  have hn2:st c=none:=by rw[aA.aF st _ hne] at hc;exact hc
  simp only[aM,aB,seval]
  refine dI (σ:=Nat) [] [1,2,3] ts (fun i b=>(((ts.take i).map (fun y=>y)).map Tm.av≠[]→(aA.aC (st.aC b2 (.cells [AV.int .i64 0,AV.int .i64 0,AV.str ⟨#[]⟩,AV.fslice []])) c (.cells ([AV.int .i64 k,AV.int .i64 n,AV.str s]++ [bQ 4 b (((ts.take i).map (fun y=>y)).map Tm.av)]))) b=none)) (fun i b=>[(4,.int .i64 i)]) (fun i b=>lH (st.aC b2 (.cells [AV.int .i64 0,AV.int .i64 0,AV.str ⟨#[]⟩,AV.fslice []])) c b [AV.int .i64 k,AV.int .i64 n,AV.str s] (((ts.take i).map (fun y=>y)).map Tm.av)) (by decide +kernel)
   ⟨0,fun h=>absurd rfl h,aP.mk (by simp only[aB,↓aW,seval])⟩ (fun i x b hx hlt a7 hdr hinv=>?_) (fun b hge hinv=>?_)
  case refine_1=>
   have hw:=aZ (n:=(i:Int)+1)
   have dO:(((ts.take i).map (fun y=>y)).map Tm.av).length=i:=by simp only[aE,dZ];omega
   have htk:(ts.take (i+1)).map (fun y=>y)=(ts.take i).map (fun y=>y)++ [(fun y=>y) x]:=by rw[fN,hx];simp
   have hbo:=mF hinv
   simp only[aE,a7,aB,seval,BX]
   refine wP [(0,1),(2,1),(4,1),(1,2),(3,2),(5,1),(6,2),(7,2),(8,1),(9,0),(10,1),(11,0)] [0,2,4,1,3,5,6,7,8,10] mixed ?_
   simp only[bH (av:=Tm.av) bY hx (aT x),cD,aT,hbo,rZ,jW,aB,seval,BX]
   refine iD (IH x (cH hx) _) ?_
   simp only[cD,aT,Tm.fP,jW,aB,seval,BX]
   refine gA bY lC lE rfl rfl (g8 (aT _) (Tm.e9 _)) (iX _) hinv (by simp only[dO,a8,bG];omega) (by simp only[dO,a8,bG];omega) (fun b' hb'=>?_)
   rw[show(((ts.take i).map (fun y=>y)).map Tm.av)++ [((fun y=>y) x).av]=((ts.take (i+1)).map (fun y=>y)).map Tm.av by rw[htk];simp] at hb' ⊢
   obtain⟨g1,g2,g3⟩:=xB hb'
   simp only[gR,eE] at g1 g3
   simp only[g3,nS,iK,aM,g1,hw,aB,seval,BX]
   exact⟨b',g2,aP.mk (by simp only[aB,seval])⟩
  have hbo:=mF hinv
  rw[eD] at hinv hbo ⊢
  simp only[aE,hge,aB,seval,BX]
  simp only[hbo,aB,seval,BX]
  have q7:b2≠c:=dA hne
  have hS:(st.aC b2 (.cells [AV.int .i64 0,AV.int .i64 0,AV.str ⟨#[]⟩,AV.fslice []])) b2≠none:=by rw[aA.aJ];simp
  have h1:=oA hinv hS q7
  rw[aA.aJ] at h1
  simp only[h1,iK,aM,aB,seval]
  obtain⟨h2,h3⟩:=vL (o:=.cells [AV.int .i64 k,AV.int .i64 n,AV.str s,bQ 4 b ((ts.map fun y=>y).map Tm.av)]) hinv hS q7
  refine⟨b,_,_,h2,h3,tC _,⟨4,iX _⟩,?_,?_⟩
  · simp only[gJ,bR,bS,gW,pV,nT,List.map_id']
  · exact(((aO.refl _).aC hb2).aC hn2).aC hb2
termination_by t=>SizeOf.sizeOf t
decreasing_by have:=List.sizeOf_lt_of_mem hx;simp only[Tm.mk.sizeOf_spec];omega
def qC(S:aA)(c b w:Nat)(hd tl:List AV)(l:List AV):aA:=bK (S.aC c (.cells (hd++bQ w b l::tl))) b l
section
variable {S:aA} {c b w:Nat} {hd tl l:List AV}
theorem HX(hb:l≠[]→(S.aC c (.cells (hd++bQ w b l::tl))) b=none):qC S c b w hd tl l c=some (.cells (hd++bQ w b l::tl)):=by
 unfold qC
 by_cases h:l= []
 · rw[h,AC,aA.aJ]
 · have h0:=hb h
   have hne:c≠b:=fun e=>by rw[←e,aA.aJ] at h0;cases h0
   rw[nQ hne,aA.aJ]
theorem aME{b':Nat}{l':List AV}(hb:l'≠[]→(S.aC c (.cells (hd++bQ w b l::tl))) b'=none) :
 (bK (S.aC c (.cells (hd++bQ w b l::tl))) b' l').aC c (.cells (hd++bQ w b' l'::tl))=qC S c b' w hd tl l'∧(l'≠[]→(S.aC c (.cells (hd++bQ w b' l'::tl))) b'=none)∧bK (S.aC c (.cells (hd++bQ w b l::tl))) b' l' c=some (.cells (hd++bQ w b l::tl)):=by
 have hne:l'≠[]→c≠b':=fun h e=>by have:=hb h;rw[←e,aA.aJ] at this;cases this
 refine⟨?_,fun h=>?_,?_⟩
 · rw[nR hne,dR];try rfl
 · have:=hb h
   rw[aA.aF _ _ (dA (hne h))] at this ⊢
   exact this
 · by_cases h:l'= []
   · rw[h,AC,aA.aJ]
   · rw[nQ (hne h),aA.aJ]
theorem a5Y{x:Nat}(hb:l≠[]→(S.aC c (.cells (hd++bQ w b l::tl))) b=none)(hx:S x≠none)(hxc:x≠c):qC S c b w hd tl l x=S x:=by
 unfold qC
 by_cases h:l= []
 · rw[h,AC,aA.aF _ _ hxc]
 · have h0:=hb h
   have hne:x≠b:=fun e=>by rw[←e,aA.aF _ _ hxc] at h0;exact hx h0
   rw[nQ hne,aA.aF _ _ hxc]
theorem WE{h:bE}{st:aA}{a a':AV}(hv:∀v,VC h st a [v]→VC h st a' [v]):∀(hd:List AV) {tl:List AV} {vs:List Value},aY h st (hd++a::tl) vs→aY h st (hd++a'::tl) vs
 | [],tl,vs,x=>by
  simp only[eE,aY] at x ⊢
  obtain⟨c,r,e,x1,x2⟩:=x
  exact⟨c,r,e,hv c x1,x2⟩
 | y::hd,tl,vs,x=>by
  simp only[gR,aY] at x ⊢
  obtain⟨c,r,e,x1,x2⟩:=x
  exact⟨c,r,e,x1,WE hv hd x2⟩
theorem gN.a8G{φ:AF}{st:aA}{c:Nat}{hd tl:List AV}{a:AV}(hc:st c=some (.cells (hd++a::tl))):gN φ st φ (st.aC c (.cells (hd++a.soft::tl))):=fun h tmps S F=>by
 have T:bT h st h (st.aC c (.cells (hd++a.soft::tl))):=bT.of fun x hx=>by
  have:x≠c:=by rintro rfl;rw[hc] at hx;cases hx
  rw[aA.aF _ _ this];exact hx
 refine⟨fun x o hx=>?_,T,fun d=>(F d).mono T⟩
 by_cases e:x=c
 · subst e
   rw[aA.aJ] at hx
   cases hx
   obtain⟨hl,c0,t,e1,e2,vs,e3,e4⟩:=S x _ hc
   refine⟨hl,c0,t,e1,?_,vs,e3,aY.mono T _ _ (WE (fun v hv=>VC.soft a [v] hv) hd e4)⟩
   simpa using e2
 · rw[aA.aF _ _ e] at hx
   obtain⟨hl,y⟩:=S x o hx
   exact⟨hl,lB.mono T rfl y⟩
theorem Q8{es:List AV}:∀ {l:List AV},(∀a∈l,a.fz b es=a)→kK b es l=l
 | [],_=>rfl
 | a::l,h=>by rw[kK,h a (by simp),Q8 fun x hx=>h x (by simp [hx])]
theorem a5A{φ:AF}(hb:l≠[]→(S.aC c (.cells (hd++bQ w b l::tl))) b=none)(hj:∀e∈l,e.bV=false)(hE:jU l)
 (hh:∀a∈hd++tl,∀b es,a.fz b es=a) :
 gN φ (qC S c b w hd tl l) φ (S.aC c (.cells (hd++ .slice l::tl))):=by
 have hcc:=HX hb
 cases l with
 | nil=>
  have:=gN.a8G (φ:=φ) hcc
  unfold qC at this ⊢
  simp only[AC,dR] at this
  exact this
 | cons y l=>
  have h0:=hb (by simp)
  have hne:b≠c:=by rintro rfl;rw[aA.aJ] at h0;cases h0
  have h1:qC S c b w hd tl (y::l) b=some (.cells ((y::l).flatMap AV.cells)):=by unfold qC;simp only[bK];exact aA.aJ _ _ _
  have:=gN.a1X (φ:=φ) hne h1 hj hE hcc
  have e:(qC S c b w hd tl (y::l)).erase b=S.aC c (.cells (hd++bQ w b (y::l)::tl)):=by unfold qC;simp only[bK];exact aA.AL _ _ _ h0
  have f1:kK b (y::l) hd=hd:=Q8 fun a ha=>hh a (by simp [ha]) _ _
  have f2:kK b (y::l) tl=tl:=Q8 fun a ha=>hh a (by simp [ha]) _ _
  have f3:(bQ w b (y::l)).fz b (y::l)=.slice (y::l):=by simp [bQ,AV.fz]
  rw[e,dR,AQ,oN,bR,←AQ,←AQ,f1,f2,f3] at this
  exact this
end
abbrev zC:=zi aX (zi cI (zi cC kX))
theorem PZ(cl:Cl)(h1:cl.1.small=true)(h2:cl.2.length≤1048576)(h3:∀x∈cl.2,x.small=true)(st:aA):aD prog 57 [aG cl] st (fun r st'=>r=aG cl∧st'=st):=by
 obtain⟨⟨k,n,s,ks⟩,ts⟩:=cl
 have hhd:=fun st=>KB (.mk k n s ks) st h1
 simp only[bD] at hhd
 have IH:=fun(x:Tm) (hx:x∈ts) st=>KB x st (h3 x hx)
 have hlen:ts.length≤1048576:=h2
 refine aD.oS (aD.fin ?_)
 simp only[mQ]
 refine wF [] 1 func57 ntmps57 rfl rfl ?_
 simp only[cV,AV.fits,dE,aE]
 intro ⟨_,_,_,_,hl,_⟩
 simp only[aB,seval,zC]
 intro b2 hb2
 refine(hhd _).to ?_
 simp only[aM,aB,seval,zC]
 intro c hc
 have hne:c≠b2:=by rintro rfl;rw[aA.aJ] at hc;cases hc
 have hn2:st c=none:=by rw[aA.aF st _ hne] at hc;exact hc
 have q7:b2≠c:=dA hne
 refine dI (σ:=Nat) [] [1,2,3] ts (fun i b=>(((ts.take i).map (fun y=>y)).map Tm.av≠[]→(aA.aC (st.aC b2 (.cells [AV.int .i64 0,AV.int .i64 0,AV.str ⟨#[]⟩,AV.fslice [],AV.fslice []])) c (.cells ([AV.int .i64 k,AV.int .i64 n,AV.str s,AV.slice (ks.map Tm.av)]++ [bQ 4 b (((ts.take i).map (fun y=>y)).map Tm.av)]))) b=none)) (fun i b=>[(4,.int .i64 i)]) (fun i b=>lH (st.aC b2 (.cells [AV.int .i64 0,AV.int .i64 0,AV.str ⟨#[]⟩,AV.fslice [],AV.fslice []])) c b [AV.int .i64 k,AV.int .i64 n,AV.str s,AV.slice (ks.map Tm.av)] (((ts.take i).map (fun y=>y)).map Tm.av)) (by decide +kernel)
  ⟨0,fun h=>absurd rfl h,aP.mk (by simp only[aB,↓aW,seval])⟩ (fun i x b hx hlt a7 hdr hinv=>?_) (fun b hge hinv=>?_)
 case refine_1=>
  have hw:=aZ (n:=(i:Int)+1)
  have dO:(((ts.take i).map (fun y=>y)).map Tm.av).length=i:=by simp only[aE,dZ];omega
  have htk:(ts.take (i+1)).map (fun y=>y)=(ts.take i).map (fun y=>y)++ [(fun y=>y) x]:=by rw[fN,hx];simp
  have hbo:=mF hinv
  simp only[aE,a7,aB,seval,zC]
  refine wP [(0,1),(2,1),(4,1),(1,2),(3,2),(5,1),(6,2),(7,2),(8,1),(9,0),(10,1),(11,0)] [0,2,4,1,3,5,6,7,8,10] mixed ?_
  simp only[bH (av:=Tm.av) bY hx (aT x),cD,aT,hbo,rZ,jW,aB,seval,zC]
  refine iD (IH x (cH hx) _) ?_
  simp only[cD,aT,Tm.fP,jW,aB,seval,zC]
  refine gA bY lC lE rfl rfl (g8 (aT _) (Tm.e9 _)) (iX _) hinv (by simp only[dO,a8,bG];omega) (by simp only[dO,a8,bG];omega) (fun b' hb'=>?_)
  rw[show(((ts.take i).map (fun y=>y)).map Tm.av)++ [((fun y=>y) x).av]=((ts.take (i+1)).map (fun y=>y)).map Tm.av by rw[htk];simp] at hb' ⊢
  obtain⟨g1,g2,g3⟩:=xB hb'
  simp only[gR,eE] at g1 g3
  simp only[g3,nS,iK,aM,g1,hw,aM,aB,seval,zC]
  exact⟨b',g2,aP.mk (by simp only[aB,seval])⟩
 have hbo:=mF hinv
 rw[eD] at hinv hbo ⊢
 simp only[aE,hge,aB,seval,zC]
 simp only[hbo,aM,aB,seval,zC]
 have hS:(st.aC b2 (.cells [AV.int .i64 0,AV.int .i64 0,AV.str ⟨#[]⟩,AV.fslice [],AV.fslice []])) b2≠none:=by rw[aA.aJ];simp
 have h1:=oA hinv hS q7
 rw[aA.aJ] at h1
 simp only[h1,iK,aB,seval]
 obtain⟨h2,h3⟩:=vL (o:=.cells [AV.int .i64 k,AV.int .i64 n,AV.str s,AV.slice (ks.map Tm.av),bQ 4 b ((ts.map fun y=>y).map Tm.av)]) hinv hS q7
 refine⟨b,_,_,h2,h3,tC _,⟨4,iX _⟩,?_,?_⟩
 · simp only[gJ,bR,bS,gW,pV,iC,nT,List.map_id']
 · exact(((aO.refl _).aC hb2).aC hn2).aC hb2
structure Ss where
 p:List Cl
 q:List Tm
 bB:Int
 used:Int
 bL:Int
 fin:Int
def gU(s:Ss):AV:=.agg [.slice (s.p.map aG),.slice (s.q.map Tm.av),.int .i64 s.bB,.int .i64 s.used,.int .i64 s.bL,.int .i64 s.fin]
abbrev aXB (c:Cl):Prop:=c.1.small=true∧c.2.length≤1048576∧∀x∈c.2,x.small=true
theorem KK(l:List Cl):∀e∈l.map aG,e.width=5:=by intro e h;simp only[cF] at h;obtain⟨t,_,rfl⟩:=h;exact fQ t
theorem QH(l:List Cl):∀e∈l.map aG,e.bV=false:=by intro e h;simp only[cF] at h;obtain⟨t,_,rfl⟩:=h;exact GW t
abbrev uP:=zi aX (zi gL (zi cI (zi oF (zi cC kX))))
theorem aU3(s:Ss)(hp:s.p.length≤1048576)(hps:∀c∈s.p,aXB c)(hq:s.q.length≤1048576)(hqs:∀t∈s.q,t.small=true)(st:aA):aD prog 56 [gU s] st (fun r st'=>r=gU s∧st'=st):=by
 obtain⟨ps,qs,i0,i1,i2,i3⟩:=s
 simp only at hp hps hq hqs
 refine aD.oS (aD.fin ?_)
 simp only[gU]
 refine wF [1000000,3] 1 func56 ntmps56 rfl rfl ?_
 intro _
 simp only[aM,aB,↓aW,seval,uP]
 intro b2 hb2 c hc
 have hne:c≠b2:=by rintro rfl;rw[aA.aJ] at hc;cases hc
 have hn2:st c=none:=by rw[aA.aF st _ hne] at hc;exact hc
 have q7:b2≠c:=dA hne
 refine dI (σ:=Nat) [1000000,3] [1,2,3] ps
  (fun i b=>((ps.take i).map aG≠[]→((st.aC b2 (.cells [.fslice [],.fslice [],.int .i64 0,.int .i64 0,.int .i64 0,.int .i64 0])).aC c (.cells ([]++bQ 5 b ((ps.take i).map aG):: [.fslice [],.int .i64 i0,.int .i64 i1,.int .i64 i2,.int .i64 i3]))) b=none))
  (fun i _=>[(4,.int .i64 i)]) (fun i b=>qC (st.aC b2 (.cells [.fslice [],.fslice [],.int .i64 0,.int .i64 0,.int .i64 0,.int .i64 0])) c b 5 [] [.fslice [],.int .i64 i0,.int .i64 i1,.int .i64 i2,.int .i64 i3] ((ps.take i).map aG)) (by decide +kernel)
  ⟨0,fun h=>absurd rfl h,aP.mk (by simp only[aB,↓aW,seval])⟩ (fun i x b hx hlt a7 hdr hinv=>?_) (fun b hge hinv=>?_)
 · have hw:=aZ (n:=(i:Int)+1)
   have dO:((ps.take i).map aG).length=i:=by simp only[aE,dZ];omega
   have htk:(ps.take (i+1)).map aG=(ps.take i).map aG++ [aG x]:=by rw[fN,hx];simp
   have hbo:=HX hinv
   simp only[eE] at hbo
   have fZ:=cH hx
   obtain⟨s1,s2,s3⟩:=hps x fZ
   have hat:=bH (av:=aG) lD hx (fQ x)
   simp only[a7,aE,aB,seval,uP]
   refine wP [(0,1),(2,1),(4,1),(1,2),(3,2),(5,1),(6,2),(7,2),(8,1),(9,0),(10,1),(11,0)] [0,2,4,1,3,5,6,7,8,10] mixed ?_
   simp only[hat,nU,fQ,hbo,rZ,aB,seval,uP]
   refine iD (PZ x s1 s2 s3 _) ?_
   simp only[nU,fQ,GW,aB,seval,uP]
   refine gA lD G0 G4 rfl rfl (g8 (fQ _) (DB _)) (KK _) hinv (by simp only[dO,a8,bG];omega) (by simp only[dO,a8,bG];omega) (fun b' hb'=>?_)
   rw[←htk] at hb' ⊢
   obtain⟨g1,g2,g3⟩:=aME hb'
   simp only[eE] at g1 g3
   simp only[g3,nS,iK,g1,hw,aM,aB,seval,uP]
   exact⟨b',g2,aP.mk (by simp only[aB,seval])⟩
 · rw[eD] at hinv ⊢
   have hbo:=HX hinv
   simp only[eE] at hbo
   simp only[hge,aE,aB,seval,uP]
   refine dI (σ:=Nat) [1000000,3] [1,2,3] qs
    (fun i b=>((qs.take i).map Tm.av≠[]→((st.aC b2 (.cells [.fslice [],.fslice [],.int .i64 0,.int .i64 0,.int .i64 0,.int .i64 0])).aC c (.cells ([.slice (ps.map aG)]++bQ 4 b ((qs.take i).map Tm.av):: [.int .i64 i0,.int .i64 i1,.int .i64 i2,.int .i64 i3]))) b=none))
    (fun i _=>[(5,.int .i64 i)]) (fun i b=>qC (st.aC b2 (.cells [.fslice [],.fslice [],.int .i64 0,.int .i64 0,.int .i64 0,.int .i64 0])) c b 4 [.slice (ps.map aG)] [.int .i64 i0,.int .i64 i1,.int .i64 i2,.int .i64 i3] ((qs.take i).map Tm.av)) (by decide +kernel)
    ⟨0,fun h=>absurd rfl h,?_⟩ (fun i x b hx hlt a7 hdr hinv=>?_) (fun b hge hinv=>?_)
   · exact(a5A hinv (QH _) ⟨5,KK _⟩ (by intro a ha;simp only[eE,cG,cX,dG] at ha;rcases ha with rfl | rfl | rfl | rfl | rfl<;>intro _ _<;>rfl)).trans (gN.kJ (by simp only[aB,↓aW,seval]))
   · have hw:=aZ (n:=(i:Int)+1)
     have dO:((qs.take i).map Tm.av).length=i:=by simp only[aE,dZ];omega
     have htk:(qs.take (i+1)).map Tm.av=(qs.take i).map Tm.av++ [x.av]:=by rw[fN,hx];simp
     have hbo:=HX hinv
     simp only[gR,eE] at hbo
     have hat:=bH (av:=Tm.av) bY hx (aT x)
     simp only[a7,aE,aB,seval,uP]
     refine wP [(0,1),(2,1),(4,1),(1,2),(3,2),(5,1),(6,2),(7,2),(8,1),(9,0),(10,1),(11,0)] [0,2,4,1,3,5,6,7,8,10] mixed ?_
     simp only[hat,cD,aT,hbo,rZ,aB,seval,uP]
     refine iD (KB x _ (hqs x (cH hx))) ?_
     simp only[cD,aT,Tm.fP,aB,seval,uP]
     refine gA bY lC lE rfl rfl (g8 (aT _) (Tm.e9 _)) (iX _) hinv (by simp only[dO,a8,bG];omega) (by simp only[dO,a8,bG];omega) (fun b' hb'=>?_)
     rw[←htk] at hb' ⊢
     obtain⟨g1,g2,g3⟩:=aME hb'
     simp only[gR,eE] at g1 g3
     simp only[g3,nS,iK,g1,hw,aM,aB,seval,uP]
     exact⟨b',g2,aP.mk (by simp only[aB,seval])⟩
   · rw[eD] at hinv ⊢
     have hbo:=HX hinv
     simp only[gR,eE] at hbo
     have h2o:=a5Y (x:=b2) hinv (by rw[aA.aJ];simp) q7
     rw[aA.aJ] at h2o
     simp only[hge,aE,hbo,h2o,iK,aM,aB,seval,uP]
     have aKY:qs.map Tm.av≠[]→b2≠b:=fun h e=>by
      have:=hinv h
      rw[←e,aA.aF _ _ q7,aA.aJ] at this
      cases this
     refine⟨b,qs.map Tm.av,_,by unfold qC;rw[nR aKY],fun h=>by rw[aA.aF _ _ (dA (aKY h))];exact hinv h,tC _,⟨4,iX _⟩,by simp only[gJ,bR,bS,gW,iC,nT],?_⟩
     exact(((aO.refl _).aC hb2).aC hn2).aC hb2
end Go.AW
