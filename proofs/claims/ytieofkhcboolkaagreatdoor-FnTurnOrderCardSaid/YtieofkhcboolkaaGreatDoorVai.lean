import Derived.Test.YtieofkhcboolkaaGreatDoorVaf
import Derived.Test.YtieofkhcboolkaaGreatDoorVah
set_option linter.unusedSimpArgs false
set_option linter.unusedVariables false
set_option maxRecDepth 100000
namespace Go.AW
open Go.Proofs.Tryz
theorem BP(n lo hi:Int)(st:aB):aD prog 110 [.int .i64 n,.int .i64 lo,.int .i64 hi] st (fun r st'=>r=.bool (decide (lo≤n)&&decide (n≤hi))∧st'=st):=by
 refine wF [] 3 func110 ntmps110 rfl rfl ?_
 intro _
 repeat' (first
  | (simp only[*,aA,seval])
  | (refine cT (fun h=>?_) (fun h=>?_))
  | (refine aP (fun h=>?_) (fun h=>?_)))
 all_goals simp_all
theorem LH(s:ByteArray)(st:aB):aD prog 209 [.str s] st (fun r st'=>r=.tup [.int .i64 (cC s),.bool (cC s == 1||cC s == 2)]∧st'=st):=by
 refine wF [] 1 func209 ntmps209 rfl rfl ?_
 intro _
 repeat' (first
  | (simp only[*,aA,seval])
  | (refine cT (fun h=>?_) (fun h=>?_))
  | (refine aP (fun h=>?_) (fun h=>?_)))
 all_goals (simp only[cC, *,vB,wL,Bool.or_self,cond_true,BS];first | done | rfl)
theorem xA(s:ByteArray)(st:aB):aD prog 170 [.str s] st (fun r st'=>r=.int .i64 (cC s)∧st'=st):=by
 refine wF [] 1 func170 ntmps170 rfl rfl ?_
 intro _
 repeat' (first
  | (simp only[*,aA,seval])
  | (refine cT (fun h=>?_) (fun h=>?_))
  | (refine aP (fun h=>?_) (fun h=>?_)))
 all_goals (simp only[cC, *,vB,wL,Bool.or_self,cond_true,BS];first | done | rfl)
theorem aWF(s:ByteArray)(n:Int)(st:aB):aD prog 176 [.str s,.int .i64 n] st (fun r st'=>r=.bool (isBuiltin s n)∧st'=st):=by
 refine wF [] 2 func176 ntmps176 rfl rfl ?_
 intro _
 repeat' (first
  | (simp only[*,aA,seval])
  | (refine cT (fun h=>?_) (fun h=>?_))
  | (refine aP (fun h=>?_) (fun h=>?_)))
 all_goals (simp only[isBuiltin, *,vB,wL,Bool.or_self,cond_true,BS];first | done | rfl)
theorem Q3(s:ByteArray)(n:Int)(st:aB):aD prog 169 [.str s,.int .i64 n] st (fun r st'=>r=.bool (isBuiltin s n)∧st'=st):=by
 refine wF [] 2 func169 ntmps169 rfl rfl ?_
 intro _
 repeat' (first
  | (simp only[*,aA,seval])
  | (refine cT (fun h=>?_) (fun h=>?_))
  | (refine aP (fun h=>?_) (fun h=>?_)))
 all_goals (simp only[isBuiltin, *,vB,wL,Bool.or_self,cond_true,BS];first | done | rfl)
abbrev aQE:=zi aW (zi cF (zi lH cW))
theorem ZZ(s:ByteArray)(st:aB):aD prog 168 [.str s] st (fun r st'=>r=.bool (sW s)∧st'=st):=by
 refine wF [] 1 func168 ntmps168 rfl rfl ?_
 simp only[eM,AV.fits,eS]
 intro hs
 simp only[aA,seval]
 refine yJ (α:=Nat) [] (fun i=>i≤s.size∧∀(j:Nat) c,j<i→(sb s)[j]?=some c→letter c=true)
  (fun i=>[(0,.str s),(3,.int .i64 i)]) (fun _=>st) (fun i=>s.size - i) (by decide +kernel)
  ⟨0,⟨by omega,by intro j x h;omega⟩,aO.mk (by simp only[aA,↓aS,seval])⟩ ?_
 intro i ⟨hi,dV⟩
 simp only[aA,seval,aQE]
 refine⟨fun h5=>?_,fun h5=>?_⟩
 case refine_2=>
  simp only[dF,nL] at h5
  have ha:(sb s).all letter=true:=K4 fun j c hc=>dV j c (by have:=(fA.1 hc).1;rw[cO] at this;omega) hc
  repeat' (first
   | (simp only[*,aA,seval,aQE])
   | (refine cT (fun h=>?_) (fun h=>?_))
   | (refine aP (fun h=>?_) (fun h=>?_)))
  all_goals simp only[sW,ha,dU,AV.bool.injEq]
  all_goals simp only[*,jZ,dU,fF]
 simp only[bK,nL] at h5
 obtain⟨c,hc⟩:∃c,(sb s)[i]?=some c:=⟨_,d4 (by rw[cO];exact h5)⟩
 have hx:=sU (P:=prog) (t:=9) rZ hc
 simp only[hx,aA,seval]
 refine cT (fun h6=>?_) (fun h6=>?_)
 case refine_2=>
  simp only[h6,aA,seval]
  simp only[l9,bK] at h6
  simp only[sW,w6 hc (show letter c=false by simp [letter];omega),fF]
 simp only[h6,hx,aA,seval]
 refine⟨fun h7=>?_,fun h7=>?_⟩
 · simp only[aA,seval]
   simp only[bK] at h7
   simp only[sW,w6 hc (show letter c=false by simp [letter];omega),fF]
 simp only[dF] at h6 h7
 simp only[aA,seval]
 refine⟨i+1,by omega,⟨by omega,fun j u hj hu=>?_⟩,aO.mk ?_⟩
 · rcases lN j i with h8 | h8
   · exact dV j u h8 hu
   · obtain rfl:j=i:=by omega
     rw[hc] at hu;cases hu
     simp [letter];omega
 · have:=bF (n:=(i:Int)+1)
   simp only[this,aA,seval]
abbrev aQF:=zi aW (zi cF (zi lH (zi bBY cW)))
theorem QT(s:ByteArray)(st:aB):aD prog 174 [.str s] st (fun r st'=>r=.bool (sW s)∧st'=st):=by
 refine wF [] 1 func174 ntmps174 rfl rfl ?_
 simp only[eM,AV.fits,eS]
 intro hs
 simp only[aA,seval,aQF]
 refine yJ (α:=Nat) [] (fun i=>i≤s.size∧∀(j:Nat) c,j<i→(sb s)[j]?=some c→letter c=true)
  (fun i=>[(0,.str s),(5,.int .i64 s.size),(6,.int .i64 i)]) (fun _=>st) (fun i=>s.size - i) (by decide +kernel)
  ⟨0,⟨by omega,by intro j x h;omega⟩,aO.mk (by simp only[aA,↓aS,seval])⟩ ?_
 intro i ⟨hi,dV⟩
 simp only[aA,seval]
 refine⟨fun h5=>?_,fun h5=>?_⟩
 case refine_2=>
  simp only[dF,nL] at h5
  have ha:(sb s).all letter=true:=K4 fun j c hc=>dV j c (by have:=(fA.1 hc).1;rw[cO] at this;omega) hc
  simp only[aA,seval,aQF]
  refine(BP _ _ _ st).to ?_
  simp only[aA,seval]
  simp only[sW,ha,dU]
 simp only[bK,nL] at h5
 obtain⟨c,hc⟩:∃c,(sb s)[i]?=some c:=⟨_,d4 (by rw[cO];exact h5)⟩
 have hx:=sU (P:=prog) (t:=9) rZ hc
 simp only[hx,aA,seval]
 refine cT (fun h6=>?_) (fun h6=>?_)
 case refine_2=>
  simp only[h6,aA,seval]
  simp only[l9,bK] at h6
  simp only[sW,w6 hc (show letter c=false by simp [letter];omega),fF]
 simp only[h6,hx,aA,seval]
 refine⟨fun h7=>?_,fun h7=>?_⟩
 · simp only[aA,seval]
   simp only[bK] at h7
   simp only[sW,w6 hc (show letter c=false by simp [letter];omega),fF]
 simp only[dF] at h6 h7
 simp only[aA,seval]
 refine⟨i+1,by omega,⟨by omega,fun j u hj hu=>?_⟩,aO.mk ?_⟩
 · rcases lN j i with h8 | h8
   · exact dV j u h8 hu
   · obtain rfl:j=i:=by omega
     rw[hc] at hu;cases hu
     simp [letter];omega
 · have:=bF (n:=(i:Int)+1)
   simp only[this,aA,seval]
theorem LK(s:ByteArray)(st:aB):aD prog 175 [.str s] st (fun r st'=>r=.bool (decide ((0:Int)<(cC s:Int)))∧st'=st):=by
 refine wF [] 1 func175 ntmps175 rfl rfl ?_
 intro _
 simp only[aA,seval]
 refine(LH s st).to ?_
 simp only[aA,seval]
abbrev bA6:=zi aW (zi cF (zi cA bR))
theorem BO(k n:Int)(s:ByteArray)(ts:List Tm)(st:aB):aD prog 177 [(Tm.mk k n s ts).av] st (fun r st'=>r=.bool (decide (k=3)&&decide ((ts.length:Int)=0))∧st'=st):=by
 refine wF [] 1 func177 ntmps177 rfl rfl ?_
 intro _
 simp only[aX]
 repeat' (first
  | (simp only[*,aA,seval,bA6])
  | (refine cT (fun h=>?_) (fun h=>?_))
  | (refine aP (fun h=>?_) (fun h=>?_)))
 all_goals simp_all
def jI:List ByteArray:=[⟨#[43]⟩,⟨#[45]⟩,⟨#[42]⟩,⟨#[47,47]⟩,⟨#[61]⟩,⟨#[92,61]⟩,⟨#[61,61]⟩,⟨#[60]⟩,⟨#[62]⟩,⟨#[61,60]⟩,⟨#[62,61]⟩,⟨#[61,58,61]⟩,⟨#[46]⟩,⟨#[91,93]⟩,⟨#[33]⟩]
theorem aYS(st:aB):aD prog 304 [] st (fun r st'=>r=.fslice (jI.map .str)∧st'=st):=by
 refine wF [] 0 func304 ntmps304 rfl rfl ?_
 intro _
 simp only[jI,aA,seval,pP]
theorem ZX(st:aB):aD prog 346 [] st (fun r st'=>r=.fslice (jI.map .str)∧st'=st):=by
 refine wF [] 0 func346 ntmps346 rfl rfl ?_
 intro _
 simp only[jI,aA,seval,pP]
abbrev aQH:=zi aW (zi cF (zi cW pP))
theorem aW1(l:List ByteArray)(s:ByteArray)(st:aB):aD prog 345 [.slice (l.map .str),.str s] st (fun r st'=>r=.bool (l.any fun x=>decide (x=s))∧st'=st):=by
 refine wF [] 2 func345 ntmps345 rfl rfl ?_
 simp only[eM,AV.fits,eS,aF]
 intro ⟨⟨hl,_⟩,_⟩
 simp only[aA,seval]
 refine yJ (α:=Nat) [] (fun i=>i≤l.length∧∀(j:Nat) x,j<i→l[j]?=some x→decide (x=s)=false)
  (fun i=>[(0,.slice (l.map .str)),(1,.str s),(5,.int .i64 i)]) (fun _=>st) (fun i=>l.length - i) (by decide +kernel)
  ⟨0,⟨by omega,by intro j x h;omega⟩,aO.mk (by simp only[aA,↓aS,seval])⟩ ?_
 intro i ⟨hi,dV⟩
 simp only[aF,aA,seval,aQH]
 refine⟨fun h5=>?_,fun h5=>?_⟩
 case refine_2=>
  simp only[aA,seval]
  simp only[dF,nL] at h5
  have:(l.any fun x=>decide (x=s))=false:=by
   rw[List.any_eq_false]
   intro x hx
   obtain⟨j,hj⟩:=A9 hx
   simp [dV j x (by have:=(fA.1 hj).1;omega) hj]
  rw[this]
 simp only[bK,nL] at h5
 obtain⟨x,hx⟩:∃x,l[i]?=some x:=⟨_,d4 h5⟩
 simp only[bH (av:=AV.str) sO hx rfl,aA,seval,aQH]
 refine⟨fun h6=>?_,fun h6=>?_⟩
 · simp only[aA,seval]
   have:(l.any fun x=>decide (x=s))=true:=by
    rw[A5]
    exact⟨x,cH hx,h6⟩
   rw[this]
 simp only[aA,seval]
 refine⟨i+1,by omega,⟨by omega,fun j u hj hu=>?_⟩,aO.mk ?_⟩
 · rcases lN j i with h8 | h8
   · exact dV j u h8 hu
   · obtain rfl:j=i:=by omega
     rw[hx] at hu;cases hu
     exact h6
 · have:=bF (n:=(i:Int)+1)
   simp only[this,aA,seval]
abbrev aQG:=zi aW (zi cW pP)
theorem aVO(l:List ByteArray)(s:ByteArray)(st:aB):aD prog 335 [.slice (l.map .str),.str s] st (fun r st'=>(∃k:Int,r=.int .i64 k∧decide (0≤k)=l.any fun x=>decide (s=x))∧st'=st):=by
 refine wF [] 2 func335 ntmps335 rfl rfl ?_
 simp only[eM,AV.fits,eS,aF]
 intro ⟨⟨hl,_⟩,_⟩
 simp only[aF,aA,seval,aQG]
 refine yJ (α:=Nat) [] (fun i=>i≤l.length∧∀(j:Nat) x,j<i→l[j]?=some x→decide (s=x)=false)
  (fun i=>[(0,.slice (l.map .str)),(1,.str s),(7,.int .i64 l.length),(8,.int .i64 i)]) (fun _=>st) (fun i=>l.length - i) (by decide +kernel)
  ⟨0,⟨by omega,by intro j x h;omega⟩,aO.mk (by simp only[aA,↓aS,seval])⟩ ?_
 intro i ⟨hi,dV⟩
 simp only[aA,seval]
 refine⟨fun h5=>?_,fun h5=>?_⟩
 case refine_2=>
  simp only[aA,seval]
  simp only[dF,nL] at h5
  have:(l.any fun x=>decide (s=x))=false:=by
   rw[List.any_eq_false]
   intro x hx
   obtain⟨j,hj⟩:=A9 hx
   simp [dV j x (by have:=(fA.1 hj).1;omega) hj]
  rw[this]
  exact⟨_,rfl,rfl⟩
 simp only[bK,nL] at h5
 obtain⟨x,hx⟩:∃x,l[i]?=some x:=⟨_,d4 h5⟩
 simp only[bH (av:=AV.str) sO hx rfl,aA,seval,aQG]
 refine⟨fun h6=>?_,fun h6=>?_⟩
 · simp only[aA,seval]
   have:(l.any fun x=>decide (s=x))=true:=by
    rw[A5]
    exact⟨x,cH hx,h6⟩
   rw[this]
   exact⟨_,rfl,by simp⟩
 simp only[aA,seval]
 refine⟨i+1,by omega,⟨by omega,fun j u hj hu=>?_⟩,aO.mk ?_⟩
 · rcases lN j i with h8 | h8
   · exact dV j u h8 hu
   · obtain rfl:j=i:=by omega
     rw[hx] at hu;cases hu
     exact h6
 · have:=bF (n:=(i:Int)+1)
   simp only[this,aA,seval]
theorem aVG(l:List ByteArray)(s:ByteArray)(st:aB):aD prog 303 [.slice (l.map .str),.str s] st (fun r st'=>r=.bool (l.any fun x=>decide (s=x))∧st'=st):=by
 refine wF [] 2 func303 ntmps303 rfl rfl ?_
 intro _
 simp only[aA,seval]
 refine(aVO l s st).mono ?_
 rintro _ _ ⟨⟨k,rfl,hk⟩,rfl⟩
 simp only[aA,seval]
 rw[←hk]
theorem QN(l:List ByteArray)(s:ByteArray)(st:aB):aD prog 303 [.fslice (l.map .str),.str s] st (fun r st'=>r=.bool (l.any fun x=>decide (s=x))∧st'=st):=
 aD.rT (by simp only[iQ,AV.soft];exact aVG l s st)
theorem aW2(l:List ByteArray)(s:ByteArray)(st:aB):aD prog 345 [.fslice (l.map .str),.str s] st (fun r st'=>r=.bool (l.any fun x=>decide (x=s))∧st'=st):=
 aD.rT (by simp only[iQ,AV.soft];exact aW1 l s st)
def zY(s:ByteArray):Bool:=sW s||jI.any fun x=>decide (s=x)
theorem aTW(s:ByteArray):(jI.any fun x=>decide (x=s))=jI.any fun x=>decide (s=x):=by
 congr 1
 funext x
 exact sN.2 ⟨Eq.symm,Eq.symm⟩
theorem aWG(s:ByteArray)(st:aB):aD prog 241 [.str s] st (fun r st'=>r=.bool (zY s)∧st'=st):=by
 refine wF [] 1 func241 ntmps241 rfl rfl ?_
 intro _
 repeat' (first
  | (simp only[*,aA,seval])
  | (refine cT (fun h=>?_) (fun h=>?_))
  | (refine(QT s st).to ?_) | (refine(aYS st).to ?_) | (refine(QN jI s st).to ?_)
  | (refine aP (fun h=>?_) (fun h=>?_)))
 all_goals simp only[zY, *,l9,wL,oY]
theorem aYN(s:ByteArray)(st:aB):aD prog 311 [.str s] st (fun r st'=>r=.bool (zY s)∧st'=st):=by
 refine wF [] 1 func311 ntmps311 rfl rfl ?_
 intro _
 repeat' (first
  | (simp only[*,aA,seval])
  | (refine cT (fun h=>?_) (fun h=>?_))
  | (refine(ZZ s st).to ?_) | (refine(ZX st).to ?_) | (refine(aW2 jI s st).to ?_)
  | (refine aP (fun h=>?_) (fun h=>?_)))
 all_goals simp only[zY,aTW, *,l9,wL,oY]
end Go.AW
namespace Go.AW
def eF(k n:Int)(s:ByteArray)(len:Int):Bool:=
 cond (decide (k=1)) (decide ((0:Int)≤n)&&decide (n≤25)&&decide (s=⟨#[]⟩)&&decide (len=0))
  (cond (decide (k=2)) (decide ((-999:Int)≤n)&&decide (n≤999)&&decide (s=⟨#[]⟩)&&decide (len=0))
   (cond (decide (k=3)) (decide (n=0)&&zY s&&decide (len≤4)) false))
mutual
def Tm.shape:Tm→Int→Bool
 | .mk k n s ts,d=>decide (1≤d)&&eF k n s ts.length&&OU ts (d - 1)
def OU:List Tm→Int→Bool
 | [],_=>true
 | t::ts,d=>t.shape d&&OU ts d
end
theorem aRT:∀(ts:List Tm) (d:Int),OU ts d=ts.all fun t=>t.shape d
 | [],_=>rfl
 | t::ts,d=>by simp only[OU,kY,aRT ts d]
theorem Tm.FS(k n:Int)(s:ByteArray)(ts:List Tm)(d:Int):(Tm.mk k n s ts).shape d=(decide (1≤d)&&eF k n s ts.length&&ts.all fun t=>t.shape (d - 1)):=by simp only[Tm.shape,aRT]
mutual
def Tm.nodes:Tm→Nat
 | .mk _ _ _ ts=>1+OP ts
def OP:List Tm→Nat
 | []=>0
 | t::ts=>t.nodes+OP ts
end
theorem aRP:∀(ts:List Tm),OP ts=bB Tm.nodes ts
 | []=>rfl
 | t::ts=>by simp only[OP,bB,aRP ts]
theorem Tm.gJ(k n:Int)(s:ByteArray)(ts:List Tm):(Tm.mk k n s ts).nodes=1+bB Tm.nodes ts:=by simp only[Tm.nodes,aRP]
def Tm.valid(t:Tm):Bool:=t.shape 30&&decide (t.nodes≤120)
mutual
def Tm.vars:Tm→List Int→List Int
 | .mk k n _ ts,l=>bT ts (if k=1∧n∉l then l++ [n] else l)
def bT:List Tm→List Int→List Int
 | [],l=>l
 | t::ts,l=>bT ts (t.vars l)
end
mutual
theorem Tm.GK:∀(t:Tm) (l:List Int),(t.vars l).length≤l.length+t.nodes
 | .mk k n s ts,l=>by
  have h:=AT ts (if k=1∧n∉l then l++ [n] else l)
  have h2:(if k=1∧n∉l then l++ [n] else l).length≤l.length+1:=by split<;>simp
  rw[Tm.vars,Tm.gJ]
  omega
theorem AT:∀(ts:List Tm) (l:List Int),(bT ts l).length≤l.length+bB Tm.nodes ts
 | [],l=>by simp [bT,bB]
 | t::ts,l=>by
  have h1:=Tm.GK t l
  have h2:=AT ts (t.vars l)
  simp only[bT,bB]
  omega
end
def eC(v:Int):List Int→Int→Int
 | [],_=> -1
 | x::xs,i=>if v=x then i else eC v xs (i+1)
theorem aNG(v:Int):∀(l:List Int) (i:Int),0≤i→(0≤eC v l i↔v∈l)
 | [],i,h=>by simp [eC]
 | x::xs,i,h=>by
  simp only[eC,cY]
  split
  · rename_i e;simp [e,h]
  · rename_i e;rw[aNG v xs (i+1) (by omega)];simp [e]
theorem oH{st:aB}{b x:Nat}{l:List AV}{o:AO}(h:l≠[]→x≠b):(bE st b l).aC x o=bE (st.aC x o) b l:=by
 cases l with
 | nil=>rfl
 | cons y l=>exact aB.lZ _ _ _ (c9 (h (by simp)))
theorem K3{st:aB}{b x:Nat}{l:List AV}{o:AO}(hx:st x=none)(h:l≠[]→(st.aC x o) b=none):aL (bE (st.aC x o) b l) (bE st b l)∧(l≠[]→st b=none):=by
 cases l with
 | nil=>exact⟨(aL.refl _).aC hx,fun h=>absurd rfl h⟩
 | cons y l=>
  have hb:=h (by simp)
  have hne:b≠x:=by rintro rfl;rw[aB.aJ] at hb;cases hb
  rw[aB.aH _ _ hne] at hb
  refine⟨?_,fun _=>hb⟩
  simp only[bE]
  rw[aB.lZ _ _ _ (c9 hne)]
  exact(aL.refl _).aC (by rw[aB.aH _ _ (c9 hne)];exact hx)
theorem YL{P:Program}{t:TypeId}{ag:Bool}{w b i:Nat}{l:List AV}{x:AV}(hI:eI P t=some (ag,w))(h:l[i]?=some x):c8 P t (bS w b l) (.int .i64 (i:Int))=some (.ptr b (i*w)):=by
 have hi:=(fA.1 h).1
 rw[pW (by rintro rfl;simp at hi)]
 exact p8 hI hi
theorem YM{st:aB}{b i:Nat}{l:List Int}{x:Int}(h:l[i]?=some x):bE st b (l.map iv) b=some (.cells (l.map iv))∧(l.map iv)[i]?=some (iv x):=by
 have hi:=(fA.1 h).1
 have hne:l.map iv≠[]:=by rintro e;rw[List.map_eq_nil_iff] at e;subst e;simp at hi
 have hfl:(l.map iv).flatMap AV.cells=l.map iv:=by
  clear h hi hne
  induction l with
  | nil=>rfl
  | cons y l ih=>simp only[bA,qT,ih];rfl
 exact⟨by rw[kS hne,hfl,aB.aJ],by rw[mA,h];try rfl⟩
mutual
def Tm.wf:Tm→Bool
 | .mk k _ _ ts=>(!decide (k=1)||ts.isEmpty)&&OW ts
def OW:List Tm→Bool
 | []=>true
 | t::ts=>t.wf&&OW ts
end
theorem WV:∀(ts:List Tm),OW ts=ts.all Tm.wf
 | []=>rfl
 | t::ts=>by simp only[OW,kY,WV ts]
theorem Tm.W8{k n:Int}{s:ByteArray}{ts:List Tm}(h:(Tm.mk k n s ts).wf=true):(k=1→ts= [])∧∀x∈ts,x.wf=true:=by
 simp only[Tm.wf,WV,bV,oZ,lJ,dF,List.isEmpty_iff,dW] at h
 exact⟨fun hk=>h.1.resolve_left (fun hn=>hn hk),h.2⟩
theorem Tm.C8{t:Tm}(h:t.valid=true):t.nodes≤120:=by simp only[Tm.valid,bV,bK] at h;exact h.2
theorem bAR{l:List Tm}(h:∀x∈l,x.valid=true):bB Tm.nodes l≤120*l.length:=by
 induction l with
 | nil=>simp [bB]
 | cons t l ih=>
  have h1:=Tm.C8 (h t (by simp))
  have h2:=ih fun x hx=>h x (by simp [hx])
  simp only[bB,aU]
  omega
def lE(S:aB)(c b:Nat)(hd:List AV)(l:List AV):aB:=bE (S.aC c (.cells (hd++ [bS 4 b l]))) b l
theorem mK{S:aB}{c b:Nat}{hd l:List AV}(hb:l≠[]→(S.aC c (.cells (hd++ [bS 4 b l]))) b=none):lE S c b hd l c=some (.cells (hd++ [bS 4 b l])):=by
 unfold lE
 cases l with
 | nil=>simp only[bE,aB.aJ]
 | cons y l=>
  have h:=hb (by simp)
  have hne:c≠b:=fun e=>by rw[←e,aB.aJ] at h;cases h
  rw[nN hne,aB.aJ]
theorem xS{S:aB}{c b b':Nat}{hd l l':List AV}(hb:l'≠[]→(S.aC c (.cells (hd++ [bS 4 b l]))) b'=none) :
 (bE (S.aC c (.cells (hd++ [bS 4 b l]))) b' l').aC c (.cells (hd++ [bS 4 b' l']))=lE S c b' hd l'∧(l'≠[]→(S.aC c (.cells (hd++ [bS 4 b' l']))) b'=none)∧bE (S.aC c (.cells (hd++ [bS 4 b l]))) b' l' c=some (.cells (hd++ [bS 4 b l])):=by
 have hne:l'≠[]→c≠b':=fun h e=>by have:=hb h;rw[←e,aB.aJ] at this;cases this
 refine⟨?_,fun h=>?_,?_⟩
 · rw[oH hne,dO];try rfl
 · have:=hb h
   rw[aB.aH _ _ (c9 (hne h))] at this ⊢
   exact this
 · cases l' with
   | nil=>simp only[bE,aB.aJ]
   | cons y l=>rw[nN (hne (by simp)),aB.aJ]
theorem oQ{S:aB}{c b x:Nat}{hd l:List AV}(hb:l≠[]→(S.aC c (.cells (hd++ [bS 4 b l]))) b=none)(hx:S x≠none)(hxc:x≠c):lE S c b hd l x=S x:=by
 unfold lE
 cases l with
 | nil=>simp only[bE,aB.aH _ _ hxc]
 | cons y l=>
  have h:=hb (by simp)
  have hne:x≠b:=fun e=>by
   rw[←e,aB.aH _ _ hxc] at h
   exact hx h
  rw[nN hne,aB.aH _ _ hxc]
theorem vY{S:aB}{c b x:Nat}{hd l:List AV}{o:AO}(hb:l≠[]→(S.aC c (.cells (hd++ [bS 4 b l]))) b=none)(hx:S x≠none)(hxc:x≠c):(lE S c b hd l).aC x o=bE ((S.aC c (.cells (hd++ [bS 4 b l]))).aC x o) b l∧(l≠[]→((S.aC c (.cells (hd++ [bS 4 b l]))).aC x o) b=none):=by
 have hne:l≠[]→x≠b:=fun h e=>by
  have:=hb h
  rw[←e,aB.aH _ _ hxc] at this
  exact hx this
 refine⟨by unfold lE;rw[oH hne],fun h=>by rw[aB.aH _ _ (c9 (hne h))];exact hb h⟩
theorem aNM{S:aB}{c b x:Nat}{hd l:List AV}{o:AO}(hb:l≠[]→(S.aC c (.cells (hd++ [bS 4 b l]))) b=none)(hx:S x≠none)(hxc:x≠c) :
 (lE S c b hd l).aC x o=lE (S.aC x o) c b hd l∧(l≠[]→((S.aC x o).aC c (.cells (hd++ [bS 4 b l]))) b=none):=by
 have hne:l≠[]→x≠b:=fun h e=>by
  have:=hb h
  rw[←e,aB.aH _ _ hxc] at this
  exact hx this
 refine⟨by unfold lE;rw[oH hne,aB.lZ _ _ _ (c9 hxc)],fun h=>?_⟩
 have:=hb h
 rw[aB.lZ _ _ _ hxc,aB.aH _ _ (c9 (hne h))]
 exact this
theorem a6X{S T:aB}{c b:Nat}{hd l:List AV}(D:aL (S.aC c (.cells (hd++ [bS 4 b l]))) T)(hb:l≠[]→(S.aC c (.cells (hd++ [bS 4 b l]))) b=none):aL (lE S c b hd l) T:=
 D.bE fun h=>(D b).1 (hb h)
theorem aB.AU{st:aB}{b c:Nat}{a z a':AO}(h:b≠c):((st.aC c a).aC b z).aC c a'=(st.aC b z).aC c a':=by rw[aB.lZ _ _ _ (c9 h),dO]
theorem gO(l:List Tm):∀e∈l.map Tm.av,e.width=4:=by intro e h;simp only[cB] at h;obtain⟨t,_,rfl⟩:=h;exact aN t
theorem oV(l:List Tm):∀e∈l.map Tm.av,e.cD=false:=by intro e h;simp only[cB] at h;obtain⟨t,_,rfl⟩:=h;exact cP t
end Go.AW
namespace Go.AW
open Go.Proofs.Tryz
mutual
def Tm.small:Tm→Bool
 | .mk _ _ _ ts=>decide (ts.length≤1048576)&&J8 ts
def J8:List Tm→Bool
 | []=>true
 | t::ts=>t.small&&J8 ts
end
theorem J9:∀(ts:List Tm),J8 ts=ts.all Tm.small
 | []=>rfl
 | t::ts=>by simp only[J8,kY,J9 ts]
theorem Tm.qN{k n:Int}{s:ByteArray}{ts:List Tm}(h:(Tm.mk k n s ts).small=true):ts.length≤1048576∧∀x∈ts,x.small=true:=by
 simpa [Tm.small,J9] using h
abbrev OE:=zi aW (zi cA bR)
theorem aOD(l:List Tm)(st:aB)(hb:l.length≤1048576)(hc:∀x∈l,∀(st:aB),aD prog 91 [Tm.av x] st (Made st (Tm.av x))) :
 aD prog 67 [.slice (l.map Tm.av)] st (Made st (.slice (l.map Tm.av))):=by
 have hws:∀e∈l.map Tm.av,e.width=4:=fun e he=>by simp only[cB] at he;obtain⟨t,_,rfl⟩:=he;exact aN t
 refine wF [] 1 func67 ntmps67 rfl rfl ?_
 intro _
 simp only[aF,aA,seval,OE]
 refine dX (σ:=List AV×List Nat×Nat×aB) [] [2,6,7] l (fun i p=>wM (l.map Tm.av) st i p.1 p.2.1 p.2.2.1 p.2.2.2) (fun i p=>[(3,bS 4 p.2.2.1 p.1),(8,.int .i64 i)]) (fun _ p=>p.2.2.2) (by decide +kernel)
  ⟨([],[],0,st),wM.start,aO.mk (by simp only[iV,aA,↓aS,seval])⟩ (fun i x p hx hlt bL hdr hinv=>?_) (fun p hge hinv=>?_)
 case refine_2=>
  obtain⟨os,bs,b,s⟩:=p
  simp only[hge,aA,seval]
  exact hinv.done (aF _) hws
 obtain⟨os,bs,b,s⟩:=p
 simp only at hinv
 have hw:=bF (n:=(i:Int)+1)
 have nU:∀zs:List AV,zs.length=4→aK zs 0 (Tm.av x).cells=(Tm.av x).cells:=fun zs h=>CP (cE x) h
 simp only[bL,bH (av:=Tm.av) bQ hx (aN x),a7,aN,cE,cI,dO,nU,aA,seval,OE]
 intro b2 hb2
 try simp only[mS,cE,fN (cE x),fG (a7 x),cU,nU,dO,cI,aA,↓aS,seval,OE]
 refine(hc x (cH hx) _).mono ?_
 rintro r s2 ⟨bx,m1,m2,m3,m4⟩
 obtain⟨f1,f2,f3⟩:=m3.aY5 (aN x) (cI x)
 have hra:r.isAgg=true:=by rw[(cG.shape m3).1,a7]
 have hrj:r.cD=false:=(cG.shape m3).2.2.1
 simp only[f1,hra,hrj,aA,seval,OE]
 have hlen:os.length=i:=hinv.1
 have a5L:∀e∈os,e.width=4:=fun e he=>by
  obtain⟨k,hk,rfl⟩:=List.getElem_of_mem he
  exact hinv.2.1.W9 (fun q hq=>hws q (mC hq)) _ he
 have hkb:os≠[]→s2 b=some (.cells (os.flatMap AV.cells)):=fun hne=>by
  have h:=(hinv.2.2.2.2.1 hne).2.2
  have hbx:b∉bx:=fun hq=>by
   have:=m2 b hq
   have IN:b≠b2:=fun e=>by rw[e,hb2] at h;cases h
   rw[aB.aH _ _ IN,h] at this;cases this
  have IN:b≠b2:=fun e=>by rw[e,hb2] at h;cases h
  rw[m4 b hbx,aB.aH _ _ IN,h]
 refine aTQ bQ jE jF rfl rfl (fQ f1 f3) a5L hkb (by simp only[aU,aZ,hlen];omega) (by simp only[aU,aZ,hlen];omega) (fun b' s' k1 k2 k3 k4=>?_)
 have g7:=hinv.step hb2 (show(l.map Tm.av)[i]?=some (Tm.av x) by rw[mA,hx];try rfl) m1 m2 m3 m4 (k1 (by simp)) (k2 (by simp)) (fun q h1 h2=>k3 q (fun _=>h1) h2) k4
 simp only[hw,aA,seval]
 exact⟨(os++ [r],bs++bx,b',s'.erase b2),g7,aO.drop (kI _ _) (by simp only[aA,seval])⟩
abbrev aQ5:=zi cA bR
theorem aOC:∀(t:Tm) (st:aB),t.small=true→aD prog 91 [t.av] st (Made st t.av)
 | .mk k n s ts,st,hb=>by
  obtain⟨hb1,hb2⟩:=Tm.qN hb
  have hc:=fun st=>aOD ts st hb1 fun x hx st=>aOC x st (hb2 x hx)
  refine aD.a7F ?_
  refine wF [1] 1 func91 ntmps91 rfl rfl ?_
  intro _
  simp only[aX]
  simp only[aA,seval,aQ5]
  intro b a3Y b2 MS
  have hne:b2≠b:=by rintro rfl;rw[aB.aJ] at MS;cases MS
  have hn2:st b2=none:=by rw[aB.aH st _ hne] at MS;exact MS
  simp only[mS,hne.symm,aA,seval]
  refine(hc _).mono ?_
  rintro q s2 ⟨bs,m1,m2,m3,m4⟩
  have hbb:b∉bs:=fun h=>by have:=m2 b h;simp [mS,hne.symm] at this
  have MU:b2∉bs:=fun h=>by have:=m2 b2 h;simp [mS] at this
  have e1:=m4 b hbb
  have e2:=m4 b2 MU
  simp only[mS,hne,hne.symm,eX,dT] at e1 e2
  have hqc:q.cells= [q]:=by have:=(cG.shape m3).1;cases q<;>first | rfl | simp [AV.isAgg] at this
  have hqs:q.storable=true:=by
   have:=m3
   simp only[cG] at this
   rcases this with ⟨_,rfl,_⟩ | ⟨_,_,_,_,rfl,_⟩<;>rfl
  simp only[mS,hne,e1,e2,hqc,hqs,aK,aA,seval,aQ5]
  refine⟨[b,b2],bs,m1,fun x hx=>?_,?_,?_,?_⟩
  · have:=m2 x hx
    have h1:x≠b:=fun e=>hbb (e▸hx)
    have h2:x≠b2:=fun e=>MU (e▸hx)
    simpa [mS,h1,h2] using this
  · simp [a3Y,hn2,hbb,MU]
  · rw[←aX]
    refine a8I.2 ⟨q,rfl,cG.aV _ _ _ (fun x hx=>?_) m3⟩
    have h1:x≠b:=fun e=>hbb (e▸hx)
    have h2:x≠b2:=fun e=>MU (e▸hx)
    simp only[mS,h1,h2,dT]
  · intro x hx hd
    simp only[cY,dK,dQ,not_or] at hd
    simp only[mS,hd.1,hd.2,dT]
    rw[m4 x hx]
    simp only[mS,hd.1,hd.2,dT]
termination_by t=>SizeOf.sizeOf t
decreasing_by have:=List.sizeOf_lt_of_mem hx;simp only[Tm.mk.sizeOf_spec];omega
abbrev CX:=zi aW (zi cW (zi cA bR))
theorem HM:∀(t:Tm) (st:aB),t.small=true→aD prog 84 [t.av] st (fun r st'=>r=t.av∧st'=st)
 | .mk k n s ts,st,hsm=>by
  obtain⟨hlen,qB⟩:=Tm.qN hsm
  have IH:=fun(x:Tm) (hx:x∈ts) st=>HM x st (qB x hx)
  refine aD.m8 (aD.fin ?_)
  simp only[aX]
  refine wF [] 1 func84 ntmps84 rfl rfl ?_
  simp only[eM,AV.fits,eS,aF]
  intro ⟨_,_,_,hl,_⟩
  simp only[aA,seval,CX]
  intro b2 hb2 c hc
  have hne:c≠b2:=by rintro rfl;rw[aB.aJ] at hc;cases hc
  have hn2:st c=none:=by rw[aB.aH st _ hne] at hc;exact hc
  simp only[aK,aA,seval]
  refine dX (σ:=Nat) [] [1,2,3] ts (fun i b=>(((ts.take i).map (fun y=>y)).map Tm.av≠[]→(aB.aC (st.aC b2 (.cells [AV.int .i64 0,AV.int .i64 0,AV.str ⟨#[]⟩,AV.fslice []])) c (.cells ([AV.int .i64 k,AV.int .i64 n,AV.str s]++ [bS 4 b (((ts.take i).map (fun y=>y)).map Tm.av)]))) b=none)) (fun i b=>[(4,.int .i64 i)]) (fun i b=>lE (st.aC b2 (.cells [AV.int .i64 0,AV.int .i64 0,AV.str ⟨#[]⟩,AV.fslice []])) c b [AV.int .i64 k,AV.int .i64 n,AV.str s] (((ts.take i).map (fun y=>y)).map Tm.av)) (by decide +kernel)
   ⟨0,fun h=>absurd rfl h,aO.mk (by simp only[aA,↓aS,seval])⟩ (fun i x b hx hlt bL hdr hinv=>?_) (fun b hge hinv=>?_)
  case refine_1=>
   have hw:=bF (n:=(i:Int)+1)
   have cM:(((ts.take i).map (fun y=>y)).map Tm.av).length=i:=by simp only[aF,c7];omega
   have htk:(ts.take (i+1)).map (fun y=>y)=(ts.take i).map (fun y=>y)++ [(fun y=>y) x]:=by rw[dY,hx];simp
   have hbo:=mK hinv
   simp only[aF,bL,aA,seval,CX]
   refine wP [(0,1),(2,1),(4,1),(1,2),(3,2),(5,1),(6,2),(7,2),(8,1),(9,0),(10,1),(11,0)] [0,2,4,1,3,5,6,7,8,10] mixed ?_
   simp only[bH (av:=Tm.av) bQ hx (aN x),a7,aN,hbo,sD,gZ,aA,seval,CX]
   refine gP (IH x (cH hx) _) ?_
   simp only[a7,aN,cP,gZ,aA,seval,CX]
   refine eO bQ jE jF rfl rfl (fQ (aN _) (cI _)) (gO _) hinv (by simp only[cM,aU,aZ];omega) (by simp only[cM,aU,aZ];omega) (fun b' hb'=>?_)
   rw[show(((ts.take i).map (fun y=>y)).map Tm.av)++ [((fun y=>y) x).av]=((ts.take (i+1)).map (fun y=>y)).map Tm.av by rw[htk];simp] at hb' ⊢
   obtain⟨g1,g2,g3⟩:=xS hb'
   simp only[gV,fB] at g1 g3
   simp only[g3,qZ,kF,aK,g1,hw,aA,seval,CX]
   exact⟨b',g2,aO.mk (by simp only[aA,seval])⟩
  have hbo:=mK hinv
  rw[dS] at hinv hbo ⊢
  simp only[aF,hge,aA,seval,CX]
  simp only[hbo,aA,seval,CX]
  have rI:b2≠c:=c9 hne
  have hS:(st.aC b2 (.cells [AV.int .i64 0,AV.int .i64 0,AV.str ⟨#[]⟩,AV.fslice []])) b2≠none:=by rw[aB.aJ];simp
  have h1:=oQ hinv hS rI
  rw[aB.aJ] at h1
  simp only[h1,kF,aK,aA,seval]
  obtain⟨h2,h3⟩:=vY (o:=.cells [AV.int .i64 k,AV.int .i64 n,AV.str s,bS 4 b ((ts.map fun y=>y).map Tm.av)]) hinv hS rI
  refine⟨b,_,_,h2,h3,oV _,⟨4,gO _⟩,?_,?_⟩
  · simp only[iX,bA,aY,eW,m9,oI,GR]
  · exact(((aL.refl _).aC hb2).aC hn2).aC hb2
termination_by t=>SizeOf.sizeOf t
decreasing_by have:=List.sizeOf_lt_of_mem hx;simp only[Tm.mk.sizeOf_spec];omega
end Go.AW
namespace Go.AW
def Tm.k:Tm→Int | .mk k _ _ _=>k
def Tm.n:Tm→Int | .mk _ n _ _=>n
def Tm.s:Tm→ByteArray | .mk _ _ s _=>s
def Tm.ts:Tm→List Tm | .mk _ _ _ ts=>ts
theorem Tm.eta(t:Tm):t=.mk t.k t.n t.s t.ts:=by cases t;rfl
def vr(n:Int):Tm:=.mk 1 n ⟨#[]⟩ []
mutual
def Tm.aM(f:Int→Tm):Tm→Tm
 | .mk k n s ts=>if k=1 then f n else .mk k n s (OO f ts)
def OO(f:Int→Tm):List Tm→List Tm
 | []=>[]
 | t::ts=>t.aM f::OO f ts
end
theorem aRO(f:Int→Tm):∀ts:List Tm,OO f ts=ts.map (Tm.aM f)
 | []=>rfl
 | t::ts=>by simp only[OO,bA,aRO f ts]
theorem Tm.mL(f:Int→Tm){k n:Int}{s:ByteArray}{ts:List Tm}(h:k=1):(Tm.mk k n s ts).aM f=f n:=by simp only[Tm.aM,h,eX]
theorem Tm.kO(f:Int→Tm){k n:Int}{s:ByteArray}{ts:List Tm}(h:k≠1):(Tm.mk k n s ts).aM f=.mk k n s (ts.map (Tm.aM f)):=by simp only[Tm.aM,h,dT,aRO]
theorem uL(f:Int→Tm)(n:Int):(vr n).aM f=f n:=Tm.mL f rfl
mutual
def Tm.vl:Tm→List Int
 | .mk k n _ ts=>if k=1 then[n] else KA ts
def KA:List Tm→List Int
 | []=>[]
 | t::ts=>t.vl++KA ts
end
theorem aRV{v:Int}:∀ {ts:List Tm},v∈KA ts↔∃t∈ts,v∈t.vl
 | []=>by simp [KA]
 | t::ts=>by simp [KA,aRV (ts:=ts)]
theorem Tm.nI{k n:Int}{s:ByteArray}{ts:List Tm}(h:k=1):(Tm.mk k n s ts).vl= [n]:=by simp only[Tm.vl,h,eX]
theorem Tm.lC{k n v:Int}{s:ByteArray}{ts:List Tm}(h:k≠1):v∈(Tm.mk k n s ts).vl↔∃t∈ts,v∈t.vl:=by simp only[Tm.vl,h,dT,aRV]
theorem AZ(n:Int):(vr n).vl= [n]:=Tm.nI rfl
theorem Tm.ind{p:Tm→Prop}(h:∀k n s ts,(∀t∈ts,p t)→p (.mk k n s ts)):∀t,p t
 | .mk k n s ts=>h k n s ts fun t ht=>Tm.ind h t
termination_by t=>SizeOf.sizeOf t
decreasing_by have:=List.sizeOf_lt_of_mem ht;simp only[Tm.mk.sizeOf_spec];omega
theorem pI{f g:Int→Tm}:∀(t:Tm),(∀v∈t.vl,f v=g v)→t.aM f=t.aM g:=by
 intro t
 induction t using Tm.ind with
 | h k n s ts ih=>
  intro h
  by_cases hk:k=1
  · rw[Tm.mL f hk,Tm.mL g hk];exact h n (by rw[Tm.nI hk];simp)
  · rw[Tm.kO f hk,Tm.kO g hk]
    congr 1
    exact qU fun x hx=>ih x hx fun v hv=>h v ((Tm.lC hk).2 ⟨x,hx,hv⟩)
theorem uK(f g:Int→Tm)(t:Tm):(t.aM f).aM g=t.aM fun v=>(f v).aM g:=by
 induction t using Tm.ind with
 | h k n s ts ih=>
  by_cases hk:k=1
  · rw[Tm.mL f hk,Tm.mL _ hk]
  · rw[Tm.kO f hk,Tm.kO g hk,Tm.kO _ hk,pR]
    congr 1
    exact qU fun x hx=>ih x hx
theorem AY{f:Int→Tm}{w:Int}(t:Tm):w∈(t.aM f).vl↔∃v∈t.vl,w∈(f v).vl:=by
 induction t using Tm.ind with
 | h k n s ts ih=>
  by_cases hk:k=1
  · rw[Tm.mL f hk,Tm.nI hk];simp
  · rw[Tm.kO f hk,Tm.lC hk]
    constructor
    · rintro⟨x,hx,hw⟩
      obtain⟨y,hy,rfl⟩:=cB.1 hx
      obtain⟨v,hv,hvw⟩:=(ih y hy).1 hw
      exact⟨v,(Tm.lC hk).2 ⟨y,hy,hv⟩,hvw⟩
    · rintro⟨v,hv,hw⟩
      obtain⟨y,hy,hvy⟩:=(Tm.lC hk).1 hv
      exact⟨_,cB.2 ⟨y,hy,rfl⟩,(ih y hy).2 ⟨v,hvy,hw⟩⟩
theorem a7S{f:Int→Tm}{v:Int}:∀(t:Tm),v∈t.vl→(f v).nodes≤(t.aM f).nodes∧(t.k≠1→(f v).nodes<(t.aM f).nodes):=by
 intro t
 induction t using Tm.ind with
 | h k n s ts ih=>
  intro hv
  by_cases hk:k=1
  · rw[Tm.nI hk] at hv
    simp only[cY,dK,dQ] at hv
    subst hv
    rw[Tm.mL f hk]
    exact⟨cU _,fun h=>absurd hk h⟩
  · obtain⟨x,hx,hvx⟩:=(Tm.lC hk).1 hv
    have h1:=(ih x hx hvx).1
    have h2:=JL (f:=Tm.nodes) (cB.2 ⟨x,hx,rfl⟩:x.aM f∈ts.map (Tm.aM f))
    rw[Tm.kO f hk,Tm.gJ]
    omega
abbrev Sub:=Int→Option Tm
def Sub.set(σ:Sub)(n:Int)(t:Tm):Sub:=fun m=>if m=n then some t else σ m
def Sub.none:Sub:=fun _=>Option.none
structure Good (σ:Sub) (R:Int→Tm) (rk:Int→Nat) (B:Nat):Prop where
 x7:∀n,R n=match σ n with | some u=>u.aM R | .none=>vr n
 I9:∀n u,σ n=some u→∀w∈u.vl,rk w<rk n
 bd:∀n,rk n<B
def r9(θ:Int→Tm)(σ:Sub):Prop:=∀n u,σ n=some u→θ n=u.aM θ
section
variable {σ:Sub} {R R':Int→Tm} {rk rk':Int→Nat} {B B':Nat}
theorem Good.none:Good Sub.none vr (fun _=>0) 1:=⟨fun n=>rfl,fun n u h=>(by cases h),fun n=>Nat.zero_lt_one⟩
theorem Good.free(G:Good σ R rk B){n:Int}(h:σ n=.none):R n=vr n:=by rw[G.x7 n,h]
theorem Good.bound(G:Good σ R rk B){n:Int}{u:Tm}(h:σ n=some u):R n=u.aM R:=by rw[G.x7 n,h]
theorem Good.xR(G:Good σ R rk B):r9 R σ:=fun n u h=>G.bound h
theorem Good.ind(G:Good σ R rk B){p:Int→Prop}(h0:∀n,σ n=.none→p n)(h1:∀n u,σ n=some u→(∀w∈u.vl,p w)→p n):∀n,p n:=by
 intro n
 generalize hk:rk n=k
 induction k using Nat.strongRecOn generalizing n with
 | _ k ih=>
  cases h:σ n with
  | none=>exact h0 n h
  | some u=>exact h1 n u h fun w hw=>ih (rk w) (hk▸G.I9 n u h w hw) w rfl
theorem Good.uniq(G:Good σ R rk B)(G':Good σ R' rk' B'):R=R':=by
 funext n
 refine G.ind (p:=fun n=>R n=R' n) (fun n h=>?_) (fun n u h ih=>?_) n
 · rw[G.free h,G'.free h]
 · rw[G.bound h,G'.bound h];exact pI u ih
theorem Good.a2X(G:Good σ R rk B){θ:Int→Tm}(S:r9 θ σ)(n:Int):(R n).aM θ=θ n:=by
 refine G.ind (p:=fun n=>(R n).aM θ=θ n) (fun n h=>?_) (fun n u h ih=>?_) n
 · rw[G.free h,uL]
 · rw[G.bound h,uK,S n u h];exact pI u ih
theorem Good.R5(G:Good σ R rk B){θ:Int→Tm}(S:r9 θ σ)(t:Tm):(t.aM R).aM θ=t.aM θ:=by
 rw[uK];exact pI t fun v _=>G.a2X S v
theorem Good.canon(G:Good σ R rk B)(n:Int):(R n).aM vr=R n:=by
 refine G.ind (p:=fun n=>(R n).aM vr=R n) (fun n h=>?_) (fun n u h ih=>?_) n
 · rw[G.free h,uL]
 · rw[G.bound h,uK];exact pI u ih
theorem Good.aY1(G:Good σ R rk B)(t:Tm):(t.aM R).aM vr=t.aM R:=by
 rw[uK];exact pI t fun v _=>G.canon v
theorem Good.bind(G:Good σ R rk B){n:Int}{t:Tm}(hn:σ n=.none)(ho:n∉(t.aM R).vl) :
 ∃rk' B',Good (σ.set n t) (fun m=>(R m).aM fun v=>if v=n then t.aM R else vr v) rk' B':=by
 have key:(t.aM R).aM (fun v=>if v=n then t.aM R else vr v)=t.aM R:=by
  rw[pI (g:=vr) (t.aM R) (fun v hv=>aE fun e=>ho (by rw[←e];exact hv)),G.aY1]
 refine⟨fun v=>if n∈(R v).vl then rk v+B else rk v,B+B,fun m=>?_,fun m u h w hw=>?_,fun m=>?_⟩
 · by_cases hm:m=n
   · subst hm
     simp only[Sub.set,eX]
     rw[G.free hn,uL,aG rfl]
     rw[←uK,key]
   · simp only[Sub.set,hm,dT]
     cases h:σ m with
     | none=>rw[G.free h,uL,aE hm]
     | some u=>rw[G.bound h,uK]
 · by_cases hm:m=n
   · subst hm
     simp only[Sub.set,eX,Option.some.injEq] at h
     subst h
     have hw':m∉(R w).vl:=fun h=>ho ((AY t).2 ⟨w,hw,h⟩)
     have:m∈(R m).vl:=by rw[G.free hn,AZ];simp
     have:=G.bd w
     simp only[hw',dT]
     rw[aG (by assumption)]
     omega
   · simp only[Sub.set,hm,dT] at h
     have h1:=G.I9 m u h w hw
     by_cases hw':n∈(R w).vl
     · have:n∈(R m).vl:=by rw[G.bound h];exact(AY u).2 ⟨w,hw,hw'⟩
       simp only[hw',this,eX];omega
     · simp only[hw',dT];split<;>omega
 · have:=G.bd m
   split<;>omega
end
open Classical in
noncomputable def rs(σ:Sub):Int→Tm:=if h:∃R rk B,Good σ R rk B then h.choose else vr
theorem Good.rs{σ:Sub}{R:Int→Tm}{rk:Int→Nat}{B:Nat}(G:Good σ R rk B):rs σ=R:=by
 unfold AW.rs
 have h:∃R rk B,Good σ R rk B:=⟨R,rk,B,G⟩
 rw[dif_pos h]
 obtain⟨rk',B',G'⟩:=h.choose_spec
 exact G'.uniq G
inductive fZ (σ:Sub):Nat→Tm→Tm→Prop
 | stop {t:Tm} (h:t.k=1→σ t.n=none):fZ σ 0 t t
 | go {f:Nat} {t u v:Tm} (h1:t.k=1) (h2:σ t.n=some u) (h3:fZ σ f u v):fZ σ (f+1) t v
theorem fZ.det{σ:Sub}{f g:Nat}{t u v:Tm}(h:fZ σ f t u):fZ σ g t v→u=v:=by
 induction h generalizing g v with
 | stop h=>
  intro h'
  cases h' with
  | stop=>rfl
  | go h1 h2 h3=>rw[h h1] at h2;cases h2
 | go h1 h2 h3 ih=>
  intro h'
  cases h' with
  | stop h=>rw[h h1] at h2;cases h2
  | go h1' h2' h3'=>rw[h2] at h2';cases h2';exact ih h3'
theorem fZ.total{σ:Sub}{R:Int→Tm}{rk:Int→Nat}{B:Nat}(G:Good σ R rk B)(t:Tm):∃f u,fZ σ f t u:=by
 have key:∀n,∀t:Tm,t.k=1→t.n=n→∃f u,fZ σ f t u:=by
  intro n
  refine G.ind (p:=fun n=>∀t:Tm,t.k=1→t.n=n→∃f u,fZ σ f t u) (fun n h t hk hn=>?_) (fun n u h ih t hk hn=>?_) n
  · exact⟨0,t,.stop fun _=>by rw[hn,h]⟩
  · by_cases hu:u.k=1
    · have:u.n∈u.vl:=by rw[Tm.eta u,Tm.nI hu];simp [Tm.n]
      obtain⟨f,v,hv⟩:=ih u.n this u hu rfl
      exact⟨f+1,v,.go hk (by rw[hn,h]) hv⟩
    · exact⟨1,u,.go hk (by rw[hn,h]) (.stop fun h=>absurd h hu)⟩
 by_cases hk:t.k=1
 · exact key t.n t hk rfl
 · exact⟨0,t,.stop fun h=>absurd h hk⟩
theorem Tm.GM{t:Tm}(h:t.k=1):t.vl= [t.n]:=by cases t;exact Tm.nI h
theorem Tm.E7{t:Tm}(f:Int→Tm)(h:t.k=1):t.aM f=f t.n:=by cases t;exact Tm.mL f h
theorem Tm.rO{t:Tm}(f:Int→Tm)(h:t.k≠1):t.aM f=.mk t.k t.n t.s (t.ts.map (Tm.aM f)):=by cases t;exact Tm.kO f h
theorem fZ.end{σ:Sub}{f:Nat}{t u:Tm}(h:fZ σ f t u):u.k=1→σ u.n=none:=by induction h with | stop h=>exact h | go _ _ _ ih=>exact ih
theorem fZ.aM{σ:Sub}{θ:Int→Tm}(S:r9 θ σ){f:Nat}{t u:Tm}(h:fZ σ f t u):u.aM θ=t.aM θ:=by
 induction h with
 | stop=>rfl
 | go h1 h2 _ ih=>rw[ih,Tm.E7 θ h1,S _ _ h2]
theorem fZ.I9{σ:Sub}{R:Int→Tm}{rk:Int→Nat}{B:Nat}(G:Good σ R rk B){f:Nat}{t u:Tm}(h:fZ σ f t u):∀w∈u.vl,∃v∈t.vl,rk w≤rk v∧(f≠0→rk w<rk v):=by
 induction h with
 | stop h=>exact fun w hw=>⟨w,hw,cU _,fun h=>absurd rfl h⟩
 | @go f t u v h1 h2 _ ih=>
  intro w hw
  obtain⟨x,hx,hle,_⟩:=ih w hw
  have:=G.I9 _ _ h2 x hx
  exact⟨t.n,by rw[Tm.GM h1];simp,by omega,fun _=>by omega⟩
theorem fZ.all{σ:Sub}{p:Tm→Prop}(hp:∀n u,σ n=some u→p u){f:Nat}{t u:Tm}(h:fZ σ f t u)(ht:p t):p u:=by
 induction h with
 | stop=>exact ht
 | go _ h2 _ ih=>exact ih (hp _ _ h2)
open Classical in
noncomputable def wk(σ:Sub)(t:Tm):Tm:=if h:∃u f,fZ σ f t u then h.choose else t
theorem fZ.wk{σ:Sub}{f:Nat}{t u:Tm}(h:fZ σ f t u):wk σ t=u:=by
 unfold AW.wk
 have h':∃u f,fZ σ f t u:=⟨u,f,h⟩
 rw[dif_pos h']
 obtain⟨g,hg⟩:=h'.choose_spec
 exact hg.det h
theorem Good.wk{σ:Sub}{R:Int→Tm}{rk:Int→Nat}{B:Nat}(G:Good σ R rk B)(t:Tm):∃f,fZ σ f t (wk σ t):=by
 obtain⟨f,u,h⟩:=fZ.total G t
 exact⟨f,by rw[h.wk];exact h⟩
open Classical in
noncomputable def kH(σ:Sub)(n:Int)(t:Tm):Bool×Sub×List Int:=if n∈(t.aM (rs σ)).vl then(false,σ,[]) else(true,σ.set n t,[n])
open Classical in
def vR(a b:Tm):Bool:=decide (a.k=b.k)&&decide (a.n=b.n)&&decide (a.s=b.s)&&decide (a.ts.length=b.ts.length)
mutual
noncomputable def dH:Nat→Sub→Tm→Tm→Option (Bool×Sub×List Int)
 | 0,_,_,_=>none
 | g+1,σ,a,b=>
  if(wk σ a).k=1∧(wk σ b).k=1∧(wk σ a).n=(wk σ b).n then some (true,σ,[])
  else if(wk σ a).k=1 then some (kH σ (wk σ a).n (wk σ b))
  else if(wk σ b).k=1 then some (kH σ (wk σ b).n (wk σ a))
  else if vR (wk σ a) (wk σ b)=true then dZ g σ (wk σ a).ts (wk σ b).ts
  else some (false,σ,[])
termination_by g=>(g,0)
noncomputable def dZ:Nat→Sub→List Tm→List Tm→Option (Bool×Sub×List Int)
 | g,σ,a::xs,b::ys=>match dH g σ a b with
  | none=>none
  | some (false,σ',tr)=>some (false,σ',tr)
  | some (true,σ',tr)=>match dZ g σ' xs ys with
   | none=>none
   | some (r,σ'',tr')=>some (r,σ'',tr++tr')
 | _,σ,_,_=>some (true,σ,[])
termination_by g _ xs=>(g,xs.length+1)
end
theorem O3{g:Nat}{σ σ':Sub}{a b:Tm}{r:Bool}{add:List Int}(h:dH (g+1) σ a b=some (r,σ',add)) :
 ((wk σ a).k=1∧(wk σ b).k=1∧(wk σ a).n=(wk σ b).n∧true=r∧σ=σ'∧[]=add) ∨
 ((wk σ a).k=1∧¬((wk σ b).k=1∧(wk σ a).n=(wk σ b).n)∧kH σ (wk σ a).n (wk σ b)=(r,σ',add)) ∨
 ((wk σ a).k≠1∧(wk σ b).k=1∧kH σ (wk σ b).n (wk σ a)=(r,σ',add)) ∨
 ((wk σ a).k≠1∧(wk σ b).k≠1∧vR (wk σ a) (wk σ b)=true∧dZ g σ (wk σ a).ts (wk σ b).ts=some (r,σ',add)) ∨
 ((wk σ a).k≠1∧(wk σ b).k≠1∧vR (wk σ a) (wk σ b)=false∧false=r∧σ=σ'∧[]=add):=by
 rw[dH] at h
 split at h
 · rename_i h1;exact .inl ⟨h1.1,h1.2.1,h1.2.2,by simpa using h⟩
 · rename_i h1
   split at h
   · rename_i h2;exact .inr (.inl ⟨h2,fun h3=>h1 ⟨h2,h3⟩,mD h⟩)
   · rename_i h2
     split at h
     · rename_i h3;exact .inr (.inr (.inl ⟨h2,h3,mD h⟩))
     · rename_i h3
       split at h
       · rename_i h4;exact .inr (.inr (.inr (.inl ⟨h2,h3,h4,h⟩)))
       · rename_i h4;exact .inr (.inr (.inr (.inr ⟨h2,h3,by simpa using h4,by simpa using h⟩)))
theorem Tm.soft(t:Tm):t.av.soft=t.av:=by cases t;simp [aX,AV.soft,iQ]
theorem Tm.BV(t:Tm)(b:Nat):t.av.fin b []=t.av:=Tm.soft t
abbrev Bd:=Int×Tm
def aLL:List Bd→Int→Option Tm
 | [],_=>none
 | (m,x)::r,n=>if m=n then some x else aLL r n
def VL(bs:List Bd)(n:Int):Tm:=(aLL bs n).getD (vr n)
def Tm.zero:Tm:=.mk 0 0 ⟨#[]⟩ []
mutual
def Tm.cv:Tm→Bool
 | .mk k _ s ts=>(!decide (k=1)||(decide (s=⟨#[]⟩)&&ts.isEmpty))&&OL ts
def OL:List Tm→Bool
 | []=>true
 | t::ts=>t.cv&&OL ts
end
theorem aRL:∀(ts:List Tm),OL ts=ts.all Tm.cv
 | []=>rfl
 | t::ts=>by simp only[OL,kY,aRL ts]
theorem Tm.nQ{k n:Int}{s:ByteArray}{ts:List Tm}:(Tm.mk k n s ts).cv=true↔(k=1→s=⟨#[]⟩∧ts= [])∧∀x∈ts,x.cv=true:=by
 simp only[Tm.cv,aRL,bV,oZ,lJ,dF,List.isEmpty_iff,dW,bK]
 constructor
 · exact fun h=>⟨fun hk=>h.1.resolve_left (fun hn=>hn hk),h.2⟩
 · intro h
   refine⟨?_,h.2⟩
   by_cases hk:k=1
   · exact .inr (h.1 hk)
   · exact .inl hk
theorem Tm.tZ:∀(t:Tm),t.cv=true→t.wf=true:=by
 intro t
 induction t using Tm.ind with
 | h k n s ts ih=>
  intro h
  obtain⟨h1,h2⟩:=Tm.nQ.1 h
  simp only[Tm.wf,WV,bV,oZ,lJ,dF,List.isEmpty_iff,dW]
  refine⟨?_,fun x hx=>ih x hx (h2 x hx)⟩
  by_cases hk:k=1
  · exact .inr (h1 hk).2
  · exact .inl hk
theorem Tm.aZQ{t:Tm}(h:t.cv=true)(hk:t.k=1):t=vr t.n:=by
 obtain⟨k,n,s,ts⟩:=t
 obtain⟨h1,_⟩:=Tm.nQ.1 h
 simp only[Tm.k] at hk
 subst hk
 obtain⟨rfl,rfl⟩:=h1 rfl
 rfl
theorem Tm.a92:∀(t:Tm) (d:Int),t.shape d=true→t.small=true:=by
 intro t
 induction t using Tm.ind with
 | h k n s ts ih=>
  intro d h
  rw[Tm.FS] at h
  simp only[bV,dW] at h
  obtain⟨⟨_,h1⟩,h2⟩:=h
  simp only[Tm.small,J9,bV,bK,dW]
  refine⟨?_,fun x hx=>ih x hx _ (h2 x hx)⟩
  unfold eF at h1
  cases h3:decide (k=1)<;>rw[h3] at h1
  · cases h4:decide (k=2)<;>rw[h4] at h1
    · cases h5:decide (k=3)<;>rw[h5] at h1<;>simp at h1;omega
    · simp at h1;rw[h1.2];simp
  · simp at h1;rw[h1.2];simp
theorem Tm.O7{t:Tm}(h:t.valid=true):t.small=true:=by simp only[Tm.valid,bV] at h;exact Tm.a92 t 30 h.1
def pG{α:Type}(p:α→Bool):List α→Int→Int
 | [],_=> -1
 | x::xs,i=>if p x=true then i else pG p xs (i+1)
theorem TQ{α:Type}(p:α→Bool):∀(l:List α) (i:Int),0≤i→(pG p l i= -1∧l.any p=false)∨∃(j:Nat) (x:α),pG p l i=i+j∧l[j]?=some x∧p x=true∧l.any p=true∧∀(k:Nat) y,k<j→l[k]?=some y→p y=false
 | [],i,_=>.inl ⟨rfl,rfl⟩
 | x::xs,i,h=>by
  by_cases hp:p x=true
  · exact .inr ⟨0,x,by simp [pG,hp],rfl,hp,by simp [hp],fun k y hk=>absurd hk (Nat.not_lt_zero k)⟩
  · rcases TQ p xs (i+1) (by omega) with ⟨h1,h2⟩ | ⟨j,y,h1,h2,h3,h4,h5⟩
    · exact .inl ⟨by simp [pG,hp,h1],by simp [hp,h2]⟩
    · refine .inr ⟨j+1,y,by simp only[pG,hp,h1];simp;omega,by simpa using h2,h3,by simp [h4],fun k z hk hz=>?_⟩
      cases k with
      | zero=>simp at hz;subst hz;simpa using hp
      | succ k=>exact h5 k z (by omega) (by simpa using hz)
theorem a6F{α:Type}(p:α→Bool)(l:List α):decide (0≤pG p l 0)=l.any p:=by
 rcases TQ p l 0 (Int.le_refl 0) with ⟨h1,h2⟩ | ⟨j,y,h1,_,_,h4,_⟩
 · rw[h1,h2];try rfl
 · rw[h1,h4];simp
end Go.AW
namespace Go.AW
open Go.Proofs.Tryz
abbrev bBB:=zi aW (zi cF (zi cW (zi cA bR)))
theorem aW6(k n:Int)(s:ByteArray)(ts:List Tm)(st:aB):aD prog 251 [(Tm.mk k n s ts).av] st (fun r st'=>r=.bool (eF k n s ts.length)∧st'=st):=by
 refine wF [] 1 func251 ntmps251 rfl rfl ?_
 intro _
 simp only[aX]
 have hl:(ts.map Tm.av).length=ts.length:=aF _
 repeat' (first
  | (simp only[*,aA,seval,bBB])
  | (refine cT (fun h=>?_) (fun h=>?_))
  | (refine(aYN s st).to ?_)
  | (refine aP (fun h=>?_) (fun h=>?_)))
 all_goals simp only[eF, *,cond_true,BS,jZ,dU,fF,l8,wJ]
abbrev N4:=zi aW (zi cF (zi cA bR))
theorem ZW:∀(t:Tm) (d:Int) (st:aB),d≤30→-1≤d→aD prog 166 [t.av,.int .i64 d] st (fun r st'=>r=.bool (t.shape d)∧st'=st)
 | .mk k n s ts,d,st,hd,hd0=>by
  have hc:=fun(x:Tm) (hx:x∈ts) d st h h0=>ZW x d st h h0
  have h1:=aW6 k n s ts st
  rw[aX] at h1
  refine wF [] 2 func166 ntmps166 rfl rfl ?_
  simp only[aX,eM,AV.fits,eS,aF,Tm.FS]
  intro ⟨_,_,_,hl,_⟩
  generalize eF k n s ts.length=z at *
  simp only[aA,seval,N4]
  refine cT (fun h=>?_) (fun h=>?_)
  case refine_2=>
   simp only[h,aA,seval]
   simp only[l9,bK] at h
   simp;omega
  simp only[h,aA,seval,N4]
  refine h1.to ?_
  simp only[aA,seval]
  refine⟨fun h2=>?_,fun h2=>?_⟩
  · simp only[aA,seval]
    simp only[lJ] at h2
    simp [h2]
  simp only[tH,dF] at h2 h
  subst h2
  have hw:=bF (n:=d - 1)
  rw[show decide (1≤d)=true by simp;omega]
  simp only[aA,seval]
  refine yJ (α:=Nat) [] (fun i=>i≤ts.length∧∀(j:Nat) x,j<i→ts[j]?=some x→x.shape (d - 1)=true)
   (fun i=>[(1,.int .i64 d),(2,.pptr (.agg [.int .i64 k,.int .i64 n,.str s,.slice (ts.map Tm.av)])),(5,.int .i64 i)]) (fun _=>st) (fun i=>ts.length - i) (by decide +kernel)
   ⟨0,⟨by omega,by intro j x h;omega⟩,aO.mk (by simp only[aA,↓aS,seval])⟩ ?_
  intro i ⟨hi,dV⟩
  simp only[aF,aA,seval,N4]
  refine⟨fun h5=>?_,fun h5=>?_⟩
  case refine_2=>
   simp only[aA,seval]
   simp only[dF,nL] at h5
   rw[K4 fun j x hx=>dV j x (by have:=(fA.1 hx).1;omega) hx]
  simp only[bK,nL] at h5
  obtain⟨x,hx⟩:∃x,ts[i]?=some x:=⟨_,d4 h5⟩
  simp only[bH (av:=Tm.av) bQ hx (aN x),a7,aN,hw,aA,seval,N4]
  refine(hc x (cH hx) (d - 1) st (by omega) (by omega)).to ?_
  simp only[aA,seval]
  refine⟨fun h6=>?_,fun h6=>?_⟩
  · simp only[aA,seval]
    simp only[lJ] at h6
    rw[w6 hx h6]
  simp only[tH] at h6
  simp only[aA,seval]
  refine⟨i+1,by omega,⟨by omega,fun j u hj hu=>?_⟩,aO.mk ?_⟩
  · rcases lN j i with h8 | h8
    · exact dV j u h8 hu
    · obtain rfl:j=i:=by omega
      rw[hx] at hu;cases hu;exact h6
  · have:=bF (n:=(i:Int)+1)
    simp only[this,aA,seval]
termination_by t=>SizeOf.sizeOf t
decreasing_by have:=List.sizeOf_lt_of_mem hx;simp only[Tm.mk.sizeOf_spec];omega
abbrev VW:=zi aW (zi cA bR)
theorem ZU:∀(t:Tm) (m:Int) (st:aB),0≤m→m≤120→aD prog 167 [t.av,.int .i64 m] st (fun r st'=>r=.int .i64 (min (t.nodes:Int) (m+1))∧st'=st)
 | .mk k n s ts,m,st,hm0,hm=>by
  have hc:=fun(x:Tm) (hx:x∈ts) m st h h0=>ZU x m st h h0
  refine wF [] 2 func167 ntmps167 rfl rfl ?_
  simp only[aX,eM,AV.fits,eS,aF,Tm.gJ]
  intro ⟨_,_,_,hl,_⟩
  simp only[aA,seval,VW]
  refine yJ (α:=Nat) [] (fun i=>i≤ts.length)
   (fun i=>[(1,.int .i64 m),(2,.pptr (.agg [.int .i64 k,.int .i64 n,.str s,.slice (ts.map Tm.av)])),(5,.int .i64 (min ((1+bB Tm.nodes (ts.take i):Nat):Int) (m+1))),(6,.int .i64 i)]) (fun _=>st) (fun i=>ts.length - i) (by decide +kernel)
   ⟨0,by omega,aO.mk (by simp only[jA,bB,show min ((0:Int)+1) (m+1)=1 by omega,xE,↓KM,↓reduceIte,reduceCtorEq,Nat.reduceEqDiff,Nat.reduceAdd])⟩ ?_
  intro i hi
  simp only[aF,aA,seval,VW]
  have S7:¬i<ts.length→bB Tm.nodes (ts.take i)=bB Tm.nodes ts:=fun h=>by rw[lM (by omega)]
  refine cT (fun h5=>?_) (fun h5=>?_)
  case refine_2=>
   simp only[h5,aA,seval]
   simp only[jZ,dF,nL] at h5
   rw[S7 h5]
  simp only[h5,aA,seval]
  simp only[bK,nL] at h5
  obtain⟨x,hx⟩:∃x,ts[i]?=some x:=⟨_,d4 h5⟩
  have hs:=JM Tm.nodes hx
  refine⟨fun h6=>?_,fun h6=>?_⟩
  case refine_2=>
   simp only[aA,seval]
   simp only[dF] at h6
   simp only[AV.int.injEq,uX]
   omega
  simp only[bK] at h6
  have e6:min (((1+bB Tm.nodes (ts.take i):Nat):Int)) (m+1)=((1+bB Tm.nodes (ts.take i):Nat):Int):=by omega
  rw[e6] at h6 ⊢
  have hw:=bF (n:=m - ((1+bB Tm.nodes (ts.take i):Nat):Int))
  simp only[bH (av:=Tm.av) bQ hx (aN x),a7,aN,hw,aA,seval,VW]
  refine(hc x (cH hx) _ st (by omega) (by omega)).to ?_
  have hw2:=bF (n:=((1+bB Tm.nodes (ts.take i):Nat):Int)+min (x.nodes:Int) (m - ((1+bB Tm.nodes (ts.take i):Nat):Int)+1))
  simp only[hw2,aA,seval]
  refine⟨i+1,by omega,by omega,aO.mk ?_⟩
  have:=bF (n:=(i:Int)+1)
  simp only[this,show((1+bB Tm.nodes (ts.take i):Nat):Int)+min (x.nodes:Int) (m - ((1+bB Tm.nodes (ts.take i):Nat):Int)+1)=min ((1+bB Tm.nodes (ts.take (i+1)):Nat):Int) (m+1) by omega,aA,seval]
termination_by t=>SizeOf.sizeOf t
decreasing_by have:=List.sizeOf_lt_of_mem hx;simp only[Tm.mk.sizeOf_spec];omega
abbrev aQK:=zi aW (zi cF bR)
theorem Q5(t:Tm)(st:aB):aD prog 96 [t.av] st (fun r st'=>r=.bool t.valid∧st'=st):=by
 refine wF [] 1 func96 ntmps96 rfl rfl ?_
 intro _
 simp only[cP,a7,aN,aA,seval,aQK]
 refine(ZW t 30 st (by omega) (by omega)).to ?_
 simp only[aA,seval]
 refine cT (fun h=>?_) (fun h=>?_)
 · simp only[h,a7,aN,aA,seval,aQK]
   refine(ZU t 120 st (by omega) (by omega)).to ?_
   simp only[aA,seval]
   simp only[Tm.valid,h,dU,AV.bool.injEq,sN]
   omega
 · simp only[h,aA,seval]
   simp at h
   simp [Tm.valid,h]
abbrev bA7:=zi aW (zi cF (zi cW (zi cA bR)))
theorem Z5(k n:Int)(s:ByteArray)(ts:List Tm)(st:aB):aD prog 225 [(Tm.mk k n s ts).av] st (fun r st'=>r=.bool (decide (k=3)&&decide (s=⟨#[33]⟩)&&decide ((ts.length:Int)=0))∧st'=st):=by
 refine wF [] 1 func225 ntmps225 rfl rfl ?_
 intro _
 simp only[aX]
 repeat' (first
  | (simp only[*,aA,seval,bA7])
  | (refine cT (fun h=>?_) (fun h=>?_))
  | (refine aP (fun h=>?_) (fun h=>?_)))
 all_goals simp only[*,aF,fF]
abbrev aQJ:=zi cF (zi cW bR)
theorem ZN(k n:Int)(s:ByteArray)(ts:List Tm)(st:aB):aD prog 101 [(Tm.mk k n s ts).av] st (fun r st'=>r=.bool (decide (k=3)&&decide ((ts.length:Int)=0)&&decide (s=⟨#[33]⟩))∧st'=st):=by
 have h1:=BO k n s ts st
 rw[aX] at h1
 refine wF [] 1 func101 ntmps101 rfl rfl ?_
 intro _
 simp only[aX]
 simp only[aA,seval,aQJ]
 refine h1.to ?_
 clear h1
 repeat' (first
  | (simp only[*,aA,seval,aQJ])
  | (refine cT (fun h=>?_) (fun h=>?_))
  | (refine aP (fun h=>?_) (fun h=>?_)))
 all_goals simp_all
abbrev aQI:=zi aW (zi cF (zi cW (zi cA bR)))
theorem QS(k n:Int)(s:ByteArray)(ts:List Tm)(st:aB):aD prog 100 [(Tm.mk k n s ts).av] st (fun r st'=>r=.bool (decide (k=3)&&isBuiltin s (ts.length:Int))∧st'=st):=by
 have h1:=aWF s ts.length st
 refine wF [] 1 func100 ntmps100 rfl rfl ?_
 intro _
 simp only[aX]
 simp only[aA,seval,aQI]
 refine cT (fun h=>?_) (fun h=>?_)
 · simp only[h,aF,aA,seval,aQI]
   refine h1.to ?_
   clear h1
   simp only[aA,seval]
 · simp only[h,aA,seval]
   simp at h
   simp []
def rR(k:Int)(s:ByteArray)(len:Int):Bool:=decide (k=3)&&sW s&& !isBuiltin s len&&decide ((cC s:Int)=0)
abbrev bBA:=zi aW (zi cF (zi cW bR))
theorem ZO(k n:Int)(s:ByteArray)(ts:List Tm)(st:aB):aD prog 99 [(Tm.mk k n s ts).av] st (fun r st'=>r=.bool (rR k s (ts.length:Int))∧st'=st):=by
 have h1:=QS k n s ts st
 rw[aX] at h1
 have e:decide ((0:Int)<(cC s:Int))= !decide ((cC s:Int)=0):=by
  by_cases h:cC s=0
  · simp [h]
  · simp [h];omega
 have e3:∀b:Bool,k=3→(decide (k=3)&&b)=b:=fun b h=>by simp [h]
 refine wF [] 1 func99 ntmps99 rfl rfl ?_
 intro _
 simp only[aX]
 repeat' (first
  | (simp only[*,aA,seval,bBA])
  | (refine cT (fun h=>?_) (fun h=>?_))
  | (refine(QT s st).to ?_) | (refine(LK s st).to ?_) | (refine h1.to ?_)
  | (refine aP (fun h=>?_) (fun h=>?_)))
 all_goals (clear h1;simp_all [rR])
abbrev bA9:=zi aW (zi cF (zi cW (zi cA bR)))
theorem Z7(k n:Int)(s:ByteArray)(ts:List Tm)(st:aB):aD prog 97 [(Tm.mk k n s ts).av] st (fun r st'=>r=.bool (rR k s (ts.length:Int))∧st'=st):=by
 refine wF [] 1 func97 ntmps97 rfl rfl ?_
 intro _
 simp only[aX]
 have hl:(ts.map Tm.av).length=ts.length:=aF _
 repeat' (first
  | (simp only[*,aA,seval,bA9])
  | (refine cT (fun h=>?_) (fun h=>?_))
  | (refine(ZZ s st).to ?_) | (refine(Q3 s _ st).to ?_) | (refine(xA s st).to ?_)
  | (refine aP (fun h=>?_) (fun h=>?_)))
 all_goals simp_all [rR]
def zL(k:Int)(s:ByteArray)(len:Int):Bool:=(decide (k=3)&&decide (s=⟨#[33]⟩)&&decide (len=0))||rR k s len||(decide (k=3)&&isBuiltin s len)
abbrev bA8:=zi aW (zi cF (zi cW (zi cA bR)))
theorem aXO(k n:Int)(s:ByteArray)(ts:List Tm)(st:aB):aD prog 231 [(Tm.mk k n s ts).av] st (fun r st'=>r=.bool (zL k s (ts.length:Int))∧st'=st):=by
 have h1:=Z5 k n s ts st
 have h2:=Z7 k n s ts st
 rw[aX] at h1 h2
 refine wF [] 1 func231 ntmps231 rfl rfl ?_
 intro _
 simp only[aX]
 have hl:(ts.map Tm.av).length=ts.length:=aF _
 unfold zL
 generalize (decide (k=3)&&decide (s=⟨#[33]⟩)&&decide ((ts.length:Int)=0))=z1 at *
 generalize rR k s (ts.length:Int)=z2 at *
 repeat' (first
  | (simp only[*,aA,seval,bA8])
  | (refine cT (fun h=>?_) (fun h=>?_))
  | (refine h1.to ?_) | (refine h2.to ?_) | (refine(Q3 s _ st).to ?_)
  | (refine aP (fun h=>?_) (fun h=>?_)))
 all_goals (clear h1 h2;simp_all)
theorem bCN{st:aB}{b:Nat}{o:AO}(h:st b=some o):st.aC b o=st:=by
 funext x;simp only[aB.aC];split
 · rename_i e;rw[e,h]
 · rfl
def JH(ok:Bool)(c n:Int)(b:Nat)(st:aB)(r:AV)(st':aB):Prop:=
 ∃c',r=.bool (decide (c+n≤120)&&ok)∧st'=st.aC b (.cells [.int .i64 c'])∧((decide (c+n≤120)&&ok)=true→c'=c+n)
abbrev bBC:=zi aW (zi cF (zi bR J4))
theorem aYK(x:Tm)(d c:Int)(b:Nat)(st:aB)(hd: -1000≤d)(hd1:d≤1000)
 (h:aD prog 149 [x.av,.int .i64 (d+1),.ptr b 0] st (JH (x.shape (30 - d)) c x.nodes b st)) :
 aD prog 242 [x.av,.pptr (.int .i64 d),.pptr (.ptr b 0)] st (fun r st'=>∃c',r=.bool (!(decide (c+x.nodes≤120)&&x.shape (30 - d)))∧st'=st.aC b (.cells [.int .i64 c'])∧((decide (c+(x.nodes:Int)≤120)&&x.shape (30 - d))=true→c'=c+x.nodes)):=by
 have hw:=bF (n:=d+1)
 refine wF [] 3 func242 ntmps242 rfl rfl ?_
 intro _
 simp only[hw,cP,a7,aN,aA,seval,bBC]
 refine h.mono ?_
 rintro _ _ ⟨c',rfl,rfl,hc⟩
 simp only[aA,seval]
 refine⟨c',?_⟩
 first | exact hc | exact⟨rfl,rfl,hc⟩ | exact⟨rfl,hc⟩ | trace_state
abbrev aQL:=zi aW (zi cA bR)
theorem aVP(l:List Tm)(d c:Int)(b:Nat)(st:aB)(hd: -1000≤d)(hd1:d≤1000)(hb:st b=some (.cells [.int .i64 c]))(hc0:0≤c)(hc1:c≤120)
 (h:∀x∈l,∀(c:Int) (st:aB),st b=some (.cells [.int .i64 c])→0≤c→c≤120→aD prog 149 [x.av,.int .i64 (d+1),.ptr b 0] st (JH (x.shape (30 - d)) c x.nodes b st)) :
 aD prog 230 [.slice (l.map Tm.av),.func 242 [.pptr (.int .i64 d),.pptr (.ptr b 0)]] st
  (fun r st'=>∃j c',r=.int .i64 j∧decide (0≤j)=(!(decide (c+(bB Tm.nodes l:Int)≤120)&&l.all fun t=>t.shape (30 - d)))∧st'=st.aC b (.cells [.int .i64 c'])∧(decide (0≤j)=false→c'=c+(bB Tm.nodes l:Int))):=by
 refine wF [] 2 func230 ntmps230 rfl rfl ?_
 simp only[eM,AV.fits,eS,aF]
 intro ⟨hl,_⟩
 simp only[aF,aA,seval,aQL]
 refine yJ (α:=Nat) [] (fun i=>i≤l.length∧c+(bB Tm.nodes (l.take i):Int)≤120∧∀(j:Nat) x,j<i→l[j]?=some x→x.shape (30 - d)=true)
  (fun i=>[(0,.slice (l.map Tm.av)),(1,.func 242 [.pptr (.int .i64 d),.pptr (.ptr b 0)]),(7,.int .i64 l.length),(8,.int .i64 i)]) (fun i=>st.aC b (.cells [.int .i64 (c+(bB Tm.nodes (l.take i):Int))])) (fun i=>l.length - i) (by decide +kernel)
  ⟨0,⟨by omega,by simp only[jA,bB];omega,by intro j x h;omega⟩,by
   simp only[jA,bB]
   rw[show c+((0:Nat):Int)=c by omega,bCN hb]
   exact aO.mk (by simp only[aA,↓aS,seval])⟩ ?_
 intro i ⟨hi,zU,dV⟩
 simp only[aA,seval]
 refine⟨fun h5=>?_,fun h5=>?_⟩
 case refine_2=>
  simp only[aA,seval]
  simp only[dF,nL] at h5
  rw[lM (by omega)] at zU ⊢
  have ha:(l.all fun t=>t.shape (30 - d))=true:=K4 fun j x hx=>dV j x (by have:=(fA.1 hx).1;omega) hx
  exact⟨-1,_,rfl,by rw[ha];simp<;>omega,rfl,fun _=>rfl⟩
 simp only[bK,nL] at h5
 obtain⟨x,hx⟩:∃x,l[i]?=some x:=⟨_,d4 h5⟩
 have hs:=JM Tm.nodes hx
 simp only[bH (av:=Tm.av) bQ hx (aN x),a7,aN,aA,seval,aQL]
 refine(aYK x d (c+(bB Tm.nodes (l.take i):Int)) b _ hd hd1 (h x (cH hx) _ _ (aB.aJ _ _ _) (by omega) zU)).mono ?_
 rintro _ _ ⟨c',rfl,rfl,hc'⟩
 simp only[dO,aA,seval]
 refine⟨fun h6=>?_,fun h6=>?_⟩
 · simp only[aA,seval]
   refine⟨i,c',rfl,?_,rfl,fun h7=>absurd h7 (by simp)⟩
   simp only[lJ,Bool.and_eq_false_iff,dF] at h6
   rcases h6 with h6 | h6
   · rw[show decide (c+(bB Tm.nodes l:Int)≤120)=false by simp;omega]
     simp
   · rw[w6 hx h6]
     simp
 simp only[tH] at h6
 rw[hc' h6]
 simp only[bV,bK] at h6
 simp only[aA,seval]
 refine⟨i+1,by omega,⟨by omega,by omega,fun j u hj hu=>?_⟩,?_⟩
 · rcases lN j i with h8 | h8
   · exact dV j u h8 hu
   · obtain rfl:j=i:=by omega
     rw[hx] at hu;cases hu;exact h6.2
 · rw[show c+(bB Tm.nodes (l.take i):Int)+(x.nodes:Int)=c+(bB Tm.nodes (l.take (i+1)):Int) by omega]
   have:=bF (n:=(i:Int)+1)
   exact aO.mk (by simp only[this,aA,seval])
theorem aVH(l:List Tm)(d c:Int)(b:Nat)(st:aB)(hd: -1000≤d)(hd1:d≤1000)(hb:st b=some (.cells [.int .i64 c]))(hc0:0≤c)(hc1:c≤120)
 (h:∀x∈l,∀(c:Int) (st:aB),st b=some (.cells [.int .i64 c])→0≤c→c≤120→aD prog 149 [x.av,.int .i64 (d+1),.ptr b 0] st (JH (x.shape (30 - d)) c x.nodes b st)) :
 aD prog 143 [.slice (l.map Tm.av),.func 242 [.pptr (.int .i64 d),.pptr (.ptr b 0)]] st
  (fun r st'=>∃c',r=.bool (!(decide (c+(bB Tm.nodes l:Int)≤120)&&l.all fun t=>t.shape (30 - d)))∧st'=st.aC b (.cells [.int .i64 c'])∧((decide (c+(bB Tm.nodes l:Int)≤120)&&l.all fun t=>t.shape (30 - d))=true→c'=c+(bB Tm.nodes l:Int))):=by
 have h1:=aVP l d c b st hd hd1 hb hc0 hc1 h
 refine wF [] 2 func143 ntmps143 rfl rfl ?_
 intro _
 simp only[aA,seval]
 refine h1.mono ?_
 rintro _ _ ⟨j,c',rfl,hj,rfl,hc⟩
 simp only[aA,seval]
 refine⟨c',by rw[hj],rfl,fun h=>hc (by rw[hj,h];try rfl)⟩
abbrev AK:=zi aW (zi cF (zi cW (zi cA (zi bR J4))))
theorem aAL:∀(t:Tm) (d c:Int) (b:Nat) (st:aB),st b=some (.cells [.int .i64 c])→0≤c→c≤120→0≤d→d≤31→aD prog 149 [t.av,.int .i64 d,.ptr b 0] st (JH (t.shape (31 - d)) c t.nodes b st)
 | .mk k n s ts,d,c,b,st,hb,hc0,hc1,hd0,hd1=>by
  have hk:=fun(st:aB) (hb:st b=some (.cells [.int .i64 (c+1)])) (h1:c+1≤120) (h2:d≤30)=>aVH ts d (c+1) b st (by omega) (by omega) hb (by omega) h1 fun x hx c st hb hc0 hc1=>by
   have:=aAL x (d+1) c b st hb hc0 hc1 (by omega) (by omega)
   rw[show(31:Int) - (d+1)=30 - d by omega] at this
   exact this
  have hw:=bF (n:=c+1)
  unfold JH
  rw[Tm.gJ,Tm.FS]
  refine wF [] 3 func149 ntmps149 rfl rfl ?_
  simp only[aX,eM,AV.fits,eS,aF]
  intro ⟨_,_,_,hl,_⟩
  simp only[hb,aK,hw,aA,seval,AK]
  have hL:(ts.map Tm.av).length=ts.length:=aF _
  have gR:∀(v:Bool),v=(decide (c+((1+bB Tm.nodes ts:Nat):Int)≤120)&&(decide (1≤31 - d)&&eF k n s ts.length&&ts.all fun t=>t.shape (31 - d - 1)))→(v=true→ts= []) →
   ∃c',AV.bool v=AV.bool (decide (c+((1+bB Tm.nodes ts:Nat):Int)≤120)&&(decide (1≤31 - d)&&eF k n s ts.length&&ts.all fun t=>t.shape (31 - d - 1)))∧st.aC b (.cells [.int .i64 (c+1)])=st.aC b (.cells [.int .i64 c'])∧((decide (c+((1+bB Tm.nodes ts:Nat):Int)≤120)&&(decide (1≤31 - d)&&eF k n s ts.length&&ts.all fun t=>t.shape (31 - d - 1)))=true→c'=c+((1+bB Tm.nodes ts:Nat):Int)):=
   fun v h1 h2=>⟨c+1,by rw[h1],rfl,fun h3=>by rw[h2 (h1.trans h3)];simp [bB]⟩
  refine cT (fun h1=>?_) (fun h1=>?_)
  case refine_2=>
   simp only[h1,aA,seval]
   simp only[l9,bK] at h1
   refine gR false ?_ (by intro h;cases h)
   rw[show decide (c+((1+bB Tm.nodes ts:Nat):Int)≤120)=false by simp;omega]
   try rfl
  simp only[h1,aA,seval,AK]
  refine⟨fun h2=>?_,fun h2=>?_⟩
  · simp only[aA,seval]
    simp only[bK] at h2
    refine gR false ?_ (by intro h;cases h)
    rw[show decide (1≤31 - d)=false by simp;omega]
    simp
  simp only[dF] at h1 h2
  rw[show decide (1≤31 - d)=true by simp;omega] at gR ⊢
  simp only[dU] at gR ⊢
  rw[show 31 - d - 1=30 - d by omega] at gR ⊢
  -- no kids
  have aMQ:∀q:Bool,(∀h:ts= [],eF k n s ts.length=q)→(ts≠[]→eF k n s ts.length=false)→(q&&decide ((ts.length:Int)=0))=(decide (c+((1+bB Tm.nodes ts:Nat):Int)≤120)&&(eF k n s ts.length&&ts.all fun t=>t.shape (30 - d))):=by
   intro q hq1 hq2
   by_cases ht:ts= []
   · rw[hq1 ht];subst ht
     have e:c+((1+bB Tm.nodes []:Nat):Int)≤120:=by simp only[bB];omega
     rw[eE e]
     simp
   · rw[hq2 ht]
     have:¬(ts.length:Int)=0:=by intro h;exact ht (o0 (by omega))
     rw[d5 this]
     simp
  simp only[aA,seval,AK]
  refine aP (fun hk1=>?_) (fun hk1=>?_)
  · simp only[bK] at hk1
    subst hk1
    simp only[aA,seval,AK]
    refine(BP _ _ _ _).to ?_
    repeat' (first
     | (simp only[*,aA,seval,AK])
     | (refine cT (fun h=>?_) (fun h=>?_))
     | (refine aP (fun h=>?_) (fun h=>?_)))
    all_goals first
     | (refine gR false ?_ (by intro h;cases h);rw[show eF 1 n s ts.length=false by first | (simp only[eF, *,jZ,fF,l8];done) | (simp_all [eF];done) | (simp_all [eF];intro a e;have:=h a;omega)];simp;done)
     | (refine gR _ ?_ (fun h=>o0 (by simpa using h));rw[←aMQ true (fun h=>by simp_all [eF]) (fun h=>by simp [eF,h])];simp;done)
  simp only[dF] at hk1
  simp only[aA,seval]
  refine aP (fun hk2=>?_) (fun hk2=>?_)
  · simp only[bK] at hk2
    subst hk2
    simp only[aA,seval,AK]
    refine(BP _ _ _ _).to ?_
    repeat' (first
     | (simp only[*,aA,seval,AK])
     | (refine cT (fun h=>?_) (fun h=>?_))
     | (refine aP (fun h=>?_) (fun h=>?_)))
    all_goals first
     | (refine gR false ?_ (by intro h;cases h);rw[show eF 2 n s ts.length=false by first | (simp only[eF, *,jZ,fF,l8];done) | (simp_all [eF];done) | (simp_all [eF];intro a e;have:=h a;omega)];simp;done)
     | (refine gR _ ?_ (fun h=>o0 (by simpa using h));rw[←aMQ true (fun h=>by simp_all [eF]) (fun h=>by simp [eF,h])];simp;done)
  simp only[dF] at hk2
  simp only[aA,seval]
  refine aP (fun hk3=>?_) (fun hk3=>?_)
  case refine_2=>
   simp only[dF] at hk3
   simp only[aA,seval]
   refine gR false ?_ (by intro h;cases h)
   rw[show eF k n s ts.length=false by simp [eF,hk1,hk2,hk3]]
   simp
  simp only[bK] at hk3
  subst hk3
  have hk':=fun st hb=>hk st hb (by omega) (by omega)
  clear hk
  repeat' (first
   | (simp only[*,aA,seval,AK])
   | (refine cT (fun h=>?_) (fun h=>?_))
   | (refine(aWG s _).to ?_)
   | (refine aP (fun h=>?_) (fun h=>?_)))
  all_goals first
   | (refine gR false ?_ (by intro h;cases h);rw[show eF 3 n s ts.length=false by(simp_all [eF];done)];simp;done)
   | skip
  refine(hk' _ (aB.aJ _ _ _)).mono ?_
  rintro _ _ ⟨c',rfl,rfl,hc'⟩
  simp only[dO,aA,seval]
  have ho:eF 3 n s ts.length=true:=by simp_all [eF]
  rw[ho,show c+((1+bB Tm.nodes ts:Nat):Int)=c+1+(bB Tm.nodes ts:Int) by omega]
  simp only[dU,Bool.not_not]
  first | exact⟨c',trivial,rfl,hc'⟩ | exact⟨c',rfl,rfl,hc'⟩
termination_by t=>SizeOf.sizeOf t
decreasing_by have:=List.sizeOf_lt_of_mem hx;simp only[Tm.mk.sizeOf_spec];omega
abbrev bBE:=zi aW (zi cF (zi bR J4))
theorem QR(t:Tm)(st:aB):aD prog 74 [t.av] st (fun r st'=>r=.bool t.valid∧st'=st):=by
 have hd:aD prog 74 [t.av] st (fun r st'=>aL st' st∧r=.bool t.valid):=by
  refine wF [] 1 func74 ntmps74 rfl rfl ?_
  intro _
  simp only[cP,a7,aN,aA,seval,bBE]
  intro b hb
  simp only[aK,aA,seval]
  refine(aAL t 1 0 b _ (aB.aJ _ _ _) (by omega) (by omega) (by omega) (by omega)).mono ?_
  rintro _ _ ⟨c',rfl,rfl,_⟩
  simp only[dO,xE,↓reduceIte]
  refine⟨(aL.refl st).aC hb,?_⟩
  simp only[Tm.valid,AV.bool.injEq]
  rw[Bool.and_comm,show(31:Int) - 1=30 from rfl]
  congr 1
  simp only[sN]
  omega
 exact hd.drop
def Tm.goal:Tm→Bool
 | .mk k n s ts=>(Tm.mk k n s ts).valid&&zL k s ts.length
abbrev aQM:=zi cF bR
theorem aAN:∀(t:Tm) (st:aB),aD prog 145 [t.av] st (fun r st'=>r=.bool t.goal∧st'=st)
 | .mk k n s ts,st=>by
  have h1:=Q5 (.mk k n s ts) st
  have h2:=aXO k n s ts st
  rw[show(Tm.mk k n s ts).goal=((Tm.mk k n s ts).valid&&zL k s ts.length) from rfl]
  generalize (Tm.mk k n s ts).valid=z at *
  rw[aX] at *
  refine wF [] 1 func145 ntmps145 rfl rfl ?_
  intro _
  simp only[aA,seval,aQM]
  refine h1.to ?_
  simp only[aA,seval]
  refine cT (fun h=>?_) (fun h=>?_)
  · simp only[h,aA,seval,aQM]
    refine h2.to ?_
    simp only[aA,seval]
  · simp only[h,aA,seval]
    simp at h
    simp []
abbrev bBD:=zi cF bR
theorem aWE:∀(t:Tm) (st:aB),aD prog 30 [t.av] st (fun r st'=>r=.bool t.goal∧st'=st)
 | .mk k n s ts,st=>by
  have h1:=QR (.mk k n s ts) st
  have h2:=ZO k n s ts st
  have h3:=QS k n s ts st
  have h4:=ZN k n s ts st
  rw[show(Tm.mk k n s ts).goal=((Tm.mk k n s ts).valid&&zL k s ts.length) from rfl]
  unfold zL
  generalize (Tm.mk k n s ts).valid=z at *
  generalize rR k s (ts.length:Int)=z2 at *
  generalize (decide (k=3)&&isBuiltin s (ts.length:Int))=z3 at *
  rw[show(decide (k=3)&&decide (s=⟨#[33]⟩)&&decide ((ts.length:Int)=0))=(decide (k=3)&&decide ((ts.length:Int)=0)&&decide (s=⟨#[33]⟩)) from by cases decide (k=3)<;>cases decide (s=⟨#[33]⟩)<;>cases decide ((ts.length:Int)=0)<;>rfl]
  generalize (decide (k=3)&&decide ((ts.length:Int)=0)&&decide (s=⟨#[33]⟩))=z4 at *
  rw[aX] at *
  refine wF [] 1 func30 ntmps30 rfl rfl ?_
  intro _
  repeat' (first
   | (simp only[*,aA,seval,bBD])
   | (refine cT (fun h=>?_) (fun h=>?_))
   | (refine h1.to ?_) | (refine h2.to ?_) | (refine h3.to ?_) | (refine h4.to ?_)
   | (refine aP (fun h=>?_) (fun h=>?_)))
  all_goals (clear h1 h2 h3 h4;simp_all)
abbrev aQ4:=zi aW (zi cA bR)
theorem aVM(l:List Tm)(g:FuncId)(dD:List AV)(p:Tm→Bool)(st:aB)(hc:∀x∈l,aD prog g ([Tm.av x]++dD) st (fun r st'=>r=.bool (p x)∧st'=st)) :
 aD prog 230 [.slice (l.map Tm.av),.func g dD] st (fun r st'=>∃j:Int,r=.int .i64 j∧decide (0≤j)=l.any p∧st'=st):=by
 refine wF [] 2 func230 ntmps230 rfl rfl ?_
 simp only[eM,AV.fits,eS,aF]
 intro ⟨hl,_⟩
 simp only[aF,aA,seval,aQ4]
 refine dX (σ:=Unit) [] [0,1,7] l (fun i _=>(l.drop i).any p=l.any p) (fun i _=>[(8,.int .i64 i)]) (fun _ _=>st) (by decide +kernel) ⟨(),rfl,aO.mk (by simp only[aA,↓aS,seval])⟩ (fun i x _ hx hlt bL hdr hinv=>?_) (fun _ hge hinv=>?_)
 case refine_2=>
  simp only[hge,aA,seval]
  rw[kB] at hinv
  exact⟨-1,rfl,by rw[←hinv];try rfl⟩
 rw[hdr,A4] at hinv
 have hw:=bF (n:=(i:Int)+1)
 simp only[bL,bH (av:=Tm.av) bQ hx (aN x),a7,aN,aA,seval,aQ4]
 refine(hc x (cH hx)).to ?_
 simp only[aA,seval]
 refine aP (fun h=>?_) (fun h=>?_)
 · simp only[aA,seval]
   exact⟨i,rfl,by rw[←hinv,h];simp⟩
 · rw[h,oY] at hinv
   simp only[aA,seval]
   exact⟨(),hinv,aO.mk (by simp only[hw,aA,seval])⟩
theorem ZD(l:List Tm)(g:FuncId)(dD:List AV)(p:Tm→Bool)(st:aB)(hc:∀x∈l,aD prog g ([Tm.av x]++dD) st (fun r st'=>r=.bool (p x)∧st'=st)) :
 aD prog 143 [.slice (l.map Tm.av),.func g dD] st (fun r st'=>r=.bool (l.any p)∧st'=st):=by
 refine wF [] 2 func143 ntmps143 rfl rfl ?_
 intro _
 simp only[aA,seval]
 refine(aVM l g dD p st hc).mono ?_
 rintro _ _ ⟨j,rfl,hj,rfl⟩
 simp only[hj,aA,seval]
theorem K8{α:Type}(p:α→Bool):∀l:List α,(!(l.any fun x=> !p x))=l.all p
 | []=>rfl
 | x::l=>by rw[A4,kY,←K8 p l];cases p x<;>simp
abbrev bBL:=zi cF bR
theorem aVU(t:Tm)(st:aB):aD prog 144 [t.av] st (fun r st'=>r=.bool (!t.valid)∧st'=st):=by
 refine wF [] 1 func144 ntmps144 rfl rfl ?_
 intro _
 simp only[cP,a7,aN,aA,seval,bBL]
 refine(QR t st).to ?_
 simp only[aA,seval]
theorem aVT(l:List Tm)(st:aB):aD prog 66 [.slice (l.map Tm.av)] st (fun r st'=>r=.bool (l.all Tm.valid)∧st'=st):=by
 refine wF [] 1 func66 ntmps66 rfl rfl ?_
 intro _
 simp only[aA,seval]
 refine(ZD l _ [] (fun t=> !t.valid) st fun x _=>aVU x st).to ?_
 simp only[K8,aA,seval]
abbrev bBN:=zi cF bR
theorem aWA(t:Tm)(st:aB):aD prog 248 [t.av] st (fun r st'=>r=.bool (!t.goal)∧st'=st):=by
 refine wF [] 1 func248 ntmps248 rfl rfl ?_
 intro _
 simp only[cP,a7,aN,aA,seval,bBN]
 refine(aWE t st).to ?_
 simp only[aA,seval]
def g8(l:List Tm):Bool:=decide (l.length≤6)&&l.all Tm.goal
abbrev bBM:=zi aW (zi cF cA)
theorem ZL(l:List Tm)(st:aB):aD prog 156 [.slice (l.map Tm.av)] st (fun r st'=>r=.bool (g8 l)∧st'=st):=by
 refine wF [] 1 func156 ntmps156 rfl rfl ?_
 simp only[eM,AV.fits,eS,aF]
 intro _
 unfold g8
 simp only[aF,aA,seval,bBM]
 refine cT (fun h=>?_) (fun h=>?_)
 · simp only[bK] at h
   rw[show decide (l.length≤6)=true by simp;omega]
   simp only[h,aA,seval]
   refine(ZD l _ [] (fun t=> !t.goal) st fun x _=>aWA x st).to ?_
   simp only[K8,aA,seval]
 · simp only[jZ,dF] at h
   rw[show decide (l.length≤6)=false by simp;omega]
   simp only[h,aA,seval]
   rfl
theorem QP(l:List Tm)(st:aB):aD prog 81 [.slice (l.map Tm.av)] st (fun r st'=>r=.bool (g8 l)∧st'=st):=by
 refine wF [] 1 func81 ntmps81 rfl rfl ?_
 intro _
 simp only[aA,seval]
 refine(ZL l st).to ?_
 simp only[aA,seval]
abbrev OD:=zi aW (zi cF (zi cA bR))
theorem Q4(l:List Tm)(st:aB):aD prog 69 [.slice (l.map Tm.av)] st (fun r st'=>r=.bool (g8 l)∧st'=st):=by
 refine wF [] 1 func69 ntmps69 rfl rfl ?_
 simp only[eM,AV.fits,eS,aF]
 intro ⟨hl,_⟩
 simp only[aA,seval]
 refine dX (σ:=Unit) [] [0] l (fun i _=>i≤7∧(l.take i).all Tm.goal=true) (fun i _=>[(3,.int .i64 i)]) (fun _ _=>st) (by decide +kernel) ⟨(),⟨by omega,by simp⟩,aO.mk (by simp only[aA,↓aS,seval])⟩ (fun i x _ hx hlt bL hdr hinv=>?_) (fun _ hge hinv=>?_)
 case refine_2=>
  obtain⟨i1,i2⟩:=hinv
  rw[dS] at i2
  simp only[aF,hge,aA,seval,OD]
  simp only[g8,i2,wJ,AV.bool.injEq,sN]
  omega
 obtain⟨i1,i2⟩:=hinv
 have hw:=bF (n:=(i:Int)+1)
 simp only[aF,bL,aA,seval,OD]
 refine aP (fun h=>?_) (fun h=>?_)
 case refine_2=>
  simp only[dF] at h
  simp only[aF,aA,seval,OD]
  simp only[g8,AV.bool.injEq]
  rw[show decide (l.length≤6)=false by simp;omega,show decide ((l.length:Int)≤6)=false by simp;omega]
  try rfl
 simp only[bK] at h
 simp only[bH (av:=Tm.av) bQ hx (aN x),a7,aN,aA,seval,OD]
 refine(aAN x st).to ?_
 simp only[aA,seval]
 refine aP (fun h2=>?_) (fun h2=>?_)
 · simp only[lJ] at h2
   simp only[aA,seval]
   have:l.all Tm.goal=false:=w6 hx h2
   simp only[g8,this,l8]
 · simp only[tH] at h2
   simp only[aA,seval]
   refine⟨(),⟨by omega,?_⟩,aO.mk (by simp only[hw,aA,seval])⟩
   rw[dY,hx,DF,i2]
   simp [h2]
abbrev bFD:=zi aW (zi bBX bBS)
abbrev bBO:=zi aW bR
theorem Q7(n:Int)(st:aB):aD prog 95 [.int .i64 n] st (fun r st'=>r=(vr n).av∧st'=st):=by
 refine aD.done ?_
 refine wF [1000000] 1 func95 ntmps95 rfl rfl ?_
 intro _
 simp only[aA,seval,bBO]
 intro b hb
 simp only[aK,aA,seval]
 exact⟨by simp only[vr,aX,iF,iG,mR,lV,bA,aY,aY],(aL.refl _).aC hb⟩
abbrev wE:=zi aW (zi cA bR)
theorem QZ(f:Int→Tm)(g:FuncId)(dD:List AV)(EM:lI dD=true):∀(t:Tm) (st:aB),t.small=true→(∀n∈t.vl,∀s,aD prog g (.int .i64 n::dD) s (fun r s'=>r=(f n).av∧s'=s)) →
 aD prog 63 [t.av,.func g dD] st (fun r st'=>r=(t.aM f).av∧st'=st)
 | .mk k n s ts,st,hsm,hg=>by
  obtain⟨hlen,qB⟩:=Tm.qN hsm
  have IH:=fun(x:Tm) (hx:x∈ts) st h=>QZ f g dD EM x st (qB x hx) h
  refine aD.m8 (aD.fin ?_)
  simp only[aX]
  refine wF [1000000,2] 2 func63 ntmps63 rfl rfl ?_
  simp only[eM,AV.fits,eS,aF]
  intro ⟨_,_,_,hl,_⟩
  simp only[aA,seval,wE]
  intro c hc b2 hb2
  have hne:b2≠c:=by rintro rfl;rw[aB.aJ] at hb2;cases hb2
  have hn2:st b2=none:=by rw[aB.aH st _ hne] at hb2;exact hb2
  simp only[hne.symm,aA,seval]
  refine aP (fun h=>?_) (fun h=>?_)
  · simp only[bK] at h
    subst h
    simp only[hne.symm,aA,seval,wE]
    refine(hg n (by rw[Tm.nI rfl];simp) _).to ?_
    simp only[aA,seval,wE]
    refine⟨0,[],_,rfl,by simp,by simp,⟨4,by simp⟩,by rw[Tm.BV,Tm.mL f rfl],?_⟩
    exact((aL.refl _).aC hc).aC hn2
  simp only[dF] at h
  have hg':∀x∈ts,∀v∈x.vl,∀s,aD prog g (.int .i64 v::dD) s (fun r s'=>r=(f v).av∧s'=s):=fun x hx v hv=>hg v ((Tm.lC h).2 ⟨x,hx,hv⟩)
  simp only[hne.symm,aK,aF,aA,seval,wE]
  rw[aB.AU hne]
  refine dX (σ:=Nat) [1000000] [1,2,4,18,19] ts (fun i b=>(((ts.take i).map (Tm.aM f)).map Tm.av≠[]→(aB.aC (st.aC b2 (.cells [AV.int .i64 0,AV.int .i64 0,AV.str ⟨#[]⟩,AV.fslice []])) c (.cells ([AV.int .i64 k,AV.int .i64 n,AV.str s]++ [bS 4 b (((ts.take i).map (Tm.aM f)).map Tm.av)]))) b=none)) (fun i b=>[(20,.int .i64 i)]) (fun i b=>lE (st.aC b2 (.cells [AV.int .i64 0,AV.int .i64 0,AV.str ⟨#[]⟩,AV.fslice []])) c b [AV.int .i64 k,AV.int .i64 n,AV.str s] (((ts.take i).map (Tm.aM f)).map Tm.av)) (by decide +kernel)
   ⟨0,fun h=>absurd rfl h,aO.mk (by simp only[aA,↓aS,seval])⟩ (fun i x b hx hlt bL hdr hinv=>?_) (fun b hge hinv=>?_)
  case refine_1=>
   have hw:=bF (n:=(i:Int)+1)
   have cM:(((ts.take i).map (Tm.aM f)).map Tm.av).length=i:=by simp only[aF,c7];omega
   have htk:(ts.take (i+1)).map (Tm.aM f)=(ts.take i).map (Tm.aM f)++ [(Tm.aM f) x]:=by rw[dY,hx];simp
   have hbo:=mK hinv
   simp only[bL,bH (av:=Tm.av) bQ hx (aN x),aA,↓aS,seval,wE]
   refine wP [(0,1),(3,1),(1,2),(2,2),(4,2),(5,1),(6,0),(7,1),(8,0)] [0,3,1,2,4,5,7] mixed ?_
   simp only[a7,aN,hbo,sD,aA,seval,wE]
   refine gP (IH x (cH hx) _ (hg' x (cH hx))) ?_
   simp only[a7,aN,cP,aA,seval,wE]
   refine eO bQ jE jF rfl rfl (fQ (aN _) (cI _)) (gO _) hinv (by simp only[cM,aU,aZ];omega) (by simp only[cM,aU,aZ];omega) (fun b' hb'=>?_)
   rw[show(((ts.take i).map (Tm.aM f)).map Tm.av)++ [((Tm.aM f) x).av]=((ts.take (i+1)).map (Tm.aM f)).map Tm.av by rw[htk];simp] at hb' ⊢
   obtain⟨g1,g2,g3⟩:=xS hb'
   simp only[gV,fB] at g1 g3
   simp only[g3,qZ,kF,aK,g1,hw,aA,seval,wE]
   exact⟨b',g2,aO.mk (by simp only[aA,seval])⟩
  have hbo:=mK hinv
  rw[dS] at hinv hbo ⊢
  simp only[hge,aA,seval,wE]
  simp only[hbo,aA,seval,wE]
  have hS:(st.aC b2 (.cells [AV.int .i64 0,AV.int .i64 0,AV.str ⟨#[]⟩,AV.fslice []])) b2≠none:=by rw[aB.aJ];simp
  have h1:=oQ hinv hS hne
  rw[aB.aJ] at h1
  simp only[h1,kF,aK,aA,seval]
  obtain⟨h2,h3⟩:=vY (o:=.cells [AV.int .i64 k,AV.int .i64 n,AV.str s,bS 4 b ((ts.map (Tm.aM f)).map Tm.av)]) hinv hS hne
  refine⟨b,_,_,h2,h3,oV _,⟨4,gO _⟩,?_,?_⟩
  · rw[Tm.kO f h]
    simp only[iX,bA,aY,eW,m9,oI,aX]
  · exact(((aL.refl _).aC hn2).aC hc).aC hn2
termination_by t=>SizeOf.sizeOf t
decreasing_by have:=List.sizeOf_lt_of_mem hx;simp only[Tm.mk.sizeOf_spec];omega


abbrev Bt:=Fin 256
def iM(b:Bt):AV:=.int .u8 (b.val:Int)
theorem LE(b:Bt):(iM b).width=1:=rfl
def gW(st:aB)(c:Nat)(bs:List Bt)(p:Nat):Prop:=st c=some (.cells [.slice (bs.map iM),.int .i64 (p:Int)])
def jW(bs:List Bt)(p:Nat):AO:=.cells [.slice (bs.map iM),.int .i64 (p:Int)]
theorem WT(a b:Nat):(a:Int).tmod (b:Int)=((a % b:Nat):Int):=(Int.ofNat_tmod a b).symm
theorem aP8(a b:Nat):(a:Int).tdiv (b:Int)=((a / b:Nat):Int):=(Int.ofNat_tdiv a b).symm
theorem aTL(a b:Nat)(ha:a<2 ^ 62)(hb:b<2 ^ 62):∃m:Nat,HC .i64 (a:Int) (b:Int)=(m:Int):=by
 have hx:=Nat.xor_lt_two_pow ha hb
 refine⟨a ^^^ b,?_⟩
 unfold HC
 show IntKind.i64.wrap (((BitVec.ofInt 64 (a:Int) ^^^ BitVec.ofInt 64 (b:Int)).toNat:Nat):Int)=_
 rw[BitVec.ofInt_natCast,BitVec.ofInt_natCast,BitVec.toNat_xor,BitVec.toNat_ofNat,BitVec.toNat_ofNat,Nat.mod_eq_of_lt (by omega),Nat.mod_eq_of_lt (by omega)]
 rw[wrap64 (by omega) (by omega)]
abbrev JP:=zi aW (zi lH (zi C4 (zi yE aRC)))
theorem y9(bs:List Bt)(c p:Nat)(hp:p≤1099511627776)(n:Nat)(hn:1≤n)(hn2:n≤1048576)(st:aB)(h:gW st c bs p) :
 aD prog 45 [.ptr c 0,.int .i64 (n:Int)] st (fun r st'=>∃k:Nat,k<n∧r=.int .i64 (k:Int)∧st'=st.aC c (jW bs (p+1))):=by
 unfold gW at h
 refine wF [1000000] 2 func45 ntmps45 rfl rfl ?_
 intro _
 have hw1:IntKind.i64.wrap ((p:Int)+1)=(p:Int)+1:=wrap64 (by omega) (by omega)
 simp only[aK,h,hw1,aA,seval,JP]
 have hn1:¬(n:Int)<1:=by omega
 have hw2:IntKind.i64.wrap ((p:Int)+1 - 1)=(p:Int):=by rw[wrap64 (by omega) (by omega)];omega
 have hst:∀(q:aB),q c=some (.cells [.slice (bs.map iM),.int .i64 ((p:Int)+1)])→True:=fun _ _=>trivial
 have hrd:jW bs (p+1)=.cells [.slice (bs.map iM),.int .i64 ((p:Int)+1)]:=by simp [jW]
 rw[hrd]
 refine cT (fun h1=>?_) (fun h1=>?_)
 case refine_2=>simp [hn1] at h1
 simp only[bP,kG,hn1,aF,aA,seval,JP]
 refine aP (fun h2=>?_) (fun h2=>?_)
 · simp only[aA,seval]
   exact⟨0,by omega,rfl⟩
 simp only[hw2,aF,aA,seval,JP]
 have hbl:bs.length≠0:=by simpa using h2
 refine aP (fun h3=>?_) (fun h3=>?_)
 · simp only[bK] at h3
   obtain⟨x,hx⟩:∃x,bs[p]?=some x:=⟨_,d4 (by omega)⟩
   have hx2:=x.isLt
   have hb1:IntKind.i64.wrap (x.val:Int)=(x.val:Int):=wrap64 (by omega) (by omega)
   have hn0:¬(n:Int)=0:=by omega
   have SP:c8 prog 22 (.slice (bs.map iM)) (.int .i64 (p:Int))=some (.pptr (.int .u8 x.val)):=bH (av:=iM) HY hx (LE x)
   simp only[SP,tQ,hb1,hn0,aA,seval,JP]
   exact⟨x.val % n,Nat.mod_lt _ (by omega),by rw[WT]⟩
 · simp only[dF] at h3
   obtain⟨x,hx⟩:∃x,bs[p % bs.length]?=some x:=⟨_,d4 (Nat.mod_lt _ (by omega))⟩
   obtain⟨y,hy⟩:∃y,bs[(p*7+3) % bs.length]?=some y:=⟨_,d4 (Nat.mod_lt _ (by omega))⟩
   have hx2:=x.isLt
   have hy2:=y.isLt
   have hl0:¬(bs.length:Int)=0:=by omega
   simp only[aA,seval]
   refine yI [(0,1),(1,1),(2,1),(3,1),(4,1),(5,1),(6,1),(7,1),(8,1),(9,1),(10,1),(11,1),(12,1),(13,1),(14,1),(15,1),(16,1),(17,1),(18,1),(19,1),(20,1),(21,1),(22,1),(23,1),(24,1),(25,1),(26,1),(27,1),(28,1),(29,1),(30,1),(31,1),(32,1),(33,1),(34,1),(35,1),(36,1),(37,1),(38,1),(39,1),(40,1),(41,1),(42,1),(43,1),(44,1),(45,1)] [0,1,2,3,4,5,6,7,8,9,10,11,12,13,14,15,16,17,18,19,20,21,22,23,24,25,26,27,28,29,30,31,32,33,34,35,36,37,38,39,40,41,42,43,44,45] (d9.aC c (.cells [.slice (bs.map iM),.int .i64 ((p:Int)+1)])) mixed (by decide +kernel) (by decide +kernel) (by decide +kernel) rfl (fP (aB.aJ _ _ _)) ?_
   have e7:IntKind.i64.wrap ((p:Int)*7)=(p:Int)*7:=wrap64 (by omega) (by omega)
   have e8:IntKind.i64.wrap ((p:Int)*7+3)=(p:Int)*7+3:=wrap64 (by omega) (by omega)
   have e9:((p:Int)*7+3).tmod (bs.length:Int)=(((p*7+3) % bs.length:Nat):Int):=by rw[←WT];congr 1
   have f1:IntKind.i64.wrap ((x.val:Int)*131)=(x.val:Int)*131:=wrap64 (by omega) (by omega)
   have f2:IntKind.i64.wrap ((y.val:Int)*1117)=(y.val:Int)*1117:=wrap64 (by omega) (by omega)
   have f3:IntKind.i64.wrap ((x.val:Int)*131+(y.val:Int)*1117)=(x.val:Int)*131+(y.val:Int)*1117:=wrap64 (by omega) (by omega)
   have f4:IntKind.i64.wrap ((p:Int)*29)=(p:Int)*29:=wrap64 (by omega) (by omega)
   have f5:IntKind.i64.wrap ((x.val:Int)*131+(y.val:Int)*1117+(p:Int)*29)=(x.val:Int)*131+(y.val:Int)*1117+(p:Int)*29:=wrap64 (by omega) (by omega)
   have hb1:IntKind.i64.wrap (x.val:Int)=(x.val:Int):=wrap64 (by omega) (by omega)
   have hb2:IntKind.i64.wrap (y.val:Int)=(y.val:Int):=wrap64 (by omega) (by omega)
   generalize hjx:p % bs.length=jx at *
   generalize hjy:(p*7+3) % bs.length=jy at *
   have e10:(p:Int).tmod (bs.length:Int)=(jx:Int):=by rw[WT,hjx]
   have SP:c8 prog 22 (.slice (bs.map iM)) (.int .i64 (jx:Int))=some (.pptr (.int .u8 x.val)):=bH (av:=iM) HY hx (LE x)
   have a3W:c8 prog 22 (.slice (bs.map iM)) (.int .i64 (jy:Int))=some (.pptr (.int .u8 y.val)):=bH (av:=iM) HY hy (LE y)
   have hdv:p / bs.length≤p:=Nat.div_le_self _ _
   generalize hq:p / bs.length=q at *
   have hqq:IntKind.i64.wrap ((p:Int).tdiv (bs.length:Int))=(q:Int):=by rw[aP8,hq,wrap64 (by omega) (by omega)]
   have f6:IntKind.i64.wrap ((q:Int)*53)=(q:Int)*53:=wrap64 (by omega) (by omega)
   obtain⟨z,hz,hz2⟩:∃z:Nat,(x.val:Int)*131+(y.val:Int)*1117+(p:Int)*29+(q:Int)*53=(z:Int)∧z<2 ^ 61:=⟨x.val*131+y.val*1117+p*29+q*53,by omega,by omega⟩
   have f7:IntKind.i64.wrap ((x.val:Int)*131+(y.val:Int)*1117+(p:Int)*29+(q:Int)*53)=(z:Int):=by rw[hz];exact wrap64 (by omega) (by omega)
   have bE5:z / 64≤z:=Nat.div_le_self _ _
   obtain⟨m,hm⟩:=aTL z (z / 64) (by omega) (by omega)
   have f8:IntKind.i64.wrap ((z:Int).tdiv 64)=((z / 64:Nat):Int):=by rw[show(64:Int)=((64:Nat):Int) from rfl,aP8,wrap64 (by omega) (by omega)]
   generalize z / 64=z2 at *
   have hn0:¬(n:Int)=0:=by omega
   simp only[aF,hl0,e7,e8,e9,e10,f1,f2,f3,f4,f5,f6,f7,f8,hm,hn0,SP,a3W,hb1,hb2,hqq,tQ,aA,seval,JP]
   exact⟨m % n,Nat.mod_lt _ (by omega),rfl⟩
abbrev aQB:=zi aW (zi fJ yE)
theorem aYB(l:List Int)(h1:1≤l.length)(h2:l.length≤1048576)(bs:List Bt)(c p:Nat)(hp:p≤1099511627776)(st:aB)(h:gW st c bs p) :
 aD prog 43 [.ptr c 0,.slice (l.map iv)] st (fun r st'=>∃x∈l,r=.int .i64 x∧st'=st.aC c (jW bs (p+1))):=by
 refine wF [1000000] 2 func43 ntmps43 rfl rfl ?_
 intro _
 simp only[aF,aA,seval,aQB]
 refine(y9 bs c p hp l.length h1 h2 st h).mono ?_
 rintro _ _ ⟨k,hk,rfl,rfl⟩
 obtain⟨x,hx⟩:∃x,l[k]?=some x:=⟨_,d4 hk⟩
 have hat:=bH (av:=iv) fO hx rfl
 simp only[hat,aA,seval,aQB]
 exact⟨x,cH hx,rfl⟩
theorem xB(l:List Int)(h1:1≤l.length)(h2:l.length≤1048576)(bs:List Bt)(c p:Nat)(hp:p≤1099511627776)(st:aB)(h:gW st c bs p) :
 aD prog 43 [.ptr c 0,.fslice (l.map iv)] st (fun r st'=>∃x∈l,r=.int .i64 x∧st'=st.aC c (jW bs (p+1))):=
 aD.rT (by simp only[iQ,AV.soft];exact aYB l h1 h2 bs c p hp st h)
abbrev VU:=zi aW (zi C4 (zi yE aRC))
theorem aWS(bs:List Bt)(st:aB):aD prog 42 [.slice (bs.map iM)] st (fun r st'=>∃c bs',r=.ptr c 0∧st c=none∧st'=st.aC c (jW bs' 0)):=by
 refine wF [1000000,10] 1 func42 ntmps42 rfl rfl ?_
 simp only[eM,AV.fits,eS,aF]
 intro ⟨hl,_⟩
 have hs:bs.length>2000→∀φ,eV prog φ 22 (.slice (bs.map iM)) none (some (.const (.int .i64 2000))) none=some (.slice ((bs.take 2000).map iM)):=fun h φ=>by
  have h2:((0:Int)≤2000∧(2000:Int)≤(bs.map iM).length):=⟨by omega,by rw[aF];omega⟩
  have h3:dC φ (some (.const (.int .i64 2000))) (bs.map iM).length (bs.map iM).length=some 2000:=by
   show(if((0:Int)≤2000∧(2000:Int)≤(bs.map iM).length) then some (Int.toNat 2000) else none)=some 2000
   exact aG h2
  unfold eV mG
  rw[aE (by simp [nV])]
  simp only[HY]
  have h4:dC φ none (bs.map iM).length (bs.map iM).length=some (bs.map iM).length:=rfl
  rw[h4]
  simp only[h3]
  have h5:dC φ none 0 2000=some 0:=rfl
  rw[h5]
  simp
 simp only[aF,aA,seval,VU]
 refine aP (fun h=>?_) (fun h=>?_)
 · simp only[bK] at h
   have hs':=hs (by omega)
   simp only[hs',aA,seval,VU]
   intro b hb
   exact⟨b,bs.take 2000,rfl,hb,by simp [jW]⟩
 · simp only[aA,seval,VU]
   intro b hb
   exact⟨b,bs,rfl,hb,by simp [jW]⟩
abbrev bA3:=zi aW bR
theorem ZY(n:Int)(st:aB):aD prog 138 [.int .i64 n] st (fun r st'=>r=(vr n).av∧st'=st):=by
 refine aD.done ?_
 refine wF [1000000] 1 func138 ntmps138 rfl rfl ?_
 intro _
 simp only[aK,aA,seval,bA3]
 intro b hb
 exact⟨by simp only[vr,aX,iF,iG,mR,lV,bA,aY],(aL.refl _).aC hb⟩
abbrev bA4:=zi OI (zi aW bR)
theorem QV(n:Int)(st:aB):aD prog 139 [.int .i64 n] st (fun r st'=>r=(Tm.mk 2 n ⟨#[]⟩ []).av∧st'=st):=by
 refine aD.done ?_
 refine wF [1000000] 1 func139 ntmps139 rfl rfl ?_
 intro _
 simp only[aK,aA,seval,bA4]
 intro b hb
 exact⟨by simp only[aX,iF,iG,mR,lV,bA,aY],(aL.refl _).aC hb⟩
abbrev aQA:=zi aW (zi cW (zi cA bR))
theorem aXB(s:ByteArray)(l:List Tm)(hl:l.length≤1048576)(st:aB):aD prog 140 [.str s,.slice (l.map Tm.av)] st (fun r st'=>r=(Tm.mk 3 0 s l).av∧st'=st):=by
 refine aD.m8 (aD.fin ?_)
 refine wF [1000000] 2 func140 ntmps140 rfl rfl ?_
 intro _
 simp only[aA,seval,aQA]
 intro b hb
 change jC prog 34 (bE (st.aC b (.cells [.int .i64 0,.int .i64 0,.str ⟨#[]⟩,.fslice []])) 0 []) (bS 4 0 []) (.slice (l.map Tm.av)) _
 refine eO bQ jE jF rfl rfl (by intro e he;simp only[cB] at he;obtain⟨t,_,rfl⟩:=he;exact⟨aN _,cI _⟩) (by simp) (fun h=>absurd rfl h) (by simp only[aZ,aF];omega) (by simp only[aZ,aF];omega) (fun b' hb'=>?_)
 rw[fB] at hb' ⊢
 have hne:l.map Tm.av≠[]→b≠b':=fun h e=>by have:=hb' h;rw[←e,aB.aJ] at this;cases this
 have h1:bE (st.aC b (.cells [.int .i64 0,.int .i64 0,.str ⟨#[]⟩,.fslice []])) b' (l.map Tm.av) b=some (.cells [.int .i64 0,.int .i64 0,.str ⟨#[]⟩,.fslice []]):=by
  by_cases h:l.map Tm.av= []
  · rw[h,y6,aB.aJ]
  · rw[nN (hne h),aB.aJ]
 simp only[aK,h1,qZ,kF,mZ,aA,seval,aQA]
 rw[oH hne,dO]
 exact⟨b',l.map Tm.av,st.aC b _,rfl,fun h=>by rw[aB.aH _ _ (c9 (hne h))];have:=hb' h;rwa [aB.aH _ _ (c9 (hne h))] at this,oV _,⟨4,gO _⟩,by simp only[aX,iX,eW,m9,kJ,bA,aY],(aL.refl _).aC hb⟩
theorem LP(s:ByteArray)(l:List Tm)(hl:l.length≤1048576)(st:aB):aD prog 140 [.str s,.fslice (l.map Tm.av)] st (fun r st'=>r=(Tm.mk 3 0 s l).av∧st'=st):=
 aD.rT (by simp only[iQ,AV.soft];exact aXB s l hl st)
abbrev Dn (t:Tm):Prop:=t.cv=true∧t.small=true
theorem aZV(n:Int):Dn (vr n):=by
 refine⟨Tm.nQ.2 ⟨fun _=>⟨rfl,rfl⟩,fun x hx=>by cases hx⟩,?_⟩
 simp [vr,Tm.small,J8]
theorem aBA{k n:Int}{s:ByteArray}{ts:List Tm}(hk:k≠1)(hl:ts.length≤1048576)(h:∀x∈ts,Dn x):Dn (.mk k n s ts):=by
 refine⟨Tm.nQ.2 ⟨fun h=>absurd h hk,fun x hx=>(h x hx).1⟩,?_⟩
 simp only[Tm.small,J9,bV,bK,dW]
 exact⟨hl,fun x hx=>(h x hx).2⟩
def Dr(bs:List Bt)(c p m:Nat)(st:aB)(Q:AV→Prop)(r:AV)(st':aB):Prop:=∃p',p≤p'∧p'≤p+m∧st'=st.aC c (jW bs p')∧Q r
theorem gW.aC{st:aB}{c p:Nat}{bs:List Bt}{b:Nat}{o:AO}(h:gW st c bs p)(hb:b≠c):gW (st.aC b o) c bs p:=by unfold gW;rw[aB.aH _ _ (c9 hb)];exact h
theorem gW.new{st:aB}{c p:Nat}{bs:List Bt}:gW (st.aC c (jW bs p)) c bs p:=aB.aJ _ _ _
theorem gW.ne{st:aB}{c p:Nat}{bs:List Bt}{b:Nat}(h:gW st c bs p)(hb:st b=none):b≠c:=by rintro rfl;rw[gW,hb] at h;cases h
end Go.AW
namespace Go.AW
theorem bX.of{h:bJ}{st st':aB}(hk:∀x,st x=none→st' x=none):bX h st h st':=⟨cU _,fun x _ e=>⟨rfl,hk x e⟩,fun _ c _ _ e=>⟨c,e,rfl⟩⟩
theorem fY.a3E{φ:AF}{st:aB}{b c:Nat}{es cs:List AV}(hbc:b≠c)(h1:st b=some (.cells (es.flatMap AV.cells)))(h2:∀e∈es,e.cD=false)(h3:iT es)(hc:st c=some (.cells cs)) :
 fY φ st φ ((st.erase b).aC c (.cells (kU b es cs))):=fun h tmps S F=>by
 have T2:bX h (st.erase b) h ((st.erase b).aC c (.cells (kU b es cs))):=bX.of fun x hx=>by
  have:x≠c:=by rintro rfl;simp [aB.erase,c9 hbc,hc] at hx
  rw[aB.aH _ _ this];exact hx
 have T:bX h st h ((st.erase b).aC c (.cells (kU b es cs))):=((kI st b).step h).trans T2
 refine⟨fun x o hx=>?_,T,fun d=>(F d).mono T⟩
 by_cases e:x=c
 · subst e
   rw[aB.aJ] at hx
   cases hx
   obtain⟨hl,c0,t,e1,e2,vs,e3,e4⟩:=S x _ hc
   refine⟨hl,c0,t,e1,?_,vs,e3,a8.mono T2 _ _ (a8.fz S h1 h2 h3 cs vs e4)⟩
   rw[BX,aF];exact e2
 · rw[aB.aH _ _ e] at hx
   have hx':st x=some o:=by
    simp only[aB.erase] at hx
    split at hx
    · cases hx
    · exact hx
   obtain⟨hl,y⟩:=S x o hx'
   exact⟨hl,lD.mono T rfl y⟩
theorem aZX{s0 st:aB}{b:Nat}{l:List AV}(D:aL s0 st):aL (bE s0 b l) (bE st b l):=by
 cases l with
 | nil=>exact D
 | cons y l=>
  intro x
  simp only[bE]
  by_cases e:x=b
  · subst e;simp [aB.aJ]
  · rw[aB.aH _ _ e,aB.aH _ _ e];exact D x
end Go.AW
namespace Go.AW
open Go.Proofs.Tryz
abbrev bE9:=zi aW (zi fJ (zi bR yE))
mutual
def Tm.sh(m:Int):Tm→Tm
 | .mk k n s ts=>.mk k (if k=1 then IntKind.i64.wrap (n+m) else n) s (OT m ts)
def OT(m:Int):List Tm→List Tm
 | []=>[]
 | t::ts=>t.sh m::OT m ts
end
theorem aRS(m:Int):∀ts:List Tm,OT m ts=ts.map (Tm.sh m)
 | []=>rfl
 | t::ts=>by simp only[OT,bA,aRS m ts]
theorem Tm.U6(m k n:Int)(s:ByteArray)(ts:List Tm):(Tm.mk k n s ts).sh m=.mk k (if k=1 then IntKind.i64.wrap (n+m) else n) s (ts.map (Tm.sh m)):=by simp only[Tm.sh,aRS]
abbrev qP:=zi aW (zi cW (zi cA bR))
theorem QX(m:Int):∀(t:Tm) (st:aB),t.small=true→aD prog 285 [t.av,.int .i64 m] st (fun r st'=>r=(t.sh m).av∧st'=st)
 | .mk k n s ts,st,hsm=>by
  obtain⟨hlen,qB⟩:=Tm.qN hsm
  have IH:=fun(x:Tm) (hx:x∈ts) st=>QX m x st (qB x hx)
  refine aD.m8 (aD.fin ?_)
  simp only[aX]
  refine wF [1000000,5] 2 func285 ntmps285 rfl rfl ?_
  simp only[eM,AV.fits,eS,aF]
  intro ⟨_,_,_,hl,_⟩
  simp only[aK,aA,↓aS,seval,qP]
  intro b2 hb2 c hc
  have hne:c≠b2:=by rintro rfl;rw[aB.aJ] at hc;cases hc
  have hn2:st c=none:=by rw[aB.aH st _ hne] at hc;exact hc
  have rI:b2≠c:=c9 hne
  have hS:(st.aC b2 (.cells [AV.int .i64 0,AV.int .i64 0,AV.str ⟨#[]⟩,AV.fslice []])) b2≠none:=by rw[aB.aJ];simp
  refine aP (fun h=>?_) (fun h=>?_)
  · simp only[bK] at h
    simp only[aK,dO,aA,seval,qP]
    refine dX (σ:=Nat) [1000000] [1,2,4,5] ts (fun i b=>(((ts.take i).map (Tm.sh m)).map Tm.av≠[]→(aB.aC (st.aC b2 (.cells [AV.int .i64 0,AV.int .i64 0,AV.str ⟨#[]⟩,AV.fslice []])) c (.cells ([AV.int .i64 k,AV.int .i64 (IntKind.i64.wrap (n+m)),AV.str s]++ [bS 4 b (((ts.take i).map (Tm.sh m)).map Tm.av)]))) b=none)) (fun i b=>[(6,.int .i64 i)]) (fun i b=>lE (st.aC b2 (.cells [AV.int .i64 0,AV.int .i64 0,AV.str ⟨#[]⟩,AV.fslice []])) c b [AV.int .i64 k,AV.int .i64 (IntKind.i64.wrap (n+m)),AV.str s] (((ts.take i).map (Tm.sh m)).map Tm.av)) (by decide +kernel)
     ⟨0,fun h=>absurd rfl h,aO.mk (by simp only[aA,↓aS,seval])⟩ (fun i x b hx hlt bL hdr hinv=>?_) (fun b hge hinv=>?_)
    case refine_1=>
     have hw:=bF (n:=(i:Int)+1)
     have cM:(((ts.take i).map (Tm.sh m)).map Tm.av).length=i:=by simp only[aF,c7];omega
     have htk:(ts.take (i+1)).map (Tm.sh m)=(ts.take i).map (Tm.sh m)++ [(Tm.sh m) x]:=by rw[dY,hx];simp
     have hbo:=mK hinv
     simp only[aF,bL,aA,seval,qP]
     refine wP [(0,1),(2,1),(4,1),(7,1),(1,2),(3,2),(5,1),(6,2),(8,2),(9,1),(10,0),(11,1),(12,0)] [0,2,4,7,1,3,5,6,8,9,11] mixed ?_
     simp only[bH (av:=Tm.av) bQ hx (aN x),a7,aN,hbo,sD,gZ,aA,seval,qP]
     refine gP (IH x (cH hx) _) ?_
     simp only[a7,aN,cP,gZ,aA,seval,qP]
     refine eO bQ jE jF rfl rfl (fQ (aN _) (cI _)) (gO _) hinv (by simp only[cM,aU,aZ];omega) (by simp only[cM,aU,aZ];omega) (fun b' hb'=>?_)
     rw[show(((ts.take i).map (Tm.sh m)).map Tm.av)++ [((Tm.sh m) x).av]=((ts.take (i+1)).map (Tm.sh m)).map Tm.av by rw[htk];simp] at hb' ⊢
     obtain⟨g1,g2,g3⟩:=xS hb'
     simp only[gV,fB] at g1 g3
     simp only[g3,qZ,kF,aK,g1,hw,aK,aA,seval,qP]
     exact⟨b',g2,aO.mk (by simp only[aA,seval])⟩
    have hbo:=mK hinv
    rw[dS] at hinv hbo ⊢
    simp only[aF,hge,aA,seval,qP]
    simp only[hbo,aK,aA,seval,qP]
    have h1:=oQ hinv hS rI
    rw[aB.aJ] at h1
    simp only[h1,kF,aA,seval]
    obtain⟨h2,h3⟩:=vY (o:=.cells [AV.int .i64 k,AV.int .i64 (IntKind.i64.wrap (n+m)),AV.str s,bS 4 b ((ts.map (Tm.sh m)).map Tm.av)]) hinv hS rI
    refine⟨b,_,_,h2,h3,oV _,⟨4,gO _⟩,?_,(((aL.refl _).aC hb2).aC hn2).aC hb2⟩
    simp only[iX,bA,aY,eW,m9,oI,←aX]
    rw[Tm.U6,aG h]
  · simp only[dF] at h
    simp only[aA,seval]
    refine dX (σ:=Nat) [1000000] [1,2,4,5] ts (fun i b=>(((ts.take i).map (Tm.sh m)).map Tm.av≠[]→(aB.aC (st.aC b2 (.cells [AV.int .i64 0,AV.int .i64 0,AV.str ⟨#[]⟩,AV.fslice []])) c (.cells ([AV.int .i64 k,AV.int .i64 (n),AV.str s]++ [bS 4 b (((ts.take i).map (Tm.sh m)).map Tm.av)]))) b=none)) (fun i b=>[(6,.int .i64 i)]) (fun i b=>lE (st.aC b2 (.cells [AV.int .i64 0,AV.int .i64 0,AV.str ⟨#[]⟩,AV.fslice []])) c b [AV.int .i64 k,AV.int .i64 (n),AV.str s] (((ts.take i).map (Tm.sh m)).map Tm.av)) (by decide +kernel)
     ⟨0,fun h=>absurd rfl h,aO.mk (by simp only[aA,↓aS,seval])⟩ (fun i x b hx hlt bL hdr hinv=>?_) (fun b hge hinv=>?_)
    case refine_1=>
     have hw:=bF (n:=(i:Int)+1)
     have cM:(((ts.take i).map (Tm.sh m)).map Tm.av).length=i:=by simp only[aF,c7];omega
     have htk:(ts.take (i+1)).map (Tm.sh m)=(ts.take i).map (Tm.sh m)++ [(Tm.sh m) x]:=by rw[dY,hx];simp
     have hbo:=mK hinv
     simp only[aF,bL,aA,seval,qP]
     refine wP [(0,1),(2,1),(4,1),(7,1),(1,2),(3,2),(5,1),(6,2),(8,2),(9,1),(10,0),(11,1),(12,0)] [0,2,4,7,1,3,5,6,8,9,11] mixed ?_
     simp only[bH (av:=Tm.av) bQ hx (aN x),a7,aN,hbo,sD,gZ,aA,seval,qP]
     refine gP (IH x (cH hx) _) ?_
     simp only[a7,aN,cP,gZ,aA,seval,qP]
     refine eO bQ jE jF rfl rfl (fQ (aN _) (cI _)) (gO _) hinv (by simp only[cM,aU,aZ];omega) (by simp only[cM,aU,aZ];omega) (fun b' hb'=>?_)
     rw[show(((ts.take i).map (Tm.sh m)).map Tm.av)++ [((Tm.sh m) x).av]=((ts.take (i+1)).map (Tm.sh m)).map Tm.av by rw[htk];simp] at hb' ⊢
     obtain⟨g1,g2,g3⟩:=xS hb'
     simp only[gV,fB] at g1 g3
     simp only[g3,qZ,kF,aK,g1,hw,aK,aA,seval,qP]
     exact⟨b',g2,aO.mk (by simp only[aA,seval])⟩
    have hbo:=mK hinv
    rw[dS] at hinv hbo ⊢
    simp only[aF,hge,aA,seval,qP]
    simp only[hbo,aK,aA,seval,qP]
    have h1:=oQ hinv hS rI
    rw[aB.aJ] at h1
    simp only[h1,kF,aA,seval]
    obtain⟨h2,h3⟩:=vY (o:=.cells [AV.int .i64 k,AV.int .i64 (n),AV.str s,bS 4 b ((ts.map (Tm.sh m)).map Tm.av)]) hinv hS rI
    refine⟨b,_,_,h2,h3,oV _,⟨4,gO _⟩,?_,(((aL.refl _).aC hb2).aC hn2).aC hb2⟩
    simp only[iX,bA,aY,eW,m9,oI,←aX]
    rw[Tm.U6,aE h]
termination_by t=>SizeOf.sizeOf t
decreasing_by have:=List.sizeOf_lt_of_mem hx;simp only[Tm.mk.sizeOf_spec];omega

end Go.AW
