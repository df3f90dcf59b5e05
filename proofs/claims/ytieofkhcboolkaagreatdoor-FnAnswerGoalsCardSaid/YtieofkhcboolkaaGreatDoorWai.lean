import Derived.Test.YtieofkhcboolkaaGreatDoorWaf
import Derived.Test.YtieofkhcboolkaaGreatDoorWah
set_option linter.unusedSimpArgs false
set_option linter.unusedVariables false
set_option maxRecDepth 100000
namespace Go.AW
open Go.Proofs.Tryz
theorem CY(n lo hi:Int)(st:aB):aD prog 110 [.int .i64 n,.int .i64 lo,.int .i64 hi] st (fun r st'=>r=.bool (decide (lo≤n)&&decide (n≤hi))∧st'=st):=by
 refine wF [] 3 func110 ntmps110 rfl rfl ?_
 intro _
 repeat' (first
  | (simp only[*,aA,seval])
  | (refine cU (fun h=>?_) (fun h=>?_))
  | (refine aP (fun h=>?_) (fun h=>?_)))
 all_goals simp_all
theorem JW(s:ByteArray)(st:aB):aD prog 209 [.str s] st (fun r st'=>r=.tup [.int .i64 (bY s),.bool (bY s == 1||bY s == 2)]∧st'=st):=by
 refine wF [] 1 func209 ntmps209 rfl rfl ?_
 intro _
 repeat' (first
  | (simp only[*,aA,seval])
  | (refine cU (fun h=>?_) (fun h=>?_))
  | (refine aP (fun h=>?_) (fun h=>?_)))
 all_goals (simp only[bY, *,xA,vA,Bool.or_self,cond_true,AA];first | done | rfl)
theorem vS(s:ByteArray)(st:aB):aD prog 170 [.str s] st (fun r st'=>r=.int .i64 (bY s)∧st'=st):=by
 refine wF [] 1 func170 ntmps170 rfl rfl ?_
 intro _
 repeat' (first
  | (simp only[*,aA,seval])
  | (refine cU (fun h=>?_) (fun h=>?_))
  | (refine aP (fun h=>?_) (fun h=>?_)))
 all_goals (simp only[bY, *,xA,vA,Bool.or_self,cond_true,AA];first | done | rfl)
theorem aTD(s:ByteArray)(n:Int)(st:aB):aD prog 176 [.str s,.int .i64 n] st (fun r st'=>r=.bool (isBuiltin s n)∧st'=st):=by
 refine wF [] 2 func176 ntmps176 rfl rfl ?_
 intro _
 repeat' (first
  | (simp only[*,aA,seval])
  | (refine cU (fun h=>?_) (fun h=>?_))
  | (refine aP (fun h=>?_) (fun h=>?_)))
 all_goals (simp only[isBuiltin, *,xA,vA,Bool.or_self,cond_true,AA];first | done | rfl)
theorem O5(s:ByteArray)(n:Int)(st:aB):aD prog 169 [.str s,.int .i64 n] st (fun r st'=>r=.bool (isBuiltin s n)∧st'=st):=by
 refine wF [] 2 func169 ntmps169 rfl rfl ?_
 intro _
 repeat' (first
  | (simp only[*,aA,seval])
  | (refine cU (fun h=>?_) (fun h=>?_))
  | (refine aP (fun h=>?_) (fun h=>?_)))
 all_goals (simp only[isBuiltin, *,xA,vA,Bool.or_self,cond_true,AA];first | done | rfl)
abbrev aNY:=zi aX (zi bZ (zi kU cJ))
theorem XS(s:ByteArray)(st:aB):aD prog 168 [.str s] st (fun r st'=>r=.bool (r7 s)∧st'=st):=by
 refine wF [] 1 func168 ntmps168 rfl rfl ?_
 simp only[d7,AV.fits,d9]
 intro hs
 simp only[aA,seval]
 refine w9 (α:=Nat) [] (fun i=>i≤s.size∧∀(j:Nat) c,j<i→(sb s)[j]?=some c→letter c=true)
  (fun i=>[(0,.str s),(3,.int .i64 i)]) (fun _=>st) (fun i=>s.size - i) (by decide +kernel)
  ⟨0,⟨by omega,by intro j x h;omega⟩,aN.mk (by simp only[aA,↓aR,seval])⟩ ?_
 intro i ⟨hi,dJ⟩
 simp only[aA,seval,aNY]
 refine⟨fun h5=>?_,fun h5=>?_⟩
 case refine_2=>
  simp only[dB,mY] at h5
  have ha:(sb s).all letter=true:=JL fun j c hc=>dJ j c (by have:=(gS.1 hc).1;rw[cQ] at this;omega) hc
  repeat' (first
   | (simp only[*,aA,seval,aNY])
   | (refine cU (fun h=>?_) (fun h=>?_))
   | (refine aP (fun h=>?_) (fun h=>?_)))
  all_goals simp only[r7,ha,dU,AV.bool.injEq]
  all_goals simp only[*,fU,dU,fB]
 simp only[bO,mY] at h5
 obtain⟨c,hc⟩:∃c,(sb s)[i]?=some c:=⟨_,eN (by rw[cQ];exact h5)⟩
 have hx:=rZ (P:=prog) (t:=9) rB hc
 simp only[hx,aA,seval]
 refine cU (fun h6=>?_) (fun h6=>?_)
 case refine_2=>
  simp only[h6,aA,seval]
  simp only[iW,bO] at h6
  simp only[r7,vN hc (show letter c=false by simp [letter];omega),fB]
 simp only[h6,hx,aA,seval]
 refine⟨fun h7=>?_,fun h7=>?_⟩
 · simp only[aA,seval]
   simp only[bO] at h7
   simp only[r7,vN hc (show letter c=false by simp [letter];omega),fB]
 simp only[dB] at h6 h7
 simp only[aA,seval]
 refine⟨i+1,by omega,⟨by omega,fun j u hj hu=>?_⟩,aN.mk ?_⟩
 · rcases lD j i with h8 | h8
   · exact dJ j u h8 hu
   · obtain rfl:j=i:=by omega
     rw[hc] at hu;cases hu
     simp [letter];omega
 · have:=bL (n:=(i:Int)+1)
   simp only[this,aA,seval]
abbrev aNZ:=zi aX (zi bZ (zi kU (zi a65 cJ)))
theorem OU(s:ByteArray)(st:aB):aD prog 174 [.str s] st (fun r st'=>r=.bool (r7 s)∧st'=st):=by
 refine wF [] 1 func174 ntmps174 rfl rfl ?_
 simp only[d7,AV.fits,d9]
 intro hs
 simp only[aA,seval,aNZ]
 refine w9 (α:=Nat) [] (fun i=>i≤s.size∧∀(j:Nat) c,j<i→(sb s)[j]?=some c→letter c=true)
  (fun i=>[(0,.str s),(5,.int .i64 s.size),(6,.int .i64 i)]) (fun _=>st) (fun i=>s.size - i) (by decide +kernel)
  ⟨0,⟨by omega,by intro j x h;omega⟩,aN.mk (by simp only[aA,↓aR,seval])⟩ ?_
 intro i ⟨hi,dJ⟩
 simp only[aA,seval]
 refine⟨fun h5=>?_,fun h5=>?_⟩
 case refine_2=>
  simp only[dB,mY] at h5
  have ha:(sb s).all letter=true:=JL fun j c hc=>dJ j c (by have:=(gS.1 hc).1;rw[cQ] at this;omega) hc
  simp only[aA,seval,aNZ]
  refine(CY _ _ _ st).to ?_
  simp only[aA,seval]
  simp only[r7,ha,dU]
 simp only[bO,mY] at h5
 obtain⟨c,hc⟩:∃c,(sb s)[i]?=some c:=⟨_,eN (by rw[cQ];exact h5)⟩
 have hx:=rZ (P:=prog) (t:=9) rB hc
 simp only[hx,aA,seval]
 refine cU (fun h6=>?_) (fun h6=>?_)
 case refine_2=>
  simp only[h6,aA,seval]
  simp only[iW,bO] at h6
  simp only[r7,vN hc (show letter c=false by simp [letter];omega),fB]
 simp only[h6,hx,aA,seval]
 refine⟨fun h7=>?_,fun h7=>?_⟩
 · simp only[aA,seval]
   simp only[bO] at h7
   simp only[r7,vN hc (show letter c=false by simp [letter];omega),fB]
 simp only[dB] at h6 h7
 simp only[aA,seval]
 refine⟨i+1,by omega,⟨by omega,fun j u hj hu=>?_⟩,aN.mk ?_⟩
 · rcases lD j i with h8 | h8
   · exact dJ j u h8 hu
   · obtain rfl:j=i:=by omega
     rw[hc] at hu;cases hu
     simp [letter];omega
 · have:=bL (n:=(i:Int)+1)
   simp only[this,aA,seval]
theorem JZ(s:ByteArray)(st:aB):aD prog 175 [.str s] st (fun r st'=>r=.bool (decide ((0:Int)<(bY s:Int)))∧st'=st):=by
 refine wF [] 1 func175 ntmps175 rfl rfl ?_
 intro _
 simp only[aA,seval]
 refine(JW s st).to ?_
 simp only[aA,seval]
abbrev a6F:=zi aX (zi bZ (zi bS bQ))
theorem zZ(k n:Int)(s:ByteArray)(ts:List Tm)(st:aB):aD prog 177 [(Tm.mk k n s ts).av] st (fun r st'=>r=.bool (decide (k=3)&&decide ((ts.length:Int)=0))∧st'=st):=by
 refine wF [] 1 func177 ntmps177 rfl rfl ?_
 intro _
 simp only[aU]
 repeat' (first
  | (simp only[*,aA,seval,a6F])
  | (refine cU (fun h=>?_) (fun h=>?_))
  | (refine aP (fun h=>?_) (fun h=>?_)))
 all_goals simp_all
def jB:List ByteArray:=[⟨#[43]⟩,⟨#[45]⟩,⟨#[42]⟩,⟨#[47,47]⟩,⟨#[61]⟩,⟨#[92,61]⟩,⟨#[61,61]⟩,⟨#[60]⟩,⟨#[62]⟩,⟨#[61,60]⟩,⟨#[62,61]⟩,⟨#[61,58,61]⟩,⟨#[46]⟩,⟨#[91,93]⟩,⟨#[33]⟩]
theorem aVM(st:aB):aD prog 304 [] st (fun r st'=>r=.fslice (jB.map .str)∧st'=st):=by
 refine wF [] 0 func304 ntmps304 rfl rfl ?_
 intro _
 simp only[jB,aA,seval,mA]
theorem XQ(st:aB):aD prog 346 [] st (fun r st'=>r=.fslice (jB.map .str)∧st'=st):=by
 refine wF [] 0 func346 ntmps346 rfl rfl ?_
 intro _
 simp only[jB,aA,seval,mA]
abbrev aN1:=zi aX (zi bZ (zi cJ mA))
theorem aTR(l:List ByteArray)(s:ByteArray)(st:aB):aD prog 345 [.slice (l.map .str),.str s] st (fun r st'=>r=.bool (l.any fun x=>decide (x=s))∧st'=st):=by
 refine wF [] 2 func345 ntmps345 rfl rfl ?_
 simp only[d7,AV.fits,d9,aE]
 intro ⟨⟨hl,_⟩,_⟩
 simp only[aA,seval]
 refine w9 (α:=Nat) [] (fun i=>i≤l.length∧∀(j:Nat) x,j<i→l[j]?=some x→decide (x=s)=false)
  (fun i=>[(0,.slice (l.map .str)),(1,.str s),(5,.int .i64 i)]) (fun _=>st) (fun i=>l.length - i) (by decide +kernel)
  ⟨0,⟨by omega,by intro j x h;omega⟩,aN.mk (by simp only[aA,↓aR,seval])⟩ ?_
 intro i ⟨hi,dJ⟩
 simp only[aE,aA,seval,aN1]
 refine⟨fun h5=>?_,fun h5=>?_⟩
 case refine_2=>
  simp only[aA,seval]
  simp only[dB,mY] at h5
  have:(l.any fun x=>decide (x=s))=false:=by
   rw[List.any_eq_false]
   intro x hx
   obtain⟨j,hj⟩:=B3 hx
   simp [dJ j x (by have:=(gS.1 hj).1;omega) hj]
  rw[this]
 simp only[bO,mY] at h5
 obtain⟨x,hx⟩:∃x,l[i]?=some x:=⟨_,eN h5⟩
 simp only[bD (av:=AV.str) qC hx rfl,aA,seval,aN1]
 refine⟨fun h6=>?_,fun h6=>?_⟩
 · simp only[aA,seval]
   have:(l.any fun x=>decide (x=s))=true:=by
    rw[List.any_eq_true]
    exact⟨x,cD hx,h6⟩
   rw[this]
 simp only[aA,seval]
 refine⟨i+1,by omega,⟨by omega,fun j u hj hu=>?_⟩,aN.mk ?_⟩
 · rcases lD j i with h8 | h8
   · exact dJ j u h8 hu
   · obtain rfl:j=i:=by omega
     rw[hx] at hu;cases hu
     exact h6
 · have:=bL (n:=(i:Int)+1)
   simp only[this,aA,seval]
abbrev aN0:=zi aX (zi cJ mA)
theorem aSS(l:List ByteArray)(s:ByteArray)(st:aB):aD prog 335 [.slice (l.map .str),.str s] st (fun r st'=>(∃k:Int,r=.int .i64 k∧decide (0≤k)=l.any fun x=>decide (s=x))∧st'=st):=by
 refine wF [] 2 func335 ntmps335 rfl rfl ?_
 simp only[d7,AV.fits,d9,aE]
 intro ⟨⟨hl,_⟩,_⟩
 simp only[aE,aA,seval,aN0]
 refine w9 (α:=Nat) [] (fun i=>i≤l.length∧∀(j:Nat) x,j<i→l[j]?=some x→decide (s=x)=false)
  (fun i=>[(0,.slice (l.map .str)),(1,.str s),(7,.int .i64 l.length),(8,.int .i64 i)]) (fun _=>st) (fun i=>l.length - i) (by decide +kernel)
  ⟨0,⟨by omega,by intro j x h;omega⟩,aN.mk (by simp only[aA,↓aR,seval])⟩ ?_
 intro i ⟨hi,dJ⟩
 simp only[aA,seval]
 refine⟨fun h5=>?_,fun h5=>?_⟩
 case refine_2=>
  simp only[aA,seval]
  simp only[dB,mY] at h5
  have:(l.any fun x=>decide (s=x))=false:=by
   rw[List.any_eq_false]
   intro x hx
   obtain⟨j,hj⟩:=B3 hx
   simp [dJ j x (by have:=(gS.1 hj).1;omega) hj]
  rw[this]
  exact⟨_,rfl,rfl⟩
 simp only[bO,mY] at h5
 obtain⟨x,hx⟩:∃x,l[i]?=some x:=⟨_,eN h5⟩
 simp only[bD (av:=AV.str) qC hx rfl,aA,seval,aN0]
 refine⟨fun h6=>?_,fun h6=>?_⟩
 · simp only[aA,seval]
   have:(l.any fun x=>decide (s=x))=true:=by
    rw[List.any_eq_true]
    exact⟨x,cD hx,h6⟩
   rw[this]
   exact⟨_,rfl,by simp⟩
 simp only[aA,seval]
 refine⟨i+1,by omega,⟨by omega,fun j u hj hu=>?_⟩,aN.mk ?_⟩
 · rcases lD j i with h8 | h8
   · exact dJ j u h8 hu
   · obtain rfl:j=i:=by omega
     rw[hx] at hu;cases hu
     exact h6
 · have:=bL (n:=(i:Int)+1)
   simp only[this,aA,seval]
theorem aSJ(l:List ByteArray)(s:ByteArray)(st:aB):aD prog 303 [.slice (l.map .str),.str s] st (fun r st'=>r=.bool (l.any fun x=>decide (s=x))∧st'=st):=by
 refine wF [] 2 func303 ntmps303 rfl rfl ?_
 intro _
 simp only[aA,seval]
 refine(aSS l s st).mono ?_
 rintro _ _ ⟨⟨k,rfl,hk⟩,rfl⟩
 simp only[aA,seval]
 rw[←hk]
theorem OO(l:List ByteArray)(s:ByteArray)(st:aB):aD prog 303 [.fslice (l.map .str),.str s] st (fun r st'=>r=.bool (l.any fun x=>decide (s=x))∧st'=st):=
 aD.pQ (by simp only[hH,AV.soft];exact aSJ l s st)
theorem aTS(l:List ByteArray)(s:ByteArray)(st:aB):aD prog 345 [.fslice (l.map .str),.str s] st (fun r st'=>r=.bool (l.any fun x=>decide (x=s))∧st'=st):=
 aD.pQ (by simp only[hH,AV.soft];exact aTR l s st)
def yH(s:ByteArray):Bool:=r7 s||jB.any fun x=>decide (s=x)
theorem aQ1(s:ByteArray):(jB.any fun x=>decide (x=s))=jB.any fun x=>decide (s=x):=by
 congr 1
 funext x
 exact rT.2 ⟨Eq.symm,Eq.symm⟩
theorem aTE(s:ByteArray)(st:aB):aD prog 241 [.str s] st (fun r st'=>r=.bool (yH s)∧st'=st):=by
 refine wF [] 1 func241 ntmps241 rfl rfl ?_
 intro _
 repeat' (first
  | (simp only[*,aA,seval])
  | (refine cU (fun h=>?_) (fun h=>?_))
  | (refine(OU s st).to ?_) | (refine(aVM st).to ?_) | (refine(OO jB s st).to ?_)
  | (refine aP (fun h=>?_) (fun h=>?_)))
 all_goals simp only[yH, *,iW,vA,pU]
theorem aVI(s:ByteArray)(st:aB):aD prog 311 [.str s] st (fun r st'=>r=.bool (yH s)∧st'=st):=by
 refine wF [] 1 func311 ntmps311 rfl rfl ?_
 intro _
 repeat' (first
  | (simp only[*,aA,seval])
  | (refine cU (fun h=>?_) (fun h=>?_))
  | (refine(XS s st).to ?_) | (refine(XQ st).to ?_) | (refine(aTS jB s st).to ?_)
  | (refine aP (fun h=>?_) (fun h=>?_)))
 all_goals simp only[yH,aQ1, *,iW,vA,pU]
end Go.AW
namespace Go.AW
def eK(k n:Int)(s:ByteArray)(len:Int):Bool:=
 cond (decide (k=1)) (decide ((0:Int)≤n)&&decide (n≤25)&&decide (s=⟨#[]⟩)&&decide (len=0))
  (cond (decide (k=2)) (decide ((-999:Int)≤n)&&decide (n≤999)&&decide (s=⟨#[]⟩)&&decide (len=0))
   (cond (decide (k=3)) (decide (n=0)&&yH s&&decide (len≤4)) false))
mutual
def Tm.shape:Tm→Int→Bool
 | .mk k n s ts,d=>decide (1≤d)&&eK k n s ts.length&&M5 ts (d - 1)
def M5:List Tm→Int→Bool
 | [],_=>true
 | t::ts,d=>t.shape d&&M5 ts d
end
theorem aO7:∀(ts:List Tm) (d:Int),M5 ts d=ts.all fun t=>t.shape d
 | [],_=>rfl
 | t::ts,d=>by simp only[M5,j3,aO7 ts d]
theorem Tm.BF(k n:Int)(s:ByteArray)(ts:List Tm)(d:Int):(Tm.mk k n s ts).shape d=(decide (1≤d)&&eK k n s ts.length&&ts.all fun t=>t.shape (d - 1)):=by simp only[Tm.shape,aO7]
mutual
def Tm.nodes:Tm→Nat
 | .mk _ _ _ ts=>1+MZ ts
def MZ:List Tm→Nat
 | []=>0
 | t::ts=>t.nodes+MZ ts
end
theorem aO3:∀(ts:List Tm),MZ ts=bK Tm.nodes ts
 | []=>rfl
 | t::ts=>by simp only[MZ,bK,aO3 ts]
theorem Tm.gK(k n:Int)(s:ByteArray)(ts:List Tm):(Tm.mk k n s ts).nodes=1+bK Tm.nodes ts:=by simp only[Tm.nodes,aO3]
def Tm.valid(t:Tm):Bool:=t.shape 30&&decide (t.nodes≤120)
mutual
def Tm.vars:Tm→List Int→List Int
 | .mk k n _ ts,l=>aY ts (if k=1∧n∉l then l++ [n] else l)
def aY:List Tm→List Int→List Int
 | [],l=>l
 | t::ts,l=>aY ts (t.vars l)
end
mutual
theorem Tm.EW:∀(t:Tm) (l:List Int),(t.vars l).length≤l.length+t.nodes
 | .mk k n s ts,l=>by
  have h:=wZ ts (if k=1∧n∉l then l++ [n] else l)
  have h2:(if k=1∧n∉l then l++ [n] else l).length≤l.length+1:=by split<;>simp
  rw[Tm.vars,Tm.gK]
  omega
theorem wZ:∀(ts:List Tm) (l:List Int),(aY ts l).length≤l.length+bK Tm.nodes ts
 | [],l=>by simp [aY,bK]
 | t::ts,l=>by
  have h1:=Tm.EW t l
  have h2:=wZ ts (t.vars l)
  simp only[aY,bK]
  omega
end
def d4(v:Int):List Int→Int→Int
 | [],_=> -1
 | x::xs,i=>if v=x then i else d4 v xs (i+1)
theorem aLC(v:Int):∀(l:List Int) (i:Int),0≤i→(0≤d4 v l i↔v∈l)
 | [],i,h=>by simp [d4]
 | x::xs,i,h=>by
  simp only[d4,c8]
  split
  · rename_i e;simp [e,h]
  · rename_i e;rw[aLC v xs (i+1) (by omega)];simp [e]
theorem o9{st:aB}{b x:Nat}{l:List AV}{o:AO}(h:l≠[]→x≠b):(a7 st b l).aC x o=a7 (st.aC x o) b l:=by
 cases l with
 | nil=>rfl
 | cons y l=>exact aB.n9 _ _ _ (c7 (h (by simp)))
theorem JK{st:aB}{b x:Nat}{l:List AV}{o:AO}(hx:st x=none)(h:l≠[]→(st.aC x o) b=none):aL (a7 (st.aC x o) b l) (a7 st b l)∧(l≠[]→st b=none):=by
 cases l with
 | nil=>exact⟨(aL.refl _).aC hx,fun h=>absurd rfl h⟩
 | cons y l=>
  have hb:=h (by simp)
  have hne:b≠x:=by rintro rfl;rw[aB.aO] at hb;cases hb
  rw[aB.aM _ _ hne] at hb
  refine⟨?_,fun _=>hb⟩
  simp only[a7]
  rw[aB.n9 _ _ _ (c7 hne)]
  exact(aL.refl _).aC (by rw[aB.aM _ _ (c7 hne)];exact hx)
theorem WB{P:Program}{t:TypeId}{ag:Bool}{w b i:Nat}{l:List AV}{x:AV}(hI:eI P t=some (ag,w))(h:l[i]?=some x):c9 P t (bE w b l) (.int .i64 (i:Int))=some (.ptr b (i*w)):=by
 have hi:=(gS.1 h).1
 rw[pA (by rintro rfl;simp at hi)]
 exact uL hI hi
theorem WC{st:aB}{b i:Nat}{l:List Int}{x:Int}(h:l[i]?=some x):a7 st b (l.map iv) b=some (.cells (l.map iv))∧(l.map iv)[i]?=some (iv x):=by
 have hi:=(gS.1 h).1
 have hne:l.map iv≠[]:=by rintro e;rw[List.map_eq_nil_iff] at e;subst e;simp at hi
 have hfl:(l.map iv).flatMap AV.cells=l.map iv:=by
  clear h hi hne
  induction l with
  | nil=>rfl
  | cons y l ih=>simp only[aZ,sJ,ih];rfl
 exact⟨by rw[jR hne,hfl,aB.aO],by rw[mD,h];try rfl⟩
mutual
def Tm.wf:Tm→Bool
 | .mk k _ _ ts=>(!decide (k=1)||ts.isEmpty)&&M7 ts
def M7:List Tm→Bool
 | []=>true
 | t::ts=>t.wf&&M7 ts
end
theorem UC:∀(ts:List Tm),M7 ts=ts.all Tm.wf
 | []=>rfl
 | t::ts=>by simp only[M7,j3,UC ts]
theorem Tm.UQ{k n:Int}{s:ByteArray}{ts:List Tm}(h:(Tm.mk k n s ts).wf=true):(k=1→ts= [])∧∀x∈ts,x.wf=true:=by
 simp only[Tm.wf,UC,cB,rE,iV,dB,List.isEmpty_iff,dQ] at h
 exact⟨fun hk=>h.1.resolve_left (fun hn=>hn hk),h.2⟩
theorem Tm.w6{t:Tm}(h:t.valid=true):t.nodes≤120:=by simp only[Tm.valid,cB,bO] at h;exact h.2
theorem aNN{l:List Tm}(h:∀x∈l,x.valid=true):bK Tm.nodes l≤120*l.length:=by
 induction l with
 | nil=>simp [bK]
 | cons t l ih=>
  have h1:=Tm.w6 (h t (by simp))
  have h2:=ih fun x hx=>h x (by simp [hx])
  simp only[bK,aS]
  omega
def eY(S:aB)(c b:Nat)(hd:List AV)(l:List AV):aB:=a7 (S.aC c (.cells (hd++ [bE 4 b l]))) b l
theorem eF{S:aB}{c b:Nat}{hd l:List AV}(hb:l≠[]→(S.aC c (.cells (hd++ [bE 4 b l]))) b=none):eY S c b hd l c=some (.cells (hd++ [bE 4 b l])):=by
 unfold eY
 cases l with
 | nil=>simp only[a7,aB.aO]
 | cons y l=>
  have h:=hb (by simp)
  have hne:c≠b:=fun e=>by rw[←e,aB.aO] at h;cases h
  rw[o7 hne,aB.aO]
theorem nB{S:aB}{c b b':Nat}{hd l l':List AV}(hb:l'≠[]→(S.aC c (.cells (hd++ [bE 4 b l]))) b'=none) :
 (a7 (S.aC c (.cells (hd++ [bE 4 b l]))) b' l').aC c (.cells (hd++ [bE 4 b' l']))=eY S c b' hd l'∧(l'≠[]→(S.aC c (.cells (hd++ [bE 4 b' l']))) b'=none)∧a7 (S.aC c (.cells (hd++ [bE 4 b l]))) b' l' c=some (.cells (hd++ [bE 4 b l])):=by
 have hne:l'≠[]→c≠b':=fun h e=>by have:=hb h;rw[←e,aB.aO] at this;cases this
 refine⟨?_,fun h=>?_,?_⟩
 · rw[o9 hne,cY];try rfl
 · have:=hb h
   rw[aB.aM _ _ (c7 (hne h))] at this ⊢
   exact this
 · cases l' with
   | nil=>simp only[a7,aB.aO]
   | cons y l=>rw[o7 (hne (by simp)),aB.aO]
theorem gJ{S:aB}{c b x:Nat}{hd l:List AV}(hb:l≠[]→(S.aC c (.cells (hd++ [bE 4 b l]))) b=none)(hx:S x≠none)(hxc:x≠c):eY S c b hd l x=S x:=by
 unfold eY
 cases l with
 | nil=>simp only[a7,aB.aM _ _ hxc]
 | cons y l=>
  have h:=hb (by simp)
  have hne:x≠b:=fun e=>by
   rw[←e,aB.aM _ _ hxc] at h
   exact hx h
  rw[o7 hne,aB.aM _ _ hxc]
theorem jW{S:aB}{c b x:Nat}{hd l:List AV}{o:AO}(hb:l≠[]→(S.aC c (.cells (hd++ [bE 4 b l]))) b=none)(hx:S x≠none)(hxc:x≠c):(eY S c b hd l).aC x o=a7 ((S.aC c (.cells (hd++ [bE 4 b l]))).aC x o) b l∧(l≠[]→((S.aC c (.cells (hd++ [bE 4 b l]))).aC x o) b=none):=by
 have hne:l≠[]→x≠b:=fun h e=>by
  have:=hb h
  rw[←e,aB.aM _ _ hxc] at this
  exact hx this
 refine⟨by unfold eY;rw[o9 hne],fun h=>by rw[aB.aM _ _ (c7 (hne h))];exact hb h⟩
theorem qQ{S:aB}{c b x:Nat}{hd l:List AV}{o:AO}(hb:l≠[]→(S.aC c (.cells (hd++ [bE 4 b l]))) b=none)(hx:S x≠none)(hxc:x≠c) :
 (eY S c b hd l).aC x o=eY (S.aC x o) c b hd l∧(l≠[]→((S.aC x o).aC c (.cells (hd++ [bE 4 b l]))) b=none):=by
 have hne:l≠[]→x≠b:=fun h e=>by
  have:=hb h
  rw[←e,aB.aM _ _ hxc] at this
  exact hx this
 refine⟨by unfold eY;rw[o9 hne,aB.n9 _ _ _ (c7 hxc)],fun h=>?_⟩
 have:=hb h
 rw[aB.n9 _ _ _ hxc,aB.aM _ _ (c7 (hne h))]
 exact this
theorem a2M{S T:aB}{c b:Nat}{hd l:List AV}(D:aL (S.aC c (.cells (hd++ [bE 4 b l]))) T)(hb:l≠[]→(S.aC c (.cells (hd++ [bE 4 b l]))) b=none):aL (eY S c b hd l) T:=
 D.a7 fun h=>(D b).1 (hb h)
theorem aB.w5{st:aB}{b c:Nat}{a z a':AO}(h:b≠c):((st.aC c a).aC b z).aC c a'=(st.aC b z).aC c a':=by rw[aB.n9 _ _ _ (c7 h),cY]
theorem dS(l:List Tm):∀e∈l.map Tm.av,e.width=4:=by intro e h;simp only[cI] at h;obtain⟨t,_,rfl⟩:=h;exact aH t
theorem iM(l:List Tm):∀e∈l.map Tm.av,e.cE=false:=by intro e h;simp only[cI] at h;obtain⟨t,_,rfl⟩:=h;exact cC t
end Go.AW
namespace Go.AW
open Go.Proofs.Tryz
mutual
def Tm.small:Tm→Bool
 | .mk _ _ _ ts=>decide (ts.length≤1048576)&&IL ts
def IL:List Tm→Bool
 | []=>true
 | t::ts=>t.small&&IL ts
end
theorem ET:∀(ts:List Tm),IL ts=ts.all Tm.small
 | []=>rfl
 | t::ts=>by simp only[IL,j3,ET ts]
theorem Tm.nF{k n:Int}{s:ByteArray}{ts:List Tm}(h:(Tm.mk k n s ts).small=true):ts.length≤1048576∧∀x∈ts,x.small=true:=by
 simpa [Tm.small,ET] using h
abbrev MO:=zi aX (zi bS bQ)
theorem RZ(l:List Tm)(st:aB)(hb:l.length≤1048576)(hc:∀x∈l,∀(st:aB),aD prog 91 [Tm.av x] st (Made st (Tm.av x))) :
 aD prog 67 [.slice (l.map Tm.av)] st (Made st (.slice (l.map Tm.av))):=by
 have hws:∀e∈l.map Tm.av,e.width=4:=fun e he=>by simp only[cI] at he;obtain⟨t,_,rfl⟩:=he;exact aH t
 refine wF [] 1 func67 ntmps67 rfl rfl ?_
 intro _
 simp only[aE,aA,seval,MO]
 refine dV (σ:=List AV×List Nat×Nat×aB) [] [2,6,7] l (fun i p=>vB (l.map Tm.av) st i p.1 p.2.1 p.2.2.1 p.2.2.2) (fun i p=>[(3,bE 4 p.2.2.1 p.1),(8,.int .i64 i)]) (fun _ p=>p.2.2.2) (by decide +kernel)
  ⟨([],[],0,st),vB.start,aN.mk (by simp only[iK,aA,↓aR,seval])⟩ (fun i x p hx hlt bH hdr hinv=>?_) (fun p hge hinv=>?_)
 case refine_2=>
  obtain⟨os,bs,b,s⟩:=p
  simp only[hge,aA,seval]
  exact hinv.done (aE _) hws
 obtain⟨os,bs,b,s⟩:=p
 simp only at hinv
 have hw:=bL (n:=(i:Int)+1)
 have uQ:∀zs:List AV,zs.length=4→aK zs 0 (Tm.av x).cells=(Tm.av x).cells:=fun zs h=>BE (bR x) h
 simp only[bH,bD (av:=Tm.av) a8 hx (aH x),aT,aH,bR,bT,cY,uQ,aA,seval,MO]
 intro b2 hb2
 try simp only[uV,bR,eJ (bR x),eE (aT x),cZ,uQ,cY,bT,aA,↓aR,seval,MO]
 refine(hc x (cD hx) _).mono ?_
 rintro r s2 ⟨bx,m1,m2,m3,m4⟩
 obtain⟨f1,f2,f3⟩:=m3.aVZ (aH x) (bT x)
 have hra:r.isAgg=true:=by rw[(cO.shape m3).1,aT]
 have hrj:r.cE=false:=(cO.shape m3).2.2.1
 simp only[f1,hra,hrj,aA,seval,MO]
 have hlen:os.length=i:=hinv.1
 have a1C:∀e∈os,e.width=4:=fun e he=>by
  obtain⟨k,hk,rfl⟩:=List.getElem_of_mem he
  exact hinv.2.1.aPX (fun q hq=>hws q (lB hq)) _ he
 have hkb:os≠[]→s2 b=some (.cells (os.flatMap AV.cells)):=fun hne=>by
  have h:=(hinv.2.2.2.2.1 hne).2.2
  have hbx:b∉bx:=fun hq=>by
   have:=m2 b hq
   have GW:b≠b2:=fun e=>by rw[e,hb2] at h;cases h
   rw[aB.aM _ _ GW,h] at this;cases this
  have GW:b≠b2:=fun e=>by rw[e,hb2] at h;cases h
  rw[m4 b hbx,aB.aM _ _ GW,h]
 refine aQT a8 fW fX rfl rfl (eO f1 f3) a1C hkb (by simp only[aS,aW,hlen];omega) (by simp only[aS,aW,hlen];omega) (fun b' s' k1 k2 k3 k4=>?_)
 have gA:=hinv.step hb2 (show(l.map Tm.av)[i]?=some (Tm.av x) by rw[mD,hx];try rfl) m1 m2 m3 m4 (k1 (by simp)) (k2 (by simp)) (fun q h1 h2=>k3 q (fun _=>h1) h2) k4
 simp only[hw,aA,seval]
 exact⟨(os++ [r],bs++bx,b',s'.erase b2),gA,aN.drop (jK _ _) (by simp only[aA,seval])⟩
abbrev aOJ:=zi bS bQ
theorem RY:∀(t:Tm) (st:aB),t.small=true→aD prog 91 [t.av] st (Made st t.av)
 | .mk k n s ts,st,hb=>by
  obtain⟨hb1,hb2⟩:=Tm.nF hb
  have hc:=fun st=>RZ ts st hb1 fun x hx st=>RY x st (hb2 x hx)
  refine aD.a24 ?_
  refine wF [1] 1 func91 ntmps91 rfl rfl ?_
  intro _
  simp only[aU]
  simp only[aA,seval,aOJ]
  intro b aZ2 b2 K6
  have hne:b2≠b:=by rintro rfl;rw[aB.aO] at K6;cases K6
  have hn2:st b2=none:=by rw[aB.aM st _ hne] at K6;exact K6
  simp only[uV,hne.symm,aA,seval]
  refine(hc _).mono ?_
  rintro q s2 ⟨bs,m1,m2,m3,m4⟩
  have hbb:b∉bs:=fun h=>by have:=m2 b h;simp [uV,hne.symm] at this
  have K8:b2∉bs:=fun h=>by have:=m2 b2 h;simp [uV] at this
  have e1:=m4 b hbb
  have e2:=m4 b2 K8
  simp only[uV,hne,hne.symm,gB,d5] at e1 e2
  have hqc:q.cells= [q]:=by have:=(cO.shape m3).1;cases q<;>first | rfl | simp [AV.isAgg] at this
  have hqs:q.storable=true:=by
   have:=m3
   simp only[cO] at this
   rcases this with ⟨_,rfl,_⟩ | ⟨_,_,_,_,rfl,_⟩<;>rfl
  simp only[uV,hne,e1,e2,hqc,hqs,aK,aA,seval,aOJ]
  refine⟨[b,b2],bs,m1,fun x hx=>?_,?_,?_,?_⟩
  · have:=m2 x hx
    have h1:x≠b:=fun e=>hbb (e▸hx)
    have h2:x≠b2:=fun e=>K8 (e▸hx)
    simpa [uV,h1,h2] using this
  · simp [aZ2,hn2,hbb,K8]
  · rw[←aU]
    refine a3Y.2 ⟨q,rfl,cO.bB _ _ _ (fun x hx=>?_) m3⟩
    have h1:x≠b:=fun e=>hbb (e▸hx)
    have h2:x≠b2:=fun e=>K8 (e▸hx)
    simp only[uV,h1,h2,d5]
  · intro x hx hd
    simp only[c8,dP,dX,not_or] at hd
    simp only[uV,hd.1,hd.2,d5]
    rw[m4 x hx]
    simp only[uV,hd.1,hd.2,d5]
termination_by t=>SizeOf.sizeOf t
decreasing_by have:=List.sizeOf_lt_of_mem hx;simp only[Tm.mk.sizeOf_spec];omega
abbrev BM:=zi aX (zi cJ (zi bS bQ))
theorem xT:∀(t:Tm) (st:aB),t.small=true→aD prog 84 [t.av] st (fun r st'=>r=t.av∧st'=st)
 | .mk k n s ts,st,hsm=>by
  obtain⟨hlen,mN⟩:=Tm.nF hsm
  have IH:=fun(x:Tm) (hx:x∈ts) st=>xT x st (mN x hx)
  refine aD.oH (aD.fin ?_)
  simp only[aU]
  refine wF [] 1 func84 ntmps84 rfl rfl ?_
  simp only[d7,AV.fits,d9,aE]
  intro ⟨_,_,_,hl,_⟩
  simp only[aA,seval,BM]
  intro b2 hb2 c hc
  have hne:c≠b2:=by rintro rfl;rw[aB.aO] at hc;cases hc
  have hn2:st c=none:=by rw[aB.aM st _ hne] at hc;exact hc
  simp only[aK,aA,seval]
  refine dV (σ:=Nat) [] [1,2,3] ts (fun i b=>(((ts.take i).map (fun y=>y)).map Tm.av≠[]→(aB.aC (st.aC b2 (.cells [AV.int .i64 0,AV.int .i64 0,AV.str ⟨#[]⟩,AV.fslice []])) c (.cells ([AV.int .i64 k,AV.int .i64 n,AV.str s]++ [bE 4 b (((ts.take i).map (fun y=>y)).map Tm.av)]))) b=none)) (fun i b=>[(4,.int .i64 i)]) (fun i b=>eY (st.aC b2 (.cells [AV.int .i64 0,AV.int .i64 0,AV.str ⟨#[]⟩,AV.fslice []])) c b [AV.int .i64 k,AV.int .i64 n,AV.str s] (((ts.take i).map (fun y=>y)).map Tm.av)) (by decide +kernel)
   ⟨0,fun h=>absurd rfl h,aN.mk (by simp only[aA,↓aR,seval])⟩ (fun i x b hx hlt bH hdr hinv=>?_) (fun b hge hinv=>?_)
  case refine_1=>
   have hw:=bL (n:=(i:Int)+1)
   have cF:(((ts.take i).map (fun y=>y)).map Tm.av).length=i:=by simp only[aE,dC];omega
   have htk:(ts.take (i+1)).map (fun y=>y)=(ts.take i).map (fun y=>y)++ [(fun y=>y) x]:=by rw[eA,hx];simp
   have hbo:=eF hinv
   simp only[aE,bH,aA,seval,BM]
   refine wP [(0,1),(2,1),(4,1),(1,2),(3,2),(5,1),(6,2),(7,2),(8,1),(9,0),(10,1),(11,0)] [0,2,4,1,3,5,6,7,8,10] mixed ?_
   simp only[bD (av:=Tm.av) a8 hx (aH x),aT,aH,hbo,lQ,fZ,aA,seval,BM]
   refine fK (IH x (cD hx) _) ?_
   simp only[aT,aH,cC,fZ,aA,seval,BM]
   refine eD a8 fW fX rfl rfl (eO (aH _) (bT _)) (dS _) hinv (by simp only[cF,aS,aW];omega) (by simp only[cF,aS,aW];omega) (fun b' hb'=>?_)
   rw[show(((ts.take i).map (fun y=>y)).map Tm.av)++ [((fun y=>y) x).av]=((ts.take (i+1)).map (fun y=>y)).map Tm.av by rw[htk];simp] at hb' ⊢
   obtain⟨g1,g2,g3⟩:=nB hb'
   simp only[fC,eL] at g1 g3
   simp only[g3,lR,eT,aK,g1,hw,aA,seval,BM]
   exact⟨b',g2,aN.mk (by simp only[aA,seval])⟩
  have hbo:=eF hinv
  rw[dW] at hinv hbo ⊢
  simp only[aE,hge,aA,seval,BM]
  simp only[hbo,aA,seval,BM]
  have kP:b2≠c:=c7 hne
  have hS:(st.aC b2 (.cells [AV.int .i64 0,AV.int .i64 0,AV.str ⟨#[]⟩,AV.fslice []])) b2≠none:=by rw[aB.aO];simp
  have h1:=gJ hinv hS kP
  rw[aB.aO] at h1
  simp only[h1,eT,aK,aA,seval]
  obtain⟨h2,h3⟩:=jW (o:=.cells [AV.int .i64 k,AV.int .i64 n,AV.str s,bE 4 b ((ts.map fun y=>y).map Tm.av)]) hinv hS kP
  refine⟨b,_,_,h2,h3,iM _,⟨4,dS _⟩,?_,?_⟩
  · simp only[fO,aZ,aV,dZ,iD,iJ,List.map_id']
  · exact(((aL.refl _).aC hb2).aC hn2).aC hb2
termination_by t=>SizeOf.sizeOf t
decreasing_by have:=List.sizeOf_lt_of_mem hx;simp only[Tm.mk.sizeOf_spec];omega
end Go.AW
namespace Go.AW
def Tm.k:Tm→Int | .mk k _ _ _=>k
def Tm.n:Tm→Int | .mk _ n _ _=>n
def Tm.s:Tm→ByteArray | .mk _ _ s _=>s
def Tm.ts:Tm→List Tm | .mk _ _ _ ts=>ts
theorem Tm.eta(t:Tm):t=.mk t.k t.n t.s t.ts:=by cases t;rfl
def vr(n:Int):Tm:=.mk 1 n ⟨#[]⟩ []
mutual
def Tm.aG(f:Int→Tm):Tm→Tm
 | .mk k n s ts=>if k=1 then f n else .mk k n s (MY f ts)
def MY(f:Int→Tm):List Tm→List Tm
 | []=>[]
 | t::ts=>t.aG f::MY f ts
end
theorem aO2(f:Int→Tm):∀ts:List Tm,MY f ts=ts.map (Tm.aG f)
 | []=>rfl
 | t::ts=>by simp only[MY,aZ,aO2 f ts]
theorem Tm.kI(f:Int→Tm){k n:Int}{s:ByteArray}{ts:List Tm}(h:k=1):(Tm.mk k n s ts).aG f=f n:=by simp only[Tm.aG,h,gB]
theorem Tm.i8(f:Int→Tm){k n:Int}{s:ByteArray}{ts:List Tm}(h:k≠1):(Tm.mk k n s ts).aG f=.mk k n s (ts.map (Tm.aG f)):=by simp only[Tm.aG,h,d5,aO2]
theorem tH(f:Int→Tm)(n:Int):(vr n).aG f=f n:=Tm.kI f rfl
mutual
def Tm.vl:Tm→List Int
 | .mk k n _ ts=>if k=1 then[n] else IM ts
def IM:List Tm→List Int
 | []=>[]
 | t::ts=>t.vl++IM ts
end
theorem aPA{v:Int}:∀ {ts:List Tm},v∈IM ts↔∃t∈ts,v∈t.vl
 | []=>by simp [IM]
 | t::ts=>by simp [IM,aPA (ts:=ts)]
theorem Tm.mU{k n:Int}{s:ByteArray}{ts:List Tm}(h:k=1):(Tm.mk k n s ts).vl= [n]:=by simp only[Tm.vl,h,gB]
theorem Tm.kV{k n v:Int}{s:ByteArray}{ts:List Tm}(h:k≠1):v∈(Tm.mk k n s ts).vl↔∃t∈ts,v∈t.vl:=by simp only[Tm.vl,h,d5,aPA]
theorem zA(n:Int):(vr n).vl= [n]:=Tm.mU rfl
theorem Tm.ind{p:Tm→Prop}(h:∀k n s ts,(∀t∈ts,p t)→p (.mk k n s ts)):∀t,p t
 | .mk k n s ts=>h k n s ts fun t ht=>Tm.ind h t
termination_by t=>SizeOf.sizeOf t
decreasing_by have:=List.sizeOf_lt_of_mem ht;simp only[Tm.mk.sizeOf_spec];omega
theorem n6{f g:Int→Tm}:∀(t:Tm),(∀v∈t.vl,f v=g v)→t.aG f=t.aG g:=by
 intro t
 induction t using Tm.ind with
 | h k n s ts ih=>
  intro h
  by_cases hk:k=1
  · rw[Tm.kI f hk,Tm.kI g hk];exact h n (by rw[Tm.mU hk];simp)
  · rw[Tm.i8 f hk,Tm.i8 g hk]
    congr 1
    exact pW fun x hx=>ih x hx fun v hv=>h v ((Tm.kV hk).2 ⟨x,hx,hv⟩)
theorem tG(f g:Int→Tm)(t:Tm):(t.aG f).aG g=t.aG fun v=>(f v).aG g:=by
 induction t using Tm.ind with
 | h k n s ts ih=>
  by_cases hk:k=1
  · rw[Tm.kI f hk,Tm.kI _ hk]
  · rw[Tm.i8 f hk,Tm.i8 g hk,Tm.i8 _ hk,rI]
    congr 1
    exact pW fun x hx=>ih x hx
theorem y9{f:Int→Tm}{w:Int}(t:Tm):w∈(t.aG f).vl↔∃v∈t.vl,w∈(f v).vl:=by
 induction t using Tm.ind with
 | h k n s ts ih=>
  by_cases hk:k=1
  · rw[Tm.kI f hk,Tm.mU hk];simp
  · rw[Tm.i8 f hk,Tm.kV hk]
    constructor
    · rintro⟨x,hx,hw⟩
      obtain⟨y,hy,rfl⟩:=cI.1 hx
      obtain⟨v,hv,hvw⟩:=(ih y hy).1 hw
      exact⟨v,(Tm.kV hk).2 ⟨y,hy,hv⟩,hvw⟩
    · rintro⟨v,hv,hw⟩
      obtain⟨y,hy,hvy⟩:=(Tm.kV hk).1 hv
      exact⟨_,cI.2 ⟨y,hy,rfl⟩,(ih y hy).2 ⟨v,hvy,hw⟩⟩
theorem a3G{f:Int→Tm}{v:Int}:∀(t:Tm),v∈t.vl→(f v).nodes≤(t.aG f).nodes∧(t.k≠1→(f v).nodes<(t.aG f).nodes):=by
 intro t
 induction t using Tm.ind with
 | h k n s ts ih=>
  intro hv
  by_cases hk:k=1
  · rw[Tm.mU hk] at hv
    simp only[c8,dP,dX] at hv
    subst hv
    rw[Tm.kI f hk]
    exact⟨cZ _,fun h=>absurd hk h⟩
  · obtain⟨x,hx,hvx⟩:=(Tm.kV hk).1 hv
    have h1:=(ih x hx hvx).1
    have h2:=HQ (f:=Tm.nodes) (cI.2 ⟨x,hx,rfl⟩:x.aG f∈ts.map (Tm.aG f))
    rw[Tm.i8 f hk,Tm.gK]
    omega
abbrev Sub:=Int→Option Tm
def Sub.set(σ:Sub)(n:Int)(t:Tm):Sub:=fun m=>if m=n then some t else σ m
def Sub.none:Sub:=fun _=>Option.none
structure Good (σ:Sub) (R:Int→Tm) (rk:Int→Nat) (B:Nat):Prop where
 wS:∀n,R n=match σ n with | some u=>u.aG R | .none=>vr n
 HG:∀n u,σ n=some u→∀w∈u.vl,rk w<rk n
 bd:∀n,rk n<B
def rJ(θ:Int→Tm)(σ:Sub):Prop:=∀n u,σ n=some u→θ n=u.aG θ
section
variable {σ:Sub} {R R':Int→Tm} {rk rk':Int→Nat} {B B':Nat}
theorem Good.none:Good Sub.none vr (fun _=>0) 1:=⟨fun n=>rfl,fun n u h=>(by cases h),fun n=>Nat.zero_lt_one⟩
theorem Good.free(G:Good σ R rk B){n:Int}(h:σ n=.none):R n=vr n:=by rw[G.wS n,h]
theorem Good.bound(G:Good σ R rk B){n:Int}{u:Tm}(h:σ n=some u):R n=u.aG R:=by rw[G.wS n,h]
theorem Good.wJ(G:Good σ R rk B):rJ R σ:=fun n u h=>G.bound h
theorem Good.ind(G:Good σ R rk B){p:Int→Prop}(h0:∀n,σ n=.none→p n)(h1:∀n u,σ n=some u→(∀w∈u.vl,p w)→p n):∀n,p n:=by
 intro n
 generalize hk:rk n=k
 induction k using Nat.strongRecOn generalizing n with
 | _ k ih=>
  cases h:σ n with
  | none=>exact h0 n h
  | some u=>exact h1 n u h fun w hw=>ih (rk w) (hk▸G.HG n u h w hw) w rfl
theorem Good.uniq(G:Good σ R rk B)(G':Good σ R' rk' B'):R=R':=by
 funext n
 refine G.ind (p:=fun n=>R n=R' n) (fun n h=>?_) (fun n u h ih=>?_) n
 · rw[G.free h,G'.free h]
 · rw[G.bound h,G'.bound h];exact n6 u ih
theorem Good.aY8(G:Good σ R rk B){θ:Int→Tm}(S:rJ θ σ)(n:Int):(R n).aG θ=θ n:=by
 refine G.ind (p:=fun n=>(R n).aG θ=θ n) (fun n h=>?_) (fun n u h ih=>?_) n
 · rw[G.free h,tH]
 · rw[G.bound h,tG,S n u h];exact n6 u ih
theorem Good.PY(G:Good σ R rk B){θ:Int→Tm}(S:rJ θ σ)(t:Tm):(t.aG R).aG θ=t.aG θ:=by
 rw[tG];exact n6 t fun v _=>G.aY8 S v
theorem Good.canon(G:Good σ R rk B)(n:Int):(R n).aG vr=R n:=by
 refine G.ind (p:=fun n=>(R n).aG vr=R n) (fun n h=>?_) (fun n u h ih=>?_) n
 · rw[G.free h,tH]
 · rw[G.bound h,tG];exact n6 u ih
theorem Good.aVV(G:Good σ R rk B)(t:Tm):(t.aG R).aG vr=t.aG R:=by
 rw[tG];exact n6 t fun v _=>G.canon v
theorem Good.bind(G:Good σ R rk B){n:Int}{t:Tm}(hn:σ n=.none)(ho:n∉(t.aG R).vl) :
 ∃rk' B',Good (σ.set n t) (fun m=>(R m).aG fun v=>if v=n then t.aG R else vr v) rk' B':=by
 have key:(t.aG R).aG (fun v=>if v=n then t.aG R else vr v)=t.aG R:=by
  rw[n6 (g:=vr) (t.aG R) (fun v hv=>aF fun e=>ho (by rw[←e];exact hv)),G.aVV]
 refine⟨fun v=>if n∈(R v).vl then rk v+B else rk v,B+B,fun m=>?_,fun m u h w hw=>?_,fun m=>?_⟩
 · by_cases hm:m=n
   · subst hm
     simp only[Sub.set,gB]
     rw[G.free hn,tH,aJ rfl]
     rw[←tG,key]
   · simp only[Sub.set,hm,d5]
     cases h:σ m with
     | none=>rw[G.free h,tH,aF hm]
     | some u=>rw[G.bound h,tG]
 · by_cases hm:m=n
   · subst hm
     simp only[Sub.set,gB,Option.some.injEq] at h
     subst h
     have hw':m∉(R w).vl:=fun h=>ho ((y9 t).2 ⟨w,hw,h⟩)
     have:m∈(R m).vl:=by rw[G.free hn,zA];simp
     have:=G.bd w
     simp only[hw',d5]
     rw[aJ (by assumption)]
     omega
   · simp only[Sub.set,hm,d5] at h
     have h1:=G.HG m u h w hw
     by_cases hw':n∈(R w).vl
     · have:n∈(R m).vl:=by rw[G.bound h];exact(y9 u).2 ⟨w,hw,hw'⟩
       simp only[hw',this,gB];omega
     · simp only[hw',d5];split<;>omega
 · have:=G.bd m
   split<;>omega
end
open Classical in
noncomputable def rs(σ:Sub):Int→Tm:=if h:∃R rk B,Good σ R rk B then h.choose else vr
theorem Good.rs{σ:Sub}{R:Int→Tm}{rk:Int→Nat}{B:Nat}(G:Good σ R rk B):rs σ=R:=by
 unfold AW.rs
 have h:∃R rk B,Good σ R rk B:=⟨R,rk,B,G⟩
 rw[dif_pos h]
 obtain⟨rk',B',G'⟩:=h.choose_spec
 exact G'.uniq G
inductive f0 (σ:Sub):Nat→Tm→Tm→Prop
 | stop {t:Tm} (h:t.k=1→σ t.n=none):f0 σ 0 t t
 | go {f:Nat} {t u v:Tm} (h1:t.k=1) (h2:σ t.n=some u) (h3:f0 σ f u v):f0 σ (f+1) t v
theorem f0.det{σ:Sub}{f g:Nat}{t u v:Tm}(h:f0 σ f t u):f0 σ g t v→u=v:=by
 induction h generalizing g v with
 | stop h=>
  intro h'
  cases h' with
  | stop=>rfl
  | go h1 h2 h3=>rw[h h1] at h2;cases h2
 | go h1 h2 h3 ih=>
  intro h'
  cases h' with
  | stop h=>rw[h h1] at h2;cases h2
  | go h1' h2' h3'=>rw[h2] at h2';cases h2';exact ih h3'
theorem f0.total{σ:Sub}{R:Int→Tm}{rk:Int→Nat}{B:Nat}(G:Good σ R rk B)(t:Tm):∃f u,f0 σ f t u:=by
 have key:∀n,∀t:Tm,t.k=1→t.n=n→∃f u,f0 σ f t u:=by
  intro n
  refine G.ind (p:=fun n=>∀t:Tm,t.k=1→t.n=n→∃f u,f0 σ f t u) (fun n h t hk hn=>?_) (fun n u h ih t hk hn=>?_) n
  · exact⟨0,t,.stop fun _=>by rw[hn,h]⟩
  · by_cases hu:u.k=1
    · have:u.n∈u.vl:=by rw[Tm.eta u,Tm.mU hu];simp [Tm.n]
      obtain⟨f,v,hv⟩:=ih u.n this u hu rfl
      exact⟨f+1,v,.go hk (by rw[hn,h]) hv⟩
    · exact⟨1,u,.go hk (by rw[hn,h]) (.stop fun h=>absurd h hu)⟩
 by_cases hk:t.k=1
 · exact key t.n t hk rfl
 · exact⟨0,t,.stop fun h=>absurd h hk⟩
theorem Tm.EX{t:Tm}(h:t.k=1):t.vl= [t.n]:=by cases t;exact Tm.mU h
theorem Tm.DW{t:Tm}(f:Int→Tm)(h:t.k=1):t.aG f=f t.n:=by cases t;exact Tm.kI f h
theorem Tm.qR{t:Tm}(f:Int→Tm)(h:t.k≠1):t.aG f=.mk t.k t.n t.s (t.ts.map (Tm.aG f)):=by cases t;exact Tm.i8 f h
theorem f0.end{σ:Sub}{f:Nat}{t u:Tm}(h:f0 σ f t u):u.k=1→σ u.n=none:=by induction h with | stop h=>exact h | go _ _ _ ih=>exact ih
theorem f0.aG{σ:Sub}{θ:Int→Tm}(S:rJ θ σ){f:Nat}{t u:Tm}(h:f0 σ f t u):u.aG θ=t.aG θ:=by
 induction h with
 | stop=>rfl
 | go h1 h2 _ ih=>rw[ih,Tm.DW θ h1,S _ _ h2]
theorem f0.HG{σ:Sub}{R:Int→Tm}{rk:Int→Nat}{B:Nat}(G:Good σ R rk B){f:Nat}{t u:Tm}(h:f0 σ f t u):∀w∈u.vl,∃v∈t.vl,rk w≤rk v∧(f≠0→rk w<rk v):=by
 induction h with
 | stop h=>exact fun w hw=>⟨w,hw,cZ _,fun h=>absurd rfl h⟩
 | @go f t u v h1 h2 _ ih=>
  intro w hw
  obtain⟨x,hx,hle,_⟩:=ih w hw
  have:=G.HG _ _ h2 x hx
  exact⟨t.n,by rw[Tm.EX h1];simp,by omega,fun _=>by omega⟩
theorem f0.all{σ:Sub}{p:Tm→Prop}(hp:∀n u,σ n=some u→p u){f:Nat}{t u:Tm}(h:f0 σ f t u)(ht:p t):p u:=by
 induction h with
 | stop=>exact ht
 | go _ h2 _ ih=>exact ih (hp _ _ h2)
open Classical in
noncomputable def wk(σ:Sub)(t:Tm):Tm:=if h:∃u f,f0 σ f t u then h.choose else t
theorem f0.wk{σ:Sub}{f:Nat}{t u:Tm}(h:f0 σ f t u):wk σ t=u:=by
 unfold AW.wk
 have h':∃u f,f0 σ f t u:=⟨u,f,h⟩
 rw[dif_pos h']
 obtain⟨g,hg⟩:=h'.choose_spec
 exact hg.det h
theorem Good.wk{σ:Sub}{R:Int→Tm}{rk:Int→Nat}{B:Nat}(G:Good σ R rk B)(t:Tm):∃f,f0 σ f t (wk σ t):=by
 obtain⟨f,u,h⟩:=f0.total G t
 exact⟨f,by rw[h.wk];exact h⟩
open Classical in
noncomputable def j9(σ:Sub)(n:Int)(t:Tm):Bool×Sub×List Int:=if n∈(t.aG (rs σ)).vl then(false,σ,[]) else(true,σ.set n t,[n])
open Classical in
def uK(a b:Tm):Bool:=decide (a.k=b.k)&&decide (a.n=b.n)&&decide (a.s=b.s)&&decide (a.ts.length=b.ts.length)
mutual
noncomputable def dF:Nat→Sub→Tm→Tm→Option (Bool×Sub×List Int)
 | 0,_,_,_=>none
 | g+1,σ,a,b=>
  if(wk σ a).k=1∧(wk σ b).k=1∧(wk σ a).n=(wk σ b).n then some (true,σ,[])
  else if(wk σ a).k=1 then some (j9 σ (wk σ a).n (wk σ b))
  else if(wk σ b).k=1 then some (j9 σ (wk σ b).n (wk σ a))
  else if uK (wk σ a) (wk σ b)=true then d8 g σ (wk σ a).ts (wk σ b).ts
  else some (false,σ,[])
termination_by g=>(g,0)
noncomputable def d8:Nat→Sub→List Tm→List Tm→Option (Bool×Sub×List Int)
 | g,σ,a::xs,b::ys=>match dF g σ a b with
  | none=>none
  | some (false,σ',tr)=>some (false,σ',tr)
  | some (true,σ',tr)=>match d8 g σ' xs ys with
   | none=>none
   | some (r,σ'',tr')=>some (r,σ'',tr++tr')
 | _,σ,_,_=>some (true,σ,[])
termination_by g _ xs=>(g,xs.length+1)
end
theorem NB{g:Nat}{σ σ':Sub}{a b:Tm}{r:Bool}{add:List Int}(h:dF (g+1) σ a b=some (r,σ',add)) :
 ((wk σ a).k=1∧(wk σ b).k=1∧(wk σ a).n=(wk σ b).n∧true=r∧σ=σ'∧[]=add) ∨
 ((wk σ a).k=1∧¬((wk σ b).k=1∧(wk σ a).n=(wk σ b).n)∧j9 σ (wk σ a).n (wk σ b)=(r,σ',add)) ∨
 ((wk σ a).k≠1∧(wk σ b).k=1∧j9 σ (wk σ b).n (wk σ a)=(r,σ',add)) ∨
 ((wk σ a).k≠1∧(wk σ b).k≠1∧uK (wk σ a) (wk σ b)=true∧d8 g σ (wk σ a).ts (wk σ b).ts=some (r,σ',add)) ∨
 ((wk σ a).k≠1∧(wk σ b).k≠1∧uK (wk σ a) (wk σ b)=false∧false=r∧σ=σ'∧[]=add):=by
 rw[dF] at h
 split at h
 · rename_i h1;exact .inl ⟨h1.1,h1.2.1,h1.2.2,by simpa using h⟩
 · rename_i h1
   split at h
   · rename_i h2;exact .inr (.inl ⟨h2,fun h3=>h1 ⟨h2,h3⟩,kZ h⟩)
   · rename_i h2
     split at h
     · rename_i h3;exact .inr (.inr (.inl ⟨h2,h3,kZ h⟩))
     · rename_i h3
       split at h
       · rename_i h4;exact .inr (.inr (.inr (.inl ⟨h2,h3,h4,h⟩)))
       · rename_i h4;exact .inr (.inr (.inr (.inr ⟨h2,h3,by simpa using h4,by simpa using h⟩)))
theorem Tm.soft(t:Tm):t.av.soft=t.av:=by cases t;simp [aU,AV.soft,hH]
theorem Tm.uI(t:Tm)(b:Nat):t.av.fin b []=t.av:=Tm.soft t
abbrev Bd:=Int×Tm
def m8(b:Bd):AV:=.agg (.int .i64 b.1::b.2.av.cells)
theorem FW(b:Bd):(m8 b).width=5:=by simp only[m8,AV.width,aS,bR]
theorem aR2(b:Bd):(m8 b).cells.all AV.storable=true:=by
 show(AV.int .i64 b.1::b.2.av.cells).all AV.storable=true
 rw[j3,bT b.2]
 try rfl
theorem aR1(b:Bd):(m8 b).cE=false:=rfl
def qE:List Bd→Int→Option Tm
 | [],_=>none
 | (m,x)::r,n=>if m=n then some x else qE r n
def gM(bs:List Bd)(n:Int):Tm:=(qE bs n).getD (vr n)
def Tm.zero:Tm:=.mk 0 0 ⟨#[]⟩ []
mutual
def Tm.cv:Tm→Bool
 | .mk k _ s ts=>(!decide (k=1)||(decide (s=⟨#[]⟩)&&ts.isEmpty))&&MV ts
def MV:List Tm→Bool
 | []=>true
 | t::ts=>t.cv&&MV ts
end
theorem aOZ:∀(ts:List Tm),MV ts=ts.all Tm.cv
 | []=>rfl
 | t::ts=>by simp only[MV,j3,aOZ ts]
theorem Tm.lU{k n:Int}{s:ByteArray}{ts:List Tm}:(Tm.mk k n s ts).cv=true↔(k=1→s=⟨#[]⟩∧ts= [])∧∀x∈ts,x.cv=true:=by
 simp only[Tm.cv,aOZ,cB,rE,iV,dB,List.isEmpty_iff,dQ,bO]
 constructor
 · exact fun h=>⟨fun hk=>h.1.resolve_left (fun hn=>hn hk),h.2⟩
 · intro h
   refine⟨?_,h.2⟩
   by_cases hk:k=1
   · exact .inr (h.1 hk)
   · exact .inl hk
theorem Tm.a5C:∀(t:Tm) (d:Int),t.shape d=true→t.cv=true:=by
 intro t
 induction t using Tm.ind with
 | h k n s ts ih=>
  intro d h
  rw[Tm.BF] at h
  simp only[cB,dQ] at h
  obtain⟨⟨_,h1⟩,h2⟩:=h
  refine Tm.lU.2 ⟨fun hk=>?_,fun x hx=>ih x hx _ (h2 x hx)⟩
  subst hk
  simp [eK] at h1
  exact⟨h1.1.2,h1.2⟩
theorem Tm.IU{t:Tm}(h:t.valid=true):t.cv=true:=by simp only[Tm.valid,cB] at h;exact Tm.a5C t 30 h.1
theorem Tm.rS:∀(t:Tm),t.cv=true→t.wf=true:=by
 intro t
 induction t using Tm.ind with
 | h k n s ts ih=>
  intro h
  obtain⟨h1,h2⟩:=Tm.lU.1 h
  simp only[Tm.wf,UC,cB,rE,iV,dB,List.isEmpty_iff,dQ]
  refine⟨?_,fun x hx=>ih x hx (h2 x hx)⟩
  by_cases hk:k=1
  · exact .inr (h1 hk).2
  · exact .inl hk
theorem Tm.aWD{t:Tm}(h:t.cv=true)(hk:t.k=1):t=vr t.n:=by
 obtain⟨k,n,s,ts⟩:=t
 obtain⟨h1,_⟩:=Tm.lU.1 h
 simp only[Tm.k] at hk
 subst hk
 obtain⟨rfl,rfl⟩:=h1 rfl
 rfl
theorem Tm.a5D:∀(t:Tm) (d:Int),t.shape d=true→t.small=true:=by
 intro t
 induction t using Tm.ind with
 | h k n s ts ih=>
  intro d h
  rw[Tm.BF] at h
  simp only[cB,dQ] at h
  obtain⟨⟨_,h1⟩,h2⟩:=h
  simp only[Tm.small,ET,cB,bO,dQ]
  refine⟨?_,fun x hx=>ih x hx _ (h2 x hx)⟩
  unfold eK at h1
  cases h3:decide (k=1)<;>rw[h3] at h1
  · cases h4:decide (k=2)<;>rw[h4] at h1
    · cases h5:decide (k=3)<;>rw[h5] at h1<;>simp at h1;omega
    · simp at h1;rw[h1.2];simp
  · simp at h1;rw[h1.2];simp
theorem Tm.y8{t:Tm}(h:t.valid=true):t.small=true:=by simp only[Tm.valid,cB] at h;exact Tm.a5D t 30 h.1
theorem Tm.a3C{f:Int→Tm}(hf:∀n,(f n).small=true):∀(t:Tm),t.small=true→(t.aG f).small=true:=by
 intro t
 induction t using Tm.ind with
 | h k n s ts ih=>
  intro h
  by_cases hk:k=1
  · rw[Tm.kI f hk];exact hf n
  · obtain⟨h1,h2⟩:=Tm.nF h
    rw[Tm.i8 f hk]
    simp only[Tm.small,ET,cB,bO,dQ,aE]
    refine⟨h1,fun x hx=>?_⟩
    obtain⟨y,hy,rfl⟩:=cI.1 hx
    exact ih y hy (h2 y hy)
def oM{α:Type}(p:α→Bool):List α→Int→Int
 | [],_=> -1
 | x::xs,i=>if p x=true then i else oM p xs (i+1)
theorem RK{α:Type}(p:α→Bool):∀(l:List α) (i:Int),0≤i→(oM p l i= -1∧l.any p=false)∨∃(j:Nat) (x:α),oM p l i=i+j∧l[j]?=some x∧p x=true∧l.any p=true∧∀(k:Nat) y,k<j→l[k]?=some y→p y=false
 | [],i,_=>.inl ⟨rfl,rfl⟩
 | x::xs,i,h=>by
  by_cases hp:p x=true
  · exact .inr ⟨0,x,by simp [oM,hp],rfl,hp,by simp [hp],fun k y hk=>absurd hk (Nat.not_lt_zero k)⟩
  · rcases RK p xs (i+1) (by omega) with ⟨h1,h2⟩ | ⟨j,y,h1,h2,h3,h4,h5⟩
    · exact .inl ⟨by simp [oM,hp,h1],by simp [hp,h2]⟩
    · refine .inr ⟨j+1,y,by simp only[oM,hp,h1];simp;omega,by simpa using h2,h3,by simp [h4],fun k z hk hz=>?_⟩
      cases k with
      | zero=>simp at hz;subst hz;simpa using hp
      | succ k=>exact h5 k z (by omega) (by simpa using hz)
theorem a14{α:Type}(p:α→Bool)(l:List α):decide (0≤oM p l 0)=l.any p:=by
 rcases RK p l 0 (Int.le_refl 0) with ⟨h1,h2⟩ | ⟨j,y,h1,_,_,h4,_⟩
 · rw[h1,h2];try rfl
 · rw[h1,h4];simp
end Go.AW
namespace Go.AW
open Go.Proofs.Tryz
abbrev a6K:=zi aX (zi bZ (zi cJ (zi bS bQ)))
theorem aTV(k n:Int)(s:ByteArray)(ts:List Tm)(st:aB):aD prog 251 [(Tm.mk k n s ts).av] st (fun r st'=>r=.bool (eK k n s ts.length)∧st'=st):=by
 refine wF [] 1 func251 ntmps251 rfl rfl ?_
 intro _
 simp only[aU]
 have hl:(ts.map Tm.av).length=ts.length:=aE _
 repeat' (first
  | (simp only[*,aA,seval,a6K])
  | (refine cU (fun h=>?_) (fun h=>?_))
  | (refine(aVI s st).to ?_)
  | (refine aP (fun h=>?_) (fun h=>?_)))
 all_goals simp only[eK, *,cond_true,AA,fU,dU,fB,lN,u7]
abbrev ME:=zi aX (zi bZ (zi bS bQ))
theorem XP:∀(t:Tm) (d:Int) (st:aB),d≤30→-1≤d→aD prog 166 [t.av,.int .i64 d] st (fun r st'=>r=.bool (t.shape d)∧st'=st)
 | .mk k n s ts,d,st,hd,hd0=>by
  have hc:=fun(x:Tm) (hx:x∈ts) d st h h0=>XP x d st h h0
  have h1:=aTV k n s ts st
  rw[aU] at h1
  refine wF [] 2 func166 ntmps166 rfl rfl ?_
  simp only[aU,d7,AV.fits,d9,aE,Tm.BF]
  intro ⟨_,_,_,hl,_⟩
  generalize eK k n s ts.length=z at *
  simp only[aA,seval,ME]
  refine cU (fun h=>?_) (fun h=>?_)
  case refine_2=>
   simp only[h,aA,seval]
   simp only[iW,bO] at h
   simp;omega
  simp only[h,aA,seval,ME]
  refine h1.to ?_
  simp only[aA,seval]
  refine⟨fun h2=>?_,fun h2=>?_⟩
  · simp only[aA,seval]
    simp only[iV] at h2
    simp [h2]
  simp only[lO,dB] at h2 h
  subst h2
  have hw:=bL (n:=d - 1)
  rw[show decide (1≤d)=true by simp;omega]
  simp only[aA,seval]
  refine w9 (α:=Nat) [] (fun i=>i≤ts.length∧∀(j:Nat) x,j<i→ts[j]?=some x→x.shape (d - 1)=true)
   (fun i=>[(1,.int .i64 d),(2,.pptr (.agg [.int .i64 k,.int .i64 n,.str s,.slice (ts.map Tm.av)])),(5,.int .i64 i)]) (fun _=>st) (fun i=>ts.length - i) (by decide +kernel)
   ⟨0,⟨by omega,by intro j x h;omega⟩,aN.mk (by simp only[aA,↓aR,seval])⟩ ?_
  intro i ⟨hi,dJ⟩
  simp only[aE,aA,seval,ME]
  refine⟨fun h5=>?_,fun h5=>?_⟩
  case refine_2=>
   simp only[aA,seval]
   simp only[dB,mY] at h5
   rw[JL fun j x hx=>dJ j x (by have:=(gS.1 hx).1;omega) hx]
  simp only[bO,mY] at h5
  obtain⟨x,hx⟩:∃x,ts[i]?=some x:=⟨_,eN h5⟩
  simp only[bD (av:=Tm.av) a8 hx (aH x),aT,aH,hw,aA,seval,ME]
  refine(hc x (cD hx) (d - 1) st (by omega) (by omega)).to ?_
  simp only[aA,seval]
  refine⟨fun h6=>?_,fun h6=>?_⟩
  · simp only[aA,seval]
    simp only[iV] at h6
    rw[vN hx h6]
  simp only[lO] at h6
  simp only[aA,seval]
  refine⟨i+1,by omega,⟨by omega,fun j u hj hu=>?_⟩,aN.mk ?_⟩
  · rcases lD j i with h8 | h8
    · exact dJ j u h8 hu
    · obtain rfl:j=i:=by omega
      rw[hx] at hu;cases hu;exact h6
  · have:=bL (n:=(i:Int)+1)
    simp only[this,aA,seval]
termination_by t=>SizeOf.sizeOf t
decreasing_by have:=List.sizeOf_lt_of_mem hx;simp only[Tm.mk.sizeOf_spec];omega
abbrev TH:=zi aX (zi bS bQ)
theorem XM:∀(t:Tm) (m:Int) (st:aB),0≤m→m≤120→aD prog 167 [t.av,.int .i64 m] st (fun r st'=>r=.int .i64 (min (t.nodes:Int) (m+1))∧st'=st)
 | .mk k n s ts,m,st,hm0,hm=>by
  have hc:=fun(x:Tm) (hx:x∈ts) m st h h0=>XM x m st h h0
  refine wF [] 2 func167 ntmps167 rfl rfl ?_
  simp only[aU,d7,AV.fits,d9,aE,Tm.gK]
  intro ⟨_,_,_,hl,_⟩
  simp only[aA,seval,TH]
  refine w9 (α:=Nat) [] (fun i=>i≤ts.length)
   (fun i=>[(1,.int .i64 m),(2,.pptr (.agg [.int .i64 k,.int .i64 n,.str s,.slice (ts.map Tm.av)])),(5,.int .i64 (min ((1+bK Tm.nodes (ts.take i):Nat):Int) (m+1))),(6,.int .i64 i)]) (fun _=>st) (fun i=>ts.length - i) (by decide +kernel)
   ⟨0,by omega,aN.mk (by simp only[jG,bK,show min ((0:Int)+1) (m+1)=1 by omega,vY,↓I3,↓reduceIte,reduceCtorEq,Nat.reduceEqDiff,Nat.reduceAdd])⟩ ?_
  intro i hi
  simp only[aE,aA,seval,TH]
  have QR:¬i<ts.length→bK Tm.nodes (ts.take i)=bK Tm.nodes ts:=fun h=>by rw[lC (by omega)]
  refine cU (fun h5=>?_) (fun h5=>?_)
  case refine_2=>
   simp only[h5,aA,seval]
   simp only[fU,dB,mY] at h5
   rw[QR h5]
  simp only[h5,aA,seval]
  simp only[bO,mY] at h5
  obtain⟨x,hx⟩:∃x,ts[i]?=some x:=⟨_,eN h5⟩
  have hs:=HR Tm.nodes hx
  refine⟨fun h6=>?_,fun h6=>?_⟩
  case refine_2=>
   simp only[aA,seval]
   simp only[dB] at h6
   simp only[AV.int.injEq,tQ]
   omega
  simp only[bO] at h6
  have e6:min (((1+bK Tm.nodes (ts.take i):Nat):Int)) (m+1)=((1+bK Tm.nodes (ts.take i):Nat):Int):=by omega
  rw[e6] at h6 ⊢
  have hw:=bL (n:=m - ((1+bK Tm.nodes (ts.take i):Nat):Int))
  simp only[bD (av:=Tm.av) a8 hx (aH x),aT,aH,hw,aA,seval,TH]
  refine(hc x (cD hx) _ st (by omega) (by omega)).to ?_
  have hw2:=bL (n:=((1+bK Tm.nodes (ts.take i):Nat):Int)+min (x.nodes:Int) (m - ((1+bK Tm.nodes (ts.take i):Nat):Int)+1))
  simp only[hw2,aA,seval]
  refine⟨i+1,by omega,by omega,aN.mk ?_⟩
  have:=bL (n:=(i:Int)+1)
  simp only[this,show((1+bK Tm.nodes (ts.take i):Nat):Int)+min (x.nodes:Int) (m - ((1+bK Tm.nodes (ts.take i):Nat):Int)+1)=min ((1+bK Tm.nodes (ts.take (i+1)):Nat):Int) (m+1) by omega,aA,seval]
termination_by t=>SizeOf.sizeOf t
decreasing_by have:=List.sizeOf_lt_of_mem hx;simp only[Tm.mk.sizeOf_spec];omega
abbrev aN4:=zi aX (zi bZ bQ)
theorem CX(t:Tm)(st:aB):aD prog 96 [t.av] st (fun r st'=>r=.bool t.valid∧st'=st):=by
 refine wF [] 1 func96 ntmps96 rfl rfl ?_
 intro _
 simp only[cC,aT,aH,aA,seval,aN4]
 refine(XP t 30 st (by omega) (by omega)).to ?_
 simp only[aA,seval]
 refine cU (fun h=>?_) (fun h=>?_)
 · simp only[h,aT,aH,aA,seval,aN4]
   refine(XM t 120 st (by omega) (by omega)).to ?_
   simp only[aA,seval]
   simp only[Tm.valid,h,dU,AV.bool.injEq,rT]
   omega
 · simp only[h,aA,seval]
   simp at h
   simp [Tm.valid,h]
abbrev a6G:=zi aX (zi bZ (zi cJ (zi bS bQ)))
theorem X0(k n:Int)(s:ByteArray)(ts:List Tm)(st:aB):aD prog 225 [(Tm.mk k n s ts).av] st (fun r st'=>r=.bool (decide (k=3)&&decide (s=⟨#[33]⟩)&&decide ((ts.length:Int)=0))∧st'=st):=by
 refine wF [] 1 func225 ntmps225 rfl rfl ?_
 intro _
 simp only[aU]
 repeat' (first
  | (simp only[*,aA,seval,a6G])
  | (refine cU (fun h=>?_) (fun h=>?_))
  | (refine aP (fun h=>?_) (fun h=>?_)))
 all_goals simp only[*,aE,fB]
abbrev aN3:=zi bZ (zi cJ bQ)
theorem XF(k n:Int)(s:ByteArray)(ts:List Tm)(st:aB):aD prog 101 [(Tm.mk k n s ts).av] st (fun r st'=>r=.bool (decide (k=3)&&decide ((ts.length:Int)=0)&&decide (s=⟨#[33]⟩))∧st'=st):=by
 have h1:=zZ k n s ts st
 rw[aU] at h1
 refine wF [] 1 func101 ntmps101 rfl rfl ?_
 intro _
 simp only[aU]
 simp only[aA,seval,aN3]
 refine h1.to ?_
 clear h1
 repeat' (first
  | (simp only[*,aA,seval,aN3])
  | (refine cU (fun h=>?_) (fun h=>?_))
  | (refine aP (fun h=>?_) (fun h=>?_)))
 all_goals simp_all
abbrev aN2:=zi aX (zi bZ (zi cJ (zi bS bQ)))
theorem OT(k n:Int)(s:ByteArray)(ts:List Tm)(st:aB):aD prog 100 [(Tm.mk k n s ts).av] st (fun r st'=>r=.bool (decide (k=3)&&isBuiltin s (ts.length:Int))∧st'=st):=by
 have h1:=aTD s ts.length st
 refine wF [] 1 func100 ntmps100 rfl rfl ?_
 intro _
 simp only[aU]
 simp only[aA,seval,aN2]
 refine cU (fun h=>?_) (fun h=>?_)
 · simp only[h,aE,aA,seval,aN2]
   refine h1.to ?_
   clear h1
   simp only[aA,seval]
 · simp only[h,aA,seval]
   simp at h
   simp []
def qX(k:Int)(s:ByteArray)(len:Int):Bool:=decide (k=3)&&r7 s&& !isBuiltin s len&&decide ((bY s:Int)=0)
abbrev a6J:=zi aX (zi bZ (zi cJ bQ))
theorem XG(k n:Int)(s:ByteArray)(ts:List Tm)(st:aB):aD prog 99 [(Tm.mk k n s ts).av] st (fun r st'=>r=.bool (qX k s (ts.length:Int))∧st'=st):=by
 have h1:=OT k n s ts st
 rw[aU] at h1
 have e:decide ((0:Int)<(bY s:Int))= !decide ((bY s:Int)=0):=by
  by_cases h:bY s=0
  · simp [h]
  · simp [h];omega
 have e3:∀b:Bool,k=3→(decide (k=3)&&b)=b:=fun b h=>by simp [h]
 refine wF [] 1 func99 ntmps99 rfl rfl ?_
 intro _
 simp only[aU]
 repeat' (first
  | (simp only[*,aA,seval,a6J])
  | (refine cU (fun h=>?_) (fun h=>?_))
  | (refine(OU s st).to ?_) | (refine(JZ s st).to ?_) | (refine h1.to ?_)
  | (refine aP (fun h=>?_) (fun h=>?_)))
 all_goals (clear h1;simp_all [qX])
abbrev a6I:=zi aX (zi bZ (zi cJ (zi bS bQ)))
theorem X2(k n:Int)(s:ByteArray)(ts:List Tm)(st:aB):aD prog 97 [(Tm.mk k n s ts).av] st (fun r st'=>r=.bool (qX k s (ts.length:Int))∧st'=st):=by
 refine wF [] 1 func97 ntmps97 rfl rfl ?_
 intro _
 simp only[aU]
 have hl:(ts.map Tm.av).length=ts.length:=aE _
 repeat' (first
  | (simp only[*,aA,seval,a6I])
  | (refine cU (fun h=>?_) (fun h=>?_))
  | (refine(XS s st).to ?_) | (refine(O5 s _ st).to ?_) | (refine(vS s st).to ?_)
  | (refine aP (fun h=>?_) (fun h=>?_)))
 all_goals simp_all [qX]
def x8(k:Int)(s:ByteArray)(len:Int):Bool:=(decide (k=3)&&decide (s=⟨#[33]⟩)&&decide (len=0))||qX k s len||(decide (k=3)&&isBuiltin s len)
abbrev a6H:=zi aX (zi bZ (zi cJ (zi bS bQ)))
theorem aUF(k n:Int)(s:ByteArray)(ts:List Tm)(st:aB):aD prog 231 [(Tm.mk k n s ts).av] st (fun r st'=>r=.bool (x8 k s (ts.length:Int))∧st'=st):=by
 have h1:=X0 k n s ts st
 have h2:=X2 k n s ts st
 rw[aU] at h1 h2
 refine wF [] 1 func231 ntmps231 rfl rfl ?_
 intro _
 simp only[aU]
 have hl:(ts.map Tm.av).length=ts.length:=aE _
 unfold x8
 generalize (decide (k=3)&&decide (s=⟨#[33]⟩)&&decide ((ts.length:Int)=0))=z1 at *
 generalize qX k s (ts.length:Int)=z2 at *
 repeat' (first
  | (simp only[*,aA,seval,a6H])
  | (refine cU (fun h=>?_) (fun h=>?_))
  | (refine h1.to ?_) | (refine h2.to ?_) | (refine(O5 s _ st).to ?_)
  | (refine aP (fun h=>?_) (fun h=>?_)))
 all_goals (clear h1 h2;simp_all)
theorem UM{st:aB}{b:Nat}{o:AO}(h:st b=some o):st.aC b o=st:=by
 funext x;simp only[aB.aC];split
 · rename_i e;rw[e,h]
 · rfl
def HN(ok:Bool)(c n:Int)(b:Nat)(st:aB)(r:AV)(st':aB):Prop:=
 ∃c',r=.bool (decide (c+n≤120)&&ok)∧st'=st.aC b (.cells [.int .i64 c'])∧((decide (c+n≤120)&&ok)=true→c'=c+n)
abbrev a6L:=zi aX (zi bZ (zi bQ IE))
theorem aVD(x:Tm)(d c:Int)(b:Nat)(st:aB)(hd: -1000≤d)(hd1:d≤1000)
 (h:aD prog 149 [x.av,.int .i64 (d+1),.ptr b 0] st (HN (x.shape (30 - d)) c x.nodes b st)) :
 aD prog 242 [x.av,.pptr (.int .i64 d),.pptr (.ptr b 0)] st (fun r st'=>∃c',r=.bool (!(decide (c+x.nodes≤120)&&x.shape (30 - d)))∧st'=st.aC b (.cells [.int .i64 c'])∧((decide (c+(x.nodes:Int)≤120)&&x.shape (30 - d))=true→c'=c+x.nodes)):=by
 have hw:=bL (n:=d+1)
 refine wF [] 3 func242 ntmps242 rfl rfl ?_
 intro _
 simp only[hw,cC,aT,aH,aA,seval,a6L]
 refine h.mono ?_
 rintro _ _ ⟨c',rfl,rfl,hc⟩
 simp only[aA,seval]
 refine⟨c',?_⟩
 first | exact hc | exact⟨rfl,rfl,hc⟩ | exact⟨rfl,hc⟩ | trace_state
abbrev aN5:=zi aX (zi bS bQ)
theorem aST(l:List Tm)(d c:Int)(b:Nat)(st:aB)(hd: -1000≤d)(hd1:d≤1000)(hb:st b=some (.cells [.int .i64 c]))(hc0:0≤c)(hc1:c≤120)
 (h:∀x∈l,∀(c:Int) (st:aB),st b=some (.cells [.int .i64 c])→0≤c→c≤120→aD prog 149 [x.av,.int .i64 (d+1),.ptr b 0] st (HN (x.shape (30 - d)) c x.nodes b st)) :
 aD prog 230 [.slice (l.map Tm.av),.func 242 [.pptr (.int .i64 d),.pptr (.ptr b 0)]] st
  (fun r st'=>∃j c',r=.int .i64 j∧decide (0≤j)=(!(decide (c+(bK Tm.nodes l:Int)≤120)&&l.all fun t=>t.shape (30 - d)))∧st'=st.aC b (.cells [.int .i64 c'])∧(decide (0≤j)=false→c'=c+(bK Tm.nodes l:Int))):=by
 refine wF [] 2 func230 ntmps230 rfl rfl ?_
 simp only[d7,AV.fits,d9,aE]
 intro ⟨hl,_⟩
 simp only[aE,aA,seval,aN5]
 refine w9 (α:=Nat) [] (fun i=>i≤l.length∧c+(bK Tm.nodes (l.take i):Int)≤120∧∀(j:Nat) x,j<i→l[j]?=some x→x.shape (30 - d)=true)
  (fun i=>[(0,.slice (l.map Tm.av)),(1,.func 242 [.pptr (.int .i64 d),.pptr (.ptr b 0)]),(7,.int .i64 l.length),(8,.int .i64 i)]) (fun i=>st.aC b (.cells [.int .i64 (c+(bK Tm.nodes (l.take i):Int))])) (fun i=>l.length - i) (by decide +kernel)
  ⟨0,⟨by omega,by simp only[jG,bK];omega,by intro j x h;omega⟩,by
   simp only[jG,bK]
   rw[show c+((0:Nat):Int)=c by omega,UM hb]
   exact aN.mk (by simp only[aA,↓aR,seval])⟩ ?_
 intro i ⟨hi,yE,dJ⟩
 simp only[aA,seval]
 refine⟨fun h5=>?_,fun h5=>?_⟩
 case refine_2=>
  simp only[aA,seval]
  simp only[dB,mY] at h5
  rw[lC (by omega)] at yE ⊢
  have ha:(l.all fun t=>t.shape (30 - d))=true:=JL fun j x hx=>dJ j x (by have:=(gS.1 hx).1;omega) hx
  exact⟨-1,_,rfl,by rw[ha];simp<;>omega,rfl,fun _=>rfl⟩
 simp only[bO,mY] at h5
 obtain⟨x,hx⟩:∃x,l[i]?=some x:=⟨_,eN h5⟩
 have hs:=HR Tm.nodes hx
 simp only[bD (av:=Tm.av) a8 hx (aH x),aT,aH,aA,seval,aN5]
 refine(aVD x d (c+(bK Tm.nodes (l.take i):Int)) b _ hd hd1 (h x (cD hx) _ _ (aB.aO _ _ _) (by omega) yE)).mono ?_
 rintro _ _ ⟨c',rfl,rfl,hc'⟩
 simp only[cY,aA,seval]
 refine⟨fun h6=>?_,fun h6=>?_⟩
 · simp only[aA,seval]
   refine⟨i,c',rfl,?_,rfl,fun h7=>absurd h7 (by simp)⟩
   simp only[iV,Bool.and_eq_false_iff,dB] at h6
   rcases h6 with h6 | h6
   · rw[show decide (c+(bK Tm.nodes l:Int)≤120)=false by simp;omega]
     simp
   · rw[vN hx h6]
     simp
 simp only[lO] at h6
 rw[hc' h6]
 simp only[cB,bO] at h6
 simp only[aA,seval]
 refine⟨i+1,by omega,⟨by omega,by omega,fun j u hj hu=>?_⟩,?_⟩
 · rcases lD j i with h8 | h8
   · exact dJ j u h8 hu
   · obtain rfl:j=i:=by omega
     rw[hx] at hu;cases hu;exact h6.2
 · rw[show c+(bK Tm.nodes (l.take i):Int)+(x.nodes:Int)=c+(bK Tm.nodes (l.take (i+1)):Int) by omega]
   have:=bL (n:=(i:Int)+1)
   exact aN.mk (by simp only[this,aA,seval])
theorem aSK(l:List Tm)(d c:Int)(b:Nat)(st:aB)(hd: -1000≤d)(hd1:d≤1000)(hb:st b=some (.cells [.int .i64 c]))(hc0:0≤c)(hc1:c≤120)
 (h:∀x∈l,∀(c:Int) (st:aB),st b=some (.cells [.int .i64 c])→0≤c→c≤120→aD prog 149 [x.av,.int .i64 (d+1),.ptr b 0] st (HN (x.shape (30 - d)) c x.nodes b st)) :
 aD prog 143 [.slice (l.map Tm.av),.func 242 [.pptr (.int .i64 d),.pptr (.ptr b 0)]] st
  (fun r st'=>∃c',r=.bool (!(decide (c+(bK Tm.nodes l:Int)≤120)&&l.all fun t=>t.shape (30 - d)))∧st'=st.aC b (.cells [.int .i64 c'])∧((decide (c+(bK Tm.nodes l:Int)≤120)&&l.all fun t=>t.shape (30 - d))=true→c'=c+(bK Tm.nodes l:Int))):=by
 have h1:=aST l d c b st hd hd1 hb hc0 hc1 h
 refine wF [] 2 func143 ntmps143 rfl rfl ?_
 intro _
 simp only[aA,seval]
 refine h1.mono ?_
 rintro _ _ ⟨j,c',rfl,hj,rfl,hc⟩
 simp only[aA,seval]
 refine⟨c',by rw[hj],rfl,fun h=>hc (by rw[hj,h];try rfl)⟩
abbrev yT:=zi aX (zi bZ (zi cJ (zi bS (zi bQ IE))))
theorem YI:∀(t:Tm) (d c:Int) (b:Nat) (st:aB),st b=some (.cells [.int .i64 c])→0≤c→c≤120→0≤d→d≤31→aD prog 149 [t.av,.int .i64 d,.ptr b 0] st (HN (t.shape (31 - d)) c t.nodes b st)
 | .mk k n s ts,d,c,b,st,hb,hc0,hc1,hd0,hd1=>by
  have hk:=fun(st:aB) (hb:st b=some (.cells [.int .i64 (c+1)])) (h1:c+1≤120) (h2:d≤30)=>aSK ts d (c+1) b st (by omega) (by omega) hb (by omega) h1 fun x hx c st hb hc0 hc1=>by
   have:=YI x (d+1) c b st hb hc0 hc1 (by omega) (by omega)
   rw[show(31:Int) - (d+1)=30 - d by omega] at this
   exact this
  have hw:=bL (n:=c+1)
  unfold HN
  rw[Tm.gK,Tm.BF]
  refine wF [] 3 func149 ntmps149 rfl rfl ?_
  simp only[aU,d7,AV.fits,d9,aE]
  intro ⟨_,_,_,hl,_⟩
  simp only[hb,aK,hw,aA,seval,yT]
  have hL:(ts.map Tm.av).length=ts.length:=aE _
  have iE:∀(v:Bool),v=(decide (c+((1+bK Tm.nodes ts:Nat):Int)≤120)&&(decide (1≤31 - d)&&eK k n s ts.length&&ts.all fun t=>t.shape (31 - d - 1)))→(v=true→ts= []) →
   ∃c',AV.bool v=AV.bool (decide (c+((1+bK Tm.nodes ts:Nat):Int)≤120)&&(decide (1≤31 - d)&&eK k n s ts.length&&ts.all fun t=>t.shape (31 - d - 1)))∧st.aC b (.cells [.int .i64 (c+1)])=st.aC b (.cells [.int .i64 c'])∧((decide (c+((1+bK Tm.nodes ts:Nat):Int)≤120)&&(decide (1≤31 - d)&&eK k n s ts.length&&ts.all fun t=>t.shape (31 - d - 1)))=true→c'=c+((1+bK Tm.nodes ts:Nat):Int)):=
   fun v h1 h2=>⟨c+1,by rw[h1],rfl,fun h3=>by rw[h2 (h1.trans h3)];simp [bK]⟩
  refine cU (fun h1=>?_) (fun h1=>?_)
  case refine_2=>
   simp only[h1,aA,seval]
   simp only[iW,bO] at h1
   refine iE false ?_ (by intro h;cases h)
   rw[show decide (c+((1+bK Tm.nodes ts:Nat):Int)≤120)=false by simp;omega]
   try rfl
  simp only[h1,aA,seval,yT]
  refine⟨fun h2=>?_,fun h2=>?_⟩
  · simp only[aA,seval]
    simp only[bO] at h2
    refine iE false ?_ (by intro h;cases h)
    rw[show decide (1≤31 - d)=false by simp;omega]
    simp
  simp only[dB] at h1 h2
  rw[show decide (1≤31 - d)=true by simp;omega] at iE ⊢
  simp only[dU] at iE ⊢
  rw[show 31 - d - 1=30 - d by omega] at iE ⊢
  -- no kids
  have aKS:∀q:Bool,(∀h:ts= [],eK k n s ts.length=q)→(ts≠[]→eK k n s ts.length=false)→(q&&decide ((ts.length:Int)=0))=(decide (c+((1+bK Tm.nodes ts:Nat):Int)≤120)&&(eK k n s ts.length&&ts.all fun t=>t.shape (30 - d))):=by
   intro q hq1 hq2
   by_cases ht:ts= []
   · rw[hq1 ht];subst ht
     have e:c+((1+bK Tm.nodes []:Nat):Int)≤120:=by simp only[bK];omega
     rw[eH e]
     simp
   · rw[hq2 ht]
     have:¬(ts.length:Int)=0:=by intro h;exact ht (rH (by omega))
     rw[d6 this]
     simp
  simp only[aA,seval,yT]
  refine aP (fun hk1=>?_) (fun hk1=>?_)
  · simp only[bO] at hk1
    subst hk1
    simp only[aA,seval,yT]
    refine(CY _ _ _ _).to ?_
    repeat' (first
     | (simp only[*,aA,seval,yT])
     | (refine cU (fun h=>?_) (fun h=>?_))
     | (refine aP (fun h=>?_) (fun h=>?_)))
    all_goals first
     | (refine iE false ?_ (by intro h;cases h);rw[show eK 1 n s ts.length=false by first | (simp only[eK, *,fU,fB,lN];done) | (simp_all [eK];done) | (simp_all [eK];intro a e;have:=h a;omega)];simp;done)
     | (refine iE _ ?_ (fun h=>rH (by simpa using h));rw[←aKS true (fun h=>by simp_all [eK]) (fun h=>by simp [eK,h])];simp;done)
  simp only[dB] at hk1
  simp only[aA,seval]
  refine aP (fun hk2=>?_) (fun hk2=>?_)
  · simp only[bO] at hk2
    subst hk2
    simp only[aA,seval,yT]
    refine(CY _ _ _ _).to ?_
    repeat' (first
     | (simp only[*,aA,seval,yT])
     | (refine cU (fun h=>?_) (fun h=>?_))
     | (refine aP (fun h=>?_) (fun h=>?_)))
    all_goals first
     | (refine iE false ?_ (by intro h;cases h);rw[show eK 2 n s ts.length=false by first | (simp only[eK, *,fU,fB,lN];done) | (simp_all [eK];done) | (simp_all [eK];intro a e;have:=h a;omega)];simp;done)
     | (refine iE _ ?_ (fun h=>rH (by simpa using h));rw[←aKS true (fun h=>by simp_all [eK]) (fun h=>by simp [eK,h])];simp;done)
  simp only[dB] at hk2
  simp only[aA,seval]
  refine aP (fun hk3=>?_) (fun hk3=>?_)
  case refine_2=>
   simp only[dB] at hk3
   simp only[aA,seval]
   refine iE false ?_ (by intro h;cases h)
   rw[show eK k n s ts.length=false by simp [eK,hk1,hk2,hk3]]
   simp
  simp only[bO] at hk3
  subst hk3
  have hk':=fun st hb=>hk st hb (by omega) (by omega)
  clear hk
  repeat' (first
   | (simp only[*,aA,seval,yT])
   | (refine cU (fun h=>?_) (fun h=>?_))
   | (refine(aTE s _).to ?_)
   | (refine aP (fun h=>?_) (fun h=>?_)))
  all_goals first
   | (refine iE false ?_ (by intro h;cases h);rw[show eK 3 n s ts.length=false by(simp_all [eK];done)];simp;done)
   | skip
  refine(hk' _ (aB.aO _ _ _)).mono ?_
  rintro _ _ ⟨c',rfl,rfl,hc'⟩
  simp only[cY,aA,seval]
  have ho:eK 3 n s ts.length=true:=by simp_all [eK]
  rw[ho,show c+((1+bK Tm.nodes ts:Nat):Int)=c+1+(bK Tm.nodes ts:Int) by omega]
  simp only[dU,Bool.not_not]
  first | exact⟨c',trivial,rfl,hc'⟩ | exact⟨c',rfl,rfl,hc'⟩
termination_by t=>SizeOf.sizeOf t
decreasing_by have:=List.sizeOf_lt_of_mem hx;simp only[Tm.mk.sizeOf_spec];omega
abbrev a6N:=zi aX (zi bZ (zi bQ IE))
theorem FZ(t:Tm)(st:aB):aD prog 74 [t.av] st (fun r st'=>r=.bool t.valid∧st'=st):=by
 have hd:aD prog 74 [t.av] st (fun r st'=>aL st' st∧r=.bool t.valid):=by
  refine wF [] 1 func74 ntmps74 rfl rfl ?_
  intro _
  simp only[cC,aT,aH,aA,seval,a6N]
  intro b hb
  simp only[aK,aA,seval]
  refine(YI t 1 0 b _ (aB.aO _ _ _) (by omega) (by omega) (by omega) (by omega)).mono ?_
  rintro _ _ ⟨c',rfl,rfl,_⟩
  simp only[cY,vY,↓reduceIte]
  refine⟨(aL.refl st).aC hb,?_⟩
  simp only[Tm.valid,AV.bool.injEq]
  rw[Bool.and_comm,show(31:Int) - 1=30 from rfl]
  congr 1
  simp only[rT]
  omega
 exact hd.drop
def Tm.goal:Tm→Bool
 | .mk k n s ts=>(Tm.mk k n s ts).valid&&x8 k s ts.length
abbrev aN6:=zi bZ bQ
theorem YK:∀(t:Tm) (st:aB),aD prog 145 [t.av] st (fun r st'=>r=.bool t.goal∧st'=st)
 | .mk k n s ts,st=>by
  have h1:=CX (.mk k n s ts) st
  have h2:=aUF k n s ts st
  rw[show(Tm.mk k n s ts).goal=((Tm.mk k n s ts).valid&&x8 k s ts.length) from rfl]
  generalize (Tm.mk k n s ts).valid=z at *
  rw[aU] at *
  refine wF [] 1 func145 ntmps145 rfl rfl ?_
  intro _
  simp only[aA,seval,aN6]
  refine h1.to ?_
  simp only[aA,seval]
  refine cU (fun h=>?_) (fun h=>?_)
  · simp only[h,aA,seval,aN6]
    refine h2.to ?_
    simp only[aA,seval]
  · simp only[h,aA,seval]
    simp at h
    simp []
abbrev a6M:=zi bZ bQ
theorem aTB:∀(t:Tm) (st:aB),aD prog 30 [t.av] st (fun r st'=>r=.bool t.goal∧st'=st)
 | .mk k n s ts,st=>by
  have h1:=FZ (.mk k n s ts) st
  have h2:=XG k n s ts st
  have h3:=OT k n s ts st
  have h4:=XF k n s ts st
  rw[show(Tm.mk k n s ts).goal=((Tm.mk k n s ts).valid&&x8 k s ts.length) from rfl]
  unfold x8
  generalize (Tm.mk k n s ts).valid=z at *
  generalize qX k s (ts.length:Int)=z2 at *
  generalize (decide (k=3)&&isBuiltin s (ts.length:Int))=z3 at *
  rw[show(decide (k=3)&&decide (s=⟨#[33]⟩)&&decide ((ts.length:Int)=0))=(decide (k=3)&&decide ((ts.length:Int)=0)&&decide (s=⟨#[33]⟩)) from by cases decide (k=3)<;>cases decide (s=⟨#[33]⟩)<;>cases decide ((ts.length:Int)=0)<;>rfl]
  generalize (decide (k=3)&&decide ((ts.length:Int)=0)&&decide (s=⟨#[33]⟩))=z4 at *
  rw[aU] at *
  refine wF [] 1 func30 ntmps30 rfl rfl ?_
  intro _
  repeat' (first
   | (simp only[*,aA,seval,a6M])
   | (refine cU (fun h=>?_) (fun h=>?_))
   | (refine h1.to ?_) | (refine h2.to ?_) | (refine h3.to ?_) | (refine h4.to ?_)
   | (refine aP (fun h=>?_) (fun h=>?_)))
  all_goals (clear h1 h2 h3 h4;simp_all)
abbrev aOI:=zi aX (zi bS bQ)
theorem aSQ(l:List Tm)(g:FuncId)(dN:List AV)(p:Tm→Bool)(st:aB)(hc:∀x∈l,aD prog g ([Tm.av x]++dN) st (fun r st'=>r=.bool (p x)∧st'=st)) :
 aD prog 230 [.slice (l.map Tm.av),.func g dN] st (fun r st'=>∃j:Int,r=.int .i64 j∧decide (0≤j)=l.any p∧st'=st):=by
 refine wF [] 2 func230 ntmps230 rfl rfl ?_
 simp only[d7,AV.fits,d9,aE]
 intro ⟨hl,_⟩
 simp only[aE,aA,seval,aOI]
 refine dV (σ:=Unit) [] [0,1,7] l (fun i _=>(l.drop i).any p=l.any p) (fun i _=>[(8,.int .i64 i)]) (fun _ _=>st) (by decide +kernel) ⟨(),rfl,aN.mk (by simp only[aA,↓aR,seval])⟩ (fun i x _ hx hlt bH hdr hinv=>?_) (fun _ hge hinv=>?_)
 case refine_2=>
  simp only[hge,aA,seval]
  rw[j4] at hinv
  exact⟨-1,rfl,by rw[←hinv];try rfl⟩
 rw[hdr,B1] at hinv
 have hw:=bL (n:=(i:Int)+1)
 simp only[bH,bD (av:=Tm.av) a8 hx (aH x),aT,aH,aA,seval,aOI]
 refine(hc x (cD hx)).to ?_
 simp only[aA,seval]
 refine aP (fun h=>?_) (fun h=>?_)
 · simp only[aA,seval]
   exact⟨i,rfl,by rw[←hinv,h];simp⟩
 · rw[h,pU] at hinv
   simp only[aA,seval]
   exact⟨(),hinv,aN.mk (by simp only[hw,aA,seval])⟩
theorem W3(l:List Tm)(g:FuncId)(dN:List AV)(p:Tm→Bool)(st:aB)(hc:∀x∈l,aD prog g ([Tm.av x]++dN) st (fun r st'=>r=.bool (p x)∧st'=st)) :
 aD prog 143 [.slice (l.map Tm.av),.func g dN] st (fun r st'=>r=.bool (l.any p)∧st'=st):=by
 refine wF [] 2 func143 ntmps143 rfl rfl ?_
 intro _
 simp only[aA,seval]
 refine(aSQ l g dN p st hc).mono ?_
 rintro _ _ ⟨j,rfl,hj,rfl⟩
 simp only[hj,aA,seval]
theorem JO{α:Type}(p:α→Bool):∀l:List α,(!(l.any fun x=> !p x))=l.all p
 | []=>rfl
 | x::l=>by rw[B1,j3,←JO p l];cases p x<;>simp
abbrev a6T:=zi bZ bQ
theorem aSX(t:Tm)(st:aB):aD prog 144 [t.av] st (fun r st'=>r=.bool (!t.valid)∧st'=st):=by
 refine wF [] 1 func144 ntmps144 rfl rfl ?_
 intro _
 simp only[cC,aT,aH,aA,seval,a6T]
 refine(FZ t st).to ?_
 simp only[aA,seval]
theorem OR(l:List Tm)(st:aB):aD prog 66 [.slice (l.map Tm.av)] st (fun r st'=>r=.bool (l.all Tm.valid)∧st'=st):=by
 refine wF [] 1 func66 ntmps66 rfl rfl ?_
 intro _
 simp only[aA,seval]
 refine(W3 l _ [] (fun t=> !t.valid) st fun x _=>aSX x st).to ?_
 simp only[JO,aA,seval]
abbrev a6V:=zi bZ bQ
theorem aS7(t:Tm)(st:aB):aD prog 248 [t.av] st (fun r st'=>r=.bool (!t.goal)∧st'=st):=by
 refine wF [] 1 func248 ntmps248 rfl rfl ?_
 intro _
 simp only[cC,aT,aH,aA,seval,a6V]
 refine(aTB t st).to ?_
 simp only[aA,seval]
def gX(l:List Tm):Bool:=decide (l.length≤6)&&l.all Tm.goal
abbrev a6U:=zi aX (zi bZ bS)
theorem XC(l:List Tm)(st:aB):aD prog 156 [.slice (l.map Tm.av)] st (fun r st'=>r=.bool (gX l)∧st'=st):=by
 refine wF [] 1 func156 ntmps156 rfl rfl ?_
 simp only[d7,AV.fits,d9,aE]
 intro _
 unfold gX
 simp only[aE,aA,seval,a6U]
 refine cU (fun h=>?_) (fun h=>?_)
 · simp only[bO] at h
   rw[show decide (l.length≤6)=true by simp;omega]
   simp only[h,aA,seval]
   refine(W3 l _ [] (fun t=> !t.goal) st fun x _=>aS7 x st).to ?_
   simp only[JO,aA,seval]
 · simp only[fU,dB] at h
   rw[show decide (l.length≤6)=false by simp;omega]
   simp only[h,aA,seval]
   rfl
theorem OS(l:List Tm)(st:aB):aD prog 81 [.slice (l.map Tm.av)] st (fun r st'=>r=.bool (gX l)∧st'=st):=by
 refine wF [] 1 func81 ntmps81 rfl rfl ?_
 intro _
 simp only[aA,seval]
 refine(XC l st).to ?_
 simp only[aA,seval]
abbrev MN:=zi aX (zi bZ (zi bS bQ))
theorem F4(l:List Tm)(st:aB):aD prog 69 [.slice (l.map Tm.av)] st (fun r st'=>r=.bool (gX l)∧st'=st):=by
 refine wF [] 1 func69 ntmps69 rfl rfl ?_
 simp only[d7,AV.fits,d9,aE]
 intro ⟨hl,_⟩
 simp only[aA,seval]
 refine dV (σ:=Unit) [] [0] l (fun i _=>i≤7∧(l.take i).all Tm.goal=true) (fun i _=>[(3,.int .i64 i)]) (fun _ _=>st) (by decide +kernel) ⟨(),⟨by omega,by simp⟩,aN.mk (by simp only[aA,↓aR,seval])⟩ (fun i x _ hx hlt bH hdr hinv=>?_) (fun _ hge hinv=>?_)
 case refine_2=>
  obtain⟨i1,i2⟩:=hinv
  rw[dW] at i2
  simp only[aE,hge,aA,seval,MN]
  simp only[gX,i2,u7,AV.bool.injEq,rT]
  omega
 obtain⟨i1,i2⟩:=hinv
 have hw:=bL (n:=(i:Int)+1)
 simp only[aE,bH,aA,seval,MN]
 refine aP (fun h=>?_) (fun h=>?_)
 case refine_2=>
  simp only[dB] at h
  simp only[aE,aA,seval,MN]
  simp only[gX,AV.bool.injEq]
  rw[show decide (l.length≤6)=false by simp;omega,show decide ((l.length:Int)≤6)=false by simp;omega]
  try rfl
 simp only[bO] at h
 simp only[bD (av:=Tm.av) a8 hx (aH x),aT,aH,aA,seval,MN]
 refine(YK x st).to ?_
 simp only[aA,seval]
 refine aP (fun h2=>?_) (fun h2=>?_)
 · simp only[iV] at h2
   simp only[aA,seval]
   have:l.all Tm.goal=false:=vN hx h2
   simp only[gX,this,lN]
 · simp only[lO] at h2
   simp only[aA,seval]
   refine⟨(),⟨by omega,?_⟩,aN.mk (by simp only[hw,aA,seval])⟩
   rw[eA,hx,B0,i2]
   simp [h2]
abbrev bAC:=zi aX (zi IJ MS)
abbrev a6W:=zi aX bQ
theorem O7(n:Int)(st:aB):aD prog 95 [.int .i64 n] st (fun r st'=>r=(vr n).av∧st'=st):=by
 refine aD.done ?_
 refine wF [1000000] 1 func95 ntmps95 rfl rfl ?_
 intro _
 simp only[aA,seval,a6W]
 intro b hb
 simp only[aK,aA,seval]
 exact⟨by simp only[vr,aU,jC,jN,k8,k7,aZ,aV,aV],(aL.refl _).aC hb⟩
abbrev uX:=zi aX (zi bS bQ)
theorem J4(f:Int→Tm)(g:FuncId)(dN:List AV)(DG:kW dN=true):∀(t:Tm) (st:aB),t.small=true→(∀n∈t.vl,∀s,aD prog g (.int .i64 n::dN) s (fun r s'=>r=(f n).av∧s'=s)) →
 aD prog 63 [t.av,.func g dN] st (fun r st'=>r=(t.aG f).av∧st'=st)
 | .mk k n s ts,st,hsm,hg=>by
  obtain⟨hlen,mN⟩:=Tm.nF hsm
  have IH:=fun(x:Tm) (hx:x∈ts) st h=>J4 f g dN DG x st (mN x hx) h
  refine aD.oH (aD.fin ?_)
  simp only[aU]
  refine wF [1000000,2] 2 func63 ntmps63 rfl rfl ?_
  simp only[d7,AV.fits,d9,aE]
  intro ⟨_,_,_,hl,_⟩
  simp only[aA,seval,uX]
  intro c hc b2 hb2
  have hne:b2≠c:=by rintro rfl;rw[aB.aO] at hb2;cases hb2
  have hn2:st b2=none:=by rw[aB.aM st _ hne] at hb2;exact hb2
  simp only[hne.symm,aA,seval]
  refine aP (fun h=>?_) (fun h=>?_)
  · simp only[bO] at h
    subst h
    simp only[hne.symm,aA,seval,uX]
    refine(hg n (by rw[Tm.mU rfl];simp) _).to ?_
    simp only[aA,seval,uX]
    refine⟨0,[],_,rfl,by simp,by simp,⟨4,by simp⟩,by rw[Tm.uI,Tm.kI f rfl],?_⟩
    exact((aL.refl _).aC hc).aC hn2
  simp only[dB] at h
  have hg':∀x∈ts,∀v∈x.vl,∀s,aD prog g (.int .i64 v::dN) s (fun r s'=>r=(f v).av∧s'=s):=fun x hx v hv=>hg v ((Tm.kV h).2 ⟨x,hx,hv⟩)
  simp only[hne.symm,aK,aE,aA,seval,uX]
  rw[aB.w5 hne]
  refine dV (σ:=Nat) [1000000] [1,2,4,18,19] ts (fun i b=>(((ts.take i).map (Tm.aG f)).map Tm.av≠[]→(aB.aC (st.aC b2 (.cells [AV.int .i64 0,AV.int .i64 0,AV.str ⟨#[]⟩,AV.fslice []])) c (.cells ([AV.int .i64 k,AV.int .i64 n,AV.str s]++ [bE 4 b (((ts.take i).map (Tm.aG f)).map Tm.av)]))) b=none)) (fun i b=>[(20,.int .i64 i)]) (fun i b=>eY (st.aC b2 (.cells [AV.int .i64 0,AV.int .i64 0,AV.str ⟨#[]⟩,AV.fslice []])) c b [AV.int .i64 k,AV.int .i64 n,AV.str s] (((ts.take i).map (Tm.aG f)).map Tm.av)) (by decide +kernel)
   ⟨0,fun h=>absurd rfl h,aN.mk (by simp only[aA,↓aR,seval])⟩ (fun i x b hx hlt bH hdr hinv=>?_) (fun b hge hinv=>?_)
  case refine_1=>
   have hw:=bL (n:=(i:Int)+1)
   have cF:(((ts.take i).map (Tm.aG f)).map Tm.av).length=i:=by simp only[aE,dC];omega
   have htk:(ts.take (i+1)).map (Tm.aG f)=(ts.take i).map (Tm.aG f)++ [(Tm.aG f) x]:=by rw[eA,hx];simp
   have hbo:=eF hinv
   simp only[bH,bD (av:=Tm.av) a8 hx (aH x),aA,↓aR,seval,uX]
   refine wP [(0,1),(3,1),(1,2),(2,2),(4,2),(5,1),(6,0),(7,1),(8,0)] [0,3,1,2,4,5,7] mixed ?_
   simp only[aT,aH,hbo,lQ,aA,seval,uX]
   refine fK (IH x (cD hx) _ (hg' x (cD hx))) ?_
   simp only[aT,aH,cC,aA,seval,uX]
   refine eD a8 fW fX rfl rfl (eO (aH _) (bT _)) (dS _) hinv (by simp only[cF,aS,aW];omega) (by simp only[cF,aS,aW];omega) (fun b' hb'=>?_)
   rw[show(((ts.take i).map (Tm.aG f)).map Tm.av)++ [((Tm.aG f) x).av]=((ts.take (i+1)).map (Tm.aG f)).map Tm.av by rw[htk];simp] at hb' ⊢
   obtain⟨g1,g2,g3⟩:=nB hb'
   simp only[fC,eL] at g1 g3
   simp only[g3,lR,eT,aK,g1,hw,aA,seval,uX]
   exact⟨b',g2,aN.mk (by simp only[aA,seval])⟩
  have hbo:=eF hinv
  rw[dW] at hinv hbo ⊢
  simp only[hge,aA,seval,uX]
  simp only[hbo,aA,seval,uX]
  have hS:(st.aC b2 (.cells [AV.int .i64 0,AV.int .i64 0,AV.str ⟨#[]⟩,AV.fslice []])) b2≠none:=by rw[aB.aO];simp
  have h1:=gJ hinv hS hne
  rw[aB.aO] at h1
  simp only[h1,eT,aK,aA,seval]
  obtain⟨h2,h3⟩:=jW (o:=.cells [AV.int .i64 k,AV.int .i64 n,AV.str s,bE 4 b ((ts.map (Tm.aG f)).map Tm.av)]) hinv hS hne
  refine⟨b,_,_,h2,h3,iM _,⟨4,dS _⟩,?_,?_⟩
  · rw[Tm.i8 f h]
    simp only[fO,aZ,aV,dZ,iD,iJ,aU]
  · exact(((aL.refl _).aC hn2).aC hc).aC hn2
termination_by t=>SizeOf.sizeOf t
decreasing_by have:=List.sizeOf_lt_of_mem hx;simp only[Tm.mk.sizeOf_spec];omega
def qW:Option Tm→AV
 | some t=>.tup [t.av,.bool true]
 | none=>.tup [Tm.zero.av,.bool false]
abbrev MP:=zi aX (zi bZ (zi bQ (zi IJ MS)))
theorem aUC(bs:List Bd)(n:Int)(st:aB):aD prog 232 [.slice (bs.map m8),.int .i64 n] st (fun r st'=>r=qW (qE bs n)∧st'=st):=by
 refine aD.done ?_
 refine wF [1000000] 2 func232 ntmps232 rfl rfl ?_
 simp only[d7,AV.fits,d9,aE]
 intro ⟨hl,_⟩
 simp only[aA,seval,MP]
 intro b hb
 refine dV (σ:=Unit) [1000000] [0,1,4] bs (fun i _=>qE (bs.drop i) n=qE bs n) (fun i _=>[(6,.int .i64 i)]) (fun _ _=>st.aC b (.cells [.int .i64 0,.int .i64 0,.str ⟨#[]⟩,.fslice []])) (by decide +kernel) ⟨(),rfl,aN.mk (by simp only[aA,↓aR,seval])⟩ (fun i x _ hx hlt bH hdr hinv=>?_) (fun _ hge hinv=>?_)
 case refine_2=>
  simp only[aE,hge,aK,aE,aA,seval,MP]
  rw[j4] at hinv
  rw[←hinv]
  exact⟨by simp only[qE,qW,Tm.zero,aU,jC,iT,jN,oT,k8,k7,aZ,aV],(aL.refl _).aC hb⟩
 obtain⟨m,t⟩:=x
 rw[hdr] at hinv
 simp only[qE] at hinv
 have hw:=bL (n:=(i:Int)+1)
 have hat:=bD (av:=m8) KK hx (FW _)
 have hbd:m8 (m,t)=.agg (.int .i64 m::t.av.cells):=rfl
 simp only[bH,aE,hat,hbd,aA,seval,MP]
 refine aP (fun h=>?_) (fun h=>?_)
 · simp only[bO] at h
   rw[aJ h] at hinv
   simp only[aK,hat,hbd,aA,seval,MP]
   rw[←hinv]
   exact⟨by simp only[qW,iT,oT,Tm.soft,aZ,aV],(aL.refl _).aC hb⟩
 · simp only[dB] at h
   rw[aF h] at hinv
   simp only[aA,seval]
   exact⟨(),hinv,aN.mk (by simp only[hw,aA,seval])⟩
theorem a2N{k n:Int}{s:ByteArray}{ts:List Tm}{bs:List Bd}(h:k=1)(hs:s=⟨#[]⟩)(hts:ts= [])(hf:qE bs n=none):(Tm.mk k n s (ts.map (Tm.aG (gM bs)))).av=((Tm.mk k n s ts).aG (gM bs)).av:=by
 rw[Tm.kI _ h,gM,hf,h,hs,hts]
 try rfl
abbrev mT:=zi aX (zi cJ (zi bS (zi bQ IJ)))
theorem XZ(bs:List Bd)(hbs:∀b∈bs,b.2.small=true):∀(t:Tm) (st:aB),t.small=true→t.cv=true →
 aD prog 146 [t.av,.slice (bs.map m8)] st (fun r st'=>r=(t.aG (gM bs)).av∧st'=st)
 | .mk k n s ts,st,hsm,hcv=>by
  obtain⟨hlen,mN⟩:=Tm.nF hsm
  obtain⟨hk1,QM⟩:=Tm.lU.1 hcv
  have IH:=fun(x:Tm) (hx:x∈ts) st=>XZ bs hbs x st (mN x hx) (QM x hx)
  have hfs:∀(l:List Bd) x,(∀b∈l,b.2.small=true)→qE l n=some x→x.small=true:=by
   intro l
   induction l with
   | nil=>intro x _ h;cases h
   | cons y l ih=>
    obtain⟨m,t⟩:=y
    intro x hl h
    simp only[qE] at h
    split at h
    · cases h;exact hl (m,_) (by simp)
    · exact ih x (fun b hb=>hl b (by simp [hb])) h
  refine aD.oH (aD.fin ?_)
  simp only[aU]
  refine wF [1000000,7] 2 func146 ntmps146 rfl rfl ?_
  simp only[d7,AV.fits,d9,aE]
  intro ⟨⟨_,_,_,hl,_⟩,_⟩
  simp only[aA,seval,mT]
  intro b2 hb2
  refine aP (fun h=>?_) (fun h=>?_)
  · simp only[bO] at h
    obtain⟨hs0,a1P⟩:=hk1 h
    simp only[aA,seval,mT]
    refine(aUC bs n _).to ?_
    cases hf:qE bs n with
    | some x=>
     simp only[qW,aA,↓aR,seval,mT]
     refine(xT x _ (hfs bs x hbs hf)).to ?_
     simp only[aA,seval,mT]
     refine⟨0,[],_,rfl,by simp,by simp,⟨4,by simp⟩,by rw[Tm.uI,Tm.kI _ h,gM,hf];try rfl,(aL.refl _).aC hb2⟩
    | none=>
     simp only[qW,aA,↓aR,seval,mT]
     intro c hc
     have hne:c≠b2:=by rintro rfl;rw[aB.aO] at hc;cases hc
     have hn2:st c=none:=by rw[aB.aM st _ hne] at hc;exact hc
     have kP:b2≠c:=c7 hne
     have hS:(st.aC b2 (.cells [AV.int .i64 0,AV.int .i64 0,AV.str ⟨#[]⟩,AV.fslice []])) b2≠none:=by rw[aB.aO];simp
     refine dV (σ:=Nat) [1000000] [1,2,4,7] ts (fun i b=>(((ts.take i).map (Tm.aG (gM bs))).map Tm.av≠[]→(aB.aC (st.aC b2 (.cells [AV.int .i64 0,AV.int .i64 0,AV.str ⟨#[]⟩,AV.fslice []])) c (.cells ([AV.int .i64 k,AV.int .i64 n,AV.str s]++ [bE 4 b (((ts.take i).map (Tm.aG (gM bs))).map Tm.av)]))) b=none)) (fun i b=>[(8,.int .i64 i)]) (fun i b=>eY (st.aC b2 (.cells [AV.int .i64 0,AV.int .i64 0,AV.str ⟨#[]⟩,AV.fslice []])) c b [AV.int .i64 k,AV.int .i64 n,AV.str s] (((ts.take i).map (Tm.aG (gM bs))).map Tm.av)) (by decide +kernel)
      ⟨0,fun h=>absurd rfl h,aN.mk (by simp only[aA,↓aR,seval])⟩ (fun i x b hx hlt bH hdr hinv=>?_) (fun b hge hinv=>?_)
     case refine_1=>
      have hw:=bL (n:=(i:Int)+1)
      have cF:(((ts.take i).map (Tm.aG (gM bs))).map Tm.av).length=i:=by simp only[aE,dC];omega
      have htk:(ts.take (i+1)).map (Tm.aG (gM bs))=(ts.take i).map (Tm.aG (gM bs))++ [(Tm.aG (gM bs)) x]:=by rw[eA,hx];simp
      have hbo:=eF hinv
      simp only[aE,bH,aA,seval,mT]
      refine wP [(0,1),(2,1),(4,1),(7,1),(1,2),(3,2),(5,1),(6,2),(8,2),(9,1),(10,0),(11,1),(12,0)] [0,2,4,7,1,3,5,6,8,9,11] mixed ?_
      simp only[bD (av:=Tm.av) a8 hx (aH x),aT,aH,hbo,lQ,fZ,aA,seval,mT]
      refine fK (IH x (cD hx) _) ?_
      simp only[aT,aH,cC,fZ,aA,seval,mT]
      refine eD a8 fW fX rfl rfl (eO (aH _) (bT _)) (dS _) hinv (by simp only[cF,aS,aW];omega) (by simp only[cF,aS,aW];omega) (fun b' hb'=>?_)
      rw[show(((ts.take i).map (Tm.aG (gM bs))).map Tm.av)++ [((Tm.aG (gM bs)) x).av]=((ts.take (i+1)).map (Tm.aG (gM bs))).map Tm.av by rw[htk];simp] at hb' ⊢
      obtain⟨g1,g2,g3⟩:=nB hb'
      simp only[fC,eL] at g1 g3
      simp only[g3,lR,eT,aK,g1,hw,aA,seval,mT]
      exact⟨b',g2,aN.mk (by simp only[aA,seval])⟩
     have hbo:=eF hinv
     rw[dW] at hinv hbo ⊢
     simp only[aE,hge,aA,seval,mT]
     simp only[hbo,aA,seval,mT]
     have h1:=gJ hinv hS kP
     rw[aB.aO] at h1
     simp only[h1,eT,aK,aA,seval]
     obtain⟨h2,h3⟩:=jW (o:=.cells [AV.int .i64 k,AV.int .i64 n,AV.str s,bE 4 b ((ts.map (Tm.aG (gM bs))).map Tm.av)]) hinv hS kP
     refine⟨b,_,_,h2,h3,iM _,⟨4,dS _⟩,?_,(((aL.refl _).aC hb2).aC hn2).aC hb2⟩
     simp only[fO,aZ,aV,dZ,iD,iJ,←aU]
     exact a2N h hs0 a1P hf
  · simp only[dB] at h
    simp only[aA,↓aR,seval,mT]
    intro c hc
    have hne:c≠b2:=by rintro rfl;rw[aB.aO] at hc;cases hc
    have hn2:st c=none:=by rw[aB.aM st _ hne] at hc;exact hc
    have kP:b2≠c:=c7 hne
    have hS:(st.aC b2 (.cells [AV.int .i64 0,AV.int .i64 0,AV.str ⟨#[]⟩,AV.fslice []])) b2≠none:=by rw[aB.aO];simp
    refine dV (σ:=Nat) [1000000] [1,2,4,7] ts (fun i b=>(((ts.take i).map (Tm.aG (gM bs))).map Tm.av≠[]→(aB.aC (st.aC b2 (.cells [AV.int .i64 0,AV.int .i64 0,AV.str ⟨#[]⟩,AV.fslice []])) c (.cells ([AV.int .i64 k,AV.int .i64 n,AV.str s]++ [bE 4 b (((ts.take i).map (Tm.aG (gM bs))).map Tm.av)]))) b=none)) (fun i b=>[(8,.int .i64 i)]) (fun i b=>eY (st.aC b2 (.cells [AV.int .i64 0,AV.int .i64 0,AV.str ⟨#[]⟩,AV.fslice []])) c b [AV.int .i64 k,AV.int .i64 n,AV.str s] (((ts.take i).map (Tm.aG (gM bs))).map Tm.av)) (by decide +kernel)
     ⟨0,fun h=>absurd rfl h,aN.mk (by simp only[aA,↓aR,seval])⟩ (fun i x b hx hlt bH hdr hinv=>?_) (fun b hge hinv=>?_)
    case refine_1=>
     have hw:=bL (n:=(i:Int)+1)
     have cF:(((ts.take i).map (Tm.aG (gM bs))).map Tm.av).length=i:=by simp only[aE,dC];omega
     have htk:(ts.take (i+1)).map (Tm.aG (gM bs))=(ts.take i).map (Tm.aG (gM bs))++ [(Tm.aG (gM bs)) x]:=by rw[eA,hx];simp
     have hbo:=eF hinv
     simp only[aE,bH,aA,seval,mT]
     refine wP [(0,1),(2,1),(4,1),(7,1),(1,2),(3,2),(5,1),(6,2),(8,2),(9,1),(10,0),(11,1),(12,0)] [0,2,4,7,1,3,5,6,8,9,11] mixed ?_
     simp only[bD (av:=Tm.av) a8 hx (aH x),aT,aH,hbo,lQ,fZ,aA,seval,mT]
     refine fK (IH x (cD hx) _) ?_
     simp only[aT,aH,cC,fZ,aA,seval,mT]
     refine eD a8 fW fX rfl rfl (eO (aH _) (bT _)) (dS _) hinv (by simp only[cF,aS,aW];omega) (by simp only[cF,aS,aW];omega) (fun b' hb'=>?_)
     rw[show(((ts.take i).map (Tm.aG (gM bs))).map Tm.av)++ [((Tm.aG (gM bs)) x).av]=((ts.take (i+1)).map (Tm.aG (gM bs))).map Tm.av by rw[htk];simp] at hb' ⊢
     obtain⟨g1,g2,g3⟩:=nB hb'
     simp only[fC,eL] at g1 g3
     simp only[g3,lR,eT,aK,g1,hw,aA,seval,mT]
     exact⟨b',g2,aN.mk (by simp only[aA,seval])⟩
    have hbo:=eF hinv
    rw[dW] at hinv hbo ⊢
    simp only[aE,hge,aA,seval,mT]
    simp only[hbo,aA,seval,mT]
    have h1:=gJ hinv hS kP
    rw[aB.aO] at h1
    simp only[h1,eT,aK,aA,seval]
    obtain⟨h2,h3⟩:=jW (o:=.cells [AV.int .i64 k,AV.int .i64 n,AV.str s,bE 4 b ((ts.map (Tm.aG (gM bs))).map Tm.av)]) hinv hS kP
    refine⟨b,_,_,h2,h3,iM _,⟨4,dS _⟩,?_,(((aL.refl _).aC hb2).aC hn2).aC hb2⟩
    simp only[fO,aZ,aV,dZ,iD,iJ,←aU]
    rw[Tm.i8 _ h]
termination_by t=>SizeOf.sizeOf t
decreasing_by have:=List.sizeOf_lt_of_mem hx;simp only[Tm.mk.sizeOf_spec];omega
def p8(t:Tm)(bs:List Bd):Option Tm:=
 if t.valid=true∧(bs.all fun b=>b.2.valid)=true∧(t.aG (gM bs)).valid=true then some (t.aG (gM bs)) else none
theorem aQW{bs:List Bd}(h:(bs.all fun b=>b.2.valid)=true):∀b∈bs,b.2.small=true:=fun b hb=>Tm.y8 (dQ.1 h b hb)
theorem a3T(x:Option Tm):(qW x).soft=qW x:=by cases x<;>simp only[qW,iT,aZ,aV,Tm.soft,oT]
abbrev yV:=zi aX (zi bZ (zi bQ (zi IJ MS)))
theorem aVG(t:Tm)(bs:List Bd)(st:aB):aD prog 70 [t.av,.slice (bs.map m8)] st (fun r st'=>r=qW (p8 t bs)∧st'=st):=by
 refine aD.done ?_
 refine wF [1000000] 2 func70 ntmps70 rfl rfl ?_
 simp only[d7,AV.fits,d9,aE]
 intro ⟨_,hl,_⟩
 simp only[aA,seval,yV]
 intro b hb
 have iR:∀o,((AV.tup [.agg [.int .i64 0,.int .i64 0,.str ⟨#[]⟩,.fslice []],.bool false]).soft=qW none)∧aL (st.aC b o) st:=fun o=>⟨by simp only[qW,Tm.zero,aU,jC,iT,jN,oT,k8,k7,aZ,aV],(aL.refl _).aC hb⟩
 refine(CX t _).to ?_
 simp only[aA,seval]
 refine aP (fun h=>?_) (fun h=>?_)
 · simp only[aK,aA,seval,yV]
   simp only[iV] at h
   rw[p8,aF (by simp [h])]
   exact iR _
 simp only[lO] at h
 simp only[aA,seval]
 refine dV (σ:=Unit) [1000000] [1,2,4] bs (fun i _=>((bs.drop i).all fun b=>b.2.valid)=(bs.all fun b=>b.2.valid)) (fun i _=>[(6,.int .i64 i)]) (fun _ _=>st.aC b (.cells [.int .i64 0,.int .i64 0,.str ⟨#[]⟩,.fslice []])) (by decide +kernel) ⟨(),rfl,aN.mk (by simp only[aA,↓aR,seval])⟩ (fun i x _ hx hlt bH hdr hinv=>?_) (fun _ hge hinv=>?_)
 case refine_2=>
  rw[j4] at hinv
  have dJ:=hinv.symm
  rw[List.all_nil] at dJ
  simp only[hge,aE,aA,seval,yV]
  refine(XZ bs (aQW dJ) t _ (Tm.y8 h) (Tm.IU h)).to ?_
  simp only[aA,↓aR,seval,yV]
  refine(CX _ _).to ?_
  simp only[aA,seval]
  refine aP (fun h2=>?_) (fun h2=>?_)
  · simp only[aK,aA,seval,yV]
    simp only[iV] at h2
    rw[p8,aF (by simp [h2])]
    exact iR _
  · simp only[aK,aA,seval,yV]
    simp only[lO] at h2
    rw[p8,aJ ⟨h,dJ,h2⟩]
    exact⟨a3T (some _),(aL.refl _).aC hb⟩
 obtain⟨m,u⟩:=x
 have hw:=bL (n:=(i:Int)+1)
 have hat:=bD (av:=m8) KK hx (FW _)
 have hbd:m8 (m,u)=.agg (.int .i64 m::u.av.cells):=rfl
 rw[hdr,j3] at hinv
 simp only[bH,aE,hat,hbd,aA,seval,yV]
 refine(CX u _).to ?_
 simp only[aA,seval]
 refine aP (fun h2=>?_) (fun h2=>?_)
 · simp only[aK,aA,seval,yV]
   simp only[iV] at h2
   rw[p8,aF (by rw[←hinv];simp [h2])]
   exact iR _
 · simp only[lO] at h2
   rw[h2,dU] at hinv
   simp only[aA,seval]
   exact⟨(),hinv,aN.mk (by simp only[hw,aA,seval])⟩
end Go.AW
