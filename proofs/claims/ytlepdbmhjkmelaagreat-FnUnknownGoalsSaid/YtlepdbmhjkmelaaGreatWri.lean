import Derived.Test.YtlepdbmhjkmelaaGreatWrf
import Derived.Test.YtlepdbmhjkmelaaGreatWrh
import Derived.Lib.SliceRun
set_option linter.unusedSimpArgs false
set_option linter.unusedVariables false
set_option maxRecDepth 100000
namespace Go.AW
open Go.Proofs.Tryz
theorem xS(n lo hi:Int)(st:aA):aD prog 47 [.int .i64 n,.int .i64 lo,.int .i64 hi] st (fun r st'=>r=.bool (decide (lo≤n)&&decide (n≤hi))∧st'=st):=by
 refine wF [] 3 func47 ntmps47 rfl rfl ?_
 intro _
 repeat' (first
  | (simp only[*,aB,seval])
  | (refine cM (fun h=>?_) (fun h=>?_))
  | (refine bC (fun h=>?_) (fun h=>?_)))
 all_goals simp_all
theorem SQ(s:ByteArray)(st:aA):aD prog 137 [.str s] st (fun r st'=>r=.tup [.int .i64 (b7 s),.bool (b7 s == 1||b7 s == 2)]∧st'=st):=by
 refine wF [] 1 func137 ntmps137 rfl rfl ?_
 intro _
 repeat' (first
  | (simp only[*,aB,seval])
  | (refine cM (fun h=>?_) (fun h=>?_))
  | (refine bC (fun h=>?_) (fun h=>?_)))
 all_goals (simp only[b7, *,nX,nY,Bool.or_self,cond_true,cond_false];first | done | rfl)
theorem m8(s:ByteArray)(st:aA):aD prog 94 [.str s] st (fun r st'=>r=.int .i64 (b7 s)∧st'=st):=by
 refine wF [] 1 func94 ntmps94 rfl rfl ?_
 intro _
 repeat' (first
  | (simp only[*,aB,seval])
  | (refine cM (fun h=>?_) (fun h=>?_))
  | (refine bC (fun h=>?_) (fun h=>?_)))
 all_goals (simp only[b7, *,nX,nY,Bool.or_self,cond_true,cond_false];first | done | rfl)
theorem SY(s:ByteArray)(n:Int)(st:aA):aD prog 96 [.str s,.int .i64 n] st (fun r st'=>r=.bool (isBuiltin s n)∧st'=st):=by
 refine wF [] 2 func96 ntmps96 rfl rfl ?_
 intro _
 repeat' (first
  | (simp only[*,aB,seval])
  | (refine cM (fun h=>?_) (fun h=>?_))
  | (refine bC (fun h=>?_) (fun h=>?_)))
 all_goals (simp only[isBuiltin, *,nX,nY,Bool.or_self,cond_true,cond_false];first | done | rfl)
theorem CE(s:ByteArray)(n:Int)(st:aA):aD prog 93 [.str s,.int .i64 n] st (fun r st'=>r=.bool (isBuiltin s n)∧st'=st):=by
 refine wF [] 2 func93 ntmps93 rfl rfl ?_
 intro _
 repeat' (first
  | (simp only[*,aB,seval])
  | (refine cM (fun h=>?_) (fun h=>?_))
  | (refine bC (fun h=>?_) (fun h=>?_)))
 all_goals (simp only[isBuiltin, *,nX,nY,Bool.or_self,cond_true,cond_false];first | done | rfl)
abbrev PM:=zi a7 (zi cC (zi gE bW))
theorem B4(s:ByteArray)(st:aA):aD prog 92 [.str s] st (fun r st'=>r=.bool (kJ s)∧st'=st):=by
 refine wF [] 1 func92 ntmps92 rfl rfl ?_
 simp only[cS,AV.fits,dV]
 intro hs
 simp only[aB,seval]
 refine nW (α:=Nat) [] (fun i=>i≤s.size∧∀(j:Nat) c,j<i→(sb s)[j]?=some c→d5 c=true)
  (fun i=>[(0,.str s),(3,.int .i64 i)]) (fun _=>st) (fun i=>s.size - i) (by decide +kernel)
  ⟨0,⟨by omega,by intro j x h;omega⟩,aL.mk (by simp only[aB,↓bD,seval])⟩ ?_
 intro i ⟨hi,cT⟩
 simp only[aB,seval,PM]
 refine⟨fun h5=>?_,fun h5=>?_⟩
 case refine_2=>
  simp only[c5,iW] at h5
  have ha:(sb s).all d5=true:=t3 fun j c hc=>cT j c (by have:=(eX.1 hc).1;rw[a8] at this;omega) hc
  repeat' (first
   | (simp only[*,aB,seval,PM])
   | (refine cM (fun h=>?_) (fun h=>?_))
   | (refine bC (fun h=>?_) (fun h=>?_)))
  all_goals simp only[kJ,ha,dC,AV.bool.injEq]
  all_goals simp only[*,gG,dC,c8]
 simp only[a9,iW] at h5
 obtain⟨c,hc⟩:∃c,(sb s)[i]?=some c:=⟨_,eD (by rw[a8];exact h5)⟩
 have hx:=kG (P:=prog) (t:=9) jX hc
 simp only[hx,aB,seval]
 refine cM (fun h6=>?_) (fun h6=>?_)
 case refine_2=>
  simp only[h6,aB,seval]
  simp only[fZ,a9] at h6
  simp only[kJ,m6 hc (show d5 c=false by simp [d5];omega),c8]
 simp only[h6,hx,aB,seval]
 refine⟨fun h7=>?_,fun h7=>?_⟩
 · simp only[aB,seval]
   simp only[a9] at h7
   simp only[kJ,m6 hc (show d5 c=false by simp [d5];omega),c8]
 simp only[c5] at h6 h7
 simp only[aB,seval]
 refine⟨i+1,by omega,⟨by omega,fun j u hj hu=>?_⟩,aL.mk ?_⟩
 · rcases gS j i with h8 | h8
   · exact cT j u h8 hu
   · obtain rfl:j=i:=by omega
     rw[hc] at hu;cases hu
     simp [d5];omega
 · have:=bB (n:=(i:Int)+1)
   simp only[this,aB,seval]
abbrev PL:=zi a7 (zi cC (zi gE (zi aAG bW)))
theorem BU(s:ByteArray)(st:aA):aD prog 87 [.str s] st (fun r st'=>r=.bool (kJ s)∧st'=st):=by
 refine wF [] 1 func87 ntmps87 rfl rfl ?_
 simp only[cS,AV.fits,dV]
 intro hs
 simp only[aB,seval,PL]
 refine nW (α:=Nat) [] (fun i=>i≤s.size∧∀(j:Nat) c,j<i→(sb s)[j]?=some c→d5 c=true)
  (fun i=>[(0,.str s),(5,.int .i64 s.size),(6,.int .i64 i)]) (fun _=>st) (fun i=>s.size - i) (by decide +kernel)
  ⟨0,⟨by omega,by intro j x h;omega⟩,aL.mk (by simp only[aB,↓bD,seval])⟩ ?_
 intro i ⟨hi,cT⟩
 simp only[aB,seval]
 refine⟨fun h5=>?_,fun h5=>?_⟩
 case refine_2=>
  simp only[c5,iW] at h5
  have ha:(sb s).all d5=true:=t3 fun j c hc=>cT j c (by have:=(eX.1 hc).1;rw[a8] at this;omega) hc
  simp only[aB,seval,PL]
  refine(xS _ _ _ st).to ?_
  simp only[aB,seval]
  simp only[kJ,ha,dC]
 simp only[a9,iW] at h5
 obtain⟨c,hc⟩:∃c,(sb s)[i]?=some c:=⟨_,eD (by rw[a8];exact h5)⟩
 have hx:=kG (P:=prog) (t:=9) jX hc
 simp only[hx,aB,seval]
 refine cM (fun h6=>?_) (fun h6=>?_)
 case refine_2=>
  simp only[h6,aB,seval]
  simp only[fZ,a9] at h6
  simp only[kJ,m6 hc (show d5 c=false by simp [d5];omega),c8]
 simp only[h6,hx,aB,seval]
 refine⟨fun h7=>?_,fun h7=>?_⟩
 · simp only[aB,seval]
   simp only[a9] at h7
   simp only[kJ,m6 hc (show d5 c=false by simp [d5];omega),c8]
 simp only[c5] at h6 h7
 simp only[aB,seval]
 refine⟨i+1,by omega,⟨by omega,fun j u hj hu=>?_⟩,aL.mk ?_⟩
 · rcases gS j i with h8 | h8
   · exact cT j u h8 hu
   · obtain rfl:j=i:=by omega
     rw[hc] at hu;cases hu
     simp [d5];omega
 · have:=bB (n:=(i:Int)+1)
   simp only[this,aB,seval]
theorem S3(s:ByteArray)(st:aA):aD prog 88 [.str s] st (fun r st'=>r=.bool (decide ((0:Int)<(b7 s:Int)))∧st'=st):=by
 refine wF [] 1 func88 ntmps88 rfl rfl ?_
 intro _
 simp only[aB,seval]
 refine(SQ s st).to ?_
 simp only[aB,seval]
abbrev ZW:=zi a7 (zi cC (zi b8 bN))
theorem S1(k n:Int)(s:ByteArray)(ts:List Tm)(st:aA):aD prog 97 [(Tm.mk k n s ts).av] st (fun r st'=>r=.bool (decide (k=3)&&decide ((ts.length:Int)=0))∧st'=st):=by
 refine wF [] 1 func97 ntmps97 rfl rfl ?_
 intro _
 simp only[bG]
 repeat' (first
  | (simp only[*,aB,seval,ZW])
  | (refine cM (fun h=>?_) (fun h=>?_))
  | (refine bC (fun h=>?_) (fun h=>?_)))
 all_goals simp_all
def dX:List ByteArray:=[⟨#[43]⟩,⟨#[45]⟩,⟨#[42]⟩,⟨#[47,47]⟩,⟨#[61]⟩,⟨#[92,61]⟩,⟨#[61,61]⟩,⟨#[60]⟩,⟨#[62]⟩,⟨#[61,60]⟩,⟨#[62,61]⟩,⟨#[61,58,61]⟩,⟨#[46]⟩,⟨#[91,93]⟩,⟨#[33]⟩]
theorem UI(st:aA):aD prog 179 [] st (fun r st'=>r=.fslice (dX.map .str)∧st'=st):=by
 refine wF [] 0 func179 ntmps179 rfl rfl ?_
 intro _
 simp only[dX,aB,seval,iT]
theorem B2(st:aA):aD prog 192 [] st (fun r st'=>r=.fslice (dX.map .str)∧st'=st):=by
 refine wF [] 0 func192 ntmps192 rfl rfl ?_
 intro _
 simp only[dX,aB,seval,iT]
abbrev PN:=zi a7 (zi cC (zi bW iT))
theorem S9(l:List ByteArray)(s:ByteArray)(st:aA):aD prog 191 [.slice (l.map .str),.str s] st (fun r st'=>r=.bool (l.any fun x=>decide (x=s))∧st'=st):=by
 refine wF [] 2 func191 ntmps191 rfl rfl ?_
 simp only[cS,AV.fits,dV,aF]
 intro ⟨⟨hl,_⟩,_⟩
 simp only[aB,seval]
 refine nW (α:=Nat) [] (fun i=>i≤l.length∧∀(j:Nat) x,j<i→l[j]?=some x→decide (x=s)=false)
  (fun i=>[(0,.slice (l.map .str)),(1,.str s),(5,.int .i64 i)]) (fun _=>st) (fun i=>l.length - i) (by decide +kernel)
  ⟨0,⟨by omega,by intro j x h;omega⟩,aL.mk (by simp only[aB,↓bD,seval])⟩ ?_
 intro i ⟨hi,cT⟩
 simp only[aF,aB,seval,PN]
 refine⟨fun h5=>?_,fun h5=>?_⟩
 case refine_2=>
  simp only[aB,seval]
  simp only[c5,iW] at h5
  have:(l.any fun x=>decide (x=s))=false:=by
   rw[List.any_eq_false]
   intro x hx
   obtain⟨j,hj⟩:=rD hx
   simp [cT j x (by have:=(eX.1 hj).1;omega) hj]
  rw[this]
 simp only[a9,iW] at h5
 obtain⟨x,hx⟩:∃x,l[i]?=some x:=⟨_,eD h5⟩
 simp only[cI (av:=AV.str) lC hx rfl,aB,seval,PN]
 refine⟨fun h6=>?_,fun h6=>?_⟩
 · simp only[aB,seval]
   have:(l.any fun x=>decide (x=s))=true:=by
    rw[List.any_eq_true]
    exact⟨x,dD hx,h6⟩
   rw[this]
 simp only[aB,seval]
 refine⟨i+1,by omega,⟨by omega,fun j u hj hu=>?_⟩,aL.mk ?_⟩
 · rcases gS j i with h8 | h8
   · exact cT j u h8 hu
   · obtain rfl:j=i:=by omega
     rw[hx] at hu;cases hu
     exact h6
 · have:=bB (n:=(i:Int)+1)
   simp only[this,aB,seval]
abbrev PO:=zi a7 (zi bW iT)
theorem SO(l:List ByteArray)(s:ByteArray)(st:aA):aD prog 212 [.slice (l.map .str),.str s] st (fun r st'=>(∃k:Int,r=.int .i64 k∧decide (0≤k)=l.any fun x=>decide (s=x))∧st'=st):=by
 refine wF [] 2 func212 ntmps212 rfl rfl ?_
 simp only[cS,AV.fits,dV,aF]
 intro ⟨⟨hl,_⟩,_⟩
 simp only[aF,aB,seval,PO]
 refine nW (α:=Nat) [] (fun i=>i≤l.length∧∀(j:Nat) x,j<i→l[j]?=some x→decide (s=x)=false)
  (fun i=>[(0,.slice (l.map .str)),(1,.str s),(7,.int .i64 l.length),(8,.int .i64 i)]) (fun _=>st) (fun i=>l.length - i) (by decide +kernel)
  ⟨0,⟨by omega,by intro j x h;omega⟩,aL.mk (by simp only[aB,↓bD,seval])⟩ ?_
 intro i ⟨hi,cT⟩
 simp only[aB,seval]
 refine⟨fun h5=>?_,fun h5=>?_⟩
 case refine_2=>
  simp only[aB,seval]
  simp only[c5,iW] at h5
  have:(l.any fun x=>decide (s=x))=false:=by
   rw[List.any_eq_false]
   intro x hx
   obtain⟨j,hj⟩:=rD hx
   simp [cT j x (by have:=(eX.1 hj).1;omega) hj]
  rw[this]
  exact⟨_,rfl,rfl⟩
 simp only[a9,iW] at h5
 obtain⟨x,hx⟩:∃x,l[i]?=some x:=⟨_,eD h5⟩
 simp only[cI (av:=AV.str) lC hx rfl,aB,seval,PO]
 refine⟨fun h6=>?_,fun h6=>?_⟩
 · simp only[aB,seval]
   have:(l.any fun x=>decide (s=x))=true:=by
    rw[List.any_eq_true]
    exact⟨x,dD hx,h6⟩
   rw[this]
   exact⟨_,rfl,by simp⟩
 simp only[aB,seval]
 refine⟨i+1,by omega,⟨by omega,fun j u hj hu=>?_⟩,aL.mk ?_⟩
 · rcases gS j i with h8 | h8
   · exact cT j u h8 hu
   · obtain rfl:j=i:=by omega
     rw[hx] at hu;cases hu
     exact h6
 · have:=bB (n:=(i:Int)+1)
   simp only[this,aB,seval]
theorem SG(l:List ByteArray)(s:ByteArray)(st:aA):aD prog 178 [.slice (l.map .str),.str s] st (fun r st'=>r=.bool (l.any fun x=>decide (s=x))∧st'=st):=by
 refine wF [] 2 func178 ntmps178 rfl rfl ?_
 intro _
 simp only[aB,seval]
 refine(SO l s st).mono ?_
 rintro _ _ ⟨⟨k,rfl,hk⟩,rfl⟩
 simp only[aB,seval]
 rw[←hk]
theorem SH(l:List ByteArray)(s:ByteArray)(st:aA):aD prog 178 [.fslice (l.map .str),.str s] st (fun r st'=>r=.bool (l.any fun x=>decide (s=x))∧st'=st):=
 aD.kN (by simp only[dK,AV.soft];exact SG l s st)
theorem TA(l:List ByteArray)(s:ByteArray)(st:aA):aD prog 191 [.fslice (l.map .str),.str s] st (fun r st'=>r=.bool (l.any fun x=>decide (x=s))∧st'=st):=
 aD.kN (by simp only[dK,AV.soft];exact S9 l s st)
def nJ(s:ByteArray):Bool:=kJ s||dX.any fun x=>decide (s=x)
theorem RM(s:ByteArray):(dX.any fun x=>decide (x=s))=dX.any fun x=>decide (s=x):=by
 congr 1
 funext x
 exact qA.2 ⟨Eq.symm,Eq.symm⟩
theorem SZ(s:ByteArray)(st:aA):aD prog 140 [.str s] st (fun r st'=>r=.bool (nJ s)∧st'=st):=by
 refine wF [] 1 func140 ntmps140 rfl rfl ?_
 intro _
 repeat' (first
  | (simp only[*,aB,seval])
  | (refine cM (fun h=>?_) (fun h=>?_))
  | (refine(BU s st).to ?_) | (refine(UI st).to ?_) | (refine(SH dX s st).to ?_)
  | (refine bC (fun h=>?_) (fun h=>?_)))
 all_goals simp only[nJ, *,fZ,nY,jZ]
theorem UF(s:ByteArray)(st:aA):aD prog 150 [.str s] st (fun r st'=>r=.bool (nJ s)∧st'=st):=by
 refine wF [] 1 func150 ntmps150 rfl rfl ?_
 intro _
 repeat' (first
  | (simp only[*,aB,seval])
  | (refine cM (fun h=>?_) (fun h=>?_))
  | (refine(B4 s st).to ?_) | (refine(B2 st).to ?_) | (refine(TA dX s st).to ?_)
  | (refine bC (fun h=>?_) (fun h=>?_)))
 all_goals simp only[nJ,RM, *,fZ,nY,jZ]
end Go.AW
namespace Go.AW
def dF(k n:Int)(s:ByteArray)(len:Int):Bool:=
 cond (decide (k=1)) (decide ((0:Int)≤n)&&decide (n≤25)&&decide (s=⟨#[]⟩)&&decide (len=0))
  (cond (decide (k=2)) (decide ((-999:Int)≤n)&&decide (n≤999)&&decide (s=⟨#[]⟩)&&decide (len=0))
   (cond (decide (k=3)) (decide (n=0)&&nJ s&&decide (len≤4)) false))
mutual
def Tm.shape:Tm→Int→Bool
 | .mk k n s ts,d=>decide (1≤d)&&dF k n s ts.length&&v8 ts (d - 1)
def v8:List Tm→Int→Bool
 | [],_=>true
 | t::ts,d=>t.shape d&&v8 ts d
end
theorem QE:∀(ts:List Tm) (d:Int),v8 ts d=ts.all fun t=>t.shape d
 | [],_=>rfl
 | t::ts,d=>by simp only[v8,lR,QE ts d]
theorem Tm.vJ(k n:Int)(s:ByteArray)(ts:List Tm)(d:Int):(Tm.mk k n s ts).shape d=(decide (1≤d)&&dF k n s ts.length&&ts.all fun t=>t.shape (d - 1)):=by simp only[Tm.shape,QE]
mutual
def Tm.nodes:Tm→Nat
 | .mk _ _ _ ts=>1+v4 ts
def v4:List Tm→Nat
 | []=>0
 | t::ts=>t.nodes+v4 ts
end
theorem QA:∀(ts:List Tm),v4 ts=bH Tm.nodes ts
 | []=>rfl
 | t::ts=>by simp only[v4,bH,QA ts]
theorem Tm.jE(k n:Int)(s:ByteArray)(ts:List Tm):(Tm.mk k n s ts).nodes=1+bH Tm.nodes ts:=by simp only[Tm.nodes,QA]
def Tm.valid(t:Tm):Bool:=t.shape 30&&decide (t.nodes≤120)
mutual
def Tm.vars:Tm→List Int→List Int
 | .mk k n _ ts,l=>QF ts (if k=1∧n∉l then l++ [n] else l)
def QF:List Tm→List Int→List Int
 | [],l=>l
 | t::ts,l=>QF ts (t.vars l)
end
theorem lZ{st:aA}{b x:Nat}{l:List AV}{o:AO}(h:l≠[]→x≠b):(aU st b l).aC x o=aU (st.aC x o) b l:=by
 cases l with
 | nil=>rfl
 | cons y l=>exact aA.nV _ _ _ (dQ (h (by simp)))
mutual
def Tm.wf:Tm→Bool
 | .mk k _ _ ts=>(!decide (k=1)||ts.isEmpty)&&QH ts
def QH:List Tm→Bool
 | []=>true
 | t::ts=>t.wf&&QH ts
end
def dB(S:aA)(c b:Nat)(hd:List AV)(l:List AV):aA:=aU (S.aC c (.cells (hd++ [aP 4 b l]))) b l
theorem c6{S:aA}{c b:Nat}{hd l:List AV}(hb:l≠[]→(S.aC c (.cells (hd++ [aP 4 b l]))) b=none):dB S c b hd l c=some (.cells (hd++ [aP 4 b l])):=by
 unfold dB
 cases l with
 | nil=>simp only[aU,aA.aY]
 | cons y l=>
  have h:=hb (by simp)
  have hne:c≠b:=fun e=>by rw[←e,aA.aY] at h;cases h
  rw[rO hne,aA.aY]
theorem lF{S:aA}{c b b':Nat}{hd l l':List AV}(hb:l'≠[]→(S.aC c (.cells (hd++ [aP 4 b l]))) b'=none) :
 (aU (S.aC c (.cells (hd++ [aP 4 b l]))) b' l').aC c (.cells (hd++ [aP 4 b' l']))=dB S c b' hd l'∧(l'≠[]→(S.aC c (.cells (hd++ [aP 4 b' l']))) b'=none)∧aU (S.aC c (.cells (hd++ [aP 4 b l]))) b' l' c=some (.cells (hd++ [aP 4 b l])):=by
 have hne:l'≠[]→c≠b':=fun h e=>by have:=hb h;rw[←e,aA.aY] at this;cases this
 refine⟨?_,fun h=>?_,?_⟩
 · rw[lZ hne,cF];try rfl
 · have:=hb h
   rw[aA.bK _ _ (dQ (hne h))] at this ⊢
   exact this
 · cases l' with
   | nil=>simp only[aU,aA.aY]
   | cons y l=>rw[rO (hne (by simp)),aA.aY]
theorem eU{S:aA}{c b x:Nat}{hd l:List AV}(hb:l≠[]→(S.aC c (.cells (hd++ [aP 4 b l]))) b=none)(hx:S x≠none)(hxc:x≠c):dB S c b hd l x=S x:=by
 unfold dB
 cases l with
 | nil=>simp only[aU,aA.bK _ _ hxc]
 | cons y l=>
  have h:=hb (by simp)
  have hne:x≠b:=fun e=>by
   rw[←e,aA.bK _ _ hxc] at h
   exact hx h
  rw[rO hne,aA.bK _ _ hxc]
theorem gN{S:aA}{c b x:Nat}{hd l:List AV}{o:AO}(hb:l≠[]→(S.aC c (.cells (hd++ [aP 4 b l]))) b=none)(hx:S x≠none)(hxc:x≠c):(dB S c b hd l).aC x o=aU ((S.aC c (.cells (hd++ [aP 4 b l]))).aC x o) b l∧(l≠[]→((S.aC c (.cells (hd++ [aP 4 b l]))).aC x o) b=none):=by
 have hne:l≠[]→x≠b:=fun h e=>by
  have:=hb h
  rw[←e,aA.bK _ _ hxc] at this
  exact hx this
 refine⟨by unfold dB;rw[lZ hne],fun h=>by rw[aA.bK _ _ (dQ (hne h))];exact hb h⟩
theorem kI{S:aA}{c b x:Nat}{hd l:List AV}{o:AO}(hb:l≠[]→(S.aC c (.cells (hd++ [aP 4 b l]))) b=none)(hx:S x≠none)(hxc:x≠c) :
 (dB S c b hd l).aC x o=dB (S.aC x o) c b hd l∧(l≠[]→((S.aC x o).aC c (.cells (hd++ [aP 4 b l]))) b=none):=by
 have hne:l≠[]→x≠b:=fun h e=>by
  have:=hb h
  rw[←e,aA.bK _ _ hxc] at this
  exact hx this
 refine⟨by unfold dB;rw[lZ hne,aA.nV _ _ _ (dQ hxc)],fun h=>?_⟩
 have:=hb h
 rw[aA.nV _ _ _ hxc,aA.bK _ _ (dQ (hne h))]
 exact this
theorem aA.aAR{st:aA}{b c:Nat}{a z a':AO}(h:b≠c):((st.aC c a).aC b z).aC c a'=(st.aC b z).aC c a':=by rw[aA.nV _ _ _ (dQ h),cF]
theorem c7(l:List Tm):∀e∈l.map Tm.av,e.width=4:=by intro e h;simp only[gR] at h;obtain⟨t,_,rfl⟩:=h;exact aO t
theorem fC(l:List Tm):∀e∈l.map Tm.av,e.bA=false:=by intro e h;simp only[gR] at h;obtain⟨t,_,rfl⟩:=h;exact bV t
end Go.AW
namespace Go.AW
open Go.Proofs.Tryz
mutual
def Tm.small:Tm→Bool
 | .mk _ _ _ ts=>decide (ts.length≤1048576)&&tE ts
def tE:List Tm→Bool
 | []=>true
 | t::ts=>t.small&&tE ts
end
theorem v9:∀(ts:List Tm),tE ts=ts.all Tm.small
 | []=>rfl
 | t::ts=>by simp only[tE,lR,v9 ts]
theorem Tm.vK{k n:Int}{s:ByteArray}{ts:List Tm}(h:(Tm.mk k n s ts).small=true):ts.length≤1048576∧∀x∈ts,x.small=true:=by
 simpa [Tm.small,v9] using h
abbrev vT:=zi a7 (zi b8 bN)
theorem YS(l:List Tm)(st:aA)(hb:l.length≤1048576)(hc:∀x∈l,∀(st:aA),aD prog 37 [Tm.av x] st (Made st (Tm.av x))) :
 aD prog 89 [.slice (l.map Tm.av)] st (Made st (.slice (l.map Tm.av))):=by
 have hws:∀e∈l.map Tm.av,e.width=4:=fun e he=>by simp only[gR] at he;obtain⟨t,_,rfl⟩:=he;exact aO t
 refine wF [] 1 func89 ntmps89 rfl rfl ?_
 intro _
 simp only[aF,aB,seval,vT]
 refine eV (σ:=List AV×List Nat×Nat×aA) [] [2,6,7] l (fun i p=>lP (l.map Tm.av) st i p.1 p.2.1 p.2.2.1 p.2.2.2) (fun i p=>[(3,aP 4 p.2.2.1 p.1),(8,.int .i64 i)]) (fun _ p=>p.2.2.2) (by decide +kernel)
  ⟨([],[],0,st),lP.start,aL.mk (by simp only[i7,aB,↓bD,seval])⟩ (fun i x p hx hlt bY hdr hinv=>?_) (fun p hge hinv=>?_)
 case refine_2=>
  obtain⟨os,bs,b,s⟩:=p
  simp only[hge,aB,seval]
  exact hinv.done (aF _) hws
 obtain⟨os,bs,b,s⟩:=p
 simp only at hinv
 have hw:=bB (n:=(i:Int)+1)
 have nI:∀zs:List AV,zs.length=4→aH zs 0 (Tm.av x).cells=(Tm.av x).cells:=fun zs h=>zT (aW x) h
 simp only[bY,cI (av:=Tm.av) cH hx (aO x),aR,aO,aW,bL,cF,nI,aB,seval,vT]
 intro b2 hb2
 try simp only[lJ,aW,cW (aW x),cR (aR x),c9,nI,cF,bL,aB,↓bD,seval,vT]
 refine(hc x (dD hx) _).mono ?_
 rintro r s2 ⟨bx,m1,m2,m3,m4⟩
 obtain⟨f1,f2,f3⟩:=m3.UM (aO x) (bL x)
 have hra:r.isAgg=true:=by rw[(bQ.shape m3).1,aR]
 have hrj:r.bA=false:=(bQ.shape m3).2.2.1
 simp only[f1,hra,hrj,aB,seval,vT]
 have hlen:os.length=i:=hinv.1
 have XL:∀e∈os,e.width=4:=fun e he=>by
  obtain⟨k,hk,rfl⟩:=List.getElem_of_mem he
  exact hinv.2.1.QW (fun q hq=>hws q (j3 hq)) _ he
 have hkb:os≠[]→s2 b=some (.cells (os.flatMap AV.cells)):=fun hne=>by
  have h:=(hinv.2.2.2.2.1 hne).2.2
  have hbx:b∉bx:=fun hq=>by
   have:=m2 b hq
   have sG:b≠b2:=fun e=>by rw[e,hb2] at h;cases h
   rw[aA.bK _ _ sG,h] at this;cases this
  have sG:b≠b2:=fun e=>by rw[e,hb2] at h;cases h
  rw[m4 b hbx,aA.bK _ _ sG,h]
 refine RK cH fT fU rfl rfl (eS f1 f3) XL hkb (by simp only[bE,bO,hlen];omega) (by simp only[bE,bO,hlen];omega) (fun b' s' k1 k2 k3 k4=>?_)
 have fM:=hinv.step hb2 (show(l.map Tm.av)[i]?=some (Tm.av x) by rw[pD,hx];try rfl) m1 m2 m3 m4 (k1 (by simp)) (k2 (by simp)) (fun q h1 h2=>k3 q (fun _=>h1) h2) k4
 simp only[hw,aB,seval]
 exact⟨(os++ [r],bs++bx,b',s'.erase b2),fM,aL.drop (d9 _ _) (by simp only[aB,seval])⟩
abbrev PX:=zi b8 bN
theorem OE:∀(t:Tm) (st:aA),t.small=true→aD prog 37 [t.av] st (Made st t.av)
 | .mk k n s ts,st,hb=>by
  obtain⟨hb1,hb2⟩:=Tm.vK hb
  have hc:=fun st=>YS ts st hb1 fun x hx st=>OE x st (hb2 x hx)
  refine aD.YK ?_
  refine wF [1] 1 func37 ntmps37 rfl rfl ?_
  intro _
  simp only[bG]
  simp only[aB,seval,PX]
  intro b W5 b2 uT
  have hne:b2≠b:=by rintro rfl;rw[aA.aY] at uT;cases uT
  have hn2:st b2=none:=by rw[aA.bK st _ hne] at uT;exact uT
  simp only[lJ,hne.symm,aB,seval]
  refine(hc _).mono ?_
  rintro q s2 ⟨bs,m1,m2,m3,m4⟩
  have hbb:b∉bs:=fun h=>by have:=m2 b h;simp [lJ,hne.symm] at this
  have uU:b2∉bs:=fun h=>by have:=m2 b2 h;simp [lJ] at this
  have e1:=m4 b hbb
  have e2:=m4 b2 uU
  simp only[lJ,hne,hne.symm,fA,cU] at e1 e2
  have hqc:q.cells= [q]:=by have:=(bQ.shape m3).1;cases q<;>first | rfl | simp [AV.isAgg] at this
  have hqs:q.storable=true:=by
   have:=m3
   simp only[bQ] at this
   rcases this with ⟨_,rfl,_⟩ | ⟨_,_,_,_,rfl,_⟩<;>rfl
  simp only[lJ,hne,e1,e2,hqc,hqs,aH,aB,seval,PX]
  refine⟨[b,b2],bs,m1,fun x hx=>?_,?_,?_,?_⟩
  · have:=m2 x hx
    have h1:x≠b:=fun e=>hbb (e▸hx)
    have h2:x≠b2:=fun e=>uU (e▸hx)
    simpa [lJ,h1,h2] using this
  · simp [W5,hn2,hbb,uU]
  · rw[←bG]
    refine YU.2 ⟨q,rfl,bQ.cG _ _ _ (fun x hx=>?_) m3⟩
    have h1:x≠b:=fun e=>hbb (e▸hx)
    have h2:x≠b2:=fun e=>uU (e▸hx)
    simp only[lJ,h1,h2,cU]
  · intro x hx hd
    simp only[iG,pE,or_false,not_or] at hd
    simp only[lJ,hd.1,hd.2,cU]
    rw[m4 x hx]
    simp only[lJ,hd.1,hd.2,cU]
termination_by t=>SizeOf.sizeOf t
decreasing_by have:=List.sizeOf_lt_of_mem hx;simp only[Tm.mk.sizeOf_spec];omega
abbrev oY:=zi a7 (zi bW (zi b8 bN))
theorem oA:∀(t:Tm) (st:aA),t.small=true→aD prog 42 [t.av] st (fun r st'=>r=t.av∧st'=st)
 | .mk k n s ts,st,hsm=>by
  obtain⟨hlen,sJ⟩:=Tm.vK hsm
  have IH:=fun(x:Tm) (hx:x∈ts) st=>oA x st (sJ x hx)
  refine aD.oD (aD.fin ?_)
  simp only[bG]
  refine wF [] 1 func42 ntmps42 rfl rfl ?_
  simp only[cS,AV.fits,dV,aF]
  intro ⟨_,_,_,hl,_⟩
  simp only[aB,seval,oY]
  intro b2 hb2 c hc
  have hne:c≠b2:=by rintro rfl;rw[aA.aY] at hc;cases hc
  have hn2:st c=none:=by rw[aA.bK st _ hne] at hc;exact hc
  simp only[aH,aB,seval]
  refine eV (σ:=Nat) [] [1,2,3] ts (fun i b=>(((ts.take i).map (fun y=>y)).map Tm.av≠[]→(aA.aC (st.aC b2 (.cells [AV.int .i64 0,AV.int .i64 0,AV.str ⟨#[]⟩,AV.fslice []])) c (.cells ([AV.int .i64 k,AV.int .i64 n,AV.str s]++ [aP 4 b (((ts.take i).map (fun y=>y)).map Tm.av)]))) b=none)) (fun i b=>[(4,.int .i64 i)]) (fun i b=>dB (st.aC b2 (.cells [AV.int .i64 0,AV.int .i64 0,AV.str ⟨#[]⟩,AV.fslice []])) c b [AV.int .i64 k,AV.int .i64 n,AV.str s] (((ts.take i).map (fun y=>y)).map Tm.av)) (by decide +kernel)
   ⟨0,fun h=>absurd rfl h,aL.mk (by simp only[aB,↓bD,seval])⟩ (fun i x b hx hlt bY hdr hinv=>?_) (fun b hge hinv=>?_)
  case refine_1=>
   have hw:=bB (n:=(i:Int)+1)
   have cO:(((ts.take i).map (fun y=>y)).map Tm.av).length=i:=by simp only[aF,d7];omega
   have htk:(ts.take (i+1)).map (fun y=>y)=(ts.take i).map (fun y=>y)++ [(fun y=>y) x]:=by rw[fE,hx];simp
   have hbo:=c6 hinv
   simp only[aF,bY,aB,seval,oY]
   refine wP [(0,1),(2,1),(4,1),(1,2),(3,2),(5,1),(6,2),(7,2),(8,1),(9,0),(10,1),(11,0)] [0,2,4,1,3,5,6,7,8,10] mixed ?_
   simp only[cI (av:=Tm.av) cH hx (aO x),aR,aO,hbo,jN,fF,aB,seval,oY]
   refine iU (IH x (dD hx) _) ?_
   simp only[aR,aO,bV,fF,aB,seval,oY]
   refine eJ cH fT fU rfl rfl (eS (aO _) (bL _)) (c7 _) hinv (by simp only[cO,bE,bO];omega) (by simp only[cO,bE,bO];omega) (fun b' hb'=>?_)
   rw[show(((ts.take i).map (fun y=>y)).map Tm.av)++ [((fun y=>y) x).av]=((ts.take (i+1)).map (fun y=>y)).map Tm.av by rw[htk];simp] at hb' ⊢
   obtain⟨g1,g2,g3⟩:=lF hb'
   simp only[dZ,dR] at g1 g3
   simp only[g3,j8,dN,aH,g1,hw,aB,seval,oY]
   exact⟨b',g2,aL.mk (by simp only[aB,seval])⟩
  have hbo:=c6 hinv
  rw[eE] at hinv hbo ⊢
  simp only[aF,hge,aB,seval,oY]
  simp only[hbo,aB,seval,oY]
  have g7:b2≠c:=dQ hne
  have hS:(st.aC b2 (.cells [AV.int .i64 0,AV.int .i64 0,AV.str ⟨#[]⟩,AV.fslice []])) b2≠none:=by rw[aA.aY];simp
  have h1:=eU hinv hS g7
  rw[aA.aY] at h1
  simp only[h1,dN,aH,aB,seval]
  obtain⟨h2,h3⟩:=gN (o:=.cells [AV.int .i64 k,AV.int .i64 n,AV.str s,aP 4 b ((ts.map fun y=>y).map Tm.av)]) hinv hS g7
  refine⟨b,_,_,h2,h3,fC _,⟨4,c7 _⟩,?_,?_⟩
  · simp only[gZ,b9,bJ,eR,gK,fJ,List.map_id']
  · exact(((aN.refl _).aC hb2).aC hn2).aC hb2
termination_by t=>SizeOf.sizeOf t
decreasing_by have:=List.sizeOf_lt_of_mem hx;simp only[Tm.mk.sizeOf_spec];omega
end Go.AW
namespace Go.AW
def Tm.k:Tm→Int | .mk k _ _ _=>k
def Tm.n:Tm→Int | .mk _ n _ _=>n
def Tm.s:Tm→ByteArray | .mk _ _ s _=>s
def Tm.ts:Tm→List Tm | .mk _ _ _ ts=>ts
def vr(n:Int):Tm:=.mk 1 n ⟨#[]⟩ []
mutual
def Tm.u9(f:Int→Tm):Tm→Tm
 | .mk k n s ts=>if k=1 then f n else .mk k n s (P9 f ts)
def P9(f:Int→Tm):List Tm→List Tm
 | []=>[]
 | t::ts=>t.u9 f::P9 f ts
end
mutual
def Tm.vl:Tm→List Int
 | .mk k n _ ts=>if k=1 then[n] else QG ts
def QG:List Tm→List Int
 | []=>[]
 | t::ts=>t.vl++QG ts
end
theorem Tm.ind{p:Tm→Prop}(h:∀k n s ts,(∀t∈ts,p t)→p (.mk k n s ts)):∀t,p t
 | .mk k n s ts=>h k n s ts fun t ht=>Tm.ind h t
termination_by t=>SizeOf.sizeOf t
decreasing_by have:=List.sizeOf_lt_of_mem ht;simp only[Tm.mk.sizeOf_spec];omega
abbrev Sub:=Int→Option Tm
def Sub.set(σ:Sub)(n:Int)(t:Tm):Sub:=fun m=>if m=n then some t else σ m
structure Good (σ:Sub) (R:Int→Tm) (rk:Int→Nat) (B:Nat):Prop where
 sol:∀n,R n=match σ n with | some u=>u.u9 R | .none=>vr n
 aB9:∀n u,σ n=some u→∀w∈u.vl,rk w<rk n
 bd:∀n,rk n<B
section
variable {σ:Sub} {R R':Int→Tm} {rk rk':Int→Nat} {B B':Nat}
end
open Classical in
noncomputable def rs(σ:Sub):Int→Tm:=if h:∃R rk B,Good σ R rk B then h.choose else vr
theorem Tm.soft(t:Tm):t.av.soft=t.av:=by cases t;simp [bG,AV.soft,dK]
theorem Tm.M6(t:Tm)(b:Nat):t.av.fin b []=t.av:=Tm.soft t
def Tm.zero:Tm:=.mk 0 0 ⟨#[]⟩ []
mutual
def Tm.cv:Tm→Bool
 | .mk k _ s ts=>(!decide (k=1)||(decide (s=⟨#[]⟩)&&ts.isEmpty))&&vZ ts
def vZ:List Tm→Bool
 | []=>true
 | t::ts=>t.cv&&vZ ts
end
theorem P7:∀(ts:List Tm),vZ ts=ts.all Tm.cv
 | []=>rfl
 | t::ts=>by simp only[vZ,lR,P7 ts]
theorem Tm.CN{k n:Int}{s:ByteArray}{ts:List Tm}:(Tm.mk k n s ts).cv=true↔(k=1→s=⟨#[]⟩∧ts= [])∧∀x∈ts,x.cv=true:=by
 simp only[Tm.cv,P7,bX,rA,j0,c5,List.isEmpty_iff,fD,a9]
 constructor
 · exact fun h=>⟨fun hk=>h.1.resolve_left (fun hn=>hn hk),h.2⟩
 · intro h
   refine⟨?_,h.2⟩
   by_cases hk:k=1
   · exact .inr (h.1 hk)
   · exact .inl hk
theorem Tm.ZG:∀(t:Tm) (d:Int),t.shape d=true→t.small=true:=by
 intro t
 induction t using Tm.ind with
 | h k n s ts ih=>
  intro d h
  rw[Tm.vJ] at h
  simp only[bX,fD] at h
  obtain⟨⟨_,h1⟩,h2⟩:=h
  simp only[Tm.small,v9,bX,a9,fD]
  refine⟨?_,fun x hx=>ih x hx _ (h2 x hx)⟩
  unfold dF at h1
  cases h3:decide (k=1)<;>rw[h3] at h1
  · cases h4:decide (k=2)<;>rw[h4] at h1
    · cases h5:decide (k=3)<;>rw[h5] at h1<;>simp at h1;omega
    · simp at h1;rw[h1.2];simp
  · simp at h1;rw[h1.2];simp
theorem Tm.QS{t:Tm}(h:t.valid=true):t.small=true:=by simp only[Tm.valid,bX] at h;exact Tm.ZG t 30 h.1
end Go.AW
namespace Go.AW
open Go.Proofs.Tryz
abbrev Z1:=zi a7 (zi cC (zi bW (zi b8 bN)))
theorem TE(k n:Int)(s:ByteArray)(ts:List Tm)(st:aA):aD prog 211 [(Tm.mk k n s ts).av] st (fun r st'=>r=.bool (dF k n s ts.length)∧st'=st):=by
 refine wF [] 1 func211 ntmps211 rfl rfl ?_
 intro _
 simp only[bG]
 have hl:(ts.map Tm.av).length=ts.length:=aF _
 repeat' (first
  | (simp only[*,aB,seval,Z1])
  | (refine cM (fun h=>?_) (fun h=>?_))
  | (refine(UF s st).to ?_)
  | (refine bC (fun h=>?_) (fun h=>?_)))
 all_goals simp only[dF, *,cond_true,cond_false,gG,dC,c8,mS,Bool.and_true]
abbrev vO:=zi a7 (zi cC (zi b8 bN))
theorem B1:∀(t:Tm) (d:Int) (st:aA),d≤30→-1≤d→aD prog 176 [t.av,.int .i64 d] st (fun r st'=>r=.bool (t.shape d)∧st'=st)
 | .mk k n s ts,d,st,hd,hd0=>by
  have hc:=fun(x:Tm) (hx:x∈ts) d st h h0=>B1 x d st h h0
  have h1:=TE k n s ts st
  rw[bG] at h1
  refine wF [] 2 func176 ntmps176 rfl rfl ?_
  simp only[bG,cS,AV.fits,dV,aF,Tm.vJ]
  intro ⟨_,_,_,hl,_⟩
  generalize dF k n s ts.length=z at *
  simp only[aB,seval,vO]
  refine cM (fun h=>?_) (fun h=>?_)
  case refine_2=>
   simp only[h,aB,seval]
   simp only[fZ,a9] at h
   simp;omega
  simp only[h,aB,seval,vO]
  refine h1.to ?_
  simp only[aB,seval]
  refine⟨fun h2=>?_,fun h2=>?_⟩
  · simp only[aB,seval]
    simp only[j0] at h2
    simp [h2]
  simp only[pA,c5] at h2 h
  subst h2
  have hw:=bB (n:=d - 1)
  rw[show decide (1≤d)=true by simp;omega]
  simp only[aB,seval]
  refine nW (α:=Nat) [] (fun i=>i≤ts.length∧∀(j:Nat) x,j<i→ts[j]?=some x→x.shape (d - 1)=true)
   (fun i=>[(1,.int .i64 d),(2,.pptr (.agg [.int .i64 k,.int .i64 n,.str s,.slice (ts.map Tm.av)])),(5,.int .i64 i)]) (fun _=>st) (fun i=>ts.length - i) (by decide +kernel)
   ⟨0,⟨by omega,by intro j x h;omega⟩,aL.mk (by simp only[aB,↓bD,seval])⟩ ?_
  intro i ⟨hi,cT⟩
  simp only[aF,aB,seval,vO]
  refine⟨fun h5=>?_,fun h5=>?_⟩
  case refine_2=>
   simp only[aB,seval]
   simp only[c5,iW] at h5
   rw[t3 fun j x hx=>cT j x (by have:=(eX.1 hx).1;omega) hx]
  simp only[a9,iW] at h5
  obtain⟨x,hx⟩:∃x,ts[i]?=some x:=⟨_,eD h5⟩
  simp only[cI (av:=Tm.av) cH hx (aO x),aR,aO,hw,aB,seval,vO]
  refine(hc x (dD hx) (d - 1) st (by omega) (by omega)).to ?_
  simp only[aB,seval]
  refine⟨fun h6=>?_,fun h6=>?_⟩
  · simp only[aB,seval]
    simp only[j0] at h6
    rw[m6 hx h6]
  simp only[pA] at h6
  simp only[aB,seval]
  refine⟨i+1,by omega,⟨by omega,fun j u hj hu=>?_⟩,aL.mk ?_⟩
  · rcases gS j i with h8 | h8
    · exact cT j u h8 hu
    · obtain rfl:j=i:=by omega
      rw[hx] at hu;cases hu;exact h6
  · have:=bB (n:=(i:Int)+1)
    simp only[this,aB,seval]
termination_by t=>SizeOf.sizeOf t
decreasing_by have:=List.sizeOf_lt_of_mem hx;simp only[Tm.mk.sizeOf_spec];omega
abbrev z0:=zi a7 (zi b8 bN)
theorem BY:∀(t:Tm) (m:Int) (st:aA),0≤m→m≤120→aD prog 177 [t.av,.int .i64 m] st (fun r st'=>r=.int .i64 (min (t.nodes:Int) (m+1))∧st'=st)
 | .mk k n s ts,m,st,hm0,hm=>by
  have hc:=fun(x:Tm) (hx:x∈ts) m st h h0=>BY x m st h h0
  refine wF [] 2 func177 ntmps177 rfl rfl ?_
  simp only[bG,cS,AV.fits,dV,aF,Tm.jE]
  intro ⟨_,_,_,hl,_⟩
  simp only[aB,seval,z0]
  refine nW (α:=Nat) [] (fun i=>i≤ts.length)
   (fun i=>[(1,.int .i64 m),(2,.pptr (.agg [.int .i64 k,.int .i64 n,.str s,.slice (ts.map Tm.av)])),(5,.int .i64 (min ((1+bH Tm.nodes (ts.take i):Nat):Int) (m+1))),(6,.int .i64 i)]) (fun _=>st) (fun i=>ts.length - i) (by decide +kernel)
   ⟨0,by omega,aL.mk (by simp only[iY,bH,show min ((0:Int)+1) (m+1)=1 by omega,yE,↓Int.cast_ofNat_Int,↓reduceIte,reduceCtorEq,Nat.reduceEqDiff,Nat.reduceAdd])⟩ ?_
  intro i hi
  simp only[aF,aB,seval,z0]
  have XE:¬i<ts.length→bH Tm.nodes (ts.take i)=bH Tm.nodes ts:=fun h=>by rw[kS (by omega)]
  refine cM (fun h5=>?_) (fun h5=>?_)
  case refine_2=>
   simp only[h5,aB,seval]
   simp only[gG,c5,iW] at h5
   rw[XE h5]
  simp only[h5,aB,seval]
  simp only[a9,iW] at h5
  obtain⟨x,hx⟩:∃x,ts[i]?=some x:=⟨_,eD h5⟩
  have hs:=zW Tm.nodes hx
  refine⟨fun h6=>?_,fun h6=>?_⟩
  case refine_2=>
   simp only[aB,seval]
   simp only[c5] at h6
   simp only[AV.int.injEq,true_and]
   omega
  simp only[a9] at h6
  have e6:min (((1+bH Tm.nodes (ts.take i):Nat):Int)) (m+1)=((1+bH Tm.nodes (ts.take i):Nat):Int):=by omega
  rw[e6] at h6 ⊢
  have hw:=bB (n:=m - ((1+bH Tm.nodes (ts.take i):Nat):Int))
  simp only[cI (av:=Tm.av) cH hx (aO x),aR,aO,hw,aB,seval,z0]
  refine(hc x (dD hx) _ st (by omega) (by omega)).to ?_
  have hw2:=bB (n:=((1+bH Tm.nodes (ts.take i):Nat):Int)+min (x.nodes:Int) (m - ((1+bH Tm.nodes (ts.take i):Nat):Int)+1))
  simp only[hw2,aB,seval]
  refine⟨i+1,by omega,by omega,aL.mk ?_⟩
  have:=bB (n:=(i:Int)+1)
  simp only[this,show((1+bH Tm.nodes (ts.take i):Nat):Int)+min (x.nodes:Int) (m - ((1+bH Tm.nodes (ts.take i):Nat):Int)+1)=min ((1+bH Tm.nodes (ts.take (i+1)):Nat):Int) (m+1) by omega,aB,seval]
termination_by t=>SizeOf.sizeOf t
decreasing_by have:=List.sizeOf_lt_of_mem hx;simp only[Tm.mk.sizeOf_spec];omega
abbrev PR:=zi a7 (zi cC (zi vW bN))
theorem CF(t:Tm)(st:aA):aD prog 139 [t.av] st (fun r st'=>r=.bool t.valid∧st'=st):=by
 refine wF [] 1 func139 ntmps139 rfl rfl ?_
 intro _
 simp only[bV,aR,aO,aB,seval,PR]
 refine(B1 t 30 st (by omega) (by omega)).to ?_
 simp only[aB,seval]
 refine cM (fun h=>?_) (fun h=>?_)
 · simp only[h,aR,aO,aB,seval,PR]
   refine(BY t 120 st (by omega) (by omega)).to ?_
   simp only[aB,seval]
   simp only[Tm.valid,h,dC,AV.bool.injEq,qA]
   omega
 · simp only[h,aB,seval]
   simp at h
   simp [Tm.valid,h]
abbrev ZY:=zi a7 (zi cC (zi bW (zi b8 bN)))
theorem TX(k n:Int)(s:ByteArray)(ts:List Tm)(st:aA):aD prog 196 [(Tm.mk k n s ts).av] st (fun r st'=>r=.bool (decide (k=3)&&decide (s=⟨#[33]⟩)&&decide ((ts.length:Int)=0))∧st'=st):=by
 refine wF [] 1 func196 ntmps196 rfl rfl ?_
 intro _
 simp only[bG]
 repeat' (first
  | (simp only[*,aB,seval,ZY])
  | (refine cM (fun h=>?_) (fun h=>?_))
  | (refine bC (fun h=>?_) (fun h=>?_)))
 all_goals simp only[*,aF,c8]
abbrev PQ:=zi cC (zi bW bN)
theorem S2(k n:Int)(s:ByteArray)(ts:List Tm)(st:aA):aD prog 45 [(Tm.mk k n s ts).av] st (fun r st'=>r=.bool (decide (k=3)&&decide ((ts.length:Int)=0)&&decide (s=⟨#[33]⟩))∧st'=st):=by
 have h1:=S1 k n s ts st
 rw[bG] at h1
 refine wF [] 1 func45 ntmps45 rfl rfl ?_
 intro _
 simp only[bG]
 simp only[aB,seval,PQ]
 refine h1.to ?_
 clear h1
 repeat' (first
  | (simp only[*,aB,seval,PQ])
  | (refine cM (fun h=>?_) (fun h=>?_))
  | (refine bC (fun h=>?_) (fun h=>?_)))
 all_goals simp_all
abbrev PP:=zi a7 (zi cC (zi bW (zi b8 bN)))
theorem BT(k n:Int)(s:ByteArray)(ts:List Tm)(st:aA):aD prog 44 [(Tm.mk k n s ts).av] st (fun r st'=>r=.bool (decide (k=3)&&isBuiltin s (ts.length:Int))∧st'=st):=by
 have h1:=SY s ts.length st
 refine wF [] 1 func44 ntmps44 rfl rfl ?_
 intro _
 simp only[bG]
 simp only[aB,seval,PP]
 refine cM (fun h=>?_) (fun h=>?_)
 · simp only[h,aF,aB,seval,PP]
   refine h1.to ?_
   clear h1
   simp only[aB,seval]
 · simp only[h,aB,seval]
   simp at h
   simp []
def gB(k:Int)(s:ByteArray)(len:Int):Bool:=decide (k=3)&&kJ s&& !isBuiltin s len&&decide ((b7 s:Int)=0)
abbrev ZZ:=zi a7 (zi cC (zi bW bN))
theorem uB(k n:Int)(s:ByteArray)(ts:List Tm)(st:aA):aD prog 34 [(Tm.mk k n s ts).av] st (fun r st'=>r=.bool (gB k s (ts.length:Int))∧st'=st):=by
 have h1:=BT k n s ts st
 rw[bG] at h1
 have e:decide ((0:Int)<(b7 s:Int))= !decide ((b7 s:Int)=0):=by
  by_cases h:b7 s=0
  · simp [h]
  · simp [h];omega
 have e3:∀b:Bool,k=3→(decide (k=3)&&b)=b:=fun b h=>by simp [h]
 refine wF [] 1 func34 ntmps34 rfl rfl ?_
 intro _
 simp only[bG]
 repeat' (first
  | (simp only[*,aB,seval,ZZ])
  | (refine cM (fun h=>?_) (fun h=>?_))
  | (refine(BU s st).to ?_) | (refine(S3 s st).to ?_) | (refine h1.to ?_)
  | (refine bC (fun h=>?_) (fun h=>?_)))
 all_goals (clear h1;simp_all [gB])
abbrev Z0:=zi a7 (zi cC (zi bW (zi b8 bN)))
theorem xQ(k n:Int)(s:ByteArray)(ts:List Tm)(st:aA):aD prog 40 [(Tm.mk k n s ts).av] st (fun r st'=>r=.bool (gB k s (ts.length:Int))∧st'=st):=by
 refine wF [] 1 func40 ntmps40 rfl rfl ?_
 intro _
 simp only[bG]
 have hl:(ts.map Tm.av).length=ts.length:=aF _
 repeat' (first
  | (simp only[*,aB,seval,Z0])
  | (refine cM (fun h=>?_) (fun h=>?_))
  | (refine(B4 s st).to ?_) | (refine(CE s _ st).to ?_) | (refine(m8 s st).to ?_)
  | (refine bC (fun h=>?_) (fun h=>?_)))
 all_goals simp_all [gB]
def qE(k:Int)(s:ByteArray)(len:Int):Bool:=(decide (k=3)&&decide (s=⟨#[33]⟩)&&decide (len=0))||gB k s len||(decide (k=3)&&isBuiltin s len)
abbrev ZX:=zi a7 (zi cC (zi bW (zi b8 bN)))
theorem TZ(k n:Int)(s:ByteArray)(ts:List Tm)(st:aA):aD prog 175 [(Tm.mk k n s ts).av] st (fun r st'=>r=.bool (qE k s (ts.length:Int))∧st'=st):=by
 have h1:=TX k n s ts st
 have h2:=xQ k n s ts st
 rw[bG] at h1 h2
 refine wF [] 1 func175 ntmps175 rfl rfl ?_
 intro _
 simp only[bG]
 have hl:(ts.map Tm.av).length=ts.length:=aF _
 unfold qE
 generalize (decide (k=3)&&decide (s=⟨#[33]⟩)&&decide ((ts.length:Int)=0))=z1 at *
 generalize gB k s (ts.length:Int)=z2 at *
 repeat' (first
  | (simp only[*,aB,seval,ZX])
  | (refine cM (fun h=>?_) (fun h=>?_))
  | (refine h1.to ?_) | (refine h2.to ?_) | (refine(CE s _ st).to ?_)
  | (refine bC (fun h=>?_) (fun h=>?_)))
 all_goals (clear h1 h2;simp_all)
theorem QR{st:aA}{b:Nat}{o:AO}(h:st b=some o):st.aC b o=st:=by
 funext x;simp only[aA.aC];split
 · rename_i e;rw[e,h]
 · rfl
def sY(ok:Bool)(c n:Int)(b:Nat)(st:aA)(r:AV)(st':aA):Prop:=
 ∃c',r=.bool (decide (c+n≤120)&&ok)∧st'=st.aC b (.cells [.int .i64 c'])∧((decide (c+n≤120)&&ok)=true→c'=c+n)
abbrev Z2:=zi a7 (zi cC (zi bN AG))
theorem UD(x:Tm)(d c:Int)(b:Nat)(st:aA)(hd: -1000≤d)(hd1:d≤1000)
 (h:aD prog 95 [x.av,.int .i64 (d+1),.ptr b 0] st (sY (x.shape (30 - d)) c x.nodes b st)) :
 aD prog 142 [x.av,.pptr (.int .i64 d),.pptr (.ptr b 0)] st (fun r st'=>∃c',r=.bool (!(decide (c+x.nodes≤120)&&x.shape (30 - d)))∧st'=st.aC b (.cells [.int .i64 c'])∧((decide (c+(x.nodes:Int)≤120)&&x.shape (30 - d))=true→c'=c+x.nodes)):=by
 have hw:=bB (n:=d+1)
 refine wF [] 3 func142 ntmps142 rfl rfl ?_
 intro _
 simp only[hw,bV,aR,aO,aB,seval,Z2]
 refine h.mono ?_
 rintro _ _ ⟨c',rfl,rfl,hc⟩
 simp only[aB,seval]
 refine⟨c',?_⟩
 first | exact hc | exact⟨rfl,rfl,hc⟩ | exact⟨rfl,hc⟩ | trace_state
abbrev PS:=zi a7 (zi b8 bN)
theorem SP(l:List Tm)(d c:Int)(b:Nat)(st:aA)(hd: -1000≤d)(hd1:d≤1000)(hb:st b=some (.cells [.int .i64 c]))(hc0:0≤c)(hc1:c≤120)
 (h:∀x∈l,∀(c:Int) (st:aA),st b=some (.cells [.int .i64 c])→0≤c→c≤120→aD prog 95 [x.av,.int .i64 (d+1),.ptr b 0] st (sY (x.shape (30 - d)) c x.nodes b st)) :
 aD prog 180 [.slice (l.map Tm.av),.func 142 [.pptr (.int .i64 d),.pptr (.ptr b 0)]] st
  (fun r st'=>∃j c',r=.int .i64 j∧decide (0≤j)=(!(decide (c+(bH Tm.nodes l:Int)≤120)&&l.all fun t=>t.shape (30 - d)))∧st'=st.aC b (.cells [.int .i64 c'])∧(decide (0≤j)=false→c'=c+(bH Tm.nodes l:Int))):=by
 refine wF [] 2 func180 ntmps180 rfl rfl ?_
 simp only[cS,AV.fits,dV,aF]
 intro ⟨hl,_⟩
 simp only[aF,aB,seval,PS]
 refine nW (α:=Nat) [] (fun i=>i≤l.length∧c+(bH Tm.nodes (l.take i):Int)≤120∧∀(j:Nat) x,j<i→l[j]?=some x→x.shape (30 - d)=true)
  (fun i=>[(0,.slice (l.map Tm.av)),(1,.func 142 [.pptr (.int .i64 d),.pptr (.ptr b 0)]),(7,.int .i64 l.length),(8,.int .i64 i)]) (fun i=>st.aC b (.cells [.int .i64 (c+(bH Tm.nodes (l.take i):Int))])) (fun i=>l.length - i) (by decide +kernel)
  ⟨0,⟨by omega,by simp only[iY,bH];omega,by intro j x h;omega⟩,by
   simp only[iY,bH]
   rw[show c+((0:Nat):Int)=c by omega,QR hb]
   exact aL.mk (by simp only[aB,↓bD,seval])⟩ ?_
 intro i ⟨hi,N1,cT⟩
 simp only[aB,seval]
 refine⟨fun h5=>?_,fun h5=>?_⟩
 case refine_2=>
  simp only[aB,seval]
  simp only[c5,iW] at h5
  rw[kS (by omega)] at N1 ⊢
  have ha:(l.all fun t=>t.shape (30 - d))=true:=t3 fun j x hx=>cT j x (by have:=(eX.1 hx).1;omega) hx
  exact⟨-1,_,rfl,by rw[ha];simp<;>omega,rfl,fun _=>rfl⟩
 simp only[a9,iW] at h5
 obtain⟨x,hx⟩:∃x,l[i]?=some x:=⟨_,eD h5⟩
 have hs:=zW Tm.nodes hx
 simp only[cI (av:=Tm.av) cH hx (aO x),aR,aO,aB,seval,PS]
 refine(UD x d (c+(bH Tm.nodes (l.take i):Int)) b _ hd hd1 (h x (dD hx) _ _ (aA.aY _ _ _) (by omega) N1)).mono ?_
 rintro _ _ ⟨c',rfl,rfl,hc'⟩
 simp only[cF,aB,seval]
 refine⟨fun h6=>?_,fun h6=>?_⟩
 · simp only[aB,seval]
   refine⟨i,c',rfl,?_,rfl,fun h7=>absurd h7 (by simp)⟩
   simp only[j0,Bool.and_eq_false_iff,c5] at h6
   rcases h6 with h6 | h6
   · rw[show decide (c+(bH Tm.nodes l:Int)≤120)=false by simp;omega]
     simp
   · rw[m6 hx h6]
     simp
 simp only[pA] at h6
 rw[hc' h6]
 simp only[bX,a9] at h6
 simp only[aB,seval]
 refine⟨i+1,by omega,⟨by omega,by omega,fun j u hj hu=>?_⟩,?_⟩
 · rcases gS j i with h8 | h8
   · exact cT j u h8 hu
   · obtain rfl:j=i:=by omega
     rw[hx] at hu;cases hu;exact h6.2
 · rw[show c+(bH Tm.nodes (l.take i):Int)+(x.nodes:Int)=c+(bH Tm.nodes (l.take (i+1)):Int) by omega]
   have:=bB (n:=(i:Int)+1)
   exact aL.mk (by simp only[this,aB,seval])
theorem SI(l:List Tm)(d c:Int)(b:Nat)(st:aA)(hd: -1000≤d)(hd1:d≤1000)(hb:st b=some (.cells [.int .i64 c]))(hc0:0≤c)(hc1:c≤120)
 (h:∀x∈l,∀(c:Int) (st:aA),st b=some (.cells [.int .i64 c])→0≤c→c≤120→aD prog 95 [x.av,.int .i64 (d+1),.ptr b 0] st (sY (x.shape (30 - d)) c x.nodes b st)) :
 aD prog 141 [.slice (l.map Tm.av),.func 142 [.pptr (.int .i64 d),.pptr (.ptr b 0)]] st
  (fun r st'=>∃c',r=.bool (!(decide (c+(bH Tm.nodes l:Int)≤120)&&l.all fun t=>t.shape (30 - d)))∧st'=st.aC b (.cells [.int .i64 c'])∧((decide (c+(bH Tm.nodes l:Int)≤120)&&l.all fun t=>t.shape (30 - d))=true→c'=c+(bH Tm.nodes l:Int))):=by
 have h1:=SP l d c b st hd hd1 hb hc0 hc1 h
 refine wF [] 2 func141 ntmps141 rfl rfl ?_
 intro _
 simp only[aB,seval]
 refine h1.mono ?_
 rintro _ _ ⟨j,c',rfl,hj,rfl,hc⟩
 simp only[aB,seval]
 refine⟨c',by rw[hj],rfl,fun h=>hc (by rw[hj,h];try rfl)⟩
abbrev nQ:=zi a7 (zi cC (zi bW (zi b8 (zi bN AG))))
theorem CC:∀(t:Tm) (d c:Int) (b:Nat) (st:aA),st b=some (.cells [.int .i64 c])→0≤c→c≤120→0≤d→d≤31→aD prog 95 [t.av,.int .i64 d,.ptr b 0] st (sY (t.shape (31 - d)) c t.nodes b st)
 | .mk k n s ts,d,c,b,st,hb,hc0,hc1,hd0,hd1=>by
  have hk:=fun(st:aA) (hb:st b=some (.cells [.int .i64 (c+1)])) (h1:c+1≤120) (h2:d≤30)=>SI ts d (c+1) b st (by omega) (by omega) hb (by omega) h1 fun x hx c st hb hc0 hc1=>by
   have:=CC x (d+1) c b st hb hc0 hc1 (by omega) (by omega)
   rw[show(31:Int) - (d+1)=30 - d by omega] at this
   exact this
  have hw:=bB (n:=c+1)
  unfold sY
  rw[Tm.jE,Tm.vJ]
  refine wF [] 3 func95 ntmps95 rfl rfl ?_
  simp only[bG,cS,AV.fits,dV,aF]
  intro ⟨_,_,_,hl,_⟩
  simp only[hb,aH,hw,aB,seval,nQ]
  have hL:(ts.map Tm.av).length=ts.length:=aF _
  have kE:∀(v:Bool),v=(decide (c+((1+bH Tm.nodes ts:Nat):Int)≤120)&&(decide (1≤31 - d)&&dF k n s ts.length&&ts.all fun t=>t.shape (31 - d - 1)))→(v=true→ts= []) →
   ∃c',AV.bool v=AV.bool (decide (c+((1+bH Tm.nodes ts:Nat):Int)≤120)&&(decide (1≤31 - d)&&dF k n s ts.length&&ts.all fun t=>t.shape (31 - d - 1)))∧st.aC b (.cells [.int .i64 (c+1)])=st.aC b (.cells [.int .i64 c'])∧((decide (c+((1+bH Tm.nodes ts:Nat):Int)≤120)&&(decide (1≤31 - d)&&dF k n s ts.length&&ts.all fun t=>t.shape (31 - d - 1)))=true→c'=c+((1+bH Tm.nodes ts:Nat):Int)):=
   fun v h1 h2=>⟨c+1,by rw[h1],rfl,fun h3=>by rw[h2 (h1.trans h3)];simp [bH]⟩
  refine cM (fun h1=>?_) (fun h1=>?_)
  case refine_2=>
   simp only[h1,aB,seval]
   simp only[fZ,a9] at h1
   refine kE false ?_ (by intro h;cases h)
   rw[show decide (c+((1+bH Tm.nodes ts:Nat):Int)≤120)=false by simp;omega]
   try rfl
  simp only[h1,aB,seval,nQ]
  refine⟨fun h2=>?_,fun h2=>?_⟩
  · simp only[aB,seval]
    simp only[a9] at h2
    refine kE false ?_ (by intro h;cases h)
    rw[show decide (1≤31 - d)=false by simp;omega]
    simp
  simp only[c5] at h1 h2
  rw[show decide (1≤31 - d)=true by simp;omega] at kE ⊢
  simp only[dC] at kE ⊢
  rw[show 31 - d - 1=30 - d by omega] at kE ⊢
  -- no kids
  have NQ:∀q:Bool,(∀h:ts= [],dF k n s ts.length=q)→(ts≠[]→dF k n s ts.length=false)→(q&&decide ((ts.length:Int)=0))=(decide (c+((1+bH Tm.nodes ts:Nat):Int)≤120)&&(dF k n s ts.length&&ts.all fun t=>t.shape (30 - d))):=by
   intro q hq1 hq2
   by_cases ht:ts= []
   · rw[hq1 ht];subst ht
     have e:c+((1+bH Tm.nodes []:Nat):Int)≤120:=by simp only[bH];omega
     rw[dA e]
     simp
   · rw[hq2 ht]
     have:¬(ts.length:Int)=0:=by intro h;exact ht (n0 (by omega))
     rw[cZ this]
     simp
  simp only[aB,seval,nQ]
  refine bC (fun hk1=>?_) (fun hk1=>?_)
  · simp only[a9] at hk1
    subst hk1
    simp only[aB,seval,nQ]
    refine(xS _ _ _ _).to ?_
    repeat' (first
     | (simp only[*,aB,seval,nQ])
     | (refine cM (fun h=>?_) (fun h=>?_))
     | (refine bC (fun h=>?_) (fun h=>?_)))
    all_goals first
     | (refine kE false ?_ (by intro h;cases h);rw[show dF 1 n s ts.length=false by first | (simp only[dF, *,gG,c8,mS];done) | (simp_all [dF];done) | (simp_all [dF];intro a e;have:=h a;omega)];simp;done)
     | (refine kE _ ?_ (fun h=>n0 (by simpa using h));rw[←NQ true (fun h=>by simp_all [dF]) (fun h=>by simp [dF,h])];simp;done)
  simp only[c5] at hk1
  simp only[aB,seval]
  refine bC (fun hk2=>?_) (fun hk2=>?_)
  · simp only[a9] at hk2
    subst hk2
    simp only[aB,seval,nQ]
    refine(xS _ _ _ _).to ?_
    repeat' (first
     | (simp only[*,aB,seval,nQ])
     | (refine cM (fun h=>?_) (fun h=>?_))
     | (refine bC (fun h=>?_) (fun h=>?_)))
    all_goals first
     | (refine kE false ?_ (by intro h;cases h);rw[show dF 2 n s ts.length=false by first | (simp only[dF, *,gG,c8,mS];done) | (simp_all [dF];done) | (simp_all [dF];intro a e;have:=h a;omega)];simp;done)
     | (refine kE _ ?_ (fun h=>n0 (by simpa using h));rw[←NQ true (fun h=>by simp_all [dF]) (fun h=>by simp [dF,h])];simp;done)
  simp only[c5] at hk2
  simp only[aB,seval]
  refine bC (fun hk3=>?_) (fun hk3=>?_)
  case refine_2=>
   simp only[c5] at hk3
   simp only[aB,seval]
   refine kE false ?_ (by intro h;cases h)
   rw[show dF k n s ts.length=false by simp [dF,hk1,hk2,hk3]]
   simp
  simp only[a9] at hk3
  subst hk3
  have hk':=fun st hb=>hk st hb (by omega) (by omega)
  clear hk
  repeat' (first
   | (simp only[*,aB,seval,nQ])
   | (refine cM (fun h=>?_) (fun h=>?_))
   | (refine(SZ s _).to ?_)
   | (refine bC (fun h=>?_) (fun h=>?_)))
  all_goals first
   | (refine kE false ?_ (by intro h;cases h);rw[show dF 3 n s ts.length=false by(simp_all [dF];done)];simp;done)
   | skip
  refine(hk' _ (aA.aY _ _ _)).mono ?_
  rintro _ _ ⟨c',rfl,rfl,hc'⟩
  simp only[cF,aB,seval]
  have ho:dF 3 n s ts.length=true:=by simp_all [dF]
  rw[ho,show c+((1+bH Tm.nodes ts:Nat):Int)=c+1+(bH Tm.nodes ts:Int) by omega]
  simp only[dC,Bool.not_not]
  first | exact⟨c',trivial,rfl,hc'⟩ | exact⟨c',rfl,rfl,hc'⟩
termination_by t=>SizeOf.sizeOf t
decreasing_by have:=List.sizeOf_lt_of_mem hx;simp only[Tm.mk.sizeOf_spec];omega
abbrev Z4:=zi a7 (zi cC (zi bN AG))
theorem xM(t:Tm)(st:aA):aD prog 43 [t.av] st (fun r st'=>r=.bool t.valid∧st'=st):=by
 have hd:aD prog 43 [t.av] st (fun r st'=>aN st' st∧r=.bool t.valid):=by
  refine wF [] 1 func43 ntmps43 rfl rfl ?_
  intro _
  simp only[bV,aR,aO,aB,seval,Z4]
  intro b hb
  simp only[aH,aB,seval]
  refine(CC t 1 0 b _ (aA.aY _ _ _) (by omega) (by omega) (by omega) (by omega)).mono ?_
  rintro _ _ ⟨c',rfl,rfl,_⟩
  simp only[cF,yE,↓reduceIte]
  refine⟨(aN.refl st).aC hb,?_⟩
  simp only[Tm.valid,AV.bool.injEq]
  rw[Bool.and_comm,show(31:Int) - 1=30 from rfl]
  congr 1
  simp only[qA]
  omega
 exact hd.drop
def Tm.goal:Tm→Bool
 | .mk k n s ts=>(Tm.mk k n s ts).valid&&qE k s ts.length
abbrev PT:=zi cC bN
theorem UE:∀(t:Tm) (st:aA),aD prog 138 [t.av] st (fun r st'=>r=.bool t.goal∧st'=st)
 | .mk k n s ts,st=>by
  have h1:=CF (.mk k n s ts) st
  have h2:=TZ k n s ts st
  rw[show(Tm.mk k n s ts).goal=((Tm.mk k n s ts).valid&&qE k s ts.length) from rfl]
  generalize (Tm.mk k n s ts).valid=z at *
  rw[bG] at *
  refine wF [] 1 func138 ntmps138 rfl rfl ?_
  intro _
  simp only[aB,seval,PT]
  refine h1.to ?_
  simp only[aB,seval]
  refine cM (fun h=>?_) (fun h=>?_)
  · simp only[h,aB,seval,PT]
    refine h2.to ?_
    simp only[aB,seval]
  · simp only[h,aB,seval]
    simp at h
    simp []
abbrev Z3:=zi cC bN
theorem BQ:∀(t:Tm) (st:aA),aD prog 11 [t.av] st (fun r st'=>r=.bool t.goal∧st'=st)
 | .mk k n s ts,st=>by
  have h1:=xM (.mk k n s ts) st
  have h2:=uB k n s ts st
  have h3:=BT k n s ts st
  have h4:=S2 k n s ts st
  rw[show(Tm.mk k n s ts).goal=((Tm.mk k n s ts).valid&&qE k s ts.length) from rfl]
  unfold qE
  generalize (Tm.mk k n s ts).valid=z at *
  generalize gB k s (ts.length:Int)=z2 at *
  generalize (decide (k=3)&&isBuiltin s (ts.length:Int))=z3 at *
  rw[show(decide (k=3)&&decide (s=⟨#[33]⟩)&&decide ((ts.length:Int)=0))=(decide (k=3)&&decide ((ts.length:Int)=0)&&decide (s=⟨#[33]⟩)) from by cases decide (k=3)<;>cases decide (s=⟨#[33]⟩)<;>cases decide ((ts.length:Int)=0)<;>rfl]
  generalize (decide (k=3)&&decide ((ts.length:Int)=0)&&decide (s=⟨#[33]⟩))=z4 at *
  rw[bG] at *
  refine wF [] 1 func11 ntmps11 rfl rfl ?_
  intro _
  repeat' (first
   | (simp only[*,aB,seval,Z3])
   | (refine cM (fun h=>?_) (fun h=>?_))
   | (refine h1.to ?_) | (refine h2.to ?_) | (refine h3.to ?_) | (refine h4.to ?_)
   | (refine bC (fun h=>?_) (fun h=>?_)))
  all_goals (clear h1 h2 h3 h4;simp_all)
abbrev PW:=zi a7 (zi b8 bN)
theorem SN(l:List Tm)(g:FuncId)(cJ:List AV)(p:Tm→Bool)(st:aA)(hc:∀x∈l,aD prog g ([Tm.av x]++cJ) st (fun r st'=>r=.bool (p x)∧st'=st)) :
 aD prog 180 [.slice (l.map Tm.av),.func g cJ] st (fun r st'=>∃j:Int,r=.int .i64 j∧decide (0≤j)=l.any p∧st'=st):=by
 refine wF [] 2 func180 ntmps180 rfl rfl ?_
 simp only[cS,AV.fits,dV,aF]
 intro ⟨hl,_⟩
 simp only[aF,aB,seval,PW]
 refine eV (σ:=Unit) [] [0,1,7] l (fun i _=>(l.drop i).any p=l.any p) (fun i _=>[(8,.int .i64 i)]) (fun _ _=>st) (by decide +kernel) ⟨(),rfl,aL.mk (by simp only[aB,↓bD,seval])⟩ (fun i x _ hx hlt bY hdr hinv=>?_) (fun _ hge hinv=>?_)
 case refine_2=>
  simp only[hge,aB,seval]
  rw[List.drop_length] at hinv
  exact⟨-1,rfl,by rw[←hinv];try rfl⟩
 rw[hdr,List.any_cons] at hinv
 have hw:=bB (n:=(i:Int)+1)
 simp only[bY,cI (av:=Tm.av) cH hx (aO x),aR,aO,aB,seval,PW]
 refine(hc x (dD hx)).to ?_
 simp only[aB,seval]
 refine bC (fun h=>?_) (fun h=>?_)
 · simp only[aB,seval]
   exact⟨i,rfl,by rw[←hinv,h];simp⟩
 · rw[h,jZ] at hinv
   simp only[aB,seval]
   exact⟨(),hinv,aL.mk (by simp only[hw,aB,seval])⟩
theorem SF(l:List Tm)(g:FuncId)(cJ:List AV)(p:Tm→Bool)(st:aA)(hc:∀x∈l,aD prog g ([Tm.av x]++cJ) st (fun r st'=>r=.bool (p x)∧st'=st)) :
 aD prog 141 [.slice (l.map Tm.av),.func g cJ] st (fun r st'=>r=.bool (l.any p)∧st'=st):=by
 refine wF [] 2 func141 ntmps141 rfl rfl ?_
 intro _
 simp only[aB,seval]
 refine(SN l g cJ p st hc).mono ?_
 rintro _ _ ⟨j,rfl,hj,rfl⟩
 simp only[hj,aB,seval]
theorem xD{α:Type}(p:α→Bool):∀l:List α,(!(l.any fun x=> !p x))=l.all p
 | []=>rfl
 | x::l=>by rw[List.any_cons,lR,←xD p l];cases p x<;>simp
abbrev Z7:=zi cC bN
theorem SV(t:Tm)(st:aA):aD prog 166 [t.av] st (fun r st'=>r=.bool (!t.goal)∧st'=st):=by
 refine wF [] 1 func166 ntmps166 rfl rfl ?_
 intro _
 simp only[bV,aR,aO,aB,seval,Z7]
 refine(BQ t st).to ?_
 simp only[aB,seval]
def zR(l:List Tm):Bool:=decide (l.length≤6)&&l.all Tm.goal
abbrev Z6:=zi a7 (zi cC b8)
theorem SU(l:List Tm)(st:aA):aD prog 125 [.slice (l.map Tm.av)] st (fun r st'=>r=.bool (zR l)∧st'=st):=by
 refine wF [] 1 func125 ntmps125 rfl rfl ?_
 simp only[cS,AV.fits,dV,aF]
 intro _
 unfold zR
 simp only[aF,aB,seval,Z6]
 refine cM (fun h=>?_) (fun h=>?_)
 · simp only[a9] at h
   rw[show decide (l.length≤6)=true by simp;omega]
   simp only[h,aB,seval]
   refine(SF l _ [] (fun t=> !t.goal) st fun x _=>SV x st).to ?_
   simp only[xD,aB,seval]
 · simp only[gG,c5] at h
   rw[show decide (l.length≤6)=false by simp;omega]
   simp only[h,aB,seval]
   rfl



end Go.AW
namespace Go.AW


mutual
def Tm.flat:Tm→Nat→Bool
 | .mk _ _ _ _,0=>false
 | .mk _ _ _ ts,d+1=>P8 ts d
def P8:List Tm→Nat→Bool
 | [],_=>true
 | t::ts,d=>t.flat d&&P8 ts d
end
mutual
def Tm.OL:Tm→Bool
 | .mk k n s ts=>dF k n s ts.length&&QB ts
def QB:List Tm→Bool
 | []=>true
 | t::ts=>t.OL&&QB ts
end

abbrev zt:AV:=.agg [.int .i64 0,.int .i64 0,.str ⟨#[]⟩,.fslice []]
def found:Option Tm→AV
 | some u=>.tup [u.av,.bool true]
 | none=>.tup [zt,.bool false]



def Q0(N:Int)(t:Tm):Prop:=(t.u9 fun _=>vr 0).OL=true∧t.cv=true∧∀v∈t.vl,0≤v∧v<N
def AY(N:Int)(t:Tm):Prop:=Q0 N t∧t.nodes≤120
def OT(ρ:Int→Int)(t:Tm):Tm:=t.u9 fun v=>vr (ρ v)
section
variable {ρ:Int→Int} {N:Int} {σ τ:Sub}
end
end Go.AW
namespace Go.AW
open Go.Proofs.Tryz




end Go.AW
namespace Go.AW


end Go.AW
namespace Go.AW
open Go.Proofs.Tryz




end Go.AW
namespace Go.AW


end Go.AW
namespace Go.AW
open Go.Proofs.Tryz



abbrev z5:=zi a7 (zi cC (zi b8 bN))
theorem SK(l l':List Tm)(g:FuncId)(st:aA)(hc:∀x∈l,∀(y:Tm) (st:aA),aD prog g [Tm.av x,Tm.av y] st (fun r st'=>r=.bool (Tm.same x y)∧st'=st)) :
 aD prog 90 [.slice (l.map Tm.av),.slice (l'.map Tm.av),.func g []] st (fun r st'=>r=.bool (gJ Tm.same l l')∧st'=st):=by
 refine wF [1000000] 3 func90 ntmps90 rfl rfl ?_
 simp only[cS,AV.fits,dV,aF]
 intro ⟨⟨hl,_⟩,⟨hl',_⟩⟩
 simp only[aF,aB,seval,z5]
 refine⟨fun h4=>?_,fun h4=>?_⟩
 · simp only[aB,seval]
   simp only[j0,c5] at h4
   rw[CZ _ (show l.length≠l'.length by omega)]
 simp only[pA,a9] at h4
 have h4':l.length=l'.length:=by omega
 simp only[aF,aB,seval,z5]
 refine eV (σ:=Unit) [1000000] [1,2,15,16] l (fun i _=>∀(j:Nat) (x y:Tm),j<i→l[j]?=some x→l'[j]?=some y→Tm.same x y=true) (fun i _=>[(17,.int .i64 i)]) (fun _ _=>st) (by decide +kernel) ⟨(),by intro j x y h;omega,aL.mk (by simp only[aB,↓bD,seval])⟩ (fun i x _ hx hlt bY hdr cT=>?_) (fun _ hge cT=>?_)
 case refine_2=>
  simp only[hge,aB,seval]
  rw[CW _ h4' (fun j x y h6 h7=>cT j x y (by have:=(eX.1 h6).1;omega) h6 h7)]
 obtain⟨y,hy⟩:∃y,l'[i]?=some y:=⟨_,eD (h4'▸hlt)⟩
 have hw:=bB (n:=(i:Int)+1)
 simp only[bY,aR,aO,bL,bV,cI (av:=Tm.av) cH hx (aO x),cI (av:=Tm.av) cH hy (aO y),aB,↓bD,seval,z5]
 refine(hc x (dD hx) y _).to ?_
 simp only[aB,seval]
 refine⟨fun h6=>?_,fun h6=>?_⟩
 · simp only[aB,seval]
   have h7:Tm.same x y=false:=by simpa using h6
   rw[CX _ i x y hx hy h7]
 have h7:Tm.same x y=true:=by simpa using h6
 simp only[aB,seval]
 refine⟨(),fun j u v hj hu hv=>?_,aL.mk (by simp only[hw,aB,seval])⟩
 rcases gS j i with h8 | h8
 · exact cT j u v h8 hu hv
 · obtain rfl:j=i:=by omega
   rw[hx] at hu;rw[hy] at hv;cases hu;cases hv;exact h7
abbrev vQ:=zi a7 (zi cC (zi bW (zi b8 bN)))
theorem BS:∀(a b:Tm) (st:aA),aD prog 38 [a.av,b.av] st (fun r st'=>r=.bool (a.same b)∧st'=st)
 | .mk k n s ts,.mk k' n' s' ts',st=>by
  have hc:=SK ts ts' 38 st fun x hx y st=>BS x y st
  refine wF [] 2 func38 ntmps38 rfl rfl ?_
  intro _
  simp only[bG,Tm.O1]
  simp only[aB,seval,vQ]
  refine cM (fun h1=>?_) (fun h1=>?_)
  case refine_2=>
   simp only[h1,aB,seval]
   simp at h1
   simp []
  simp only[h1,aB,seval,vQ]
  refine cM (fun h2=>?_) (fun h2=>?_)
  case refine_2=>
   simp only[h2,aB,seval]
   simp at h2
   simp []
  simp only[h2,aB,seval,vQ]
  refine cM (fun h3=>?_) (fun h3=>?_)
  case refine_2=>
   simp only[h3,aB,seval]
   simp at h3
   simp []
  simp only[h3,aB,seval,vQ]
  refine hc.to ?_
  simp only[aB,seval]
termination_by a=>SizeOf.sizeOf a
decreasing_by have:=List.sizeOf_lt_of_mem hx;simp only[Tm.mk.sizeOf_spec];omega



end Go.AW
namespace Go.AW

end Go.AW
namespace Go.AW
open Go.Proofs.Tryz

abbrev Bt:=Fin 256
def dW(b:Bt):AV:=.int .u8 (b.val:Int)
theorem t9(b:Bt):(dW b).width=1:=rfl
def bZ(st:aA)(c:Nat)(bs:List Bt)(p:Nat):Prop:=st c=some (.cells [.slice (bs.map dW),.int .i64 (p:Int)])
def aV(bs:List Bt)(p:Nat):AO:=.cells [.slice (bs.map dW),.int .i64 (p:Int)]
theorem AH(a b:Nat):(a:Int).tmod (b:Int)=((a % b:Nat):Int):=(Int.ofNat_tmod a b).symm
theorem PG(a b:Nat):(a:Int).tdiv (b:Int)=((a / b:Nat):Int):=(Int.ofNat_tdiv a b).symm
theorem RH(a b:Nat)(ha:a<2 ^ 62)(hb:b<2 ^ 62):∃m:Nat,rN .i64 (a:Int) (b:Int)=(m:Int):=by
 have hx:=Nat.xor_lt_two_pow ha hb
 refine⟨a ^^^ b,?_⟩
 unfold rN
 show IntKind.i64.wrap (((BitVec.ofInt 64 (a:Int) ^^^ BitVec.ofInt 64 (b:Int)).toNat:Nat):Int)=_
 rw[BitVec.ofInt_natCast,BitVec.ofInt_natCast,BitVec.toNat_xor,BitVec.toNat_ofNat,BitVec.toNat_ofNat,Nat.mod_eq_of_lt (by omega),Nat.mod_eq_of_lt (by omega)]
 rw[wrap64 (by omega) (by omega)]
abbrev s6:=zi a7 (zi gE (zi q8 (zi kP P3)))
theorem iL(bs:List Bt)(c p:Nat)(hp:p≤1099511627776)(n:Nat)(hn:1≤n)(hn2:n≤1048576)(st:aA)(h:bZ st c bs p) :
 aD prog 30 [.ptr c 0,.int .i64 (n:Int)] st (fun r st'=>∃k:Nat,k<n∧r=.int .i64 (k:Int)∧st'=st.aC c (aV bs (p+1))):=by
 unfold bZ at h
 refine wF [1000000] 2 func30 ntmps30 rfl rfl ?_
 intro _
 have hw1:IntKind.i64.wrap ((p:Int)+1)=(p:Int)+1:=wrap64 (by omega) (by omega)
 simp only[aH,h,hw1,aB,seval,s6]
 have hn1:¬(n:Int)<1:=by omega
 have hw2:IntKind.i64.wrap ((p:Int)+1 - 1)=(p:Int):=by rw[wrap64 (by omega) (by omega)];omega
 have hst:∀(q:aA),q c=some (.cells [.slice (bs.map dW),.int .i64 ((p:Int)+1)])→True:=fun _ _=>trivial
 have hrd:aV bs (p+1)=.cells [.slice (bs.map dW),.int .i64 ((p:Int)+1)]:=by simp [aV]
 rw[hrd]
 refine cM (fun h1=>?_) (fun h1=>?_)
 case refine_2=>simp [hn1] at h1
 simp only[aZ,i8,hn1,aF,aB,seval,s6]
 refine bC (fun h2=>?_) (fun h2=>?_)
 · simp only[aB,seval]
   exact⟨0,by omega,rfl⟩
 simp only[hw2,aF,aB,seval,s6]
 have hbl:bs.length≠0:=by simpa using h2
 refine bC (fun h3=>?_) (fun h3=>?_)
 · simp only[a9] at h3
   obtain⟨x,hx⟩:∃x,bs[p]?=some x:=⟨_,eD (by omega)⟩
   have hx2:=x.isLt
   have hb1:IntKind.i64.wrap (x.val:Int)=(x.val:Int):=wrap64 (by omega) (by omega)
   have hn0:¬(n:Int)=0:=by omega
   have yM:iZ prog 22 (.slice (bs.map dW)) (.int .i64 (p:Int))=some (.pptr (.int .u8 x.val)):=cI (av:=dW) r5 hx (t9 x)
   simp only[yM,kW,hb1,hn0,aB,seval,s6]
   exact⟨x.val % n,Nat.mod_lt _ (by omega),by rw[AH]⟩
 · simp only[c5] at h3
   obtain⟨x,hx⟩:∃x,bs[p % bs.length]?=some x:=⟨_,eD (Nat.mod_lt _ (by omega))⟩
   obtain⟨y,hy⟩:∃y,bs[(p*7+3) % bs.length]?=some y:=⟨_,eD (Nat.mod_lt _ (by omega))⟩
   have hx2:=x.isLt
   have hy2:=y.isLt
   have hl0:¬(bs.length:Int)=0:=by omega
   simp only[aB,seval]
   refine q9 [(0,1),(1,1),(2,1),(3,1),(4,1),(5,1),(6,1),(7,1),(8,1),(9,1),(10,1),(11,1),(12,1),(13,1),(14,1),(15,1),(16,1),(17,1),(18,1),(19,1),(20,1),(21,1),(22,1),(23,1),(24,1),(25,1),(26,1),(27,1),(28,1),(29,1),(30,1),(31,1),(32,1),(33,1),(34,1),(35,1),(36,1),(37,1),(38,1),(39,1),(40,1),(41,1),(42,1),(43,1),(44,1),(45,1)] [0,1,2,3,4,5,6,7,8,9,10,11,12,13,14,15,16,17,18,19,20,21,22,23,24,25,26,27,28,29,30,31,32,33,34,35,36,37,38,39,40,41,42,43,44,45] (g9.aC c (.cells [.slice (bs.map dW),.int .i64 ((p:Int)+1)])) mixed (by decide +kernel) (by decide +kernel) (by decide +kernel) rfl (iM (aA.aY _ _ _)) ?_
   have e7:IntKind.i64.wrap ((p:Int)*7)=(p:Int)*7:=wrap64 (by omega) (by omega)
   have e8:IntKind.i64.wrap ((p:Int)*7+3)=(p:Int)*7+3:=wrap64 (by omega) (by omega)
   have e9:((p:Int)*7+3).tmod (bs.length:Int)=(((p*7+3) % bs.length:Nat):Int):=by rw[←AH];congr 1
   have f1:IntKind.i64.wrap ((x.val:Int)*131)=(x.val:Int)*131:=wrap64 (by omega) (by omega)
   have f2:IntKind.i64.wrap ((y.val:Int)*1117)=(y.val:Int)*1117:=wrap64 (by omega) (by omega)
   have f3:IntKind.i64.wrap ((x.val:Int)*131+(y.val:Int)*1117)=(x.val:Int)*131+(y.val:Int)*1117:=wrap64 (by omega) (by omega)
   have f4:IntKind.i64.wrap ((p:Int)*29)=(p:Int)*29:=wrap64 (by omega) (by omega)
   have f5:IntKind.i64.wrap ((x.val:Int)*131+(y.val:Int)*1117+(p:Int)*29)=(x.val:Int)*131+(y.val:Int)*1117+(p:Int)*29:=wrap64 (by omega) (by omega)
   have hb1:IntKind.i64.wrap (x.val:Int)=(x.val:Int):=wrap64 (by omega) (by omega)
   have hb2:IntKind.i64.wrap (y.val:Int)=(y.val:Int):=wrap64 (by omega) (by omega)
   generalize hjx:p % bs.length=jx at *
   generalize hjy:(p*7+3) % bs.length=jy at *
   have e10:(p:Int).tmod (bs.length:Int)=(jx:Int):=by rw[AH,hjx]
   have yM:iZ prog 22 (.slice (bs.map dW)) (.int .i64 (jx:Int))=some (.pptr (.int .u8 x.val)):=cI (av:=dW) r5 hx (t9 x)
   have W3:iZ prog 22 (.slice (bs.map dW)) (.int .i64 (jy:Int))=some (.pptr (.int .u8 y.val)):=cI (av:=dW) r5 hy (t9 y)
   have hdv:p / bs.length≤p:=Nat.div_le_self _ _
   generalize hq:p / bs.length=q at *
   have hqq:IntKind.i64.wrap ((p:Int).tdiv (bs.length:Int))=(q:Int):=by rw[PG,hq,wrap64 (by omega) (by omega)]
   have f6:IntKind.i64.wrap ((q:Int)*53)=(q:Int)*53:=wrap64 (by omega) (by omega)
   obtain⟨z,hz,hz2⟩:∃z:Nat,(x.val:Int)*131+(y.val:Int)*1117+(p:Int)*29+(q:Int)*53=(z:Int)∧z<2 ^ 61:=⟨x.val*131+y.val*1117+p*29+q*53,by omega,by omega⟩
   have f7:IntKind.i64.wrap ((x.val:Int)*131+(y.val:Int)*1117+(p:Int)*29+(q:Int)*53)=(z:Int):=by rw[hz];exact wrap64 (by omega) (by omega)
   have aB8:z / 64≤z:=Nat.div_le_self _ _
   obtain⟨m,hm⟩:=RH z (z / 64) (by omega) (by omega)
   have f8:IntKind.i64.wrap ((z:Int).tdiv 64)=((z / 64:Nat):Int):=by rw[show(64:Int)=((64:Nat):Int) from rfl,PG,wrap64 (by omega) (by omega)]
   generalize z / 64=z2 at *
   have hn0:¬(n:Int)=0:=by omega
   simp only[aF,hl0,e7,e8,e9,e10,f1,f2,f3,f4,f5,f6,f7,f8,hm,hn0,yM,W3,hb1,hb2,hqq,kW,aB,seval,s6]
   exact⟨m % n,Nat.mod_lt _ (by omega),rfl⟩
abbrev PJ:=zi a7 (zi lK kP)
theorem UA(l:List Int)(h1:1≤l.length)(h2:l.length≤1048576)(bs:List Bt)(c p:Nat)(hp:p≤1099511627776)(st:aA)(h:bZ st c bs p) :
 aD prog 99 [.ptr c 0,.slice (l.map iv)] st (fun r st'=>∃x∈l,r=.int .i64 x∧st'=st.aC c (aV bs (p+1))):=by
 refine wF [1000000] 2 func99 ntmps99 rfl rfl ?_
 intro _
 simp only[aF,aB,seval,PJ]
 refine(iL bs c p hp l.length h1 h2 st h).mono ?_
 rintro _ _ ⟨k,hk,rfl,rfl⟩
 obtain⟨x,hx⟩:∃x,l[k]?=some x:=⟨_,eD hk⟩
 have hat:=cI (av:=iv) uJ hx rfl
 simp only[hat,aB,seval,PJ]
 exact⟨x,dD hx,rfl⟩
theorem p5(l:List Int)(h1:1≤l.length)(h2:l.length≤1048576)(bs:List Bt)(c p:Nat)(hp:p≤1099511627776)(st:aA)(h:bZ st c bs p) :
 aD prog 99 [.ptr c 0,.fslice (l.map iv)] st (fun r st'=>∃x∈l,r=.int .i64 x∧st'=st.aC c (aV bs (p+1))):=
 aD.kN (by simp only[dK,AV.soft];exact UA l h1 h2 bs c p hp st h)
abbrev PI:=zi a7 (zi bW (zi kP iT))
theorem UB(l:List ByteArray)(h1:1≤l.length)(h2:l.length≤1048576)(bs:List Bt)(c p:Nat)(hp:p≤1099511627776)(st:aA)(h:bZ st c bs p) :
 aD prog 135 [.ptr c 0,.slice (l.map AV.str)] st (fun r st'=>∃x∈l,r=.str x∧st'=st.aC c (aV bs (p+1))):=by
 refine wF [1000000] 2 func135 ntmps135 rfl rfl ?_
 intro _
 simp only[aF,aB,seval,PI]
 refine(iL bs c p hp l.length h1 h2 st h).mono ?_
 rintro _ _ ⟨k,hk,rfl,rfl⟩
 obtain⟨x,hx⟩:∃x,l[k]?=some x:=⟨_,eD hk⟩
 have hat:=cI (av:=AV.str) lC hx rfl
 simp only[hat,aB,seval,PI]
 exact⟨x,dD hx,rfl⟩
theorem rV(l:List ByteArray)(h1:1≤l.length)(h2:l.length≤1048576)(bs:List Bt)(c p:Nat)(hp:p≤1099511627776)(st:aA)(h:bZ st c bs p) :
 aD prog 135 [.ptr c 0,.fslice (l.map AV.str)] st (fun r st'=>∃x∈l,r=.str x∧st'=st.aC c (aV bs (p+1))):=
 aD.kN (by simp only[dK,AV.soft];exact UB l h1 h2 bs c p hp st h)
abbrev zZ:=zi a7 (zi q8 (zi kP P3))
theorem S5(bs:List Bt)(st:aA):aD prog 28 [.slice (bs.map dW)] st (fun r st'=>∃c bs',r=.ptr c 0∧st c=none∧st'=st.aC c (aV bs' 0)):=by
 refine wF [1000000,10] 1 func28 ntmps28 rfl rfl ?_
 simp only[cS,AV.fits,dV,aF]
 intro ⟨hl,_⟩
 have hs:bs.length>2000→∀φ,j7 prog φ 22 (.slice (bs.map dW)) none (some (.const (.int .i64 2000))) none=some (.slice ((bs.take 2000).map dW)):=fun h φ=>by
  have h2:((0:Int)≤2000∧(2000:Int)≤(bs.map dW).length):=⟨by omega,by rw[aF];omega⟩
  have h3:dJ φ (some (.const (.int .i64 2000))) (bs.map dW).length (bs.map dW).length=some 2000:=by
   show(if((0:Int)≤2000∧(2000:Int)≤(bs.map dW).length) then some (Int.toNat 2000) else none)=some 2000
   exact a4 h2
  unfold j7 n6
  rw[aQ (by simp [sL])]
  simp only[r5]
  have h4:dJ φ none (bs.map dW).length (bs.map dW).length=some (bs.map dW).length:=rfl
  rw[h4]
  simp only[h3]
  have h5:dJ φ none 0 2000=some 0:=rfl
  rw[h5]
  simp
 simp only[aF,aB,seval,zZ]
 refine bC (fun h=>?_) (fun h=>?_)
 · simp only[a9] at h
   have hs':=hs (by omega)
   simp only[hs',aB,seval,zZ]
   intro b hb
   exact⟨b,bs.take 2000,rfl,hb,by simp [aV]⟩
 · simp only[aB,seval,zZ]
   intro b hb
   exact⟨b,bs,rfl,hb,by simp [aV]⟩
abbrev ZU:=zi a7 bN
theorem xO(n:Int)(st:aA):aD prog 108 [.int .i64 n] st (fun r st'=>r=(vr n).av∧st'=st):=by
 refine aD.done ?_
 refine wF [1000000] 1 func108 ntmps108 rfl rfl ?_
 intro _
 simp only[aH,aB,seval,ZU]
 intro b hb
 exact⟨by simp only[vr,bG,iE,gP,iF,jH,b9,bJ],(aN.refl _).aC hb⟩
abbrev ZV:=zi aAC (zi a7 bN)
theorem rU(n:Int)(st:aA):aD prog 109 [.int .i64 n] st (fun r st'=>r=(Tm.mk 2 n ⟨#[]⟩ []).av∧st'=st):=by
 refine aD.done ?_
 refine wF [1000000] 1 func109 ntmps109 rfl rfl ?_
 intro _
 simp only[aH,aB,seval,ZV]
 intro b hb
 exact⟨by simp only[bG,iE,gP,iF,jH,b9,bJ],(aN.refl _).aC hb⟩
abbrev vN:=zi a7 (zi bW (zi b8 bN))
theorem TI(s:ByteArray)(l:List Tm)(hl:l.length≤1048576)(st:aA):aD prog 57 [.str s,.slice (l.map Tm.av)] st (fun r st'=>r=(Tm.mk 3 0 s l).av∧st'=st):=by
 refine aD.oD (aD.fin ?_)
 refine wF [1000000] 2 func57 ntmps57 rfl rfl ?_
 intro _
 simp only[aB,seval,vN]
 intro b hb
 change gT prog 25 (aU (st.aC b (.cells [.int .i64 0,.int .i64 0,.str ⟨#[]⟩,.fslice []])) 0 []) (aP 4 0 []) (.slice (l.map Tm.av)) _
 refine eJ cH fT fU rfl rfl (by intro e he;simp only[gR] at he;obtain⟨t,_,rfl⟩:=he;exact⟨aO _,bL _⟩) (by simp) (fun h=>absurd rfl h) (by simp only[bO,aF];omega) (by simp only[bO,aF];omega) (fun b' hb'=>?_)
 rw[dR] at hb' ⊢
 have hne:l.map Tm.av≠[]→b≠b':=fun h e=>by have:=hb' h;rw[←e,aA.aY] at this;cases this
 have h1:aU (st.aC b (.cells [.int .i64 0,.int .i64 0,.str ⟨#[]⟩,.fslice []])) b' (l.map Tm.av) b=some (.cells [.int .i64 0,.int .i64 0,.str ⟨#[]⟩,.fslice []]):=by
  by_cases h:l.map Tm.av= []
  · rw[h,pU,aA.aY]
  · rw[rO (hne h),aA.aY]
 simp only[aH,h1,j8,dN,rP,aB,seval,vN]
 rw[lZ hne,cF]
 exact⟨b',l.map Tm.av,st.aC b _,rfl,fun h=>by rw[aA.bK _ _ (dQ (hne h))];have:=hb' h;rwa [aA.bK _ _ (dQ (hne h))] at this,fC _,⟨4,c7 _⟩,by simp only[bG,gZ,eR,gK,oG,b9,bJ],(aN.refl _).aC hb⟩
theorem k8(s:ByteArray)(l:List Tm)(hl:l.length≤1048576)(st:aA):aD prog 57 [.str s,.fslice (l.map Tm.av)] st (fun r st'=>r=(Tm.mk 3 0 s l).av∧st'=st):=
 aD.kN (by simp only[dK,AV.soft];exact TI s l hl st)
theorem TJ(s:ByteArray)(st:aA):aD prog 57 [.str s,.fslice []] st (fun r st'=>r=.agg [.int .i64 3,.int .i64 0,.str s,.fslice []]∧st'=st):=by
 refine aD.drop ?_
 refine wF [1000000] 2 func57 ntmps57 rfl rfl ?_
 intro _
 simp only[aB,seval,vN]
 intro b hb
 change gT prog 25 (aU (st.aC b (.cells [.int .i64 0,.int .i64 0,.str ⟨#[]⟩,.fslice []])) 0 []) (aP 4 0 []) (.fslice ([]:List AV)) _
 refine eJ cH fT fU rfl rfl (by simp [pV]) (by simp) (fun h=>absurd rfl h) (by simp) (by simp) (fun b' hb'=>?_)
 simp only[iX,i7,pU]
 simp only[aH,aB,seval,vN]
 exact(aN.refl _).aC hb
abbrev Dn (t:Tm):Prop:=t.cv=true∧t.small=true
theorem x9(n:Int):Dn (vr n):=by
 refine⟨Tm.CN.2 ⟨fun _=>⟨rfl,rfl⟩,fun x hx=>by cases hx⟩,?_⟩
 simp [vr,Tm.small,tE]
theorem nC{k n:Int}{s:ByteArray}{ts:List Tm}(hk:k≠1)(hl:ts.length≤1048576)(h:∀x∈ts,Dn x):Dn (.mk k n s ts):=by
 refine⟨Tm.CN.2 ⟨fun h=>absurd h hk,fun x hx=>(h x hx).1⟩,?_⟩
 simp only[Tm.small,v9,bX,a9,fD]
 exact⟨hl,fun x hx=>(h x hx).2⟩
def Dr(bs:List Bt)(c p m:Nat)(st:aA)(Q:AV→Prop)(r:AV)(st':aA):Prop:=∃p',p≤p'∧p'≤p+m∧st'=st.aC c (aV bs p')∧Q r
def wM(r:AV):Prop:=∃t:Tm,Dn t∧r=t.av
theorem bZ.aC{st:aA}{c p:Nat}{bs:List Bt}{b:Nat}{o:AO}(h:bZ st c bs p)(hb:b≠c):bZ (st.aC b o) c bs p:=by unfold bZ;rw[aA.bK _ _ (dQ hb)];exact h
theorem bZ.new{st:aA}{c p:Nat}{bs:List Bt}:bZ (st.aC c (aV bs p)) c bs p:=aA.aY _ _ _
theorem bZ.ne{st:aA}{c p:Nat}{bs:List Bt}{b:Nat}(h:bZ st c bs p)(hb:st b=none):b≠c:=by rintro rfl;rw[bZ,hb] at h;cases h
abbrev fW:=zi a7 (zi cC (zi bW (zi b8 (zi lK (zi bN (zi kP iT))))))
theorem BZ(bs:List Bt)(c:Nat):∀(d p:Nat) (st:aA),d≤10→p+4 ^ (d+2)≤1099511627776→bZ st c bs p→aD prog 174 [.ptr c 0,.int .i64 (d:Int)] st (Dr bs c p (4 ^ (d+2)) st wM)
 | d,p,st,hd,hp,hR=>by
  have IH:=fun(d':Nat) (hlt:d'<d) p st=>BZ bs c d' p st
  refine aD.oE (aD.fin ?_)
  refine wF [1000000,5] 2 func174 ntmps174 rfl rfl ?_
  intro _
  simp only[aB,seval,fW]
  intro b4 h4
  have h4c:=hR.ne h4
  have hR':=fun o=>hR.aC (o:=o) h4c
  have XN:64≤4 ^ (d+2)∨d=0:=by
   cases d with
   | zero=>exact .inr rfl
   | succ d=>
    left
    have:4 ^ (d+1+2)=64*4 ^ d:=by rw[show d+1+2=d+3 by omega,Nat.pow_add];omega
    have:=Nat.one_le_two_pow (n:=d);have:1≤4 ^ d:=Nat.one_le_pow _ _ (by omega);omega
  have XO:16≤4 ^ (d+2):=by rcases XN with h | rfl<;>omega
  have jB:∀(o o':AO) (q:Nat) (t:Tm),p≤q→q≤p+4 ^ (d+2)→Dn t→∃b l s0,((st.aC b4 o).aC c (aV bs q)).aC b4 o'=aU s0 b l∧(l≠[]→s0 b=none)∧(∀e∈l,e.bA=false)∧eL l∧∃s2,aN s0 s2∧Dr bs c p (4 ^ (d+2)) st wM (AV.fin b l t.av) s2:=fun o o' q t h1 h2 h3=>by
   refine⟨0,[],_,rfl,by simp,by simp,⟨4,by simp⟩,st.aC c (aV bs q),?_,q,h1,h2,rfl,t,h3,Tm.M6 t 0⟩
   intro x
   by_cases e4:x=b4<;>by_cases ec:x=c<;>simp_all [aA.aC]
  refine cM (fun h=>?_) (fun h=>?_)
  case refine_2=>
   simp only[h,aB,seval]
   have hRq:=hR' (.cells [.int .i64 0,.int .i64 0,.str ⟨#[]⟩,.fslice []])
   have hq:p+1≤1099511627776:=by omega
   have:=h4c.symm
   refine(iL bs c (p) (by omega) 4 (by omega) (by omega) _ hRq).mono ?_
   rintro _ _ ⟨k,hk,rfl,rfl⟩
   try rw[cF]
   simp only[aB,seval]
   refine bC (fun h1=>?_) (fun h1=>?_)
   · simp only[aB,seval]
     refine(iL bs c (p+1) (by omega) 4 (by omega) (by omega) _ bZ.new).mono ?_
     rintro _ _ ⟨k2,hk2,rfl,rfl⟩
     rw[cF]
     simp only[aB,seval]
     refine(xO (k2:Int) _).to ?_
     simp only[aW,bL,cW (aW _),cR (aR _),aH,h4c,aB,seval,fW]
     exact jB _ _ _ (vr k2) (by omega) (by omega) (x9 _)
   simp only[aB,seval]
   refine bC (fun h2=>?_) (fun h2=>?_)
   · simp only[aB,seval,fW]
     refine(p5 [0,1,7,-3,999,-999] (by simp) (by simp) bs c (p+1) (by omega) _ bZ.new).mono ?_
     rintro _ _ ⟨x,hx,rfl,rfl⟩
     rw[cF]
     simp only[aB,seval]
     refine(rU x _).to ?_
     simp only[aW,bL,cW (aW _),cR (aR _),aH,h4c,aB,seval,fW]
     exact jB _ _ _ (.mk 2 x ⟨#[]⟩ []) (by omega) (by omega) (nC (by omega) (by simp) (by simp))
   · simp only[aB,seval,fW]
     refine(rV [⟨#[97]⟩,⟨#[98]⟩,⟨#[110,105,108]⟩,⟨#[91,93]⟩,⟨#[102,111,111]⟩,⟨#[43]⟩] (by simp) (by simp) bs c (p+1) (by omega) _ bZ.new).mono ?_
     rintro _ _ ⟨x,hx,rfl,rfl⟩
     rw[cF]
     simp only[aB,seval]
     refine(k8 x [] (by simp) _).to ?_
     simp only[aW,bL,cW (aW _),cR (aR _),aH,h4c,aB,seval,fW]
     exact jB _ _ _ (.mk 3 0 x []) (by omega) (by omega) (nC (by omega) (by simp) (by simp))
  simp only[h,aB,seval]
  have hd2:2≤d:=by simp at h;omega
  have hwx:∀z:Int,z=(d:Int)→IntKind.i64.wrap (z - 1)=z - 1:=fun z hz=>wrap64 (by omega) (by omega)
  obtain⟨d',rfl⟩:∃d',d=d'+1:=⟨d - 1,by omega⟩
  have hpd:4 ^ (d'+1+2)=4*4 ^ (d'+2):=by rw[show d'+1+2=d'+2+1 by omega,Nat.pow_succ];omega
  have hp4:4≤4 ^ (d'+2):=by have:1≤4 ^ d':=Nat.one_le_pow _ _ (by omega);rw[Nat.pow_add];omega
  have hwd:IntKind.i64.wrap (((d'+1:Nat):Int) - 1)=(d':Int):=by rw[wrap64 (by omega) (by omega)];omega
  have y5:IntKind.i64.wrap ((d':Int)+1 - 1)=(d':Int):=by rw[wrap64 (by omega) (by omega)];omega
  have IHd:=fun p st=>IH d' (Nat.lt_succ_self _) p st
  generalize hM:4 ^ (d'+2)=M at *
  rw[hpd] at hp XO
  refine(iL bs c p (by omega) 4 (by omega) (by omega) _ (hR' _)).mono ?_
  rintro _ _ ⟨k,hk,rfl,rfl⟩
  simp only[aB,seval]
  refine bC (fun h1=>?_) (fun h1=>?_)
  · have hRq:bZ ((st.aC b4 (.cells [.int .i64 0,.int .i64 0,.str ⟨#[]⟩,.fslice []])).aC c (aV bs (p+1))) c bs (p+1):=bZ.new
    simp only[aB,seval]
    refine(iL bs c (p+1) (by omega) 4 (by omega) (by omega) _ hRq).mono ?_
    rintro _ _ ⟨k,hk,rfl,rfl⟩
    try rw[cF]
    simp only[aB,seval]
    refine bC (fun h1=>?_) (fun h1=>?_)
    · simp only[aB,seval]
      refine(iL bs c (p+1+1) (by omega) 4 (by omega) (by omega) _ bZ.new).mono ?_
      rintro _ _ ⟨k2,hk2,rfl,rfl⟩
      rw[cF]
      simp only[aB,seval]
      refine(xO (k2:Int) _).to ?_
      simp only[aW,bL,cW (aW _),cR (aR _),aH,h4c,aB,seval,fW]
      exact jB _ _ _ (vr k2) (by omega) (by omega) (x9 _)
    simp only[aB,seval]
    refine bC (fun h2=>?_) (fun h2=>?_)
    · simp only[aB,seval,fW]
      refine(p5 [0,1,7,-3,999,-999] (by simp) (by simp) bs c (p+1+1) (by omega) _ bZ.new).mono ?_
      rintro _ _ ⟨x,hx,rfl,rfl⟩
      rw[cF]
      simp only[aB,seval]
      refine(rU x _).to ?_
      simp only[aW,bL,cW (aW _),cR (aR _),aH,h4c,aB,seval,fW]
      exact jB _ _ _ (.mk 2 x ⟨#[]⟩ []) (by omega) (by omega) (nC (by omega) (by simp) (by simp))
    · simp only[aB,seval,fW]
      refine(rV [⟨#[97]⟩,⟨#[98]⟩,⟨#[110,105,108]⟩,⟨#[91,93]⟩,⟨#[102,111,111]⟩,⟨#[43]⟩] (by simp) (by simp) bs c (p+1+1) (by omega) _ bZ.new).mono ?_
      rintro _ _ ⟨x,hx,rfl,rfl⟩
      rw[cF]
      simp only[aB,seval]
      refine(k8 x [] (by simp) _).to ?_
      simp only[aW,bL,cW (aW _),cR (aR _),aH,h4c,aB,seval,fW]
      exact jB _ _ _ (.mk 3 0 x []) (by omega) (by omega) (nC (by omega) (by simp) (by simp))
  · simp only[aB,seval]
    refine(iL bs c (p+1) (by omega) 3 (by omega) (by omega) _ bZ.new).mono ?_
    rintro _ _ ⟨k2,hk2,rfl,rfl⟩
    rw[cF]
    simp only[aB,seval]
    refine bC (fun h2=>?_) (fun h2=>?_)
    · simp only[y5,aB,seval]
      refine(IHd (p+1+1) _ (by omega) (by omega) bZ.new).mono ?_
      rintro _ _ ⟨p1,hp1,XM,rfl,t1,ht1,rfl⟩
      rw[cF]
      simp only[y5,aB,seval]
      refine(IHd p1 _ (by omega) (by omega) bZ.new).mono ?_
      rintro _ _ ⟨p2,hp2,aB6,rfl,t2,ht2,rfl⟩
      rw[cF]
      simp only[aB,seval,fW]
      refine(k8 ⟨#[46]⟩ [t1,t2] (by simp) _).to ?_
      simp only[aW,bL,cW (aW _),cR (aR _),aH,h4c,aB,seval,fW]
      exact jB _ _ _ (.mk 3 0 ⟨#[46]⟩ [t1,t2]) (by omega) (by omega) (nC (by omega) (by simp) (by intro x hx;simp only[iG,pE,or_false] at hx;rcases hx with rfl | rfl<;>assumption))
    · simp only[aB,seval,fW]
      refine(rV [⟨#[102]⟩,⟨#[103]⟩,⟨#[115]⟩,⟨#[43]⟩,⟨#[61]⟩,⟨#[105,115]⟩,⟨#[102,111,111]⟩] (by simp) (by simp) bs c (p+1+1) (by omega) _ bZ.new).mono ?_
      rintro _ _ ⟨x,_,rfl,rfl⟩
      rw[cF]
      simp only[aB,seval]
      refine(TJ x _).to ?_
      simp only[aH,aB,↓bD,seval,fW]
      intro b5 h5
      have h54:b5≠b4:=by rintro rfl;simp [aA.aC,h4c] at h5
      have h5c:b5≠c:=by rintro rfl;simp [aA.aC] at h5
      have hn5:st b5=none:=by rw[aA.bK _ _ h5c,aA.bK _ _ h54] at h5;exact h5
      refine(p5 [2,1,3,2] (by simp) (by simp) bs c (p+1+1+1) (by omega) _ (bZ.new.aC h5c)).mono ?_
      rintro _ _ ⟨y,hy,rfl,rfl⟩
      obtain⟨n,rfl,hn⟩:∃n:Nat,y=n∧n≤3:=by
       simp only[iG,pE,or_false] at hy
       rcases hy with rfl | rfl | rfl | rfl
       · exact⟨2,rfl,by omega⟩
       · exact⟨1,rfl,by omega⟩
       · exact⟨3,rfl,by omega⟩
       · exact⟨2,rfl,by omega⟩
      rw[aA.aAR h5c,aA.nV _ _ _ h5c]
      have hW4:∀q,((st.aC b4 (.cells [.int .i64 0,.int .i64 0,.str ⟨#[]⟩,.fslice []])).aC c (aV bs q)) b4=some (.cells [.int .i64 0,.int .i64 0,.str ⟨#[]⟩,.fslice []]):=fun q=>by rw[aA.bK _ _ h4c,aA.aY]
      simp only[aB,seval]
      refine fY (σ:=Nat×Nat×List Tm×Nat) [1000000,5] [0,1,4,5]
       (fun s=>(s.2.2.1.map Tm.av≠[]→(aA.aC ((st.aC b4 (.cells [.int .i64 0,.int .i64 0,.str ⟨#[]⟩,.fslice []])).aC c (aV bs s.2.2.2)) b5 (.cells ([.int .i64 3,.int .i64 0,.str x]++ [aP 4 s.2.1 (s.2.2.1.map Tm.av)]))) s.2.1=none)∧s.2.2.1.length+s.1≤3∧(∀t∈s.2.2.1,Dn t)∧p≤s.2.2.2∧s.2.2.2+s.1*M≤p+4*M)
       (fun s=>[(6,.int .i64 s.1)]) (fun s=>dB ((st.aC b4 (.cells [.int .i64 0,.int .i64 0,.str ⟨#[]⟩,.fslice []])).aC c (aV bs s.2.2.2)) b5 s.2.1 [.int .i64 3,.int .i64 0,.str x] (s.2.2.1.map Tm.av)) (fun s=>s.1) (by decide +kernel)
       ⟨(n,0,[],p+1+1+1+1),⟨fun h=>absurd rfl h,by simpa using hn,by simp,by simp only;omega,?_⟩,aL.mk (by simp only[aB,seval])⟩ ?_
      · simp only
        have:=lU M hn
        omega
      rintro⟨i,b,acc,q⟩ ⟨i1,i2,i3,i4,i5⟩
      simp only at i1 i2 i3 i4 i5
      simp only[aB,seval]
      refine bC (fun h3=>?_) (fun h3=>?_)
      · simp only[a9] at h3
        have hbo:=c6 i1
        have hSc:((st.aC b4 (.cells [.int .i64 0,.int .i64 0,.str ⟨#[]⟩,.fslice []])).aC c (aV bs q)) c≠none:=by rw[aA.aY];simp
        have hRk:bZ (dB ((st.aC b4 (.cells [.int .i64 0,.int .i64 0,.str ⟨#[]⟩,.fslice []])).aC c (aV bs q)) b5 b [.int .i64 3,.int .i64 0,.str x] (acc.map Tm.av)) c bs q:=by
         unfold bZ
         rw[eU i1 hSc h5c.symm,aA.aY]
         try rfl
        have hM1:M≤i*M:=by have:=lU M (show 1≤i by omega);omega
        have hMi:(i - 1)*M+M=i*M:=by rw[←mV];congr 1;omega
        have hwi:IntKind.i64.wrap ((i:Int) - 1)=((i - 1:Nat):Int):=by rw[wrap64 (by omega) (by omega)];omega
        have cO:(acc.map Tm.av).length≤3:=by rw[aF];omega
        simp only[aB,seval]
        refine q9 [(0,1),(1,1),(2,1),(3,1),(4,1),(5,0),(6,1),(7,0),(8,1),(9,2)] [0,1,2,3,4,6,8] (g9.aC b5 (.cells [.int .i64 3,.int .i64 0,.str x,aP 4 b (acc.map Tm.av)])) mixed (by decide +kernel) (by decide +kernel) (by decide +kernel) rfl (iM hbo) ?_
        simp only[y5,jN,aB,seval,fW]
        refine(IHd q _ (by omega) (by omega) hRk).mono ?_
        rintro _ _ ⟨q',hq1,hq2,rfl,t,ht,rfl⟩
        obtain⟨e1,i1'⟩:=kI (o:=aV bs q') i1 hSc h5c.symm
        rw[cF] at e1 i1'
        rw[e1]
        simp only[aR,aO,bV,aB,seval,fW]
        refine⟨iM (c6 i1'),?_⟩
        refine eJ cH fT fU rfl rfl (eS (aO _) (bL _)) (c7 _) i1' (by simp only[bE,bO];omega) (by simp only[bE,bO];omega) (fun b' hb'=>?_)
        rw[show acc.map Tm.av++ [t.av]=(acc++ [t]).map Tm.av by simp] at hb' ⊢
        obtain⟨g1,g2,g3⟩:=lF hb'
        simp only[dZ,dR] at g1 g3
        simp only[aH,dN,j8,aB,seval,fW]
        refine⟨iM g3,?_⟩
        simp only[g3,g1,hwi,aB,seval]
        refine⟨(i - 1,b',acc++ [t],q'),by simp only;omega,⟨g2,by simp only[dM,bE,bO];omega,fun u hu=>?_,by simp only;omega,by simp only;omega⟩,aL.mk (by simp only[aB,seval])⟩
        rcases j2.1 hu with hu | hu
        · exact i3 u hu
        · simp only[iG,pE,or_false] at hu
          subst hu
          exact ht
      · have hbo:=c6 i1
        have h4o:=eU i1 (x:=b4) (by rw[hW4];simp) h54.symm
        rw[hW4] at h4o
        simp only[aH,hbo,h4o,dN,aB,seval,fW]
        obtain⟨g5,g6⟩:=gN (o:=.cells [.int .i64 3,.int .i64 0,.str x,aP 4 b (acc.map Tm.av)]) i1 (show((st.aC b4 (.cells [.int .i64 0,.int .i64 0,.str ⟨#[]⟩,.fslice []])).aC c (aV bs q)) b4≠none by rw[hW4];simp) h54.symm
        refine⟨b,_,_,g5,g6,fC _,⟨4,c7 _⟩,st.aC c (aV bs q),?_,q,i4,by omega,rfl,.mk 3 0 x acc,nC (by omega) (by omega) i3,?_⟩
        · intro y
          by_cases e4:y=b4<;>by_cases ec:y=c<;>by_cases e5:y=b5<;>simp_all [aA.aC]
        · simp only[gZ,b9,bJ,eR,gK,fJ,bG]
termination_by d=>d
decreasing_by exact hlt




end Go.AW
namespace Go.AW
section
variable {ρ:Int→Int} {N:Int} {σ τ:Sub}
end
section
variable {ρ:Int→Int} {N:Nat} {σ τ:Sub}
end
end Go.AW
namespace Go.AW
open Go.Proofs.Tryz


end Go.AW
namespace Go.AW
abbrev Cl:=Tm×List Tm
def aX:Cl→AV
 | (.mk k n s ts,b)=>.agg [.int .i64 k,.int .i64 n,.str s,.slice (ts.map Tm.av),.slice (b.map Tm.av)]
theorem dH(k n:Int)(s:ByteArray)(ts b:List Tm):aX (.mk k n s ts,b)=.agg [.int .i64 k,.int .i64 n,.str s,.slice (ts.map Tm.av),.slice (b.map Tm.av)]:=rfl
theorem oB(c:Cl):(aX c).isAgg=true:=by obtain⟨⟨k,n,s,ts⟩,b⟩:=c;rfl
theorem gV(c:Cl):(aX c).width=5:=by obtain⟨⟨k,n,s,ts⟩,b⟩:=c;rfl
theorem CL(c:Cl):(aX c).cells.length=5:=by obtain⟨⟨k,n,s,ts⟩,b⟩:=c;rfl
theorem xU(c:Cl):(aX c).cells.all AV.storable=true:=by obtain⟨⟨k,n,s,ts⟩,b⟩:=c;rfl
theorem rY(c:Cl):(aX c).bA=false:=by obtain⟨⟨k,n,s,ts⟩,b⟩:=c;rfl
def mN:Tm→Bool | .mk k _ s ts=>gB k s (ts.length:Int)
def gI(c:Cl):Bool:=c.1.valid&&mN c.1&&(decide (c.2.length≤6)&&c.2.all Tm.goal)
def fP(p:List Cl):Bool:=decide (p.length≤20)&&p.all gI
def NM(c:Cl)(t:Tm):Bool:=decide (c.1.s=t.s)&&decide ((c.1.ts.length:Int)=(t.ts.length:Int))
def kC(p:List Cl)(t:Tm):List Nat:=(List.range p.length).filter fun i=>match p[i]? with
 | some c=>NM c t
 | none=>false
structure AT (c:Cl):Prop where
 head:AY 26 c.1
 body:∀t∈c.2,AY 26 t∧t.k=3
section
variable {p:List Cl} (hp:∀c∈p,AT c)
include hp
variable {cnd:Tm→List Nat→List Nat} (hc:∀(ρ:Int→Int) (t:Tm) (l:List Nat),cnd (OT ρ t) l=cnd t l)
omit hp in
end
section
variable {p:List Cl} (hp:∀c∈p,AT c) {cnd:Tm→List Nat→List Nat} (hc:∀(ρ:Int→Int) (t:Tm) (l:List Nat),cnd (OT ρ t) l=cnd t l)
include hp hc
end
end Go.AW
namespace Go.AW
open Go.Proofs.Tryz
theorem Tm.uP{t:Tm}(h:t.goal=true):t.valid=true:=by
 cases t;simp only[Tm.goal,bX] at h;exact h.1

end Go.AW
namespace Go.AW
theorem aS.of{h:aM}{st st':aA}(hk:∀x,st x=none→st' x=none):aS h st h st':=⟨c9 _,fun x _ e=>⟨rfl,hk x e⟩,fun _ c _ _ e=>⟨c,e,rfl⟩⟩
theorem cN.WW{φ:AF}{st:aA}{b c:Nat}{es cs:List AV}(hbc:b≠c)(h1:st b=some (.cells (es.flatMap AV.cells)))(h2:∀e∈es,e.bA=false)(h3:eL es)(hc:st c=some (.cells cs)) :
 cN φ st φ ((st.erase b).aC c (.cells (gA b es cs))):=fun h tmps S F=>by
 have T2:aS h (st.erase b) h ((st.erase b).aC c (.cells (gA b es cs))):=aS.of fun x hx=>by
  have:x≠c:=by rintro rfl;simp [aA.erase,dQ hbc,hc] at hx
  rw[aA.bK _ _ this];exact hx
 have T:aS h st h ((st.erase b).aC c (.cells (gA b es cs))):=((d9 st b).step h).trans T2
 refine⟨fun x o hx=>?_,T,fun d=>(F d).mono T⟩
 by_cases e:x=c
 · subst e
   rw[aA.aY] at hx
   cases hx
   obtain⟨hl,c0,t,e1,e2,vs,e3,e4⟩:=S x _ hc
   refine⟨hl,c0,t,e1,?_,vs,e3,aG.mono T2 _ _ (aG.fz S h1 h2 h3 cs vs e4)⟩
   rw[uO,aF];exact e2
 · rw[aA.bK _ _ e] at hx
   have hx':st x=some o:=by
    simp only[aA.erase] at hx
    split at hx
    · cases hx
    · exact hx
   obtain⟨hl,y⟩:=S x o hx'
   exact⟨hl,hQ.mono T rfl y⟩
theorem cN.ZM{φ:AF}{st:aA}{c:Nat}{cs:List AV}(hc:st c=some (.cells cs)):cN φ st φ (st.aC c (.cells (dK cs))):=fun h tmps S F=>by
 have T:aS h st h (st.aC c (.cells (dK cs))):=aS.of fun x hx=>by
  have:x≠c:=by rintro rfl;rw[hc] at hx;cases hx
  rw[aA.bK _ _ this];exact hx
 refine⟨fun x o hx=>?_,T,fun d=>(F d).mono T⟩
 by_cases e:x=c
 · subst e
   rw[aA.aY] at hx
   cases hx
   obtain⟨hl,c0,t,e1,e2,vs,e3,e4⟩:=S x _ hc
   refine⟨hl,c0,t,e1,?_,vs,e3,aG.mono T _ _ (aG.soft cs vs e4)⟩
   rw[nO,aF];exact e2
 · rw[aA.bK _ _ e] at hx
   obtain⟨hl,y⟩:=S x o hx
   exact⟨hl,hQ.mono T rfl y⟩
theorem YC{φ:AF}{S:aA}{c b:Nat}{k n:Int}{s:ByteArray}{l:List AV}(hb:l≠[]→(S.aC c (.cells ([.int .i64 k,.int .i64 n,.str s]++ [aP 4 b l]))) b=none)(hj:∀e∈l,e.bA=false)(hE:eL l) :
 cN φ (dB S c b [.int .i64 k,.int .i64 n,.str s] l) φ (S.aC c (.cells [.int .i64 k,.int .i64 n,.str s,.slice l])):=by
 have hcc:=c6 hb
 cases l with
 | nil=>
  have:=cN.ZM (φ:=φ) hcc
  unfold dB at this ⊢
  simp only[pU,cF] at this
  exact this
 | cons y l=>
  have h0:=hb (by simp)
  have hne:b≠c:=by rintro rfl;rw[aA.aY] at h0;cases h0
  have h1:dB S c b [.int .i64 k,.int .i64 n,.str s] (y::l) b=some (.cells ((y::l).flatMap AV.cells)):=by unfold dB;simp only[aU];exact aA.aY _ _ _
  have:=cN.WW (φ:=φ) hne h1 hj hE hcc
  have e:(dB S c b [.int .i64 k,.int .i64 n,.str s] (y::l)).erase b=S.aC c (.cells ([.int .i64 k,.int .i64 n,.str s]++ [aP 4 b (y::l)])):=by unfold dB;simp only[aU];exact aA.oF _ _ _ h0
  rw[e,cF] at this
  simpa [gA,AV.fz,aP] using this
theorem sM{S:aA}{c b:Nat}{hd hd' l:List AV}(hb:l≠[]→(S.aC c (.cells (hd++ [aP 4 b l]))) b=none) :
 (dB S c b hd l).aC c (.cells (hd'++ [aP 4 b l]))=dB S c b hd' l∧(l≠[]→(S.aC c (.cells (hd'++ [aP 4 b l]))) b=none):=by
 have hne:l≠[]→c≠b:=fun h e=>by have:=hb h;rw[←e,aA.aY] at this;cases this
 refine⟨by unfold dB;rw[lZ hne,cF],fun h=>?_⟩
 have:=hb h
 rw[aA.bK _ _ (dQ (hne h))] at this ⊢
 exact this
theorem CS{s0 st:aA}{b:Nat}{l:List AV}(D:aN s0 st):aN (aU s0 b l) (aU st b l):=by
 cases l with
 | nil=>exact D
 | cons y l=>
  intro x
  simp only[aU]
  by_cases e:x=b
  · subst e;simp [aA.aY]
  · rw[aA.bK _ _ e,aA.bK _ _ e];exact D x
end Go.AW
