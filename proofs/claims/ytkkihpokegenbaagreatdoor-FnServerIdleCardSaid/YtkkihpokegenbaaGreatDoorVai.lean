import Derived.Test.YtkkihpokegenbaaGreatDoorVaf
import Derived.Test.YtkkihpokegenbaaGreatDoorVah
set_option linter.unusedSimpArgs false
set_option linter.unusedVariables false
set_option maxRecDepth 100000
namespace Go.AW
open Go.Proofs.Tryz
theorem wI(n lo hi:Int)(st:aA):aD prog 39 [.int .i64 n,.int .i64 lo,.int .i64 hi] st (fun r st'=>r=.bool (decide (lo≤n)&&decide (n≤hi))∧st'=st):=by
 refine wF [] 3 func39 ntmps39 rfl rfl ?_
 intro _
 repeat' (first
  | (simp only[*,aB,seval])
  | (refine cK (fun h=>?_) (fun h=>?_))
  | (refine aQ (fun h=>?_) (fun h=>?_)))
 all_goals simp_all
theorem aO3(s:ByteArray)(st:aA):aD prog 216 [.str s] st (fun r st'=>r=.tup [.int .i64 (cV s),.bool (cV s == 1||cV s == 2)]∧st'=st):=by
 refine wF [] 1 func216 ntmps216 rfl rfl ?_
 intro _
 repeat' (first
  | (simp only[*,aB,seval])
  | (refine cK (fun h=>?_) (fun h=>?_))
  | (refine aQ (fun h=>?_) (fun h=>?_)))
 all_goals (simp only[cV, *,v5,t8,Bool.or_self,cond_true,yG];first | done | rfl)
theorem uU(s:ByteArray)(st:aA):aD prog 184 [.str s] st (fun r st'=>r=.int .i64 (cV s)∧st'=st):=by
 refine wF [] 1 func184 ntmps184 rfl rfl ?_
 intro _
 repeat' (first
  | (simp only[*,aB,seval])
  | (refine cK (fun h=>?_) (fun h=>?_))
  | (refine aQ (fun h=>?_) (fun h=>?_)))
 all_goals (simp only[cV, *,v5,t8,Bool.or_self,cond_true,yG];first | done | rfl)
theorem aPJ(s:ByteArray)(n:Int)(st:aA):aD prog 332 [.str s,.int .i64 n] st (fun r st'=>r=.bool (isBuiltin s n)∧st'=st):=by
 refine wF [] 2 func332 ntmps332 rfl rfl ?_
 intro _
 repeat' (first
  | (simp only[*,aB,seval])
  | (refine cK (fun h=>?_) (fun h=>?_))
  | (refine aQ (fun h=>?_) (fun h=>?_)))
 all_goals (simp only[isBuiltin, *,v5,t8,Bool.or_self,cond_true,yG];first | done | rfl)
theorem M5(s:ByteArray)(n:Int)(st:aA):aD prog 195 [.str s,.int .i64 n] st (fun r st'=>r=.bool (isBuiltin s n)∧st'=st):=by
 refine wF [] 2 func195 ntmps195 rfl rfl ?_
 intro _
 repeat' (first
  | (simp only[*,aB,seval])
  | (refine cK (fun h=>?_) (fun h=>?_))
  | (refine aQ (fun h=>?_) (fun h=>?_)))
 all_goals (simp only[isBuiltin, *,v5,t8,Bool.or_self,cond_true,yG];first | done | rfl)
abbrev aJP:=zi aS (zi bV (zi gD cH))
theorem TS(s:ByteArray)(st:aA):aD prog 301 [.str s] st (fun r st'=>r=.bool (qW s)∧st'=st):=by
 refine wF [] 1 func301 ntmps301 rfl rfl ?_
 simp only[dS,AV.fits,dU]
 intro hs
 simp only[aB,seval]
 refine v4 (α:=Nat) [] (fun i=>i≤s.size∧∀(j:Nat) c,j<i→(sb s)[j]?=some c→letter c=true)
  (fun i=>[(0,.str s),(3,.int .i64 i)]) (fun _=>st) (fun i=>s.size - i) (by decide +kernel)
  ⟨0,⟨by omega,by intro j x h;omega⟩,aO.mk (by simp only[aB,↓aU,seval])⟩ ?_
 intro i ⟨hi,c9⟩
 simp only[aB,seval,aJP]
 refine⟨fun h5=>?_,fun h5=>?_⟩
 case refine_2=>
  simp only[dC,lX] at h5
  have ha:(sb s).all letter=true:=HO fun j c hc=>c9 j c (by have:=(fM.1 hc).1;rw[b9] at this;omega) hc
  repeat' (first
   | (simp only[*,aB,seval,aJP])
   | (refine cK (fun h=>?_) (fun h=>?_))
   | (refine aQ (fun h=>?_) (fun h=>?_)))
  all_goals simp only[qW,ha,cZ,AV.bool.injEq]
  all_goals simp only[*,eA,cZ,eJ]
 simp only[bA,lX] at h5
 obtain⟨c,hc⟩:∃c,(sb s)[i]?=some c:=⟨_,eL (by rw[b9];exact h5)⟩
 have hx:=pP (P:=prog) (t:=9) nO hc
 simp only[hx,aB,seval]
 refine cK (fun h6=>?_) (fun h6=>?_)
 case refine_2=>
  simp only[h6,aB,seval]
  simp only[eK,bA] at h6
  simp only[qW,rS hc (show letter c=false by simp [letter];omega),eJ]
 simp only[h6,hx,aB,seval]
 refine⟨fun h7=>?_,fun h7=>?_⟩
 · simp only[aB,seval]
   simp only[bA] at h7
   simp only[qW,rS hc (show letter c=false by simp [letter];omega),eJ]
 simp only[dC] at h6 h7
 simp only[aB,seval]
 refine⟨i+1,by omega,⟨by omega,fun j u hj hu=>?_⟩,aO.mk ?_⟩
 · rcases kK j i with h8 | h8
   · exact c9 j u h8 hu
   · obtain rfl:j=i:=by omega
     rw[hc] at hu;cases hu
     simp [letter];omega
 · have:=bC (n:=(i:Int)+1)
   simp only[this,aB,seval]
abbrev aJO:=zi aS (zi bV (zi gD (zi aKL cH)))
theorem TE(s:ByteArray)(st:aA):aD prog 289 [.str s] st (fun r st'=>r=.bool (qW s)∧st'=st):=by
 refine wF [] 1 func289 ntmps289 rfl rfl ?_
 simp only[dS,AV.fits,dU]
 intro hs
 simp only[aB,seval,aJO]
 refine v4 (α:=Nat) [] (fun i=>i≤s.size∧∀(j:Nat) c,j<i→(sb s)[j]?=some c→letter c=true)
  (fun i=>[(0,.str s),(5,.int .i64 s.size),(6,.int .i64 i)]) (fun _=>st) (fun i=>s.size - i) (by decide +kernel)
  ⟨0,⟨by omega,by intro j x h;omega⟩,aO.mk (by simp only[aB,↓aU,seval])⟩ ?_
 intro i ⟨hi,c9⟩
 simp only[aB,seval]
 refine⟨fun h5=>?_,fun h5=>?_⟩
 case refine_2=>
  simp only[dC,lX] at h5
  have ha:(sb s).all letter=true:=HO fun j c hc=>c9 j c (by have:=(fM.1 hc).1;rw[b9] at this;omega) hc
  simp only[aB,seval,aJO]
  refine(wI _ _ _ st).to ?_
  simp only[aB,seval]
  simp only[qW,ha,cZ]
 simp only[bA,lX] at h5
 obtain⟨c,hc⟩:∃c,(sb s)[i]?=some c:=⟨_,eL (by rw[b9];exact h5)⟩
 have hx:=pP (P:=prog) (t:=9) nO hc
 simp only[hx,aB,seval]
 refine cK (fun h6=>?_) (fun h6=>?_)
 case refine_2=>
  simp only[h6,aB,seval]
  simp only[eK,bA] at h6
  simp only[qW,rS hc (show letter c=false by simp [letter];omega),eJ]
 simp only[h6,hx,aB,seval]
 refine⟨fun h7=>?_,fun h7=>?_⟩
 · simp only[aB,seval]
   simp only[bA] at h7
   simp only[qW,rS hc (show letter c=false by simp [letter];omega),eJ]
 simp only[dC] at h6 h7
 simp only[aB,seval]
 refine⟨i+1,by omega,⟨by omega,fun j u hj hu=>?_⟩,aO.mk ?_⟩
 · rcases kK j i with h8 | h8
   · exact c9 j u h8 hu
   · obtain rfl:j=i:=by omega
     rw[hc] at hu;cases hu
     simp [letter];omega
 · have:=bC (n:=(i:Int)+1)
   simp only[this,aB,seval]
theorem aPR(s:ByteArray)(st:aA):aD prog 215 [.str s] st (fun r st'=>r=.bool (decide ((0:Int)<(cV s:Int)))∧st'=st):=by
 refine wF [] 1 func215 ntmps215 rfl rfl ?_
 intro _
 simp only[aB,seval]
 refine(aO3 s st).to ?_
 simp only[aB,seval]
abbrev a17:=zi aS (zi bV (zi cB cC))
theorem aPP(k n:Int)(s:ByteArray)(ts:List Tm)(st:aA):aD prog 288 [(Tm.mk k n s ts).av] st (fun r st'=>r=.bool (decide (k=3)&&decide ((ts.length:Int)=0))∧st'=st):=by
 refine wF [] 1 func288 ntmps288 rfl rfl ?_
 intro _
 simp only[bU]
 repeat' (first
  | (simp only[*,aB,seval,a17])
  | (refine cK (fun h=>?_) (fun h=>?_))
  | (refine aQ (fun h=>?_) (fun h=>?_)))
 all_goals simp_all
def gT:List ByteArray:=[⟨#[43]⟩,⟨#[45]⟩,⟨#[42]⟩,⟨#[47,47]⟩,⟨#[61]⟩,⟨#[92,61]⟩,⟨#[61,61]⟩,⟨#[60]⟩,⟨#[62]⟩,⟨#[61,60]⟩,⟨#[62,61]⟩,⟨#[61,58,61]⟩,⟨#[46]⟩,⟨#[91,93]⟩,⟨#[33]⟩]
theorem aR2(st:aA):aD prog 329 [] st (fun r st'=>r=.fslice (gT.map .str)∧st'=st):=by
 refine wF [] 0 func329 ntmps329 rfl rfl ?_
 intro _
 simp only[gT,aB,seval,rD]
theorem TQ(st:aA):aD prog 305 [] st (fun r st'=>r=.fslice (gT.map .str)∧st'=st):=by
 refine wF [] 0 func305 ntmps305 rfl rfl ?_
 intro _
 simp only[gT,aB,seval,rD]
abbrev aJQ:=zi aS (zi bV (zi cH rD))
theorem aQG(l:List ByteArray)(s:ByteArray)(st:aA):aD prog 378 [.slice (l.map .str),.str s] st (fun r st'=>r=.bool (l.any fun x=>decide (x=s))∧st'=st):=by
 refine wF [] 2 func378 ntmps378 rfl rfl ?_
 simp only[dS,AV.fits,dU,aE]
 intro ⟨⟨hl,_⟩,_⟩
 simp only[aB,seval]
 refine v4 (α:=Nat) [] (fun i=>i≤l.length∧∀(j:Nat) x,j<i→l[j]?=some x→decide (x=s)=false)
  (fun i=>[(0,.slice (l.map .str)),(1,.str s),(5,.int .i64 i)]) (fun _=>st) (fun i=>l.length - i) (by decide +kernel)
  ⟨0,⟨by omega,by intro j x h;omega⟩,aO.mk (by simp only[aB,↓aU,seval])⟩ ?_
 intro i ⟨hi,c9⟩
 simp only[aE,aB,seval,aJQ]
 refine⟨fun h5=>?_,fun h5=>?_⟩
 case refine_2=>
  simp only[aB,seval]
  simp only[dC,lX] at h5
  have:(l.any fun x=>decide (x=s))=false:=by
   rw[List.any_eq_false]
   intro x hx
   obtain⟨j,hj⟩:=DW hx
   simp [c9 j x (by have:=(fM.1 hj).1;omega) hj]
  rw[this]
 simp only[bA,lX] at h5
 obtain⟨x,hx⟩:∃x,l[i]?=some x:=⟨_,eL h5⟩
 simp only[bS (av:=AV.str) tC hx rfl,aB,seval,aJQ]
 refine⟨fun h6=>?_,fun h6=>?_⟩
 · simp only[aB,seval]
   have:(l.any fun x=>decide (x=s))=true:=by
    rw[G7]
    exact⟨x,cQ hx,h6⟩
   rw[this]
 simp only[aB,seval]
 refine⟨i+1,by omega,⟨by omega,fun j u hj hu=>?_⟩,aO.mk ?_⟩
 · rcases kK j i with h8 | h8
   · exact c9 j u h8 hu
   · obtain rfl:j=i:=by omega
     rw[hx] at hu;cases hu
     exact h6
 · have:=bC (n:=(i:Int)+1)
   simp only[this,aB,seval]
abbrev aJR:=zi aS (zi cH rD)
theorem aO1(l:List ByteArray)(s:ByteArray)(st:aA):aD prog 384 [.slice (l.map .str),.str s] st (fun r st'=>(∃k:Int,r=.int .i64 k∧decide (0≤k)=l.any fun x=>decide (s=x))∧st'=st):=by
 refine wF [] 2 func384 ntmps384 rfl rfl ?_
 simp only[dS,AV.fits,dU,aE]
 intro ⟨⟨hl,_⟩,_⟩
 simp only[aE,aB,seval,aJR]
 refine v4 (α:=Nat) [] (fun i=>i≤l.length∧∀(j:Nat) x,j<i→l[j]?=some x→decide (s=x)=false)
  (fun i=>[(0,.slice (l.map .str)),(1,.str s),(7,.int .i64 l.length),(8,.int .i64 i)]) (fun _=>st) (fun i=>l.length - i) (by decide +kernel)
  ⟨0,⟨by omega,by intro j x h;omega⟩,aO.mk (by simp only[aB,↓aU,seval])⟩ ?_
 intro i ⟨hi,c9⟩
 simp only[aB,seval]
 refine⟨fun h5=>?_,fun h5=>?_⟩
 case refine_2=>
  simp only[aB,seval]
  simp only[dC,lX] at h5
  have:(l.any fun x=>decide (s=x))=false:=by
   rw[List.any_eq_false]
   intro x hx
   obtain⟨j,hj⟩:=DW hx
   simp [c9 j x (by have:=(fM.1 hj).1;omega) hj]
  rw[this]
  exact⟨_,rfl,rfl⟩
 simp only[bA,lX] at h5
 obtain⟨x,hx⟩:∃x,l[i]?=some x:=⟨_,eL h5⟩
 simp only[bS (av:=AV.str) tC hx rfl,aB,seval,aJR]
 refine⟨fun h6=>?_,fun h6=>?_⟩
 · simp only[aB,seval]
   have:(l.any fun x=>decide (s=x))=true:=by
    rw[G7]
    exact⟨x,cQ hx,h6⟩
   rw[this]
   exact⟨_,rfl,by simp⟩
 simp only[aB,seval]
 refine⟨i+1,by omega,⟨by omega,fun j u hj hu=>?_⟩,aO.mk ?_⟩
 · rcases kK j i with h8 | h8
   · exact c9 j u h8 hu
   · obtain rfl:j=i:=by omega
     rw[hx] at hu;cases hu
     exact h6
 · have:=bC (n:=(i:Int)+1)
   simp only[this,aB,seval]
theorem aOS(l:List ByteArray)(s:ByteArray)(st:aA):aD prog 374 [.slice (l.map .str),.str s] st (fun r st'=>r=.bool (l.any fun x=>decide (s=x))∧st'=st):=by
 refine wF [] 2 func374 ntmps374 rfl rfl ?_
 intro _
 simp only[aB,seval]
 refine(aO1 l s st).mono ?_
 rintro _ _ ⟨⟨k,rfl,hk⟩,rfl⟩
 simp only[aB,seval]
 rw[←hk]
theorem TA(l:List ByteArray)(s:ByteArray)(st:aA):aD prog 374 [.fslice (l.map .str),.str s] st (fun r st'=>r=.bool (l.any fun x=>decide (s=x))∧st'=st):=
 aD.oG (by simp only[fT,AV.soft];exact aOS l s st)
theorem aQH(l:List ByteArray)(s:ByteArray)(st:aA):aD prog 378 [.fslice (l.map .str),.str s] st (fun r st'=>r=.bool (l.any fun x=>decide (x=s))∧st'=st):=
 aD.oG (by simp only[fT,AV.soft];exact aQG l s st)
def tR(s:ByteArray):Bool:=qW s||gT.any fun x=>decide (s=x)
theorem aM3(s:ByteArray):(gT.any fun x=>decide (x=s))=gT.any fun x=>decide (s=x):=by
 congr 1
 funext x
 exact qM.2 ⟨Eq.symm,Eq.symm⟩
theorem aPK(s:ByteArray)(st:aA):aD prog 353 [.str s] st (fun r st'=>r=.bool (tR s)∧st'=st):=by
 refine wF [] 1 func353 ntmps353 rfl rfl ?_
 intro _
 repeat' (first
  | (simp only[*,aB,seval])
  | (refine cK (fun h=>?_) (fun h=>?_))
  | (refine(TE s st).to ?_) | (refine(aR2 st).to ?_) | (refine(TA gT s st).to ?_)
  | (refine aQ (fun h=>?_) (fun h=>?_)))
 all_goals simp only[tR, *,eK,t8,mT]
theorem aRW(s:ByteArray)(st:aA):aD prog 355 [.str s] st (fun r st'=>r=.bool (tR s)∧st'=st):=by
 refine wF [] 1 func355 ntmps355 rfl rfl ?_
 intro _
 repeat' (first
  | (simp only[*,aB,seval])
  | (refine cK (fun h=>?_) (fun h=>?_))
  | (refine(TS s st).to ?_) | (refine(TQ st).to ?_) | (refine(aQH gT s st).to ?_)
  | (refine aQ (fun h=>?_) (fun h=>?_)))
 all_goals simp only[tR,aM3, *,eK,t8,mT]
end Go.AW
namespace Go.AW
def aHE(k:Nat)(acc:List UInt8):List UInt8:=if k=0 then acc else aHE (k / 10) (UInt8.ofNat (48+k % 10)::acc)
termination_by k
decreasing_by omega
def mt(k:Int):ByteArray:=if k≤0 then⟨#[109,48]⟩ else⟨(109::aHE k.toNat []).toArray⟩
theorem aH3{st:aA}{k n:Int}{s:ByteArray}{ts:List Tm}{o:AV}{bs:List Nat} :
 bX st (Tm.mk k n s ts).av o bs↔∃q,o=.agg [.int .i64 k,.int .i64 n,.str s,q]∧bX st (.slice (ts.map Tm.av)) q bs:=by
 rw[bU]
 generalize AV.slice (ts.map Tm.av)=x
 simp only[bX,bN]
 constructor
 · rintro⟨os,rfl,o1,os1,b1,b1',rfl,rfl,⟨rfl,rfl⟩,o2,os2,b2,b2',rfl,rfl,⟨rfl,rfl⟩,o3,os3,b3,b3',rfl,rfl,⟨rfl,rfl⟩,o4,os4,b4,b4',rfl,rfl,h,rfl,rfl⟩
   exact⟨o4,rfl,by simpa using h⟩
 · rintro⟨q,rfl,h⟩
   exact⟨_,rfl,_,_,[],bs,rfl,rfl,⟨rfl,rfl⟩,_,_,[],bs,rfl,rfl,⟨rfl,rfl⟩,_,_,[],bs,rfl,rfl,⟨rfl,rfl⟩,q,[],bs,[],rfl,by simp,h,rfl,rfl⟩
abbrev iv (n:Int):AV:=.int .i64 n
theorem aYE(l:List Int):∀e∈l.map iv,e.width=1:=by intro e h;simp only[cM] at h;obtain⟨t,_,rfl⟩:=h;rfl
def dY(k n:Int)(s:ByteArray)(len:Int):Bool:=
 cond (decide (k=1)) (decide ((0:Int)≤n)&&decide (n≤25)&&decide (s=⟨#[]⟩)&&decide (len=0))
  (cond (decide (k=2)) (decide ((-999:Int)≤n)&&decide (n≤999)&&decide (s=⟨#[]⟩)&&decide (len=0))
   (cond (decide (k=3)) (decide (n=0)&&tR s&&decide (len≤4)) false))
mutual
def Tm.shape:Tm→Int→Bool
 | .mk k n s ts,d=>decide (1≤d)&&dY k n s ts.length&&K4 ts (d - 1)
def K4:List Tm→Int→Bool
 | [],_=>true
 | t::ts,d=>t.shape d&&K4 ts d
end
theorem aKX:∀(ts:List Tm) (d:Int),K4 ts d=ts.all fun t=>t.shape d
 | [],_=>rfl
 | t::ts,d=>by simp only[K4,iS,aKX ts d]
theorem Tm.zL(k n:Int)(s:ByteArray)(ts:List Tm)(d:Int):(Tm.mk k n s ts).shape d=(decide (1≤d)&&dY k n s ts.length&&ts.all fun t=>t.shape (d - 1)):=by simp only[Tm.shape,aKX]
mutual
def Tm.nodes:Tm→Nat
 | .mk _ _ _ ts=>1+KW ts
def KW:List Tm→Nat
 | []=>0
 | t::ts=>t.nodes+KW ts
end
theorem aKT:∀(ts:List Tm),KW ts=bH Tm.nodes ts
 | []=>rfl
 | t::ts=>by simp only[KW,bH,aKT ts]
theorem Tm.gR(k n:Int)(s:ByteArray)(ts:List Tm):(Tm.mk k n s ts).nodes=1+bH Tm.nodes ts:=by simp only[Tm.nodes,aKT]
def Tm.valid(t:Tm):Bool:=t.shape 30&&decide (t.nodes≤120)
mutual
def Tm.vars:Tm→List Int→List Int
 | .mk k n _ ts,l=>cE ts (if k=1∧n∉l then l++ [n] else l)
def cE:List Tm→List Int→List Int
 | [],l=>l
 | t::ts,l=>cE ts (t.vars l)
end
mutual
theorem Tm.aLK:∀(t:Tm) (l:List Int),(t.vars l).length≤l.length+t.nodes
 | .mk k n s ts,l=>by
  have h:=zX ts (if k=1∧n∉l then l++ [n] else l)
  have h2:(if k=1∧n∉l then l++ [n] else l).length≤l.length+1:=by split<;>simp
  rw[Tm.vars,Tm.gR]
  omega
theorem zX:∀(ts:List Tm) (l:List Int),(cE ts l).length≤l.length+bH Tm.nodes ts
 | [],l=>by simp [cE,bH]
 | t::ts,l=>by
  have h1:=Tm.aLK t l
  have h2:=zX ts (t.vars l)
  simp only[cE,bH]
  omega
end
def iB(v:Int):List Int→Int→Int
 | [],_=> -1
 | x::xs,i=>if v=x then i else iB v xs (i+1)
theorem qF{st:aA}{b x:Nat}{l:List AV}{o:AO}(h:l≠[]→x≠b):(a9 st b l).aC x o=a9 (st.aC x o) b l:=by
 cases l with
 | nil=>rfl
 | cons y l=>exact aA.sK _ _ _ (dM (h (by simp)))
theorem SH{P:Program}{t:TypeId}{ag:Bool}{w b i:Nat}{l:List AV}{x:AV}(hI:eI P t=some (ag,w))(h:l[i]?=some x):dT P t (bK w b l) (.int .i64 (i:Int))=some (.ptr b (i*w)):=by
 have hi:=(fM.1 h).1
 rw[rR (by rintro rfl;simp at hi)]
 exact B3 hI hi
theorem SJ{st:aA}{b i:Nat}{l:List Int}{x:Int}(h:l[i]?=some x):a9 st b (l.map iv) b=some (.cells (l.map iv))∧(l.map iv)[i]?=some (iv x):=by
 have hi:=(fM.1 h).1
 have hne:l.map iv≠[]:=by rintro e;rw[List.map_eq_nil_iff] at e;subst e;simp at hi
 have hfl:(l.map iv).flatMap AV.cells=l.map iv:=by
  clear h hi hne
  induction l with
  | nil=>rfl
  | cons y l ih=>simp only[bL,AE,ih];rfl
 exact⟨by rw[l5 hne,hfl,aA.aH],by rw[lK,h];try rfl⟩
mutual
def Tm.wf:Tm→Bool
 | .mk k _ _ ts=>(!decide (k=1)||ts.isEmpty)&&K8 ts
def K8:List Tm→Bool
 | []=>true
 | t::ts=>t.wf&&K8 ts
end
theorem QY:∀(ts:List Tm),K8 ts=ts.all Tm.wf
 | []=>rfl
 | t::ts=>by simp only[K8,iS,QY ts]
theorem Tm.aLP{k n:Int}{s:ByteArray}{ts:List Tm}(h:(Tm.mk k n s ts).wf=true):(k=1→ts= [])∧∀x∈ts,x.wf=true:=by
 simp only[Tm.wf,QY,bD,kZ,i9,dC,List.isEmpty_iff,c6] at h
 exact⟨fun hk=>h.1.resolve_left (fun hn=>hn hk),h.2⟩
theorem Tm.rH{t:Tm}(h:t.valid=true):t.nodes≤120:=by simp only[Tm.valid,bD,bA] at h;exact h.2
theorem a1Z{l:List Tm}(h:∀x∈l,x.valid=true):bH Tm.nodes l≤120*l.length:=by
 induction l with
 | nil=>simp [bH]
 | cons t l ih=>
  have h1:=Tm.rH (h t (by simp))
  have h2:=ih fun x hx=>h x (by simp [hx])
  simp only[bH,aX]
  omega
def n9(S:aA)(c b:Nat)(hd:List AV)(l:List AV):aA:=a9 (S.aC c (.cells (hd++ [bK 4 b l]))) b l
theorem nC{S:aA}{c b:Nat}{hd l:List AV}(hb:l≠[]→(S.aC c (.cells (hd++ [bK 4 b l]))) b=none):n9 S c b hd l c=some (.cells (hd++ [bK 4 b l])):=by
 unfold n9
 cases l with
 | nil=>simp only[a9,aA.aH]
 | cons y l=>
  have h:=hb (by simp)
  have hne:c≠b:=fun e=>by rw[←e,aA.aH] at h;cases h
  rw[sU hne,aA.aH]
theorem yX{S:aA}{c b b':Nat}{hd l l':List AV}(hb:l'≠[]→(S.aC c (.cells (hd++ [bK 4 b l]))) b'=none) :
 (a9 (S.aC c (.cells (hd++ [bK 4 b l]))) b' l').aC c (.cells (hd++ [bK 4 b' l']))=n9 S c b' hd l'∧(l'≠[]→(S.aC c (.cells (hd++ [bK 4 b' l']))) b'=none)∧a9 (S.aC c (.cells (hd++ [bK 4 b l]))) b' l' c=some (.cells (hd++ [bK 4 b l])):=by
 have hne:l'≠[]→c≠b':=fun h e=>by have:=hb h;rw[←e,aA.aH] at this;cases this
 refine⟨?_,fun h=>?_,?_⟩
 · rw[qF hne,dW];try rfl
 · have:=hb h
   rw[aA.aJ _ _ (dM (hne h))] at this ⊢
   exact this
 · cases l' with
   | nil=>simp only[a9,aA.aH]
   | cons y l=>rw[sU (hne (by simp)),aA.aH]
theorem tN{S:aA}{c b x:Nat}{hd l:List AV}(hb:l≠[]→(S.aC c (.cells (hd++ [bK 4 b l]))) b=none)(hx:S x≠none)(hxc:x≠c):n9 S c b hd l x=S x:=by
 unfold n9
 cases l with
 | nil=>simp only[a9,aA.aJ _ _ hxc]
 | cons y l=>
  have h:=hb (by simp)
  have hne:x≠b:=fun e=>by
   rw[←e,aA.aJ _ _ hxc] at h
   exact hx h
  rw[sU hne,aA.aJ _ _ hxc]
theorem wV{S:aA}{c b x:Nat}{hd l:List AV}{o:AO}(hb:l≠[]→(S.aC c (.cells (hd++ [bK 4 b l]))) b=none)(hx:S x≠none)(hxc:x≠c):(n9 S c b hd l).aC x o=a9 ((S.aC c (.cells (hd++ [bK 4 b l]))).aC x o) b l∧(l≠[]→((S.aC c (.cells (hd++ [bK 4 b l]))).aC x o) b=none):=by
 have hne:l≠[]→x≠b:=fun h e=>by
  have:=hb h
  rw[←e,aA.aJ _ _ hxc] at this
  exact hx this
 refine⟨by unfold n9;rw[qF hne],fun h=>by rw[aA.aJ _ _ (dM (hne h))];exact hb h⟩
theorem aA.LC{st:aA}{b c:Nat}{a z a':AO}(h:b≠c):((st.aC c a).aC b z).aC c a'=(st.aC b z).aC c a':=by rw[aA.sK _ _ _ (dM h),dW]
theorem gE(l:List Tm):∀e∈l.map Tm.av,e.width=4:=by intro e h;simp only[cM] at h;obtain⟨t,_,rfl⟩:=h;exact aP t
theorem oM(l:List Tm):∀e∈l.map Tm.av,e.bR=false:=by intro e h;simp only[cM] at h;obtain⟨t,_,rfl⟩:=h;exact cT t
end Go.AW
namespace Go.AW
open Go.Proofs.Tryz
mutual
def Tm.small:Tm→Bool
 | .mk _ _ _ ts=>decide (ts.length≤1048576)&&GU ts
def GU:List Tm→Bool
 | []=>true
 | t::ts=>t.small&&GU ts
end
theorem GV:∀(ts:List Tm),GU ts=ts.all Tm.small
 | []=>rfl
 | t::ts=>by simp only[GU,iS,GV ts]
theorem Tm.xD{k n:Int}{s:ByteArray}{ts:List Tm}(h:(Tm.mk k n s ts).small=true):ts.length≤1048576∧∀x∈ts,x.small=true:=by
 simpa [Tm.small,GV] using h
abbrev KL:=zi aS (zi cB cC)
theorem O5(l:List Tm)(st:aA)(hb:l.length≤1048576)(hc:∀x∈l,∀(st:aA),aD prog 165 [Tm.av x] st (Made st (Tm.av x))) :
 aD prog 110 [.slice (l.map Tm.av)] st (Made st (.slice (l.map Tm.av))):=by
 have hws:∀e∈l.map Tm.av,e.width=4:=fun e he=>by simp only[cM] at he;obtain⟨t,_,rfl⟩:=he;exact aP t
 refine wF [] 1 func110 ntmps110 rfl rfl ?_
 intro _
 simp only[aE,aB,seval,KL]
 refine dX (σ:=List AV×List Nat×Nat×aA) [] [2,6,7] l (fun i p=>jN (l.map Tm.av) st i p.1 p.2.1 p.2.2.1 p.2.2.2) (fun i p=>[(3,bK 4 p.2.2.1 p.1),(8,.int .i64 i)]) (fun _ p=>p.2.2.2) (by decide +kernel)
  ⟨([],[],0,st),jN.start,aO.mk (by simp only[j8,aB,↓aU,seval])⟩ (fun i x p hx hlt bP hdr hinv=>?_) (fun p hge hinv=>?_)
 case refine_2=>
  obtain⟨os,bs,b,s⟩:=p
  simp only[hge,aB,seval]
  exact hinv.done (aE _) hws
 obtain⟨os,bs,b,s⟩:=p
 simp only at hinv
 have hw:=bC (n:=(i:Int)+1)
 have pO:∀zs:List AV,zs.length=4→aG zs 0 (Tm.av x).cells=(Tm.av x).cells:=fun zs h=>J2 (cI x) h
 simp only[bP,bS (av:=Tm.av) cF hx (aP x),bM,aP,cI,cR,dW,pO,aB,seval,KL]
 intro b2 hb2
 try simp only[gC,cI,fL (cI x),fJ (bM x),cX,pO,dW,cR,aB,↓aU,seval,KL]
 refine(hc x (cQ hx) _).mono ?_
 rintro r s2 ⟨bx,m1,m2,m3,m4⟩
 obtain⟨f1,f2,f3⟩:=m3.UO (aP x) (cR x)
 have hra:r.isAgg=true:=by rw[(bX.shape m3).1,bM]
 have hrj:r.bR=false:=(bX.shape m3).2.2.1
 simp only[f1,hra,hrj,aB,seval,KL]
 have hlen:os.length=i:=hinv.1
 have FG:∀e∈os,e.width=4:=fun e he=>by
  obtain⟨k,hk,rfl⟩:=LU he
  exact hinv.2.1.LE (fun q hq=>hws q (lY hq)) _ he
 have hkb:os≠[]→s2 b=some (.cells (os.flatMap AV.cells)):=fun hne=>by
  have h:=(hinv.2.2.2.2.1 hne).2.2
  have hbx:b∉bx:=fun hq=>by
   have:=m2 b hq
   have vG:b≠b2:=fun e=>by rw[e,hb2] at h;cases h
   rw[aA.aJ _ _ vG,h] at this;cases this
  have vG:b≠b2:=fun e=>by rw[e,hb2] at h;cases h
  rw[m4 b hbx,aA.aJ _ _ vG,h]
 refine MD cF kP kQ rfl rfl (gN f1 f3) FG hkb (by simp only[aX,a8,hlen];omega) (by simp only[aX,a8,hlen];omega) (fun b' s' k1 k2 k3 k4=>?_)
 have fC:=hinv.step hb2 (show(l.map Tm.av)[i]?=some (Tm.av x) by rw[lK,hx];try rfl) m1 m2 m3 m4 (k1 (by simp)) (k2 (by simp)) (fun q h1 h2=>k3 q (fun _=>h1) h2) k4
 simp only[hw,aB,seval]
 exact⟨(os++ [r],bs++bx,b',s'.erase b2),fC,aO.drop (hH _ _) (by simp only[aB,seval])⟩
abbrev aKA:=zi cB cC
theorem JO:∀(t:Tm) (st:aA),t.small=true→aD prog 165 [t.av] st (Made st t.av)
 | .mk k n s ts,st,hb=>by
  obtain⟨hb1,hb2⟩:=Tm.xD hb
  have hc:=fun st=>O5 ts st hb1 fun x hx st=>JO x st (hb2 x hx)
  refine aD.O1 ?_
  refine wF [1] 1 func165 ntmps165 rfl rfl ?_
  intro _
  simp only[bU]
  simp only[aB,seval,aKA]
  intro b aWW b2 I1
  have hne:b2≠b:=by rintro rfl;rw[aA.aH] at I1;cases I1
  have hn2:st b2=none:=by rw[aA.aJ st _ hne] at I1;exact I1
  simp only[gC,hne.symm,aB,seval]
  refine(hc _).mono ?_
  rintro q s2 ⟨bs,m1,m2,m3,m4⟩
  have hbb:b∉bs:=fun h=>by have:=m2 b h;simp [gC,hne.symm] at this
  have I3:b2∉bs:=fun h=>by have:=m2 b2 h;simp [gC] at this
  have e1:=m4 b hbb
  have e2:=m4 b2 I3
  simp only[gC,hne,hne.symm,eN,dA] at e1 e2
  have hqc:q.cells= [q]:=by have:=(bX.shape m3).1;cases q<;>first | rfl | simp [AV.isAgg] at this
  have hqs:q.storable=true:=by
   have:=m3
   simp only[bX] at this
   rcases this with ⟨_,rfl,_⟩ | ⟨_,_,_,_,rfl,_⟩<;>rfl
  simp only[gC,hne,e1,e2,hqc,hqs,aG,aB,seval,aKA]
  refine⟨[b,b2],bs,m1,fun x hx=>?_,?_,?_,?_⟩
  · have:=m2 x hx
    have h1:x≠b:=fun e=>hbb (e▸hx)
    have h2:x≠b2:=fun e=>I3 (e▸hx)
    simpa [gC,h1,h2] using this
  · simp [aWW,hn2,hbb,I3]
  · rw[←bU]
    refine aH3.2 ⟨q,rfl,bX.aY _ _ _ (fun x hx=>?_) m3⟩
    have h1:x≠b:=fun e=>hbb (e▸hx)
    have h2:x≠b2:=fun e=>I3 (e▸hx)
    simp only[gC,h1,h2,dA]
  · intro x hx hd
    simp only[cL,c8,dP,not_or] at hd
    simp only[gC,hd.1,hd.2,dA]
    rw[m4 x hx]
    simp only[gC,hd.1,hd.2,dA]
termination_by t=>SizeOf.sizeOf t
decreasing_by have:=List.sizeOf_lt_of_mem hx;simp only[Tm.mk.sizeOf_spec];omega
abbrev zS:=zi aS (zi cH (zi cB cC))
theorem EV:∀(t:Tm) (st:aA),t.small=true→aD prog 90 [t.av] st (fun r st'=>r=t.av∧st'=st)
 | .mk k n s ts,st,hsm=>by
  obtain⟨hlen,wS⟩:=Tm.xD hsm
  have IH:=fun(x:Tm) (hx:x∈ts) st=>EV x st (wS x hx)
  refine aD.jT (aD.fin ?_)
  simp only[bU]
  refine wF [] 1 func90 ntmps90 rfl rfl ?_
  simp only[dS,AV.fits,dU,aE]
  intro ⟨_,_,_,hl,_⟩
  simp only[aB,seval,zS]
  intro b2 hb2 c hc
  have hne:c≠b2:=by rintro rfl;rw[aA.aH] at hc;cases hc
  have hn2:st c=none:=by rw[aA.aJ st _ hne] at hc;exact hc
  simp only[aG,aB,seval]
  refine dX (σ:=Nat) [] [1,2,3] ts (fun i b=>(((ts.take i).map (fun y=>y)).map Tm.av≠[]→(aA.aC (st.aC b2 (.cells [AV.int .i64 0,AV.int .i64 0,AV.str ⟨#[]⟩,AV.fslice []])) c (.cells ([AV.int .i64 k,AV.int .i64 n,AV.str s]++ [bK 4 b (((ts.take i).map (fun y=>y)).map Tm.av)]))) b=none)) (fun i b=>[(4,.int .i64 i)]) (fun i b=>n9 (st.aC b2 (.cells [AV.int .i64 0,AV.int .i64 0,AV.str ⟨#[]⟩,AV.fslice []])) c b [AV.int .i64 k,AV.int .i64 n,AV.str s] (((ts.take i).map (fun y=>y)).map Tm.av)) (by decide +kernel)
   ⟨0,fun h=>absurd rfl h,aO.mk (by simp only[aB,↓aU,seval])⟩ (fun i x b hx hlt bP hdr hinv=>?_) (fun b hge hinv=>?_)
  case refine_1=>
   have hw:=bC (n:=(i:Int)+1)
   have cU:(((ts.take i).map (fun y=>y)).map Tm.av).length=i:=by simp only[aE,dK];omega
   have htk:(ts.take (i+1)).map (fun y=>y)=(ts.take i).map (fun y=>y)++ [(fun y=>y) x]:=by rw[eS,hx];simp
   have hbo:=nC hinv
   simp only[aE,bP,aB,seval,zS]
   refine wP [(0,1),(2,1),(4,1),(1,2),(3,2),(5,1),(6,2),(7,2),(8,1),(9,0),(10,1),(11,0)] [0,2,4,1,3,5,6,7,8,10] mixed ?_
   simp only[bS (av:=Tm.av) cF hx (aP x),bM,aP,hbo,sV,j7,aB,seval,zS]
   refine gG (IH x (cQ hx) _) ?_
   simp only[bM,aP,cT,j7,aB,seval,zS]
   refine eY cF kP kQ rfl rfl (gN (aP _) (cR _)) (gE _) hinv (by simp only[cU,aX,a8];omega) (by simp only[cU,aX,a8];omega) (fun b' hb'=>?_)
   rw[show(((ts.take i).map (fun y=>y)).map Tm.av)++ [((fun y=>y) x).av]=((ts.take (i+1)).map (fun y=>y)).map Tm.av by rw[htk];simp] at hb' ⊢
   obtain⟨g1,g2,g3⟩:=yX hb'
   simp only[fU,dL] at g1 g3
   simp only[g3,mU,iJ,aG,g1,hw,aB,seval,zS]
   exact⟨b',g2,aO.mk (by simp only[aB,seval])⟩
  have hbo:=nC hinv
  rw[d6] at hinv hbo ⊢
  simp only[aE,hge,aB,seval,zS]
  simp only[hbo,aB,seval,zS]
  have pL:b2≠c:=dM hne
  have hS:(st.aC b2 (.cells [AV.int .i64 0,AV.int .i64 0,AV.str ⟨#[]⟩,AV.fslice []])) b2≠none:=by rw[aA.aH];simp
  have h1:=tN hinv hS pL
  rw[aA.aH] at h1
  simp only[h1,iJ,aG,aB,seval]
  obtain⟨h2,h3⟩:=wV (o:=.cells [AV.int .i64 k,AV.int .i64 n,AV.str s,bK 4 b ((ts.map fun y=>y).map Tm.av)]) hinv hS pL
  refine⟨b,_,_,h2,h3,oM _,⟨4,gE _⟩,?_,?_⟩
  · simp only[hY,bL,bE,fW,rZ,mV,List.map_id']
  · exact(((aL.refl _).aC hb2).aC hn2).aC hb2
termination_by t=>SizeOf.sizeOf t
decreasing_by have:=List.sizeOf_lt_of_mem hx;simp only[Tm.mk.sizeOf_spec];omega
end Go.AW
namespace Go.AW
def Tm.k:Tm→Int | .mk k _ _ _=>k
def Tm.n:Tm→Int | .mk _ n _ _=>n
def Tm.s:Tm→ByteArray | .mk _ _ s _=>s
def Tm.ts:Tm→List Tm | .mk _ _ _ ts=>ts
theorem Tm.eta(t:Tm):t=.mk t.k t.n t.s t.ts:=by cases t;rfl
def vr(n:Int):Tm:=.mk 1 n ⟨#[]⟩ []
mutual
def Tm.aV(f:Int→Tm):Tm→Tm
 | .mk k n s ts=>if k=1 then f n else .mk k n s (KV f ts)
def KV(f:Int→Tm):List Tm→List Tm
 | []=>[]
 | t::ts=>t.aV f::KV f ts
end
theorem aKS(f:Int→Tm):∀ts:List Tm,KV f ts=ts.map (Tm.aV f)
 | []=>rfl
 | t::ts=>by simp only[KV,bL,aKS f ts]
theorem Tm.pR(f:Int→Tm){k n:Int}{s:ByteArray}{ts:List Tm}(h:k=1):(Tm.mk k n s ts).aV f=f n:=by simp only[Tm.aV,h,eN]
theorem Tm.mQ(f:Int→Tm){k n:Int}{s:ByteArray}{ts:List Tm}(h:k≠1):(Tm.mk k n s ts).aV f=.mk k n s (ts.map (Tm.aV f)):=by simp only[Tm.aV,h,dA,aKS]
theorem CF(f:Int→Tm)(n:Int):(vr n).aV f=f n:=Tm.pR f rfl
mutual
def Tm.vl:Tm→List Int
 | .mk k n _ ts=>if k=1 then[n] else GW ts
def GW:List Tm→List Int
 | []=>[]
 | t::ts=>t.vl++GW ts
end
theorem aKY{v:Int}:∀ {ts:List Tm},v∈GW ts↔∃t∈ts,v∈t.vl
 | []=>by simp [GW]
 | t::ts=>by simp [GW,aKY (ts:=ts)]
theorem Tm.oN{k n:Int}{s:ByteArray}{ts:List Tm}(h:k=1):(Tm.mk k n s ts).vl= [n]:=by simp only[Tm.vl,h,eN]
theorem Tm.nQ{k n v:Int}{s:ByteArray}{ts:List Tm}(h:k≠1):v∈(Tm.mk k n s ts).vl↔∃t∈ts,v∈t.vl:=by simp only[Tm.vl,h,dA,aKY]
theorem DT(n:Int):(vr n).vl= [n]:=Tm.oN rfl
theorem Tm.ind{p:Tm→Prop}(h:∀k n s ts,(∀t∈ts,p t)→p (.mk k n s ts)):∀t,p t
 | .mk k n s ts=>h k n s ts fun t ht=>Tm.ind h t
termination_by t=>SizeOf.sizeOf t
decreasing_by have:=List.sizeOf_lt_of_mem ht;simp only[Tm.mk.sizeOf_spec];omega
theorem CC{f g:Int→Tm}:∀(t:Tm),(∀v∈t.vl,f v=g v)→t.aV f=t.aV g:=by
 intro t
 induction t using Tm.ind with
 | h k n s ts ih=>
  intro h
  by_cases hk:k=1
  · rw[Tm.pR f hk,Tm.pR g hk];exact h n (by rw[Tm.oN hk];simp)
  · rw[Tm.mQ f hk,Tm.mQ g hk]
    congr 1
    exact AG fun x hx=>ih x hx fun v hv=>h v ((Tm.nQ hk).2 ⟨x,hx,hv⟩)
theorem CE(f g:Int→Tm)(t:Tm):(t.aV f).aV g=t.aV fun v=>(f v).aV g:=by
 induction t using Tm.ind with
 | h k n s ts ih=>
  by_cases hk:k=1
  · rw[Tm.pR f hk,Tm.pR _ hk]
  · rw[Tm.mQ f hk,Tm.mQ g hk,Tm.mQ _ hk,List.map_map]
    congr 1
    exact AG fun x hx=>ih x hx
theorem zZ{f:Int→Tm}{w:Int}(t:Tm):w∈(t.aV f).vl↔∃v∈t.vl,w∈(f v).vl:=by
 induction t using Tm.ind with
 | h k n s ts ih=>
  by_cases hk:k=1
  · rw[Tm.pR f hk,Tm.oN hk];simp
  · rw[Tm.mQ f hk,Tm.nQ hk]
    constructor
    · rintro⟨x,hx,hw⟩
      obtain⟨y,hy,rfl⟩:=cM.1 hx
      obtain⟨v,hv,hvw⟩:=(ih y hy).1 hw
      exact⟨v,(Tm.nQ hk).2 ⟨y,hy,hv⟩,hvw⟩
    · rintro⟨v,hv,hw⟩
      obtain⟨y,hy,hvy⟩:=(Tm.nQ hk).1 hv
      exact⟨_,cM.2 ⟨y,hy,rfl⟩,(ih y hy).2 ⟨v,hvy,hw⟩⟩
theorem aZE{f:Int→Tm}{v:Int}:∀(t:Tm),v∈t.vl→(f v).nodes≤(t.aV f).nodes∧(t.k≠1→(f v).nodes<(t.aV f).nodes):=by
 intro t
 induction t using Tm.ind with
 | h k n s ts ih=>
  intro hv
  by_cases hk:k=1
  · rw[Tm.oN hk] at hv
    simp only[cL,c8,dP] at hv
    subst hv
    rw[Tm.pR f hk]
    exact⟨cX _,fun h=>absurd hk h⟩
  · obtain⟨x,hx,hvx⟩:=(Tm.nQ hk).1 hv
    have h1:=(ih x hx hvx).1
    have h2:=GD (f:=Tm.nodes) (cM.2 ⟨x,hx,rfl⟩:x.aV f∈ts.map (Tm.aV f))
    rw[Tm.mQ f hk,Tm.gR]
    omega
abbrev Sub:=Int→Option Tm
def Sub.set(σ:Sub)(n:Int)(t:Tm):Sub:=fun m=>if m=n then some t else σ m
def Sub.none:Sub:=fun _=>Option.none
structure Good (σ:Sub) (R:Int→Tm) (rk:Int→Nat) (B:Nat):Prop where
 F9:∀n,R n=match σ n with | some u=>u.aV R | .none=>vr n
 aII:∀n u,σ n=some u→∀w∈u.vl,rk w<rk n
 bd:∀n,rk n<B
def qB(θ:Int→Tm)(σ:Sub):Prop:=∀n u,σ n=some u→θ n=u.aV θ
section
variable {σ:Sub} {R R':Int→Tm} {rk rk':Int→Nat} {B B':Nat}
theorem Good.none:Good Sub.none vr (fun _=>0) 1:=⟨fun n=>rfl,fun n u h=>(by cases h),fun n=>Nat.zero_lt_one⟩
theorem Good.free(G:Good σ R rk B){n:Int}(h:σ n=.none):R n=vr n:=by rw[G.F9 n,h]
theorem Good.bound(G:Good σ R rk B){n:Int}{u:Tm}(h:σ n=some u):R n=u.aV R:=by rw[G.F9 n,h]
theorem Good.wU(G:Good σ R rk B):qB R σ:=fun n u h=>G.bound h
theorem Good.ind(G:Good σ R rk B){p:Int→Prop}(h0:∀n,σ n=.none→p n)(h1:∀n u,σ n=some u→(∀w∈u.vl,p w)→p n):∀n,p n:=by
 intro n
 generalize hk:rk n=k
 induction k using Nat.strongRecOn generalizing n with
 | _ k ih=>
  cases h:σ n with
  | none=>exact h0 n h
  | some u=>exact h1 n u h fun w hw=>ih (rk w) (hk▸G.aII n u h w hw) w rfl
theorem Good.uniq(G:Good σ R rk B)(G':Good σ R' rk' B'):R=R':=by
 funext n
 refine G.ind (p:=fun n=>R n=R' n) (fun n h=>?_) (fun n u h ih=>?_) n
 · rw[G.free h,G'.free h]
 · rw[G.bound h,G'.bound h];exact CC u ih
theorem Good.aVZ(G:Good σ R rk B){θ:Int→Tm}(S:qB θ σ)(n:Int):(R n).aV θ=θ n:=by
 refine G.ind (p:=fun n=>(R n).aV θ=θ n) (fun n h=>?_) (fun n u h ih=>?_) n
 · rw[G.free h,CF]
 · rw[G.bound h,CE,S n u h];exact CC u ih
theorem Good.NZ(G:Good σ R rk B){θ:Int→Tm}(S:qB θ σ)(t:Tm):(t.aV R).aV θ=t.aV θ:=by
 rw[CE];exact CC t fun v _=>G.aVZ S v
theorem Good.canon(G:Good σ R rk B)(n:Int):(R n).aV vr=R n:=by
 refine G.ind (p:=fun n=>(R n).aV vr=R n) (fun n h=>?_) (fun n u h ih=>?_) n
 · rw[G.free h,CF]
 · rw[G.bound h,CE];exact CC u ih
theorem Good.aR5(G:Good σ R rk B)(t:Tm):(t.aV R).aV vr=t.aV R:=by
 rw[CE];exact CC t fun v _=>G.canon v
theorem Good.bind(G:Good σ R rk B){n:Int}{t:Tm}(hn:σ n=.none)(ho:n∉(t.aV R).vl) :
 ∃rk' B',Good (σ.set n t) (fun m=>(R m).aV fun v=>if v=n then t.aV R else vr v) rk' B':=by
 have key:(t.aV R).aV (fun v=>if v=n then t.aV R else vr v)=t.aV R:=by
  rw[CC (g:=vr) (t.aV R) (fun v hv=>aK fun e=>ho (by rw[←e];exact hv)),G.aR5]
 refine⟨fun v=>if n∈(R v).vl then rk v+B else rk v,B+B,fun m=>?_,fun m u h w hw=>?_,fun m=>?_⟩
 · by_cases hm:m=n
   · subst hm
     simp only[Sub.set,eN]
     rw[G.free hn,CF,aN rfl]
     rw[←CE,key]
   · simp only[Sub.set,hm,dA]
     cases h:σ m with
     | none=>rw[G.free h,CF,aK hm]
     | some u=>rw[G.bound h,CE]
 · by_cases hm:m=n
   · subst hm
     simp only[Sub.set,eN,Option.some.injEq] at h
     subst h
     have hw':m∉(R w).vl:=fun h=>ho ((zZ t).2 ⟨w,hw,h⟩)
     have:m∈(R m).vl:=by rw[G.free hn,DT];simp
     have:=G.bd w
     simp only[hw',dA]
     rw[aN (by assumption)]
     omega
   · simp only[Sub.set,hm,dA] at h
     have h1:=G.aII m u h w hw
     by_cases hw':n∈(R w).vl
     · have:n∈(R m).vl:=by rw[G.bound h];exact(zZ u).2 ⟨w,hw,hw'⟩
       simp only[hw',this,eN];omega
     · simp only[hw',dA];split<;>omega
 · have:=G.bd m
   split<;>omega
end
open Classical in
noncomputable def rs(σ:Sub):Int→Tm:=if h:∃R rk B,Good σ R rk B then h.choose else vr
theorem Good.rs{σ:Sub}{R:Int→Tm}{rk:Int→Nat}{B:Nat}(G:Good σ R rk B):rs σ=R:=by
 unfold AW.rs
 have h:∃R rk B,Good σ R rk B:=⟨R,rk,B,G⟩
 rw[dif_pos h]
 obtain⟨rk',B',G'⟩:=h.choose_spec
 exact G'.uniq G
inductive fN (σ:Sub):Nat→Tm→Tm→Prop
 | stop {t:Tm} (h:t.k=1→σ t.n=none):fN σ 0 t t
 | go {f:Nat} {t u v:Tm} (h1:t.k=1) (h2:σ t.n=some u) (h3:fN σ f u v):fN σ (f+1) t v
theorem fN.det{σ:Sub}{f g:Nat}{t u v:Tm}(h:fN σ f t u):fN σ g t v→u=v:=by
 induction h generalizing g v with
 | stop h=>
  intro h'
  cases h' with
  | stop=>rfl
  | go h1 h2 h3=>rw[h h1] at h2;cases h2
 | go h1 h2 h3 ih=>
  intro h'
  cases h' with
  | stop h=>rw[h h1] at h2;cases h2
  | go h1' h2' h3'=>rw[h2] at h2';cases h2';exact ih h3'
theorem fN.total{σ:Sub}{R:Int→Tm}{rk:Int→Nat}{B:Nat}(G:Good σ R rk B)(t:Tm):∃f u,fN σ f t u:=by
 have key:∀n,∀t:Tm,t.k=1→t.n=n→∃f u,fN σ f t u:=by
  intro n
  refine G.ind (p:=fun n=>∀t:Tm,t.k=1→t.n=n→∃f u,fN σ f t u) (fun n h t hk hn=>?_) (fun n u h ih t hk hn=>?_) n
  · exact⟨0,t,.stop fun _=>by rw[hn,h]⟩
  · by_cases hu:u.k=1
    · have:u.n∈u.vl:=by rw[Tm.eta u,Tm.oN hu];simp [Tm.n]
      obtain⟨f,v,hv⟩:=ih u.n this u hu rfl
      exact⟨f+1,v,.go hk (by rw[hn,h]) hv⟩
    · exact⟨1,u,.go hk (by rw[hn,h]) (.stop fun h=>absurd h hu)⟩
 by_cases hk:t.k=1
 · exact key t.n t hk rfl
 · exact⟨0,t,.stop fun h=>absurd h hk⟩
theorem Tm.aLN{t:Tm}(h:t.k=1):t.vl= [t.n]:=by cases t;exact Tm.oN h
theorem Tm.CD{t:Tm}(f:Int→Tm)(h:t.k=1):t.aV f=f t.n:=by cases t;exact Tm.pR f h
theorem Tm.tQ{t:Tm}(f:Int→Tm)(h:t.k≠1):t.aV f=.mk t.k t.n t.s (t.ts.map (Tm.aV f)):=by cases t;exact Tm.mQ f h
theorem fN.end{σ:Sub}{f:Nat}{t u:Tm}(h:fN σ f t u):u.k=1→σ u.n=none:=by induction h with | stop h=>exact h | go _ _ _ ih=>exact ih
theorem fN.aV{σ:Sub}{θ:Int→Tm}(S:qB θ σ){f:Nat}{t u:Tm}(h:fN σ f t u):u.aV θ=t.aV θ:=by
 induction h with
 | stop=>rfl
 | go h1 h2 _ ih=>rw[ih,Tm.CD θ h1,S _ _ h2]
theorem fN.all{σ:Sub}{p:Tm→Prop}(hp:∀n u,σ n=some u→p u){f:Nat}{t u:Tm}(h:fN σ f t u)(ht:p t):p u:=by
 induction h with
 | stop=>exact ht
 | go _ h2 _ ih=>exact ih (hp _ _ h2)
open Classical in
noncomputable def wk(σ:Sub)(t:Tm):Tm:=if h:∃u f,fN σ f t u then h.choose else t
theorem fN.wk{σ:Sub}{f:Nat}{t u:Tm}(h:fN σ f t u):wk σ t=u:=by
 unfold AW.wk
 have h':∃u f,fN σ f t u:=⟨u,f,h⟩
 rw[dif_pos h']
 obtain⟨g,hg⟩:=h'.choose_spec
 exact hg.det h
theorem Good.wk{σ:Sub}{R:Int→Tm}{rk:Int→Nat}{B:Nat}(G:Good σ R rk B)(t:Tm):∃f,fN σ f t (wk σ t):=by
 obtain⟨f,u,h⟩:=fN.total G t
 exact⟨f,by rw[h.wk];exact h⟩
open Classical in
noncomputable def mN(σ:Sub)(n:Int)(t:Tm):Bool×Sub×List Int:=if n∈(t.aV (rs σ)).vl then(false,σ,[]) else(true,Sub.set σ n t,[n])
open Classical in
def yT(a b:Tm):Bool:=decide (a.k=b.k)&&decide (a.n=b.n)&&decide (a.s=b.s)&&decide (a.ts.length=b.ts.length)
mutual
noncomputable def dF:Nat→Sub→Tm→Tm→Option (Bool×Sub×List Int)
 | 0,_,_,_=>none
 | g+1,σ,a,b=>
  if(wk σ a).k=1∧(wk σ b).k=1∧(wk σ a).n=(wk σ b).n then some (true,σ,[])
  else if(wk σ a).k=1 then some (mN σ (wk σ a).n (wk σ b))
  else if(wk σ b).k=1 then some (mN σ (wk σ b).n (wk σ a))
  else if yT (wk σ a) (wk σ b)=true then fF g σ (wk σ a).ts (wk σ b).ts
  else some (false,σ,[])
termination_by g=>(g,0)
noncomputable def fF:Nat→Sub→List Tm→List Tm→Option (Bool×Sub×List Int)
 | g,σ,a::xs,b::ys=>match dF g σ a b with
  | none=>none
  | some (false,σ',tr)=>some (false,σ',tr)
  | some (true,σ',tr)=>match fF g σ' xs ys with
   | none=>none
   | some (r,σ'',tr')=>some (r,σ'',tr++tr')
 | _,σ,_,_=>some (true,σ,[])
termination_by g _ xs=>(g,xs.length+1)
end
theorem aLA{g:Nat}{σ σ':Sub}{a b:Tm}{r:Bool}{add:List Int}(h:dF (g+1) σ a b=some (r,σ',add)) :
 ((wk σ a).k=1∧(wk σ b).k=1∧(wk σ a).n=(wk σ b).n∧true=r∧σ=σ'∧[]=add) ∨
 ((wk σ a).k=1∧¬((wk σ b).k=1∧(wk σ a).n=(wk σ b).n)∧mN σ (wk σ a).n (wk σ b)=(r,σ',add)) ∨
 ((wk σ a).k≠1∧(wk σ b).k=1∧mN σ (wk σ b).n (wk σ a)=(r,σ',add)) ∨
 ((wk σ a).k≠1∧(wk σ b).k≠1∧yT (wk σ a) (wk σ b)=true∧fF g σ (wk σ a).ts (wk σ b).ts=some (r,σ',add)) ∨
 ((wk σ a).k≠1∧(wk σ b).k≠1∧yT (wk σ a) (wk σ b)=false∧false=r∧σ=σ'∧[]=add):=by
 rw[dF] at h
 split at h
 · rename_i h1;exact .inl ⟨h1.1,h1.2.1,h1.2.2,by simpa using h⟩
 · rename_i h1
   split at h
   · rename_i h2;exact .inr (.inl ⟨h2,fun h3=>h1 ⟨h2,h3⟩,mL h⟩)
   · rename_i h2
     split at h
     · rename_i h3;exact .inr (.inr (.inl ⟨h2,h3,mL h⟩))
     · rename_i h3
       split at h
       · rename_i h4;exact .inr (.inr (.inr (.inl ⟨h2,h3,h4,h⟩)))
       · rename_i h4;exact .inr (.inr (.inr (.inr ⟨h2,h3,by simpa using h4,by simpa using h⟩)))
theorem Tm.soft(t:Tm):t.av.soft=t.av:=by cases t;simp [bU,AV.soft,fT]
def Tm.zero:Tm:=.mk 0 0 ⟨#[]⟩ []
mutual
def Tm.cv:Tm→Bool
 | .mk k _ s ts=>(!decide (k=1)||(decide (s=⟨#[]⟩)&&ts.isEmpty))&&KS ts
def KS:List Tm→Bool
 | []=>true
 | t::ts=>t.cv&&KS ts
end
theorem aKP:∀(ts:List Tm),KS ts=ts.all Tm.cv
 | []=>rfl
 | t::ts=>by simp only[KS,iS,aKP ts]
theorem Tm.mZ{k n:Int}{s:ByteArray}{ts:List Tm}:(Tm.mk k n s ts).cv=true↔(k=1→s=⟨#[]⟩∧ts= [])∧∀x∈ts,x.cv=true:=by
 simp only[Tm.cv,aKP,bD,kZ,i9,dC,List.isEmpty_iff,c6,bA]
 constructor
 · exact fun h=>⟨fun hk=>h.1.resolve_left (fun hn=>hn hk),h.2⟩
 · intro h
   refine⟨?_,h.2⟩
   by_cases hk:k=1
   · exact .inr (h.1 hk)
   · exact .inl hk
theorem Tm.a03:∀(t:Tm) (d:Int),t.shape d=true→t.cv=true:=by
 intro t
 induction t using Tm.ind with
 | h k n s ts ih=>
  intro d h
  rw[Tm.zL] at h
  simp only[bD,c6] at h
  obtain⟨⟨_,h1⟩,h2⟩:=h
  refine Tm.mZ.2 ⟨fun hk=>?_,fun x hx=>ih x hx _ (h2 x hx)⟩
  subst hk
  simp [dY] at h1
  exact⟨h1.1.2,h1.2⟩
theorem Tm.a3D{t:Tm}(h:t.valid=true):t.cv=true:=by simp only[Tm.valid,bD] at h;exact Tm.a03 t 30 h.1
theorem Tm.tA:∀(t:Tm),t.cv=true→t.wf=true:=by
 intro t
 induction t using Tm.ind with
 | h k n s ts ih=>
  intro h
  obtain⟨h1,h2⟩:=Tm.mZ.1 h
  simp only[Tm.wf,QY,bD,kZ,i9,dC,List.isEmpty_iff,c6]
  refine⟨?_,fun x hx=>ih x hx (h2 x hx)⟩
  by_cases hk:k=1
  · exact .inr (h1 hk).2
  · exact .inl hk
theorem Tm.a04:∀(t:Tm) (d:Int),t.shape d=true→t.small=true:=by
 intro t
 induction t using Tm.ind with
 | h k n s ts ih=>
  intro d h
  rw[Tm.zL] at h
  simp only[bD,c6] at h
  obtain⟨⟨_,h1⟩,h2⟩:=h
  simp only[Tm.small,GV,bD,bA,c6]
  refine⟨?_,fun x hx=>ih x hx _ (h2 x hx)⟩
  unfold dY at h1
  cases h3:decide (k=1)<;>rw[h3] at h1
  · cases h4:decide (k=2)<;>rw[h4] at h1
    · cases h5:decide (k=3)<;>rw[h5] at h1<;>simp at h1;omega
    · simp at h1;rw[h1.2];simp
  · simp at h1;rw[h1.2];simp
theorem Tm.Q9{t:Tm}(h:t.valid=true):t.small=true:=by simp only[Tm.valid,bD] at h;exact Tm.a04 t 30 h.1
end Go.AW
namespace Go.AW
open Go.Proofs.Tryz
abbrev a2C:=zi aS (zi bV (zi cH (zi cB cC)))
theorem aQK(k n:Int)(s:ByteArray)(ts:List Tm)(st:aA):aD prog 306 [(Tm.mk k n s ts).av] st (fun r st'=>r=.bool (dY k n s ts.length)∧st'=st):=by
 refine wF [] 1 func306 ntmps306 rfl rfl ?_
 intro _
 simp only[bU]
 have hl:(ts.map Tm.av).length=ts.length:=aE _
 repeat' (first
  | (simp only[*,aB,seval,a2C])
  | (refine cK (fun h=>?_) (fun h=>?_))
  | (refine(aRW s st).to ?_)
  | (refine aQ (fun h=>?_) (fun h=>?_)))
 all_goals simp only[dY, *,cond_true,yG,eA,cZ,eJ,rI,xS]
abbrev KE:=zi aS (zi bV (zi cB cC))
theorem TP:∀(t:Tm) (d:Int) (st:aA),d≤30→-1≤d→aD prog 246 [t.av,.int .i64 d] st (fun r st'=>r=.bool (t.shape d)∧st'=st)
 | .mk k n s ts,d,st,hd,hd0=>by
  have hc:=fun(x:Tm) (hx:x∈ts) d st h h0=>TP x d st h h0
  have h1:=aQK k n s ts st
  rw[bU] at h1
  refine wF [] 2 func246 ntmps246 rfl rfl ?_
  simp only[bU,dS,AV.fits,dU,aE,Tm.zL]
  intro ⟨_,_,_,hl,_⟩
  generalize dY k n s ts.length=z at *
  simp only[aB,seval,KE]
  refine cK (fun h=>?_) (fun h=>?_)
  case refine_2=>
   simp only[h,aB,seval]
   simp only[eK,bA] at h
   simp;omega
  simp only[h,aB,seval,KE]
  refine h1.to ?_
  simp only[aB,seval]
  refine⟨fun h2=>?_,fun h2=>?_⟩
  · simp only[aB,seval]
    simp only[i9] at h2
    simp [h2]
  simp only[rJ,dC] at h2 h
  subst h2
  have hw:=bC (n:=d - 1)
  rw[show decide (1≤d)=true by simp;omega]
  simp only[aB,seval]
  refine v4 (α:=Nat) [] (fun i=>i≤ts.length∧∀(j:Nat) x,j<i→ts[j]?=some x→x.shape (d - 1)=true)
   (fun i=>[(1,.int .i64 d),(2,.pptr (.agg [.int .i64 k,.int .i64 n,.str s,.slice (ts.map Tm.av)])),(5,.int .i64 i)]) (fun _=>st) (fun i=>ts.length - i) (by decide +kernel)
   ⟨0,⟨by omega,by intro j x h;omega⟩,aO.mk (by simp only[aB,↓aU,seval])⟩ ?_
  intro i ⟨hi,c9⟩
  simp only[aE,aB,seval,KE]
  refine⟨fun h5=>?_,fun h5=>?_⟩
  case refine_2=>
   simp only[aB,seval]
   simp only[dC,lX] at h5
   rw[HO fun j x hx=>c9 j x (by have:=(fM.1 hx).1;omega) hx]
  simp only[bA,lX] at h5
  obtain⟨x,hx⟩:∃x,ts[i]?=some x:=⟨_,eL h5⟩
  simp only[bS (av:=Tm.av) cF hx (aP x),bM,aP,hw,aB,seval,KE]
  refine(hc x (cQ hx) (d - 1) st (by omega) (by omega)).to ?_
  simp only[aB,seval]
  refine⟨fun h6=>?_,fun h6=>?_⟩
  · simp only[aB,seval]
    simp only[i9] at h6
    rw[rS hx h6]
  simp only[rJ] at h6
  simp only[aB,seval]
  refine⟨i+1,by omega,⟨by omega,fun j u hj hu=>?_⟩,aO.mk ?_⟩
  · rcases kK j i with h8 | h8
    · exact c9 j u h8 hu
    · obtain rfl:j=i:=by omega
      rw[hx] at hu;cases hu;exact h6
  · have:=bC (n:=(i:Int)+1)
    simp only[this,aB,seval]
termination_by t=>SizeOf.sizeOf t
decreasing_by have:=List.sizeOf_lt_of_mem hx;simp only[Tm.mk.sizeOf_spec];omega
abbrev QB:=zi aS (zi cB cC)
theorem TM:∀(t:Tm) (m:Int) (st:aA),0≤m→m≤120→aD prog 247 [t.av,.int .i64 m] st (fun r st'=>r=.int .i64 (min (t.nodes:Int) (m+1))∧st'=st)
 | .mk k n s ts,m,st,hm0,hm=>by
  have hc:=fun(x:Tm) (hx:x∈ts) m st h h0=>TM x m st h h0
  refine wF [] 2 func247 ntmps247 rfl rfl ?_
  simp only[bU,dS,AV.fits,dU,aE,Tm.gR]
  intro ⟨_,_,_,hl,_⟩
  simp only[aB,seval,QB]
  refine v4 (α:=Nat) [] (fun i=>i≤ts.length)
   (fun i=>[(1,.int .i64 m),(2,.pptr (.agg [.int .i64 k,.int .i64 n,.str s,.slice (ts.map Tm.av)])),(5,.int .i64 (min ((1+bH Tm.nodes (ts.take i):Nat):Int) (m+1))),(6,.int .i64 i)]) (fun _=>st) (fun i=>ts.length - i) (by decide +kernel)
   ⟨0,by omega,aO.mk (by simp only[mK,bH,show min ((0:Int)+1) (m+1)=1 by omega,yJ,↓Int.cast_ofNat_Int,↓reduceIte,reduceCtorEq,Nat.reduceEqDiff,Nat.reduceAdd])⟩ ?_
  intro i hi
  simp only[aE,aB,seval,QB]
  have OK:¬i<ts.length→bH Tm.nodes (ts.take i)=bH Tm.nodes ts:=fun h=>by rw[oR (by omega)]
  refine cK (fun h5=>?_) (fun h5=>?_)
  case refine_2=>
   simp only[h5,aB,seval]
   simp only[eA,dC,lX] at h5
   rw[OK h5]
  simp only[h5,aB,seval]
  simp only[bA,lX] at h5
  obtain⟨x,hx⟩:∃x,ts[i]?=some x:=⟨_,eL h5⟩
  have hs:=GE Tm.nodes hx
  refine⟨fun h6=>?_,fun h6=>?_⟩
  case refine_2=>
   simp only[aB,seval]
   simp only[dC] at h6
   simp only[AV.int.injEq,sI]
   omega
  simp only[bA] at h6
  have e6:min (((1+bH Tm.nodes (ts.take i):Nat):Int)) (m+1)=((1+bH Tm.nodes (ts.take i):Nat):Int):=by omega
  rw[e6] at h6 ⊢
  have hw:=bC (n:=m - ((1+bH Tm.nodes (ts.take i):Nat):Int))
  simp only[bS (av:=Tm.av) cF hx (aP x),bM,aP,hw,aB,seval,QB]
  refine(hc x (cQ hx) _ st (by omega) (by omega)).to ?_
  have hw2:=bC (n:=((1+bH Tm.nodes (ts.take i):Nat):Int)+min (x.nodes:Int) (m - ((1+bH Tm.nodes (ts.take i):Nat):Int)+1))
  simp only[hw2,aB,seval]
  refine⟨i+1,by omega,by omega,aO.mk ?_⟩
  have:=bC (n:=(i:Int)+1)
  simp only[this,show((1+bH Tm.nodes (ts.take i):Nat):Int)+min (x.nodes:Int) (m - ((1+bH Tm.nodes (ts.take i):Nat):Int)+1)=min ((1+bH Tm.nodes (ts.take (i+1)):Nat):Int) (m+1) by omega,aB,seval]
termination_by t=>SizeOf.sizeOf t
decreasing_by have:=List.sizeOf_lt_of_mem hx;simp only[Tm.mk.sizeOf_spec];omega
abbrev aJU:=zi aS (zi bV (zi iE cC))
theorem M6(t:Tm)(st:aA):aD prog 186 [t.av] st (fun r st'=>r=.bool t.valid∧st'=st):=by
 refine wF [] 1 func186 ntmps186 rfl rfl ?_
 intro _
 simp only[cT,bM,aP,aB,seval,aJU]
 refine(TP t 30 st (by omega) (by omega)).to ?_
 simp only[aB,seval]
 refine cK (fun h=>?_) (fun h=>?_)
 · simp only[h,bM,aP,aB,seval,aJU]
   refine(TM t 120 st (by omega) (by omega)).to ?_
   simp only[aB,seval]
   simp only[Tm.valid,h,cZ,AV.bool.injEq,qM]
   omega
 · simp only[h,aB,seval]
   simp at h
   simp [Tm.valid,h]
abbrev a19:=zi aS (zi bV (zi cH (zi cB cC)))
theorem TX(k n:Int)(s:ByteArray)(ts:List Tm)(st:aA):aD prog 194 [(Tm.mk k n s ts).av] st (fun r st'=>r=.bool (decide (k=3)&&decide (s=⟨#[33]⟩)&&decide ((ts.length:Int)=0))∧st'=st):=by
 refine wF [] 1 func194 ntmps194 rfl rfl ?_
 intro _
 simp only[bU]
 repeat' (first
  | (simp only[*,aB,seval,a19])
  | (refine cK (fun h=>?_) (fun h=>?_))
  | (refine aQ (fun h=>?_) (fun h=>?_)))
 all_goals simp only[*,aE,eJ]
abbrev aJS:=zi bV (zi cH cC)
theorem aPQ(k n:Int)(s:ByteArray)(ts:List Tm)(st:aA):aD prog 275 [(Tm.mk k n s ts).av] st (fun r st'=>r=.bool (decide (k=3)&&decide ((ts.length:Int)=0)&&decide (s=⟨#[33]⟩))∧st'=st):=by
 have h1:=aPP k n s ts st
 rw[bU] at h1
 refine wF [] 1 func275 ntmps275 rfl rfl ?_
 intro _
 simp only[bU]
 simp only[aB,seval,aJS]
 refine h1.to ?_
 clear h1
 repeat' (first
  | (simp only[*,aB,seval,aJS])
  | (refine cK (fun h=>?_) (fun h=>?_))
  | (refine aQ (fun h=>?_) (fun h=>?_)))
 all_goals simp_all
abbrev aJT:=zi aS (zi bV (zi cH (zi cB cC)))
theorem TD(k n:Int)(s:ByteArray)(ts:List Tm)(st:aA):aD prog 276 [(Tm.mk k n s ts).av] st (fun r st'=>r=.bool (decide (k=3)&&isBuiltin s (ts.length:Int))∧st'=st):=by
 have h1:=aPJ s ts.length st
 refine wF [] 1 func276 ntmps276 rfl rfl ?_
 intro _
 simp only[bU]
 simp only[aB,seval,aJT]
 refine cK (fun h=>?_) (fun h=>?_)
 · simp only[h,aE,aB,seval,aJT]
   refine h1.to ?_
   clear h1
   simp only[aB,seval]
 · simp only[h,aB,seval]
   simp at h
   simp []
def pT(k:Int)(s:ByteArray)(len:Int):Bool:=decide (k=3)&&qW s&& !isBuiltin s len&&decide ((cV s:Int)=0)
abbrev a2A:=zi aS (zi bV (zi cH cC))
theorem TF(k n:Int)(s:ByteArray)(ts:List Tm)(st:aA):aD prog 234 [(Tm.mk k n s ts).av] st (fun r st'=>r=.bool (pT k s (ts.length:Int))∧st'=st):=by
 have h1:=TD k n s ts st
 rw[bU] at h1
 have e:decide ((0:Int)<(cV s:Int))= !decide ((cV s:Int)=0):=by
  by_cases h:cV s=0
  · simp [h]
  · simp [h];omega
 have e3:∀b:Bool,k=3→(decide (k=3)&&b)=b:=fun b h=>by simp [h]
 refine wF [] 1 func234 ntmps234 rfl rfl ?_
 intro _
 simp only[bU]
 repeat' (first
  | (simp only[*,aB,seval,a2A])
  | (refine cK (fun h=>?_) (fun h=>?_))
  | (refine(TE s st).to ?_) | (refine(aPR s st).to ?_) | (refine h1.to ?_)
  | (refine aQ (fun h=>?_) (fun h=>?_)))
 all_goals (clear h1;simp_all [pT])
abbrev a2B:=zi aS (zi bV (zi cH (zi cB cC)))
theorem TZ(k n:Int)(s:ByteArray)(ts:List Tm)(st:aA):aD prog 237 [(Tm.mk k n s ts).av] st (fun r st'=>r=.bool (pT k s (ts.length:Int))∧st'=st):=by
 refine wF [] 1 func237 ntmps237 rfl rfl ?_
 intro _
 simp only[bU]
 have hl:(ts.map Tm.av).length=ts.length:=aE _
 repeat' (first
  | (simp only[*,aB,seval,a2B])
  | (refine cK (fun h=>?_) (fun h=>?_))
  | (refine(TS s st).to ?_) | (refine(M5 s _ st).to ?_) | (refine(uU s st).to ?_)
  | (refine aQ (fun h=>?_) (fun h=>?_)))
 all_goals simp_all [pT]
def wN(k:Int)(s:ByteArray)(len:Int):Bool:=(decide (k=3)&&decide (s=⟨#[33]⟩)&&decide (len=0))||pT k s len||(decide (k=3)&&isBuiltin s len)
abbrev a18:=zi aS (zi bV (zi cH (zi cB cC)))
theorem aQ1(k n:Int)(s:ByteArray)(ts:List Tm)(st:aA):aD prog 187 [(Tm.mk k n s ts).av] st (fun r st'=>r=.bool (wN k s (ts.length:Int))∧st'=st):=by
 have h1:=TX k n s ts st
 have h2:=TZ k n s ts st
 rw[bU] at h1 h2
 refine wF [] 1 func187 ntmps187 rfl rfl ?_
 intro _
 simp only[bU]
 have hl:(ts.map Tm.av).length=ts.length:=aE _
 unfold wN
 generalize (decide (k=3)&&decide (s=⟨#[33]⟩)&&decide ((ts.length:Int)=0))=z1 at *
 generalize pT k s (ts.length:Int)=z2 at *
 repeat' (first
  | (simp only[*,aB,seval,a18])
  | (refine cK (fun h=>?_) (fun h=>?_))
  | (refine h1.to ?_) | (refine h2.to ?_) | (refine(M5 s _ st).to ?_)
  | (refine aQ (fun h=>?_) (fun h=>?_)))
 all_goals (clear h1 h2;simp_all)
theorem a3B{st:aA}{b:Nat}{o:AO}(h:st b=some o):st.aC b o=st:=by
 funext x;simp only[aA.aC];split
 · rename_i e;rw[e,h]
 · rfl
def F7(ok:Bool)(c n:Int)(b:Nat)(st:aA)(r:AV)(st':aA):Prop:=
 ∃c',r=.bool (decide (c+n≤120)&&ok)∧st'=st.aC b (.cells [.int .i64 c'])∧((decide (c+n≤120)&&ok)=true→c'=c+n)
abbrev a2D:=zi aS (zi bV (zi cC QU))
theorem aRQ(x:Tm)(d c:Int)(b:Nat)(st:aA)(hd: -1000≤d)(hd1:d≤1000)
 (h:aD prog 300 [x.av,.int .i64 (d+1),.ptr b 0] st (F7 (x.shape (30 - d)) c x.nodes b st)) :
 aD prog 354 [x.av,.pptr (.int .i64 d),.pptr (.ptr b 0)] st (fun r st'=>∃c',r=.bool (!(decide (c+x.nodes≤120)&&x.shape (30 - d)))∧st'=st.aC b (.cells [.int .i64 c'])∧((decide (c+(x.nodes:Int)≤120)&&x.shape (30 - d))=true→c'=c+x.nodes)):=by
 have hw:=bC (n:=d+1)
 refine wF [] 3 func354 ntmps354 rfl rfl ?_
 intro _
 simp only[hw,cT,bM,aP,aB,seval,a2D]
 refine h.mono ?_
 rintro _ _ ⟨c',rfl,rfl,hc⟩
 simp only[aB,seval]
 refine⟨c',?_⟩
 first | exact hc | exact⟨rfl,rfl,hc⟩ | exact⟨rfl,hc⟩ | trace_state
abbrev aJV:=zi aS (zi cB cC)
theorem aO2(l:List Tm)(d c:Int)(b:Nat)(st:aA)(hd: -1000≤d)(hd1:d≤1000)(hb:st b=some (.cells [.int .i64 c]))(hc0:0≤c)(hc1:c≤120)
 (h:∀x∈l,∀(c:Int) (st:aA),st b=some (.cells [.int .i64 c])→0≤c→c≤120→aD prog 300 [x.av,.int .i64 (d+1),.ptr b 0] st (F7 (x.shape (30 - d)) c x.nodes b st)) :
 aD prog 330 [.slice (l.map Tm.av),.func 354 [.pptr (.int .i64 d),.pptr (.ptr b 0)]] st
  (fun r st'=>∃j c',r=.int .i64 j∧decide (0≤j)=(!(decide (c+(bH Tm.nodes l:Int)≤120)&&l.all fun t=>t.shape (30 - d)))∧st'=st.aC b (.cells [.int .i64 c'])∧(decide (0≤j)=false→c'=c+(bH Tm.nodes l:Int))):=by
 refine wF [] 2 func330 ntmps330 rfl rfl ?_
 simp only[dS,AV.fits,dU,aE]
 intro ⟨hl,_⟩
 simp only[aE,aB,seval,aJV]
 refine v4 (α:=Nat) [] (fun i=>i≤l.length∧c+(bH Tm.nodes (l.take i):Int)≤120∧∀(j:Nat) x,j<i→l[j]?=some x→x.shape (30 - d)=true)
  (fun i=>[(0,.slice (l.map Tm.av)),(1,.func 354 [.pptr (.int .i64 d),.pptr (.ptr b 0)]),(7,.int .i64 l.length),(8,.int .i64 i)]) (fun i=>st.aC b (.cells [.int .i64 (c+(bH Tm.nodes (l.take i):Int))])) (fun i=>l.length - i) (by decide +kernel)
  ⟨0,⟨by omega,by simp only[mK,bH];omega,by intro j x h;omega⟩,by
   simp only[mK,bH]
   rw[show c+((0:Nat):Int)=c by omega,a3B hb]
   exact aO.mk (by simp only[aB,↓aU,seval])⟩ ?_
 intro i ⟨hi,FJ,c9⟩
 simp only[aB,seval]
 refine⟨fun h5=>?_,fun h5=>?_⟩
 case refine_2=>
  simp only[aB,seval]
  simp only[dC,lX] at h5
  rw[oR (by omega)] at FJ ⊢
  have ha:(l.all fun t=>t.shape (30 - d))=true:=HO fun j x hx=>c9 j x (by have:=(fM.1 hx).1;omega) hx
  exact⟨-1,_,rfl,by rw[ha];simp<;>omega,rfl,fun _=>rfl⟩
 simp only[bA,lX] at h5
 obtain⟨x,hx⟩:∃x,l[i]?=some x:=⟨_,eL h5⟩
 have hs:=GE Tm.nodes hx
 simp only[bS (av:=Tm.av) cF hx (aP x),bM,aP,aB,seval,aJV]
 refine(aRQ x d (c+(bH Tm.nodes (l.take i):Int)) b _ hd hd1 (h x (cQ hx) _ _ (aA.aH _ _ _) (by omega) FJ)).mono ?_
 rintro _ _ ⟨c',rfl,rfl,hc'⟩
 simp only[dW,aB,seval]
 refine⟨fun h6=>?_,fun h6=>?_⟩
 · simp only[aB,seval]
   refine⟨i,c',rfl,?_,rfl,fun h7=>absurd h7 (by simp)⟩
   simp only[i9,Bool.and_eq_false_iff,dC] at h6
   rcases h6 with h6 | h6
   · rw[show decide (c+(bH Tm.nodes l:Int)≤120)=false by simp;omega]
     simp
   · rw[rS hx h6]
     simp
 simp only[rJ] at h6
 rw[hc' h6]
 simp only[bD,bA] at h6
 simp only[aB,seval]
 refine⟨i+1,by omega,⟨by omega,by omega,fun j u hj hu=>?_⟩,?_⟩
 · rcases kK j i with h8 | h8
   · exact c9 j u h8 hu
   · obtain rfl:j=i:=by omega
     rw[hx] at hu;cases hu;exact h6.2
 · rw[show c+(bH Tm.nodes (l.take i):Int)+(x.nodes:Int)=c+(bH Tm.nodes (l.take (i+1)):Int) by omega]
   have:=bC (n:=(i:Int)+1)
   exact aO.mk (by simp only[this,aB,seval])
theorem aOT(l:List Tm)(d c:Int)(b:Nat)(st:aA)(hd: -1000≤d)(hd1:d≤1000)(hb:st b=some (.cells [.int .i64 c]))(hc0:0≤c)(hc1:c≤120)
 (h:∀x∈l,∀(c:Int) (st:aA),st b=some (.cells [.int .i64 c])→0≤c→c≤120→aD prog 300 [x.av,.int .i64 (d+1),.ptr b 0] st (F7 (x.shape (30 - d)) c x.nodes b st)) :
 aD prog 271 [.slice (l.map Tm.av),.func 354 [.pptr (.int .i64 d),.pptr (.ptr b 0)]] st
  (fun r st'=>∃c',r=.bool (!(decide (c+(bH Tm.nodes l:Int)≤120)&&l.all fun t=>t.shape (30 - d)))∧st'=st.aC b (.cells [.int .i64 c'])∧((decide (c+(bH Tm.nodes l:Int)≤120)&&l.all fun t=>t.shape (30 - d))=true→c'=c+(bH Tm.nodes l:Int))):=by
 have h1:=aO2 l d c b st hd hd1 hb hc0 hc1 h
 refine wF [] 2 func271 ntmps271 rfl rfl ?_
 intro _
 simp only[aB,seval]
 refine h1.mono ?_
 rintro _ _ ⟨j,c',rfl,hj,rfl,hc⟩
 simp only[aB,seval]
 refine⟨c',by rw[hj],rfl,fun h=>hc (by rw[hj,h];try rfl)⟩
abbrev xI:=zi aS (zi bV (zi cH (zi mF (zi cB (zi cC QU)))))
theorem UE:∀(t:Tm) (d c:Int) (b:Nat) (st:aA),st b=some (.cells [.int .i64 c])→0≤c→c≤120→0≤d→d≤31→aD prog 300 [t.av,.int .i64 d,.ptr b 0] st (F7 (t.shape (31 - d)) c t.nodes b st)
 | .mk k n s ts,d,c,b,st,hb,hc0,hc1,hd0,hd1=>by
  have hk:=fun(st:aA) (hb:st b=some (.cells [.int .i64 (c+1)])) (h1:c+1≤120) (h2:d≤30)=>aOT ts d (c+1) b st (by omega) (by omega) hb (by omega) h1 fun x hx c st hb hc0 hc1=>by
   have:=UE x (d+1) c b st hb hc0 hc1 (by omega) (by omega)
   rw[show(31:Int) - (d+1)=30 - d by omega] at this
   exact this
  have hw:=bC (n:=c+1)
  unfold F7
  rw[Tm.gR,Tm.zL]
  refine wF [] 3 func300 ntmps300 rfl rfl ?_
  simp only[bU,dS,AV.fits,dU,aE]
  intro ⟨_,_,_,hl,_⟩
  simp only[hb,aG,hw,aB,seval,xI]
  have hL:(ts.map Tm.av).length=ts.length:=aE _
  have fP:∀(v:Bool),v=(decide (c+((1+bH Tm.nodes ts:Nat):Int)≤120)&&(decide (1≤31 - d)&&dY k n s ts.length&&ts.all fun t=>t.shape (31 - d - 1)))→(v=true→ts= []) →
   ∃c',AV.bool v=AV.bool (decide (c+((1+bH Tm.nodes ts:Nat):Int)≤120)&&(decide (1≤31 - d)&&dY k n s ts.length&&ts.all fun t=>t.shape (31 - d - 1)))∧st.aC b (.cells [.int .i64 (c+1)])=st.aC b (.cells [.int .i64 c'])∧((decide (c+((1+bH Tm.nodes ts:Nat):Int)≤120)&&(decide (1≤31 - d)&&dY k n s ts.length&&ts.all fun t=>t.shape (31 - d - 1)))=true→c'=c+((1+bH Tm.nodes ts:Nat):Int)):=
   fun v h1 h2=>⟨c+1,by rw[h1],rfl,fun h3=>by rw[h2 (h1.trans h3)];simp [bH]⟩
  refine cK (fun h1=>?_) (fun h1=>?_)
  case refine_2=>
   simp only[h1,aB,seval]
   simp only[eK,bA] at h1
   refine fP false ?_ (by intro h;cases h)
   rw[show decide (c+((1+bH Tm.nodes ts:Nat):Int)≤120)=false by simp;omega]
   try rfl
  simp only[h1,aB,seval,xI]
  refine⟨fun h2=>?_,fun h2=>?_⟩
  · simp only[aB,seval]
    simp only[bA] at h2
    refine fP false ?_ (by intro h;cases h)
    rw[show decide (1≤31 - d)=false by simp;omega]
    simp
  simp only[dC] at h1 h2
  rw[show decide (1≤31 - d)=true by simp;omega] at fP ⊢
  simp only[cZ] at fP ⊢
  rw[show 31 - d - 1=30 - d by omega] at fP ⊢
  -- no kids
  have aGH:∀q:Bool,(∀h:ts= [],dY k n s ts.length=q)→(ts≠[]→dY k n s ts.length=false)→(q&&decide ((ts.length:Int)=0))=(decide (c+((1+bH Tm.nodes ts:Nat):Int)≤120)&&(dY k n s ts.length&&ts.all fun t=>t.shape (30 - d))):=by
   intro q hq1 hq2
   by_cases ht:ts= []
   · rw[hq1 ht];subst ht
     have e:c+((1+bH Tm.nodes []:Nat):Int)≤120:=by simp only[bH];omega
     rw[d9 e]
     simp
   · rw[hq2 ht]
     have:¬(ts.length:Int)=0:=by intro h;exact ht (oQ (by omega))
     rw[eM this]
     simp
  simp only[aB,seval,xI]
  refine aQ (fun hk1=>?_) (fun hk1=>?_)
  · simp only[bA] at hk1
    subst hk1
    simp only[aB,seval,xI]
    refine(wI _ _ _ _).to ?_
    repeat' (first
     | (simp only[*,aB,seval,xI])
     | (refine cK (fun h=>?_) (fun h=>?_))
     | (refine aQ (fun h=>?_) (fun h=>?_)))
    all_goals first
     | (refine fP false ?_ (by intro h;cases h);rw[show dY 1 n s ts.length=false by first | (simp only[dY, *,eA,eJ,rI];done) | (simp_all [dY];done) | (simp_all [dY];intro a e;have:=h a;omega)];simp;done)
     | (refine fP _ ?_ (fun h=>oQ (by simpa using h));rw[←aGH true (fun h=>by simp_all [dY]) (fun h=>by simp [dY,h])];simp;done)
  simp only[dC] at hk1
  simp only[aB,seval]
  refine aQ (fun hk2=>?_) (fun hk2=>?_)
  · simp only[bA] at hk2
    subst hk2
    simp only[aB,seval,xI]
    refine(wI _ _ _ _).to ?_
    repeat' (first
     | (simp only[*,aB,seval,xI])
     | (refine cK (fun h=>?_) (fun h=>?_))
     | (refine aQ (fun h=>?_) (fun h=>?_)))
    all_goals first
     | (refine fP false ?_ (by intro h;cases h);rw[show dY 2 n s ts.length=false by first | (simp only[dY, *,eA,eJ,rI];done) | (simp_all [dY];done) | (simp_all [dY];intro a e;have:=h a;omega)];simp;done)
     | (refine fP _ ?_ (fun h=>oQ (by simpa using h));rw[←aGH true (fun h=>by simp_all [dY]) (fun h=>by simp [dY,h])];simp;done)
  simp only[dC] at hk2
  simp only[aB,seval]
  refine aQ (fun hk3=>?_) (fun hk3=>?_)
  case refine_2=>
   simp only[dC] at hk3
   simp only[aB,seval]
   refine fP false ?_ (by intro h;cases h)
   rw[show dY k n s ts.length=false by simp [dY,hk1,hk2,hk3]]
   simp
  simp only[bA] at hk3
  subst hk3
  have hk':=fun st hb=>hk st hb (by omega) (by omega)
  clear hk
  repeat' (first
   | (simp only[*,aB,seval,xI])
   | (refine cK (fun h=>?_) (fun h=>?_))
   | (refine(aPK s _).to ?_)
   | (refine aQ (fun h=>?_) (fun h=>?_)))
  all_goals first
   | (refine fP false ?_ (by intro h;cases h);rw[show dY 3 n s ts.length=false by(simp_all [dY];done)];simp;done)
   | skip
  refine(hk' _ (aA.aH _ _ _)).mono ?_
  rintro _ _ ⟨c',rfl,rfl,hc'⟩
  simp only[dW,aB,seval]
  have ho:dY 3 n s ts.length=true:=by simp_all [dY]
  rw[ho,show c+((1+bH Tm.nodes ts:Nat):Int)=c+1+(bH Tm.nodes ts:Int) by omega]
  simp only[cZ,Bool.not_not]
  first | exact⟨c',trivial,rfl,hc'⟩ | exact⟨c',rfl,rfl,hc'⟩
termination_by t=>SizeOf.sizeOf t
decreasing_by have:=List.sizeOf_lt_of_mem hx;simp only[Tm.mk.sizeOf_spec];omega
abbrev a2E:=zi aS (zi bV (zi cC QU))
theorem TC(t:Tm)(st:aA):aD prog 233 [t.av] st (fun r st'=>r=.bool t.valid∧st'=st):=by
 have hd:aD prog 233 [t.av] st (fun r st'=>aL st' st∧r=.bool t.valid):=by
  refine wF [] 1 func233 ntmps233 rfl rfl ?_
  intro _
  simp only[cT,bM,aP,aB,seval,a2E]
  intro b hb
  simp only[aG,aB,seval]
  refine(UE t 1 0 b _ (aA.aH _ _ _) (by omega) (by omega) (by omega) (by omega)).mono ?_
  rintro _ _ ⟨c',rfl,rfl,_⟩
  simp only[dW,yJ,↓reduceIte]
  refine⟨(aL.refl st).aC hb,?_⟩
  simp only[Tm.valid,AV.bool.injEq]
  rw[Bool.and_comm,show(31:Int) - 1=30 from rfl]
  congr 1
  simp only[qM]
  omega
 exact hd.drop
def Tm.goal:Tm→Bool
 | .mk k n s ts=>(Tm.mk k n s ts).valid&&wN k s ts.length
abbrev aJW:=zi bV cC
theorem UH:∀(t:Tm) (st:aA),aD prog 138 [t.av] st (fun r st'=>r=.bool t.goal∧st'=st)
 | .mk k n s ts,st=>by
  have h1:=M6 (.mk k n s ts) st
  have h2:=aQ1 k n s ts st
  rw[show(Tm.mk k n s ts).goal=((Tm.mk k n s ts).valid&&wN k s ts.length) from rfl]
  generalize (Tm.mk k n s ts).valid=z at *
  rw[bU] at *
  refine wF [] 1 func138 ntmps138 rfl rfl ?_
  intro _
  simp only[aB,seval,aJW]
  refine h1.to ?_
  simp only[aB,seval]
  refine cK (fun h=>?_) (fun h=>?_)
  · simp only[h,aB,seval,aJW]
    refine h2.to ?_
    simp only[aB,seval]
  · simp only[h,aB,seval]
    simp at h
    simp []
abbrev a2F:=zi bV cC
theorem aPI:∀(t:Tm) (st:aA),aD prog 273 [t.av] st (fun r st'=>r=.bool t.goal∧st'=st)
 | .mk k n s ts,st=>by
  have h1:=TC (.mk k n s ts) st
  have h2:=TF k n s ts st
  have h3:=TD k n s ts st
  have h4:=aPQ k n s ts st
  rw[show(Tm.mk k n s ts).goal=((Tm.mk k n s ts).valid&&wN k s ts.length) from rfl]
  unfold wN
  generalize (Tm.mk k n s ts).valid=z at *
  generalize pT k s (ts.length:Int)=z2 at *
  generalize (decide (k=3)&&isBuiltin s (ts.length:Int))=z3 at *
  rw[show(decide (k=3)&&decide (s=⟨#[33]⟩)&&decide ((ts.length:Int)=0))=(decide (k=3)&&decide ((ts.length:Int)=0)&&decide (s=⟨#[33]⟩)) from by cases decide (k=3)<;>cases decide (s=⟨#[33]⟩)<;>cases decide ((ts.length:Int)=0)<;>rfl]
  generalize (decide (k=3)&&decide ((ts.length:Int)=0)&&decide (s=⟨#[33]⟩))=z4 at *
  rw[bU] at *
  refine wF [] 1 func273 ntmps273 rfl rfl ?_
  intro _
  repeat' (first
   | (simp only[*,aB,seval,a2F])
   | (refine cK (fun h=>?_) (fun h=>?_))
   | (refine h1.to ?_) | (refine h2.to ?_) | (refine h3.to ?_) | (refine h4.to ?_)
   | (refine aQ (fun h=>?_) (fun h=>?_)))
  all_goals (clear h1 h2 h3 h4;simp_all)
abbrev aJ9:=zi aS (zi cB cC)
theorem aO0(l:List Tm)(g:FuncId)(dB:List AV)(p:Tm→Bool)(st:aA)(hc:∀x∈l,aD prog g ([Tm.av x]++dB) st (fun r st'=>r=.bool (p x)∧st'=st)) :
 aD prog 330 [.slice (l.map Tm.av),.func g dB] st (fun r st'=>∃j:Int,r=.int .i64 j∧decide (0≤j)=l.any p∧st'=st):=by
 refine wF [] 2 func330 ntmps330 rfl rfl ?_
 simp only[dS,AV.fits,dU,aE]
 intro ⟨hl,_⟩
 simp only[aE,aB,seval,aJ9]
 refine dX (σ:=Unit) [] [0,1,7] l (fun i _=>(l.drop i).any p=l.any p) (fun i _=>[(8,.int .i64 i)]) (fun _ _=>st) (by decide +kernel) ⟨(),rfl,aO.mk (by simp only[aB,↓aU,seval])⟩ (fun i x _ hx hlt bP hdr hinv=>?_) (fun _ hge hinv=>?_)
 case refine_2=>
  simp only[hge,aB,seval]
  rw[mJ] at hinv
  exact⟨-1,rfl,by rw[←hinv];try rfl⟩
 rw[hdr,t9] at hinv
 have hw:=bC (n:=(i:Int)+1)
 simp only[bP,bS (av:=Tm.av) cF hx (aP x),bM,aP,aB,seval,aJ9]
 refine(hc x (cQ hx)).to ?_
 simp only[aB,seval]
 refine aQ (fun h=>?_) (fun h=>?_)
 · simp only[aB,seval]
   exact⟨i,rfl,by rw[←hinv,h];simp⟩
 · rw[h,mT] at hinv
   simp only[aB,seval]
   exact⟨(),hinv,aO.mk (by simp only[hw,aB,seval])⟩
theorem aOR(l:List Tm)(g:FuncId)(dB:List AV)(p:Tm→Bool)(st:aA)(hc:∀x∈l,aD prog g ([Tm.av x]++dB) st (fun r st'=>r=.bool (p x)∧st'=st)) :
 aD prog 271 [.slice (l.map Tm.av),.func g dB] st (fun r st'=>r=.bool (l.any p)∧st'=st):=by
 refine wF [] 2 func271 ntmps271 rfl rfl ?_
 intro _
 simp only[aB,seval]
 refine(aO0 l g dB p st hc).mono ?_
 rintro _ _ ⟨j,rfl,hj,rfl⟩
 simp only[hj,aB,seval]
theorem EP{α:Type}(p:α→Bool):∀l:List α,(!(l.any fun x=> !p x))=l.all p
 | []=>rfl
 | x::l=>by rw[t9,iS,←EP p l];cases p x<;>simp
abbrev a2M:=zi bV cC
theorem aPD(t:Tm)(st:aA):aD prog 272 [t.av] st (fun r st'=>r=.bool (!t.goal)∧st'=st):=by
 refine wF [] 1 func272 ntmps272 rfl rfl ?_
 intro _
 simp only[cT,bM,aP,aB,seval,a2M]
 refine(aPI t st).to ?_
 simp only[aB,seval]
def eP(l:List Tm):Bool:=decide (l.length≤6)&&l.all Tm.goal
abbrev a2L:=zi aS (zi bV cB)
theorem aPC(l:List Tm)(st:aA):aD prog 208 [.slice (l.map Tm.av)] st (fun r st'=>r=.bool (eP l)∧st'=st):=by
 refine wF [] 1 func208 ntmps208 rfl rfl ?_
 simp only[dS,AV.fits,dU,aE]
 intro _
 unfold eP
 simp only[aE,aB,seval,a2L]
 refine cK (fun h=>?_) (fun h=>?_)
 · simp only[bA] at h
   rw[show decide (l.length≤6)=true by simp;omega]
   simp only[h,aB,seval]
   refine(aOR l _ [] (fun t=> !t.goal) st fun x _=>aPD x st).to ?_
   simp only[EP,aB,seval]
 · simp only[eA,dC] at h
   rw[show decide (l.length≤6)=false by simp;omega]
   simp only[h,aB,seval]
   rfl
abbrev KK:=zi aS (zi bV (zi cB cC))
theorem EX(l:List Tm)(st:aA):aD prog 89 [.slice (l.map Tm.av)] st (fun r st'=>r=.bool (eP l)∧st'=st):=by
 refine wF [] 1 func89 ntmps89 rfl rfl ?_
 simp only[dS,AV.fits,dU,aE]
 intro ⟨hl,_⟩
 simp only[aB,seval]
 refine dX (σ:=Unit) [] [0] l (fun i _=>i≤7∧(l.take i).all Tm.goal=true) (fun i _=>[(3,.int .i64 i)]) (fun _ _=>st) (by decide +kernel) ⟨(),⟨by omega,by simp⟩,aO.mk (by simp only[aB,↓aU,seval])⟩ (fun i x _ hx hlt bP hdr hinv=>?_) (fun _ hge hinv=>?_)
 case refine_2=>
  obtain⟨i1,i2⟩:=hinv
  rw[d6] at i2
  simp only[aE,hge,aB,seval,KK]
  simp only[eP,i2,xS,AV.bool.injEq,qM]
  omega
 obtain⟨i1,i2⟩:=hinv
 have hw:=bC (n:=(i:Int)+1)
 simp only[aE,bP,aB,seval,KK]
 refine aQ (fun h=>?_) (fun h=>?_)
 case refine_2=>
  simp only[dC] at h
  simp only[aE,aB,seval,KK]
  simp only[eP,AV.bool.injEq]
  rw[show decide (l.length≤6)=false by simp;omega,show decide ((l.length:Int)≤6)=false by simp;omega]
  try rfl
 simp only[bA] at h
 simp only[bS (av:=Tm.av) cF hx (aP x),bM,aP,aB,seval,KK]
 refine(UH x st).to ?_
 simp only[aB,seval]
 refine aQ (fun h2=>?_) (fun h2=>?_)
 · simp only[i9] at h2
   simp only[aB,seval]
   have:l.all Tm.goal=false:=rS hx h2
   simp only[eP,this,rI]
 · simp only[rJ] at h2
   simp only[aB,seval]
   refine⟨(),⟨by omega,?_⟩,aO.mk (by simp only[hw,aB,seval])⟩
   rw[eS,hx,AC,i2]
   simp [h2]



abbrev Bt:=Fin 256
def bJ(b:Bt):AV:=.int .u8 (b.val:Int)
theorem HX(b:Bt):(bJ b).width=1:=rfl
def fH(st:aA)(c:Nat)(bs:List Bt)(p:Nat):Prop:=st c=some (.cells [.slice (bs.map bJ),.int .i64 (p:Int)])
def fO(bs:List Bt)(p:Nat):AO:=.cells [.slice (bs.map bJ),.int .i64 (p:Int)]
theorem QW(a b:Nat):(a:Int).tmod (b:Int)=((a % b:Nat):Int):=(Int.ofNat_tmod a b).symm
theorem aJG(a b:Nat):(a:Int).tdiv (b:Int)=((a / b:Nat):Int):=(Int.ofNat_tdiv a b).symm
theorem aMU(a b:Nat)(ha:a<2 ^ 62)(hb:b<2 ^ 62):∃m:Nat,EM .i64 (a:Int) (b:Int)=(m:Int):=by
 have hx:=Nat.xor_lt_two_pow ha hb
 refine⟨a ^^^ b,?_⟩
 unfold EM
 show IntKind.i64.wrap (((BitVec.ofInt 64 (a:Int) ^^^ BitVec.ofInt 64 (b:Int)).toNat:Nat):Int)=_
 rw[LK,LK,BitVec.toNat_xor,LM,LM,D1 (by omega),D1 (by omega)]
 rw[wrap64 (by omega) (by omega)]
abbrev GF:=zi aS (zi gD (zi kH (zi tZ QV)))
theorem s9(bs:List Bt)(c p:Nat)(hp:p≤1099511627776)(n:Nat)(hn:1≤n)(hn2:n≤1048576)(st:aA)(h:fH st c bs p) :
 aD prog 33 [.ptr c 0,.int .i64 (n:Int)] st (fun r st'=>∃k:Nat,k<n∧r=.int .i64 (k:Int)∧st'=st.aC c (fO bs (p+1))):=by
 unfold fH at h
 refine wF [1000000] 2 func33 ntmps33 rfl rfl ?_
 intro _
 have hw1:IntKind.i64.wrap ((p:Int)+1)=(p:Int)+1:=wrap64 (by omega) (by omega)
 simp only[aG,h,hw1,aB,seval,GF]
 have hn1:¬(n:Int)<1:=by omega
 have hw2:IntKind.i64.wrap ((p:Int)+1 - 1)=(p:Int):=by rw[wrap64 (by omega) (by omega)];omega
 have hst:∀(q:aA),q c=some (.cells [.slice (bs.map bJ),.int .i64 ((p:Int)+1)])→True:=fun _ _=>trivial
 have hrd:fO bs (p+1)=.cells [.slice (bs.map bJ),.int .i64 ((p:Int)+1)]:=by simp [fO]
 rw[hrd]
 refine cK (fun h1=>?_) (fun h1=>?_)
 case refine_2=>simp [hn1] at h1
 simp only[bB,dV,hn1,aE,aB,seval,GF]
 refine aQ (fun h2=>?_) (fun h2=>?_)
 · simp only[aB,seval]
   exact⟨0,by omega,rfl⟩
 simp only[hw2,aE,aB,seval,GF]
 have hbl:bs.length≠0:=by simpa using h2
 refine aQ (fun h3=>?_) (fun h3=>?_)
 · simp only[bA] at h3
   obtain⟨x,hx⟩:∃x,bs[p]?=some x:=⟨_,eL (by omega)⟩
   have hx2:=x.isLt
   have hb1:IntKind.i64.wrap (x.val:Int)=(x.val:Int):=wrap64 (by omega) (by omega)
   have hn0:¬(n:Int)=0:=by omega
   have FC:dT prog 22 (.slice (bs.map bJ)) (.int .i64 (p:Int))=some (.pptr (.int .u8 x.val)):=bS (av:=bJ) iK hx (HX x)
   simp only[FC,lM,hb1,hn0,aB,seval,GF]
   exact⟨x.val % n,uG _ (by omega),by rw[QW]⟩
 · simp only[dC] at h3
   obtain⟨x,hx⟩:∃x,bs[p % bs.length]?=some x:=⟨_,eL (uG _ (by omega))⟩
   obtain⟨y,hy⟩:∃y,bs[(p*7+3) % bs.length]?=some y:=⟨_,eL (uG _ (by omega))⟩
   have hx2:=x.isLt
   have hy2:=y.isLt
   have hl0:¬(bs.length:Int)=0:=by omega
   simp only[aB,seval]
   refine z5 [(0,1),(1,1),(2,1),(3,1),(4,1),(5,1),(6,1),(7,1),(8,1),(9,1),(10,1),(11,1),(12,1),(13,1),(14,1),(15,1),(16,1),(17,1),(18,1),(19,1),(20,1),(21,1),(22,1),(23,1),(24,1),(25,1),(26,1),(27,1),(28,1),(29,1),(30,1),(31,1),(32,1),(33,1),(34,1),(35,1),(36,1),(37,1),(38,1),(39,1),(40,1),(41,1),(42,1),(43,1),(44,1),(45,1)] [0,1,2,3,4,5,6,7,8,9,10,11,12,13,14,15,16,17,18,19,20,21,22,23,24,25,26,27,28,29,30,31,32,33,34,35,36,37,38,39,40,41,42,43,44,45] (eF.aC c (.cells [.slice (bs.map bJ),.int .i64 ((p:Int)+1)])) mixed (by decide +kernel) (by decide +kernel) (by decide +kernel) rfl (hJ (aA.aH _ _ _)) ?_
   have e7:IntKind.i64.wrap ((p:Int)*7)=(p:Int)*7:=wrap64 (by omega) (by omega)
   have e8:IntKind.i64.wrap ((p:Int)*7+3)=(p:Int)*7+3:=wrap64 (by omega) (by omega)
   have e9:((p:Int)*7+3).tmod (bs.length:Int)=(((p*7+3) % bs.length:Nat):Int):=by rw[←QW];congr 1
   have f1:IntKind.i64.wrap ((x.val:Int)*131)=(x.val:Int)*131:=wrap64 (by omega) (by omega)
   have f2:IntKind.i64.wrap ((y.val:Int)*1117)=(y.val:Int)*1117:=wrap64 (by omega) (by omega)
   have f3:IntKind.i64.wrap ((x.val:Int)*131+(y.val:Int)*1117)=(x.val:Int)*131+(y.val:Int)*1117:=wrap64 (by omega) (by omega)
   have f4:IntKind.i64.wrap ((p:Int)*29)=(p:Int)*29:=wrap64 (by omega) (by omega)
   have f5:IntKind.i64.wrap ((x.val:Int)*131+(y.val:Int)*1117+(p:Int)*29)=(x.val:Int)*131+(y.val:Int)*1117+(p:Int)*29:=wrap64 (by omega) (by omega)
   have hb1:IntKind.i64.wrap (x.val:Int)=(x.val:Int):=wrap64 (by omega) (by omega)
   have hb2:IntKind.i64.wrap (y.val:Int)=(y.val:Int):=wrap64 (by omega) (by omega)
   generalize hjx:p % bs.length=jx at *
   generalize hjy:(p*7+3) % bs.length=jy at *
   have e10:(p:Int).tmod (bs.length:Int)=(jx:Int):=by rw[QW,hjx]
   have FC:dT prog 22 (.slice (bs.map bJ)) (.int .i64 (jx:Int))=some (.pptr (.int .u8 x.val)):=bS (av:=bJ) iK hx (HX x)
   have OC:dT prog 22 (.slice (bs.map bJ)) (.int .i64 (jy:Int))=some (.pptr (.int .u8 y.val)):=bS (av:=bJ) iK hy (HX y)
   have hdv:p / bs.length≤p:=Nat.div_le_self _ _
   generalize hq:p / bs.length=q at *
   have hqq:IntKind.i64.wrap ((p:Int).tdiv (bs.length:Int))=(q:Int):=by rw[aJG,hq,wrap64 (by omega) (by omega)]
   have f6:IntKind.i64.wrap ((q:Int)*53)=(q:Int)*53:=wrap64 (by omega) (by omega)
   obtain⟨z,hz,hz2⟩:∃z:Nat,(x.val:Int)*131+(y.val:Int)*1117+(p:Int)*29+(q:Int)*53=(z:Int)∧z<2 ^ 61:=⟨x.val*131+y.val*1117+p*29+q*53,by omega,by omega⟩
   have f7:IntKind.i64.wrap ((x.val:Int)*131+(y.val:Int)*1117+(p:Int)*29+(q:Int)*53)=(z:Int):=by rw[hz];exact wrap64 (by omega) (by omega)
   have a48:z / 64≤z:=Nat.div_le_self _ _
   obtain⟨m,hm⟩:=aMU z (z / 64) (by omega) (by omega)
   have f8:IntKind.i64.wrap ((z:Int).tdiv 64)=((z / 64:Nat):Int):=by rw[show(64:Int)=((64:Nat):Int) from rfl,aJG,wrap64 (by omega) (by omega)]
   generalize z / 64=z2 at *
   have hn0:¬(n:Int)=0:=by omega
   simp only[aE,hl0,e7,e8,e9,e10,f1,f2,f3,f4,f5,f6,f7,f8,hm,hn0,FC,OC,hb1,hb2,hqq,lM,aB,seval,GF]
   exact⟨m % n,uG _ (by omega),rfl⟩
abbrev aJJ:=zi aS (zi tZ mG)
theorem aRM(l:List Int)(h1:1≤l.length)(h2:l.length≤1048576)(bs:List Bt)(c p:Nat)(hp:p≤1099511627776)(st:aA)(h:fH st c bs p) :
 aD prog 65 [.ptr c 0,.slice (l.map iv)] st (fun r st'=>∃x∈l,r=.int .i64 x∧st'=st.aC c (fO bs (p+1))):=by
 refine wF [1000000] 2 func65 ntmps65 rfl rfl ?_
 intro _
 simp only[aE,aB,seval,aJJ]
 refine(s9 bs c p hp l.length h1 h2 st h).mono ?_
 rintro _ _ ⟨k,hk,rfl,rfl⟩
 obtain⟨x,hx⟩:∃x,l[k]?=some x:=⟨_,eL hk⟩
 have hat:=bS (av:=iv) qO hx rfl
 simp only[hat,aB,seval,aJJ]
 exact⟨x,cQ hx,rfl⟩
theorem H4(l:List Int)(h1:1≤l.length)(h2:l.length≤1048576)(bs:List Bt)(c p:Nat)(hp:p≤1099511627776)(st:aA)(h:fH st c bs p) :
 aD prog 65 [.ptr c 0,.fslice (l.map iv)] st (fun r st'=>∃x∈l,r=.int .i64 x∧st'=st.aC c (fO bs (p+1))):=
 aD.oG (by simp only[fT,AV.soft];exact aRM l h1 h2 bs c p hp st h)
abbrev P7:=zi aS (zi kH (zi tZ QV))
theorem aQD(bs:List Bt)(st:aA):aD prog 31 [.slice (bs.map bJ)] st (fun r st'=>∃c bs',r=.ptr c 0∧st c=none∧st'=st.aC c (fO bs' 0)):=by
 refine wF [1000000,10] 1 func31 ntmps31 rfl rfl ?_
 simp only[dS,AV.fits,dU,aE]
 intro ⟨hl,_⟩
 have hs:bs.length>2000→∀φ,gJ prog φ 22 (.slice (bs.map bJ)) none (some (.const (.int .i64 2000))) none=some (.slice ((bs.take 2000).map bJ)):=fun h φ=>by
  have h2:((0:Int)≤2000∧(2000:Int)≤(bs.map bJ).length):=⟨by omega,by rw[aE];omega⟩
  have h3:dE φ (some (.const (.int .i64 2000))) (bs.map bJ).length (bs.map bJ).length=some 2000:=by
   show(if((0:Int)≤2000∧(2000:Int)≤(bs.map bJ).length) then some (Int.toNat 2000) else none)=some 2000
   exact aN h2
  unfold gJ nU
  rw[aK (by simp [qV])]
  simp only[iK]
  have h4:dE φ none (bs.map bJ).length (bs.map bJ).length=some (bs.map bJ).length:=rfl
  rw[h4]
  simp only[h3]
  have h5:dE φ none 0 2000=some 0:=rfl
  rw[h5]
  simp
 simp only[aE,aB,seval,P7]
 refine aQ (fun h=>?_) (fun h=>?_)
 · simp only[bA] at h
   have hs':=hs (by omega)
   simp only[hs',aB,seval,P7]
   intro b hb
   exact⟨b,bs.take 2000,rfl,hb,by simp [fO]⟩
 · simp only[aB,seval,P7]
   intro b hb
   exact⟨b,bs,rfl,hb,by simp [fO]⟩
abbrev a14:=zi aS cC
theorem TR(n:Int)(st:aA):aD prog 191 [.int .i64 n] st (fun r st'=>r=(vr n).av∧st'=st):=by
 refine aD.done ?_
 refine wF [1000000] 1 func191 ntmps191 rfl rfl ?_
 intro _
 simp only[aG,aB,seval,a14]
 intro b hb
 exact⟨by simp only[vr,bU,jV,jW,nJ,nI,bL,bE],(aL.refl _).aC hb⟩
abbrev a15:=zi DL (zi aS cC)
theorem MX(n:Int)(st:aA):aD prog 256 [.int .i64 n] st (fun r st'=>r=(Tm.mk 2 n ⟨#[]⟩ []).av∧st'=st):=by
 refine aD.done ?_
 refine wF [1000000] 1 func256 ntmps256 rfl rfl ?_
 intro _
 simp only[aG,aB,seval,a15]
 intro b hb
 exact⟨by simp only[bU,jV,jW,nJ,nI,bL,bE],(aL.refl _).aC hb⟩
abbrev aJI:=zi aS (zi cH (zi cB cC))
theorem aQP(s:ByteArray)(l:List Tm)(hl:l.length≤1048576)(st:aA):aD prog 185 [.str s,.slice (l.map Tm.av)] st (fun r st'=>r=(Tm.mk 3 0 s l).av∧st'=st):=by
 refine aD.jT (aD.fin ?_)
 refine wF [1000000] 2 func185 ntmps185 rfl rfl ?_
 intro _
 simp only[aB,seval,aJI]
 intro b hb
 change iT prog 56 (a9 (st.aC b (.cells [.int .i64 0,.int .i64 0,.str ⟨#[]⟩,.fslice []])) 0 []) (bK 4 0 []) (.slice (l.map Tm.av)) _
 refine eY cF kP kQ rfl rfl (by intro e he;simp only[cM] at he;obtain⟨t,_,rfl⟩:=he;exact⟨aP _,cR _⟩) (by simp) (fun h=>absurd rfl h) (by simp only[a8,aE];omega) (by simp only[a8,aE];omega) (fun b' hb'=>?_)
 rw[dL] at hb' ⊢
 have hne:l.map Tm.av≠[]→b≠b':=fun h e=>by have:=hb' h;rw[←e,aA.aH] at this;cases this
 have h1:a9 (st.aC b (.cells [.int .i64 0,.int .i64 0,.str ⟨#[]⟩,.fslice []])) b' (l.map Tm.av) b=some (.cells [.int .i64 0,.int .i64 0,.str ⟨#[]⟩,.fslice []]):=by
  by_cases h:l.map Tm.av= []
  · rw[h,rQ,aA.aH]
  · rw[sU (hne h),aA.aH]
 simp only[aG,h1,mU,iJ,l6,aB,seval,aJI]
 rw[qF hne,dW]
 exact⟨b',l.map Tm.av,st.aC b _,rfl,fun h=>by rw[aA.aJ _ _ (dM (hne h))];have:=hb' h;rwa [aA.aJ _ _ (dM (hne h))] at this,oM _,⟨4,gE _⟩,by simp only[bU,hY,fW,rZ,lP,bL,bE],(aL.refl _).aC hb⟩
theorem H2(s:ByteArray)(l:List Tm)(hl:l.length≤1048576)(st:aA):aD prog 185 [.str s,.fslice (l.map Tm.av)] st (fun r st'=>r=(Tm.mk 3 0 s l).av∧st'=st):=
 aD.oG (by simp only[fT,AV.soft];exact aQP s l hl st)
abbrev Dn (t:Tm):Prop:=t.cv=true∧t.small=true
theorem aSX(n:Int):Dn (vr n):=by
 refine⟨Tm.mZ.2 ⟨fun _=>⟨rfl,rfl⟩,fun x hx=>by cases hx⟩,?_⟩
 simp [vr,Tm.small,GU]
theorem UZ{k n:Int}{s:ByteArray}{ts:List Tm}(hk:k≠1)(hl:ts.length≤1048576)(h:∀x∈ts,Dn x):Dn (.mk k n s ts):=by
 refine⟨Tm.mZ.2 ⟨fun h=>absurd h hk,fun x hx=>(h x hx).1⟩,?_⟩
 simp only[Tm.small,GV,bD,bA,c6]
 exact⟨hl,fun x hx=>(h x hx).2⟩
def Dr(bs:List Bt)(c p m:Nat)(st:aA)(Q:AV→Prop)(r:AV)(st':aA):Prop:=∃p',p≤p'∧p'≤p+m∧st'=st.aC c (fO bs p')∧Q r
theorem fH.aC{st:aA}{c p:Nat}{bs:List Bt}{b:Nat}{o:AO}(h:fH st c bs p)(hb:b≠c):fH (st.aC b o) c bs p:=by unfold fH;rw[aA.aJ _ _ (dM hb)];exact h
theorem fH.new{st:aA}{c p:Nat}{bs:List Bt}:fH (st.aC c (fO bs p)) c bs p:=aA.aH _ _ _
theorem fH.ne{st:aA}{c p:Nat}{bs:List Bt}{b:Nat}(h:fH st c bs p)(hb:st b=none):b≠c:=by rintro rfl;rw[fH,hb] at h;cases h
def nX(s:ByteArray)(a:Int)(p:UInt8→Bool):Bool:=decide (0≤a)&&(decide (a<(s.size:Int))&&(match (sb s)[a.toNat]? with | some x=>p x | none=>false))
def xC(s:ByteArray)(a:Int)(c:Nat):Bool:=nX s a fun x=>decide (x.toNat=c)
def wK(s:ByteArray)(a:Int):Bool:=nX s a fun x=>decide (48≤x.toNat)&&decide (x.toNat≤57)
def xE(s:ByteArray)(a:Int):Bool:=nX s a letter
theorem uS{s:ByteArray}{n:Nat}(h:n<s.size):∃x,(sb s)[n]?=some x:=⟨_,eL (by rw[b9];exact h)⟩
abbrev aKD:=zi aS (zi bV (zi gD cH))
theorem aQM(s:ByteArray)(a:Int)(c:Nat)(st:aA):aD prog 137 [.str s,.int .i64 a,.int .u8 (c:Int)] st (fun r st'=>r=.bool (xC s a c)∧st'=st):=by
 by_cases h:0≤a∧a<(s.size:Int)
 · obtain⟨n,rfl⟩:=v6 h.1
   obtain⟨x,hx⟩:=uS (s:=s) (n:=n) (by omega)
   have hix:=pP (P:=prog) (t:=9) nO hx
   have hv:xC s (n:Int) c=decide (x.toNat=c):=by simp only[xC,nX,gI,hx,d9 h.1,d9 h.2,cZ]
   rw[hv]
   refine wF [1000000] 3 func137 ntmps137 rfl rfl ?_
   intro _
   repeat' (first
    | (simp only[*,aB,seval,aKD])
    | (refine cK (fun h=>?_) (fun h=>?_))
    | (refine aQ (fun h=>?_) (fun h=>?_)))
   all_goals simp_all
   omega
 · by_cases h1:0≤a
   · have h2:¬a<(s.size:Int):=fun h2=>h ⟨h1,h2⟩
     have hv:xC s a c=false:=by simp only[xC,nX,eM h2,eJ,rI]
     rw[hv]
     clear hv h
     refine wF [1000000] 3 func137 ntmps137 rfl rfl ?_
     intro _
     simp only[h1,h2,aZ,bB,aB,seval,aKD]
   · have hv:xC s a c=false:=by simp only[xC,nX,eM h1,eJ]
     rw[hv]
     clear hv h
     refine wF [1000000] 3 func137 ntmps137 rfl rfl ?_
     intro _
     simp only[h1,bB,aB,seval]
abbrev aKE:=zi aS (zi bV (zi gD cH))
theorem aQF(s:ByteArray)(a:Int)(st:aA):aD prog 242 [.str s,.int .i64 a] st (fun r st'=>r=.bool (wK s a)∧st'=st):=by
 by_cases h:0≤a∧a<(s.size:Int)
 · obtain⟨n,rfl⟩:=v6 h.1
   obtain⟨x,hx⟩:=uS (s:=s) (n:=n) (by omega)
   have hix:=pP (P:=prog) (t:=9) nO hx
   have hv:wK s (n:Int)=(decide (48≤x.toNat)&&decide (x.toNat≤57)):=by simp only[wK,nX,gI,hx,d9 h.1,d9 h.2,cZ]
   rw[hv]
   refine wF [1000000] 2 func242 ntmps242 rfl rfl ?_
   intro _
   repeat' (first
    | (simp only[*,aB,seval,aKE])
    | (refine cK (fun h=>?_) (fun h=>?_))
    | (refine aQ (fun h=>?_) (fun h=>?_)))
   all_goals clear hix hv hx
   all_goals (congr 1;rw[G5];simp only[bD,bA,dC,eA,iF,false_iff,not_and] at *;omega)
 · by_cases h1:0≤a
   · have h2:¬a<(s.size:Int):=fun h2=>h ⟨h1,h2⟩
     have hv:wK s a=false:=by simp only[wK,nX,eM h2,eJ,rI]
     rw[hv]
     clear hv h
     refine wF [1000000] 2 func242 ntmps242 rfl rfl ?_
     intro _
     simp only[h1,h2,aZ,bB,aB,seval,aKE]
   · have hv:wK s a=false:=by simp only[wK,nX,eM h1,eJ]
     rw[hv]
     clear hv h
     refine wF [1000000] 2 func242 ntmps242 rfl rfl ?_
     intro _
     simp only[h1,bB,aB,seval]
abbrev aKF:=zi aS (zi bV (zi gD cH))
theorem aQO(s:ByteArray)(a:Int)(st:aA):aD prog 304 [.str s,.int .i64 a] st (fun r st'=>r=.bool (xE s a)∧st'=st):=by
 by_cases h:0≤a∧a<(s.size:Int)
 · obtain⟨n,rfl⟩:=v6 h.1
   obtain⟨x,hx⟩:=uS (s:=s) (n:=n) (by omega)
   have hix:=pP (P:=prog) (t:=9) nO hx
   have hv:xE s (n:Int)=(decide (97≤x.toNat)&&decide (x.toNat≤122)):=by simp only[xE,nX,letter,gI,hx,d9 h.1,d9 h.2,cZ]
   rw[hv]
   refine wF [1000000] 2 func304 ntmps304 rfl rfl ?_
   intro _
   repeat' (first
    | (simp only[*,aB,seval,aKF])
    | (refine cK (fun h=>?_) (fun h=>?_))
    | (refine aQ (fun h=>?_) (fun h=>?_)))
   all_goals clear hix hv hx
   all_goals (congr 1;rw[G5];simp only[bD,bA,dC,eA,iF,false_iff,not_and] at *;omega)
 · by_cases h1:0≤a
   · have h2:¬a<(s.size:Int):=fun h2=>h ⟨h1,h2⟩
     have hv:xE s a=false:=by simp only[xE,nX,eM h2,eJ,rI]
     rw[hv]
     clear hv h
     refine wF [1000000] 2 func304 ntmps304 rfl rfl ?_
     intro _
     simp only[h1,h2,aZ,bB,aB,seval,aKF]
   · have hv:xE s a=false:=by simp only[xE,nX,eM h1,eJ]
     rw[hv]
     clear hv h
     refine wF [1000000] 2 func304 ntmps304 rfl rfl ?_
     intro _
     simp only[h1,bB,aB,seval]
end Go.AW
namespace Go.AW
abbrev ba (l:List UInt8):ByteArray:=⟨⟨l⟩⟩
def cY(x:UInt8):Bool:=decide (48≤x.toNat)&&decide (x.toNat≤57)
def sL(x:UInt8):Bool:=decide (65≤x.toNat)&&decide (x.toNat≤90)
def cD(l:List UInt8)(n c:Nat):Bool:=match l[n]? with | some x=>decide (x.toNat=c) | none=>false
def eV(l:List UInt8)(n:Nat)(p:UInt8→Bool):Bool:=match l[n]? with | some x=>p x | none=>false
def mO(l:List UInt8):Nat:=l.foldl (fun n x=>n*10+(x.toNat - 48)) 0
def fR(l:List UInt8):Nat×Bool:=if l.length=0∨(cD l 0 48=true∧1<l.length) then(0,false) else(mO l,true)
def tS(l:List UInt8)(a:Nat):Option (Int×Nat):=
 let f:=if cD l a 45 then a+1 else a
 let t:=((l.drop f).takeWhile cY).take 4
 if(fR t).2=false∨(a<f∧(fR t).1=0)∨999<(fR t).1 then none else some (if a<f then -((fR t).1:Int) else((fR t).1:Int),f+t.length)
def jC(l:List UInt8)(b g:ByteArray):ByteArray:=if l.take g.size=sb g∧b.size<g.size then g else b
def nG(l:List UInt8)(a:Nat):Option (ByteArray×Nat):=
 let t:=(l.drop a).takeWhile letter
 if 6<t.length then none else if 0<t.length then some (ba t,a+t.length)
 else let b:=gT.foldl (jC (l.drop a)) ⟨#[]⟩
  if b.size=0 then none else some (b,a+b.size)
theorem UY{l:List UInt8}{i:Nat}{x:UInt8}(h:l[i]?=some x):mO (l.take (i+1))=mO (l.take i)*10+(x.toNat - 48):=by
 simp [mO,eS,h,HA]
theorem UX:∀(l:List UInt8) (n:Nat),(∀x∈l,cY x=true)→l.foldl (fun n x=>n*10+(x.toNat - 48)) n+1≤(n+1)*10 ^ l.length
 | [],n,_=>by simp
 | x::l,n,h=>by
  have hx:=h x (by simp)
  simp only[cY,bD,bA] at hx
  have:=UX l (n*10+(x.toNat - 48)) (fun y hy=>h y (by simp [hy]))
  simp only[uC,aX,Nat.pow_succ]
  refine lZ this ?_
  rw[Nat.mul_comm (10 ^ l.length) 10,←Nat.mul_assoc]
  exact wA _ (by omega)
theorem NE{l:List UInt8}(h:∀x∈l,cY x=true):mO l<10 ^ l.length:=Nat.lt_of_succ_le (by have:=UX l 0 h;simpa [mO] using this)
theorem a02(s:ByteArray)(a b:Nat):sb (s.extract a b)=((sb s).drop a).take (b - a):=by
 simp only[sb,ByteArray.data_extract,Array.toList_extract,List.extract_eq_take_drop]
theorem aN8{g:ByteArray}(h:g.size=0):g=⟨#[]⟩:=by
 obtain⟨⟨l⟩⟩:=g
 have:l.length=0:=h
 rw[List.length_eq_zero_iff.1 this]
theorem SW(s:ByteArray):ba (sb s)=s:=rfl
theorem ES(s:ByteArray)(a b:Nat):s.extract a b=ba (((sb s).drop a).take (b - a)):=by rw[←a02]
theorem nB{l:List UInt8}{n c:Nat}(h:cD l n c=true):n<l.length:=by
 unfold cD at h
 rcases kK n l.length with h1 | h1
 · exact h1
 · rw[uD h1] at h;cases h
theorem aYA{l:List UInt8}{n:Nat}{p:UInt8→Bool}(h:eV l n p=true):n<l.length:=by
 unfold eV at h
 rcases kK n l.length with h1 | h1
 · exact h1
 · rw[uD h1] at h;cases h
theorem r9{l:List UInt8}{n c:Nat}{x:UInt8}(h:l[n]?=some x):cD l n c=decide (x.toNat=c):=by simp only[cD,h]
theorem vL{l:List UInt8}{n:Nat}{p:UInt8→Bool}{x:UInt8}(h:l[n]?=some x):eV l n p=p x:=by simp only[eV,h]
theorem aHK{l:List UInt8}(h:∀x∈l,cY x=true)(hl:l.length≤4):(fR l).1<10000:=by
 unfold fR
 split
 · simp
 · exact uF (NE h) (lZ (Nat.pow_le_pow_right (by omega) hl) (by decide))
theorem Q2{p:UInt8→Bool}{l:List UInt8}{i:Nat}(hi:i≤(l.takeWhile p).length)(h:eV l i p=true):i<(l.takeWhile p).length:=by
 induction l generalizing i with
 | nil=>simp [eV] at h
 | cons x l ih=>
  cases i with
  | zero=>simp [eV] at h;simp [DY,h]
  | succ i=>
   rw[DY] at hi ⊢
   split at hi
   · rename_i hx
     rw[aN hx]
     simp only[aX] at hi ⊢
     have:=ih (i:=i) (by omega) (by simpa [eV] using h)
     omega
   · simp at hi
theorem Q1{p:UInt8→Bool}{l:List UInt8}{i:Nat}(hi:i≤(l.takeWhile p).length)(h:eV l i p=false):i=(l.takeWhile p).length:=by
 induction l generalizing i with
 | nil=>simp at hi;simp [hi]
 | cons x l ih=>
  cases i with
  | zero=>simp [eV] at h;simp [DY,h]
  | succ i=>
   rw[DY] at hi ⊢
   split at hi
   · rename_i hx
     rw[aN hx]
     simp only[aX] at hi ⊢
     have:=ih (i:=i) (by omega) (by simpa [eV] using h)
     omega
   · simp at hi
theorem aK5(p:UInt8→Bool)(l:List UInt8):l.take (l.takeWhile p).length=l.takeWhile p:=by
 induction l with
 | nil=>rfl
 | cons x l ih=>
  rw[DY]
  split
  · simp [ih]
  · rfl
theorem B8(l:List UInt8)(a i:Nat)(p:UInt8→Bool):eV (l.drop a) i p=eV l (a+i) p:=by simp only[eV,LT]
theorem aK3{p:UInt8→Bool}{l:List UInt8}:∀x∈l.takeWhile p,p x=true:=by
 induction l with
 | nil=>simp
 | cons y l ih=>
  rw[DY]
  split
  · rename_i h;intro x hx;simp only[cL] at hx;rcases hx with rfl | hx;exact h;exact ih x hx
  · simp
theorem aK4{p:UInt8→Bool}{l:List UInt8}{k:Nat}(hk:k≤(l.takeWhile p).length):l.take k=(l.takeWhile p).take k:=by
 rw[←aK5 p l,HD,oS hk]
theorem GX(p:UInt8→Bool)(l:List UInt8):(l.takeWhile p).length≤l.length:=(List.takeWhile_sublist p).length_le
theorem SX(L:List UInt8):∀(gs:List ByteArray) (b:ByteArray),b.size≤3→(∀g∈gs,g.size≤3)→(gs.foldl (jC L) b).size≤3
 | [],b,h,_=>h
 | g::gs,b,h,hg=>by
  rw[uC]
  refine SX L gs _ ?_ fun x hx=>hg x (by simp [hx])
  unfold jC
  split
  · exact hg g (by simp)
  · exact h
theorem aIY:∀g∈gT,g.size≤3:=by decide
theorem aOB(L:List UInt8)(i:Nat):((gT.take i).foldl (jC L) ⟨#[]⟩).size≤3:=SX L _ _ (by decide) fun g hg=>aIY g (lY hg)
end Go.AW
