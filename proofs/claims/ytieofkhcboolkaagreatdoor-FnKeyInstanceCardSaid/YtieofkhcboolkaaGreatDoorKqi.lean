import Derived.Test.YtieofkhcboolkaaGreatDoorKqf
import Derived.Test.YtieofkhcboolkaaGreatDoorKqh
set_option linter.unusedSimpArgs false
set_option linter.unusedVariables false
set_option maxRecDepth 100000
namespace Go.AW
open Go.Proofs.Tryz
theorem BF(n lo hi:Int)(st:aA):aD prog 110 [.int .i64 n,.int .i64 lo,.int .i64 hi] st (fun r st'=>r=.bool (decide (lo≤n)&&decide (n≤hi))∧st'=st):=by
 refine wF [] 3 func110 ntmps110 rfl rfl ?_
 intro _
 repeat' (first
  | (simp only[*,aB,seval])
  | (refine cU (fun h=>?_) (fun h=>?_))
  | (refine aW (fun h=>?_) (fun h=>?_)))
 all_goals simp_all
theorem W1(s:ByteArray)(st:aA):aD prog 209 [.str s] st (fun r st'=>r=.tup [.int .i64 (cG s),.bool (cG s == 1||cG s == 2)]∧st'=st):=by
 refine wF [] 1 func209 ntmps209 rfl rfl ?_
 intro _
 repeat' (first
  | (simp only[*,aB,seval])
  | (refine cU (fun h=>?_) (fun h=>?_))
  | (refine aW (fun h=>?_) (fun h=>?_)))
 all_goals (simp only[cG, *,pJ,pK,Bool.or_self,cond_true,cond_false];first | done | rfl)
theorem oJ(s:ByteArray)(st:aA):aD prog 170 [.str s] st (fun r st'=>r=.int .i64 (cG s)∧st'=st):=by
 refine wF [] 1 func170 ntmps170 rfl rfl ?_
 intro _
 repeat' (first
  | (simp only[*,aB,seval])
  | (refine cU (fun h=>?_) (fun h=>?_))
  | (refine aW (fun h=>?_) (fun h=>?_)))
 all_goals (simp only[cG, *,pJ,pK,Bool.or_self,cond_true,cond_false];first | done | rfl)
theorem XG(s:ByteArray)(n:Int)(st:aA):aD prog 176 [.str s,.int .i64 n] st (fun r st'=>r=.bool (isBuiltin s n)∧st'=st):=by
 refine wF [] 2 func176 ntmps176 rfl rfl ?_
 intro _
 repeat' (first
  | (simp only[*,aB,seval])
  | (refine cU (fun h=>?_) (fun h=>?_))
  | (refine aW (fun h=>?_) (fun h=>?_)))
 all_goals (simp only[isBuiltin, *,pJ,pK,Bool.or_self,cond_true,cond_false];first | done | rfl)
theorem FK(s:ByteArray)(n:Int)(st:aA):aD prog 169 [.str s,.int .i64 n] st (fun r st'=>r=.bool (isBuiltin s n)∧st'=st):=by
 refine wF [] 2 func169 ntmps169 rfl rfl ?_
 intro _
 repeat' (first
  | (simp only[*,aB,seval])
  | (refine cU (fun h=>?_) (fun h=>?_))
  | (refine aW (fun h=>?_) (fun h=>?_)))
 all_goals (simp only[isBuiltin, *,pJ,pK,Bool.or_self,cond_true,cond_false];first | done | rfl)
abbrev TB:=zi aZ (zi cB (zi hY b7))
theorem E8(s:ByteArray)(st:aA):aD prog 168 [.str s] st (fun r st'=>r=.bool (lP s)∧st'=st):=by
 refine wF [] 1 func168 ntmps168 rfl rfl ?_
 simp only[dG,AV.fits,eJ]
 intro hs
 simp only[aB,seval]
 refine pG (α:=Nat) [] (fun i=>i≤s.size∧∀(j:Nat) c,j<i→(sb s)[j]?=some c→letter c=true)
  (fun i=>[(0,.str s),(3,.int .i64 i)]) (fun _=>st) (fun i=>s.size - i) (by decide +kernel)
  ⟨0,⟨by omega,by intro j x h;omega⟩,aL.mk (by simp only[aB,↓bG,seval])⟩ ?_
 intro i ⟨hi,cX⟩
 simp only[aB,seval,TB]
 refine⟨fun h5=>?_,fun h5=>?_⟩
 case refine_2=>
  simp only[dF,jY] at h5
  have ha:(sb s).all letter=true:=wZ fun j c hc=>cX j c (by have:=(fY.1 hc).1;rw[bL] at this;omega) hc
  repeat' (first
   | (simp only[*,aB,seval,TB])
   | (refine cU (fun h=>?_) (fun h=>?_))
   | (refine aW (fun h=>?_) (fun h=>?_)))
  all_goals simp only[lP,ha,dH,AV.bool.injEq]
  all_goals simp only[*,fX,dH,dL]
 simp only[bK,jY] at h5
 obtain⟨c,hc⟩:∃c,(sb s)[i]?=some c:=⟨_,eA (by rw[bL];exact h5)⟩
 have hx:=lN (P:=prog) (t:=9) kZ hc
 simp only[hx,aB,seval]
 refine cU (fun h6=>?_) (fun h6=>?_)
 case refine_2=>
  simp only[h6,aB,seval]
  simp only[fM,bK] at h6
  simp only[lP,oG hc (show letter c=false by simp [letter];omega),dL]
 simp only[h6,hx,aB,seval]
 refine⟨fun h7=>?_,fun h7=>?_⟩
 · simp only[aB,seval]
   simp only[bK] at h7
   simp only[lP,oG hc (show letter c=false by simp [letter];omega),dL]
 simp only[dF] at h6 h7
 simp only[aB,seval]
 refine⟨i+1,by omega,⟨by omega,fun j u hj hu=>?_⟩,aL.mk ?_⟩
 · rcases iZ j i with h8 | h8
   · exact cX j u h8 hu
   · obtain rfl:j=i:=by omega
     rw[hc] at hu;cases hu
     simp [letter];omega
 · have:=bO (n:=(i:Int)+1)
   simp only[this,aB,seval]
abbrev TC:=zi aZ (zi cB (zi hY (zi aF7 b7)))
theorem EZ(s:ByteArray)(st:aA):aD prog 174 [.str s] st (fun r st'=>r=.bool (lP s)∧st'=st):=by
 refine wF [] 1 func174 ntmps174 rfl rfl ?_
 simp only[dG,AV.fits,eJ]
 intro hs
 simp only[aB,seval,TC]
 refine pG (α:=Nat) [] (fun i=>i≤s.size∧∀(j:Nat) c,j<i→(sb s)[j]?=some c→letter c=true)
  (fun i=>[(0,.str s),(5,.int .i64 s.size),(6,.int .i64 i)]) (fun _=>st) (fun i=>s.size - i) (by decide +kernel)
  ⟨0,⟨by omega,by intro j x h;omega⟩,aL.mk (by simp only[aB,↓bG,seval])⟩ ?_
 intro i ⟨hi,cX⟩
 simp only[aB,seval]
 refine⟨fun h5=>?_,fun h5=>?_⟩
 case refine_2=>
  simp only[dF,jY] at h5
  have ha:(sb s).all letter=true:=wZ fun j c hc=>cX j c (by have:=(fY.1 hc).1;rw[bL] at this;omega) hc
  simp only[aB,seval,TC]
  refine(BF _ _ _ st).to ?_
  simp only[aB,seval]
  simp only[lP,ha,dH]
 simp only[bK,jY] at h5
 obtain⟨c,hc⟩:∃c,(sb s)[i]?=some c:=⟨_,eA (by rw[bL];exact h5)⟩
 have hx:=lN (P:=prog) (t:=9) kZ hc
 simp only[hx,aB,seval]
 refine cU (fun h6=>?_) (fun h6=>?_)
 case refine_2=>
  simp only[h6,aB,seval]
  simp only[fM,bK] at h6
  simp only[lP,oG hc (show letter c=false by simp [letter];omega),dL]
 simp only[h6,hx,aB,seval]
 refine⟨fun h7=>?_,fun h7=>?_⟩
 · simp only[aB,seval]
   simp only[bK] at h7
   simp only[lP,oG hc (show letter c=false by simp [letter];omega),dL]
 simp only[dF] at h6 h7
 simp only[aB,seval]
 refine⟨i+1,by omega,⟨by omega,fun j u hj hu=>?_⟩,aL.mk ?_⟩
 · rcases iZ j i with h8 | h8
   · exact cX j u h8 hu
   · obtain rfl:j=i:=by omega
     rw[hc] at hu;cases hu
     simp [letter];omega
 · have:=bO (n:=(i:Int)+1)
   simp only[this,aB,seval]
theorem XL(s:ByteArray)(st:aA):aD prog 175 [.str s] st (fun r st'=>r=.bool (decide ((0:Int)<(cG s:Int)))∧st'=st):=by
 refine wF [] 1 func175 ntmps175 rfl rfl ?_
 intro _
 simp only[aB,seval]
 refine(W1 s st).to ?_
 simp only[aB,seval]
abbrev aFJ:=zi aZ (zi cB (zi cE bH))
theorem XJ(k n:Int)(s:ByteArray)(ts:List Tm)(st:aA):aD prog 177 [(Tm.mk k n s ts).av] st (fun r st'=>r=.bool (decide (k=3)&&decide ((ts.length:Int)=0))∧st'=st):=by
 refine wF [] 1 func177 ntmps177 rfl rfl ?_
 intro _
 simp only[a6]
 repeat' (first
  | (simp only[*,aB,seval,aFJ])
  | (refine cU (fun h=>?_) (fun h=>?_))
  | (refine aW (fun h=>?_) (fun h=>?_)))
 all_goals simp_all
def eD:List ByteArray:=[⟨#[43]⟩,⟨#[45]⟩,⟨#[42]⟩,⟨#[47,47]⟩,⟨#[61]⟩,⟨#[92,61]⟩,⟨#[61,61]⟩,⟨#[60]⟩,⟨#[62]⟩,⟨#[61,60]⟩,⟨#[62,61]⟩,⟨#[61,58,61]⟩,⟨#[46]⟩,⟨#[91,93]⟩,⟨#[33]⟩]
theorem YV(st:aA):aD prog 304 [] st (fun r st'=>r=.fslice (eD.map .str)∧st'=st):=by
 refine wF [] 0 func304 ntmps304 rfl rfl ?_
 intro _
 simp only[eD,aB,seval,jK]
theorem E6(st:aA):aD prog 346 [] st (fun r st'=>r=.fslice (eD.map .str)∧st'=st):=by
 refine wF [] 0 func346 ntmps346 rfl rfl ?_
 intro _
 simp only[eD,aB,seval,jK]
abbrev TE:=zi aZ (zi cB (zi b7 jK))
theorem XO(l:List ByteArray)(s:ByteArray)(st:aA):aD prog 345 [.slice (l.map .str),.str s] st (fun r st'=>r=.bool (l.any fun x=>decide (x=s))∧st'=st):=by
 refine wF [] 2 func345 ntmps345 rfl rfl ?_
 simp only[dG,AV.fits,eJ,aG]
 intro ⟨⟨hl,_⟩,_⟩
 simp only[aB,seval]
 refine pG (α:=Nat) [] (fun i=>i≤l.length∧∀(j:Nat) x,j<i→l[j]?=some x→decide (x=s)=false)
  (fun i=>[(0,.slice (l.map .str)),(1,.str s),(5,.int .i64 i)]) (fun _=>st) (fun i=>l.length - i) (by decide +kernel)
  ⟨0,⟨by omega,by intro j x h;omega⟩,aL.mk (by simp only[aB,↓bG,seval])⟩ ?_
 intro i ⟨hi,cX⟩
 simp only[aG,aB,seval,TE]
 refine⟨fun h5=>?_,fun h5=>?_⟩
 case refine_2=>
  simp only[aB,seval]
  simp only[dF,jY] at h5
  have:(l.any fun x=>decide (x=s))=false:=by
   rw[List.any_eq_false]
   intro x hx
   obtain⟨j,hj⟩:=q9 hx
   simp [cX j x (by have:=(fY.1 hj).1;omega) hj]
  rw[this]
 simp only[bK,jY] at h5
 obtain⟨x,hx⟩:∃x,l[i]?=some x:=⟨_,eA h5⟩
 simp only[cJ (av:=AV.str) nN hx rfl,aB,seval,TE]
 refine⟨fun h6=>?_,fun h6=>?_⟩
 · simp only[aB,seval]
   have:(l.any fun x=>decide (x=s))=true:=by
    rw[List.any_eq_true]
    exact⟨x,c8 hx,h6⟩
   rw[this]
 simp only[aB,seval]
 refine⟨i+1,by omega,⟨by omega,fun j u hj hu=>?_⟩,aL.mk ?_⟩
 · rcases iZ j i with h8 | h8
   · exact cX j u h8 hu
   · obtain rfl:j=i:=by omega
     rw[hx] at hu;cases hu
     exact h6
 · have:=bO (n:=(i:Int)+1)
   simp only[this,aB,seval]
abbrev TD:=zi aZ (zi b7 jK)
theorem WY(l:List ByteArray)(s:ByteArray)(st:aA):aD prog 335 [.slice (l.map .str),.str s] st (fun r st'=>(∃k:Int,r=.int .i64 k∧decide (0≤k)=l.any fun x=>decide (s=x))∧st'=st):=by
 refine wF [] 2 func335 ntmps335 rfl rfl ?_
 simp only[dG,AV.fits,eJ,aG]
 intro ⟨⟨hl,_⟩,_⟩
 simp only[aG,aB,seval,TD]
 refine pG (α:=Nat) [] (fun i=>i≤l.length∧∀(j:Nat) x,j<i→l[j]?=some x→decide (s=x)=false)
  (fun i=>[(0,.slice (l.map .str)),(1,.str s),(7,.int .i64 l.length),(8,.int .i64 i)]) (fun _=>st) (fun i=>l.length - i) (by decide +kernel)
  ⟨0,⟨by omega,by intro j x h;omega⟩,aL.mk (by simp only[aB,↓bG,seval])⟩ ?_
 intro i ⟨hi,cX⟩
 simp only[aB,seval]
 refine⟨fun h5=>?_,fun h5=>?_⟩
 case refine_2=>
  simp only[aB,seval]
  simp only[dF,jY] at h5
  have:(l.any fun x=>decide (s=x))=false:=by
   rw[List.any_eq_false]
   intro x hx
   obtain⟨j,hj⟩:=q9 hx
   simp [cX j x (by have:=(fY.1 hj).1;omega) hj]
  rw[this]
  exact⟨_,rfl,rfl⟩
 simp only[bK,jY] at h5
 obtain⟨x,hx⟩:∃x,l[i]?=some x:=⟨_,eA h5⟩
 simp only[cJ (av:=AV.str) nN hx rfl,aB,seval,TD]
 refine⟨fun h6=>?_,fun h6=>?_⟩
 · simp only[aB,seval]
   have:(l.any fun x=>decide (s=x))=true:=by
    rw[List.any_eq_true]
    exact⟨x,c8 hx,h6⟩
   rw[this]
   exact⟨_,rfl,by simp⟩
 simp only[aB,seval]
 refine⟨i+1,by omega,⟨by omega,fun j u hj hu=>?_⟩,aL.mk ?_⟩
 · rcases iZ j i with h8 | h8
   · exact cX j u h8 hu
   · obtain rfl:j=i:=by omega
     rw[hx] at hu;cases hu
     exact h6
 · have:=bO (n:=(i:Int)+1)
   simp only[this,aB,seval]
theorem WP(l:List ByteArray)(s:ByteArray)(st:aA):aD prog 303 [.slice (l.map .str),.str s] st (fun r st'=>r=.bool (l.any fun x=>decide (s=x))∧st'=st):=by
 refine wF [] 2 func303 ntmps303 rfl rfl ?_
 intro _
 simp only[aB,seval]
 refine(WY l s st).mono ?_
 rintro _ _ ⟨⟨k,rfl,hk⟩,rfl⟩
 simp only[aB,seval]
 rw[←hk]
theorem WQ(l:List ByteArray)(s:ByteArray)(st:aA):aD prog 303 [.fslice (l.map .str),.str s] st (fun r st'=>r=.bool (l.any fun x=>decide (s=x))∧st'=st):=
 aD.lT (by simp only[dX,AV.soft];exact WP l s st)
theorem XP(l:List ByteArray)(s:ByteArray)(st:aA):aD prog 345 [.fslice (l.map .str),.str s] st (fun r st'=>r=.bool (l.any fun x=>decide (x=s))∧st'=st):=
 aD.lT (by simp only[dX,AV.soft];exact XO l s st)
def oW(s:ByteArray):Bool:=lP s||eD.any fun x=>decide (s=x)
theorem VQ(s:ByteArray):(eD.any fun x=>decide (x=s))=eD.any fun x=>decide (s=x):=by
 congr 1
 funext x
 exact r0.2 ⟨Eq.symm,Eq.symm⟩
theorem XH(s:ByteArray)(st:aA):aD prog 241 [.str s] st (fun r st'=>r=.bool (oW s)∧st'=st):=by
 refine wF [] 1 func241 ntmps241 rfl rfl ?_
 intro _
 repeat' (first
  | (simp only[*,aB,seval])
  | (refine cU (fun h=>?_) (fun h=>?_))
  | (refine(EZ s st).to ?_) | (refine(YV st).to ?_) | (refine(WQ eD s st).to ?_)
  | (refine aW (fun h=>?_) (fun h=>?_)))
 all_goals simp only[oW, *,fM,pK,k7]
theorem YT(s:ByteArray)(st:aA):aD prog 311 [.str s] st (fun r st'=>r=.bool (oW s)∧st'=st):=by
 refine wF [] 1 func311 ntmps311 rfl rfl ?_
 intro _
 repeat' (first
  | (simp only[*,aB,seval])
  | (refine cU (fun h=>?_) (fun h=>?_))
  | (refine(E8 s st).to ?_) | (refine(E6 st).to ?_) | (refine(XP eD s st).to ?_)
  | (refine aW (fun h=>?_) (fun h=>?_)))
 all_goals simp only[oW,VQ, *,fM,pK,k7]
end Go.AW
namespace Go.AW
def cR(k n:Int)(s:ByteArray)(len:Int):Bool:=
 cond (decide (k=1)) (decide ((0:Int)≤n)&&decide (n≤25)&&decide (s=⟨#[]⟩)&&decide (len=0))
  (cond (decide (k=2)) (decide ((-999:Int)≤n)&&decide (n≤999)&&decide (s=⟨#[]⟩)&&decide (len=0))
   (cond (decide (k=3)) (decide (n=0)&&oW s&&decide (len≤4)) false))
mutual
def Tm.shape:Tm→Int→Bool
 | .mk k n s ts,d=>decide (1≤d)&&cR k n s ts.length&&zO ts (d - 1)
def zO:List Tm→Int→Bool
 | [],_=>true
 | t::ts,d=>t.shape d&&zO ts d
end
theorem UB:∀(ts:List Tm) (d:Int),zO ts d=ts.all fun t=>t.shape d
 | [],_=>rfl
 | t::ts,d=>by simp only[zO,iX,UB ts d]
theorem Tm.sX(k n:Int)(s:ByteArray)(ts:List Tm)(d:Int):(Tm.mk k n s ts).shape d=(decide (1≤d)&&cR k n s ts.length&&ts.all fun t=>t.shape (d - 1)):=by simp only[Tm.shape,UB]
mutual
def Tm.nodes:Tm→Nat
 | .mk _ _ _ ts=>1+zH ts
def zH:List Tm→Nat
 | []=>0
 | t::ts=>t.nodes+zH ts
end
theorem T7:∀(ts:List Tm),zH ts=bS Tm.nodes ts
 | []=>rfl
 | t::ts=>by simp only[zH,bS,T7 ts]
theorem Tm.jU(k n:Int)(s:ByteArray)(ts:List Tm):(Tm.mk k n s ts).nodes=1+bS Tm.nodes ts:=by simp only[Tm.nodes,T7]
def Tm.valid(t:Tm):Bool:=t.shape 30&&decide (t.nodes≤120)
mutual
def Tm.vars:Tm→List Int→List Int
 | .mk k n _ ts,l=>UC ts (if k=1∧n∉l then l++ [n] else l)
def UC:List Tm→List Int→List Int
 | [],l=>l
 | t::ts,l=>UC ts (t.vars l)
end
theorem jA{st:aA}{b x:Nat}{l:List AV}{o:AO}(h:l≠[]→x≠b):(aY st b l).aC x o=aY (st.aC x o) b l:=by
 cases l with
 | nil=>rfl
 | cons y l=>exact aA.mT _ _ _ (cV (h (by simp)))
mutual
def Tm.wf:Tm→Bool
 | .mk k _ _ ts=>(!decide (k=1)||ts.isEmpty)&&UE ts
def UE:List Tm→Bool
 | []=>true
 | t::ts=>t.wf&&UE ts
end
theorem Tm.vZ{t:Tm}(h:t.valid=true):t.nodes≤120:=by simp only[Tm.valid,bV,bK] at h;exact h.2
def cY(S:aA)(c b:Nat)(hd:List AV)(l:List AV):aA:=aY (S.aC c (.cells (hd++ [aT 4 b l]))) b l
theorem cH{S:aA}{c b:Nat}{hd l:List AV}(hb:l≠[]→(S.aC c (.cells (hd++ [aT 4 b l]))) b=none):cY S c b hd l c=some (.cells (hd++ [aT 4 b l])):=by
 unfold cY
 cases l with
 | nil=>simp only[aY,aA.aP]
 | cons y l=>
  have h:=hb (by simp)
  have hne:c≠b:=fun e=>by rw[←e,aA.aP] at h;cases h
  rw[pP hne,aA.aP]
theorem kB{S:aA}{c b b':Nat}{hd l l':List AV}(hb:l'≠[]→(S.aC c (.cells (hd++ [aT 4 b l]))) b'=none) :
 (aY (S.aC c (.cells (hd++ [aT 4 b l]))) b' l').aC c (.cells (hd++ [aT 4 b' l']))=cY S c b' hd l'∧(l'≠[]→(S.aC c (.cells (hd++ [aT 4 b' l']))) b'=none)∧aY (S.aC c (.cells (hd++ [aT 4 b l]))) b' l' c=some (.cells (hd++ [aT 4 b l])):=by
 have hne:l'≠[]→c≠b':=fun h e=>by have:=hb h;rw[←e,aA.aP] at this;cases this
 refine⟨?_,fun h=>?_,?_⟩
 · rw[jA hne,bM];try rfl
 · have:=hb h
   rw[aA.aV _ _ (cV (hne h))] at this ⊢
   exact this
 · cases l' with
   | nil=>simp only[aY,aA.aP]
   | cons y l=>rw[pP (hne (by simp)),aA.aP]
theorem dW{S:aA}{c b x:Nat}{hd l:List AV}(hb:l≠[]→(S.aC c (.cells (hd++ [aT 4 b l]))) b=none)(hx:S x≠none)(hxc:x≠c):cY S c b hd l x=S x:=by
 unfold cY
 cases l with
 | nil=>simp only[aY,aA.aV _ _ hxc]
 | cons y l=>
  have h:=hb (by simp)
  have hne:x≠b:=fun e=>by
   rw[←e,aA.aV _ _ hxc] at h
   exact hx h
  rw[pP hne,aA.aV _ _ hxc]
theorem fF{S:aA}{c b x:Nat}{hd l:List AV}{o:AO}(hb:l≠[]→(S.aC c (.cells (hd++ [aT 4 b l]))) b=none)(hx:S x≠none)(hxc:x≠c):(cY S c b hd l).aC x o=aY ((S.aC c (.cells (hd++ [aT 4 b l]))).aC x o) b l∧(l≠[]→((S.aC c (.cells (hd++ [aT 4 b l]))).aC x o) b=none):=by
 have hne:l≠[]→x≠b:=fun h e=>by
  have:=hb h
  rw[←e,aA.aV _ _ hxc] at this
  exact hx this
 refine⟨by unfold cY;rw[jA hne],fun h=>by rw[aA.aV _ _ (cV (hne h))];exact hb h⟩
theorem iR{S:aA}{c b x:Nat}{hd l:List AV}{o:AO}(hb:l≠[]→(S.aC c (.cells (hd++ [aT 4 b l]))) b=none)(hx:S x≠none)(hxc:x≠c) :
 (cY S c b hd l).aC x o=cY (S.aC x o) c b hd l∧(l≠[]→((S.aC x o).aC c (.cells (hd++ [aT 4 b l]))) b=none):=by
 have hne:l≠[]→x≠b:=fun h e=>by
  have:=hb h
  rw[←e,aA.aV _ _ hxc] at this
  exact hx this
 refine⟨by unfold cY;rw[jA hne,aA.mT _ _ _ (cV hxc)],fun h=>?_⟩
 have:=hb h
 rw[aA.mT _ _ _ hxc,aA.aV _ _ (cV (hne h))]
 exact this
theorem aA.DS{st:aA}{b c:Nat}{a z a':AO}(h:b≠c):((st.aC c a).aC b z).aC c a'=(st.aC b z).aC c a':=by rw[aA.mT _ _ _ (cV h),bM]
theorem cT(l:List Tm):∀e∈l.map Tm.av,e.width=4:=by intro e h;simp only[fN] at h;obtain⟨t,_,rfl⟩:=h;exact aR t
theorem d8(l:List Tm):∀e∈l.map Tm.av,e.bP=false:=by intro e h;simp only[fN] at h;obtain⟨t,_,rfl⟩:=h;exact bW t
end Go.AW
namespace Go.AW
open Go.Proofs.Tryz
mutual
def Tm.small:Tm→Bool
 | .mk _ _ _ ts=>decide (ts.length≤1048576)&&vU ts
def vU:List Tm→Bool
 | []=>true
 | t::ts=>t.small&&vU ts
end
theorem tE:∀(ts:List Tm),vU ts=ts.all Tm.small
 | []=>rfl
 | t::ts=>by simp only[vU,iX,tE ts]
theorem Tm.kT{k n:Int}{s:ByteArray}{ts:List Tm}(h:(Tm.mk k n s ts).small=true):ts.length≤1048576∧∀x∈ts,x.small=true:=by
 simpa [Tm.small,tE] using h
abbrev y5:=zi aZ (zi cE bH)
theorem aD0(l:List Tm)(st:aA)(hb:l.length≤1048576)(hc:∀x∈l,∀(st:aA),aD prog 91 [Tm.av x] st (Made st (Tm.av x))) :
 aD prog 67 [.slice (l.map Tm.av)] st (Made st (.slice (l.map Tm.av))):=by
 have hws:∀e∈l.map Tm.av,e.width=4:=fun e he=>by simp only[fN] at he;obtain⟨t,_,rfl⟩:=he;exact aR t
 refine wF [] 1 func67 ntmps67 rfl rfl ?_
 intro _
 simp only[aG,aB,seval,y5]
 refine fW (σ:=List AV×List Nat×Nat×aA) [] [2,6,7] l (fun i p=>mW (l.map Tm.av) st i p.1 p.2.1 p.2.2.1 p.2.2.2) (fun i p=>[(3,aT 4 p.2.2.1 p.1),(8,.int .i64 i)]) (fun _ p=>p.2.2.2) (by decide +kernel)
  ⟨([],[],0,st),mW.start,aL.mk (by simp only[kJ,aB,↓bG,seval])⟩ (fun i x p hx hlt b9 hdr hinv=>?_) (fun p hge hinv=>?_)
 case refine_2=>
  obtain⟨os,bs,b,s⟩:=p
  simp only[hge,aB,seval]
  exact hinv.done (aG _) hws
 obtain⟨os,bs,b,s⟩:=p
 simp only at hinv
 have hw:=bO (n:=(i:Int)+1)
 have nX:∀zs:List AV,zs.length=4→aF zs 0 (Tm.av x).cells=(Tm.av x).cells:=fun zs h=>C2 (aO x) h
 simp only[b9,cJ (av:=Tm.av) cS hx (aR x),aQ,aR,aO,bA,bM,nX,aB,seval,y5]
 intro b2 hb2
 try simp only[mP,aO,cD (aO x),cC (aQ x),dJ,nX,bM,bA,aB,↓bG,seval,y5]
 refine(hc x (c8 hx) _).mono ?_
 rintro r s2 ⟨bx,m1,m2,m3,m4⟩
 obtain⟨f1,f2,f3⟩:=m3.Y2 (aR x) (bA x)
 have hra:r.isAgg=true:=by rw[(bZ.shape m3).1,aQ]
 have hrj:r.bP=false:=(bZ.shape m3).2.2.1
 simp only[f1,hra,hrj,aB,seval,y5]
 have hlen:os.length=i:=hinv.1
 have aCE:∀e∈os,e.width=4:=fun e he=>by
  obtain⟨k,hk,rfl⟩:=List.getElem_of_mem he
  exact hinv.2.1.UQ (fun q hq=>hws q (mZ hq)) _ he
 have hkb:os≠[]→s2 b=some (.cells (os.flatMap AV.cells)):=fun hne=>by
  have h:=(hinv.2.2.2.2.1 hne).2.2
  have hbx:b∉bx:=fun hq=>by
   have:=m2 b hq
   have uW:b≠b2:=fun e=>by rw[e,hb2] at h;cases h
   rw[aA.aV _ _ uW,h] at this;cases this
  have uW:b≠b2:=fun e=>by rw[e,hb2] at h;cases h
  rw[m4 b hbx,aA.aV _ _ uW,h]
 refine VO cS gG gH rfl rfl (eR f1 f3) aCE hkb (by simp only[bD,bN,hlen];omega) (by simp only[bD,bN,hlen];omega) (fun b' s' k1 k2 k3 k4=>?_)
 have gJ:=hinv.step hb2 (show(l.map Tm.av)[i]?=some (Tm.av x) by rw[q8,hx];try rfl) m1 m2 m3 m4 (k1 (by simp)) (k2 (by simp)) (fun q h1 h2=>k3 q (fun _=>h1) h2) k4
 simp only[hw,aB,seval]
 exact⟨(os++ [r],bs++bx,b',s'.erase b2),gJ,aL.drop (eP _ _) (by simp only[aB,seval])⟩
abbrev TP:=zi cE bH
theorem RU:∀(t:Tm) (st:aA),t.small=true→aD prog 91 [t.av] st (Made st t.av)
 | .mk k n s ts,st,hb=>by
  obtain⟨hb1,hb2⟩:=Tm.kT hb
  have hc:=fun st=>aD0 ts st hb1 fun x hx st=>RU x st (hb2 x hx)
  refine aD.aDI ?_
  refine wF [1] 1 func91 ntmps91 rfl rfl ?_
  intro _
  simp only[a6]
  simp only[aB,seval,TP]
  intro b aBQ b2 xY
  have hne:b2≠b:=by rintro rfl;rw[aA.aP] at xY;cases xY
  have hn2:st b2=none:=by rw[aA.aV st _ hne] at xY;exact xY
  simp only[mP,hne.symm,aB,seval]
  refine(hc _).mono ?_
  rintro q s2 ⟨bs,m1,m2,m3,m4⟩
  have hbb:b∉bs:=fun h=>by have:=m2 b h;simp [mP,hne.symm] at this
  have x6:b2∉bs:=fun h=>by have:=m2 b2 h;simp [mP] at this
  have e1:=m4 b hbb
  have e2:=m4 b2 x6
  simp only[mP,hne,hne.symm,fD,cP] at e1 e2
  have hqc:q.cells= [q]:=by have:=(bZ.shape m3).1;cases q<;>first | rfl | simp [AV.isAgg] at this
  have hqs:q.storable=true:=by
   have:=m3
   simp only[bZ] at this
   rcases this with ⟨_,rfl,_⟩ | ⟨_,_,_,_,rfl,_⟩<;>rfl
  simp only[mP,hne,e1,e2,hqc,hqs,aF,aB,seval,TP]
  refine⟨[b,b2],bs,m1,fun x hx=>?_,?_,?_,?_⟩
  · have:=m2 x hx
    have h1:x≠b:=fun e=>hbb (e▸hx)
    have h2:x≠b2:=fun e=>x6 (e▸hx)
    simpa [mP,h1,h2] using this
  · simp [aBQ,hn2,hbb,x6]
  · rw[←a6]
    refine aD9.2 ⟨q,rfl,bZ.cQ _ _ _ (fun x hx=>?_) m3⟩
    have h1:x≠b:=fun e=>hbb (e▸hx)
    have h2:x≠b2:=fun e=>x6 (e▸hx)
    simp only[mP,h1,h2,cP]
  · intro x hx hd
    simp only[dS,gB,fU,not_or] at hd
    simp only[mP,hd.1,hd.2,cP]
    rw[m4 x hx]
    simp only[mP,hd.1,hd.2,cP]
termination_by t=>SizeOf.sizeOf t
decreasing_by have:=List.sizeOf_lt_of_mem hx;simp only[Tm.mk.sizeOf_spec];omega
abbrev qR:=zi aZ (zi b7 (zi cE bH))
theorem rU:∀(t:Tm) (st:aA),t.small=true→aD prog 84 [t.av] st (fun r st'=>r=t.av∧st'=st)
 | .mk k n s ts,st,hsm=>by
  obtain⟨hlen,p8⟩:=Tm.kT hsm
  have IH:=fun(x:Tm) (hx:x∈ts) st=>rU x st (p8 x hx)
  refine aD.oN (aD.fin ?_)
  simp only[a6]
  refine wF [] 1 func84 ntmps84 rfl rfl ?_
  simp only[dG,AV.fits,eJ,aG]
  intro ⟨_,_,_,hl,_⟩
  simp only[aB,seval,qR]
  intro b2 hb2 c hc
  have hne:c≠b2:=by rintro rfl;rw[aA.aP] at hc;cases hc
  have hn2:st c=none:=by rw[aA.aV st _ hne] at hc;exact hc
  simp only[aF,aB,seval]
  refine fW (σ:=Nat) [] [1,2,3] ts (fun i b=>(((ts.take i).map (fun y=>y)).map Tm.av≠[]→(aA.aC (st.aC b2 (.cells [AV.int .i64 0,AV.int .i64 0,AV.str ⟨#[]⟩,AV.fslice []])) c (.cells ([AV.int .i64 k,AV.int .i64 n,AV.str s]++ [aT 4 b (((ts.take i).map (fun y=>y)).map Tm.av)]))) b=none)) (fun i b=>[(4,.int .i64 i)]) (fun i b=>cY (st.aC b2 (.cells [AV.int .i64 0,AV.int .i64 0,AV.str ⟨#[]⟩,AV.fslice []])) c b [AV.int .i64 k,AV.int .i64 n,AV.str s] (((ts.take i).map (fun y=>y)).map Tm.av)) (by decide +kernel)
   ⟨0,fun h=>absurd rfl h,aL.mk (by simp only[aB,↓bG,seval])⟩ (fun i x b hx hlt b9 hdr hinv=>?_) (fun b hge hinv=>?_)
  case refine_1=>
   have hw:=bO (n:=(i:Int)+1)
   have cO:(((ts.take i).map (fun y=>y)).map Tm.av).length=i:=by simp only[aG,dZ];omega
   have htk:(ts.take (i+1)).map (fun y=>y)=(ts.take i).map (fun y=>y)++ [(fun y=>y) x]:=by rw[gW,hx];simp
   have hbo:=cH hinv
   simp only[aG,b9,aB,seval,qR]
   refine wP [(0,1),(2,1),(4,1),(1,2),(3,2),(5,1),(6,2),(7,2),(8,1),(9,0),(10,1),(11,0)] [0,2,4,1,3,5,6,7,8,10] mixed ?_
   simp only[cJ (av:=Tm.av) cS hx (aR x),aQ,aR,hbo,iM,eX,aB,seval,qR]
   refine eV (IH x (c8 hx) _) ?_
   simp only[aQ,aR,bW,eX,aB,seval,qR]
   refine eH cS gG gH rfl rfl (eR (aR _) (bA _)) (cT _) hinv (by simp only[cO,bD,bN];omega) (by simp only[cO,bD,bN];omega) (fun b' hb'=>?_)
   rw[show(((ts.take i).map (fun y=>y)).map Tm.av)++ [((fun y=>y) x).av]=((ts.take (i+1)).map (fun y=>y)).map Tm.av by rw[htk];simp] at hb' ⊢
   obtain⟨g1,g2,g3⟩:=kB hb'
   simp only[dM,dB] at g1 g3
   simp only[g3,jN,c5,aF,g1,hw,aB,seval,qR]
   exact⟨b',g2,aL.mk (by simp only[aB,seval])⟩
  have hbo:=cH hinv
  rw[fZ] at hinv hbo ⊢
  simp only[aG,hge,aB,seval,qR]
  simp only[hbo,aB,seval,qR]
  have iQ:b2≠c:=cV hne
  have hS:(st.aC b2 (.cells [AV.int .i64 0,AV.int .i64 0,AV.str ⟨#[]⟩,AV.fslice []])) b2≠none:=by rw[aA.aP];simp
  have h1:=dW hinv hS iQ
  rw[aA.aP] at h1
  simp only[h1,c5,aF,aB,seval]
  obtain⟨h2,h3⟩:=fF (o:=.cells [AV.int .i64 k,AV.int .i64 n,AV.str s,aT 4 b ((ts.map fun y=>y).map Tm.av)]) hinv hS iQ
  refine⟨b,_,_,h2,h3,d8 _,⟨4,cT _⟩,?_,?_⟩
  · simp only[eC,bT,bF,dQ,d7,eG,List.map_id']
  · exact(((aH.refl _).aC hb2).aC hn2).aC hb2
termination_by t=>SizeOf.sizeOf t
decreasing_by have:=List.sizeOf_lt_of_mem hx;simp only[Tm.mk.sizeOf_spec];omega
end Go.AW
namespace Go.AW
def Tm.k:Tm→Int | .mk k _ _ _=>k
def Tm.n:Tm→Int | .mk _ n _ _=>n
def Tm.s:Tm→ByteArray | .mk _ _ s _=>s
def Tm.ts:Tm→List Tm | .mk _ _ _ ts=>ts
def vr(n:Int):Tm:=.mk 1 n ⟨#[]⟩ []
mutual
def Tm.dA(f:Int→Tm):Tm→Tm
 | .mk k n s ts=>if k=1 then f n else .mk k n s (zE f ts)
def zE(f:Int→Tm):List Tm→List Tm
 | []=>[]
 | t::ts=>t.dA f::zE f ts
end
theorem T6(f:Int→Tm):∀ts:List Tm,zE f ts=ts.map (Tm.dA f)
 | []=>rfl
 | t::ts=>by simp only[zE,bT,T6 f ts]
theorem Tm.CL(f:Int→Tm){k n:Int}{s:ByteArray}{ts:List Tm}(h:k=1):(Tm.mk k n s ts).dA f=f n:=by simp only[Tm.dA,h,fD]
theorem Tm.u7(f:Int→Tm){k n:Int}{s:ByteArray}{ts:List Tm}(h:k≠1):(Tm.mk k n s ts).dA f=.mk k n s (ts.map (Tm.dA f)):=by simp only[Tm.dA,h,cP,T6]
mutual
def Tm.vl:Tm→List Int
 | .mk k n _ ts=>if k=1 then[n] else vV ts
def vV:List Tm→List Int
 | []=>[]
 | t::ts=>t.vl++vV ts
end
theorem UD{v:Int}:∀ {ts:List Tm},v∈vV ts↔∃t∈ts,v∈t.vl
 | []=>by simp [vV]
 | t::ts=>by simp [vV,UD (ts:=ts)]
theorem Tm.zU{k n:Int}{s:ByteArray}{ts:List Tm}(h:k=1):(Tm.mk k n s ts).vl= [n]:=by simp only[Tm.vl,h,fD]
theorem Tm.zT{k n v:Int}{s:ByteArray}{ts:List Tm}(h:k≠1):v∈(Tm.mk k n s ts).vl↔∃t∈ts,v∈t.vl:=by simp only[Tm.vl,h,cP,UD]
theorem Tm.ind{p:Tm→Prop}(h:∀k n s ts,(∀t∈ts,p t)→p (.mk k n s ts)):∀t,p t
 | .mk k n s ts=>h k n s ts fun t ht=>Tm.ind h t
termination_by t=>SizeOf.sizeOf t
decreasing_by have:=List.sizeOf_lt_of_mem ht;simp only[Tm.mk.sizeOf_spec];omega
abbrev Sub:=Int→Option Tm
def Sub.set(σ:Sub)(n:Int)(t:Tm):Sub:=fun m=>if m=n then some t else σ m
structure Good (σ:Sub) (R:Int→Tm) (rk:Int→Nat) (B:Nat):Prop where
 sol:∀n,R n=match σ n with | some u=>u.dA R | .none=>vr n
 aH9:∀n u,σ n=some u→∀w∈u.vl,rk w<rk n
 bd:∀n,rk n<B
section
variable {σ:Sub} {R R':Int→Tm} {rk rk':Int→Nat} {B B':Nat}
end
open Classical in
noncomputable def rs(σ:Sub):Int→Tm:=if h:∃R rk B,Good σ R rk B then h.choose else vr
theorem Tm.CK{t:Tm}(f:Int→Tm)(h:t.k≠1):t.dA f=.mk t.k t.n t.s (t.ts.map (Tm.dA f)):=by cases t;exact Tm.u7 f h
theorem Tm.soft(t:Tm):t.av.soft=t.av:=by cases t;simp [a6,AV.soft,dX]
theorem Tm.uN(t:Tm)(b:Nat):t.av.fin b []=t.av:=Tm.soft t
abbrev Bd:=Int×Tm
def c6(b:Bd):AV:=.agg (.int .i64 b.1::b.2.av.cells)
theorem WA(b:Bd):(c6 b).isAgg=true:=rfl
theorem uF(b:Bd):(c6 b).width=5:=by simp only[c6,AV.width,bD,aO]
theorem WC(b:Bd):(c6 b).cells.all AV.storable=true:=by
 show(AV.int .i64 b.1::b.2.av.cells).all AV.storable=true
 rw[iX,bA b.2]
 try rfl
theorem EO(l:List Bd):∀e∈l.map c6,e.width=5:=by intro e h;simp only[fN] at h;obtain⟨t,_,rfl⟩:=h;exact uF t
theorem WD(l:List Bd):∀e∈l.map c6,e.bP=false:=by intro e h;simp only[fN] at h;obtain⟨t,_,rfl⟩:=h;rfl
theorem WB(n:Int)(t:Tm):AV.agg (.int .i64 n::t.av.cells)=c6 (n,t):=rfl
def lI:List Bd→Int→Option Tm
 | [],_=>none
 | (m,x)::r,n=>if m=n then some x else lI r n
def mQ(bs:List Bd)(n:Int):Tm:=(lI bs n).getD (vr n)
def Tm.zero:Tm:=.mk 0 0 ⟨#[]⟩ []
mutual
def Tm.cv:Tm→Bool
 | .mk k _ s ts=>(!decide (k=1)||(decide (s=⟨#[]⟩)&&ts.isEmpty))&&zC ts
def zC:List Tm→Bool
 | []=>true
 | t::ts=>t.cv&&zC ts
end
theorem TZ:∀(ts:List Tm),zC ts=ts.all Tm.cv
 | []=>rfl
 | t::ts=>by simp only[zC,iX,TZ ts]
theorem Tm.uK{k n:Int}{s:ByteArray}{ts:List Tm}:(Tm.mk k n s ts).cv=true↔(k=1→s=⟨#[]⟩∧ts= [])∧∀x∈ts,x.cv=true:=by
 simp only[Tm.cv,TZ,bV,pI,k8,dF,List.isEmpty_iff,dY,bK]
 constructor
 · exact fun h=>⟨fun hk=>h.1.resolve_left (fun hn=>hn hk),h.2⟩
 · intro h
   refine⟨?_,h.2⟩
   by_cases hk:k=1
   · exact .inr (h.1 hk)
   · exact .inl hk
theorem Tm.aEY:∀(t:Tm) (d:Int),t.shape d=true→t.small=true:=by
 intro t
 induction t using Tm.ind with
 | h k n s ts ih=>
  intro d h
  rw[Tm.sX] at h
  simp only[bV,dY] at h
  obtain⟨⟨_,h1⟩,h2⟩:=h
  simp only[Tm.small,tE,bV,bK,dY]
  refine⟨?_,fun x hx=>ih x hx _ (h2 x hx)⟩
  unfold cR at h1
  cases h3:decide (k=1)<;>rw[h3] at h1
  · cases h4:decide (k=2)<;>rw[h4] at h1
    · cases h5:decide (k=3)<;>rw[h5] at h1<;>simp at h1;omega
    · simp at h1;rw[h1.2];simp
  · simp at h1;rw[h1.2];simp
theorem Tm.zS{t:Tm}(h:t.valid=true):t.small=true:=by simp only[Tm.valid,bV] at h;exact Tm.aEY t 30 h.1
theorem Tm.aDO{f:Int→Tm}(hf:∀n,(f n).small=true):∀(t:Tm),t.small=true→(t.dA f).small=true:=by
 intro t
 induction t using Tm.ind with
 | h k n s ts ih=>
  intro h
  by_cases hk:k=1
  · rw[Tm.CL f hk];exact hf n
  · obtain⟨h1,h2⟩:=Tm.kT h
    rw[Tm.u7 f hk]
    simp only[Tm.small,tE,bV,bK,dY,aG]
    refine⟨h1,fun x hx=>?_⟩
    obtain⟨y,hy,rfl⟩:=fN.1 hx
    exact ih y hy (h2 y hy)
def iG{α:Type}(p:α→Bool):List α→Int→Int
 | [],_=> -1
 | x::xs,i=>if p x=true then i else iG p xs (i+1)
theorem yB{α:Type}(p:α→Bool):∀(l:List α) (i:Int),0≤i→(iG p l i= -1∧l.any p=false)∨∃(j:Nat) (x:α),iG p l i=i+j∧l[j]?=some x∧p x=true∧l.any p=true∧∀(k:Nat) y,k<j→l[k]?=some y→p y=false
 | [],i,_=>.inl ⟨rfl,rfl⟩
 | x::xs,i,h=>by
  by_cases hp:p x=true
  · exact .inr ⟨0,x,by simp [iG,hp],rfl,hp,by simp [hp],fun k y hk=>absurd hk (Nat.not_lt_zero k)⟩
  · rcases yB p xs (i+1) (by omega) with ⟨h1,h2⟩ | ⟨j,y,h1,h2,h3,h4,h5⟩
    · exact .inl ⟨by simp [iG,hp,h1],by simp [hp,h2]⟩
    · refine .inr ⟨j+1,y,by simp only[iG,hp,h1];simp;omega,by simpa using h2,h3,by simp [h4],fun k z hk hz=>?_⟩
      cases k with
      | zero=>simp at hz;subst hz;simpa using hp
      | succ k=>exact h5 k z (by omega) (by simpa using hz)
theorem aCV{α:Type}(p:α→Bool)(l:List α):decide (0≤iG p l 0)=l.any p:=by
 rcases yB p l 0 (Int.le_refl 0) with ⟨h1,h2⟩ | ⟨j,y,h1,_,_,h4,_⟩
 · rw[h1,h2];try rfl
 · rw[h1,h4];simp
theorem aBE(bs:List Bd)(n:Int):(iG (fun b=>decide (b.1=n)) bs 0= -1∧lI bs n=none)∨∃(j:Nat) (b:Bd),iG (fun b=>decide (b.1=n)) bs 0=j∧bs[j]?=some b∧lI bs n=some b.2:=by
 have key:∀(l:List Bd) (j:Nat) (b:Bd),l[j]?=some b→b.1=n→(∀(k:Nat) y,k<j→l[k]?=some y→¬y.1=n)→lI l n=some b.2:=by
  intro l
  induction l with
  | nil=>intro j b h;simp at h
  | cons x l ih=>
   intro j b h hb hlt
   cases j with
   | zero=>simp at h;subst h;simp [lI,hb]
   | succ j=>
    have hx:=hlt 0 x (by omega) rfl
    obtain⟨m,t⟩:=x
    simp only[lI,hx,cP]
    exact ih j b (by simpa using h) hb fun k y hk hy=>hlt (k+1) y (by omega) (by simpa using hy)
 rcases yB (fun b:Bd=>decide (b.1=n)) bs 0 (Int.le_refl 0) with ⟨h1,h2⟩ | ⟨j,y,h1,h2,h3,_,h5⟩
 · refine .inl ⟨h1,?_⟩
   clear h1
   induction bs with
   | nil=>rfl
   | cons x l ih=>
    obtain⟨m,t⟩:=x
    simp only[List.any_cons,Bool.or_eq_false_iff,dF] at h2
    simp only[lI,h2.1,cP]
    exact ih h2.2
 · refine .inr ⟨j,y,by rw[h1];omega,h2,key bs j y h2 (by simpa using h3) fun k z hk hz=>by simpa using h5 k z hk hz⟩
end Go.AW
namespace Go.AW
open Go.Proofs.Tryz
abbrev aFO:=zi aZ (zi cB (zi b7 (zi cE bH)))
theorem XT(k n:Int)(s:ByteArray)(ts:List Tm)(st:aA):aD prog 251 [(Tm.mk k n s ts).av] st (fun r st'=>r=.bool (cR k n s ts.length)∧st'=st):=by
 refine wF [] 1 func251 ntmps251 rfl rfl ?_
 intro _
 simp only[a6]
 have hl:(ts.map Tm.av).length=ts.length:=aG _
 repeat' (first
  | (simp only[*,aB,seval,aFO])
  | (refine cU (fun h=>?_) (fun h=>?_))
  | (refine(YT s st).to ?_)
  | (refine aW (fun h=>?_) (fun h=>?_)))
 all_goals simp only[cR, *,cond_true,cond_false,fX,dH,dL,pH,Bool.and_true]
abbrev yX:=zi aZ (zi cB (zi cE bH))
theorem E5:∀(t:Tm) (d:Int) (st:aA),d≤30→-1≤d→aD prog 166 [t.av,.int .i64 d] st (fun r st'=>r=.bool (t.shape d)∧st'=st)
 | .mk k n s ts,d,st,hd,hd0=>by
  have hc:=fun(x:Tm) (hx:x∈ts) d st h h0=>E5 x d st h h0
  have h1:=XT k n s ts st
  rw[a6] at h1
  refine wF [] 2 func166 ntmps166 rfl rfl ?_
  simp only[a6,dG,AV.fits,eJ,aG,Tm.sX]
  intro ⟨_,_,_,hl,_⟩
  generalize cR k n s ts.length=z at *
  simp only[aB,seval,yX]
  refine cU (fun h=>?_) (fun h=>?_)
  case refine_2=>
   simp only[h,aB,seval]
   simp only[fM,bK] at h
   simp;omega
  simp only[h,aB,seval,yX]
  refine h1.to ?_
  simp only[aB,seval]
  refine⟨fun h2=>?_,fun h2=>?_⟩
  · simp only[aB,seval]
    simp only[k8] at h2
    simp [h2]
  simp only[q0,dF] at h2 h
  subst h2
  have hw:=bO (n:=d - 1)
  rw[show decide (1≤d)=true by simp;omega]
  simp only[aB,seval]
  refine pG (α:=Nat) [] (fun i=>i≤ts.length∧∀(j:Nat) x,j<i→ts[j]?=some x→x.shape (d - 1)=true)
   (fun i=>[(1,.int .i64 d),(2,.pptr (.agg [.int .i64 k,.int .i64 n,.str s,.slice (ts.map Tm.av)])),(5,.int .i64 i)]) (fun _=>st) (fun i=>ts.length - i) (by decide +kernel)
   ⟨0,⟨by omega,by intro j x h;omega⟩,aL.mk (by simp only[aB,↓bG,seval])⟩ ?_
  intro i ⟨hi,cX⟩
  simp only[aG,aB,seval,yX]
  refine⟨fun h5=>?_,fun h5=>?_⟩
  case refine_2=>
   simp only[aB,seval]
   simp only[dF,jY] at h5
   rw[wZ fun j x hx=>cX j x (by have:=(fY.1 hx).1;omega) hx]
  simp only[bK,jY] at h5
  obtain⟨x,hx⟩:∃x,ts[i]?=some x:=⟨_,eA h5⟩
  simp only[cJ (av:=Tm.av) cS hx (aR x),aQ,aR,hw,aB,seval,yX]
  refine(hc x (c8 hx) (d - 1) st (by omega) (by omega)).to ?_
  simp only[aB,seval]
  refine⟨fun h6=>?_,fun h6=>?_⟩
  · simp only[aB,seval]
    simp only[k8] at h6
    rw[oG hx h6]
  simp only[q0] at h6
  simp only[aB,seval]
  refine⟨i+1,by omega,⟨by omega,fun j u hj hu=>?_⟩,aL.mk ?_⟩
  · rcases iZ j i with h8 | h8
    · exact cX j u h8 hu
    · obtain rfl:j=i:=by omega
      rw[hx] at hu;cases hu;exact h6
  · have:=bO (n:=(i:Int)+1)
    simp only[this,aB,seval]
termination_by t=>SizeOf.sizeOf t
decreasing_by have:=List.sizeOf_lt_of_mem hx;simp only[Tm.mk.sizeOf_spec];omega
abbrev DC:=zi aZ (zi cE bH)
theorem E2:∀(t:Tm) (m:Int) (st:aA),0≤m→m≤120→aD prog 167 [t.av,.int .i64 m] st (fun r st'=>r=.int .i64 (min (t.nodes:Int) (m+1))∧st'=st)
 | .mk k n s ts,m,st,hm0,hm=>by
  have hc:=fun(x:Tm) (hx:x∈ts) m st h h0=>E2 x m st h h0
  refine wF [] 2 func167 ntmps167 rfl rfl ?_
  simp only[a6,dG,AV.fits,eJ,aG,Tm.jU]
  intro ⟨_,_,_,hl,_⟩
  simp only[aB,seval,DC]
  refine pG (α:=Nat) [] (fun i=>i≤ts.length)
   (fun i=>[(1,.int .i64 m),(2,.pptr (.agg [.int .i64 k,.int .i64 n,.str s,.slice (ts.map Tm.av)])),(5,.int .i64 (min ((1+bS Tm.nodes (ts.take i):Nat):Int) (m+1))),(6,.int .i64 i)]) (fun _=>st) (fun i=>ts.length - i) (by decide +kernel)
   ⟨0,by omega,aL.mk (by simp only[k9,bS,show min ((0:Int)+1) (m+1)=1 by omega,BS,↓Int.cast_ofNat_Int,↓reduceIte,reduceCtorEq,Nat.reduceEqDiff,Nat.reduceAdd])⟩ ?_
  intro i hi
  simp only[aG,aB,seval,DC]
  have aB2:¬i<ts.length→bS Tm.nodes (ts.take i)=bS Tm.nodes ts:=fun h=>by rw[kH (by omega)]
  refine cU (fun h5=>?_) (fun h5=>?_)
  case refine_2=>
   simp only[h5,aB,seval]
   simp only[fX,dF,jY] at h5
   rw[aB2 h5]
  simp only[h5,aB,seval]
  simp only[bK,jY] at h5
  obtain⟨x,hx⟩:∃x,ts[i]?=some x:=⟨_,eA h5⟩
  have hs:=C7 Tm.nodes hx
  refine⟨fun h6=>?_,fun h6=>?_⟩
  case refine_2=>
   simp only[aB,seval]
   simp only[dF] at h6
   simp only[AV.int.injEq,true_and]
   omega
  simp only[bK] at h6
  have e6:min (((1+bS Tm.nodes (ts.take i):Nat):Int)) (m+1)=((1+bS Tm.nodes (ts.take i):Nat):Int):=by omega
  rw[e6] at h6 ⊢
  have hw:=bO (n:=m - ((1+bS Tm.nodes (ts.take i):Nat):Int))
  simp only[cJ (av:=Tm.av) cS hx (aR x),aQ,aR,hw,aB,seval,DC]
  refine(hc x (c8 hx) _ st (by omega) (by omega)).to ?_
  have hw2:=bO (n:=((1+bS Tm.nodes (ts.take i):Nat):Int)+min (x.nodes:Int) (m - ((1+bS Tm.nodes (ts.take i):Nat):Int)+1))
  simp only[hw2,aB,seval]
  refine⟨i+1,by omega,by omega,aL.mk ?_⟩
  have:=bO (n:=(i:Int)+1)
  simp only[this,show((1+bS Tm.nodes (ts.take i):Nat):Int)+min (x.nodes:Int) (m - ((1+bS Tm.nodes (ts.take i):Nat):Int)+1)=min ((1+bS Tm.nodes (ts.take (i+1)):Nat):Int) (m+1) by omega,aB,seval]
termination_by t=>SizeOf.sizeOf t
decreasing_by have:=List.sizeOf_lt_of_mem hx;simp only[Tm.mk.sizeOf_spec];omega
abbrev TH:=zi aZ (zi cB bH)
theorem BE(t:Tm)(st:aA):aD prog 96 [t.av] st (fun r st'=>r=.bool t.valid∧st'=st):=by
 refine wF [] 1 func96 ntmps96 rfl rfl ?_
 intro _
 simp only[bW,aQ,aR,aB,seval,TH]
 refine(E5 t 30 st (by omega) (by omega)).to ?_
 simp only[aB,seval]
 refine cU (fun h=>?_) (fun h=>?_)
 · simp only[h,aQ,aR,aB,seval,TH]
   refine(E2 t 120 st (by omega) (by omega)).to ?_
   simp only[aB,seval]
   simp only[Tm.valid,h,dH,AV.bool.injEq,r0]
   omega
 · simp only[h,aB,seval]
   simp at h
   simp [Tm.valid,h]
abbrev aFK:=zi aZ (zi cB (zi b7 (zi cE bH)))
theorem YC(k n:Int)(s:ByteArray)(ts:List Tm)(st:aA):aD prog 225 [(Tm.mk k n s ts).av] st (fun r st'=>r=.bool (decide (k=3)&&decide (s=⟨#[33]⟩)&&decide ((ts.length:Int)=0))∧st'=st):=by
 refine wF [] 1 func225 ntmps225 rfl rfl ?_
 intro _
 simp only[a6]
 repeat' (first
  | (simp only[*,aB,seval,aFK])
  | (refine cU (fun h=>?_) (fun h=>?_))
  | (refine aW (fun h=>?_) (fun h=>?_)))
 all_goals simp only[*,aG,dL]
abbrev TG:=zi cB (zi b7 bH)
theorem XK(k n:Int)(s:ByteArray)(ts:List Tm)(st:aA):aD prog 101 [(Tm.mk k n s ts).av] st (fun r st'=>r=.bool (decide (k=3)&&decide ((ts.length:Int)=0)&&decide (s=⟨#[33]⟩))∧st'=st):=by
 have h1:=XJ k n s ts st
 rw[a6] at h1
 refine wF [] 1 func101 ntmps101 rfl rfl ?_
 intro _
 simp only[a6]
 simp only[aB,seval,TG]
 refine h1.to ?_
 clear h1
 repeat' (first
  | (simp only[*,aB,seval,TG])
  | (refine cU (fun h=>?_) (fun h=>?_))
  | (refine aW (fun h=>?_) (fun h=>?_)))
 all_goals simp_all
abbrev TF:=zi aZ (zi cB (zi b7 (zi cE bH)))
theorem EY(k n:Int)(s:ByteArray)(ts:List Tm)(st:aA):aD prog 100 [(Tm.mk k n s ts).av] st (fun r st'=>r=.bool (decide (k=3)&&isBuiltin s (ts.length:Int))∧st'=st):=by
 have h1:=XG s ts.length st
 refine wF [] 1 func100 ntmps100 rfl rfl ?_
 intro _
 simp only[a6]
 simp only[aB,seval,TF]
 refine cU (fun h=>?_) (fun h=>?_)
 · simp only[h,aG,aB,seval,TF]
   refine h1.to ?_
   clear h1
   simp only[aB,seval]
 · simp only[h,aB,seval]
   simp at h
   simp []
def g9(k:Int)(s:ByteArray)(len:Int):Bool:=decide (k=3)&&lP s&& !isBuiltin s len&&decide ((cG s:Int)=0)
abbrev aFN:=zi aZ (zi cB (zi b7 bH))
theorem A5(k n:Int)(s:ByteArray)(ts:List Tm)(st:aA):aD prog 99 [(Tm.mk k n s ts).av] st (fun r st'=>r=.bool (g9 k s (ts.length:Int))∧st'=st):=by
 have h1:=EY k n s ts st
 rw[a6] at h1
 have e:decide ((0:Int)<(cG s:Int))= !decide ((cG s:Int)=0):=by
  by_cases h:cG s=0
  · simp [h]
  · simp [h];omega
 have e3:∀b:Bool,k=3→(decide (k=3)&&b)=b:=fun b h=>by simp [h]
 refine wF [] 1 func99 ntmps99 rfl rfl ?_
 intro _
 simp only[a6]
 repeat' (first
  | (simp only[*,aB,seval,aFN])
  | (refine cU (fun h=>?_) (fun h=>?_))
  | (refine(EZ s st).to ?_) | (refine(XL s st).to ?_) | (refine h1.to ?_)
  | (refine aW (fun h=>?_) (fun h=>?_)))
 all_goals (clear h1;simp_all [g9])
abbrev aFM:=zi aZ (zi cB (zi b7 (zi cE bH)))
theorem BD(k n:Int)(s:ByteArray)(ts:List Tm)(st:aA):aD prog 97 [(Tm.mk k n s ts).av] st (fun r st'=>r=.bool (g9 k s (ts.length:Int))∧st'=st):=by
 refine wF [] 1 func97 ntmps97 rfl rfl ?_
 intro _
 simp only[a6]
 have hl:(ts.map Tm.av).length=ts.length:=aG _
 repeat' (first
  | (simp only[*,aB,seval,aFM])
  | (refine cU (fun h=>?_) (fun h=>?_))
  | (refine(E8 s st).to ?_) | (refine(FK s _ st).to ?_) | (refine(oJ s st).to ?_)
  | (refine aW (fun h=>?_) (fun h=>?_)))
 all_goals simp_all [g9]
def oP(k:Int)(s:ByteArray)(len:Int):Bool:=(decide (k=3)&&decide (s=⟨#[33]⟩)&&decide (len=0))||g9 k s len||(decide (k=3)&&isBuiltin s len)
abbrev aFL:=zi aZ (zi cB (zi b7 (zi cE bH)))
theorem YE(k n:Int)(s:ByteArray)(ts:List Tm)(st:aA):aD prog 231 [(Tm.mk k n s ts).av] st (fun r st'=>r=.bool (oP k s (ts.length:Int))∧st'=st):=by
 have h1:=YC k n s ts st
 have h2:=BD k n s ts st
 rw[a6] at h1 h2
 refine wF [] 1 func231 ntmps231 rfl rfl ?_
 intro _
 simp only[a6]
 have hl:(ts.map Tm.av).length=ts.length:=aG _
 unfold oP
 generalize (decide (k=3)&&decide (s=⟨#[33]⟩)&&decide ((ts.length:Int)=0))=z1 at *
 generalize g9 k s (ts.length:Int)=z2 at *
 repeat' (first
  | (simp only[*,aB,seval,aFL])
  | (refine cU (fun h=>?_) (fun h=>?_))
  | (refine h1.to ?_) | (refine h2.to ?_) | (refine(FK s _ st).to ?_)
  | (refine aW (fun h=>?_) (fun h=>?_)))
 all_goals (clear h1 h2;simp_all)
theorem UK{st:aA}{b:Nat}{o:AO}(h:st b=some o):st.aC b o=st:=by
 funext x;simp only[aA.aC];split
 · rename_i e;rw[e,h]
 · rfl
def vJ(ok:Bool)(c n:Int)(b:Nat)(st:aA)(r:AV)(st':aA):Prop:=
 ∃c',r=.bool (decide (c+n≤120)&&ok)∧st'=st.aC b (.cells [.int .i64 c'])∧((decide (c+n≤120)&&ok)=true→c'=c+n)
abbrev aFP:=zi aZ (zi cB (zi bH DM))
theorem YQ(x:Tm)(d c:Int)(b:Nat)(st:aA)(hd: -1000≤d)(hd1:d≤1000)
 (h:aD prog 149 [x.av,.int .i64 (d+1),.ptr b 0] st (vJ (x.shape (30 - d)) c x.nodes b st)) :
 aD prog 242 [x.av,.pptr (.int .i64 d),.pptr (.ptr b 0)] st (fun r st'=>∃c',r=.bool (!(decide (c+x.nodes≤120)&&x.shape (30 - d)))∧st'=st.aC b (.cells [.int .i64 c'])∧((decide (c+(x.nodes:Int)≤120)&&x.shape (30 - d))=true→c'=c+x.nodes)):=by
 have hw:=bO (n:=d+1)
 refine wF [] 3 func242 ntmps242 rfl rfl ?_
 intro _
 simp only[hw,bW,aQ,aR,aB,seval,aFP]
 refine h.mono ?_
 rintro _ _ ⟨c',rfl,rfl,hc⟩
 simp only[aB,seval]
 refine⟨c',?_⟩
 first | exact hc | exact⟨rfl,rfl,hc⟩ | exact⟨rfl,hc⟩ | trace_state
abbrev TI:=zi aZ (zi cE bH)
theorem WZ(l:List Tm)(d c:Int)(b:Nat)(st:aA)(hd: -1000≤d)(hd1:d≤1000)(hb:st b=some (.cells [.int .i64 c]))(hc0:0≤c)(hc1:c≤120)
 (h:∀x∈l,∀(c:Int) (st:aA),st b=some (.cells [.int .i64 c])→0≤c→c≤120→aD prog 149 [x.av,.int .i64 (d+1),.ptr b 0] st (vJ (x.shape (30 - d)) c x.nodes b st)) :
 aD prog 230 [.slice (l.map Tm.av),.func 242 [.pptr (.int .i64 d),.pptr (.ptr b 0)]] st
  (fun r st'=>∃j c',r=.int .i64 j∧decide (0≤j)=(!(decide (c+(bS Tm.nodes l:Int)≤120)&&l.all fun t=>t.shape (30 - d)))∧st'=st.aC b (.cells [.int .i64 c'])∧(decide (0≤j)=false→c'=c+(bS Tm.nodes l:Int))):=by
 refine wF [] 2 func230 ntmps230 rfl rfl ?_
 simp only[dG,AV.fits,eJ,aG]
 intro ⟨hl,_⟩
 simp only[aG,aB,seval,TI]
 refine pG (α:=Nat) [] (fun i=>i≤l.length∧c+(bS Tm.nodes (l.take i):Int)≤120∧∀(j:Nat) x,j<i→l[j]?=some x→x.shape (30 - d)=true)
  (fun i=>[(0,.slice (l.map Tm.av)),(1,.func 242 [.pptr (.int .i64 d),.pptr (.ptr b 0)]),(7,.int .i64 l.length),(8,.int .i64 i)]) (fun i=>st.aC b (.cells [.int .i64 (c+(bS Tm.nodes (l.take i):Int))])) (fun i=>l.length - i) (by decide +kernel)
  ⟨0,⟨by omega,by simp only[k9,bS];omega,by intro j x h;omega⟩,by
   simp only[k9,bS]
   rw[show c+((0:Nat):Int)=c by omega,UK hb]
   exact aL.mk (by simp only[aB,↓bG,seval])⟩ ?_
 intro i ⟨hi,RA,cX⟩
 simp only[aB,seval]
 refine⟨fun h5=>?_,fun h5=>?_⟩
 case refine_2=>
  simp only[aB,seval]
  simp only[dF,jY] at h5
  rw[kH (by omega)] at RA ⊢
  have ha:(l.all fun t=>t.shape (30 - d))=true:=wZ fun j x hx=>cX j x (by have:=(fY.1 hx).1;omega) hx
  exact⟨-1,_,rfl,by rw[ha];simp<;>omega,rfl,fun _=>rfl⟩
 simp only[bK,jY] at h5
 obtain⟨x,hx⟩:∃x,l[i]?=some x:=⟨_,eA h5⟩
 have hs:=C7 Tm.nodes hx
 simp only[cJ (av:=Tm.av) cS hx (aR x),aQ,aR,aB,seval,TI]
 refine(YQ x d (c+(bS Tm.nodes (l.take i):Int)) b _ hd hd1 (h x (c8 hx) _ _ (aA.aP _ _ _) (by omega) RA)).mono ?_
 rintro _ _ ⟨c',rfl,rfl,hc'⟩
 simp only[bM,aB,seval]
 refine⟨fun h6=>?_,fun h6=>?_⟩
 · simp only[aB,seval]
   refine⟨i,c',rfl,?_,rfl,fun h7=>absurd h7 (by simp)⟩
   simp only[k8,Bool.and_eq_false_iff,dF] at h6
   rcases h6 with h6 | h6
   · rw[show decide (c+(bS Tm.nodes l:Int)≤120)=false by simp;omega]
     simp
   · rw[oG hx h6]
     simp
 simp only[q0] at h6
 rw[hc' h6]
 simp only[bV,bK] at h6
 simp only[aB,seval]
 refine⟨i+1,by omega,⟨by omega,by omega,fun j u hj hu=>?_⟩,?_⟩
 · rcases iZ j i with h8 | h8
   · exact cX j u h8 hu
   · obtain rfl:j=i:=by omega
     rw[hx] at hu;cases hu;exact h6.2
 · rw[show c+(bS Tm.nodes (l.take i):Int)+(x.nodes:Int)=c+(bS Tm.nodes (l.take (i+1)):Int) by omega]
   have:=bO (n:=(i:Int)+1)
   exact aL.mk (by simp only[this,aB,seval])
theorem WR(l:List Tm)(d c:Int)(b:Nat)(st:aA)(hd: -1000≤d)(hd1:d≤1000)(hb:st b=some (.cells [.int .i64 c]))(hc0:0≤c)(hc1:c≤120)
 (h:∀x∈l,∀(c:Int) (st:aA),st b=some (.cells [.int .i64 c])→0≤c→c≤120→aD prog 149 [x.av,.int .i64 (d+1),.ptr b 0] st (vJ (x.shape (30 - d)) c x.nodes b st)) :
 aD prog 143 [.slice (l.map Tm.av),.func 242 [.pptr (.int .i64 d),.pptr (.ptr b 0)]] st
  (fun r st'=>∃c',r=.bool (!(decide (c+(bS Tm.nodes l:Int)≤120)&&l.all fun t=>t.shape (30 - d)))∧st'=st.aC b (.cells [.int .i64 c'])∧((decide (c+(bS Tm.nodes l:Int)≤120)&&l.all fun t=>t.shape (30 - d))=true→c'=c+(bS Tm.nodes l:Int))):=by
 have h1:=WZ l d c b st hd hd1 hb hc0 hc1 h
 refine wF [] 2 func143 ntmps143 rfl rfl ?_
 intro _
 simp only[aB,seval]
 refine h1.mono ?_
 rintro _ _ ⟨j,c',rfl,hj,rfl,hc⟩
 simp only[aB,seval]
 refine⟨c',by rw[hj],rfl,fun h=>hc (by rw[hj,h];try rfl)⟩
abbrev o9:=zi aZ (zi cB (zi b7 (zi cE (zi bH DM))))
theorem FI:∀(t:Tm) (d c:Int) (b:Nat) (st:aA),st b=some (.cells [.int .i64 c])→0≤c→c≤120→0≤d→d≤31→aD prog 149 [t.av,.int .i64 d,.ptr b 0] st (vJ (t.shape (31 - d)) c t.nodes b st)
 | .mk k n s ts,d,c,b,st,hb,hc0,hc1,hd0,hd1=>by
  have hk:=fun(st:aA) (hb:st b=some (.cells [.int .i64 (c+1)])) (h1:c+1≤120) (h2:d≤30)=>WR ts d (c+1) b st (by omega) (by omega) hb (by omega) h1 fun x hx c st hb hc0 hc1=>by
   have:=FI x (d+1) c b st hb hc0 hc1 (by omega) (by omega)
   rw[show(31:Int) - (d+1)=30 - d by omega] at this
   exact this
  have hw:=bO (n:=c+1)
  unfold vJ
  rw[Tm.jU,Tm.sX]
  refine wF [] 3 func149 ntmps149 rfl rfl ?_
  simp only[a6,dG,AV.fits,eJ,aG]
  intro ⟨_,_,_,hl,_⟩
  simp only[hb,aF,hw,aB,seval,o9]
  have hL:(ts.map Tm.av).length=ts.length:=aG _
  have jQ:∀(v:Bool),v=(decide (c+((1+bS Tm.nodes ts:Nat):Int)≤120)&&(decide (1≤31 - d)&&cR k n s ts.length&&ts.all fun t=>t.shape (31 - d - 1)))→(v=true→ts= []) →
   ∃c',AV.bool v=AV.bool (decide (c+((1+bS Tm.nodes ts:Nat):Int)≤120)&&(decide (1≤31 - d)&&cR k n s ts.length&&ts.all fun t=>t.shape (31 - d - 1)))∧st.aC b (.cells [.int .i64 (c+1)])=st.aC b (.cells [.int .i64 c'])∧((decide (c+((1+bS Tm.nodes ts:Nat):Int)≤120)&&(decide (1≤31 - d)&&cR k n s ts.length&&ts.all fun t=>t.shape (31 - d - 1)))=true→c'=c+((1+bS Tm.nodes ts:Nat):Int)):=
   fun v h1 h2=>⟨c+1,by rw[h1],rfl,fun h3=>by rw[h2 (h1.trans h3)];simp [bS]⟩
  refine cU (fun h1=>?_) (fun h1=>?_)
  case refine_2=>
   simp only[h1,aB,seval]
   simp only[fM,bK] at h1
   refine jQ false ?_ (by intro h;cases h)
   rw[show decide (c+((1+bS Tm.nodes ts:Nat):Int)≤120)=false by simp;omega]
   try rfl
  simp only[h1,aB,seval,o9]
  refine⟨fun h2=>?_,fun h2=>?_⟩
  · simp only[aB,seval]
    simp only[bK] at h2
    refine jQ false ?_ (by intro h;cases h)
    rw[show decide (1≤31 - d)=false by simp;omega]
    simp
  simp only[dF] at h1 h2
  rw[show decide (1≤31 - d)=true by simp;omega] at jQ ⊢
  simp only[dH] at jQ ⊢
  rw[show 31 - d - 1=30 - d by omega] at jQ ⊢
  -- no kids
  have Q0:∀q:Bool,(∀h:ts= [],cR k n s ts.length=q)→(ts≠[]→cR k n s ts.length=false)→(q&&decide ((ts.length:Int)=0))=(decide (c+((1+bS Tm.nodes ts:Nat):Int)≤120)&&(cR k n s ts.length&&ts.all fun t=>t.shape (30 - d))):=by
   intro q hq1 hq2
   by_cases ht:ts= []
   · rw[hq1 ht];subst ht
     have e:c+((1+bS Tm.nodes []:Nat):Int)≤120:=by simp only[bS];omega
     rw[dK e]
     simp
   · rw[hq2 ht]
     have:¬(ts.length:Int)=0:=by intro h;exact ht (mY (by omega))
     rw[dP this]
     simp
  simp only[aB,seval,o9]
  refine aW (fun hk1=>?_) (fun hk1=>?_)
  · simp only[bK] at hk1
    subst hk1
    simp only[aB,seval,o9]
    refine(BF _ _ _ _).to ?_
    repeat' (first
     | (simp only[*,aB,seval,o9])
     | (refine cU (fun h=>?_) (fun h=>?_))
     | (refine aW (fun h=>?_) (fun h=>?_)))
    all_goals first
     | (refine jQ false ?_ (by intro h;cases h);rw[show cR 1 n s ts.length=false by first | (simp only[cR, *,fX,dL,pH];done) | (simp_all [cR];done) | (simp_all [cR];intro a e;have:=h a;omega)];simp;done)
     | (refine jQ _ ?_ (fun h=>mY (by simpa using h));rw[←Q0 true (fun h=>by simp_all [cR]) (fun h=>by simp [cR,h])];simp;done)
  simp only[dF] at hk1
  simp only[aB,seval]
  refine aW (fun hk2=>?_) (fun hk2=>?_)
  · simp only[bK] at hk2
    subst hk2
    simp only[aB,seval,o9]
    refine(BF _ _ _ _).to ?_
    repeat' (first
     | (simp only[*,aB,seval,o9])
     | (refine cU (fun h=>?_) (fun h=>?_))
     | (refine aW (fun h=>?_) (fun h=>?_)))
    all_goals first
     | (refine jQ false ?_ (by intro h;cases h);rw[show cR 2 n s ts.length=false by first | (simp only[cR, *,fX,dL,pH];done) | (simp_all [cR];done) | (simp_all [cR];intro a e;have:=h a;omega)];simp;done)
     | (refine jQ _ ?_ (fun h=>mY (by simpa using h));rw[←Q0 true (fun h=>by simp_all [cR]) (fun h=>by simp [cR,h])];simp;done)
  simp only[dF] at hk2
  simp only[aB,seval]
  refine aW (fun hk3=>?_) (fun hk3=>?_)
  case refine_2=>
   simp only[dF] at hk3
   simp only[aB,seval]
   refine jQ false ?_ (by intro h;cases h)
   rw[show cR k n s ts.length=false by simp [cR,hk1,hk2,hk3]]
   simp
  simp only[bK] at hk3
  subst hk3
  have hk':=fun st hb=>hk st hb (by omega) (by omega)
  clear hk
  repeat' (first
   | (simp only[*,aB,seval,o9])
   | (refine cU (fun h=>?_) (fun h=>?_))
   | (refine(XH s _).to ?_)
   | (refine aW (fun h=>?_) (fun h=>?_)))
  all_goals first
   | (refine jQ false ?_ (by intro h;cases h);rw[show cR 3 n s ts.length=false by(simp_all [cR];done)];simp;done)
   | skip
  refine(hk' _ (aA.aP _ _ _)).mono ?_
  rintro _ _ ⟨c',rfl,rfl,hc'⟩
  simp only[bM,aB,seval]
  have ho:cR 3 n s ts.length=true:=by simp_all [cR]
  rw[ho,show c+((1+bS Tm.nodes ts:Nat):Int)=c+1+(bS Tm.nodes ts:Int) by omega]
  simp only[dH,Bool.not_not]
  first | exact⟨c',trivial,rfl,hc'⟩ | exact⟨c',rfl,rfl,hc'⟩
termination_by t=>SizeOf.sizeOf t
decreasing_by have:=List.sizeOf_lt_of_mem hx;simp only[Tm.mk.sizeOf_spec];omega
abbrev aFR:=zi aZ (zi cB (zi bH DM))
theorem rT(t:Tm)(st:aA):aD prog 74 [t.av] st (fun r st'=>r=.bool t.valid∧st'=st):=by
 have hd:aD prog 74 [t.av] st (fun r st'=>aH st' st∧r=.bool t.valid):=by
  refine wF [] 1 func74 ntmps74 rfl rfl ?_
  intro _
  simp only[bW,aQ,aR,aB,seval,aFR]
  intro b hb
  simp only[aF,aB,seval]
  refine(FI t 1 0 b _ (aA.aP _ _ _) (by omega) (by omega) (by omega) (by omega)).mono ?_
  rintro _ _ ⟨c',rfl,rfl,_⟩
  simp only[bM,BS,↓reduceIte]
  refine⟨(aH.refl st).aC hb,?_⟩
  simp only[Tm.valid,AV.bool.injEq]
  rw[Bool.and_comm,show(31:Int) - 1=30 from rfl]
  congr 1
  simp only[r0]
  omega
 exact hd.drop
def Tm.goal:Tm→Bool
 | .mk k n s ts=>(Tm.mk k n s ts).valid&&oP k s ts.length
abbrev TJ:=zi cB bH
theorem YS:∀(t:Tm) (st:aA),aD prog 145 [t.av] st (fun r st'=>r=.bool t.goal∧st'=st)
 | .mk k n s ts,st=>by
  have h1:=BE (.mk k n s ts) st
  have h2:=YE k n s ts st
  rw[show(Tm.mk k n s ts).goal=((Tm.mk k n s ts).valid&&oP k s ts.length) from rfl]
  generalize (Tm.mk k n s ts).valid=z at *
  rw[a6] at *
  refine wF [] 1 func145 ntmps145 rfl rfl ?_
  intro _
  simp only[aB,seval,TJ]
  refine h1.to ?_
  simp only[aB,seval]
  refine cU (fun h=>?_) (fun h=>?_)
  · simp only[h,aB,seval,TJ]
    refine h2.to ?_
    simp only[aB,seval]
  · simp only[h,aB,seval]
    simp at h
    simp []
abbrev aFQ:=zi cB bH
theorem EX:∀(t:Tm) (st:aA),aD prog 30 [t.av] st (fun r st'=>r=.bool t.goal∧st'=st)
 | .mk k n s ts,st=>by
  have h1:=rT (.mk k n s ts) st
  have h2:=A5 k n s ts st
  have h3:=EY k n s ts st
  have h4:=XK k n s ts st
  rw[show(Tm.mk k n s ts).goal=((Tm.mk k n s ts).valid&&oP k s ts.length) from rfl]
  unfold oP
  generalize (Tm.mk k n s ts).valid=z at *
  generalize g9 k s (ts.length:Int)=z2 at *
  generalize (decide (k=3)&&isBuiltin s (ts.length:Int))=z3 at *
  rw[show(decide (k=3)&&decide (s=⟨#[33]⟩)&&decide ((ts.length:Int)=0))=(decide (k=3)&&decide ((ts.length:Int)=0)&&decide (s=⟨#[33]⟩)) from by cases decide (k=3)<;>cases decide (s=⟨#[33]⟩)<;>cases decide ((ts.length:Int)=0)<;>rfl]
  generalize (decide (k=3)&&decide ((ts.length:Int)=0)&&decide (s=⟨#[33]⟩))=z4 at *
  rw[a6] at *
  refine wF [] 1 func30 ntmps30 rfl rfl ?_
  intro _
  repeat' (first
   | (simp only[*,aB,seval,aFQ])
   | (refine cU (fun h=>?_) (fun h=>?_))
   | (refine h1.to ?_) | (refine h2.to ?_) | (refine h3.to ?_) | (refine h4.to ?_)
   | (refine aW (fun h=>?_) (fun h=>?_)))
  all_goals (clear h1 h2 h3 h4;simp_all)
abbrev TO:=zi aZ (zi cE bH)
theorem WX(l:List Tm)(g:FuncId)(bX:List AV)(p:Tm→Bool)(st:aA)(hc:∀x∈l,aD prog g ([Tm.av x]++bX) st (fun r st'=>r=.bool (p x)∧st'=st)) :
 aD prog 230 [.slice (l.map Tm.av),.func g bX] st (fun r st'=>∃j:Int,r=.int .i64 j∧decide (0≤j)=l.any p∧st'=st):=by
 refine wF [] 2 func230 ntmps230 rfl rfl ?_
 simp only[dG,AV.fits,eJ,aG]
 intro ⟨hl,_⟩
 simp only[aG,aB,seval,TO]
 refine fW (σ:=Unit) [] [0,1,7] l (fun i _=>(l.drop i).any p=l.any p) (fun i _=>[(8,.int .i64 i)]) (fun _ _=>st) (by decide +kernel) ⟨(),rfl,aL.mk (by simp only[aB,↓bG,seval])⟩ (fun i x _ hx hlt b9 hdr hinv=>?_) (fun _ hge hinv=>?_)
 case refine_2=>
  simp only[hge,aB,seval]
  rw[wE] at hinv
  exact⟨-1,rfl,by rw[←hinv];try rfl⟩
 rw[hdr,List.any_cons] at hinv
 have hw:=bO (n:=(i:Int)+1)
 simp only[b9,cJ (av:=Tm.av) cS hx (aR x),aQ,aR,aB,seval,TO]
 refine(hc x (c8 hx)).to ?_
 simp only[aB,seval]
 refine aW (fun h=>?_) (fun h=>?_)
 · simp only[aB,seval]
   exact⟨i,rfl,by rw[←hinv,h];simp⟩
 · rw[h,k7] at hinv
   simp only[aB,seval]
   exact⟨(),hinv,aL.mk (by simp only[hw,aB,seval])⟩
theorem WO(l:List Tm)(g:FuncId)(bX:List AV)(p:Tm→Bool)(st:aA)(hc:∀x∈l,aD prog g ([Tm.av x]++bX) st (fun r st'=>r=.bool (p x)∧st'=st)) :
 aD prog 143 [.slice (l.map Tm.av),.func g bX] st (fun r st'=>r=.bool (l.any p)∧st'=st):=by
 refine wF [] 2 func143 ntmps143 rfl rfl ?_
 intro _
 simp only[aB,seval]
 refine(WX l g bX p st hc).mono ?_
 rintro _ _ ⟨j,rfl,hj,rfl⟩
 simp only[hj,aB,seval]
theorem uB{α:Type}(p:α→Bool):∀l:List α,(!(l.any fun x=> !p x))=l.all p
 | []=>rfl
 | x::l=>by rw[List.any_cons,iX,←uB p l];cases p x<;>simp
abbrev aFV:=zi cB bH
theorem XB(t:Tm)(st:aA):aD prog 248 [t.av] st (fun r st'=>r=.bool (!t.goal)∧st'=st):=by
 refine wF [] 1 func248 ntmps248 rfl rfl ?_
 intro _
 simp only[bW,aQ,aR,aB,seval,aFV]
 refine(EX t st).to ?_
 simp only[aB,seval]
def qL(l:List Tm):Bool:=decide (l.length≤6)&&l.all Tm.goal
abbrev aFU:=zi aZ (zi cB cE)
theorem XA(l:List Tm)(st:aA):aD prog 156 [.slice (l.map Tm.av)] st (fun r st'=>r=.bool (qL l)∧st'=st):=by
 refine wF [] 1 func156 ntmps156 rfl rfl ?_
 simp only[dG,AV.fits,eJ,aG]
 intro _
 unfold qL
 simp only[aG,aB,seval,aFU]
 refine cU (fun h=>?_) (fun h=>?_)
 · simp only[bK] at h
   rw[show decide (l.length≤6)=true by simp;omega]
   simp only[h,aB,seval]
   refine(WO l _ [] (fun t=> !t.goal) st fun x _=>XB x st).to ?_
   simp only[uB,aB,seval]
 · simp only[fX,dF] at h
   rw[show decide (l.length≤6)=false by simp;omega]
   simp only[h,aB,seval]
   rfl
abbrev TQ:=zi aZ (zi tD tC)
theorem EU(l:List Bd)(g:FuncId)(bX:List AV)(p:Bd→Bool)(st:aA)(hc:∀x∈l,aD prog g ([c6 x]++bX) st (fun r st'=>r=.bool (p x)∧st'=st)) :
 aD prog 93 [.slice (l.map c6),.func g bX] st (fun r st'=>r=.int .i64 (iG p l 0)∧st'=st):=by
 refine wF [1000000] 2 func93 ntmps93 rfl rfl ?_
 simp only[dG,AV.fits,eJ,aG]
 intro ⟨hl,_⟩
 simp only[aG,aB,seval,TQ]
 refine fW (σ:=Unit) [1000000] [0,1,7] l (fun i _=>iG p (l.drop i) i=iG p l 0) (fun i _=>[(8,.int .i64 i)]) (fun _ _=>st) (by decide +kernel) ⟨(),rfl,aL.mk (by simp only[aB,↓bG,seval])⟩ (fun i x _ hx hlt b9 hdr hinv=>?_) (fun _ hge hinv=>?_)
 case refine_2=>
  simp only[hge,aB,seval]
  rw[←hinv,wE]
  try rfl
 rw[hdr,iG] at hinv
 have hw:=bO (n:=(i:Int)+1)
 simp only[b9,cJ (av:=c6) xN hx (uF x),WA,uF,aB,seval,TQ]
 refine(hc x (c8 hx)).to ?_
 simp only[aB,seval]
 refine aW (fun h=>?_) (fun h=>?_)
 · rw[aU h] at hinv
   simp only[hinv,aB,seval]
 · rw[aS (by simp [h])] at hinv
   simp only[aB,seval]
   exact⟨(),by rw[←hinv],aL.mk (by simp only[hw,aB,seval])⟩
theorem WM(l:List Bd)(g:FuncId)(bX:List AV)(p:Bd→Bool)(st:aA)(hc:∀x∈l,aD prog g ([c6 x]++bX) st (fun r st'=>r=.bool (p x)∧st'=st)) :
 aD prog 89 [.slice (l.map c6),.func g bX] st (fun r st'=>r=.bool (l.any p)∧st'=st):=by
 refine wF [1000000] 2 func89 ntmps89 rfl rfl ?_
 intro _
 simp only[aB,seval]
 refine(EU l g bX p st hc).to ?_
 simp only[aCV,aB,seval]
abbrev aFY:=zi aZ bH
theorem YW(n:Int)(st:aA):aD prog 95 [.int .i64 n] st (fun r st'=>r=(vr n).av∧st'=st):=by
 refine aD.done ?_
 refine wF [1000000] 1 func95 ntmps95 rfl rfl ?_
 intro _
 simp only[aB,seval,aFY]
 intro b hb
 simp only[aF,aB,seval]
 exact⟨by simp only[vr,a6,iJ,gR,iK,jJ,bT,bF,bF],(aH.refl _).aC hb⟩
abbrev aFX:=zi aZ (zi cB tC)
theorem WL(b:Bd)(n:Int)(st:aA):aD prog 94 [c6 b,.pptr (.int .i64 n)] st (fun r st'=>r=.bool (decide (b.1=n))∧st'=st):=by
 refine wF [1000000] 2 func94 ntmps94 rfl rfl ?_
 intro _
 unfold c6
 simp only[aB,seval,aFX]
abbrev y6:=zi aZ (zi bH (zi tD tC))
theorem WK(bs:List Bd)(n:Int)(st:aA):aD prog 92 [.int .i64 n,.pptr (.slice (bs.map c6))] st (fun r st'=>r=(mQ bs n).av∧st'=st):=by
 refine aD.done ?_
 refine wF [1000000] 2 func92 ntmps92 rfl rfl ?_
 intro _
 simp only[aB,seval,y6]
 intro b hb
 refine(EU bs _ _ (fun b=>decide (b.1=n)) _ fun x _=>WL x n _).to ?_
 rcases aBE bs n with ⟨h1,h2⟩ | ⟨j,x,h1,h2,h3⟩
 · rw[h1]
   simp only[aB,seval,y6]
   refine(YW n _).to ?_
   simp only[aB,seval,y6]
   exact⟨by rw[Tm.soft,mQ,h2];try rfl,(aH.refl _).aC hb⟩
 · rw[h1]
   have hbd:∀x:Bd,c6 x=.agg (.int .i64 x.1::x.2.av.cells):=fun _=>rfl
   simp only[show decide ((j:Int)<0)=false by simp,cJ (av:=c6) xN h2 (uF x),hbd,aB,seval,y6]
   exact⟨by rw[Tm.soft,mQ,h3];try rfl,(aH.refl _).aC hb⟩
abbrev aFW:=zi cB (zi bH tC)
theorem WJ(b:Bd)(st:aA):aD prog 90 [c6 b] st (fun r st'=>r=.bool (!b.2.valid)∧st'=st):=by
 refine wF [1000000] 1 func90 ntmps90 rfl rfl ?_
 intro _
 unfold c6
 simp only[aB,seval,aFW]
 refine(rT b.2 st).to ?_
 simp only[aB,seval]
abbrev mR:=zi aZ (zi cE bH)
theorem FF(f:Int→Tm)(g:FuncId)(bX:List AV)(sC:f9 bX=true):∀(t:Tm) (st:aA),t.small=true→(∀n∈t.vl,∀s,aD prog g (.int .i64 n::bX) s (fun r s'=>r=(f n).av∧s'=s)) →
 aD prog 63 [t.av,.func g bX] st (fun r st'=>r=(t.dA f).av∧st'=st)
 | .mk k n s ts,st,hsm,hg=>by
  obtain⟨hlen,p8⟩:=Tm.kT hsm
  have IH:=fun(x:Tm) (hx:x∈ts) st h=>FF f g bX sC x st (p8 x hx) h
  refine aD.oN (aD.fin ?_)
  simp only[a6]
  refine wF [1000000,2] 2 func63 ntmps63 rfl rfl ?_
  simp only[dG,AV.fits,eJ,aG]
  intro ⟨_,_,_,hl,_⟩
  simp only[aB,seval,mR]
  intro c hc b2 hb2
  have hne:b2≠c:=by rintro rfl;rw[aA.aP] at hb2;cases hb2
  have hn2:st b2=none:=by rw[aA.aV st _ hne] at hb2;exact hb2
  simp only[hne.symm,aB,seval]
  refine aW (fun h=>?_) (fun h=>?_)
  · simp only[bK] at h
    subst h
    simp only[hne.symm,aB,seval,mR]
    refine(hg n (by rw[Tm.zU rfl];simp) _).to ?_
    simp only[aB,seval,mR]
    refine⟨0,[],_,rfl,by simp,by simp,⟨4,by simp⟩,by rw[Tm.uN,Tm.CL f rfl],?_⟩
    exact((aH.refl _).aC hc).aC hn2
  simp only[dF] at h
  have hg':∀x∈ts,∀v∈x.vl,∀s,aD prog g (.int .i64 v::bX) s (fun r s'=>r=(f v).av∧s'=s):=fun x hx v hv=>hg v ((Tm.zT h).2 ⟨x,hx,hv⟩)
  simp only[hne.symm,aF,aG,aB,seval,mR]
  rw[aA.DS hne]
  refine fW (σ:=Nat) [1000000] [1,2,4,18,19] ts (fun i b=>(((ts.take i).map (Tm.dA f)).map Tm.av≠[]→(aA.aC (st.aC b2 (.cells [AV.int .i64 0,AV.int .i64 0,AV.str ⟨#[]⟩,AV.fslice []])) c (.cells ([AV.int .i64 k,AV.int .i64 n,AV.str s]++ [aT 4 b (((ts.take i).map (Tm.dA f)).map Tm.av)]))) b=none)) (fun i b=>[(20,.int .i64 i)]) (fun i b=>cY (st.aC b2 (.cells [AV.int .i64 0,AV.int .i64 0,AV.str ⟨#[]⟩,AV.fslice []])) c b [AV.int .i64 k,AV.int .i64 n,AV.str s] (((ts.take i).map (Tm.dA f)).map Tm.av)) (by decide +kernel)
   ⟨0,fun h=>absurd rfl h,aL.mk (by simp only[aB,↓bG,seval])⟩ (fun i x b hx hlt b9 hdr hinv=>?_) (fun b hge hinv=>?_)
  case refine_1=>
   have hw:=bO (n:=(i:Int)+1)
   have cO:(((ts.take i).map (Tm.dA f)).map Tm.av).length=i:=by simp only[aG,dZ];omega
   have htk:(ts.take (i+1)).map (Tm.dA f)=(ts.take i).map (Tm.dA f)++ [(Tm.dA f) x]:=by rw[gW,hx];simp
   have hbo:=cH hinv
   simp only[b9,cJ (av:=Tm.av) cS hx (aR x),aB,↓bG,seval,mR]
   refine wP [(0,1),(3,1),(1,2),(2,2),(4,2),(5,1),(6,0),(7,1),(8,0)] [0,3,1,2,4,5,7] mixed ?_
   simp only[aQ,aR,hbo,iM,aB,seval,mR]
   refine eV (IH x (c8 hx) _ (hg' x (c8 hx))) ?_
   simp only[aQ,aR,bW,aB,seval,mR]
   refine eH cS gG gH rfl rfl (eR (aR _) (bA _)) (cT _) hinv (by simp only[cO,bD,bN];omega) (by simp only[cO,bD,bN];omega) (fun b' hb'=>?_)
   rw[show(((ts.take i).map (Tm.dA f)).map Tm.av)++ [((Tm.dA f) x).av]=((ts.take (i+1)).map (Tm.dA f)).map Tm.av by rw[htk];simp] at hb' ⊢
   obtain⟨g1,g2,g3⟩:=kB hb'
   simp only[dM,dB] at g1 g3
   simp only[g3,jN,c5,aF,g1,hw,aB,seval,mR]
   exact⟨b',g2,aL.mk (by simp only[aB,seval])⟩
  have hbo:=cH hinv
  rw[fZ] at hinv hbo ⊢
  simp only[hge,aB,seval,mR]
  simp only[hbo,aB,seval,mR]
  have hS:(st.aC b2 (.cells [AV.int .i64 0,AV.int .i64 0,AV.str ⟨#[]⟩,AV.fslice []])) b2≠none:=by rw[aA.aP];simp
  have h1:=dW hinv hS hne
  rw[aA.aP] at h1
  simp only[h1,c5,aF,aB,seval]
  obtain⟨h2,h3⟩:=fF (o:=.cells [AV.int .i64 k,AV.int .i64 n,AV.str s,aT 4 b ((ts.map (Tm.dA f)).map Tm.av)]) hinv hS hne
  refine⟨b,_,_,h2,h3,d8 _,⟨4,cT _⟩,?_,?_⟩
  · rw[Tm.u7 f h]
    simp only[eC,bT,bF,dQ,d7,eG,a6]
  · exact(((aH.refl _).aC hn2).aC hc).aC hn2
termination_by t=>SizeOf.sizeOf t
decreasing_by have:=List.sizeOf_lt_of_mem hx;simp only[Tm.mk.sizeOf_spec];omega
def oX:Option Tm→AV
 | some t=>.tup [t.av,.bool true]
 | none=>.tup [Tm.zero.av,.bool false]
def nG(t:Tm)(bs:List Bd):Option Tm:=
 if t.valid=true∧(bs.all fun b=>b.2.valid)=true∧(t.dA (mQ bs)).valid=true then some (t.dA (mQ bs)) else none
theorem aE9{bs:List Bd}(h:∀b∈bs,b.2.small=true)(n:Int):(mQ bs n).small=true:=by
 unfold mQ
 have:∀l:List Bd,(∀b∈l,b.2.small=true)→∀x,lI l n=some x→x.small=true:=by
  intro l
  induction l with
  | nil=>intro _ x h;cases h
  | cons y l ih=>
   obtain⟨m,t⟩:=y
   intro hl x h
   simp only[lI] at h
   split at h
   · cases h;exact hl (m,_) (by simp)
   · exact ih (fun b hb=>hl b (by simp [hb])) x h
 cases hf:lI bs n with
 | none=>rfl
 | some x=>exact this bs h x hf
theorem VP{bs:List Bd}(h:(bs.all fun b=>b.2.valid)=true):∀b∈bs,b.2.small=true:=fun b hb=>Tm.zS (dY.1 h b hb)
theorem aD7(x:Option Tm):(oX x).soft=oX x:=by cases x<;>simp only[oX,kU,bT,bF,Tm.soft,yS]
abbrev aID:=zi aZ (zi cB (zi bH (zi tD tC)))
abbrev pA:=zi cB (zi bH tD)
theorem XD(t:Tm)(bs:List Bd)(st:aA):aD prog 28 [t.av,.slice (bs.map c6)] st (fun r st'=>r=oX (nG t bs)∧st'=st):=by
 refine aD.done ?_
 refine wF [1000000] 2 func28 ntmps28 rfl rfl ?_
 intro _
 simp only[aB,seval,pA]
 intro b hb
 have eS:∀o,((AV.tup [.agg [.int .i64 0,.int .i64 0,.str ⟨#[]⟩,.fslice []],.bool false]).soft=oX none)∧aH (st.aC b o) st:=fun o=>⟨by simp only[oX,Tm.zero,a6,iJ,kU,gR,yS,iK,jJ,bT,bF],(aH.refl _).aC hb⟩
 refine(rT t _).to ?_
 simp only[aB,seval]
 refine cU (fun h=>?_) (fun h=>?_)
 case refine_2=>
  simp only[fM,k8] at h
  simp only[h,aF,aB,seval,pA]
  rw[nG,aS (by simp [h])]
  exact eS _
 simp only[q0] at h
 simp only[h,aB,seval,pA]
 refine(WM bs _ [] (fun b=> !b.2.valid) _ fun x _=>WJ x _).to ?_
 simp only[aB,seval]
 refine aW (fun h2=>?_) (fun h2=>?_)
 · simp only[aF,aB,seval,pA]
   rw[nG,aS (by rw[←uB,h2];simp)]
   exact eS _
 have cX:(bs.all fun b=>b.2.valid)=true:=by rw[←uB,h2];try rfl
 have hsm:=VP cX
 simp only[aB,seval,pA]
 refine(FF (mQ bs) _ [.pptr (.slice (bs.map c6))] rfl t _ (Tm.zS h) (fun n _ s=>WK bs n s)).to ?_
 simp only[aB,seval]
 refine(RU (t.dA (mQ bs)) _ (Tm.aDO (aE9 hsm) t (Tm.zS h))).made.to ?_
 simp only[aB,↓bG,seval,pA]
 refine(rT _ _).to ?_
 simp only[aB,seval]
 refine aW (fun h3=>?_) (fun h3=>?_)
 · simp only[aF,aB,seval,pA]
   simp only[k8] at h3
   rw[nG,aS (by simp [h3])]
   exact eS _
 · simp only[aF,aB,seval,pA]
   simp only[q0] at h3
   rw[nG,aU ⟨h,cX,h3⟩]
   exact⟨aD7 (some _),(aH.refl _).aC hb⟩
abbrev Bt:=Fin 256
def dV(b:Bt):AV:=.int .u8 (b.val:Int)
theorem xA(b:Bt):(dV b).width=1:=rfl
def bE(st:aA)(c:Nat)(bs:List Bt)(p:Nat):Prop:=st c=some (.cells [.slice (bs.map dV),.int .i64 (p:Int)])
def aK(bs:List Bt)(p:Nat):AO:=.cells [.slice (bs.map dV),.int .i64 (p:Int)]
theorem DO(a b:Nat):(a:Int).tmod (b:Int)=((a % b:Nat):Int):=(Int.ofNat_tmod a b).symm
theorem S3(a b:Nat):(a:Int).tdiv (b:Int)=((a / b:Nat):Int):=(Int.ofNat_tdiv a b).symm
theorem VK(a b:Nat)(ha:a<2 ^ 62)(hb:b<2 ^ 62):∃m:Nat,t6 .i64 (a:Int) (b:Int)=(m:Int):=by
 have hx:=Nat.xor_lt_two_pow ha hb
 refine⟨a ^^^ b,?_⟩
 unfold t6
 show IntKind.i64.wrap (((BitVec.ofInt 64 (a:Int) ^^^ BitVec.ofInt 64 (b:Int)).toNat:Nat):Int)=_
 rw[BitVec.ofInt_natCast,BitVec.ofInt_natCast,BitVec.toNat_xor,BitVec.toNat_ofNat,BitVec.toNat_ofNat,Nat.mod_eq_of_lt (by omega),Nat.mod_eq_of_lt (by omega)]
 rw[wrap64 (by omega) (by omega)]
abbrev vM:=zi aZ (zi hY (zi pE (zi iV TW)))
theorem fQ(bs:List Bt)(c p:Nat)(hp:p≤1099511627776)(n:Nat)(hn:1≤n)(hn2:n≤1048576)(st:aA)(h:bE st c bs p) :
 aD prog 45 [.ptr c 0,.int .i64 (n:Int)] st (fun r st'=>∃k:Nat,k<n∧r=.int .i64 (k:Int)∧st'=st.aC c (aK bs (p+1))):=by
 unfold bE at h
 refine wF [1000000] 2 func45 ntmps45 rfl rfl ?_
 intro _
 have hw1:IntKind.i64.wrap ((p:Int)+1)=(p:Int)+1:=wrap64 (by omega) (by omega)
 simp only[aF,h,hw1,aB,seval,vM]
 have hn1:¬(n:Int)<1:=by omega
 have hw2:IntKind.i64.wrap ((p:Int)+1 - 1)=(p:Int):=by rw[wrap64 (by omega) (by omega)];omega
 have hst:∀(q:aA),q c=some (.cells [.slice (bs.map dV),.int .i64 ((p:Int)+1)])→True:=fun _ _=>trivial
 have hrd:aK bs (p+1)=.cells [.slice (bs.map dV),.int .i64 ((p:Int)+1)]:=by simp [aK]
 rw[hrd]
 refine cU (fun h1=>?_) (fun h1=>?_)
 case refine_2=>simp [hn1] at h1
 simp only[bB,fB,hn1,aG,aB,seval,vM]
 refine aW (fun h2=>?_) (fun h2=>?_)
 · simp only[aB,seval]
   exact⟨0,by omega,rfl⟩
 simp only[hw2,aG,aB,seval,vM]
 have hbl:bs.length≠0:=by simpa using h2
 refine aW (fun h3=>?_) (fun h3=>?_)
 · simp only[bK] at h3
   obtain⟨x,hx⟩:∃x,bs[p]?=some x:=⟨_,eA (by omega)⟩
   have hx2:=x.isLt
   have hb1:IntKind.i64.wrap (x.val:Int)=(x.val:Int):=wrap64 (by omega) (by omega)
   have hn0:¬(n:Int)=0:=by omega
   have B0:gZ prog 22 (.slice (bs.map dV)) (.int .i64 (p:Int))=some (.pptr (.int .u8 x.val)):=cJ (av:=dV) uL hx (xA x)
   simp only[B0,l8,hb1,hn0,aB,seval,vM]
   exact⟨x.val % n,Nat.mod_lt _ (by omega),by rw[DO]⟩
 · simp only[dF] at h3
   obtain⟨x,hx⟩:∃x,bs[p % bs.length]?=some x:=⟨_,eA (Nat.mod_lt _ (by omega))⟩
   obtain⟨y,hy⟩:∃y,bs[(p*7+3) % bs.length]?=some y:=⟨_,eA (Nat.mod_lt _ (by omega))⟩
   have hx2:=x.isLt
   have hy2:=y.isLt
   have hl0:¬(bs.length:Int)=0:=by omega
   simp only[aB,seval]
   refine k0 [(0,1),(1,1),(2,1),(3,1),(4,1),(5,1),(6,1),(7,1),(8,1),(9,1),(10,1),(11,1),(12,1),(13,1),(14,1),(15,1),(16,1),(17,1),(18,1),(19,1),(20,1),(21,1),(22,1),(23,1),(24,1),(25,1),(26,1),(27,1),(28,1),(29,1),(30,1),(31,1),(32,1),(33,1),(34,1),(35,1),(36,1),(37,1),(38,1),(39,1),(40,1),(41,1),(42,1),(43,1),(44,1),(45,1)] [0,1,2,3,4,5,6,7,8,9,10,11,12,13,14,15,16,17,18,19,20,21,22,23,24,25,26,27,28,29,30,31,32,33,34,35,36,37,38,39,40,41,42,43,44,45] (g7.aC c (.cells [.slice (bs.map dV),.int .i64 ((p:Int)+1)])) mixed (by decide +kernel) (by decide +kernel) (by decide +kernel) rfl (eQ (aA.aP _ _ _)) ?_
   have e7:IntKind.i64.wrap ((p:Int)*7)=(p:Int)*7:=wrap64 (by omega) (by omega)
   have e8:IntKind.i64.wrap ((p:Int)*7+3)=(p:Int)*7+3:=wrap64 (by omega) (by omega)
   have e9:((p:Int)*7+3).tmod (bs.length:Int)=(((p*7+3) % bs.length:Nat):Int):=by rw[←DO];congr 1
   have f1:IntKind.i64.wrap ((x.val:Int)*131)=(x.val:Int)*131:=wrap64 (by omega) (by omega)
   have f2:IntKind.i64.wrap ((y.val:Int)*1117)=(y.val:Int)*1117:=wrap64 (by omega) (by omega)
   have f3:IntKind.i64.wrap ((x.val:Int)*131+(y.val:Int)*1117)=(x.val:Int)*131+(y.val:Int)*1117:=wrap64 (by omega) (by omega)
   have f4:IntKind.i64.wrap ((p:Int)*29)=(p:Int)*29:=wrap64 (by omega) (by omega)
   have f5:IntKind.i64.wrap ((x.val:Int)*131+(y.val:Int)*1117+(p:Int)*29)=(x.val:Int)*131+(y.val:Int)*1117+(p:Int)*29:=wrap64 (by omega) (by omega)
   have hb1:IntKind.i64.wrap (x.val:Int)=(x.val:Int):=wrap64 (by omega) (by omega)
   have hb2:IntKind.i64.wrap (y.val:Int)=(y.val:Int):=wrap64 (by omega) (by omega)
   generalize hjx:p % bs.length=jx at *
   generalize hjy:(p*7+3) % bs.length=jy at *
   have e10:(p:Int).tmod (bs.length:Int)=(jx:Int):=by rw[DO,hjx]
   have B0:gZ prog 22 (.slice (bs.map dV)) (.int .i64 (jx:Int))=some (.pptr (.int .u8 x.val)):=cJ (av:=dV) uL hx (xA x)
   have aBO:gZ prog 22 (.slice (bs.map dV)) (.int .i64 (jy:Int))=some (.pptr (.int .u8 y.val)):=cJ (av:=dV) uL hy (xA y)
   have hdv:p / bs.length≤p:=Nat.div_le_self _ _
   generalize hq:p / bs.length=q at *
   have hqq:IntKind.i64.wrap ((p:Int).tdiv (bs.length:Int))=(q:Int):=by rw[S3,hq,wrap64 (by omega) (by omega)]
   have f6:IntKind.i64.wrap ((q:Int)*53)=(q:Int)*53:=wrap64 (by omega) (by omega)
   obtain⟨z,hz,hz2⟩:∃z:Nat,(x.val:Int)*131+(y.val:Int)*1117+(p:Int)*29+(q:Int)*53=(z:Int)∧z<2 ^ 61:=⟨x.val*131+y.val*1117+p*29+q*53,by omega,by omega⟩
   have f7:IntKind.i64.wrap ((x.val:Int)*131+(y.val:Int)*1117+(p:Int)*29+(q:Int)*53)=(z:Int):=by rw[hz];exact wrap64 (by omega) (by omega)
   have aH7:z / 64≤z:=Nat.div_le_self _ _
   obtain⟨m,hm⟩:=VK z (z / 64) (by omega) (by omega)
   have f8:IntKind.i64.wrap ((z:Int).tdiv 64)=((z / 64:Nat):Int):=by rw[show(64:Int)=((64:Nat):Int) from rfl,S3,wrap64 (by omega) (by omega)]
   generalize z / 64=z2 at *
   have hn0:¬(n:Int)=0:=by omega
   simp only[aG,hl0,e7,e8,e9,e10,f1,f2,f3,f4,f5,f6,f7,f8,hm,hn0,B0,aBO,hb1,hb2,hqq,l8,aB,seval,vM]
   exact⟨m % n,Nat.mod_lt _ (by omega),rfl⟩
abbrev S6:=zi aZ (zi fV iV)
theorem YM(l:List Int)(h1:1≤l.length)(h2:l.length≤1048576)(bs:List Bt)(c p:Nat)(hp:p≤1099511627776)(st:aA)(h:bE st c bs p) :
 aD prog 43 [.ptr c 0,.slice (l.map iv)] st (fun r st'=>∃x∈l,r=.int .i64 x∧st'=st.aC c (aK bs (p+1))):=by
 refine wF [1000000] 2 func43 ntmps43 rfl rfl ?_
 intro _
 simp only[aG,aB,seval,S6]
 refine(fQ bs c p hp l.length h1 h2 st h).mono ?_
 rintro _ _ ⟨k,hk,rfl,rfl⟩
 obtain⟨x,hx⟩:∃x,l[k]?=some x:=⟨_,eA hk⟩
 have hat:=cJ (av:=iv) jD hx rfl
 simp only[hat,aB,seval,S6]
 exact⟨x,c8 hx,rfl⟩
theorem jB(l:List Int)(h1:1≤l.length)(h2:l.length≤1048576)(bs:List Bt)(c p:Nat)(hp:p≤1099511627776)(st:aA)(h:bE st c bs p) :
 aD prog 43 [.ptr c 0,.fslice (l.map iv)] st (fun r st'=>∃x∈l,r=.int .i64 x∧st'=st.aC c (aK bs (p+1))):=
 aD.lT (by simp only[dX,AV.soft];exact YM l h1 h2 bs c p hp st h)
abbrev S5:=zi aZ (zi b7 (zi iV jK))
theorem YN(l:List ByteArray)(h1:1≤l.length)(h2:l.length≤1048576)(bs:List Bt)(c p:Nat)(hp:p≤1099511627776)(st:aA)(h:bE st c bs p) :
 aD prog 141 [.ptr c 0,.slice (l.map AV.str)] st (fun r st'=>∃x∈l,r=.str x∧st'=st.aC c (aK bs (p+1))):=by
 refine wF [1000000] 2 func141 ntmps141 rfl rfl ?_
 intro _
 simp only[aG,aB,seval,S5]
 refine(fQ bs c p hp l.length h1 h2 st h).mono ?_
 rintro _ _ ⟨k,hk,rfl,rfl⟩
 obtain⟨x,hx⟩:∃x,l[k]?=some x:=⟨_,eA hk⟩
 have hat:=cJ (av:=AV.str) nN hx rfl
 simp only[hat,aB,seval,S5]
 exact⟨x,c8 hx,rfl⟩
theorem nJ(l:List ByteArray)(h1:1≤l.length)(h2:l.length≤1048576)(bs:List Bt)(c p:Nat)(hp:p≤1099511627776)(st:aA)(h:bE st c bs p) :
 aD prog 141 [.ptr c 0,.fslice (l.map AV.str)] st (fun r st'=>∃x∈l,r=.str x∧st'=st.aC c (aK bs (p+1))):=
 aD.lT (by simp only[dX,AV.soft];exact YN l h1 h2 bs c p hp st h)
abbrev DA:=zi aZ (zi pE (zi iV TW))
theorem A7(bs:List Bt)(st:aA):aD prog 42 [.slice (bs.map dV)] st (fun r st'=>∃c bs',r=.ptr c 0∧st c=none∧st'=st.aC c (aK bs' 0)):=by
 refine wF [1000000,10] 1 func42 ntmps42 rfl rfl ?_
 simp only[dG,AV.fits,eJ,aG]
 intro ⟨hl,_⟩
 have hs:bs.length>2000→∀φ,i8 prog φ 22 (.slice (bs.map dV)) none (some (.const (.int .i64 2000))) none=some (.slice ((bs.take 2000).map dV)):=fun h φ=>by
  have h2:((0:Int)≤2000∧(2000:Int)≤(bs.map dV).length):=⟨by omega,by rw[aG];omega⟩
  have h3:dN φ (some (.const (.int .i64 2000))) (bs.map dV).length (bs.map dV).length=some 2000:=by
   show(if((0:Int)≤2000∧(2000:Int)≤(bs.map dV).length) then some (Int.toNat 2000) else none)=some 2000
   exact aU h2
  unfold i8 nE
  rw[aS (by simp [qB])]
  simp only[uL]
  have h4:dN φ none (bs.map dV).length (bs.map dV).length=some (bs.map dV).length:=rfl
  rw[h4]
  simp only[h3]
  have h5:dN φ none 0 2000=some 0:=rfl
  rw[h5]
  simp
 simp only[aG,aB,seval,DA]
 refine aW (fun h=>?_) (fun h=>?_)
 · simp only[bK] at h
   have hs':=hs (by omega)
   simp only[hs',aB,seval,DA]
   intro b hb
   exact⟨b,bs.take 2000,rfl,hb,by simp [aK]⟩
 · simp only[aB,seval,DA]
   intro b hb
   exact⟨b,bs,rfl,hb,by simp [aK]⟩
abbrev aFG:=zi aZ bH
theorem uH(n:Int)(st:aA):aD prog 138 [.int .i64 n] st (fun r st'=>r=(vr n).av∧st'=st):=by
 refine aD.done ?_
 refine wF [1000000] 1 func138 ntmps138 rfl rfl ?_
 intro _
 simp only[aF,aB,seval,aFG]
 intro b hb
 exact⟨by simp only[vr,a6,iJ,gR,iK,jJ,bT,bF],(aH.refl _).aC hb⟩
abbrev aFH:=zi TX (zi aZ bH)
theorem oI(n:Int)(st:aA):aD prog 139 [.int .i64 n] st (fun r st'=>r=(Tm.mk 2 n ⟨#[]⟩ []).av∧st'=st):=by
 refine aD.done ?_
 refine wF [1000000] 1 func139 ntmps139 rfl rfl ?_
 intro _
 simp only[aF,aB,seval,aFH]
 intro b hb
 exact⟨by simp only[a6,iJ,gR,iK,jJ,bT,bF],(aH.refl _).aC hb⟩
abbrev yU:=zi aZ (zi b7 (zi cE bH))
theorem XY(s:ByteArray)(l:List Tm)(hl:l.length≤1048576)(st:aA):aD prog 140 [.str s,.slice (l.map Tm.av)] st (fun r st'=>r=(Tm.mk 3 0 s l).av∧st'=st):=by
 refine aD.oN (aD.fin ?_)
 refine wF [1000000] 2 func140 ntmps140 rfl rfl ?_
 intro _
 simp only[aB,seval,yU]
 intro b hb
 change iL prog 34 (aY (st.aC b (.cells [.int .i64 0,.int .i64 0,.str ⟨#[]⟩,.fslice []])) 0 []) (aT 4 0 []) (.slice (l.map Tm.av)) _
 refine eH cS gG gH rfl rfl (by intro e he;simp only[fN] at he;obtain⟨t,_,rfl⟩:=he;exact⟨aR _,bA _⟩) (by simp) (fun h=>absurd rfl h) (by simp only[bN,aG];omega) (by simp only[bN,aG];omega) (fun b' hb'=>?_)
 rw[dB] at hb' ⊢
 have hne:l.map Tm.av≠[]→b≠b':=fun h e=>by have:=hb' h;rw[←e,aA.aP] at this;cases this
 have h1:aY (st.aC b (.cells [.int .i64 0,.int .i64 0,.str ⟨#[]⟩,.fslice []])) b' (l.map Tm.av) b=some (.cells [.int .i64 0,.int .i64 0,.str ⟨#[]⟩,.fslice []]):=by
  by_cases h:l.map Tm.av= []
  · rw[h,pQ,aA.aP]
  · rw[pP (hne h),aA.aP]
 simp only[aF,h1,jN,c5,rP,aB,seval,yU]
 rw[jA hne,bM]
 exact⟨b',l.map Tm.av,st.aC b _,rfl,fun h=>by rw[aA.aV _ _ (cV (hne h))];have:=hb' h;rwa [aA.aV _ _ (cV (hne h))] at this,d8 _,⟨4,cT _⟩,by simp only[a6,eC,dQ,d7,nO,bT,bF],(aH.refl _).aC hb⟩
theorem jP(s:ByteArray)(l:List Tm)(hl:l.length≤1048576)(st:aA):aD prog 140 [.str s,.fslice (l.map Tm.av)] st (fun r st'=>r=(Tm.mk 3 0 s l).av∧st'=st):=
 aD.lT (by simp only[dX,AV.soft];exact XY s l hl st)
theorem E7(s:ByteArray)(st:aA):aD prog 140 [.str s,.fslice []] st (fun r st'=>r=.agg [.int .i64 3,.int .i64 0,.str s,.fslice []]∧st'=st):=by
 refine aD.drop ?_
 refine wF [1000000] 2 func140 ntmps140 rfl rfl ?_
 intro _
 simp only[aB,seval,yU]
 intro b hb
 change iL prog 34 (aY (st.aC b (.cells [.int .i64 0,.int .i64 0,.str ⟨#[]⟩,.fslice []])) 0 []) (aT 4 0 []) (.fslice ([]:List AV)) _
 refine eH cS gG gH rfl rfl (by simp [uC]) (by simp) (fun h=>absurd rfl h) (by simp) (by simp) (fun b' hb'=>?_)
 simp only[kF,kJ,pQ]
 simp only[aF,aB,seval,yU]
 exact(aH.refl _).aC hb
abbrev Dn (t:Tm):Prop:=t.cv=true∧t.small=true
theorem xK(n:Int):Dn (vr n):=by
 refine⟨Tm.uK.2 ⟨fun _=>⟨rfl,rfl⟩,fun x hx=>by cases hx⟩,?_⟩
 simp [vr,Tm.small,vU]
theorem nM{k n:Int}{s:ByteArray}{ts:List Tm}(hk:k≠1)(hl:ts.length≤1048576)(h:∀x∈ts,Dn x):Dn (.mk k n s ts):=by
 refine⟨Tm.uK.2 ⟨fun h=>absurd h hk,fun x hx=>(h x hx).1⟩,?_⟩
 simp only[Tm.small,tE,bV,bK,dY]
 exact⟨hl,fun x hx=>(h x hx).2⟩
def Dr(bs:List Bt)(c p m:Nat)(st:aA)(Q:AV→Prop)(r:AV)(st':aA):Prop:=∃p',p≤p'∧p'≤p+m∧st'=st.aC c (aK bs p')∧Q r
def z8(r:AV):Prop:=∃t:Tm,Dn t∧r=t.av
theorem bE.aC{st:aA}{c p:Nat}{bs:List Bt}{b:Nat}{o:AO}(h:bE st c bs p)(hb:b≠c):bE (st.aC b o) c bs p:=by unfold bE;rw[aA.aV _ _ (cV hb)];exact h
theorem bE.new{st:aA}{c p:Nat}{bs:List Bt}:bE (st.aC c (aK bs p)) c bs p:=aA.aP _ _ _
theorem bE.ne{st:aA}{c p:Nat}{bs:List Bt}{b:Nat}(h:bE st c bs p)(hb:st b=none):b≠c:=by rintro rfl;rw[bE,hb] at h;cases h
abbrev gS:=zi aZ (zi cB (zi b7 (zi fV (zi cE (zi zA (zi bH (zi iV jK)))))))
theorem A9(bs:List Bt)(c:Nat):∀(d p:Nat) (st:aA),d≤10→p+4 ^ (d+2)≤1099511627776→bE st c bs p→aD prog 60 [.ptr c 0,.int .i64 (d:Int)] st (Dr bs c p (4 ^ (d+2)) st z8)
 | d,p,st,hd,hp,hR=>by
  have IH:=fun(d':Nat) (hlt:d'<d) p st=>A9 bs c d' p st
  refine aD.mH (aD.fin ?_)
  refine wF [1000000,5] 2 func60 ntmps60 rfl rfl ?_
  intro _
  simp only[aB,seval,gS]
  intro b4 h4
  have h4c:=hR.ne h4
  have hR':=fun o=>hR.aC (o:=o) h4c
  have CC:64≤4 ^ (d+2)∨d=0:=by
   cases d with
   | zero=>exact .inr rfl
   | succ d=>
    left
    have:4 ^ (d+1+2)=64*4 ^ d:=by rw[show d+1+2=d+3 by omega,Nat.pow_add];omega
    have:=Nat.one_le_two_pow (n:=d);have:1≤4 ^ d:=Nat.one_le_pow _ _ (by omega);omega
  have CD:16≤4 ^ (d+2):=by rcases CC with h | rfl<;>omega
  have eS:∀(o o':AO) (q:Nat) (t:Tm),p≤q→q≤p+4 ^ (d+2)→Dn t→∃b l s0,((st.aC b4 o).aC c (aK bs q)).aC b4 o'=aY s0 b l∧(l≠[]→s0 b=none)∧(∀e∈l,e.bP=false)∧eW l∧∃s2,aH s0 s2∧Dr bs c p (4 ^ (d+2)) st z8 (AV.fin b l t.av) s2:=fun o o' q t h1 h2 h3=>by
   refine⟨0,[],_,rfl,by simp,by simp,⟨4,by simp⟩,st.aC c (aK bs q),?_,q,h1,h2,rfl,t,h3,Tm.uN t 0⟩
   intro x
   by_cases e4:x=b4<;>by_cases ec:x=c<;>simp_all [aA.aC]
  refine cU (fun h=>?_) (fun h=>?_)
  case refine_2=>
   simp only[h,aB,seval]
   have hRq:=hR' (.cells [.int .i64 0,.int .i64 0,.str ⟨#[]⟩,.fslice []])
   have hq:p+1≤1099511627776:=by omega
   have:=h4c.symm
   refine(fQ bs c (p) (by omega) 4 (by omega) (by omega) _ hRq).mono ?_
   rintro _ _ ⟨k,hk,rfl,rfl⟩
   try rw[bM]
   simp only[aB,seval]
   refine aW (fun h1=>?_) (fun h1=>?_)
   · simp only[aB,seval]
     refine(fQ bs c (p+1) (by omega) 4 (by omega) (by omega) _ bE.new).mono ?_
     rintro _ _ ⟨k2,hk2,rfl,rfl⟩
     rw[bM]
     simp only[aB,seval]
     refine(uH (k2:Int) _).to ?_
     simp only[aO,bA,cD (aO _),cC (aQ _),aF,h4c,aB,seval,gS]
     exact eS _ _ _ (vr k2) (by omega) (by omega) (xK _)
   simp only[aB,seval]
   refine aW (fun h2=>?_) (fun h2=>?_)
   · simp only[aB,seval,gS]
     refine(jB [0,1,7,-3,999,-999] (by simp) (by simp) bs c (p+1) (by omega) _ bE.new).mono ?_
     rintro _ _ ⟨x,hx,rfl,rfl⟩
     rw[bM]
     simp only[aB,seval]
     refine(oI x _).to ?_
     simp only[aO,bA,cD (aO _),cC (aQ _),aF,h4c,aB,seval,gS]
     exact eS _ _ _ (.mk 2 x ⟨#[]⟩ []) (by omega) (by omega) (nM (by omega) (by simp) (by simp))
   · simp only[aB,seval,gS]
     refine(nJ [⟨#[97]⟩,⟨#[98]⟩,⟨#[110,105,108]⟩,⟨#[91,93]⟩,⟨#[102,111,111]⟩,⟨#[43]⟩] (by simp) (by simp) bs c (p+1) (by omega) _ bE.new).mono ?_
     rintro _ _ ⟨x,hx,rfl,rfl⟩
     rw[bM]
     simp only[aB,seval]
     refine(jP x [] (by simp) _).to ?_
     simp only[aO,bA,cD (aO _),cC (aQ _),aF,h4c,aB,seval,gS]
     exact eS _ _ _ (.mk 3 0 x []) (by omega) (by omega) (nM (by omega) (by simp) (by simp))
  simp only[h,aB,seval]
  have hd2:2≤d:=by simp at h;omega
  have hwx:∀z:Int,z=(d:Int)→IntKind.i64.wrap (z - 1)=z - 1:=fun z hz=>wrap64 (by omega) (by omega)
  obtain⟨d',rfl⟩:∃d',d=d'+1:=⟨d - 1,by omega⟩
  have hpd:4 ^ (d'+1+2)=4*4 ^ (d'+2):=by rw[show d'+1+2=d'+2+1 by omega,Nat.pow_succ];omega
  have hp4:4≤4 ^ (d'+2):=by have:1≤4 ^ d':=Nat.one_le_pow _ _ (by omega);rw[Nat.pow_add];omega
  have hwd:IntKind.i64.wrap (((d'+1:Nat):Int) - 1)=(d':Int):=by rw[wrap64 (by omega) (by omega)];omega
  have p9:IntKind.i64.wrap ((d':Int)+1 - 1)=(d':Int):=by rw[wrap64 (by omega) (by omega)];omega
  have IHd:=fun p st=>IH d' (Nat.lt_succ_self _) p st
  generalize hM:4 ^ (d'+2)=M at *
  rw[hpd] at hp CD
  refine(fQ bs c p (by omega) 4 (by omega) (by omega) _ (hR' _)).mono ?_
  rintro _ _ ⟨k,hk,rfl,rfl⟩
  simp only[aB,seval]
  refine aW (fun h1=>?_) (fun h1=>?_)
  · have hRq:bE ((st.aC b4 (.cells [.int .i64 0,.int .i64 0,.str ⟨#[]⟩,.fslice []])).aC c (aK bs (p+1))) c bs (p+1):=bE.new
    simp only[aB,seval]
    refine(fQ bs c (p+1) (by omega) 4 (by omega) (by omega) _ hRq).mono ?_
    rintro _ _ ⟨k,hk,rfl,rfl⟩
    try rw[bM]
    simp only[aB,seval]
    refine aW (fun h1=>?_) (fun h1=>?_)
    · simp only[aB,seval]
      refine(fQ bs c (p+1+1) (by omega) 4 (by omega) (by omega) _ bE.new).mono ?_
      rintro _ _ ⟨k2,hk2,rfl,rfl⟩
      rw[bM]
      simp only[aB,seval]
      refine(uH (k2:Int) _).to ?_
      simp only[aO,bA,cD (aO _),cC (aQ _),aF,h4c,aB,seval,gS]
      exact eS _ _ _ (vr k2) (by omega) (by omega) (xK _)
    simp only[aB,seval]
    refine aW (fun h2=>?_) (fun h2=>?_)
    · simp only[aB,seval,gS]
      refine(jB [0,1,7,-3,999,-999] (by simp) (by simp) bs c (p+1+1) (by omega) _ bE.new).mono ?_
      rintro _ _ ⟨x,hx,rfl,rfl⟩
      rw[bM]
      simp only[aB,seval]
      refine(oI x _).to ?_
      simp only[aO,bA,cD (aO _),cC (aQ _),aF,h4c,aB,seval,gS]
      exact eS _ _ _ (.mk 2 x ⟨#[]⟩ []) (by omega) (by omega) (nM (by omega) (by simp) (by simp))
    · simp only[aB,seval,gS]
      refine(nJ [⟨#[97]⟩,⟨#[98]⟩,⟨#[110,105,108]⟩,⟨#[91,93]⟩,⟨#[102,111,111]⟩,⟨#[43]⟩] (by simp) (by simp) bs c (p+1+1) (by omega) _ bE.new).mono ?_
      rintro _ _ ⟨x,hx,rfl,rfl⟩
      rw[bM]
      simp only[aB,seval]
      refine(jP x [] (by simp) _).to ?_
      simp only[aO,bA,cD (aO _),cC (aQ _),aF,h4c,aB,seval,gS]
      exact eS _ _ _ (.mk 3 0 x []) (by omega) (by omega) (nM (by omega) (by simp) (by simp))
  · simp only[aB,seval]
    refine(fQ bs c (p+1) (by omega) 3 (by omega) (by omega) _ bE.new).mono ?_
    rintro _ _ ⟨k2,hk2,rfl,rfl⟩
    rw[bM]
    simp only[aB,seval]
    refine aW (fun h2=>?_) (fun h2=>?_)
    · simp only[p9,aB,seval]
      refine(IHd (p+1+1) _ (by omega) (by omega) bE.new).mono ?_
      rintro _ _ ⟨p1,hp1,CB,rfl,t1,ht1,rfl⟩
      rw[bM]
      simp only[p9,aB,seval]
      refine(IHd p1 _ (by omega) (by omega) bE.new).mono ?_
      rintro _ _ ⟨p2,hp2,aCF,rfl,t2,ht2,rfl⟩
      rw[bM]
      simp only[aB,seval,gS]
      refine(jP ⟨#[46]⟩ [t1,t2] (by simp) _).to ?_
      simp only[aO,bA,cD (aO _),cC (aQ _),aF,h4c,aB,seval,gS]
      exact eS _ _ _ (.mk 3 0 ⟨#[46]⟩ [t1,t2]) (by omega) (by omega) (nM (by omega) (by simp) (by intro x hx;simp only[dS,gB,fU] at hx;rcases hx with rfl | rfl<;>assumption))
    · simp only[aB,seval,gS]
      refine(nJ [⟨#[102]⟩,⟨#[103]⟩,⟨#[115]⟩,⟨#[43]⟩,⟨#[61]⟩,⟨#[105,115]⟩,⟨#[102,111,111]⟩] (by simp) (by simp) bs c (p+1+1) (by omega) _ bE.new).mono ?_
      rintro _ _ ⟨x,_,rfl,rfl⟩
      rw[bM]
      simp only[aB,seval]
      refine(E7 x _).to ?_
      simp only[aF,aB,↓bG,seval,gS]
      intro b5 h5
      have h54:b5≠b4:=by rintro rfl;simp [aA.aC,h4c] at h5
      have h5c:b5≠c:=by rintro rfl;simp [aA.aC] at h5
      have hn5:st b5=none:=by rw[aA.aV _ _ h5c,aA.aV _ _ h54] at h5;exact h5
      refine(jB [2,1,3,2] (by simp) (by simp) bs c (p+1+1+1) (by omega) _ (bE.new.aC h5c)).mono ?_
      rintro _ _ ⟨y,hy,rfl,rfl⟩
      obtain⟨n,rfl,hn⟩:∃n:Nat,y=n∧n≤3:=by
       simp only[dS,gB,fU] at hy
       rcases hy with rfl | rfl | rfl | rfl
       · exact⟨2,rfl,by omega⟩
       · exact⟨1,rfl,by omega⟩
       · exact⟨3,rfl,by omega⟩
       · exact⟨2,rfl,by omega⟩
      rw[aA.DS h5c,aA.mT _ _ _ h5c]
      have hW4:∀q,((st.aC b4 (.cells [.int .i64 0,.int .i64 0,.str ⟨#[]⟩,.fslice []])).aC c (aK bs q)) b4=some (.cells [.int .i64 0,.int .i64 0,.str ⟨#[]⟩,.fslice []]):=fun q=>by rw[aA.aV _ _ h4c,aA.aP]
      simp only[aB,seval]
      refine fH (σ:=Nat×Nat×List Tm×Nat) [1000000,5] [0,1,4,5]
       (fun s=>(s.2.2.1.map Tm.av≠[]→(aA.aC ((st.aC b4 (.cells [.int .i64 0,.int .i64 0,.str ⟨#[]⟩,.fslice []])).aC c (aK bs s.2.2.2)) b5 (.cells ([.int .i64 3,.int .i64 0,.str x]++ [aT 4 s.2.1 (s.2.2.1.map Tm.av)]))) s.2.1=none)∧s.2.2.1.length+s.1≤3∧(∀t∈s.2.2.1,Dn t)∧p≤s.2.2.2∧s.2.2.2+s.1*M≤p+4*M)
       (fun s=>[(6,.int .i64 s.1)]) (fun s=>cY ((st.aC b4 (.cells [.int .i64 0,.int .i64 0,.str ⟨#[]⟩,.fslice []])).aC c (aK bs s.2.2.2)) b5 s.2.1 [.int .i64 3,.int .i64 0,.str x] (s.2.2.1.map Tm.av)) (fun s=>s.1) (by decide +kernel)
       ⟨(n,0,[],p+1+1+1+1),⟨fun h=>absurd rfl h,by simpa using hn,by simp,by simp only;omega,?_⟩,aL.mk (by simp only[aB,seval])⟩ ?_
      · simp only
        have:=lA M hn
        omega
      rintro⟨i,b,acc,q⟩ ⟨i1,i2,i3,i4,i5⟩
      simp only at i1 i2 i3 i4 i5
      simp only[aB,seval]
      refine aW (fun h3=>?_) (fun h3=>?_)
      · simp only[bK] at h3
        have hbo:=cH i1
        have hSc:((st.aC b4 (.cells [.int .i64 0,.int .i64 0,.str ⟨#[]⟩,.fslice []])).aC c (aK bs q)) c≠none:=by rw[aA.aP];simp
        have hRk:bE (cY ((st.aC b4 (.cells [.int .i64 0,.int .i64 0,.str ⟨#[]⟩,.fslice []])).aC c (aK bs q)) b5 b [.int .i64 3,.int .i64 0,.str x] (acc.map Tm.av)) c bs q:=by
         unfold bE
         rw[dW i1 hSc h5c.symm,aA.aP]
         try rfl
        have hM1:M≤i*M:=by have:=lA M (show 1≤i by omega);omega
        have hMi:(i - 1)*M+M=i*M:=by rw[←m7];congr 1;omega
        have hwi:IntKind.i64.wrap ((i:Int) - 1)=((i - 1:Nat):Int):=by rw[wrap64 (by omega) (by omega)];omega
        have cO:(acc.map Tm.av).length≤3:=by rw[aG];omega
        simp only[aB,seval]
        refine k0 [(0,1),(1,1),(2,1),(3,1),(4,1),(5,0),(6,1),(7,0),(8,1),(9,2)] [0,1,2,3,4,6,8] (g7.aC b5 (.cells [.int .i64 3,.int .i64 0,.str x,aT 4 b (acc.map Tm.av)])) mixed (by decide +kernel) (by decide +kernel) (by decide +kernel) rfl (eQ hbo) ?_
        simp only[p9,iM,aB,seval,gS]
        refine(IHd q _ (by omega) (by omega) hRk).mono ?_
        rintro _ _ ⟨q',hq1,hq2,rfl,t,ht,rfl⟩
        obtain⟨e1,i1'⟩:=iR (o:=aK bs q') i1 hSc h5c.symm
        rw[bM] at e1 i1'
        rw[e1]
        simp only[aQ,aR,bW,aB,seval,gS]
        refine⟨eQ (cH i1'),?_⟩
        refine eH cS gG gH rfl rfl (eR (aR _) (bA _)) (cT _) i1' (by simp only[bD,bN];omega) (by simp only[bD,bN];omega) (fun b' hb'=>?_)
        rw[show acc.map Tm.av++ [t.av]=(acc++ [t]).map Tm.av by simp] at hb' ⊢
        obtain⟨g1,g2,g3⟩:=kB hb'
        simp only[dM,dB] at g1 g3
        simp only[aF,c5,jN,aB,seval,gS]
        refine⟨eQ g3,?_⟩
        simp only[g3,g1,hwi,aB,seval]
        refine⟨(i - 1,b',acc++ [t],q'),by simp only;omega,⟨g2,by simp only[dI,bD,bN];omega,fun u hu=>?_,by simp only;omega,by simp only;omega⟩,aL.mk (by simp only[aB,seval])⟩
        rcases iY.1 hu with hu | hu
        · exact i3 u hu
        · simp only[dS,gB,fU] at hu
          subst hu
          exact ht
      · have hbo:=cH i1
        have h4o:=dW i1 (x:=b4) (by rw[hW4];simp) h54.symm
        rw[hW4] at h4o
        simp only[aF,hbo,h4o,c5,aB,seval,gS]
        obtain⟨g5,g6⟩:=fF (o:=.cells [.int .i64 3,.int .i64 0,.str x,aT 4 b (acc.map Tm.av)]) i1 (show((st.aC b4 (.cells [.int .i64 0,.int .i64 0,.str ⟨#[]⟩,.fslice []])).aC c (aK bs q)) b4≠none by rw[hW4];simp) h54.symm
        refine⟨b,_,_,g5,g6,d8 _,⟨4,cT _⟩,st.aC c (aK bs q),?_,q,i4,by omega,rfl,.mk 3 0 x acc,nM (by omega) (by omega) i3,?_⟩
        · intro y
          by_cases e4:y=b4<;>by_cases ec:y=c<;>by_cases e5:y=b5<;>simp_all [aA.aC]
        · simp only[eC,bT,bF,dQ,d7,eG,a6]
termination_by d=>d
decreasing_by exact hlt
end Go.AW
namespace Go.AW
theorem aX.of{h:aN}{st st':aA}(hk:∀x,st x=none→st' x=none):aX h st h st':=⟨dJ _,fun x _ e=>⟨rfl,hk x e⟩,fun _ c _ _ e=>⟨c,e,rfl⟩⟩
theorem c7.aBI{φ:AF}{st:aA}{b c:Nat}{es cs:List AV}(hbc:b≠c)(h1:st b=some (.cells (es.flatMap AV.cells)))(h2:∀e∈es,e.bP=false)(h3:eW es)(hc:st c=some (.cells cs)) :
 c7 φ st φ ((st.erase b).aC c (.cells (j7 b es cs))):=fun h tmps S F=>by
 have T2:aX h (st.erase b) h ((st.erase b).aC c (.cells (j7 b es cs))):=aX.of fun x hx=>by
  have:x≠c:=by rintro rfl;simp [aA.erase,cV hbc,hc] at hx
  rw[aA.aV _ _ this];exact hx
 have T:aX h st h ((st.erase b).aC c (.cells (j7 b es cs))):=((eP st b).step h).trans T2
 refine⟨fun x o hx=>?_,T,fun d=>(F d).mono T⟩
 by_cases e:x=c
 · subst e
   rw[aA.aP] at hx
   cases hx
   obtain⟨hl,c0,t,e1,e2,vs,e3,e4⟩:=S x _ hc
   refine⟨hl,c0,t,e1,?_,vs,e3,aJ.mono T2 _ _ (aJ.fz S h1 h2 h3 cs vs e4)⟩
   rw[xU,aG];exact e2
 · rw[aA.aV _ _ e] at hx
   have hx':st x=some o:=by
    simp only[aA.erase] at hx
    split at hx
    · cases hx
    · exact hx
   obtain⟨hl,y⟩:=S x o hx'
   exact⟨hl,iC.mono T rfl y⟩
theorem c7.aE5{φ:AF}{st:aA}{c:Nat}{cs:List AV}(hc:st c=some (.cells cs)):c7 φ st φ (st.aC c (.cells (dX cs))):=fun h tmps S F=>by
 have T:aX h st h (st.aC c (.cells (dX cs))):=aX.of fun x hx=>by
  have:x≠c:=by rintro rfl;rw[hc] at hx;cases hx
  rw[aA.aV _ _ this];exact hx
 refine⟨fun x o hx=>?_,T,fun d=>(F d).mono T⟩
 by_cases e:x=c
 · subst e
   rw[aA.aP] at hx
   cases hx
   obtain⟨hl,c0,t,e1,e2,vs,e3,e4⟩:=S x _ hc
   refine⟨hl,c0,t,e1,?_,vs,e3,aJ.mono T _ _ (aJ.soft cs vs e4)⟩
   rw[o6,aG];exact e2
 · rw[aA.aV _ _ e] at hx
   obtain⟨hl,y⟩:=S x o hx
   exact⟨hl,iC.mono T rfl y⟩
theorem RH{φ:AF}{S:aA}{c b:Nat}{k n:Int}{s:ByteArray}{l:List AV}(hb:l≠[]→(S.aC c (.cells ([.int .i64 k,.int .i64 n,.str s]++ [aT 4 b l]))) b=none)(hj:∀e∈l,e.bP=false)(hE:eW l) :
 c7 φ (cY S c b [.int .i64 k,.int .i64 n,.str s] l) φ (S.aC c (.cells [.int .i64 k,.int .i64 n,.str s,.slice l])):=by
 have hcc:=cH hb
 cases l with
 | nil=>
  have:=c7.aE5 (φ:=φ) hcc
  unfold cY at this ⊢
  simp only[pQ,bM] at this
  exact this
 | cons y l=>
  have h0:=hb (by simp)
  have hne:b≠c:=by rintro rfl;rw[aA.aP] at h0;cases h0
  have h1:cY S c b [.int .i64 k,.int .i64 n,.str s] (y::l) b=some (.cells ((y::l).flatMap AV.cells)):=by unfold cY;simp only[aY];exact aA.aP _ _ _
  have:=c7.aBI (φ:=φ) hne h1 hj hE hcc
  have e:(cY S c b [.int .i64 k,.int .i64 n,.str s] (y::l)).erase b=S.aC c (.cells ([.int .i64 k,.int .i64 n,.str s]++ [aT 4 b (y::l)])):=by unfold cY;simp only[aY];exact aA.pV _ _ _ h0
  rw[e,bM] at this
  simpa [j7,AV.fz,aT] using this
theorem oV{S:aA}{c b:Nat}{hd hd' l:List AV}(hb:l≠[]→(S.aC c (.cells (hd++ [aT 4 b l]))) b=none) :
 (cY S c b hd l).aC c (.cells (hd'++ [aT 4 b l]))=cY S c b hd' l∧(l≠[]→(S.aC c (.cells (hd'++ [aT 4 b l]))) b=none):=by
 have hne:l≠[]→c≠b:=fun h e=>by have:=hb h;rw[←e,aA.aP] at this;cases this
 refine⟨by unfold cY;rw[jA hne,bM],fun h=>?_⟩
 have:=hb h
 rw[aA.aV _ _ (cV (hne h))] at this ⊢
 exact this
theorem F3{s0 st:aA}{b:Nat}{l:List AV}(D:aH s0 st):aH (aY s0 b l) (aY st b l):=by
 cases l with
 | nil=>exact D
 | cons y l=>
  intro x
  simp only[aY]
  by_cases e:x=b
  · subst e;simp [aA.aP]
  · rw[aA.aV _ _ e,aA.aV _ _ e];exact D x
end Go.AW
