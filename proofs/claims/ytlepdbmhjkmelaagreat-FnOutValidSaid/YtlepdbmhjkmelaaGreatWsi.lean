import Derived.Test.YtlepdbmhjkmelaaGreatWsf
import Derived.Test.YtlepdbmhjkmelaaGreatWsh
set_option linter.unusedSimpArgs false
set_option linter.unusedVariables false
set_option maxRecDepth 100000
namespace Go.AW
open Go.Proofs.Tryz
theorem G5(n lo hi:Int)(st:aA):aD prog 47 [.int .i64 n,.int .i64 lo,.int .i64 hi] st (fun r st'=>r=.bool (decide (lo≤n)&&decide (n≤hi))∧st'=st):=by
 refine wF [] 3 func47 ntmps47 rfl rfl ?_
 intro _
 repeat' (first
  | (simp only[*,aB,seval])
  | (refine c5 (fun h=>?_) (fun h=>?_))
  | (refine bE (fun h=>?_) (fun h=>?_)))
 all_goals simp_all
theorem tO(s:ByteArray)(st:aA):aD prog 94 [.str s] st (fun r st'=>r=.int .i64 (dB s)∧st'=st):=by
 refine wF [] 1 func94 ntmps94 rfl rfl ?_
 intro _
 repeat' (first
  | (simp only[*,aB,seval])
  | (refine c5 (fun h=>?_) (fun h=>?_))
  | (refine bE (fun h=>?_) (fun h=>?_)))
 all_goals (simp only[dB, *,CQ,Bool.true_or,Bool.or_self,cond_true,cond_false];first | done | rfl)
theorem LN(s:ByteArray)(n:Int)(st:aA):aD prog 93 [.str s,.int .i64 n] st (fun r st'=>r=.bool (isBuiltin s n)∧st'=st):=by
 refine wF [] 2 func93 ntmps93 rfl rfl ?_
 intro _
 repeat' (first
  | (simp only[*,aB,seval])
  | (refine c5 (fun h=>?_) (fun h=>?_))
  | (refine bE (fun h=>?_) (fun h=>?_)))
 all_goals (simp only[isBuiltin, *,CQ,Bool.true_or,Bool.or_self,cond_true,cond_false];first | done | rfl)
abbrev aHX:=zi aX (zi cD (zi gE cG))
theorem RT(s:ByteArray)(st:aA):aD prog 92 [.str s] st (fun r st'=>r=.bool (vU s)∧st'=st):=by
 refine wF [] 1 func92 ntmps92 rfl rfl ?_
 simp only[eF,AV.fits,eN]
 intro hs
 simp only[aB,seval]
 refine CN (α:=Nat) [] (fun i=>i≤s.size∧∀(j:Nat) c,j<i→(sb s)[j]?=some c→kC c=true)
  (fun i=>[(0,.str s),(3,.int .i64 i)]) (fun _=>st) (fun i=>s.size - i) (by decide +kernel)
  ⟨0,⟨by omega,by intro j x h;omega⟩,aP.mk (by simp only[aB,↓a9,seval])⟩ ?_
 intro i ⟨hi,cZ⟩
 simp only[aB,seval,aHX]
 refine⟨fun h5=>?_,fun h5=>?_⟩
 case refine_2=>
  simp only[d5,qD] at h5
  have ha:(sb s).all kC=true:=QN fun j c hc=>cZ j c (by have:=(gJ.1 hc).1;rw[bX] at this;omega) hc
  repeat' (first
   | (simp only[*,aB,seval,aHX])
   | (refine c5 (fun h=>?_) (fun h=>?_))
   | (refine bE (fun h=>?_) (fun h=>?_)))
  all_goals simp only[vU,ha,dH,AV.bool.injEq]
  all_goals simp only[*,fA,dH,eT]
 simp only[bK,qD] at h5
 obtain⟨c,hc⟩:∃c,(sb s)[i]?=some c:=⟨_,d4 (by rw[bX];exact h5)⟩
 have hx:=pS (P:=prog) (t:=9) oA hc
 simp only[hx,aB,seval]
 refine c5 (fun h6=>?_) (fun h6=>?_)
 case refine_2=>
  simp only[h6,aB,seval]
  simp only[fM,bK] at h6
  simp only[vU,vD hc (show kC c=false by simp [kC];omega),eT]
 simp only[h6,hx,aB,seval]
 refine⟨fun h7=>?_,fun h7=>?_⟩
 · simp only[aB,seval]
   simp only[bK] at h7
   simp only[vU,vD hc (show kC c=false by simp [kC];omega),eT]
 simp only[d5] at h6 h7
 simp only[aB,seval]
 refine⟨i+1,by omega,⟨by omega,fun j u hj hu=>?_⟩,aP.mk ?_⟩
 · rcases lM j i with h8 | h8
   · exact cZ j u h8 hu
   · obtain rfl:j=i:=by omega
     rw[hc] at hu;cases hu
     simp [kC];omega
 · have:=bH (n:=(i:Int)+1)
   simp only[this,aB,seval]
def iJ:List ByteArray:=[⟨#[43]⟩,⟨#[45]⟩,⟨#[42]⟩,⟨#[47,47]⟩,⟨#[61]⟩,⟨#[92,61]⟩,⟨#[61,61]⟩,⟨#[60]⟩,⟨#[62]⟩,⟨#[61,60]⟩,⟨#[62,61]⟩,⟨#[61,58,61]⟩,⟨#[46]⟩,⟨#[91,93]⟩,⟨#[33]⟩]
theorem RQ(st:aA):aD prog 192 [] st (fun r st'=>r=.fslice (iJ.map .str)∧st'=st):=by
 refine wF [] 0 func192 ntmps192 rfl rfl ?_
 intro _
 simp only[iJ,aB,seval,sQ]
abbrev aHY:=zi aX (zi cD (zi cG sQ))
theorem aNC(l:List ByteArray)(s:ByteArray)(st:aA):aD prog 191 [.slice (l.map .str),.str s] st (fun r st'=>r=.bool (l.any fun x=>decide (x=s))∧st'=st):=by
 refine wF [] 2 func191 ntmps191 rfl rfl ?_
 simp only[eF,AV.fits,eN,aE]
 intro ⟨⟨hl,_⟩,_⟩
 simp only[aB,seval]
 refine CN (α:=Nat) [] (fun i=>i≤l.length∧∀(j:Nat) x,j<i→l[j]?=some x→decide (x=s)=false)
  (fun i=>[(0,.slice (l.map .str)),(1,.str s),(5,.int .i64 i)]) (fun _=>st) (fun i=>l.length - i) (by decide +kernel)
  ⟨0,⟨by omega,by intro j x h;omega⟩,aP.mk (by simp only[aB,↓a9,seval])⟩ ?_
 intro i ⟨hi,cZ⟩
 simp only[aE,aB,seval,aHY]
 refine⟨fun h5=>?_,fun h5=>?_⟩
 case refine_2=>
  simp only[aB,seval]
  simp only[d5,qD] at h5
  have:(l.any fun x=>decide (x=s))=false:=by
   rw[List.any_eq_false]
   intro x hx
   obtain⟨j,hj⟩:=GB hx
   simp [cZ j x (by have:=(gJ.1 hj).1;omega) hj]
  rw[this]
 simp only[bK,qD] at h5
 obtain⟨x,hx⟩:∃x,l[i]?=some x:=⟨_,d4 h5⟩
 simp only[bR (av:=AV.str) tS hx rfl,aB,seval,aHY]
 refine⟨fun h6=>?_,fun h6=>?_⟩
 · simp only[aB,seval]
   have:(l.any fun x=>decide (x=s))=true:=by
    rw[List.any_eq_true]
    exact⟨x,cQ hx,h6⟩
   rw[this]
 simp only[aB,seval]
 refine⟨i+1,by omega,⟨by omega,fun j u hj hu=>?_⟩,aP.mk ?_⟩
 · rcases lM j i with h8 | h8
   · exact cZ j u h8 hu
   · obtain rfl:j=i:=by omega
     rw[hx] at hu;cases hu
     exact h6
 · have:=bH (n:=(i:Int)+1)
   simp only[this,aB,seval]
theorem aND(l:List ByteArray)(s:ByteArray)(st:aA):aD prog 191 [.fslice (l.map .str),.str s] st (fun r st'=>r=.bool (l.any fun x=>decide (x=s))∧st'=st):=
 aD.nY (by simp only[fT,AV.soft];exact aNC l s st)
def vV(s:ByteArray):Bool:=vU s||iJ.any fun x=>decide (s=x)
theorem aKS(s:ByteArray):(iJ.any fun x=>decide (x=s))=iJ.any fun x=>decide (s=x):=by
 congr 1
 funext x
 exact r5.2 ⟨Eq.symm,Eq.symm⟩
theorem aOO(s:ByteArray)(st:aA):aD prog 150 [.str s] st (fun r st'=>r=.bool (vV s)∧st'=st):=by
 refine wF [] 1 func150 ntmps150 rfl rfl ?_
 intro _
 repeat' (first
  | (simp only[*,aB,seval])
  | (refine c5 (fun h=>?_) (fun h=>?_))
  | (refine(RT s st).to ?_) | (refine(RQ st).to ?_) | (refine(aND iJ s st).to ?_)
  | (refine bE (fun h=>?_) (fun h=>?_)))
 all_goals simp only[vV,aKS, *,fM,Bool.true_or,rJ]
end Go.AW
namespace Go.AW
def aFP(k:Nat)(acc:List UInt8):List UInt8:=if k=0 then acc else aFP (k / 10) (UInt8.ofNat (48+k % 10)::acc)
termination_by k
decreasing_by omega
def mt(k:Int):ByteArray:=if k≤0 then⟨#[109,48]⟩ else⟨(109::aFP k.toNat []).toArray⟩
abbrev iv (n:Int):AV:=.int .i64 n
theorem aT7(l:List Int):∀e∈l.map iv,e.width=1:=by intro e h;simp only[cL] at h;obtain⟨t,_,rfl⟩:=h;rfl
def iT(k n:Int)(s:ByteArray)(len:Int):Bool:=
 cond (decide (k=1)) (decide ((0:Int)≤n)&&decide (n≤25)&&decide (s=⟨#[]⟩)&&decide (len=0))
  (cond (decide (k=2)) (decide ((-999:Int)≤n)&&decide (n≤999)&&decide (s=⟨#[]⟩)&&decide (len=0))
   (cond (decide (k=3)) (decide (n=0)&&vV s&&decide (len≤4)) false))
mutual
def Tm.shape:Tm→Int→Bool
 | .mk k n s ts,d=>decide (1≤d)&&iT k n s ts.length&&JS ts (d - 1)
def JS:List Tm→Int→Bool
 | [],_=>true
 | t::ts,d=>t.shape d&&JS ts d
end
theorem aIW:∀(ts:List Tm) (d:Int),JS ts d=ts.all fun t=>t.shape d
 | [],_=>rfl
 | t::ts,d=>by simp only[JS,kH,aIW ts d]
theorem Tm.BU(k n:Int)(s:ByteArray)(ts:List Tm)(d:Int):(Tm.mk k n s ts).shape d=(decide (1≤d)&&iT k n s ts.length&&ts.all fun t=>t.shape (d - 1)):=by simp only[Tm.shape,aIW]
mutual
def Tm.nodes:Tm→Nat
 | .mk _ _ _ ts=>1+JN ts
def JN:List Tm→Nat
 | []=>0
 | t::ts=>t.nodes+JN ts
end
theorem aIS:∀(ts:List Tm),JN ts=bU Tm.nodes ts
 | []=>rfl
 | t::ts=>by simp only[JN,bU,aIS ts]
theorem Tm.gT(k n:Int)(s:ByteArray)(ts:List Tm):(Tm.mk k n s ts).nodes=1+bU Tm.nodes ts:=by simp only[Tm.nodes,aIS]
def Tm.valid(t:Tm):Bool:=t.shape 30&&decide (t.nodes≤120)
mutual
def Tm.vars:Tm→List Int→List Int
 | .mk k n _ ts,l=>cB ts (if k=1∧n∉l then l++ [n] else l)
def cB:List Tm→List Int→List Int
 | [],l=>l
 | t::ts,l=>cB ts (t.vars l)
end
mutual
theorem Tm.aJH:∀(t:Tm) (l:List Int),(t.vars l).length≤l.length+t.nodes
 | .mk k n s ts,l=>by
  have h:=yO ts (if k=1∧n∉l then l++ [n] else l)
  have h2:(if k=1∧n∉l then l++ [n] else l).length≤l.length+1:=by split<;>simp
  rw[Tm.vars,Tm.gT]
  omega
theorem yO:∀(ts:List Tm) (l:List Int),(cB ts l).length≤l.length+bU Tm.nodes ts
 | [],l=>by simp [cB,bU]
 | t::ts,l=>by
  have h1:=Tm.aJH t l
  have h2:=yO ts (t.vars l)
  simp only[cB,bU]
  omega
end
def gR(v:Int):List Int→Int→Int
 | [],_=> -1
 | x::xs,i=>if v=x then i else gR v xs (i+1)
theorem nF{st:aA}{b x:Nat}{l:List AV}{o:AO}(h:l≠[]→x≠b):(aU st b l).aC x o=aU (st.aC x o) b l:=by
 cases l with
 | nil=>rfl
 | cons y l=>exact aA.rG _ _ _ (dM (h (by simp)))
theorem QI{P:Program}{t:TypeId}{ag:Bool}{w b i:Nat}{l:List AV}{x:AV}(hI:eI P t=some (ag,w))(h:l[i]?=some x):dP P t (bQ w b l) (.int .i64 (i:Int))=some (.ptr b (i*w)):=by
 have hi:=(gJ.1 h).1
 rw[tH (by rintro rfl;simp at hi)]
 exact AT hI hi
theorem QJ{st:aA}{b i:Nat}{l:List Int}{x:Int}(h:l[i]?=some x):aU st b (l.map iv) b=some (.cells (l.map iv))∧(l.map iv)[i]?=some (iv x):=by
 have hi:=(gJ.1 h).1
 have hne:l.map iv≠[]:=by rintro e;rw[List.map_eq_nil_iff] at e;subst e;simp at hi
 have hfl:(l.map iv).flatMap AV.cells=l.map iv:=by
  clear h hi hne
  induction l with
  | nil=>rfl
  | cons y l ih=>simp only[bF,yZ,ih];rfl
 exact⟨by rw[lO hne,hfl,aA.aK],by rw[mI,h];try rfl⟩
mutual
def Tm.wf:Tm→Bool
 | .mk k _ _ ts=>(!decide (k=1)||ts.isEmpty)&&JU ts
def JU:List Tm→Bool
 | []=>true
 | t::ts=>t.wf&&JU ts
end
theorem O8:∀(ts:List Tm),JU ts=ts.all Tm.wf
 | []=>rfl
 | t::ts=>by simp only[JU,kH,O8 ts]
theorem Tm.aJM{k n:Int}{s:ByteArray}{ts:List Tm}(h:(Tm.mk k n s ts).wf=true):(k=1→ts= [])∧∀x∈ts,x.wf=true:=by
 simp only[Tm.wf,O8,bG,kV,jI,d5,List.isEmpty_iff,dD] at h
 exact⟨fun hk=>h.1.resolve_left (fun hn=>hn hk),h.2⟩
theorem Tm.qA{t:Tm}(h:t.valid=true):t.nodes≤120:=by simp only[Tm.valid,bG,bK] at h;exact h.2
theorem aXK{l:List Tm}(h:∀x∈l,x.valid=true):bU Tm.nodes l≤120*l.length:=by
 induction l with
 | nil=>simp [bU]
 | cons t l ih=>
  have h1:=Tm.qA (h t (by simp))
  have h2:=ih fun x hx=>h x (by simp [hx])
  simp only[bU,aY]
  omega
def nR(S:aA)(c b:Nat)(hd:List AV)(l:List AV):aA:=aU (S.aC c (.cells (hd++ [bQ 4 b l]))) b l
theorem mS{S:aA}{c b:Nat}{hd l:List AV}(hb:l≠[]→(S.aC c (.cells (hd++ [bQ 4 b l]))) b=none):nR S c b hd l c=some (.cells (hd++ [bQ 4 b l])):=by
 unfold nR
 cases l with
 | nil=>simp only[aU,aA.aK]
 | cons y l=>
  have h:=hb (by simp)
  have hne:c≠b:=fun e=>by rw[←e,aA.aK] at h;cases h
  rw[tF hne,aA.aK]
theorem xS{S:aA}{c b b':Nat}{hd l l':List AV}(hb:l'≠[]→(S.aC c (.cells (hd++ [bQ 4 b l]))) b'=none) :
 (aU (S.aC c (.cells (hd++ [bQ 4 b l]))) b' l').aC c (.cells (hd++ [bQ 4 b' l']))=nR S c b' hd l'∧(l'≠[]→(S.aC c (.cells (hd++ [bQ 4 b' l']))) b'=none)∧aU (S.aC c (.cells (hd++ [bQ 4 b l]))) b' l' c=some (.cells (hd++ [bQ 4 b l])):=by
 have hne:l'≠[]→c≠b':=fun h e=>by have:=hb h;rw[←e,aA.aK] at this;cases this
 refine⟨?_,fun h=>?_,?_⟩
 · rw[nF hne,d3];try rfl
 · have:=hb h
   rw[aA.aO _ _ (dM (hne h))] at this ⊢
   exact this
 · cases l' with
   | nil=>simp only[aU,aA.aK]
   | cons y l=>rw[tF (hne (by simp)),aA.aK]
theorem sE{S:aA}{c b x:Nat}{hd l:List AV}(hb:l≠[]→(S.aC c (.cells (hd++ [bQ 4 b l]))) b=none)(hx:S x≠none)(hxc:x≠c):nR S c b hd l x=S x:=by
 unfold nR
 cases l with
 | nil=>simp only[aU,aA.aO _ _ hxc]
 | cons y l=>
  have h:=hb (by simp)
  have hne:x≠b:=fun e=>by
   rw[←e,aA.aO _ _ hxc] at h
   exact hx h
  rw[tF hne,aA.aO _ _ hxc]
theorem vS{S:aA}{c b x:Nat}{hd l:List AV}{o:AO}(hb:l≠[]→(S.aC c (.cells (hd++ [bQ 4 b l]))) b=none)(hx:S x≠none)(hxc:x≠c):(nR S c b hd l).aC x o=aU ((S.aC c (.cells (hd++ [bQ 4 b l]))).aC x o) b l∧(l≠[]→((S.aC c (.cells (hd++ [bQ 4 b l]))).aC x o) b=none):=by
 have hne:l≠[]→x≠b:=fun h e=>by
  have:=hb h
  rw[←e,aA.aO _ _ hxc] at this
  exact hx this
 refine⟨by unfold nR;rw[nF hne],fun h=>by rw[aA.aO _ _ (dM (hne h))];exact hb h⟩
theorem aA.JX{st:aA}{b c:Nat}{a z a':AO}(h:b≠c):((st.aC c a).aC b z).aC c a'=(st.aC b z).aC c a':=by rw[aA.rG _ _ _ (dM h),d3]
theorem gF(l:List Tm):∀e∈l.map Tm.av,e.width=4:=by intro e h;simp only[cL] at h;obtain⟨t,_,rfl⟩:=h;exact aQ t
theorem n8(l:List Tm):∀e∈l.map Tm.av,e.bO=false:=by intro e h;simp only[cL] at h;obtain⟨t,_,rfl⟩:=h;exact cR t
end Go.AW
namespace Go.AW
open Go.Proofs.Tryz
mutual
def Tm.small:Tm→Bool
 | .mk _ _ _ ts=>decide (ts.length≤1048576)&&FQ ts
def FQ:List Tm→Bool
 | []=>true
 | t::ts=>t.small&&FQ ts
end
theorem FR:∀(ts:List Tm),FQ ts=ts.all Tm.small
 | []=>rfl
 | t::ts=>by simp only[FQ,kH,FR ts]
theorem Tm.yF{k n:Int}{s:ByteArray}{ts:List Tm}(h:(Tm.mk k n s ts).small=true):ts.length≤1048576∧∀x∈ts,x.small=true:=by
 simpa [Tm.small,FR] using h
abbrev yK:=zi aX (zi cG (zi cI cK))
theorem DT:∀(t:Tm) (st:aA),t.small=true→aD prog 42 [t.av] st (fun r st'=>r=t.av∧st'=st)
 | .mk k n s ts,st,hsm=>by
  obtain⟨hlen,vP⟩:=Tm.yF hsm
  have IH:=fun(x:Tm) (hx:x∈ts) st=>DT x st (vP x hx)
  refine aD.kK (aD.fin ?_)
  simp only[bY]
  refine wF [] 1 func42 ntmps42 rfl rfl ?_
  simp only[eF,AV.fits,eN,aE]
  intro ⟨_,_,_,hl,_⟩
  simp only[aB,seval,yK]
  intro b2 hb2 c hc
  have hne:c≠b2:=by rintro rfl;rw[aA.aK] at hc;cases hc
  have hn2:st c=none:=by rw[aA.aO st _ hne] at hc;exact hc
  simp only[aG,aB,seval]
  refine d7 (σ:=Nat) [] [1,2,3] ts (fun i b=>(((ts.take i).map (fun y=>y)).map Tm.av≠[]→(aA.aC (st.aC b2 (.cells [AV.int .i64 0,AV.int .i64 0,AV.str ⟨#[]⟩,AV.fslice []])) c (.cells ([AV.int .i64 k,AV.int .i64 n,AV.str s]++ [bQ 4 b (((ts.take i).map (fun y=>y)).map Tm.av)]))) b=none)) (fun i b=>[(4,.int .i64 i)]) (fun i b=>nR (st.aC b2 (.cells [AV.int .i64 0,AV.int .i64 0,AV.str ⟨#[]⟩,AV.fslice []])) c b [AV.int .i64 k,AV.int .i64 n,AV.str s] (((ts.take i).map (fun y=>y)).map Tm.av)) (by decide +kernel)
   ⟨0,fun h=>absurd rfl h,aP.mk (by simp only[aB,↓a9,seval])⟩ (fun i x b hx hlt bN hdr hinv=>?_) (fun b hge hinv=>?_)
  case refine_1=>
   have hw:=bH (n:=(i:Int)+1)
   have cS:(((ts.take i).map (fun y=>y)).map Tm.av).length=i:=by simp only[aE,dE];omega
   have htk:(ts.take (i+1)).map (fun y=>y)=(ts.take i).map (fun y=>y)++ [(fun y=>y) x]:=by rw[eD,hx];simp
   have hbo:=mS hinv
   simp only[aE,bN,aB,seval,yK]
   refine wP [(0,1),(2,1),(4,1),(1,2),(3,2),(5,1),(6,2),(7,2),(8,1),(9,0),(10,1),(11,0)] [0,2,4,1,3,5,6,7,8,10] mixed ?_
   simp only[bR (av:=Tm.av) cF hx (aQ x),bM,aQ,hbo,tG,jK,aB,seval,yK]
   refine iK (IH x (cQ hx) _) ?_
   simp only[bM,aQ,cR,jK,aB,seval,yK]
   refine eE cF kL kM rfl rfl (gZ (aQ _) (cO _)) (gF _) hinv (by simp only[cS,aY,aW];omega) (by simp only[cS,aY,aW];omega) (fun b' hb'=>?_)
   rw[show(((ts.take i).map (fun y=>y)).map Tm.av)++ [((fun y=>y) x).av]=((ts.take (i+1)).map (fun y=>y)).map Tm.av by rw[htk];simp] at hb' ⊢
   obtain⟨g1,g2,g3⟩:=xS hb'
   simp only[gO,dI] at g1 g3
   simp only[g3,nG,iM,aG,g1,hw,aB,seval,yK]
   exact⟨b',g2,aP.mk (by simp only[aB,seval])⟩
  have hbo:=mS hinv
  rw[dR] at hinv hbo ⊢
  simp only[aE,hge,aB,seval,yK]
  simp only[hbo,aB,seval,yK]
  have oS:b2≠c:=dM hne
  have hS:(st.aC b2 (.cells [AV.int .i64 0,AV.int .i64 0,AV.str ⟨#[]⟩,AV.fslice []])) b2≠none:=by rw[aA.aK];simp
  have h1:=sE hinv hS oS
  rw[aA.aK] at h1
  simp only[h1,iM,aG,aB,seval]
  obtain⟨h2,h3⟩:=vS (o:=.cells [AV.int .i64 k,AV.int .i64 n,AV.str s,bQ 4 b ((ts.map fun y=>y).map Tm.av)]) hinv hS oS
  refine⟨b,_,_,h2,h3,n8 _,⟨4,gF _⟩,?_,?_⟩
  · simp only[fE,bF,bD,fX,qQ,kY,List.map_id']
  · exact(((aJ.refl _).aC hb2).aC hn2).aC hb2
termination_by t=>SizeOf.sizeOf t
decreasing_by have:=List.sizeOf_lt_of_mem hx;simp only[Tm.mk.sizeOf_spec];omega
end Go.AW
namespace Go.AW
def Tm.k:Tm→Int | .mk k _ _ _=>k
def Tm.n:Tm→Int | .mk _ n _ _=>n
def Tm.s:Tm→ByteArray | .mk _ _ s _=>s
def Tm.ts:Tm→List Tm | .mk _ _ _ ts=>ts
theorem Tm.eta(t:Tm):t=.mk t.k t.n t.s t.ts:=by cases t;rfl
def vr(n:Int):Tm:=.mk 1 n ⟨#[]⟩ []
mutual
def Tm.aS(f:Int→Tm):Tm→Tm
 | .mk k n s ts=>if k=1 then f n else .mk k n s (JM f ts)
def JM(f:Int→Tm):List Tm→List Tm
 | []=>[]
 | t::ts=>t.aS f::JM f ts
end
theorem aIR(f:Int→Tm):∀ts:List Tm,JM f ts=ts.map (Tm.aS f)
 | []=>rfl
 | t::ts=>by simp only[JM,bF,aIR f ts]
theorem Tm.oV(f:Int→Tm){k n:Int}{s:ByteArray}{ts:List Tm}(h:k=1):(Tm.mk k n s ts).aS f=f n:=by simp only[Tm.aS,h,fQ]
theorem Tm.mE(f:Int→Tm){k n:Int}{s:ByteArray}{ts:List Tm}(h:k≠1):(Tm.mk k n s ts).aS f=.mk k n s (ts.map (Tm.aS f)):=by simp only[Tm.aS,h,eA,aIR]
theorem BF(f:Int→Tm)(n:Int):(vr n).aS f=f n:=Tm.oV f rfl
mutual
def Tm.vl:Tm→List Int
 | .mk k n _ ts=>if k=1 then[n] else FS ts
def FS:List Tm→List Int
 | []=>[]
 | t::ts=>t.vl++FS ts
end
theorem aIX{v:Int}:∀ {ts:List Tm},v∈FS ts↔∃t∈ts,v∈t.vl
 | []=>by simp [FS]
 | t::ts=>by simp [FS,aIX (ts:=ts)]
theorem Tm.oB{k n:Int}{s:ByteArray}{ts:List Tm}(h:k=1):(Tm.mk k n s ts).vl= [n]:=by simp only[Tm.vl,h,fQ]
theorem Tm.nB{k n v:Int}{s:ByteArray}{ts:List Tm}(h:k≠1):v∈(Tm.mk k n s ts).vl↔∃t∈ts,v∈t.vl:=by simp only[Tm.vl,h,eA,aIX]
theorem CK(n:Int):(vr n).vl= [n]:=Tm.oB rfl
theorem Tm.ind{p:Tm→Prop}(h:∀k n s ts,(∀t∈ts,p t)→p (.mk k n s ts)):∀t,p t
 | .mk k n s ts=>h k n s ts fun t ht=>Tm.ind h t
termination_by t=>SizeOf.sizeOf t
decreasing_by have:=List.sizeOf_lt_of_mem ht;simp only[Tm.mk.sizeOf_spec];omega
theorem BC{f g:Int→Tm}:∀(t:Tm),(∀v∈t.vl,f v=g v)→t.aS f=t.aS g:=by
 intro t
 induction t using Tm.ind with
 | h k n s ts ih=>
  intro h
  by_cases hk:k=1
  · rw[Tm.oV f hk,Tm.oV g hk];exact h n (by rw[Tm.oB hk];simp)
  · rw[Tm.mE f hk,Tm.mE g hk]
    congr 1
    exact y5 fun x hx=>ih x hx fun v hv=>h v ((Tm.nB hk).2 ⟨x,hx,hv⟩)
theorem BE(f g:Int→Tm)(t:Tm):(t.aS f).aS g=t.aS fun v=>(f v).aS g:=by
 induction t using Tm.ind with
 | h k n s ts ih=>
  by_cases hk:k=1
  · rw[Tm.oV f hk,Tm.oV _ hk]
  · rw[Tm.mE f hk,Tm.mE g hk,Tm.mE _ hk,List.map_map]
    congr 1
    exact y5 fun x hx=>ih x hx
theorem yQ{f:Int→Tm}{w:Int}(t:Tm):w∈(t.aS f).vl↔∃v∈t.vl,w∈(f v).vl:=by
 induction t using Tm.ind with
 | h k n s ts ih=>
  by_cases hk:k=1
  · rw[Tm.oV f hk,Tm.oB hk];simp
  · rw[Tm.mE f hk,Tm.nB hk]
    constructor
    · rintro⟨x,hx,hw⟩
      obtain⟨y,hy,rfl⟩:=cL.1 hx
      obtain⟨v,hv,hvw⟩:=(ih y hy).1 hw
      exact⟨v,(Tm.nB hk).2 ⟨y,hy,hv⟩,hvw⟩
    · rintro⟨v,hv,hw⟩
      obtain⟨y,hy,hvy⟩:=(Tm.nB hk).1 hv
      exact⟨_,cL.2 ⟨y,hy,rfl⟩,(ih y hy).2 ⟨v,hvy,hw⟩⟩
theorem aU2{f:Int→Tm}{v:Int}:∀(t:Tm),v∈t.vl→(f v).nodes≤(t.aS f).nodes∧(t.k≠1→(f v).nodes<(t.aS f).nodes):=by
 intro t
 induction t using Tm.ind with
 | h k n s ts ih=>
  intro hv
  by_cases hk:k=1
  · rw[Tm.oB hk] at hv
    simp only[cT,dF,dS] at hv
    subst hv
    rw[Tm.oV f hk]
    exact⟨c6 _,fun h=>absurd hk h⟩
  · obtain⟨x,hx,hvx⟩:=(Tm.nB hk).1 hv
    have h1:=(ih x hx hvx).1
    have h2:=E9 (f:=Tm.nodes) (cL.2 ⟨x,hx,rfl⟩:x.aS f∈ts.map (Tm.aS f))
    rw[Tm.mE f hk,Tm.gT]
    omega
abbrev Sub:=Int→Option Tm
def Sub.set(σ:Sub)(n:Int)(t:Tm):Sub:=fun m=>if m=n then some t else σ m
def Sub.none:Sub:=fun _=>Option.none
structure Good (σ:Sub) (R:Int→Tm) (rk:Int→Nat) (B:Nat):Prop where
 E6:∀n,R n=match σ n with | some u=>u.aS R | .none=>vr n
 aGP:∀n u,σ n=some u→∀w∈u.vl,rk w<rk n
 bd:∀n,rk n<B
def pC(θ:Int→Tm)(σ:Sub):Prop:=∀n u,σ n=some u→θ n=u.aS θ
section
variable {σ:Sub} {R R':Int→Tm} {rk rk':Int→Nat} {B B':Nat}
theorem Good.none:Good Sub.none vr (fun _=>0) 1:=⟨fun n=>rfl,fun n u h=>(by cases h),fun n=>Nat.zero_lt_one⟩
theorem Good.free(G:Good σ R rk B){n:Int}(h:σ n=.none):R n=vr n:=by rw[G.E6 n,h]
theorem Good.bound(G:Good σ R rk B){n:Int}{u:Tm}(h:σ n=some u):R n=u.aS R:=by rw[G.E6 n,h]
theorem Good.vR(G:Good σ R rk B):pC R σ:=fun n u h=>G.bound h
theorem Good.ind(G:Good σ R rk B){p:Int→Prop}(h0:∀n,σ n=.none→p n)(h1:∀n u,σ n=some u→(∀w∈u.vl,p w)→p n):∀n,p n:=by
 intro n
 generalize hk:rk n=k
 induction k using Nat.strongRecOn generalizing n with
 | _ k ih=>
  cases h:σ n with
  | none=>exact h0 n h
  | some u=>exact h1 n u h fun w hw=>ih (rk w) (hk▸G.aGP n u h w hw) w rfl
theorem Good.uniq(G:Good σ R rk B)(G':Good σ R' rk' B'):R=R':=by
 funext n
 refine G.ind (p:=fun n=>R n=R' n) (fun n h=>?_) (fun n u h ih=>?_) n
 · rw[G.free h,G'.free h]
 · rw[G.bound h,G'.bound h];exact BC u ih
theorem Good.aR2(G:Good σ R rk B){θ:Int→Tm}(S:pC θ σ)(n:Int):(R n).aS θ=θ n:=by
 refine G.ind (p:=fun n=>(R n).aS θ=θ n) (fun n h=>?_) (fun n u h ih=>?_) n
 · rw[G.free h,BF]
 · rw[G.bound h,BE,S n u h];exact BC u ih
theorem Good.MJ(G:Good σ R rk B){θ:Int→Tm}(S:pC θ σ)(t:Tm):(t.aS R).aS θ=t.aS θ:=by
 rw[BE];exact BC t fun v _=>G.aR2 S v
theorem Good.canon(G:Good σ R rk B)(n:Int):(R n).aS vr=R n:=by
 refine G.ind (p:=fun n=>(R n).aS vr=R n) (fun n h=>?_) (fun n u h ih=>?_) n
 · rw[G.free h,BF]
 · rw[G.bound h,BE];exact BC u ih
theorem Good.aOU(G:Good σ R rk B)(t:Tm):(t.aS R).aS vr=t.aS R:=by
 rw[BE];exact BC t fun v _=>G.canon v
theorem Good.bind(G:Good σ R rk B){n:Int}{t:Tm}(hn:σ n=.none)(ho:n∉(t.aS R).vl) :
 ∃rk' B',Good (σ.set n t) (fun m=>(R m).aS fun v=>if v=n then t.aS R else vr v) rk' B':=by
 have key:(t.aS R).aS (fun v=>if v=n then t.aS R else vr v)=t.aS R:=by
  rw[BC (g:=vr) (t.aS R) (fun v hv=>aH fun e=>ho (by rw[←e];exact hv)),G.aOU]
 refine⟨fun v=>if n∈(R v).vl then rk v+B else rk v,B+B,fun m=>?_,fun m u h w hw=>?_,fun m=>?_⟩
 · by_cases hm:m=n
   · subst hm
     simp only[Sub.set,fQ]
     rw[G.free hn,BF,aN rfl]
     rw[←BE,key]
   · simp only[Sub.set,hm,eA]
     cases h:σ m with
     | none=>rw[G.free h,BF,aH hm]
     | some u=>rw[G.bound h,BE]
 · by_cases hm:m=n
   · subst hm
     simp only[Sub.set,fQ,Option.some.injEq] at h
     subst h
     have hw':m∉(R w).vl:=fun h=>ho ((yQ t).2 ⟨w,hw,h⟩)
     have:m∈(R m).vl:=by rw[G.free hn,CK];simp
     have:=G.bd w
     simp only[hw',eA]
     rw[aN (by assumption)]
     omega
   · simp only[Sub.set,hm,eA] at h
     have h1:=G.aGP m u h w hw
     by_cases hw':n∈(R w).vl
     · have:n∈(R m).vl:=by rw[G.bound h];exact(yQ u).2 ⟨w,hw,hw'⟩
       simp only[hw',this,fQ];omega
     · simp only[hw',eA];split<;>omega
 · have:=G.bd m
   split<;>omega
end
open Classical in
noncomputable def rs(σ:Sub):Int→Tm:=if h:∃R rk B,Good σ R rk B then h.choose else vr
theorem Good.rs{σ:Sub}{R:Int→Tm}{rk:Int→Nat}{B:Nat}(G:Good σ R rk B):rs σ=R:=by
 unfold AW.rs
 have h:∃R rk B,Good σ R rk B:=⟨R,rk,B,G⟩
 rw[dif_pos h]
 obtain⟨rk',B',G'⟩:=h.choose_spec
 exact G'.uniq G
inductive fH (σ:Sub):Nat→Tm→Tm→Prop
 | stop {t:Tm} (h:t.k=1→σ t.n=none):fH σ 0 t t
 | go {f:Nat} {t u v:Tm} (h1:t.k=1) (h2:σ t.n=some u) (h3:fH σ f u v):fH σ (f+1) t v
theorem fH.det{σ:Sub}{f g:Nat}{t u v:Tm}(h:fH σ f t u):fH σ g t v→u=v:=by
 induction h generalizing g v with
 | stop h=>
  intro h'
  cases h' with
  | stop=>rfl
  | go h1 h2 h3=>rw[h h1] at h2;cases h2
 | go h1 h2 h3 ih=>
  intro h'
  cases h' with
  | stop h=>rw[h h1] at h2;cases h2
  | go h1' h2' h3'=>rw[h2] at h2';cases h2';exact ih h3'
theorem fH.total{σ:Sub}{R:Int→Tm}{rk:Int→Nat}{B:Nat}(G:Good σ R rk B)(t:Tm):∃f u,fH σ f t u:=by
 have key:∀n,∀t:Tm,t.k=1→t.n=n→∃f u,fH σ f t u:=by
  intro n
  refine G.ind (p:=fun n=>∀t:Tm,t.k=1→t.n=n→∃f u,fH σ f t u) (fun n h t hk hn=>?_) (fun n u h ih t hk hn=>?_) n
  · exact⟨0,t,.stop fun _=>by rw[hn,h]⟩
  · by_cases hu:u.k=1
    · have:u.n∈u.vl:=by rw[Tm.eta u,Tm.oB hu];simp [Tm.n]
      obtain⟨f,v,hv⟩:=ih u.n this u hu rfl
      exact⟨f+1,v,.go hk (by rw[hn,h]) hv⟩
    · exact⟨1,u,.go hk (by rw[hn,h]) (.stop fun h=>absurd h hu)⟩
 by_cases hk:t.k=1
 · exact key t.n t hk rfl
 · exact⟨0,t,.stop fun h=>absurd h hk⟩
theorem Tm.aJK{t:Tm}(h:t.k=1):t.vl= [t.n]:=by cases t;exact Tm.oB h
theorem Tm.BD{t:Tm}(f:Int→Tm)(h:t.k=1):t.aS f=f t.n:=by cases t;exact Tm.oV f h
theorem Tm.sH{t:Tm}(f:Int→Tm)(h:t.k≠1):t.aS f=.mk t.k t.n t.s (t.ts.map (Tm.aS f)):=by cases t;exact Tm.mE f h
theorem fH.end{σ:Sub}{f:Nat}{t u:Tm}(h:fH σ f t u):u.k=1→σ u.n=none:=by induction h with | stop h=>exact h | go _ _ _ ih=>exact ih
theorem fH.aS{σ:Sub}{θ:Int→Tm}(S:pC θ σ){f:Nat}{t u:Tm}(h:fH σ f t u):u.aS θ=t.aS θ:=by
 induction h with
 | stop=>rfl
 | go h1 h2 _ ih=>rw[ih,Tm.BD θ h1,S _ _ h2]
theorem fH.all{σ:Sub}{p:Tm→Prop}(hp:∀n u,σ n=some u→p u){f:Nat}{t u:Tm}(h:fH σ f t u)(ht:p t):p u:=by
 induction h with
 | stop=>exact ht
 | go _ h2 _ ih=>exact ih (hp _ _ h2)
open Classical in
noncomputable def wk(σ:Sub)(t:Tm):Tm:=if h:∃u f,fH σ f t u then h.choose else t
theorem fH.wk{σ:Sub}{f:Nat}{t u:Tm}(h:fH σ f t u):wk σ t=u:=by
 unfold AW.wk
 have h':∃u f,fH σ f t u:=⟨u,f,h⟩
 rw[dif_pos h']
 obtain⟨g,hg⟩:=h'.choose_spec
 exact hg.det h
theorem Good.wk{σ:Sub}{R:Int→Tm}{rk:Int→Nat}{B:Nat}(G:Good σ R rk B)(t:Tm):∃f,fH σ f t (wk σ t):=by
 obtain⟨f,u,h⟩:=fH.total G t
 exact⟨f,by rw[h.wk];exact h⟩
open Classical in
noncomputable def l6(σ:Sub)(n:Int)(t:Tm):Bool×Sub×List Int:=if n∈(t.aS (rs σ)).vl then(false,σ,[]) else(true,Sub.set σ n t,[n])
open Classical in
def xN(a b:Tm):Bool:=decide (a.k=b.k)&&decide (a.n=b.n)&&decide (a.s=b.s)&&decide (a.ts.length=b.ts.length)
mutual
noncomputable def c7:Nat→Sub→Tm→Tm→Option (Bool×Sub×List Int)
 | 0,_,_,_=>none
 | g+1,σ,a,b=>
  if(wk σ a).k=1∧(wk σ b).k=1∧(wk σ a).n=(wk σ b).n then some (true,σ,[])
  else if(wk σ a).k=1 then some (l6 σ (wk σ a).n (wk σ b))
  else if(wk σ b).k=1 then some (l6 σ (wk σ b).n (wk σ a))
  else if xN (wk σ a) (wk σ b)=true then eY g σ (wk σ a).ts (wk σ b).ts
  else some (false,σ,[])
termination_by g=>(g,0)
noncomputable def eY:Nat→Sub→List Tm→List Tm→Option (Bool×Sub×List Int)
 | g,σ,a::xs,b::ys=>match c7 g σ a b with
  | none=>none
  | some (false,σ',tr)=>some (false,σ',tr)
  | some (true,σ',tr)=>match eY g σ' xs ys with
   | none=>none
   | some (r,σ'',tr')=>some (r,σ'',tr++tr')
 | _,σ,_,_=>some (true,σ,[])
termination_by g _ xs=>(g,xs.length+1)
end
theorem aI7{g:Nat}{σ σ':Sub}{a b:Tm}{r:Bool}{add:List Int}(h:c7 (g+1) σ a b=some (r,σ',add)) :
 ((wk σ a).k=1∧(wk σ b).k=1∧(wk σ a).n=(wk σ b).n∧true=r∧σ=σ'∧[]=add) ∨
 ((wk σ a).k=1∧¬((wk σ b).k=1∧(wk σ a).n=(wk σ b).n)∧l6 σ (wk σ a).n (wk σ b)=(r,σ',add)) ∨
 ((wk σ a).k≠1∧(wk σ b).k=1∧l6 σ (wk σ b).n (wk σ a)=(r,σ',add)) ∨
 ((wk σ a).k≠1∧(wk σ b).k≠1∧xN (wk σ a) (wk σ b)=true∧eY g σ (wk σ a).ts (wk σ b).ts=some (r,σ',add)) ∨
 ((wk σ a).k≠1∧(wk σ b).k≠1∧xN (wk σ a) (wk σ b)=false∧false=r∧σ=σ'∧[]=add):=by
 rw[c7] at h
 split at h
 · rename_i h1;exact .inl ⟨h1.1,h1.2.1,h1.2.2,by simpa using h⟩
 · rename_i h1
   split at h
   · rename_i h2;exact .inr (.inl ⟨h2,fun h3=>h1 ⟨h2,h3⟩,nD h⟩)
   · rename_i h2
     split at h
     · rename_i h3;exact .inr (.inr (.inl ⟨h2,h3,nD h⟩))
     · rename_i h3
       split at h
       · rename_i h4;exact .inr (.inr (.inr (.inl ⟨h2,h3,h4,h⟩)))
       · rename_i h4;exact .inr (.inr (.inr (.inr ⟨h2,h3,by simpa using h4,by simpa using h⟩)))
theorem Tm.soft(t:Tm):t.av.soft=t.av:=by cases t;simp [bY,AV.soft,fT]
def Tm.zero:Tm:=.mk 0 0 ⟨#[]⟩ []
mutual
def Tm.cv:Tm→Bool
 | .mk k _ s ts=>(!decide (k=1)||(decide (s=⟨#[]⟩)&&ts.isEmpty))&&JJ ts
def JJ:List Tm→Bool
 | []=>true
 | t::ts=>t.cv&&JJ ts
end
theorem aIO:∀(ts:List Tm),JJ ts=ts.all Tm.cv
 | []=>rfl
 | t::ts=>by simp only[JJ,kH,aIO ts]
theorem Tm.mO{k n:Int}{s:ByteArray}{ts:List Tm}:(Tm.mk k n s ts).cv=true↔(k=1→s=⟨#[]⟩∧ts= [])∧∀x∈ts,x.cv=true:=by
 simp only[Tm.cv,aIO,bG,kV,jI,d5,List.isEmpty_iff,dD,bK]
 constructor
 · exact fun h=>⟨fun hk=>h.1.resolve_left (fun hn=>hn hk),h.2⟩
 · intro h
   refine⟨?_,h.2⟩
   by_cases hk:k=1
   · exact .inr (h.1 hk)
   · exact .inl hk
theorem Tm.aWR:∀(t:Tm) (d:Int),t.shape d=true→t.cv=true:=by
 intro t
 induction t using Tm.ind with
 | h k n s ts ih=>
  intro d h
  rw[Tm.BU] at h
  simp only[bG,dD] at h
  obtain⟨⟨_,h1⟩,h2⟩:=h
  refine Tm.mO.2 ⟨fun hk=>?_,fun x hx=>ih x hx _ (h2 x hx)⟩
  subst hk
  simp [iT] at h1
  exact⟨h1.1.2,h1.2⟩
theorem Tm.aYQ{t:Tm}(h:t.valid=true):t.cv=true:=by simp only[Tm.valid,bG] at h;exact Tm.aWR t 30 h.1
theorem Tm.r0:∀(t:Tm),t.cv=true→t.wf=true:=by
 intro t
 induction t using Tm.ind with
 | h k n s ts ih=>
  intro h
  obtain⟨h1,h2⟩:=Tm.mO.1 h
  simp only[Tm.wf,O8,bG,kV,jI,d5,List.isEmpty_iff,dD]
  refine⟨?_,fun x hx=>ih x hx (h2 x hx)⟩
  by_cases hk:k=1
  · exact .inr (h1 hk).2
  · exact .inl hk
theorem Tm.aWS:∀(t:Tm) (d:Int),t.shape d=true→t.small=true:=by
 intro t
 induction t using Tm.ind with
 | h k n s ts ih=>
  intro d h
  rw[Tm.BU] at h
  simp only[bG,dD] at h
  obtain⟨⟨_,h1⟩,h2⟩:=h
  simp only[Tm.small,FR,bG,bK,dD]
  refine⟨?_,fun x hx=>ih x hx _ (h2 x hx)⟩
  unfold iT at h1
  cases h3:decide (k=1)<;>rw[h3] at h1
  · cases h4:decide (k=2)<;>rw[h4] at h1
    · cases h5:decide (k=3)<;>rw[h5] at h1<;>simp at h1;omega
    · simp at h1;rw[h1.2];simp
  · simp at h1;rw[h1.2];simp
theorem Tm.PJ{t:Tm}(h:t.valid=true):t.small=true:=by simp only[Tm.valid,bG] at h;exact Tm.aWS t 30 h.1
end Go.AW
namespace Go.AW
open Go.Proofs.Tryz
abbrev aXT:=zi aX (zi cD (zi cG (zi cI cK)))
theorem aNG(k n:Int)(s:ByteArray)(ts:List Tm)(st:aA):aD prog 211 [(Tm.mk k n s ts).av] st (fun r st'=>r=.bool (iT k n s ts.length)∧st'=st):=by
 refine wF [] 1 func211 ntmps211 rfl rfl ?_
 intro _
 simp only[bY]
 have hl:(ts.map Tm.av).length=ts.length:=aE _
 repeat' (first
  | (simp only[*,aB,seval,aXT])
  | (refine c5 (fun h=>?_) (fun h=>?_))
  | (refine(aOO s st).to ?_)
  | (refine bE (fun h=>?_) (fun h=>?_)))
 all_goals simp only[iT, *,cond_true,cond_false,fA,dH,eT,sS,yX]
abbrev I9:=zi aX (zi cD (zi cI cK))
theorem RP:∀(t:Tm) (d:Int) (st:aA),d≤30→-1≤d→aD prog 176 [t.av,.int .i64 d] st (fun r st'=>r=.bool (t.shape d)∧st'=st)
 | .mk k n s ts,d,st,hd,hd0=>by
  have hc:=fun(x:Tm) (hx:x∈ts) d st h h0=>RP x d st h h0
  have h1:=aNG k n s ts st
  rw[bY] at h1
  refine wF [] 2 func176 ntmps176 rfl rfl ?_
  simp only[bY,eF,AV.fits,eN,aE,Tm.BU]
  intro ⟨_,_,_,hl,_⟩
  generalize iT k n s ts.length=z at *
  simp only[aB,seval,I9]
  refine c5 (fun h=>?_) (fun h=>?_)
  case refine_2=>
   simp only[h,aB,seval]
   simp only[fM,bK] at h
   simp;omega
  simp only[h,aB,seval,I9]
  refine h1.to ?_
  simp only[aB,seval]
  refine⟨fun h2=>?_,fun h2=>?_⟩
  · simp only[aB,seval]
    simp only[jI] at h2
    simp [h2]
  simp only[rK,d5] at h2 h
  subst h2
  have hw:=bH (n:=d - 1)
  rw[show decide (1≤d)=true by simp;omega]
  simp only[aB,seval]
  refine CN (α:=Nat) [] (fun i=>i≤ts.length∧∀(j:Nat) x,j<i→ts[j]?=some x→x.shape (d - 1)=true)
   (fun i=>[(1,.int .i64 d),(2,.pptr (.agg [.int .i64 k,.int .i64 n,.str s,.slice (ts.map Tm.av)])),(5,.int .i64 i)]) (fun _=>st) (fun i=>ts.length - i) (by decide +kernel)
   ⟨0,⟨by omega,by intro j x h;omega⟩,aP.mk (by simp only[aB,↓a9,seval])⟩ ?_
  intro i ⟨hi,cZ⟩
  simp only[aE,aB,seval,I9]
  refine⟨fun h5=>?_,fun h5=>?_⟩
  case refine_2=>
   simp only[aB,seval]
   simp only[d5,qD] at h5
   rw[QN fun j x hx=>cZ j x (by have:=(gJ.1 hx).1;omega) hx]
  simp only[bK,qD] at h5
  obtain⟨x,hx⟩:∃x,ts[i]?=some x:=⟨_,d4 h5⟩
  simp only[bR (av:=Tm.av) cF hx (aQ x),bM,aQ,hw,aB,seval,I9]
  refine(hc x (cQ hx) (d - 1) st (by omega) (by omega)).to ?_
  simp only[aB,seval]
  refine⟨fun h6=>?_,fun h6=>?_⟩
  · simp only[aB,seval]
    simp only[jI] at h6
    rw[vD hx h6]
  simp only[rK] at h6
  simp only[aB,seval]
  refine⟨i+1,by omega,⟨by omega,fun j u hj hu=>?_⟩,aP.mk ?_⟩
  · rcases lM j i with h8 | h8
    · exact cZ j u h8 hu
    · obtain rfl:j=i:=by omega
      rw[hx] at hu;cases hu;exact h6
  · have:=bH (n:=(i:Int)+1)
    simp only[this,aB,seval]
termination_by t=>SizeOf.sizeOf t
decreasing_by have:=List.sizeOf_lt_of_mem hx;simp only[Tm.mk.sizeOf_spec];omega
abbrev OL:=zi aX (zi cI cK)
theorem RL:∀(t:Tm) (m:Int) (st:aA),0≤m→m≤120→aD prog 177 [t.av,.int .i64 m] st (fun r st'=>r=.int .i64 (min (t.nodes:Int) (m+1))∧st'=st)
 | .mk k n s ts,m,st,hm0,hm=>by
  have hc:=fun(x:Tm) (hx:x∈ts) m st h h0=>RL x m st h h0
  refine wF [] 2 func177 ntmps177 rfl rfl ?_
  simp only[bY,eF,AV.fits,eN,aE,Tm.gT]
  intro ⟨_,_,_,hl,_⟩
  simp only[aB,seval,OL]
  refine CN (α:=Nat) [] (fun i=>i≤ts.length)
   (fun i=>[(1,.int .i64 m),(2,.pptr (.agg [.int .i64 k,.int .i64 n,.str s,.slice (ts.map Tm.av)])),(5,.int .i64 (min ((1+bU Tm.nodes (ts.take i):Nat):Int) (m+1))),(6,.int .i64 i)]) (fun _=>st) (fun i=>ts.length - i) (by decide +kernel)
   ⟨0,by omega,aP.mk (by simp only[mK,bU,show min ((0:Int)+1) (m+1)=1 by omega,AE,↓Int.cast_ofNat_Int,↓reduceIte,reduceCtorEq,Nat.reduceEqDiff,Nat.reduceAdd])⟩ ?_
  intro i hi
  simp only[aE,aB,seval,OL]
  have M1:¬i<ts.length→bU Tm.nodes (ts.take i)=bU Tm.nodes ts:=fun h=>by rw[qG (by omega)]
  refine c5 (fun h5=>?_) (fun h5=>?_)
  case refine_2=>
   simp only[h5,aB,seval]
   simp only[fA,d5,qD] at h5
   rw[M1 h5]
  simp only[h5,aB,seval]
  simp only[bK,qD] at h5
  obtain⟨x,hx⟩:∃x,ts[i]?=some x:=⟨_,d4 h5⟩
  have hs:=I1 Tm.nodes hx
  refine⟨fun h6=>?_,fun h6=>?_⟩
  case refine_2=>
   simp only[aB,seval]
   simp only[d5] at h6
   simp only[AV.int.injEq,rE]
   omega
  simp only[bK] at h6
  have e6:min (((1+bU Tm.nodes (ts.take i):Nat):Int)) (m+1)=((1+bU Tm.nodes (ts.take i):Nat):Int):=by omega
  rw[e6] at h6 ⊢
  have hw:=bH (n:=m - ((1+bU Tm.nodes (ts.take i):Nat):Int))
  simp only[bR (av:=Tm.av) cF hx (aQ x),bM,aQ,hw,aB,seval,OL]
  refine(hc x (cQ hx) _ st (by omega) (by omega)).to ?_
  have hw2:=bH (n:=((1+bU Tm.nodes (ts.take i):Nat):Int)+min (x.nodes:Int) (m - ((1+bU Tm.nodes (ts.take i):Nat):Int)+1))
  simp only[hw2,aB,seval]
  refine⟨i+1,by omega,by omega,aP.mk ?_⟩
  have:=bH (n:=(i:Int)+1)
  simp only[this,show((1+bU Tm.nodes (ts.take i):Nat):Int)+min (x.nodes:Int) (m - ((1+bU Tm.nodes (ts.take i):Nat):Int)+1)=min ((1+bU Tm.nodes (ts.take (i+1)):Nat):Int) (m+1) by omega,aB,seval]
termination_by t=>SizeOf.sizeOf t
decreasing_by have:=List.sizeOf_lt_of_mem hx;simp only[Tm.mk.sizeOf_spec];omega
abbrev aHZ:=zi aX (zi cD (zi JH cK))
theorem LO(t:Tm)(st:aA):aD prog 139 [t.av] st (fun r st'=>r=.bool t.valid∧st'=st):=by
 refine wF [] 1 func139 ntmps139 rfl rfl ?_
 intro _
 simp only[cR,bM,aQ,aB,seval,aHZ]
 refine(RP t 30 st (by omega) (by omega)).to ?_
 simp only[aB,seval]
 refine c5 (fun h=>?_) (fun h=>?_)
 · simp only[h,bM,aQ,aB,seval,aHZ]
   refine(RL t 120 st (by omega) (by omega)).to ?_
   simp only[aB,seval]
   simp only[Tm.valid,h,dH,AV.bool.injEq,r5]
   omega
 · simp only[h,aB,seval]
   simp at h
   simp [Tm.valid,h]
abbrev aXR:=zi aX (zi cD (zi cG (zi cI cK)))
theorem RY(k n:Int)(s:ByteArray)(ts:List Tm)(st:aA):aD prog 196 [(Tm.mk k n s ts).av] st (fun r st'=>r=.bool (decide (k=3)&&decide (s=⟨#[33]⟩)&&decide ((ts.length:Int)=0))∧st'=st):=by
 refine wF [] 1 func196 ntmps196 rfl rfl ?_
 intro _
 simp only[bY]
 repeat' (first
  | (simp only[*,aB,seval,aXR])
  | (refine c5 (fun h=>?_) (fun h=>?_))
  | (refine bE (fun h=>?_) (fun h=>?_)))
 all_goals simp only[*,aE,eT]
def uM(k:Int)(s:ByteArray)(len:Int):Bool:=decide (k=3)&&vU s&& !isBuiltin s len&&decide ((dB s:Int)=0)
abbrev aXS:=zi aX (zi cD (zi cG (zi cI cK)))
theorem R5(k n:Int)(s:ByteArray)(ts:List Tm)(st:aA):aD prog 40 [(Tm.mk k n s ts).av] st (fun r st'=>r=.bool (uM k s (ts.length:Int))∧st'=st):=by
 refine wF [] 1 func40 ntmps40 rfl rfl ?_
 intro _
 simp only[bY]
 have hl:(ts.map Tm.av).length=ts.length:=aE _
 repeat' (first
  | (simp only[*,aB,seval,aXS])
  | (refine c5 (fun h=>?_) (fun h=>?_))
  | (refine(RT s st).to ?_) | (refine(LN s _ st).to ?_) | (refine(tO s st).to ?_)
  | (refine bE (fun h=>?_) (fun h=>?_)))
 all_goals simp_all [uM]
def AM(k:Int)(s:ByteArray)(len:Int):Bool:=(decide (k=3)&&decide (s=⟨#[33]⟩)&&decide (len=0))||uM k s len||(decide (k=3)&&isBuiltin s len)
abbrev aXQ:=zi aX (zi cD (zi cG (zi cI cK)))
theorem aNX(k n:Int)(s:ByteArray)(ts:List Tm)(st:aA):aD prog 175 [(Tm.mk k n s ts).av] st (fun r st'=>r=.bool (AM k s (ts.length:Int))∧st'=st):=by
 have h1:=RY k n s ts st
 have h2:=R5 k n s ts st
 rw[bY] at h1 h2
 refine wF [] 1 func175 ntmps175 rfl rfl ?_
 intro _
 simp only[bY]
 have hl:(ts.map Tm.av).length=ts.length:=aE _
 unfold AM
 generalize (decide (k=3)&&decide (s=⟨#[33]⟩)&&decide ((ts.length:Int)=0))=z1 at *
 generalize uM k s (ts.length:Int)=z2 at *
 repeat' (first
  | (simp only[*,aB,seval,aXQ])
  | (refine c5 (fun h=>?_) (fun h=>?_))
  | (refine h1.to ?_) | (refine h2.to ?_) | (refine(LN s _ st).to ?_)
  | (refine bE (fun h=>?_) (fun h=>?_)))
 all_goals (clear h1 h2;simp_all)


abbrev a0V:=zi aX (zi cD (zi cK aX3))
def Tm.goal:Tm→Bool
 | .mk k n s ts=>(Tm.mk k n s ts).valid&&AM k s ts.length
abbrev aH0:=zi cD cK
theorem SK:∀(t:Tm) (st:aA),aD prog 138 [t.av] st (fun r st'=>r=.bool t.goal∧st'=st)
 | .mk k n s ts,st=>by
  have h1:=LO (.mk k n s ts) st
  have h2:=aNX k n s ts st
  rw[show(Tm.mk k n s ts).goal=((Tm.mk k n s ts).valid&&AM k s ts.length) from rfl]
  generalize (Tm.mk k n s ts).valid=z at *
  rw[bY] at *
  refine wF [] 1 func138 ntmps138 rfl rfl ?_
  intro _
  simp only[aB,seval,aH0]
  refine h1.to ?_
  simp only[aB,seval]
  refine c5 (fun h=>?_) (fun h=>?_)
  · simp only[h,aB,seval,aH0]
    refine h2.to ?_
    simp only[aB,seval]
  · simp only[h,aB,seval]
    simp at h
    simp []
abbrev aH8:=zi aX (zi cI cK)
theorem aZG(l:List Tm)(g:FuncId)(fD:List AV)(p:Tm→Bool)(st:aA)(hc:∀x∈l,aD prog g ([Tm.av x]++fD) st (fun r st'=>r=.bool (p x)∧st'=st)) :
 aD prog 180 [.slice (l.map Tm.av),.func g fD] st (fun r st'=>∃j:Int,r=.int .i64 j∧decide (0≤j)=l.any p∧st'=st):=by
 refine wF [] 2 func180 ntmps180 rfl rfl ?_
 simp only[eF,AV.fits,eN,aE]
 intro ⟨hl,_⟩
 simp only[aE,aB,seval,aH8]
 refine d7 (σ:=Unit) [] [0,1,7] l (fun i _=>(l.drop i).any p=l.any p) (fun i _=>[(8,.int .i64 i)]) (fun _ _=>st) (by decide +kernel) ⟨(),rfl,aP.mk (by simp only[aB,↓a9,seval])⟩ (fun i x _ hx hlt bN hdr hinv=>?_) (fun _ hge hinv=>?_)
 case refine_2=>
  simp only[hge,aB,seval]
  rw[o9] at hinv
  exact⟨-1,rfl,by rw[←hinv];try rfl⟩
 rw[hdr,List.any_cons] at hinv
 have hw:=bH (n:=(i:Int)+1)
 simp only[bN,bR (av:=Tm.av) cF hx (aQ x),bM,aQ,aB,seval,aH8]
 refine(hc x (cQ hx)).to ?_
 simp only[aB,seval]
 refine bE (fun h=>?_) (fun h=>?_)
 · simp only[aB,seval]
   exact⟨i,rfl,by rw[←hinv,h];simp⟩
 · rw[h,rJ] at hinv
   simp only[aB,seval]
   exact⟨(),hinv,aP.mk (by simp only[hw,aB,seval])⟩
def eR(l:List Tm):Bool:=decide (l.length≤6)&&l.all Tm.goal
abbrev JE:=zi aX (zi cD (zi cI cK))
theorem DW(l:List Tm)(st:aA):aD prog 244 [.slice (l.map Tm.av)] st (fun r st'=>r=.bool (eR l)∧st'=st):=by
 refine wF [] 1 func244 ntmps244 rfl rfl ?_
 simp only[eF,AV.fits,eN,aE]
 intro ⟨hl,_⟩
 simp only[aB,seval]
 refine d7 (σ:=Unit) [] [0] l (fun i _=>i≤7∧(l.take i).all Tm.goal=true) (fun i _=>[(3,.int .i64 i)]) (fun _ _=>st) (by decide +kernel) ⟨(),⟨by omega,by simp⟩,aP.mk (by simp only[aB,↓a9,seval])⟩ (fun i x _ hx hlt bN hdr hinv=>?_) (fun _ hge hinv=>?_)
 case refine_2=>
  obtain⟨i1,i2⟩:=hinv
  rw[dR] at i2
  simp only[aE,hge,aB,seval,JE]
  simp only[eR,i2,yX,AV.bool.injEq,r5]
  omega
 obtain⟨i1,i2⟩:=hinv
 have hw:=bH (n:=(i:Int)+1)
 simp only[aE,bN,aB,seval,JE]
 refine bE (fun h=>?_) (fun h=>?_)
 case refine_2=>
  simp only[d5] at h
  simp only[aE,aB,seval,JE]
  simp only[eR,AV.bool.injEq]
  rw[show decide (l.length≤6)=false by simp;omega,show decide ((l.length:Int)≤6)=false by simp;omega]
  try rfl
 simp only[bK] at h
 simp only[bR (av:=Tm.av) cF hx (aQ x),bM,aQ,aB,seval,JE]
 refine(SK x st).to ?_
 simp only[aB,seval]
 refine bE (fun h2=>?_) (fun h2=>?_)
 · simp only[jI] at h2
   simp only[aB,seval]
   have:l.all Tm.goal=false:=vD hx h2
   simp only[eR,this,sS]
 · simp only[rK] at h2
   simp only[aB,seval]
   refine⟨(),⟨by omega,?_⟩,aP.mk (by simp only[hw,aB,seval])⟩
   rw[eD,hx,yY,i2]
   simp [h2]



abbrev Bt:=Fin 256
def a7(b:Bt):AV:=.int .u8 (b.val:Int)
theorem GY(b:Bt):(a7 b).width=1:=rfl
def fC(st:aA)(c:Nat)(bs:List Bt)(p:Nat):Prop:=st c=some (.cells [.slice (bs.map a7),.int .i64 (p:Int)])
def fK(bs:List Bt)(p:Nat):AO:=.cells [.slice (bs.map a7),.int .i64 (p:Int)]
theorem O6(a b:Nat):(a:Int).tmod (b:Int)=((a % b:Nat):Int):=(Int.ofNat_tmod a b).symm
theorem aHQ(a b:Nat):(a:Int).tdiv (b:Int)=((a / b:Nat):Int):=(Int.ofNat_tdiv a b).symm
theorem aKK(a b:Nat)(ha:a<2 ^ 62)(hb:b<2 ^ 62):∃m:Nat,DL .i64 (a:Int) (b:Int)=(m:Int):=by
 have hx:=Nat.xor_lt_two_pow ha hb
 refine⟨a ^^^ b,?_⟩
 unfold DL
 show IntKind.i64.wrap (((BitVec.ofInt 64 (a:Int) ^^^ BitVec.ofInt 64 (b:Int)).toNat:Nat):Int)=_
 rw[J4,J4,BitVec.toNat_xor,J5,J5,CV (by omega),CV (by omega)]
 rw[wrap64 (by omega) (by omega)]
abbrev FA:=zi aX (zi gE (zi f0 (zi rD O2)))
theorem tP(bs:List Bt)(c p:Nat)(hp:p≤1099511627776)(n:Nat)(hn:1≤n)(hn2:n≤1048576)(st:aA)(h:fC st c bs p) :
 aD prog 30 [.ptr c 0,.int .i64 (n:Int)] st (fun r st'=>∃k:Nat,k<n∧r=.int .i64 (k:Int)∧st'=st.aC c (fK bs (p+1))):=by
 unfold fC at h
 refine wF [1000000] 2 func30 ntmps30 rfl rfl ?_
 intro _
 have hw1:IntKind.i64.wrap ((p:Int)+1)=(p:Int)+1:=wrap64 (by omega) (by omega)
 simp only[aG,h,hw1,aB,seval,FA]
 have hn1:¬(n:Int)<1:=by omega
 have hw2:IntKind.i64.wrap ((p:Int)+1 - 1)=(p:Int):=by rw[wrap64 (by omega) (by omega)];omega
 have hst:∀(q:aA),q c=some (.cells [.slice (bs.map a7),.int .i64 ((p:Int)+1)])→True:=fun _ _=>trivial
 have hrd:fK bs (p+1)=.cells [.slice (bs.map a7),.int .i64 ((p:Int)+1)]:=by simp [fK]
 rw[hrd]
 refine c5 (fun h1=>?_) (fun h1=>?_)
 case refine_2=>simp [hn1] at h1
 simp only[a8,eO,hn1,aE,aB,seval,FA]
 refine bE (fun h2=>?_) (fun h2=>?_)
 · simp only[aB,seval]
   exact⟨0,by omega,rfl⟩
 simp only[hw2,aE,aB,seval,FA]
 have hbl:bs.length≠0:=by simpa using h2
 refine bE (fun h3=>?_) (fun h3=>?_)
 · simp only[bK] at h3
   obtain⟨x,hx⟩:∃x,bs[p]?=some x:=⟨_,d4 (by omega)⟩
   have hx2:=x.isLt
   have hb1:IntKind.i64.wrap (x.val:Int)=(x.val:Int):=wrap64 (by omega) (by omega)
   have hn0:¬(n:Int)=0:=by omega
   have EE:dP prog 22 (.slice (bs.map a7)) (.int .i64 (p:Int))=some (.pptr (.int .u8 x.val)):=bR (av:=a7) eV hx (GY x)
   simp only[EE,kJ,hb1,hn0,aB,seval,FA]
   exact⟨x.val % n,sX _ (by omega),by rw[O6]⟩
 · simp only[d5] at h3
   obtain⟨x,hx⟩:∃x,bs[p % bs.length]?=some x:=⟨_,d4 (sX _ (by omega))⟩
   obtain⟨y,hy⟩:∃y,bs[(p*7+3) % bs.length]?=some y:=⟨_,d4 (sX _ (by omega))⟩
   have hx2:=x.isLt
   have hy2:=y.isLt
   have hl0:¬(bs.length:Int)=0:=by omega
   simp only[aB,seval]
   refine CL [(0,1),(1,1),(2,1),(3,1),(4,1),(5,1),(6,1),(7,1),(8,1),(9,1),(10,1),(11,1),(12,1),(13,1),(14,1),(15,1),(16,1),(17,1),(18,1),(19,1),(20,1),(21,1),(22,1),(23,1),(24,1),(25,1),(26,1),(27,1),(28,1),(29,1),(30,1),(31,1),(32,1),(33,1),(34,1),(35,1),(36,1),(37,1),(38,1),(39,1),(40,1),(41,1),(42,1),(43,1),(44,1),(45,1)] [0,1,2,3,4,5,6,7,8,9,10,11,12,13,14,15,16,17,18,19,20,21,22,23,24,25,26,27,28,29,30,31,32,33,34,35,36,37,38,39,40,41,42,43,44,45] (dW.aC c (.cells [.slice (bs.map a7),.int .i64 ((p:Int)+1)])) mixed (by decide +kernel) (by decide +kernel) (by decide +kernel) rfl (lP (aA.aK _ _ _)) ?_
   have e7:IntKind.i64.wrap ((p:Int)*7)=(p:Int)*7:=wrap64 (by omega) (by omega)
   have e8:IntKind.i64.wrap ((p:Int)*7+3)=(p:Int)*7+3:=wrap64 (by omega) (by omega)
   have e9:((p:Int)*7+3).tmod (bs.length:Int)=(((p*7+3) % bs.length:Nat):Int):=by rw[←O6];congr 1
   have f1:IntKind.i64.wrap ((x.val:Int)*131)=(x.val:Int)*131:=wrap64 (by omega) (by omega)
   have f2:IntKind.i64.wrap ((y.val:Int)*1117)=(y.val:Int)*1117:=wrap64 (by omega) (by omega)
   have f3:IntKind.i64.wrap ((x.val:Int)*131+(y.val:Int)*1117)=(x.val:Int)*131+(y.val:Int)*1117:=wrap64 (by omega) (by omega)
   have f4:IntKind.i64.wrap ((p:Int)*29)=(p:Int)*29:=wrap64 (by omega) (by omega)
   have f5:IntKind.i64.wrap ((x.val:Int)*131+(y.val:Int)*1117+(p:Int)*29)=(x.val:Int)*131+(y.val:Int)*1117+(p:Int)*29:=wrap64 (by omega) (by omega)
   have hb1:IntKind.i64.wrap (x.val:Int)=(x.val:Int):=wrap64 (by omega) (by omega)
   have hb2:IntKind.i64.wrap (y.val:Int)=(y.val:Int):=wrap64 (by omega) (by omega)
   generalize hjx:p % bs.length=jx at *
   generalize hjy:(p*7+3) % bs.length=jy at *
   have e10:(p:Int).tmod (bs.length:Int)=(jx:Int):=by rw[O6,hjx]
   have EE:dP prog 22 (.slice (bs.map a7)) (.int .i64 (jx:Int))=some (.pptr (.int .u8 x.val)):=bR (av:=a7) eV hx (GY x)
   have MW:dP prog 22 (.slice (bs.map a7)) (.int .i64 (jy:Int))=some (.pptr (.int .u8 y.val)):=bR (av:=a7) eV hy (GY y)
   have hdv:p / bs.length≤p:=Nat.div_le_self _ _
   generalize hq:p / bs.length=q at *
   have hqq:IntKind.i64.wrap ((p:Int).tdiv (bs.length:Int))=(q:Int):=by rw[aHQ,hq,wrap64 (by omega) (by omega)]
   have f6:IntKind.i64.wrap ((q:Int)*53)=(q:Int)*53:=wrap64 (by omega) (by omega)
   obtain⟨z,hz,hz2⟩:∃z:Nat,(x.val:Int)*131+(y.val:Int)*1117+(p:Int)*29+(q:Int)*53=(z:Int)∧z<2 ^ 61:=⟨x.val*131+y.val*1117+p*29+q*53,by omega,by omega⟩
   have f7:IntKind.i64.wrap ((x.val:Int)*131+(y.val:Int)*1117+(p:Int)*29+(q:Int)*53)=(z:Int):=by rw[hz];exact wrap64 (by omega) (by omega)
   have a0P:z / 64≤z:=Nat.div_le_self _ _
   obtain⟨m,hm⟩:=aKK z (z / 64) (by omega) (by omega)
   have f8:IntKind.i64.wrap ((z:Int).tdiv 64)=((z / 64:Nat):Int):=by rw[show(64:Int)=((64:Nat):Int) from rfl,aHQ,wrap64 (by omega) (by omega)]
   generalize z / 64=z2 at *
   have hn0:¬(n:Int)=0:=by omega
   simp only[aE,hl0,e7,e8,e9,e10,f1,f2,f3,f4,f5,f6,f7,f8,hm,hn0,EE,MW,hb1,hb2,hqq,kJ,aB,seval,FA]
   exact⟨m % n,sX _ (by omega),rfl⟩
abbrev aHT:=zi aX (zi kT rD)
theorem aOH(l:List Int)(h1:1≤l.length)(h2:l.length≤1048576)(bs:List Bt)(c p:Nat)(hp:p≤1099511627776)(st:aA)(h:fC st c bs p) :
 aD prog 99 [.ptr c 0,.slice (l.map iv)] st (fun r st'=>∃x∈l,r=.int .i64 x∧st'=st.aC c (fK bs (p+1))):=by
 refine wF [1000000] 2 func99 ntmps99 rfl rfl ?_
 intro _
 simp only[aE,aB,seval,aHT]
 refine(tP bs c p hp l.length h1 h2 st h).mono ?_
 rintro _ _ ⟨k,hk,rfl,rfl⟩
 obtain⟨x,hx⟩:∃x,l[k]?=some x:=⟨_,d4 hk⟩
 have hat:=bR (av:=iv) pO hx rfl
 simp only[hat,aB,seval,aHT]
 exact⟨x,cQ hx,rfl⟩
theorem DV(l:List Int)(h1:1≤l.length)(h2:l.length≤1048576)(bs:List Bt)(c p:Nat)(hp:p≤1099511627776)(st:aA)(h:fC st c bs p) :
 aD prog 99 [.ptr c 0,.fslice (l.map iv)] st (fun r st'=>∃x∈l,r=.int .i64 x∧st'=st.aC c (fK bs (p+1))):=
 aD.nY (by simp only[fT,AV.soft];exact aOH l h1 h2 bs c p hp st h)
abbrev OF:=zi aX (zi f0 (zi rD O2))
theorem aM9(bs:List Bt)(st:aA):aD prog 28 [.slice (bs.map a7)] st (fun r st'=>∃c bs',r=.ptr c 0∧st c=none∧st'=st.aC c (fK bs' 0)):=by
 refine wF [1000000,10] 1 func28 ntmps28 rfl rfl ?_
 simp only[eF,AV.fits,eN,aE]
 intro ⟨hl,_⟩
 have hs:bs.length>2000→∀φ,fJ prog φ 22 (.slice (bs.map a7)) none (some (.const (.int .i64 2000))) none=some (.slice ((bs.take 2000).map a7)):=fun h φ=>by
  have h2:((0:Int)≤2000∧(2000:Int)≤(bs.map a7).length):=⟨by omega,by rw[aE];omega⟩
  have h3:cU φ (some (.const (.int .i64 2000))) (bs.map a7).length (bs.map a7).length=some 2000:=by
   show(if((0:Int)≤2000∧(2000:Int)≤(bs.map a7).length) then some (Int.toNat 2000) else none)=some 2000
   exact aN h2
  unfold fJ l5
  rw[aH (by simp [nO])]
  simp only[eV]
  have h4:cU φ none (bs.map a7).length (bs.map a7).length=some (bs.map a7).length:=rfl
  rw[h4]
  simp only[h3]
  have h5:cU φ none 0 2000=some 0:=rfl
  rw[h5]
  simp
 simp only[aE,aB,seval,OF]
 refine bE (fun h=>?_) (fun h=>?_)
 · simp only[bK] at h
   have hs':=hs (by omega)
   simp only[hs',aB,seval,OF]
   intro b hb
   exact⟨b,bs.take 2000,rfl,hb,by simp [fK]⟩
 · simp only[aB,seval,OF]
   intro b hb
   exact⟨b,bs,rfl,hb,by simp [fK]⟩
abbrev aXO:=zi aX cK
theorem RR(n:Int)(st:aA):aD prog 108 [.int .i64 n] st (fun r st'=>r=(vr n).av∧st'=st):=by
 refine aD.done ?_
 refine wF [1000000] 1 func108 ntmps108 rfl rfl ?_
 intro _
 simp only[aG,aB,seval,aXO]
 intro b hb
 exact⟨by simp only[vr,bY,jF,jG,mZ,mY,bF,bD],(aJ.refl _).aC hb⟩
abbrev aXP:=zi FL (zi aX cK)
theorem LE(n:Int)(st:aA):aD prog 109 [.int .i64 n] st (fun r st'=>r=(Tm.mk 2 n ⟨#[]⟩ []).av∧st'=st):=by
 refine aD.done ?_
 refine wF [1000000] 1 func109 ntmps109 rfl rfl ?_
 intro _
 simp only[aG,aB,seval,aXP]
 intro b hb
 exact⟨by simp only[bY,jF,jG,mZ,mY,bF,bD],(aJ.refl _).aC hb⟩
abbrev aHS:=zi aX (zi cG (zi cI cK))
theorem aNL(s:ByteArray)(l:List Tm)(hl:l.length≤1048576)(st:aA):aD prog 57 [.str s,.slice (l.map Tm.av)] st (fun r st'=>r=(Tm.mk 3 0 s l).av∧st'=st):=by
 refine aD.kK (aD.fin ?_)
 refine wF [1000000] 2 func57 ntmps57 rfl rfl ?_
 intro _
 simp only[aB,seval,aHS]
 intro b hb
 change i8 prog 25 (aU (st.aC b (.cells [.int .i64 0,.int .i64 0,.str ⟨#[]⟩,.fslice []])) 0 []) (bQ 4 0 []) (.slice (l.map Tm.av)) _
 refine eE cF kL kM rfl rfl (by intro e he;simp only[cL] at he;obtain⟨t,_,rfl⟩:=he;exact⟨aQ _,cO _⟩) (by simp) (fun h=>absurd rfl h) (by simp only[aW,aE];omega) (by simp only[aW,aE];omega) (fun b' hb'=>?_)
 rw[dI] at hb' ⊢
 have hne:l.map Tm.av≠[]→b≠b':=fun h e=>by have:=hb' h;rw[←e,aA.aK] at this;cases this
 have h1:aU (st.aC b (.cells [.int .i64 0,.int .i64 0,.str ⟨#[]⟩,.fslice []])) b' (l.map Tm.av) b=some (.cells [.int .i64 0,.int .i64 0,.str ⟨#[]⟩,.fslice []]):=by
  by_cases h:l.map Tm.av= []
  · rw[h,rT,aA.aK]
  · rw[tF (hne h),aA.aK]
 simp only[aG,h1,nG,iM,jL,aB,seval,aHS]
 rw[nF hne,d3]
 exact⟨b',l.map Tm.av,st.aC b _,rfl,fun h=>by rw[aA.aO _ _ (dM (hne h))];have:=hb' h;rwa [aA.aO _ _ (dM (hne h))] at this,n8 _,⟨4,gF _⟩,by simp only[bY,fE,fX,qQ,jD,bF,bD],(aJ.refl _).aC hb⟩
theorem G2(s:ByteArray)(l:List Tm)(hl:l.length≤1048576)(st:aA):aD prog 57 [.str s,.fslice (l.map Tm.av)] st (fun r st'=>r=(Tm.mk 3 0 s l).av∧st'=st):=
 aD.nY (by simp only[fT,AV.soft];exact aNL s l hl st)
abbrev Dn (t:Tm):Prop:=t.cv=true∧t.small=true
theorem aPG(n:Int):Dn (vr n):=by
 refine⟨Tm.mO.2 ⟨fun _=>⟨rfl,rfl⟩,fun x hx=>by cases hx⟩,?_⟩
 simp [vr,Tm.small,FQ]
theorem SZ{k n:Int}{s:ByteArray}{ts:List Tm}(hk:k≠1)(hl:ts.length≤1048576)(h:∀x∈ts,Dn x):Dn (.mk k n s ts):=by
 refine⟨Tm.mO.2 ⟨fun h=>absurd h hk,fun x hx=>(h x hx).1⟩,?_⟩
 simp only[Tm.small,FR,bG,bK,dD]
 exact⟨hl,fun x hx=>(h x hx).2⟩
def Dr(bs:List Bt)(c p m:Nat)(st:aA)(Q:AV→Prop)(r:AV)(st':aA):Prop:=∃p',p≤p'∧p'≤p+m∧st'=st.aC c (fK bs p')∧Q r
theorem fC.aC{st:aA}{c p:Nat}{bs:List Bt}{b:Nat}{o:AO}(h:fC st c bs p)(hb:b≠c):fC (st.aC b o) c bs p:=by unfold fC;rw[aA.aO _ _ (dM hb)];exact h
theorem fC.new{st:aA}{c p:Nat}{bs:List Bt}:fC (st.aC c (fK bs p)) c bs p:=aA.aK _ _ _
theorem fC.ne{st:aA}{c p:Nat}{bs:List Bt}{b:Nat}(h:fC st c bs p)(hb:st b=none):b≠c:=by rintro rfl;rw[fC,hb] at h;cases h
def nI(s:ByteArray)(a:Int)(p:UInt8→Bool):Bool:=decide (0≤a)&&(decide (a<(s.size:Int))&&(match (sb s)[a.toNat]? with | some x=>p x | none=>false))
def v7(s:ByteArray)(a:Int)(c:Nat):Bool:=nI s a fun x=>decide (x.toNat=c)
def vJ(s:ByteArray)(a:Int):Bool:=nI s a fun x=>decide (48≤x.toNat)&&decide (x.toNat≤57)
def v8(s:ByteArray)(a:Int):Bool:=nI s a kC
theorem tM{s:ByteArray}{n:Nat}(h:n<s.size):∃x,(sb s)[n]?=some x:=⟨_,d4 (by rw[bX];exact h)⟩
abbrev aIB:=zi aX (zi cD (zi gE cG))
theorem aNI(s:ByteArray)(a:Int)(c:Nat)(st:aA):aD prog 130 [.str s,.int .i64 a,.int .u8 (c:Int)] st (fun r st'=>r=.bool (v7 s a c)∧st'=st):=by
 by_cases h:0≤a∧a<(s.size:Int)
 · obtain⟨n,rfl⟩:=uY h.1
   obtain⟨x,hx⟩:=tM (s:=s) (n:=n) (by omega)
   have hix:=pS (P:=prog) (t:=9) oA hx
   have hv:v7 s (n:Int) c=decide (x.toNat=c):=by simp only[v7,nI,fV,hx,d6 h.1,d6 h.2,dH]
   rw[hv]
   refine wF [1000000] 3 func130 ntmps130 rfl rfl ?_
   intro _
   repeat' (first
    | (simp only[*,aB,seval,aIB])
    | (refine c5 (fun h=>?_) (fun h=>?_))
    | (refine bE (fun h=>?_) (fun h=>?_)))
   all_goals simp_all
   omega
 · by_cases h1:0≤a
   · have h2:¬a<(s.size:Int):=fun h2=>h ⟨h1,h2⟩
     have hv:v7 s a c=false:=by simp only[v7,nI,eH h2,eT,sS]
     rw[hv]
     clear hv h
     refine wF [1000000] 3 func130 ntmps130 rfl rfl ?_
     intro _
     simp only[h1,h2,aV,a8,aB,seval,aIB]
   · have hv:v7 s a c=false:=by simp only[v7,nI,eH h1,eT]
     rw[hv]
     clear hv h
     refine wF [1000000] 3 func130 ntmps130 rfl rfl ?_
     intro _
     simp only[h1,a8,aB,seval]
abbrev aIC:=zi aX (zi cD (zi gE cG))
theorem aNB(s:ByteArray)(a:Int)(st:aA):aD prog 206 [.str s,.int .i64 a] st (fun r st'=>r=.bool (vJ s a)∧st'=st):=by
 by_cases h:0≤a∧a<(s.size:Int)
 · obtain⟨n,rfl⟩:=uY h.1
   obtain⟨x,hx⟩:=tM (s:=s) (n:=n) (by omega)
   have hix:=pS (P:=prog) (t:=9) oA hx
   have hv:vJ s (n:Int)=(decide (48≤x.toNat)&&decide (x.toNat≤57)):=by simp only[vJ,nI,fV,hx,d6 h.1,d6 h.2,dH]
   rw[hv]
   refine wF [1000000] 2 func206 ntmps206 rfl rfl ?_
   intro _
   repeat' (first
    | (simp only[*,aB,seval,aIC])
    | (refine c5 (fun h=>?_) (fun h=>?_))
    | (refine bE (fun h=>?_) (fun h=>?_)))
   all_goals clear hix hv hx
   all_goals (congr 1;rw[F0];simp only[bG,bK,d5,fA,iA,false_iff,not_and] at *;omega)
 · by_cases h1:0≤a
   · have h2:¬a<(s.size:Int):=fun h2=>h ⟨h1,h2⟩
     have hv:vJ s a=false:=by simp only[vJ,nI,eH h2,eT,sS]
     rw[hv]
     clear hv h
     refine wF [1000000] 2 func206 ntmps206 rfl rfl ?_
     intro _
     simp only[h1,h2,aV,a8,aB,seval,aIC]
   · have hv:vJ s a=false:=by simp only[vJ,nI,eH h1,eT]
     rw[hv]
     clear hv h
     refine wF [1000000] 2 func206 ntmps206 rfl rfl ?_
     intro _
     simp only[h1,a8,aB,seval]
abbrev aID:=zi aX (zi cD (zi gE cG))
theorem aNK(s:ByteArray)(a:Int)(st:aA):aD prog 228 [.str s,.int .i64 a] st (fun r st'=>r=.bool (v8 s a)∧st'=st):=by
 by_cases h:0≤a∧a<(s.size:Int)
 · obtain⟨n,rfl⟩:=uY h.1
   obtain⟨x,hx⟩:=tM (s:=s) (n:=n) (by omega)
   have hix:=pS (P:=prog) (t:=9) oA hx
   have hv:v8 s (n:Int)=(decide (97≤x.toNat)&&decide (x.toNat≤122)):=by simp only[v8,nI,kC,fV,hx,d6 h.1,d6 h.2,dH]
   rw[hv]
   refine wF [1000000] 2 func228 ntmps228 rfl rfl ?_
   intro _
   repeat' (first
    | (simp only[*,aB,seval,aID])
    | (refine c5 (fun h=>?_) (fun h=>?_))
    | (refine bE (fun h=>?_) (fun h=>?_)))
   all_goals clear hix hv hx
   all_goals (congr 1;rw[F0];simp only[bG,bK,d5,fA,iA,false_iff,not_and] at *;omega)
 · by_cases h1:0≤a
   · have h2:¬a<(s.size:Int):=fun h2=>h ⟨h1,h2⟩
     have hv:v8 s a=false:=by simp only[v8,nI,eH h2,eT,sS]
     rw[hv]
     clear hv h
     refine wF [1000000] 2 func228 ntmps228 rfl rfl ?_
     intro _
     simp only[h1,h2,aV,a8,aB,seval,aID]
   · have hv:v8 s a=false:=by simp only[v8,nI,eH h1,eT]
     rw[hv]
     clear hv h
     refine wF [1000000] 2 func228 ntmps228 rfl rfl ?_
     intro _
     simp only[h1,a8,aB,seval]
end Go.AW
namespace Go.AW
abbrev ba (l:List UInt8):ByteArray:=⟨⟨l⟩⟩
def cV(x:UInt8):Bool:=decide (48≤x.toNat)&&decide (x.toNat≤57)
def rH(x:UInt8):Bool:=decide (65≤x.toNat)&&decide (x.toNat≤90)
def cA(l:List UInt8)(n c:Nat):Bool:=match l[n]? with | some x=>decide (x.toNat=c) | none=>false
def eK(l:List UInt8)(n:Nat)(p:UInt8→Bool):Bool:=match l[n]? with | some x=>p x | none=>false
def l8(l:List UInt8):Nat:=l.foldl (fun n x=>n*10+(x.toNat - 48)) 0
def fR(l:List UInt8):Nat×Bool:=if l.length=0∨(cA l 0 48=true∧1<l.length) then(0,false) else(l8 l,true)
def sI(l:List UInt8)(a:Nat):Option (Int×Nat):=
 let f:=if cA l a 45 then a+1 else a
 let t:=((l.drop f).takeWhile cV).take 4
 if(fR t).2=false∨(a<f∧(fR t).1=0)∨999<(fR t).1 then none else some (if a<f then -((fR t).1:Int) else((fR t).1:Int),f+t.length)
def iN(l:List UInt8)(b g:ByteArray):ByteArray:=if l.take g.size=sb g∧b.size<g.size then g else b
def mW(l:List UInt8)(a:Nat):Option (ByteArray×Nat):=
 let t:=(l.drop a).takeWhile kC
 if 6<t.length then none else if 0<t.length then some (ba t,a+t.length)
 else let b:=iJ.foldl (iN (l.drop a)) ⟨#[]⟩
  if b.size=0 then none else some (b,a+b.size)
theorem SY{l:List UInt8}{i:Nat}{x:UInt8}(h:l[i]?=some x):l8 (l.take (i+1))=l8 (l.take i)*10+(x.toNat - 48):=by
 simp [l8,eD,h,GA]
theorem SX:∀(l:List UInt8) (n:Nat),(∀x∈l,cV x=true)→l.foldl (fun n x=>n*10+(x.toNat - 48)) n+1≤(n+1)*10 ^ l.length
 | [],n,_=>by simp
 | x::l,n,h=>by
  have hx:=h x (by simp)
  simp only[cV,bG,bK] at hx
  have:=SX l (n*10+(x.toNat - 48)) (fun y hy=>h y (by simp [hy]))
  simp only[sU,aY,Nat.pow_succ]
  refine lL this ?_
  rw[Nat.mul_comm (10 ^ l.length) 10,←Nat.mul_assoc]
  exact u9 _ (by omega)
theorem LY{l:List UInt8}(h:∀x∈l,cV x=true):l8 l<10 ^ l.length:=Nat.lt_of_succ_le (by have:=SX l 0 h;simpa [l8] using this)
theorem aWQ(s:ByteArray)(a b:Nat):sb (s.extract a b)=((sb s).drop a).take (b - a):=by
 simp only[sb,ByteArray.data_extract,Array.toList_extract,List.extract_eq_take_drop]
theorem aLW{g:ByteArray}(h:g.size=0):g=⟨#[]⟩:=by
 obtain⟨⟨l⟩⟩:=g
 have:l.length=0:=h
 rw[List.length_eq_zero_iff.1 this]
theorem QW(s:ByteArray):ba (sb s)=s:=rfl
theorem DQ(s:ByteArray)(a b:Nat):s.extract a b=ba (((sb s).drop a).take (b - a)):=by rw[←aWQ]
theorem mR{l:List UInt8}{n c:Nat}(h:cA l n c=true):n<l.length:=by
 unfold cA at h
 rcases lM n l.length with h1 | h1
 · exact h1
 · rw[rN h1] at h;cases h
theorem aT3{l:List UInt8}{n:Nat}{p:UInt8→Bool}(h:eK l n p=true):n<l.length:=by
 unfold eK at h
 rcases lM n l.length with h1 | h1
 · exact h1
 · rw[rN h1] at h;cases h
theorem qV{l:List UInt8}{n c:Nat}{x:UInt8}(h:l[n]?=some x):cA l n c=decide (x.toNat=c):=by simp only[cA,h]
theorem uG{l:List UInt8}{n:Nat}{p:UInt8→Bool}{x:UInt8}(h:l[n]?=some x):eK l n p=p x:=by simp only[eK,h]
theorem aFW{l:List UInt8}(h:∀x∈l,cV x=true)(hl:l.length≤4):(fR l).1<10000:=by
 unfold fR
 split
 · simp
 · exact sW (LY h) (lL (Nat.pow_le_pow_right (by omega) hl) (by decide))
theorem PC{p:UInt8→Bool}{l:List UInt8}{i:Nat}(hi:i≤(l.takeWhile p).length)(h:eK l i p=true):i<(l.takeWhile p).length:=by
 induction l generalizing i with
 | nil=>simp [eK] at h
 | cons x l ih=>
  cases i with
  | zero=>simp [eK] at h;simp [CT,h]
  | succ i=>
   rw[CT] at hi ⊢
   split at hi
   · rename_i hx
     rw[aN hx]
     simp only[aY] at hi ⊢
     have:=ih (i:=i) (by omega) (by simpa [eK] using h)
     omega
   · simp at hi
theorem PB{p:UInt8→Bool}{l:List UInt8}{i:Nat}(hi:i≤(l.takeWhile p).length)(h:eK l i p=false):i=(l.takeWhile p).length:=by
 induction l generalizing i with
 | nil=>simp at hi;simp [hi]
 | cons x l ih=>
  cases i with
  | zero=>simp [eK] at h;simp [CT,h]
  | succ i=>
   rw[CT] at hi ⊢
   split at hi
   · rename_i hx
     rw[aN hx]
     simp only[aY] at hi ⊢
     have:=ih (i:=i) (by omega) (by simpa [eK] using h)
     omega
   · simp at hi
theorem aI3(p:UInt8→Bool)(l:List UInt8):l.take (l.takeWhile p).length=l.takeWhile p:=by
 induction l with
 | nil=>rfl
 | cons x l ih=>
  rw[CT]
  split
  · simp [ih]
  · rfl
theorem A7(l:List UInt8)(a i:Nat)(p:UInt8→Bool):eK (l.drop a) i p=eK l (a+i) p:=by simp only[eK,KB]
theorem aI1{p:UInt8→Bool}{l:List UInt8}:∀x∈l.takeWhile p,p x=true:=by
 induction l with
 | nil=>simp
 | cons y l ih=>
  rw[CT]
  split
  · rename_i h;intro x hx;simp only[cT] at hx;rcases hx with rfl | hx;exact h;exact ih x hx
  · simp
theorem aI2{p:UInt8→Bool}{l:List UInt8}{k:Nat}(hk:k≤(l.takeWhile p).length):l.take k=(l.takeWhile p).take k:=by
 rw[←aI3 p l,GE,oE hk]
theorem FT(p:UInt8→Bool)(l:List UInt8):(l.takeWhile p).length≤l.length:=(List.takeWhile_sublist p).length_le
theorem QX(L:List UInt8):∀(gs:List ByteArray) (b:ByteArray),b.size≤3→(∀g∈gs,g.size≤3)→(gs.foldl (iN L) b).size≤3
 | [],b,h,_=>h
 | g::gs,b,h,hg=>by
  rw[sU]
  refine QX L gs _ ?_ fun x hx=>hg x (by simp [hx])
  unfold iN
  split
  · exact hg g (by simp)
  · exact h
theorem aG4:∀g∈iJ,g.size≤3:=by decide
theorem aLZ(L:List UInt8)(i:Nat):((iJ.take i).foldl (iN L) ⟨#[]⟩).size≤3:=QX L _ _ (by decide) fun g hg=>aG4 g (mJ hg)
end Go.AW
namespace Go.AW
open Go.Proofs.Tryz
theorem E8{φ:AF}{y z:Operand}{s:ByteArray}{k m:Nat}(h:φ.eval y=.int .i64 (k:Int))(h':φ.eval z=.int .i64 (m:Int))(hk:k≤m)(hm:m≤s.size):fJ prog φ 9 (.str s) (some y) (some z) none=some (.str (s.extract k m)):=by
 unfold fJ l5
 rw[aH (by simp [nO])]
 simp only[show prog.underlying 9=some .string from oA,cU,h,h']
 rw[aN (by omega)]
 simp only[fV]
 rw[aN (by omega)]
 try simp
theorem K4(s:ByteArray)(n:Nat)(p:UInt8→Bool):nI s (n:Int) p=eK (sb s) n p:=by
 unfold nI eK
 rw[fV]
 by_cases h:n<s.size
 · rw[d6 (by omega:(0:Int)≤(n:Int)),d6 (by omega:(n:Int)<(s.size:Int))];try rfl
 · rw[eH (by omega:¬(n:Int)<(s.size:Int)),rN (by rw[bX];omega)];simp
theorem jU(s:ByteArray)(n c:Nat)(st:aA):aD prog 130 [.str s,.int .i64 (n:Int),.int .u8 (c:Int)] st (fun r st'=>r=.bool (cA (sb s) n c)∧st'=st):=by
 have h:=aNI s n c st
 rwa [show v7 s n c=cA (sb s) n c from K4 s n _] at h
theorem xW(s:ByteArray)(n:Nat)(st:aA):aD prog 206 [.str s,.int .i64 (n:Int)] st (fun r st'=>r=.bool (eK (sb s) n cV)∧st'=st):=by
 have h:=aNB s n st
 rwa [show vJ s n=eK (sb s) n cV from K4 s n _] at h
theorem aFQ(s:ByteArray)(n:Nat)(st:aA):aD prog 228 [.str s,.int .i64 (n:Int)] st (fun r st'=>r=.bool (eK (sb s) n kC)∧st'=st):=by
 have h:=aNK s n st
 rwa [show v8 s n=eK (sb s) n kC from K4 s n _] at h
theorem QK{n k:Nat}(h:n≤1048576)(hk:k≤1048576):IntKind.wrap .i64 ((n:Int)+(k:Int))=((n+k:Nat):Int):=by
 rw[wrap64 (by omega) (by omega)];try rfl
abbrev B8:=zi aX (zi cD (zi gE cG))
theorem RI(s:ByteArray)(hd:∀x∈sb s,cV x=true)(hl:s.size≤4)(st:aA):aD prog 227 [.str s] st (fun r st'=>r=.tup [.int .i64 ((fR (sb s)).1:Int),.bool (fR (sb s)).2]∧st'=st):=by
 refine wF [1000000] 1 func227 ntmps227 rfl rfl ?_
 intro _
 by_cases hs:s.size=0
 · have e:fR (sb s)=(0,false):=by unfold fR;rw[aN (Or.inl (by rw[bX];exact hs))]
   rw[e]
   simp only[hs,aB,↓a9,seval,B8]
 have vN:(0:Int)<(s.size:Int):=by omega
 obtain⟨x0,hx0⟩:=tM (s:=s) (n:=0) (by omega)
 have hix:=pS (P:=prog) (t:=9) oA hx0
 rw[show((0:Nat):Int)=0 from rfl] at hix
 have hdx:=hd x0 (cQ hx0)
 simp only[cV,bG,bK] at hdx
 have h45:((x0.toNat:Int)=45)=False:=bB (by omega)
 have h0:((s.size:Int)=0)=False:=bB (by omega)
 have h17:((17:Int)<(s.size:Int))=False:=bB (by omega)
 simp only[vN,hix,h45,h0,h17,aV,a8,aB,seval,B8]
 by_cases h48:x0.toNat=48
 case pos=>
  have AR:((x0.toNat:Int)=48)=True:=bP (by omega)
  by_cases h1:1<s.size
  case pos=>
   have h1':((1:Int)<(s.size:Int))=True:=bP (by omega)
   have e:fR (sb s)=(0,false):=by unfold fR;rw[aN (Or.inr ⟨by rw[qV hx0,h48];try rfl,by rw[bX];exact h1⟩)]
   rw[e]
   simp only[AR,h1',aV,aB,↓a9,seval,B8]
  have h1':((1:Int)<(s.size:Int))=False:=bB (by omega)
  have hnd:fR (sb s)=(l8 (sb s),true):=by unfold fR;rw[aH (by rw[bX];rintro(h | ⟨_,h⟩)<;>omega)]
  simp only[AR,h1',aV,a8,aB,seval,B8]
  rw[hnd]
  refine gW (σ:=Nat) [1000000] [0,4] (fun i=>i≤s.size) (fun i=>[(5,.int .i64 (l8 ((sb s).take i):Int)),(6,.int .i64 (i:Int))]) (fun _=>st) (fun i=>s.size - i) (by decide +kernel) ⟨0,by omega,aP.mk (by simp only[mK,aB,↓a9,seval];rfl)⟩ ?_
  intro i hi
  have hb:l8 ((sb s).take i)<10000:=sW (LY fun x hx=>hd x (mJ hx)) (lL (Nat.pow_le_pow_right (by omega) (by rw[dE];omega:((sb s).take i).length≤4)) (by decide))
  simp only[aB,seval,B8]
  refine bE (fun h5=>?_) (fun h5=>?_)
  case refine_2=>
   simp only[d5] at h5
   obtain rfl:i=s.size:=by omega
   rw[qG (by rw[bX];omega)]
   simp only[aB,seval]
  simp only[bK] at h5
  obtain⟨c,hc⟩:=tM (s:=s) (n:=i) (by omega)
  have hic:=pS (P:=prog) (t:=9) oA hc
  have hdc:=hd c (cQ hc)
  simp only[cV,bG,bK] at hdc
  have c48:((c.toNat:Int)<48)=False:=bB (by omega)
  have c57:((57:Int)<(c.toNat:Int))=False:=bB (by omega)
  have hw0:=QK (n:=i) (k:=1) (by omega) (by omega)
  rw[show((1:Nat):Int)=1 from rfl] at hw0
  have hw1:=bH (n:=(l8 ((sb s).take i):Int)*10)
  have hw2:IntKind.wrap .u8 ((c.toNat:Int) - 48)=((c.toNat - 48:Nat):Int):=by rw[IntKind.wrap_u8];omega
  have hw3:=bH (n:=((c.toNat - 48:Nat):Int))
  have hw4:=bH (n:=(l8 ((sb s).take i):Int)*10+((c.toNat - 48:Nat):Int))
  have gC:=SY hc
  simp only[hic,c48,c57,hw1,hw2,a8,aB,seval]
  refine⟨i+1,by omega,by omega,aP.mk ?_⟩
  rw[gC]
  simp only[hw0,hw3,hw4,aB,seval]
  rfl
 have AR:((x0.toNat:Int)=48)=False:=bB (by omega)
 have hnd:fR (sb s)=(l8 (sb s),true):=by unfold fR;rw[aH (by rw[bX,qV hx0];rintro(h | ⟨h,_⟩);omega;exact h48 (of_decide_eq_true h))]
 simp only[AR,a8,aB,seval]
 rw[hnd]
 refine gW (σ:=Nat) [1000000] [0,4] (fun i=>i≤s.size) (fun i=>[(5,.int .i64 (l8 ((sb s).take i):Int)),(6,.int .i64 (i:Int))]) (fun _=>st) (fun i=>s.size - i) (by decide +kernel) ⟨0,by omega,aP.mk (by simp only[mK,aB,↓a9,seval];rfl)⟩ ?_
 intro i hi
 have hb:l8 ((sb s).take i)<10000:=sW (LY fun x hx=>hd x (mJ hx)) (lL (Nat.pow_le_pow_right (by omega) (by rw[dE];omega:((sb s).take i).length≤4)) (by decide))
 simp only[aB,seval,B8]
 refine bE (fun h5=>?_) (fun h5=>?_)
 case refine_2=>
  simp only[d5] at h5
  obtain rfl:i=s.size:=by omega
  rw[qG (by rw[bX];omega)]
  simp only[aB,seval]
 simp only[bK] at h5
 obtain⟨c,hc⟩:=tM (s:=s) (n:=i) (by omega)
 have hic:=pS (P:=prog) (t:=9) oA hc
 have hdc:=hd c (cQ hc)
 simp only[cV,bG,bK] at hdc
 have c48:((c.toNat:Int)<48)=False:=bB (by omega)
 have c57:((57:Int)<(c.toNat:Int))=False:=bB (by omega)
 have hw0:=QK (n:=i) (k:=1) (by omega) (by omega)
 rw[show((1:Nat):Int)=1 from rfl] at hw0
 have hw1:=bH (n:=(l8 ((sb s).take i):Int)*10)
 have hw2:IntKind.wrap .u8 ((c.toNat:Int) - 48)=((c.toNat - 48:Nat):Int):=by rw[IntKind.wrap_u8];omega
 have hw3:=bH (n:=((c.toNat - 48:Nat):Int))
 have hw4:=bH (n:=(l8 ((sb s).take i):Int)*10+((c.toNat - 48:Nat):Int))
 have gC:=SY hc
 simp only[hic,c48,c57,hw1,hw2,a8,aB,seval]
 refine⟨i+1,by omega,by omega,aP.mk ?_⟩
 rw[gC]
 simp only[hw0,hw3,hw4,aB,seval]
 rfl
theorem iX{x:Int}{m:Nat}(h:x=(m:Int))(hm:m≤1099511627776):IntKind.wrap .i64 x=(m:Int):=by rw[wrap64 (by omega) (by omega)];exact h
abbrev FP:Tm:=.mk 0 0 ⟨#[]⟩ []
def xZ(o:Option (Int×Nat)):AV:=match o with | some (n,e)=>.tup [(Tm.mk 2 n ⟨#[]⟩ []).av,.int .i64 (e:Int)] | none=>.tup [FP.av,.int .i64 (-1)]
abbrev yM:=zi aX (zi cD (zi gE (zi uU (zi cG cK))))
set_option maxHeartbeats 1000000 in
theorem aNF(s:ByteArray)(hs:s.size≤1000)(a:Nat)(ha:a≤s.size)(st:aA):aD prog 207 [.str s,.int .i64 (a:Int)] st (fun r st'=>r=xZ (sI (sb s) a)∧st'=st):=by
 refine aD.done ?_
 refine wF [1000000] 2 func207 ntmps207 rfl rfl ?_
 intro _
 simp only[aB,seval,yM]
 intro b hb
 refine(jU s a 45 _).to ?_
 obtain⟨f1,hf1⟩:∃f,f=a+1:=⟨_,rfl⟩
 have hw1:=iX (x:=(a:Int)+1) (m:=f1) (by omega) (by omega)
 simp only[aB,seval]
 refine bE (fun h1=>?_) (fun h1=>?_)
 · have hf:=mR h1
   rw[bX] at hf
   simp only[hw1,aB,seval]
   obtain⟨f,rfl⟩:∃f,f=f1:=⟨_,rfl⟩
   replace hf:f≤s.size:=by omega
   refine gW (σ:=Nat) [1000000] [0,1,4,5,7] (fun j=>f≤j∧j≤f+4∧j - f≤(((sb s).drop f).takeWhile cV).length) (fun j=>[(6,.int .i64 (j:Int))]) (fun _=>st.aC b (.cells [.int .i64 0,.int .i64 0,.str ⟨#[]⟩,.fslice []])) (fun j=>f+4 - j) (by decide +kernel) ⟨f,⟨by omega,by omega,by omega⟩,aP.mk (by simp only[aB,seval])⟩ ?_
   rintro j ⟨hj1,hj4,hj⟩
   have hfi:j≤s.size:=by have:=FT cV ((sb s).drop f);rw[jZ,bX] at this;omega
   simp only[aB,seval]
   refine(xW s j _).to ?_
   have hw4:=bH (n:=(f:Int)+4)
   have EK:=bH (n:=(j:Int)+1)
   simp only[aB,seval]
   refine c5 (fun h5=>?_) (fun h5=>?_)
   simp only[h5,hw4,aB,seval]
   refine bE (fun h6=>?_) (fun h6=>?_)
   case' refine_1.refine_1=>
    rw[show j=f+(j - f) by omega,←A7] at h5
    simp only[bK] at h6
    simp only[EK,aB,seval]
    exact⟨j+1,by omega,⟨by omega,by omega,by have:=PC hj h5;omega⟩,aP.mk (by simp only[aB,seval]<;>rfl)⟩
   all_goals
    have ht:(((sb s).drop f).takeWhile cV).take 4=((sb s).drop f).take (j - f):=by
     rw[aI2 hj]
     rcases lM (j - f) 4 with h7 | h7
     · have h8:j - f=(((sb s).drop f).takeWhile cV).length:=by
        refine PB hj ?_
        rw[A7,show f+(j - f)=j by omega]
        first | exact h5 | (simp only[d5] at h6;omega)
       rw[h8,dR,qG (by omega)]
     · rw[show j - f=4 by omega]
    have hex:s.extract f j=ba ((((sb s).drop f).takeWhile cV).take 4):=by rw[DQ,ht]
    have hln:((((sb s).drop f).takeWhile cV).take 4).length=j - f:=by rw[ht,dE,jZ,bX];omega
    have hdg:∀x∈(((sb s).drop f).takeWhile cV).take 4,cV x=true:=fun x hx=>aI1 x (mJ hx)
    have hsl:=fun(φ:AF) (y z:Operand) (h:φ.eval y=.int .i64 (f:Int)) (h':φ.eval z=.int .i64 (j:Int))=>E8 (s:=s) h h' hj1 hfi
    rw[hex] at hsl
    have hrd:sI (sb s) a=if(fR ((((sb s).drop f).takeWhile cV).take 4)).2=false∨(a<f∧(fR ((((sb s).drop f).takeWhile cV).take 4)).1=0)∨999<(fR ((((sb s).drop f).takeWhile cV).take 4)).1 then none else some (if a<f then -((fR ((((sb s).drop f).takeWhile cV).take 4)).1:Int) else((fR ((((sb s).drop f).takeWhile cV).take 4)).1:Int),f+((((sb s).drop f).takeWhile cV).take 4).length):=by
     unfold sI
     simp only[h1,↓reduceIte,←hf1]
    rw[hrd]
    clear hrd
    generalize (((sb s).drop f).takeWhile cV).take 4=t at *
    simp only[hsl,h5,aB,seval]
    refine(RI (ba t) hdg (by show t.length≤4;omega) _).to ?_
    have hn:=aFW hdg (by omega)
    rw[show sb (ba t)=t from rfl]
    generalize fR t=nd at *
    obtain⟨n,ok⟩:=nd
    simp only at hn ⊢
    have hw5:=bH (n:=0 - (n:Int))
    have hw6:=bH (n:= -(n:Int))
    have hfa:((a:Int)<(f:Int))=True:=bP (by omega)
    have hfn:(a<f)=True:=bP (by omega)
    cases ok
    case false=>
     simp only[aG,aB,seval,yM]
     refine⟨?_,(aJ.refl _).aC hb⟩
     rw[aN (Or.inl trivial)]
     simp only[xZ,bY,jF,jW,jG,mZ,mY,bF,bD,bD]
    by_cases hz:(n:Int)=0
    case' pos=>have hz':n=0:=by omega
    case' neg=>have hz':n≠0:=by omega
    all_goals
     by_cases h9:(999:Int)<(n:Int)
     case' pos=>have h9':999<n:=by omega
     case' neg=>have h9':¬ 999<n:=by omega
     all_goals try (exfalso;omega)
     all_goals
      simp only[aG,hw5,hz,h9,hfa,aB,seval,yM]
      try
       refine(LE _ _).to ?_
       simp only[aG,aB,seval,yM]
      refine⟨?_,(aJ.refl _).aC hb⟩
      first
       | rw[aN (by omega)]
       | rw[aH (by omega),aN (by omega),show f+t.length=j by omega]
       | rw[aH (by omega),aH (by omega),show f+t.length=j by omega]
      simp only[xZ,bY,jF,jW,jG,mZ,oZ,mY,bF,bD,bD,Int.zero_sub]
 · skip
   simp only[aB,seval]
   obtain⟨f,rfl⟩:∃f,f=a:=⟨_,rfl⟩
   have hf:=ha
   refine gW (σ:=Nat) [1000000] [0,1,4,5,7] (fun j=>f≤j∧j≤f+4∧j - f≤(((sb s).drop f).takeWhile cV).length) (fun j=>[(6,.int .i64 (j:Int))]) (fun _=>st.aC b (.cells [.int .i64 0,.int .i64 0,.str ⟨#[]⟩,.fslice []])) (fun j=>f+4 - j) (by decide +kernel) ⟨f,⟨by omega,by omega,by omega⟩,aP.mk (by simp only[aB,seval])⟩ ?_
   rintro j ⟨hj1,hj4,hj⟩
   have hfi:j≤s.size:=by have:=FT cV ((sb s).drop f);rw[jZ,bX] at this;omega
   simp only[aB,seval]
   refine(xW s j _).to ?_
   have hw4:=bH (n:=(f:Int)+4)
   have EK:=bH (n:=(j:Int)+1)
   simp only[aB,seval]
   refine c5 (fun h5=>?_) (fun h5=>?_)
   simp only[h5,hw4,aB,seval]
   refine bE (fun h6=>?_) (fun h6=>?_)
   case' refine_1.refine_1=>
    rw[show j=f+(j - f) by omega,←A7] at h5
    simp only[bK] at h6
    simp only[EK,aB,seval]
    exact⟨j+1,by omega,⟨by omega,by omega,by have:=PC hj h5;omega⟩,aP.mk (by simp only[aB,seval]<;>rfl)⟩
   all_goals
    have ht:(((sb s).drop f).takeWhile cV).take 4=((sb s).drop f).take (j - f):=by
     rw[aI2 hj]
     rcases lM (j - f) 4 with h7 | h7
     · have h8:j - f=(((sb s).drop f).takeWhile cV).length:=by
        refine PB hj ?_
        rw[A7,show f+(j - f)=j by omega]
        first | exact h5 | (simp only[d5] at h6;omega)
       rw[h8,dR,qG (by omega)]
     · rw[show j - f=4 by omega]
    have hex:s.extract f j=ba ((((sb s).drop f).takeWhile cV).take 4):=by rw[DQ,ht]
    have hln:((((sb s).drop f).takeWhile cV).take 4).length=j - f:=by rw[ht,dE,jZ,bX];omega
    have hdg:∀x∈(((sb s).drop f).takeWhile cV).take 4,cV x=true:=fun x hx=>aI1 x (mJ hx)
    have hsl:=fun(φ:AF) (y z:Operand) (h:φ.eval y=.int .i64 (f:Int)) (h':φ.eval z=.int .i64 (j:Int))=>E8 (s:=s) h h' hj1 hfi
    rw[hex] at hsl
    have hrd:sI (sb s) f=if(fR ((((sb s).drop f).takeWhile cV).take 4)).2=false∨(f<f∧(fR ((((sb s).drop f).takeWhile cV).take 4)).1=0)∨999<(fR ((((sb s).drop f).takeWhile cV).take 4)).1 then none else some (if f<f then -((fR ((((sb s).drop f).takeWhile cV).take 4)).1:Int) else((fR ((((sb s).drop f).takeWhile cV).take 4)).1:Int),f+((((sb s).drop f).takeWhile cV).take 4).length):=by
     unfold sI
     simp only[h1,↓reduceIte,iA]
    rw[hrd]
    clear hrd
    generalize (((sb s).drop f).takeWhile cV).take 4=t at *
    simp only[hsl,h5,aB,seval]
    refine(RI (ba t) hdg (by show t.length≤4;omega) _).to ?_
    have hn:=aFW hdg (by omega)
    rw[show sb (ba t)=t from rfl]
    generalize fR t=nd at *
    obtain⟨n,ok⟩:=nd
    simp only at hn ⊢
    have hw5:=bH (n:=0 - (n:Int))
    have hw6:=bH (n:= -(n:Int))
    have hfa:((f:Int)<(f:Int))=False:=bB (by omega)
    have hfn:(f<f)=False:=bB (by omega)
    cases ok
    case false=>
     simp only[aG,aB,seval,yM]
     refine⟨?_,(aJ.refl _).aC hb⟩
     rw[aN (Or.inl trivial)]
     simp only[xZ,bY,jF,jW,jG,mZ,mY,bF,bD,bD]
    by_cases hz:(n:Int)=0
    case' pos=>have hz':n=0:=by omega
    case' neg=>have hz':n≠0:=by omega
    all_goals
     by_cases h9:(999:Int)<(n:Int)
     case' pos=>have h9':999<n:=by omega
     case' neg=>have h9':¬ 999<n:=by omega
     all_goals try (exfalso;omega)
     all_goals
      simp only[aG,hz,h9,hfa,aB,seval,yM]
      try
       refine(LE _ _).to ?_
       simp only[aG,aB,seval,yM]
      refine⟨?_,(aJ.refl _).aC hb⟩
      first
       | rw[aN (by omega)]
       | rw[aH (by omega),aN (by omega),show f+t.length=j by omega]
       | rw[aH (by omega),aH (by omega),show f+t.length=j by omega]
      simp only[xZ,bY,jF,jW,jG,mZ,oZ,mY,bF,bD,bD]
def xX(o:Option (ByteArray×Nat)):AV:=match o with | some (b,e)=>.tup [.str b,.int .i64 (e:Int)] | none=>.tup [.str ⟨#[]⟩,.int .i64 (-1)]
theorem aNJ(st:aA):aD prog 192 [] st (fun r st'=>r=.slice (iJ.map .str)∧st'=st):=aD.done ((RQ st).mono (by rintro _ _ ⟨rfl,rfl⟩;exact⟨rfl,aJ.refl _⟩))
abbrev yN:=zi aX (zi cG sQ)
set_option maxHeartbeats 1000000 in
theorem LF(s:ByteArray)(hs:s.size≤1000)(a:Nat)(ha:a≤s.size)(st:aA):aD prog 208 [.str s,.int .i64 (a:Int)] st (fun r st'=>r=xX (mW (sb s) a)∧st'=st):=by
 refine wF [1000000] 2 func208 ntmps208 rfl rfl ?_
 intro _
 simp only[aB,seval]
 refine gW (σ:=Nat) [1000000] [0,1,4,5] (fun j=>a≤j∧j - a≤(((sb s).drop a).takeWhile kC).length) (fun j=>[(6,.int .i64 (j:Int))]) (fun _=>st) (fun j=>s.size - j) (by decide +kernel) ⟨a,⟨by omega,by omega⟩,aP.mk (by simp only[aB,seval])⟩ ?_
 rintro j ⟨hj1,hj⟩
 have hfi:j≤s.size:=by have:=FT kC ((sb s).drop a);rw[jZ,bX] at this;omega
 simp only[aB,seval]
 refine(aFQ s j _).to ?_
 have hw6:=bH (n:=(a:Int)+6)
 have EK:=bH (n:=(j:Int)+1)
 simp only[aB,seval]
 refine bE (fun h5=>?_) (fun h5=>?_)
 · have hlt:=aT3 h5
   rw[show j=a+(j - a) by omega,←A7] at h5
   simp only[EK,aB,seval]
   exact⟨j+1,by rw[bX] at hlt;omega,⟨by omega,by have:=PC hj h5;omega⟩,aP.mk (by simp only[aB,seval]<;>rfl)⟩
 rw[show j=a+(j - a) by omega,←A7] at h5
 have he:=PB hj h5
 have hex:s.extract a j=ba (((sb s).drop a).takeWhile kC):=by rw[DQ,he,aI3]
 have hsl:=fun(φ:AF) (y z:Operand) (h:φ.eval y=.int .i64 (a:Int)) (h':φ.eval z=.int .i64 (j:Int))=>E8 (s:=s) h h' hj1 hfi
 rw[hex] at hsl
 simp only[hw6,aB,seval]
 refine bE (fun h6=>?_) (fun h6=>?_)
 · simp only[bK] at h6
   simp only[aB,seval]
   unfold mW
   rw[aN (by omega)]
   try rfl
 simp only[d5] at h6
 simp only[aB,seval]
 refine bE (fun h7=>?_) (fun h7=>?_)
 · simp only[bK] at h7
   simp only[hsl,aB,seval]
   unfold mW
   rw[aH (by omega),aN (by omega),←he,show a+(j - a)=j by omega]
   try rfl
 simp only[d5] at h7
 obtain rfl:j=a:=by omega
 have hrd:mW (sb s) j=if(iJ.foldl (iN ((sb s).drop j)) ⟨#[]⟩).size=0 then none else some (iJ.foldl (iN ((sb s).drop j)) ⟨#[]⟩,j+(iJ.foldl (iN ((sb s).drop j)) ⟨#[]⟩).size):=by
  unfold mW
  rw[aH (by omega),aH (by omega)]
 rw[hrd]
 clear hrd
 simp only[aB,seval]
 refine(aNJ _).to ?_
 simp only[aB,seval]
 refine gW (σ:=Nat) [1000000] [0,1,4,5,8] (fun i=>i≤iJ.length) (fun i=>[(7,.str ((iJ.take i).foldl (iN ((sb s).drop j)) ⟨#[]⟩)),(9,.int .i64 (i:Int))]) (fun _=>st) (fun i=>iJ.length - i) (by decide +kernel) ⟨0,by omega,aP.mk (by simp only[mK,List.foldl_nil,aB,↓a9,seval])⟩ ?_
 intro i hi
 have hbl:=aLZ ((sb s).drop j) i
 simp only[aE,aB,seval,yN]
 refine bE (fun h8=>?_) (fun h8=>?_)
 case refine_2=>
  simp only[d5] at h8
  rw[show i=iJ.length by omega,dR] at hbl ⊢
  generalize iJ.foldl (iN ((sb s).drop j)) ⟨#[]⟩=g at *
  have hw7:=bH (n:=(j:Int)+(g.size:Int))
  simp only[aB,seval]
  refine bE (fun h9=>?_) (fun h9=>?_)
  · simp only[bK] at h9
    subst h9
    simp only[aB,seval]
    rfl
  · simp only[d5] at h9
    simp only[hw7,aB,seval,yN]
    rw[aH fun h=>h9 (aLW h)]
    try rfl
 simp only[bK] at h8
 obtain⟨g,hg⟩:∃g,iJ[i]?=some g:=⟨_,d4 (by omega)⟩
 have hat:=bR (av:=AV.str) tS hg rfl
 have hgl:=aG4 g (cQ hg)
 have h15:iJ.length=15:=rfl
 obtain⟨m,hm⟩:∃m,m=j+g.size:=⟨_,rfl⟩
 have hwn:=iX (x:=(j:Int)+(g.size:Int)) (m:=m) (by omega) (by omega)
 have hw1:=bH (n:=(i:Int)+1)
 have gC:(iJ.take (i+1)).foldl (iN ((sb s).drop j)) ⟨#[]⟩=iN ((sb s).drop j) ((iJ.take i).foldl (iN ((sb s).drop j)) ⟨#[]⟩) g:=by
  rw[eD,hg,GA];try rfl
 generalize hB:(iJ.take i).foldl (iN ((sb s).drop j)) ⟨#[]⟩=B at *
 simp only[hat,aB,seval,yN]
 refine wP [(0,1),(1,1),(2,1),(3,1),(4,1),(5,1),(6,1),(7,1),(8,1),(9,1),(10,1),(11,1),(12,1),(13,1),(14,1),(15,1),(16,2),(17,1),(18,1),(19,1),(20,1),(21,1),(22,1),(23,1),(24,1)] [0,1,2,3,4,5,6,7,8,9,10,11,12,13,14,15,16,17,18,19,20,21,22,23,24] mixed ?_
 by_cases hle:m≤s.size
 · have hex:s.extract j m=ba (((sb s).drop j).take g.size):=by rw[DQ,hm,Nat.add_sub_cancel_left]
   have hsl:=fun(φ:AF) (y z:Operand) (h:φ.eval y=.int .i64 (j:Int)) (h':φ.eval z=.int .i64 (m:Int))=>E8 (s:=s) h h' (by omega) hle
   rw[hex] at hsl
   have EI:((m:Int)≤(s.size:Int))=True:=bP (by omega)
   by_cases heq:ba (((sb s).drop j).take g.size)=g
   · by_cases hlt:B.size<g.size
     · have bN:((B.size:Int)<(g.size:Int))=True:=bP (by omega)
       have hb:iN ((sb s).drop j) B g=g:=by unfold iN;rw[aN ⟨qP sb heq,hlt⟩]
       simp only[hat,hwn,hw1,EI,hsl,heq,bN,aV,aB,seval,yN]
       exact⟨i+1,by omega,by omega,aP.mk (by simp only[gC,hb,aB,seval])⟩
     · have bN:((B.size:Int)<(g.size:Int))=False:=bB (by omega)
       have hb:iN ((sb s).drop j) B g=B:=by unfold iN;rw[aH fun h=>hlt h.2]
       simp only[hat,hwn,hw1,EI,hsl,heq,bN,aV,a8,aB,seval,yN]
       exact⟨i+1,by omega,by omega,aP.mk (by simp only[gC,hb,aB,seval])⟩
   · have hb:iN ((sb s).drop j) B g=B:=by unfold iN;rw[aH fun h=>heq (by rw[h.1])]
     simp only[hat,hwn,hw1,EI,hsl,heq,aV,a8,aB,seval,yN]
     exact⟨i+1,by omega,by omega,aP.mk (by simp only[gC,hb,aB,seval])⟩
 · have EI:((m:Int)≤(s.size:Int))=False:=bB (by omega)
   have hb:iN ((sb s).drop j) B g=B:=by
    unfold iN
    rw[aH]
    rintro⟨h,_⟩
    have:=qP List.length h
    rw[dE,jZ,bX,bX] at this
    omega
   simp only[hwn,hw1,EI,a8,aB,seval,yN]
   exact⟨i+1,by omega,by omega,aP.mk (by simp only[gC,hb,aB,seval])⟩
end Go.AW
namespace Go.AW
def gG(nm:ByteArray):Bool:=decide (nm=⟨#[105,115]⟩)||decide (nm=⟨#[109,111,100]⟩)
def oW(l:List UInt8)(a:Nat):Option (ByteArray×Nat):=
 let f:=if cA l a 32 then a+1 else a
 if l.length≤f then none else match mW l f with
 | none=>none
 | some (nm,e)=>if dB nm=0 then none else if gG nm≠decide (a<f)∨(gG nm=true∧cA l e 32=false) then none else some (nm,if gG nm then e+1 else e)
abbrev j0:=Nat→Option (Tm×Nat)
def p9(R:j0)(l:List UInt8)(c1 c2:Nat):Nat→Nat→List Tm→Option (List Tm×Nat)
 | 0,_,_=>none
 | n+1,a,acc=>match R a with
  | none=>none
  | some (t,e)=>if(cA l e c1||cA l e c2)=true then some (acc++ [t],e) else if cA l e 44 then p9 R l c1 c2 n (e+1) (acc++ [t]) else none
abbrev mT (nm:ByteArray) (ts:List Tm):Tm:=.mk 3 0 nm ts
def tQ:List Tm→Tm→Tm
 | [],t=>t
 | x::xs,t=>mT ⟨#[46]⟩ [x,tQ xs t]
def xR(R:j0)(l:List UInt8)(a:Nat):Option (Tm×Nat):=
 match p9 R l 93 124 (l.length+1) a [] with
 | none=>none
 | some (ts,e)=>if cA l e 93 then some (tQ ts (mT ⟨#[91,93]⟩ []),e+1) else match R (e+1) with
  | none=>none
  | some (t,e')=>if cA l e' 93 then some (tQ ts t,e'+1) else none
def GZ(l:List UInt8)(a:Nat):Nat:=match l[a]? with | some x=>x.toNat | none=>0
def lU(R:Nat→j0)(l:List UInt8)(d a:Nat):Option (Tm×Nat):=
 if d<1∨l.length≤a then none
 else if cA l a 40 then match R d (a+1) with
  | none=>none
  | some (t,e)=>if cA l e 41 then some (t,e+1) else none
 else if(cA l a 91&& !cA l (a+1) 93)=true then xR (R (d - 1)) l (a+1)
 else if eK l a rH then some (vr ((GZ l a - 65:Nat):Int),a+1)
 else if(eK l a cV||(cA l a 45&&eK l (a+1) cV))=true then match sI l a with
  | none=>none
  | some (n,e)=>some (.mk 2 n ⟨#[]⟩ [],e)
 else match mW l a with
  | none=>none
  | some (nm,e)=>if cA l e 40=false then some (mT nm [],e) else match p9 (R (d - 1)) l 41 41 (l.length+1) (e+1) [] with
   | none=>none
   | some (ts,e')=>some (mT nm ts,e'+1)
def BL(R:j0)(l:List UInt8)(lev:Nat):Nat→Tm→Nat→Option (Tm×Nat)
 | 0,_,_=>none
 | n+1,left,e=>match oW l e with
  | none=>some (left,e)
  | some (nm,e1)=>if dB nm≠lev then some (left,e) else match R e1 with
   | none=>none
   | some (rt,e2)=>if lev=3 then some (mT nm [left,rt],e2) else BL R l lev n (mT nm [left,rt]) e2
def rd(l:List UInt8):Nat→Nat→Nat→Nat→Option (Tm×Nat)
 | 0,_,_,_=>none
 | n+1,d,a,0=>lU (fun d a=>rd l n d a 3) l d a
 | n+1,d,a,lv+1=>match rd l n d a lv with
  | none=>none
  | some (t,e)=>BL (fun a=>rd l n d a lv) l (lv+1) (l.length+1) t e
theorem aWZ{l:List UInt8}{a c:Nat}(ha:a≤l.length):a≤(if cA l a c=true then a+1 else a)∧(if cA l a c=true then a+1 else a)≤l.length:=by
 split
 · have:=mR ‹_›;omega
 · omega
theorem aWA{l:List UInt8}{a:Nat}{x:Int}{e:Nat}(ha:a≤l.length)(h:sI l a=some (x,e)):a<e∧e≤l.length:=by
 unfold sI at h
 have hf:=aWZ (c:=45) ha
 simp only at h
 generalize (if cA l a 45=true then a+1 else a)=f at h hf
 split at h
 · cases h
 rename_i h1
 simp only[Option.some.injEq,Prod.mk.injEq] at h
 obtain⟨_,rfl⟩:=h
 have h2:(((l.drop f).takeWhile cV).take 4).length≠0:=by
  intro h0
  refine h1 (Or.inl ?_)
  unfold fR
  rw[aN (Or.inl h0)]
 have h3:=FT cV (l.drop f)
 rw[jZ] at h3
 have h4:(((l.drop f).takeWhile cV).take 4).length≤((l.drop f).takeWhile cV).length:=by rw[dE];omega
 omega
theorem QY(L:List UInt8):∀(gs:List ByteArray) (b:ByteArray),b.size≤L.length→(gs.foldl (iN L) b).size≤L.length
 | [],b,h=>h
 | g::gs,b,h=>by
  rw[sU]
  refine QY L gs _ ?_
  unfold iN
  split
  · rename_i h1
    have:=qP List.length h1.1
    rw[dE,bX] at this
    omega
  · exact h
theorem E0{l:List UInt8}{a:Nat}{x:ByteArray}{e:Nat}(ha:a≤l.length)(h:mW l a=some (x,e)):a<e∧e≤l.length:=by
 unfold mW at h
 simp only at h
 have h3:=FT kC (l.drop a)
 rw[jZ] at h3
 split at h
 · cases h
 split at h
 · cases h;omega
 split at h
 · cases h
 · have:=QY (l.drop a) iJ ⟨#[]⟩ (f9 _)
   rw[jZ] at this
   cases h;omega
theorem aF9{l:List UInt8}{a:Nat}{x:ByteArray}{e:Nat}(h:oW l a=some (x,e)):a<e∧e≤l.length∧dB x≠0:=by
 unfold oW at h
 have h6:a≤(if cA l a 32=true then a+1 else a):=by split<;>omega
 simp only at h
 generalize (if cA l a 32=true then a+1 else a)=f at h h6
 split at h
 · cases h
 rename_i h1
 split at h
 · cases h
 rename_i nm e0 h2
 have h3:=E0 (by omega) h2
 split at h
 · cases h
 rename_i h7
 split at h
 · cases h
 rename_i h4
 simp only[Option.some.injEq,Prod.mk.injEq] at h
 obtain⟨rfl,rfl⟩:=h
 split
 · rename_i h5
   have:cA l e0 32=true:=by
    cases hb:cA l e0 32 with
    | true=>rfl
    | false=>exact absurd (Or.inr ⟨h5,hb⟩) h4
   have:=mR this
   exact⟨by omega,by omega,h7⟩
 · exact⟨by omega,by omega,h7⟩
def vB(R:j0)(l:List UInt8):Prop:=∀a t e,a≤l.length→R a=some (t,e)→a<e∧e≤l.length∧Dn t
theorem JP{R:j0}{l:List UInt8}{c1 c2:Nat}(hR:vB R l):∀(n a:Nat) (acc:List Tm) (ts:List Tm) (e:Nat),a≤l.length→(∀x∈acc,Dn x)→p9 R l c1 c2 n a acc=some (ts,e)→a<e∧e<l.length∧(∀x∈ts,Dn x)∧ts.length≤acc.length+n∧(cA l e c1=true∨cA l e c2=true):=by
 intro n
 induction n with
 | zero=>intro a acc ts e _ _ h;cases h
 | succ n ih=>
  intro a acc ts e ha MU h
  unfold p9 at h
  split at h
  · cases h
  rename_i t e1 h1
  obtain⟨h2,h3,h4⟩:=hR a t e1 ha h1
  have ED:∀x∈acc++ [t],Dn x:=by intro x hx;rw[kW] at hx;rcases hx with hx | hx;exact MU x hx;rw[KD] at hx;subst hx;exact h4
  split at h
  · rename_i h5
    cases h
    rw[kV] at h5
    refine⟨h2,?_,ED,by rw[cX,KC];omega,h5⟩
    rcases h5 with h5 | h5<;>exact mR h5
  split at h
  · rename_i h5
    have h6:=mR h5
    obtain⟨g1,g2,g3,g4,g5⟩:=ih (e1+1) _ ts e (by omega) ED h
    rw[cX,KC] at g4
    exact⟨by omega,g2,g3,by omega,g5⟩
  · cases h
theorem L0{nm:ByteArray}{ts:List Tm}(hl:ts.length≤1048576)(h:∀x∈ts,Dn x):Dn (mT nm ts):=SZ (by decide) hl h
theorem L2{nm:ByteArray}{x y:Tm}(hx:Dn x)(hy:Dn y):Dn (mT nm [x,y]):=L0 (by simp) (by intro z hz;simp only[cT,dF,dS] at hz;rcases hz with rfl | rfl;exact hx;exact hy)
theorem S0{nm:ByteArray}:Dn (mT nm []):=L0 (by simp) (by simp)
theorem LR{t:Tm}(ht:Dn t):∀ts:List Tm,(∀x∈ts,Dn x)→Dn (tQ ts t)
 | [],_=>ht
 | x::xs,h=>L2 (h x (by simp)) (LR ht xs fun y hy=>h y (by simp [hy]))
theorem aT4{R:j0}{l:List UInt8}(hR:vB R l)(hl:l.length≤1000){a:Nat}{t:Tm}{e:Nat}(ha:a≤l.length)(h:xR R l a=some (t,e)):a<e∧e≤l.length∧Dn t:=by
 unfold xR at h
 split at h
 · cases h
 rename_i ts e1 h1
 obtain⟨g1,g2,g3,g4,g5⟩:=JP hR _ _ _ _ _ ha (by simp) h1
 split at h
 · cases h
   exact⟨by omega,by omega,LR S0 _ g3⟩
 split at h
 · cases h
 rename_i t2 e2 h2
 obtain⟨k1,k2,k3⟩:=hR _ _ _ (by omega) h2
 split at h
 · rename_i h5
   cases h
   have:=mR h5
   exact⟨by omega,by omega,LR k3 _ g3⟩
 · cases h
theorem aVO{R:Nat→j0}{l:List UInt8}(hR:∀d,vB (R d) l)(hl:l.length≤1000){d a:Nat}{t:Tm}{e:Nat}(h:lU R l d a=some (t,e)):a<e∧e≤l.length∧Dn t:=by
 unfold lU at h
 split at h
 · cases h
 rename_i h0
 have ha:a<l.length:=by omega
 split at h
 · split at h
   · cases h
   rename_i t1 e1 h1
   obtain⟨k1,k2,k3⟩:=hR _ _ _ _ (by omega) h1
   split at h
   · rename_i h5
     cases h
     have:=mR h5
     exact⟨by omega,by omega,k3⟩
   · cases h
 split at h
 · obtain⟨k1,k2,k3⟩:=aT4 (hR _) hl (by omega) h
   exact⟨by omega,k2,k3⟩
 split at h
 · cases h
   exact⟨by omega,by omega,aPG _⟩
 split at h
 · split at h
   · cases h
   rename_i n e1 h1
   cases h
   have:=aWA (by omega) h1
   exact⟨this.1,this.2,SZ (by decide) (by simp) (by simp)⟩
 split at h
 · cases h
 rename_i nm e1 h1
 have g:=E0 (by omega) h1
 split at h
 · cases h
   exact⟨g.1,g.2,S0⟩
 split at h
 · cases h
 rename_i h6 _ ts e2 h2
 have h7:cA l e1 40=true:=by simpa using h6
 have h8:=mR h7
 obtain⟨k1,k2,k3,k4,k5⟩:=JP (hR _) _ _ _ _ _ (by omega) (by simp) h2
 cases h
 refine⟨by omega,by omega,L0 ?_ k3⟩
 rw[aW] at k4
 omega
theorem aVE{R:j0}{l:List UInt8}(hR:vB R l)(lev:Nat):∀(n:Nat) (t0:Tm) (e0:Nat) (t:Tm) (e:Nat),e0≤l.length→Dn t0→BL R l lev n t0 e0=some (t,e)→e0≤e∧e≤l.length∧Dn t:=by
 intro n
 induction n with
 | zero=>intro t0 e0 t e _ _ h;cases h
 | succ n ih=>
  intro t0 e0 t e h0 ht h
  unfold BL at h
  split at h
  · cases h;exact⟨by omega,h0,ht⟩
  rename_i nm e1 h1
  have g:=aF9 h1
  split at h
  · cases h;exact⟨by omega,h0,ht⟩
  split at h
  · cases h
  rename_i rt e2 h2
  obtain⟨k1,k2,k3⟩:=hR _ _ _ g.2.1 h2
  split at h
  · cases h;exact⟨by omega,k2,L2 ht k3⟩
  · obtain⟨q1,q2,q3⟩:=ih _ _ _ _ k2 (L2 ht k3) h
    exact⟨by omega,q2,q3⟩
theorem yC{l:List UInt8}(hl:l.length≤1000):∀(n d lv:Nat),vB (fun a=>rd l n d a lv) l:=by
 intro n
 induction n with
 | zero=>intro d lv a t e _ h;cases h
 | succ n ih=>
  intro d lv a t e ha h
  cases lv with
  | zero=>
   simp only[rd] at h
   exact aVO (fun d=>ih d 3) hl h
  | succ lv=>
   simp only[rd] at h
   split at h
   · cases h
   rename_i t1 e1 h1
   obtain⟨k1,k2,k3⟩:=ih d lv a t1 e1 ha h1
   obtain⟨q1,q2,q3⟩:=aVE (ih d lv) _ _ _ _ _ _ k2 k3 h
   exact⟨by omega,q2,q3⟩
end Go.AW
