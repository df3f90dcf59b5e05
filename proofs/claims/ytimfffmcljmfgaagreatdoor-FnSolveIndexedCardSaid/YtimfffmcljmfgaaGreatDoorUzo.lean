import Derived.Test.YtimfffmcljmfgaaGreatDoorUzn
import Derived.Test.YtimfffmcljmfgaaGreatDoorUzl
import Derived.Test.YtimfffmcljmfgaaGreatDoorUzj
import Derived.Test.YtimfffmcljmfgaaGreatDoorUzm
import Derived.Test.YtimfffmcljmfgaaGreatDoorUzk
set_option linter.unusedSimpArgs false
set_option linter.unusedVariables false
set_option maxRecDepth 100000
namespace Go.AW
open Go.Proofs.Tryz
def eY:List IG→AV
 | []=>.nilptr
 | ⟨.mk k n s ts,cut,up⟩::l=>.pptr (.agg [.int .i64 k,.int .i64 n,.str s,.slice (ts.map Tm.av),.int .i64 (cut:Int),.int .i64 up,eY l])
theorem uB(k n:Int)(s:ByteArray)(ts:List Tm)(cut:Nat)(up:Int)(l:List IG):eY (⟨.mk k n s ts,cut,up⟩::l)=.pptr (.agg [.int .i64 k,.int .i64 n,.str s,.slice (ts.map Tm.av),.int .i64 (cut:Int),.int .i64 up,eY l]):=by rw[eY]
theorem p7(l:List IG):(eY l).isAgg=false∧(eY l).width=1∧(eY l).cH=false∧(eY l).cells= [eY l]∧(eY l).storable=true∧(eY l).soft=eY l:=by
 cases l with
 | nil=>rw[eY];exact⟨rfl,rfl,rfl,rfl,rfl,rfl⟩
 | cons g l=>obtain⟨⟨k,n,s,ts⟩,cut,up⟩:=g;rw[uB];exact⟨rfl,rfl,rfl,rfl,rfl,rfl⟩
abbrev aRY:=zi tI_3 (zi zI_3 (zi aZ (zi tI_31 (zi zI_31 (zi aO (zi bH (zi bJ (zi bZ (zi tI_66 (zi zI_66 (zi bS (zi bT (zi bU (zi bV (zi bR (zi tI_256 (zi zI_256 (zi tI_321 (zi zI_321 (zi aMG (zi aMH (zi aMI (zi aMJ ZD)))))))))))))))))))))))
theorem RT(bd:List Tm)(cut:Nat)(up:Int)(rest:List IG)(hl:bd.length≤1048576)(st:aB) :
 aD prog 242 [.slice (bd.map Tm.av),.int .i64 (cut:Int),.int .i64 up,eY rest] st (fun r st'=>r=eY (bd.map (fun t=>(⟨t,cut,up⟩:IG))++rest)∧st'=st):=by
 obtain⟨r1,r2,r3,r4,r5,r6⟩:=p7 rest
 refine aD.done ?_
 refine wF [1000000] 4 func242 ntmps242 rfl rfl ?_
 intro _
 have hw0:=bE (n:=(bd.length:Int) - 1)
 simp -implicitDefEqProofs only[aF,hw0,aA,seval,aRY]
 refine iN (σ:=Nat) [1000000] [0,1,2,8] (fun j=>j≤bd.length) (fun j=>[(3,eY ((bd.drop j).map (fun t=>(⟨t,cut,up⟩:IG))++rest)),(9,.int .i64 ((j:Int) - 1))]) (fun _=>st) (fun j=>j) (by decide +kernel) ⟨bd.length,dB _,aN.mk (by simp -implicitDefEqProofs only[j8,aU,eS,aA,seval])⟩ ?_
 intro j hj
 cases j with
 | zero=>
  rw[rV]
  obtain⟨s1,s2,s3,s4,s5,s6⟩:=p7 (bd.map (fun t=>(⟨t,cut,up⟩:IG))++rest)
  simp -implicitDefEqProofs only[B0,↓KK,List.contains,List.elem,↓reduceIte,reduceCtorEq,Nat.reduceEqDiff]
  refine aS (fun h=>absurd h (by simp)) (fun h=>?_)
  simp -implicitDefEqProofs only[aA,seval]
  exact⟨s6,aL.refl _⟩
 | succ j=>
 obtain⟨s1,s2,s3,s4,s5,s6⟩:=p7 ((bd.drop (j+1)).map (fun t=>(⟨t,cut,up⟩:IG))++rest)
 obtain⟨x,hx⟩:∃x,bd[j]?=some x:=⟨_,dZ (by omega)⟩
 have hat:=bO (av:=Tm.av) (P:=prog) aO hx (aK x)
 have hdr:bd.drop j=x::bd.drop (j+1):=by
  obtain⟨h1,h2⟩:=fR.1 hx
  rw[pQ h1,h2]
 have hc:((j+1:Nat):Int) - 1=(j:Int):=by omega
 have hw:=bE (n:=(j:Int) - 1)
 have hnx:eY ((bd.drop j).map (fun t=>(⟨t,cut,up⟩:IG))++rest)=.pptr (.agg (x.av.cells++ [.int .i64 (cut:Int),.int .i64 up,eY ((bd.drop (j+1)).map (fun t=>(⟨t,cut,up⟩:IG))++rest)])):=by
  rw[hdr]
  obtain⟨k,n,s,ts⟩:=x
  rw[aW,fQ,uB,aY]
  try rfl
 generalize eY ((bd.drop (j+1)).map (fun t=>(⟨t,cut,up⟩:IG))++rest)=A at *
 obtain⟨k,n,s,ts⟩:=x
 simp only[aY] at hat hnx
 rw[hc]
 simp -implicitDefEqProofs only[aA,seval]
 refine aS (fun h=>?_) (fun h=>absurd h (by simp))
 simp -implicitDefEqProofs only[s3,s4,hat,hw,aA,seval,aRY]
 trace_state
 refine⟨j,by omega,by omega,aN.mk (by rw[hnx];simp -implicitDefEqProofs only[aA,seval])⟩
theorem aVZ(c:Int)(st:aB):aD prog 309 [.int .i64 c] st (fun r st'=>r=.int .i64 (sK c)∧st'=st):=by
 refine aD.done ?_
 refine wF [1000000] 1 func309 ntmps309 rfl rfl ?_
 intro _
 simp -implicitDefEqProofs only[aA,seval]
 unfold sK
 refine aS (fun h=>?_) (fun h=>?_)
 · simp -implicitDefEqProofs only[aA,seval]
   have h':c=2:=by simpa using h
   exact⟨by rw[aH h'];try rfl,aL.refl _⟩
 rw[aE (show ¬c=2 by simpa using h)]
 simp -implicitDefEqProofs only[aA,seval]
 refine aS (fun h=>?_) (fun h=>?_)
 · simp -implicitDefEqProofs only[aA,seval]
   have h':c=3:=by simpa using h
   exact⟨by rw[aH h'];try rfl,aL.refl _⟩
 rw[aE (show ¬c=3 by simpa using h)]
 simp -implicitDefEqProofs only[aA,seval]
 refine aS (fun h=>?_) (fun h=>?_)
 · simp -implicitDefEqProofs only[aA,seval]
   have h':c=4:=by simpa using h
   exact⟨by rw[aH h'];try rfl,aL.refl _⟩
 rw[aE (show ¬c=4 by simpa using h)]
 simp -implicitDefEqProofs only[aA,seval]
 exact⟨rfl,aL.refl _⟩
abbrev a78:=zi tI_9 (zi zI_9 (zi cF (zi tI_31 (zi zI_31 (zi aO (zi bH (zi bJ (zi bZ (zi tI_66 (zi zI_66 (zi bS (zi bT (zi bU (zi bV (zi bR (zi tI_199 (zi zI_199 (zi SQ (zi SR QZ)))))))))))))))))))
theorem aAY(k n:Int)(s:ByteArray)(ts:List Tm)(st:aB):aD prog 191 [(Tm.mk k n s ts).av] st (fun r st'=>r=.agg [.str s,.int .i64 (ts.length:Int)]∧st'=st):=by
 refine aD.done ?_
 simp only[aY]
 refine wF [1000000] 1 func191 ntmps191 rfl rfl ?_
 intro _
 simp -implicitDefEqProofs only[aG,aF,aA,seval,a78]
 intro b2 h2
 exact⟨by simp only[eG,d7,mR,aW,aU],(aL.refl _).aC h2⟩
abbrev JT:=zi tI_3 (zi zI_3 (zi aZ (zi tI_29 (zi zI_29 (zi fN (zi iT (zi iU (zi jK (zi tI_46 (zi zI_46 (zi dK (zi fM (zi fJ (zi fX (zi tI_66 (zi zI_66 (zi bS (zi bT (zi bU (zi bV (zi bR (zi tI_84 (zi zI_84 (zi kG (zi kH (zi kD (zi tI_199 (zi zI_199 (zi SQ (zi SR QZ))))))))))))))))))))))))))))))
theorem aVW(p:List Cl)(t:Tm)(hp:p.length≤1048576)(st:aB):aD prog 190 [.slice (p.map bB),.agg [.str t.s,.int .i64 (t.ts.length:Int)]] st (fun r st'=>r=.slice ((dG p t).map nv)∧st'=st):=by
 rw[B5]
 refine aD.done ?_
 obtain⟨tk,tn,ts',tts⟩:=t
 simp only[Tm.s,Tm.ts]
 refine wF [1000000] 2 func190 ntmps190 rfl rfl ?_
 intro _
 simp -implicitDefEqProofs only[aF,aA,seval,JT]
 refine tE (σ:=Unit) [1000000] [3,4,8,9] p 1 5 (fun i _=>((List.range i).filter (rB p (.mk tk tn ts' tts))).map nv) (fun _ _=>True) (fun i _=>[(10,.int .i64 i)]) (fun _ _=>st) (fun i _ _ e he=>by simp only[cU] at he;obtain⟨t,_,rfl⟩:=he;exact⟨rfl,rfl⟩) (by decide +kernel) ⟨(),0,trivial,fun h=>absurd rfl h,aN.mk (by simp -implicitDefEqProofs only[kB,List.range_zero,KN,aU,aA,↓aX,seval])⟩ (fun i x _ b hx hlt bQ hdr hinv hb=>?_) (fun _ b hge hinv=>?_)
 case refine_2=>
  simp -implicitDefEqProofs only[hge,eT,jB,o7,B4,mI,aA,seval]
  exact⟨rfl,aL.refl _⟩
 have hw:=bE (n:=(i:Int)+1)
 have hst:=aM4 p (.mk tk tn ts' tts) i
 have hln:=B6 p (.mk tk tn ts' tts) i
 have hat:=bO (av:=bB) (P:=prog) fN hx (i8 x)
 obtain⟨⟨k,n,s',ts⟩,bd⟩:=x
 rw[fU] at hat
 have hP:rB p (.mk tk tn ts' tts) i=(decide (s'=ts')&&decide ((ts.length:Int)=(tts.length:Int))):=by unfold rB;rw[hx];try rfl
 rw[hP] at hst
 have hpr:=fun st=>aAY k n s' ts st
 have a1X:eL prog .eql 199 (.agg [.str s',.int .i64 (ts.length:Int)]) (.agg [.str ts',.int .i64 (tts.length:Int)])=some (.bool (decide (s'=ts')&&decide ((ts.length:Int)=(tts.length:Int)))):=by
  have h:MH prog 199=true:=by kernel_rfl
  simp only[eL,h,and_self,gB]
 simp only[aY] at hpr
 simp -implicitDefEqProofs only[bQ,hat,aA,↓aX,seval,JT]
 refine wP [(0,1),(1,2),(2,2),(3,2),(4,1)] [0,1,2,3,4] mixed ?_
 simp -implicitDefEqProofs only[aA,seval,JT]
 refine iE (hpr _) ?_
 simp -implicitDefEqProofs only[a1X,aA,seval,JT]
 refine aS (fun h2=>?_) (fun h2=>?_)
 · rw[aH h2] at hst
   simp -implicitDefEqProofs only[aA,seval,JT]
   refine fG dK fM fJ rfl rfl (gA rfl rfl) (NR _) hb (by simp only[aF,aQ,bA];omega) (by simp only[aF,aQ,bA];omega) (fun b' hb'=>?_)
   rw[show ∀l:List Nat,l.map nv++ [AV.int .i64 (i:Int)]=(l++ [i]).map nv from fun l=>by simp [nv],←hst] at hb' ⊢
   simp -implicitDefEqProofs only[hw,aA,seval]
   exact⟨(),b',hb',aN.mk (by simp -implicitDefEqProofs only[aA,seval])⟩
 · rw[aE (by rw[h2];simp),gI] at hst
   rw[←hst] at hb ⊢
   simp -implicitDefEqProofs only[hw,aA,seval]
   exact⟨(),b,hb,aN.mk (by simp -implicitDefEqProofs only[aA,seval])⟩
def sO:IC→AV
 | ⟨.mk k n s ts,node,rest,list,fW,taken⟩=>.agg [.int .i64 k,.int .i64 n,.str s,.slice (ts.map Tm.av),.int .i64 (node:Int),eY rest,.slice (list.map nv),.int .i64 (fW:Int),.int .i64 (taken:Int)]
theorem aOG(k n:Int)(s:ByteArray)(ts:List Tm)(node:Nat)(rest:List IG)(list:List Nat)(fW taken:Nat):sO ⟨.mk k n s ts,node,rest,list,fW,taken⟩=.agg [.int .i64 k,.int .i64 n,.str s,.slice (ts.map Tm.av),.int .i64 (node:Int),eY rest,.slice (list.map nv),.int .i64 (fW:Int),.int .i64 (taken:Int)]:=rfl
theorem a3M(c:IC):(sO c).width=9:=by obtain⟨⟨k,n,s,ts⟩,_,_,_,_,_⟩:=c;rfl
theorem UJ(l:List IC):∀e∈l.map sO,e.width=9:=by intro e he;simp only[cU] at he;obtain⟨t,_,rfl⟩:=he;exact a3M t
theorem a3L(c:IC):(sO c).cells.all AV.storable=true:=by
 obtain⟨⟨k,n,s,ts⟩,_,rest,_,_,_⟩:=c
 rw[aOG]
 have:=(p7 rest).2.2.2.2.1
 rw[eW]
 intro e he
 simp only[AV.cells,c8,dX,eC] at he
 rcases he with rfl | rfl | rfl | rfl | rfl | rfl | rfl | rfl | rfl<;>first | rfl | exact this
def iQ(c:Nat)(p:List Cl)(q:List Tm)(idx:Bool)(fuel used fresh:Int)(gl qc qn:AV)(mx:Int):List AV:=
 [.ptr c 0,.slice (p.map bB),.slice (q.map Tm.av),.bool idx,.bool false,.int .i64 fuel,.int .i64 used,.int .i64 fresh,gl,qc,qn,.int .i64 mx]
def jS(S c m:Nat)(qt qc qn:AV):List Nat:=[S,c,m]++dR qt++dW qc++dW qn
theorem a7J(q:AV):dR q=dW q:=by cases q<;>rfl
theorem U7(q:AV):(dW q).Nodup:=by cases q<;>simp [dW]
structure dO (st0 st:aB) (S c m:Nat) (qt qc qn:AV) (p:List Cl) (q:List Tm) (idx:Bool) (fuel used mx:Int) (nd:List AV) (i:IS):Prop where
 cell:st S=some (.cells (iQ c p q idx fuel used i.fresh (eY i.goals) qc qn mx))
 sto:gS st c m qt i.σ i.tr
 acC:jT st 9 qc (i.chs.map sO)
 acN:jT st 6 qn nd
 ndl:nd.length=i.nn
 ndw:∀e∈nd,e.width=6
 dis:(jS S c m qt qc qn).Nodup
 new:∀b∈jS S c m qt qc qn,st0 b=none
 aV:∀b o,st0 b=some o→st b=some o
theorem eM{b S c m:Nat}{qt qc qn:AV}:b∈jS S c m qt qc qn↔b=S∨b=c∨b=m∨b∈dR qt∨b∈dW qc∨b∈dW qn:=by
 simp only[jS,fF,c8,dX,eC,or_assoc]
section
variable {st0 st:aB} {S c m:Nat} {qt qc qn:AV} {p:List Cl} {q:List Tm} {idx:Bool} {fuel used mx:Int} {nd:List AV} {i:IS}
theorem dO.held(h:dO st0 st S c m qt qc qn p q idx fuel used mx nd i):∀b∈jS S c m qt qc qn,st b≠none:=fun b hb=>by
 rcases eM.1 hb with rfl | rfl | rfl | hb | hb | hb
 · rw[h.cell];simp
 · rw[h.sto.sub.cells];simp
 · rw[h.sto.sub.map];simp
 · obtain⟨cs,e⟩:=h.sto.JP b hb;rw[e];simp
 · obtain⟨cs,e⟩:=h.acC.some b hb;rw[e];simp
 · obtain⟨cs,e⟩:=h.acN.some b hb;rw[e];simp
theorem dO.xH(h:dO st0 st S c m qt qc qn p q idx fuel used mx nd i):aL st st0:=fun b=>by
 refine⟨fun e=>?_,h.aV b⟩
 cases hb:st0 b with
 | none=>rfl
 | some o=>rw[h.aV b o hb] at e;cases e
theorem dO.aM7(h:dO st0 st S c m qt qc qn p q idx fuel used mx nd i){b:Nat}(hb:st b=none):st0 b=none:=(h.xH b).1 hb
theorem dO.parts(h:dO st0 st S c m qt qc qn p q idx fuel used mx nd i):S≠c∧S≠m∧c≠m∧S∉dR qt∧S∉dW qc∧S∉dW qn∧c∉dR qt∧c∉dW qc∧c∉dW qn∧m∉dR qt∧m∉dW qc∧m∉dW qn∧(∀b∈dR qt,b∉dW qc∧b∉dW qn)∧∀b∈dW qc,b∉dW qn:=by
 have hd:=h.dis
 simp only[jS,oV,GN,c8,dX,eC,pI,fF] at hd
 obtain⟨⟨⟨⟨⟨h1,h2⟩,h3,_⟩,h4,h5⟩,h6,h7⟩,h8,h9⟩:=hd
 refine⟨h1,h2,h3,fun hb=>h5 _ (.inl rfl) _ hb rfl,fun hb=>h7 _ (.inl (.inl rfl)) _ hb rfl,fun hb=>h9 _ (.inl (.inl (.inl rfl))) _ hb rfl,
  fun hb=>h5 _ (.inr (.inl rfl)) _ hb rfl,fun hb=>h7 _ (.inl (.inr (.inl rfl))) _ hb rfl,fun hb=>h9 _ (.inl (.inl (.inr (.inl rfl)))) _ hb rfl,
  fun hb=>h5 _ (.inr (.inr rfl)) _ hb rfl,fun hb=>h7 _ (.inl (.inr (.inr rfl))) _ hb rfl,fun hb=>h9 _ (.inl (.inl (.inr (.inr rfl)))) _ hb rfl,
  fun b hb=>⟨fun h'=>h7 b (.inr hb) b h' rfl,fun h'=>h9 b (.inl (.inr hb)) b h' rfl⟩,fun b hb h'=>h9 b (.inr hb) b h' rfl⟩
theorem UZ{X A A' Y:List Nat}(h:(X++A++Y).Nodup)(hA:A'.Nodup)(hn:∀b∈A',b∈A∨b∉X++A++Y):(X++A'++Y).Nodup:=by
 simp only[oV,fF] at h ⊢
 obtain⟨⟨hX,hA0,hXA⟩,hY,hXY⟩:=h
 refine⟨⟨hX,hA,fun a ha b hb e=>?_⟩,hY,fun a ha b hb e=>?_⟩
 · subst e
   rcases hn a hb with h | h
   · exact hXA a ha a h rfl
   · simp only[fF,pI] at h;exact h.1.1 ha
 · subst e
   rcases ha with ha | ha
   · exact hXY a (.inl ha) a hb rfl
   · rcases hn a ha with h | h
     · exact hXY a (.inr h) a hb rfl
     · simp only[fF,pI] at h;exact h.2 hb
theorem dO.go{st':aB}{qt' qc' qn':AV}{fuel' used' mx':Int}{nd':List AV}{i':IS}(h:dO st0 st S c m qt qc qn p q idx fuel used mx nd i)
 (cell:st' S=some (.cells (iQ c p q idx fuel' used' i'.fresh (eY i'.goals) qc' qn' mx'))) (sto:gS st' c m qt' i'.σ i'.tr) (acC:jT st' 9 qc' (i'.chs.map sO)) (acN:jT st' 6 qn' nd') (ndl:nd'.length=i'.nn) (ndw:∀e∈nd',e.width=6)
 (dis:(jS S c m qt' qc' qn').Nodup) (new:∀b∈jS S c m qt' qc' qn',b∈jS S c m qt qc qn∨st b=none) (frame:∀b o,st b=some o→b∉jS S c m qt qc qn→st' b=some o) :
 dO st0 st' S c m qt' qc' qn' p q idx fuel' used' mx' nd' i':=
 ⟨cell,sto,acC,acN,ndl,ndw,dis,fun b hb=>by
  rcases new b hb with h1 | h1
  · exact h.new b h1
  · exact h.aM7 h1,fun b o hb=>frame b o (h.aV b o hb) fun hm=>by rw[h.new b hm] at hb;cases hb⟩
theorem dO.put{fuel' used' mx':Int}{gl:List IG}{F:Nat}{cs:List AV}(h:dO st0 st S c m qt qc qn p q idx fuel used mx nd i)(hcs:cs=iQ c p q idx fuel' used' F (eY gl) qc qn mx') :
 dO st0 (st.aC S (.cells cs)) S c m qt qc qn p q idx fuel' used' mx' nd { i with goals:=gl,fresh:=F }:=by
 obtain⟨h1,h2,h3,h4,h5,h6,_⟩:=h.parts
 subst hcs
 refine h.go (aB.aP _ _ _) (h.sto.aC h1 h2 h4) (h.acC.aV fun b hb=>aB.aJ _ _ (by rintro rfl;exact h5 hb)) (h.acN.aV fun b hb=>aB.aJ _ _ (by rintro rfl;exact h6 hb)) h.ndl h.ndw h.dis (fun b hb=>.inl hb) fun b o hb hn=>?_
 rw[aB.aJ _ _ (by rintro rfl;exact hn (eM.2 (.inl rfl)))]
 exact hb
theorem dO.XB{st':aB}{qt':AV}{σ':Sub}{tr':List Int}(h:dO st0 st S c m qt qc qn p q idx fuel used mx nd i)(hS:gS st' c m qt' σ' tr')(hf:∀b o,st b=some o→b≠c→b≠m→b∉dR qt→st' b=some o)(hn:∀b∈dR qt',b∈dR qt∨st b=none) :
 dO st0 st' S c m qt' qc qn p q idx fuel used mx nd { i with σ:=σ',tr:=tr' }:=by
 obtain⟨h1,h2,h3,h4,h5,h6,h7,h8,h9,h10,h11,h12,h13,h14⟩:=h.parts
 have hC:∀b∈dW qc,st' b=st b:=fun b hb=>by
  obtain⟨cs,e⟩:=h.acC.some b hb
  rw[e,hf b _ e (by rintro rfl;exact h8 hb) (by rintro rfl;exact h11 hb) (fun hb'=>(h13 b hb').1 hb)]
 have hN:∀b∈dW qn,st' b=st b:=fun b hb=>by
  obtain⟨cs,e⟩:=h.acN.some b hb
  rw[e,hf b _ e (by rintro rfl;exact h9 hb) (by rintro rfl;exact h12 hb) (fun hb'=>(h13 b hb').2 hb)]
 refine h.go (hf S _ h.cell h1 h2 h4) hS (h.acC.aV hC) (h.acN.aV hN) h.ndl h.ndw ?_ (fun b hb=>?_) (fun b o hb hn'=>?_)
 · have hd:=h.dis
   unfold jS at hd ⊢
   rw[mU] at hd ⊢
   refine UZ hd (by rw[a7J];exact U7 _) fun b hb=>?_
   rcases hn b hb with h' | h'
   · exact .inl h'
   · refine .inr fun hm=>h.held b ?_ h'
     unfold jS;rw[mU];exact hm
 · rcases eM.1 hb with rfl | rfl | rfl | hb | hb | hb
   · exact .inl (eM.2 (.inl rfl))
   · exact .inl (eM.2 (.inr (.inl rfl)))
   · exact .inl (eM.2 (.inr (.inr (.inl rfl))))
   · rcases hn b hb with h' | h'
     · exact .inl (eM.2 (.inr (.inr (.inr (.inl h')))))
     · exact .inr h'
   · exact .inl (eM.2 (.inr (.inr (.inr (.inr (.inl hb))))))
   · exact .inl (eM.2 (.inr (.inr (.inr (.inr (.inr hb))))))
 · have:=fun x=>hn' (eM.2 x)
   exact hf b o hb (by rintro rfl;exact this (.inr (.inl rfl))) (by rintro rfl;exact this (.inr (.inr (.inl rfl)))) fun hb'=>this (.inr (.inr (.inr (.inl hb'))))
theorem dO.post{st':aB}{σ':Sub}{tr':List Int}(h:dO st0 st S c m qt qc qn p q idx fuel used mx nd i)(hP:wV c m st qt σ' tr' st'):∃qt',dO st0 st' S c m qt' qc qn p q idx fuel used mx nd { i with σ:=σ',tr:=tr' }:=by
 obtain⟨q',hS,hQ⟩:=hP
 exact⟨q',h.XB hS (fun b o hb h1 h2 h3=>hQ.frame b o hb h1 h2 h3) hQ.fresh⟩
end
theorem gS.E9{st st':aB}{c m:Nat}{q:AV}{σ:Sub}{tr:List Int}(h:gS st c m q σ tr)(hc:st' c=st c)(hm:st' m=st m)(ht:∀b∈dR q,st' b=st b):gS st' c m q σ tr:=by
 refine⟨⟨by rw[hc];exact h.sub.cells,by rw[hm];exact h.sub.map⟩,?_,h.apart⟩
 rcases h.fW with h1 | ⟨b,cs,h1,h2,h3⟩
 · exact .inl h1
 · exact .inr ⟨b,cs,h1,by rw[ht b (by rw[h1];simp [dR])];exact h2,h3⟩
section
variable {st0 st:aB} {S c m:Nat} {qt qc qn:AV} {p:List Cl} {q:List Tm} {idx:Bool} {fuel used mx:Int} {nd:List AV} {i:IS}
theorem dO.a5S{st':aB}{qc':AV}{aBM:List IC}{cs:List AV}(h:dO st0 st S c m qt qc qn p q idx fuel used mx nd i)(o9:jT st' 9 qc' (aBM.map sO))(hf:∀y,y∉dW qc→y∉dW qc'→st' y=st y)(hn:∀y∈dW qc',y∈dW qc∨st y=none)
 (hcs:cs=iQ c p q idx fuel used i.fresh (eY i.goals) qc' qn mx):dO st0 (st'.aC S (.cells cs)) S c m qt qc' qn p q idx fuel used mx nd { i with chs:=aBM }:=by
 obtain⟨h1,h2,h3,h4,h5,h6,h7,h8,h9,h10,h11,h12,h13,h14⟩:=h.parts
 have same:∀b,st b≠none→b∉dW qc→st' b=st b:=fun b hb hq=>hf b hq fun hq'=>by
  rcases hn b hq' with h' | h'
  · exact hq h'
  · exact hb h'
 have hS:S∉dW qc':=fun hb=>by
  rcases hn S hb with h' | h'
  · exact h5 h'
  · rw[h.cell] at h';cases h'
 subst hcs
 have held:=fun b x=>h.held b (eM.2 x)
 refine h.go (aB.aP _ _ _) (h.sto.E9 ?_ ?_ fun b hb=>?_) (o9.aV fun b hb=>aB.aJ _ _ (by rintro rfl;exact hS hb)) (h.acN.aV fun b hb=>?_) h.ndl h.ndw ?_ (fun b hb=>?_) fun b o hb hn'=>?_
 · rw[aB.aJ _ _ (c9 h1)];exact same c (held c (.inr (.inl rfl))) h8
 · rw[aB.aJ _ _ (c9 h2)];exact same m (held m (.inr (.inr (.inl rfl)))) h11
 · rw[aB.aJ _ _ (by rintro rfl;exact h4 hb)];exact same b (held b (.inr (.inr (.inr (.inl hb))))) (h13 b hb).1
 · rw[aB.aJ _ _ (by rintro rfl;exact h6 hb)];exact same b (held b (.inr (.inr (.inr (.inr (.inr hb)))))) fun h'=>h14 b h' hb
 · have hd:=h.dis
   unfold jS at hd ⊢
   refine UZ hd (U7 _) fun b hb=>?_
   rcases hn b hb with h' | h'
   · exact .inl h'
   · refine .inr fun hm=>h.held b ?_ h'
     unfold jS;exact hm
 · rcases eM.1 hb with rfl | rfl | rfl | hb | hb | hb
   · exact .inl (eM.2 (.inl rfl))
   · exact .inl (eM.2 (.inr (.inl rfl)))
   · exact .inl (eM.2 (.inr (.inr (.inl rfl))))
   · exact .inl (eM.2 (.inr (.inr (.inr (.inl hb)))))
   · rcases hn b hb with h' | h'
     · exact .inl (eM.2 (.inr (.inr (.inr (.inr (.inl h'))))))
     · exact .inr h'
   · exact .inl (eM.2 (.inr (.inr (.inr (.inr (.inr hb))))))
 · have hno:=fun x=>hn' (eM.2 x)
   rw[aB.aJ _ _ (by rintro rfl;exact hno (.inl rfl)),same b (by rw[hb];simp) fun h'=>hno (.inr (.inr (.inr (.inr (.inl h')))))]
   exact hb
theorem dO.a5T{st':aB}{qn':AV}{nd':List AV}{n':Nat}{cs:List AV}(h:dO st0 st S c m qt qc qn p q idx fuel used mx nd i)(o9:jT st' 6 qn' nd')(hl:nd'.length=n')(hw:∀e∈nd',e.width=6)(hf:∀y,y∉dW qn→y∉dW qn'→st' y=st y)(hn:∀y∈dW qn',y∈dW qn∨st y=none)
 (hcs:cs=iQ c p q idx fuel used i.fresh (eY i.goals) qc qn' mx):dO st0 (st'.aC S (.cells cs)) S c m qt qc qn' p q idx fuel used mx nd' { i with nn:=n' }:=by
 obtain⟨h1,h2,h3,h4,h5,h6,h7,h8,h9,h10,h11,h12,h13,h14⟩:=h.parts
 have same:∀b,st b≠none→b∉dW qn→st' b=st b:=fun b hb hq=>hf b hq fun hq'=>by
  rcases hn b hq' with h' | h'
  · exact hq h'
  · exact hb h'
 have hS:S∉dW qn':=fun hb=>by
  rcases hn S hb with h' | h'
  · exact h6 h'
  · rw[h.cell] at h';cases h'
 subst hcs
 have held:=fun b x=>h.held b (eM.2 x)
 refine h.go (aB.aP _ _ _) (h.sto.E9 ?_ ?_ fun b hb=>?_) (h.acC.aV fun b hb=>?_) (o9.aV fun b hb=>aB.aJ _ _ (by rintro rfl;exact hS hb)) hl hw ?_ (fun b hb=>?_) fun b o hb hn'=>?_
 · rw[aB.aJ _ _ (c9 h1)];exact same c (held c (.inr (.inl rfl))) h9
 · rw[aB.aJ _ _ (c9 h2)];exact same m (held m (.inr (.inr (.inl rfl)))) h12
 · rw[aB.aJ _ _ (by rintro rfl;exact h4 hb)];exact same b (held b (.inr (.inr (.inr (.inl hb))))) (h13 b hb).2
 · rw[aB.aJ _ _ (by rintro rfl;exact h5 hb)];exact same b (held b (.inr (.inr (.inr (.inr (.inl hb)))))) (h14 b hb)
 · have hd:=h.dis
   unfold jS at hd ⊢
   have:=UZ (X:=[S,c,m]++dR qt++dW qc) (A:=dW qn) (A':=dW qn') (Y:=[]) (by rw[gI];exact hd) (U7 _) fun b hb=>by
    rcases hn b hb with h' | h'
    · exact .inl h'
    · refine .inr fun hm=>h.held b ?_ h'
      rw[gI] at hm
      unfold jS;exact hm
   rwa [gI] at this
 · rcases eM.1 hb with rfl | rfl | rfl | hb | hb | hb
   · exact .inl (eM.2 (.inl rfl))
   · exact .inl (eM.2 (.inr (.inl rfl)))
   · exact .inl (eM.2 (.inr (.inr (.inl rfl))))
   · exact .inl (eM.2 (.inr (.inr (.inr (.inl hb)))))
   · exact .inl (eM.2 (.inr (.inr (.inr (.inr (.inl hb))))))
   · rcases hn b hb with h' | h'
     · exact .inl (eM.2 (.inr (.inr (.inr (.inr (.inr h'))))))
     · exact .inr h'
 · have hno:=fun x=>hn' (eM.2 x)
   rw[aB.aJ _ _ (by rintro rfl;exact hno (.inl rfl)),same b (by rw[hb];simp) fun h'=>hno (.inr (.inr (.inr (.inr (.inr h')))))]
   exact hb
theorem dO.nodes{k:Nat}(h:dO st0 st S c m qt qc qn p q idx fuel used mx nd i)(hk:k<i.nn):∃b,qn=.mslice b 0 nd.length 6:=by
 have hl:=h.ndl
 rcases h.acN with ⟨_,e⟩ | ⟨b,cs,e,_⟩
 · subst e;simp at hl;omega
 · exact⟨b,e⟩
theorem dO.nodeAt{b n:Nat}(h:dO st0 st S c m qt qc (.mslice b 0 n 6) p q idx fuel used mx nd i):∃cs,st b=some (.cells cs)∧nd.length*6≤cs.length:=by
 rcases h.acN with ⟨e,_⟩ | ⟨b',cs,e,h2,_,h4⟩
 · cases e
 · cases e;exact⟨cs,h2,h4⟩
theorem aQQ:∀(n:Nat) (cs:List AV),cs.length=n*6→∃nd:List AV,nd.length=n∧(∀e∈nd,e.width=6)∧nd.flatMap AV.cells=cs
 | 0,cs,h=>⟨[],rfl,by simp,by have:cs= []:=oB (by simpa using h);subst this;rfl⟩
 | n+1,cs,h=>by
  obtain⟨nd,h1,h2,h3⟩:=aQQ n (cs.drop 6) (by rw[lR,h];omega)
  refine⟨.agg (cs.take 6)::nd,by simp [h1],fun e he=>?_,?_⟩
  · rcases c8.1 he with rfl | he
    · show(cs.take 6).length=6
      rw[dQ,h];omega
    · exact h2 e he
  · rw[qS,h3]
    exact rX 6 cs
theorem dO.aQK{b k:Nat}{cs:List AV}{x:AV}(h:dO st0 st S c m qt qc qn p q idx fuel used mx nd i)(hq:qn=.mslice b 0 nd.length 6)(hb:st b=some (.cells cs))(hk:k<nd.length*6) :
 ∃nd',dO st0 (st.aC b (.cells (aG cs k [x]))) S c m qt qc qn p q idx fuel used mx nd' i:=by
 obtain⟨h1,h2,h3,h4,h5,h6,h7,h8,h9,h10,h11,h12,h13,h14⟩:=h.parts
 have hbq:b∈dW qn:=by rw[hq];simp [dW]
 have hne:∀a,a∉dW qn→st.aC b (.cells (aG cs k [x])) a=st a:=fun a ha=>aB.aJ _ _ (by rintro rfl;exact ha hbq)
 have hcl:nd.length*6≤cs.length:=by
  rcases h.acN with ⟨e,_⟩ | ⟨b',cs',e1,e2,e3,e4⟩
  · rw[hq] at e;cases e
  · rw[hq] at e1
    cases e1
    rw[hb] at e2;cases e2
    exact e4
 have hlen:(aG cs k [x]).length=cs.length:=by
  simp only[aG,dL,dQ,lR,aQ,bA]
  omega
 obtain⟨nd',n1,n2,n3⟩:=aQQ nd.length ((aG cs k [x]).take (nd.length*6)) (by rw[dQ,hlen];omega)
 refine⟨nd',h.go (by rw[hne S h6];exact h.cell) (h.sto.E9 (hne c h9) (hne m h12) fun b hb=>hne b (h13 b hb).2) (h.acC.aV fun b hb=>hne b (h14 b hb)) (.inr ⟨b,_,by rw[hq,n1],aB.aP _ _ _,by rw[n1,n3],by rw[n1,hlen];exact hcl⟩) (by rw[n1];exact h.ndl) n2 h.dis (fun b hb=>.inl hb) fun a o ha hn=>?_⟩
 rw[hne a fun h'=>hn (eM.2 (.inr (.inr (.inr (.inr (.inr h'))))))]
 exact ha
end
theorem aQR{φ:AF}{t:TypeId}{ag:Bool}{w d k:Nat}{st:aB}{qc:AV}{l:List AV}(hI:eI prog t=some (ag,w))(hA:jT st w qc l)(h:φ d=.int .i64 (k:Int))(hk:k≤l.length):iK prog φ t qc none (some (.tmp d)) none=some (zB k qc):=by
 rcases hA with ⟨rfl,rfl⟩ | ⟨b,cs,rfl,_⟩
 · have h0:k=0:=by simpa using hk
   subst h0
   exact aQS hI h
 · exact VZ hI h hk
section
variable {st0 st:aB} {S c m:Nat} {qt qc qn:AV} {p:List Cl} {q:List Tm} {idx:Bool} {fuel used mx:Int} {nd:List AV} {i:IS}
theorem dO.aB0{k:Nat}{cs:List AV}{gl:List IG}(h:dO st0 st S c m qt qc qn p q idx fuel used mx nd i)(hk:k≤i.chs.length)(hcs:cs=iQ c p q idx fuel used i.fresh (eY gl) (zB k qc) qn mx) :
 dO st0 (st.aC S (.cells cs)) S c m qt (zB k qc) qn p q idx fuel used mx nd { i with goals:=gl,chs:=i.chs.take k }:=by
 obtain⟨h1,h2,h3,h4,h5,h6,_⟩:=h.parts
 subst hcs
 have hA:=h.acC.take (k:=k) (by rw[aF];exact hk) (UJ _)
 rw[←GK] at hA
 refine h.go (aB.aP _ _ _) (h.sto.aC h1 h2 h4) (hA.aV fun b hb=>aB.aJ _ _ (by rw[FM] at hb;rintro rfl;exact h5 hb)) (h.acN.aV fun b hb=>aB.aJ _ _ (by rintro rfl;exact h6 hb)) h.ndl h.ndw (by unfold jS;rw[FM];exact h.dis) (fun b hb=>.inl (by unfold jS at hb;rw[FM] at hb;exact hb)) fun b o hb hn=>?_
 rw[aB.aJ _ _ (by rintro rfl;exact hn (eM.2 (.inl rfl)))]
 exact hb
theorem dO.aZE{k:Nat}{cs:List AV}(h:dO st0 st S c m qt qc qn p q idx fuel used mx nd i)(hk:k≤i.nn)(hcs:cs=iQ c p q idx fuel used i.fresh (eY i.goals) qc (zB k qn) mx) :
 dO st0 (st.aC S (.cells cs)) S c m qt qc (zB k qn) p q idx fuel used mx (nd.take k) { i with nn:=k }:=by
 obtain⟨h1,h2,h3,h4,h5,h6,_⟩:=h.parts
 subst hcs
 have hnl:=h.ndl
 have hA:=h.acN.take (k:=k) (by rw[hnl];exact hk) h.ndw
 refine h.go (aB.aP _ _ _) (h.sto.aC h1 h2 h4) (h.acC.aV fun b hb=>aB.aJ _ _ (by rintro rfl;exact h5 hb)) (hA.aV fun b hb=>aB.aJ _ _ (by rw[FM] at hb;rintro rfl;exact h6 hb)) (by rw[dQ,hnl];simp only;omega) (fun e he=>h.ndw e (lS he)) (by unfold jS;rw[FM];exact h.dis) (fun b hb=>.inl (by unfold jS at hb;rw[FM] at hb;exact hb)) fun b o hb hn=>?_
 rw[aB.aJ _ _ (by rintro rfl;exact hn (eM.2 (.inl rfl)))]
 exact hb
end
def nN(c m:Nat)(st:aB)(q:AV)(tr:List Int)(x:Int×Sub×List Int)(r:AV)(st':aB):Prop:=r=.int .i64 x.1∧wV c m st q x.2.1 (tr++x.2.2) st'
theorem nN.same{c m:Nat}{st:aB}{q:AV}{σ:Sub}{tr:List Int}(h:gS st c m q σ tr){r:AV}(k:Int)(hr:r=.int .i64 k):nN c m st q tr (k,σ,[]) r st:=⟨hr,q,by rw[gI];exact h,m6.refl _ _ _ _⟩
theorem gS.aST{P:Program}{t e:TypeId}{st:aB}{c m:Nat}{q:AV}{σ:Sub}{tr:List Int}(h:gS st c m q σ tr)(hu:P.underlying t=some (.slice e)):m8 P t q=some (.int .i64 (tr.length:Int)):=by
 rcases h.fW with ⟨rfl,rfl⟩ | ⟨b,cs,rfl,_⟩<;>simp only[m8,hu,bA]
theorem HJ{N:Nat}{σ:Sub}(hg:cT σ)(ho:cW (bF N) σ)(a b:Tm)(ha:bF N a)(hb:bF N b)(c m:Nat)(q:AV)(tr:List Int)(st:aB)(hS:gS st c m q σ tr)(hl:tr.length+N≤1099511627776) :
 aD prog 360 [.ptr c 0,a.av,b.av] st (fun r st'=>r=.bool (iD σ a b).1∧wV c m st q (iD σ a b).2.1 (tr++(iD σ a b).2.2) st'):=by
 obtain⟨r,σ',tr',hU⟩:=tC hg ho ha hb
 obtain⟨g,mJ⟩:=hU.run
 have hlen:=FG hU.n9.nodup hU.gQ
 rw[hU.eq]
 exact aBE g σ a b r σ' tr' hg (ho.imp fun t ht=>ht.1.small) ha.1.small hb.1.small mJ c m q tr st hS (by omega)
abbrev l9:=zi tI_3 (zi zI_3 (zi aZ (zi tI_4 (zi zI_4 (zi cG (zi tI_9 (zi zI_9 (zi cF (zi tI_31 (zi zI_31 (zi aO (zi bH (zi bJ (zi bZ (zi tI_46 (zi zI_46 (zi dK (zi fM (zi fJ (zi fX (zi tI_66 (zi zI_66 (zi bS (zi bT (zi bU (zi bV (zi bR (zi tI_227 (zi zI_227 (zi tI_304 (zi zI_304 (zi ER (zi ES D8)))))))))))))))))))))))))))))))))
theorem aVU{N:Nat}{σ:Sub}(hg:cT σ)(ho:cW (bF N) σ)(n:Int)(s:ByteArray)(ks:List Tm)(hb:isBuiltin s (ks.length:Int)=true)(hv:∀x∈ks,bF N x)(c m:Nat)(q:AV)(tr:List Int)(st:aB)(hS:gS st c m q σ tr)(hl:tr.length+N≤1099511627776) :
 aD prog 308 [.ptr c 0,(Tm.mk 3 n s ks).av] st (nN c m st q tr (dH σ s ks)):=by
 have TJ:=aVY 3 n s ks
 have hcs:=ZL hb
 have E5:=fun x y (hxy:ks= [x,y]) h=>aVX n s x y h (hv x (by simp [hxy])).1 (hv y (by simp [hxy])).1
 simp only[aY] at TJ E5 ⊢
 refine wF [1000000] 2 func308 ntmps308 rfl rfl ?_
 intro _
 simp -implicitDefEqProofs only[aA,seval,l9]
 refine(TJ _).to ?_
 simp -implicitDefEqProofs only[aA,seval]
 refine aS (fun h=>?_) (fun h=>?_)
 · have h':ks.length=2∧gQ sE s=true:=by simp at h;exact⟨by omega,h.2⟩
   obtain⟨x,y,rfl⟩:=wA h'.1
   have e:dH σ s [x,y]=(zA s x y,σ,[]):=by simp only[dH];rw[aH h'.2]
   rw[e]
   have hc:=E5 x y rfl h'.2
   simp only[aW,aU] at hc
   simp -implicitDefEqProofs only[aA,↓aX,seval,l9]
   refine(hc _).to ?_
   simp -implicitDefEqProofs only[aA,seval]
   exact nN.same hS _ rfl
 have hnc:ks.length=2→gQ sE s=false:=fun h2=>by simpa [h2] using h
 clear TJ E5 h
 simp -implicitDefEqProofs only[aA,seval,l9]
 refine aS (fun h=>?_) (fun h=>?_)
 · have hs:s=⟨#[116,114,117,101]⟩:=by simpa using h
   have hk:=NM (ts:=ks) (by subst hs;simpa [isBuiltin] using hb)
   subst hk
   simp -implicitDefEqProofs only[aA,seval]
   exact nN.same hS _ (by simp [jA,hs])
 have ht:s≠⟨#[116,114,117,101]⟩:=by simpa using h
 simp -implicitDefEqProofs only[aA,seval]
 refine aS (fun h=>?_) (fun h=>?_)
 · have hs:s=⟨#[102,97,105,108]⟩:=by simpa using h
   have hk:=NM (ts:=ks) (by subst hs;simpa [isBuiltin] using hb)
   subst hk
   simp -implicitDefEqProofs only[aA,seval]
   exact nN.same hS _ (by simp [jA,hs])
 have hf:s≠⟨#[102,97,105,108]⟩:=by simpa using h
 simp -implicitDefEqProofs only[aA,seval]
 refine aS (fun h=>?_) (fun h=>?_)
 · have hs:s=⟨#[61]⟩:=by simpa using h
   obtain⟨x,y,rfl⟩:=wA (ts:=ks) (by subst hs;simp [isBuiltin] at hb;omega)
   have e:dH σ s [x,y]=tB σ x y:=by simp only[dH];rw[aE (by rw[hnc rfl];simp),aH hs]
   rw[e]
   have eA:dM prog 31 (.slice [x.av,y.av]) (.int .i64 0)=some (.pptr x.av):=bO (av:=Tm.av) (l:=[x,y]) (i:=0) aO rfl (aK x)
   have g9:dM prog 31 (.slice [x.av,y.av]) (.int .i64 1)=some (.pptr y.av):=bO (av:=Tm.av) (l:=[x,y]) (i:=1) aO rfl (aK y)
   simp -implicitDefEqProofs only[aA,↓aX,seval]
   refine wX [(0,1),(1,1),(2,1),(3,1),(4,1),(5,1),(6,1),(7,0),(8,0),(9,1)] [0,1,2,3,4,5,6,9] fE mixed rfl fZ ?_
   simp -implicitDefEqProofs only[eA,g9,a7,aK,aA,seval,l9]
   refine(HJ hg ho x y (hv x (by simp)) (hv y (by simp)) c m q tr _ hS hl).mono ?_
   rintro _ s2 ⟨rfl,hP⟩
   simp -implicitDefEqProofs only[aA,seval]
   refine⟨fZ,?_⟩
   refine(pY _ _).to ?_
   simp -implicitDefEqProofs only[aA,seval]
   exact⟨fZ,rfl,hP⟩
 have he:s≠⟨#[61]⟩:=by simpa using h
 simp -implicitDefEqProofs only[aA,seval]
 refine aS (fun h=>?_) (fun h=>?_)
 · have hs:s=⟨#[92,61]⟩:=by simpa using h
   obtain⟨x,y,rfl⟩:=wA (ts:=ks) (by subst hs;simp [isBuiltin] at hb;omega)
   have e:dH σ s [x,y]=(jA (!(iD σ x y).1),σ,[]):=by simp only[dH];rw[aE (by rw[hnc rfl];simp),aE he,aH hs]
   rw[e]
   have e1:=hS.sub.cells
   have hql:=hS.aST fX
   obtain⟨hqa,hqw,hqj,hqc,hqs⟩:=hS.shape
   have eA:dM prog 31 (.slice [x.av,y.av]) (.int .i64 0)=some (.pptr x.av):=bO (av:=Tm.av) (l:=[x,y]) (i:=0) aO rfl (aK x)
   have g9:dM prog 31 (.slice [x.av,y.av]) (.int .i64 1)=some (.pptr y.av):=bO (av:=Tm.av) (l:=[x,y]) (i:=1) aO rfl (aK y)
   simp -implicitDefEqProofs only[e1,hql,hqa,aA,↓aX,seval,l9]
   refine wX [(0,1),(1,1),(2,1),(3,1),(4,1),(5,1),(6,1),(7,0),(8,1)] [0,1,2,3,4,5,6,8] fE mixed rfl fZ ?_
   simp -implicitDefEqProofs only[eA,g9,a7,aK,aA,seval,l9]
   refine(HJ hg ho x y (hv x (by simp)) (hv y (by simp)) c m q tr _ hS hl).mono ?_
   rintro _ s2 ⟨rfl,hP⟩
   obtain⟨r,σ',add,hU⟩:=tC hg ho (hv x (by simp)) (hv y (by simp))
   rw[hU.eq] at hP ⊢
   obtain⟨q',hS2,hQ2⟩:=hP
   have a05:=FG hU.n9.nodup hU.gQ
   simp -implicitDefEqProofs only[aA,seval]
   refine⟨fZ,?_⟩
   refine(RZ σ' (tr++add) tr.length (by simp) c m q' s2 hS2 (by rw[dL];omega)).mono ?_
   rintro _ s3 ⟨rfl,q2,hS3,hb3,hk3⟩
   rw[GH,DR,show σ'.out add=σ from funext fun n=>hU.out n] at hS3
   simp -implicitDefEqProofs only[aA,seval]
   refine(pY _ _).to ?_
   simp -implicitDefEqProofs only[aA,seval]
   refine⟨rfl,q2,by rw[gI];exact hS3,fun b o h h1 h2 h3=>hk3 b o (hQ2.frame b o h h1 h2 h3) h1 h2,fun b hb'=>hQ2.fresh b (hb3 b hb')⟩
 have hne:s≠⟨#[92,61]⟩:=by simpa using h
 simp -implicitDefEqProofs only[aA,seval]
 refine aS (fun h=>?_) (fun h=>?_)
 · have hs:s=⟨#[61,61]⟩:=by simpa using h
   obtain⟨x,y,rfl⟩:=wA (ts:=ks) (by subst hs;simp [isBuiltin] at hb;omega)
   have e:dH σ s [x,y]=(jA (x.same y),σ,[]):=by simp only[dH];rw[aE (by rw[hnc rfl];simp),aE he,aE hne,aH hs]
   rw[e]
   have eA:dM prog 31 (.slice [x.av,y.av]) (.int .i64 0)=some (.pptr x.av):=bO (av:=Tm.av) (l:=[x,y]) (i:=0) aO rfl (aK x)
   have g9:dM prog 31 (.slice [x.av,y.av]) (.int .i64 1)=some (.pptr y.av):=bO (av:=Tm.av) (l:=[x,y]) (i:=1) aO rfl (aK y)
   simp -implicitDefEqProofs only[aA,↓aX,seval]
   refine xA mixed (by decide +kernel) (by decide +kernel) ?_
   simp -implicitDefEqProofs only[eA,g9,a7,aK,aA,seval,l9]
   refine iE (RA x y _) ?_
   simp -implicitDefEqProofs only[aA,seval]
   refine iE (pY _ _) ?_
   simp -implicitDefEqProofs only[aA,seval]
   exact nN.same hS _ rfl
 have hee:s≠⟨#[61,61]⟩:=by simpa using h
 simp -implicitDefEqProofs only[aA,seval]
 refine aS (fun h=>?_) (fun h=>?_)
 · have hs:s=⟨#[105,115]⟩:=by simpa using h
   obtain⟨x,y,rfl⟩:=wA (ts:=ks) (by subst hs;simp [isBuiltin] at hb;omega)
   have e:dH σ s [x,y]=if y.ev.2≠0 then(y.ev.2,σ,[]) else tB σ x (oP y.ev.1):=by simp only[dH];rw[aE (by rw[hnc rfl];simp),aE he,aE hne,aE hee]
   rw[e]
   have hy:=hv y (by simp)
   have hin:=NJ (N:=N) (Tm.vS y hy.1)
   have har:=fun st=>LR y st hy.1
   generalize y.ev.1=a at *
   generalize y.ev.2=ca at *
   have eA:dM prog 31 (.slice [x.av,y.av]) (.int .i64 0)=some (.pptr x.av):=bO (av:=Tm.av) (l:=[x,y]) (i:=0) aO rfl (aK x)
   have g9:dM prog 31 (.slice [x.av,y.av]) (.int .i64 1)=some (.pptr y.av):=bO (av:=Tm.av) (l:=[x,y]) (i:=1) aO rfl (aK y)
   simp -implicitDefEqProofs only[g9,a7,aK,aA,↓aX,seval,l9]
   refine(har _).to ?_
   simp -implicitDefEqProofs only[aA,seval]
   refine aS (fun h4=>?_) (fun h4=>?_)
   · simp -implicitDefEqProofs only[aA,seval]
     have h4':ca≠0:=by simpa using h4
     rw[aH h4']
     exact nN.same hS _ rfl
   have h4':ca=0:=by simpa using h4
   subst h4'
   rw[aE (by simp)]
   simp -implicitDefEqProofs only[aA,seval]
   refine wX [(0,1),(1,1),(2,1),(3,1),(4,1),(5,0),(6,0),(7,0),(8,1)] [0,1,2,3,4,8] fE mixed rfl fZ ?_
   simp -implicitDefEqProofs only[eA,a7,aK,aA,seval,l9]
   refine(aX9 a _).to ?_
   simp -implicitDefEqProofs only[aA,seval]
   refine⟨fZ,?_⟩
   refine(HJ hg ho x (oP a) (hv x (by simp)) hin c m q tr _ hS hl).mono ?_
   rintro _ s2 ⟨rfl,hP⟩
   simp -implicitDefEqProofs only[aA,seval]
   refine⟨fZ,?_⟩
   refine(pY _ _).to ?_
   simp -implicitDefEqProofs only[aA,seval]
   exact⟨fZ,rfl,hP⟩
 have his:s≠⟨#[105,115]⟩:=by simpa using h
 simp -implicitDefEqProofs only[aA,seval]
 refine aS (fun h=>?_) (fun h=>?_)
 · have hs:s=⟨#[118,97,114]⟩:=by simpa using h
   obtain⟨x,rfl⟩:=IV (ts:=ks) (by subst hs;simp [isBuiltin] at hb;omega)
   have e:dH σ s [x]=(jA (uQ s x),σ,[]):=rfl
   rw[e]
   subst hs
   obtain⟨xk,xn,xs,xt⟩:=x
   have eA:dM prog 31 (.slice [(Tm.mk xk xn xs xt).av]) (.int .i64 0)=some (.pptr (Tm.mk xk xn xs xt).av):=bO (av:=Tm.av) (l:=[Tm.mk xk xn xs xt]) (i:=0) aO rfl (aK _)
   have eat:=HF xk xn xs xt
   simp only[aY] at eA eat
   simp only[aW,aU,aY]
   simp -implicitDefEqProofs only[eA,aA,↓aX,seval,l9]
   refine(pY _ _).to ?_
   simp -implicitDefEqProofs only[aA,seval]
   exact nN.same hS _ rfl
 have hva:s≠⟨#[118,97,114]⟩:=by simpa using h
 simp -implicitDefEqProofs only[aA,seval]
 refine aS (fun h=>?_) (fun h=>?_)
 · have hs:s=⟨#[110,111,110,118,97,114]⟩:=by simpa using h
   obtain⟨x,rfl⟩:=IV (ts:=ks) (by subst hs;simp [isBuiltin] at hb;omega)
   have e:dH σ s [x]=(jA (uQ s x),σ,[]):=rfl
   rw[e]
   subst hs
   obtain⟨xk,xn,xs,xt⟩:=x
   have eA:dM prog 31 (.slice [(Tm.mk xk xn xs xt).av]) (.int .i64 0)=some (.pptr (Tm.mk xk xn xs xt).av):=bO (av:=Tm.av) (l:=[Tm.mk xk xn xs xt]) (i:=0) aO rfl (aK _)
   have eat:=HF xk xn xs xt
   simp only[aY] at eA eat
   simp only[aW,aU,aY]
   simp -implicitDefEqProofs only[eA,aA,↓aX,seval,l9]
   refine(pY _ _).to ?_
   simp -implicitDefEqProofs only[aA,seval]
   exact nN.same hS _ rfl
 have hnv:s≠⟨#[110,111,110,118,97,114]⟩:=by simpa using h
 simp -implicitDefEqProofs only[aA,seval]
 refine aS (fun h=>?_) (fun h=>?_)
 · have hs:s=⟨#[97,116,111,109]⟩:=by simpa using h
   obtain⟨x,rfl⟩:=IV (ts:=ks) (by subst hs;simp [isBuiltin] at hb;omega)
   have e:dH σ s [x]=(jA (uQ s x),σ,[]):=rfl
   rw[e]
   subst hs
   obtain⟨xk,xn,xs,xt⟩:=x
   have eA:dM prog 31 (.slice [(Tm.mk xk xn xs xt).av]) (.int .i64 0)=some (.pptr (Tm.mk xk xn xs xt).av):=bO (av:=Tm.av) (l:=[Tm.mk xk xn xs xt]) (i:=0) aO rfl (aK _)
   have eat:=HF xk xn xs xt
   simp only[aY] at eA eat
   simp only[aW,aU,aY]
   simp -implicitDefEqProofs only[eA,aA,↓aX,seval,l9]
   refine(eat _).to ?_
   simp -implicitDefEqProofs only[aA,seval]
   refine(pY _ _).to ?_
   simp -implicitDefEqProofs only[aA,seval]
   exact nN.same hS _ rfl
 have hat:s≠⟨#[97,116,111,109]⟩:=by simpa using h
 simp -implicitDefEqProofs only[aA,seval]
 refine aS (fun h=>?_) (fun h=>?_)
 · have hs:s=⟨#[105,110,116]⟩:=by simpa using h
   obtain⟨x,rfl⟩:=IV (ts:=ks) (by subst hs;simp [isBuiltin] at hb;omega)
   have e:dH σ s [x]=(jA (uQ s x),σ,[]):=rfl
   rw[e]
   subst hs
   obtain⟨xk,xn,xs,xt⟩:=x
   have eA:dM prog 31 (.slice [(Tm.mk xk xn xs xt).av]) (.int .i64 0)=some (.pptr (Tm.mk xk xn xs xt).av):=bO (av:=Tm.av) (l:=[Tm.mk xk xn xs xt]) (i:=0) aO rfl (aK _)
   have eat:=HF xk xn xs xt
   simp only[aY] at eA eat
   simp only[aW,aU,aY]
   simp -implicitDefEqProofs only[eA,aA,↓aX,seval,l9]
   refine(pY _ _).to ?_
   simp -implicitDefEqProofs only[aA,seval]
   exact nN.same hS _ rfl
 have hint:s≠⟨#[105,110,116]⟩:=by simpa using h
 have hs:s=⟨#[97,114,103]⟩∧ks.length=3:=by
  rcases hcs with ⟨h2,h3⟩ | ⟨h2,h3⟩ | ⟨h2,h3⟩ | ⟨h2,h3⟩
  · rw[hnc h2] at h3
    simp [he,hne,hee,his] at h3
  · simp [ht,hf] at h3
  · simp [hva,hnv,hat,hint] at h3
  · exact⟨h3,h2⟩
 obtain⟨hs,hk3⟩:=hs
 obtain⟨x,y,z,rfl⟩:=aOP hk3
 have hz:=hv z (by simp)
 have hy:=hv y (by simp)
 have e:dH σ s [x,y,z]=w9 σ x y z:=rfl
 rw[e]
 unfold w9
 have eA:dM prog 31 (.slice [x.av,y.av,z.av]) (.int .i64 0)=some (.pptr x.av):=bO (av:=Tm.av) (l:=[x,y,z]) (i:=0) aO rfl (aK x)
 have g9:dM prog 31 (.slice [x.av,y.av,z.av]) (.int .i64 1)=some (.pptr y.av):=bO (av:=Tm.av) (l:=[x,y,z]) (i:=1) aO rfl (aK y)
 have xS:dM prog 31 (.slice [x.av,y.av,z.av]) (.int .i64 2)=some (.pptr z.av):=bO (av:=Tm.av) (l:=[x,y,z]) (i:=2) aO rfl (aK z)
 clear hcs hb hnc hv e
 obtain⟨xk,xn,xs,xt⟩:=x
 obtain⟨yk,yn,ys,yt⟩:=y
 have hyl:yt.length≤4:=by
  exact hy.1.kind.2
 rw[aY] at eA
 simp only[aY xk,aY yk] at eA g9 xS
 simp only[aW,aU,aY xk,aY yk,Tm.k,Tm.ts]
 simp -implicitDefEqProofs only[eA,aA,↓aX,seval,l9]
 refine cS (fun h=>?_) (fun h=>?_)
 case refine_2=>
  have h':xk=1:=by simpa using h
  simp -implicitDefEqProofs only[h,aA,seval]
  rw[aH (.inl h')]
  exact nN.same hS _ rfl
 have hx1:xk≠1:=by simpa using h
 simp -implicitDefEqProofs only[h,g9,aA,seval,l9]
 refine aS (fun h1=>?_) (fun h1=>?_)
 · have h':yk=1:=by simpa using h1
   simp -implicitDefEqProofs only[aA,seval]
   rw[aH (.inr h')]
   exact nN.same hS _ rfl
 have hy1:yk≠1:=by simpa using h1
 rw[aE (fun h2=>h2.elim hx1 hy1)]
 have h3:∀s2,(xk≠2∨yk≠3∨yt.length=0)→s2=st→nN c m st q tr (if xk≠2∨yk≠3∨yt.length=0 then((3:Int),σ,[]) else match nQ (.mk xk xn xs xt) (.mk yk yn ys yt) with | some u=>tB σ z u | none=>(1,σ,[])) (.int .i64 3) s2:=fun s2 hh e=>by
  subst e
  rw[aH hh]
  exact nN.same hS _ rfl
 simp -implicitDefEqProofs only[eA,aA,seval,l9]
 refine cS (fun h4=>?_) (fun h4=>?_)
 case refine_2=>
  have h':xk≠2:=by simpa using h4
  simp -implicitDefEqProofs only[h4,aA,seval]
  exact h3 _ (.inl h') rfl
 have hx2:xk=2:=by simpa using h4
 simp -implicitDefEqProofs only[h4,g9,aA,seval,l9]
 refine cS (fun h5=>?_) (fun h5=>?_)
 case refine_2=>
  have h':yk≠3:=by simpa using h5
  simp -implicitDefEqProofs only[h5,aA,seval]
  exact h3 _ (.inr (.inl h')) rfl
 have hy3:yk=3:=by simpa using h5
 simp -implicitDefEqProofs only[h5,g9,aF,aA,seval,l9]
 refine aS (fun h6=>?_) (fun h6=>?_)
 · have h':yt.length=0:=by simp at h6;simp [h6]
   simp -implicitDefEqProofs only[aA,seval]
   exact h3 _ (.inr (.inr h')) rfl
 have hyt:yt.length≠0:=by simp at h6;simpa using h6
 clear h3
 rw[aE (by simp [hx2,hy3];intro h7;simp [h7] at hyt)]
 simp -implicitDefEqProofs only[aA,seval]
 refine xA mixed (by decide +kernel) (by decide +kernel) ?_
 simp -implicitDefEqProofs only[eA,g9,aF,aA,seval,l9]
 refine iE (EC xn 1 _ _) ?_
 simp -implicitDefEqProofs only[aA,seval]
 refine aS (fun h7=>?_) (fun h7=>?_)
 · have h':¬(1≤xn∧xn≤yt.length):=by simp at h7;omega
   have ea:nQ (.mk xk xn xs xt) (.mk yk yn ys yt)=none:=aE h'
   rw[ea]
   simp -implicitDefEqProofs only[aA,seval]
   exact nN.same hS _ rfl
 have h':1≤xn∧xn≤yt.length:=by simp at h7;omega
 obtain⟨i,hi⟩:∃i:Nat,xn - 1=i:=⟨(xn - 1).toNat,by omega⟩
 have hlt:i<yt.length:=by omega
 obtain⟨u,hu⟩:∃u,yt[i]?=some u:=⟨_,dZ hlt⟩
 have ea:nQ (.mk xk xn xs xt) (.mk yk yn ys yt)=some u:=by
  refine(aH h').trans ?_
  show yt[(xn - 1).toNat]?=some u
  rw[hi,jU,hu]
 rw[ea]
 have huv:bF N u:=rL N (.mk yk yn ys yt) hy1 hy u (cJ hu)
 have hw:IntKind.i64.wrap (xn - 1)=(i:Int):=by rw[wrap64 (by omega) (by omega)];exact hi
 have S9:=bO (av:=Tm.av) (P:=prog) aO hu (aK u)
 simp -implicitDefEqProofs only[aA,seval]
 refine wX [(0,1),(1,1),(2,1),(3,1),(4,1),(5,1),(6,1),(7,1),(8,1),(9,1),(10,1),(11,1),(12,1),(13,1),(14,1),(15,0),(16,0),(17,1)] [0,1,2,3,4,5,6,7,8,9,10,11,12,13,14,17] fE mixed rfl fZ ?_
 simp -implicitDefEqProofs only[eA,g9,xS,S9,hw,a7,aK,aA,seval,l9]
 refine(HJ hg ho z u hz huv c m q tr _ hS hl).mono ?_
 rintro _ s2 ⟨rfl,hP⟩
 simp -implicitDefEqProofs only[aA,seval]
 refine⟨fZ,?_⟩
 refine(pY _ _).to ?_
 simp -implicitDefEqProofs only[aA,seval]
 exact⟨fZ,rfl,hP⟩
abbrev aRZ:=zi tI_3 (zi zI_3 (zi aZ (zi tI_66 (zi zI_66 (zi bS (zi bT (zi bU (zi bV bR))))))))
theorem aYO(n:Int)(F:Nat)(h0:0≤n)(h1:n≤1048576)(hF:F≤536870912)(st:aB):aD prog 362 [.int .i64 n,.pptr (.int .i64 (F:Int))] st (fun r st'=>r=(vr (n+(F:Int))).av∧st'=st):=by
 refine aD.done ?_
 refine wF [1000000] 2 func362 ntmps362 rfl rfl ?_
 intro _
 have hw:=bE (n:=n+(F:Int))
 simp -implicitDefEqProofs only[hw,aA,seval,aRZ]
 intro b3 h3
 refine(R5 _ _).to ?_
 simp -implicitDefEqProofs only[aG,cB,bY,fB (bY _),eX (a7 _),aA,seval,aRZ]
 exact⟨by simp only[Tm.soft],(aL.refl _).aC h3⟩
theorem RU{F:Nat}(hF:F≤536870912)(t:Tm)(h:bF 26 t)(st:aB):aD prog 112 [t.av,.func 362 [.pptr (.int .i64 (F:Int))]] st (fun r st'=>r=(cZ F t).av∧st'=st):=
 RP (fun v=>vr (v+(F:Int))) _ _ rfl t st h.1.small fun n hn s=>aYO n F (h.1.2.2 n hn).1 (by have:=(h.1.2.2 n hn).2;omega) hF s
theorem aNA{b:Nat}{L:List AV}(l:List IG):(eY l).fin b L=eY l:=by
 cases l with
 | nil=>rw[eY];unfold AV.fin;split<;>rfl
 | cons g l=>obtain⟨⟨k,n,s,ts⟩,cut,up⟩:=g;rw[uB];exact B4
abbrev n7:=zi tI_3 (zi zI_3 (zi aZ (zi tI_4 (zi zI_4 (zi cG (zi tI_29 (zi zI_29 (zi fN (zi iT (zi iU (zi jK (zi tI_31 (zi zI_31 (zi aO (zi bH (zi bJ (zi bZ (zi tI_46 (zi zI_46 (zi dK (zi fM (zi fJ (zi fX (zi tI_66 (zi zI_66 (zi bS (zi bT (zi bU (zi bV (zi bR (zi tI_84 (zi zI_84 (zi kG (zi kH (zi kD (zi tI_174 (zi zI_174 (zi tI_227 (zi zI_227 (zi tI_256 (zi zI_256 (zi tI_257 (zi zI_257 (zi BY (zi MC (zi MF (zi XH (zi tI_258 (zi zI_258 (zi EM (zi MD (zi MG (zi XI (zi tI_260 (zi zI_260 (zi HP (zi HQ (zi HT (zi HU (zi HV (zi HW (zi HX (zi HY (zi HZ (zi H0 (zi HR (zi HS (zi HB (zi tI_304 (zi zI_304 (zi ER (zi ES (zi D8 (zi tI_324 (zi zI_324 (zi aMK (zi aML (zi aMM (zi ZE (zi tI_327 (zi zI_327 (zi aMN (zi aMO (zi aMP (zi aMQ (zi aMR (zi aMS ZF)))))))))))))))))))))))))))))))))))))))))))))))))))))))))))))))))))))))))))))))))))))))
set_option maxHeartbeats 2000000 in
theorem aBC{p:List Cl}(hp:∀c∈p,fL c∧c.2.length≤6){M:Nat}(hM:M≤268435456){st0 st:aB}{S c m:Nat}{qt qc qn:AV}{q:List Tm}{idx:Bool}{fuel used mx:Int}{nd:List AV}{i:IS}(h:dO st0 st S c m qt qc qn p q idx fuel used mx nd i)
 (goal:Tm) (at':Nat) (rest:List IG) (list:List Nat) (hg:cT i.σ) (ho:cW (bF i.fresh) i.σ) (hgo:bF i.fresh goal) (hl:∀x∈list,x<p.length) (hll:list.length≤1048576) (ha:at'<i.nn) (hX:IX p M i) (hMl:i.fresh+26*qK i.chs+26*list.length≤M) (hch:i.chs.length≤524288) (hnn:i.nn≤524288) :
 aD prog 310 [.ptr S 0,goal.av,.int .i64 (at':Int),.slice (list.map nv),eY rest] st (fun r st'=>r=.bool (gK p goal at' rest list i).1∧∃qt' qc' mx' nd',dO st0 st' S c m qt' qc' qn p q idx fuel used mx' nd' (gK p goal at' rest list i).2):=by
 obtain⟨bN,rfl⟩:=h.nodes ha
 obtain⟨gk,gn,gs',gts⟩:=goal
 obtain⟨g1,g2,g3,g4,g5,g6⟩:=p7 rest
 generalize hT:gK p (.mk gk gn gs' gts) at' rest list i=T
 simp only[aY]
 have hun:prog.underlying 46=some (.slice 3):=by kernel_rfl
 have iV:st S=some (.cells [.ptr c 0,.slice (p.map bB),.slice (q.map Tm.av),.bool idx,.bool false,.int .i64 fuel,.int .i64 used,.int .i64 i.fresh,eY i.goals,qc,.mslice bN 0 nd.length 6,.int .i64 mx]):=h.cell
 have hcc:=h.sto.sub.cells
 have htl:=h.sto.aST (P:=prog) hun
 obtain⟨t1,t2,t3,t4,t5⟩:=h.sto.shape
 refine aD.nB ?_
 refine wF [1000000] 5 func310 ntmps310 rfl rfl ?_
 intro _
 simp -implicitDefEqProofs only[aF,iV,hcc,htl,t1,aA,seval,n7]
 refine eH (σ:=aB×AV) [1000000] [0,2,3,4,6,11,28,29] list (fun k s=>dO st0 s.1 S c m s.2 qc (.mslice bN 0 nd.length 6) p q idx fuel used mx nd { i with fresh:=i.fresh+26*k }∧gK p (.mk gk gn gs' gts) at' rest (list.drop k) { i with fresh:=i.fresh+26*k }=T)
  (fun k s=>[(10,.bool false),(30,.int .i64 k)]) (fun k s=>s.1) (by decide +kernel) ⟨(st,qt),⟨h,hT⟩,aN.mk (by simp -implicitDefEqProofs only[aA,↓aX,seval])⟩ (fun k x s hx hlt bQ hdr hinv=>?_) (fun s hge hinv=>?_)
 case refine_2=>
  simp -implicitDefEqProofs only[hge,aA,seval]
  obtain⟨hi,he⟩:=hinv
  rw[j8] at he
  unfold gK at he
  subst he
  exact⟨s.1,aL.refl _,rfl,_,_,_,_,hi⟩
 obtain⟨st,qt⟩:=s
 obtain⟨h,hT⟩:=hinv
 simp only at h hT
 obtain⟨t1,t2,t3,t4,t5⟩:=h.sto.shape
 obtain⟨n1,n2,n3,n4,n5⟩:=h.acC.shape
 obtain⟨m1,m2,m3,m4,m5⟩:=h.acN.shape
 obtain⟨l1,l2,l3,l4,l5,l6⟩:=p7 i.goals
 have hxl:=hl x (cJ hx)
 obtain⟨cl,hcx⟩:∃cl,p[x]?=some cl:=⟨_,dZ hxl⟩
 obtain⟨uF,rD⟩:=hp cl (cJ hcx)
 rw[hdr,gK.eq_def] at hT
 simp only[hcx] at hT
 have hat:dM prog 46 (.slice (list.map nv)) (.int .i64 (k:Int))=some (.pptr (.int .i64 (x:Int))):=bO (av:=nv) dK hx rfl
 have CB:=bO (av:=bB) (P:=prog) fN hcx (i8 cl)
 have hw:=bE (n:=(k:Int)+1)
 generalize hF:i.fresh+26*k=F at *
 have hFM:F+26≤M:=by have:=aOU i.chs 0;omega
 have a29:=bE (n:=(F:Int)+26)
 have iV:st S=some (.cells [.ptr c 0,.slice (p.map bB),.slice (q.map Tm.av),.bool idx,.bool false,.int .i64 fuel,.int .i64 used,.int .i64 F,eY i.goals,qc,.mslice bN 0 nd.length 6,.int .i64 mx]):=h.cell
 obtain⟨⟨ck,cn,cs',cts⟩,bd⟩:=cl
 rw[fU] at CB
 simp -implicitDefEqProofs only[bQ,aG,iV,hat,a29,aA,↓aX,seval,n7]
 have h2:=h.put (gl:=i.goals) (F:=F+26) (fuel':=fuel) (used':=used) (mx':=mx) (cs:=[.ptr c 0,.slice (p.map bB),.slice (q.map Tm.av),.bool idx,.bool false,.int .i64 fuel,.int .i64 used,.int .i64 ((F:Int)+26),eY i.goals,qc,.mslice bN 0 nd.length 6,.int .i64 mx]) rfl
 generalize st.aC S (.cells [.ptr c 0,.slice (p.map bB),.slice (q.map Tm.av),.bool idx,.bool false,.int .i64 fuel,.int .i64 used,.int .i64 ((F:Int)+26),eY i.goals,qc,.mslice bN 0 nd.length 6,.int .i64 mx])=V at *
 simp only at h2
 have sM:V S=some (.cells [.ptr c 0,.slice (p.map bB),.slice (q.map Tm.av),.bool idx,.bool false,.int .i64 fuel,.int .i64 used,.int .i64 ((F:Int)+26),eY i.goals,qc,.mslice bN 0 nd.length 6,.int .i64 mx]):=h2.cell
 refine wX [(0,1),(1,1),(2,1),(3,1),(4,1),(5,1),(6,1),(7,1),(8,1),(9,1),(10,1),(11,1),(12,1),(13,1),(14,0),(15,0),(16,1)] [0,1,2,3,4,5,6,7,8,9,10,11,12,13,16] (one S (.cells [.ptr c 0,.slice (p.map bB),.slice (q.map Tm.av),.bool idx,.bool false,.int .i64 fuel,.int .i64 used,.int .i64 ((F:Int)+26),eY i.goals,qc,.mslice bN 0 nd.length 6,.int .i64 mx])) mixed rfl (gH sM) ?_
 simp -implicitDefEqProofs only[uN,CB,aA,seval,n7]
 have hsh:=fun st=>RU (F:=F) (by omega) (.mk ck cn cs' cts) uF.head st
 have hhd:bF ((F+26:Nat):Int) (cZ F (.mk ck cn cs' cts)):=(uF.cZ F (.mk ck cn cs' cts) (by simp)).mono (by have:=uF.fr.1;omega)
 have htr:=h2.sto
 obtain⟨r,σ',add,U⟩:=tC (N:=F+26) hg (fun n u e=>(ho n u e).mono (by omega)) (hgo.mono (by omega)) hhd
 have htl:i.tr.length≤i.fresh:=hX.W9
 have hun:=HJ (N:=F+26) hg (fun n u e=>(ho n u e).mono (by omega)) (.mk gk gn gs' gts) (cZ F (.mk ck cn cs' cts)) (hgo.mono (by omega)) hhd c m qt i.tr V h2.sto (by omega)
 rw[U.eq] at hT hun
 simp only at hT hun
 have IM:=U.CT
 have hso:=U.yD
 clear U
 generalize hy:cZ F (.mk ck cn cs' cts)=y at *
 obtain⟨yk,yn,ys,yt⟩:=y
 simp only[aY] at hsh hun ⊢
 refine(hsh _).to ?_
 simp -implicitDefEqProofs only[aA,seval]
 refine⟨gH sM,?_⟩
 refine hun.mono ?_
 rintro _ s2 ⟨rfl,hP⟩
 obtain⟨qt2,h3⟩:=h2.post hP
 have E3:s2 S=some (.cells [.ptr c 0,.slice (p.map bB),.slice (q.map Tm.av),.bool idx,.bool false,.int .i64 fuel,.int .i64 used,.int .i64 ((F:Int)+26),eY i.goals,qc,.mslice bN 0 nd.length 6,.int .i64 mx]):=h3.cell
 simp -implicitDefEqProofs only[aA,seval]
 refine⟨gH E3,?_⟩
 refine aS (fun hr=>?_) (fun hr=>?_)
 · have hr':r=false:=by simpa using hr
   rw[aE (by rw[hr'];simp)] at hT
   simp -implicitDefEqProofs only[E3,aA,seval,n7]
   have hud:=RZ σ' (i.tr++add) i.tr.length (by simp) c m qt2 s2 h3.sto (by
    have:=h3.sto
    have:add.length≤F+26:=FG hso.nodup hso.gQ
    rw[dL];omega)
   refine hud.mono ?_
   rintro _ s4 ⟨rfl,qt4,hS4,hb4,hf4⟩
   simp -implicitDefEqProofs only[hw,aA,seval]
   have h5:=h3.XB hS4 (fun b o hb e1 e2 _=>hf4 b o hb e1 e2) (fun b hb=>.inl (hb4 b hb))
   simp only[GH,DR,IM] at h5
   refine⟨(s4,qt4),⟨?_,?_⟩,aN.mk (by simp -implicitDefEqProofs only[aA,seval])⟩
   · rw[show i.fresh+26*(k+1)=F+26 by omega];exact h5
   · rw[show i.fresh+26*(k+1)=F+26 by omega];exact hT
 have hr':r=true:=by simpa using hr
 have a2M:nd.length=i.nn:=h3.ndl
 rw[aH hr'] at hT
 have IQ:prog.underlying 257=some (.slice 327):=by kernel_rfl
 have UC:prog.underlying 258=some (.slice 324):=by kernel_rfl
 have hlC:=h3.acC.len IQ
 have hlN:=h3.acN.len UC
 rw[aF] at hlC
 rw[h3.ndl] at hlN
 simp only at hlC hlN
 have aNJ:=pB (P:=prog) (b:=bN) (w:=6) (i:=at') EM (len:=nd.length) (by rw[h3.ndl];exact ha)
 simp -implicitDefEqProofs only[aF,E3,hlC,hw,n1,aA,seval,n7]
 refine aS (fun h7=>?_) (fun h7=>?_)
 · have h':k+1<list.length:=by simp at h7;omega
   have hdn:list.drop (k+1)≠[]:=by intro e;have:=jG List.length e;simp at this;omega
   rw[aE hdn] at hT
   have hsl:=fun(φ:AF) (d:Nat) (h:φ d=.int .i64 ((k:Int)+1))=>aQV h' h
   refine wX [(0,1),(1,1),(2,1),(3,1),(4,1),(5,1),(6,1),(7,1),(8,1),(9,1),(10,1),(11,1),(12,1),(13,1),(14,1),(15,1),(16,1),(17,1),(18,1),(19,1),(20,0),(21,1),(22,1),(23,2)] [0,1,2,3,4,5,6,7,8,9,10,11,12,13,14,15,16,17,18,19,21,22] (one S (.cells [.ptr c 0,.slice (p.map bB),.slice (q.map Tm.av),.bool idx,.bool false,.int .i64 fuel,.int .i64 used,.int .i64 ((F:Int)+26),eY i.goals,qc,.mslice bN 0 nd.length 6,.int .i64 mx])) mixed rfl (gH E3) ?_
   simp -implicitDefEqProofs only[hsl,hw,g3,g4,n1,m1,uN,aA,seval,n7]
   refine jT.append BY MC MF rfl (by decide) h3.acC rfl (a3L ⟨.mk gk gn gs' gts,at',rest,list.drop (k+1),i.tr.length,nd.length⟩) (by rw[aF];simp only;omega) (fun qc5 s5 o9 hf hn=>?_)
   have a1I:(i.chs.map sO)++ [sO ⟨.mk gk gn gs' gts,at',rest,list.drop (k+1),i.tr.length,nd.length⟩]=(i.chs++ [(⟨.mk gk gn gs' gts,at',rest,list.drop (k+1),i.tr.length,nd.length⟩:IC)]).map sO:=by simp
   have o9:=a1I▸o9
   obtain⟨c1,c2,c3,c4,c5⟩:=o9.shape
   have hS5:s5 S=s2 S:=hf S h3.parts.2.2.2.2.1 (fun hb=>by
    rcases hn S hb with h' | h'
    · exact h3.parts.2.2.2.2.1 h'
    · rw[E3] at h';cases h')
   have aNQ:=hS5.trans E3
   have a1Y:=gH aNQ
   simp -implicitDefEqProofs only[aG,aNQ,c4,c5,m1,aB.aP,aA,seval,n7]
   refine⟨a1Y,?_⟩
   have h5:=h3.a5S o9 hf hn (cs:=[.ptr c 0,.slice (p.map bB),.slice (q.map Tm.av),.bool idx,.bool false,.int .i64 fuel,.int .i64 used,.int .i64 ((F:Int)+26),eY i.goals,qc5,.mslice bN 0 nd.length 6,.int .i64 mx]) rfl
   generalize s5.aC S (.cells [.ptr c 0,.slice (p.map bB),.slice (q.map Tm.av),.bool idx,.bool false,.int .i64 fuel,.int .i64 used,.int .i64 ((F:Int)+26),eY i.goals,qc5,.mslice bN 0 nd.length 6,.int .i64 mx])=V5 at *
   rw[show(⟨.mk gk gn gs' gts,at',rest,list.drop (k+1),i.tr.length,nd.length⟩:IC)=⟨.mk gk gn gs' gts,at',rest,list.drop (k+1),i.tr.length,i.nn⟩ by rw[a2M]] at h5
   obtain⟨csN,hbN,hcN⟩:=h5.nodeAt
   obtain⟨c1,c2,c3,c4,c5⟩:=(h5).acC.shape
   have hSN:S≠bN:=fun e=>(h5).parts.2.2.2.2.2.1 (by rw[e];simp [dW])
   have uE:=h5.cell
   simp only[iQ] at uE
   rw[show((F+26:Nat):Int)=(F:Int)+26 from rfl] at uE
   simp -implicitDefEqProofs only[aG,aF,uE,hbN,hSN,aNJ,CB,aA,seval,n7]
   refine⟨by omega,?_⟩
   obtain⟨nd6,h6⟩:=(h5).aQK (x:=.int .i64 (x:Int)) (k:=at'*6+5) rfl hbN (by omega)
   have TZ:=h6.ndl
   simp only at TZ
   rw[show aG csN (at'*6+5) [.int .i64 (x:Int)]=List.take (at'*6+5) csN++ [AV.int IntKind.i64 (x:Int)]++List.drop (at'*6+5+1) csN from rfl] at h6
   generalize aB.aC _ bN (.cells (List.take (at'*6+5) csN++ [AV.int IntKind.i64 (x:Int)]++List.drop (at'*6+5+1) csN))=V6 at *
   have lA:=h6.cell
   simp only[iQ] at lA
   rw[show((F+26:Nat):Int)=(F:Int)+26 from rfl] at lA
   refine tE (σ:=Unit) [1000000] [0,2,3,4,6,10,11,12,13,14,15,16,28,29,30,31,32,33,34,35,36,37,38,39,40,41,42,43,44,45,46,47,48,49,50,51,52,53,54,55,56,57,58,59,60,61,62,63,64,65,66,67,68,70,71,72,73,74,75,76,77,78,79,80,81,82,83,84,85,86,87,88,89,90,91,92,93,94,95,96,97,98,99,100,101,102,103,104,105,106,107,108,109,110,111,112,113,114,115,116,117,118,119] bd 4 17 (fun j _=>((bd.take j).map (cZ F)).map Tm.av) (fun _ _=>True) (fun j _=>[(120,.int .i64 j)]) (fun _ _=>V6) (fun j _ _ e he=>by simp only[cU] at he;obtain⟨t,_,rfl⟩:=he;exact⟨cM _,aK _⟩) (by decide +kernel) ⟨(),0,trivial,fun h=>absurd rfl h,aN.mk (by simp -implicitDefEqProofs only[kB,j9,aU,aA,↓aX,seval])⟩ (fun j y5 _ b5 hx5 a2G TU a1T TS hb5=>?_) (fun _ b5 TP TS=>?_)
   · have hw5:=wrap64 (n:=(j:Int)+1) (by simp only at rD;omega) (by simp only at rD;omega)
     have S7:=bO (av:=Tm.av) (P:=prog) aO hx5 (aK y5)
     have IK:(((bd.take j).map (cZ F)).map Tm.av).length=j:=by simp only[aF,dQ];omega
     have hyb:=uF.body y5 (cJ hx5)
     simp -implicitDefEqProofs only[TU,S7,a7,aK,cB,cM,aA,↓aX,seval,n7]
     refine(RU (F:=F) (by omega) y5 hyb.1 _).to ?_
     simp -implicitDefEqProofs only[a7,aK,cM,aA,seval,n7]
     refine fG aO bH bJ rfl rfl (gA (aK _) (cB _)) (eD _) hb5 (by simp only[IK,aQ,bA];simp only at rD;omega) (by simp only[IK,aQ,bA];simp only at rD;omega) (fun b' hb'=>?_)
     rw[show(((bd.take j).map (cZ F)).map Tm.av)++ [(cZ F y5).av]=((bd.take (j+1)).map (cZ F)).map Tm.av by rw[fS,hx5];simp] at hb' ⊢
     simp -implicitDefEqProofs only[aA,seval]
     exact⟨(),b',hb',aN.mk (by simp -implicitDefEqProofs only[hw5,aA,seval])⟩
   · have CG:=fun st=>RT (bd.map (cZ F)) i.chs.length at' rest (by simp only[aF];simp only at rD;omega) st
     simp -implicitDefEqProofs only[TP,gJ,eT,q7,jP,jB,o7,B4,H1,aMZ,mI,eN,aNA,aA,seval]
     refine(CG _).to ?_
     have h7:=h6.put (gl:=(bd.map (cZ F)).map (fun t=>(⟨t,i.chs.length,at'⟩:IG))++rest) (F:=F+26) (fuel':=fuel) (used':=used) (mx':=mx) rfl
     simp only[iQ] at h7
     rw[show((F+26:Nat):Int)=(F:Int)+26 from rfl] at h7
     have hgl:(bd.map (cZ F)).map (fun t=>(⟨t,i.chs.length,at'⟩:IG))++rest=bd.map (fun t=>(⟨cZ F t,i.chs.length,at'⟩:IG))++rest:=by rw[rW];try rfl
     rw[hgl] at h7 ⊢
     generalize bd.map (fun t=>(⟨cZ F t,i.chs.length,at'⟩:IG))++rest=NG at *
     obtain⟨u1,u2,u3,u4,u5,u6⟩:=p7 NG
     have IF:=h7.acC.len IQ
     simp only[aF] at IF
     simp -implicitDefEqProofs only[aG,lA,u4,u5,aA,seval,n7]
     generalize aB.aC V6 S _=V7 at h7 ⊢
     have oM:=h7.cell
     simp only[iQ] at oM
     rw[show((F+26:Nat):Int)=(F:Int)+26 from rfl] at oM
     refine wX [(0,1),(1,1),(2,1),(3,1),(4,1),(5,1),(6,1),(7,1),(8,1),(9,1),(10,0),(11,1),(12,1),(13,2)] [0,1,2,3,4,5,6,7,8,9,11,12] _ mixed rfl (gH oM) ?_
     simp -implicitDefEqProofs only[aG,oM,IF,c1,uN,aA,seval,n7]
     refine⟨gH oM,?_⟩
     subst hT
     exact⟨_,aL.refl _,rfl,qt2,_,_,nd6,h7.put (gl:=NG) (F:=F+26) rfl⟩
 · have h':list.drop (k+1)= []:=BC (by simp at h7;omega)
   rw[aH h'] at hT
   obtain⟨csN,hbN,hcN⟩:=h3.nodeAt
   obtain⟨c1,c2,c3,c4,c5⟩:=(h3).acC.shape
   have hSN:S≠bN:=fun e=>(h3).parts.2.2.2.2.2.1 (by rw[e];simp [dW])
   have uE:=h3.cell
   simp only[iQ] at uE
   rw[show((F+26:Nat):Int)=(F:Int)+26 from rfl] at uE
   simp -implicitDefEqProofs only[aG,aF,uE,hbN,hSN,aNJ,CB,m1,aA,seval,n7]
   refine⟨by omega,?_⟩
   obtain⟨nd6,h6⟩:=(h3).aQK (x:=.int .i64 (x:Int)) (k:=at'*6+5) rfl hbN (by omega)
   have TZ:=h6.ndl
   simp only at TZ
   rw[show aG csN (at'*6+5) [.int .i64 (x:Int)]=List.take (at'*6+5) csN++ [AV.int IntKind.i64 (x:Int)]++List.drop (at'*6+5+1) csN from rfl] at h6
   generalize aB.aC _ bN (.cells (List.take (at'*6+5) csN++ [AV.int IntKind.i64 (x:Int)]++List.drop (at'*6+5+1) csN))=V6 at *
   have lA:=h6.cell
   simp only[iQ] at lA
   rw[show((F+26:Nat):Int)=(F:Int)+26 from rfl] at lA
   refine tE (σ:=Unit) [1000000] [0,2,3,4,6,10,11,12,13,14,15,16,28,29,30,31,32,33,34,35,36,37,38,39,40,41,42,43,44,45,46,47,48,49,50,51,52,53,54,55,56,57,58,59,60,61,62,63,64,65,66,67,68,70,71,72,73,74,75,76,77,78,79,80,81,82,83,84,85,86,87,88,89,90,91,92,93,94,95,96,97,98,99,100,101,102,103,104,105,106,107,108,109,110,111,112,113,114,115,116,117,118,119] bd 4 17 (fun j _=>((bd.take j).map (cZ F)).map Tm.av) (fun _ _=>True) (fun j _=>[(120,.int .i64 j)]) (fun _ _=>V6) (fun j _ _ e he=>by simp only[cU] at he;obtain⟨t,_,rfl⟩:=he;exact⟨cM _,aK _⟩) (by decide +kernel) ⟨(),0,trivial,fun h=>absurd rfl h,aN.mk (by simp -implicitDefEqProofs only[kB,j9,aU,aA,↓aX,seval])⟩ (fun j y5 _ b5 hx5 a2G TU a1T TS hb5=>?_) (fun _ b5 TP TS=>?_)
   · have hw5:=wrap64 (n:=(j:Int)+1) (by simp only at rD;omega) (by simp only at rD;omega)
     have S7:=bO (av:=Tm.av) (P:=prog) aO hx5 (aK y5)
     have IK:(((bd.take j).map (cZ F)).map Tm.av).length=j:=by simp only[aF,dQ];omega
     have hyb:=uF.body y5 (cJ hx5)
     simp -implicitDefEqProofs only[TU,S7,a7,aK,cB,cM,aA,↓aX,seval,n7]
     refine(RU (F:=F) (by omega) y5 hyb.1 _).to ?_
     simp -implicitDefEqProofs only[a7,aK,cM,aA,seval,n7]
     refine fG aO bH bJ rfl rfl (gA (aK _) (cB _)) (eD _) hb5 (by simp only[IK,aQ,bA];simp only at rD;omega) (by simp only[IK,aQ,bA];simp only at rD;omega) (fun b' hb'=>?_)
     rw[show(((bd.take j).map (cZ F)).map Tm.av)++ [(cZ F y5).av]=((bd.take (j+1)).map (cZ F)).map Tm.av by rw[fS,hx5];simp] at hb' ⊢
     simp -implicitDefEqProofs only[aA,seval]
     exact⟨(),b',hb',aN.mk (by simp -implicitDefEqProofs only[hw5,aA,seval])⟩
   · have CG:=fun st=>RT (bd.map (cZ F)) i.chs.length at' rest (by simp only[aF];simp only at rD;omega) st
     simp -implicitDefEqProofs only[TP,gJ,eT,q7,jP,jB,B4,H1,aMZ,mI,eN,aNA,aA,seval]
     refine(CG _).to ?_
     have h7:=h6.put (gl:=(bd.map (cZ F)).map (fun t=>(⟨t,i.chs.length,at'⟩:IG))++rest) (F:=F+26) (fuel':=fuel) (used':=used) (mx':=mx) rfl
     simp only[iQ] at h7
     rw[show((F+26:Nat):Int)=(F:Int)+26 from rfl] at h7
     have hgl:(bd.map (cZ F)).map (fun t=>(⟨t,i.chs.length,at'⟩:IG))++rest=bd.map (fun t=>(⟨cZ F t,i.chs.length,at'⟩:IG))++rest:=by rw[rW];try rfl
     rw[hgl] at h7 ⊢
     generalize bd.map (fun t=>(⟨cZ F t,i.chs.length,at'⟩:IG))++rest=NG at *
     obtain⟨u1,u2,u3,u4,u5,u6⟩:=p7 NG
     have IF:=h7.acC.len IQ
     simp only[aF] at IF
     simp -implicitDefEqProofs only[aG,lA,u4,u5,aA,seval,n7]
     generalize aB.aC V6 S _=V7 at h7 ⊢
     have oM:=h7.cell
     simp only[iQ] at oM
     rw[show((F+26:Nat):Int)=(F:Int)+26 from rfl] at oM
     refine wX [(0,1),(1,1),(2,1),(3,1),(4,1),(5,1),(6,1),(7,1),(8,1),(9,1),(10,0),(11,1),(12,1),(13,2)] [0,1,2,3,4,5,6,7,8,9,11,12] _ mixed rfl (gH oM) ?_
     simp -implicitDefEqProofs only[aG,oM,IF,c1,uN,aA,seval,n7]
     refine⟨gH oM,?_⟩
     subst hT
     exact⟨_,aL.refl _,rfl,qt2,_,_,nd6,h7.put (gl:=NG) (F:=F+26) rfl⟩
theorem a3F(p:List Cl)(s:IS):hH p s.chs.length s=match s.chs.getLast? with
 | none=>none
 | some c=>if(gK p c.goal c.node c.rest c.list (s.pop c)).1=true then some (gK p c.goal c.node c.rest c.list (s.pop c)).2 else hH p (s.chs.length - 1) (gK p c.goal c.node c.rest c.list (s.pop c)).2:=by
 obtain⟨gl,σ,tr,chs,F,nn⟩:=s
 cases chs with
 | nil=>rfl
 | cons c l=>rw[aQ,hH];try rfl
structure XS (p:List Cl) (M:Nat) (st0:aB) (S c m:Nat) (q:List Tm) (idx:Bool) (fuel used:Int) (T:Option IS) (st:aB) (qt qc qn:AV) (mx:Int) (nd:List AV) (i:IS) (cs:List RC):Prop where
 s:dO st0 st S c m qt qc qn p q idx fuel used mx nd i
 r:jD i.fresh cs i.chs i.σ i.tr
 x:IX p M i
 t:hH p i.chs.length i=T
 n:i.chs.length≤524288∧i.nn≤524288
def XT(st0 st':aB)(S c m:Nat)(p:List Cl)(q:List Tm)(idx:Bool)(fuel used:Int)(r:AV):Option IS→Prop
 | some i'=>r=.int .i64 (-1)∧∃qt qc qn mx nd,dO st0 st' S c m qt qc qn p q idx fuel used mx nd i'
 | none=>r=.int .i64 0∧∃qt qc qn mx nd i',dO st0 st' S c m qt qc qn p q idx fuel used mx nd i'
abbrev JU:=zi tI_3 (zi zI_3 (zi aZ (zi tI_46 (zi zI_46 (zi dK (zi fM (zi fJ (zi fX (zi tI_66 (zi zI_66 (zi bS (zi bT (zi bU (zi bV (zi bR (zi tI_174 (zi zI_174 (zi tI_227 (zi zI_227 (zi tI_256 (zi zI_256 (zi tI_257 (zi zI_257 (zi BY (zi MC (zi MF (zi XH (zi tI_258 (zi zI_258 (zi EM (zi MD (zi MG (zi XI (zi tI_260 (zi zI_260 (zi HP (zi HQ (zi HT (zi HU (zi HV (zi HW (zi HX (zi HY (zi HZ (zi H0 (zi HR (zi HS (zi HB (zi tI_327 (zi zI_327 (zi aMN (zi aMO (zi aMP (zi aMQ (zi aMR (zi aMS ZF))))))))))))))))))))))))))))))))))))))))))))))))))))))))
set_option maxHeartbeats 2000000 in
theorem LS{p:List Cl}(hp:∀c∈p,fL c∧c.2.length≤6){M:Nat}(hM:M≤16777216){st0:aB}{S c m:Nat}{q:List Tm}{idx:Bool}{fuel used:Int}{T:Option IS}(st:aB)(qt qc qn:AV)(mx:Int)(nd:List AV)(i:IS)(cs:List RC)
 (hI:XS p M st0 S c m q idx fuel used T st qt qc qn mx nd i cs) :
 aD prog 245 [.ptr S 0] st (fun r st'=>XT st0 st' S c m p q idx fuel used r T):=by
 refine aD.nB ?_
 refine wF [1000000] 1 func245 ntmps245 rfl rfl ?_
 intro _
 simp -implicitDefEqProofs only[aA,seval]
 refine iN (σ:=aB×AV×AV×AV×Int×List AV×IS×List RC) [1000000] [0] (fun x=>XS p M st0 S c m q idx fuel used T x.1 x.2.1 x.2.2.1 x.2.2.2.1 x.2.2.2.2.1 x.2.2.2.2.2.1 x.2.2.2.2.2.2.1 x.2.2.2.2.2.2.2) (fun x=>[(2,.int .i64 0)]) (fun x=>x.1) (fun x=>x.2.2.2.2.2.2.1.chs.length) (by decide +kernel) ⟨(st,qt,qc,qn,mx,nd,i,cs),hI,aN.mk (by simp -implicitDefEqProofs only[aA,seval])⟩ ?_
 clear hI
 rintro⟨st,qt,qc,qn,mx,nd,i,cs⟩ ⟨hs,hr,hx,ht,hn1,hn2⟩
 simp only at hs hr hx ht hn1 hn2
 simp only
 obtain⟨gl,τ,tr,ch,F,nn⟩:=i
 obtain⟨t1,t2,t3,t4,t5⟩:=hs.sto.shape
 obtain⟨n1,n2,n3,n4,n5⟩:=hs.acC.shape
 obtain⟨m1,m2,m3,m4,m5⟩:=hs.acN.shape
 obtain⟨l1,l2,l3,l4,l5,l6⟩:=p7 gl
 have IQ:prog.underlying 257=some (.slice 327):=by kernel_rfl
 have hlC:=hs.acC.len IQ
 rw[aF] at hlC
 simp only at hlC hr hx ht hn1 hn2
 have iV:=hs.cell
 simp only[iQ] at iV
 replace ht:=(a3F p ⟨gl,τ,tr,ch,F,nn⟩).symm.trans ht
 simp only at ht
 cases hr with
 | nil=>
  simp only[List.getLast?_nil] at ht
  subst ht
  simp only[bA] at hlC
  simp -implicitDefEqProofs only[iV,hlC,n1,B0,↓KK,List.contains,List.elem,tF,iM,sub,A7,↓reduceIte,reduceCtorEq,JU]
  refine aS (fun h=>absurd h (by decide)) (fun h=>?_)
  simp -implicitDefEqProofs only[aA,seval]
  exact⟨st,aL.refl _,rfl,_,_,_,_,_,_,hs⟩
 | @snoc cs ds cR d _ _ C h1 h2=>
  obtain⟨hP,hMl,hnt,htn,htr,hli⟩:=hx.pop
  have e3:(IS.pop ⟨gl,τ,tr,ds++ [d],F,nn⟩ d)=⟨gl,τ.out (tr.drop d.fW),tr.take d.fW,ds,F,d.taken⟩:=by simp only[IS.pop,GF]
  simp only[KQ,KR,KY,e3] at ht
  obtain⟨bC,csC,rfl,hbC,a2B,htk⟩:=hs.acC.at (UJ _) (i:=ds.length) (e:=sO d) (by simp)
  have hlm:((ds++ [d]).map sO).length=ds.length+1:=by simp
  rw[hlm] at hs iV hlC
  have hSb:S≠bC:=fun e=>hs.parts.2.2.2.2.1 (by rw[e];simp [dW])
  have hdl:ds.length+1≤524288:=by simp only[dL,aQ,bA] at hn1;omega
  have hw:IntKind.i64.wrap ((ds.length:Int)+1 - 1)=(ds.length:Int):=by rw[wrap64 (by omega) (by omega)];omega
  have a08:=pB (P:=prog) (b:=bC) (w:=9) (i:=ds.length) BY (len:=ds.length+1) (by omega)
  have uG:=fun(φ:AF) (dd:Nat) (h:φ dd=.int .i64 (ds.length:Int))=>VZ (b:=bC) (n:=ds.length+1) (k:=ds.length) BY h (by omega)
  obtain⟨⟨dk,dn,ds',dts⟩,MA,MB,SJ,HO,EK⟩:=d
  rw[aOG] at htk
  simp only at htn htr hnt hli hMl hP
  obtain⟨g1,g2,g3,g4,g5,g6⟩:=p7 MB
  have a27:(csC.drop (ds.length*9)).take 9= [.int .i64 dk,.int .i64 dn,.str ds',.slice (dts.map Tm.av),.int .i64 (MA:Int),eY MB,.slice (SJ.map nv),.int .i64 (HO:Int),.int .i64 (EK:Int)]:=htk
  simp -implicitDefEqProofs only[dL,aQ,bA,iV,hlC,aA,seval,JU]
  refine aS (fun h=>?_) (fun h=>absurd h (by simp))
  simp -implicitDefEqProofs only[aG,dL,aQ,bA,iV,hlC,hbC,a2B,a27,a08,uG,hw,g5,aA,↓aX,seval,JU]
  have hs2:=hs.aB0 (k:=ds.length) (gl:=gl) (by simp only[dL,aQ,bA];omega) (cs:=iQ c p q idx fuel used F (eY gl) (.mslice bC 0 ds.length 9) qn mx) rfl
  simp only[DR,iQ] at hs2
  generalize aB.aC st S _=V at hs2 ⊢
  have sM:=hs2.cell
  simp only[iQ,zB] at sM hs2
  have htl:=hs2.sto.fW
  refine wX [(0,1),(1,1),(2,1),(3,1),(4,1),(5,1),(6,2)] [0,1,2,3,4,5] _ mixed rfl (gH sM) ?_
  simp -implicitDefEqProofs only[uN,aA,seval,JU]
  refine(RZ τ tr HO htr c m qt V hs2.sto (by have:=hx.W9;have:=hx.phi;simp only at *;omega)).mono ?_
  rintro _ s4 ⟨rfl,qt4,hS4,hb4,hf4⟩
  have hs4:=hs2.XB hS4 (fun b o hb e1 e2 _=>hf4 b o hb e1 e2) (fun b hb=>.inl (hb4 b hb))
  have TH:=hs4.cell
  simp only[iQ] at TH
  obtain⟨q1,q2,q3,q4,q5⟩:=hs4.sto.shape
  have a1N:=fun(φ:AF) (dd:Nat) (h:φ dd=.int .i64 (EK:Int))=>aQR EM hs4.acN h (by rw[hs4.ndl];exact htn)
  simp -implicitDefEqProofs only[aA,seval]
  have hAN:=hs4.acN.take (k:=EK) (by rw[hs4.ndl];exact htn) hs4.ndw
  obtain⟨e1',e2',e3',e4',e5'⟩:=hAN.shape
  have hs6:=hs4.aZE (k:=EK) htn rfl
  simp only[iQ] at hs6
  obtain⟨ρ,Sm,e1,hok,hG,e2⟩:=h1
  simp only at e1 e2
  have E7:=aBC hp (show M≤268435456 by omega) hs6 (.mk dk dn ds' dts) MA MB SJ Sm.g2 Sm.o2 (e1▸Sm.C0 hok) hli (by omega) hnt hP hMl (by first | omega | (simp only;omega)) (by first | omega | (simp only;omega))
  simp only[aY] at E7
  have IN:=PF (fun c h=>(hp c h).1) (nn:=EK) (at':=MA) (tr:=tr.take HO) hok hG cR.left F gl Sm C
  rw[←e1,←e2] at IN
  refine wX [(0,1),(1,1),(2,1),(3,1),(4,1),(5,1),(6,1),(7,1),(8,1),(9,1),(10,2)] [0,1,2,3,4,5,6,7,8,9] _ mixed rfl (gH TH) ?_
  simp -implicitDefEqProofs only[aG,TH,a1N,e4',e5',m1,g1,g2,uN,aA,seval,JU]
  refine E7.mono ?_
  rintro _ s7 ⟨rfl,qt7,qc7,mx7,nd7,hs7⟩
  simp -implicitDefEqProofs only[aA,seval]
  refine aS (fun h=>?_) (fun h=>?_)
  · simp -implicitDefEqProofs only[aA,seval]
    rw[aH h] at ht
    subst ht
    exact⟨s7,aL.refl _,rfl,_,_,_,_,_,hs7⟩
  · rw[aE (by rw[h];simp)] at ht
    cases hrt:fK p cs cR.goal cR.rest cR.σ cR.N cR.left with
    | some s=>
     rw[e2,hrt] at IN
     obtain⟨i2,k1,_⟩:=IN
     rw[←e2] at k1
     rw[k1] at h
     cases h
    | none=>
     rw[e2,hrt] at IN
     obtain⟨F',hF,k1⟩:=IN
     rw[←e2] at k1
     have hX7:=NH (fun c h=>(hp c h).1) (rest:=MB) SJ _ hli (at':=MA) (by simp only;exact hnt) (by simp only;exact hMl) hP Sm.g2 Sm.o2 (e1▸Sm.C0 hok)
     rw[k1] at hs7 ht hX7
     simp -implicitDefEqProofs only[aA,seval]
     refine⟨(s7,qt7,qc7,_,mx7,nd7,⟨gl,τ.out (tr.drop HO),tr.take HO,ds,F',EK⟩,cs),by simp only;omega,⟨hs7,C.mono hF,hX7,?_,by simp only;omega,by simp only;omega⟩,aN.mk (by simp -implicitDefEqProofs only[aA,seval])⟩
     simpa using ht
theorem VQ{p:List Cl}(hp:∀c∈p,fL c∧c.2.length≤6){B:Nat}(hB:B≤524288){cs:List RC}{goal:Tm}{rest:List RG}{σ:Sub}{N:Nat}(hg:cT σ)(ho:cW (bF N) σ)(hd:∀n,¬(0≤n∧n<(N:Int))→σ n=none)
 (hgo:bF N goal) (hr:∀g∈rest,bF N g.t∧g.t.k=3) (h0:0<N) (hN:N+26≤B) (hrl:rest.length+26≤B) (hcl:cs.length+1≤B) (hcs:∀c∈cs,r0 p c∧c.N+26≤B∧c.rest.length+26≤B∧0<c.N) :
 ∀(left:List Nat),(∀i∈left,i<p.length)→left.length≤1048576→∀s,fK p cs goal rest σ N left=some s→oE p B s
 | [],_,_,s,h=>by simp [fK] at h
 | i::l,hle,hll,s,h=>by
  have hil:=hle i (by simp)
  obtain⟨x,hx⟩:∃x,p[i]?=some x:=⟨_,dZ hil⟩
  obtain⟨hX,h6⟩:=hp x (cJ hx)
  have hl':∀j∈l,j<p.length:=fun j hj=>hle j (by simp [hj])
  rw[fK.eq_def] at h
  simp only[hx] at h
  split at h
  case isFalse=>exact VQ hp hB hg ho hd hgo hr h0 hN hrl hcl hcs l hl' (by simp at hll;omega) s h
  cases h
  have hfr:=hX.fr.1
  have hsh:=hX.cZ N
  obtain⟨r,σ',tr,U⟩:=tC (N:=N+nF x) hg (ho.upN (by omega)) (hgo.mono (by omega)) (hsh x.1 (by simp))
  rw[U.eq]
  have S:=U.yD
  refine⟨S.gW,S.ok,fun n hn=>?_,?_,by simp only;omega,by simp only;omega,?_,?_,?_⟩
  · simp only at hn ⊢
    rw[S.aV n (fun h=>hn (S.gQ n h))]
    exact hd n (fun h=>hn (by omega))
  · intro g hg'
    simp only[fF,cU] at hg'
    rcases hg' with ⟨t,ht,rfl⟩ | hg'
    · exact⟨hsh t (List.mem_cons_of_mem _ ht),by rw[aQO];exact(hX.body t ht).2⟩
    · exact⟨(hr g hg').1.mono (by simp only;omega),(hr g hg').2⟩
  · simp only[dL,aF];omega
  · simp only
    split
    · omega
    · simp only[dL,aQ,bA];omega
  · simp only
    split
    · exact hcs
    · intro c hc
      rcases fF.1 hc with hc | hc
      · exact hcs c hc
      · simp only[c8,dX,eC] at hc
        subst hc
        exact⟨⟨hg,ho,hd,hgo,hr,hl',by simp only;omega,by simp only;simp at hll;omega⟩,hN,hrl,h0⟩
theorem a5V(p:List Cl)(chs:List RC):gC p chs.length chs=match chs.getLast? with
 | none=>none
 | some c=>match fK p chs.dropLast c.goal c.rest c.σ c.N c.left with
  | some s=>some s
  | none=>gC p chs.dropLast.length chs.dropLast:=by
 cases chs with
 | nil=>rfl
 | cons c l=>
  rw[aQ,gC]
  have:(c::l).dropLast.length=l.length:=by simp
  rw[this]
  try rfl
theorem aP3{p:List Cl}(hp:∀c∈p,fL c∧c.2.length≤6){B:Nat}(hB:B≤524288):∀(n:Nat) (chs:List RC),chs.length≤B→(∀c∈chs,r0 p c∧c.N+26≤B∧c.rest.length+26≤B∧0<c.N)→∀s,gC p n chs=some s→oE p B s
 | 0,_,_,_,s,h=>by simp [gC] at h
 | n+1,chs,hl,hc,s,h=>by
  rw[gC] at h
  split at h
  · cases h
  · rename_i c vX
    have hm:=P4 vX
    have hne:chs≠[]:=by rintro rfl;simp at hm
    have hdl:chs.dropLast.length+1=chs.length:=by
     have:=List.length_pos_iff.2 hne
     simp;omega
    have hcd:∀c∈chs.dropLast,r0 p c∧c.N+26≤B∧c.rest.length+26≤B∧0<c.N:=fun c h=>hc c (PZ _ h)
    obtain⟨k,h1,h2,h3⟩:=hc c hm
    split at h
    · rename_i s' hs
      cases h
      exact VQ hp hB k.gW k.ok k.xG k.goal k.rest h3 h1 h2 (by omega) hcd c.left k.left k.a4E s hs
    · exact aP3 hp hB n _ (by omega) hcd s h
theorem oE.up{p:List Cl}{B C:Nat}{s:RS}(h:oE p B s)(hC:B≤C):oE p C s:=
 ⟨h.gW,h.ok,h.xG,h.goals,h.pos,by have:=h.hN;omega,by have:=h.gl;omega,by have:=h.pZ;omega,fun c hc=>by
  obtain⟨h1,h2,h3,h4⟩:=h.chs c hc
  exact⟨h1,by omega,by omega,h4⟩⟩
theorem oE.back{p:List Cl}(hp:∀c∈p,fL c∧c.2.length≤6){B:Nat}(hB:B≤524288){s s':RS}(h:oE p B s)(e:gC p s.chs.length s.chs=some s'):oE p B s':=
 aP3 hp hB _ _ h.pZ h.chs s' e
theorem ET{N:Nat}{σ:Sub}(hg:cT σ)(ho:cW (bF N) σ){t:Tm}(ht:bF N t)(hf:eQ (t.aM (rs σ))=true):bF N (t.aM (rs σ)):=by
 obtain⟨rk,B,G⟩:=hg.rs
 unfold eQ at hf
 simp only[cK,bL] at hf
 exact⟨ht.1.aM fun v hv=>G.mN ho.mN v (ht.1.2.2 v hv).1 (ht.1.2.2 v hv).2,hf.2⟩
theorem oE.step{p:List Cl}(hp:∀c∈p,fL c∧c.2.length≤6)(hpl:p.length≤1048576){B:Nat}(hB:B+26≤524288){cnd:Tm→List Nat→List Nat}(hc:∀t l,(∀i∈cnd t l,i∈l)∧(cnd t l).length≤l.length){s s':RS}{g:RG}{rest:List RG}(hgs:s.goals=g::rest)(h:oE p B s)
 (e:iB p cnd s g rest=.go s'):oE p (B+26) s':=by
 have hgm:g∈s.goals:=by rw[hgs];simp
 have hrm:∀x∈rest,x∈s.goals:=fun x hx=>by rw[hgs];simp [hx]
 have hgl:=h.gl
 rw[hgs,aQ] at hgl
 have hU:=h.up (C:=B+26) (by omega)
 unfold iB at e
 split at e
 · cases e
 rename_i fD
 have TN:eQ (g.t.aM (rs s.σ))=true:=by simpa using fD
 have hok:=ET h.gW h.ok (h.goals g hgm).1 TN
 generalize g.t.aM (rs s.σ)=t at *
 split at e
 · cases e
   exact⟨hU.gW,hU.ok,hU.xG,fun x hx=>hU.goals x (hrm x hx),hU.pos,hU.hN,by simp only;omega,by simp only[dQ];have:=hU.pZ;omega,fun c hc=>hU.chs c (lS hc)⟩
 split at e
 · split at e
   · cases e
     have S:=N8 h.gW h.ok t.s t.ts fun x hx=>by
      obtain⟨k,n,s',ts⟩:=t
      by_cases hk:k=1
      · obtain⟨_,_,_,h2⟩:=(show cL s.N (.mk 1 n s' ts) from hk▸hok.1).var
        simp only[Tm.ts] at hx
        rw[h2] at hx;cases hx
      · exact rL _ (.mk k n s' ts) hk hok x hx
     exact⟨S.gW,S.ok,fun n hn=>by simp only at hn ⊢;rw[S.aV n (fun h=>hn (S.gQ n h))];exact hU.xG n hn,fun x hx=>hU.goals x (hrm x hx),hU.pos,hU.hN,by simp only;omega,hU.pZ,hU.chs⟩
   · split at e<;>cases e
 split at e
 · cases e
 split at e
 case h_2=>cases e
 rename_i s2 hs
 cases e
 obtain⟨c1,c2⟩:=hc t (dG p t)
 have hfl:(dG p t).length≤p.length:=by rw[B5];exact B6 p t p.length
 refine VQ hp (by omega) h.gW h.ok h.xG hok (fun x hx=>h.goals x (hrm x hx)) h.pos (by have:=h.hN;omega) (by omega) (by have:=h.pZ;omega) hU.chs _ (fun i hi=>?_) (by omega) s' hs
 have:=c1 i hi
 unfold dG at this
 have:=(u7.1 this).1
 exact qT.1 this
def lQ(n:Nat)(l:List RG):Prop:=l.Pairwise (fun a b=>b.aV≤a.aV)∧∀g∈l,g.aV≤n
theorem lQ.up{n m:Nat}{l:List RG}(h:lQ n l)(hm:n≤m):lQ m l:=⟨h.1,fun g hg=>lF (h.2 g hg) hm⟩
theorem lQ.tail{n:Nat}{g:RG}{l:List RG}(h:lQ n (g::l)):lQ n l∧lQ g.aV l:=by
 obtain⟨h1,h2⟩:=h
 rw[List.pairwise_cons] at h1
 exact⟨⟨h1.2,fun x hx=>h2 x (by simp [hx])⟩,h1.2,h1.1⟩
theorem lQ.body{n:Nat}{l:List RG}(h:lQ n l)(f:Tm→Tm)(bd:List Tm):lQ n (bd.map (fun t=>(⟨f t,n⟩:RG))++l):=by
 refine⟨List.pairwise_append.2 ⟨?_,h.1,fun a ha b hb=>?_⟩,fun g hg=>?_⟩
 · rw[List.pairwise_map]
   exact List.pairwise_of_forall fun _ _=>dB _
 · obtain⟨t,_,rfl⟩:=cU.1 ha
   exact h.2 b hb
 · rcases fF.1 hg with hg | hg
   · obtain⟨t,_,rfl⟩:=cU.1 hg
     exact dB _
   · exact h.2 g hg
structure vB (s:RS):Prop where
 goals:lQ s.chs.length s.goals
 chs:∀i c,s.chs[i]?=some c→lQ i c.rest
theorem VO{p:List Cl}{cs:List RC}{goal:Tm}{rest:List RG}{σ:Sub}{N:Nat}(hr:lQ cs.length rest)(hc:∀i c,cs[i]?=some c→lQ i c.rest) :
 ∀(left:List Nat) s,fK p cs goal rest σ N left=some s→vB s
 | [],s,h=>by simp [fK] at h
 | i::l,s,h=>by
  rw[fK.eq_def] at h
  simp only at h
  split at h
  · cases h
  rename_i x hx
  split at h
  case isFalse=>exact VO hr hc l s h
  cases h
  have hb:=hr.body (cZ N) x.2
  refine⟨?_,?_⟩
  · simp only
    split
    · exact hb
    · exact hb.up (by simp)
  · simp only
    intro j c hj
    split at hj
    · exact hc j c hj
    · rw[List.getElem?_append] at hj
      split at hj
      · exact hc j c hj
      · rename_i hlt
        have hj0:j - cs.length=0:=by
         have:=(fR.1 hj).1
         simp at this;omega
        rw[hj0] at hj
        simp only[KP,Option.some.injEq] at hj
        subst hj
        exact hr.up (by omega)
theorem aP1{p:List Cl}:∀(n:Nat) (chs:List RC),(∀i c,chs[i]?=some c→lQ i c.rest)→∀s,gC p n chs=some s→vB s
 | 0,_,_,s,h=>by simp [gC] at h
 | n+1,chs,hc,s,h=>by
  rw[gC] at h
  split at h
  · cases h
  · rename_i c vX
    have hd:∀i c,chs.dropLast[i]?=some c→lQ i c.rest:=fun i c hi=>hc i c (by
     rw[List.dropLast_eq_take,P2] at hi
     split at hi
     · exact hi
     · cases hi)
    rw[XX] at vX
    have hk:=hc _ _ vX
    split at h
    · rename_i s' hs
      cases h
      exact VO (by rw[List.length_dropLast];exact hk) hd _ s hs
    · exact aP1 n _ hd s h
theorem vB.step{p:List Cl}{cnd:Tm→List Nat→List Nat}{s s':RS}{g:RG}{rest:List RG}(hgs:s.goals=g::rest)(h:vB s)(e:iB p cnd s g rest=.go s'):vB s':=by
 have hg:=h.goals
 rw[hgs] at hg
 obtain⟨h1,h2⟩:=hg.tail
 have h3:=hg.2 g (by simp)
 unfold iB at e
 split at e
 · cases e
 split at e
 · cases e
   refine⟨?_,fun i c hi=>?_⟩
   · simp only[dQ]
     exact h2.up (by omega)
   · simp only[P2] at hi
     split at hi
     · exact h.chs i c hi
     · cases hi
 split at e
 · split at e
   · cases e
     exact⟨h1,h.chs⟩
   · split at e<;>cases e
 split at e
 · cases e
 split at e
 case h_2=>cases e
 rename_i s2 hs
 cases e
 exact VO h1 h.chs _ s' hs
def DT(s:RS):Prop:=26≤s.N∧∀c∈s.chs,26≤c.N
theorem VP{p:List Cl}{cs:List RC}{goal:Tm}{rest:List RG}{σ:Sub}{N:Nat}(hN:26≤N)(hc:∀c∈cs,26≤c.N) :
 ∀(left:List Nat) s,fK p cs goal rest σ N left=some s→DT s
 | [],s,h=>by simp [fK] at h
 | i::l,s,h=>by
  rw[fK.eq_def] at h
  simp only at h
  split at h
  · cases h
  rename_i x hx
  split at h
  case isFalse=>exact VP hN hc l s h
  cases h
  refine⟨by simp only;omega,?_⟩
  simp only
  split
  · exact hc
  · intro c h
    rcases fF.1 h with h | h
    · exact hc c h
    · simp only[c8,dX,eC] at h
      subst h;exact hN
theorem aP2{p:List Cl}:∀(n:Nat) (chs:List RC),(∀c∈chs,26≤c.N)→∀s,gC p n chs=some s→DT s
 | 0,_,_,s,h=>by simp [gC] at h
 | n+1,chs,hc,s,h=>by
  rw[gC] at h
  split at h
  · cases h
  · rename_i c vX
    have hd:∀c∈chs.dropLast,26≤c.N:=fun c h=>hc c (PZ _ h)
    split at h
    · rename_i s' hs
      cases h
      exact VP (hc c (P4 vX)) hd _ s hs
    · exact aP2 n _ hd s h
theorem DT.step{p:List Cl}{cnd:Tm→List Nat→List Nat}{s s':RS}{g:RG}{rest:List RG}(h:DT s)(e:iB p cnd s g rest=.go s'):DT s':=by
 unfold iB at e
 split at e
 · cases e
 split at e
 · cases e
   exact⟨h.1,fun c hc=>h.2 c (lS hc)⟩
 split at e
 · split at e
   · cases e
     exact h
   · split at e<;>cases e
 split at e
 · cases e
 split at e
 case h_2=>cases e
 rename_i s2 hs
 cases e
 exact VP h.1 h.2 _ s' hs
structure lG (p:List Cl) (B:Nat) (s:RS):Prop where
 a:oE p B s
 k:vB s
 l:DT s
theorem lG.step{p:List Cl}(hp:∀c∈p,fL c∧c.2.length≤6)(hpl:p.length≤1048576){B:Nat}(hB:B+26≤524288){cnd:Tm→List Nat→List Nat}(hc:∀t l,(∀i∈cnd t l,i∈l)∧(cnd t l).length≤l.length){s s':RS}{g:RG}{rest:List RG}(hgs:s.goals=g::rest)(h:lG p B s)
 (e:iB p cnd s g rest=.go s'):lG p (B+26) s':=⟨h.a.step hp hpl hB hc hgs e,h.k.step hgs e,h.l.step e⟩
theorem lG.back{p:List Cl}(hp:∀c∈p,fL c∧c.2.length≤6){B:Nat}(hB:B≤524288){s s':RS}(h:lG p B s)(e:gC p s.chs.length s.chs=some s'):lG p B s':=
 ⟨h.a.back hp hB e,aP1 _ _ h.k.chs s' e,aP2 _ _ h.l.2 s' e⟩
theorem lG.up{p:List Cl}{B C:Nat}{s:RS}(h:lG p B s)(hC:B≤C):lG p C s:=⟨h.a.up hC,h.k,h.l⟩
theorem lG.start{p:List Cl}{q:List Tm}(hq:∀t∈q,bF 26 t∧t.k=3)(h6:q.length≤6):lG p 26 (mQ q):=by
 refine⟨⟨cT.none,fun n u h=>(by cases h),fun n _=>rfl,?_,(by show 0<26;omega),dB _,?_,kA _,fun c hc=>(by cases hc)⟩,⟨⟨?_,?_⟩,fun i c hi=>(by cases hi)⟩,⟨dB _,fun c hc=>(by cases hc)⟩⟩
 · intro g hg
   simp only[mQ,cU] at hg
   obtain⟨t,ht,rfl⟩:=hg
   exact hq t ht
 · simp only[mQ,aF];omega
 · simp only[mQ,List.pairwise_map]
   exact List.pairwise_of_forall fun _ _=>dB _
 · intro g hg
   simp only[mQ,cU] at hg
   obtain⟨t,ht,rfl⟩:=hg
   exact kA _
end Go.AW
namespace Go.AW
theorem IX.node{p:List Cl}{M:Nat}{i:IS}(h:IX p M i):IX p M { i with nn:=i.nn+1 }:=
 ⟨h.tnd,h.tin,h.phi,fun c hc=>by obtain⟨h1,h2,h3,h4⟩:=h.ch c hc;exact⟨h1,by simp only;omega,h3,h4⟩,h.mono⟩
theorem IX.more{p:List Cl}{M:Nat}{i:IS}{σ':Sub}{add:List Int}{gl:List IG}(h:IX p M i)(S:nP (i.fresh:Int) i.σ σ' add):IX p M { i with goals:=gl,σ:=σ',tr:=i.tr++add }:=by
 refine⟨oV.2 ⟨h.tnd,S.nodup,fun a ha b hb e=>?_⟩,fun n hn=>?_,h.phi,fun c hc=>?_,h.mono⟩
 · subst e
   exact(h.tin a ha).2 (S.new a hb).1
 · simp only[fF] at hn
   rcases hn with hn | hn
   · have h1:=h.tin n hn
     have hna:n∉add:=fun ha=>h1.2 (S.new n ha).1
     exact⟨h1.1,by simp only;rw[S.aV n hna];exact h1.2⟩
   · exact⟨S.gQ n hn,(S.new n hn).2⟩
 · obtain⟨h1,h2,h3,h4⟩:=h.ch c hc
   exact⟨h1,h2,by simp only[dL];omega,h4⟩
theorem IX.cut{p:List Cl}{M:Nat}{i:IS}{gl:List IG}(h:IX p M i)(k:Nat):IX p M { i with goals:=gl,chs:=i.chs.take k }:=
 ⟨h.tnd,h.tin,by have:=aOU i.chs k;have:=h.phi;simp only;omega,fun c hc=>h.ch c (lS hc),h.mono.sublist (List.take_sublist _ _)⟩
def QD(p:List Cl)(M:Nat):yO→Prop
 | .go s=>IX p M s
 | .fail s=>IX p M s
 | .stop _=>True
theorem a3I{p:List Cl}(hp:∀c∈p,fL c)(hpl:p.length≤20){cnd:Tm→List Nat→List Nat}(hc:∀t l,(∀i∈cnd t l,i∈l)∧(cnd t l).length≤l.length){M:Nat}{i:IS}{g:IG}{rest:List IG}(h:IX p M i)(hg:cT i.σ)(ho:cW (bF i.fresh) i.σ)(hgo:bF i.fresh g.t) :
 QD p (M+520) (mK p cnd i g rest):=by
 have hU:=h.up (M':=M+520) (by omega)
 unfold mK
 split
 · trivial
 rename_i fD
 have TN:eQ (g.t.aM (rs i.σ))=true:=by simpa using fD
 have hok:=ET hg ho hgo TN
 generalize g.t.aM (rs i.σ)=t at *
 split
 · exact(hU.cut (gl:=rest) g.cut).node
 split
 · have S:=N8 hg ho t.s t.ts fun x hx=>by
    obtain⟨k,n,s',ts⟩:=t
    by_cases hk:k=1
    · obtain⟨_,_,_,h2⟩:=(show cL i.fresh (.mk 1 n s' ts) from hk▸hok.1).var
      simp only[Tm.ts] at hx
      rw[h2] at hx;cases hx
    · exact rL _ (.mk k n s' ts) hk hok x hx
   split
   · exact(hU.more (gl:=rest) S).node
   · split
     · exact(hU.more (gl:=i.goals) S).node
     · trivial
 split
 · trivial
 obtain⟨c1,c2⟩:=hc t (dG p t)
 have hfl:(dG p t).length≤p.length:=by
  have:=KS (fun j=>match p[j]? with | some c=>ID c t | none=>false) (List.range p.length)
  rw[KT] at this
  exact this
 have hr:∀x∈cnd t (dG p t),x<p.length:=fun x hx=>by
  have:=c1 x hx
  unfold dG at this
  exact qT.1 (u7.1 this).1
 have hT:=NH hp (rest:=rest) (cnd t (dG p t)) { i with nn:=i.nn+1 } hr (at':=i.nn) (by simp only;omega) (by have:=h.phi;simp only;omega) hU.node hg ho hok
 split
 · exact hT
 · exact hT
end Go.AW
namespace Go.AW
open Go.Proofs.Tryz
theorem aOF{p:List Cl}{goal:Tm}{at':Nat}{rest:List IG}:∀(l:List Nat) (s:IS),(gK p goal at' rest l s).1=false→∃F,(gK p goal at' rest l s).2= { s with fresh:=F }
 | [],s,_=>⟨s.fresh,by rw[gK.eq_def]⟩
 | j::l,s,h=>by
  rw[gK.eq_def] at h ⊢
  simp only at h ⊢
  split at h
  · exact⟨s.fresh,rfl⟩
  · split at h
    · cases h
    · rename_i hu
      rw[aE hu]
      obtain⟨F,e⟩:=aOF l { s with fresh:=s.fresh+26 } h
      exact⟨F,e⟩
theorem NI{p:List Cl}{goal:Tm}{at':Nat}{rest:List IG}:∀(l:List Nat) (s:IS),(gK p goal at' rest l s).2.nn=s.nn
 | [],s=>by rw[gK.eq_def]
 | j::l,s=>by
  rw[gK.eq_def]
  simp only
  split
  · rfl
  · split
    · rfl
    · exact NI l { s with fresh:=s.fresh+26 }
theorem Rl.facts{s:RS}{i:IS}(h:Rl s i):cT i.σ∧cW (bF i.fresh) i.σ∧i.chs.length=s.chs.length∧i.goals.length=s.goals.length:=by
 obtain⟨ρ,S,G,C⟩:=h
 have:=jG List.length G.1
 simp only[aF] at this
 exact⟨S.g2,S.o2,C.len,this⟩
theorem Rl.goal{s:RS}{i:IS}{h:IG}{hs:List IG}(hR:Rl s i)(hh:i.goals=h::hs):bF i.fresh h.t∧h.t.k=3∧∃g gs,s.goals=g::gs∧h.cut=g.aV:=by
 obtain⟨ρ,S,G,C⟩:=hR
 rw[hh] at G
 cases hg:s.goals with
 | nil=>rw[hg] at G;exact absurd G.1 (by simp)
 | cons g gs=>
  rw[hg] at G
  have he:=(yQ G.1).1
  simp only[Prod.mk.injEq] at he
  obtain⟨e1,e2⟩:=he
  obtain⟨h1,h2⟩:=G.2 g (by simp)
  rw[e1]
  exact⟨S.C0 h1,by rw[wD];exact h2,g,gs,rfl,e2⟩
section
variable {p:List Cl} (hp:∀c∈p,fL c) {cnd:Tm→List Nat→List Nat} (hc:∀(ρ:Int→Int) (t:Tm) (l:List Nat),cnd (b7 ρ t) l=cnd t l)
include hp hc
theorem Rl.step{s:RS}{i:IS}{h:IG}{hs:List IG}(hR:Rl s i)(hh:i.goals=h::hs):∃g gs,s.goals=g::gs∧match mK p cnd i h hs with
 | .stop e=>iB p cnd s g gs=.stop e
 | .go i'=>∃s',iB p cnd s g gs=.go s'∧Rl s' i'
 | .fail i'=>iB p cnd s g gs=.fail∧jD i'.fresh s.chs i'.chs i'.σ i'.tr:=by
 obtain⟨_,_,g,gs,hg,_⟩:=hR.goal hh
 obtain⟨h',hs',e,k⟩:=aQ2 hp hc hR hg
 rw[hh] at e
 cases e
 refine⟨g,gs,hg,?_⟩
 cases hr:iB p cnd s g gs with
 | stop e=>rw[hr] at k;simp only at k;rw[k]
 | go s'=>rw[hr] at k;simp only at k;obtain⟨i',e,k⟩:=k;rw[e];exact⟨s',rfl,k⟩
 | fail=>rw[hr] at k;simp only at k;obtain⟨i',e,k⟩:=k;rw[e];exact⟨rfl,k⟩
end
theorem a0Q(p:List Cl)(t:Tm):(dG p t).length≤p.length:=by
 have:=KS (fun j=>match p[j]? with | some c=>ID c t | none=>false) (List.range p.length)
 rw[KT] at this
 exact this
theorem SX(p:List Cl)(t:Tm):∀x∈dG p t,x<p.length:=fun x hx=>by
 unfold dG at hx
 exact qT.1 (u7.1 hx).1
theorem aOE{p:List Cl}{N:Nat}{i':IS}:∀(n:Nat) (i:IS),(∀c∈i.chs,c.taken≤N)→hH p n i=some i'→i'.nn≤N
 | 0,i,_,e=>by simp [hH] at e
 | n+1,i,h,e=>by
  rw[hH] at e
  split at e
  · cases e
  · rename_i c hl
    split at e
    · cases e
      rw[NI]
      exact h c (P4 hl)
    · rename_i hf
      obtain⟨F,e2⟩:=aOF _ _ (by simpa using hf)
      rw[e2] at e
      exact aOE n _ (fun c hc=>h c (PZ _ hc)) e
def QC(k:Nat):yO→Prop
 | .go s=>s.nn=k
 | .fail s=>s.nn=k
 | .stop _=>True
theorem a3J{p:List Cl}{cnd:Tm→List Nat→List Nat}{i:IS}{g:IG}{rest:List IG}:QC (i.nn+1) (mK p cnd i g rest):=by
 unfold mK
 split
 · trivial
 split
 · exact rfl
 split
 · split
   · exact rfl
   · split
     · exact rfl
     · trivial
 split
 · trivial
 split
 · exact NI _ _
 · exact NI _ _
def X5:yO→Prop
 | .stop e=>e≠-1
 | _=>True
theorem a3K{p:List Cl}{cnd:Tm→List Nat→List Nat}{i:IS}{g:IG}{rest:List IG}:X5 (mK p cnd i g rest):=by
 unfold mK
 split
 · exact(by decide:(3:Int)≠-1)
 split
 · trivial
 split
 · split
   · trivial
   · split
     · trivial
     · show sK _≠-1
       unfold sK
       split
       · decide
       · split
         · decide
         · split<;>decide
 split
 · exact(by decide:(8:Int)≠-1)
 split<;>trivial
structure RI (p:List Cl) (B M k:Nat) (s:RS) (i:IS):Prop where
 r:Rl s i
 a:lG p B s
 x:IX p M i
 n:i.nn≤k
theorem RI.pZ{p:List Cl}{B M k:Nat}{s:RS}{i:IS}(h:RI p B M k s i):i.chs.length≤B:=by rw[h.r.facts.2.2.1];exact h.a.a.pZ
theorem RI.cr{p:List Cl}{B M k:Nat}{s:RS}{i:IS}(h:RI p B M k s i):jD i.fresh s.chs i.chs i.σ i.tr:=by obtain⟨_,_,_,C⟩:=h.r;exact C
theorem RI.cut{p:List Cl}{B M k:Nat}{s:RS}{i:IS}{g:IG}{gs:List IG}(h:RI p B M k s i)(hg:i.goals=g::gs):g.cut≤i.chs.length:=by
 obtain⟨_,_,g',gs',e,e2⟩:=h.r.goal hg
 rw[e2,h.r.facts.2.2.1]
 have:=h.a.k.goals.2 g' (by rw[e];simp)
 exact this
section
variable {p:List Cl} (hp:∀c∈p,fL c∧c.2.length≤6) (hpl:p.length≤20) {cnd:Tm→List Nat→List Nat} (hc:∀(ρ:Int→Int) (t:Tm) (l:List Nat),cnd (b7 ρ t) l=cnd t l) (hd:∀t l,(∀i∈cnd t l,i∈l)∧(cnd t l).length≤l.length)
include hp
theorem RI.ZI{B M k:Nat}(hB:B≤524288){s:RS}{i i':IS}(ha:lG p B s)(hC:jD i.fresh s.chs i.chs i.σ i.tr)(hx:IX p M i)(hn:i.nn≤k)(e:hH p i.chs.length i=some i'):∃s',RI p B M k s' i':=by
 have hp1:=fun c h=>(hp c h).1
 have key:=Q2 hp1 i.chs.length s.chs i hC
 cases hr:gC p i.chs.length s.chs with
 | none=>rw[hr] at key;simp only at key;rw[key] at e;cases e
 | some s'=>
  rw[hr] at key
  obtain⟨i2,e2,R⟩:=key
  rw[e2] at e
  cases e
  rw[hC.len] at hr
  exact⟨s',R,ha.back hp hB hr,aOD hp1 _ s.chs i hC hx i' e2,aOE _ i (fun c hc=>lF (hx.ch c hc).2.1 hn) e2⟩
theorem RI.back{B M k:Nat}(hB:B≤524288){s:RS}{i i':IS}(h:RI p B M k s i)(e:hH p i.chs.length i=some i'):∃s',RI p B M k s' i':=
 RI.ZI hp hB h.a h.cr h.x h.n e
include hpl hc hd
theorem RI.step{B M k:Nat}(hB:B+26≤524288){s:RS}{i:IS}{g:IG}{gs:List IG}(h:RI p B M k s i)(hg:i.goals=g::gs):match mK p cnd i g gs with
 | .stop e=>True
 | .go i'=>∃s',RI p (B+26) (M+520) (k+1) s' i'
 | .fail i'=>jD i'.fresh s.chs i'.chs i'.σ i'.tr∧IX p (M+520) i'∧i'.nn≤k+1∧∀i2,hH p i'.chs.length i'=some i2→∃s',RI p (B+26) (M+520) (k+1) s' i2:=by
 have hp1:=fun c h=>(hp c h).1
 have hn:=a3J (p:=p) (cnd:=cnd) (i:=i) (g:=g) (rest:=gs)
 have hx:=a3I hp1 hpl hd (rest:=gs) h.x h.r.facts.1 h.r.facts.2.1 (h.r.goal hg).1
 obtain⟨g',gs',e,k⟩:=h.r.step hp1 hc hg
 have hk:=h.n
 cases hs:mK p cnd i g gs with
 | stop e=>trivial
 | go i'=>
  rw[hs] at hn hx k
  simp only[QC,QD] at hn hx k
  obtain⟨s',e1,R⟩:=k
  exact⟨s',R,h.a.step hp (by omega) hB hd e e1,hx,by omega⟩
 | fail i'=>
  rw[hs] at hn hx k
  simp only[QC,QD] at hn hx k
  obtain⟨e1,C⟩:=k
  exact⟨C,hx,by omega,fun i2 e2=>RI.ZI hp hB (h.a.up (by omega)) C hx (by omega) e2⟩
end
theorem RI.start{p:List Cl}{q:List Tm}(hq:∀t∈q,bF 26 t∧t.k=3)(h6:q.length≤6):RI p 26 26 0 (mQ q) (pC q):=by
 refine⟨aQ1 hq,lG.start hq h6,⟨pR,fun n hn=>(by cases hn),(by show 26+26*qK []≤26;simp [qK]),fun c hc=>(by cases hc),List.Pairwise.nil⟩,dB _⟩
theorem a3H{p:List Cl}{cnd:Tm→List Nat→List Nat}{vars:List Int}{most fuel:Nat}{s:IS}(hg:s.goals= []):j3 p cnd vars most fuel s=if most=0 then([],1) else match kC s.σ vars with
 | none=>([],3)
 | some a=>match hH p s.chs.length s with
  | none=>([a],0)
  | some s'=>(a::(j3 p cnd vars (most - 1) fuel s').1,(j3 p cnd vars (most - 1) fuel s').2):=by
 rw[j3.eq_def,hg]
 simp only
 split<;>rfl
theorem a3G{p:List Cl}{cnd:Tm→List Nat→List Nat}{vars:List Int}{most fuel:Nat}{s:IS}{g:IG}{rest:List IG}(hg:s.goals=g::rest):j3 p cnd vars most fuel s=if fuel=0 then([],2) else match mK p cnd s g rest with
 | .stop e=>([],e)
 | .go s'=>j3 p cnd vars most (fuel - 1) s'
 | .fail s'=>match hH p s'.chs.length s' with
  | none=>([],0)
  | some s''=>j3 p cnd vars most (fuel - 1) s'':=by
 rw[j3.eq_def,hg]
 simp only
 split<;>rfl
section
variable {st0 st:aB} {S c m:Nat} {qt qc qn:AV} {p:List Cl} {q:List Tm} {idx:Bool} {fuel used mx:Int} {nd:List AV} {i:IS}
theorem dO.acc{b:Nat}{l:List AV}(h:dO st0 st S c m qt qc qn p q idx fuel used mx nd i)(hb:l≠[]→st b=none):dO (a8 st0 b l) (a8 st b l) S c m qt qc qn p q idx fuel used mx nd i:=by
 cases l with
 | nil=>exact h
 | cons x l=>
  have hn:=hb (by simp)
  have hne:∀a∈jS S c m qt qc qn,a8 st b (x::l) a=st a:=fun a ha=>pU (by rintro rfl;exact h.held a ha hn)
  have a2N:∀a∈jS S c m qt qc qn,a8 st0 b (x::l) a=st0 a:=fun a ha=>pU (by rintro rfl;exact h.held a ha hn)
  refine⟨by rw[hne S (eM.2 (.inl rfl))];exact h.cell,h.sto.E9 (hne c (eM.2 (.inr (.inl rfl)))) (hne m (eM.2 (.inr (.inr (.inl rfl))))) (fun b hb=>hne b (eM.2 (.inr (.inr (.inr (.inl hb)))))),
   h.acC.aV fun b hb=>hne b (eM.2 (.inr (.inr (.inr (.inr (.inl hb)))))),h.acN.aV fun b hb=>hne b (eM.2 (.inr (.inr (.inr (.inr (.inr hb)))))),h.ndl,h.ndw,h.dis,fun a ha=>by rw[a2N a ha];exact h.new a ha,fun a o ha=>?_⟩
  by_cases e:a=b
  · subst e
    rw[jY (by simp),aB.aP] at ha ⊢
    exact ha
  · rw[pU e] at ha ⊢
    exact h.aV a o ha
theorem dO.DG{b:Nat}{l:List AV}{st2:aB}(h:dO (a8 st0 b l) st2 S c m qt qc qn p q idx fuel used mx nd i)(hb:l≠[]→st0 b=none):∃s,st2=a8 s b l∧(l≠[]→s b=none)∧dO st0 s S c m qt qc qn p q idx fuel used mx nd i:=by
 cases l with
 | nil=>exact⟨st2,rfl,fun h=>absurd rfl h,h⟩
 | cons x l=>
  have hn:=hb (by simp)
  have h2:st2 b=some (.cells ((x::l).flatMap AV.cells)):=h.aV b _ (by rw[jY (by simp),aB.aP])
  have hbn:b∉jS S c m qt qc qn:=fun hm=>by
   have:=h.new b hm
   rw[jY (by simp),aB.aP] at this
   cases this
  obtain⟨s',hs'⟩:∃s':aB,∀y,s' y=if y=b then none else st2 y:=⟨_,fun _=>rfl⟩
  have hne:∀a∈jS S c m qt qc qn,s' a=st2 a:=fun a ha=>by rw[hs',aE (by rintro rfl;exact hbn ha)]
  refine⟨s',?_,fun _=>by rw[hs',aH rfl],?_⟩
  · funext y
    by_cases e:y=b
    · subst e;rw[jY (by simp),aB.aP,h2]
    · rw[pU e,hs',aE e]
  · refine⟨by rw[hne S (eM.2 (.inl rfl))];exact h.cell,h.sto.E9 (hne c (eM.2 (.inr (.inl rfl)))) (hne m (eM.2 (.inr (.inr (.inl rfl))))) (fun b hb=>hne b (eM.2 (.inr (.inr (.inr (.inl hb)))))),
     h.acC.aV fun b hb=>hne b (eM.2 (.inr (.inr (.inr (.inr (.inl hb)))))),h.acN.aV fun b hb=>hne b (eM.2 (.inr (.inr (.inr (.inr (.inr hb)))))),h.ndl,h.ndw,h.dis,fun a ha=>?_,fun a o ha=>?_⟩
    · have:=h.new a ha
      rwa [pU (by rintro rfl;exact hbn ha)] at this
    · have e:a≠b:=by rintro rfl;rw[hn] at ha;cases ha
      rw[hs',aE e]
      exact h.aV a o (by rw[pU e];exact ha)
theorem ML{st:aB}{b:Nat}{o:AO}(h:st b=none):eR st (st.aC b o):=fun x p hx=>by
 rw[aB.aJ _ _ (by rintro rfl;rw[h] at hx;cases hx)];exact hx
theorem PG{S b:Nat}(hne:S≠b)(X Y:AO):∃s0:aB,s0 S=some X∧s0 b=some Y∧∀st:aB,st S=some X→st b=some Y→eR s0 st:=by
 refine⟨(one S X).aC b Y,by rw[aB.aJ _ _ hne];exact uN,aB.aP _ _ _,fun st h1 h2 x p hx=>?_⟩
 by_cases e:x=b
 · subst e;rw[aB.aP] at hx;cases hx;exact h2
 · rw[aB.aJ _ _ e] at hx;exact gH h1 x p hx
theorem dO.box{b:Nat}{o:AO}(h:dO st0 st S c m qt qc qn p q idx fuel used mx nd i)(hn:st b=none):dO (st0.aC b o) (st.aC b o) S c m qt qc qn p q idx fuel used mx nd i:=by
 have hne:∀(s:aB) a,a∈jS S c m qt qc qn→(s.aC b o) a=s a:=fun s a ha=>aB.aJ _ _ (by rintro rfl;exact h.held a ha hn)
 refine⟨by rw[hne _ S (eM.2 (.inl rfl))];exact h.cell,h.sto.E9 (hne _ c (eM.2 (.inr (.inl rfl)))) (hne _ m (eM.2 (.inr (.inr (.inl rfl))))) (fun b hb=>hne _ b (eM.2 (.inr (.inr (.inr (.inl hb)))))),
  h.acC.aV fun b hb=>hne _ b (eM.2 (.inr (.inr (.inr (.inr (.inl hb)))))),h.acN.aV fun b hb=>hne _ b (eM.2 (.inr (.inr (.inr (.inr (.inr hb)))))),h.ndl,h.ndw,h.dis,fun a ha=>by rw[hne _ a ha];exact h.new a ha,fun a o' ha=>?_⟩
 by_cases e:a=b
 · subst e
   rw[aB.aP] at ha ⊢
   exact ha
 · rw[aB.aJ _ _ e] at ha ⊢
   exact h.aV a o' ha
theorem dO.unbox{b:Nat}{o:AO}(h:dO (st0.aC b o) st S c m qt qc qn p q idx fuel used mx nd i)(hn:st0 b=none):dO st0 st S c m qt qc qn p q idx fuel used mx nd i:=by
 refine⟨h.cell,h.sto,h.acC,h.acN,h.ndl,h.ndw,h.dis,fun a ha=>?_,fun a o' ha=>?_⟩
 · have:=h.new a ha
   by_cases e:a=b
   · subst e;exact hn
   · rwa [aB.aJ _ _ e] at this
 · have e:a≠b:=by rintro rfl;rw[hn] at ha;cases ha
   exact h.aV a o' (by rw[aB.aJ _ _ e];exact ha)
end
end Go.AW
