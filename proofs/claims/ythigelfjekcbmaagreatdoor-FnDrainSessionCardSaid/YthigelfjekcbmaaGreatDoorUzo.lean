import Derived.Test.YthigelfjekcbmaaGreatDoorUzm
import Derived.Test.YthigelfjekcbmaaGreatDoorUzl
import Derived.Test.YthigelfjekcbmaaGreatDoorUzi
import Derived.Test.YthigelfjekcbmaaGreatDoorUzn
import Derived.Test.YthigelfjekcbmaaGreatDoorUzk
set_option linter.unusedSimpArgs false
set_option linter.unusedVariables false
set_option maxRecDepth 100000
namespace Go.AW
open Go.Proofs.Tryz
def eY:List IG→AV
 | []=>.nilptr
 | ⟨.mk k n s ts,cut,up⟩::l=>.pptr (.agg [.int .i64 k,.int .i64 n,.str s,.slice (ts.map Tm.av),.int .i64 (cut:Int),.int .i64 up,eY l])
theorem uF(k n:Int)(s:ByteArray)(ts:List Tm)(cut:Nat)(up:Int)(l:List IG):eY (⟨.mk k n s ts,cut,up⟩::l)=.pptr (.agg [.int .i64 k,.int .i64 n,.str s,.slice (ts.map Tm.av),.int .i64 (cut:Int),.int .i64 up,eY l]):=by rw[eY]
theorem qQ(l:List IG):(eY l).isAgg=false∧(eY l).width=1∧(eY l).cJ=false∧(eY l).cells= [eY l]∧(eY l).storable=true∧(eY l).soft=eY l:=by
 cases l with
 | nil=>rw[eY];exact⟨rfl,rfl,rfl,rfl,rfl,rfl⟩
 | cons g l=>obtain⟨⟨k,n,s,ts⟩,cut,up⟩:=g;rw[uF];exact⟨rfl,rfl,rfl,rfl,rfl,rfl⟩
abbrev aR0:=zi tI_3 (zi zI_3 (zi aU (zi tI_28 (zi zI_28 (zi aO (zi bF (zi bG (zi bZ (zi tI_52 (zi zI_52 (zi bU (zi bV (zi bX (zi bY (zi bT (zi tI_180 (zi zI_180 (zi tI_211 (zi zI_211 (zi aMQ (zi aMR (zi aMS (zi aMT ZR)))))))))))))))))))))))
theorem SG(bd:List Tm)(cut:Nat)(up:Int)(rest:List IG)(hl:bd.length≤1048576)(st:aB) :
 aD prog 149 [.slice (bd.map Tm.av),.int .i64 (cut:Int),.int .i64 up,eY rest] st (fun r st'=>r=eY (bd.map (fun t=>(⟨t,cut,up⟩:IG))++rest)∧st'=st):=by
 obtain⟨r1,r2,r3,r4,r5,r6⟩:=qQ rest
 refine aD.done ?_
 refine wF [1000000] 4 func149 ntmps149 rfl rfl ?_
 intro _
 have hw0:=bO (n:=(bd.length:Int) - 1)
 simp -implicitDefEqProofs only[aF,hw0,aA,seval,aR0]
 refine iT (σ:=Nat) [1000000] [0,1,2,8] (fun j=>j≤bd.length) (fun j=>[(3,eY ((bd.drop j).map (fun t=>(⟨t,cut,up⟩:IG))++rest)),(9,.int .i64 ((j:Int) - 1))]) (fun _=>st) (fun j=>j) (by decide +kernel) ⟨bd.length,dC _,aP.mk (by simp -implicitDefEqProofs only[lH,aW,eD,aA,seval])⟩ ?_
 intro j hj
 cases j with
 | zero=>
  rw[vK]
  obtain⟨s1,s2,s3,s4,s5,s6⟩:=qQ (bd.map (fun t=>(⟨t,cut,up⟩:IG))++rest)
  simp -implicitDefEqProofs only[xI,↓LK,List.contains,List.elem,↓reduceIte,reduceCtorEq,Nat.reduceEqDiff]
  refine aQ (fun h=>absurd h (by simp)) (fun h=>?_)
  simp -implicitDefEqProofs only[aA,seval]
  exact⟨s6,aL.refl _⟩
 | succ j=>
 obtain⟨s1,s2,s3,s4,s5,s6⟩:=qQ ((bd.drop (j+1)).map (fun t=>(⟨t,cut,up⟩:IG))++rest)
 obtain⟨x,hx⟩:∃x,bd[j]?=some x:=⟨_,fF (by omega)⟩
 have hat:=bQ (av:=Tm.av) (P:=prog) aO hx (aM x)
 have hdr:bd.drop j=x::bd.drop (j+1):=by
  obtain⟨h1,h2⟩:=gW.1 hx
  rw[rH h1,h2]
 have hc:((j+1:Nat):Int) - 1=(j:Int):=by omega
 have hw:=bO (n:=(j:Int) - 1)
 have hnx:eY ((bd.drop j).map (fun t=>(⟨t,cut,up⟩:IG))++rest)=.pptr (.agg (x.av.cells++ [.int .i64 (cut:Int),.int .i64 up,eY ((bd.drop (j+1)).map (fun t=>(⟨t,cut,up⟩:IG))++rest)])):=by
  rw[hdr]
  obtain⟨k,n,s,ts⟩:=x
  rw[bB,fE,uF,a8]
  try rfl
 generalize eY ((bd.drop (j+1)).map (fun t=>(⟨t,cut,up⟩:IG))++rest)=A at *
 obtain⟨k,n,s,ts⟩:=x
 simp only[a8] at hat hnx
 rw[hc]
 simp -implicitDefEqProofs only[aA,seval]
 refine aQ (fun h=>?_) (fun h=>absurd h (by simp))
 simp -implicitDefEqProofs only[s3,s4,hat,hw,aA,seval,aR0]
 trace_state
 refine⟨j,by omega,by omega,aP.mk (by rw[hnx];simp -implicitDefEqProofs only[aA,seval])⟩
theorem aWC(c:Int)(st:aB):aD prog 187 [.int .i64 c] st (fun r st'=>r=.int .i64 (qN c)∧st'=st):=by
 refine aD.done ?_
 refine wF [1000000] 1 func187 ntmps187 rfl rfl ?_
 intro _
 simp -implicitDefEqProofs only[aA,seval]
 unfold qN
 refine aQ (fun h=>?_) (fun h=>?_)
 · simp -implicitDefEqProofs only[aA,seval]
   have h':c=2:=by simpa using h
   exact⟨by rw[aH h'];try rfl,aL.refl _⟩
 rw[aE (show ¬c=2 by simpa using h)]
 simp -implicitDefEqProofs only[aA,seval]
 refine aQ (fun h=>?_) (fun h=>?_)
 · simp -implicitDefEqProofs only[aA,seval]
   have h':c=3:=by simpa using h
   exact⟨by rw[aH h'];try rfl,aL.refl _⟩
 rw[aE (show ¬c=3 by simpa using h)]
 simp -implicitDefEqProofs only[aA,seval]
 refine aQ (fun h=>?_) (fun h=>?_)
 · simp -implicitDefEqProofs only[aA,seval]
   have h':c=4:=by simpa using h
   exact⟨by rw[aH h'];try rfl,aL.refl _⟩
 rw[aE (show ¬c=4 by simpa using h)]
 simp -implicitDefEqProofs only[aA,seval]
 exact⟨rfl,aL.refl _⟩
abbrev a7U:=zi tI_9 (zi zI_9 (zi cT (zi tI_28 (zi zI_28 (zi aO (zi bF (zi bG (zi bZ (zi tI_52 (zi zI_52 (zi bU (zi bV (zi bX (zi bY (zi bT (zi tI_219 (zi zI_219 (zi TC (zi TD RN)))))))))))))))))))
theorem aBB(k n:Int)(s:ByteArray)(ts:List Tm)(st:aB):aD prog 189 [(Tm.mk k n s ts).av] st (fun r st'=>r=.agg [.str s,.int .i64 (ts.length:Int)]∧st'=st):=by
 refine aD.done ?_
 simp only[a8]
 refine wF [1000000] 1 func189 ntmps189 rfl rfl ?_
 intro _
 simp -implicitDefEqProofs only[aK,aF,aA,seval,a7U]
 intro b2 h2
 exact⟨by simp only[jI,jB,nB,bB,aW],(aL.refl _).aC h2⟩
abbrev KQ:=zi tI_3 (zi zI_3 (zi aU (zi tI_27 (zi zI_27 (zi eH (zi gK (zi gN (zi iJ (zi tI_40 (zi zI_40 (zi dT (zi fJ (zi fK (zi fU (zi tI_52 (zi zI_52 (zi bU (zi bV (zi bX (zi bY (zi bT (zi tI_111 (zi zI_111 (zi kT (zi kU (zi kQ (zi tI_219 (zi zI_219 (zi TC (zi TD RN))))))))))))))))))))))))))))))
theorem aV6(p:List Cl)(t:Tm)(hp:p.length≤1048576)(st:aB):aD prog 188 [.slice (p.map a9),.agg [.str t.s,.int .i64 (t.ts.length:Int)]] st (fun r st'=>r=.slice ((gA p t).map nv)∧st'=st):=by
 rw[NC]
 refine aD.done ?_
 obtain⟨tk,tn,ts',tts⟩:=t
 simp only[Tm.s,Tm.ts]
 refine wF [1000000] 2 func188 ntmps188 rfl rfl ?_
 intro _
 simp -implicitDefEqProofs only[aF,aA,seval,KQ]
 refine vG (σ:=Unit) [1000000] [3,4,8,9] p 1 5 (fun i _=>((List.range i).filter (rR p (.mk tk tn ts' tts))).map nv) (fun _ _=>True) (fun i _=>[(10,.int .i64 i)]) (fun _ _=>st) (fun i _ _ e he=>by simp only[cY] at he;obtain⟨t,_,rfl⟩:=he;exact⟨rfl,rfl⟩) (by decide +kernel) ⟨(),0,trivial,fun h=>absurd rfl h,aP.mk (by simp -implicitDefEqProofs only[jV,List.range_zero,List.filter_nil,aW,aA,↓aS,seval])⟩ (fun i x _ b hx hlt bR hdr hinv hb=>?_) (fun _ b hge hinv=>?_)
 case refine_2=>
  simp -implicitDefEqProofs only[hge,eS,jF,qO,FC,mV,aA,seval]
  exact⟨rfl,aL.refl _⟩
 have hw:=bO (n:=(i:Int)+1)
 have hst:=aNC p (.mk tk tn ts' tts) i
 have hln:=ND p (.mk tk tn ts' tts) i
 have hat:=bQ (av:=a9) (P:=prog) eH hx (jN x)
 obtain⟨⟨k,n,s',ts⟩,bd⟩:=x
 rw[gI] at hat
 have hP:rR p (.mk tk tn ts' tts) i=(decide (s'=ts')&&decide ((ts.length:Int)=(tts.length:Int))):=by unfold rR;rw[hx];try rfl
 rw[hP] at hst
 have hpr:=fun st=>aBB k n s' ts st
 have a1Q:eN prog .eql 219 (.agg [.str s',.int .i64 (ts.length:Int)]) (.agg [.str ts',.int .i64 (tts.length:Int)])=some (.bool (decide (s'=ts')&&decide ((ts.length:Int)=(tts.length:Int)))):=by
  have h:M4 prog 219=true:=by kernel_rfl
  simp only[eN,h,and_self,fS]
 simp only[a8] at hpr
 simp -implicitDefEqProofs only[bR,hat,aA,↓aS,seval,KQ]
 refine wP [(0,1),(1,2),(2,2),(3,2),(4,1)] [0,1,2,3,4] mixed ?_
 simp -implicitDefEqProofs only[aA,seval,KQ]
 refine j6 (hpr _) ?_
 simp -implicitDefEqProofs only[a1Q,aA,seval,KQ]
 refine aQ (fun h2=>?_) (fun h2=>?_)
 · rw[aH h2] at hst
   simp -implicitDefEqProofs only[aA,seval,KQ]
   refine eE dT fJ fK rfl rfl (fL rfl rfl) (aPL _) hb (by simp only[aF,aT,aX];omega) (by simp only[aF,aT,aX];omega) (fun b' hb'=>?_)
   rw[show ∀l:List Nat,l.map nv++ [AV.int .i64 (i:Int)]=(l++ [i]).map nv from fun l=>by simp [nv],←hst] at hb' ⊢
   simp -implicitDefEqProofs only[hw,aA,seval]
   exact⟨(),b',hb',aP.mk (by simp -implicitDefEqProofs only[aA,seval])⟩
 · rw[aE (by rw[h2];simp),iV] at hst
   rw[←hst] at hb ⊢
   simp -implicitDefEqProofs only[hw,aA,seval]
   exact⟨(),b,hb,aP.mk (by simp -implicitDefEqProofs only[aA,seval])⟩
def sW:IC→AV
 | ⟨.mk k n s ts,node,rest,list,fT,taken⟩=>.agg [.int .i64 k,.int .i64 n,.str s,.slice (ts.map Tm.av),.int .i64 (node:Int),eY rest,.slice (list.map nv),.int .i64 (fT:Int),.int .i64 (taken:Int)]
theorem aOV(k n:Int)(s:ByteArray)(ts:List Tm)(node:Nat)(rest:List IG)(list:List Nat)(fT taken:Nat):sW ⟨.mk k n s ts,node,rest,list,fT,taken⟩=.agg [.int .i64 k,.int .i64 n,.str s,.slice (ts.map Tm.av),.int .i64 (node:Int),eY rest,.slice (list.map nv),.int .i64 (fT:Int),.int .i64 (taken:Int)]:=rfl
theorem a3F(c:IC):(sW c).width=9:=by obtain⟨⟨k,n,s,ts⟩,_,_,_,_,_⟩:=c;rfl
theorem VA(l:List IC):∀e∈l.map sW,e.width=9:=by intro e he;simp only[cY] at he;obtain⟨t,_,rfl⟩:=he;exact a3F t
theorem a3E(c:IC):(sW c).cells.all AV.storable=true:=by
 obtain⟨⟨k,n,s,ts⟩,_,rest,_,_,_⟩:=c
 rw[aOV]
 have:=(qQ rest).2.2.2.2.1
 rw[eM]
 intro e he
 simp only[AV.cells,dB,dV,eA] at he
 rcases he with rfl | rfl | rfl | rfl | rfl | rfl | rfl | rfl | rfl<;>first | rfl | exact this
def jC(c:Nat)(p:List Cl)(q:List Tm)(idx:Bool)(fuel used fresh:Int)(gl qc qn:AV)(mx:Int):List AV:=
 [.ptr c 0,.slice (p.map a9),.slice (q.map Tm.av),.bool idx,.bool false,.int .i64 fuel,.int .i64 used,.int .i64 fresh,gl,qc,qn,.int .i64 mx]
def kD(S c m:Nat)(qt qc qn:AV):List Nat:=[S,c,m]++dU qt++d5 qc++d5 qn
theorem a68(q:AV):dU q=d5 q:=by cases q<;>rfl
theorem VV(q:AV):(d5 q).Nodup:=by cases q<;>simp [d5]
structure dO (st0 st:aB) (S c m:Nat) (qt qc qn:AV) (p:List Cl) (q:List Tm) (idx:Bool) (fuel used mx:Int) (nd:List AV) (i:IS):Prop where
 cell:st S=some (.cells (jC c p q idx fuel used i.fresh (eY i.goals) qc qn mx))
 sto:gX st c m qt i.σ i.tr
 acC:kE st 9 qc (i.chs.map sW)
 acN:kE st 6 qn nd
 ndl:nd.length=i.nn
 ndw:∀e∈nd,e.width=6
 dis:(kD S c m qt qc qn).Nodup
 new:∀b∈kD S c m qt qc qn,st0 b=none
 a7:∀b o,st0 b=some o→st b=some o
theorem eO{b S c m:Nat}{qt qc qn:AV}:b∈kD S c m qt qc qn↔b=S∨b=c∨b=m∨b∈dU qt∨b∈d5 qc∨b∈d5 qn:=by
 simp only[kD,eK,dB,dV,eA,or_assoc]
section
variable {st0 st:aB} {S c m:Nat} {qt qc qn:AV} {p:List Cl} {q:List Tm} {idx:Bool} {fuel used mx:Int} {nd:List AV} {i:IS}
theorem dO.held(h:dO st0 st S c m qt qc qn p q idx fuel used mx nd i):∀b∈kD S c m qt qc qn,st b≠none:=fun b hb=>by
 rcases eO.1 hb with rfl | rfl | rfl | hb | hb | hb
 · rw[h.cell];simp
 · rw[h.sto.sub.cells];simp
 · rw[h.sto.sub.map];simp
 · obtain⟨cs,e⟩:=h.sto.KK b hb;rw[e];simp
 · obtain⟨cs,e⟩:=h.acC.some b hb;rw[e];simp
 · obtain⟨cs,e⟩:=h.acN.some b hb;rw[e];simp
theorem dO.xF(h:dO st0 st S c m qt qc qn p q idx fuel used mx nd i):aL st st0:=fun b=>by
 refine⟨fun e=>?_,h.a7 b⟩
 cases hb:st0 b with
 | none=>rfl
 | some o=>rw[h.a7 b o hb] at e;cases e
theorem dO.aNI(h:dO st0 st S c m qt qc qn p q idx fuel used mx nd i){b:Nat}(hb:st b=none):st0 b=none:=(h.xF b).1 hb
theorem dO.parts(h:dO st0 st S c m qt qc qn p q idx fuel used mx nd i):S≠c∧S≠m∧c≠m∧S∉dU qt∧S∉d5 qc∧S∉d5 qn∧c∉dU qt∧c∉d5 qc∧c∉d5 qn∧m∉dU qt∧m∉d5 qc∧m∉d5 qn∧(∀b∈dU qt,b∉d5 qc∧b∉d5 qn)∧∀b∈d5 qc,b∉d5 qn:=by
 have hd:=h.dis
 simp only[kD,n6,HA,dB,dV,eA,oG,eK] at hd
 obtain⟨⟨⟨⟨⟨h1,h2⟩,h3,_⟩,h4,h5⟩,h6,h7⟩,h8,h9⟩:=hd
 refine⟨h1,h2,h3,fun hb=>h5 _ (.inl rfl) _ hb rfl,fun hb=>h7 _ (.inl (.inl rfl)) _ hb rfl,fun hb=>h9 _ (.inl (.inl (.inl rfl))) _ hb rfl,
  fun hb=>h5 _ (.inr (.inl rfl)) _ hb rfl,fun hb=>h7 _ (.inl (.inr (.inl rfl))) _ hb rfl,fun hb=>h9 _ (.inl (.inl (.inr (.inl rfl)))) _ hb rfl,
  fun hb=>h5 _ (.inr (.inr rfl)) _ hb rfl,fun hb=>h7 _ (.inl (.inr (.inr rfl))) _ hb rfl,fun hb=>h9 _ (.inl (.inl (.inr (.inr rfl)))) _ hb rfl,
  fun b hb=>⟨fun h'=>h7 b (.inr hb) b h' rfl,fun h'=>h9 b (.inl (.inr hb)) b h' rfl⟩,fun b hb h'=>h9 b (.inr hb) b h' rfl⟩
theorem VM{X A A' Y:List Nat}(h:(X++A++Y).Nodup)(hA:A'.Nodup)(hn:∀b∈A',b∈A∨b∉X++A++Y):(X++A'++Y).Nodup:=by
 simp only[n6,eK] at h ⊢
 obtain⟨⟨hX,hA0,hXA⟩,hY,hXY⟩:=h
 refine⟨⟨hX,hA,fun a ha b hb e=>?_⟩,hY,fun a ha b hb e=>?_⟩
 · subst e
   rcases hn a hb with h | h
   · exact hXA a ha a h rfl
   · simp only[eK,oG] at h;exact h.1.1 ha
 · subst e
   rcases ha with ha | ha
   · exact hXY a (.inl ha) a hb rfl
   · rcases hn a ha with h | h
     · exact hXY a (.inr h) a hb rfl
     · simp only[eK,oG] at h;exact h.2 hb
theorem dO.go{st':aB}{qt' qc' qn':AV}{fuel' used' mx':Int}{nd':List AV}{i':IS}(h:dO st0 st S c m qt qc qn p q idx fuel used mx nd i)
 (cell:st' S=some (.cells (jC c p q idx fuel' used' i'.fresh (eY i'.goals) qc' qn' mx'))) (sto:gX st' c m qt' i'.σ i'.tr) (acC:kE st' 9 qc' (i'.chs.map sW)) (acN:kE st' 6 qn' nd') (ndl:nd'.length=i'.nn) (ndw:∀e∈nd',e.width=6)
 (dis:(kD S c m qt' qc' qn').Nodup) (new:∀b∈kD S c m qt' qc' qn',b∈kD S c m qt qc qn∨st b=none) (frame:∀b o,st b=some o→b∉kD S c m qt qc qn→st' b=some o) :
 dO st0 st' S c m qt' qc' qn' p q idx fuel' used' mx' nd' i':=
 ⟨cell,sto,acC,acN,ndl,ndw,dis,fun b hb=>by
  rcases new b hb with h1 | h1
  · exact h.new b h1
  · exact h.aNI h1,fun b o hb=>frame b o (h.a7 b o hb) fun hm=>by rw[h.new b hm] at hb;cases hb⟩
theorem dO.put{fuel' used' mx':Int}{gl:List IG}{F:Nat}{cs:List AV}(h:dO st0 st S c m qt qc qn p q idx fuel used mx nd i)(hcs:cs=jC c p q idx fuel' used' F (eY gl) qc qn mx') :
 dO st0 (st.aC S (.cells cs)) S c m qt qc qn p q idx fuel' used' mx' nd { i with goals:=gl,fresh:=F }:=by
 obtain⟨h1,h2,h3,h4,h5,h6,_⟩:=h.parts
 subst hcs
 refine h.go (aB.aJ _ _ _) (h.sto.aC h1 h2 h4) (h.acC.a7 fun b hb=>aB.aG _ _ (by rintro rfl;exact h5 hb)) (h.acN.a7 fun b hb=>aB.aG _ _ (by rintro rfl;exact h6 hb)) h.ndl h.ndw h.dis (fun b hb=>.inl hb) fun b o hb hn=>?_
 rw[aB.aG _ _ (by rintro rfl;exact hn (eO.2 (.inl rfl)))]
 exact hb
theorem dO.XO{st':aB}{qt':AV}{σ':Sub}{tr':List Int}(h:dO st0 st S c m qt qc qn p q idx fuel used mx nd i)(hS:gX st' c m qt' σ' tr')(hf:∀b o,st b=some o→b≠c→b≠m→b∉dU qt→st' b=some o)(hn:∀b∈dU qt',b∈dU qt∨st b=none) :
 dO st0 st' S c m qt' qc qn p q idx fuel used mx nd { i with σ:=σ',tr:=tr' }:=by
 obtain⟨h1,h2,h3,h4,h5,h6,h7,h8,h9,h10,h11,h12,h13,h14⟩:=h.parts
 have hC:∀b∈d5 qc,st' b=st b:=fun b hb=>by
  obtain⟨cs,e⟩:=h.acC.some b hb
  rw[e,hf b _ e (by rintro rfl;exact h8 hb) (by rintro rfl;exact h11 hb) (fun hb'=>(h13 b hb').1 hb)]
 have hN:∀b∈d5 qn,st' b=st b:=fun b hb=>by
  obtain⟨cs,e⟩:=h.acN.some b hb
  rw[e,hf b _ e (by rintro rfl;exact h9 hb) (by rintro rfl;exact h12 hb) (fun hb'=>(h13 b hb').2 hb)]
 refine h.go (hf S _ h.cell h1 h2 h4) hS (h.acC.a7 hC) (h.acN.a7 hN) h.ndl h.ndw ?_ (fun b hb=>?_) (fun b o hb hn'=>?_)
 · have hd:=h.dis
   unfold kD at hd ⊢
   rw[nE] at hd ⊢
   refine VM hd (by rw[a68];exact VV _) fun b hb=>?_
   rcases hn b hb with h' | h'
   · exact .inl h'
   · refine .inr fun hm=>h.held b ?_ h'
     unfold kD;rw[nE];exact hm
 · rcases eO.1 hb with rfl | rfl | rfl | hb | hb | hb
   · exact .inl (eO.2 (.inl rfl))
   · exact .inl (eO.2 (.inr (.inl rfl)))
   · exact .inl (eO.2 (.inr (.inr (.inl rfl))))
   · rcases hn b hb with h' | h'
     · exact .inl (eO.2 (.inr (.inr (.inr (.inl h')))))
     · exact .inr h'
   · exact .inl (eO.2 (.inr (.inr (.inr (.inr (.inl hb))))))
   · exact .inl (eO.2 (.inr (.inr (.inr (.inr (.inr hb))))))
 · have:=fun x=>hn' (eO.2 x)
   exact hf b o hb (by rintro rfl;exact this (.inr (.inl rfl))) (by rintro rfl;exact this (.inr (.inr (.inl rfl)))) fun hb'=>this (.inr (.inr (.inr (.inl hb'))))
theorem dO.post{st':aB}{σ':Sub}{tr':List Int}(h:dO st0 st S c m qt qc qn p q idx fuel used mx nd i)(hP:wS c m st qt σ' tr' st'):∃qt',dO st0 st' S c m qt' qc qn p q idx fuel used mx nd { i with σ:=σ',tr:=tr' }:=by
 obtain⟨q',hS,hQ⟩:=hP
 exact⟨q',h.XO hS (fun b o hb h1 h2 h3=>hQ.frame b o hb h1 h2 h3) hQ.fresh⟩
end
theorem gX.FS{st st':aB}{c m:Nat}{q:AV}{σ:Sub}{tr:List Int}(h:gX st c m q σ tr)(hc:st' c=st c)(hm:st' m=st m)(ht:∀b∈dU q,st' b=st b):gX st' c m q σ tr:=by
 refine⟨⟨by rw[hc];exact h.sub.cells,by rw[hm];exact h.sub.map⟩,?_,h.apart⟩
 rcases h.fT with h1 | ⟨b,cs,h1,h2,h3⟩
 · exact .inl h1
 · exact .inr ⟨b,cs,h1,by rw[ht b (by rw[h1];simp [dU])];exact h2,h3⟩
section
variable {st0 st:aB} {S c m:Nat} {qt qc qn:AV} {p:List Cl} {q:List Tm} {idx:Bool} {fuel used mx:Int} {nd:List AV} {i:IS}
theorem dO.a5D{st':aB}{qc':AV}{aBQ:List IC}{cs:List AV}(h:dO st0 st S c m qt qc qn p q idx fuel used mx nd i)(pW:kE st' 9 qc' (aBQ.map sW))(hf:∀y,y∉d5 qc→y∉d5 qc'→st' y=st y)(hn:∀y∈d5 qc',y∈d5 qc∨st y=none)
 (hcs:cs=jC c p q idx fuel used i.fresh (eY i.goals) qc' qn mx):dO st0 (st'.aC S (.cells cs)) S c m qt qc' qn p q idx fuel used mx nd { i with chs:=aBQ }:=by
 obtain⟨h1,h2,h3,h4,h5,h6,h7,h8,h9,h10,h11,h12,h13,h14⟩:=h.parts
 have same:∀b,st b≠none→b∉d5 qc→st' b=st b:=fun b hb hq=>hf b hq fun hq'=>by
  rcases hn b hq' with h' | h'
  · exact hq h'
  · exact hb h'
 have hS:S∉d5 qc':=fun hb=>by
  rcases hn S hb with h' | h'
  · exact h5 h'
  · rw[h.cell] at h';cases h'
 subst hcs
 have held:=fun b x=>h.held b (eO.2 x)
 refine h.go (aB.aJ _ _ _) (h.sto.FS ?_ ?_ fun b hb=>?_) (pW.a7 fun b hb=>aB.aG _ _ (by rintro rfl;exact hS hb)) (h.acN.a7 fun b hb=>?_) h.ndl h.ndw ?_ (fun b hb=>?_) fun b o hb hn'=>?_
 · rw[aB.aG _ _ (dG h1)];exact same c (held c (.inr (.inl rfl))) h8
 · rw[aB.aG _ _ (dG h2)];exact same m (held m (.inr (.inr (.inl rfl)))) h11
 · rw[aB.aG _ _ (by rintro rfl;exact h4 hb)];exact same b (held b (.inr (.inr (.inr (.inl hb))))) (h13 b hb).1
 · rw[aB.aG _ _ (by rintro rfl;exact h6 hb)];exact same b (held b (.inr (.inr (.inr (.inr (.inr hb)))))) fun h'=>h14 b h' hb
 · have hd:=h.dis
   unfold kD at hd ⊢
   refine VM hd (VV _) fun b hb=>?_
   rcases hn b hb with h' | h'
   · exact .inl h'
   · refine .inr fun hm=>h.held b ?_ h'
     unfold kD;exact hm
 · rcases eO.1 hb with rfl | rfl | rfl | hb | hb | hb
   · exact .inl (eO.2 (.inl rfl))
   · exact .inl (eO.2 (.inr (.inl rfl)))
   · exact .inl (eO.2 (.inr (.inr (.inl rfl))))
   · exact .inl (eO.2 (.inr (.inr (.inr (.inl hb)))))
   · rcases hn b hb with h' | h'
     · exact .inl (eO.2 (.inr (.inr (.inr (.inr (.inl h'))))))
     · exact .inr h'
   · exact .inl (eO.2 (.inr (.inr (.inr (.inr (.inr hb))))))
 · have hno:=fun x=>hn' (eO.2 x)
   rw[aB.aG _ _ (by rintro rfl;exact hno (.inl rfl)),same b (by rw[hb];simp) fun h'=>hno (.inr (.inr (.inr (.inr (.inl h')))))]
   exact hb
theorem dO.a5E{st':aB}{qn':AV}{nd':List AV}{n':Nat}{cs:List AV}(h:dO st0 st S c m qt qc qn p q idx fuel used mx nd i)(pW:kE st' 6 qn' nd')(hl:nd'.length=n')(hw:∀e∈nd',e.width=6)(hf:∀y,y∉d5 qn→y∉d5 qn'→st' y=st y)(hn:∀y∈d5 qn',y∈d5 qn∨st y=none)
 (hcs:cs=jC c p q idx fuel used i.fresh (eY i.goals) qc qn' mx):dO st0 (st'.aC S (.cells cs)) S c m qt qc qn' p q idx fuel used mx nd' { i with nn:=n' }:=by
 obtain⟨h1,h2,h3,h4,h5,h6,h7,h8,h9,h10,h11,h12,h13,h14⟩:=h.parts
 have same:∀b,st b≠none→b∉d5 qn→st' b=st b:=fun b hb hq=>hf b hq fun hq'=>by
  rcases hn b hq' with h' | h'
  · exact hq h'
  · exact hb h'
 have hS:S∉d5 qn':=fun hb=>by
  rcases hn S hb with h' | h'
  · exact h6 h'
  · rw[h.cell] at h';cases h'
 subst hcs
 have held:=fun b x=>h.held b (eO.2 x)
 refine h.go (aB.aJ _ _ _) (h.sto.FS ?_ ?_ fun b hb=>?_) (h.acC.a7 fun b hb=>?_) (pW.a7 fun b hb=>aB.aG _ _ (by rintro rfl;exact hS hb)) hl hw ?_ (fun b hb=>?_) fun b o hb hn'=>?_
 · rw[aB.aG _ _ (dG h1)];exact same c (held c (.inr (.inl rfl))) h9
 · rw[aB.aG _ _ (dG h2)];exact same m (held m (.inr (.inr (.inl rfl)))) h12
 · rw[aB.aG _ _ (by rintro rfl;exact h4 hb)];exact same b (held b (.inr (.inr (.inr (.inl hb))))) (h13 b hb).2
 · rw[aB.aG _ _ (by rintro rfl;exact h5 hb)];exact same b (held b (.inr (.inr (.inr (.inr (.inl hb)))))) (h14 b hb)
 · have hd:=h.dis
   unfold kD at hd ⊢
   have:=VM (X:=[S,c,m]++dU qt++d5 qc) (A:=d5 qn) (A':=d5 qn') (Y:=[]) (by rw[iV];exact hd) (VV _) fun b hb=>by
    rcases hn b hb with h' | h'
    · exact .inl h'
    · refine .inr fun hm=>h.held b ?_ h'
      rw[iV] at hm
      unfold kD;exact hm
   rwa [iV] at this
 · rcases eO.1 hb with rfl | rfl | rfl | hb | hb | hb
   · exact .inl (eO.2 (.inl rfl))
   · exact .inl (eO.2 (.inr (.inl rfl)))
   · exact .inl (eO.2 (.inr (.inr (.inl rfl))))
   · exact .inl (eO.2 (.inr (.inr (.inr (.inl hb)))))
   · exact .inl (eO.2 (.inr (.inr (.inr (.inr (.inl hb))))))
   · rcases hn b hb with h' | h'
     · exact .inl (eO.2 (.inr (.inr (.inr (.inr (.inr h'))))))
     · exact .inr h'
 · have hno:=fun x=>hn' (eO.2 x)
   rw[aB.aG _ _ (by rintro rfl;exact hno (.inl rfl)),same b (by rw[hb];simp) fun h'=>hno (.inr (.inr (.inr (.inr (.inr h')))))]
   exact hb
theorem dO.nodes{k:Nat}(h:dO st0 st S c m qt qc qn p q idx fuel used mx nd i)(hk:k<i.nn):∃b,qn=.mslice b 0 nd.length 6:=by
 have hl:=h.ndl
 rcases h.acN with ⟨_,e⟩ | ⟨b,cs,e,_⟩
 · subst e;simp at hl;omega
 · exact⟨b,e⟩
theorem dO.nodeAt{b n:Nat}(h:dO st0 st S c m qt qc (.mslice b 0 n 6) p q idx fuel used mx nd i):∃cs,st b=some (.cells cs)∧nd.length*6≤cs.length:=by
 rcases h.acN with ⟨e,_⟩ | ⟨b',cs,e,h2,_,h4⟩
 · cases e
 · cases e;exact⟨cs,h2,h4⟩
theorem aQS:∀(n:Nat) (cs:List AV),cs.length=n*6→∃nd:List AV,nd.length=n∧(∀e∈nd,e.width=6)∧nd.flatMap AV.cells=cs
 | 0,cs,h=>⟨[],rfl,by simp,by have:cs= []:=sI (by simpa using h);subst this;rfl⟩
 | n+1,cs,h=>by
  obtain⟨nd,h1,h2,h3⟩:=aQS n (cs.drop 6) (by rw[lO,h];omega)
  refine⟨.agg (cs.take 6)::nd,by simp [h1],fun e he=>?_,?_⟩
  · rcases dB.1 he with rfl | he
    · show(cs.take 6).length=6
      rw[eC,h];omega
    · exact h2 e he
  · rw[vL,h3]
    exact tT 6 cs
theorem dO.aQN{b k:Nat}{cs:List AV}{x:AV}(h:dO st0 st S c m qt qc qn p q idx fuel used mx nd i)(hq:qn=.mslice b 0 nd.length 6)(hb:st b=some (.cells cs))(hk:k<nd.length*6) :
 ∃nd',dO st0 (st.aC b (.cells (aK cs k [x]))) S c m qt qc qn p q idx fuel used mx nd' i:=by
 obtain⟨h1,h2,h3,h4,h5,h6,h7,h8,h9,h10,h11,h12,h13,h14⟩:=h.parts
 have hbq:b∈d5 qn:=by rw[hq];simp [d5]
 have hne:∀a,a∉d5 qn→st.aC b (.cells (aK cs k [x])) a=st a:=fun a ha=>aB.aG _ _ (by rintro rfl;exact ha hbq)
 have hcl:nd.length*6≤cs.length:=by
  rcases h.acN with ⟨e,_⟩ | ⟨b',cs',e1,e2,e3,e4⟩
  · rw[hq] at e;cases e
  · rw[hq] at e1
    cases e1
    rw[hb] at e2;cases e2
    exact e4
 have hlen:(aK cs k [x]).length=cs.length:=by
  simp only[aK,dW,eC,lO,aT,aX]
  omega
 obtain⟨nd',n1,n2,n3⟩:=aQS nd.length ((aK cs k [x]).take (nd.length*6)) (by rw[eC,hlen];omega)
 refine⟨nd',h.go (by rw[hne S h6];exact h.cell) (h.sto.FS (hne c h9) (hne m h12) fun b hb=>hne b (h13 b hb).2) (h.acC.a7 fun b hb=>hne b (h14 b hb)) (.inr ⟨b,_,by rw[hq,n1],aB.aJ _ _ _,by rw[n1,n3],by rw[n1,hlen];exact hcl⟩) (by rw[n1];exact h.ndl) n2 h.dis (fun b hb=>.inl hb) fun a o ha hn=>?_⟩
 rw[hne a fun h'=>hn (eO.2 (.inr (.inr (.inr (.inr (.inr h'))))))]
 exact ha
end
theorem aQT{φ:AF}{t:TypeId}{ag:Bool}{w d k:Nat}{st:aB}{qc:AV}{l:List AV}(hI:eI prog t=some (ag,w))(hA:kE st w qc l)(h:φ d=.int .i64 (k:Int))(hk:k≤l.length):fY prog φ t qc none (some (.tmp d)) none=some (zS k qc):=by
 rcases hA with ⟨rfl,rfl⟩ | ⟨b,cs,rfl,_⟩
 · have h0:k=0:=by simpa using hk
   subst h0
   exact aQU hI h
 · exact WN hI h hk
section
variable {st0 st:aB} {S c m:Nat} {qt qc qn:AV} {p:List Cl} {q:List Tm} {idx:Bool} {fuel used mx:Int} {nd:List AV} {i:IS}
theorem dO.aBV{k:Nat}{cs:List AV}{gl:List IG}(h:dO st0 st S c m qt qc qn p q idx fuel used mx nd i)(hk:k≤i.chs.length)(hcs:cs=jC c p q idx fuel used i.fresh (eY gl) (zS k qc) qn mx) :
 dO st0 (st.aC S (.cells cs)) S c m qt (zS k qc) qn p q idx fuel used mx nd { i with goals:=gl,chs:=i.chs.take k }:=by
 obtain⟨h1,h2,h3,h4,h5,h6,_⟩:=h.parts
 subst hcs
 have hA:=h.acC.take (k:=k) (by rw[aF];exact hk) (VA _)
 rw[←G9] at hA
 refine h.go (aB.aJ _ _ _) (h.sto.aC h1 h2 h4) (hA.a7 fun b hb=>aB.aG _ _ (by rw[F9] at hb;rintro rfl;exact h5 hb)) (h.acN.a7 fun b hb=>aB.aG _ _ (by rintro rfl;exact h6 hb)) h.ndl h.ndw (by unfold kD;rw[F9];exact h.dis) (fun b hb=>.inl (by unfold kD at hb;rw[F9] at hb;exact hb)) fun b o hb hn=>?_
 rw[aB.aG _ _ (by rintro rfl;exact hn (eO.2 (.inl rfl)))]
 exact hb
theorem dO.aY5{k:Nat}{cs:List AV}(h:dO st0 st S c m qt qc qn p q idx fuel used mx nd i)(hk:k≤i.nn)(hcs:cs=jC c p q idx fuel used i.fresh (eY i.goals) qc (zS k qn) mx) :
 dO st0 (st.aC S (.cells cs)) S c m qt qc (zS k qn) p q idx fuel used mx (nd.take k) { i with nn:=k }:=by
 obtain⟨h1,h2,h3,h4,h5,h6,_⟩:=h.parts
 subst hcs
 have hnl:=h.ndl
 have hA:=h.acN.take (k:=k) (by rw[hnl];exact hk) h.ndw
 refine h.go (aB.aJ _ _ _) (h.sto.aC h1 h2 h4) (h.acC.a7 fun b hb=>aB.aG _ _ (by rintro rfl;exact h5 hb)) (hA.a7 fun b hb=>aB.aG _ _ (by rw[F9] at hb;rintro rfl;exact h6 hb)) (by rw[eC,hnl];simp only;omega) (fun e he=>h.ndw e (mJ he)) (by unfold kD;rw[F9];exact h.dis) (fun b hb=>.inl (by unfold kD at hb;rw[F9] at hb;exact hb)) fun b o hb hn=>?_
 rw[aB.aG _ _ (by rintro rfl;exact hn (eO.2 (.inl rfl)))]
 exact hb
end
def nZ(c m:Nat)(st:aB)(q:AV)(tr:List Int)(x:Int×Sub×List Int)(r:AV)(st':aB):Prop:=r=.int .i64 x.1∧wS c m st q x.2.1 (tr++x.2.2) st'
theorem nZ.same{c m:Nat}{st:aB}{q:AV}{σ:Sub}{tr:List Int}(h:gX st c m q σ tr){r:AV}(k:Int)(hr:r=.int .i64 k):nZ c m st q tr (k,σ,[]) r st:=⟨hr,q,by rw[iV];exact h,nJ.refl _ _ _ _⟩
theorem gX.aST{P:Program}{t e:TypeId}{st:aB}{c m:Nat}{q:AV}{σ:Sub}{tr:List Int}(h:gX st c m q σ tr)(hu:P.underlying t=some (.slice e)):mO P t q=some (.int .i64 (tr.length:Int)):=by
 rcases h.fT with ⟨rfl,rfl⟩ | ⟨b,cs,rfl,_⟩<;>simp only[mO,hu,aX]
theorem IA{N:Nat}{σ:Sub}(hg:cX σ)(ho:c9 (bP N) σ)(a b:Tm)(ha:bP N a)(hb:bP N b)(c m:Nat)(q:AV)(tr:List Int)(st:aB)(hS:gX st c m q σ tr)(hl:tr.length+N≤1099511627776) :
 aD prog 228 [.ptr c 0,a.av,b.av] st (fun r st'=>r=.bool (jZ σ a b).1∧wS c m st q (jZ σ a b).2.1 (tr++(jZ σ a b).2.2) st'):=by
 obtain⟨r,σ',tr',hU⟩:=vD hg ho ha hb
 obtain⟨g,pD⟩:=hU.run
 have hlen:=FZ hU.oS.nodup hU.gS
 rw[hU.eq]
 exact aBM g σ a b r σ' tr' hg (ho.imp fun t ht=>ht.1.small) ha.1.small hb.1.small pD c m q tr st hS (by omega)
abbrev mG:=zi tI_3 (zi zI_3 (zi aU (zi tI_4 (zi zI_4 (zi cI (zi tI_9 (zi zI_9 (zi cT (zi tI_28 (zi zI_28 (zi aO (zi bF (zi bG (zi bZ (zi tI_40 (zi zI_40 (zi dT (zi fJ (zi fK (zi fU (zi tI_52 (zi zI_52 (zi bU (zi bV (zi bX (zi bY (zi bT (zi tI_178 (zi zI_178 (zi tI_209 (zi zI_209 (zi FA (zi FB EW)))))))))))))))))))))))))))))))))
theorem aV4{N:Nat}{σ:Sub}(hg:cX σ)(ho:c9 (bP N) σ)(n:Int)(s:ByteArray)(ks:List Tm)(hb:isBuiltin s (ks.length:Int)=true)(hv:∀x∈ks,bP N x)(c m:Nat)(q:AV)(tr:List Int)(st:aB)(hS:gX st c m q σ tr)(hl:tr.length+N≤1099511627776) :
 aD prog 186 [.ptr c 0,(Tm.mk 3 n s ks).av] st (nZ c m st q tr (dI σ s ks)):=by
 have UG:=aWB 3 n s ks
 have hcs:=ZY hb
 have FN:=fun x y (hxy:ks= [x,y]) h=>aWA n s x y h (hv x (by simp [hxy])).1 (hv y (by simp [hxy])).1
 simp only[a8] at UG FN ⊢
 refine wF [1000000] 2 func186 ntmps186 rfl rfl ?_
 intro _
 simp -implicitDefEqProofs only[aA,seval,mG]
 refine(UG _).to ?_
 simp -implicitDefEqProofs only[aA,seval]
 refine aQ (fun h=>?_) (fun h=>?_)
 · have h':ks.length=2∧gS sR s=true:=by simp at h;exact⟨by omega,h.2⟩
   obtain⟨x,y,rfl⟩:=wB h'.1
   have e:dI σ s [x,y]=(zR s x y,σ,[]):=by simp only[dI];rw[aH h'.2]
   rw[e]
   have hc:=FN x y rfl h'.2
   simp only[bB,aW] at hc
   simp -implicitDefEqProofs only[aA,↓aS,seval,mG]
   refine(hc _).to ?_
   simp -implicitDefEqProofs only[aA,seval]
   exact nZ.same hS _ rfl
 have hnc:ks.length=2→gS sR s=false:=fun h2=>by simpa [h2] using h
 clear UG FN h
 simp -implicitDefEqProofs only[aA,seval,mG]
 refine aQ (fun h=>?_) (fun h=>?_)
 · have hs:s=⟨#[116,114,117,101]⟩:=by simpa using h
   have hk:=N9 (ts:=ks) (by subst hs;simpa [isBuiltin] using hb)
   subst hk
   simp -implicitDefEqProofs only[aA,seval]
   exact nZ.same hS _ (by simp [jO,hs])
 have ht:s≠⟨#[116,114,117,101]⟩:=by simpa using h
 simp -implicitDefEqProofs only[aA,seval]
 refine aQ (fun h=>?_) (fun h=>?_)
 · have hs:s=⟨#[102,97,105,108]⟩:=by simpa using h
   have hk:=N9 (ts:=ks) (by subst hs;simpa [isBuiltin] using hb)
   subst hk
   simp -implicitDefEqProofs only[aA,seval]
   exact nZ.same hS _ (by simp [jO,hs])
 have hf:s≠⟨#[102,97,105,108]⟩:=by simpa using h
 simp -implicitDefEqProofs only[aA,seval]
 refine aQ (fun h=>?_) (fun h=>?_)
 · have hs:s=⟨#[61]⟩:=by simpa using h
   obtain⟨x,y,rfl⟩:=wB (ts:=ks) (by subst hs;simp [isBuiltin] at hb;omega)
   have e:dI σ s [x,y]=tN σ x y:=by simp only[dI];rw[aE (by rw[hnc rfl];simp),aH hs]
   rw[e]
   have eG:dN prog 28 (.slice [x.av,y.av]) (.int .i64 0)=some (.pptr x.av):=bQ (av:=Tm.av) (l:=[x,y]) (i:=0) aO rfl (aM x)
   have fR:dN prog 28 (.slice [x.av,y.av]) (.int .i64 1)=some (.pptr y.av):=bQ (av:=Tm.av) (l:=[x,y]) (i:=1) aO rfl (aM y)
   simp -implicitDefEqProofs only[aA,↓aS,seval]
   refine wX [(0,1),(1,1),(2,1),(3,1),(4,1),(5,1),(6,1),(7,0),(8,0),(9,1)] [0,1,2,3,4,5,6,9] dQ mixed rfl dY ?_
   simp -implicitDefEqProofs only[eG,fR,aY,aM,aA,seval,mG]
   refine(IA hg ho x y (hv x (by simp)) (hv y (by simp)) c m q tr _ hS hl).mono ?_
   rintro _ s2 ⟨rfl,hP⟩
   simp -implicitDefEqProofs only[aA,seval]
   refine⟨dY,?_⟩
   refine(qK _ _).to ?_
   simp -implicitDefEqProofs only[aA,seval]
   exact⟨dY,rfl,hP⟩
 have he:s≠⟨#[61]⟩:=by simpa using h
 simp -implicitDefEqProofs only[aA,seval]
 refine aQ (fun h=>?_) (fun h=>?_)
 · have hs:s=⟨#[92,61]⟩:=by simpa using h
   obtain⟨x,y,rfl⟩:=wB (ts:=ks) (by subst hs;simp [isBuiltin] at hb;omega)
   have e:dI σ s [x,y]=(jO (!(jZ σ x y).1),σ,[]):=by simp only[dI];rw[aE (by rw[hnc rfl];simp),aE he,aH hs]
   rw[e]
   have e1:=hS.sub.cells
   have hql:=hS.aST fU
   obtain⟨hqa,hqw,hqj,hqc,hqs⟩:=hS.shape
   have eG:dN prog 28 (.slice [x.av,y.av]) (.int .i64 0)=some (.pptr x.av):=bQ (av:=Tm.av) (l:=[x,y]) (i:=0) aO rfl (aM x)
   have fR:dN prog 28 (.slice [x.av,y.av]) (.int .i64 1)=some (.pptr y.av):=bQ (av:=Tm.av) (l:=[x,y]) (i:=1) aO rfl (aM y)
   simp -implicitDefEqProofs only[e1,hql,hqa,aA,↓aS,seval,mG]
   refine wX [(0,1),(1,1),(2,1),(3,1),(4,1),(5,1),(6,1),(7,0),(8,1)] [0,1,2,3,4,5,6,8] dQ mixed rfl dY ?_
   simp -implicitDefEqProofs only[eG,fR,aY,aM,aA,seval,mG]
   refine(IA hg ho x y (hv x (by simp)) (hv y (by simp)) c m q tr _ hS hl).mono ?_
   rintro _ s2 ⟨rfl,hP⟩
   obtain⟨r,σ',add,hU⟩:=vD hg ho (hv x (by simp)) (hv y (by simp))
   rw[hU.eq] at hP ⊢
   obtain⟨q',hS2,hQ2⟩:=hP
   have a03:=FZ hU.oS.nodup hU.gS
   simp -implicitDefEqProofs only[aA,seval]
   refine⟨dY,?_⟩
   refine(SL σ' (tr++add) tr.length (by simp) c m q' s2 hS2 (by rw[dW];omega)).mono ?_
   rintro _ s3 ⟨rfl,q2,hS3,hb3,hk3⟩
   rw[BE,HC,show σ'.out add=σ from funext fun n=>hU.out n] at hS3
   simp -implicitDefEqProofs only[aA,seval]
   refine(qK _ _).to ?_
   simp -implicitDefEqProofs only[aA,seval]
   refine⟨rfl,q2,by rw[iV];exact hS3,fun b o h h1 h2 h3=>hk3 b o (hQ2.frame b o h h1 h2 h3) h1 h2,fun b hb'=>hQ2.fresh b (hb3 b hb')⟩
 have hne:s≠⟨#[92,61]⟩:=by simpa using h
 simp -implicitDefEqProofs only[aA,seval]
 refine aQ (fun h=>?_) (fun h=>?_)
 · have hs:s=⟨#[61,61]⟩:=by simpa using h
   obtain⟨x,y,rfl⟩:=wB (ts:=ks) (by subst hs;simp [isBuiltin] at hb;omega)
   have e:dI σ s [x,y]=(jO (x.same y),σ,[]):=by simp only[dI];rw[aE (by rw[hnc rfl];simp),aE he,aE hne,aH hs]
   rw[e]
   have eG:dN prog 28 (.slice [x.av,y.av]) (.int .i64 0)=some (.pptr x.av):=bQ (av:=Tm.av) (l:=[x,y]) (i:=0) aO rfl (aM x)
   have fR:dN prog 28 (.slice [x.av,y.av]) (.int .i64 1)=some (.pptr y.av):=bQ (av:=Tm.av) (l:=[x,y]) (i:=1) aO rfl (aM y)
   simp -implicitDefEqProofs only[aA,↓aS,seval]
   refine L8 mixed (by decide +kernel) (by decide +kernel) ?_
   simp -implicitDefEqProofs only[eG,fR,aY,aM,aA,seval,mG]
   refine j6 (EY x y _) ?_
   simp -implicitDefEqProofs only[aA,seval]
   refine j6 (qK _ _) ?_
   simp -implicitDefEqProofs only[aA,seval]
   exact nZ.same hS _ rfl
 have hee:s≠⟨#[61,61]⟩:=by simpa using h
 simp -implicitDefEqProofs only[aA,seval]
 refine aQ (fun h=>?_) (fun h=>?_)
 · have hs:s=⟨#[105,115]⟩:=by simpa using h
   obtain⟨x,y,rfl⟩:=wB (ts:=ks) (by subst hs;simp [isBuiltin] at hb;omega)
   have e:dI σ s [x,y]=if y.ev.2≠0 then(y.ev.2,σ,[]) else tN σ x (pF y.ev.1):=by simp only[dI];rw[aE (by rw[hnc rfl];simp),aE he,aE hne,aE hee]
   rw[e]
   have hy:=hv y (by simp)
   have hin:=N6 (N:=N) (Tm.vY y hy.1)
   have har:=fun st=>MF y st hy.1
   generalize y.ev.1=a at *
   generalize y.ev.2=ca at *
   have eG:dN prog 28 (.slice [x.av,y.av]) (.int .i64 0)=some (.pptr x.av):=bQ (av:=Tm.av) (l:=[x,y]) (i:=0) aO rfl (aM x)
   have fR:dN prog 28 (.slice [x.av,y.av]) (.int .i64 1)=some (.pptr y.av):=bQ (av:=Tm.av) (l:=[x,y]) (i:=1) aO rfl (aM y)
   simp -implicitDefEqProofs only[fR,aY,aM,aA,↓aS,seval,mG]
   refine(har _).to ?_
   simp -implicitDefEqProofs only[aA,seval]
   refine aQ (fun h4=>?_) (fun h4=>?_)
   · simp -implicitDefEqProofs only[aA,seval]
     have h4':ca≠0:=by simpa using h4
     rw[aH h4']
     exact nZ.same hS _ rfl
   have h4':ca=0:=by simpa using h4
   subst h4'
   rw[aE (by simp)]
   simp -implicitDefEqProofs only[aA,seval]
   refine wX [(0,1),(1,1),(2,1),(3,1),(4,1),(5,0),(6,0),(7,0),(8,1)] [0,1,2,3,4,8] dQ mixed rfl dY ?_
   simp -implicitDefEqProofs only[eG,aY,aM,aA,seval,mG]
   refine(aYA a _).to ?_
   simp -implicitDefEqProofs only[aA,seval]
   refine⟨dY,?_⟩
   refine(IA hg ho x (pF a) (hv x (by simp)) hin c m q tr _ hS hl).mono ?_
   rintro _ s2 ⟨rfl,hP⟩
   simp -implicitDefEqProofs only[aA,seval]
   refine⟨dY,?_⟩
   refine(qK _ _).to ?_
   simp -implicitDefEqProofs only[aA,seval]
   exact⟨dY,rfl,hP⟩
 have his:s≠⟨#[105,115]⟩:=by simpa using h
 simp -implicitDefEqProofs only[aA,seval]
 refine aQ (fun h=>?_) (fun h=>?_)
 · have hs:s=⟨#[118,97,114]⟩:=by simpa using h
   obtain⟨x,rfl⟩:=JV (ts:=ks) (by subst hs;simp [isBuiltin] at hb;omega)
   have e:dI σ s [x]=(jO (uX s x),σ,[]):=rfl
   rw[e]
   subst hs
   obtain⟨xk,xn,xs,xt⟩:=x
   have eG:dN prog 28 (.slice [(Tm.mk xk xn xs xt).av]) (.int .i64 0)=some (.pptr (Tm.mk xk xn xs xt).av):=bQ (av:=Tm.av) (l:=[Tm.mk xk xn xs xt]) (i:=0) aO rfl (aM _)
   have eat:=H4 xk xn xs xt
   simp only[a8] at eG eat
   simp only[bB,aW,a8]
   simp -implicitDefEqProofs only[eG,aA,↓aS,seval,mG]
   refine(qK _ _).to ?_
   simp -implicitDefEqProofs only[aA,seval]
   exact nZ.same hS _ rfl
 have hva:s≠⟨#[118,97,114]⟩:=by simpa using h
 simp -implicitDefEqProofs only[aA,seval]
 refine aQ (fun h=>?_) (fun h=>?_)
 · have hs:s=⟨#[110,111,110,118,97,114]⟩:=by simpa using h
   obtain⟨x,rfl⟩:=JV (ts:=ks) (by subst hs;simp [isBuiltin] at hb;omega)
   have e:dI σ s [x]=(jO (uX s x),σ,[]):=rfl
   rw[e]
   subst hs
   obtain⟨xk,xn,xs,xt⟩:=x
   have eG:dN prog 28 (.slice [(Tm.mk xk xn xs xt).av]) (.int .i64 0)=some (.pptr (Tm.mk xk xn xs xt).av):=bQ (av:=Tm.av) (l:=[Tm.mk xk xn xs xt]) (i:=0) aO rfl (aM _)
   have eat:=H4 xk xn xs xt
   simp only[a8] at eG eat
   simp only[bB,aW,a8]
   simp -implicitDefEqProofs only[eG,aA,↓aS,seval,mG]
   refine(qK _ _).to ?_
   simp -implicitDefEqProofs only[aA,seval]
   exact nZ.same hS _ rfl
 have hnv:s≠⟨#[110,111,110,118,97,114]⟩:=by simpa using h
 simp -implicitDefEqProofs only[aA,seval]
 refine aQ (fun h=>?_) (fun h=>?_)
 · have hs:s=⟨#[97,116,111,109]⟩:=by simpa using h
   obtain⟨x,rfl⟩:=JV (ts:=ks) (by subst hs;simp [isBuiltin] at hb;omega)
   have e:dI σ s [x]=(jO (uX s x),σ,[]):=rfl
   rw[e]
   subst hs
   obtain⟨xk,xn,xs,xt⟩:=x
   have eG:dN prog 28 (.slice [(Tm.mk xk xn xs xt).av]) (.int .i64 0)=some (.pptr (Tm.mk xk xn xs xt).av):=bQ (av:=Tm.av) (l:=[Tm.mk xk xn xs xt]) (i:=0) aO rfl (aM _)
   have eat:=H4 xk xn xs xt
   simp only[a8] at eG eat
   simp only[bB,aW,a8]
   simp -implicitDefEqProofs only[eG,aA,↓aS,seval,mG]
   refine(eat _).to ?_
   simp -implicitDefEqProofs only[aA,seval]
   refine(qK _ _).to ?_
   simp -implicitDefEqProofs only[aA,seval]
   exact nZ.same hS _ rfl
 have hat:s≠⟨#[97,116,111,109]⟩:=by simpa using h
 simp -implicitDefEqProofs only[aA,seval]
 refine aQ (fun h=>?_) (fun h=>?_)
 · have hs:s=⟨#[105,110,116]⟩:=by simpa using h
   obtain⟨x,rfl⟩:=JV (ts:=ks) (by subst hs;simp [isBuiltin] at hb;omega)
   have e:dI σ s [x]=(jO (uX s x),σ,[]):=rfl
   rw[e]
   subst hs
   obtain⟨xk,xn,xs,xt⟩:=x
   have eG:dN prog 28 (.slice [(Tm.mk xk xn xs xt).av]) (.int .i64 0)=some (.pptr (Tm.mk xk xn xs xt).av):=bQ (av:=Tm.av) (l:=[Tm.mk xk xn xs xt]) (i:=0) aO rfl (aM _)
   have eat:=H4 xk xn xs xt
   simp only[a8] at eG eat
   simp only[bB,aW,a8]
   simp -implicitDefEqProofs only[eG,aA,↓aS,seval,mG]
   refine(qK _ _).to ?_
   simp -implicitDefEqProofs only[aA,seval]
   exact nZ.same hS _ rfl
 have hint:s≠⟨#[105,110,116]⟩:=by simpa using h
 have hs:s=⟨#[97,114,103]⟩∧ks.length=3:=by
  rcases hcs with ⟨h2,h3⟩ | ⟨h2,h3⟩ | ⟨h2,h3⟩ | ⟨h2,h3⟩
  · rw[hnc h2] at h3
    simp [he,hne,hee,his] at h3
  · simp [ht,hf] at h3
  · simp [hva,hnv,hat,hint] at h3
  · exact⟨h3,h2⟩
 obtain⟨hs,hk3⟩:=hs
 obtain⟨x,y,z,rfl⟩:=aO2 hk3
 have hz:=hv z (by simp)
 have hy:=hv y (by simp)
 have e:dI σ s [x,y,z]=w4 σ x y z:=rfl
 rw[e]
 unfold w4
 have eG:dN prog 28 (.slice [x.av,y.av,z.av]) (.int .i64 0)=some (.pptr x.av):=bQ (av:=Tm.av) (l:=[x,y,z]) (i:=0) aO rfl (aM x)
 have fR:dN prog 28 (.slice [x.av,y.av,z.av]) (.int .i64 1)=some (.pptr y.av):=bQ (av:=Tm.av) (l:=[x,y,z]) (i:=1) aO rfl (aM y)
 have qR:dN prog 28 (.slice [x.av,y.av,z.av]) (.int .i64 2)=some (.pptr z.av):=bQ (av:=Tm.av) (l:=[x,y,z]) (i:=2) aO rfl (aM z)
 clear hcs hb hnc hv e
 obtain⟨xk,xn,xs,xt⟩:=x
 obtain⟨yk,yn,ys,yt⟩:=y
 have hyl:yt.length≤4:=by
  exact hy.1.kind.2
 rw[a8] at eG
 simp only[a8 xk,a8 yk] at eG fR qR
 simp only[bB,aW,a8 xk,a8 yk,Tm.k,Tm.ts]
 simp -implicitDefEqProofs only[eG,aA,↓aS,seval,mG]
 refine cU (fun h=>?_) (fun h=>?_)
 case refine_2=>
  have h':xk=1:=by simpa using h
  simp -implicitDefEqProofs only[h,aA,seval]
  rw[aH (.inl h')]
  exact nZ.same hS _ rfl
 have hx1:xk≠1:=by simpa using h
 simp -implicitDefEqProofs only[h,fR,aA,seval,mG]
 refine aQ (fun h1=>?_) (fun h1=>?_)
 · have h':yk=1:=by simpa using h1
   simp -implicitDefEqProofs only[aA,seval]
   rw[aH (.inr h')]
   exact nZ.same hS _ rfl
 have hy1:yk≠1:=by simpa using h1
 rw[aE (fun h2=>h2.elim hx1 hy1)]
 have h3:∀s2,(xk≠2∨yk≠3∨yt.length=0)→s2=st→nZ c m st q tr (if xk≠2∨yk≠3∨yt.length=0 then((3:Int),σ,[]) else match oB (.mk xk xn xs xt) (.mk yk yn ys yt) with | some u=>tN σ z u | none=>(1,σ,[])) (.int .i64 3) s2:=fun s2 hh e=>by
  subst e
  rw[aH hh]
  exact nZ.same hS _ rfl
 simp -implicitDefEqProofs only[eG,aA,seval,mG]
 refine cU (fun h4=>?_) (fun h4=>?_)
 case refine_2=>
  have h':xk≠2:=by simpa using h4
  simp -implicitDefEqProofs only[h4,aA,seval]
  exact h3 _ (.inl h') rfl
 have hx2:xk=2:=by simpa using h4
 simp -implicitDefEqProofs only[h4,fR,aA,seval,mG]
 refine cU (fun h5=>?_) (fun h5=>?_)
 case refine_2=>
  have h':yk≠3:=by simpa using h5
  simp -implicitDefEqProofs only[h5,aA,seval]
  exact h3 _ (.inr (.inl h')) rfl
 have hy3:yk=3:=by simpa using h5
 simp -implicitDefEqProofs only[h5,fR,aF,aA,seval,mG]
 refine aQ (fun h6=>?_) (fun h6=>?_)
 · have h':yt.length=0:=by simp at h6;simp [h6]
   simp -implicitDefEqProofs only[aA,seval]
   exact h3 _ (.inr (.inr h')) rfl
 have hyt:yt.length≠0:=by simp at h6;simpa using h6
 clear h3
 rw[aE (by simp [hx2,hy3];intro h7;simp [h7] at hyt)]
 simp -implicitDefEqProofs only[aA,seval]
 refine L8 mixed (by decide +kernel) (by decide +kernel) ?_
 simp -implicitDefEqProofs only[eG,fR,aF,aA,seval,mG]
 refine j6 (zP xn 1 _ _) ?_
 simp -implicitDefEqProofs only[aA,seval]
 refine aQ (fun h7=>?_) (fun h7=>?_)
 · have h':¬(1≤xn∧xn≤yt.length):=by simp at h7;omega
   have ea:oB (.mk xk xn xs xt) (.mk yk yn ys yt)=none:=aE h'
   rw[ea]
   simp -implicitDefEqProofs only[aA,seval]
   exact nZ.same hS _ rfl
 have h':1≤xn∧xn≤yt.length:=by simp at h7;omega
 obtain⟨i,hi⟩:∃i:Nat,xn - 1=i:=⟨(xn - 1).toNat,by omega⟩
 have hlt:i<yt.length:=by omega
 obtain⟨u,hu⟩:∃u,yt[i]?=some u:=⟨_,fF hlt⟩
 have ea:oB (.mk xk xn xs xt) (.mk yk yn ys yt)=some u:=by
  refine(aH h').trans ?_
  show yt[(xn - 1).toNat]?=some u
  rw[hi,jT,hu]
 rw[ea]
 have huv:bP N u:=s8 N (.mk yk yn ys yt) hy1 hy u (dA hu)
 have hw:IntKind.i64.wrap (xn - 1)=(i:Int):=by rw[wrap64 (by omega) (by omega)];exact hi
 have T7:=bQ (av:=Tm.av) (P:=prog) aO hu (aM u)
 simp -implicitDefEqProofs only[aA,seval]
 refine wX [(0,1),(1,1),(2,1),(3,1),(4,1),(5,1),(6,1),(7,1),(8,1),(9,1),(10,1),(11,1),(12,1),(13,1),(14,1),(15,0),(16,0),(17,1)] [0,1,2,3,4,5,6,7,8,9,10,11,12,13,14,17] dQ mixed rfl dY ?_
 simp -implicitDefEqProofs only[eG,fR,qR,T7,hw,aY,aM,aA,seval,mG]
 refine(IA hg ho z u hz huv c m q tr _ hS hl).mono ?_
 rintro _ s2 ⟨rfl,hP⟩
 simp -implicitDefEqProofs only[aA,seval]
 refine⟨dY,?_⟩
 refine(qK _ _).to ?_
 simp -implicitDefEqProofs only[aA,seval]
 exact⟨dY,rfl,hP⟩
abbrev aR1:=zi tI_3 (zi zI_3 (zi aU (zi tI_52 (zi zI_52 (zi bU (zi bV (zi bX (zi bY bT))))))))
theorem aYP(n:Int)(F:Nat)(h0:0≤n)(h1:n≤1048576)(hF:F≤536870912)(st:aB):aD prog 236 [.int .i64 n,.pptr (.int .i64 (F:Int))] st (fun r st'=>r=(vr (n+(F:Int))).av∧st'=st):=by
 refine aD.done ?_
 refine wF [1000000] 2 func236 ntmps236 rfl rfl ?_
 intro _
 have hw:=bO (n:=n+(F:Int))
 simp -implicitDefEqProofs only[hw,aA,seval,aR1]
 intro b3 h3
 refine(SM _ _).to ?_
 simp -implicitDefEqProofs only[aK,cH,b9,eW (b9 _),eU (aY _),aA,seval,aR1]
 exact⟨by simp only[Tm.soft],(aL.refl _).aC h3⟩
theorem SH{F:Nat}(hF:F≤536870912)(t:Tm)(h:bP 26 t)(st:aB):aD prog 237 [t.av,.func 236 [.pptr (.int .i64 (F:Int))]] st (fun r st'=>r=(dK F t).av∧st'=st):=
 SE (fun v=>vr (v+(F:Int))) _ _ rfl t st h.1.small fun n hn s=>aYP n F (h.1.2.2 n hn).1 (by have:=(h.1.2.2 n hn).2;omega) hF s
theorem aNL{b:Nat}{L:List AV}(l:List IG):(eY l).fin b L=eY l:=by
 cases l with
 | nil=>rw[eY];unfold AV.fin;split<;>rfl
 | cons g l=>obtain⟨⟨k,n,s,ts⟩,cut,up⟩:=g;rw[uF];exact FC
abbrev oP:=zi tI_3 (zi zI_3 (zi aU (zi tI_4 (zi zI_4 (zi cI (zi tI_27 (zi zI_27 (zi eH (zi gK (zi gN (zi iJ (zi tI_28 (zi zI_28 (zi aO (zi bF (zi bG (zi bZ (zi tI_40 (zi zI_40 (zi dT (zi fJ (zi fK (zi fU (zi tI_52 (zi zI_52 (zi bU (zi bV (zi bX (zi bY (zi bT (zi tI_111 (zi zI_111 (zi kT (zi kU (zi kQ (zi tI_150 (zi zI_150 (zi tI_178 (zi zI_178 (zi tI_180 (zi zI_180 (zi tI_181 (zi zI_181 (zi CG (zi MY (zi M0 (zi XU (zi tI_182 (zi zI_182 (zi E8 (zi MZ (zi M1 (zi XV (zi tI_184 (zi zI_184 (zi IT (zi IU (zi IY (zi IZ (zi I0 (zi I1 (zi I2 (zi I3 (zi I4 (zi I5 (zi IV (zi IW (zi H0 (zi tI_209 (zi zI_209 (zi FA (zi FB (zi EW (zi tI_215 (zi zI_215 (zi aMU (zi aMV (zi aMW (zi ZS (zi tI_224 (zi zI_224 (zi aMX (zi aMY (zi aMZ (zi aM0 (zi aM1 (zi aM2 ZT)))))))))))))))))))))))))))))))))))))))))))))))))))))))))))))))))))))))))))))))))))))))
set_option maxHeartbeats 2000000 in
theorem aBK{p:List Cl}(hp:∀c∈p,iC c∧c.2.length≤6){M:Nat}(hM:M≤268435456){st0 st:aB}{S c m:Nat}{qt qc qn:AV}{q:List Tm}{idx:Bool}{fuel used mx:Int}{nd:List AV}{i:IS}(h:dO st0 st S c m qt qc qn p q idx fuel used mx nd i)
 (goal:Tm) (at':Nat) (rest:List IG) (list:List Nat) (hg:cX i.σ) (ho:c9 (bP i.fresh) i.σ) (hgo:bP i.fresh goal) (hl:∀x∈list,x<p.length) (hll:list.length≤1048576) (ha:at'<i.nn) (hX:IX p M i) (hMl:i.fresh+26*qY i.chs+26*list.length≤M) (hch:i.chs.length≤524288) (hnn:i.nn≤524288) :
 aD prog 191 [.ptr S 0,goal.av,.int .i64 (at':Int),.slice (list.map nv),eY rest] st (fun r st'=>r=.bool (iD p goal at' rest list i).1∧∃qt' qc' mx' nd',dO st0 st' S c m qt' qc' qn p q idx fuel used mx' nd' (iD p goal at' rest list i).2):=by
 obtain⟨bN,rfl⟩:=h.nodes ha
 obtain⟨gk,gn,gs',gts⟩:=goal
 obtain⟨g1,g2,g3,g4,g5,g6⟩:=qQ rest
 generalize hT:iD p (.mk gk gn gs' gts) at' rest list i=T
 simp only[a8]
 have hun:prog.underlying 40=some (.slice 3):=by kernel_rfl
 have gO:st S=some (.cells [.ptr c 0,.slice (p.map a9),.slice (q.map Tm.av),.bool idx,.bool false,.int .i64 fuel,.int .i64 used,.int .i64 i.fresh,eY i.goals,qc,.mslice bN 0 nd.length 6,.int .i64 mx]):=h.cell
 have hcc:=h.sto.sub.cells
 have htl:=h.sto.aST (P:=prog) hun
 obtain⟨t1,t2,t3,t4,t5⟩:=h.sto.shape
 refine aD.kS ?_
 refine wF [1000000] 5 func191 ntmps191 rfl rfl ?_
 intro _
 simp -implicitDefEqProofs only[aF,gO,hcc,htl,t1,aA,seval,oP]
 refine eL (σ:=aB×AV) [1000000] [0,2,3,4,6,11,28,29] list (fun k s=>dO st0 s.1 S c m s.2 qc (.mslice bN 0 nd.length 6) p q idx fuel used mx nd { i with fresh:=i.fresh+26*k }∧iD p (.mk gk gn gs' gts) at' rest (list.drop k) { i with fresh:=i.fresh+26*k }=T)
  (fun k s=>[(10,.bool false),(30,.int .i64 k)]) (fun k s=>s.1) (by decide +kernel) ⟨(st,qt),⟨h,hT⟩,aP.mk (by simp -implicitDefEqProofs only[aA,↓aS,seval])⟩ (fun k x s hx hlt bR hdr hinv=>?_) (fun s hge hinv=>?_)
 case refine_2=>
  simp -implicitDefEqProofs only[hge,aA,seval]
  obtain⟨hi,he⟩:=hinv
  rw[lH] at he
  unfold iD at he
  subst he
  exact⟨s.1,aL.refl _,rfl,_,_,_,_,hi⟩
 obtain⟨st,qt⟩:=s
 obtain⟨h,hT⟩:=hinv
 simp only at h hT
 obtain⟨t1,t2,t3,t4,t5⟩:=h.sto.shape
 obtain⟨n1,n2,n3,n4,n5⟩:=h.acC.shape
 obtain⟨m1,m2,m3,m4,m5⟩:=h.acN.shape
 obtain⟨l1,l2,l3,l4,l5,l6⟩:=qQ i.goals
 have hxl:=hl x (dA hx)
 obtain⟨cl,hcx⟩:∃cl,p[x]?=some cl:=⟨_,fF hxl⟩
 obtain⟨uJ,rU⟩:=hp cl (dA hcx)
 rw[hdr,iD.eq_def] at hT
 simp only[hcx] at hT
 have hat:dN prog 40 (.slice (list.map nv)) (.int .i64 (k:Int))=some (.pptr (.int .i64 (x:Int))):=bQ (av:=nv) dT hx rfl
 have CR:=bQ (av:=a9) (P:=prog) eH hcx (jN cl)
 have hw:=bO (n:=(k:Int)+1)
 generalize hF:i.fresh+26*k=F at *
 have hFM:F+26≤M:=by have:=aO7 i.chs 0;omega
 have a21:=bO (n:=(F:Int)+26)
 have gO:st S=some (.cells [.ptr c 0,.slice (p.map a9),.slice (q.map Tm.av),.bool idx,.bool false,.int .i64 fuel,.int .i64 used,.int .i64 F,eY i.goals,qc,.mslice bN 0 nd.length 6,.int .i64 mx]):=h.cell
 obtain⟨⟨ck,cn,cs',cts⟩,bd⟩:=cl
 rw[gI] at CR
 simp -implicitDefEqProofs only[bR,aK,gO,hat,a21,aA,↓aS,seval,oP]
 have h2:=h.put (gl:=i.goals) (F:=F+26) (fuel':=fuel) (used':=used) (mx':=mx) (cs:=[.ptr c 0,.slice (p.map a9),.slice (q.map Tm.av),.bool idx,.bool false,.int .i64 fuel,.int .i64 used,.int .i64 ((F:Int)+26),eY i.goals,qc,.mslice bN 0 nd.length 6,.int .i64 mx]) rfl
 generalize st.aC S (.cells [.ptr c 0,.slice (p.map a9),.slice (q.map Tm.av),.bool idx,.bool false,.int .i64 fuel,.int .i64 used,.int .i64 ((F:Int)+26),eY i.goals,qc,.mslice bN 0 nd.length 6,.int .i64 mx])=V at *
 simp only at h2
 have sT:V S=some (.cells [.ptr c 0,.slice (p.map a9),.slice (q.map Tm.av),.bool idx,.bool false,.int .i64 fuel,.int .i64 used,.int .i64 ((F:Int)+26),eY i.goals,qc,.mslice bN 0 nd.length 6,.int .i64 mx]):=h2.cell
 refine wX [(0,1),(1,1),(2,1),(3,1),(4,1),(5,1),(6,1),(7,1),(8,1),(9,1),(10,1),(11,1),(12,1),(13,1),(14,0),(15,0),(16,1)] [0,1,2,3,4,5,6,7,8,9,10,11,12,13,16] (one S (.cells [.ptr c 0,.slice (p.map a9),.slice (q.map Tm.av),.bool idx,.bool false,.int .i64 fuel,.int .i64 used,.int .i64 ((F:Int)+26),eY i.goals,qc,.mslice bN 0 nd.length 6,.int .i64 mx])) mixed rfl (eV sT) ?_
 simp -implicitDefEqProofs only[wC,CR,aA,seval,oP]
 have hsh:=fun st=>SH (F:=F) (by omega) (.mk ck cn cs' cts) uJ.head st
 have hhd:bP ((F+26:Nat):Int) (dK F (.mk ck cn cs' cts)):=(uJ.dK F (.mk ck cn cs' cts) (by simp)).mono (by have:=uJ.fr.1;omega)
 have htr:=h2.sto
 obtain⟨r,σ',add,U⟩:=vD (N:=F+26) hg (fun n u e=>(ho n u e).mono (by omega)) (hgo.mono (by omega)) hhd
 have htl:i.tr.length≤i.fresh:=hX.XN
 have hun:=IA (N:=F+26) hg (fun n u e=>(ho n u e).mono (by omega)) (.mk gk gn gs' gts) (dK F (.mk ck cn cs' cts)) (hgo.mono (by omega)) hhd c m qt i.tr V h2.sto (by omega)
 rw[U.eq] at hT hun
 simp only at hT hun
 have JN:=U.DG
 have hso:=U.yG
 clear U
 generalize hy:dK F (.mk ck cn cs' cts)=y at *
 obtain⟨yk,yn,ys,yt⟩:=y
 simp only[a8] at hsh hun ⊢
 refine(hsh _).to ?_
 simp -implicitDefEqProofs only[aA,seval]
 refine⟨eV sT,?_⟩
 refine hun.mono ?_
 rintro _ s2 ⟨rfl,hP⟩
 obtain⟨qt2,h3⟩:=h2.post hP
 have FL:s2 S=some (.cells [.ptr c 0,.slice (p.map a9),.slice (q.map Tm.av),.bool idx,.bool false,.int .i64 fuel,.int .i64 used,.int .i64 ((F:Int)+26),eY i.goals,qc,.mslice bN 0 nd.length 6,.int .i64 mx]):=h3.cell
 simp -implicitDefEqProofs only[aA,seval]
 refine⟨eV FL,?_⟩
 refine aQ (fun hr=>?_) (fun hr=>?_)
 · have hr':r=false:=by simpa using hr
   rw[aE (by rw[hr'];simp)] at hT
   simp -implicitDefEqProofs only[FL,aA,seval,oP]
   have hud:=SL σ' (i.tr++add) i.tr.length (by simp) c m qt2 s2 h3.sto (by
    have:=h3.sto
    have:add.length≤F+26:=FZ hso.nodup hso.gS
    rw[dW];omega)
   refine hud.mono ?_
   rintro _ s4 ⟨rfl,qt4,hS4,hb4,hf4⟩
   simp -implicitDefEqProofs only[hw,aA,seval]
   have h5:=h3.XO hS4 (fun b o hb e1 e2 _=>hf4 b o hb e1 e2) (fun b hb=>.inl (hb4 b hb))
   simp only[BE,HC,JN] at h5
   refine⟨(s4,qt4),⟨?_,?_⟩,aP.mk (by simp -implicitDefEqProofs only[aA,seval])⟩
   · rw[show i.fresh+26*(k+1)=F+26 by omega];exact h5
   · rw[show i.fresh+26*(k+1)=F+26 by omega];exact hT
 have hr':r=true:=by simpa using hr
 have a2H:nd.length=i.nn:=h3.ndl
 rw[aH hr'] at hT
 have JR:prog.underlying 181=some (.slice 224):=by kernel_rfl
 have U4:prog.underlying 182=some (.slice 215):=by kernel_rfl
 have hlC:=h3.acC.len JR
 have hlN:=h3.acN.len U4
 rw[aF] at hlC
 rw[h3.ndl] at hlN
 simp only at hlC hlN
 have aNV:=CW (P:=prog) (b:=bN) (w:=6) (i:=at') E8 (len:=nd.length) (by rw[h3.ndl];exact ha)
 simp -implicitDefEqProofs only[aF,FL,hlC,hw,n1,aA,seval,oP]
 refine aQ (fun h7=>?_) (fun h7=>?_)
 · have h':k+1<list.length:=by simp at h7;omega
   have hdn:list.drop (k+1)≠[]:=by intro e;have:=oC List.length e;simp at this;omega
   rw[aE hdn] at hT
   have hsl:=fun(φ:AF) (d:Nat) (h:φ d=.int .i64 ((k:Int)+1))=>aQW h' h
   refine wX [(0,1),(1,1),(2,1),(3,1),(4,1),(5,1),(6,1),(7,1),(8,1),(9,1),(10,1),(11,1),(12,1),(13,1),(14,1),(15,1),(16,1),(17,1),(18,1),(19,1),(20,0),(21,1),(22,1),(23,2)] [0,1,2,3,4,5,6,7,8,9,10,11,12,13,14,15,16,17,18,19,21,22] (one S (.cells [.ptr c 0,.slice (p.map a9),.slice (q.map Tm.av),.bool idx,.bool false,.int .i64 fuel,.int .i64 used,.int .i64 ((F:Int)+26),eY i.goals,qc,.mslice bN 0 nd.length 6,.int .i64 mx])) mixed rfl (eV FL) ?_
   simp -implicitDefEqProofs only[hsl,hw,g3,g4,n1,m1,wC,aA,seval,oP]
   refine kE.append CG MY M0 rfl (by decide) h3.acC rfl (a3E ⟨.mk gk gn gs' gts,at',rest,list.drop (k+1),i.tr.length,nd.length⟩) (by rw[aF];simp only;omega) (fun qc5 s5 pW hf hn=>?_)
   have a1D:(i.chs.map sW)++ [sW ⟨.mk gk gn gs' gts,at',rest,list.drop (k+1),i.tr.length,nd.length⟩]=(i.chs++ [(⟨.mk gk gn gs' gts,at',rest,list.drop (k+1),i.tr.length,nd.length⟩:IC)]).map sW:=by simp
   have pW:=a1D▸pW
   obtain⟨c1,c2,c3,c4,c5⟩:=pW.shape
   have hS5:s5 S=s2 S:=hf S h3.parts.2.2.2.2.1 (fun hb=>by
    rcases hn S hb with h' | h'
    · exact h3.parts.2.2.2.2.1 h'
    · rw[FL] at h';cases h')
   have aN3:=hS5.trans FL
   have a1R:=eV aN3
   simp -implicitDefEqProofs only[aK,aN3,c4,c5,m1,aB.aJ,aA,seval,oP]
   refine⟨a1R,?_⟩
   have h5:=h3.a5D pW hf hn (cs:=[.ptr c 0,.slice (p.map a9),.slice (q.map Tm.av),.bool idx,.bool false,.int .i64 fuel,.int .i64 used,.int .i64 ((F:Int)+26),eY i.goals,qc5,.mslice bN 0 nd.length 6,.int .i64 mx]) rfl
   generalize s5.aC S (.cells [.ptr c 0,.slice (p.map a9),.slice (q.map Tm.av),.bool idx,.bool false,.int .i64 fuel,.int .i64 used,.int .i64 ((F:Int)+26),eY i.goals,qc5,.mslice bN 0 nd.length 6,.int .i64 mx])=V5 at *
   rw[show(⟨.mk gk gn gs' gts,at',rest,list.drop (k+1),i.tr.length,nd.length⟩:IC)=⟨.mk gk gn gs' gts,at',rest,list.drop (k+1),i.tr.length,i.nn⟩ by rw[a2H]] at h5
   obtain⟨csN,hbN,hcN⟩:=h5.nodeAt
   obtain⟨c1,c2,c3,c4,c5⟩:=(h5).acC.shape
   have hSN:S≠bN:=fun e=>(h5).parts.2.2.2.2.2.1 (by rw[e];simp [d5])
   have uI:=h5.cell
   simp only[jC] at uI
   rw[show((F+26:Nat):Int)=(F:Int)+26 from rfl] at uI
   simp -implicitDefEqProofs only[aK,aF,uI,hbN,hSN,aNV,CR,aA,seval,oP]
   refine⟨by omega,?_⟩
   obtain⟨nd6,h6⟩:=(h5).aQN (x:=.int .i64 (x:Int)) (k:=at'*6+5) rfl hbN (by omega)
   have UV:=h6.ndl
   simp only at UV
   rw[show aK csN (at'*6+5) [.int .i64 (x:Int)]=List.take (at'*6+5) csN++ [AV.int IntKind.i64 (x:Int)]++List.drop (at'*6+5+1) csN from rfl] at h6
   generalize aB.aC _ bN (.cells (List.take (at'*6+5) csN++ [AV.int IntKind.i64 (x:Int)]++List.drop (at'*6+5+1) csN))=V6 at *
   have mX:=h6.cell
   simp only[jC] at mX
   rw[show((F+26:Nat):Int)=(F:Int)+26 from rfl] at mX
   refine vG (σ:=Unit) [1000000] [0,2,3,4,6,10,11,12,13,14,15,16,28,29,30,31,32,33,34,35,36,37,38,39,40,41,42,43,44,45,46,47,48,49,50,51,52,53,54,55,56,57,58,59,60,61,62,63,64,65,66,67,68,70,71,72,73,74,75,76,77,78,79,80,81,82,83,84,85,86,87,88,89,90,91,92,93,94,95,96,97,98,99,100,101,102,103,104,105,106,107,108,109,110,111,112,113,114,115,116,117,118,119] bd 4 17 (fun j _=>((bd.take j).map (dK F)).map Tm.av) (fun _ _=>True) (fun j _=>[(120,.int .i64 j)]) (fun _ _=>V6) (fun j _ _ e he=>by simp only[cY] at he;obtain⟨t,_,rfl⟩:=he;exact⟨cP _,aM _⟩) (by decide +kernel) ⟨(),0,trivial,fun h=>absurd rfl h,aP.mk (by simp -implicitDefEqProofs only[jV,l7,aW,aA,↓aS,seval])⟩ (fun j y5 _ b5 hx5 a2B US a1N UR hb5=>?_) (fun _ b5 UN UR=>?_)
   · have hw5:=wrap64 (n:=(j:Int)+1) (by simp only at rU;omega) (by simp only at rU;omega)
     have T6:=bQ (av:=Tm.av) (P:=prog) aO hx5 (aM y5)
     have JL:(((bd.take j).map (dK F)).map Tm.av).length=j:=by simp only[aF,eC];omega
     have hyb:=uJ.body y5 (dA hx5)
     simp -implicitDefEqProofs only[US,T6,aY,aM,cH,cP,aA,↓aS,seval,oP]
     refine(SH (F:=F) (by omega) y5 hyb.1 _).to ?_
     simp -implicitDefEqProofs only[aY,aM,cP,aA,seval,oP]
     refine eE aO bF bG rfl rfl (fL (aM _) (cH _)) (d9 _) hb5 (by simp only[JL,aT,aX];simp only at rU;omega) (by simp only[JL,aT,aX];simp only at rU;omega) (fun b' hb'=>?_)
     rw[show(((bd.take j).map (dK F)).map Tm.av)++ [(dK F y5).av]=((bd.take (j+1)).map (dK F)).map Tm.av by rw[gC,hx5];simp] at hb' ⊢
     simp -implicitDefEqProofs only[aA,seval]
     exact⟨(),b',hb',aP.mk (by simp -implicitDefEqProofs only[hw5,aA,seval])⟩
   · have C3:=fun st=>SG (bd.map (dK F)) i.chs.length at' rest (by simp only[aF];simp only at rU;omega) st
     simp -implicitDefEqProofs only[UN,gG,eS,rP,kA,jF,qO,FC,I6,aM6,mV,fG,aNL,aA,seval]
     refine(C3 _).to ?_
     have h7:=h6.put (gl:=(bd.map (dK F)).map (fun t=>(⟨t,i.chs.length,at'⟩:IG))++rest) (F:=F+26) (fuel':=fuel) (used':=used) (mx':=mx) rfl
     simp only[jC] at h7
     rw[show((F+26:Nat):Int)=(F:Int)+26 from rfl] at h7
     have hgl:(bd.map (dK F)).map (fun t=>(⟨t,i.chs.length,at'⟩:IG))++rest=bd.map (fun t=>(⟨dK F t,i.chs.length,at'⟩:IG))++rest:=by rw[yX];try rfl
     rw[hgl] at h7 ⊢
     generalize bd.map (fun t=>(⟨dK F t,i.chs.length,at'⟩:IG))++rest=NG at *
     obtain⟨u1,u2,u3,u4,u5,u6⟩:=qQ NG
     have JJ:=h7.acC.len JR
     simp only[aF] at JJ
     simp -implicitDefEqProofs only[aK,mX,u4,u5,aA,seval,oP]
     generalize aB.aC V6 S _=V7 at h7 ⊢
     have pC:=h7.cell
     simp only[jC] at pC
     rw[show((F+26:Nat):Int)=(F:Int)+26 from rfl] at pC
     refine wX [(0,1),(1,1),(2,1),(3,1),(4,1),(5,1),(6,1),(7,1),(8,1),(9,1),(10,0),(11,1),(12,1),(13,2)] [0,1,2,3,4,5,6,7,8,9,11,12] _ mixed rfl (eV pC) ?_
     simp -implicitDefEqProofs only[aK,pC,JJ,c1,wC,aA,seval,oP]
     refine⟨eV pC,?_⟩
     subst hT
     exact⟨_,aL.refl _,rfl,qt2,_,_,nd6,h7.put (gl:=NG) (F:=F+26) rfl⟩
 · have h':list.drop (k+1)= []:=EC (by simp at h7;omega)
   rw[aH h'] at hT
   obtain⟨csN,hbN,hcN⟩:=h3.nodeAt
   obtain⟨c1,c2,c3,c4,c5⟩:=(h3).acC.shape
   have hSN:S≠bN:=fun e=>(h3).parts.2.2.2.2.2.1 (by rw[e];simp [d5])
   have uI:=h3.cell
   simp only[jC] at uI
   rw[show((F+26:Nat):Int)=(F:Int)+26 from rfl] at uI
   simp -implicitDefEqProofs only[aK,aF,uI,hbN,hSN,aNV,CR,m1,aA,seval,oP]
   refine⟨by omega,?_⟩
   obtain⟨nd6,h6⟩:=(h3).aQN (x:=.int .i64 (x:Int)) (k:=at'*6+5) rfl hbN (by omega)
   have UV:=h6.ndl
   simp only at UV
   rw[show aK csN (at'*6+5) [.int .i64 (x:Int)]=List.take (at'*6+5) csN++ [AV.int IntKind.i64 (x:Int)]++List.drop (at'*6+5+1) csN from rfl] at h6
   generalize aB.aC _ bN (.cells (List.take (at'*6+5) csN++ [AV.int IntKind.i64 (x:Int)]++List.drop (at'*6+5+1) csN))=V6 at *
   have mX:=h6.cell
   simp only[jC] at mX
   rw[show((F+26:Nat):Int)=(F:Int)+26 from rfl] at mX
   refine vG (σ:=Unit) [1000000] [0,2,3,4,6,10,11,12,13,14,15,16,28,29,30,31,32,33,34,35,36,37,38,39,40,41,42,43,44,45,46,47,48,49,50,51,52,53,54,55,56,57,58,59,60,61,62,63,64,65,66,67,68,70,71,72,73,74,75,76,77,78,79,80,81,82,83,84,85,86,87,88,89,90,91,92,93,94,95,96,97,98,99,100,101,102,103,104,105,106,107,108,109,110,111,112,113,114,115,116,117,118,119] bd 4 17 (fun j _=>((bd.take j).map (dK F)).map Tm.av) (fun _ _=>True) (fun j _=>[(120,.int .i64 j)]) (fun _ _=>V6) (fun j _ _ e he=>by simp only[cY] at he;obtain⟨t,_,rfl⟩:=he;exact⟨cP _,aM _⟩) (by decide +kernel) ⟨(),0,trivial,fun h=>absurd rfl h,aP.mk (by simp -implicitDefEqProofs only[jV,l7,aW,aA,↓aS,seval])⟩ (fun j y5 _ b5 hx5 a2B US a1N UR hb5=>?_) (fun _ b5 UN UR=>?_)
   · have hw5:=wrap64 (n:=(j:Int)+1) (by simp only at rU;omega) (by simp only at rU;omega)
     have T6:=bQ (av:=Tm.av) (P:=prog) aO hx5 (aM y5)
     have JL:(((bd.take j).map (dK F)).map Tm.av).length=j:=by simp only[aF,eC];omega
     have hyb:=uJ.body y5 (dA hx5)
     simp -implicitDefEqProofs only[US,T6,aY,aM,cH,cP,aA,↓aS,seval,oP]
     refine(SH (F:=F) (by omega) y5 hyb.1 _).to ?_
     simp -implicitDefEqProofs only[aY,aM,cP,aA,seval,oP]
     refine eE aO bF bG rfl rfl (fL (aM _) (cH _)) (d9 _) hb5 (by simp only[JL,aT,aX];simp only at rU;omega) (by simp only[JL,aT,aX];simp only at rU;omega) (fun b' hb'=>?_)
     rw[show(((bd.take j).map (dK F)).map Tm.av)++ [(dK F y5).av]=((bd.take (j+1)).map (dK F)).map Tm.av by rw[gC,hx5];simp] at hb' ⊢
     simp -implicitDefEqProofs only[aA,seval]
     exact⟨(),b',hb',aP.mk (by simp -implicitDefEqProofs only[hw5,aA,seval])⟩
   · have C3:=fun st=>SG (bd.map (dK F)) i.chs.length at' rest (by simp only[aF];simp only at rU;omega) st
     simp -implicitDefEqProofs only[UN,gG,eS,rP,kA,jF,FC,I6,aM6,mV,fG,aNL,aA,seval]
     refine(C3 _).to ?_
     have h7:=h6.put (gl:=(bd.map (dK F)).map (fun t=>(⟨t,i.chs.length,at'⟩:IG))++rest) (F:=F+26) (fuel':=fuel) (used':=used) (mx':=mx) rfl
     simp only[jC] at h7
     rw[show((F+26:Nat):Int)=(F:Int)+26 from rfl] at h7
     have hgl:(bd.map (dK F)).map (fun t=>(⟨t,i.chs.length,at'⟩:IG))++rest=bd.map (fun t=>(⟨dK F t,i.chs.length,at'⟩:IG))++rest:=by rw[yX];try rfl
     rw[hgl] at h7 ⊢
     generalize bd.map (fun t=>(⟨dK F t,i.chs.length,at'⟩:IG))++rest=NG at *
     obtain⟨u1,u2,u3,u4,u5,u6⟩:=qQ NG
     have JJ:=h7.acC.len JR
     simp only[aF] at JJ
     simp -implicitDefEqProofs only[aK,mX,u4,u5,aA,seval,oP]
     generalize aB.aC V6 S _=V7 at h7 ⊢
     have pC:=h7.cell
     simp only[jC] at pC
     rw[show((F+26:Nat):Int)=(F:Int)+26 from rfl] at pC
     refine wX [(0,1),(1,1),(2,1),(3,1),(4,1),(5,1),(6,1),(7,1),(8,1),(9,1),(10,0),(11,1),(12,1),(13,2)] [0,1,2,3,4,5,6,7,8,9,11,12] _ mixed rfl (eV pC) ?_
     simp -implicitDefEqProofs only[aK,pC,JJ,c1,wC,aA,seval,oP]
     refine⟨eV pC,?_⟩
     subst hT
     exact⟨_,aL.refl _,rfl,qt2,_,_,nd6,h7.put (gl:=NG) (F:=F+26) rfl⟩
theorem a28(p:List Cl)(s:IS):iY p s.chs.length s=match s.chs.getLast? with
 | none=>none
 | some c=>if(iD p c.goal c.node c.rest c.list (s.pop c)).1=true then some (iD p c.goal c.node c.rest c.list (s.pop c)).2 else iY p (s.chs.length - 1) (iD p c.goal c.node c.rest c.list (s.pop c)).2:=by
 obtain⟨gl,σ,tr,chs,F,nn⟩:=s
 cases chs with
 | nil=>rfl
 | cons c l=>rw[aT,iY];try rfl
structure X5 (p:List Cl) (M:Nat) (st0:aB) (S c m:Nat) (q:List Tm) (idx:Bool) (fuel used:Int) (T:Option IS) (st:aB) (qt qc qn:AV) (mx:Int) (nd:List AV) (i:IS) (cs:List RC):Prop where
 s:dO st0 st S c m qt qc qn p q idx fuel used mx nd i
 r:jS i.fresh cs i.chs i.σ i.tr
 x:IX p M i
 t:iY p i.chs.length i=T
 n:i.chs.length≤524288∧i.nn≤524288
def X6(st0 st':aB)(S c m:Nat)(p:List Cl)(q:List Tm)(idx:Bool)(fuel used:Int)(r:AV):Option IS→Prop
 | some i'=>r=.int .i64 (-1)∧∃qt qc qn mx nd,dO st0 st' S c m qt qc qn p q idx fuel used mx nd i'
 | none=>r=.int .i64 0∧∃qt qc qn mx nd i',dO st0 st' S c m qt qc qn p q idx fuel used mx nd i'
abbrev KR:=zi tI_3 (zi zI_3 (zi aU (zi tI_40 (zi zI_40 (zi dT (zi fJ (zi fK (zi fU (zi tI_52 (zi zI_52 (zi bU (zi bV (zi bX (zi bY (zi bT (zi tI_150 (zi zI_150 (zi tI_178 (zi zI_178 (zi tI_180 (zi zI_180 (zi tI_181 (zi zI_181 (zi CG (zi MY (zi M0 (zi XU (zi tI_182 (zi zI_182 (zi E8 (zi MZ (zi M1 (zi XV (zi tI_184 (zi zI_184 (zi IT (zi IU (zi IY (zi IZ (zi I0 (zi I1 (zi I2 (zi I3 (zi I4 (zi I5 (zi IV (zi IW (zi H0 (zi tI_224 (zi zI_224 (zi aMX (zi aMY (zi aMZ (zi aM0 (zi aM1 (zi aM2 ZT))))))))))))))))))))))))))))))))))))))))))))))))))))))))
set_option maxHeartbeats 2000000 in
theorem R5{p:List Cl}(hp:∀c∈p,iC c∧c.2.length≤6){M:Nat}(hM:M≤16777216){st0:aB}{S c m:Nat}{q:List Tm}{idx:Bool}{fuel used:Int}{T:Option IS}(st:aB)(qt qc qn:AV)(mx:Int)(nd:List AV)(i:IS)(cs:List RC)
 (hI:X5 p M st0 S c m q idx fuel used T st qt qc qn mx nd i cs) :
 aD prog 153 [.ptr S 0] st (fun r st'=>X6 st0 st' S c m p q idx fuel used r T):=by
 refine aD.kS ?_
 refine wF [1000000] 1 func153 ntmps153 rfl rfl ?_
 intro _
 simp -implicitDefEqProofs only[aA,seval]
 refine iT (σ:=aB×AV×AV×AV×Int×List AV×IS×List RC) [1000000] [0] (fun x=>X5 p M st0 S c m q idx fuel used T x.1 x.2.1 x.2.2.1 x.2.2.2.1 x.2.2.2.2.1 x.2.2.2.2.2.1 x.2.2.2.2.2.2.1 x.2.2.2.2.2.2.2) (fun x=>[(2,.int .i64 0)]) (fun x=>x.1) (fun x=>x.2.2.2.2.2.2.1.chs.length) (by decide +kernel) ⟨(st,qt,qc,qn,mx,nd,i,cs),hI,aP.mk (by simp -implicitDefEqProofs only[aA,seval])⟩ ?_
 clear hI
 rintro⟨st,qt,qc,qn,mx,nd,i,cs⟩ ⟨hs,hr,hx,ht,hn1,hn2⟩
 simp only at hs hr hx ht hn1 hn2
 simp only
 obtain⟨gl,τ,tr,ch,F,nn⟩:=i
 obtain⟨t1,t2,t3,t4,t5⟩:=hs.sto.shape
 obtain⟨n1,n2,n3,n4,n5⟩:=hs.acC.shape
 obtain⟨m1,m2,m3,m4,m5⟩:=hs.acN.shape
 obtain⟨l1,l2,l3,l4,l5,l6⟩:=qQ gl
 have JR:prog.underlying 181=some (.slice 224):=by kernel_rfl
 have hlC:=hs.acC.len JR
 rw[aF] at hlC
 simp only at hlC hr hx ht hn1 hn2
 have gO:=hs.cell
 simp only[jC] at gO
 replace ht:=(a28 p ⟨gl,τ,tr,ch,F,nn⟩).symm.trans ht
 simp only at ht
 cases hr with
 | nil=>
  simp only[List.getLast?_nil] at ht
  subst ht
  simp only[aX] at hlC
  simp -implicitDefEqProofs only[gO,hlC,n1,xI,↓LK,List.contains,List.elem,tP,jK,sub,A9,↓reduceIte,reduceCtorEq,KR]
  refine aQ (fun h=>absurd h (by decide)) (fun h=>?_)
  simp -implicitDefEqProofs only[aA,seval]
  exact⟨st,aL.refl _,rfl,_,_,_,_,_,_,hs⟩
 | @snoc cs ds cR d _ _ C h1 h2=>
  obtain⟨hP,hMl,hnt,htn,htr,hli⟩:=hx.pop
  have e3:(IS.pop ⟨gl,τ,tr,ds++ [d],F,nn⟩ d)=⟨gl,τ.out (tr.drop d.fT),tr.take d.fT,ds,F,d.taken⟩:=by simp only[IS.pop,QJ]
  simp only[List.getLast?_append,List.getLast?_singleton,Option.some_or,e3] at ht
  obtain⟨bC,csC,rfl,hbC,a15,htk⟩:=hs.acC.at (VA _) (i:=ds.length) (e:=sW d) (by simp)
  have hlm:((ds++ [d]).map sW).length=ds.length+1:=by simp
  rw[hlm] at hs gO hlC
  have hSb:S≠bC:=fun e=>hs.parts.2.2.2.2.1 (by rw[e];simp [d5])
  have hdl:ds.length+1≤524288:=by simp only[dW,aT,aX] at hn1;omega
  have hw:IntKind.i64.wrap ((ds.length:Int)+1 - 1)=(ds.length:Int):=by rw[wrap64 (by omega) (by omega)];omega
  have a06:=CW (P:=prog) (b:=bC) (w:=9) (i:=ds.length) CG (len:=ds.length+1) (by omega)
  have v4:=fun(φ:AF) (dd:Nat) (h:φ dd=.int .i64 (ds.length:Int))=>WN (b:=bC) (n:=ds.length+1) (k:=ds.length) CG h (by omega)
  obtain⟨⟨dk,dn,ds',dts⟩,MW,MX,SX,IL,E7⟩:=d
  rw[aOV] at htk
  simp only at htn htr hnt hli hMl hP
  obtain⟨g1,g2,g3,g4,g5,g6⟩:=qQ MX
  have a2Z:(csC.drop (ds.length*9)).take 9= [.int .i64 dk,.int .i64 dn,.str ds',.slice (dts.map Tm.av),.int .i64 (MW:Int),eY MX,.slice (SX.map nv),.int .i64 (IL:Int),.int .i64 (E7:Int)]:=htk
  simp -implicitDefEqProofs only[dW,aT,aX,gO,hlC,aA,seval,KR]
  refine aQ (fun h=>?_) (fun h=>absurd h (by simp))
  simp -implicitDefEqProofs only[aK,dW,aT,aX,gO,hlC,hbC,a15,a2Z,a06,v4,hw,g5,aA,↓aS,seval,KR]
  have hs2:=hs.aBV (k:=ds.length) (gl:=gl) (by simp only[dW,aT,aX];omega) (cs:=jC c p q idx fuel used F (eY gl) (.mslice bC 0 ds.length 9) qn mx) rfl
  simp only[HC,jC] at hs2
  generalize aB.aC st S _=V at hs2 ⊢
  have sT:=hs2.cell
  simp only[jC,zS] at sT hs2
  have htl:=hs2.sto.fT
  refine wX [(0,1),(1,1),(2,1),(3,1),(4,1),(5,1),(6,2)] [0,1,2,3,4,5] _ mixed rfl (eV sT) ?_
  simp -implicitDefEqProofs only[wC,aA,seval,KR]
  refine(SL τ tr IL htr c m qt V hs2.sto (by have:=hx.XN;have:=hx.phi;simp only at *;omega)).mono ?_
  rintro _ s4 ⟨rfl,qt4,hS4,hb4,hf4⟩
  have hs4:=hs2.XO hS4 (fun b o hb e1 e2 _=>hf4 b o hb e1 e2) (fun b hb=>.inl (hb4 b hb))
  have UE:=hs4.cell
  simp only[jC] at UE
  obtain⟨q1,q2,q3,q4,q5⟩:=hs4.sto.shape
  have a1I:=fun(φ:AF) (dd:Nat) (h:φ dd=.int .i64 (E7:Int))=>aQT E8 hs4.acN h (by rw[hs4.ndl];exact htn)
  simp -implicitDefEqProofs only[aA,seval]
  have hAN:=hs4.acN.take (k:=E7) (by rw[hs4.ndl];exact htn) hs4.ndw
  obtain⟨e1',e2',e3',e4',e5'⟩:=hAN.shape
  have hs6:=hs4.aY5 (k:=E7) htn rfl
  simp only[jC] at hs6
  obtain⟨ρ,Sm,e1,hok,hG,e2⟩:=h1
  simp only at e1 e2
  have JQ:=aBK hp (show M≤268435456 by omega) hs6 (.mk dk dn ds' dts) MW MX SX Sm.g2 Sm.o2 (e1▸Sm.DL hok) hli (by omega) hnt hP hMl (by first | omega | (simp only;omega)) (by first | omega | (simp only;omega))
  simp only[a8] at JQ
  have JO:=P0 (fun c h=>(hp c h).1) (nn:=E7) (at':=MW) (tr:=tr.take IL) hok hG cR.left F gl Sm C
  rw[←e1,←e2] at JO
  refine wX [(0,1),(1,1),(2,1),(3,1),(4,1),(5,1),(6,1),(7,1),(8,1),(9,1),(10,2)] [0,1,2,3,4,5,6,7,8,9] _ mixed rfl (eV UE) ?_
  simp -implicitDefEqProofs only[aK,UE,a1I,e4',e5',m1,g1,g2,wC,aA,seval,KR]
  refine JQ.mono ?_
  rintro _ s7 ⟨rfl,qt7,qc7,mx7,nd7,hs7⟩
  simp -implicitDefEqProofs only[aA,seval]
  refine aQ (fun h=>?_) (fun h=>?_)
  · simp -implicitDefEqProofs only[aA,seval]
    rw[aH h] at ht
    subst ht
    exact⟨s7,aL.refl _,rfl,_,_,_,_,_,hs7⟩
  · rw[aE (by rw[h];simp)] at ht
    cases hrt:iG p cs cR.goal cR.rest cR.σ cR.N cR.left with
    | some s=>
     rw[e2,hrt] at JO
     obtain⟨i2,k1,_⟩:=JO
     rw[←e2] at k1
     rw[k1] at h
     cases h
    | none=>
     rw[e2,hrt] at JO
     obtain⟨F',hF,k1⟩:=JO
     rw[←e2] at k1
     have hX7:=N4 (fun c h=>(hp c h).1) (rest:=MX) SX _ hli (at':=MW) (by simp only;exact hnt) (by simp only;exact hMl) hP Sm.g2 Sm.o2 (e1▸Sm.DL hok)
     rw[k1] at hs7 ht hX7
     simp -implicitDefEqProofs only[aA,seval]
     refine⟨(s7,qt7,qc7,_,mx7,nd7,⟨gl,τ.out (tr.drop IL),tr.take IL,ds,F',E7⟩,cs),by simp only;omega,⟨hs7,C.mono hF,hX7,?_,by simp only;omega,by simp only;omega⟩,aP.mk (by simp -implicitDefEqProofs only[aA,seval])⟩
     simpa using ht
end Go.AW
namespace Go.AW
theorem IX.node{p:List Cl}{M:Nat}{i:IS}(h:IX p M i):IX p M { i with nn:=i.nn+1 }:=
 ⟨h.tnd,h.tin,h.phi,fun c hc=>by obtain⟨h1,h2,h3,h4⟩:=h.ch c hc;exact⟨h1,by simp only;omega,h3,h4⟩,h.mono⟩
theorem IX.more{p:List Cl}{M:Nat}{i:IS}{σ':Sub}{add:List Int}{gl:List IG}(h:IX p M i)(S:n8 (i.fresh:Int) i.σ σ' add):IX p M { i with goals:=gl,σ:=σ',tr:=i.tr++add }:=by
 refine⟨n6.2 ⟨h.tnd,S.nodup,fun a ha b hb e=>?_⟩,fun n hn=>?_,h.phi,fun c hc=>?_,h.mono⟩
 · subst e
   exact(h.tin a ha).2 (S.new a hb).1
 · simp only[eK] at hn
   rcases hn with hn | hn
   · have h1:=h.tin n hn
     have hna:n∉add:=fun ha=>h1.2 (S.new n ha).1
     exact⟨h1.1,by simp only;rw[S.a7 n hna];exact h1.2⟩
   · exact⟨S.gS n hn,(S.new n hn).2⟩
 · obtain⟨h1,h2,h3,h4⟩:=h.ch c hc
   exact⟨h1,h2,by simp only[dW];omega,h4⟩
theorem IX.cut{p:List Cl}{M:Nat}{i:IS}{gl:List IG}(h:IX p M i)(k:Nat):IX p M { i with goals:=gl,chs:=i.chs.take k }:=
 ⟨h.tnd,h.tin,by have:=aO7 i.chs k;have:=h.phi;simp only;omega,fun c hc=>h.ch c (mJ hc),h.mono.sublist (List.take_sublist _ _)⟩
def QX(p:List Cl)(M:Nat):yS→Prop
 | .go s=>IX p M s
 | .fail s=>IX p M s
 | .stop _=>True
theorem a3B{p:List Cl}(hp:∀c∈p,iC c)(hpl:p.length≤20){cnd:Tm→List Nat→List Nat}(hc:∀t l,(∀i∈cnd t l,i∈l)∧(cnd t l).length≤l.length){M:Nat}{i:IS}{g:IG}{rest:List IG}(h:IX p M i)(hg:cX i.σ)(ho:c9 (bP i.fresh) i.σ)(hgo:bP i.fresh g.t) :
 QX p (M+520) (mY p cnd i g rest):=by
 have hU:=h.up (M':=M+520) (by omega)
 unfold mY
 split
 · trivial
 rename_i g7
 have UL:eX (g.t.aN (rs i.σ))=true:=by simpa using g7
 have hok:=NB hg ho hgo UL
 generalize g.t.aN (rs i.σ)=t at *
 split
 · exact(hU.cut (gl:=rest) g.cut).node
 split
 · have S:=OY hg ho t.s t.ts fun x hx=>by
    obtain⟨k,n,s',ts⟩:=t
    by_cases hk:k=1
    · obtain⟨_,_,_,h2⟩:=(show cO i.fresh (.mk 1 n s' ts) from hk▸hok.1).var
      simp only[Tm.ts] at hx
      rw[h2] at hx;cases hx
    · exact s8 _ (.mk k n s' ts) hk hok x hx
   split
   · exact(hU.more (gl:=rest) S).node
   · split
     · exact(hU.more (gl:=i.goals) S).node
     · trivial
 split
 · trivial
 obtain⟨c1,c2⟩:=hc t (gA p t)
 have hfl:(gA p t).length≤p.length:=by
  have:=List.length_filter_le (fun j=>match p[j]? with | some c=>JH c t | none=>false) (List.range p.length)
  rw[LN] at this
  exact this
 have hr:∀x∈cnd t (gA p t),x<p.length:=fun x hx=>by
  have:=c1 x hx
  unfold gA at this
  exact yY.1 (List.mem_filter.1 this).1
 have hT:=N4 hp (rest:=rest) (cnd t (gA p t)) { i with nn:=i.nn+1 } hr (at':=i.nn) (by simp only;omega) (by have:=h.phi;simp only;omega) hU.node hg ho hok
 split
 · exact hT
 · exact hT
end Go.AW
namespace Go.AW
open Go.Proofs.Tryz
theorem aOU{p:List Cl}{goal:Tm}{at':Nat}{rest:List IG}:∀(l:List Nat) (s:IS),(iD p goal at' rest l s).1=false→∃F,(iD p goal at' rest l s).2= { s with fresh:=F }
 | [],s,_=>⟨s.fresh,by rw[iD.eq_def]⟩
 | j::l,s,h=>by
  rw[iD.eq_def] at h ⊢
  simp only at h ⊢
  split at h
  · exact⟨s.fresh,rfl⟩
  · split at h
    · cases h
    · rename_i hu
      rw[aE hu]
      obtain⟨F,e⟩:=aOU l { s with fresh:=s.fresh+26 } h
      exact⟨F,e⟩
theorem N5{p:List Cl}{goal:Tm}{at':Nat}{rest:List IG}:∀(l:List Nat) (s:IS),(iD p goal at' rest l s).2.nn=s.nn
 | [],s=>by rw[iD.eq_def]
 | j::l,s=>by
  rw[iD.eq_def]
  simp only
  split
  · rfl
  · split
    · rfl
    · exact N5 l { s with fresh:=s.fresh+26 }
theorem Rl.facts{s:RS}{i:IS}(h:Rl s i):cX i.σ∧c9 (bP i.fresh) i.σ∧i.chs.length=s.chs.length∧i.goals.length=s.goals.length:=by
 obtain⟨ρ,S,G,C⟩:=h
 have:=oC List.length G.1
 simp only[aF] at this
 exact⟨S.g2,S.o2,C.len,this⟩
theorem Rl.goal{s:RS}{i:IS}{h:IG}{hs:List IG}(hR:Rl s i)(hh:i.goals=h::hs):bP i.fresh h.t∧h.t.k=3∧∃g gs,s.goals=g::gs∧h.cut=g.a7:=by
 obtain⟨ρ,S,G,C⟩:=hR
 rw[hh] at G
 cases hg:s.goals with
 | nil=>rw[hg] at G;exact absurd G.1 (by simp)
 | cons g gs=>
  rw[hg] at G
  have he:=(List.cons.inj G.1).1
  simp only[Prod.mk.injEq] at he
  obtain⟨e1,e2⟩:=he
  obtain⟨h1,h2⟩:=G.2 g (by simp)
  rw[e1]
  exact⟨S.DL h1,by rw[AL];exact h2,g,gs,rfl,e2⟩
section
variable {p:List Cl} (hp:∀c∈p,iC c) {cnd:Tm→List Nat→List Nat} (hc:∀(ρ:Int→Int) (t:Tm) (l:List Nat),cnd (cC ρ t) l=cnd t l)
include hp hc
theorem Rl.step{s:RS}{i:IS}{h:IG}{hs:List IG}(hR:Rl s i)(hh:i.goals=h::hs):∃g gs,s.goals=g::gs∧match mY p cnd i h hs with
 | .stop e=>iF p cnd s g gs=.stop e
 | .go i'=>∃s',iF p cnd s g gs=.go s'∧Rl s' i'
 | .fail i'=>iF p cnd s g gs=.fail∧jS i'.fresh s.chs i'.chs i'.σ i'.tr:=by
 obtain⟨_,_,g,gs,hg,_⟩:=hR.goal hh
 obtain⟨h',hs',e,k⟩:=aQ7 hp hc hR hg
 rw[hh] at e
 cases e
 refine⟨g,gs,hg,?_⟩
 cases hr:iF p cnd s g gs with
 | stop e=>rw[hr] at k;simp only at k;rw[k]
 | go s'=>rw[hr] at k;simp only at k;obtain⟨i',e,k⟩:=k;rw[e];exact⟨s',rfl,k⟩
 | fail=>rw[hr] at k;simp only at k;obtain⟨i',e,k⟩:=k;rw[e];exact⟨rfl,k⟩
end
theorem a0P(p:List Cl)(t:Tm):(gA p t).length≤p.length:=by
 have:=List.length_filter_le (fun j=>match p[j]? with | some c=>JH c t | none=>false) (List.range p.length)
 rw[LN] at this
 exact this
theorem a0Q(p:List Cl)(t:Tm):∀x∈gA p t,x<p.length:=fun x hx=>by
 unfold gA at hx
 exact yY.1 (List.mem_filter.1 hx).1
theorem aOT{p:List Cl}{N:Nat}{i':IS}:∀(n:Nat) (i:IS),(∀c∈i.chs,c.taken≤N)→iY p n i=some i'→i'.nn≤N
 | 0,i,_,e=>by simp [iY] at e
 | n+1,i,h,e=>by
  rw[iY] at e
  split at e
  · cases e
  · rename_i c hl
    split at e
    · cases e
      rw[N5]
      exact h c (QR hl)
    · rename_i hf
      obtain⟨F,e2⟩:=aOU _ _ (by simpa using hf)
      rw[e2] at e
      exact aOT n _ (fun c hc=>h c (QK _ hc)) e
def QW(k:Nat):yS→Prop
 | .go s=>s.nn=k
 | .fail s=>s.nn=k
 | .stop _=>True
theorem a3C{p:List Cl}{cnd:Tm→List Nat→List Nat}{i:IS}{g:IG}{rest:List IG}:QW (i.nn+1) (mY p cnd i g rest):=by
 unfold mY
 split
 · trivial
 split
 · exact rfl
 split
 · split
   · exact rfl
   · split
     · exact rfl
     · trivial
 split
 · trivial
 split
 · exact N5 _ _
 · exact N5 _ _
def YI:yS→Prop
 | .stop e=>e≠-1
 | _=>True
theorem a3D{p:List Cl}{cnd:Tm→List Nat→List Nat}{i:IS}{g:IG}{rest:List IG}:YI (mY p cnd i g rest):=by
 unfold mY
 split
 · exact(by decide:(3:Int)≠-1)
 split
 · trivial
 split
 · split
   · trivial
   · split
     · trivial
     · show qN _≠-1
       unfold qN
       split
       · decide
       · split
         · decide
         · split<;>decide
 split
 · exact(by decide:(8:Int)≠-1)
 split<;>trivial
structure RI (p:List Cl) (B M k:Nat) (s:RS) (i:IS):Prop where
 r:Rl s i
 a:nH p B s
 x:IX p M i
 n:i.nn≤k
theorem RI.rN{p:List Cl}{B M k:Nat}{s:RS}{i:IS}(h:RI p B M k s i):i.chs.length≤B:=by rw[h.r.facts.2.2.1];exact h.a.a.rN
theorem RI.cr{p:List Cl}{B M k:Nat}{s:RS}{i:IS}(h:RI p B M k s i):jS i.fresh s.chs i.chs i.σ i.tr:=by obtain⟨_,_,_,C⟩:=h.r;exact C
theorem RI.cut{p:List Cl}{B M k:Nat}{s:RS}{i:IS}{g:IG}{gs:List IG}(h:RI p B M k s i)(hg:i.goals=g::gs):g.cut≤i.chs.length:=by
 obtain⟨_,_,g',gs',e,e2⟩:=h.r.goal hg
 rw[e2,h.r.facts.2.2.1]
 have:=h.a.k.goals.2 g' (by rw[e];simp)
 exact this
section
variable {p:List Cl} (hp:∀c∈p,iC c∧c.2.length≤6) (hpl:p.length≤20) {cnd:Tm→List Nat→List Nat} (hc:∀(ρ:Int→Int) (t:Tm) (l:List Nat),cnd (cC ρ t) l=cnd t l) (hd:∀t l,(∀i∈cnd t l,i∈l)∧(cnd t l).length≤l.length)
include hp
theorem RI.ZV{B M k:Nat}(hB:B≤524288){s:RS}{i i':IS}(ha:nH p B s)(hC:jS i.fresh s.chs i.chs i.σ i.tr)(hx:IX p M i)(hn:i.nn≤k)(e:iY p i.chs.length i=some i'):∃s',RI p B M k s' i':=by
 have hp1:=fun c h=>(hp c h).1
 have key:=RQ hp1 i.chs.length s.chs i hC
 cases hr:fM p i.chs.length s.chs with
 | none=>rw[hr] at key;simp only at key;rw[key] at e;cases e
 | some s'=>
  rw[hr] at key
  obtain⟨i2,e2,R⟩:=key
  rw[e2] at e
  cases e
  rw[hC.len] at hr
  exact⟨s',R,ha.back hp hB hr,aOS hp1 _ s.chs i hC hx i' e2,aOT _ i (fun c hc=>oZ (hx.ch c hc).2.1 hn) e2⟩
theorem RI.back{B M k:Nat}(hB:B≤524288){s:RS}{i i':IS}(h:RI p B M k s i)(e:iY p i.chs.length i=some i'):∃s',RI p B M k s' i':=
 RI.ZV hp hB h.a h.cr h.x h.n e
include hpl hc hd
theorem RI.step{B M k:Nat}(hB:B+26≤524288){s:RS}{i:IS}{g:IG}{gs:List IG}(h:RI p B M k s i)(hg:i.goals=g::gs):match mY p cnd i g gs with
 | .stop e=>True
 | .go i'=>∃s',RI p (B+26) (M+520) (k+1) s' i'
 | .fail i'=>jS i'.fresh s.chs i'.chs i'.σ i'.tr∧IX p (M+520) i'∧i'.nn≤k+1∧∀i2,iY p i'.chs.length i'=some i2→∃s',RI p (B+26) (M+520) (k+1) s' i2:=by
 have hp1:=fun c h=>(hp c h).1
 have hn:=a3C (p:=p) (cnd:=cnd) (i:=i) (g:=g) (rest:=gs)
 have hx:=a3B hp1 hpl hd (rest:=gs) h.x h.r.facts.1 h.r.facts.2.1 (h.r.goal hg).1
 obtain⟨g',gs',e,k⟩:=h.r.step hp1 hc hg
 have hk:=h.n
 cases hs:mY p cnd i g gs with
 | stop e=>trivial
 | go i'=>
  rw[hs] at hn hx k
  simp only[QW,QX] at hn hx k
  obtain⟨s',e1,R⟩:=k
  exact⟨s',R,h.a.step hp (by omega) hB hd e e1,hx,by omega⟩
 | fail i'=>
  rw[hs] at hn hx k
  simp only[QW,QX] at hn hx k
  obtain⟨e1,C⟩:=k
  exact⟨C,hx,by omega,fun i2 e2=>RI.ZV hp hB (h.a.up (by omega)) C hx (by omega) e2⟩
end
theorem RI.start{p:List Cl}{q:List Tm}(hq:∀t∈q,bP 26 t∧t.k=3)(h6:q.length≤6):RI p 26 26 0 (lL q) (pY q):=by
 refine⟨aQ6 hq,nH.start hq h6,⟨mK,fun n hn=>(by cases hn),(by show 26+26*qY []≤26;simp [qY]),fun c hc=>(by cases hc),List.Pairwise.nil⟩,dC _⟩
theorem a3A{p:List Cl}{cnd:Tm→List Nat→List Nat}{vars:List Int}{most fuel:Nat}{s:IS}(hg:s.goals= []):kM p cnd vars most fuel s=if most=0 then([],1) else match jW s.σ vars with
 | none=>([],3)
 | some a=>match iY p s.chs.length s with
  | none=>([a],0)
  | some s'=>(a::(kM p cnd vars (most - 1) fuel s').1,(kM p cnd vars (most - 1) fuel s').2):=by
 rw[kM.eq_def,hg]
 simp only
 split<;>rfl
theorem a29{p:List Cl}{cnd:Tm→List Nat→List Nat}{vars:List Int}{most fuel:Nat}{s:IS}{g:IG}{rest:List IG}(hg:s.goals=g::rest):kM p cnd vars most fuel s=if fuel=0 then([],2) else match mY p cnd s g rest with
 | .stop e=>([],e)
 | .go s'=>kM p cnd vars most (fuel - 1) s'
 | .fail s'=>match iY p s'.chs.length s' with
  | none=>([],0)
  | some s''=>kM p cnd vars most (fuel - 1) s'':=by
 rw[kM.eq_def,hg]
 simp only
 split<;>rfl
section
variable {st0 st:aB} {S c m:Nat} {qt qc qn:AV} {p:List Cl} {q:List Tm} {idx:Bool} {fuel used mx:Int} {nd:List AV} {i:IS}
theorem dO.acc{b:Nat}{l:List AV}(h:dO st0 st S c m qt qc qn p q idx fuel used mx nd i)(hb:l≠[]→st b=none):dO (aV st0 b l) (aV st b l) S c m qt qc qn p q idx fuel used mx nd i:=by
 cases l with
 | nil=>exact h
 | cons x l=>
  have hn:=hb (by simp)
  have hne:∀a∈kD S c m qt qc qn,aV st b (x::l) a=st a:=fun a ha=>nL (by rintro rfl;exact h.held a ha hn)
  have a2I:∀a∈kD S c m qt qc qn,aV st0 b (x::l) a=st0 a:=fun a ha=>nL (by rintro rfl;exact h.held a ha hn)
  refine⟨by rw[hne S (eO.2 (.inl rfl))];exact h.cell,h.sto.FS (hne c (eO.2 (.inr (.inl rfl)))) (hne m (eO.2 (.inr (.inr (.inl rfl))))) (fun b hb=>hne b (eO.2 (.inr (.inr (.inr (.inl hb)))))),
   h.acC.a7 fun b hb=>hne b (eO.2 (.inr (.inr (.inr (.inr (.inl hb)))))),h.acN.a7 fun b hb=>hne b (eO.2 (.inr (.inr (.inr (.inr (.inr hb)))))),h.ndl,h.ndw,h.dis,fun a ha=>by rw[a2I a ha];exact h.new a ha,fun a o ha=>?_⟩
  by_cases e:a=b
  · subst e
    rw[jD (by simp),aB.aJ] at ha ⊢
    exact ha
  · rw[nL e] at ha ⊢
    exact h.a7 a o ha
theorem dO.D1{b:Nat}{l:List AV}{st2:aB}(h:dO (aV st0 b l) st2 S c m qt qc qn p q idx fuel used mx nd i)(hb:l≠[]→st0 b=none):∃s,st2=aV s b l∧(l≠[]→s b=none)∧dO st0 s S c m qt qc qn p q idx fuel used mx nd i:=by
 cases l with
 | nil=>exact⟨st2,rfl,fun h=>absurd rfl h,h⟩
 | cons x l=>
  have hn:=hb (by simp)
  have h2:st2 b=some (.cells ((x::l).flatMap AV.cells)):=h.a7 b _ (by rw[jD (by simp),aB.aJ])
  have hbn:b∉kD S c m qt qc qn:=fun hm=>by
   have:=h.new b hm
   rw[jD (by simp),aB.aJ] at this
   cases this
  obtain⟨s',hs'⟩:∃s':aB,∀y,s' y=if y=b then none else st2 y:=⟨_,fun _=>rfl⟩
  have hne:∀a∈kD S c m qt qc qn,s' a=st2 a:=fun a ha=>by rw[hs',aE (by rintro rfl;exact hbn ha)]
  refine⟨s',?_,fun _=>by rw[hs',aH rfl],?_⟩
  · funext y
    by_cases e:y=b
    · subst e;rw[jD (by simp),aB.aJ,h2]
    · rw[nL e,hs',aE e]
  · refine⟨by rw[hne S (eO.2 (.inl rfl))];exact h.cell,h.sto.FS (hne c (eO.2 (.inr (.inl rfl)))) (hne m (eO.2 (.inr (.inr (.inl rfl))))) (fun b hb=>hne b (eO.2 (.inr (.inr (.inr (.inl hb)))))),
     h.acC.a7 fun b hb=>hne b (eO.2 (.inr (.inr (.inr (.inr (.inl hb)))))),h.acN.a7 fun b hb=>hne b (eO.2 (.inr (.inr (.inr (.inr (.inr hb)))))),h.ndl,h.ndw,h.dis,fun a ha=>?_,fun a o ha=>?_⟩
    · have:=h.new a ha
      rwa [nL (by rintro rfl;exact hbn ha)] at this
    · have e:a≠b:=by rintro rfl;rw[hn] at ha;cases ha
      rw[hs',aE e]
      exact h.a7 a o (by rw[nL e];exact ha)
theorem M9{st:aB}{b:Nat}{o:AO}(h:st b=none):eT st (st.aC b o):=fun x p hx=>by
 rw[aB.aG _ _ (by rintro rfl;rw[h] at hx;cases hx)];exact hx
theorem LA{S b:Nat}(hne:S≠b)(X Y:AO):∃s0:aB,s0 S=some X∧s0 b=some Y∧∀st:aB,st S=some X→st b=some Y→eT s0 st:=by
 refine⟨(one S X).aC b Y,by rw[aB.aG _ _ hne];exact wC,aB.aJ _ _ _,fun st h1 h2 x p hx=>?_⟩
 by_cases e:x=b
 · subst e;rw[aB.aJ] at hx;cases hx;exact h2
 · rw[aB.aG _ _ e] at hx;exact eV h1 x p hx
theorem dO.box{b:Nat}{o:AO}(h:dO st0 st S c m qt qc qn p q idx fuel used mx nd i)(hn:st b=none):dO (st0.aC b o) (st.aC b o) S c m qt qc qn p q idx fuel used mx nd i:=by
 have hne:∀(s:aB) a,a∈kD S c m qt qc qn→(s.aC b o) a=s a:=fun s a ha=>aB.aG _ _ (by rintro rfl;exact h.held a ha hn)
 refine⟨by rw[hne _ S (eO.2 (.inl rfl))];exact h.cell,h.sto.FS (hne _ c (eO.2 (.inr (.inl rfl)))) (hne _ m (eO.2 (.inr (.inr (.inl rfl))))) (fun b hb=>hne _ b (eO.2 (.inr (.inr (.inr (.inl hb)))))),
  h.acC.a7 fun b hb=>hne _ b (eO.2 (.inr (.inr (.inr (.inr (.inl hb)))))),h.acN.a7 fun b hb=>hne _ b (eO.2 (.inr (.inr (.inr (.inr (.inr hb)))))),h.ndl,h.ndw,h.dis,fun a ha=>by rw[hne _ a ha];exact h.new a ha,fun a o' ha=>?_⟩
 by_cases e:a=b
 · subst e
   rw[aB.aJ] at ha ⊢
   exact ha
 · rw[aB.aG _ _ e] at ha ⊢
   exact h.a7 a o' ha
theorem dO.unbox{b:Nat}{o:AO}(h:dO (st0.aC b o) st S c m qt qc qn p q idx fuel used mx nd i)(hn:st0 b=none):dO st0 st S c m qt qc qn p q idx fuel used mx nd i:=by
 refine⟨h.cell,h.sto,h.acC,h.acN,h.ndl,h.ndw,h.dis,fun a ha=>?_,fun a o' ha=>?_⟩
 · have:=h.new a ha
   by_cases e:a=b
   · subst e;exact hn
   · rwa [aB.aG _ _ e] at this
 · have e:a≠b:=by rintro rfl;rw[hn] at ha;cases ha
   exact h.a7 a o' (by rw[aB.aG _ _ e];exact ha)
end
end Go.AW
