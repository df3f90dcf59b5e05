import Derived.Test.YtlepdbmhjkmelaaGreatDoorWqo
import Derived.Test.YtlepdbmhjkmelaaGreatDoorWqm
import Derived.Test.YtlepdbmhjkmelaaGreatDoorWqn
import Derived.Test.YtlepdbmhjkmelaaGreatDoorWqk
import Derived.Test.YtlepdbmhjkmelaaGreatDoorWql
import Derived.Shelf.LaysM
import Derived.Shelf.Strconv.Itoa3
set_option linter.unusedSimpArgs false
set_option linter.unusedVariables false
set_option maxRecDepth 100000
namespace Go.AW
open Go.Proofs.Tryz
def eT:List IG→AV
 | []=>.nilptr
 | ⟨.mk k n s ts,cut,up⟩::l=>.pptr (.agg [.int .i64 k,.int .i64 n,.str s,.slice (ts.map Tm.av),.int .i64 (cut:Int),.int .i64 up,eT l])
theorem t8(k n:Int)(s:ByteArray)(ts:List Tm)(cut:Nat)(up:Int)(l:List IG):eT (⟨.mk k n s ts,cut,up⟩::l)=.pptr (.agg [.int .i64 k,.int .i64 n,.str s,.slice (ts.map Tm.av),.int .i64 (cut:Int),.int .i64 up,eT l]):=by rw[eT]
theorem pW(l:List IG):(eT l).isAgg=false∧(eT l).width=1∧(eT l).bV=false∧(eT l).cells= [eT l]∧(eT l).storable=true∧(eT l).soft=eT l:=by
 cases l with
 | nil=>rw[eT];exact⟨rfl,rfl,rfl,rfl,rfl,rfl⟩
 | cons g l=>obtain⟨⟨k,n,s,ts⟩,cut,up⟩:=g;rw[t8];exact⟨rfl,rfl,rfl,rfl,rfl,rfl⟩
abbrev aPO:=zi aX (zi cI (zi cC (zi FE U6)))
theorem P3(bd:List Tm)(cut:Nat)(up:Int)(rest:List IG)(hl:bd.length≤1048576)(st:aA) :
 aD prog 174 [.slice (bd.map Tm.av),.int .i64 (cut:Int),.int .i64 up,eT rest] st (fun r st'=>r=eT (bd.map (fun t=>(⟨t,cut,up⟩:IG))++rest)∧st'=st):=by
 obtain⟨r1,r2,r3,r4,r5,r6⟩:=pW rest
 refine aD.done ?_
 refine wF [1000000] 4 func174 ntmps174 rfl rfl ?_
 intro _
 have hw0:=aZ (n:=(bd.length:Int) - 1)
 simp only[aE,hw0,aB,seval,aPO]
 refine oI (σ:=Nat) [1000000] [0,1,2,8] (fun j=>j≤bd.length) (fun j=>[(3,eT ((bd.drop j).map (fun t=>(⟨t,cut,up⟩:IG))++rest)),(9,.int .i64 ((j:Int) - 1))]) (fun _=>st) (fun j=>j) (by decide +kernel) ⟨bd.length,cZ _,aP.mk (by simp only[iA,bS,eE,aB,seval])⟩ ?_
 intro j hj
 cases j with
 | zero=>
  rw[tH]
  obtain⟨s1,s2,s3,s4,s5,s6⟩:=pW (bd.map (fun t=>(⟨t,cut,up⟩:IG))++rest)
  simp only[wR,↓I9,List.contains,List.elem,↓reduceIte,reduceCtorEq,Nat.reduceEqDiff]
  refine aQ (fun h=>absurd h (by simp)) (fun h=>?_)
  simp only[aB,seval]
  exact⟨s6,aO.refl _⟩
 | succ j=>
 obtain⟨s1,s2,s3,s4,s5,s6⟩:=pW ((bd.drop (j+1)).map (fun t=>(⟨t,cut,up⟩:IG))++rest)
 obtain⟨x,hx⟩:∃x,bd[j]?=some x:=⟨_,eK (by omega)⟩
 have hat:=bH (av:=Tm.av) (P:=prog) bY hx (aT x)
 have hdr:bd.drop j=x::bd.drop (j+1):=by
  obtain⟨h1,h2⟩:=fC.1 hx
  rw[oM h1,h2]
 have hc:((j+1:Nat):Int) - 1=(j:Int):=by omega
 have hw:=aZ (n:=(j:Int) - 1)
 have hnx:eT ((bd.drop j).map (fun t=>(⟨t,cut,up⟩:IG))++rest)=.pptr (.agg (x.av.cells++ [.int .i64 (cut:Int),.int .i64 up,eT ((bd.drop (j+1)).map (fun t=>(⟨t,cut,up⟩:IG))++rest)])):=by
  rw[hdr]
  obtain⟨k,n,s,ts⟩:=x
  rw[bR,gR,t8,bD]
  try rfl
 generalize eT ((bd.drop (j+1)).map (fun t=>(⟨t,cut,up⟩:IG))++rest)=A at *
 obtain⟨k,n,s,ts⟩:=x
 simp only[bD] at hat hnx
 rw[hc]
 simp only[aB,seval]
 refine aQ (fun h=>?_) (fun h=>absurd h (by simp))
 simp only[s3,s4,hat,hw,aB,seval,aPO]
 trace_state
 refine⟨j,by omega,by omega,aP.mk (by rw[hnx];simp only[aB,seval])⟩
theorem aT7(c:Int)(st:aA):aD prog 189 [.int .i64 c] st (fun r st'=>r=.int .i64 (sL c)∧st'=st):=by
 refine aD.done ?_
 refine wF [1000000] 1 func189 ntmps189 rfl rfl ?_
 intro _
 simp only[aB,seval]
 unfold sL
 refine aQ (fun h=>?_) (fun h=>?_)
 · simp only[aB,seval]
   have h':c=2:=by simpa using h
   exact⟨by rw[aN h'];try rfl,aO.refl _⟩
 rw[aK (show ¬c=2 by simpa using h)]
 simp only[aB,seval]
 refine aQ (fun h=>?_) (fun h=>?_)
 · simp only[aB,seval]
   have h':c=3:=by simpa using h
   exact⟨by rw[aN h'];try rfl,aO.refl _⟩
 rw[aK (show ¬c=3 by simpa using h)]
 simp only[aB,seval]
 refine aQ (fun h=>?_) (fun h=>?_)
 · simp only[aB,seval]
   have h':c=4:=by simpa using h
   exact⟨by rw[aN h'];try rfl,aO.refl _⟩
 rw[aK (show ¬c=4 by simpa using h)]
 simp only[aB,seval]
 exact⟨rfl,aO.refl _⟩
abbrev a9P:=zi d9 (zi cI (zi cC U7))
theorem YY(k n:Int)(s:ByteArray)(ts:List Tm)(st:aA):aD prog 191 [(Tm.mk k n s ts).av] st (fun r st'=>r=.agg [.str s,.int .i64 (ts.length:Int)]∧st'=st):=by
 refine aD.done ?_
 simp only[bD]
 refine wF [1000000] 1 func191 ntmps191 rfl rfl ?_
 intro _
 simp only[aM,aE,aB,seval,a9P]
 intro b2 h2
 exact⟨by simp only[vP,y8,BS,bR,bS],(aO.refl _).aC h2⟩
abbrev IN:=zi aX (zi gL (zi cC (zi kX (zi iP U7))))
theorem aT3(p:List Cl)(t:Tm)(hp:p.length≤1048576)(st:aA):aD prog 190 [.slice (p.map aG),.agg [.str t.s,.int .i64 (t.ts.length:Int)]] st (fun r st'=>r=.slice ((eS p t).map nv)∧st'=st):=by
 rw[LA]
 refine aD.done ?_
 obtain⟨tk,tn,ts',tts⟩:=t
 simp only[Tm.s,Tm.ts]
 refine wF [1000000] 2 func190 ntmps190 rfl rfl ?_
 intro _
 simp only[aE,aB,seval,IN]
 refine vY (σ:=Unit) [1000000] [3,4,8,9] p 1 5 (fun i _=>((List.range i).filter (qW p (.mk tk tn ts' tts))).map nv) (fun _ _=>True) (fun i _=>[(10,.int .i64 i)]) (fun _ _=>st) (fun i _ _ e he=>by simp only[cF] at he;obtain⟨t,_,rfl⟩:=he;exact⟨rfl,rfl⟩) (by decide +kernel) ⟨(),0,trivial,fun h=>absurd rfl h,aP.mk (by simp only[lT,List.range_zero,List.filter_nil,bS,aB,↓aW,seval])⟩ (fun i x _ b hx hlt a7 hdr hinv hb=>?_) (fun _ b hge hinv=>?_)
 case refine_2=>
  simp only[hge,gW,iC,nE,DJ,lF,aB,seval]
  exact⟨rfl,aO.refl _⟩
 have hw:=aZ (n:=(i:Int)+1)
 have hst:=aKF p (.mk tk tn ts' tts) i
 have hln:=LB p (.mk tk tn ts' tts) i
 have hat:=bH (av:=aG) (P:=prog) lD hx (fQ x)
 obtain⟨⟨k,n,s',ts⟩,bd⟩:=x
 rw[mQ] at hat
 have hP:qW p (.mk tk tn ts' tts) i=(decide (s'=ts')&&decide ((ts.length:Int)=(tts.length:Int))):=by unfold qW;rw[hx];try rfl
 rw[hP] at hst
 have hpr:=fun st=>YY k n s' ts st
 have a2Z:eG prog .eql 232 (.agg [.str s',.int .i64 (ts.length:Int)]) (.agg [.str ts',.int .i64 (tts.length:Int)])=some (.bool (decide (s'=ts')&&decide ((ts.length:Int)=(tts.length:Int)))):=by
  have h:KT prog 232=true:=by kernel_rfl
  simp only[eG,h,and_self,dV]
 simp only[bD] at hpr
 simp only[a7,hat,aB,↓aW,seval,IN]
 refine wP [(0,1),(1,2),(2,2),(3,2),(4,1)] [0,1,2,3,4] mixed ?_
 simp only[aB,seval,IN]
 refine iD (hpr _) ?_
 simp only[a2Z,aB,seval,IN]
 refine aQ (fun h2=>?_) (fun h2=>?_)
 · rw[aN h2] at hst
   simp only[aB,seval,IN]
   refine gA iL DE AK rfl rfl (g8 rfl rfl) (SS _) hb (by simp only[aE,a8,bG];omega) (by simp only[aE,a8,bG];omega) (fun b' hb'=>?_)
   rw[show ∀l:List Nat,l.map nv++ [AV.int .i64 (i:Int)]=(l++ [i]).map nv from fun l=>by simp [nv],←hst] at hb' ⊢
   simp only[hw,aB,seval]
   exact⟨(),b',hb',aP.mk (by simp only[aB,seval])⟩
 · rw[aK (by rw[h2];simp),eU] at hst
   rw[←hst] at hb ⊢
   simp only[hw,aB,seval]
   exact⟨(),b,hb,aP.mk (by simp only[aB,seval])⟩
def sQ:IC→AV
 | ⟨.mk k n s ts,node,rest,list,fK,taken⟩=>.agg [.int .i64 k,.int .i64 n,.str s,.slice (ts.map Tm.av),.int .i64 (node:Int),eT rest,.slice (list.map nv),.int .i64 (fK:Int),.int .i64 (taken:Int)]
theorem aLR(k n:Int)(s:ByteArray)(ts:List Tm)(node:Nat)(rest:List IG)(list:List Nat)(fK taken:Nat):sQ ⟨.mk k n s ts,node,rest,list,fK,taken⟩=.agg [.int .i64 k,.int .i64 n,.str s,.slice (ts.map Tm.av),.int .i64 (node:Int),eT rest,.slice (list.map nv),.int .i64 (fK:Int),.int .i64 (taken:Int)]:=rfl
theorem a4M(c:IC):(sQ c).width=9:=by obtain⟨⟨k,n,s,ts⟩,_,_,_,_,_⟩:=c;rfl
theorem SH(l:List IC):∀e∈l.map sQ,e.width=9:=by intro e he;simp only[cF] at he;obtain⟨t,_,rfl⟩:=he;exact a4M t
theorem a4L(c:IC):(sQ c).cells.all AV.storable=true:=by
 obtain⟨⟨k,n,s,ts⟩,_,rest,_,_,_⟩:=c
 rw[aLR]
 have:=(pW rest).2.2.2.2.1
 rw[fU]
 intro e he
 simp only[AV.cells,cG,cX,dG] at he
 rcases he with rfl | rfl | rfl | rfl | rfl | rfl | rfl | rfl | rfl<;>first | rfl | exact this
def g9(c:Nat)(p:List Cl)(q:List Tm)(idx:Bool)(fuel used fresh:Int)(gl qc qn:AV)(mx:Int):List AV:=
 [.ptr c 0,.slice (p.map aG),.slice (q.map Tm.av),.bool idx,.bool false,.int .i64 fuel,.int .i64 used,.int .i64 fresh,gl,qc,qn,.int .i64 mx]
def iW(S c m:Nat)(qt qc qn:AV):List Nat:=[S,c,m]++dQ qt++bU qc++bU qn
theorem a8U(q:AV):dQ q=bU q:=by cases q<;>rfl
theorem SY(q:AV):(bU q).Nodup:=by cases q<;>simp [bU]
structure dL (st0 st:aA) (S c m:Nat) (qt qc qn:AV) (p:List Cl) (q:List Tm) (idx:Bool) (fuel used mx:Int) (nd:List AV) (i:IS):Prop where
 cell:st S=some (.cells (g9 c p q idx fuel used i.fresh (eT i.goals) qc qn mx))
 sto:gG st c m qt i.σ i.tr
 acC:dY st 9 qc (i.chs.map sQ)
 acN:dY st 6 qn nd
 ndl:nd.length=i.nn
 ndw:∀e∈nd,e.width=6
 dis:(iW S c m qt qc qn).Nodup
 new:∀b∈iW S c m qt qc qn,st0 b=none
 aU:∀b o,st0 b=some o→st b=some o
theorem eM{b S c m:Nat}{qt qc qn:AV}:b∈iW S c m qt qc qn↔b=S∨b=c∨b=m∨b∈dQ qt∨b∈bU qc∨b∈bU qn:=by
 simp only[iW,eL,cG,cX,dG,or_assoc]
section
variable {st0 st:aA} {S c m:Nat} {qt qc qn:AV} {p:List Cl} {q:List Tm} {idx:Bool} {fuel used mx:Int} {nd:List AV} {i:IS}
theorem dL.held(h:dL st0 st S c m qt qc qn p q idx fuel used mx nd i):∀b∈iW S c m qt qc qn,st b≠none:=fun b hb=>by
 rcases eM.1 hb with rfl | rfl | rfl | hb | hb | hb
 · rw[h.cell];simp
 · rw[h.sto.sub.cells];simp
 · rw[h.sto.sub.map];simp
 · obtain⟨cs,e⟩:=h.sto.IF b hb;rw[e];simp
 · obtain⟨cs,e⟩:=h.acC.some b hb;rw[e];simp
 · obtain⟨cs,e⟩:=h.acN.some b hb;rw[e];simp
theorem dL.kH(h:dL st0 st S c m qt qc qn p q idx fuel used mx nd i):aO st st0:=fun b=>by
 refine⟨fun e=>?_,h.aU b⟩
 cases hb:st0 b with
 | none=>rfl
 | some o=>rw[h.aU b o hb] at e;cases e
theorem dL.aKJ(h:dL st0 st S c m qt qc qn p q idx fuel used mx nd i){b:Nat}(hb:st b=none):st0 b=none:=(h.kH b).1 hb
theorem dL.parts(h:dL st0 st S c m qt qc qn p q idx fuel used mx nd i):S≠c∧S≠m∧c≠m∧S∉dQ qt∧S∉bU qc∧S∉bU qn∧c∉dQ qt∧c∉bU qc∧c∉bU qn∧m∉dQ qt∧m∉bU qc∧m∉bU qn∧(∀b∈dQ qt,b∉bU qc∧b∉bU qn)∧∀b∈bU qc,b∉bU qn:=by
 have hd:=h.dis
 simp only[iW,mA,FS,cG,cX,dG,jI,eL] at hd
 obtain⟨⟨⟨⟨⟨h1,h2⟩,h3,_⟩,h4,h5⟩,h6,h7⟩,h8,h9⟩:=hd
 refine⟨h1,h2,h3,fun hb=>h5 _ (.inl rfl) _ hb rfl,fun hb=>h7 _ (.inl (.inl rfl)) _ hb rfl,fun hb=>h9 _ (.inl (.inl (.inl rfl))) _ hb rfl,
  fun hb=>h5 _ (.inr (.inl rfl)) _ hb rfl,fun hb=>h7 _ (.inl (.inr (.inl rfl))) _ hb rfl,fun hb=>h9 _ (.inl (.inl (.inr (.inl rfl)))) _ hb rfl,
  fun hb=>h5 _ (.inr (.inr rfl)) _ hb rfl,fun hb=>h7 _ (.inl (.inr (.inr rfl))) _ hb rfl,fun hb=>h9 _ (.inl (.inl (.inr (.inr rfl)))) _ hb rfl,
  fun b hb=>⟨fun h'=>h7 b (.inr hb) b h' rfl,fun h'=>h9 b (.inl (.inr hb)) b h' rfl⟩,fun b hb h'=>h9 b (.inr hb) b h' rfl⟩
theorem SR{X A A' Y:List Nat}(h:(X++A++Y).Nodup)(hA:A'.Nodup)(hn:∀b∈A',b∈A∨b∉X++A++Y):(X++A'++Y).Nodup:=by
 simp only[mA,eL] at h ⊢
 obtain⟨⟨hX,hA0,hXA⟩,hY,hXY⟩:=h
 refine⟨⟨hX,hA,fun a ha b hb e=>?_⟩,hY,fun a ha b hb e=>?_⟩
 · subst e
   rcases hn a hb with h | h
   · exact hXA a ha a h rfl
   · simp only[eL,jI] at h;exact h.1.1 ha
 · subst e
   rcases ha with ha | ha
   · exact hXY a (.inl ha) a hb rfl
   · rcases hn a ha with h | h
     · exact hXY a (.inr h) a hb rfl
     · simp only[eL,jI] at h;exact h.2 hb
theorem dL.go{st':aA}{qt' qc' qn':AV}{fuel' used' mx':Int}{nd':List AV}{i':IS}(h:dL st0 st S c m qt qc qn p q idx fuel used mx nd i)
 (cell:st' S=some (.cells (g9 c p q idx fuel' used' i'.fresh (eT i'.goals) qc' qn' mx'))) (sto:gG st' c m qt' i'.σ i'.tr) (acC:dY st' 9 qc' (i'.chs.map sQ)) (acN:dY st' 6 qn' nd') (ndl:nd'.length=i'.nn) (ndw:∀e∈nd',e.width=6)
 (dis:(iW S c m qt' qc' qn').Nodup) (new:∀b∈iW S c m qt' qc' qn',b∈iW S c m qt qc qn∨st b=none) (frame:∀b o,st b=some o→b∉iW S c m qt qc qn→st' b=some o) :
 dL st0 st' S c m qt' qc' qn' p q idx fuel' used' mx' nd' i':=
 ⟨cell,sto,acC,acN,ndl,ndw,dis,fun b hb=>by
  rcases new b hb with h1 | h1
  · exact h.new b h1
  · exact h.aKJ h1,fun b o hb=>frame b o (h.aU b o hb) fun hm=>by rw[h.new b hm] at hb;cases hb⟩
theorem dL.put{fuel' used' mx':Int}{gl:List IG}{F:Nat}{cs:List AV}(h:dL st0 st S c m qt qc qn p q idx fuel used mx nd i)(hcs:cs=g9 c p q idx fuel' used' F (eT gl) qc qn mx') :
 dL st0 (st.aC S (.cells cs)) S c m qt qc qn p q idx fuel' used' mx' nd { i with goals:=gl,fresh:=F }:=by
 obtain⟨h1,h2,h3,h4,h5,h6,_⟩:=h.parts
 subst hcs
 refine h.go (aA.aJ _ _ _) (h.sto.aC h1 h2 h4) (h.acC.aU fun b hb=>aA.aF _ _ (by rintro rfl;exact h5 hb)) (h.acN.aU fun b hb=>aA.aF _ _ (by rintro rfl;exact h6 hb)) h.ndl h.ndw h.dis (fun b hb=>.inl hb) fun b o hb hn=>?_
 rw[aA.aF _ _ (by rintro rfl;exact hn (eM.2 (.inl rfl)))]
 exact hb
theorem dL.FI{st':aA}{qt':AV}{σ':Sub}{tr':List Int}(h:dL st0 st S c m qt qc qn p q idx fuel used mx nd i)(hS:gG st' c m qt' σ' tr')(hf:∀b o,st b=some o→b≠c→b≠m→b∉dQ qt→st' b=some o)(hn:∀b∈dQ qt',b∈dQ qt∨st b=none) :
 dL st0 st' S c m qt' qc qn p q idx fuel used mx nd { i with σ:=σ',tr:=tr' }:=by
 obtain⟨h1,h2,h3,h4,h5,h6,h7,h8,h9,h10,h11,h12,h13,h14⟩:=h.parts
 have hC:∀b∈bU qc,st' b=st b:=fun b hb=>by
  obtain⟨cs,e⟩:=h.acC.some b hb
  rw[e,hf b _ e (by rintro rfl;exact h8 hb) (by rintro rfl;exact h11 hb) (fun hb'=>(h13 b hb').1 hb)]
 have hN:∀b∈bU qn,st' b=st b:=fun b hb=>by
  obtain⟨cs,e⟩:=h.acN.some b hb
  rw[e,hf b _ e (by rintro rfl;exact h9 hb) (by rintro rfl;exact h12 hb) (fun hb'=>(h13 b hb').2 hb)]
 refine h.go (hf S _ h.cell h1 h2 h4) hS (h.acC.aU hC) (h.acN.aU hN) h.ndl h.ndw ?_ (fun b hb=>?_) (fun b o hb hn'=>?_)
 · have hd:=h.dis
   unfold iW at hd ⊢
   rw[kC] at hd ⊢
   refine SR hd (by rw[a8U];exact SY _) fun b hb=>?_
   rcases hn b hb with h' | h'
   · exact .inl h'
   · refine .inr fun hm=>h.held b ?_ h'
     unfold iW;rw[kC];exact hm
 · rcases eM.1 hb with rfl | rfl | rfl | hb | hb | hb
   · exact .inl (eM.2 (.inl rfl))
   · exact .inl (eM.2 (.inr (.inl rfl)))
   · exact .inl (eM.2 (.inr (.inr (.inl rfl))))
   · rcases hn b hb with h' | h'
     · exact .inl (eM.2 (.inr (.inr (.inr (.inl h')))))
     · exact .inr h'
   · exact .inl (eM.2 (.inr (.inr (.inr (.inr (.inl hb))))))
   · exact .inl (eM.2 (.inr (.inr (.inr (.inr (.inr hb))))))
 · have:=fun x=>hn' (eM.2 x)
   exact hf b o hb (by rintro rfl;exact this (.inr (.inl rfl))) (by rintro rfl;exact this (.inr (.inr (.inl rfl)))) fun hb'=>this (.inr (.inr (.inr (.inl hb'))))
theorem dL.post{st':aA}{σ':Sub}{tr':List Int}(h:dL st0 st S c m qt qc qn p q idx fuel used mx nd i)(hP:wA c m st qt σ' tr' st'):∃qt',dL st0 st' S c m qt' qc qn p q idx fuel used mx nd { i with σ:=σ',tr:=tr' }:=by
 obtain⟨q',hS,hQ⟩:=hP
 exact⟨q',h.FI hS (fun b o hb h1 h2 h3=>hQ.frame b o hb h1 h2 h3) hQ.fresh⟩
end
theorem gG.D1{st st':aA}{c m:Nat}{q:AV}{σ:Sub}{tr:List Int}(h:gG st c m q σ tr)(hc:st' c=st c)(hm:st' m=st m)(ht:∀b∈dQ q,st' b=st b):gG st' c m q σ tr:=by
 refine⟨⟨by rw[hc];exact h.sub.cells,by rw[hm];exact h.sub.map⟩,?_,h.apart⟩
 rcases h.fK with h1 | ⟨b,cs,h1,h2,h3⟩
 · exact .inl h1
 · exact .inr ⟨b,cs,h1,by rw[ht b (by rw[h1];simp [dQ])];exact h2,h3⟩
section
variable {st0 st:aA} {S c m:Nat} {qt qc qn:AV} {p:List Cl} {q:List Tm} {idx:Bool} {fuel used mx:Int} {nd:List AV} {i:IS}
theorem dL.a66{st':aA}{qc':AV}{ZO:List IC}{cs:List AV}(h:dL st0 st S c m qt qc qn p q idx fuel used mx nd i)(uA:dY st' 9 qc' (ZO.map sQ))(hf:∀y,y∉bU qc→y∉bU qc'→st' y=st y)(hn:∀y∈bU qc',y∈bU qc∨st y=none)
 (hcs:cs=g9 c p q idx fuel used i.fresh (eT i.goals) qc' qn mx):dL st0 (st'.aC S (.cells cs)) S c m qt qc' qn p q idx fuel used mx nd { i with chs:=ZO }:=by
 obtain⟨h1,h2,h3,h4,h5,h6,h7,h8,h9,h10,h11,h12,h13,h14⟩:=h.parts
 have same:∀b,st b≠none→b∉bU qc→st' b=st b:=fun b hb hq=>hf b hq fun hq'=>by
  rcases hn b hq' with h' | h'
  · exact hq h'
  · exact hb h'
 have hS:S∉bU qc':=fun hb=>by
  rcases hn S hb with h' | h'
  · exact h5 h'
  · rw[h.cell] at h';cases h'
 subst hcs
 have held:=fun b x=>h.held b (eM.2 x)
 refine h.go (aA.aJ _ _ _) (h.sto.D1 ?_ ?_ fun b hb=>?_) (uA.aU fun b hb=>aA.aF _ _ (by rintro rfl;exact hS hb)) (h.acN.aU fun b hb=>?_) h.ndl h.ndw ?_ (fun b hb=>?_) fun b o hb hn'=>?_
 · rw[aA.aF _ _ (dA h1)];exact same c (held c (.inr (.inl rfl))) h8
 · rw[aA.aF _ _ (dA h2)];exact same m (held m (.inr (.inr (.inl rfl)))) h11
 · rw[aA.aF _ _ (by rintro rfl;exact h4 hb)];exact same b (held b (.inr (.inr (.inr (.inl hb))))) (h13 b hb).1
 · rw[aA.aF _ _ (by rintro rfl;exact h6 hb)];exact same b (held b (.inr (.inr (.inr (.inr (.inr hb)))))) fun h'=>h14 b h' hb
 · have hd:=h.dis
   unfold iW at hd ⊢
   refine SR hd (SY _) fun b hb=>?_
   rcases hn b hb with h' | h'
   · exact .inl h'
   · refine .inr fun hm=>h.held b ?_ h'
     unfold iW;exact hm
 · rcases eM.1 hb with rfl | rfl | rfl | hb | hb | hb
   · exact .inl (eM.2 (.inl rfl))
   · exact .inl (eM.2 (.inr (.inl rfl)))
   · exact .inl (eM.2 (.inr (.inr (.inl rfl))))
   · exact .inl (eM.2 (.inr (.inr (.inr (.inl hb)))))
   · rcases hn b hb with h' | h'
     · exact .inl (eM.2 (.inr (.inr (.inr (.inr (.inl h'))))))
     · exact .inr h'
   · exact .inl (eM.2 (.inr (.inr (.inr (.inr (.inr hb))))))
 · have hno:=fun x=>hn' (eM.2 x)
   rw[aA.aF _ _ (by rintro rfl;exact hno (.inl rfl)),same b (by rw[hb];simp) fun h'=>hno (.inr (.inr (.inr (.inr (.inl h')))))]
   exact hb
theorem dL.a67{st':aA}{qn':AV}{nd':List AV}{n':Nat}{cs:List AV}(h:dL st0 st S c m qt qc qn p q idx fuel used mx nd i)(uA:dY st' 6 qn' nd')(hl:nd'.length=n')(hw:∀e∈nd',e.width=6)(hf:∀y,y∉bU qn→y∉bU qn'→st' y=st y)(hn:∀y∈bU qn',y∈bU qn∨st y=none)
 (hcs:cs=g9 c p q idx fuel used i.fresh (eT i.goals) qc qn' mx):dL st0 (st'.aC S (.cells cs)) S c m qt qc qn' p q idx fuel used mx nd' { i with nn:=n' }:=by
 obtain⟨h1,h2,h3,h4,h5,h6,h7,h8,h9,h10,h11,h12,h13,h14⟩:=h.parts
 have same:∀b,st b≠none→b∉bU qn→st' b=st b:=fun b hb hq=>hf b hq fun hq'=>by
  rcases hn b hq' with h' | h'
  · exact hq h'
  · exact hb h'
 have hS:S∉bU qn':=fun hb=>by
  rcases hn S hb with h' | h'
  · exact h6 h'
  · rw[h.cell] at h';cases h'
 subst hcs
 have held:=fun b x=>h.held b (eM.2 x)
 refine h.go (aA.aJ _ _ _) (h.sto.D1 ?_ ?_ fun b hb=>?_) (h.acC.aU fun b hb=>?_) (uA.aU fun b hb=>aA.aF _ _ (by rintro rfl;exact hS hb)) hl hw ?_ (fun b hb=>?_) fun b o hb hn'=>?_
 · rw[aA.aF _ _ (dA h1)];exact same c (held c (.inr (.inl rfl))) h9
 · rw[aA.aF _ _ (dA h2)];exact same m (held m (.inr (.inr (.inl rfl)))) h12
 · rw[aA.aF _ _ (by rintro rfl;exact h4 hb)];exact same b (held b (.inr (.inr (.inr (.inl hb))))) (h13 b hb).2
 · rw[aA.aF _ _ (by rintro rfl;exact h5 hb)];exact same b (held b (.inr (.inr (.inr (.inr (.inl hb)))))) (h14 b hb)
 · have hd:=h.dis
   unfold iW at hd ⊢
   have:=SR (X:=[S,c,m]++dQ qt++bU qc) (A:=bU qn) (A':=bU qn') (Y:=[]) (by rw[eU];exact hd) (SY _) fun b hb=>by
    rcases hn b hb with h' | h'
    · exact .inl h'
    · refine .inr fun hm=>h.held b ?_ h'
      rw[eU] at hm
      unfold iW;exact hm
   rwa [eU] at this
 · rcases eM.1 hb with rfl | rfl | rfl | hb | hb | hb
   · exact .inl (eM.2 (.inl rfl))
   · exact .inl (eM.2 (.inr (.inl rfl)))
   · exact .inl (eM.2 (.inr (.inr (.inl rfl))))
   · exact .inl (eM.2 (.inr (.inr (.inr (.inl hb)))))
   · exact .inl (eM.2 (.inr (.inr (.inr (.inr (.inl hb))))))
   · rcases hn b hb with h' | h'
     · exact .inl (eM.2 (.inr (.inr (.inr (.inr (.inr h'))))))
     · exact .inr h'
 · have hno:=fun x=>hn' (eM.2 x)
   rw[aA.aF _ _ (by rintro rfl;exact hno (.inl rfl)),same b (by rw[hb];simp) fun h'=>hno (.inr (.inr (.inr (.inr (.inr h')))))]
   exact hb
theorem dL.nodes{k:Nat}(h:dL st0 st S c m qt qc qn p q idx fuel used mx nd i)(hk:k<i.nn):∃b,qn=.mslice b 0 nd.length 6:=by
 have hl:=h.ndl
 rcases h.acN with ⟨_,e⟩ | ⟨b,cs,e,_⟩
 · subst e;simp at hl;omega
 · exact⟨b,e⟩
theorem dL.nodeAt{b n:Nat}(h:dL st0 st S c m qt qc (.mslice b 0 n 6) p q idx fuel used mx nd i):∃cs,st b=some (.cells cs)∧nd.length*6≤cs.length:=by
 rcases h.acN with ⟨e,_⟩ | ⟨b',cs,e,h2,_,h4⟩
 · cases e
 · cases e;exact⟨cs,h2,h4⟩
theorem aN0:∀(n:Nat) (cs:List AV),cs.length=n*6→∃nd:List AV,nd.length=n∧(∀e∈nd,e.width=6)∧nd.flatMap AV.cells=cs
 | 0,cs,h=>⟨[],rfl,by simp,by have:cs= []:=rT (by simpa using h);subst this;rfl⟩
 | n+1,cs,h=>by
  obtain⟨nd,h1,h2,h3⟩:=aN0 n (cs.drop 6) (by rw[lP,h];omega)
  refine⟨.agg (cs.take 6)::nd,by simp [h1],fun e he=>?_,?_⟩
  · rcases cG.1 he with rfl | he
    · show(cs.take 6).length=6
      rw[dZ,h];omega
    · exact h2 e he
  · rw[rU,h3]
    exact oO 6 cs
theorem dL.aNV{b k:Nat}{cs:List AV}{x:AV}(h:dL st0 st S c m qt qc qn p q idx fuel used mx nd i)(hq:qn=.mslice b 0 nd.length 6)(hb:st b=some (.cells cs))(hk:k<nd.length*6) :
 ∃nd',dL st0 (st.aC b (.cells (aM cs k [x]))) S c m qt qc qn p q idx fuel used mx nd' i:=by
 obtain⟨h1,h2,h3,h4,h5,h6,h7,h8,h9,h10,h11,h12,h13,h14⟩:=h.parts
 have hbq:b∈bU qn:=by rw[hq];simp [bU]
 have hne:∀a,a∉bU qn→st.aC b (.cells (aM cs k [x])) a=st a:=fun a ha=>aA.aF _ _ (by rintro rfl;exact ha hbq)
 have hcl:nd.length*6≤cs.length:=by
  rcases h.acN with ⟨e,_⟩ | ⟨b',cs',e1,e2,e3,e4⟩
  · rw[hq] at e;cases e
  · rw[hq] at e1
    cases e1
    rw[hb] at e2;cases e2
    exact e4
 have hlen:(aM cs k [x]).length=cs.length:=by
  simp only[aM,dS,dZ,lP,a8,bG]
  omega
 obtain⟨nd',n1,n2,n3⟩:=aN0 nd.length ((aM cs k [x]).take (nd.length*6)) (by rw[dZ,hlen];omega)
 refine⟨nd',h.go (by rw[hne S h6];exact h.cell) (h.sto.D1 (hne c h9) (hne m h12) fun b hb=>hne b (h13 b hb).2) (h.acC.aU fun b hb=>hne b (h14 b hb)) (.inr ⟨b,_,by rw[hq,n1],aA.aJ _ _ _,by rw[n1,n3],by rw[n1,hlen];exact hcl⟩) (by rw[n1];exact h.ndl) n2 h.dis (fun b hb=>.inl hb) fun a o ha hn=>?_⟩
 rw[hne a fun h'=>hn (eM.2 (.inr (.inr (.inr (.inr (.inr h'))))))]
 exact ha
end
theorem aN3{φ:AF}{t:TypeId}{ag:Bool}{w d k:Nat}{st:aA}{qc:AV}{l:List AV}(hI:eI prog t=some (ag,w))(hA:dY st w qc l)(h:φ d=.int .i64 (k:Int))(hk:k≤l.length):iB prog φ t qc none (some (.tmp d)) none=some (yJ k qc):=by
 rcases hA with ⟨rfl,rfl⟩ | ⟨b,cs,rfl,_⟩
 · have h0:k=0:=by simpa using hk
   subst h0
   exact TT hI h
 · exact MO hI h hk
section
variable {st0 st:aA} {S c m:Nat} {qt qc qn:AV} {p:List Cl} {q:List Tm} {idx:Bool} {fuel used mx:Int} {nd:List AV} {i:IS}
theorem dL.ZX{k:Nat}{cs:List AV}{gl:List IG}(h:dL st0 st S c m qt qc qn p q idx fuel used mx nd i)(hk:k≤i.chs.length)(hcs:cs=g9 c p q idx fuel used i.fresh (eT gl) (yJ k qc) qn mx) :
 dL st0 (st.aC S (.cells cs)) S c m qt (yJ k qc) qn p q idx fuel used mx nd { i with goals:=gl,chs:=i.chs.take k }:=by
 obtain⟨h1,h2,h3,h4,h5,h6,_⟩:=h.parts
 subst hcs
 have hA:=h.acC.take (k:=k) (by rw[aE];exact hk) (SH _)
 rw[←FR] at hA
 refine h.go (aA.aJ _ _ _) (h.sto.aC h1 h2 h4) (hA.aU fun b hb=>aA.aF _ _ (by rw[EH] at hb;rintro rfl;exact h5 hb)) (h.acN.aU fun b hb=>aA.aF _ _ (by rintro rfl;exact h6 hb)) h.ndl h.ndw (by unfold iW;rw[EH];exact h.dis) (fun b hb=>.inl (by unfold iW at hb;rw[EH] at hb;exact hb)) fun b o hb hn=>?_
 rw[aA.aF _ _ (by rintro rfl;exact hn (eM.2 (.inl rfl)))]
 exact hb
theorem dL.aXM{k:Nat}{cs:List AV}(h:dL st0 st S c m qt qc qn p q idx fuel used mx nd i)(hk:k≤i.nn)(hcs:cs=g9 c p q idx fuel used i.fresh (eT i.goals) qc (yJ k qn) mx) :
 dL st0 (st.aC S (.cells cs)) S c m qt qc (yJ k qn) p q idx fuel used mx (nd.take k) { i with nn:=k }:=by
 obtain⟨h1,h2,h3,h4,h5,h6,_⟩:=h.parts
 subst hcs
 have hnl:=h.ndl
 have hA:=h.acN.take (k:=k) (by rw[hnl];exact hk) h.ndw
 refine h.go (aA.aJ _ _ _) (h.sto.aC h1 h2 h4) (h.acC.aU fun b hb=>aA.aF _ _ (by rintro rfl;exact h5 hb)) (hA.aU fun b hb=>aA.aF _ _ (by rw[EH] at hb;rintro rfl;exact h6 hb)) (by rw[dZ,hnl];simp only;omega) (fun e he=>h.ndw e (l9 he)) (by unfold iW;rw[EH];exact h.dis) (fun b hb=>.inl (by unfold iW at hb;rw[EH] at hb;exact hb)) fun b o hb hn=>?_
 rw[aA.aF _ _ (by rintro rfl;exact hn (eM.2 (.inl rfl)))]
 exact hb
end
def m8(c m:Nat)(st:aA)(q:AV)(tr:List Int)(x:Int×Sub×List Int)(r:AV)(st':aA):Prop:=r=.int .i64 x.1∧wA c m st q x.2.1 (tr++x.2.2) st'
theorem m8.same{c m:Nat}{st:aA}{q:AV}{σ:Sub}{tr:List Int}(h:gG st c m q σ tr){r:AV}(k:Int)(hr:r=.int .i64 k):m8 c m st q tr (k,σ,[]) r st:=⟨hr,q,by rw[eU];exact h,mM.refl _ _ _ _⟩
theorem gG.aQH{P:Program}{t e:TypeId}{st:aA}{c m:Nat}{q:AV}{σ:Sub}{tr:List Int}(h:gG st c m q σ tr)(hu:P.underlying t=some (.slice e)):mP P t q=some (.int .i64 (tr.length:Int)):=by
 rcases h.fK with ⟨rfl,rfl⟩ | ⟨b,cs,rfl,_⟩<;>simp only[mP,hu,bG]
theorem GS{N:Nat}{σ:Sub}(hg:cO σ)(ho:cQ (bF N) σ)(a b:Tm)(ha:bF N a)(hb:bF N b)(c m:Nat)(q:AV)(tr:List Int)(st:aA)(hS:gG st c m q σ tr)(hl:tr.length+N≤1099511627776) :
 aD prog 205 [.ptr c 0,a.av,b.av] st (fun r st'=>r=.bool (iY σ a b).1∧wA c m st q (iY σ a b).2.1 (tr++(iY σ a b).2.2) st'):=by
 obtain⟨r,σ',tr',hU⟩:=uU hg ho ha hb
 obtain⟨g,lG⟩:=hU.run
 have hlen:=EB hU.oH.nodup hU.gE
 rw[hU.eq]
 exact ZC g σ a b r σ' tr' hg (ho.imp fun t ht=>ht.1.small) ha.1.small hb.1.small lG c m q tr st hS (by omega)
abbrev lZ:=zi aX (zi cB (zi d9 (zi cI (zi dD (zi cC (zi iP (zi pH FF)))))))
theorem aT1{N:Nat}{σ:Sub}(hg:cO σ)(ho:cQ (bF N) σ)(n:Int)(s:ByteArray)(ks:List Tm)(hb:isBuiltin s (ks.length:Int)=true)(hv:∀x∈ks,bF N x)(c m:Nat)(q:AV)(tr:List Int)(st:aA)(hS:gG st c m q σ tr)(hl:tr.length+N≤1099511627776) :
 aD prog 188 [.ptr c 0,(Tm.mk 3 n s ks).av] st (m8 c m st q tr (dC σ s ks)):=by
 have RU:=aT6 3 n s ks
 have hcs:=XD hb
 have DT:=fun x y (hxy:ks= [x,y]) h=>aT5 n s x y h (hv x (by simp [hxy])).1 (hv y (by simp [hxy])).1
 simp only[bD] at RU DT ⊢
 refine wF [1000000] 2 func188 ntmps188 rfl rfl ?_
 intro _
 simp only[aB,seval,lZ]
 refine(RU _).to ?_
 simp only[aB,seval]
 refine aQ (fun h=>?_) (fun h=>?_)
 · have h':ks.length=2∧gE sH s=true:=by simp at h;exact⟨by omega,h.2⟩
   obtain⟨x,y,rfl⟩:=vM h'.1
   have e:dC σ s [x,y]=(yI s x y,σ,[]):=by simp only[dC];rw[aN h'.2]
   rw[e]
   have hc:=DT x y rfl h'.2
   simp only[bR,bS] at hc
   simp only[aB,↓aW,seval,lZ]
   refine(hc _).to ?_
   simp only[aB,seval]
   exact m8.same hS _ rfl
 have hnc:ks.length=2→gE sH s=false:=fun h2=>by simpa [h2] using h
 clear RU DT h
 simp only[aB,seval,lZ]
 refine aQ (fun h=>?_) (fun h=>?_)
 · have hs:s=⟨#[116,114,117,101]⟩:=by simpa using h
   have hk:=L3 (ts:=ks) (by subst hs;simpa [isBuiltin] using hb)
   subst hk
   simp only[aB,seval]
   exact m8.same hS _ (by simp [iG,hs])
 have ht:s≠⟨#[116,114,117,101]⟩:=by simpa using h
 simp only[aB,seval]
 refine aQ (fun h=>?_) (fun h=>?_)
 · have hs:s=⟨#[102,97,105,108]⟩:=by simpa using h
   have hk:=L3 (ts:=ks) (by subst hs;simpa [isBuiltin] using hb)
   subst hk
   simp only[aB,seval]
   exact m8.same hS _ (by simp [iG,hs])
 have hf:s≠⟨#[102,97,105,108]⟩:=by simpa using h
 simp only[aB,seval]
 refine aQ (fun h=>?_) (fun h=>?_)
 · have hs:s=⟨#[61]⟩:=by simpa using h
   obtain⟨x,y,rfl⟩:=vM (ts:=ks) (by subst hs;simp [isBuiltin] at hb;omega)
   have e:dC σ s [x,y]=tD σ x y:=by simp only[dC];rw[aK (by rw[hnc rfl];simp),aN hs]
   rw[e]
   have eH:dP prog 46 (.slice [x.av,y.av]) (.int .i64 0)=some (.pptr x.av):=bH (av:=Tm.av) (l:=[x,y]) (i:=0) bY rfl (aT x)
   have gC:dP prog 46 (.slice [x.av,y.av]) (.int .i64 1)=some (.pptr y.av):=bH (av:=Tm.av) (l:=[x,y]) (i:=1) bY rfl (aT y)
   simp only[aB,↓aW,seval]
   refine wX [(0,1),(1,1),(2,1),(3,1),(4,1),(5,1),(6,1),(7,0),(8,0),(9,1)] [0,1,2,3,4,5,6,9] dJ mixed rfl dF ?_
   simp only[eH,gC,cD,aT,aB,seval,lZ]
   refine(GS hg ho x y (hv x (by simp)) (hv y (by simp)) c m q tr _ hS hl).mono ?_
   rintro _ s2 ⟨rfl,hP⟩
   simp only[aB,seval]
   refine⟨dF,?_⟩
   refine(pS _ _).to ?_
   simp only[aB,seval]
   exact⟨dF,rfl,hP⟩
 have he:s≠⟨#[61]⟩:=by simpa using h
 simp only[aB,seval]
 refine aQ (fun h=>?_) (fun h=>?_)
 · have hs:s=⟨#[92,61]⟩:=by simpa using h
   obtain⟨x,y,rfl⟩:=vM (ts:=ks) (by subst hs;simp [isBuiltin] at hb;omega)
   have e:dC σ s [x,y]=(iG (!(iY σ x y).1),σ,[]):=by simp only[dC];rw[aK (by rw[hnc rfl];simp),aK he,aN hs]
   rw[e]
   have e1:=hS.sub.cells
   have hql:=hS.aQH I0
   obtain⟨hqa,hqw,hqj,hqc,hqs⟩:=hS.shape
   have eH:dP prog 46 (.slice [x.av,y.av]) (.int .i64 0)=some (.pptr x.av):=bH (av:=Tm.av) (l:=[x,y]) (i:=0) bY rfl (aT x)
   have gC:dP prog 46 (.slice [x.av,y.av]) (.int .i64 1)=some (.pptr y.av):=bH (av:=Tm.av) (l:=[x,y]) (i:=1) bY rfl (aT y)
   simp only[e1,hql,hqa,aB,↓aW,seval,lZ]
   refine wX [(0,1),(1,1),(2,1),(3,1),(4,1),(5,1),(6,1),(7,0),(8,1)] [0,1,2,3,4,5,6,8] dJ mixed rfl dF ?_
   simp only[eH,gC,cD,aT,aB,seval,lZ]
   refine(GS hg ho x y (hv x (by simp)) (hv y (by simp)) c m q tr _ hS hl).mono ?_
   rintro _ s2 ⟨rfl,hP⟩
   obtain⟨r,σ',add,hU⟩:=uU hg ho (hv x (by simp)) (hv y (by simp))
   rw[hU.eq] at hP ⊢
   obtain⟨q',hS2,hQ2⟩:=hP
   have a18:=EB hU.oH.nodup hU.gE
   simp only[aB,seval]
   refine⟨dF,?_⟩
   refine(P8 σ' (tr++add) tr.length (by simp) c m q' s2 hS2 (by rw[dS];omega)).mono ?_
   rintro _ s3 ⟨rfl,q2,hS3,hb3,hk3⟩
   rw[FP,CC,show σ'.out add=σ from funext fun n=>hU.out n] at hS3
   simp only[aB,seval]
   refine(pS _ _).to ?_
   simp only[aB,seval]
   refine⟨rfl,q2,by rw[eU];exact hS3,fun b o h h1 h2 h3=>hk3 b o (hQ2.frame b o h h1 h2 h3) h1 h2,fun b hb'=>hQ2.fresh b (hb3 b hb')⟩
 have hne:s≠⟨#[92,61]⟩:=by simpa using h
 simp only[aB,seval]
 refine aQ (fun h=>?_) (fun h=>?_)
 · have hs:s=⟨#[61,61]⟩:=by simpa using h
   obtain⟨x,y,rfl⟩:=vM (ts:=ks) (by subst hs;simp [isBuiltin] at hb;omega)
   have e:dC σ s [x,y]=(iG (x.same y),σ,[]):=by simp only[dC];rw[aK (by rw[hnc rfl];simp),aK he,aK hne,aN hs]
   rw[e]
   have eH:dP prog 46 (.slice [x.av,y.av]) (.int .i64 0)=some (.pptr x.av):=bH (av:=Tm.av) (l:=[x,y]) (i:=0) bY rfl (aT x)
   have gC:dP prog 46 (.slice [x.av,y.av]) (.int .i64 1)=some (.pptr y.av):=bH (av:=Tm.av) (l:=[x,y]) (i:=1) bY rfl (aT y)
   simp only[aB,↓aW,seval]
   refine yD mixed (by decide +kernel) (by decide +kernel) ?_
   simp only[eH,gC,cD,aT,aB,seval,lZ]
   refine iD (X8 x y _) ?_
   simp only[aB,seval]
   refine iD (pS _ _) ?_
   simp only[aB,seval]
   exact m8.same hS _ rfl
 have hee:s≠⟨#[61,61]⟩:=by simpa using h
 simp only[aB,seval]
 refine aQ (fun h=>?_) (fun h=>?_)
 · have hs:s=⟨#[105,115]⟩:=by simpa using h
   obtain⟨x,y,rfl⟩:=vM (ts:=ks) (by subst hs;simp [isBuiltin] at hb;omega)
   have e:dC σ s [x,y]=if y.ev.2≠0 then(y.ev.2,σ,[]) else tD σ x (n9 y.ev.1):=by simp only[dC];rw[aK (by rw[hnc rfl];simp),aK he,aK hne,aK hee]
   rw[e]
   have hy:=hv y (by simp)
   have hin:=LZ (N:=N) (Tm.vE y hy.1)
   have har:=fun st=>J6 y st hy.1
   generalize y.ev.1=a at *
   generalize y.ev.2=ca at *
   have eH:dP prog 46 (.slice [x.av,y.av]) (.int .i64 0)=some (.pptr x.av):=bH (av:=Tm.av) (l:=[x,y]) (i:=0) bY rfl (aT x)
   have gC:dP prog 46 (.slice [x.av,y.av]) (.int .i64 1)=some (.pptr y.av):=bH (av:=Tm.av) (l:=[x,y]) (i:=1) bY rfl (aT y)
   simp only[gC,cD,aT,aB,↓aW,seval,lZ]
   refine(har _).to ?_
   simp only[aB,seval]
   refine aQ (fun h4=>?_) (fun h4=>?_)
   · simp only[aB,seval]
     have h4':ca≠0:=by simpa using h4
     rw[aN h4']
     exact m8.same hS _ rfl
   have h4':ca=0:=by simpa using h4
   subst h4'
   rw[aK (by simp)]
   simp only[aB,seval]
   refine wX [(0,1),(1,1),(2,1),(3,1),(4,1),(5,0),(6,0),(7,0),(8,1)] [0,1,2,3,4,8] dJ mixed rfl dF ?_
   simp only[eH,cD,aT,aB,seval,lZ]
   refine(aV3 a _).to ?_
   simp only[aB,seval]
   refine⟨dF,?_⟩
   refine(GS hg ho x (n9 a) (hv x (by simp)) hin c m q tr _ hS hl).mono ?_
   rintro _ s2 ⟨rfl,hP⟩
   simp only[aB,seval]
   refine⟨dF,?_⟩
   refine(pS _ _).to ?_
   simp only[aB,seval]
   exact⟨dF,rfl,hP⟩
 have his:s≠⟨#[105,115]⟩:=by simpa using h
 simp only[aB,seval]
 refine aQ (fun h=>?_) (fun h=>?_)
 · have hs:s=⟨#[118,97,114]⟩:=by simpa using h
   obtain⟨x,rfl⟩:=HN (ts:=ks) (by subst hs;simp [isBuiltin] at hb;omega)
   have e:dC σ s [x]=(iG (uO s x),σ,[]):=rfl
   rw[e]
   subst hs
   obtain⟨xk,xn,xs,xt⟩:=x
   have eH:dP prog 46 (.slice [(Tm.mk xk xn xs xt).av]) (.int .i64 0)=some (.pptr (Tm.mk xk xn xs xt).av):=bH (av:=Tm.av) (l:=[Tm.mk xk xn xs xt]) (i:=0) bY rfl (aT _)
   have eat:=GQ xk xn xs xt
   simp only[bD] at eH eat
   simp only[bR,bS,bD]
   simp only[eH,aB,↓aW,seval,lZ]
   refine(pS _ _).to ?_
   simp only[aB,seval]
   exact m8.same hS _ rfl
 have hva:s≠⟨#[118,97,114]⟩:=by simpa using h
 simp only[aB,seval]
 refine aQ (fun h=>?_) (fun h=>?_)
 · have hs:s=⟨#[110,111,110,118,97,114]⟩:=by simpa using h
   obtain⟨x,rfl⟩:=HN (ts:=ks) (by subst hs;simp [isBuiltin] at hb;omega)
   have e:dC σ s [x]=(iG (uO s x),σ,[]):=rfl
   rw[e]
   subst hs
   obtain⟨xk,xn,xs,xt⟩:=x
   have eH:dP prog 46 (.slice [(Tm.mk xk xn xs xt).av]) (.int .i64 0)=some (.pptr (Tm.mk xk xn xs xt).av):=bH (av:=Tm.av) (l:=[Tm.mk xk xn xs xt]) (i:=0) bY rfl (aT _)
   have eat:=GQ xk xn xs xt
   simp only[bD] at eH eat
   simp only[bR,bS,bD]
   simp only[eH,aB,↓aW,seval,lZ]
   refine(pS _ _).to ?_
   simp only[aB,seval]
   exact m8.same hS _ rfl
 have hnv:s≠⟨#[110,111,110,118,97,114]⟩:=by simpa using h
 simp only[aB,seval]
 refine aQ (fun h=>?_) (fun h=>?_)
 · have hs:s=⟨#[97,116,111,109]⟩:=by simpa using h
   obtain⟨x,rfl⟩:=HN (ts:=ks) (by subst hs;simp [isBuiltin] at hb;omega)
   have e:dC σ s [x]=(iG (uO s x),σ,[]):=rfl
   rw[e]
   subst hs
   obtain⟨xk,xn,xs,xt⟩:=x
   have eH:dP prog 46 (.slice [(Tm.mk xk xn xs xt).av]) (.int .i64 0)=some (.pptr (Tm.mk xk xn xs xt).av):=bH (av:=Tm.av) (l:=[Tm.mk xk xn xs xt]) (i:=0) bY rfl (aT _)
   have eat:=GQ xk xn xs xt
   simp only[bD] at eH eat
   simp only[bR,bS,bD]
   simp only[eH,aB,↓aW,seval,lZ]
   refine(eat _).to ?_
   simp only[aB,seval]
   refine(pS _ _).to ?_
   simp only[aB,seval]
   exact m8.same hS _ rfl
 have hat:s≠⟨#[97,116,111,109]⟩:=by simpa using h
 simp only[aB,seval]
 refine aQ (fun h=>?_) (fun h=>?_)
 · have hs:s=⟨#[105,110,116]⟩:=by simpa using h
   obtain⟨x,rfl⟩:=HN (ts:=ks) (by subst hs;simp [isBuiltin] at hb;omega)
   have e:dC σ s [x]=(iG (uO s x),σ,[]):=rfl
   rw[e]
   subst hs
   obtain⟨xk,xn,xs,xt⟩:=x
   have eH:dP prog 46 (.slice [(Tm.mk xk xn xs xt).av]) (.int .i64 0)=some (.pptr (Tm.mk xk xn xs xt).av):=bH (av:=Tm.av) (l:=[Tm.mk xk xn xs xt]) (i:=0) bY rfl (aT _)
   have eat:=GQ xk xn xs xt
   simp only[bD] at eH eat
   simp only[bR,bS,bD]
   simp only[eH,aB,↓aW,seval,lZ]
   refine(pS _ _).to ?_
   simp only[aB,seval]
   exact m8.same hS _ rfl
 have hint:s≠⟨#[105,110,116]⟩:=by simpa using h
 have hs:s=⟨#[97,114,103]⟩∧ks.length=3:=by
  rcases hcs with ⟨h2,h3⟩ | ⟨h2,h3⟩ | ⟨h2,h3⟩ | ⟨h2,h3⟩
  · rw[hnc h2] at h3
    simp [he,hne,hee,his] at h3
  · simp [ht,hf] at h3
  · simp [hva,hnv,hat,hint] at h3
  · exact⟨h3,h2⟩
 obtain⟨hs,hk3⟩:=hs
 obtain⟨x,y,z,rfl⟩:=aL1 hk3
 have hz:=hv z (by simp)
 have hy:=hv y (by simp)
 have e:dC σ s [x,y,z]=wG σ x y z:=rfl
 rw[e]
 unfold wG
 have eH:dP prog 46 (.slice [x.av,y.av,z.av]) (.int .i64 0)=some (.pptr x.av):=bH (av:=Tm.av) (l:=[x,y,z]) (i:=0) bY rfl (aT x)
 have gC:dP prog 46 (.slice [x.av,y.av,z.av]) (.int .i64 1)=some (.pptr y.av):=bH (av:=Tm.av) (l:=[x,y,z]) (i:=1) bY rfl (aT y)
 have AS:dP prog 46 (.slice [x.av,y.av,z.av]) (.int .i64 2)=some (.pptr z.av):=bH (av:=Tm.av) (l:=[x,y,z]) (i:=2) bY rfl (aT z)
 clear hcs hb hnc hv e
 obtain⟨xk,xn,xs,xt⟩:=x
 obtain⟨yk,yn,ys,yt⟩:=y
 have hyl:yt.length≤4:=by
  exact hy.1.kind.2
 rw[bD] at eH
 simp only[bD xk,bD yk] at eH gC AS
 simp only[bR,bS,bD xk,bD yk,Tm.k,Tm.ts]
 simp only[eH,aB,↓aW,seval,lZ]
 refine cP (fun h=>?_) (fun h=>?_)
 case refine_2=>
  have h':xk=1:=by simpa using h
  simp only[h,aB,seval]
  rw[aN (.inl h')]
  exact m8.same hS _ rfl
 have hx1:xk≠1:=by simpa using h
 simp only[h,gC,aB,seval,lZ]
 refine aQ (fun h1=>?_) (fun h1=>?_)
 · have h':yk=1:=by simpa using h1
   simp only[aB,seval]
   rw[aN (.inr h')]
   exact m8.same hS _ rfl
 have hy1:yk≠1:=by simpa using h1
 rw[aK (fun h2=>h2.elim hx1 hy1)]
 have h3:∀s2,(xk≠2∨yk≠3∨yt.length=0)→s2=st→m8 c m st q tr (if xk≠2∨yk≠3∨yt.length=0 then((3:Int),σ,[]) else match nC (.mk xk xn xs xt) (.mk yk yn ys yt) with | some u=>tD σ z u | none=>(1,σ,[])) (.int .i64 3) s2:=fun s2 hh e=>by
  subst e
  rw[aN hh]
  exact m8.same hS _ rfl
 simp only[eH,aB,seval,lZ]
 refine cP (fun h4=>?_) (fun h4=>?_)
 case refine_2=>
  have h':xk≠2:=by simpa using h4
  simp only[h4,aB,seval]
  exact h3 _ (.inl h') rfl
 have hx2:xk=2:=by simpa using h4
 simp only[h4,gC,aB,seval,lZ]
 refine cP (fun h5=>?_) (fun h5=>?_)
 case refine_2=>
  have h':yk≠3:=by simpa using h5
  simp only[h5,aB,seval]
  exact h3 _ (.inr (.inl h')) rfl
 have hy3:yk=3:=by simpa using h5
 simp only[h5,gC,aE,aB,seval,lZ]
 refine aQ (fun h6=>?_) (fun h6=>?_)
 · have h':yt.length=0:=by simp at h6;simp [h6]
   simp only[aB,seval]
   exact h3 _ (.inr (.inr h')) rfl
 have hyt:yt.length≠0:=by simp at h6;simpa using h6
 clear h3
 rw[aK (by simp [hx2,hy3];intro h7;simp [h7] at hyt)]
 simp only[aB,seval]
 refine yD mixed (by decide +kernel) (by decide +kernel) ?_
 simp only[eH,gC,aE,aB,seval,lZ]
 refine iD (sD xn 1 _ _) ?_
 simp only[aB,seval]
 refine aQ (fun h7=>?_) (fun h7=>?_)
 · have h':¬(1≤xn∧xn≤yt.length):=by simp at h7;omega
   have ea:nC (.mk xk xn xs xt) (.mk yk yn ys yt)=none:=aK h'
   rw[ea]
   simp only[aB,seval]
   exact m8.same hS _ rfl
 have h':1≤xn∧xn≤yt.length:=by simp at h7;omega
 obtain⟨i,hi⟩:∃i:Nat,xn - 1=i:=⟨(xn - 1).toNat,by omega⟩
 have hlt:i<yt.length:=by omega
 obtain⟨u,hu⟩:∃u,yt[i]?=some u:=⟨_,eK hlt⟩
 have ea:nC (.mk xk xn xs xt) (.mk yk yn ys yt)=some u:=by
  refine(aN h').trans ?_
  show yt[(xn - 1).toNat]?=some u
  rw[hi,kB,hu]
 rw[ea]
 have huv:bF N u:=rG N (.mk yk yn ys yt) hy1 hy u (cH hu)
 have hw:IntKind.i64.wrap (xn - 1)=(i:Int):=by rw[wrap64 (by omega) (by omega)];exact hi
 have RH:=bH (av:=Tm.av) (P:=prog) bY hu (aT u)
 simp only[aB,seval]
 refine wX [(0,1),(1,1),(2,1),(3,1),(4,1),(5,1),(6,1),(7,1),(8,1),(9,1),(10,1),(11,1),(12,1),(13,1),(14,1),(15,0),(16,0),(17,1)] [0,1,2,3,4,5,6,7,8,9,10,11,12,13,14,17] dJ mixed rfl dF ?_
 simp only[eH,gC,AS,RH,hw,cD,aT,aB,seval,lZ]
 refine(GS hg ho z u hz huv c m q tr _ hS hl).mono ?_
 rintro _ s2 ⟨rfl,hP⟩
 simp only[aB,seval]
 refine⟨dF,?_⟩
 refine(pS _ _).to ?_
 simp only[aB,seval]
 exact⟨dF,rfl,hP⟩
abbrev aPP:=zi aX cC
theorem aWU(n:Int)(F:Nat)(h0:0≤n)(h1:n≤1048576)(hF:F≤536870912)(st:aA):aD prog 214 [.int .i64 n,.pptr (.int .i64 (F:Int))] st (fun r st'=>r=(vr (n+(F:Int))).av∧st'=st):=by
 refine aD.done ?_
 refine wF [1000000] 2 func214 ntmps214 rfl rfl ?_
 intro _
 have hw:=aZ (n:=n+(F:Int))
 simp only[hw,aB,seval,aPP]
 intro b3 h3
 refine(P9 _ _).to ?_
 simp only[aM,Tm.e9,Tm.gB,rM (Tm.gB _),qS (cD _),aB,seval,aPP]
 exact⟨by simp only[Tm.soft],(aO.refl _).aC h3⟩
theorem P4{F:Nat}(hF:F≤536870912)(t:Tm)(h:bF 26 t)(st:aA):aD prog 215 [t.av,.func 214 [.pptr (.int .i64 (F:Int))]] st (fun r st'=>r=(dH F t).av∧st'=st):=
 P1 (fun v=>vr (v+(F:Int))) _ _ rfl t st h.1.small fun n hn s=>aWU n F (h.1.2.2 n hn).1 (by have:=(h.1.2.2 n hn).2;omega) hF s
theorem aKL{b:Nat}{L:List AV}(l:List IG):(eT l).fin b L=eT l:=by
 cases l with
 | nil=>rw[eT];unfold AV.fin;split<;>rfl
 | cons g l=>obtain⟨⟨k,n,s,ts⟩,cut,up⟩:=g;rw[t8];exact DJ
abbrev nL:=zi aX (zi cB (zi gL (zi cI (zi cC (zi kX (zi iP (zi FC (zi pH (zi FE (zi U3 (zi U5 (zi IW (zi FF (zi aP0 aP1))))))))))))))
set_option maxHeartbeats 2000000 in
theorem ZB{p:List Cl}(hp:∀c∈p,gF c∧c.2.length≤6){M:Nat}(hM:M≤268435456){st0 st:aA}{S c m:Nat}{qt qc qn:AV}{q:List Tm}{idx:Bool}{fuel used mx:Int}{nd:List AV}{i:IS}(h:dL st0 st S c m qt qc qn p q idx fuel used mx nd i)
 (goal:Tm) (at':Nat) (rest:List IG) (list:List Nat) (hg:cO i.σ) (ho:cQ (bF i.fresh) i.σ) (hgo:bF i.fresh goal) (hl:∀x∈list,x<p.length) (hll:list.length≤1048576) (ha:at'<i.nn) (hX:IX p M i) (hMl:i.fresh+26*qB i.chs+26*list.length≤M) (hch:i.chs.length≤524288) (hnn:i.nn≤524288) :
 aD prog 193 [.ptr S 0,goal.av,.int .i64 (at':Int),.slice (list.map nv),eT rest] st (fun r st'=>r=.bool (f7 p goal at' rest list i).1∧∃qt' qc' mx' nd',dL st0 st' S c m qt' qc' qn p q idx fuel used mx' nd' (f7 p goal at' rest list i).2):=by
 obtain⟨bN,rfl⟩:=h.nodes ha
 obtain⟨gk,gn,gs',gts⟩:=goal
 obtain⟨g1,g2,g3,g4,g5,g6⟩:=pW rest
 generalize hT:f7 p (.mk gk gn gs' gts) at' rest list i=T
 simp only[bD]
 have hun:prog.underlying 148=some (.slice 3):=by kernel_rfl
 have iN:st S=some (.cells [.ptr c 0,.slice (p.map aG),.slice (q.map Tm.av),.bool idx,.bool false,.int .i64 fuel,.int .i64 used,.int .i64 i.fresh,eT i.goals,qc,.mslice bN 0 nd.length 6,.int .i64 mx]):=h.cell
 have hcc:=h.sto.sub.cells
 have htl:=h.sto.aQH (P:=prog) hun
 obtain⟨t1,t2,t3,t4,t5⟩:=h.sto.shape
 refine aD.oT ?_
 refine wF [1000000] 5 func193 ntmps193 rfl rfl ?_
 intro _
 simp only[aE,iN,hcc,htl,t1,aB,seval,nL]
 refine dI (σ:=aA×AV) [1000000] [0,2,3,4,6,11,28,29] list (fun k s=>dL st0 s.1 S c m s.2 qc (.mslice bN 0 nd.length 6) p q idx fuel used mx nd { i with fresh:=i.fresh+26*k }∧f7 p (.mk gk gn gs' gts) at' rest (list.drop k) { i with fresh:=i.fresh+26*k }=T)
  (fun k s=>[(10,.bool false),(30,.int .i64 k)]) (fun k s=>s.1) (by decide +kernel) ⟨(st,qt),⟨h,hT⟩,aP.mk (by simp only[aB,↓aW,seval])⟩ (fun k x s hx hlt a7 hdr hinv=>?_) (fun s hge hinv=>?_)
 case refine_2=>
  simp only[hge,aB,seval]
  obtain⟨hi,he⟩:=hinv
  rw[iA] at he
  unfold f7 at he
  subst he
  exact⟨s.1,aO.refl _,rfl,_,_,_,_,hi⟩
 obtain⟨st,qt⟩:=s
 obtain⟨h,hT⟩:=hinv
 simp only at h hT
 obtain⟨t1,t2,t3,t4,t5⟩:=h.sto.shape
 obtain⟨n1,n2,n3,n4,n5⟩:=h.acC.shape
 obtain⟨m1,m2,m3,m4,m5⟩:=h.acN.shape
 obtain⟨l1,l2,l3,l4,l5,l6⟩:=pW i.goals
 have hxl:=hl x (cH hx)
 obtain⟨cl,hcx⟩:∃cl,p[x]?=some cl:=⟨_,eK hxl⟩
 obtain⟨uC,q9⟩:=hp cl (cH hcx)
 rw[hdr,f7.eq_def] at hT
 simp only[hcx] at hT
 have hat:dP prog 148 (.slice (list.map nv)) (.int .i64 (k:Int))=some (.pptr (.int .i64 (x:Int))):=bH (av:=nv) iL hx rfl
 have AT:=bH (av:=aG) (P:=prog) lD hcx (fQ cl)
 have hw:=aZ (n:=(k:Int)+1)
 generalize hF:i.fresh+26*k=F at *
 have hFM:F+26≤M:=by have:=aL7 i.chs 0;omega
 have a39:=aZ (n:=(F:Int)+26)
 have iN:st S=some (.cells [.ptr c 0,.slice (p.map aG),.slice (q.map Tm.av),.bool idx,.bool false,.int .i64 fuel,.int .i64 used,.int .i64 F,eT i.goals,qc,.mslice bN 0 nd.length 6,.int .i64 mx]):=h.cell
 obtain⟨⟨ck,cn,cs',cts⟩,bd⟩:=cl
 rw[mQ] at AT
 simp only[a7,aM,iN,hat,a39,aB,↓aW,seval,nL]
 have h2:=h.put (gl:=i.goals) (F:=F+26) (fuel':=fuel) (used':=used) (mx':=mx) (cs:=[.ptr c 0,.slice (p.map aG),.slice (q.map Tm.av),.bool idx,.bool false,.int .i64 fuel,.int .i64 used,.int .i64 ((F:Int)+26),eT i.goals,qc,.mslice bN 0 nd.length 6,.int .i64 mx]) rfl
 generalize st.aC S (.cells [.ptr c 0,.slice (p.map aG),.slice (q.map Tm.av),.bool idx,.bool false,.int .i64 fuel,.int .i64 used,.int .i64 ((F:Int)+26),eT i.goals,qc,.mslice bN 0 nd.length 6,.int .i64 mx])=V at *
 simp only at h2
 have sO:V S=some (.cells [.ptr c 0,.slice (p.map aG),.slice (q.map Tm.av),.bool idx,.bool false,.int .i64 fuel,.int .i64 used,.int .i64 ((F:Int)+26),eT i.goals,qc,.mslice bN 0 nd.length 6,.int .i64 mx]):=h2.cell
 refine wX [(0,1),(1,1),(2,1),(3,1),(4,1),(5,1),(6,1),(7,1),(8,1),(9,1),(10,1),(11,1),(12,1),(13,1),(14,0),(15,0),(16,1)] [0,1,2,3,4,5,6,7,8,9,10,11,12,13,16] (one S (.cells [.ptr c 0,.slice (p.map aG),.slice (q.map Tm.av),.bool idx,.bool false,.int .i64 fuel,.int .i64 used,.int .i64 ((F:Int)+26),eT i.goals,qc,.mslice bN 0 nd.length 6,.int .i64 mx])) mixed rfl (jM sO) ?_
 simp only[uK,AT,aB,seval,nL]
 have hsh:=fun st=>P4 (F:=F) (by omega) (.mk ck cn cs' cts) uC.head st
 have hhd:bF ((F+26:Nat):Int) (dH F (.mk ck cn cs' cts)):=(uC.dH F (.mk ck cn cs' cts) (by simp)).mono (by have:=uC.fr.1;omega)
 have htr:=h2.sto
 obtain⟨r,σ',add,U⟩:=uU (N:=F+26) hg (fun n u e=>(ho n u e).mono (by omega)) (hgo.mono (by omega)) hhd
 have htl:i.tr.length≤i.fresh:=hX.VH
 have hun:=GS (N:=F+26) hg (fun n u e=>(ho n u e).mono (by omega)) (.mk gk gn gs' gts) (dH F (.mk ck cn cs' cts)) (hgo.mono (by omega)) hhd c m qt i.tr V h2.sto (by omega)
 rw[U.eq] at hT hun
 simp only at hT hun
 have HJ:=U.BK
 have hso:=U.xN
 clear U
 generalize hy:dH F (.mk ck cn cs' cts)=y at *
 obtain⟨yk,yn,ys,yt⟩:=y
 simp only[bD] at hsh hun ⊢
 refine(hsh _).to ?_
 simp only[aB,seval]
 refine⟨jM sO,?_⟩
 refine hun.mono ?_
 rintro _ s2 ⟨rfl,hP⟩
 obtain⟨qt2,h3⟩:=h2.post hP
 have DR:s2 S=some (.cells [.ptr c 0,.slice (p.map aG),.slice (q.map Tm.av),.bool idx,.bool false,.int .i64 fuel,.int .i64 used,.int .i64 ((F:Int)+26),eT i.goals,qc,.mslice bN 0 nd.length 6,.int .i64 mx]):=h3.cell
 simp only[aB,seval]
 refine⟨jM DR,?_⟩
 refine aQ (fun hr=>?_) (fun hr=>?_)
 · have hr':r=false:=by simpa using hr
   rw[aK (by rw[hr'];simp)] at hT
   simp only[DR,aB,seval,nL]
   have hud:=P8 σ' (i.tr++add) i.tr.length (by simp) c m qt2 s2 h3.sto (by
    have:=h3.sto
    have:add.length≤F+26:=EB hso.nodup hso.gE
    rw[dS];omega)
   refine hud.mono ?_
   rintro _ s4 ⟨rfl,qt4,hS4,hb4,hf4⟩
   simp only[hw,aB,seval]
   have h5:=h3.FI hS4 (fun b o hb e1 e2 _=>hf4 b o hb e1 e2) (fun b hb=>.inl (hb4 b hb))
   simp only[FP,CC,HJ] at h5
   refine⟨(s4,qt4),⟨?_,?_⟩,aP.mk (by simp only[aB,seval])⟩
   · rw[show i.fresh+26*(k+1)=F+26 by omega];exact h5
   · rw[show i.fresh+26*(k+1)=F+26 by omega];exact hT
 have hr':r=true:=by simpa using hr
 have a3M:nd.length=i.nn:=h3.ndl
 rw[aN hr'] at hT
 have HM:prog.underlying 208=some (.slice 237):=by kernel_rfl
 have SF:prog.underlying 209=some (.slice 229):=by kernel_rfl
 have hlC:=h3.acC.len HM
 have hlN:=h3.acN.len SF
 rw[aE] at hlC
 rw[h3.ndl] at hlN
 simp only at hlC hlN
 have aKU:=kT (P:=prog) (b:=bN) (w:=6) (i:=at') KR (len:=nd.length) (by rw[h3.ndl];exact ha)
 simp only[aE,DR,hlC,hw,n1,aB,seval,nL]
 refine aQ (fun h7=>?_) (fun h7=>?_)
 · have h':k+1<list.length:=by simp at h7;omega
   have hdn:list.drop (k+1)≠[]:=by intro e;have:=iT List.length e;simp at this;omega
   rw[aK hdn] at hT
   have hsl:=fun(φ:AF) (d:Nat) (h:φ d=.int .i64 ((k:Int)+1))=>aN5 h' h
   refine wX [(0,1),(1,1),(2,1),(3,1),(4,1),(5,1),(6,1),(7,1),(8,1),(9,1),(10,1),(11,1),(12,1),(13,1),(14,1),(15,1),(16,1),(17,1),(18,1),(19,1),(20,0),(21,1),(22,1),(23,2)] [0,1,2,3,4,5,6,7,8,9,10,11,12,13,14,15,16,17,18,19,21,22] (one S (.cells [.ptr c 0,.slice (p.map aG),.slice (q.map Tm.av),.bool idx,.bool false,.int .i64 fuel,.int .i64 used,.int .i64 ((F:Int)+26),eT i.goals,qc,.mslice bN 0 nd.length 6,.int .i64 mx])) mixed rfl (jM DR) ?_
   simp only[hsl,hw,g3,g4,n1,m1,uK,aB,seval,nL]
   refine dY.append G3 Z0 Z2 rfl (by decide) h3.acC rfl (a4L ⟨.mk gk gn gs' gts,at',rest,list.drop (k+1),i.tr.length,nd.length⟩) (by rw[aE];simp only;omega) (fun qc5 s5 uA hf hn=>?_)
   have a2L:(i.chs.map sQ)++ [sQ ⟨.mk gk gn gs' gts,at',rest,list.drop (k+1),i.tr.length,nd.length⟩]=(i.chs++ [(⟨.mk gk gn gs' gts,at',rest,list.drop (k+1),i.tr.length,nd.length⟩:IC)]).map sQ:=by simp
   have uA:=a2L▸uA
   obtain⟨c1,c2,c3,c4,c5⟩:=uA.shape
   have hS5:s5 S=s2 S:=hf S h3.parts.2.2.2.2.1 (fun hb=>by
    rcases hn S hb with h' | h'
    · exact h3.parts.2.2.2.2.1 h'
    · rw[DR] at h';cases h')
   have aK3:=hS5.trans DR
   have a21:=jM aK3
   simp only[aM,aK3,c4,c5,m1,aA.aJ,aB,seval,nL]
   refine⟨a21,?_⟩
   have h5:=h3.a66 uA hf hn (cs:=[.ptr c 0,.slice (p.map aG),.slice (q.map Tm.av),.bool idx,.bool false,.int .i64 fuel,.int .i64 used,.int .i64 ((F:Int)+26),eT i.goals,qc5,.mslice bN 0 nd.length 6,.int .i64 mx]) rfl
   generalize s5.aC S (.cells [.ptr c 0,.slice (p.map aG),.slice (q.map Tm.av),.bool idx,.bool false,.int .i64 fuel,.int .i64 used,.int .i64 ((F:Int)+26),eT i.goals,qc5,.mslice bN 0 nd.length 6,.int .i64 mx])=V5 at *
   rw[show(⟨.mk gk gn gs' gts,at',rest,list.drop (k+1),i.tr.length,nd.length⟩:IC)=⟨.mk gk gn gs' gts,at',rest,list.drop (k+1),i.tr.length,i.nn⟩ by rw[a3M]] at h5
   obtain⟨csN,hbN,hcN⟩:=h5.nodeAt
   obtain⟨c1,c2,c3,c4,c5⟩:=(h5).acC.shape
   have hSN:S≠bN:=fun e=>(h5).parts.2.2.2.2.2.1 (by rw[e];simp [bU])
   have uB:=h5.cell
   simp only[g9] at uB
   rw[show((F+26:Nat):Int)=(F:Int)+26 from rfl] at uB
   simp only[aM,aE,uB,hbN,hSN,aKU,AT,aB,seval,nL]
   refine⟨by omega,?_⟩
   obtain⟨nd6,h6⟩:=(h5).aNV (x:=.int .i64 (x:Int)) (k:=at'*6+5) rfl hbN (by omega)
   have R9:=h6.ndl
   simp only at R9
   rw[show aM csN (at'*6+5) [.int .i64 (x:Int)]=List.take (at'*6+5) csN++ [AV.int IntKind.i64 (x:Int)]++List.drop (at'*6+5+1) csN from rfl] at h6
   generalize aA.aC _ bN (.cells (List.take (at'*6+5) csN++ [AV.int IntKind.i64 (x:Int)]++List.drop (at'*6+5+1) csN))=V6 at *
   have kL:=h6.cell
   simp only[g9] at kL
   rw[show((F+26:Nat):Int)=(F:Int)+26 from rfl] at kL
   refine vY (σ:=Unit) [1000000] [0,2,3,4,6,10,11,12,13,14,15,16,28,29,30,31,32,33,34,35,36,37,38,39,40,41,42,43,44,45,46,47,48,49,50,51,52,53,54,55,56,57,58,59,60,61,62,63,64,65,66,67,68,70,71,72,73,74,75,76,77,78,79,80,81,82,83,84,85,86,87,88,89,90,91,92,93,94,95,96,97,98,99,100,101,102,103,104,105,106,107,108,109,110,111,112,113,114,115,116,117,118,119] bd 4 17 (fun j _=>((bd.take j).map (dH F)).map Tm.av) (fun _ _=>True) (fun j _=>[(120,.int .i64 j)]) (fun _ _=>V6) (fun j _ _ e he=>by simp only[cF] at he;obtain⟨t,_,rfl⟩:=he;exact⟨Tm.fP _,aT _⟩) (by decide +kernel) ⟨(),0,trivial,fun h=>absurd rfl h,aP.mk (by simp only[lT,kE,bS,aB,↓aW,seval])⟩ (fun j y5 _ b5 hx5 a3G R7 a2W R6 hb5=>?_) (fun _ b5 RZ R6=>?_)
   · have hw5:=wrap64 (n:=(j:Int)+1) (by simp only at q9;omega) (by simp only at q9;omega)
     have RF:=bH (av:=Tm.av) (P:=prog) bY hx5 (aT y5)
     have HG:(((bd.take j).map (dH F)).map Tm.av).length=j:=by simp only[aE,dZ];omega
     have hyb:=uC.body y5 (cH hx5)
     simp only[R7,RF,cD,aT,Tm.e9,Tm.fP,aB,↓aW,seval,nL]
     refine(P4 (F:=F) (by omega) y5 hyb.1 _).to ?_
     simp only[cD,aT,Tm.fP,aB,seval,nL]
     refine gA bY lC lE rfl rfl (g8 (aT _) (Tm.e9 _)) (iX _) hb5 (by simp only[HG,a8,bG];simp only at q9;omega) (by simp only[HG,a8,bG];simp only at q9;omega) (fun b' hb'=>?_)
     rw[show(((bd.take j).map (dH F)).map Tm.av)++ [(dH F y5).av]=((bd.take (j+1)).map (dH F)).map Tm.av by rw[fN,hx5];simp] at hb' ⊢
     simp only[aB,seval]
     exact⟨(),b',hb',aP.mk (by simp only[hw5,aB,seval])⟩
   · have BA:=fun st=>P3 (bd.map (dH F)) i.chs.length at' rest (by simp only[aE];simp only at q9;omega) st
     simp only[RZ,gJ,gW,lV,pV,iC,nE,DJ,K4,aKA,lF,eD,aKL,aB,seval]
     refine(BA _).to ?_
     have h7:=h6.put (gl:=(bd.map (dH F)).map (fun t=>(⟨t,i.chs.length,at'⟩:IG))++rest) (F:=F+26) (fuel':=fuel) (used':=used) (mx':=mx) rfl
     simp only[g9] at h7
     rw[show((F+26:Nat):Int)=(F:Int)+26 from rfl] at h7
     have hgl:(bd.map (dH F)).map (fun t=>(⟨t,i.chs.length,at'⟩:IG))++rest=bd.map (fun t=>(⟨dH F t,i.chs.length,at'⟩:IG))++rest:=by rw[uY];try rfl
     rw[hgl] at h7 ⊢
     generalize bd.map (fun t=>(⟨dH F t,i.chs.length,at'⟩:IG))++rest=NG at *
     obtain⟨u1,u2,u3,u4,u5,u6⟩:=pW NG
     have HF:=h7.acC.len HM
     simp only[aE] at HF
     simp only[aM,kL,u4,u5,aB,seval,nL]
     generalize aA.aC V6 S _=V7 at h7 ⊢
     have nZ:=h7.cell
     simp only[g9] at nZ
     rw[show((F+26:Nat):Int)=(F:Int)+26 from rfl] at nZ
     refine wX [(0,1),(1,1),(2,1),(3,1),(4,1),(5,1),(6,1),(7,1),(8,1),(9,1),(10,0),(11,1),(12,1),(13,2)] [0,1,2,3,4,5,6,7,8,9,11,12] _ mixed rfl (jM nZ) ?_
     simp only[aM,nZ,HF,c1,uK,aB,seval,nL]
     refine⟨jM nZ,?_⟩
     subst hT
     exact⟨_,aO.refl _,rfl,qt2,_,_,nd6,h7.put (gl:=NG) (F:=F+26) rfl⟩
 · have h':list.drop (k+1)= []:=JB (by simp at h7;omega)
   rw[aN h'] at hT
   obtain⟨csN,hbN,hcN⟩:=h3.nodeAt
   obtain⟨c1,c2,c3,c4,c5⟩:=(h3).acC.shape
   have hSN:S≠bN:=fun e=>(h3).parts.2.2.2.2.2.1 (by rw[e];simp [bU])
   have uB:=h3.cell
   simp only[g9] at uB
   rw[show((F+26:Nat):Int)=(F:Int)+26 from rfl] at uB
   simp only[aM,aE,uB,hbN,hSN,aKU,AT,m1,aB,seval,nL]
   refine⟨by omega,?_⟩
   obtain⟨nd6,h6⟩:=(h3).aNV (x:=.int .i64 (x:Int)) (k:=at'*6+5) rfl hbN (by omega)
   have R9:=h6.ndl
   simp only at R9
   rw[show aM csN (at'*6+5) [.int .i64 (x:Int)]=List.take (at'*6+5) csN++ [AV.int IntKind.i64 (x:Int)]++List.drop (at'*6+5+1) csN from rfl] at h6
   generalize aA.aC _ bN (.cells (List.take (at'*6+5) csN++ [AV.int IntKind.i64 (x:Int)]++List.drop (at'*6+5+1) csN))=V6 at *
   have kL:=h6.cell
   simp only[g9] at kL
   rw[show((F+26:Nat):Int)=(F:Int)+26 from rfl] at kL
   refine vY (σ:=Unit) [1000000] [0,2,3,4,6,10,11,12,13,14,15,16,28,29,30,31,32,33,34,35,36,37,38,39,40,41,42,43,44,45,46,47,48,49,50,51,52,53,54,55,56,57,58,59,60,61,62,63,64,65,66,67,68,70,71,72,73,74,75,76,77,78,79,80,81,82,83,84,85,86,87,88,89,90,91,92,93,94,95,96,97,98,99,100,101,102,103,104,105,106,107,108,109,110,111,112,113,114,115,116,117,118,119] bd 4 17 (fun j _=>((bd.take j).map (dH F)).map Tm.av) (fun _ _=>True) (fun j _=>[(120,.int .i64 j)]) (fun _ _=>V6) (fun j _ _ e he=>by simp only[cF] at he;obtain⟨t,_,rfl⟩:=he;exact⟨Tm.fP _,aT _⟩) (by decide +kernel) ⟨(),0,trivial,fun h=>absurd rfl h,aP.mk (by simp only[lT,kE,bS,aB,↓aW,seval])⟩ (fun j y5 _ b5 hx5 a3G R7 a2W R6 hb5=>?_) (fun _ b5 RZ R6=>?_)
   · have hw5:=wrap64 (n:=(j:Int)+1) (by simp only at q9;omega) (by simp only at q9;omega)
     have RF:=bH (av:=Tm.av) (P:=prog) bY hx5 (aT y5)
     have HG:(((bd.take j).map (dH F)).map Tm.av).length=j:=by simp only[aE,dZ];omega
     have hyb:=uC.body y5 (cH hx5)
     simp only[R7,RF,cD,aT,Tm.e9,Tm.fP,aB,↓aW,seval,nL]
     refine(P4 (F:=F) (by omega) y5 hyb.1 _).to ?_
     simp only[cD,aT,Tm.fP,aB,seval,nL]
     refine gA bY lC lE rfl rfl (g8 (aT _) (Tm.e9 _)) (iX _) hb5 (by simp only[HG,a8,bG];simp only at q9;omega) (by simp only[HG,a8,bG];simp only at q9;omega) (fun b' hb'=>?_)
     rw[show(((bd.take j).map (dH F)).map Tm.av)++ [(dH F y5).av]=((bd.take (j+1)).map (dH F)).map Tm.av by rw[fN,hx5];simp] at hb' ⊢
     simp only[aB,seval]
     exact⟨(),b',hb',aP.mk (by simp only[hw5,aB,seval])⟩
   · have BA:=fun st=>P3 (bd.map (dH F)) i.chs.length at' rest (by simp only[aE];simp only at q9;omega) st
     simp only[RZ,gJ,gW,lV,pV,iC,DJ,K4,aKA,lF,eD,aKL,aB,seval]
     refine(BA _).to ?_
     have h7:=h6.put (gl:=(bd.map (dH F)).map (fun t=>(⟨t,i.chs.length,at'⟩:IG))++rest) (F:=F+26) (fuel':=fuel) (used':=used) (mx':=mx) rfl
     simp only[g9] at h7
     rw[show((F+26:Nat):Int)=(F:Int)+26 from rfl] at h7
     have hgl:(bd.map (dH F)).map (fun t=>(⟨t,i.chs.length,at'⟩:IG))++rest=bd.map (fun t=>(⟨dH F t,i.chs.length,at'⟩:IG))++rest:=by rw[uY];try rfl
     rw[hgl] at h7 ⊢
     generalize bd.map (fun t=>(⟨dH F t,i.chs.length,at'⟩:IG))++rest=NG at *
     obtain⟨u1,u2,u3,u4,u5,u6⟩:=pW NG
     have HF:=h7.acC.len HM
     simp only[aE] at HF
     simp only[aM,kL,u4,u5,aB,seval,nL]
     generalize aA.aC V6 S _=V7 at h7 ⊢
     have nZ:=h7.cell
     simp only[g9] at nZ
     rw[show((F+26:Nat):Int)=(F:Int)+26 from rfl] at nZ
     refine wX [(0,1),(1,1),(2,1),(3,1),(4,1),(5,1),(6,1),(7,1),(8,1),(9,1),(10,0),(11,1),(12,1),(13,2)] [0,1,2,3,4,5,6,7,8,9,11,12] _ mixed rfl (jM nZ) ?_
     simp only[aM,nZ,HF,c1,uK,aB,seval,nL]
     refine⟨jM nZ,?_⟩
     subst hT
     exact⟨_,aO.refl _,rfl,qt2,_,_,nd6,h7.put (gl:=NG) (F:=F+26) rfl⟩
theorem a4F(p:List Cl)(s:IS):gP p s.chs.length s=match s.chs.getLast? with
 | none=>none
 | some c=>if(f7 p c.goal c.node c.rest c.list (s.pop c)).1=true then some (f7 p c.goal c.node c.rest c.list (s.pop c)).2 else gP p (s.chs.length - 1) (f7 p c.goal c.node c.rest c.list (s.pop c)).2:=by
 obtain⟨gl,σ,tr,chs,F,nn⟩:=s
 cases chs with
 | nil=>rfl
 | cons c l=>rw[a8,gP];try rfl
structure VU (p:List Cl) (M:Nat) (st0:aA) (S c m:Nat) (q:List Tm) (idx:Bool) (fuel used:Int) (T:Option IS) (st:aA) (qt qc qn:AV) (mx:Int) (nd:List AV) (i:IS) (cs:List RC):Prop where
 s:dL st0 st S c m qt qc qn p q idx fuel used mx nd i
 r:iI i.fresh cs i.chs i.σ i.tr
 x:IX p M i
 t:gP p i.chs.length i=T
 n:i.chs.length≤524288∧i.nn≤524288
def VV(st0 st':aA)(S c m:Nat)(p:List Cl)(q:List Tm)(idx:Bool)(fuel used:Int)(r:AV):Option IS→Prop
 | some i'=>r=.int .i64 (-1)∧∃qt qc qn mx nd,dL st0 st' S c m qt qc qn p q idx fuel used mx nd i'
 | none=>r=.int .i64 0∧∃qt qc qn mx nd i',dL st0 st' S c m qt qc qn p q idx fuel used mx nd i'
abbrev IP:=zi aX (zi dD (zi cC (zi iP (zi FC (zi pH (zi FE (zi U3 (zi U5 (zi IW aP1)))))))))
set_option maxHeartbeats 2000000 in
theorem J7{p:List Cl}(hp:∀c∈p,gF c∧c.2.length≤6){M:Nat}(hM:M≤16777216){st0:aA}{S c m:Nat}{q:List Tm}{idx:Bool}{fuel used:Int}{T:Option IS}(st:aA)(qt qc qn:AV)(mx:Int)(nd:List AV)(i:IS)(cs:List RC)
 (hI:VU p M st0 S c m q idx fuel used T st qt qc qn mx nd i cs) :
 aD prog 178 [.ptr S 0] st (fun r st'=>VV st0 st' S c m p q idx fuel used r T):=by
 refine aD.oT ?_
 refine wF [1000000] 1 func178 ntmps178 rfl rfl ?_
 intro _
 simp only[aB,seval]
 refine oI (σ:=aA×AV×AV×AV×Int×List AV×IS×List RC) [1000000] [0] (fun x=>VU p M st0 S c m q idx fuel used T x.1 x.2.1 x.2.2.1 x.2.2.2.1 x.2.2.2.2.1 x.2.2.2.2.2.1 x.2.2.2.2.2.2.1 x.2.2.2.2.2.2.2) (fun x=>[(2,.int .i64 0)]) (fun x=>x.1) (fun x=>x.2.2.2.2.2.2.1.chs.length) (by decide +kernel) ⟨(st,qt,qc,qn,mx,nd,i,cs),hI,aP.mk (by simp only[aB,seval])⟩ ?_
 clear hI
 rintro⟨st,qt,qc,qn,mx,nd,i,cs⟩ ⟨hs,hr,hx,ht,hn1,hn2⟩
 simp only at hs hr hx ht hn1 hn2
 simp only
 obtain⟨gl,τ,tr,ch,F,nn⟩:=i
 obtain⟨t1,t2,t3,t4,t5⟩:=hs.sto.shape
 obtain⟨n1,n2,n3,n4,n5⟩:=hs.acC.shape
 obtain⟨m1,m2,m3,m4,m5⟩:=hs.acN.shape
 obtain⟨l1,l2,l3,l4,l5,l6⟩:=pW gl
 have HM:prog.underlying 208=some (.slice 237):=by kernel_rfl
 have hlC:=hs.acC.len HM
 rw[aE] at hlC
 simp only at hlC hr hx ht hn1 hn2
 have iN:=hs.cell
 simp only[g9] at iN
 replace ht:=(a4F p ⟨gl,τ,tr,ch,F,nn⟩).symm.trans ht
 simp only at ht
 cases hr with
 | nil=>
  simp only[List.getLast?_nil] at ht
  subst ht
  simp only[bG] at hlC
  simp only[iN,hlC,n1,wR,↓I9,List.contains,List.elem,tE,gY,sub,zP,↓reduceIte,reduceCtorEq,IP]
  refine aQ (fun h=>absurd h (by decide)) (fun h=>?_)
  simp only[aB,seval]
  exact⟨st,aO.refl _,rfl,_,_,_,_,_,_,hs⟩
 | @snoc cs ds cR d _ _ C h1 h2=>
  obtain⟨hP,hMl,hnt,htn,htr,hli⟩:=hx.pop
  have e3:(IS.pop ⟨gl,τ,tr,ds++ [d],F,nn⟩ d)=⟨gl,τ.out (tr.drop d.fK),tr.take d.fK,ds,F,d.taken⟩:=by simp only[IS.pop,OQ]
  simp only[List.getLast?_append,List.getLast?_singleton,Option.some_or,e3] at ht
  obtain⟨bC,csC,rfl,hbC,a3D,htk⟩:=hs.acC.at (SH _) (i:=ds.length) (e:=sQ d) (by simp)
  have hlm:((ds++ [d]).map sQ).length=ds.length+1:=by simp
  rw[hlm] at hs iN hlC
  have hSb:S≠bC:=fun e=>hs.parts.2.2.2.2.1 (by rw[e];simp [bU])
  have hdl:ds.length+1≤524288:=by simp only[dS,a8,bG] at hn1;omega
  have hw:IntKind.i64.wrap ((ds.length:Int)+1 - 1)=(ds.length:Int):=by rw[wrap64 (by omega) (by omega)];omega
  have a2C:=kT (P:=prog) (b:=bC) (w:=9) (i:=ds.length) G3 (len:=ds.length+1) (by omega)
  have HC:=fun(φ:AF) (dd:Nat) (h:φ dd=.int .i64 (ds.length:Int))=>MO (b:=bC) (n:=ds.length+1) (k:=ds.length) G3 h (by omega)
  obtain⟨⟨dk,dn,ds',dts⟩,KO,KP,QN,GZ,DD⟩:=d
  rw[aLR] at htk
  simp only at htn htr hnt hli hMl hP
  obtain⟨g1,g2,g3,g4,g5,g6⟩:=pW KP
  have a35:(csC.drop (ds.length*9)).take 9= [.int .i64 dk,.int .i64 dn,.str ds',.slice (dts.map Tm.av),.int .i64 (KO:Int),eT KP,.slice (QN.map nv),.int .i64 (GZ:Int),.int .i64 (DD:Int)]:=htk
  simp only[dS,a8,bG,iN,hlC,aB,seval,IP]
  refine aQ (fun h=>?_) (fun h=>absurd h (by simp))
  simp only[aM,dS,a8,bG,iN,hlC,hbC,a3D,a35,a2C,HC,hw,g5,aB,↓aW,seval,IP]
  have hs2:=hs.ZX (k:=ds.length) (gl:=gl) (by simp only[dS,a8,bG];omega) (cs:=g9 c p q idx fuel used F (eT gl) (.mslice bC 0 ds.length 9) qn mx) rfl
  simp only[CC,g9] at hs2
  generalize aA.aC st S _=V at hs2 ⊢
  have sO:=hs2.cell
  simp only[g9,yJ] at sO hs2
  have htl:=hs2.sto.fK
  refine wX [(0,1),(1,1),(2,1),(3,1),(4,1),(5,1),(6,2)] [0,1,2,3,4,5] _ mixed rfl (jM sO) ?_
  simp only[uK,aB,seval,IP]
  refine(P8 τ tr GZ htr c m qt V hs2.sto (by have:=hx.VH;have:=hx.phi;simp only at *;omega)).mono ?_
  rintro _ s4 ⟨rfl,qt4,hS4,hb4,hf4⟩
  have hs4:=hs2.FI hS4 (fun b o hb e1 e2 _=>hf4 b o hb e1 e2) (fun b hb=>.inl (hb4 b hb))
  have RR:=hs4.cell
  simp only[g9] at RR
  obtain⟨q1,q2,q3,q4,q5⟩:=hs4.sto.shape
  have a2Q:=fun(φ:AF) (dd:Nat) (h:φ dd=.int .i64 (DD:Int))=>aN3 KR hs4.acN h (by rw[hs4.ndl];exact htn)
  simp only[aB,seval]
  have hAN:=hs4.acN.take (k:=DD) (by rw[hs4.ndl];exact htn) hs4.ndw
  obtain⟨e1',e2',e3',e4',e5'⟩:=hAN.shape
  have hs6:=hs4.aXM (k:=DD) htn rfl
  simp only[g9] at hs6
  obtain⟨ρ,Sm,e1,hok,hG,e2⟩:=h1
  simp only at e1 e2
  have D0:=ZB hp (show M≤268435456 by omega) hs6 (.mk dk dn ds' dts) KO KP QN Sm.g2 Sm.o2 (e1▸Sm.BN hok) hli (by omega) hnt hP hMl (by first | omega | (simp only;omega)) (by first | omega | (simp only;omega))
  simp only[bD] at D0
  have HK:=N9 (fun c h=>(hp c h).1) (nn:=DD) (at':=KO) (tr:=tr.take GZ) hok hG cR.left F gl Sm C
  rw[←e1,←e2] at HK
  refine wX [(0,1),(1,1),(2,1),(3,1),(4,1),(5,1),(6,1),(7,1),(8,1),(9,1),(10,2)] [0,1,2,3,4,5,6,7,8,9] _ mixed rfl (jM RR) ?_
  simp only[aM,RR,a2Q,e4',e5',m1,g1,g2,uK,aB,seval,IP]
  refine D0.mono ?_
  rintro _ s7 ⟨rfl,qt7,qc7,mx7,nd7,hs7⟩
  simp only[aB,seval]
  refine aQ (fun h=>?_) (fun h=>?_)
  · simp only[aB,seval]
    rw[aN h] at ht
    subst ht
    exact⟨s7,aO.refl _,rfl,_,_,_,_,_,hs7⟩
  · rw[aK (by rw[h];simp)] at ht
    cases hrt:iO p cs cR.goal cR.rest cR.σ cR.N cR.left with
    | some s=>
     rw[e2,hrt] at HK
     obtain⟨i2,k1,_⟩:=HK
     rw[←e2] at k1
     rw[k1] at h
     cases h
    | none=>
     rw[e2,hrt] at HK
     obtain⟨F',hF,k1⟩:=HK
     rw[←e2] at k1
     have hX7:=LV (fun c h=>(hp c h).1) (rest:=KP) QN _ hli (at':=KO) (by simp only;exact hnt) (by simp only;exact hMl) hP Sm.g2 Sm.o2 (e1▸Sm.BN hok)
     rw[k1] at hs7 ht hX7
     simp only[aB,seval]
     refine⟨(s7,qt7,qc7,_,mx7,nd7,⟨gl,τ.out (tr.drop GZ),tr.take GZ,ds,F',DD⟩,cs),by simp only;omega,⟨hs7,C.mono hF,hX7,?_,by simp only;omega,by simp only;omega⟩,aP.mk (by simp only[aB,seval])⟩
     simpa using ht
end Go.AW
namespace Go.AW
theorem IX.node{p:List Cl}{M:Nat}{i:IS}(h:IX p M i):IX p M { i with nn:=i.nn+1 }:=
 ⟨h.tnd,h.tin,h.phi,fun c hc=>by obtain⟨h1,h2,h3,h4⟩:=h.ch c hc;exact⟨h1,by simp only;omega,h3,h4⟩,h.mono⟩
theorem IX.more{p:List Cl}{M:Nat}{i:IS}{σ':Sub}{add:List Int}{gl:List IG}(h:IX p M i)(S:nB (i.fresh:Int) i.σ σ' add):IX p M { i with goals:=gl,σ:=σ',tr:=i.tr++add }:=by
 refine⟨mA.2 ⟨h.tnd,S.nodup,fun a ha b hb e=>?_⟩,fun n hn=>?_,h.phi,fun c hc=>?_,h.mono⟩
 · subst e
   exact(h.tin a ha).2 (S.new a hb).1
 · simp only[eL] at hn
   rcases hn with hn | hn
   · have h1:=h.tin n hn
     have hna:n∉add:=fun ha=>h1.2 (S.new n ha).1
     exact⟨h1.1,by simp only;rw[S.aU n hna];exact h1.2⟩
   · exact⟨S.gE n hn,(S.new n hn).2⟩
 · obtain⟨h1,h2,h3,h4⟩:=h.ch c hc
   exact⟨h1,h2,by simp only[dS];omega,h4⟩
theorem IX.cut{p:List Cl}{M:Nat}{i:IS}{gl:List IG}(h:IX p M i)(k:Nat):IX p M { i with goals:=gl,chs:=i.chs.take k }:=
 ⟨h.tnd,h.tin,by have:=aL7 i.chs k;have:=h.phi;simp only;omega,fun c hc=>h.ch c (l9 hc),h.mono.sublist (List.take_sublist _ _)⟩
def O4(p:List Cl)(M:Nat):xX→Prop
 | .go s=>IX p M s
 | .fail s=>IX p M s
 | .stop _=>True
theorem a4I{p:List Cl}(hp:∀c∈p,gF c)(hpl:p.length≤20){cnd:Tm→List Nat→List Nat}(hc:∀t l,(∀i∈cnd t l,i∈l)∧(cnd t l).length≤l.length){M:Nat}{i:IS}{g:IG}{rest:List IG}(h:IX p M i)(hg:cO i.σ)(ho:cQ (bF i.fresh) i.σ)(hgo:bF i.fresh g.t) :
 O4 p (M+520) (mE p cnd i g rest):=by
 have hU:=h.up (M':=M+520) (by omega)
 unfold mE
 split
 · trivial
 rename_i eW
 have RX:fA (g.t.aL (rs i.σ))=true:=by simpa using eW
 have hok:=K8 hg ho hgo RX
 generalize g.t.aL (rs i.σ)=t at *
 split
 · exact(hU.cut (gl:=rest) g.cut).node
 split
 · have S:=MQ hg ho t.s t.ts fun x hx=>by
    obtain⟨k,n,s',ts⟩:=t
    by_cases hk:k=1
    · obtain⟨_,_,_,h2⟩:=(show cJ i.fresh (.mk 1 n s' ts) from hk▸hok.1).var
      simp only[Tm.ts] at hx
      rw[h2] at hx;cases hx
    · exact rG _ (.mk k n s' ts) hk hok x hx
   split
   · exact(hU.more (gl:=rest) S).node
   · split
     · exact(hU.more (gl:=i.goals) S).node
     · trivial
 split
 · trivial
 obtain⟨c1,c2⟩:=hc t (eS p t)
 have hfl:(eS p t).length≤p.length:=by
  have:=List.length_filter_le (fun j=>match p[j]? with | some c=>HD c t | none=>false) (List.range p.length)
  rw[List.length_range] at this
  exact this
 have hr:∀x∈cnd t (eS p t),x<p.length:=fun x hx=>by
  have:=c1 x hx
  unfold eS at this
  exact v6.1 (List.mem_filter.1 this).1
 have hT:=LV hp (rest:=rest) (cnd t (eS p t)) { i with nn:=i.nn+1 } hr (at':=i.nn) (by simp only;omega) (by have:=h.phi;simp only;omega) hU.node hg ho hok
 split
 · exact hT
 · exact hT
end Go.AW
namespace Go.AW
open Go.Proofs.Tryz
theorem aLQ{p:List Cl}{goal:Tm}{at':Nat}{rest:List IG}:∀(l:List Nat) (s:IS),(f7 p goal at' rest l s).1=false→∃F,(f7 p goal at' rest l s).2= { s with fresh:=F }
 | [],s,_=>⟨s.fresh,by rw[f7.eq_def]⟩
 | j::l,s,h=>by
  rw[f7.eq_def] at h ⊢
  simp only at h ⊢
  split at h
  · exact⟨s.fresh,rfl⟩
  · split at h
    · cases h
    · rename_i hu
      rw[aK hu]
      obtain⟨F,e⟩:=aLQ l { s with fresh:=s.fresh+26 } h
      exact⟨F,e⟩
theorem LW{p:List Cl}{goal:Tm}{at':Nat}{rest:List IG}:∀(l:List Nat) (s:IS),(f7 p goal at' rest l s).2.nn=s.nn
 | [],s=>by rw[f7.eq_def]
 | j::l,s=>by
  rw[f7.eq_def]
  simp only
  split
  · rfl
  · split
    · rfl
    · exact LW l { s with fresh:=s.fresh+26 }
theorem Rl.facts{s:RS}{i:IS}(h:Rl s i):cO i.σ∧cQ (bF i.fresh) i.σ∧i.chs.length=s.chs.length∧i.goals.length=s.goals.length:=by
 obtain⟨ρ,S,G,C⟩:=h
 have:=iT List.length G.1
 simp only[aE] at this
 exact⟨S.g2,S.o2,C.len,this⟩
theorem Rl.goal{s:RS}{i:IS}{h:IG}{hs:List IG}(hR:Rl s i)(hh:i.goals=h::hs):bF i.fresh h.t∧h.t.k=3∧∃g gs,s.goals=g::gs∧h.cut=g.aU:=by
 obtain⟨ρ,S,G,C⟩:=hR
 rw[hh] at G
 cases hg:s.goals with
 | nil=>rw[hg] at G;exact absurd G.1 (by simp)
 | cons g gs=>
  rw[hg] at G
  have he:=(pK G.1).1
  simp only[Prod.mk.injEq] at he
  obtain⟨e1,e2⟩:=he
  obtain⟨h1,h2⟩:=G.2 g (by simp)
  rw[e1]
  exact⟨S.BN h1,by rw[yY];exact h2,g,gs,rfl,e2⟩
section
variable {p:List Cl} (hp:∀c∈p,gF c) {cnd:Tm→List Nat→List Nat} (hc:∀(ρ:Int→Int) (t:Tm) (l:List Nat),cnd (bZ ρ t) l=cnd t l)
include hp hc
theorem Rl.step{s:RS}{i:IS}{h:IG}{hs:List IG}(hR:Rl s i)(hh:i.goals=h::hs):∃g gs,s.goals=g::gs∧match mE p cnd i h hs with
 | .stop e=>lL p cnd s g gs=.stop e
 | .go i'=>∃s',lL p cnd s g gs=.go s'∧Rl s' i'
 | .fail i'=>lL p cnd s g gs=.fail∧iI i'.fresh s.chs i'.chs i'.σ i'.tr:=by
 obtain⟨_,_,g,gs,hg,_⟩:=hR.goal hh
 obtain⟨h',hs',e,k⟩:=aN9 hp hc hR hg
 rw[hh] at e
 cases e
 refine⟨g,gs,hg,?_⟩
 cases hr:lL p cnd s g gs with
 | stop e=>rw[hr] at k;simp only at k;rw[k]
 | go s'=>rw[hr] at k;simp only at k;obtain⟨i',e,k⟩:=k;rw[e];exact⟨s',rfl,k⟩
 | fail=>rw[hr] at k;simp only at k;obtain⟨i',e,k⟩:=k;rw[e];exact⟨rfl,k⟩
end
theorem a1Q(p:List Cl)(t:Tm):(eS p t).length≤p.length:=by
 have:=List.length_filter_le (fun j=>match p[j]? with | some c=>HD c t | none=>false) (List.range p.length)
 rw[List.length_range] at this
 exact this
theorem Q6(p:List Cl)(t:Tm):∀x∈eS p t,x<p.length:=fun x hx=>by
 unfold eS at hx
 exact v6.1 (List.mem_filter.1 hx).1
theorem aLP{p:List Cl}{N:Nat}{i':IS}:∀(n:Nat) (i:IS),(∀c∈i.chs,c.taken≤N)→gP p n i=some i'→i'.nn≤N
 | 0,i,_,e=>by simp [gP] at e
 | n+1,i,h,e=>by
  rw[gP] at e
  split at e
  · cases e
  · rename_i c hl
    split at e
    · cases e
      rw[LW]
      exact h c (OU hl)
    · rename_i hf
      obtain⟨F,e2⟩:=aLQ _ _ (by simpa using hf)
      rw[e2] at e
      exact aLP n _ (fun c hc=>h c (OR _ hc)) e
def O3(k:Nat):xX→Prop
 | .go s=>s.nn=k
 | .fail s=>s.nn=k
 | .stop _=>True
theorem a4J{p:List Cl}{cnd:Tm→List Nat→List Nat}{i:IS}{g:IG}{rest:List IG}:O3 (i.nn+1) (mE p cnd i g rest):=by
 unfold mE
 split
 · trivial
 split
 · exact rfl
 split
 · split
   · exact rfl
   · split
     · exact rfl
     · trivial
 split
 · trivial
 split
 · exact LW _ _
 · exact LW _ _
def WC:xX→Prop
 | .stop e=>e≠-1
 | _=>True
theorem a4K{p:List Cl}{cnd:Tm→List Nat→List Nat}{i:IS}{g:IG}{rest:List IG}:WC (mE p cnd i g rest):=by
 unfold mE
 split
 · exact(by decide:(3:Int)≠-1)
 split
 · trivial
 split
 · split
   · trivial
   · split
     · trivial
     · show sL _≠-1
       unfold sL
       split
       · decide
       · split
         · decide
         · split<;>decide
 split
 · exact(by decide:(8:Int)≠-1)
 split<;>trivial
structure RI (p:List Cl) (B M k:Nat) (s:RS) (i:IS):Prop where
 r:Rl s i
 a:mK p B s
 x:IX p M i
 n:i.nn≤k
theorem RI.pT{p:List Cl}{B M k:Nat}{s:RS}{i:IS}(h:RI p B M k s i):i.chs.length≤B:=by rw[h.r.facts.2.2.1];exact h.a.a.pT
theorem RI.cr{p:List Cl}{B M k:Nat}{s:RS}{i:IS}(h:RI p B M k s i):iI i.fresh s.chs i.chs i.σ i.tr:=by obtain⟨_,_,_,C⟩:=h.r;exact C
theorem RI.cut{p:List Cl}{B M k:Nat}{s:RS}{i:IS}{g:IG}{gs:List IG}(h:RI p B M k s i)(hg:i.goals=g::gs):g.cut≤i.chs.length:=by
 obtain⟨_,_,g',gs',e,e2⟩:=h.r.goal hg
 rw[e2,h.r.facts.2.2.1]
 have:=h.a.k.goals.2 g' (by rw[e];simp)
 exact this
section
variable {p:List Cl} (hp:∀c∈p,gF c∧c.2.length≤6) (hpl:p.length≤20) {cnd:Tm→List Nat→List Nat} (hc:∀(ρ:Int→Int) (t:Tm) (l:List Nat),cnd (bZ ρ t) l=cnd t l) (hd:∀t l,(∀i∈cnd t l,i∈l)∧(cnd t l).length≤l.length)
include hp
theorem RI.XC{B M k:Nat}(hB:B≤524288){s:RS}{i i':IS}(ha:mK p B s)(hC:iI i.fresh s.chs i.chs i.σ i.tr)(hx:IX p M i)(hn:i.nn≤k)(e:gP p i.chs.length i=some i'):∃s',RI p B M k s' i':=by
 have hp1:=fun c h=>(hp c h).1
 have key:=PP hp1 i.chs.length s.chs i hC
 cases hr:gT p i.chs.length s.chs with
 | none=>rw[hr] at key;simp only at key;rw[key] at e;cases e
 | some s'=>
  rw[hr] at key
  obtain⟨i2,e2,R⟩:=key
  rw[e2] at e
  cases e
  rw[hC.len] at hr
  exact⟨s',R,ha.back hp hB hr,aLO hp1 _ s.chs i hC hx i' e2,aLP _ i (fun c hc=>nN (hx.ch c hc).2.1 hn) e2⟩
theorem RI.back{B M k:Nat}(hB:B≤524288){s:RS}{i i':IS}(h:RI p B M k s i)(e:gP p i.chs.length i=some i'):∃s',RI p B M k s' i':=
 RI.XC hp hB h.a h.cr h.x h.n e
include hpl hc hd
theorem RI.step{B M k:Nat}(hB:B+26≤524288){s:RS}{i:IS}{g:IG}{gs:List IG}(h:RI p B M k s i)(hg:i.goals=g::gs):match mE p cnd i g gs with
 | .stop e=>True
 | .go i'=>∃s',RI p (B+26) (M+520) (k+1) s' i'
 | .fail i'=>iI i'.fresh s.chs i'.chs i'.σ i'.tr∧IX p (M+520) i'∧i'.nn≤k+1∧∀i2,gP p i'.chs.length i'=some i2→∃s',RI p (B+26) (M+520) (k+1) s' i2:=by
 have hp1:=fun c h=>(hp c h).1
 have hn:=a4J (p:=p) (cnd:=cnd) (i:=i) (g:=g) (rest:=gs)
 have hx:=a4I hp1 hpl hd (rest:=gs) h.x h.r.facts.1 h.r.facts.2.1 (h.r.goal hg).1
 obtain⟨g',gs',e,k⟩:=h.r.step hp1 hc hg
 have hk:=h.n
 cases hs:mE p cnd i g gs with
 | stop e=>trivial
 | go i'=>
  rw[hs] at hn hx k
  simp only[O3,O4] at hn hx k
  obtain⟨s',e1,R⟩:=k
  exact⟨s',R,h.a.step hp (by omega) hB hd e e1,hx,by omega⟩
 | fail i'=>
  rw[hs] at hn hx k
  simp only[O3,O4] at hn hx k
  obtain⟨e1,C⟩:=k
  exact⟨C,hx,by omega,fun i2 e2=>RI.XC hp hB (h.a.up (by omega)) C hx (by omega) e2⟩
end
theorem RI.start{p:List Cl}{q:List Tm}(hq:∀t∈q,bF 26 t∧t.k=3)(h6:q.length≤6):RI p 26 26 0 (nH q) (oY q):=by
 refine⟨aN8 hq,mK.start hq h6,⟨mJ,fun n hn=>(by cases hn),(by show 26+26*qB []≤26;simp [qB]),fun c hc=>(by cases hc),List.Pairwise.nil⟩,cZ _⟩
theorem a4H{p:List Cl}{cnd:Tm→List Nat→List Nat}{vars:List Int}{most fuel:Nat}{s:IS}(hg:s.goals= []):jF p cnd vars most fuel s=if most=0 then([],1) else match jZ s.σ vars with
 | none=>([],3)
 | some a=>match gP p s.chs.length s with
  | none=>([a],0)
  | some s'=>(a::(jF p cnd vars (most - 1) fuel s').1,(jF p cnd vars (most - 1) fuel s').2):=by
 rw[jF.eq_def,hg]
 simp only
 split<;>rfl
theorem a4G{p:List Cl}{cnd:Tm→List Nat→List Nat}{vars:List Int}{most fuel:Nat}{s:IS}{g:IG}{rest:List IG}(hg:s.goals=g::rest):jF p cnd vars most fuel s=if fuel=0 then([],2) else match mE p cnd s g rest with
 | .stop e=>([],e)
 | .go s'=>jF p cnd vars most (fuel - 1) s'
 | .fail s'=>match gP p s'.chs.length s' with
  | none=>([],0)
  | some s''=>jF p cnd vars most (fuel - 1) s'':=by
 rw[jF.eq_def,hg]
 simp only
 split<;>rfl
section
variable {st0 st:aA} {S c m:Nat} {qt qc qn:AV} {p:List Cl} {q:List Tm} {idx:Bool} {fuel used mx:Int} {nd:List AV} {i:IS}
theorem dL.acc{b:Nat}{l:List AV}(h:dL st0 st S c m qt qc qn p q idx fuel used mx nd i)(hb:l≠[]→st b=none):dL (bK st0 b l) (bK st b l) S c m qt qc qn p q idx fuel used mx nd i:=by
 cases l with
 | nil=>exact h
 | cons x l=>
  have hn:=hb (by simp)
  have hne:∀a∈iW S c m qt qc qn,bK st b (x::l) a=st a:=fun a ha=>nQ (by rintro rfl;exact h.held a ha hn)
  have a3N:∀a∈iW S c m qt qc qn,bK st0 b (x::l) a=st0 a:=fun a ha=>nQ (by rintro rfl;exact h.held a ha hn)
  refine⟨by rw[hne S (eM.2 (.inl rfl))];exact h.cell,h.sto.D1 (hne c (eM.2 (.inr (.inl rfl)))) (hne m (eM.2 (.inr (.inr (.inl rfl))))) (fun b hb=>hne b (eM.2 (.inr (.inr (.inr (.inl hb)))))),
   h.acC.aU fun b hb=>hne b (eM.2 (.inr (.inr (.inr (.inr (.inl hb)))))),h.acN.aU fun b hb=>hne b (eM.2 (.inr (.inr (.inr (.inr (.inr hb)))))),h.ndl,h.ndw,h.dis,fun a ha=>by rw[a3N a ha];exact h.new a ha,fun a o ha=>?_⟩
  by_cases e:a=b
  · subst e
    rw[lS (by simp),aA.aJ] at ha ⊢
    exact ha
  · rw[nQ e] at ha ⊢
    exact h.aU a o ha
theorem dL.B1{b:Nat}{l:List AV}{st2:aA}(h:dL (bK st0 b l) st2 S c m qt qc qn p q idx fuel used mx nd i)(hb:l≠[]→st0 b=none):∃s,st2=bK s b l∧(l≠[]→s b=none)∧dL st0 s S c m qt qc qn p q idx fuel used mx nd i:=by
 cases l with
 | nil=>exact⟨st2,rfl,fun h=>absurd rfl h,h⟩
 | cons x l=>
  have hn:=hb (by simp)
  have h2:st2 b=some (.cells ((x::l).flatMap AV.cells)):=h.aU b _ (by rw[lS (by simp),aA.aJ])
  have hbn:b∉iW S c m qt qc qn:=fun hm=>by
   have:=h.new b hm
   rw[lS (by simp),aA.aJ] at this
   cases this
  obtain⟨s',hs'⟩:∃s':aA,∀y,s' y=if y=b then none else st2 y:=⟨_,fun _=>rfl⟩
  have hne:∀a∈iW S c m qt qc qn,s' a=st2 a:=fun a ha=>by rw[hs',aK (by rintro rfl;exact hbn ha)]
  refine⟨s',?_,fun _=>by rw[hs',aN rfl],?_⟩
  · funext y
    by_cases e:y=b
    · subst e;rw[lS (by simp),aA.aJ,h2]
    · rw[nQ e,hs',aK e]
  · refine⟨by rw[hne S (eM.2 (.inl rfl))];exact h.cell,h.sto.D1 (hne c (eM.2 (.inr (.inl rfl)))) (hne m (eM.2 (.inr (.inr (.inl rfl))))) (fun b hb=>hne b (eM.2 (.inr (.inr (.inr (.inl hb)))))),
     h.acC.aU fun b hb=>hne b (eM.2 (.inr (.inr (.inr (.inr (.inl hb)))))),h.acN.aU fun b hb=>hne b (eM.2 (.inr (.inr (.inr (.inr (.inr hb)))))),h.ndl,h.ndw,h.dis,fun a ha=>?_,fun a o ha=>?_⟩
    · have:=h.new a ha
      rwa [nQ (by rintro rfl;exact hbn ha)] at this
    · have e:a≠b:=by rintro rfl;rw[hn] at ha;cases ha
      rw[hs',aK e]
      exact h.aU a o (by rw[nQ e];exact ha)
theorem KY{st:aA}{b:Nat}{o:AO}(h:st b=none):eQ st (st.aC b o):=fun x p hx=>by
 rw[aA.aF _ _ (by rintro rfl;rw[h] at hx;cases hx)];exact hx
theorem OA{S b:Nat}(hne:S≠b)(X Y:AO):∃s0:aA,s0 S=some X∧s0 b=some Y∧∀st:aA,st S=some X→st b=some Y→eQ s0 st:=by
 refine⟨(one S X).aC b Y,by rw[aA.aF _ _ hne];exact uK,aA.aJ _ _ _,fun st h1 h2 x p hx=>?_⟩
 by_cases e:x=b
 · subst e;rw[aA.aJ] at hx;cases hx;exact h2
 · rw[aA.aF _ _ e] at hx;exact jM h1 x p hx
theorem dL.box{b:Nat}{o:AO}(h:dL st0 st S c m qt qc qn p q idx fuel used mx nd i)(hn:st b=none):dL (st0.aC b o) (st.aC b o) S c m qt qc qn p q idx fuel used mx nd i:=by
 have hne:∀(s:aA) a,a∈iW S c m qt qc qn→(s.aC b o) a=s a:=fun s a ha=>aA.aF _ _ (by rintro rfl;exact h.held a ha hn)
 refine⟨by rw[hne _ S (eM.2 (.inl rfl))];exact h.cell,h.sto.D1 (hne _ c (eM.2 (.inr (.inl rfl)))) (hne _ m (eM.2 (.inr (.inr (.inl rfl))))) (fun b hb=>hne _ b (eM.2 (.inr (.inr (.inr (.inl hb)))))),
  h.acC.aU fun b hb=>hne _ b (eM.2 (.inr (.inr (.inr (.inr (.inl hb)))))),h.acN.aU fun b hb=>hne _ b (eM.2 (.inr (.inr (.inr (.inr (.inr hb)))))),h.ndl,h.ndw,h.dis,fun a ha=>by rw[hne _ a ha];exact h.new a ha,fun a o' ha=>?_⟩
 by_cases e:a=b
 · subst e
   rw[aA.aJ] at ha ⊢
   exact ha
 · rw[aA.aF _ _ e] at ha ⊢
   exact h.aU a o' ha
theorem dL.unbox{b:Nat}{o:AO}(h:dL (st0.aC b o) st S c m qt qc qn p q idx fuel used mx nd i)(hn:st0 b=none):dL st0 st S c m qt qc qn p q idx fuel used mx nd i:=by
 refine⟨h.cell,h.sto,h.acC,h.acN,h.ndl,h.ndw,h.dis,fun a ha=>?_,fun a o' ha=>?_⟩
 · have:=h.new a ha
   by_cases e:a=b
   · subst e;exact hn
   · rwa [aA.aF _ _ e] at this
 · have e:a≠b:=by rintro rfl;rw[hn] at ha;cases ha
   exact h.aU a o' (by rw[aA.aF _ _ e];exact ha)
end
end Go.AW
namespace Go.AW


theorem bAS{l:List Tm}{f g:Int→Tm}(hc:∀t∈l,t.cv=true)(hf:∀t∈l,∀v∈t.vl,(f v).cv=true)(h:∀t∈l,(t.aL f).aL g=t):kV (l.map (Tm.aL f))=kV l:=by
 have hk:(0:Int)≠1:=by decide
 have hW:∀l:List Tm,H7 (.mk 0 0 ⟨#[]⟩ l)=.mk 0 0 ⟨#[]⟩ (kV l):=fun l=>by
  have e:(Tm.mk 0 0 ⟨#[]⟩ l).vars []=cA l []:=by simp [Tm.vars]
  unfold H7 kV
  rw[Tm.kA _ hk,e]
 have:=variant (x:=.mk 0 0 ⟨#[]⟩ l) (y:=.mk 0 0 ⟨#[]⟩ (l.map (Tm.aL f))) (f:=f) (g:=g) (Tm.oR.2 ⟨fun h=>absurd h hk,hc⟩) (fun v hv=>by
  obtain⟨t,ht,hvt⟩:=(Tm.kY hk).1 hv
  exact hf t ht v hvt) (by rw[Tm.kA f hk]) (by
  rw[Tm.kA g hk,uY]
  congr 1
  conv=>lhs;rw[←List.map_id l]
  exact qK fun t ht=>(h t ht).symm)
 rw[hW,hW] at this
 injection this with _ _ _ e
 exact e.symm
theorem a7P{l:List Tm}(hc:∀t∈l,t.cv=true):kV (kV l)=kV l:=by
 have h:=bAS (l:=l) (f:=fun v=>vr (eN v (cA l []) 0)) (g:=fun i=>vr (((cA l [])[i.toNat]?).getD 0)) hc (fun _ _ _ _=>rfl) fun t ht=>by
  rw[uI]
  conv=>rhs;rw[←HR t (hc t ht)]
  refine o7 t fun v hv=>?_
  rw[uJ]
  obtain⟨j,h1,h2,h3,_⟩:=aLT v (cA l []) 0 ((xR l [] hc).2 (.inr ⟨t,ht,hv⟩))
  rw[h1,show((0:Int)+(j:Nat)).toNat=j by omega,h3]
  try rfl
 exact h
def VS(vars:List Int)(a:List Tm):Prop:=a.length=vars.length∧a.all Tm.valid=true∧kV a=a
theorem aRX{N:Nat}{σ:Sub}(hg:cO σ)(ho:cQ (bF N) σ){vars:List Int}(hv:∀v∈vars,0≤v∧v<(N:Int)){a:List Tm}(h:jZ σ vars=some a):VS vars a:=by
 obtain⟨rk,B,G⟩:=hg.rs
 unfold jZ at h
 split at h
 · rename_i hh
   cases h
   obtain⟨h1,h2⟩:=hh
   have hok:∀t∈vars.map (rs σ),bF N t:=fun t ht=>by
    obtain⟨v,hvm,rfl⟩:=cF.1 ht
    have hf:=fU.1 h1 _ ht
    unfold fA at hf
    simp only[cY,bM] at hf
    exact⟨G.mI ho.mI v (hv v hvm).1 (hv v hvm).2,hf.2⟩
   exact⟨by rw[a7Q hok,aE],by rw[aNL hok h1,bM];exact h2,a7P fun t ht=>(hok t ht).1.2.1⟩
 · cases h
theorem a7A{p:List Cl}(hp:∀c∈p,gF c∧c.2.length≤6)(hpl:p.length≤20){cnd:Tm→List Nat→List Nat}(hd:∀t l,(∀i∈cnd t l,i∈l)∧(cnd t l).length≤l.length){vars:List Int}(hv:∀v∈vars,0≤v∧v<26) :
 ∀(n most fuel:Nat) (s:RS) (B:Nat),most+fuel≤n→mK p B s→B+26*fuel≤8000→(lK p cnd vars most fuel s).1.length≤most∧∀a∈(lK p cnd vars most fuel s).1,VS vars a:=by
 intro n
 induction n with
 | zero=>
  intro most fuel s B hn hs hB
  obtain rfl:most=0:=by omega
  obtain rfl:fuel=0:=by omega
  cases hg:s.goals with
  | nil=>rw[TD hg];simp
  | cons g rest=>rw[TC hg];simp
 | succ n ih=>
  intro most fuel s B hn hs hB
  cases hg:s.goals with
  | nil=>
   rw[TD hg]
   by_cases hm:most=0
   · rw[aN hm];simp
   rw[aK hm]
   cases ha:jZ s.σ vars with
   | none=>simp
   | some a=>
    have hok:=aRX hs.a.gX hs.a.ok (fun v h=>⟨(hv v h).1,by have:=(hv v h).2;have:=hs.l.1;omega⟩) ha
    simp only
    cases hb:gT p s.chs.length s.chs with
    | none=>
     simp only[a8,bG,cG,cX,dG]
     exact⟨by omega,fun x hx=>by rw[hx];exact hok⟩
    | some s'=>
     obtain⟨h1,h2⟩:=ih (most - 1) fuel s' B (by omega) (hs.back hp (by omega) hb) hB
     simp only[a8,cG]
     refine⟨by omega,fun x hx=>?_⟩
     rcases hx with rfl | hx
     · exact hok
     · exact h2 x hx
  | cons g rest=>
   rw[TC hg]
   by_cases hf:fuel=0
   · rw[aN hf];simp
   rw[aK hf]
   cases hst:lL p cnd s g rest with
   | stop e=>simp
   | go s'=>exact ih most (fuel - 1) s' (B+26) (by omega) (hs.step hp (by omega) (by omega) hd hg hst) (by omega)
   | fail=>
    simp only
    cases hb:gT p s.chs.length s.chs with
    | none=>simp
    | some s'=>exact ih most (fuel - 1) s' B (by omega) (hs.back hp (by omega) hb) (by omega)
theorem a68{q:List Tm}(hq:∀t∈q,bF 26 t∧t.k=3):(∀v∈cA q [],0≤v∧v<26)∧(cA q []).length≤26:=by
 have hv:∀v∈cA q [],0≤v∧v<26:=fun v hv=>by
  rcases (xR q [] fun t ht=>(hq t ht).1.1.2.1).1 hv with h | ⟨t,ht,h⟩
  · cases h
  · exact(hq t ht).1.1.2.2 v h
 refine⟨hv,?_⟩
 have hnd:=N7 q [] (fun t ht=>Tm.tT t (hq t ht).1.1.2.1) mJ
 exact EB (N:=26) hnd fun n hn=>hv n hn
theorem a8J(p:List Cl){cnd:Tm→List Nat→List Nat}(hd:∀t l,(∀i∈cnd t l,i∈l)∧(cnd t l).length≤l.length)(q:List Tm)(most fuel:Int):(mX p cnd q most fuel).1.length≤20∧∀a∈(mX p cnd q most fuel).1,a.length≤26∧a.all Tm.valid=true:=by
 unfold mX
 split
 · rename_i h
   simp only[uN,cY,bM] at h
   obtain⟨hp,hq,h1,h2,h3,h4⟩:=h
   obtain⟨p1,p2⟩:=TA hp
   obtain⟨q1,q2⟩:=TB hq
   obtain⟨v1,v2⟩:=a68 q2
   obtain⟨r1,r2⟩:=a7A p2 p1 hd v1 _ most.toNat fuel.toNat (nH q) 26 (cZ _) (mK.start q2 q1) (by omega)
   unfold y9
   refine⟨by omega,fun a ha=>?_⟩
   obtain⟨h5,h6,_⟩:=r2 a ha
   exact⟨by omega,h6⟩
 · simp
def pr(x y:Tm):Tm:=.mk 3 0 ⟨#[46]⟩ [x,y]
def SM(x:Tm):ByteArray:=if x.k=1 then⟨#[]⟩ else if x.k=2 then tU x.n else x.s++⟨#[47]⟩++sJ 20 x.ts.length ⟨#[]⟩
def yV(t:Tm):ByteArray:=if t.k=1 then⟨#[]⟩ else match t.ts with
 | []=>⟨#[]⟩
 | x::_=>SM x
def K7(a b:ByteArray):Bool:=decide (a=⟨#[]⟩)||(decide (b=⟨#[]⟩)||decide (a=b))
def DK(p:List Cl)(key:ByteArray)(i:Nat):Bool:=match p[i]? with
 | some c=>K7 (yV c.1) key
 | none=>false
def tS(p:List Cl)(t:Tm)(l:List Nat):List Nat:=l.filter (DK p (yV t))
section
variable (p:List Cl)
variable {p}
end
end Go.AW

namespace Go.AW
open Go.Proofs.Tryz
open Go.Shelf
set_option linter.unusedSimpArgs false
set_option linter.unusedVariables false
set_option maxRecDepth 100000
def a4Y:Go.Shelf.Ren:=⟨fun | 171=>221 | 243=>224 | 246=>226 | 283=>227 | 284=>228 | 285=>229 | 286=>230 | 129=>232 | 317=>231 | 318=>233 | 319=>234 | 320=>235 | 337=>236 | 338=>237 | n=>n,fun | 3=>3 | 9=>9 | 2=>2 | 4=>4 | 171=>256 | 0=>0 | 53=>257 | 37=>25 | 5=>5 | 173=>260 | 212=>262 | 51=>263 | 20=>20 | 213=>264 | 46=>111 | 232=>267 | 233=>268 | n=>n,fun | 17=>0 | 18=>1 | 19=>2 | n=>n⟩
theorem a4X:Go.Proofs.LaysM.n171 prog a4Y:={
 mixed:=by kernel_rfl
 f129:=Go.Proofs.Tryz.func232.trans (iT some (by kernel_rfl))
 f171:=Go.Proofs.Tryz.func221.trans (iT some (by kernel_rfl))
 f243:=Go.Proofs.Tryz.func224.trans (iT some (by kernel_rfl))
 f246:=Go.Proofs.Tryz.func226.trans (iT some (by kernel_rfl))
 f283:=Go.Proofs.Tryz.func227.trans (iT some (by kernel_rfl))
 f284:=Go.Proofs.Tryz.func228.trans (iT some (by kernel_rfl))
 f285:=Go.Proofs.Tryz.func229.trans (iT some (by kernel_rfl))
 f286:=Go.Proofs.Tryz.func230.trans (iT some (by kernel_rfl))
 f317:=Go.Proofs.Tryz.func231.trans (iT some (by kernel_rfl))
 f318:=Go.Proofs.Tryz.func233.trans (iT some (by kernel_rfl))
 f319:=Go.Proofs.Tryz.func234.trans (iT some (by kernel_rfl))
 f320:=Go.Proofs.Tryz.func235.trans (iT some (by kernel_rfl))
 f337:=Go.Proofs.Tryz.func236.trans (iT some (by kernel_rfl))
 f338:=Go.Proofs.Tryz.func237.trans (iT some (by kernel_rfl))
 t0:=Go.Proofs.Tryz.underlying0
 a0:=Go.Proofs.Tryz.isAgg0
 z0:=Go.Proofs.Tryz.sizeOf0
 v0:=Go.Proofs.Tryz.zeroValue0
 t2:=Go.Proofs.Tryz.underlying2
 a2:=Go.Proofs.Tryz.isAgg2
 z2:=Go.Proofs.Tryz.sizeOf2
 v2:=Go.Proofs.Tryz.zeroValue2
 t3:=Go.Proofs.Tryz.underlying3
 a3:=Go.Proofs.Tryz.isAgg3
 z3:=Go.Proofs.Tryz.sizeOf3
 v3:=Go.Proofs.Tryz.zeroValue3
 t4:=Go.Proofs.Tryz.underlying4
 a4:=Go.Proofs.Tryz.isAgg4
 z4:=Go.Proofs.Tryz.sizeOf4
 v4:=Go.Proofs.Tryz.zeroValue4
 t5:=Go.Proofs.Tryz.underlying5
 a5:=Go.Proofs.Tryz.isAgg5
 z5:=Go.Proofs.Tryz.sizeOf5
 v5:=Go.Proofs.Tryz.zeroValue5
 t9:=Go.Proofs.Tryz.underlying9
 a9:=Go.Proofs.Tryz.isAgg9
 z9:=Go.Proofs.Tryz.sizeOf9
 v9:=Go.Proofs.Tryz.zeroValue9
 t20:=Go.Proofs.Tryz.underlying20
 a20:=Go.Proofs.Tryz.isAgg20
 z20:=Go.Proofs.Tryz.sizeOf20
 v20:=Go.Proofs.Tryz.zeroValue20
 t37:=Go.Proofs.Tryz.underlying25
 a37:=Go.Proofs.Tryz.isAgg25
 z37:=Go.Proofs.Tryz.sizeOf25
 v37:=Go.Proofs.Tryz.zeroValue25
 t46:=Go.Proofs.Tryz.underlying111
 a46:=Go.Proofs.Tryz.isAgg111
 z46:=Go.Proofs.Tryz.sizeOf111
 v46:=Go.Proofs.Tryz.zeroValue111
 t51:=Go.Proofs.Tryz.underlying263
 a51:=Go.Proofs.Tryz.isAgg263
 z51:=Go.Proofs.Tryz.sizeOf263
 v51:=Go.Proofs.Tryz.zeroValue263
 t53:=Go.Proofs.Tryz.underlying257
 a53:=Go.Proofs.Tryz.isAgg257
 z53:=Go.Proofs.Tryz.sizeOf257
 v53:=Go.Proofs.Tryz.zeroValue257
 t171:=Go.Proofs.Tryz.underlying256
 a171:=Go.Proofs.Tryz.isAgg256
 z171:=Go.Proofs.Tryz.sizeOf256
 v171:=Go.Proofs.Tryz.zeroValue256
 t173:=Go.Proofs.Tryz.underlying260
 a173:=Go.Proofs.Tryz.isAgg260
 z173:=Go.Proofs.Tryz.sizeOf260
 v173:=Go.Proofs.Tryz.zeroValue260
 t212:=Go.Proofs.Tryz.underlying262
 a212:=Go.Proofs.Tryz.isAgg262
 z212:=Go.Proofs.Tryz.sizeOf262
 v212:=Go.Proofs.Tryz.zeroValue262
 t213:=Go.Proofs.Tryz.underlying264
 a213:=Go.Proofs.Tryz.isAgg264
 z213:=Go.Proofs.Tryz.sizeOf264
 t232:=Go.Proofs.Tryz.underlying267
 a232:=Go.Proofs.Tryz.isAgg267
 z232:=Go.Proofs.Tryz.sizeOf267
 v232:=Go.Proofs.Tryz.zeroValue267
 t233:=Go.Proofs.Tryz.underlying268
 a233:=Go.Proofs.Tryz.isAgg268
 z233:=Go.Proofs.Tryz.sizeOf268
 v233:=Go.Proofs.Tryz.zeroValue268
 g17:=by kernel_rfl
 g18:=by kernel_rfl
 g19:=by kernel_rfl
 i0:=by kernel_rfl
 i2:=by kernel_rfl
 i3:=by kernel_rfl
 i4:=by kernel_rfl
 i5:=by kernel_rfl
 i9:=by kernel_rfl
 i20:=by kernel_rfl
 i37:=by kernel_rfl
 i46:=by kernel_rfl
 i51:=by kernel_rfl
 i53:=by kernel_rfl
 i171:=by kernel_rfl
 i173:=by kernel_rfl
 i212:=by kernel_rfl
 i232:=by kernel_rfl
 i233:=by kernel_rfl
 m17:=by kernel_rfl
 m18:=by kernel_rfl
 m19:=by kernel_rfl }
theorem QL:∀(f u:Nat) (acc:ByteArray),u<10 ^ f→0<f→sJ f u acc=⟨(Lib.decDigits u).toArray⟩++acc
 | 0,_,_,_,h=>absurd h (by decide)
 | f+1,u,acc,h,_=>by
  rw[sJ,Lib.decDigits]
  rw[Nat.pow_succ] at h
  by_cases h9:9<u
  · have hf:0<f:=by
     rcases Nat.eq_zero_or_pos f with rfl | h'
     · simp at h;omega
     · exact h'
    rw[aN h9,dif_neg (by omega),QL f (u / 10) _ (by omega) hf]
    apply ByteArray.ext
    simp [OM]
  · rw[aK h9,dif_pos (by omega)]
theorem a4Z{n:Int}(h1: -999≤n)(h2:n≤999):(⟨(Lib.itoa n).toArray⟩:ByteArray)=tU n:=by
 unfold Lib.itoa tU
 by_cases h:n<0
 · rw[aN h,aN h,QL 20 _ _ (by omega) (by decide),show n.natAbs=(-n).toNat by omega]
   apply ByteArray.ext
   simp [OM]
 · rw[aK h,aK h,QL 20 _ _ (by omega) (by decide)]
   apply ByteArray.ext
   simp [OM]
theorem aXO(n:Int):(tU n).size≤21:=by
 have h0:(⟨#[]⟩:ByteArray).size=0:=rfl
 unfold tU
 split
 · have:=KM 20 (-n).toNat ⟨#[]⟩
   rw[J2]
   show 1+_≤_
   omega
 · have:=KM 20 n.toNat ⟨#[]⟩
   omega
def xI:AO:=.tab (Lib.pow10Tab.map fun z=>Value.int .u64 z).toArray
abbrev uM:Nat:=0
theorem a8S{P:Program}{w:World}{g:Nat}{name:String}{k:IntKind}{zs:List Int}{st:aA}(hg:P.globalNamed name=some g)(S:cK w.heap st)(h:st g=some (.tab (zs.map fun z=>Value.int k z).toArray)):Lib.TabIs P w name k zs:=by
 obtain⟨_,t,e⟩:=S g _ h
 unfold Lib.TabIs World.var?
 rw[hg,Option.bind_some,e]
theorem aML(n:Int)(h1: -999≤n)(h2:n≤999)(st:aA)(hT:st uM=some xI):aD prog 221 [.int .i64 n] st (fun r st'=>r=.str (tU n)∧st'=st):=by
 refine⟨⟨_,func221,rfl,by kernel_rfl⟩,fun w vs S V=>?_⟩
 obtain rfl:vs= [.int .i64 n]:=by
  obtain⟨v,r,rfl,v1,v2⟩:=V
  obtain rfl:r= []:=v2
  rw[v1.j7]
 refine(Go.Proofs.Any.strconv_Itoa a4X n (by omega) (by omega) w (a8S (by kernel_rfl) S hT)).mono ?_
 rintro e w' ⟨rfl,k,os,rfl⟩
 rw[a4Z h1 h2]
 have X:Ext w.heap (Sort.grow (w.drewN k) os).heap:=⟨by simp [Sort.grow],fun b hb=>by simp only[Sort.grow,World.heap_drewN];rw[Array.getElem?_append_left hb]⟩
 exact⟨_,.str (tU n),st,rfl,⟨rfl,rfl,by have:=aXO n;show _≤(9223372036854775807:Nat);omega⟩,S.ext X,X.step st,⟨rfl,rfl,rfl⟩,rfl,rfl⟩
end Go.AW

namespace Go.AW
open Go.Proofs.Tryz
theorem SW{N:Int}{t:Tm}(h:bF N t):(t.k=1∨t.k=2∨t.k=3)∧(t.k=1→t.ts= [])∧(t.k=2→-999≤t.n∧t.n≤999)∧(t.k=3→t.s.size≤6)∧t.ts.length≤4:=by
 obtain⟨h,-⟩:=h
 obtain⟨k,n,s,ts⟩:=t
 have hk:=h.kind
 refine⟨hk.1,fun e=>?_,fun e=>?_,fun e=>?_,hk.2⟩<;>simp only[Tm.k] at e<;>subst e
 · exact h.var.2.2.2
 · have:=(h.own (by decide)).1
   simp [fB] at this
   simp only[Tm.n];omega
 · have:=(h.own (by decide)).1
   simp [fB] at this
   exact(a54 this.1.2).2
theorem a6V{N:Int}{t:Tm}(h:bF N t){x:Tm}{l:List Tm}(e:t.ts=x::l):bF N x:=by
 have h1:t.k≠1:=fun hk=>by have:=(SW h).2.1 hk;rw[e] at this;cases this
 exact rG N t h1 h x (by rw[e];simp)
theorem a40{N:Int}{t:Tm}(h:bF N t):yV t=match t.ts with
 | []=>⟨#[]⟩
 | x::_=>SM x:=by
 unfold yV
 by_cases h1:t.k=1
 · rw[aN h1,(SW h).2.1 h1]
 · rw[aK h1]
   try rfl
abbrev M6:=zi aX (zi d9 (zi cI cC))
theorem XT{N:Int}{t:Tm}(ht:bF N t)(st:aA)(hT:st uM=some xI):aD prog 209 [t.av] st (fun r st'=>r=.str (yV t)∧st'=st):=by
 refine aD.drop ?_
 rw[a40 ht]
 have hx:=@a6V N t ht
 obtain⟨k,n,s,ts⟩:=t
 simp only[Tm.ts] at hx ⊢
 rw[bD]
 refine wF [1000000] 1 func209 ntmps209 rfl rfl ?_
 intro _
 simp only[aE,aB,seval,M6]
 refine aQ (fun h=>?_) (fun h=>?_)
 · have h':ts= []:=rT (by simp at h;simp [h])
   subst h'
   simp only[aB,seval]
   first | exact aO.refl _ | exact⟨aO.refl _,rfl⟩
 cases ts with
 | nil=>simp at h
 | cons x l=>
  obtain⟨hk,h1,h2,h3,h4⟩:=SW (hx rfl)
  obtain⟨xk,xn,xs,xt⟩:=x
  simp only[Tm.k,Tm.ts,Tm.n,Tm.s] at hk h1 h2 h3 h4
  have hat:dP prog 46 (.slice ((Tm.mk xk xn xs xt).av::l.map Tm.av)) (.int .i64 0)=some (.pptr (.agg [.int .i64 xk,.int .i64 xn,.str xs,.slice (xt.map Tm.av)])):=by
   rw[←bD]
   exact bH (av:=Tm.av) (l:=.mk xk xn xs xt::l) (i:=0) bY rfl (aT _)
  have hdx:tU (xt.length:Int)=sJ 20 xt.length ⟨#[]⟩:=by unfold tU;rw[aK (by omega),kB]
  have hu:SM (.mk xk xn xs xt)=if xk=1 then⟨#[]⟩ else if xk=2 then tU xn else xs++⟨#[47]⟩++sJ 20 xt.length ⟨#[]⟩:=rfl
  simp only
  rw[hu]
  simp only[hat,aB,↓aW,seval,M6]
  refine aQ (fun h=>?_) (fun h=>?_)
  · rw[aN (by simpa using h)]
    simp only[aB,seval]
    first | exact aO.refl _ | exact⟨aO.refl _,rfl⟩
  have h5:xk≠1:=by simpa using h
  rw[aK h5]
  simp only[aB,seval]
  refine aQ (fun h=>?_) (fun h=>?_)
  · have h6:xk=2:=by simpa using h
    rw[aN h6]
    simp only[aB,seval,M6]
    refine(aML xn (h2 h6).1 (h2 h6).2 _ hT).to ?_
    simp only[aB,seval]
    first | exact aO.refl _ | exact⟨aO.refl _,rfl⟩
  have h6:xk≠2:=by simpa using h
  rw[aK h6]
  have hs:=h3 (by omega)
  have hm:maxLen=9223372036854775807:=by rfl
  have hs1:xs.size+(⟨#[47]⟩:ByteArray).size≤maxLen:=by show xs.size+1≤_;omega
  have hs2:(xs++(⟨#[47]⟩:ByteArray)).size+(sJ 20 xt.length ⟨#[]⟩).size≤maxLen:=by
   have:=KM 20 xt.length ⟨#[]⟩
   have h0:(⟨#[]⟩:ByteArray).size=0:=rfl
   rw[J2]
   show xs.size+1+_≤_
   omega
  simp only[aB,seval]
  refine yD mixed (by decide +kernel) (by decide +kernel) ?_
  simp only[aE,hs1,↓reduceIte,aB,seval,M6]
  refine iD (aML xt.length (by omega) (by omega) _ hT) ?_
  simp only[hs2,hdx,↓reduceIte,aB,seval]
  first | exact aO.refl _ | exact⟨aO.refl _,rfl⟩
theorem aUR(a b:ByteArray)(st:aA):aD prog 213 [.str a,.str b] st (fun r st'=>r=.bool (K7 a b)∧st'=st):=by
 unfold K7
 refine wF [1000000] 2 func213 ntmps213 rfl rfl ?_
 intro _
 simp only[aB,seval]
 refine cP (fun h=>?_) (fun h=>?_)
 case refine_2=>
  have h':decide (a=⟨#[]⟩)=true:=by simpa using h
  simp only[h,aB,seval]
  try simp []
 have h1:decide (a=⟨#[]⟩)=false:=by simpa using h
 simp only[h,aB,seval]
 refine cP (fun h=>?_) (fun h=>?_)
 case refine_2=>
  have h':decide (b=⟨#[]⟩)=true:=by simpa using h
  simp only[h,aB,seval]
  try simp []
 have h2:decide (b=⟨#[]⟩)=false:=by simpa using h
 simp only[h,aB,seval]
 try simp [h1,h2]
theorem aD.cut{P:Program}{g:FuncId}{args:List AV}{st:aA}{Q:AV→aA→Prop}(x:aD P g args st (fun r st'=>∃b cs k,st' b=some (.cells cs)∧Q r (st'.aC b (.cells (cs.take k))))):aD P g args st Q:=
 x.lN fun r st' ⟨b,cs,k,h1,h2⟩=>⟨r,_,fun h S=>⟨aNZ k h1 S,TS h1⟩,fun h v S y=>y.mono (TS h1),h2⟩
theorem aLW{st:aA}{b i:Nat}{cs:List AV}{x:AV}(hs:st b=some (.cells cs))(hx:cs[i]?=some x)(ha:x.isAgg=false):gY prog st 3 (.ptr b i)=some x:=by
 simp [gY,tI_3,hs,sub,hx,ha]
abbrev a9L:=zi aX (zi dD iP)
theorem a6F(l:List Nat)(g:FuncId)(cU:List AV)(p:Nat→Bool)(b:Nat)(cs:List AV)(h9:l.length≤1048576)(st:aA)(hb:st b=some (.cells cs))(hcs:∀(i x:Nat),l[i]?=some x→cs[i]?=some (nv x))(hc:∀x∈l,aD prog g ([nv x]++cU) st (fun r st'=>r=.bool (p x)∧st'=st)) :
 aD prog 222 [.mslice b 0 l.length 1,.func g cU] st (fun r st'=>r=.int .i64 (oZ p l 0)∧st'=st):=by
 refine wF [1000000] 2 func222 ntmps222 rfl rfl ?_
 intro _
 simp only[aB,seval,a9L]
 refine dI (σ:=Unit) [1000000] [0,1,7] l (fun i _=>oZ p (l.drop i) i=oZ p l 0) (fun i _=>[(8,.int .i64 i)]) (fun _ _=>st) (by decide +kernel) ⟨(),rfl,aP.mk (by simp only[aB,↓aW,seval])⟩ (fun i x _ hx hlt a7 hdr hinv=>?_) (fun _ hge hinv=>?_)
 case refine_2=>
  simp only[hge,aB,seval]
  rw[←hinv,iA]
  try rfl
 rw[hdr,oZ] at hinv
 have hw:=aZ (n:=(i:Int)+1)
 have hat:=kT (P:=prog) (t:=148) (b:=b) (w:=1) iL hlt
 rw[uZ] at hat
 have hld:=aLW hb (hcs i x hx) rfl
 have hca:=hc x (cH hx)
 simp only[nv,gR,eE] at hld hca
 simp only[a7,hat,hld,aB,seval]
 refine(hca).to ?_
 simp only[aB,seval]
 refine aQ (fun h=>?_) (fun h=>?_)
 · rw[aN h] at hinv
   simp only[hinv,aB,seval]
 · rw[aK (by simp [h])] at hinv
   simp only[hw,aB,seval]
   exact⟨(),by rw[←hinv],aP.mk (by simp only[aB,seval])⟩
end Go.AW
