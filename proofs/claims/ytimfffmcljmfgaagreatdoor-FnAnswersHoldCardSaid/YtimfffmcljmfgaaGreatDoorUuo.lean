import Derived.Test.YtimfffmcljmfgaaGreatDoorUun
import Derived.Test.YtimfffmcljmfgaaGreatDoorUuk
import Derived.Test.YtimfffmcljmfgaaGreatDoorUul
import Derived.Test.YtimfffmcljmfgaaGreatDoorUui
set_option linter.unusedSimpArgs false
set_option linter.unusedVariables false
set_option maxRecDepth 100000
namespace Go.AW
open Go.Proofs.Tryz
def rG:IC→AV
 | ⟨.mk k n s ts,node,rest,list,fE,taken⟩=>.agg [.int .i64 k,.int .i64 n,.str s,.slice (ts.map Tm.av),.int .i64 (node:Int),eM rest,.slice (list.map nv),.int .i64 (fE:Int),.int .i64 (taken:Int)]
theorem aKN(k n:Int)(s:ByteArray)(ts:List Tm)(node:Nat)(rest:List IG)(list:List Nat)(fE taken:Nat):rG ⟨.mk k n s ts,node,rest,list,fE,taken⟩=.agg [.int .i64 k,.int .i64 n,.str s,.slice (ts.map Tm.av),.int .i64 (node:Int),eM rest,.slice (list.map nv),.int .i64 (fE:Int),.int .i64 (taken:Int)]:=rfl
theorem aZD(c:IC):(rG c).width=9:=by obtain⟨⟨k,n,s,ts⟩,_,_,_,_,_⟩:=c;rfl
theorem Q1(l:List IC):∀e∈l.map rG,e.width=9:=by intro e he;simp only[cS] at he;obtain⟨t,_,rfl⟩:=he;exact aZD t
theorem aZC(c:IC):(rG c).cells.all AV.storable=true:=by
 obtain⟨⟨k,n,s,ts⟩,_,rest,_,_,_⟩:=c
 rw[aKN]
 have:=(pE rest).2.2.2.2.1
 rw[dW]
 intro e he
 simp only[AV.cells,cX,dN,dV] at he
 rcases he with rfl | rfl | rfl | rfl | rfl | rfl | rfl | rfl | rfl<;>first | rfl | exact this
def iC(c:Nat)(p:List Cl)(q:List Tm)(idx:Bool)(fuel used fresh:Int)(gl qc qn:AV)(mx:Int):List AV:=
 [.ptr c 0,.slice (p.map bX),.slice (q.map Tm.av),.bool idx,.bool false,.int .i64 fuel,.int .i64 used,.int .i64 fresh,gl,qc,qn,.int .i64 mx]
def jB(S c m:Nat)(qt qc qn:AV):List Nat:=[S,c,m]++dL qt++dR qc++dR qn
theorem a3B(q:AV):dL q=dR q:=by cases q<;>rfl
theorem RQ(q:AV):(dR q).Nodup:=by cases q<;>simp [dR]
structure dK (st0 st:aB) (S c m:Nat) (qt qc qn:AV) (p:List Cl) (q:List Tm) (idx:Bool) (fuel used mx:Int) (nd:List AV) (i:IS):Prop where
 cell:st S=some (.cells (iC c p q idx fuel used i.fresh (eM i.goals) qc qn mx))
 sto:gF st c m qt i.σ i.tr
 acC:jC st 9 qc (i.chs.map rG)
 acN:jC st 6 qn nd
 ndl:nd.length=i.nn
 ndw:∀e∈nd,e.width=6
 dis:(jB S c m qt qc qn).Nodup
 new:∀b∈jB S c m qt qc qn,st0 b=none
 a8:∀b o,st0 b=some o→st b=some o
theorem eA{b S c m:Nat}{qt qc qn:AV}:b∈jB S c m qt qc qn↔b=S∨b=c∨b=m∨b∈dL qt∨b∈dR qc∨b∈dR qn:=by
 simp only[jB,fF,cX,dN,dV,or_assoc]
section
variable {st0 st:aB} {S c m:Nat} {qt qc qn:AV} {p:List Cl} {q:List Tm} {idx:Bool} {fuel used mx:Int} {nd:List AV} {i:IS}
theorem dK.held(h:dK st0 st S c m qt qc qn p q idx fuel used mx nd i):∀b∈jB S c m qt qc qn,st b≠none:=fun b hb=>by
 rcases eA.1 hb with rfl | rfl | rfl | hb | hb | hb
 · rw[h.cell];simp
 · rw[h.sto.sub.cells];simp
 · rw[h.sto.sub.map];simp
 · obtain⟨cs,e⟩:=h.sto.HX b hb;rw[e];simp
 · obtain⟨cs,e⟩:=h.acC.some b hb;rw[e];simp
 · obtain⟨cs,e⟩:=h.acN.some b hb;rw[e];simp
theorem dK.vK(h:dK st0 st S c m qt qc qn p q idx fuel used mx nd i):aM st st0:=fun b=>by
 refine⟨fun e=>?_,h.a8 b⟩
 cases hb:st0 b with
 | none=>rfl
 | some o=>rw[h.a8 b o hb] at e;cases e
theorem dK.aI9(h:dK st0 st S c m qt qc qn p q idx fuel used mx nd i){b:Nat}(hb:st b=none):st0 b=none:=(h.vK b).1 hb
theorem dK.parts(h:dK st0 st S c m qt qc qn p q idx fuel used mx nd i):S≠c∧S≠m∧c≠m∧S∉dL qt∧S∉dR qc∧S∉dR qn∧c∉dL qt∧c∉dR qc∧c∉dR qn∧m∉dL qt∧m∉dR qc∧m∉dR qn∧(∀b∈dL qt,b∉dR qc∧b∉dR qn)∧∀b∈dR qc,b∉dR qn:=by
 have hd:=h.dis
 simp only[jB,tO,List.nodup_cons,cX,dN,dV,not_or,fF] at hd
 obtain⟨⟨⟨⟨⟨h1,h2⟩,h3,_⟩,h4,h5⟩,h6,h7⟩,h8,h9⟩:=hd
 refine⟨h1,h2,h3,fun hb=>h5 _ (.inl rfl) _ hb rfl,fun hb=>h7 _ (.inl (.inl rfl)) _ hb rfl,fun hb=>h9 _ (.inl (.inl (.inl rfl))) _ hb rfl,
  fun hb=>h5 _ (.inr (.inl rfl)) _ hb rfl,fun hb=>h7 _ (.inl (.inr (.inl rfl))) _ hb rfl,fun hb=>h9 _ (.inl (.inl (.inr (.inl rfl)))) _ hb rfl,
  fun hb=>h5 _ (.inr (.inr rfl)) _ hb rfl,fun hb=>h7 _ (.inl (.inr (.inr rfl))) _ hb rfl,fun hb=>h9 _ (.inl (.inl (.inr (.inr rfl)))) _ hb rfl,
  fun b hb=>⟨fun h'=>h7 b (.inr hb) b h' rfl,fun h'=>h9 b (.inl (.inr hb)) b h' rfl⟩,fun b hb h'=>h9 b (.inr hb) b h' rfl⟩
theorem RE{X A A' Y:List Nat}(h:(X++A++Y).Nodup)(hA:A'.Nodup)(hn:∀b∈A',b∈A∨b∉X++A++Y):(X++A'++Y).Nodup:=by
 simp only[tO,fF] at h ⊢
 obtain⟨⟨hX,hA0,hXA⟩,hY,hXY⟩:=h
 refine⟨⟨hX,hA,fun a ha b hb e=>?_⟩,hY,fun a ha b hb e=>?_⟩
 · subst e
   rcases hn a hb with h | h
   · exact hXA a ha a h rfl
   · simp only[fF,not_or] at h;exact h.1.1 ha
 · subst e
   rcases ha with ha | ha
   · exact hXY a (.inl ha) a hb rfl
   · rcases hn a ha with h | h
     · exact hXY a (.inr h) a hb rfl
     · simp only[fF,not_or] at h;exact h.2 hb
theorem dK.go{st':aB}{qt' qc' qn':AV}{fuel' used' mx':Int}{nd':List AV}{i':IS}(h:dK st0 st S c m qt qc qn p q idx fuel used mx nd i)
 (cell:st' S=some (.cells (iC c p q idx fuel' used' i'.fresh (eM i'.goals) qc' qn' mx'))) (sto:gF st' c m qt' i'.σ i'.tr) (acC:jC st' 9 qc' (i'.chs.map rG)) (acN:jC st' 6 qn' nd') (ndl:nd'.length=i'.nn) (ndw:∀e∈nd',e.width=6)
 (dis:(jB S c m qt' qc' qn').Nodup) (new:∀b∈jB S c m qt' qc' qn',b∈jB S c m qt qc qn∨st b=none) (frame:∀b o,st b=some o→b∉jB S c m qt qc qn→st' b=some o) :
 dK st0 st' S c m qt' qc' qn' p q idx fuel' used' mx' nd' i':=
 ⟨cell,sto,acC,acN,ndl,ndw,dis,fun b hb=>by
  rcases new b hb with h1 | h1
  · exact h.new b h1
  · exact h.aI9 h1,fun b o hb=>frame b o (h.a8 b o hb) fun hm=>by rw[h.new b hm] at hb;cases hb⟩
theorem dK.put{fuel' used' mx':Int}{gl:List IG}{F:Nat}{cs:List AV}(h:dK st0 st S c m qt qc qn p q idx fuel used mx nd i)(hcs:cs=iC c p q idx fuel' used' F (eM gl) qc qn mx') :
 dK st0 (st.aC S (.cells cs)) S c m qt qc qn p q idx fuel' used' mx' nd { i with goals:=gl,fresh:=F }:=by
 obtain⟨h1,h2,h3,h4,h5,h6,_⟩:=h.parts
 subst hcs
 refine h.go (aB.aP _ _ _) (h.sto.aC h1 h2 h4) (h.acC.a8 fun b hb=>aB.aL _ _ (by rintro rfl;exact h5 hb)) (h.acN.a8 fun b hb=>aB.aL _ _ (by rintro rfl;exact h6 hb)) h.ndl h.ndw h.dis (fun b hb=>.inl hb) fun b o hb hn=>?_
 rw[aB.aL _ _ (by rintro rfl;exact hn (eA.2 (.inl rfl)))]
 exact hb
theorem dK.TI{st':aB}{qt':AV}{σ':Sub}{tr':List Int}(h:dK st0 st S c m qt qc qn p q idx fuel used mx nd i)(hS:gF st' c m qt' σ' tr')(hf:∀b o,st b=some o→b≠c→b≠m→b∉dL qt→st' b=some o)(hn:∀b∈dL qt',b∈dL qt∨st b=none) :
 dK st0 st' S c m qt' qc qn p q idx fuel used mx nd { i with σ:=σ',tr:=tr' }:=by
 obtain⟨h1,h2,h3,h4,h5,h6,h7,h8,h9,h10,h11,h12,h13,h14⟩:=h.parts
 have hC:∀b∈dR qc,st' b=st b:=fun b hb=>by
  obtain⟨cs,e⟩:=h.acC.some b hb
  rw[e,hf b _ e (by rintro rfl;exact h8 hb) (by rintro rfl;exact h11 hb) (fun hb'=>(h13 b hb').1 hb)]
 have hN:∀b∈dR qn,st' b=st b:=fun b hb=>by
  obtain⟨cs,e⟩:=h.acN.some b hb
  rw[e,hf b _ e (by rintro rfl;exact h9 hb) (by rintro rfl;exact h12 hb) (fun hb'=>(h13 b hb').2 hb)]
 refine h.go (hf S _ h.cell h1 h2 h4) hS (h.acC.a8 hC) (h.acN.a8 hN) h.ndl h.ndw ?_ (fun b hb=>?_) (fun b o hb hn'=>?_)
 · have hd:=h.dis
   unfold jB at hd ⊢
   rw[nJ] at hd ⊢
   refine RE hd (by rw[a3B];exact RQ _) fun b hb=>?_
   rcases hn b hb with h' | h'
   · exact .inl h'
   · refine .inr fun hm=>h.held b ?_ h'
     unfold jB;rw[nJ];exact hm
 · rcases eA.1 hb with rfl | rfl | rfl | hb | hb | hb
   · exact .inl (eA.2 (.inl rfl))
   · exact .inl (eA.2 (.inr (.inl rfl)))
   · exact .inl (eA.2 (.inr (.inr (.inl rfl))))
   · rcases hn b hb with h' | h'
     · exact .inl (eA.2 (.inr (.inr (.inr (.inl h')))))
     · exact .inr h'
   · exact .inl (eA.2 (.inr (.inr (.inr (.inr (.inl hb))))))
   · exact .inl (eA.2 (.inr (.inr (.inr (.inr (.inr hb))))))
 · have:=fun x=>hn' (eA.2 x)
   exact hf b o hb (by rintro rfl;exact this (.inr (.inl rfl))) (by rintro rfl;exact this (.inr (.inr (.inl rfl)))) fun hb'=>this (.inr (.inr (.inr (.inl hb'))))
theorem dK.post{st':aB}{σ':Sub}{tr':List Int}(h:dK st0 st S c m qt qc qn p q idx fuel used mx nd i)(hP:uW c m st qt σ' tr' st'):∃qt',dK st0 st' S c m qt' qc qn p q idx fuel used mx nd { i with σ:=σ',tr:=tr' }:=by
 obtain⟨q',hS,hQ⟩:=hP
 exact⟨q',h.TI hS (fun b o hb h1 h2 h3=>hQ.frame b o hb h1 h2 h3) hQ.fresh⟩
end
theorem gF.DM{st st':aB}{c m:Nat}{q:AV}{σ:Sub}{tr:List Int}(h:gF st c m q σ tr)(hc:st' c=st c)(hm:st' m=st m)(ht:∀b∈dL q,st' b=st b):gF st' c m q σ tr:=by
 refine⟨⟨by rw[hc];exact h.sub.cells,by rw[hm];exact h.sub.map⟩,?_,h.apart⟩
 rcases h.fE with h1 | ⟨b,cs,h1,h2,h3⟩
 · exact .inl h1
 · exact .inr ⟨b,cs,h1,by rw[ht b (by rw[h1];simp [dL])];exact h2,h3⟩
section
variable {st0 st:aB} {S c m:Nat} {qt qc qn:AV} {p:List Cl} {q:List Tm} {idx:Bool} {fuel used mx:Int} {nd:List AV} {i:IS}
theorem dK.a1I{st':aB}{qc':AV}{XQ:List IC}{cs:List AV}(h:dK st0 st S c m qt qc qn p q idx fuel used mx nd i)(oE:jC st' 9 qc' (XQ.map rG))(hf:∀y,y∉dR qc→y∉dR qc'→st' y=st y)(hn:∀y∈dR qc',y∈dR qc∨st y=none)
 (hcs:cs=iC c p q idx fuel used i.fresh (eM i.goals) qc' qn mx):dK st0 (st'.aC S (.cells cs)) S c m qt qc' qn p q idx fuel used mx nd { i with chs:=XQ }:=by
 obtain⟨h1,h2,h3,h4,h5,h6,h7,h8,h9,h10,h11,h12,h13,h14⟩:=h.parts
 have same:∀b,st b≠none→b∉dR qc→st' b=st b:=fun b hb hq=>hf b hq fun hq'=>by
  rcases hn b hq' with h' | h'
  · exact hq h'
  · exact hb h'
 have hS:S∉dR qc':=fun hb=>by
  rcases hn S hb with h' | h'
  · exact h5 h'
  · rw[h.cell] at h';cases h'
 subst hcs
 have held:=fun b x=>h.held b (eA.2 x)
 refine h.go (aB.aP _ _ _) (h.sto.DM ?_ ?_ fun b hb=>?_) (oE.a8 fun b hb=>aB.aL _ _ (by rintro rfl;exact hS hb)) (h.acN.a8 fun b hb=>?_) h.ndl h.ndw ?_ (fun b hb=>?_) fun b o hb hn'=>?_
 · rw[aB.aL _ _ (dD h1)];exact same c (held c (.inr (.inl rfl))) h8
 · rw[aB.aL _ _ (dD h2)];exact same m (held m (.inr (.inr (.inl rfl)))) h11
 · rw[aB.aL _ _ (by rintro rfl;exact h4 hb)];exact same b (held b (.inr (.inr (.inr (.inl hb))))) (h13 b hb).1
 · rw[aB.aL _ _ (by rintro rfl;exact h6 hb)];exact same b (held b (.inr (.inr (.inr (.inr (.inr hb)))))) fun h'=>h14 b h' hb
 · have hd:=h.dis
   unfold jB at hd ⊢
   refine RE hd (RQ _) fun b hb=>?_
   rcases hn b hb with h' | h'
   · exact .inl h'
   · refine .inr fun hm=>h.held b ?_ h'
     unfold jB;exact hm
 · rcases eA.1 hb with rfl | rfl | rfl | hb | hb | hb
   · exact .inl (eA.2 (.inl rfl))
   · exact .inl (eA.2 (.inr (.inl rfl)))
   · exact .inl (eA.2 (.inr (.inr (.inl rfl))))
   · exact .inl (eA.2 (.inr (.inr (.inr (.inl hb)))))
   · rcases hn b hb with h' | h'
     · exact .inl (eA.2 (.inr (.inr (.inr (.inr (.inl h'))))))
     · exact .inr h'
   · exact .inl (eA.2 (.inr (.inr (.inr (.inr (.inr hb))))))
 · have hno:=fun x=>hn' (eA.2 x)
   rw[aB.aL _ _ (by rintro rfl;exact hno (.inl rfl)),same b (by rw[hb];simp) fun h'=>hno (.inr (.inr (.inr (.inr (.inl h')))))]
   exact hb
theorem dK.a1J{st':aB}{qn':AV}{nd':List AV}{n':Nat}{cs:List AV}(h:dK st0 st S c m qt qc qn p q idx fuel used mx nd i)(oE:jC st' 6 qn' nd')(hl:nd'.length=n')(hw:∀e∈nd',e.width=6)(hf:∀y,y∉dR qn→y∉dR qn'→st' y=st y)(hn:∀y∈dR qn',y∈dR qn∨st y=none)
 (hcs:cs=iC c p q idx fuel used i.fresh (eM i.goals) qc qn' mx):dK st0 (st'.aC S (.cells cs)) S c m qt qc qn' p q idx fuel used mx nd' { i with nn:=n' }:=by
 obtain⟨h1,h2,h3,h4,h5,h6,h7,h8,h9,h10,h11,h12,h13,h14⟩:=h.parts
 have same:∀b,st b≠none→b∉dR qn→st' b=st b:=fun b hb hq=>hf b hq fun hq'=>by
  rcases hn b hq' with h' | h'
  · exact hq h'
  · exact hb h'
 have hS:S∉dR qn':=fun hb=>by
  rcases hn S hb with h' | h'
  · exact h6 h'
  · rw[h.cell] at h';cases h'
 subst hcs
 have held:=fun b x=>h.held b (eA.2 x)
 refine h.go (aB.aP _ _ _) (h.sto.DM ?_ ?_ fun b hb=>?_) (h.acC.a8 fun b hb=>?_) (oE.a8 fun b hb=>aB.aL _ _ (by rintro rfl;exact hS hb)) hl hw ?_ (fun b hb=>?_) fun b o hb hn'=>?_
 · rw[aB.aL _ _ (dD h1)];exact same c (held c (.inr (.inl rfl))) h9
 · rw[aB.aL _ _ (dD h2)];exact same m (held m (.inr (.inr (.inl rfl)))) h12
 · rw[aB.aL _ _ (by rintro rfl;exact h4 hb)];exact same b (held b (.inr (.inr (.inr (.inl hb))))) (h13 b hb).2
 · rw[aB.aL _ _ (by rintro rfl;exact h5 hb)];exact same b (held b (.inr (.inr (.inr (.inr (.inl hb)))))) (h14 b hb)
 · have hd:=h.dis
   unfold jB at hd ⊢
   have:=RE (X:=[S,c,m]++dL qt++dR qc) (A:=dR qn) (A':=dR qn') (Y:=[]) (by rw[g9];exact hd) (RQ _) fun b hb=>by
    rcases hn b hb with h' | h'
    · exact .inl h'
    · refine .inr fun hm=>h.held b ?_ h'
      rw[g9] at hm
      unfold jB;exact hm
   rwa [g9] at this
 · rcases eA.1 hb with rfl | rfl | rfl | hb | hb | hb
   · exact .inl (eA.2 (.inl rfl))
   · exact .inl (eA.2 (.inr (.inl rfl)))
   · exact .inl (eA.2 (.inr (.inr (.inl rfl))))
   · exact .inl (eA.2 (.inr (.inr (.inr (.inl hb)))))
   · exact .inl (eA.2 (.inr (.inr (.inr (.inr (.inl hb))))))
   · rcases hn b hb with h' | h'
     · exact .inl (eA.2 (.inr (.inr (.inr (.inr (.inr h'))))))
     · exact .inr h'
 · have hno:=fun x=>hn' (eA.2 x)
   rw[aB.aL _ _ (by rintro rfl;exact hno (.inl rfl)),same b (by rw[hb];simp) fun h'=>hno (.inr (.inr (.inr (.inr (.inr h')))))]
   exact hb
theorem dK.nodes{k:Nat}(h:dK st0 st S c m qt qc qn p q idx fuel used mx nd i)(hk:k<i.nn):∃b,qn=.mslice b 0 nd.length 6:=by
 have hl:=h.ndl
 rcases h.acN with ⟨_,e⟩ | ⟨b,cs,e,_⟩
 · subst e;simp at hl;omega
 · exact⟨b,e⟩
theorem dK.nodeAt{b n:Nat}(h:dK st0 st S c m qt qc (.mslice b 0 n 6) p q idx fuel used mx nd i):∃cs,st b=some (.cells cs)∧nd.length*6≤cs.length:=by
 rcases h.acN with ⟨e,_⟩ | ⟨b',cs,e,h2,_,h4⟩
 · cases e
 · cases e;exact⟨cs,h2,h4⟩
theorem aMK:∀(n:Nat) (cs:List AV),cs.length=n*6→∃nd:List AV,nd.length=n∧(∀e∈nd,e.width=6)∧nd.flatMap AV.cells=cs
 | 0,cs,h=>⟨[],rfl,by simp,by have:cs= []:=pT (by simpa using h);subst this;rfl⟩
 | n+1,cs,h=>by
  obtain⟨nd,h1,h2,h3⟩:=aMK n (cs.drop 6) (by rw[mX,h];omega)
  refine⟨.agg (cs.take 6)::nd,by simp [h1],fun e he=>?_,?_⟩
  · rcases cX.1 he with rfl | he
    · show(cs.take 6).length=6
      rw[dS,h];omega
    · exact h2 e he
  · rw[rW,h3]
    exact rY 6 cs
theorem dK.aME{b k:Nat}{cs:List AV}{x:AV}(h:dK st0 st S c m qt qc qn p q idx fuel used mx nd i)(hq:qn=.mslice b 0 nd.length 6)(hb:st b=some (.cells cs))(hk:k<nd.length*6) :
 ∃nd',dK st0 (st.aC b (.cells (aK cs k [x]))) S c m qt qc qn p q idx fuel used mx nd' i:=by
 obtain⟨h1,h2,h3,h4,h5,h6,h7,h8,h9,h10,h11,h12,h13,h14⟩:=h.parts
 have hbq:b∈dR qn:=by rw[hq];simp [dR]
 have hne:∀a,a∉dR qn→st.aC b (.cells (aK cs k [x])) a=st a:=fun a ha=>aB.aL _ _ (by rintro rfl;exact ha hbq)
 have hcl:nd.length*6≤cs.length:=by
  rcases h.acN with ⟨e,_⟩ | ⟨b',cs',e1,e2,e3,e4⟩
  · rw[hq] at e;cases e
  · rw[hq] at e1
    cases e1
    rw[hb] at e2;cases e2
    exact e4
 have hlen:(aK cs k [x]).length=cs.length:=by
  simp only[aK,dM,dS,mX,aS,aZ]
  omega
 obtain⟨nd',n1,n2,n3⟩:=aMK nd.length ((aK cs k [x]).take (nd.length*6)) (by rw[dS,hlen];omega)
 refine⟨nd',h.go (by rw[hne S h6];exact h.cell) (h.sto.DM (hne c h9) (hne m h12) fun b hb=>hne b (h13 b hb).2) (h.acC.a8 fun b hb=>hne b (h14 b hb)) (.inr ⟨b,_,by rw[hq,n1],aB.aP _ _ _,by rw[n1,n3],by rw[n1,hlen];exact hcl⟩) (by rw[n1];exact h.ndl) n2 h.dis (fun b hb=>.inl hb) fun a o ha hn=>?_⟩
 rw[hne a fun h'=>hn (eA.2 (.inr (.inr (.inr (.inr (.inr h'))))))]
 exact ha
end
theorem aML{φ:AF}{t:TypeId}{ag:Bool}{w d k:Nat}{st:aB}{qc:AV}{l:List AV}(hI:eI prog t=some (ag,w))(hA:jC st w qc l)(h:φ d=.int .i64 (k:Int))(hk:k≤l.length):g7 prog φ t qc none (some (.tmp d)) none=some (xL k qc):=by
 rcases hA with ⟨rfl,rfl⟩ | ⟨b,cs,rfl,_⟩
 · have h0:k=0:=by simpa using hk
   subst h0
   exact aMM hI h
 · exact SL hI h hk
section
variable {st0 st:aB} {S c m:Nat} {qt qc qn:AV} {p:List Cl} {q:List Tm} {idx:Bool} {fuel used mx:Int} {nd:List AV} {i:IS}
theorem dK.XW{k:Nat}{cs:List AV}{gl:List IG}(h:dK st0 st S c m qt qc qn p q idx fuel used mx nd i)(hk:k≤i.chs.length)(hcs:cs=iC c p q idx fuel used i.fresh (eM gl) (xL k qc) qn mx) :
 dK st0 (st.aC S (.cells cs)) S c m qt (xL k qc) qn p q idx fuel used mx nd { i with goals:=gl,chs:=i.chs.take k }:=by
 obtain⟨h1,h2,h3,h4,h5,h6,_⟩:=h.parts
 subst hcs
 have hA:=h.acC.take (k:=k) (by rw[aF];exact hk) (Q1 _)
 rw[←E0] at hA
 refine h.go (aB.aP _ _ _) (h.sto.aC h1 h2 h4) (hA.a8 fun b hb=>aB.aL _ _ (by rw[DZ] at hb;rintro rfl;exact h5 hb)) (h.acN.a8 fun b hb=>aB.aL _ _ (by rintro rfl;exact h6 hb)) h.ndl h.ndw (by unfold jB;rw[DZ];exact h.dis) (fun b hb=>.inl (by unfold jB at hb;rw[DZ] at hb;exact hb)) fun b o hb hn=>?_
 rw[aB.aL _ _ (by rintro rfl;exact hn (eA.2 (.inl rfl)))]
 exact hb
theorem dK.aU2{k:Nat}{cs:List AV}(h:dK st0 st S c m qt qc qn p q idx fuel used mx nd i)(hk:k≤i.nn)(hcs:cs=iC c p q idx fuel used i.fresh (eM i.goals) qc (xL k qn) mx) :
 dK st0 (st.aC S (.cells cs)) S c m qt qc (xL k qn) p q idx fuel used mx (nd.take k) { i with nn:=k }:=by
 obtain⟨h1,h2,h3,h4,h5,h6,_⟩:=h.parts
 subst hcs
 have hnl:=h.ndl
 have hA:=h.acN.take (k:=k) (by rw[hnl];exact hk) h.ndw
 refine h.go (aB.aP _ _ _) (h.sto.aC h1 h2 h4) (h.acC.a8 fun b hb=>aB.aL _ _ (by rintro rfl;exact h5 hb)) (hA.a8 fun b hb=>aB.aL _ _ (by rw[DZ] at hb;rintro rfl;exact h6 hb)) (by rw[dS,hnl];simp only;omega) (fun e he=>h.ndw e (mC he)) (by unfold jB;rw[DZ];exact h.dis) (fun b hb=>.inl (by unfold jB at hb;rw[DZ] at hb;exact hb)) fun b o hb hn=>?_
 rw[aB.aL _ _ (by rintro rfl;exact hn (eA.2 (.inl rfl)))]
 exact hb
end
def mU(c m:Nat)(st:aB)(q:AV)(tr:List Int)(x:Int×Sub×List Int)(r:AV)(st':aB):Prop:=r=.int .i64 x.1∧uW c m st q x.2.1 (tr++x.2.2) st'
theorem mU.same{c m:Nat}{st:aB}{q:AV}{σ:Sub}{tr:List Int}(h:gF st c m q σ tr){r:AV}(k:Int)(hr:r=.int .i64 k):mU c m st q tr (k,σ,[]) r st:=⟨hr,q,by rw[g9];exact h,mI.refl _ _ _ _⟩
theorem gF.aOG{P:Program}{t e:TypeId}{st:aB}{c m:Nat}{q:AV}{σ:Sub}{tr:List Int}(h:gF st c m q σ tr)(hu:P.underlying t=some (.slice e)):n9 P t q=some (.int .i64 (tr.length:Int)):=by
 rcases h.fE with ⟨rfl,rfl⟩ | ⟨b,cs,rfl,_⟩<;>simp only[n9,hu,aZ]
theorem FV{N:Nat}{σ:Sub}(hg:cO σ)(ho:cW (bB N) σ)(a b:Tm)(ha:bB N a)(hb:bB N b)(c m:Nat)(q:AV)(tr:List Int)(st:aB)(hS:gF st c m q σ tr)(hl:tr.length+N≤1099511627776) :
 aD prog 360 [.ptr c 0,a.av,b.av] st (fun r st'=>r=.bool (gD σ a b).1∧uW c m st q (gD σ a b).2.1 (tr++(gD σ a b).2.2) st'):=by
 obtain⟨r,σ',tr',hU⟩:=rS hg ho ha hb
 obtain⟨g,kX⟩:=hU.run
 have hlen:=DT hU.mA.nodup hU.gB
 rw[hU.eq]
 exact XL g σ a b r σ' tr' hg (ho.imp fun t ht=>ht.1.small) ha.1.small hb.1.small kX c m q tr st hS (by omega)
abbrev lJ:=zi tI_3 (zi zI_3 (zi aX (zi tI_4 (zi zI_4 (zi cE (zi tI_9 (zi zI_9 (zi cI (zi tI_31 (zi zI_31 (zi aN (zi bG (zi bH (zi b9 (zi tI_46 (zi zI_46 (zi dH (zi fA (zi eX (zi fB (zi tI_66 (zi zI_66 (zi bQ (zi bR (zi bS (zi bT (zi bP (zi tI_227 (zi zI_227 (zi tI_304 (zi zI_304 (zi CU (zi CV CH)))))))))))))))))))))))))))))))))
theorem aRR{N:Nat}{σ:Sub}(hg:cO σ)(ho:cW (bB N) σ)(n:Int)(s:ByteArray)(ks:List Tm)(hb:isBuiltin s (ks.length:Int)=true)(hv:∀x∈ks,bB N x)(c m:Nat)(q:AV)(tr:List Int)(st:aB)(hS:gF st c m q σ tr)(hl:tr.length+N≤1099511627776) :
 aD prog 308 [.ptr c 0,(Tm.mk 3 n s ks).av] st (mU c m st q tr (dE σ s ks)):=by
 have QB:=aRV 3 n s ks
 have hcs:=VS hb
 have DA:=fun x y (hxy:ks= [x,y]) h=>aRU n s x y h (hv x (by simp [hxy])).1 (hv y (by simp [hxy])).1
 simp only[aV] at QB DA ⊢
 refine wF [1000000] 2 func308 ntmps308 rfl rfl ?_
 intro _
 simp -implicitDefEqProofs only[aA,seval,lJ]
 refine(QB _).to ?_
 simp -implicitDefEqProofs only[aA,seval]
 refine aQ (fun h=>?_) (fun h=>?_)
 · have h':ks.length=2∧gB q9 s=true:=by simp at h;exact⟨by omega,h.2⟩
   obtain⟨x,y,rfl⟩:=uI h'.1
   have e:dE σ s [x,y]=(xK s x y,σ,[]):=by simp only[dE];rw[aH h'.2]
   rw[e]
   have hc:=DA x y rfl h'.2
   simp only[bA,aW] at hc
   simp -implicitDefEqProofs only[aA,↓aU,seval,lJ]
   refine(hc _).to ?_
   simp -implicitDefEqProofs only[aA,seval]
   exact mU.same hS _ rfl
 have hnc:ks.length=2→gB q9 s=false:=fun h2=>by simpa [h2] using h
 clear QB DA h
 simp -implicitDefEqProofs only[aA,seval,lJ]
 refine aQ (fun h=>?_) (fun h=>?_)
 · have hs:s=⟨#[116,114,117,101]⟩:=by simpa using h
   have hk:=LE (ts:=ks) (by subst hs;simpa [isBuiltin] using hb)
   subst hk
   simp -implicitDefEqProofs only[aA,seval]
   exact mU.same hS _ (by simp [iM,hs])
 have ht:s≠⟨#[116,114,117,101]⟩:=by simpa using h
 simp -implicitDefEqProofs only[aA,seval]
 refine aQ (fun h=>?_) (fun h=>?_)
 · have hs:s=⟨#[102,97,105,108]⟩:=by simpa using h
   have hk:=LE (ts:=ks) (by subst hs;simpa [isBuiltin] using hb)
   subst hk
   simp -implicitDefEqProofs only[aA,seval]
   exact mU.same hS _ (by simp [iM,hs])
 have hf:s≠⟨#[102,97,105,108]⟩:=by simpa using h
 simp -implicitDefEqProofs only[aA,seval]
 refine aQ (fun h=>?_) (fun h=>?_)
 · have hs:s=⟨#[61]⟩:=by simpa using h
   obtain⟨x,y,rfl⟩:=uI (ts:=ks) (by subst hs;simp [isBuiltin] at hb;omega)
   have e:dE σ s [x,y]=rR σ x y:=by simp only[dE];rw[aE (by rw[hnc rfl];simp),aH hs]
   rw[e]
   have d4:dF prog 31 (.slice [x.av,y.av]) (.int .i64 0)=some (.pptr x.av):=bM (av:=Tm.av) (l:=[x,y]) (i:=0) aN rfl (aJ x)
   have gN:dF prog 31 (.slice [x.av,y.av]) (.int .i64 1)=some (.pptr y.av):=bM (av:=Tm.av) (l:=[x,y]) (i:=1) aN rfl (aJ y)
   simp -implicitDefEqProofs only[aA,↓aU,seval]
   refine wX [(0,1),(1,1),(2,1),(3,1),(4,1),(5,1),(6,1),(7,0),(8,0),(9,1)] [0,1,2,3,4,5,6,9] eH mixed rfl eT ?_
   simp -implicitDefEqProofs only[d4,gN,aT,aJ,aA,seval,lJ]
   refine(FV hg ho x y (hv x (by simp)) (hv y (by simp)) c m q tr _ hS hl).mono ?_
   rintro _ s2 ⟨rfl,hP⟩
   simp -implicitDefEqProofs only[aA,seval]
   refine⟨eT,?_⟩
   refine(pA _ _).to ?_
   simp -implicitDefEqProofs only[aA,seval]
   exact⟨eT,rfl,hP⟩
 have he:s≠⟨#[61]⟩:=by simpa using h
 simp -implicitDefEqProofs only[aA,seval]
 refine aQ (fun h=>?_) (fun h=>?_)
 · have hs:s=⟨#[92,61]⟩:=by simpa using h
   obtain⟨x,y,rfl⟩:=uI (ts:=ks) (by subst hs;simp [isBuiltin] at hb;omega)
   have e:dE σ s [x,y]=(iM (!(gD σ x y).1),σ,[]):=by simp only[dE];rw[aE (by rw[hnc rfl];simp),aE he,aH hs]
   rw[e]
   have e1:=hS.sub.cells
   have hql:=hS.aOG fB
   obtain⟨hqa,hqw,hqj,hqc,hqs⟩:=hS.shape
   have d4:dF prog 31 (.slice [x.av,y.av]) (.int .i64 0)=some (.pptr x.av):=bM (av:=Tm.av) (l:=[x,y]) (i:=0) aN rfl (aJ x)
   have gN:dF prog 31 (.slice [x.av,y.av]) (.int .i64 1)=some (.pptr y.av):=bM (av:=Tm.av) (l:=[x,y]) (i:=1) aN rfl (aJ y)
   simp -implicitDefEqProofs only[e1,hql,hqa,aA,↓aU,seval,lJ]
   refine wX [(0,1),(1,1),(2,1),(3,1),(4,1),(5,1),(6,1),(7,0),(8,1)] [0,1,2,3,4,5,6,8] eH mixed rfl eT ?_
   simp -implicitDefEqProofs only[d4,gN,aT,aJ,aA,seval,lJ]
   refine(FV hg ho x y (hv x (by simp)) (hv y (by simp)) c m q tr _ hS hl).mono ?_
   rintro _ s2 ⟨rfl,hP⟩
   obtain⟨r,σ',add,hU⟩:=rS hg ho (hv x (by simp)) (hv y (by simp))
   rw[hU.eq] at hP ⊢
   obtain⟨q',hS2,hQ2⟩:=hP
   have aW1:=DT hU.mA.nodup hU.gB
   simp -implicitDefEqProofs only[aA,seval]
   refine⟨eT,?_⟩
   refine(OX σ' (tr++add) tr.length (by simp) c m q' s2 hS2 (by rw[dM];omega)).mono ?_
   rintro _ s3 ⟨rfl,q2,hS3,hb3,hk3⟩
   rw[EY,E4,show σ'.out add=σ from funext fun n=>hU.out n] at hS3
   simp -implicitDefEqProofs only[aA,seval]
   refine(pA _ _).to ?_
   simp -implicitDefEqProofs only[aA,seval]
   refine⟨rfl,q2,by rw[g9];exact hS3,fun b o h h1 h2 h3=>hk3 b o (hQ2.frame b o h h1 h2 h3) h1 h2,fun b hb'=>hQ2.fresh b (hb3 b hb')⟩
 have hne:s≠⟨#[92,61]⟩:=by simpa using h
 simp -implicitDefEqProofs only[aA,seval]
 refine aQ (fun h=>?_) (fun h=>?_)
 · have hs:s=⟨#[61,61]⟩:=by simpa using h
   obtain⟨x,y,rfl⟩:=uI (ts:=ks) (by subst hs;simp [isBuiltin] at hb;omega)
   have e:dE σ s [x,y]=(iM (x.same y),σ,[]):=by simp only[dE];rw[aE (by rw[hnc rfl];simp),aE he,aE hne,aH hs]
   rw[e]
   have d4:dF prog 31 (.slice [x.av,y.av]) (.int .i64 0)=some (.pptr x.av):=bM (av:=Tm.av) (l:=[x,y]) (i:=0) aN rfl (aJ x)
   have gN:dF prog 31 (.slice [x.av,y.av]) (.int .i64 1)=some (.pptr y.av):=bM (av:=Tm.av) (l:=[x,y]) (i:=1) aN rfl (aJ y)
   simp -implicitDefEqProofs only[aA,↓aU,seval]
   refine CG mixed (by decide +kernel) (by decide +kernel) ?_
   simp -implicitDefEqProofs only[d4,gN,aT,aJ,aA,seval,lJ]
   refine iD (JU x y _) ?_
   simp -implicitDefEqProofs only[aA,seval]
   refine iD (pA _ _) ?_
   simp -implicitDefEqProofs only[aA,seval]
   exact mU.same hS _ rfl
 have hee:s≠⟨#[61,61]⟩:=by simpa using h
 simp -implicitDefEqProofs only[aA,seval]
 refine aQ (fun h=>?_) (fun h=>?_)
 · have hs:s=⟨#[105,115]⟩:=by simpa using h
   obtain⟨x,y,rfl⟩:=uI (ts:=ks) (by subst hs;simp [isBuiltin] at hb;omega)
   have e:dE σ s [x,y]=if y.ev.2≠0 then(y.ev.2,σ,[]) else rR σ x (nU y.ev.1):=by simp only[dE];rw[aE (by rw[hnc rfl];simp),aE he,aE hne,aE hee]
   rw[e]
   have hy:=hv y (by simp)
   have hin:=LC (N:=N) (Tm.t6 y hy.1)
   have har:=fun st=>JS y st hy.1
   generalize y.ev.1=a at *
   generalize y.ev.2=ca at *
   have d4:dF prog 31 (.slice [x.av,y.av]) (.int .i64 0)=some (.pptr x.av):=bM (av:=Tm.av) (l:=[x,y]) (i:=0) aN rfl (aJ x)
   have gN:dF prog 31 (.slice [x.av,y.av]) (.int .i64 1)=some (.pptr y.av):=bM (av:=Tm.av) (l:=[x,y]) (i:=1) aN rfl (aJ y)
   simp -implicitDefEqProofs only[gN,aT,aJ,aA,↓aU,seval,lJ]
   refine(har _).to ?_
   simp -implicitDefEqProofs only[aA,seval]
   refine aQ (fun h4=>?_) (fun h4=>?_)
   · simp -implicitDefEqProofs only[aA,seval]
     have h4':ca≠0:=by simpa using h4
     rw[aH h4']
     exact mU.same hS _ rfl
   have h4':ca=0:=by simpa using h4
   subst h4'
   rw[aE (by simp)]
   simp -implicitDefEqProofs only[aA,seval]
   refine wX [(0,1),(1,1),(2,1),(3,1),(4,1),(5,0),(6,0),(7,0),(8,1)] [0,1,2,3,4,8] eH mixed rfl eT ?_
   simp -implicitDefEqProofs only[d4,aT,aJ,aA,seval,lJ]
   refine(aTZ a _).to ?_
   simp -implicitDefEqProofs only[aA,seval]
   refine⟨eT,?_⟩
   refine(FV hg ho x (nU a) (hv x (by simp)) hin c m q tr _ hS hl).mono ?_
   rintro _ s2 ⟨rfl,hP⟩
   simp -implicitDefEqProofs only[aA,seval]
   refine⟨eT,?_⟩
   refine(pA _ _).to ?_
   simp -implicitDefEqProofs only[aA,seval]
   exact⟨eT,rfl,hP⟩
 have his:s≠⟨#[105,115]⟩:=by simpa using h
 simp -implicitDefEqProofs only[aA,seval]
 refine aQ (fun h=>?_) (fun h=>?_)
 · have hs:s=⟨#[118,97,114]⟩:=by simpa using h
   obtain⟨x,rfl⟩:=G8 (ts:=ks) (by subst hs;simp [isBuiltin] at hb;omega)
   have e:dE σ s [x]=(iM (s8 s x),σ,[]):=rfl
   rw[e]
   subst hs
   obtain⟨xk,xn,xs,xt⟩:=x
   have d4:dF prog 31 (.slice [(Tm.mk xk xn xs xt).av]) (.int .i64 0)=some (.pptr (Tm.mk xk xn xs xt).av):=bM (av:=Tm.av) (l:=[Tm.mk xk xn xs xt]) (i:=0) aN rfl (aJ _)
   have eat:=FS xk xn xs xt
   simp only[aV] at d4 eat
   simp only[bA,aW,aV]
   simp -implicitDefEqProofs only[d4,aA,↓aU,seval,lJ]
   refine(pA _ _).to ?_
   simp -implicitDefEqProofs only[aA,seval]
   exact mU.same hS _ rfl
 have hva:s≠⟨#[118,97,114]⟩:=by simpa using h
 simp -implicitDefEqProofs only[aA,seval]
 refine aQ (fun h=>?_) (fun h=>?_)
 · have hs:s=⟨#[110,111,110,118,97,114]⟩:=by simpa using h
   obtain⟨x,rfl⟩:=G8 (ts:=ks) (by subst hs;simp [isBuiltin] at hb;omega)
   have e:dE σ s [x]=(iM (s8 s x),σ,[]):=rfl
   rw[e]
   subst hs
   obtain⟨xk,xn,xs,xt⟩:=x
   have d4:dF prog 31 (.slice [(Tm.mk xk xn xs xt).av]) (.int .i64 0)=some (.pptr (Tm.mk xk xn xs xt).av):=bM (av:=Tm.av) (l:=[Tm.mk xk xn xs xt]) (i:=0) aN rfl (aJ _)
   have eat:=FS xk xn xs xt
   simp only[aV] at d4 eat
   simp only[bA,aW,aV]
   simp -implicitDefEqProofs only[d4,aA,↓aU,seval,lJ]
   refine(pA _ _).to ?_
   simp -implicitDefEqProofs only[aA,seval]
   exact mU.same hS _ rfl
 have hnv:s≠⟨#[110,111,110,118,97,114]⟩:=by simpa using h
 simp -implicitDefEqProofs only[aA,seval]
 refine aQ (fun h=>?_) (fun h=>?_)
 · have hs:s=⟨#[97,116,111,109]⟩:=by simpa using h
   obtain⟨x,rfl⟩:=G8 (ts:=ks) (by subst hs;simp [isBuiltin] at hb;omega)
   have e:dE σ s [x]=(iM (s8 s x),σ,[]):=rfl
   rw[e]
   subst hs
   obtain⟨xk,xn,xs,xt⟩:=x
   have d4:dF prog 31 (.slice [(Tm.mk xk xn xs xt).av]) (.int .i64 0)=some (.pptr (Tm.mk xk xn xs xt).av):=bM (av:=Tm.av) (l:=[Tm.mk xk xn xs xt]) (i:=0) aN rfl (aJ _)
   have eat:=FS xk xn xs xt
   simp only[aV] at d4 eat
   simp only[bA,aW,aV]
   simp -implicitDefEqProofs only[d4,aA,↓aU,seval,lJ]
   refine(eat _).to ?_
   simp -implicitDefEqProofs only[aA,seval]
   refine(pA _ _).to ?_
   simp -implicitDefEqProofs only[aA,seval]
   exact mU.same hS _ rfl
 have hat:s≠⟨#[97,116,111,109]⟩:=by simpa using h
 simp -implicitDefEqProofs only[aA,seval]
 refine aQ (fun h=>?_) (fun h=>?_)
 · have hs:s=⟨#[105,110,116]⟩:=by simpa using h
   obtain⟨x,rfl⟩:=G8 (ts:=ks) (by subst hs;simp [isBuiltin] at hb;omega)
   have e:dE σ s [x]=(iM (s8 s x),σ,[]):=rfl
   rw[e]
   subst hs
   obtain⟨xk,xn,xs,xt⟩:=x
   have d4:dF prog 31 (.slice [(Tm.mk xk xn xs xt).av]) (.int .i64 0)=some (.pptr (Tm.mk xk xn xs xt).av):=bM (av:=Tm.av) (l:=[Tm.mk xk xn xs xt]) (i:=0) aN rfl (aJ _)
   have eat:=FS xk xn xs xt
   simp only[aV] at d4 eat
   simp only[bA,aW,aV]
   simp -implicitDefEqProofs only[d4,aA,↓aU,seval,lJ]
   refine(pA _ _).to ?_
   simp -implicitDefEqProofs only[aA,seval]
   exact mU.same hS _ rfl
 have hint:s≠⟨#[105,110,116]⟩:=by simpa using h
 have hs:s=⟨#[97,114,103]⟩∧ks.length=3:=by
  rcases hcs with ⟨h2,h3⟩ | ⟨h2,h3⟩ | ⟨h2,h3⟩ | ⟨h2,h3⟩
  · rw[hnc h2] at h3
    simp [he,hne,hee,his] at h3
  · simp [ht,hf] at h3
  · simp [hva,hnv,hat,hint] at h3
  · exact⟨h3,h2⟩
 obtain⟨hs,hk3⟩:=hs
 obtain⟨x,y,z,rfl⟩:=aKS hk3
 have hz:=hv z (by simp)
 have hy:=hv y (by simp)
 have e:dE σ s [x,y,z]=vC σ x y z:=rfl
 rw[e]
 unfold vC
 have d4:dF prog 31 (.slice [x.av,y.av,z.av]) (.int .i64 0)=some (.pptr x.av):=bM (av:=Tm.av) (l:=[x,y,z]) (i:=0) aN rfl (aJ x)
 have gN:dF prog 31 (.slice [x.av,y.av,z.av]) (.int .i64 1)=some (.pptr y.av):=bM (av:=Tm.av) (l:=[x,y,z]) (i:=1) aN rfl (aJ y)
 have sM:dF prog 31 (.slice [x.av,y.av,z.av]) (.int .i64 2)=some (.pptr z.av):=bM (av:=Tm.av) (l:=[x,y,z]) (i:=2) aN rfl (aJ z)
 clear hcs hb hnc hv e
 obtain⟨xk,xn,xs,xt⟩:=x
 obtain⟨yk,yn,ys,yt⟩:=y
 have hyl:yt.length≤4:=by
  exact hy.1.kind.2
 rw[aV] at d4
 simp only[aV xk,aV yk] at d4 gN sM
 simp only[bA,aW,aV xk,aV yk,Tm.k,Tm.ts]
 simp -implicitDefEqProofs only[d4,aA,↓aU,seval,lJ]
 refine cV (fun h=>?_) (fun h=>?_)
 case refine_2=>
  have h':xk=1:=by simpa using h
  simp -implicitDefEqProofs only[h,aA,seval]
  rw[aH (.inl h')]
  exact mU.same hS _ rfl
 have hx1:xk≠1:=by simpa using h
 simp -implicitDefEqProofs only[h,gN,aA,seval,lJ]
 refine aQ (fun h1=>?_) (fun h1=>?_)
 · have h':yk=1:=by simpa using h1
   simp -implicitDefEqProofs only[aA,seval]
   rw[aH (.inr h')]
   exact mU.same hS _ rfl
 have hy1:yk≠1:=by simpa using h1
 rw[aE (fun h2=>h2.elim hx1 hy1)]
 have h3:∀s2,(xk≠2∨yk≠3∨yt.length=0)→s2=st→mU c m st q tr (if xk≠2∨yk≠3∨yt.length=0 then((3:Int),σ,[]) else match m7 (.mk xk xn xs xt) (.mk yk yn ys yt) with | some u=>rR σ z u | none=>(1,σ,[])) (.int .i64 3) s2:=fun s2 hh e=>by
  subst e
  rw[aH hh]
  exact mU.same hS _ rfl
 simp -implicitDefEqProofs only[d4,aA,seval,lJ]
 refine cV (fun h4=>?_) (fun h4=>?_)
 case refine_2=>
  have h':xk≠2:=by simpa using h4
  simp -implicitDefEqProofs only[h4,aA,seval]
  exact h3 _ (.inl h') rfl
 have hx2:xk=2:=by simpa using h4
 simp -implicitDefEqProofs only[h4,gN,aA,seval,lJ]
 refine cV (fun h5=>?_) (fun h5=>?_)
 case refine_2=>
  have h':yk≠3:=by simpa using h5
  simp -implicitDefEqProofs only[h5,aA,seval]
  exact h3 _ (.inr (.inl h')) rfl
 have hy3:yk=3:=by simpa using h5
 simp -implicitDefEqProofs only[h5,gN,aF,aA,seval,lJ]
 refine aQ (fun h6=>?_) (fun h6=>?_)
 · have h':yt.length=0:=by simp at h6;simp [h6]
   simp -implicitDefEqProofs only[aA,seval]
   exact h3 _ (.inr (.inr h')) rfl
 have hyt:yt.length≠0:=by simp at h6;simpa using h6
 clear h3
 rw[aE (by simp [hx2,hy3];intro h7;simp [h7] at hyt)]
 simp -implicitDefEqProofs only[aA,seval]
 refine CG mixed (by decide +kernel) (by decide +kernel) ?_
 simp -implicitDefEqProofs only[d4,gN,aF,aA,seval,lJ]
 refine iD (CL xn 1 _ _) ?_
 simp -implicitDefEqProofs only[aA,seval]
 refine aQ (fun h7=>?_) (fun h7=>?_)
 · have h':¬(1≤xn∧xn≤yt.length):=by simp at h7;omega
   have ea:m7 (.mk xk xn xs xt) (.mk yk yn ys yt)=none:=aE h'
   rw[ea]
   simp -implicitDefEqProofs only[aA,seval]
   exact mU.same hS _ rfl
 have h':1≤xn∧xn≤yt.length:=by simp at h7;omega
 obtain⟨i,hi⟩:∃i:Nat,xn - 1=i:=⟨(xn - 1).toNat,by omega⟩
 have hlt:i<yt.length:=by omega
 obtain⟨u,hu⟩:∃u,yt[i]?=some u:=⟨_,eE hlt⟩
 have ea:m7 (.mk xk xn xs xt) (.mk yk yn ys yt)=some u:=by
  refine(aH h').trans ?_
  show yt[(xn - 1).toNat]?=some u
  rw[hi,kR,hu]
 rw[ea]
 have huv:bB N u:=qJ N (.mk yk yn ys yt) hy1 hy u (cP hu)
 have hw:IntKind.i64.wrap (xn - 1)=(i:Int):=by rw[wrap64 (by omega) (by omega)];exact hi
 have P2:=bM (av:=Tm.av) (P:=prog) aN hu (aJ u)
 simp -implicitDefEqProofs only[aA,seval]
 refine wX [(0,1),(1,1),(2,1),(3,1),(4,1),(5,1),(6,1),(7,1),(8,1),(9,1),(10,1),(11,1),(12,1),(13,1),(14,1),(15,0),(16,0),(17,1)] [0,1,2,3,4,5,6,7,8,9,10,11,12,13,14,17] eH mixed rfl eT ?_
 simp -implicitDefEqProofs only[d4,gN,sM,P2,hw,aT,aJ,aA,seval,lJ]
 refine(FV hg ho z u hz huv c m q tr _ hS hl).mono ?_
 rintro _ s2 ⟨rfl,hP⟩
 simp -implicitDefEqProofs only[aA,seval]
 refine⟨eT,?_⟩
 refine(pA _ _).to ?_
 simp -implicitDefEqProofs only[aA,seval]
 exact⟨eT,rfl,hP⟩
abbrev aNQ:=zi tI_3 (zi zI_3 (zi aX (zi tI_66 (zi zI_66 (zi bQ (zi bR (zi bS (zi bT bP))))))))
theorem aUA(n:Int)(F:Nat)(h0:0≤n)(h1:n≤1048576)(hF:F≤536870912)(st:aB):aD prog 362 [.int .i64 n,.pptr (.int .i64 (F:Int))] st (fun r st'=>r=(vr (n+(F:Int))).av∧st'=st):=by
 refine aD.done ?_
 refine wF [1000000] 2 func362 ntmps362 rfl rfl ?_
 intro _
 have hw:=bO (n:=n+(F:Int))
 simp -implicitDefEqProofs only[hw,aA,seval,aNQ]
 intro b3 h3
 refine(OY _ _).to ?_
 simp -implicitDefEqProofs only[aK,cC,bY,eO (bY _),eK (aT _),aA,seval,aNQ]
 exact⟨by simp only[Tm.soft],(aM.refl _).aC h3⟩
theorem OU{F:Nat}(hF:F≤536870912)(t:Tm)(h:bB 26 t)(st:aB):aD prog 112 [t.av,.func 362 [.pptr (.int .i64 (F:Int))]] st (fun r st'=>r=(cQ F t).av∧st'=st):=
 JY (fun v=>vr (v+(F:Int))) _ _ rfl t st h.1.small fun n hn s=>aUA n F (h.1.2.2 n hn).1 (by have:=(h.1.2.2 n hn).2;omega) hF s
theorem aJD{b:Nat}{L:List AV}(l:List IG):(eM l).fin b L=eM l:=by
 cases l with
 | nil=>rw[eM];unfold AV.fin;split<;>rfl
 | cons g l=>obtain⟨⟨k,n,s,ts⟩,cut,up⟩:=g;rw[sJ];exact zX
abbrev nH:=zi tI_3 (zi zI_3 (zi aX (zi tI_4 (zi zI_4 (zi cE (zi tI_29 (zi zI_29 (zi gW (zi kA (zi kB (zi lL (zi tI_31 (zi zI_31 (zi aN (zi bG (zi bH (zi b9 (zi tI_46 (zi zI_46 (zi dH (zi fA (zi eX (zi fB (zi tI_66 (zi zI_66 (zi bQ (zi bR (zi bS (zi bT (zi bP (zi tI_84 (zi zI_84 (zi kV (zi kW (zi kU (zi tI_174 (zi zI_174 (zi tI_227 (zi zI_227 (zi tI_256 (zi zI_256 (zi tI_257 (zi zI_257 (zi zT (zi KA (zi KC (zi TO (zi tI_258 (zi zI_258 (zi CT (zi KB (zi KD (zi TP (zi tI_260 (zi zI_260 (zi F7 (zi F8 (zi GB (zi GC (zi GD (zi GE (zi GF (zi GG (zi GH (zi GI (zi F9 (zi GA (zi FO (zi tI_304 (zi zI_304 (zi CU (zi CV (zi CH (zi tI_324 (zi zI_324 (zi aIK (zi aIL (zi aIM (zi VK (zi tI_327 (zi zI_327 (zi aIN (zi aIO (zi aIP (zi aIQ (zi aIR (zi aIS VL)))))))))))))))))))))))))))))))))))))))))))))))))))))))))))))))))))))))))))))))))))))))
set_option maxHeartbeats 2000000 in
theorem XJ{p:List Cl}(hp:∀c∈p,gE c∧c.2.length≤6){M:Nat}(hM:M≤268435456){st0 st:aB}{S c m:Nat}{qt qc qn:AV}{q:List Tm}{idx:Bool}{fuel used mx:Int}{nd:List AV}{i:IS}(h:dK st0 st S c m qt qc qn p q idx fuel used mx nd i)
 (goal:Tm) (at':Nat) (rest:List IG) (list:List Nat) (hg:cO i.σ) (ho:cW (bB i.fresh) i.σ) (hgo:bB i.fresh goal) (hl:∀x∈list,x<p.length) (hll:list.length≤1048576) (ha:at'<i.nn) (hX:IX p M i) (hMl:i.fresh+26*pL i.chs+26*list.length≤M) (hch:i.chs.length≤524288) (hnn:i.nn≤524288) :
 aD prog 310 [.ptr S 0,goal.av,.int .i64 (at':Int),.slice (list.map nv),eM rest] st (fun r st'=>r=.bool (fT p goal at' rest list i).1∧∃qt' qc' mx' nd',dK st0 st' S c m qt' qc' qn p q idx fuel used mx' nd' (fT p goal at' rest list i).2):=by
 obtain⟨bN,rfl⟩:=h.nodes ha
 obtain⟨gk,gn,gs',gts⟩:=goal
 obtain⟨g1,g2,g3,g4,g5,g6⟩:=pE rest
 generalize hT:fT p (.mk gk gn gs' gts) at' rest list i=T
 simp only[aV]
 have hun:prog.underlying 46=some (.slice 3):=by kernel_rfl
 have iG:st S=some (.cells [.ptr c 0,.slice (p.map bX),.slice (q.map Tm.av),.bool idx,.bool false,.int .i64 fuel,.int .i64 used,.int .i64 i.fresh,eM i.goals,qc,.mslice bN 0 nd.length 6,.int .i64 mx]):=h.cell
 have hcc:=h.sto.sub.cells
 have htl:=h.sto.aOG (P:=prog) hun
 obtain⟨t1,t2,t3,t4,t5⟩:=h.sto.shape
 refine aD.mK ?_
 refine wF [1000000] 5 func310 ntmps310 rfl rfl ?_
 intro _
 simp -implicitDefEqProofs only[aF,iG,hcc,htl,t1,aA,seval,nH]
 refine eP (σ:=aB×AV) [1000000] [0,2,3,4,6,11,28,29] list (fun k s=>dK st0 s.1 S c m s.2 qc (.mslice bN 0 nd.length 6) p q idx fuel used mx nd { i with fresh:=i.fresh+26*k }∧fT p (.mk gk gn gs' gts) at' rest (list.drop k) { i with fresh:=i.fresh+26*k }=T)
  (fun k s=>[(10,.bool false),(30,.int .i64 k)]) (fun k s=>s.1) (by decide +kernel) ⟨(st,qt),⟨h,hT⟩,aO.mk (by simp -implicitDefEqProofs only[aA,↓aU,seval])⟩ (fun k x s hx hlt bV hdr hinv=>?_) (fun s hge hinv=>?_)
 case refine_2=>
  simp -implicitDefEqProofs only[hge,aA,seval]
  obtain⟨hi,he⟩:=hinv
  rw[kK] at he
  unfold fT at he
  subst he
  exact⟨s.1,aM.refl _,rfl,_,_,_,_,hi⟩
 obtain⟨st,qt⟩:=s
 obtain⟨h,hT⟩:=hinv
 simp only at h hT
 obtain⟨t1,t2,t3,t4,t5⟩:=h.sto.shape
 obtain⟨n1,n2,n3,n4,n5⟩:=h.acC.shape
 obtain⟨m1,m2,m3,m4,m5⟩:=h.acN.shape
 obtain⟨l1,l2,l3,l4,l5,l6⟩:=pE i.goals
 have hxl:=hl x (cP hx)
 obtain⟨cl,hcx⟩:∃cl,p[x]?=some cl:=⟨_,eE hxl⟩
 obtain⟨sO,qB⟩:=hp cl (cP hcx)
 rw[hdr,fT.eq_def] at hT
 simp only[hcx] at hT
 have hat:dF prog 46 (.slice (list.map nv)) (.int .i64 (k:Int))=some (.pptr (.int .i64 (x:Int))):=bM (av:=nv) dH hx rfl
 have z8:=bM (av:=bX) (P:=prog) gW hcx (nO cl)
 have hw:=bO (n:=(k:Int)+1)
 generalize hF:i.fresh+26*k=F at *
 have hFM:F+26≤M:=by have:=aKW i.chs 0;omega
 have aY0:=bO (n:=(F:Int)+26)
 have iG:st S=some (.cells [.ptr c 0,.slice (p.map bX),.slice (q.map Tm.av),.bool idx,.bool false,.int .i64 fuel,.int .i64 used,.int .i64 F,eM i.goals,qc,.mslice bN 0 nd.length 6,.int .i64 mx]):=h.cell
 obtain⟨⟨ck,cn,cs',cts⟩,bd⟩:=cl
 rw[fY] at z8
 simp -implicitDefEqProofs only[bV,aK,iG,hat,aY0,aA,↓aU,seval,nH]
 have h2:=h.put (gl:=i.goals) (F:=F+26) (fuel':=fuel) (used':=used) (mx':=mx) (cs:=[.ptr c 0,.slice (p.map bX),.slice (q.map Tm.av),.bool idx,.bool false,.int .i64 fuel,.int .i64 used,.int .i64 ((F:Int)+26),eM i.goals,qc,.mslice bN 0 nd.length 6,.int .i64 mx]) rfl
 generalize st.aC S (.cells [.ptr c 0,.slice (p.map bX),.slice (q.map Tm.av),.bool idx,.bool false,.int .i64 fuel,.int .i64 used,.int .i64 ((F:Int)+26),eM i.goals,qc,.mslice bN 0 nd.length 6,.int .i64 mx])=V at *
 simp only at h2
 have rE:V S=some (.cells [.ptr c 0,.slice (p.map bX),.slice (q.map Tm.av),.bool idx,.bool false,.int .i64 fuel,.int .i64 used,.int .i64 ((F:Int)+26),eM i.goals,qc,.mslice bN 0 nd.length 6,.int .i64 mx]):=h2.cell
 refine wX [(0,1),(1,1),(2,1),(3,1),(4,1),(5,1),(6,1),(7,1),(8,1),(9,1),(10,1),(11,1),(12,1),(13,1),(14,0),(15,0),(16,1)] [0,1,2,3,4,5,6,7,8,9,10,11,12,13,16] (one S (.cells [.ptr c 0,.slice (p.map bX),.slice (q.map Tm.av),.bool idx,.bool false,.int .i64 fuel,.int .i64 used,.int .i64 ((F:Int)+26),eM i.goals,qc,.mslice bN 0 nd.length 6,.int .i64 mx])) mixed rfl (iF rE) ?_
 simp -implicitDefEqProofs only[wB,z8,aA,seval,nH]
 have hsh:=fun st=>OU (F:=F) (by omega) (.mk ck cn cs' cts) sO.head st
 have hhd:bB ((F+26:Nat):Int) (cQ F (.mk ck cn cs' cts)):=(sO.cQ F (.mk ck cn cs' cts) (by simp)).mono (by have:=sO.fr.1;omega)
 have htr:=h2.sto
 obtain⟨r,σ',add,U⟩:=rS (N:=F+26) hg (fun n u e=>(ho n u e).mono (by omega)) (hgo.mono (by omega)) hhd
 have htl:i.tr.length≤i.fresh:=hX.TH
 have hun:=FV (N:=F+26) hg (fun n u e=>(ho n u e).mono (by omega)) (.mk gk gn gs' gts) (cQ F (.mk ck cn cs' cts)) (hgo.mono (by omega)) hhd c m qt i.tr V h2.sto (by omega)
 rw[U.eq] at hT hun
 simp only at hT hun
 have G0:=U.AY
 have hso:=U.wJ
 clear U
 generalize hy:cQ F (.mk ck cn cs' cts)=y at *
 obtain⟨yk,yn,ys,yt⟩:=y
 simp only[aV] at hsh hun ⊢
 refine(hsh _).to ?_
 simp -implicitDefEqProofs only[aA,seval]
 refine⟨iF rE,?_⟩
 refine hun.mono ?_
 rintro _ s2 ⟨rfl,hP⟩
 obtain⟨qt2,h3⟩:=h2.post hP
 have C8:s2 S=some (.cells [.ptr c 0,.slice (p.map bX),.slice (q.map Tm.av),.bool idx,.bool false,.int .i64 fuel,.int .i64 used,.int .i64 ((F:Int)+26),eM i.goals,qc,.mslice bN 0 nd.length 6,.int .i64 mx]):=h3.cell
 simp -implicitDefEqProofs only[aA,seval]
 refine⟨iF C8,?_⟩
 refine aQ (fun hr=>?_) (fun hr=>?_)
 · have hr':r=false:=by simpa using hr
   rw[aE (by rw[hr'];simp)] at hT
   simp -implicitDefEqProofs only[C8,aA,seval,nH]
   have hud:=OX σ' (i.tr++add) i.tr.length (by simp) c m qt2 s2 h3.sto (by
    have:=h3.sto
    have:add.length≤F+26:=DT hso.nodup hso.gB
    rw[dM];omega)
   refine hud.mono ?_
   rintro _ s4 ⟨rfl,qt4,hS4,hb4,hf4⟩
   simp -implicitDefEqProofs only[hw,aA,seval]
   have h5:=h3.TI hS4 (fun b o hb e1 e2 _=>hf4 b o hb e1 e2) (fun b hb=>.inl (hb4 b hb))
   simp only[EY,E4,G0] at h5
   refine⟨(s4,qt4),⟨?_,?_⟩,aO.mk (by simp -implicitDefEqProofs only[aA,seval])⟩
   · rw[show i.fresh+26*(k+1)=F+26 by omega];exact h5
   · rw[show i.fresh+26*(k+1)=F+26 by omega];exact hT
 have hr':r=true:=by simpa using hr
 have aYG:nd.length=i.nn:=h3.ndl
 rw[aH hr'] at hT
 have G3:prog.underlying 257=some (.slice 327):=by kernel_rfl
 have QV:prog.underlying 258=some (.slice 324):=by kernel_rfl
 have hlC:=h3.acC.len G3
 have hlN:=h3.acN.len QV
 rw[aF] at hlC
 rw[h3.ndl] at hlN
 simp only at hlC hlN
 have aJN:=uC (P:=prog) (b:=bN) (w:=6) (i:=at') CT (len:=nd.length) (by rw[h3.ndl];exact ha)
 simp -implicitDefEqProofs only[aF,C8,hlC,hw,n1,aA,seval,nH]
 refine aQ (fun h7=>?_) (fun h7=>?_)
 · have h':k+1<list.length:=by simp at h7;omega
   have hdn:list.drop (k+1)≠[]:=by intro e;have:=gV List.length e;simp at this;omega
   rw[aE hdn] at hT
   have hsl:=fun(φ:AF) (d:Nat) (h:φ d=.int .i64 ((k:Int)+1))=>aMO h' h
   refine wX [(0,1),(1,1),(2,1),(3,1),(4,1),(5,1),(6,1),(7,1),(8,1),(9,1),(10,1),(11,1),(12,1),(13,1),(14,1),(15,1),(16,1),(17,1),(18,1),(19,1),(20,0),(21,1),(22,1),(23,2)] [0,1,2,3,4,5,6,7,8,9,10,11,12,13,14,15,16,17,18,19,21,22] (one S (.cells [.ptr c 0,.slice (p.map bX),.slice (q.map Tm.av),.bool idx,.bool false,.int .i64 fuel,.int .i64 used,.int .i64 ((F:Int)+26),eM i.goals,qc,.mslice bN 0 nd.length 6,.int .i64 mx])) mixed rfl (iF C8) ?_
   simp -implicitDefEqProofs only[hsl,hw,g3,g4,n1,m1,wB,aA,seval,nH]
   refine jC.append zT KA KC rfl (by decide) h3.acC rfl (aZC ⟨.mk gk gn gs' gts,at',rest,list.drop (k+1),i.tr.length,nd.length⟩) (by rw[aF];simp only;omega) (fun qc5 s5 oE hf hn=>?_)
   have aXC:(i.chs.map rG)++ [rG ⟨.mk gk gn gs' gts,at',rest,list.drop (k+1),i.tr.length,nd.length⟩]=(i.chs++ [(⟨.mk gk gn gs' gts,at',rest,list.drop (k+1),i.tr.length,nd.length⟩:IC)]).map rG:=by simp
   have oE:=aXC▸oE
   obtain⟨c1,c2,c3,c4,c5⟩:=oE.shape
   have hS5:s5 S=s2 S:=hf S h3.parts.2.2.2.2.1 (fun hb=>by
    rcases hn S hb with h' | h'
    · exact h3.parts.2.2.2.2.1 h'
    · rw[C8] at h';cases h')
   have aJV:=hS5.trans C8
   have aXR:=iF aJV
   simp -implicitDefEqProofs only[aK,aJV,c4,c5,m1,aB.aP,aA,seval,nH]
   refine⟨aXR,?_⟩
   have h5:=h3.a1I oE hf hn (cs:=[.ptr c 0,.slice (p.map bX),.slice (q.map Tm.av),.bool idx,.bool false,.int .i64 fuel,.int .i64 used,.int .i64 ((F:Int)+26),eM i.goals,qc5,.mslice bN 0 nd.length 6,.int .i64 mx]) rfl
   generalize s5.aC S (.cells [.ptr c 0,.slice (p.map bX),.slice (q.map Tm.av),.bool idx,.bool false,.int .i64 fuel,.int .i64 used,.int .i64 ((F:Int)+26),eM i.goals,qc5,.mslice bN 0 nd.length 6,.int .i64 mx])=V5 at *
   rw[show(⟨.mk gk gn gs' gts,at',rest,list.drop (k+1),i.tr.length,nd.length⟩:IC)=⟨.mk gk gn gs' gts,at',rest,list.drop (k+1),i.tr.length,i.nn⟩ by rw[aYG]] at h5
   obtain⟨csN,hbN,hcN⟩:=h5.nodeAt
   obtain⟨c1,c2,c3,c4,c5⟩:=(h5).acC.shape
   have hSN:S≠bN:=fun e=>(h5).parts.2.2.2.2.2.1 (by rw[e];simp [dR])
   have sN:=h5.cell
   simp only[iC] at sN
   rw[show((F+26:Nat):Int)=(F:Int)+26 from rfl] at sN
   simp -implicitDefEqProofs only[aK,aF,sN,hbN,hSN,aJN,z8,aA,seval,nH]
   refine⟨by omega,?_⟩
   obtain⟨nd6,h6⟩:=(h5).aME (x:=.int .i64 (x:Int)) (k:=at'*6+5) rfl hbN (by omega)
   have QO:=h6.ndl
   simp only at QO
   rw[show aK csN (at'*6+5) [.int .i64 (x:Int)]=List.take (at'*6+5) csN++ [AV.int IntKind.i64 (x:Int)]++List.drop (at'*6+5+1) csN from rfl] at h6
   generalize aB.aC _ bN (.cells (List.take (at'*6+5) csN++ [AV.int IntKind.i64 (x:Int)]++List.drop (at'*6+5+1) csN))=V6 at *
   have kD:=h6.cell
   simp only[iC] at kD
   rw[show((F+26:Nat):Int)=(F:Int)+26 from rfl] at kD
   refine rT (σ:=Unit) [1000000] [0,2,3,4,6,10,11,12,13,14,15,16,28,29,30,31,32,33,34,35,36,37,38,39,40,41,42,43,44,45,46,47,48,49,50,51,52,53,54,55,56,57,58,59,60,61,62,63,64,65,66,67,68,70,71,72,73,74,75,76,77,78,79,80,81,82,83,84,85,86,87,88,89,90,91,92,93,94,95,96,97,98,99,100,101,102,103,104,105,106,107,108,109,110,111,112,113,114,115,116,117,118,119] bd 4 17 (fun j _=>((bd.take j).map (cQ F)).map Tm.av) (fun _ _=>True) (fun j _=>[(120,.int .i64 j)]) (fun _ _=>V6) (fun j _ _ e he=>by simp only[cS] at he;obtain⟨t,_,rfl⟩:=he;exact⟨cG _,aJ _⟩) (by decide +kernel) ⟨(),0,trivial,fun h=>absurd rfl h,aO.mk (by simp -implicitDefEqProofs only[jG,kS,aW,aA,↓aU,seval])⟩ (fun j y5 _ b5 hx5 aX9 QL aXN QK hb5=>?_) (fun _ b5 QH QK=>?_)
   · have hw5:=wrap64 (n:=(j:Int)+1) (by simp only at qB;omega) (by simp only at qB;omega)
     have P1:=bM (av:=Tm.av) (P:=prog) aN hx5 (aJ y5)
     have GY:(((bd.take j).map (cQ F)).map Tm.av).length=j:=by simp only[aF,dS];omega
     have hyb:=sO.body y5 (cP hx5)
     simp -implicitDefEqProofs only[QL,P1,aT,aJ,cC,cG,aA,↓aU,seval,nH]
     refine(OU (F:=F) (by omega) y5 hyb.1 _).to ?_
     simp -implicitDefEqProofs only[aT,aJ,cG,aA,seval,nH]
     refine eW aN bG bH rfl rfl (fM (aJ _) (cC _)) (d6 _) hb5 (by simp only[GY,aS,aZ];simp only at qB;omega) (by simp only[GY,aS,aZ];simp only at qB;omega) (fun b' hb'=>?_)
     rw[show(((bd.take j).map (cQ F)).map Tm.av)++ [(cQ F y5).av]=((bd.take (j+1)).map (cQ F)).map Tm.av by rw[fG,hx5];simp] at hb' ⊢
     simp -implicitDefEqProofs only[aA,seval]
     exact⟨(),b',hb',aO.mk (by simp -implicitDefEqProofs only[hw5,aA,seval])⟩
   · have AE:=fun st=>OT (bd.map (cQ F)) i.chs.length at' rest (by simp only[aF];simp only at qB;omega) st
     simp -implicitDefEqProofs only[QH,fZ,eG,pC,iY,iN,oD,zX,GJ,aI0,lV,eS,aJD,aA,seval]
     refine(AE _).to ?_
     have h7:=h6.put (gl:=(bd.map (cQ F)).map (fun t=>(⟨t,i.chs.length,at'⟩:IG))++rest) (F:=F+26) (fuel':=fuel) (used':=used) (mx':=mx) rfl
     simp only[iC] at h7
     rw[show((F+26:Nat):Int)=(F:Int)+26 from rfl] at h7
     have hgl:(bd.map (cQ F)).map (fun t=>(⟨t,i.chs.length,at'⟩:IG))++rest=bd.map (fun t=>(⟨cQ F t,i.chs.length,at'⟩:IG))++rest:=by rw[tN];try rfl
     rw[hgl] at h7 ⊢
     generalize bd.map (fun t=>(⟨cQ F t,i.chs.length,at'⟩:IG))++rest=NG at *
     obtain⟨u1,u2,u3,u4,u5,u6⟩:=pE NG
     have GW:=h7.acC.len G3
     simp only[aF] at GW
     simp -implicitDefEqProofs only[aK,kD,u4,u5,aA,seval,nH]
     generalize aB.aC V6 S _=V7 at h7 ⊢
     have nT:=h7.cell
     simp only[iC] at nT
     rw[show((F+26:Nat):Int)=(F:Int)+26 from rfl] at nT
     refine wX [(0,1),(1,1),(2,1),(3,1),(4,1),(5,1),(6,1),(7,1),(8,1),(9,1),(10,0),(11,1),(12,1),(13,2)] [0,1,2,3,4,5,6,7,8,9,11,12] _ mixed rfl (iF nT) ?_
     simp -implicitDefEqProofs only[aK,nT,GW,c1,wB,aA,seval,nH]
     refine⟨iF nT,?_⟩
     subst hT
     exact⟨_,aM.refl _,rfl,qt2,_,_,nd6,h7.put (gl:=NG) (F:=F+26) rfl⟩
 · have h':list.drop (k+1)= []:=BR (by simp at h7;omega)
   rw[aH h'] at hT
   obtain⟨csN,hbN,hcN⟩:=h3.nodeAt
   obtain⟨c1,c2,c3,c4,c5⟩:=(h3).acC.shape
   have hSN:S≠bN:=fun e=>(h3).parts.2.2.2.2.2.1 (by rw[e];simp [dR])
   have sN:=h3.cell
   simp only[iC] at sN
   rw[show((F+26:Nat):Int)=(F:Int)+26 from rfl] at sN
   simp -implicitDefEqProofs only[aK,aF,sN,hbN,hSN,aJN,z8,m1,aA,seval,nH]
   refine⟨by omega,?_⟩
   obtain⟨nd6,h6⟩:=(h3).aME (x:=.int .i64 (x:Int)) (k:=at'*6+5) rfl hbN (by omega)
   have QO:=h6.ndl
   simp only at QO
   rw[show aK csN (at'*6+5) [.int .i64 (x:Int)]=List.take (at'*6+5) csN++ [AV.int IntKind.i64 (x:Int)]++List.drop (at'*6+5+1) csN from rfl] at h6
   generalize aB.aC _ bN (.cells (List.take (at'*6+5) csN++ [AV.int IntKind.i64 (x:Int)]++List.drop (at'*6+5+1) csN))=V6 at *
   have kD:=h6.cell
   simp only[iC] at kD
   rw[show((F+26:Nat):Int)=(F:Int)+26 from rfl] at kD
   refine rT (σ:=Unit) [1000000] [0,2,3,4,6,10,11,12,13,14,15,16,28,29,30,31,32,33,34,35,36,37,38,39,40,41,42,43,44,45,46,47,48,49,50,51,52,53,54,55,56,57,58,59,60,61,62,63,64,65,66,67,68,70,71,72,73,74,75,76,77,78,79,80,81,82,83,84,85,86,87,88,89,90,91,92,93,94,95,96,97,98,99,100,101,102,103,104,105,106,107,108,109,110,111,112,113,114,115,116,117,118,119] bd 4 17 (fun j _=>((bd.take j).map (cQ F)).map Tm.av) (fun _ _=>True) (fun j _=>[(120,.int .i64 j)]) (fun _ _=>V6) (fun j _ _ e he=>by simp only[cS] at he;obtain⟨t,_,rfl⟩:=he;exact⟨cG _,aJ _⟩) (by decide +kernel) ⟨(),0,trivial,fun h=>absurd rfl h,aO.mk (by simp -implicitDefEqProofs only[jG,kS,aW,aA,↓aU,seval])⟩ (fun j y5 _ b5 hx5 aX9 QL aXN QK hb5=>?_) (fun _ b5 QH QK=>?_)
   · have hw5:=wrap64 (n:=(j:Int)+1) (by simp only at qB;omega) (by simp only at qB;omega)
     have P1:=bM (av:=Tm.av) (P:=prog) aN hx5 (aJ y5)
     have GY:(((bd.take j).map (cQ F)).map Tm.av).length=j:=by simp only[aF,dS];omega
     have hyb:=sO.body y5 (cP hx5)
     simp -implicitDefEqProofs only[QL,P1,aT,aJ,cC,cG,aA,↓aU,seval,nH]
     refine(OU (F:=F) (by omega) y5 hyb.1 _).to ?_
     simp -implicitDefEqProofs only[aT,aJ,cG,aA,seval,nH]
     refine eW aN bG bH rfl rfl (fM (aJ _) (cC _)) (d6 _) hb5 (by simp only[GY,aS,aZ];simp only at qB;omega) (by simp only[GY,aS,aZ];simp only at qB;omega) (fun b' hb'=>?_)
     rw[show(((bd.take j).map (cQ F)).map Tm.av)++ [(cQ F y5).av]=((bd.take (j+1)).map (cQ F)).map Tm.av by rw[fG,hx5];simp] at hb' ⊢
     simp -implicitDefEqProofs only[aA,seval]
     exact⟨(),b',hb',aO.mk (by simp -implicitDefEqProofs only[hw5,aA,seval])⟩
   · have AE:=fun st=>OT (bd.map (cQ F)) i.chs.length at' rest (by simp only[aF];simp only at qB;omega) st
     simp -implicitDefEqProofs only[QH,fZ,eG,pC,iY,iN,zX,GJ,aI0,lV,eS,aJD,aA,seval]
     refine(AE _).to ?_
     have h7:=h6.put (gl:=(bd.map (cQ F)).map (fun t=>(⟨t,i.chs.length,at'⟩:IG))++rest) (F:=F+26) (fuel':=fuel) (used':=used) (mx':=mx) rfl
     simp only[iC] at h7
     rw[show((F+26:Nat):Int)=(F:Int)+26 from rfl] at h7
     have hgl:(bd.map (cQ F)).map (fun t=>(⟨t,i.chs.length,at'⟩:IG))++rest=bd.map (fun t=>(⟨cQ F t,i.chs.length,at'⟩:IG))++rest:=by rw[tN];try rfl
     rw[hgl] at h7 ⊢
     generalize bd.map (fun t=>(⟨cQ F t,i.chs.length,at'⟩:IG))++rest=NG at *
     obtain⟨u1,u2,u3,u4,u5,u6⟩:=pE NG
     have GW:=h7.acC.len G3
     simp only[aF] at GW
     simp -implicitDefEqProofs only[aK,kD,u4,u5,aA,seval,nH]
     generalize aB.aC V6 S _=V7 at h7 ⊢
     have nT:=h7.cell
     simp only[iC] at nT
     rw[show((F+26:Nat):Int)=(F:Int)+26 from rfl] at nT
     refine wX [(0,1),(1,1),(2,1),(3,1),(4,1),(5,1),(6,1),(7,1),(8,1),(9,1),(10,0),(11,1),(12,1),(13,2)] [0,1,2,3,4,5,6,7,8,9,11,12] _ mixed rfl (iF nT) ?_
     simp -implicitDefEqProofs only[aK,nT,GW,c1,wB,aA,seval,nH]
     refine⟨iF nT,?_⟩
     subst hT
     exact⟨_,aM.refl _,rfl,qt2,_,_,nd6,h7.put (gl:=NG) (F:=F+26) rfl⟩
theorem aY6(p:List Cl)(s:IS):gR p s.chs.length s=match s.chs.getLast? with
 | none=>none
 | some c=>if(fT p c.goal c.node c.rest c.list (s.pop c)).1=true then some (fT p c.goal c.node c.rest c.list (s.pop c)).2 else gR p (s.chs.length - 1) (fT p c.goal c.node c.rest c.list (s.pop c)).2:=by
 obtain⟨gl,σ,tr,chs,F,nn⟩:=s
 cases chs with
 | nil=>rfl
 | cons c l=>rw[aS,gR];try rfl
structure TX (p:List Cl) (M:Nat) (st0:aB) (S c m:Nat) (q:List Tm) (idx:Bool) (fuel used:Int) (T:Option IS) (st:aB) (qt qc qn:AV) (mx:Int) (nd:List AV) (i:IS) (cs:List RC):Prop where
 s:dK st0 st S c m qt qc qn p q idx fuel used mx nd i
 r:iO i.fresh cs i.chs i.σ i.tr
 x:IX p M i
 t:gR p i.chs.length i=T
 n:i.chs.length≤524288∧i.nn≤524288
def TY(st0 st':aB)(S c m:Nat)(p:List Cl)(q:List Tm)(idx:Bool)(fuel used:Int)(r:AV):Option IS→Prop
 | some i'=>r=.int .i64 (-1)∧∃qt qc qn mx nd,dK st0 st' S c m qt qc qn p q idx fuel used mx nd i'
 | none=>r=.int .i64 0∧∃qt qc qn mx nd i',dK st0 st' S c m qt qc qn p q idx fuel used mx nd i'
abbrev H2:=zi tI_3 (zi zI_3 (zi aX (zi tI_46 (zi zI_46 (zi dH (zi fA (zi eX (zi fB (zi tI_66 (zi zI_66 (zi bQ (zi bR (zi bS (zi bT (zi bP (zi tI_174 (zi zI_174 (zi tI_227 (zi zI_227 (zi tI_256 (zi zI_256 (zi tI_257 (zi zI_257 (zi zT (zi KA (zi KC (zi TO (zi tI_258 (zi zI_258 (zi CT (zi KB (zi KD (zi TP (zi tI_260 (zi zI_260 (zi F7 (zi F8 (zi GB (zi GC (zi GD (zi GE (zi GF (zi GG (zi GH (zi GI (zi F9 (zi GA (zi FO (zi tI_327 (zi zI_327 (zi aIN (zi aIO (zi aIP (zi aIQ (zi aIR (zi aIS VL))))))))))))))))))))))))))))))))))))))))))))))))))))))))
set_option maxHeartbeats 2000000 in
theorem JT{p:List Cl}(hp:∀c∈p,gE c∧c.2.length≤6){M:Nat}(hM:M≤16777216){st0:aB}{S c m:Nat}{q:List Tm}{idx:Bool}{fuel used:Int}{T:Option IS}(st:aB)(qt qc qn:AV)(mx:Int)(nd:List AV)(i:IS)(cs:List RC)
 (hI:TX p M st0 S c m q idx fuel used T st qt qc qn mx nd i cs) :
 aD prog 245 [.ptr S 0] st (fun r st'=>TY st0 st' S c m p q idx fuel used r T):=by
 refine aD.mK ?_
 refine wF [1000000] 1 func245 ntmps245 rfl rfl ?_
 intro _
 simp -implicitDefEqProofs only[aA,seval]
 refine iE (σ:=aB×AV×AV×AV×Int×List AV×IS×List RC) [1000000] [0] (fun x=>TX p M st0 S c m q idx fuel used T x.1 x.2.1 x.2.2.1 x.2.2.2.1 x.2.2.2.2.1 x.2.2.2.2.2.1 x.2.2.2.2.2.2.1 x.2.2.2.2.2.2.2) (fun x=>[(2,.int .i64 0)]) (fun x=>x.1) (fun x=>x.2.2.2.2.2.2.1.chs.length) (by decide +kernel) ⟨(st,qt,qc,qn,mx,nd,i,cs),hI,aO.mk (by simp -implicitDefEqProofs only[aA,seval])⟩ ?_
 clear hI
 rintro⟨st,qt,qc,qn,mx,nd,i,cs⟩ ⟨hs,hr,hx,ht,hn1,hn2⟩
 simp only at hs hr hx ht hn1 hn2
 simp only
 obtain⟨gl,τ,tr,ch,F,nn⟩:=i
 obtain⟨t1,t2,t3,t4,t5⟩:=hs.sto.shape
 obtain⟨n1,n2,n3,n4,n5⟩:=hs.acC.shape
 obtain⟨m1,m2,m3,m4,m5⟩:=hs.acN.shape
 obtain⟨l1,l2,l3,l4,l5,l6⟩:=pE gl
 have G3:prog.underlying 257=some (.slice 327):=by kernel_rfl
 have hlC:=hs.acC.len G3
 rw[aF] at hlC
 simp only at hlC hr hx ht hn1 hn2
 have iG:=hs.cell
 simp only[iC] at iG
 replace ht:=(aY6 p ⟨gl,τ,tr,ch,F,nn⟩).symm.trans ht
 simp only at ht
 cases hr with
 | nil=>
  simp only[List.getLast?_nil] at ht
  subst ht
  simp only[aZ] at hlC
  simp -implicitDefEqProofs only[iG,hlC,n1,vP,↓IW,List.contains,List.elem,rU,g8,sub,yQ,↓reduceIte,reduceCtorEq,H2]
  refine aQ (fun h=>absurd h (by decide)) (fun h=>?_)
  simp -implicitDefEqProofs only[aA,seval]
  exact⟨st,aM.refl _,rfl,_,_,_,_,_,_,hs⟩
 | @snoc cs ds cR d _ _ C h1 h2=>
  obtain⟨hP,hMl,hnt,htn,htr,hli⟩:=hx.pop
  have e3:(IS.pop ⟨gl,τ,tr,ds++ [d],F,nn⟩ d)=⟨gl,τ.out (tr.drop d.fE),tr.take d.fE,ds,F,d.taken⟩:=by simp only[IS.pop,IY]
  simp only[NI,I2,Option.some_or,e3] at ht
  obtain⟨bC,csC,rfl,hbC,aX4,htk⟩:=hs.acC.at (Q1 _) (i:=ds.length) (e:=rG d) (by simp)
  have hlm:((ds++ [d]).map rG).length=ds.length+1:=by simp
  rw[hlm] at hs iG hlC
  have hSb:S≠bC:=fun e=>hs.parts.2.2.2.2.1 (by rw[e];simp [dR])
  have hdl:ds.length+1≤524288:=by simp only[dM,aS,aZ] at hn1;omega
  have hw:IntKind.i64.wrap ((ds.length:Int)+1 - 1)=(ds.length:Int):=by rw[wrap64 (by omega) (by omega)];omega
  have aW4:=uC (P:=prog) (b:=bC) (w:=9) (i:=ds.length) zT (len:=ds.length+1) (by omega)
  have xW:=fun(φ:AF) (dd:Nat) (h:φ dd=.int .i64 (ds.length:Int))=>SL (b:=bC) (n:=ds.length+1) (k:=ds.length) zT h (by omega)
  obtain⟨⟨dk,dn,ds',dts⟩,J8,J9,O9,F0,CS⟩:=d
  rw[aKN] at htk
  simp only at htn htr hnt hli hMl hP
  obtain⟨g1,g2,g3,g4,g5,g6⟩:=pE J9
  have aYW:(csC.drop (ds.length*9)).take 9= [.int .i64 dk,.int .i64 dn,.str ds',.slice (dts.map Tm.av),.int .i64 (J8:Int),eM J9,.slice (O9.map nv),.int .i64 (F0:Int),.int .i64 (CS:Int)]:=htk
  simp -implicitDefEqProofs only[dM,aS,aZ,iG,hlC,aA,seval,H2]
  refine aQ (fun h=>?_) (fun h=>absurd h (by simp))
  simp -implicitDefEqProofs only[aK,dM,aS,aZ,iG,hlC,hbC,aX4,aYW,aW4,xW,hw,g5,aA,↓aU,seval,H2]
  have hs2:=hs.XW (k:=ds.length) (gl:=gl) (by simp only[dM,aS,aZ];omega) (cs:=iC c p q idx fuel used F (eM gl) (.mslice bC 0 ds.length 9) qn mx) rfl
  simp only[E4,iC] at hs2
  generalize aB.aC st S _=V at hs2 ⊢
  have rE:=hs2.cell
  simp only[iC,xL] at rE hs2
  have htl:=hs2.sto.fE
  refine wX [(0,1),(1,1),(2,1),(3,1),(4,1),(5,1),(6,2)] [0,1,2,3,4,5] _ mixed rfl (iF rE) ?_
  simp -implicitDefEqProofs only[wB,aA,seval,H2]
  refine(OX τ tr F0 htr c m qt V hs2.sto (by have:=hx.TH;have:=hx.phi;simp only at *;omega)).mono ?_
  rintro _ s4 ⟨rfl,qt4,hS4,hb4,hf4⟩
  have hs4:=hs2.TI hS4 (fun b o hb e1 e2 _=>hf4 b o hb e1 e2) (fun b hb=>.inl (hb4 b hb))
  have P9:=hs4.cell
  simp only[iC] at P9
  obtain⟨q1,q2,q3,q4,q5⟩:=hs4.sto.shape
  have aXH:=fun(φ:AF) (dd:Nat) (h:φ dd=.int .i64 (CS:Int))=>aML CT hs4.acN h (by rw[hs4.ndl];exact htn)
  simp -implicitDefEqProofs only[aA,seval]
  have hAN:=hs4.acN.take (k:=CS) (by rw[hs4.ndl];exact htn) hs4.ndw
  obtain⟨e1',e2',e3',e4',e5'⟩:=hAN.shape
  have hs6:=hs4.aU2 (k:=CS) htn rfl
  simp only[iC] at hs6
  obtain⟨ρ,Sm,e1,hok,hG,e2⟩:=h1
  simp only at e1 e2
  have DJ:=XJ hp (show M≤268435456 by omega) hs6 (.mk dk dn ds' dts) J8 J9 O9 Sm.g2 Sm.o2 (e1▸Sm.A4 hok) hli (by omega) hnt hP hMl (by first | omega | (simp only;omega)) (by first | omega | (simp only;omega))
  simp only[aV] at DJ
  have G1:=MW (fun c h=>(hp c h).1) (nn:=CS) (at':=J8) (tr:=tr.take F0) hok hG cR.left F gl Sm C
  rw[←e1,←e2] at G1
  refine wX [(0,1),(1,1),(2,1),(3,1),(4,1),(5,1),(6,1),(7,1),(8,1),(9,1),(10,2)] [0,1,2,3,4,5,6,7,8,9] _ mixed rfl (iF P9) ?_
  simp -implicitDefEqProofs only[aK,P9,aXH,e4',e5',m1,g1,g2,wB,aA,seval,H2]
  refine DJ.mono ?_
  rintro _ s7 ⟨rfl,qt7,qc7,mx7,nd7,hs7⟩
  simp -implicitDefEqProofs only[aA,seval]
  refine aQ (fun h=>?_) (fun h=>?_)
  · simp -implicitDefEqProofs only[aA,seval]
    rw[aH h] at ht
    subst ht
    exact⟨s7,aM.refl _,rfl,_,_,_,_,_,hs7⟩
  · rw[aE (by rw[h];simp)] at ht
    cases hrt:gJ p cs cR.goal cR.rest cR.σ cR.N cR.left with
    | some s=>
     rw[e2,hrt] at G1
     obtain⟨i2,k1,_⟩:=G1
     rw[←e2] at k1
     rw[k1] at h
     cases h
    | none=>
     rw[e2,hrt] at G1
     obtain⟨F',hF,k1⟩:=G1
     rw[←e2] at k1
     have hX7:=LA (fun c h=>(hp c h).1) (rest:=J9) O9 _ hli (at':=J8) (by simp only;exact hnt) (by simp only;exact hMl) hP Sm.g2 Sm.o2 (e1▸Sm.A4 hok)
     rw[k1] at hs7 ht hX7
     simp -implicitDefEqProofs only[aA,seval]
     refine⟨(s7,qt7,qc7,_,mx7,nd7,⟨gl,τ.out (tr.drop F0),tr.take F0,ds,F',CS⟩,cs),by simp only;omega,⟨hs7,C.mono hF,hX7,?_,by simp only;omega,by simp only;omega⟩,aO.mk (by simp -implicitDefEqProofs only[aA,seval])⟩
     simpa using ht
end Go.AW
namespace Go.AW
theorem IX.node{p:List Cl}{M:Nat}{i:IS}(h:IX p M i):IX p M { i with nn:=i.nn+1 }:=
 ⟨h.tnd,h.tin,h.phi,fun c hc=>by obtain⟨h1,h2,h3,h4⟩:=h.ch c hc;exact⟨h1,by simp only;omega,h3,h4⟩,h.mono⟩
theorem IX.more{p:List Cl}{M:Nat}{i:IS}{σ':Sub}{add:List Int}{gl:List IG}(h:IX p M i)(S:mY (i.fresh:Int) i.σ σ' add):IX p M { i with goals:=gl,σ:=σ',tr:=i.tr++add }:=by
 refine⟨tO.2 ⟨h.tnd,S.nodup,fun a ha b hb e=>?_⟩,fun n hn=>?_,h.phi,fun c hc=>?_,h.mono⟩
 · subst e
   exact(h.tin a ha).2 (S.new a hb).1
 · simp only[fF] at hn
   rcases hn with hn | hn
   · have h1:=h.tin n hn
     have hna:n∉add:=fun ha=>h1.2 (S.new n ha).1
     exact⟨h1.1,by simp only;rw[S.a8 n hna];exact h1.2⟩
   · exact⟨S.gB n hn,(S.new n hn).2⟩
 · obtain⟨h1,h2,h3,h4⟩:=h.ch c hc
   exact⟨h1,h2,by simp only[dM];omega,h4⟩
theorem IX.cut{p:List Cl}{M:Nat}{i:IS}{gl:List IG}(h:IX p M i)(k:Nat):IX p M { i with goals:=gl,chs:=i.chs.take k }:=
 ⟨h.tnd,h.tin,by have:=aKW i.chs k;have:=h.phi;simp only;omega,fun c hc=>h.ch c (mC hc),h.mono.sublist (List.take_sublist _ _)⟩
def NR(p:List Cl)(M:Nat):wV→Prop
 | .go s=>IX p M s
 | .fail s=>IX p M s
 | .stop _=>True
theorem aY9{p:List Cl}(hp:∀c∈p,gE c)(hpl:p.length≤20){cnd:Tm→List Nat→List Nat}(hc:∀t l,(∀i∈cnd t l,i∈l)∧(cnd t l).length≤l.length){M:Nat}{i:IS}{g:IG}{rest:List IG}(h:IX p M i)(hg:cO i.σ)(ho:cW (bB i.fresh) i.σ)(hgo:bB i.fresh g.t) :
 NR p (M+520) (lW p cnd i g rest):=by
 have hU:=h.up (M':=M+520) (by omega)
 unfold lW
 split
 · trivial
 rename_i fD
 have QF:eL (g.t.aG (rs i.σ))=true:=by simpa using fD
 have hok:=KN hg ho hgo QF
 generalize g.t.aG (rs i.σ)=t at *
 split
 · exact(hU.cut (gl:=rest) g.cut).node
 split
 · have S:=LZ hg ho t.s t.ts fun x hx=>by
    obtain⟨k,n,s',ts⟩:=t
    by_cases hk:k=1
    · obtain⟨_,_,_,h2⟩:=(show cJ i.fresh (.mk 1 n s' ts) from hk▸hok.1).var
      simp only[Tm.ts] at hx
      rw[h2] at hx;cases hx
    · exact qJ _ (.mk k n s' ts) hk hok x hx
   split
   · exact(hU.more (gl:=rest) S).node
   · split
     · exact(hU.more (gl:=i.goals) S).node
     · trivial
 split
 · trivial
 obtain⟨c1,c2⟩:=hc t (d8 p t)
 have hfl:(d8 p t).length≤p.length:=by
  have:=List.length_filter_le (fun j=>match p[j]? with | some c=>DB c t | none=>false) (List.range p.length)
  rw[I3] at this
  exact this
 have hr:∀x∈cnd t (d8 p t),x<p.length:=fun x hx=>by
  have:=c1 x hx
  unfold d8 at this
  exact rX.1 (E2.1 this).1
 have hT:=LA hp (rest:=rest) (cnd t (d8 p t)) { i with nn:=i.nn+1 } hr (at':=i.nn) (by simp only;omega) (by have:=h.phi;simp only;omega) hU.node hg ho hok
 split
 · exact hT
 · exact hT
end Go.AW
namespace Go.AW
open Go.Proofs.Tryz
theorem aKM{p:List Cl}{goal:Tm}{at':Nat}{rest:List IG}:∀(l:List Nat) (s:IS),(fT p goal at' rest l s).1=false→∃F,(fT p goal at' rest l s).2= { s with fresh:=F }
 | [],s,_=>⟨s.fresh,by rw[fT.eq_def]⟩
 | j::l,s,h=>by
  rw[fT.eq_def] at h ⊢
  simp only at h ⊢
  split at h
  · exact⟨s.fresh,rfl⟩
  · split at h
    · cases h
    · rename_i hu
      rw[aE hu]
      obtain⟨F,e⟩:=aKM l { s with fresh:=s.fresh+26 } h
      exact⟨F,e⟩
theorem LB{p:List Cl}{goal:Tm}{at':Nat}{rest:List IG}:∀(l:List Nat) (s:IS),(fT p goal at' rest l s).2.nn=s.nn
 | [],s=>by rw[fT.eq_def]
 | j::l,s=>by
  rw[fT.eq_def]
  simp only
  split
  · rfl
  · split
    · rfl
    · exact LB l { s with fresh:=s.fresh+26 }
theorem Rl.facts{s:RS}{i:IS}(h:Rl s i):cO i.σ∧cW (bB i.fresh) i.σ∧i.chs.length=s.chs.length∧i.goals.length=s.goals.length:=by
 obtain⟨ρ,S,G,C⟩:=h
 have:=gV List.length G.1
 simp only[aF] at this
 exact⟨S.g2,S.o2,C.len,this⟩
theorem Rl.goal{s:RS}{i:IS}{h:IG}{hs:List IG}(hR:Rl s i)(hh:i.goals=h::hs):bB i.fresh h.t∧h.t.k=3∧∃g gs,s.goals=g::gs∧h.cut=g.a8:=by
 obtain⟨ρ,S,G,C⟩:=hR
 rw[hh] at G
 cases hg:s.goals with
 | nil=>rw[hg] at G;exact absurd G.1 (by simp)
 | cons g gs=>
  rw[hg] at G
  have he:=(List.cons.inj G.1).1
  simp only[Prod.mk.injEq] at he
  obtain⟨e1,e2⟩:=he
  obtain⟨h1,h2⟩:=G.2 g (by simp)
  rw[e1]
  exact⟨S.A4 h1,by rw[yA];exact h2,g,gs,rfl,e2⟩
section
variable {p:List Cl} (hp:∀c∈p,gE c) {cnd:Tm→List Nat→List Nat} (hc:∀(ρ:Int→Int) (t:Tm) (l:List Nat),cnd (b7 ρ t) l=cnd t l)
include hp hc
theorem Rl.step{s:RS}{i:IS}{h:IG}{hs:List IG}(hR:Rl s i)(hh:i.goals=h::hs):∃g gs,s.goals=g::gs∧match lW p cnd i h hs with
 | .stop e=>iJ p cnd s g gs=.stop e
 | .go i'=>∃s',iJ p cnd s g gs=.go s'∧Rl s' i'
 | .fail i'=>iJ p cnd s g gs=.fail∧iO i'.fresh s.chs i'.chs i'.σ i'.tr:=by
 obtain⟨_,_,g,gs,hg,_⟩:=hR.goal hh
 obtain⟨h',hs',e,k⟩:=aMW hp hc hR hg
 rw[hh] at e
 cases e
 refine⟨g,gs,hg,?_⟩
 cases hr:iJ p cnd s g gs with
 | stop e=>rw[hr] at k;simp only at k;rw[k]
 | go s'=>rw[hr] at k;simp only at k;obtain⟨i',e,k⟩:=k;rw[e];exact⟨s',rfl,k⟩
 | fail=>rw[hr] at k;simp only at k;obtain⟨i',e,k⟩:=k;rw[e];exact⟨rfl,k⟩
end
theorem aWK(p:List Cl)(t:Tm):(d8 p t).length≤p.length:=by
 have:=List.length_filter_le (fun j=>match p[j]? with | some c=>DB c t | none=>false) (List.range p.length)
 rw[I3] at this
 exact this
theorem PT(p:List Cl)(t:Tm):∀x∈d8 p t,x<p.length:=fun x hx=>by
 unfold d8 at hx
 exact rX.1 (E2.1 hx).1
theorem aKL{p:List Cl}{N:Nat}{i':IS}:∀(n:Nat) (i:IS),(∀c∈i.chs,c.taken≤N)→gR p n i=some i'→i'.nn≤N
 | 0,i,_,e=>by simp [gR] at e
 | n+1,i,h,e=>by
  rw[gR] at e
  split at e
  · cases e
  · rename_i c hl
    split at e
    · cases e
      rw[LB]
      exact h c (NK hl)
    · rename_i hf
      obtain⟨F,e2⟩:=aKM _ _ (by simpa using hf)
      rw[e2] at e
      exact aKL n _ (fun c hc=>h c (NF _ hc)) e
def NQ(k:Nat):wV→Prop
 | .go s=>s.nn=k
 | .fail s=>s.nn=k
 | .stop _=>True
theorem aZA{p:List Cl}{cnd:Tm→List Nat→List Nat}{i:IS}{g:IG}{rest:List IG}:NQ (i.nn+1) (lW p cnd i g rest):=by
 unfold lW
 split
 · trivial
 split
 · exact rfl
 split
 · split
   · exact rfl
   · split
     · exact rfl
     · trivial
 split
 · trivial
 split
 · exact LB _ _
 · exact LB _ _
def UD:wV→Prop
 | .stop e=>e≠-1
 | _=>True
theorem aZB{p:List Cl}{cnd:Tm→List Nat→List Nat}{i:IS}{g:IG}{rest:List IG}:UD (lW p cnd i g rest):=by
 unfold lW
 split
 · exact(by decide:(3:Int)≠-1)
 split
 · trivial
 split
 · split
   · trivial
   · split
     · trivial
     · show oC _≠-1
       unfold oC
       split
       · decide
       · split
         · decide
         · split<;>decide
 split
 · exact(by decide:(8:Int)≠-1)
 split<;>trivial
structure RI (p:List Cl) (B M k:Nat) (s:RS) (i:IS):Prop where
 r:Rl s i
 a:mG p B s
 x:IX p M i
 n:i.nn≤k
theorem RI.pB{p:List Cl}{B M k:Nat}{s:RS}{i:IS}(h:RI p B M k s i):i.chs.length≤B:=by rw[h.r.facts.2.2.1];exact h.a.a.pB
theorem RI.cr{p:List Cl}{B M k:Nat}{s:RS}{i:IS}(h:RI p B M k s i):iO i.fresh s.chs i.chs i.σ i.tr:=by obtain⟨_,_,_,C⟩:=h.r;exact C
theorem RI.cut{p:List Cl}{B M k:Nat}{s:RS}{i:IS}{g:IG}{gs:List IG}(h:RI p B M k s i)(hg:i.goals=g::gs):g.cut≤i.chs.length:=by
 obtain⟨_,_,g',gs',e,e2⟩:=h.r.goal hg
 rw[e2,h.r.facts.2.2.1]
 have:=h.a.k.goals.2 g' (by rw[e];simp)
 exact this
section
variable {p:List Cl} (hp:∀c∈p,gE c∧c.2.length≤6) (hpl:p.length≤20) {cnd:Tm→List Nat→List Nat} (hc:∀(ρ:Int→Int) (t:Tm) (l:List Nat),cnd (b7 ρ t) l=cnd t l) (hd:∀t l,(∀i∈cnd t l,i∈l)∧(cnd t l).length≤l.length)
include hp
theorem RI.VP{B M k:Nat}(hB:B≤524288){s:RS}{i i':IS}(ha:mG p B s)(hC:iO i.fresh s.chs i.chs i.σ i.tr)(hx:IX p M i)(hn:i.nn≤k)(e:gR p i.chs.length i=some i'):∃s',RI p B M k s' i':=by
 have hp1:=fun c h=>(hp c h).1
 have key:=OC hp1 i.chs.length s.chs i hC
 cases hr:fU p i.chs.length s.chs with
 | none=>rw[hr] at key;simp only at key;rw[key] at e;cases e
 | some s'=>
  rw[hr] at key
  obtain⟨i2,e2,R⟩:=key
  rw[e2] at e
  cases e
  rw[hC.len] at hr
  exact⟨s',R,ha.back hp hB hr,aKK hp1 _ s.chs i hC hx i' e2,aKL _ i (fun c hc=>lA (hx.ch c hc).2.1 hn) e2⟩
theorem RI.back{B M k:Nat}(hB:B≤524288){s:RS}{i i':IS}(h:RI p B M k s i)(e:gR p i.chs.length i=some i'):∃s',RI p B M k s' i':=
 RI.VP hp hB h.a h.cr h.x h.n e
include hpl hc hd
theorem RI.step{B M k:Nat}(hB:B+26≤524288){s:RS}{i:IS}{g:IG}{gs:List IG}(h:RI p B M k s i)(hg:i.goals=g::gs):match lW p cnd i g gs with
 | .stop e=>True
 | .go i'=>∃s',RI p (B+26) (M+520) (k+1) s' i'
 | .fail i'=>iO i'.fresh s.chs i'.chs i'.σ i'.tr∧IX p (M+520) i'∧i'.nn≤k+1∧∀i2,gR p i'.chs.length i'=some i2→∃s',RI p (B+26) (M+520) (k+1) s' i2:=by
 have hp1:=fun c h=>(hp c h).1
 have hn:=aZA (p:=p) (cnd:=cnd) (i:=i) (g:=g) (rest:=gs)
 have hx:=aY9 hp1 hpl hd (rest:=gs) h.x h.r.facts.1 h.r.facts.2.1 (h.r.goal hg).1
 obtain⟨g',gs',e,k⟩:=h.r.step hp1 hc hg
 have hk:=h.n
 cases hs:lW p cnd i g gs with
 | stop e=>trivial
 | go i'=>
  rw[hs] at hn hx k
  simp only[NQ,NR] at hn hx k
  obtain⟨s',e1,R⟩:=k
  exact⟨s',R,h.a.step hp (by omega) hB hd e e1,hx,by omega⟩
 | fail i'=>
  rw[hs] at hn hx k
  simp only[NQ,NR] at hn hx k
  obtain⟨e1,C⟩:=k
  exact⟨C,hx,by omega,fun i2 e2=>RI.VP hp hB (h.a.up (by omega)) C hx (by omega) e2⟩
end
theorem RI.start{p:List Cl}{q:List Tm}(hq:∀t∈q,bB 26 t∧t.k=3)(h6:q.length≤6):RI p 26 26 0 (k6 q) (oG q):=by
 refine⟨aMV hq,mG.start hq h6,⟨oW,fun n hn=>(by cases hn),(by show 26+26*pL []≤26;simp [pL]),fun c hc=>(by cases hc),List.Pairwise.nil⟩,c7 _⟩
theorem aY8{p:List Cl}{cnd:Tm→List Nat→List Nat}{vars:List Int}{most fuel:Nat}{s:IS}(hg:s.goals= []):jJ p cnd vars most fuel s=if most=0 then([],1) else match iA s.σ vars with
 | none=>([],3)
 | some a=>match gR p s.chs.length s with
  | none=>([a],0)
  | some s'=>(a::(jJ p cnd vars (most - 1) fuel s').1,(jJ p cnd vars (most - 1) fuel s').2):=by
 rw[jJ.eq_def,hg]
 simp only
 split<;>rfl
theorem aY7{p:List Cl}{cnd:Tm→List Nat→List Nat}{vars:List Int}{most fuel:Nat}{s:IS}{g:IG}{rest:List IG}(hg:s.goals=g::rest):jJ p cnd vars most fuel s=if fuel=0 then([],2) else match lW p cnd s g rest with
 | .stop e=>([],e)
 | .go s'=>jJ p cnd vars most (fuel - 1) s'
 | .fail s'=>match gR p s'.chs.length s' with
  | none=>([],0)
  | some s''=>jJ p cnd vars most (fuel - 1) s'':=by
 rw[jJ.eq_def,hg]
 simp only
 split<;>rfl
section
variable {st0 st:aB} {S c m:Nat} {qt qc qn:AV} {p:List Cl} {q:List Tm} {idx:Bool} {fuel used mx:Int} {nd:List AV} {i:IS}
theorem dK.acc{b:Nat}{l:List AV}(h:dK st0 st S c m qt qc qn p q idx fuel used mx nd i)(hb:l≠[]→st b=none):dK (a7 st0 b l) (a7 st b l) S c m qt qc qn p q idx fuel used mx nd i:=by
 cases l with
 | nil=>exact h
 | cons x l=>
  have hn:=hb (by simp)
  have hne:∀a∈jB S c m qt qc qn,a7 st b (x::l) a=st a:=fun a ha=>oY (by rintro rfl;exact h.held a ha hn)
  have aYH:∀a∈jB S c m qt qc qn,a7 st0 b (x::l) a=st0 a:=fun a ha=>oY (by rintro rfl;exact h.held a ha hn)
  refine⟨by rw[hne S (eA.2 (.inl rfl))];exact h.cell,h.sto.DM (hne c (eA.2 (.inr (.inl rfl)))) (hne m (eA.2 (.inr (.inr (.inl rfl))))) (fun b hb=>hne b (eA.2 (.inr (.inr (.inr (.inl hb)))))),
   h.acC.a8 fun b hb=>hne b (eA.2 (.inr (.inr (.inr (.inr (.inl hb)))))),h.acN.a8 fun b hb=>hne b (eA.2 (.inr (.inr (.inr (.inr (.inr hb)))))),h.ndl,h.ndw,h.dis,fun a ha=>by rw[aYH a ha];exact h.new a ha,fun a o ha=>?_⟩
  by_cases e:a=b
  · subst e
    rw[jP (by simp),aB.aP] at ha ⊢
    exact ha
  · rw[oY e] at ha ⊢
    exact h.a8 a o ha
theorem dK.BI{b:Nat}{l:List AV}{st2:aB}(h:dK (a7 st0 b l) st2 S c m qt qc qn p q idx fuel used mx nd i)(hb:l≠[]→st0 b=none):∃s,st2=a7 s b l∧(l≠[]→s b=none)∧dK st0 s S c m qt qc qn p q idx fuel used mx nd i:=by
 cases l with
 | nil=>exact⟨st2,rfl,fun h=>absurd rfl h,h⟩
 | cons x l=>
  have hn:=hb (by simp)
  have h2:st2 b=some (.cells ((x::l).flatMap AV.cells)):=h.a8 b _ (by rw[jP (by simp),aB.aP])
  have hbn:b∉jB S c m qt qc qn:=fun hm=>by
   have:=h.new b hm
   rw[jP (by simp),aB.aP] at this
   cases this
  obtain⟨s',hs'⟩:∃s':aB,∀y,s' y=if y=b then none else st2 y:=⟨_,fun _=>rfl⟩
  have hne:∀a∈jB S c m qt qc qn,s' a=st2 a:=fun a ha=>by rw[hs',aE (by rintro rfl;exact hbn ha)]
  refine⟨s',?_,fun _=>by rw[hs',aH rfl],?_⟩
  · funext y
    by_cases e:y=b
    · subst e;rw[jP (by simp),aB.aP,h2]
    · rw[oY e,hs',aE e]
  · refine⟨by rw[hne S (eA.2 (.inl rfl))];exact h.cell,h.sto.DM (hne c (eA.2 (.inr (.inl rfl)))) (hne m (eA.2 (.inr (.inr (.inl rfl))))) (fun b hb=>hne b (eA.2 (.inr (.inr (.inr (.inl hb)))))),
     h.acC.a8 fun b hb=>hne b (eA.2 (.inr (.inr (.inr (.inr (.inl hb)))))),h.acN.a8 fun b hb=>hne b (eA.2 (.inr (.inr (.inr (.inr (.inr hb)))))),h.ndl,h.ndw,h.dis,fun a ha=>?_,fun a o ha=>?_⟩
    · have:=h.new a ha
      rwa [oY (by rintro rfl;exact hbn ha)] at this
    · have e:a≠b:=by rintro rfl;rw[hn] at ha;cases ha
      rw[hs',aE e]
      exact h.a8 a o (by rw[oY e];exact ha)
theorem KJ{st:aB}{b:Nat}{o:AO}(h:st b=none):fW st (st.aC b o):=fun x p hx=>by
 rw[aB.aL _ _ (by rintro rfl;rw[h] at hx;cases hx)];exact hx
theorem MX{S b:Nat}(hne:S≠b)(X Y:AO):∃s0:aB,s0 S=some X∧s0 b=some Y∧∀st:aB,st S=some X→st b=some Y→fW s0 st:=by
 refine⟨(one S X).aC b Y,by rw[aB.aL _ _ hne];exact wB,aB.aP _ _ _,fun st h1 h2 x p hx=>?_⟩
 by_cases e:x=b
 · subst e;rw[aB.aP] at hx;cases hx;exact h2
 · rw[aB.aL _ _ e] at hx;exact iF h1 x p hx
theorem dK.box{b:Nat}{o:AO}(h:dK st0 st S c m qt qc qn p q idx fuel used mx nd i)(hn:st b=none):dK (st0.aC b o) (st.aC b o) S c m qt qc qn p q idx fuel used mx nd i:=by
 have hne:∀(s:aB) a,a∈jB S c m qt qc qn→(s.aC b o) a=s a:=fun s a ha=>aB.aL _ _ (by rintro rfl;exact h.held a ha hn)
 refine⟨by rw[hne _ S (eA.2 (.inl rfl))];exact h.cell,h.sto.DM (hne _ c (eA.2 (.inr (.inl rfl)))) (hne _ m (eA.2 (.inr (.inr (.inl rfl))))) (fun b hb=>hne _ b (eA.2 (.inr (.inr (.inr (.inl hb)))))),
  h.acC.a8 fun b hb=>hne _ b (eA.2 (.inr (.inr (.inr (.inr (.inl hb)))))),h.acN.a8 fun b hb=>hne _ b (eA.2 (.inr (.inr (.inr (.inr (.inr hb)))))),h.ndl,h.ndw,h.dis,fun a ha=>by rw[hne _ a ha];exact h.new a ha,fun a o' ha=>?_⟩
 by_cases e:a=b
 · subst e
   rw[aB.aP] at ha ⊢
   exact ha
 · rw[aB.aL _ _ e] at ha ⊢
   exact h.a8 a o' ha
theorem dK.unbox{b:Nat}{o:AO}(h:dK (st0.aC b o) st S c m qt qc qn p q idx fuel used mx nd i)(hn:st0 b=none):dK st0 st S c m qt qc qn p q idx fuel used mx nd i:=by
 refine⟨h.cell,h.sto,h.acC,h.acN,h.ndl,h.ndw,h.dis,fun a ha=>?_,fun a o' ha=>?_⟩
 · have:=h.new a ha
   by_cases e:a=b
   · subst e;exact hn
   · rwa [aB.aL _ _ e] at this
 · have e:a≠b:=by rintro rfl;rw[hn] at ha;cases ha
   exact h.a8 a o' (by rw[aB.aL _ _ e];exact ha)
end
end Go.AW
namespace Go.AW
def TV(vars:List Int)(a:List Tm):Prop:=a.length=vars.length∧a.all Tm.valid=true
theorem aP7{N:Nat}{σ:Sub}(hg:cO σ)(ho:cW (bB N) σ){vars:List Int}(hv:∀v∈vars,0≤v∧v<(N:Int)){a:List Tm}(h:iA σ vars=some a):TV vars a:=by
 obtain⟨rk,B,G⟩:=hg.rs
 unfold iA at h
 split at h
 · rename_i hh
   cases h
   obtain⟨h1,h2⟩:=hh
   have hok:∀t∈vars.map (rs σ),bB N t:=fun t ht=>by
    obtain⟨v,hvm,rfl⟩:=cS.1 ht
    have hf:=dW.1 h1 _ ht
    unfold eL at hf
    simp only[cA,bJ] at hf
    exact⟨G.k0 ho.k0 v (hv v hvm).1 (hv v hvm).2,hf.2⟩
   exact⟨by rw[a1Z hok,aF],by rw[aL3 hok h1,bJ];exact h2⟩
 · cases h
theorem a1M{p:List Cl}(hp:∀c∈p,gE c∧c.2.length≤6)(hpl:p.length≤20){cnd:Tm→List Nat→List Nat}(hd:∀t l,(∀i∈cnd t l,i∈l)∧(cnd t l).length≤l.length){vars:List Int}(hv:∀v∈vars,0≤v∧v<26) :
 ∀(n most fuel:Nat) (s:RS) (B:Nat),most+fuel≤n→mG p B s→B+26*fuel≤8000→(jL p cnd vars most fuel s).1.length≤most∧∀a∈(jL p cnd vars most fuel s).1,TV vars a:=by
 intro n
 induction n with
 | zero=>
  intro most fuel s B hn hs hB
  obtain rfl:most=0:=by omega
  obtain rfl:fuel=0:=by omega
  cases hg:s.goals with
  | nil=>rw[A2 hg];simp
  | cons g rest=>rw[wH hg];simp
 | succ n ih=>
  intro most fuel s B hn hs hB
  cases hg:s.goals with
  | nil=>
   rw[A2 hg]
   by_cases hm:most=0
   · rw[aH hm];simp
   rw[aE hm]
   cases ha:iA s.σ vars with
   | none=>simp
   | some a=>
    have hok:=aP7 hs.a.gQ hs.a.ok (fun v h=>⟨(hv v h).1,by have:=(hv v h).2;have:=hs.l.1;omega⟩) ha
    simp only
    cases hb:fU p s.chs.length s.chs with
    | none=>
     simp only[aS,aZ,cX,dN,dV]
     exact⟨by omega,fun x hx=>by rw[hx];exact hok⟩
    | some s'=>
     obtain⟨h1,h2⟩:=ih (most - 1) fuel s' B (by omega) (hs.back hp (by omega) hb) hB
     simp only[aS,cX]
     refine⟨by omega,fun x hx=>?_⟩
     rcases hx with rfl | hx
     · exact hok
     · exact h2 x hx
  | cons g rest=>
   rw[wH hg]
   by_cases hf:fuel=0
   · rw[aH hf];simp
   rw[aE hf]
   cases hst:iJ p cnd s g rest with
   | stop e=>simp
   | go s'=>exact ih most (fuel - 1) s' (B+26) (by omega) (hs.step hp (by omega) (by omega) hd hg hst) (by omega)
   | fail=>
    simp only
    cases hb:fU p s.chs.length s.chs with
    | none=>simp
    | some s'=>exact ih most (fuel - 1) s' B (by omega) (hs.back hp (by omega) hb) (by omega)
theorem a1K{q:List Tm}(hq:∀t∈q,bB 26 t∧t.k=3):(∀v∈bL q [],0≤v∧v<26)∧(bL q []).length≤26:=by
 have hv:∀v∈bL q [],0≤v∧v<26:=fun v hv=>by
  rcases (tC q [] fun t ht=>(hq t ht).1.1.2.1).1 hv with h | ⟨t,ht,h⟩
  · cases h
  · exact(hq t ht).1.1.2.2 v h
 refine⟨hv,?_⟩
 have hnd:=MU q [] (fun t ht=>Tm.sG t (hq t ht).1.1.2.1) oW
 exact DT (N:=26) hnd fun n hn=>hv n hn
theorem aMQ(p:List Cl){cnd:Tm→List Nat→List Nat}(hd:∀t l,(∀i∈cnd t l,i∈l)∧(cnd t l).length≤l.length)(q:List Tm)(most fuel:Int):(iK p cnd q most fuel).1.length≤20∧∀a∈(iK p cnd q most fuel).1,a.length≤26∧a.all Tm.valid=true:=by
 unfold iK
 split
 · rename_i h
   simp only[jM,cA,bJ] at h
   obtain⟨hp,hq,h1,h2,h3,h4⟩:=h
   obtain⟨p1,p2⟩:=HH hp
   obtain⟨q1,q2⟩:=HJ hq
   obtain⟨v1,v2⟩:=a1K q2
   obtain⟨r1,r2⟩:=a1M p2 p1 hd v1 _ most.toNat fuel.toNat (k6 q) 26 (c7 _) (mG.start q2 q1) (by omega)
   unfold uK
   refine⟨by omega,fun a ha=>?_⟩
   obtain⟨h5,h6⟩:=r2 a ha
   exact⟨by omega,h6⟩
 · simp
abbrev ba (l:List UInt8):ByteArray:=⟨⟨l⟩⟩
def dT(x:UInt8):Bool:=decide (48≤x.toNat)&&decide (x.toNat≤57)
def tF(x:UInt8):Bool:=decide (65≤x.toNat)&&decide (x.toNat≤90)
def cT(l:List UInt8)(n c:Nat):Bool:=match l[n]? with | some x=>decide (x.toNat=c) | none=>false
def gC(l:List UInt8)(n:Nat)(p:UInt8→Bool):Bool:=match l[n]? with | some x=>p x | none=>false
def nR(l:List UInt8):Nat:=l.foldl (fun n x=>n*10+(x.toNat - 48)) 0
def iI(l:List UInt8):Nat×Bool:=if l.length=0∨(cT l 0 48=true∧1<l.length) then(0,false) else(nR l,true)
def uJ(l:List UInt8)(a:Nat):Option (Int×Nat):=
 let f:=if cT l a 45 then a+1 else a
 let t:=((l.drop f).takeWhile dT).take 4
 if(iI t).2=false∨(a<f∧(iI t).1=0)∨999<(iI t).1 then none else some (if a<f then -((iI t).1:Int) else((iI t).1:Int),f+t.length)
def j8(l:List UInt8)(b g:ByteArray):ByteArray:=if l.take g.size=sb g∧b.size<g.size then g else b
def oP(l:List UInt8)(a:Nat):Option (ByteArray×Nat):=
 let t:=(l.drop a).takeWhile letter
 if 6<t.length then none else if 0<t.length then some (ba t,a+t.length)
 else let b:=jA.foldl (j8 (l.drop a)) ⟨#[]⟩
  if b.size=0 then none else some (b,a+b.size)
theorem X0{l:List UInt8}{i:Nat}{x:UInt8}(h:l[i]?=some x):nR (l.take (i+1))=nR (l.take i)*10+(x.toNat - 48):=by
 simp [nR,fG,h,List.foldl_append]
theorem XZ:∀(l:List UInt8) (n:Nat),(∀x∈l,dT x=true)→l.foldl (fun n x=>n*10+(x.toNat - 48)) n+1≤(n+1)*10 ^ l.length
 | [],n,_=>by simp
 | x::l,n,h=>by
  have hx:=h x (by simp)
  simp only[dT,cA,bJ] at hx
  have:=XZ l (n*10+(x.toNat - 48)) (fun y hy=>h y (by simp [hy]))
  simp only[yW,aS,Nat.pow_succ]
  refine lA this ?_
  rw[Nat.mul_comm (10 ^ l.length) 10,←Nat.mul_assoc]
  exact rZ _ (by omega)
theorem O6{l:List UInt8}(h:∀x∈l,dT x=true):nR l<10 ^ l.length:=Nat.lt_of_succ_le (by have:=XZ l 0 h;simpa [nR] using this)
theorem a2B(s:ByteArray)(a b:Nat):sb (s.extract a b)=((sb s).drop a).take (b - a):=by
 simp only[sb,ByteArray.data_extract,Array.toList_extract,List.extract_eq_take_drop]
theorem aQV{g:ByteArray}(h:g.size=0):g=⟨#[]⟩:=by
 obtain⟨⟨l⟩⟩:=g
 have:l.length=0:=h
 rw[List.length_eq_zero_iff.1 this]
theorem VO(s:ByteArray):ba (sb s)=s:=rfl
theorem FP(s:ByteArray)(a b:Nat):s.extract a b=ba (((sb s).drop a).take (b - a)):=by rw[←a2B]
theorem oI{l:List UInt8}{n c:Nat}(h:cT l n c=true):n<l.length:=by
 unfold cT at h
 rcases lB n l.length with h1 | h1
 · exact h1
 · rw[wY h1] at h;cases h
theorem aZN{l:List UInt8}{n:Nat}{p:UInt8→Bool}(h:gC l n p=true):n<l.length:=by
 unfold gC at h
 rcases lB n l.length with h1 | h1
 · exact h1
 · rw[wY h1] at h;cases h
theorem sT{l:List UInt8}{n c:Nat}{x:UInt8}(h:l[n]?=some x):cT l n c=decide (x.toNat=c):=by simp only[cT,h]
theorem v7{l:List UInt8}{n:Nat}{p:UInt8→Bool}{x:UInt8}(h:l[n]?=some x):gC l n p=p x:=by simp only[gC,h]
theorem aK9{l:List UInt8}(h:∀x∈l,dT x=true)(hl:l.length≤4):(iI l).1<10000:=by
 unfold iI
 split
 · simp
 · exact tP (O6 h) (lA (NM (by omega) hl) (by decide))
theorem TK{p:UInt8→Bool}{l:List UInt8}{i:Nat}(hi:i≤(l.takeWhile p).length)(h:gC l i p=true):i<(l.takeWhile p).length:=by
 induction l generalizing i with
 | nil=>simp [gC] at h
 | cons x l ih=>
  cases i with
  | zero=>simp [gC] at h;simp [E3,h]
  | succ i=>
   rw[E3] at hi ⊢
   split at hi
   · rename_i hx
     rw[aH hx]
     simp only[aS] at hi ⊢
     have:=ih (i:=i) (by omega) (by simpa [gC] using h)
     omega
   · simp at hi
theorem TJ{p:UInt8→Bool}{l:List UInt8}{i:Nat}(hi:i≤(l.takeWhile p).length)(h:gC l i p=false):i=(l.takeWhile p).length:=by
 induction l generalizing i with
 | nil=>simp at hi;simp [hi]
 | cons x l ih=>
  cases i with
  | zero=>simp [gC] at h;simp [E3,h]
  | succ i=>
   rw[E3] at hi ⊢
   split at hi
   · rename_i hx
     rw[aH hx]
     simp only[aS] at hi ⊢
     have:=ih (i:=i) (by omega) (by simpa [gC] using h)
     omega
   · simp at hi
theorem aOL(p:UInt8→Bool)(l:List UInt8):l.take (l.takeWhile p).length=l.takeWhile p:=by
 induction l with
 | nil=>rfl
 | cons x l ih=>
  rw[E3]
  split
  · simp [ih]
  · rfl
theorem DL(l:List UInt8)(a i:Nat)(p:UInt8→Bool):gC (l.drop a) i p=gC l (a+i) p:=by simp only[gC,NH]
theorem aOJ{p:UInt8→Bool}{l:List UInt8}:∀x∈l.takeWhile p,p x=true:=by
 induction l with
 | nil=>simp
 | cons y l ih=>
  rw[E3]
  split
  · rename_i h;intro x hx;simp only[cX] at hx;rcases hx with rfl | hx;exact h;exact ih x hx
  · simp
theorem aOK{p:UInt8→Bool}{l:List UInt8}{k:Nat}(hk:k≤(l.takeWhile p).length):l.take k=(l.takeWhile p).take k:=by
 rw[←aOL p l,wZ,lP hk]
theorem IJ(p:UInt8→Bool)(l:List UInt8):(l.takeWhile p).length≤l.length:=(List.takeWhile_sublist p).length_le
theorem VQ(L:List UInt8):∀(gs:List ByteArray) (b:ByteArray),b.size≤3→(∀g∈gs,g.size≤3)→(gs.foldl (j8 L) b).size≤3
 | [],b,h,_=>h
 | g::gs,b,h,hg=>by
  rw[yW]
  refine VQ L gs _ ?_ fun x hx=>hg x (by simp [hx])
  unfold j8
  split
  · exact hg g (by simp)
  · exact h
theorem aMJ:∀g∈jA,g.size≤3:=by decide
theorem aQX(L:List UInt8)(i:Nat):((jA.take i).foldl (j8 L) ⟨#[]⟩).size≤3:=VQ L _ _ (by decide) fun g hg=>aMJ g (mC hg)
def iV(nm:ByteArray):Bool:=decide (nm=⟨#[105,115]⟩)||decide (nm=⟨#[109,111,100]⟩)
def qK(l:List UInt8)(a:Nat):Option (ByteArray×Nat):=
 let f:=if cT l a 32 then a+1 else a
 if l.length≤f then none else match oP l f with
 | none=>none
 | some (nm,e)=>if dQ nm=0 then none else if iV nm≠decide (a<f)∨(iV nm=true∧cT l e 32=false) then none else some (nm,if iV nm then e+1 else e)
abbrev lC:=Nat→Option (Tm×Nat)
def rQ(R:lC)(l:List UInt8)(c1 c2:Nat):Nat→Nat→List Tm→Option (List Tm×Nat)
 | 0,_,_=>none
 | n+1,a,acc=>match R a with
  | none=>none
  | some (t,e)=>if(cT l e c1||cT l e c2)=true then some (acc++ [t],e) else if cT l e 44 then rQ R l c1 c2 n (e+1) (acc++ [t]) else none
abbrev oM (nm:ByteArray) (ts:List Tm):Tm:=.mk 3 0 nm ts
def vH:List Tm→Tm→Tm
 | [],t=>t
 | x::xs,t=>oM ⟨#[46]⟩ [x,vH xs t]
def AJ(R:lC)(l:List UInt8)(a:Nat):Option (Tm×Nat):=
 match rQ R l 93 124 (l.length+1) a [] with
 | none=>none
 | some (ts,e)=>if cT l e 93 then some (vH ts (oM ⟨#[91,93]⟩ []),e+1) else match R (e+1) with
  | none=>none
  | some (t,e')=>if cT l e' 93 then some (vH ts t,e'+1) else none
def JQ(l:List UInt8)(a:Nat):Nat:=match l[a]? with | some x=>x.toNat | none=>0
def nB(R:Nat→lC)(l:List UInt8)(d a:Nat):Option (Tm×Nat):=
 if d<1∨l.length≤a then none
 else if cT l a 40 then match R d (a+1) with
  | none=>none
  | some (t,e)=>if cT l e 41 then some (t,e+1) else none
 else if(cT l a 91&& !cT l (a+1) 93)=true then AJ (R (d - 1)) l (a+1)
 else if gC l a tF then some (vr ((JQ l a - 65:Nat):Int),a+1)
 else if(gC l a dT||(cT l a 45&&gC l (a+1) dT))=true then match uJ l a with
  | none=>none
  | some (n,e)=>some (.mk 2 n ⟨#[]⟩ [],e)
 else match oP l a with
  | none=>none
  | some (nm,e)=>if cT l e 40=false then some (oM nm [],e) else match rQ (R (d - 1)) l 41 41 (l.length+1) (e+1) [] with
   | none=>none
   | some (ts,e')=>some (oM nm ts,e'+1)
def DY(R:lC)(l:List UInt8)(lev:Nat):Nat→Tm→Nat→Option (Tm×Nat)
 | 0,_,_=>none
 | n+1,left,e=>match qK l e with
  | none=>some (left,e)
  | some (nm,e1)=>if dQ nm≠lev then some (left,e) else match R e1 with
   | none=>none
   | some (rt,e2)=>if lev=3 then some (oM nm [left,rt],e2) else DY R l lev n (oM nm [left,rt]) e2
def rd(l:List UInt8):Nat→Nat→Nat→Nat→Option (Tm×Nat)
 | 0,_,_,_=>none
 | n+1,d,a,0=>nB (fun d a=>rd l n d a 3) l d a
 | n+1,d,a,lv+1=>match rd l n d a lv with
  | none=>none
  | some (t,e)=>DY (fun a=>rd l n d a lv) l (lv+1) (l.length+1) t e
theorem a2L{l:List UInt8}{a c:Nat}(ha:a≤l.length):a≤(if cT l a c=true then a+1 else a)∧(if cT l a c=true then a+1 else a)≤l.length:=by
 split
 · have:=oI ‹_›;omega
 · omega
theorem a1T{l:List UInt8}{a:Nat}{x:Int}{e:Nat}(ha:a≤l.length)(h:uJ l a=some (x,e)):a<e∧e≤l.length:=by
 unfold uJ at h
 have hf:=a2L (c:=45) ha
 simp only at h
 generalize (if cT l a 45=true then a+1 else a)=f at h hf
 split at h
 · cases h
 rename_i h1
 simp only[Option.some.injEq,Prod.mk.injEq] at h
 obtain⟨_,rfl⟩:=h
 have h2:(((l.drop f).takeWhile dT).take 4).length≠0:=by
  intro h0
  refine h1 (Or.inl ?_)
  unfold iI
  rw[aH (Or.inl h0)]
 have h3:=IJ dT (l.drop f)
 rw[mX] at h3
 have h4:(((l.drop f).takeWhile dT).take 4).length≤((l.drop f).takeWhile dT).length:=by rw[dS];omega
 omega
theorem VR(L:List UInt8):∀(gs:List ByteArray) (b:ByteArray),b.size≤L.length→(gs.foldl (j8 L) b).size≤L.length
 | [],b,h=>h
 | g::gs,b,h=>by
  rw[yW]
  refine VR L gs _ ?_
  unfold j8
  split
  · rename_i h1
    have:=gV List.length h1.1
    rw[dS,cM] at this
    omega
  · exact h
theorem HL{l:List UInt8}{a:Nat}{x:ByteArray}{e:Nat}(ha:a≤l.length)(h:oP l a=some (x,e)):a<e∧e≤l.length:=by
 unfold oP at h
 simp only at h
 have h3:=IJ letter (l.drop a)
 rw[mX] at h3
 split at h
 · cases h
 split at h
 · cases h;omega
 split at h
 · cases h
 · have:=VR (l.drop a) jA ⟨#[]⟩ (jD _)
   rw[mX] at this
   cases h;omega
theorem aLK{l:List UInt8}{a:Nat}{x:ByteArray}{e:Nat}(h:qK l a=some (x,e)):a<e∧e≤l.length∧dQ x≠0:=by
 unfold qK at h
 have h6:a≤(if cT l a 32=true then a+1 else a):=by split<;>omega
 simp only at h
 generalize (if cT l a 32=true then a+1 else a)=f at h h6
 split at h
 · cases h
 rename_i h1
 split at h
 · cases h
 rename_i nm e0 h2
 have h3:=HL (by omega) h2
 split at h
 · cases h
 rename_i h7
 split at h
 · cases h
 rename_i h4
 simp only[Option.some.injEq,Prod.mk.injEq] at h
 obtain⟨rfl,rfl⟩:=h
 split
 · rename_i h5
   have:cT l e0 32=true:=by
    cases hb:cT l e0 32 with
    | true=>rfl
    | false=>exact absurd (Or.inr ⟨h5,hb⟩) h4
   have:=oI this
   exact⟨by omega,by omega,h7⟩
 · exact⟨by omega,by omega,h7⟩
def w7(R:lC)(l:List UInt8):Prop:=∀a t e,a≤l.length→R a=some (t,e)→a<e∧e≤l.length∧Dn t
theorem MQ{R:lC}{l:List UInt8}{c1 c2:Nat}(hR:w7 R l):∀(n a:Nat) (acc:List Tm) (ts:List Tm) (e:Nat),a≤l.length→(∀x∈acc,Dn x)→rQ R l c1 c2 n a acc=some (ts,e)→a<e∧e<l.length∧(∀x∈ts,Dn x)∧ts.length≤acc.length+n∧(cT l e c1=true∨cT l e c2=true):=by
 intro n
 induction n with
 | zero=>intro a acc ts e _ _ h;cases h
 | succ n ih=>
  intro a acc ts e ha oE h
  unfold rQ at h
  split at h
  · cases h
  rename_i t e1 h1
  obtain⟨h2,h3,h4⟩:=hR a t e1 ha h1
  have GP:∀x∈acc++ [t],Dn x:=by intro x hx;rw[fF] at hx;rcases hx with hx | hx;exact oE x hx;rw[I4] at hx;subst hx;exact h4
  split at h
  · rename_i h5
    cases h
    rw[pS] at h5
    refine⟨h2,?_,GP,by rw[dM,NJ];omega,h5⟩
    rcases h5 with h5 | h5<;>exact oI h5
  split at h
  · rename_i h5
    have h6:=oI h5
    obtain⟨g1,g2,g3,g4,g5⟩:=ih (e1+1) _ ts e (by omega) GP h
    rw[dM,NJ] at g4
    exact⟨by omega,g2,g3,by omega,g5⟩
  · cases h
theorem PB{nm:ByteArray}{ts:List Tm}(hl:ts.length≤1048576)(h:∀x∈ts,Dn x):Dn (oM nm ts):=xN (by decide) hl h
theorem PC{nm:ByteArray}{x y:Tm}(hx:Dn x)(hy:Dn y):Dn (oM nm [x,y]):=PB (by simp) (by intro z hz;simp only[cX,dN,dV] at hz;rcases hz with rfl | rfl;exact hx;exact hy)
theorem X4{nm:ByteArray}:Dn (oM nm []):=PB (by simp) (by simp)
theorem O0{t:Tm}(ht:Dn t):∀ts:List Tm,(∀x∈ts,Dn x)→Dn (vH ts t)
 | [],_=>ht
 | x::xs,h=>PC (h x (by simp)) (O0 ht xs fun y hy=>h y (by simp [hy]))
theorem aZO{R:lC}{l:List UInt8}(hR:w7 R l)(hl:l.length≤1000){a:Nat}{t:Tm}{e:Nat}(ha:a≤l.length)(h:AJ R l a=some (t,e)):a<e∧e≤l.length∧Dn t:=by
 unfold AJ at h
 split at h
 · cases h
 rename_i ts e1 h1
 obtain⟨g1,g2,g3,g4,g5⟩:=MQ hR _ _ _ _ _ ha (by simp) h1
 split at h
 · cases h
   exact⟨by omega,by omega,O0 X4 _ g3⟩
 split at h
 · cases h
 rename_i t2 e2 h2
 obtain⟨k1,k2,k3⟩:=hR _ _ _ (by omega) h2
 split at h
 · rename_i h5
   cases h
   have:=oI h5
   exact⟨by omega,by omega,O0 k3 _ g3⟩
 · cases h
theorem a1A{R:Nat→lC}{l:List UInt8}(hR:∀d,w7 (R d) l)(hl:l.length≤1000){d a:Nat}{t:Tm}{e:Nat}(h:nB R l d a=some (t,e)):a<e∧e≤l.length∧Dn t:=by
 unfold nB at h
 split at h
 · cases h
 rename_i h0
 have ha:a<l.length:=by omega
 split at h
 · split at h
   · cases h
   rename_i t1 e1 h1
   obtain⟨k1,k2,k3⟩:=hR _ _ _ _ (by omega) h1
   split at h
   · rename_i h5
     cases h
     have:=oI h5
     exact⟨by omega,by omega,k3⟩
   · cases h
 split at h
 · obtain⟨k1,k2,k3⟩:=aZO (hR _) hl (by omega) h
   exact⟨by omega,k2,k3⟩
 split at h
 · cases h
   exact⟨by omega,by omega,PD _⟩
 split at h
 · split at h
   · cases h
   rename_i n e1 h1
   cases h
   have:=a1T (by omega) h1
   exact⟨this.1,this.2,xN (by decide) (by simp) (by simp)⟩
 split at h
 · cases h
 rename_i nm e1 h1
 have g:=HL (by omega) h1
 split at h
 · cases h
   exact⟨g.1,g.2,X4⟩
 split at h
 · cases h
 rename_i h6 _ ts e2 h2
 have h7:cT l e1 40=true:=by simpa using h6
 have h8:=oI h7
 obtain⟨k1,k2,k3,k4,k5⟩:=MQ (hR _) _ _ _ _ _ (by omega) (by simp) h2
 cases h
 refine⟨by omega,by omega,PB ?_ k3⟩
 rw[aZ] at k4
 omega
theorem a0X{R:lC}{l:List UInt8}(hR:w7 R l)(lev:Nat):∀(n:Nat) (t0:Tm) (e0:Nat) (t:Tm) (e:Nat),e0≤l.length→Dn t0→DY R l lev n t0 e0=some (t,e)→e0≤e∧e≤l.length∧Dn t:=by
 intro n
 induction n with
 | zero=>intro t0 e0 t e _ _ h;cases h
 | succ n ih=>
  intro t0 e0 t e h0 ht h
  unfold DY at h
  split at h
  · cases h;exact⟨by omega,h0,ht⟩
  rename_i nm e1 h1
  have g:=aLK h1
  split at h
  · cases h;exact⟨by omega,h0,ht⟩
  split at h
  · cases h
  rename_i rt e2 h2
  obtain⟨k1,k2,k3⟩:=hR _ _ _ g.2.1 h2
  split at h
  · cases h;exact⟨by omega,k2,PC ht k3⟩
  · obtain⟨q1,q2,q3⟩:=ih _ _ _ _ k2 (PC ht k3) h
    exact⟨by omega,q2,q3⟩
theorem A3{l:List UInt8}(hl:l.length≤1000):∀(n d lv:Nat),w7 (fun a=>rd l n d a lv) l:=by
 intro n
 induction n with
 | zero=>intro d lv a t e _ h;cases h
 | succ n ih=>
  intro d lv a t e ha h
  cases lv with
  | zero=>
   simp only[rd] at h
   exact a1A (fun d=>ih d 3) hl h
  | succ lv=>
   simp only[rd] at h
   split at h
   · cases h
   rename_i t1 e1 h1
   obtain⟨k1,k2,k3⟩:=ih d lv a t1 e1 ha h1
   obtain⟨q1,q2,q3⟩:=a0X (ih d lv) _ _ _ _ _ _ k2 k3 h
   exact⟨by omega,q2,q3⟩
end Go.AW
