import Derived.Test.YtieofkhcboolkaaGreatDoorVao
import Derived.Test.YtieofkhcboolkaaGreatDoorVam
import Derived.Test.YtieofkhcboolkaaGreatDoorVal
import Derived.Test.YtieofkhcboolkaaGreatDoorVak
import Derived.Shelf.LaysM
import Derived.Shelf.Strconv.Itoa3
import Derived.Test.YtieofkhcboolkaaGreatDoorVan
set_option linter.unusedSimpArgs false
set_option linter.unusedVariables false
set_option maxRecDepth 100000
namespace Go.AW
open Go.Proofs.Tryz
def sT:IC→AV
 | ⟨.mk k n s ts,node,rest,list,eY,taken⟩=>.agg [.int .i64 k,.int .i64 n,.str s,.slice (ts.map Tm.av),.int .i64 (node:Int),eK rest,.slice (list.map nv),.int .i64 (eY:Int),.int .i64 (taken:Int)]
theorem aND(k n:Int)(s:ByteArray)(ts:List Tm)(node:Nat)(rest:List IG)(list:List Nat)(eY taken:Nat):sT ⟨.mk k n s ts,node,rest,list,eY,taken⟩=.agg [.int .i64 k,.int .i64 n,.str s,.slice (ts.map Tm.av),.int .i64 (node:Int),eK rest,.slice (list.map nv),.int .i64 (eY:Int),.int .i64 (taken:Int)]:=rfl
theorem a6E(c:IC):(sT c).width=9:=by obtain⟨⟨k,n,s,ts⟩,_,_,_,_,_⟩:=c;rfl
theorem TN(l:List IC):∀e∈l.map sT,e.width=9:=by intro e he;simp only[cB] at he;obtain⟨t,_,rfl⟩:=he;exact a6E t
theorem a6D(c:IC):(sT c).cells.all AV.storable=true:=by
 obtain⟨⟨k,n,s,ts⟩,_,rest,_,_,_⟩:=c
 rw[aND]
 have:=(p7 rest).2.2.2.2.1
 rw[dW]
 intro e he
 simp only[AV.cells,cY,dK,dQ] at he
 rcases he with rfl | rfl | rfl | rfl | rfl | rfl | rfl | rfl | rfl<;>first | rfl | exact this
def iC(c:Nat)(p:List Cl)(q:List Tm)(idx:Bool)(fuel used fresh:Int)(gl qc qn:AV)(mx:Int):List AV:=
 [.ptr c 0,.slice (p.map bY),.slice (q.map Tm.av),.bool idx,.bool false,.int .i64 fuel,.int .i64 used,.int .i64 fresh,gl,qc,qn,.int .i64 mx]
def jL(S c m:Nat)(qt qc qn:AV):List Nat:=[S,c,m]++dM qt++aR qc++aR qn
theorem bAX(q:AV):dM q=aR q:=by cases q<;>rfl
theorem FI(q:AV):(aR q).Nodup:=by cases q<;>simp [aR]
structure dI (st0 st:aB) (S c m:Nat) (qt qc qn:AV) (p:List Cl) (q:List Tm) (idx:Bool) (fuel used mx:Int) (nd:List AV) (i:IS):Prop where
 cell:st S=some (.cells (iC c p q idx fuel used i.fresh (eK i.goals) qc qn mx))
 sto:gE st c m qt i.σ i.tr
 acC:fW st 9 qc (i.chs.map sT)
 acN:fW st 6 qn nd
 ndl:nd.length=i.nn
 ndw:∀e∈nd,e.width=6
 dis:(jL S c m qt qc qn).Nodup
 new:∀b∈jL S c m qt qc qn,st0 b=none
 aV:∀b o,st0 b=some o→st b=some o
theorem d8{b S c m:Nat}{qt qc qn:AV}:b∈jL S c m qt qc qn↔b=S∨b=c∨b=m∨b∈dM qt∨b∈aR qc∨b∈aR qn:=by
 simp only[jL,eH,cY,dK,dQ,or_assoc]
section
variable {st0 st:aB} {S c m:Nat} {qt qc qn:AV} {p:List Cl} {q:List Tm} {idx:Bool} {fuel used mx:Int} {nd:List AV} {i:IS}
theorem dI.held(h:dI st0 st S c m qt qc qn p q idx fuel used mx nd i):∀b∈jL S c m qt qc qn,st b≠none:=fun b hb=>by
 rcases d8.1 hb with rfl | rfl | rfl | hb | hb | hb
 · rw[h.cell];simp
 · rw[h.sto.sub.cells];simp
 · rw[h.sto.sub.map];simp
 · obtain⟨cs,e⟩:=h.sto.JN b hb;rw[e];simp
 · obtain⟨cs,e⟩:=h.acC.some b hb;rw[e];simp
 · obtain⟨cs,e⟩:=h.acN.some b hb;rw[e];simp
theorem dI.t6(h:dI st0 st S c m qt qc qn p q idx fuel used mx nd i):aL st st0:=fun b=>by
 refine⟨fun e=>?_,h.aV b⟩
 cases hb:st0 b with
 | none=>rfl
 | some o=>rw[h.aV b o hb] at e;cases e
theorem dI.aLU(h:dI st0 st S c m qt qc qn p q idx fuel used mx nd i){b:Nat}(hb:st b=none):st0 b=none:=(h.t6 b).1 hb
theorem dI.parts(h:dI st0 st S c m qt qc qn p q idx fuel used mx nd i):S≠c∧S≠m∧c≠m∧S∉dM qt∧S∉aR qc∧S∉aR qn∧c∉dM qt∧c∉aR qc∧c∉aR qn∧m∉dM qt∧m∉aR qc∧m∉aR qn∧(∀b∈dM qt,b∉aR qc∧b∉aR qn)∧∀b∈aR qc,b∉aR qn:=by
 have hd:=h.dis
 simp only[jL,pS,GT,cY,dK,dQ,not_or,eH] at hd
 obtain⟨⟨⟨⟨⟨h1,h2⟩,h3,_⟩,h4,h5⟩,h6,h7⟩,h8,h9⟩:=hd
 refine⟨h1,h2,h3,fun hb=>h5 _ (.inl rfl) _ hb rfl,fun hb=>h7 _ (.inl (.inl rfl)) _ hb rfl,fun hb=>h9 _ (.inl (.inl (.inl rfl))) _ hb rfl,
  fun hb=>h5 _ (.inr (.inl rfl)) _ hb rfl,fun hb=>h7 _ (.inl (.inr (.inl rfl))) _ hb rfl,fun hb=>h9 _ (.inl (.inl (.inr (.inl rfl)))) _ hb rfl,
  fun hb=>h5 _ (.inr (.inr rfl)) _ hb rfl,fun hb=>h7 _ (.inl (.inr (.inr rfl))) _ hb rfl,fun hb=>h9 _ (.inl (.inl (.inr (.inr rfl)))) _ hb rfl,
  fun b hb=>⟨fun h'=>h7 b (.inr hb) b h' rfl,fun h'=>h9 b (.inl (.inr hb)) b h' rfl⟩,fun b hb h'=>h9 b (.inr hb) b h' rfl⟩
theorem T7{X A A' Y:List Nat}(h:(X++A++Y).Nodup)(hA:A'.Nodup)(hn:∀b∈A',b∈A∨b∉X++A++Y):(X++A'++Y).Nodup:=by
 simp only[pS,eH] at h ⊢
 obtain⟨⟨hX,hA0,hXA⟩,hY,hXY⟩:=h
 refine⟨⟨hX,hA,fun a ha b hb e=>?_⟩,hY,fun a ha b hb e=>?_⟩
 · subst e
   rcases hn a hb with h | h
   · exact hXA a ha a h rfl
   · simp only[eH,not_or] at h;exact h.1.1 ha
 · subst e
   rcases ha with ha | ha
   · exact hXY a (.inl ha) a hb rfl
   · rcases hn a ha with h | h
     · exact hXY a (.inr h) a hb rfl
     · simp only[eH,not_or] at h;exact h.2 hb
theorem dI.go{st':aB}{qt' qc' qn':AV}{fuel' used' mx':Int}{nd':List AV}{i':IS}(h:dI st0 st S c m qt qc qn p q idx fuel used mx nd i)
 (cell:st' S=some (.cells (iC c p q idx fuel' used' i'.fresh (eK i'.goals) qc' qn' mx'))) (sto:gE st' c m qt' i'.σ i'.tr) (acC:fW st' 9 qc' (i'.chs.map sT)) (acN:fW st' 6 qn' nd') (ndl:nd'.length=i'.nn) (ndw:∀e∈nd',e.width=6)
 (dis:(jL S c m qt' qc' qn').Nodup) (new:∀b∈jL S c m qt' qc' qn',b∈jL S c m qt qc qn∨st b=none) (frame:∀b o,st b=some o→b∉jL S c m qt qc qn→st' b=some o) :
 dI st0 st' S c m qt' qc' qn' p q idx fuel' used' mx' nd' i':=
 ⟨cell,sto,acC,acN,ndl,ndw,dis,fun b hb=>by
  rcases new b hb with h1 | h1
  · exact h.new b h1
  · exact h.aLU h1,fun b o hb=>frame b o (h.aV b o hb) fun hm=>by rw[h.new b hm] at hb;cases hb⟩
theorem dI.put{fuel' used' mx':Int}{gl:List IG}{F:Nat}{cs:List AV}(h:dI st0 st S c m qt qc qn p q idx fuel used mx nd i)(hcs:cs=iC c p q idx fuel' used' F (eK gl) qc qn mx') :
 dI st0 (st.aC S (.cells cs)) S c m qt qc qn p q idx fuel' used' mx' nd { i with goals:=gl,fresh:=F }:=by
 obtain⟨h1,h2,h3,h4,h5,h6,_⟩:=h.parts
 subst hcs
 refine h.go (aB.aJ _ _ _) (h.sto.aC h1 h2 h4) (h.acC.aV fun b hb=>aB.aH _ _ (by rintro rfl;exact h5 hb)) (h.acN.aV fun b hb=>aB.aH _ _ (by rintro rfl;exact h6 hb)) h.ndl h.ndw h.dis (fun b hb=>.inl hb) fun b o hb hn=>?_
 rw[aB.aH _ _ (by rintro rfl;exact hn (d8.2 (.inl rfl)))]
 exact hb
theorem dI.KC{st':aB}{qt':AV}{σ':Sub}{tr':List Int}(h:dI st0 st S c m qt qc qn p q idx fuel used mx nd i)(hS:gE st' c m qt' σ' tr')(hf:∀b o,st b=some o→b≠c→b≠m→b∉dM qt→st' b=some o)(hn:∀b∈dM qt',b∈dM qt∨st b=none) :
 dI st0 st' S c m qt' qc qn p q idx fuel used mx nd { i with σ:=σ',tr:=tr' }:=by
 obtain⟨h1,h2,h3,h4,h5,h6,h7,h8,h9,h10,h11,h12,h13,h14⟩:=h.parts
 have hC:∀b∈aR qc,st' b=st b:=fun b hb=>by
  obtain⟨cs,e⟩:=h.acC.some b hb
  rw[e,hf b _ e (by rintro rfl;exact h8 hb) (by rintro rfl;exact h11 hb) (fun hb'=>(h13 b hb').1 hb)]
 have hN:∀b∈aR qn,st' b=st b:=fun b hb=>by
  obtain⟨cs,e⟩:=h.acN.some b hb
  rw[e,hf b _ e (by rintro rfl;exact h9 hb) (by rintro rfl;exact h12 hb) (fun hb'=>(h13 b hb').2 hb)]
 refine h.go (hf S _ h.cell h1 h2 h4) hS (h.acC.aV hC) (h.acN.aV hN) h.ndl h.ndw ?_ (fun b hb=>?_) (fun b o hb hn'=>?_)
 · have hd:=h.dis
   unfold jL at hd ⊢
   rw[lL] at hd ⊢
   refine T7 hd (by rw[bAX];exact FI _) fun b hb=>?_
   rcases hn b hb with h' | h'
   · exact .inl h'
   · refine .inr fun hm=>h.held b ?_ h'
     unfold jL;rw[lL];exact hm
 · rcases d8.1 hb with rfl | rfl | rfl | hb | hb | hb
   · exact .inl (d8.2 (.inl rfl))
   · exact .inl (d8.2 (.inr (.inl rfl)))
   · exact .inl (d8.2 (.inr (.inr (.inl rfl))))
   · rcases hn b hb with h' | h'
     · exact .inl (d8.2 (.inr (.inr (.inr (.inl h')))))
     · exact .inr h'
   · exact .inl (d8.2 (.inr (.inr (.inr (.inr (.inl hb))))))
   · exact .inl (d8.2 (.inr (.inr (.inr (.inr (.inr hb))))))
 · have:=fun x=>hn' (d8.2 x)
   exact hf b o hb (by rintro rfl;exact this (.inr (.inl rfl))) (by rintro rfl;exact this (.inr (.inr (.inl rfl)))) fun hb'=>this (.inr (.inr (.inr (.inl hb'))))
theorem dI.post{st':aB}{σ':Sub}{tr':List Int}(h:dI st0 st S c m qt qc qn p q idx fuel used mx nd i)(hP:wS c m st qt σ' tr' st'):∃qt',dI st0 st' S c m qt' qc qn p q idx fuel used mx nd { i with σ:=σ',tr:=tr' }:=by
 obtain⟨q',hS,hQ⟩:=hP
 exact⟨q',h.KC hS (fun b o hb h1 h2 h3=>hQ.frame b o hb h1 h2 h3) hQ.fresh⟩
end
theorem gE.E5{st st':aB}{c m:Nat}{q:AV}{σ:Sub}{tr:List Int}(h:gE st c m q σ tr)(hc:st' c=st c)(hm:st' m=st m)(ht:∀b∈dM q,st' b=st b):gE st' c m q σ tr:=by
 refine⟨⟨by rw[hc];exact h.sub.cells,by rw[hm];exact h.sub.map⟩,?_,h.apart⟩
 rcases h.eY with h1 | ⟨b,cs,h1,h2,h3⟩
 · exact .inl h1
 · exact .inr ⟨b,cs,h1,by rw[ht b (by rw[h1];simp [dM])];exact h2,h3⟩
section
variable {st0 st:aB} {S c m:Nat} {qt qc qn:AV} {p:List Cl} {q:List Tm} {idx:Bool} {fuel used mx:Int} {nd:List AV} {i:IS}
theorem dI.a8X{st':aB}{qc':AV}{aA0:List IC}{cs:List AV}(h:dI st0 st S c m qt qc qn p q idx fuel used mx nd i)(f9:fW st' 9 qc' (aA0.map sT))(hf:∀y,y∉aR qc→y∉aR qc'→st' y=st y)(hn:∀y∈aR qc',y∈aR qc∨st y=none)
 (hcs:cs=iC c p q idx fuel used i.fresh (eK i.goals) qc' qn mx):dI st0 (st'.aC S (.cells cs)) S c m qt qc' qn p q idx fuel used mx nd { i with chs:=aA0 }:=by
 obtain⟨h1,h2,h3,h4,h5,h6,h7,h8,h9,h10,h11,h12,h13,h14⟩:=h.parts
 have same:∀b,st b≠none→b∉aR qc→st' b=st b:=fun b hb hq=>hf b hq fun hq'=>by
  rcases hn b hq' with h' | h'
  · exact hq h'
  · exact hb h'
 have hS:S∉aR qc':=fun hb=>by
  rcases hn S hb with h' | h'
  · exact h5 h'
  · rw[h.cell] at h';cases h'
 subst hcs
 have held:=fun b x=>h.held b (d8.2 x)
 refine h.go (aB.aJ _ _ _) (h.sto.E5 ?_ ?_ fun b hb=>?_) (f9.aV fun b hb=>aB.aH _ _ (by rintro rfl;exact hS hb)) (h.acN.aV fun b hb=>?_) h.ndl h.ndw ?_ (fun b hb=>?_) fun b o hb hn'=>?_
 · rw[aB.aH _ _ (c9 h1)];exact same c (held c (.inr (.inl rfl))) h8
 · rw[aB.aH _ _ (c9 h2)];exact same m (held m (.inr (.inr (.inl rfl)))) h11
 · rw[aB.aH _ _ (by rintro rfl;exact h4 hb)];exact same b (held b (.inr (.inr (.inr (.inl hb))))) (h13 b hb).1
 · rw[aB.aH _ _ (by rintro rfl;exact h6 hb)];exact same b (held b (.inr (.inr (.inr (.inr (.inr hb)))))) fun h'=>h14 b h' hb
 · have hd:=h.dis
   unfold jL at hd ⊢
   refine T7 hd (FI _) fun b hb=>?_
   rcases hn b hb with h' | h'
   · exact .inl h'
   · refine .inr fun hm=>h.held b ?_ h'
     unfold jL;exact hm
 · rcases d8.1 hb with rfl | rfl | rfl | hb | hb | hb
   · exact .inl (d8.2 (.inl rfl))
   · exact .inl (d8.2 (.inr (.inl rfl)))
   · exact .inl (d8.2 (.inr (.inr (.inl rfl))))
   · exact .inl (d8.2 (.inr (.inr (.inr (.inl hb)))))
   · rcases hn b hb with h' | h'
     · exact .inl (d8.2 (.inr (.inr (.inr (.inr (.inl h'))))))
     · exact .inr h'
   · exact .inl (d8.2 (.inr (.inr (.inr (.inr (.inr hb))))))
 · have hno:=fun x=>hn' (d8.2 x)
   rw[aB.aH _ _ (by rintro rfl;exact hno (.inl rfl)),same b (by rw[hb];simp) fun h'=>hno (.inr (.inr (.inr (.inr (.inl h')))))]
   exact hb
theorem dI.a8Y{st':aB}{qn':AV}{nd':List AV}{n':Nat}{cs:List AV}(h:dI st0 st S c m qt qc qn p q idx fuel used mx nd i)(f9:fW st' 6 qn' nd')(hl:nd'.length=n')(hw:∀e∈nd',e.width=6)(hf:∀y,y∉aR qn→y∉aR qn'→st' y=st y)(hn:∀y∈aR qn',y∈aR qn∨st y=none)
 (hcs:cs=iC c p q idx fuel used i.fresh (eK i.goals) qc qn' mx):dI st0 (st'.aC S (.cells cs)) S c m qt qc qn' p q idx fuel used mx nd' { i with nn:=n' }:=by
 obtain⟨h1,h2,h3,h4,h5,h6,h7,h8,h9,h10,h11,h12,h13,h14⟩:=h.parts
 have same:∀b,st b≠none→b∉aR qn→st' b=st b:=fun b hb hq=>hf b hq fun hq'=>by
  rcases hn b hq' with h' | h'
  · exact hq h'
  · exact hb h'
 have hS:S∉aR qn':=fun hb=>by
  rcases hn S hb with h' | h'
  · exact h6 h'
  · rw[h.cell] at h';cases h'
 subst hcs
 have held:=fun b x=>h.held b (d8.2 x)
 refine h.go (aB.aJ _ _ _) (h.sto.E5 ?_ ?_ fun b hb=>?_) (h.acC.aV fun b hb=>?_) (f9.aV fun b hb=>aB.aH _ _ (by rintro rfl;exact hS hb)) hl hw ?_ (fun b hb=>?_) fun b o hb hn'=>?_
 · rw[aB.aH _ _ (c9 h1)];exact same c (held c (.inr (.inl rfl))) h9
 · rw[aB.aH _ _ (c9 h2)];exact same m (held m (.inr (.inr (.inl rfl)))) h12
 · rw[aB.aH _ _ (by rintro rfl;exact h4 hb)];exact same b (held b (.inr (.inr (.inr (.inl hb))))) (h13 b hb).2
 · rw[aB.aH _ _ (by rintro rfl;exact h5 hb)];exact same b (held b (.inr (.inr (.inr (.inr (.inl hb)))))) (h14 b hb)
 · have hd:=h.dis
   unfold jL at hd ⊢
   have:=T7 (X:=[S,c,m]++dM qt++aR qc) (A:=aR qn) (A':=aR qn') (Y:=[]) (by rw[gM];exact hd) (FI _) fun b hb=>by
    rcases hn b hb with h' | h'
    · exact .inl h'
    · refine .inr fun hm=>h.held b ?_ h'
      rw[gM] at hm
      unfold jL;exact hm
   rwa [gM] at this
 · rcases d8.1 hb with rfl | rfl | rfl | hb | hb | hb
   · exact .inl (d8.2 (.inl rfl))
   · exact .inl (d8.2 (.inr (.inl rfl)))
   · exact .inl (d8.2 (.inr (.inr (.inl rfl))))
   · exact .inl (d8.2 (.inr (.inr (.inr (.inl hb)))))
   · exact .inl (d8.2 (.inr (.inr (.inr (.inr (.inl hb))))))
   · rcases hn b hb with h' | h'
     · exact .inl (d8.2 (.inr (.inr (.inr (.inr (.inr h'))))))
     · exact .inr h'
 · have hno:=fun x=>hn' (d8.2 x)
   rw[aB.aH _ _ (by rintro rfl;exact hno (.inl rfl)),same b (by rw[hb];simp) fun h'=>hno (.inr (.inr (.inr (.inr (.inr h')))))]
   exact hb
theorem dI.nodes{k:Nat}(h:dI st0 st S c m qt qc qn p q idx fuel used mx nd i)(hk:k<i.nn):∃b,qn=.mslice b 0 nd.length 6:=by
 have hl:=h.ndl
 rcases h.acN with ⟨_,e⟩ | ⟨b,cs,e,_⟩
 · subst e;simp at hl;omega
 · exact⟨b,e⟩
theorem dI.nodeAt{b n:Nat}(h:dI st0 st S c m qt qc (.mslice b 0 n 6) p q idx fuel used mx nd i):∃cs,st b=some (.cells cs)∧nd.length*6≤cs.length:=by
 rcases h.acN with ⟨e,_⟩ | ⟨b',cs,e,h2,_,h4⟩
 · cases e
 · cases e;exact⟨cs,h2,h4⟩
theorem aPL:∀(n:Nat) (cs:List AV),cs.length=n*6→∃nd:List AV,nd.length=n∧(∀e∈nd,e.width=6)∧nd.flatMap AV.cells=cs
 | 0,cs,h=>⟨[],rfl,by simp,by have:cs= []:=o0 (by simpa using h);subst this;rfl⟩
 | n+1,cs,h=>by
  obtain⟨nd,h1,h2,h3⟩:=aPL n (cs.drop 6) (by rw[mB,h];omega)
  refine⟨.agg (cs.take 6)::nd,by simp [h1],fun e he=>?_,?_⟩
  · rcases cY.1 he with rfl | he
    · show(cs.take 6).length=6
      rw[c7,h];omega
    · exact h2 e he
  · rw[qT,h3]
    exact pT 6 cs
theorem dI.aPF{b k:Nat}{cs:List AV}{x:AV}(h:dI st0 st S c m qt qc qn p q idx fuel used mx nd i)(hq:qn=.mslice b 0 nd.length 6)(hb:st b=some (.cells cs))(hk:k<nd.length*6) :
 ∃nd',dI st0 (st.aC b (.cells (aK cs k [x]))) S c m qt qc qn p q idx fuel used mx nd' i:=by
 obtain⟨h1,h2,h3,h4,h5,h6,h7,h8,h9,h10,h11,h12,h13,h14⟩:=h.parts
 have hbq:b∈aR qn:=by rw[hq];simp [aR]
 have hne:∀a,a∉aR qn→st.aC b (.cells (aK cs k [x])) a=st a:=fun a ha=>aB.aH _ _ (by rintro rfl;exact ha hbq)
 have hcl:nd.length*6≤cs.length:=by
  rcases h.acN with ⟨e,_⟩ | ⟨b',cs',e1,e2,e3,e4⟩
  · rw[hq] at e;cases e
  · rw[hq] at e1
    cases e1
    rw[hb] at e2;cases e2
    exact e4
 have hlen:(aK cs k [x]).length=cs.length:=by
  simp only[aK,dN,c7,mB,aU,aZ]
  omega
 obtain⟨nd',n1,n2,n3⟩:=aPL nd.length ((aK cs k [x]).take (nd.length*6)) (by rw[c7,hlen];omega)
 refine⟨nd',h.go (by rw[hne S h6];exact h.cell) (h.sto.E5 (hne c h9) (hne m h12) fun b hb=>hne b (h13 b hb).2) (h.acC.aV fun b hb=>hne b (h14 b hb)) (.inr ⟨b,_,by rw[hq,n1],aB.aJ _ _ _,by rw[n1,n3],by rw[n1,hlen];exact hcl⟩) (by rw[n1];exact h.ndl) n2 h.dis (fun b hb=>.inl hb) fun a o ha hn=>?_⟩
 rw[hne a fun h'=>hn (d8.2 (.inr (.inr (.inr (.inr (.inr h'))))))]
 exact ha
end
theorem aPM{φ:AF}{t:TypeId}{ag:Bool}{w d k:Nat}{st:aB}{qc:AV}{l:List AV}(hI:eI prog t=some (ag,w))(hA:fW st w qc l)(h:φ d=.int .i64 (k:Int))(hk:k≤l.length):eV prog φ t qc none (some (.tmp d)) none=some (zE k qc):=by
 rcases hA with ⟨rfl,rfl⟩ | ⟨b,cs,rfl,_⟩
 · have h0:k=0:=by simpa using hk
   subst h0
   exact aPN hI h
 · exact VD hI h hk
section
variable {st0 st:aB} {S c m:Nat} {qt qc qn:AV} {p:List Cl} {q:List Tm} {idx:Bool} {fuel used mx:Int} {nd:List AV} {i:IS}
theorem dI.aA5{k:Nat}{cs:List AV}{gl:List IG}(h:dI st0 st S c m qt qc qn p q idx fuel used mx nd i)(hk:k≤i.chs.length)(hcs:cs=iC c p q idx fuel used i.fresh (eK gl) (zE k qc) qn mx) :
 dI st0 (st.aC S (.cells cs)) S c m qt (zE k qc) qn p q idx fuel used mx nd { i with goals:=gl,chs:=i.chs.take k }:=by
 obtain⟨h1,h2,h3,h4,h5,h6,_⟩:=h.parts
 subst hcs
 have hA:=h.acC.take (k:=k) (by rw[aF];exact hk) (TN _)
 rw[←GS] at hA
 refine h.go (aB.aJ _ _ _) (h.sto.aC h1 h2 h4) (hA.aV fun b hb=>aB.aH _ _ (by rw[FH] at hb;rintro rfl;exact h5 hb)) (h.acN.aV fun b hb=>aB.aH _ _ (by rintro rfl;exact h6 hb)) h.ndl h.ndw (by unfold jL;rw[FH];exact h.dis) (fun b hb=>.inl (by unfold jL at hb;rw[FH] at hb;exact hb)) fun b o hb hn=>?_
 rw[aB.aH _ _ (by rintro rfl;exact hn (d8.2 (.inl rfl)))]
 exact hb
theorem dI.aZP{k:Nat}{cs:List AV}(h:dI st0 st S c m qt qc qn p q idx fuel used mx nd i)(hk:k≤i.nn)(hcs:cs=iC c p q idx fuel used i.fresh (eK i.goals) qc (zE k qn) mx) :
 dI st0 (st.aC S (.cells cs)) S c m qt qc (zE k qn) p q idx fuel used mx (nd.take k) { i with nn:=k }:=by
 obtain⟨h1,h2,h3,h4,h5,h6,_⟩:=h.parts
 subst hcs
 have hnl:=h.ndl
 have hA:=h.acN.take (k:=k) (by rw[hnl];exact hk) h.ndw
 refine h.go (aB.aJ _ _ _) (h.sto.aC h1 h2 h4) (h.acC.aV fun b hb=>aB.aH _ _ (by rintro rfl;exact h5 hb)) (hA.aV fun b hb=>aB.aH _ _ (by rw[FH] at hb;rintro rfl;exact h6 hb)) (by rw[c7,hnl];simp only;omega) (fun e he=>h.ndw e (mC he)) (by unfold jL;rw[FH];exact h.dis) (fun b hb=>.inl (by unfold jL at hb;rw[FH] at hb;exact hb)) fun b o hb hn=>?_
 rw[aB.aH _ _ (by rintro rfl;exact hn (d8.2 (.inl rfl)))]
 exact hb
end
def nK(c m:Nat)(st:aB)(q:AV)(tr:List Int)(x:Int×Sub×List Int)(r:AV)(st':aB):Prop:=r=.int .i64 x.1∧wS c m st q x.2.1 (tr++x.2.2) st'
theorem nK.same{c m:Nat}{st:aB}{q:AV}{σ:Sub}{tr:List Int}(h:gE st c m q σ tr){r:AV}(k:Int)(hr:r=.int .i64 k):nK c m st q tr (k,σ,[]) r st:=⟨hr,q,by rw[gM];exact h,mX.refl _ _ _ _⟩
theorem gE.aRX{P:Program}{t e:TypeId}{st:aB}{c m:Nat}{q:AV}{σ:Sub}{tr:List Int}(h:gE st c m q σ tr)(hu:P.underlying t=some (.slice e)):lP P t q=some (.int .i64 (tr.length:Int)):=by
 rcases h.eY with ⟨rfl,rfl⟩ | ⟨b,cs,rfl,_⟩<;>simp only[lP,hu,aZ]
theorem HO{N:Nat}{σ:Sub}(hg:cQ σ)(ho:cX (bG N) σ)(a b:Tm)(ha:bG N a)(hb:bG N b)(c m:Nat)(q:AV)(tr:List Int)(st:aB)(hS:gE st c m q σ tr)(hl:tr.length+N≤1099511627776) :
 aD prog 340 [.ptr c 0,a.av,b.av] st (fun r st'=>r=.bool (jN σ a b).1∧wS c m st q (jN σ a b).2.1 (tr++(jN σ a b).2.2) st'):=by
 obtain⟨r,σ',tr',hU⟩:=uZ hg ho ha hb
 obtain⟨g,hH⟩:=hU.run
 have hlen:=FA hU.oD.nodup hU.gB
 rw[hU.eq]
 exact aAT g σ a b r σ' tr' hg (ho.imp fun t ht=>ht.1.small) ha.1.small hb.1.small hH c m q tr st hS (by omega)
abbrev lX:=zi aW (zi cF (zi cW (zi fJ (zi cA (zi bR (zi pQ GD))))))
theorem aVW{N:Nat}{σ:Sub}(hg:cQ σ)(ho:cX (bG N) σ)(n:Int)(s:ByteArray)(ks:List Tm)(hb:isBuiltin s (ks.length:Int)=true)(hv:∀x∈ks,bG N x)(c m:Nat)(q:AV)(tr:List Int)(st:aB)(hS:gE st c m q σ tr)(hl:tr.length+N≤1099511627776) :
 aD prog 306 [.ptr c 0,(Tm.mk 3 n s ks).av] st (nK c m st q tr (dE σ s ks)):=by
 have SY:=aV3 3 n s ks
 have hcs:=Y4 hb
 have EP:=fun x y (hxy:ks= [x,y]) h=>aV2 n s x y h (hv x (by simp [hxy])).1 (hv y (by simp [hxy])).1
 simp only[aX] at SY EP ⊢
 refine wF [1000000] 2 func306 ntmps306 rfl rfl ?_
 intro _
 simp only[aA,seval,lX]
 refine(SY _).to ?_
 simp only[aA,seval]
 refine aP (fun h=>?_) (fun h=>?_)
 · have h':ks.length=2∧gB sL s=true:=by simp at h;exact⟨by omega,h.2⟩
   obtain⟨x,y,rfl⟩:=vZ h'.1
   have e:dE σ s [x,y]=(zD s x y,σ,[]):=by simp only[dE];rw[aG h'.2]
   rw[e]
   have hc:=EP x y rfl h'.2
   simp only[bA,aY] at hc
   simp only[aA,↓aS,seval,lX]
   refine(hc _).to ?_
   simp only[aA,seval]
   exact nK.same hS _ rfl
 have hnc:ks.length=2→gB sL s=false:=fun h2=>by simpa [h2] using h
 clear SY EP h
 simp only[aA,seval,lX]
 refine aP (fun h=>?_) (fun h=>?_)
 · have hs:s=⟨#[116,114,117,101]⟩:=by simpa using h
   have hk:=NB (ts:=ks) (by subst hs;simpa [isBuiltin] using hb)
   subst hk
   simp only[aA,seval]
   exact nK.same hS _ (by simp [iN,hs])
 have ht:s≠⟨#[116,114,117,101]⟩:=by simpa using h
 simp only[aA,seval]
 refine aP (fun h=>?_) (fun h=>?_)
 · have hs:s=⟨#[102,97,105,108]⟩:=by simpa using h
   have hk:=NB (ts:=ks) (by subst hs;simpa [isBuiltin] using hb)
   subst hk
   simp only[aA,seval]
   exact nK.same hS _ (by simp [iN,hs])
 have hf:s≠⟨#[102,97,105,108]⟩:=by simpa using h
 simp only[aA,seval]
 refine aP (fun h=>?_) (fun h=>?_)
 · have hs:s=⟨#[61]⟩:=by simpa using h
   obtain⟨x,y,rfl⟩:=vZ (ts:=ks) (by subst hs;simp [isBuiltin] at hb;omega)
   have e:dE σ s [x,y]=tF σ x y:=by simp only[dE];rw[aE (by rw[hnc rfl];simp),aG hs]
   rw[e]
   have dR:c8 prog 34 (.slice [x.av,y.av]) (.int .i64 0)=some (.pptr x.av):=bH (av:=Tm.av) (l:=[x,y]) (i:=0) bQ rfl (aN x)
   have gN:c8 prog 34 (.slice [x.av,y.av]) (.int .i64 1)=some (.pptr y.av):=bH (av:=Tm.av) (l:=[x,y]) (i:=1) bQ rfl (aN y)
   simp only[aA,↓aS,seval]
   refine wX [(0,1),(1,1),(2,1),(3,1),(4,1),(5,1),(6,1),(7,0),(8,0),(9,1)] [0,1,2,3,4,5,6,9] d9 mixed rfl fH ?_
   simp only[dR,gN,a7,aN,aA,seval,lX]
   refine(HO hg ho x y (hv x (by simp)) (hv y (by simp)) c m q tr _ hS hl).mono ?_
   rintro _ s2 ⟨rfl,hP⟩
   simp only[aA,seval]
   refine⟨fH,?_⟩
   refine(pY _ _).to ?_
   simp only[aA,seval]
   exact⟨fH,rfl,hP⟩
 have he:s≠⟨#[61]⟩:=by simpa using h
 simp only[aA,seval]
 refine aP (fun h=>?_) (fun h=>?_)
 · have hs:s=⟨#[92,61]⟩:=by simpa using h
   obtain⟨x,y,rfl⟩:=vZ (ts:=ks) (by subst hs;simp [isBuiltin] at hb;omega)
   have e:dE σ s [x,y]=(iN (!(jN σ x y).1),σ,[]):=by simp only[dE];rw[aE (by rw[hnc rfl];simp),aE he,aG hs]
   rw[e]
   have e1:=hS.sub.cells
   have hql:=hS.aRX KF
   obtain⟨hqa,hqw,hqj,hqc,hqs⟩:=hS.shape
   have dR:c8 prog 34 (.slice [x.av,y.av]) (.int .i64 0)=some (.pptr x.av):=bH (av:=Tm.av) (l:=[x,y]) (i:=0) bQ rfl (aN x)
   have gN:c8 prog 34 (.slice [x.av,y.av]) (.int .i64 1)=some (.pptr y.av):=bH (av:=Tm.av) (l:=[x,y]) (i:=1) bQ rfl (aN y)
   simp only[e1,hql,hqa,aA,↓aS,seval,lX]
   refine wX [(0,1),(1,1),(2,1),(3,1),(4,1),(5,1),(6,1),(7,0),(8,1)] [0,1,2,3,4,5,6,8] d9 mixed rfl fH ?_
   simp only[dR,gN,a7,aN,aA,seval,lX]
   refine(HO hg ho x y (hv x (by simp)) (hv y (by simp)) c m q tr _ hS hl).mono ?_
   rintro _ s2 ⟨rfl,hP⟩
   obtain⟨r,σ',add,hU⟩:=uZ hg ho (hv x (by simp)) (hv y (by simp))
   rw[hU.eq] at hP ⊢
   obtain⟨q',hS2,hQ2⟩:=hP
   have a3O:=FA hU.oD.nodup hU.gB
   simp only[aA,seval]
   refine⟨fH,?_⟩
   refine(Q6 σ' (tr++add) tr.length (by simp) c m q' s2 hS2 (by rw[dN];omega)).mono ?_
   rintro _ s3 ⟨rfl,q2,hS3,hb3,hk3⟩
   rw[DG,GV,show σ'.out add=σ from funext fun n=>hU.out n] at hS3
   simp only[aA,seval]
   refine(pY _ _).to ?_
   simp only[aA,seval]
   refine⟨rfl,q2,by rw[gM];exact hS3,fun b o h h1 h2 h3=>hk3 b o (hQ2.frame b o h h1 h2 h3) h1 h2,fun b hb'=>hQ2.fresh b (hb3 b hb')⟩
 have hne:s≠⟨#[92,61]⟩:=by simpa using h
 simp only[aA,seval]
 refine aP (fun h=>?_) (fun h=>?_)
 · have hs:s=⟨#[61,61]⟩:=by simpa using h
   obtain⟨x,y,rfl⟩:=vZ (ts:=ks) (by subst hs;simp [isBuiltin] at hb;omega)
   have e:dE σ s [x,y]=(iN (x.same y),σ,[]):=by simp only[dE];rw[aE (by rw[hnc rfl];simp),aE he,aE hne,aG hs]
   rw[e]
   have dR:c8 prog 34 (.slice [x.av,y.av]) (.int .i64 0)=some (.pptr x.av):=bH (av:=Tm.av) (l:=[x,y]) (i:=0) bQ rfl (aN x)
   have gN:c8 prog 34 (.slice [x.av,y.av]) (.int .i64 1)=some (.pptr y.av):=bH (av:=Tm.av) (l:=[x,y]) (i:=1) bQ rfl (aN y)
   simp only[aA,↓aS,seval]
   refine D1 mixed (by decide +kernel) (by decide +kernel) ?_
   simp only[dR,gN,a7,aN,aA,seval,lX]
   refine gP (QQ x y _) ?_
   simp only[aA,seval]
   refine gP (pY _ _) ?_
   simp only[aA,seval]
   exact nK.same hS _ rfl
 have hee:s≠⟨#[61,61]⟩:=by simpa using h
 simp only[aA,seval]
 refine aP (fun h=>?_) (fun h=>?_)
 · have hs:s=⟨#[105,115]⟩:=by simpa using h
   obtain⟨x,y,rfl⟩:=vZ (ts:=ks) (by subst hs;simp [isBuiltin] at hb;omega)
   have e:dE σ s [x,y]=if y.ev.2≠0 then(y.ev.2,σ,[]) else tF σ x (oP y.ev.1):=by simp only[dE];rw[aE (by rw[hnc rfl];simp),aE he,aE hne,aE hee]
   rw[e]
   have hy:=hv y (by simp)
   have hin:=M8 (N:=N) (Tm.vO y hy.1)
   have har:=fun st=>LI y st hy.1
   generalize y.ev.1=a at *
   generalize y.ev.2=ca at *
   have dR:c8 prog 34 (.slice [x.av,y.av]) (.int .i64 0)=some (.pptr x.av):=bH (av:=Tm.av) (l:=[x,y]) (i:=0) bQ rfl (aN x)
   have gN:c8 prog 34 (.slice [x.av,y.av]) (.int .i64 1)=some (.pptr y.av):=bH (av:=Tm.av) (l:=[x,y]) (i:=1) bQ rfl (aN y)
   simp only[gN,a7,aN,aA,↓aS,seval,lX]
   refine(har _).to ?_
   simp only[aA,seval]
   refine aP (fun h4=>?_) (fun h4=>?_)
   · simp only[aA,seval]
     have h4':ca≠0:=by simpa using h4
     rw[aG h4']
     exact nK.same hS _ rfl
   have h4':ca=0:=by simpa using h4
   subst h4'
   rw[aE (by simp)]
   simp only[aA,seval]
   refine wX [(0,1),(1,1),(2,1),(3,1),(4,1),(5,0),(6,0),(7,0),(8,1)] [0,1,2,3,4,8] d9 mixed rfl fH ?_
   simp only[dR,a7,aN,aA,seval,lX]
   refine(aYC a _).to ?_
   simp only[aA,seval]
   refine⟨fH,?_⟩
   refine(HO hg ho x (oP a) (hv x (by simp)) hin c m q tr _ hS hl).mono ?_
   rintro _ s2 ⟨rfl,hP⟩
   simp only[aA,seval]
   refine⟨fH,?_⟩
   refine(pY _ _).to ?_
   simp only[aA,seval]
   exact⟨fH,rfl,hP⟩
 have his:s≠⟨#[105,115]⟩:=by simpa using h
 simp only[aA,seval]
 refine aP (fun h=>?_) (fun h=>?_)
 · have hs:s=⟨#[118,97,114]⟩:=by simpa using h
   obtain⟨x,rfl⟩:=IY (ts:=ks) (by subst hs;simp [isBuiltin] at hb;omega)
   have e:dE σ s [x]=(iN (uR s x),σ,[]):=rfl
   rw[e]
   subst hs
   obtain⟨xk,xn,xs,xt⟩:=x
   have dR:c8 prog 34 (.slice [(Tm.mk xk xn xs xt).av]) (.int .i64 0)=some (.pptr (Tm.mk xk xn xs xt).av):=bH (av:=Tm.av) (l:=[Tm.mk xk xn xs xt]) (i:=0) bQ rfl (aN _)
   have eat:=BO xk xn xs xt
   simp only[aX] at dR eat
   simp only[bA,aY,aX]
   simp only[dR,aA,↓aS,seval,lX]
   refine(pY _ _).to ?_
   simp only[aA,seval]
   exact nK.same hS _ rfl
 have hva:s≠⟨#[118,97,114]⟩:=by simpa using h
 simp only[aA,seval]
 refine aP (fun h=>?_) (fun h=>?_)
 · have hs:s=⟨#[110,111,110,118,97,114]⟩:=by simpa using h
   obtain⟨x,rfl⟩:=IY (ts:=ks) (by subst hs;simp [isBuiltin] at hb;omega)
   have e:dE σ s [x]=(iN (uR s x),σ,[]):=rfl
   rw[e]
   subst hs
   obtain⟨xk,xn,xs,xt⟩:=x
   have dR:c8 prog 34 (.slice [(Tm.mk xk xn xs xt).av]) (.int .i64 0)=some (.pptr (Tm.mk xk xn xs xt).av):=bH (av:=Tm.av) (l:=[Tm.mk xk xn xs xt]) (i:=0) bQ rfl (aN _)
   have eat:=BO xk xn xs xt
   simp only[aX] at dR eat
   simp only[bA,aY,aX]
   simp only[dR,aA,↓aS,seval,lX]
   refine(pY _ _).to ?_
   simp only[aA,seval]
   exact nK.same hS _ rfl
 have hnv:s≠⟨#[110,111,110,118,97,114]⟩:=by simpa using h
 simp only[aA,seval]
 refine aP (fun h=>?_) (fun h=>?_)
 · have hs:s=⟨#[97,116,111,109]⟩:=by simpa using h
   obtain⟨x,rfl⟩:=IY (ts:=ks) (by subst hs;simp [isBuiltin] at hb;omega)
   have e:dE σ s [x]=(iN (uR s x),σ,[]):=rfl
   rw[e]
   subst hs
   obtain⟨xk,xn,xs,xt⟩:=x
   have dR:c8 prog 34 (.slice [(Tm.mk xk xn xs xt).av]) (.int .i64 0)=some (.pptr (Tm.mk xk xn xs xt).av):=bH (av:=Tm.av) (l:=[Tm.mk xk xn xs xt]) (i:=0) bQ rfl (aN _)
   have eat:=BO xk xn xs xt
   simp only[aX] at dR eat
   simp only[bA,aY,aX]
   simp only[dR,aA,↓aS,seval,lX]
   refine(eat _).to ?_
   simp only[aA,seval]
   refine(pY _ _).to ?_
   simp only[aA,seval]
   exact nK.same hS _ rfl
 have hat:s≠⟨#[97,116,111,109]⟩:=by simpa using h
 simp only[aA,seval]
 refine aP (fun h=>?_) (fun h=>?_)
 · have hs:s=⟨#[105,110,116]⟩:=by simpa using h
   obtain⟨x,rfl⟩:=IY (ts:=ks) (by subst hs;simp [isBuiltin] at hb;omega)
   have e:dE σ s [x]=(iN (uR s x),σ,[]):=rfl
   rw[e]
   subst hs
   obtain⟨xk,xn,xs,xt⟩:=x
   have dR:c8 prog 34 (.slice [(Tm.mk xk xn xs xt).av]) (.int .i64 0)=some (.pptr (Tm.mk xk xn xs xt).av):=bH (av:=Tm.av) (l:=[Tm.mk xk xn xs xt]) (i:=0) bQ rfl (aN _)
   have eat:=BO xk xn xs xt
   simp only[aX] at dR eat
   simp only[bA,aY,aX]
   simp only[dR,aA,↓aS,seval,lX]
   refine(pY _ _).to ?_
   simp only[aA,seval]
   exact nK.same hS _ rfl
 have hint:s≠⟨#[105,110,116]⟩:=by simpa using h
 have hs:s=⟨#[97,114,103]⟩∧ks.length=3:=by
  rcases hcs with ⟨h2,h3⟩ | ⟨h2,h3⟩ | ⟨h2,h3⟩ | ⟨h2,h3⟩
  · rw[hnc h2] at h3
    simp [he,hne,hee,his] at h3
  · simp [ht,hf] at h3
  · simp [hva,hnv,hat,hint] at h3
  · exact⟨h3,h2⟩
 obtain⟨hs,hk3⟩:=hs
 obtain⟨x,y,z,rfl⟩:=aNN hk3
 have hz:=hv z (by simp)
 have hy:=hv y (by simp)
 have e:dE σ s [x,y,z]=w8 σ x y z:=rfl
 rw[e]
 unfold w8
 have dR:c8 prog 34 (.slice [x.av,y.av,z.av]) (.int .i64 0)=some (.pptr x.av):=bH (av:=Tm.av) (l:=[x,y,z]) (i:=0) bQ rfl (aN x)
 have gN:c8 prog 34 (.slice [x.av,y.av,z.av]) (.int .i64 1)=some (.pptr y.av):=bH (av:=Tm.av) (l:=[x,y,z]) (i:=1) bQ rfl (aN y)
 have xM:c8 prog 34 (.slice [x.av,y.av,z.av]) (.int .i64 2)=some (.pptr z.av):=bH (av:=Tm.av) (l:=[x,y,z]) (i:=2) bQ rfl (aN z)
 clear hcs hb hnc hv e
 obtain⟨xk,xn,xs,xt⟩:=x
 obtain⟨yk,yn,ys,yt⟩:=y
 have hyl:yt.length≤4:=by
  exact hy.1.kind.2
 rw[aX] at dR
 simp only[aX xk,aX yk] at dR gN xM
 simp only[bA,aY,aX xk,aX yk,Tm.k,Tm.ts]
 simp only[dR,aA,↓aS,seval,lX]
 refine cT (fun h=>?_) (fun h=>?_)
 case refine_2=>
  have h':xk=1:=by simpa using h
  simp only[h,aA,seval]
  rw[aG (.inl h')]
  exact nK.same hS _ rfl
 have hx1:xk≠1:=by simpa using h
 simp only[h,gN,aA,seval,lX]
 refine aP (fun h1=>?_) (fun h1=>?_)
 · have h':yk=1:=by simpa using h1
   simp only[aA,seval]
   rw[aG (.inr h')]
   exact nK.same hS _ rfl
 have hy1:yk≠1:=by simpa using h1
 rw[aE (fun h2=>h2.elim hx1 hy1)]
 have h3:∀s2,(xk≠2∨yk≠3∨yt.length=0)→s2=st→nK c m st q tr (if xk≠2∨yk≠3∨yt.length=0 then((3:Int),σ,[]) else match nO (.mk xk xn xs xt) (.mk yk yn ys yt) with | some u=>tF σ z u | none=>(1,σ,[])) (.int .i64 3) s2:=fun s2 hh e=>by
  subst e
  rw[aG hh]
  exact nK.same hS _ rfl
 simp only[dR,aA,seval,lX]
 refine cT (fun h4=>?_) (fun h4=>?_)
 case refine_2=>
  have h':xk≠2:=by simpa using h4
  simp only[h4,aA,seval]
  exact h3 _ (.inl h') rfl
 have hx2:xk=2:=by simpa using h4
 simp only[h4,gN,aA,seval,lX]
 refine cT (fun h5=>?_) (fun h5=>?_)
 case refine_2=>
  have h':yk≠3:=by simpa using h5
  simp only[h5,aA,seval]
  exact h3 _ (.inr (.inl h')) rfl
 have hy3:yk=3:=by simpa using h5
 simp only[h5,gN,aF,aA,seval,lX]
 refine aP (fun h6=>?_) (fun h6=>?_)
 · have h':yt.length=0:=by simp at h6;simp [h6]
   simp only[aA,seval]
   exact h3 _ (.inr (.inr h')) rfl
 have hyt:yt.length≠0:=by simp at h6;simpa using h6
 clear h3
 rw[aE (by simp [hx2,hy3];intro h7;simp [h7] at hyt)]
 simp only[aA,seval]
 refine D1 mixed (by decide +kernel) (by decide +kernel) ?_
 simp only[dR,gN,aF,aA,seval,lX]
 refine gP (BP xn 1 _ _) ?_
 simp only[aA,seval]
 refine aP (fun h7=>?_) (fun h7=>?_)
 · have h':¬(1≤xn∧xn≤yt.length):=by simp at h7;omega
   have ea:nO (.mk xk xn xs xt) (.mk yk yn ys yt)=none:=aE h'
   rw[ea]
   simp only[aA,seval]
   exact nK.same hS _ rfl
 have h':1≤xn∧xn≤yt.length:=by simp at h7;omega
 obtain⟨i,hi⟩:∃i:Nat,xn - 1=i:=⟨(xn - 1).toNat,by omega⟩
 have hlt:i<yt.length:=by omega
 obtain⟨u,hu⟩:∃u,yt[i]?=some u:=⟨_,d4 hlt⟩
 have ea:nO (.mk xk xn xs xt) (.mk yk yn ys yt)=some u:=by
  refine(aG h').trans ?_
  show yt[(xn - 1).toNat]?=some u
  rw[hi,jO,hu]
 rw[ea]
 have huv:bG N u:=rP N (.mk yk yn ys yt) hy1 hy u (cH hu)
 have hw:IntKind.i64.wrap (xn - 1)=(i:Int):=by rw[wrap64 (by omega) (by omega)];exact hi
 have SO:=bH (av:=Tm.av) (P:=prog) bQ hu (aN u)
 simp only[aA,seval]
 refine wX [(0,1),(1,1),(2,1),(3,1),(4,1),(5,1),(6,1),(7,1),(8,1),(9,1),(10,1),(11,1),(12,1),(13,1),(14,1),(15,0),(16,0),(17,1)] [0,1,2,3,4,5,6,7,8,9,10,11,12,13,14,17] d9 mixed rfl fH ?_
 simp only[dR,gN,xM,SO,hw,a7,aN,aA,seval,lX]
 refine(HO hg ho z u hz huv c m q tr _ hS hl).mono ?_
 rintro _ s2 ⟨rfl,hP⟩
 simp only[aA,seval]
 refine⟨fH,?_⟩
 refine(pY _ _).to ?_
 simp only[aA,seval]
 exact⟨fH,rfl,hP⟩
abbrev aQ0:=zi aW bR
theorem aYW(n:Int)(F:Nat)(h0:0≤n)(h1:n≤1048576)(hF:F≤536870912)(st:aB):aD prog 343 [.int .i64 n,.pptr (.int .i64 (F:Int))] st (fun r st'=>r=(vr (n+(F:Int))).av∧st'=st):=by
 refine aD.done ?_
 refine wF [1000000] 2 func343 ntmps343 rfl rfl ?_
 intro _
 have hw:=bF (n:=n+(F:Int))
 simp only[hw,aA,seval,aQ0]
 intro b3 h3
 refine(Q7 _ _).to ?_
 simp only[aK,cI,cE,fN (cE _),fG (a7 _),aA,seval,aQ0]
 exact⟨by simp only[Tm.soft],(aL.refl _).aC h3⟩
theorem Q2{F:Nat}(hF:F≤536870912)(t:Tm)(h:bG 26 t)(st:aB):aD prog 63 [t.av,.func 343 [.pptr (.int .i64 (F:Int))]] st (fun r st'=>r=(dG F t).av∧st'=st):=
 QZ (fun v=>vr (v+(F:Int))) _ _ rfl t st h.1.small fun n hn s=>aYW n F (h.1.2.2 n hn).1 (by have:=(h.1.2.2 n hn).2;omega) hF s
theorem aLX{b:Nat}{L:List AV}(l:List IG):(eK l).fin b L=eK l:=by
 cases l with
 | nil=>rw[eK];unfold AV.fin;split<;>rfl
 | cons g l=>obtain⟨⟨k,n,s,ts⟩,cut,up⟩:=g;rw[uB];exact zJ
abbrev oB:=zi aW (zi cF (zi fJ (zi jM (zi cA (zi bR (zi mT (zi GB (zi pQ (zi GC (zi WP (zi WQ (zi J5 (zi GD (zi aRG aRH))))))))))))))
set_option maxHeartbeats 2000000 in
theorem aAR{p:List Cl}(hp:∀c∈p,gD c∧c.2.length≤6){M:Nat}(hM:M≤268435456){st0 st:aB}{S c m:Nat}{qt qc qn:AV}{q:List Tm}{idx:Bool}{fuel used mx:Int}{nd:List AV}{i:IS}(h:dI st0 st S c m qt qc qn p q idx fuel used mx nd i)
 (goal:Tm) (at':Nat) (rest:List IG) (list:List Nat) (hg:cQ i.σ) (ho:cX (bG i.fresh) i.σ) (hgo:bG i.fresh goal) (hl:∀x∈list,x<p.length) (hll:list.length≤1048576) (ha:at'<i.nn) (hX:IX p M i) (hMl:i.fresh+26*qI i.chs+26*list.length≤M) (hch:i.chs.length≤524288) (hnn:i.nn≤524288) :
 aD prog 308 [.ptr S 0,goal.av,.int .i64 (at':Int),.slice (list.map nv),eK rest] st (fun r st'=>r=.bool (fR p goal at' rest list i).1∧∃qt' qc' mx' nd',dI st0 st' S c m qt' qc' qn p q idx fuel used mx' nd' (fR p goal at' rest list i).2):=by
 obtain⟨bN,rfl⟩:=h.nodes ha
 obtain⟨gk,gn,gs',gts⟩:=goal
 obtain⟨g1,g2,g3,g4,g5,g6⟩:=p7 rest
 generalize hT:fR p (.mk gk gn gs' gts) at' rest list i=T
 simp only[aX]
 have hun:prog.underlying 26=some (.slice 3):=by kernel_rfl
 have gQ:st S=some (.cells [.ptr c 0,.slice (p.map bY),.slice (q.map Tm.av),.bool idx,.bool false,.int .i64 fuel,.int .i64 used,.int .i64 i.fresh,eK i.goals,qc,.mslice bN 0 nd.length 6,.int .i64 mx]):=h.cell
 have hcc:=h.sto.sub.cells
 have htl:=h.sto.aRX (P:=prog) hun
 obtain⟨t1,t2,t3,t4,t5⟩:=h.sto.shape
 refine aD.nR ?_
 refine wF [1000000] 5 func308 ntmps308 rfl rfl ?_
 intro _
 simp only[aF,gQ,hcc,htl,t1,aA,seval,oB]
 refine dX (σ:=aB×AV) [1000000] [0,2,3,4,6,11,28,29] list (fun k s=>dI st0 s.1 S c m s.2 qc (.mslice bN 0 nd.length 6) p q idx fuel used mx nd { i with fresh:=i.fresh+26*k }∧fR p (.mk gk gn gs' gts) at' rest (list.drop k) { i with fresh:=i.fresh+26*k }=T)
  (fun k s=>[(10,.bool false),(30,.int .i64 k)]) (fun k s=>s.1) (by decide +kernel) ⟨(st,qt),⟨h,hT⟩,aO.mk (by simp only[aA,↓aS,seval])⟩ (fun k x s hx hlt bL hdr hinv=>?_) (fun s hge hinv=>?_)
 case refine_2=>
  simp only[hge,aA,seval]
  obtain⟨hi,he⟩:=hinv
  rw[kB] at he
  unfold fR at he
  subst he
  exact⟨s.1,aL.refl _,rfl,_,_,_,_,hi⟩
 obtain⟨st,qt⟩:=s
 obtain⟨h,hT⟩:=hinv
 simp only at h hT
 obtain⟨t1,t2,t3,t4,t5⟩:=h.sto.shape
 obtain⟨n1,n2,n3,n4,n5⟩:=h.acC.shape
 obtain⟨m1,m2,m3,m4,m5⟩:=h.acN.shape
 obtain⟨l1,l2,l3,l4,l5,l6⟩:=p7 i.goals
 have hxl:=hl x (cH hx)
 obtain⟨cl,hcx⟩:∃cl,p[x]?=some cl:=⟨_,d4 hxl⟩
 obtain⟨uF,rJ⟩:=hp cl (cH hcx)
 rw[hdr,fR.eq_def] at hT
 simp only[hcx] at hT
 have hat:c8 prog 26 (.slice (list.map nv)) (.int .i64 (k:Int))=some (.pptr (.int .i64 (x:Int))):=bH (av:=nv) fO hx rfl
 have B1:=bH (av:=bY) (P:=prog) rA hcx (k8 cl)
 have hw:=bF (n:=(k:Int)+1)
 generalize hF:i.fresh+26*k=F at *
 have hFM:F+26≤M:=by have:=aNR i.chs 0;omega
 have a5Z:=bF (n:=(F:Int)+26)
 have gQ:st S=some (.cells [.ptr c 0,.slice (p.map bY),.slice (q.map Tm.av),.bool idx,.bool false,.int .i64 fuel,.int .i64 used,.int .i64 F,eK i.goals,qc,.mslice bN 0 nd.length 6,.int .i64 mx]):=h.cell
 obtain⟨⟨ck,cn,cs',cts⟩,bd⟩:=cl
 rw[iW] at B1
 simp only[bL,aK,gQ,hat,a5Z,aA,↓aS,seval,oB]
 have h2:=h.put (gl:=i.goals) (F:=F+26) (fuel':=fuel) (used':=used) (mx':=mx) (cs:=[.ptr c 0,.slice (p.map bY),.slice (q.map Tm.av),.bool idx,.bool false,.int .i64 fuel,.int .i64 used,.int .i64 ((F:Int)+26),eK i.goals,qc,.mslice bN 0 nd.length 6,.int .i64 mx]) rfl
 generalize st.aC S (.cells [.ptr c 0,.slice (p.map bY),.slice (q.map Tm.av),.bool idx,.bool false,.int .i64 fuel,.int .i64 used,.int .i64 ((F:Int)+26),eK i.goals,qc,.mslice bN 0 nd.length 6,.int .i64 mx])=V at *
 simp only at h2
 have sS:V S=some (.cells [.ptr c 0,.slice (p.map bY),.slice (q.map Tm.av),.bool idx,.bool false,.int .i64 fuel,.int .i64 used,.int .i64 ((F:Int)+26),eK i.goals,qc,.mslice bN 0 nd.length 6,.int .i64 mx]):=h2.cell
 refine wX [(0,1),(1,1),(2,1),(3,1),(4,1),(5,1),(6,1),(7,1),(8,1),(9,1),(10,1),(11,1),(12,1),(13,1),(14,0),(15,0),(16,1)] [0,1,2,3,4,5,6,7,8,9,10,11,12,13,16] (one S (.cells [.ptr c 0,.slice (p.map bY),.slice (q.map Tm.av),.bool idx,.bool false,.int .i64 fuel,.int .i64 used,.int .i64 ((F:Int)+26),eK i.goals,qc,.mslice bN 0 nd.length 6,.int .i64 mx])) mixed rfl (fP sS) ?_
 simp only[uM,B1,aA,seval,oB]
 have hsh:=fun st=>Q2 (F:=F) (by omega) (.mk ck cn cs' cts) uF.head st
 have hhd:bG ((F+26:Nat):Int) (dG F (.mk ck cn cs' cts)):=(uF.dG F (.mk ck cn cs' cts) (by simp)).mono (by have:=uF.fr.1;omega)
 have htr:=h2.sto
 obtain⟨r,σ',add,U⟩:=uZ (N:=F+26) hg (fun n u e=>(ho n u e).mono (by omega)) (hgo.mono (by omega)) hhd
 have htl:i.tr.length≤i.fresh:=hX.WX
 have hun:=HO (N:=F+26) hg (fun n u e=>(ho n u e).mono (by omega)) (.mk gk gn gs' gts) (dG F (.mk ck cn cs' cts)) (hgo.mono (by omega)) hhd c m qt i.tr V h2.sto (by omega)
 rw[U.eq] at hT hun
 simp only at hT hun
 have IP:=U.CJ
 have hso:=U.x7
 clear U
 generalize hy:dG F (.mk ck cn cs' cts)=y at *
 obtain⟨yk,yn,ys,yt⟩:=y
 simp only[aX] at hsh hun ⊢
 refine(hsh _).to ?_
 simp only[aA,seval]
 refine⟨fP sS,?_⟩
 refine hun.mono ?_
 rintro _ s2 ⟨rfl,hP⟩
 obtain⟨qt2,h3⟩:=h2.post hP
 have EN:s2 S=some (.cells [.ptr c 0,.slice (p.map bY),.slice (q.map Tm.av),.bool idx,.bool false,.int .i64 fuel,.int .i64 used,.int .i64 ((F:Int)+26),eK i.goals,qc,.mslice bN 0 nd.length 6,.int .i64 mx]):=h3.cell
 simp only[aA,seval]
 refine⟨fP EN,?_⟩
 refine aP (fun hr=>?_) (fun hr=>?_)
 · have hr':r=false:=by simpa using hr
   rw[aE (by rw[hr'];simp)] at hT
   simp only[EN,aA,seval,oB]
   have hud:=Q6 σ' (i.tr++add) i.tr.length (by simp) c m qt2 s2 h3.sto (by
    have:=h3.sto
    have:add.length≤F+26:=FA hso.nodup hso.gB
    rw[dN];omega)
   refine hud.mono ?_
   rintro _ s4 ⟨rfl,qt4,hS4,hb4,hf4⟩
   simp only[hw,aA,seval]
   have h5:=h3.KC hS4 (fun b o hb e1 e2 _=>hf4 b o hb e1 e2) (fun b hb=>.inl (hb4 b hb))
   simp only[DG,GV,IP] at h5
   refine⟨(s4,qt4),⟨?_,?_⟩,aO.mk (by simp only[aA,seval])⟩
   · rw[show i.fresh+26*(k+1)=F+26 by omega];exact h5
   · rw[show i.fresh+26*(k+1)=F+26 by omega];exact hT
 have hr':r=true:=by simpa using hr
 have a5E:nd.length=i.nn:=h3.ndl
 rw[aG hr'] at hT
 have IT:prog.underlying 263=some (.slice 317):=by kernel_rfl
 have TJ:prog.underlying 264=some (.slice 314):=by kernel_rfl
 have hlC:=h3.acC.len IT
 have hlN:=h3.acN.len TJ
 rw[aF] at hlC
 rw[h3.ndl] at hlN
 simp only at hlC hlN
 have aL8:=p8 (P:=prog) (b:=bN) (w:=6) (i:=at') L6 (len:=nd.length) (by rw[h3.ndl];exact ha)
 simp only[aF,EN,hlC,hw,n1,aA,seval,oB]
 refine aP (fun h7=>?_) (fun h7=>?_)
 · have h':k+1<list.length:=by simp at h7;omega
   have hdn:list.drop (k+1)≠[]:=by intro e;have:=eA List.length e;simp at this;omega
   rw[aE hdn] at hT
   have hsl:=fun(φ:AF) (d:Nat) (h:φ d=.int .i64 ((k:Int)+1))=>aPP h' h
   refine wX [(0,1),(1,1),(2,1),(3,1),(4,1),(5,1),(6,1),(7,1),(8,1),(9,1),(10,1),(11,1),(12,1),(13,1),(14,1),(15,1),(16,1),(17,1),(18,1),(19,1),(20,0),(21,1),(22,1),(23,2)] [0,1,2,3,4,5,6,7,8,9,10,11,12,13,14,15,16,17,18,19,21,22] (one S (.cells [.ptr c 0,.slice (p.map bY),.slice (q.map Tm.av),.bool idx,.bool false,.int .i64 fuel,.int .i64 used,.int .i64 ((F:Int)+26),eK i.goals,qc,.mslice bN 0 nd.length 6,.int .i64 mx])) mixed rfl (fP EN) ?_
   simp only[hsl,hw,g3,g4,n1,m1,uM,aA,seval,oB]
   refine fW.append HZ aBD aBG rfl (by decide) h3.acC rfl (a6D ⟨.mk gk gn gs' gts,at',rest,list.drop (k+1),i.tr.length,nd.length⟩) (by rw[aF];simp only;omega) (fun qc5 s5 f9 hf hn=>?_)
   have a33:(i.chs.map sT)++ [sT ⟨.mk gk gn gs' gts,at',rest,list.drop (k+1),i.tr.length,nd.length⟩]=(i.chs++ [(⟨.mk gk gn gs' gts,at',rest,list.drop (k+1),i.tr.length,nd.length⟩:IC)]).map sT:=by simp
   have f9:=a33▸f9
   obtain⟨c1,c2,c3,c4,c5⟩:=f9.shape
   have hS5:s5 S=s2 S:=hf S h3.parts.2.2.2.2.1 (fun hb=>by
    rcases hn S hb with h' | h'
    · exact h3.parts.2.2.2.2.1 h'
    · rw[EN] at h';cases h')
   have aMG:=hS5.trans EN
   have a4M:=fP aMG
   simp only[aK,aMG,c4,c5,m1,aB.aJ,aA,seval,oB]
   refine⟨a4M,?_⟩
   have h5:=h3.a8X f9 hf hn (cs:=[.ptr c 0,.slice (p.map bY),.slice (q.map Tm.av),.bool idx,.bool false,.int .i64 fuel,.int .i64 used,.int .i64 ((F:Int)+26),eK i.goals,qc5,.mslice bN 0 nd.length 6,.int .i64 mx]) rfl
   generalize s5.aC S (.cells [.ptr c 0,.slice (p.map bY),.slice (q.map Tm.av),.bool idx,.bool false,.int .i64 fuel,.int .i64 used,.int .i64 ((F:Int)+26),eK i.goals,qc5,.mslice bN 0 nd.length 6,.int .i64 mx])=V5 at *
   rw[show(⟨.mk gk gn gs' gts,at',rest,list.drop (k+1),i.tr.length,nd.length⟩:IC)=⟨.mk gk gn gs' gts,at',rest,list.drop (k+1),i.tr.length,i.nn⟩ by rw[a5E]] at h5
   obtain⟨csN,hbN,hcN⟩:=h5.nodeAt
   obtain⟨c1,c2,c3,c4,c5⟩:=(h5).acC.shape
   have hSN:S≠bN:=fun e=>(h5).parts.2.2.2.2.2.1 (by rw[e];simp [aR])
   have uE:=h5.cell
   simp only[iC] at uE
   rw[show((F+26:Nat):Int)=(F:Int)+26 from rfl] at uE
   simp only[aK,aF,uE,hbN,hSN,aL8,B1,aA,seval,oB]
   refine⟨by omega,?_⟩
   obtain⟨nd6,h6⟩:=(h5).aPF (x:=.int .i64 (x:Int)) (k:=at'*6+5) rfl hbN (by omega)
   have TE:=h6.ndl
   simp only at TE
   rw[show aK csN (at'*6+5) [.int .i64 (x:Int)]=List.take (at'*6+5) csN++ [AV.int IntKind.i64 (x:Int)]++List.drop (at'*6+5+1) csN from rfl] at h6
   generalize aB.aC _ bN (.cells (List.take (at'*6+5) csN++ [AV.int IntKind.i64 (x:Int)]++List.drop (at'*6+5+1) csN))=V6 at *
   have kV:=h6.cell
   simp only[iC] at kV
   rw[show((F+26:Nat):Int)=(F:Int)+26 from rfl] at kV
   refine oW (σ:=Unit) [1000000] [0,2,3,4,6,10,11,12,13,14,15,16,28,29,30,31,32,33,34,35,36,37,38,39,40,41,42,43,44,45,46,47,48,49,50,51,52,53,54,55,56,57,58,59,60,61,62,63,64,65,66,67,68,70,71,72,73,74,75,76,77,78,79,80,81,82,83,84,85,86,87,88,89,90,91,92,93,94,95,96,97,98,99,100,101,102,103,104,105,106,107,108,109,110,111,112,113,114,115,116,117,118,119] bd 4 17 (fun j _=>((bd.take j).map (dG F)).map Tm.av) (fun _ _=>True) (fun j _=>[(120,.int .i64 j)]) (fun _ _=>V6) (fun j _ _ e he=>by simp only[cB] at he;obtain⟨t,_,rfl⟩:=he;exact⟨cP _,aN _⟩) (by decide +kernel) ⟨(),0,trivial,fun h=>absurd rfl h,aO.mk (by simp only[iV,jA,aY,aA,↓aS,seval])⟩ (fun j y5 _ b5 hx5 a45 TB a4H TA hb5=>?_) (fun _ b5 S8 TA=>?_)
   · have hw5:=wrap64 (n:=(j:Int)+1) (by simp only at rJ;omega) (by simp only at rJ;omega)
     have SM:=bH (av:=Tm.av) (P:=prog) bQ hx5 (aN y5)
     have IL:(((bd.take j).map (dG F)).map Tm.av).length=j:=by simp only[aF,c7];omega
     have hyb:=uF.body y5 (cH hx5)
     simp only[TB,SM,a7,aN,cI,cP,aA,↓aS,seval,oB]
     refine(Q2 (F:=F) (by omega) y5 hyb.1 _).to ?_
     simp only[a7,aN,cP,aA,seval,oB]
     refine eO bQ jE jF rfl rfl (fQ (aN _) (cI _)) (gO _) hb5 (by simp only[IL,aU,aZ];simp only at rJ;omega) (by simp only[IL,aU,aZ];simp only at rJ;omega) (fun b' hb'=>?_)
     rw[show(((bd.take j).map (dG F)).map Tm.av)++ [(dG F y5).av]=((bd.take (j+1)).map (dG F)).map Tm.av by rw[dY,hx5];simp] at hb' ⊢
     simp only[aA,seval]
     exact⟨(),b',hb',aO.mk (by simp only[hw5,aA,seval])⟩
   · have B5:=fun st=>Q1 (bd.map (dG F)) i.chs.length at' rest (by simp only[aF];simp only at rJ;omega) st
     simp only[S8,iX,eW,rB,m9,iO,nS,zJ,H1,R7,kJ,dS,aLX,aA,seval]
     refine(B5 _).to ?_
     have h7:=h6.put (gl:=(bd.map (dG F)).map (fun t=>(⟨t,i.chs.length,at'⟩:IG))++rest) (F:=F+26) (fuel':=fuel) (used':=used) (mx':=mx) rfl
     simp only[iC] at h7
     rw[show((F+26:Nat):Int)=(F:Int)+26 from rfl] at h7
     have hgl:(bd.map (dG F)).map (fun t=>(⟨t,i.chs.length,at'⟩:IG))++rest=bd.map (fun t=>(⟨dG F t,i.chs.length,at'⟩:IG))++rest:=by rw[pR];try rfl
     rw[hgl] at h7 ⊢
     generalize bd.map (fun t=>(⟨dG F t,i.chs.length,at'⟩:IG))++rest=NG at *
     obtain⟨u1,u2,u3,u4,u5,u6⟩:=p7 NG
     have IJ:=h7.acC.len IT
     simp only[aF] at IJ
     simp only[aK,kV,u4,u5,aA,seval,oB]
     generalize aB.aC V6 S _=V7 at h7 ⊢
     have oO:=h7.cell
     simp only[iC] at oO
     rw[show((F+26:Nat):Int)=(F:Int)+26 from rfl] at oO
     refine wX [(0,1),(1,1),(2,1),(3,1),(4,1),(5,1),(6,1),(7,1),(8,1),(9,1),(10,0),(11,1),(12,1),(13,2)] [0,1,2,3,4,5,6,7,8,9,11,12] _ mixed rfl (fP oO) ?_
     simp only[aK,oO,IJ,c1,uM,aA,seval,oB]
     refine⟨fP oO,?_⟩
     subst hT
     exact⟨_,aL.refl _,rfl,qt2,_,_,nd6,h7.put (gl:=NG) (F:=F+26) rfl⟩
 · have h':list.drop (k+1)= []:=A6 (by simp at h7;omega)
   rw[aG h'] at hT
   obtain⟨csN,hbN,hcN⟩:=h3.nodeAt
   obtain⟨c1,c2,c3,c4,c5⟩:=(h3).acC.shape
   have hSN:S≠bN:=fun e=>(h3).parts.2.2.2.2.2.1 (by rw[e];simp [aR])
   have uE:=h3.cell
   simp only[iC] at uE
   rw[show((F+26:Nat):Int)=(F:Int)+26 from rfl] at uE
   simp only[aK,aF,uE,hbN,hSN,aL8,B1,m1,aA,seval,oB]
   refine⟨by omega,?_⟩
   obtain⟨nd6,h6⟩:=(h3).aPF (x:=.int .i64 (x:Int)) (k:=at'*6+5) rfl hbN (by omega)
   have TE:=h6.ndl
   simp only at TE
   rw[show aK csN (at'*6+5) [.int .i64 (x:Int)]=List.take (at'*6+5) csN++ [AV.int IntKind.i64 (x:Int)]++List.drop (at'*6+5+1) csN from rfl] at h6
   generalize aB.aC _ bN (.cells (List.take (at'*6+5) csN++ [AV.int IntKind.i64 (x:Int)]++List.drop (at'*6+5+1) csN))=V6 at *
   have kV:=h6.cell
   simp only[iC] at kV
   rw[show((F+26:Nat):Int)=(F:Int)+26 from rfl] at kV
   refine oW (σ:=Unit) [1000000] [0,2,3,4,6,10,11,12,13,14,15,16,28,29,30,31,32,33,34,35,36,37,38,39,40,41,42,43,44,45,46,47,48,49,50,51,52,53,54,55,56,57,58,59,60,61,62,63,64,65,66,67,68,70,71,72,73,74,75,76,77,78,79,80,81,82,83,84,85,86,87,88,89,90,91,92,93,94,95,96,97,98,99,100,101,102,103,104,105,106,107,108,109,110,111,112,113,114,115,116,117,118,119] bd 4 17 (fun j _=>((bd.take j).map (dG F)).map Tm.av) (fun _ _=>True) (fun j _=>[(120,.int .i64 j)]) (fun _ _=>V6) (fun j _ _ e he=>by simp only[cB] at he;obtain⟨t,_,rfl⟩:=he;exact⟨cP _,aN _⟩) (by decide +kernel) ⟨(),0,trivial,fun h=>absurd rfl h,aO.mk (by simp only[iV,jA,aY,aA,↓aS,seval])⟩ (fun j y5 _ b5 hx5 a45 TB a4H TA hb5=>?_) (fun _ b5 S8 TA=>?_)
   · have hw5:=wrap64 (n:=(j:Int)+1) (by simp only at rJ;omega) (by simp only at rJ;omega)
     have SM:=bH (av:=Tm.av) (P:=prog) bQ hx5 (aN y5)
     have IL:(((bd.take j).map (dG F)).map Tm.av).length=j:=by simp only[aF,c7];omega
     have hyb:=uF.body y5 (cH hx5)
     simp only[TB,SM,a7,aN,cI,cP,aA,↓aS,seval,oB]
     refine(Q2 (F:=F) (by omega) y5 hyb.1 _).to ?_
     simp only[a7,aN,cP,aA,seval,oB]
     refine eO bQ jE jF rfl rfl (fQ (aN _) (cI _)) (gO _) hb5 (by simp only[IL,aU,aZ];simp only at rJ;omega) (by simp only[IL,aU,aZ];simp only at rJ;omega) (fun b' hb'=>?_)
     rw[show(((bd.take j).map (dG F)).map Tm.av)++ [(dG F y5).av]=((bd.take (j+1)).map (dG F)).map Tm.av by rw[dY,hx5];simp] at hb' ⊢
     simp only[aA,seval]
     exact⟨(),b',hb',aO.mk (by simp only[hw5,aA,seval])⟩
   · have B5:=fun st=>Q1 (bd.map (dG F)) i.chs.length at' rest (by simp only[aF];simp only at rJ;omega) st
     simp only[S8,iX,eW,rB,m9,iO,zJ,H1,R7,kJ,dS,aLX,aA,seval]
     refine(B5 _).to ?_
     have h7:=h6.put (gl:=(bd.map (dG F)).map (fun t=>(⟨t,i.chs.length,at'⟩:IG))++rest) (F:=F+26) (fuel':=fuel) (used':=used) (mx':=mx) rfl
     simp only[iC] at h7
     rw[show((F+26:Nat):Int)=(F:Int)+26 from rfl] at h7
     have hgl:(bd.map (dG F)).map (fun t=>(⟨t,i.chs.length,at'⟩:IG))++rest=bd.map (fun t=>(⟨dG F t,i.chs.length,at'⟩:IG))++rest:=by rw[pR];try rfl
     rw[hgl] at h7 ⊢
     generalize bd.map (fun t=>(⟨dG F t,i.chs.length,at'⟩:IG))++rest=NG at *
     obtain⟨u1,u2,u3,u4,u5,u6⟩:=p7 NG
     have IJ:=h7.acC.len IT
     simp only[aF] at IJ
     simp only[aK,kV,u4,u5,aA,seval,oB]
     generalize aB.aC V6 S _=V7 at h7 ⊢
     have oO:=h7.cell
     simp only[iC] at oO
     rw[show((F+26:Nat):Int)=(F:Int)+26 from rfl] at oO
     refine wX [(0,1),(1,1),(2,1),(3,1),(4,1),(5,1),(6,1),(7,1),(8,1),(9,1),(10,0),(11,1),(12,1),(13,2)] [0,1,2,3,4,5,6,7,8,9,11,12] _ mixed rfl (fP oO) ?_
     simp only[aK,oO,IJ,c1,uM,aA,seval,oB]
     refine⟨fP oO,?_⟩
     subst hT
     exact⟨_,aL.refl _,rfl,qt2,_,_,nd6,h7.put (gl:=NG) (F:=F+26) rfl⟩
theorem a57(p:List Cl)(s:IS):gS p s.chs.length s=match s.chs.getLast? with
 | none=>none
 | some c=>if(fR p c.goal c.node c.rest c.list (s.pop c)).1=true then some (fR p c.goal c.node c.rest c.list (s.pop c)).2 else gS p (s.chs.length - 1) (fR p c.goal c.node c.rest c.list (s.pop c)).2:=by
 obtain⟨gl,σ,tr,chs,F,nn⟩:=s
 cases chs with
 | nil=>rfl
 | cons c l=>rw[aU,gS];try rfl
structure XD (p:List Cl) (M:Nat) (st0:aB) (S c m:Nat) (q:List Tm) (idx:Bool) (fuel used:Int) (T:Option IS) (st:aB) (qt qc qn:AV) (mx:Int) (nd:List AV) (i:IS) (cs:List RC):Prop where
 s:dI st0 st S c m qt qc qn p q idx fuel used mx nd i
 r:iS i.fresh cs i.chs i.σ i.tr
 x:IX p M i
 t:gS p i.chs.length i=T
 n:i.chs.length≤524288∧i.nn≤524288
def XE(st0 st':aB)(S c m:Nat)(p:List Cl)(q:List Tm)(idx:Bool)(fuel used:Int)(r:AV):Option IS→Prop
 | some i'=>r=.int .i64 (-1)∧∃qt qc qn mx nd,dI st0 st' S c m qt qc qn p q idx fuel used mx nd i'
 | none=>r=.int .i64 0∧∃qt qc qn mx nd i',dI st0 st' S c m qt qc qn p q idx fuel used mx nd i'
abbrev JU:=zi aW (zi fJ (zi bR (zi GB (zi pQ (zi GC (zi WP (zi WQ (zi J5 aRH))))))))
set_option maxHeartbeats 2000000 in
theorem LJ{p:List Cl}(hp:∀c∈p,gD c∧c.2.length≤6){M:Nat}(hM:M≤16777216){st0:aB}{S c m:Nat}{q:List Tm}{idx:Bool}{fuel used:Int}{T:Option IS}(st:aB)(qt qc qn:AV)(mx:Int)(nd:List AV)(i:IS)(cs:List RC)
 (hI:XD p M st0 S c m q idx fuel used T st qt qc qn mx nd i cs) :
 aD prog 247 [.ptr S 0] st (fun r st'=>XE st0 st' S c m p q idx fuel used r T):=by
 refine aD.nR ?_
 refine wF [1000000] 1 func247 ntmps247 rfl rfl ?_
 intro _
 simp only[aA,seval]
 refine iJ (σ:=aB×AV×AV×AV×Int×List AV×IS×List RC) [1000000] [0] (fun x=>XD p M st0 S c m q idx fuel used T x.1 x.2.1 x.2.2.1 x.2.2.2.1 x.2.2.2.2.1 x.2.2.2.2.2.1 x.2.2.2.2.2.2.1 x.2.2.2.2.2.2.2) (fun x=>[(2,.int .i64 0)]) (fun x=>x.1) (fun x=>x.2.2.2.2.2.2.1.chs.length) (by decide +kernel) ⟨(st,qt,qc,qn,mx,nd,i,cs),hI,aO.mk (by simp only[aA,seval])⟩ ?_
 clear hI
 rintro⟨st,qt,qc,qn,mx,nd,i,cs⟩ ⟨hs,hr,hx,ht,hn1,hn2⟩
 simp only at hs hr hx ht hn1 hn2
 simp only
 obtain⟨gl,τ,tr,ch,F,nn⟩:=i
 obtain⟨t1,t2,t3,t4,t5⟩:=hs.sto.shape
 obtain⟨n1,n2,n3,n4,n5⟩:=hs.acC.shape
 obtain⟨m1,m2,m3,m4,m5⟩:=hs.acN.shape
 obtain⟨l1,l2,l3,l4,l5,l6⟩:=p7 gl
 have IT:prog.underlying 263=some (.slice 317):=by kernel_rfl
 have hlC:=hs.acC.len IT
 rw[aF] at hlC
 simp only at hlC hr hx ht hn1 hn2
 have gQ:=hs.cell
 simp only[iC] at gQ
 replace ht:=(a57 p ⟨gl,τ,tr,ch,F,nn⟩).symm.trans ht
 simp only at ht
 cases hr with
 | nil=>
  simp only[List.getLast?_nil] at ht
  subst ht
  simp only[aZ] at hlC
  simp only[gQ,hlC,n1,xE,↓KM,List.contains,List.elem,tG,g9,sub,A1,↓reduceIte,reduceCtorEq,JU]
  refine aP (fun h=>absurd h (by decide)) (fun h=>?_)
  simp only[aA,seval]
  exact⟨st,aL.refl _,rfl,_,_,_,_,_,_,hs⟩
 | @snoc cs ds cR d _ _ C h1 h2=>
  obtain⟨hP,hMl,hnt,htn,htr,hli⟩:=hx.pop
  have e3:(IS.pop ⟨gl,τ,tr,ds++ [d],F,nn⟩ d)=⟨gl,τ.out (tr.drop d.eY),tr.take d.eY,ds,F,d.taken⟩:=by simp only[IS.pop,PG]
  simp only[List.getLast?_append,List.getLast?_singleton,Option.some_or,e3] at ht
  obtain⟨bC,csC,rfl,hbC,a40,htk⟩:=hs.acC.at (TN _) (i:=ds.length) (e:=sT d) (by simp)
  have hlm:((ds++ [d]).map sT).length=ds.length+1:=by simp
  rw[hlm] at hs gQ hlC
  have hSb:S≠bC:=fun e=>hs.parts.2.2.2.2.1 (by rw[e];simp [aR])
  have hdl:ds.length+1≤524288:=by simp only[dN,aU,aZ] at hn1;omega
  have hw:IntKind.i64.wrap ((ds.length:Int)+1 - 1)=(ds.length:Int):=by rw[wrap64 (by omega) (by omega)];omega
  have a3R:=p8 (P:=prog) (b:=bC) (w:=9) (i:=ds.length) HZ (len:=ds.length+1) (by omega)
  have zP:=fun(φ:AF) (dd:Nat) (h:φ dd=.int .i64 (ds.length:Int))=>VD (b:=bC) (n:=ds.length+1) (k:=ds.length) HZ h (by omega)
  obtain⟨⟨dk,dn,ds',dts⟩,L2,L3,RK,HV,EA⟩:=d
  rw[aND] at htk
  simp only at htn htr hnt hli hMl hP
  obtain⟨g1,g2,g3,g4,g5,g6⟩:=p7 L3
  have a5V:(csC.drop (ds.length*9)).take 9= [.int .i64 dk,.int .i64 dn,.str ds',.slice (dts.map Tm.av),.int .i64 (L2:Int),eK L3,.slice (RK.map nv),.int .i64 (HV:Int),.int .i64 (EA:Int)]:=htk
  simp only[dN,aU,aZ,gQ,hlC,aA,seval,JU]
  refine aP (fun h=>?_) (fun h=>absurd h (by simp))
  simp only[aK,dN,aU,aZ,gQ,hlC,hbC,a40,a5V,a3R,zP,hw,g5,aA,↓aS,seval,JU]
  have hs2:=hs.aA5 (k:=ds.length) (gl:=gl) (by simp only[dN,aU,aZ];omega) (cs:=iC c p q idx fuel used F (eK gl) (.mslice bC 0 ds.length 9) qn mx) rfl
  simp only[GV,iC] at hs2
  generalize aB.aC st S _=V at hs2 ⊢
  have sS:=hs2.cell
  simp only[iC,zE] at sS hs2
  have htl:=hs2.sto.eY
  refine wX [(0,1),(1,1),(2,1),(3,1),(4,1),(5,1),(6,2)] [0,1,2,3,4,5] _ mixed rfl (fP sS) ?_
  simp only[uM,aA,seval,JU]
  refine(Q6 τ tr HV htr c m qt V hs2.sto (by have:=hx.WX;have:=hx.phi;simp only at *;omega)).mono ?_
  rintro _ s4 ⟨rfl,qt4,hS4,hb4,hf4⟩
  have hs4:=hs2.KC hS4 (fun b o hb e1 e2 _=>hf4 b o hb e1 e2) (fun b hb=>.inl (hb4 b hb))
  have SW:=hs4.cell
  simp only[iC] at SW
  obtain⟨q1,q2,q3,q4,q5⟩:=hs4.sto.shape
  have a4B:=fun(φ:AF) (dd:Nat) (h:φ dd=.int .i64 (EA:Int))=>aPM L6 hs4.acN h (by rw[hs4.ndl];exact htn)
  simp only[aA,seval]
  have hAN:=hs4.acN.take (k:=EA) (by rw[hs4.ndl];exact htn) hs4.ndw
  obtain⟨e1',e2',e3',e4',e5'⟩:=hAN.shape
  have hs6:=hs4.aZP (k:=EA) htn rfl
  simp only[iC] at hs6
  obtain⟨ρ,Sm,e1,hok,hG,e2⟩:=h1
  simp only at e1 e2
  have E2:=aAR hp (show M≤268435456 by omega) hs6 (.mk dk dn ds' dts) L2 L3 RK Sm.g2 Sm.o2 (e1▸Sm.CN hok) hli (by omega) hnt hP hMl (by first | omega | (simp only;omega)) (by first | omega | (simp only;omega))
  simp only[aX] at E2
  have IQ:=O0 (fun c h=>(hp c h).1) (nn:=EA) (at':=L2) (tr:=tr.take HV) hok hG cR.left F gl Sm C
  rw[←e1,←e2] at IQ
  refine wX [(0,1),(1,1),(2,1),(3,1),(4,1),(5,1),(6,1),(7,1),(8,1),(9,1),(10,2)] [0,1,2,3,4,5,6,7,8,9] _ mixed rfl (fP SW) ?_
  simp only[aK,SW,a4B,e4',e5',m1,g1,g2,uM,aA,seval,JU]
  refine E2.mono ?_
  rintro _ s7 ⟨rfl,qt7,qc7,mx7,nd7,hs7⟩
  simp only[aA,seval]
  refine aP (fun h=>?_) (fun h=>?_)
  · simp only[aA,seval]
    rw[aG h] at ht
    subst ht
    exact⟨s7,aL.refl _,rfl,_,_,_,_,_,hs7⟩
  · rw[aE (by rw[h];simp)] at ht
    cases hrt:iZ p cs cR.goal cR.rest cR.σ cR.N cR.left with
    | some s=>
     rw[e2,hrt] at IQ
     obtain⟨i2,k1,_⟩:=IQ
     rw[←e2] at k1
     rw[k1] at h
     cases h
    | none=>
     rw[e2,hrt] at IQ
     obtain⟨F',hF,k1⟩:=IQ
     rw[←e2] at k1
     have hX7:=M6 (fun c h=>(hp c h).1) (rest:=L3) RK _ hli (at':=L2) (by simp only;exact hnt) (by simp only;exact hMl) hP Sm.g2 Sm.o2 (e1▸Sm.CN hok)
     rw[k1] at hs7 ht hX7
     simp only[aA,seval]
     refine⟨(s7,qt7,qc7,_,mx7,nd7,⟨gl,τ.out (tr.drop HV),tr.take HV,ds,F',EA⟩,cs),by simp only;omega,⟨hs7,C.mono hF,hX7,?_,by simp only;omega,by simp only;omega⟩,aO.mk (by simp only[aA,seval])⟩
     simpa using ht
end Go.AW
namespace Go.AW
theorem IX.node{p:List Cl}{M:Nat}{i:IS}(h:IX p M i):IX p M { i with nn:=i.nn+1 }:=
 ⟨h.tnd,h.tin,h.phi,fun c hc=>by obtain⟨h1,h2,h3,h4⟩:=h.ch c hc;exact⟨h1,by simp only;omega,h3,h4⟩,h.mono⟩
theorem IX.more{p:List Cl}{M:Nat}{i:IS}{σ':Sub}{add:List Int}{gl:List IG}(h:IX p M i)(S:nM (i.fresh:Int) i.σ σ' add):IX p M { i with goals:=gl,σ:=σ',tr:=i.tr++add }:=by
 refine⟨pS.2 ⟨h.tnd,S.nodup,fun a ha b hb e=>?_⟩,fun n hn=>?_,h.phi,fun c hc=>?_,h.mono⟩
 · subst e
   exact(h.tin a ha).2 (S.new a hb).1
 · simp only[eH] at hn
   rcases hn with hn | hn
   · have h1:=h.tin n hn
     have hna:n∉add:=fun ha=>h1.2 (S.new n ha).1
     exact⟨h1.1,by simp only;rw[S.aV n hna];exact h1.2⟩
   · exact⟨S.gB n hn,(S.new n hn).2⟩
 · obtain⟨h1,h2,h3,h4⟩:=h.ch c hc
   exact⟨h1,h2,by simp only[dN];omega,h4⟩
theorem IX.cut{p:List Cl}{M:Nat}{i:IS}{gl:List IG}(h:IX p M i)(k:Nat):IX p M { i with goals:=gl,chs:=i.chs.take k }:=
 ⟨h.tnd,h.tin,by have:=aNR i.chs k;have:=h.phi;simp only;omega,fun c hc=>h.ch c (mC hc),h.mono.sublist (List.take_sublist _ _)⟩
def PW(p:List Cl)(M:Nat):yM→Prop
 | .go s=>IX p M s
 | .fail s=>IX p M s
 | .stop _=>True
theorem a6A{p:List Cl}(hp:∀c∈p,gD c)(hpl:p.length≤20){cnd:Tm→List Nat→List Nat}(hc:∀t l,(∀i∈cnd t l,i∈l)∧(cnd t l).length≤l.length){M:Nat}{i:IS}{g:IG}{rest:List IG}(h:IX p M i)(hg:cQ i.σ)(ho:cX (bG i.fresh) i.σ)(hgo:bG i.fresh g.t) :
 PW p (M+520) (mJ p cnd i g rest):=by
 have hU:=h.up (M':=M+520) (by omega)
 unfold mJ
 split
 · trivial
 rename_i eR
 have S6:eQ (g.t.aM (rs i.σ))=true:=by simpa using eR
 have hok:=MH hg ho hgo S6
 generalize g.t.aM (rs i.σ)=t at *
 split
 · exact(hU.cut (gl:=rest) g.cut).node
 split
 · have S:=NW hg ho t.s t.ts fun x hx=>by
    obtain⟨k,n,s',ts⟩:=t
    by_cases hk:k=1
    · obtain⟨_,_,_,h2⟩:=(show cJ i.fresh (.mk 1 n s' ts) from hk▸hok.1).var
      simp only[Tm.ts] at hx
      rw[h2] at hx;cases hx
    · exact rP _ (.mk k n s' ts) hk hok x hx
   split
   · exact(hU.more (gl:=rest) S).node
   · split
     · exact(hU.more (gl:=i.goals) S).node
     · trivial
 split
 · trivial
 obtain⟨c1,c2⟩:=hc t (eJ p t)
 have hfl:(eJ p t).length≤p.length:=by
  have:=List.length_filter_le (fun j=>match p[j]? with | some c=>IE c t | none=>false) (List.range p.length)
  rw[List.length_range] at this
  exact this
 have hr:∀x∈cnd t (eJ p t),x<p.length:=fun x hx=>by
  have:=c1 x hx
  unfold eJ at this
  exact wO.1 (List.mem_filter.1 this).1
 have hT:=M6 hp (rest:=rest) (cnd t (eJ p t)) { i with nn:=i.nn+1 } hr (at':=i.nn) (by simp only;omega) (by have:=h.phi;simp only;omega) hU.node hg ho hok
 split
 · exact hT
 · exact hT
end Go.AW
namespace Go.AW
open Go.Proofs.Tryz
theorem aNC{p:List Cl}{goal:Tm}{at':Nat}{rest:List IG}:∀(l:List Nat) (s:IS),(fR p goal at' rest l s).1=false→∃F,(fR p goal at' rest l s).2= { s with fresh:=F }
 | [],s,_=>⟨s.fresh,by rw[fR.eq_def]⟩
 | j::l,s,h=>by
  rw[fR.eq_def] at h ⊢
  simp only at h ⊢
  split at h
  · exact⟨s.fresh,rfl⟩
  · split at h
    · cases h
    · rename_i hu
      rw[aE hu]
      obtain⟨F,e⟩:=aNC l { s with fresh:=s.fresh+26 } h
      exact⟨F,e⟩
theorem M7{p:List Cl}{goal:Tm}{at':Nat}{rest:List IG}:∀(l:List Nat) (s:IS),(fR p goal at' rest l s).2.nn=s.nn
 | [],s=>by rw[fR.eq_def]
 | j::l,s=>by
  rw[fR.eq_def]
  simp only
  split
  · rfl
  · split
    · rfl
    · exact M7 l { s with fresh:=s.fresh+26 }
theorem Rl.facts{s:RS}{i:IS}(h:Rl s i):cQ i.σ∧cX (bG i.fresh) i.σ∧i.chs.length=s.chs.length∧i.goals.length=s.goals.length:=by
 obtain⟨ρ,S,G,C⟩:=h
 have:=eA List.length G.1
 simp only[aF] at this
 exact⟨S.g2,S.o2,C.len,this⟩
theorem Rl.goal{s:RS}{i:IS}{h:IG}{hs:List IG}(hR:Rl s i)(hh:i.goals=h::hs):bG i.fresh h.t∧h.t.k=3∧∃g gs,s.goals=g::gs∧h.cut=g.aV:=by
 obtain⟨ρ,S,G,C⟩:=hR
 rw[hh] at G
 cases hg:s.goals with
 | nil=>rw[hg] at G;exact absurd G.1 (by simp)
 | cons g gs=>
  rw[hg] at G
  have he:=(List.cons.inj G.1).1
  simp only[Prod.mk.injEq] at he
  obtain⟨e1,e2⟩:=he
  obtain⟨h1,h2⟩:=G.2 g (by simp)
  rw[e1]
  exact⟨S.CN h1,by rw[AC];exact h2,g,gs,rfl,e2⟩
section
variable {p:List Cl} (hp:∀c∈p,gD c) {cnd:Tm→List Nat→List Nat} (hc:∀(ρ:Int→Int) (t:Tm) (l:List Nat),cnd (b9 ρ t) l=cnd t l)
include hp hc
theorem Rl.step{s:RS}{i:IS}{h:IG}{hs:List IG}(hR:Rl s i)(hh:i.goals=h::hs):∃g gs,s.goals=g::gs∧match mJ p cnd i h hs with
 | .stop e=>iY p cnd s g gs=.stop e
 | .go i'=>∃s',iY p cnd s g gs=.go s'∧Rl s' i'
 | .fail i'=>iY p cnd s g gs=.fail∧iS i'.fresh s.chs i'.chs i'.σ i'.tr:=by
 obtain⟨_,_,g,gs,hg,_⟩:=hR.goal hh
 obtain⟨h',hs',e,k⟩:=aPZ hp hc hR hg
 rw[hh] at e
 cases e
 refine⟨g,gs,hg,?_⟩
 cases hr:iY p cnd s g gs with
 | stop e=>rw[hr] at k;simp only at k;rw[k]
 | go s'=>rw[hr] at k;simp only at k;obtain⟨i',e,k⟩:=k;rw[e];exact⟨s',rfl,k⟩
 | fail=>rw[hr] at k;simp only at k;obtain⟨i',e,k⟩:=k;rw[e];exact⟨rfl,k⟩
end
theorem a26(p:List Cl)(t:Tm):(eJ p t).length≤p.length:=by
 have:=List.length_filter_le (fun j=>match p[j]? with | some c=>IE c t | none=>false) (List.range p.length)
 rw[List.length_range] at this
 exact this
theorem R8(p:List Cl)(t:Tm):∀x∈eJ p t,x<p.length:=fun x hx=>by
 unfold eJ at hx
 exact wO.1 (List.mem_filter.1 hx).1
theorem aNB{p:List Cl}{N:Nat}{i':IS}:∀(n:Nat) (i:IS),(∀c∈i.chs,c.taken≤N)→gS p n i=some i'→i'.nn≤N
 | 0,i,_,e=>by simp [gS] at e
 | n+1,i,h,e=>by
  rw[gS] at e
  split at e
  · cases e
  · rename_i c hl
    split at e
    · cases e
      rw[M7]
      exact h c (PN hl)
    · rename_i hf
      obtain⟨F,e2⟩:=aNC _ _ (by simpa using hf)
      rw[e2] at e
      exact aNB n _ (fun c hc=>h c (PH _ hc)) e
def PV(k:Nat):yM→Prop
 | .go s=>s.nn=k
 | .fail s=>s.nn=k
 | .stop _=>True
theorem a6B{p:List Cl}{cnd:Tm→List Nat→List Nat}{i:IS}{g:IG}{rest:List IG}:PV (i.nn+1) (mJ p cnd i g rest):=by
 unfold mJ
 split
 · trivial
 split
 · exact rfl
 split
 · split
   · exact rfl
   · split
     · exact rfl
     · trivial
 split
 · trivial
 split
 · exact M7 _ _
 · exact M7 _ _
def XV:yM→Prop
 | .stop e=>e≠-1
 | _=>True
theorem a6C{p:List Cl}{cnd:Tm→List Nat→List Nat}{i:IS}{g:IG}{rest:List IG}:XV (mJ p cnd i g rest):=by
 unfold mJ
 split
 · exact(by decide:(3:Int)≠-1)
 split
 · trivial
 split
 · split
   · trivial
   · split
     · trivial
     · show p6 _≠-1
       unfold p6
       split
       · decide
       · split
         · decide
         · split<;>decide
 split
 · exact(by decide:(8:Int)≠-1)
 split<;>trivial
structure RI (p:List Cl) (B M k:Nat) (s:RS) (i:IS):Prop where
 r:Rl s i
 a:mE p B s
 x:IX p M i
 n:i.nn≤k
theorem RI.p5{p:List Cl}{B M k:Nat}{s:RS}{i:IS}(h:RI p B M k s i):i.chs.length≤B:=by rw[h.r.facts.2.2.1];exact h.a.a.p5
theorem RI.cr{p:List Cl}{B M k:Nat}{s:RS}{i:IS}(h:RI p B M k s i):iS i.fresh s.chs i.chs i.σ i.tr:=by obtain⟨_,_,_,C⟩:=h.r;exact C
theorem RI.cut{p:List Cl}{B M k:Nat}{s:RS}{i:IS}{g:IG}{gs:List IG}(h:RI p B M k s i)(hg:i.goals=g::gs):g.cut≤i.chs.length:=by
 obtain⟨_,_,g',gs',e,e2⟩:=h.r.goal hg
 rw[e2,h.r.facts.2.2.1]
 have:=h.a.k.goals.2 g' (by rw[e];simp)
 exact this
section
variable {p:List Cl} (hp:∀c∈p,gD c∧c.2.length≤6) (hpl:p.length≤20) {cnd:Tm→List Nat→List Nat} (hc:∀(ρ:Int→Int) (t:Tm) (l:List Nat),cnd (b9 ρ t) l=cnd t l) (hd:∀t l,(∀i∈cnd t l,i∈l)∧(cnd t l).length≤l.length)
include hp
theorem RI.Y1{B M k:Nat}(hB:B≤524288){s:RS}{i i':IS}(ha:mE p B s)(hC:iS i.fresh s.chs i.chs i.σ i.tr)(hx:IX p M i)(hn:i.nn≤k)(e:gS p i.chs.length i=some i'):∃s',RI p B M k s' i':=by
 have hp1:=fun c h=>(hp c h).1
 have key:=QJ hp1 i.chs.length s.chs i hC
 cases hr:fS p i.chs.length s.chs with
 | none=>rw[hr] at key;simp only at key;rw[key] at e;cases e
 | some s'=>
  rw[hr] at key
  obtain⟨i2,e2,R⟩:=key
  rw[e2] at e
  cases e
  rw[hC.len] at hr
  exact⟨s',R,ha.back hp hB hr,aNA hp1 _ s.chs i hC hx i' e2,aNB _ i (fun c hc=>kQ (hx.ch c hc).2.1 hn) e2⟩
theorem RI.back{B M k:Nat}(hB:B≤524288){s:RS}{i i':IS}(h:RI p B M k s i)(e:gS p i.chs.length i=some i'):∃s',RI p B M k s' i':=
 RI.Y1 hp hB h.a h.cr h.x h.n e
include hpl hc hd
theorem RI.step{B M k:Nat}(hB:B+26≤524288){s:RS}{i:IS}{g:IG}{gs:List IG}(h:RI p B M k s i)(hg:i.goals=g::gs):match mJ p cnd i g gs with
 | .stop e=>True
 | .go i'=>∃s',RI p (B+26) (M+520) (k+1) s' i'
 | .fail i'=>iS i'.fresh s.chs i'.chs i'.σ i'.tr∧IX p (M+520) i'∧i'.nn≤k+1∧∀i2,gS p i'.chs.length i'=some i2→∃s',RI p (B+26) (M+520) (k+1) s' i2:=by
 have hp1:=fun c h=>(hp c h).1
 have hn:=a6B (p:=p) (cnd:=cnd) (i:=i) (g:=g) (rest:=gs)
 have hx:=a6A hp1 hpl hd (rest:=gs) h.x h.r.facts.1 h.r.facts.2.1 (h.r.goal hg).1
 obtain⟨g',gs',e,k⟩:=h.r.step hp1 hc hg
 have hk:=h.n
 cases hs:mJ p cnd i g gs with
 | stop e=>trivial
 | go i'=>
  rw[hs] at hn hx k
  simp only[PV,PW] at hn hx k
  obtain⟨s',e1,R⟩:=k
  exact⟨s',R,h.a.step hp (by omega) hB hd e e1,hx,by omega⟩
 | fail i'=>
  rw[hs] at hn hx k
  simp only[PV,PW] at hn hx k
  obtain⟨e1,C⟩:=k
  exact⟨C,hx,by omega,fun i2 e2=>RI.Y1 hp hB (h.a.up (by omega)) C hx (by omega) e2⟩
end
theorem RI.start{p:List Cl}{q:List Tm}(hq:∀t∈q,bG 26 t∧t.k=3)(h6:q.length≤6):RI p 26 26 0 (lU q) (pF q):=by
 refine⟨aPY hq,mE.start hq h6,⟨oF,fun n hn=>(by cases hn),(by show 26+26*qI []≤26;simp [qI]),fun c hc=>(by cases hc),List.Pairwise.nil⟩,cU _⟩
theorem a59{p:List Cl}{cnd:Tm→List Nat→List Nat}{vars:List Int}{most fuel:Nat}{s:IS}(hg:s.goals= []):jU p cnd vars most fuel s=if most=0 then([],1) else match jD s.σ vars with
 | none=>([],3)
 | some a=>match gS p s.chs.length s with
  | none=>([a],0)
  | some s'=>(a::(jU p cnd vars (most - 1) fuel s').1,(jU p cnd vars (most - 1) fuel s').2):=by
 rw[jU.eq_def,hg]
 simp only
 split<;>rfl
theorem a58{p:List Cl}{cnd:Tm→List Nat→List Nat}{vars:List Int}{most fuel:Nat}{s:IS}{g:IG}{rest:List IG}(hg:s.goals=g::rest):jU p cnd vars most fuel s=if fuel=0 then([],2) else match mJ p cnd s g rest with
 | .stop e=>([],e)
 | .go s'=>jU p cnd vars most (fuel - 1) s'
 | .fail s'=>match gS p s'.chs.length s' with
  | none=>([],0)
  | some s''=>jU p cnd vars most (fuel - 1) s'':=by
 rw[jU.eq_def,hg]
 simp only
 split<;>rfl
section
variable {st0 st:aB} {S c m:Nat} {qt qc qn:AV} {p:List Cl} {q:List Tm} {idx:Bool} {fuel used mx:Int} {nd:List AV} {i:IS}
theorem dI.acc{b:Nat}{l:List AV}(h:dI st0 st S c m qt qc qn p q idx fuel used mx nd i)(hb:l≠[]→st b=none):dI (bE st0 b l) (bE st b l) S c m qt qc qn p q idx fuel used mx nd i:=by
 cases l with
 | nil=>exact h
 | cons x l=>
  have hn:=hb (by simp)
  have hne:∀a∈jL S c m qt qc qn,bE st b (x::l) a=st a:=fun a ha=>nN (by rintro rfl;exact h.held a ha hn)
  have a5F:∀a∈jL S c m qt qc qn,bE st0 b (x::l) a=st0 a:=fun a ha=>nN (by rintro rfl;exact h.held a ha hn)
  refine⟨by rw[hne S (d8.2 (.inl rfl))];exact h.cell,h.sto.E5 (hne c (d8.2 (.inr (.inl rfl)))) (hne m (d8.2 (.inr (.inr (.inl rfl))))) (fun b hb=>hne b (d8.2 (.inr (.inr (.inr (.inl hb)))))),
   h.acC.aV fun b hb=>hne b (d8.2 (.inr (.inr (.inr (.inr (.inl hb)))))),h.acN.aV fun b hb=>hne b (d8.2 (.inr (.inr (.inr (.inr (.inr hb)))))),h.ndl,h.ndw,h.dis,fun a ha=>by rw[a5F a ha];exact h.new a ha,fun a o ha=>?_⟩
  by_cases e:a=b
  · subst e
    rw[kS (by simp),aB.aJ] at ha ⊢
    exact ha
  · rw[nN e] at ha ⊢
    exact h.aV a o ha
theorem dI.C7{b:Nat}{l:List AV}{st2:aB}(h:dI (bE st0 b l) st2 S c m qt qc qn p q idx fuel used mx nd i)(hb:l≠[]→st0 b=none):∃s,st2=bE s b l∧(l≠[]→s b=none)∧dI st0 s S c m qt qc qn p q idx fuel used mx nd i:=by
 cases l with
 | nil=>exact⟨st2,rfl,fun h=>absurd rfl h,h⟩
 | cons x l=>
  have hn:=hb (by simp)
  have h2:st2 b=some (.cells ((x::l).flatMap AV.cells)):=h.aV b _ (by rw[kS (by simp),aB.aJ])
  have hbn:b∉jL S c m qt qc qn:=fun hm=>by
   have:=h.new b hm
   rw[kS (by simp),aB.aJ] at this
   cases this
  obtain⟨s',hs'⟩:∃s':aB,∀y,s' y=if y=b then none else st2 y:=⟨_,fun _=>rfl⟩
  have hne:∀a∈jL S c m qt qc qn,s' a=st2 a:=fun a ha=>by rw[hs',aE (by rintro rfl;exact hbn ha)]
  refine⟨s',?_,fun _=>by rw[hs',aG rfl],?_⟩
  · funext y
    by_cases e:y=b
    · subst e;rw[kS (by simp),aB.aJ,h2]
    · rw[nN e,hs',aE e]
  · refine⟨by rw[hne S (d8.2 (.inl rfl))];exact h.cell,h.sto.E5 (hne c (d8.2 (.inr (.inl rfl)))) (hne m (d8.2 (.inr (.inr (.inl rfl))))) (fun b hb=>hne b (d8.2 (.inr (.inr (.inr (.inl hb)))))),
     h.acC.aV fun b hb=>hne b (d8.2 (.inr (.inr (.inr (.inr (.inl hb)))))),h.acN.aV fun b hb=>hne b (d8.2 (.inr (.inr (.inr (.inr (.inr hb)))))),h.ndl,h.ndw,h.dis,fun a ha=>?_,fun a o ha=>?_⟩
    · have:=h.new a ha
      rwa [nN (by rintro rfl;exact hbn ha)] at this
    · have e:a≠b:=by rintro rfl;rw[hn] at ha;cases ha
      rw[hs',aE e]
      exact h.aV a o (by rw[nN e];exact ha)
theorem ME{st:aB}{b:Nat}{o:AO}(h:st b=none):eD st (st.aC b o):=fun x p hx=>by
 rw[aB.aH _ _ (by rintro rfl;rw[h] at hx;cases hx)];exact hx
theorem O1{S b:Nat}(hne:S≠b)(X Y:AO):∃s0:aB,s0 S=some X∧s0 b=some Y∧∀st:aB,st S=some X→st b=some Y→eD s0 st:=by
 refine⟨(one S X).aC b Y,by rw[aB.aH _ _ hne];exact uM,aB.aJ _ _ _,fun st h1 h2 x p hx=>?_⟩
 by_cases e:x=b
 · subst e;rw[aB.aJ] at hx;cases hx;exact h2
 · rw[aB.aH _ _ e] at hx;exact fP h1 x p hx
theorem dI.box{b:Nat}{o:AO}(h:dI st0 st S c m qt qc qn p q idx fuel used mx nd i)(hn:st b=none):dI (st0.aC b o) (st.aC b o) S c m qt qc qn p q idx fuel used mx nd i:=by
 have hne:∀(s:aB) a,a∈jL S c m qt qc qn→(s.aC b o) a=s a:=fun s a ha=>aB.aH _ _ (by rintro rfl;exact h.held a ha hn)
 refine⟨by rw[hne _ S (d8.2 (.inl rfl))];exact h.cell,h.sto.E5 (hne _ c (d8.2 (.inr (.inl rfl)))) (hne _ m (d8.2 (.inr (.inr (.inl rfl))))) (fun b hb=>hne _ b (d8.2 (.inr (.inr (.inr (.inl hb)))))),
  h.acC.aV fun b hb=>hne _ b (d8.2 (.inr (.inr (.inr (.inr (.inl hb)))))),h.acN.aV fun b hb=>hne _ b (d8.2 (.inr (.inr (.inr (.inr (.inr hb)))))),h.ndl,h.ndw,h.dis,fun a ha=>by rw[hne _ a ha];exact h.new a ha,fun a o' ha=>?_⟩
 by_cases e:a=b
 · subst e
   rw[aB.aJ] at ha ⊢
   exact ha
 · rw[aB.aH _ _ e] at ha ⊢
   exact h.aV a o' ha
theorem dI.unbox{b:Nat}{o:AO}(h:dI (st0.aC b o) st S c m qt qc qn p q idx fuel used mx nd i)(hn:st0 b=none):dI st0 st S c m qt qc qn p q idx fuel used mx nd i:=by
 refine⟨h.cell,h.sto,h.acC,h.acN,h.ndl,h.ndw,h.dis,fun a ha=>?_,fun a o' ha=>?_⟩
 · have:=h.new a ha
   by_cases e:a=b
   · subst e;exact hn
   · rwa [aB.aH _ _ e] at this
 · have e:a≠b:=by rintro rfl;rw[hn] at ha;cases ha
   exact h.aV a o' (by rw[aB.aH _ _ e];exact ha)
end
end Go.AW
namespace Go.AW
theorem a82(p:List Cl)(cnd:Tm→List Nat→List Nat)(vars:List Int)(k:Nat):∀(n most f:Nat) (s:RS),most+f≤n →
 ((iP p cnd vars most f s).2≠2→iP p cnd vars most (f+k) s=iP p cnd vars most f s)∧(iP p cnd vars most f s).1 <+: (iP p cnd vars most (f+k) s).1:=by
 intro n
 induction n with
 | zero=>
  intro most f s hn
  obtain rfl:most=0:=by omega
  obtain rfl:f=0:=by omega
  cases hg:s.goals with
  | nil=>rw[uO hg,uO hg];simp
  | cons g rest=>rw[rS (fuel:=0) hg];simp
 | succ n ih=>
  intro most f s hn
  cases hg:s.goals with
  | nil=>
   rw[uO hg,uO hg]
   by_cases hm:most=0
   · rw[aG hm,aG hm];simp
   rw[aE hm,aE hm]
   cases ha:jD s.σ vars with
   | none=>simp
   | some a=>
    simp only
    cases hb:fS p s.chs.length s.chs with
    | none=>simp
    | some s'=>
     obtain⟨h1,h2⟩:=ih (most - 1) f s' (by omega)
     simp only
     refine⟨fun h=>by rw[h1 h],?_⟩
     rw[List.cons_prefix_cons]
     exact⟨rfl,h2⟩
  | cons g rest=>
   by_cases hf:f=0
   · subst hf
     rw[rS (fuel:=0) hg];simp
   rw[rS hg,rS hg,aE hf,aE (by omega)]
   cases hst:iY p cnd s g rest with
   | stop e=>simp
   | go s'=>
    have:=ih most (f - 1) s' (by omega)
    rw[show f - 1+k=f+k - 1 by omega] at this
    exact this
   | fail=>
    simp only
    cases hb:fS p s.chs.length s.chs with
    | none=>simp
    | some s'=>
     have:=ih most (f - 1) s' (by omega)
     rw[show f - 1+k=f+k - 1 by omega] at this
     exact this
theorem bAJ{p:List Cl}{cnd:Tm→List Nat→List Nat}{q:List Tm}{most fuel:Int}(h:jK p q most fuel=false):fV p cnd q most fuel=([],9):=by
 unfold fV
 rw[h];try rfl
theorem NX{p:List Cl}{cnd:Tm→List Nat→List Nat}{q:List Tm}{most fuel:Int}(h:jK p q most fuel=true):fV p cnd q most fuel=wA p cnd q most.toNat fuel.toNat:=by
 unfold fV
 rw[aG h]
theorem FV{p:List Cl}{q:List Tm}{most fuel:Int}:jK p q most fuel=true↔(nB p=true∧g8 q=true∧0≤most∧most≤20∧0≤fuel∧fuel≤300):=by
 simp only[jK,bV,bK]
theorem a83{p:List Cl}{cnd:Tm→List Nat→List Nat}{s:RS}{g:RG}{rest:List RG}{e:Int}(h:iY p cnd s g rest=.stop e):e≠9:=by
 unfold iY at h
 intro he
 subst he
 repeat' split at h
 all_goals first | (cases h;done) | (injection h with h;unfold p6 at h;repeat' split at h;all_goals omega) | (injection h with h;omega)
theorem aOZ(p:List Cl)(cnd:Tm→List Nat→List Nat)(vars:List Int):∀(n most f:Nat) (s:RS),most+f≤n→(iP p cnd vars most f s).2≠9∧(iP p cnd vars most f s).1.length≤most:=by
 intro n
 induction n with
 | zero=>
  intro most f s hn
  obtain rfl:most=0:=by omega
  obtain rfl:f=0:=by omega
  cases hg:s.goals with
  | nil=>rw[uO hg];simp
  | cons g rest=>rw[rS (fuel:=0) hg];simp
 | succ n ih=>
  intro most f s hn
  cases hg:s.goals with
  | nil=>
   rw[uO hg]
   by_cases hm:most=0
   · rw[aG hm];simp
   rw[aE hm]
   cases ha:jD s.σ vars with
   | none=>simp
   | some a=>
    simp only
    cases hb:fS p s.chs.length s.chs with
    | none=>simp;omega
    | some s'=>
     obtain⟨h1,h2⟩:=ih (most - 1) f s' (by omega)
     simp only[aU]
     exact⟨h1,by omega⟩
  | cons g rest=>
   by_cases hf:f=0
   · subst hf
     rw[rS (fuel:=0) hg];simp
   rw[rS hg,aE hf]
   cases hst:iY p cnd s g rest with
   | stop e=>exact⟨a83 hst,iU _⟩
   | go s'=>exact ih most (f - 1) s' (by omega)
   | fail=>
    simp only
    cases hb:fS p s.chs.length s.chs with
    | none=>simp
    | some s'=>exact ih most (f - 1) s' (by omega)
theorem bAM{p:List Cl}{cnd:Tm→List Nat→List Nat}{q:List Tm}{most fuel:Int}:(fV p cnd q most fuel).2=9↔jK p q most fuel=false:=by
 constructor
 · intro h
   cases hk:jK p q most fuel with
   | false=>rfl
   | true=>rw[NX hk] at h;exact absurd h (aOZ p cnd _ _ _ _ _ (cU _)).1
 · intro h
   rw[bAJ h]
theorem bAL{p:List Cl}{cnd:Tm→List Nat→List Nat}{q:List Tm}{most fuel:Int}(h:jK p q most fuel=true):((fV p cnd q most fuel).1.length:Int)≤most:=by
 rw[NX h]
 have h1:=(aOZ p cnd (bT q []) _ most.toNat fuel.toNat (lU q) (cU _)).2
 have h2:=(FV.1 h).2.2.1
 unfold wA
 omega
theorem R9{p:List Cl}{cnd:Tm→List Nat→List Nat}{q:List Tm}{most fuel fuel':Int}(h:jK p q most fuel=true)(hf:fuel≤fuel')(hf':fuel'≤300) :
 ((fV p cnd q most fuel).2≠2→fV p cnd q most fuel'=fV p cnd q most fuel)∧(fV p cnd q most fuel).1 <+: (fV p cnd q most fuel').1:=by
 obtain⟨h1,h2,h3,h4,h5,h6⟩:=FV.1 h
 have h':jK p q most fuel'=true:=FV.2 ⟨h1,h2,h3,h4,by omega,by omega⟩
 rw[NX h,NX h']
 obtain⟨k,hk⟩:∃k:Nat,fuel'.toNat=fuel.toNat+k:=⟨fuel'.toNat - fuel.toNat,by omega⟩
 rw[hk]
 exact a82 p cnd (bT q []) k _ most.toNat fuel.toNat (lU q) (cU _)
theorem bCS{l:List Tm}{f g:Int→Tm}(hc:∀t∈l,t.cv=true)(hf:∀t∈l,∀v∈t.vl,(f v).cv=true)(h:∀t∈l,(t.aM f).aM g=t):lB (l.map (Tm.aM f))=lB l:=by
 have hk:(0:Int)≠1:=by decide
 have hW:∀l:List Tm,JE (.mk 0 0 ⟨#[]⟩ l)=.mk 0 0 ⟨#[]⟩ (lB l):=fun l=>by
  have e:(Tm.mk 0 0 ⟨#[]⟩ l).vars []=bT l []:=by simp [Tm.vars]
  unfold JE lB
  rw[Tm.kO _ hk,e]
 have:=variant (x:=.mk 0 0 ⟨#[]⟩ l) (y:=.mk 0 0 ⟨#[]⟩ (l.map (Tm.aM f))) (f:=f) (g:=g) (Tm.nQ.2 ⟨fun h=>absurd h hk,hc⟩) (fun v hv=>by
  obtain⟨t,ht,hvt⟩:=(Tm.lC hk).1 hv
  exact hf t ht v hvt) (by rw[Tm.kO f hk]) (by
  rw[Tm.kO g hk,pR]
  congr 1
  conv=>lhs;rw[←List.map_id l]
  exact qU fun t ht=>(h t ht).symm)
 rw[hW,hW] at this
 injection this with _ _ _ e
 exact e.symm
theorem a9H{l:List Tm}(hc:∀t∈l,t.cv=true):lB (lB l)=lB l:=by
 have h:=bCS (l:=l) (f:=fun v=>vr (eC v (bT l []) 0)) (g:=fun i=>vr (((bT l [])[i.toNat]?).getD 0)) hc (fun _ _ _ _=>rfl) fun t ht=>by
  rw[uK]
  conv=>rhs;rw[←I0 t (hc t ht)]
  refine pI t fun v hv=>?_
  rw[uL]
  obtain⟨j,h1,h2,h3,_⟩:=aNF v (bT l []) 0 ((yF l [] hc).2 (.inr ⟨t,ht,hv⟩))
  rw[h1,show((0:Int)+(j:Nat)).toNat=j by omega,h3]
  try rfl
 exact h
def PB(vars:List Int)(a:List Tm):Prop:=a.length=vars.length∧a.all Tm.valid=true∧lB a=a
theorem aTT{N:Nat}{σ:Sub}(hg:cQ σ)(ho:cX (bG N) σ){vars:List Int}(hv:∀v∈vars,0≤v∧v<(N:Int)){a:List Tm}(h:jD σ vars=some a):PB vars a:=by
 obtain⟨rk,B,G⟩:=hg.rs
 unfold jD at h
 split at h
 · rename_i hh
   cases h
   obtain⟨h1,h2⟩:=hh
   have hok:∀t∈vars.map (rs σ),bG N t:=fun t ht=>by
    obtain⟨v,hvm,rfl⟩:=cB.1 ht
    have hf:=dW.1 h1 _ ht
    unfold eQ at hf
    simp only[bV,bK] at hf
    exact⟨G.mN ho.mN v (hv v hvm).1 (hv v hvm).2,hf.2⟩
   exact⟨by rw[a9I hok,aF],by rw[aO2 hok h1,bK];exact h2,a9H fun t ht=>(hok t ht).1.2.1⟩
 · cases h
theorem aO0{p:List Cl}(hp:∀c∈p,gD c∧c.2.length≤6)(hpl:p.length≤20){cnd:Tm→List Nat→List Nat}(hd:∀t l,(∀i∈cnd t l,i∈l)∧(cnd t l).length≤l.length){vars:List Int}(hv:∀v∈vars,0≤v∧v<26) :
 ∀(n most fuel:Nat) (s:RS) (B:Nat),most+fuel≤n→mE p B s→B+26*fuel≤8000→(iP p cnd vars most fuel s).1.length≤most∧∀a∈(iP p cnd vars most fuel s).1,PB vars a:=by
 intro n
 induction n with
 | zero=>
  intro most fuel s B hn hs hB
  obtain rfl:most=0:=by omega
  obtain rfl:fuel=0:=by omega
  cases hg:s.goals with
  | nil=>rw[uO hg];simp
  | cons g rest=>rw[rS hg];simp
 | succ n ih=>
  intro most fuel s B hn hs hB
  cases hg:s.goals with
  | nil=>
   rw[uO hg]
   by_cases hm:most=0
   · rw[aG hm];simp
   rw[aE hm]
   cases ha:jD s.σ vars with
   | none=>simp
   | some a=>
    have hok:=aTT hs.a.gY hs.a.ok (fun v h=>⟨(hv v h).1,by have:=(hv v h).2;have:=hs.l.1;omega⟩) ha
    simp only
    cases hb:fS p s.chs.length s.chs with
    | none=>
     simp only[aU,aZ,cY,dK,dQ]
     exact⟨by omega,fun x hx=>by rw[hx];exact hok⟩
    | some s'=>
     obtain⟨h1,h2⟩:=ih (most - 1) fuel s' B (by omega) (hs.back hp (by omega) hb) hB
     simp only[aU,cY]
     refine⟨by omega,fun x hx=>?_⟩
     rcases hx with rfl | hx
     · exact hok
     · exact h2 x hx
  | cons g rest=>
   rw[rS hg]
   by_cases hf:fuel=0
   · rw[aG hf];simp
   rw[aE hf]
   cases hst:iY p cnd s g rest with
   | stop e=>simp
   | go s'=>exact ih most (fuel - 1) s' (B+26) (by omega) (hs.step hp (by omega) (by omega) hd hg hst) (by omega)
   | fail=>
    simp only
    cases hb:fS p s.chs.length s.chs with
    | none=>simp
    | some s'=>exact ih most (fuel - 1) s' B (by omega) (hs.back hp (by omega) hb) (by omega)
theorem UR{q:List Tm}(hq:∀t∈q,bG 26 t∧t.k=3):(∀v∈bT q [],0≤v∧v<26)∧(bT q []).length≤26:=by
 have hv:∀v∈bT q [],0≤v∧v<26:=fun v hv=>by
  rcases (yF q [] fun t ht=>(hq t ht).1.1.2.1).1 hv with h | ⟨t,ht,h⟩
  · cases h
  · exact(hq t ht).1.1.2.2 v h
 refine⟨hv,?_⟩
 have hnd:=OV q [] (fun t ht=>Tm.tZ t (hq t ht).1.1.2.1) oF
 exact FA (N:=26) hnd fun n hn=>hv n hn
theorem aPS(p:List Cl){cnd:Tm→List Nat→List Nat}(hd:∀t l,(∀i∈cnd t l,i∈l)∧(cnd t l).length≤l.length)(q:List Tm)(most fuel:Int):(fV p cnd q most fuel).1.length≤20∧∀a∈(fV p cnd q most fuel).1,a.length≤26∧a.all Tm.valid=true:=by
 unfold fV
 split
 · rename_i h
   simp only[jK,bV,bK] at h
   obtain⟨hp,hq,h1,h2,h3,h4⟩:=h
   obtain⟨p1,p2⟩:=NO hp
   obtain⟨q1,q2⟩:=FN hq
   obtain⟨v1,v2⟩:=UR q2
   obtain⟨r1,r2⟩:=aO0 p2 p1 hd v1 _ most.toNat fuel.toNat (lU q) 26 (cU _) (mE.start q2 q1) (by omega)
   unfold wA
   refine⟨by omega,fun a ha=>?_⟩
   obtain⟨h5,h6,_⟩:=r2 a ha
   exact⟨by omega,h6⟩
 · simp
theorem bAK(p:List Cl){cnd:Tm→List Nat→List Nat}(hd:∀t l,(∀i∈cnd t l,i∈l)∧(cnd t l).length≤l.length)(q:List Tm)(most fuel:Int):∀a∈(fV p cnd q most fuel).1,g8 q=true∧PB (bT q []) a:=by
 unfold fV
 split
 · rename_i h
   simp only[jK,bV,bK] at h
   obtain⟨hp,hq,h1,h2,h3,h4⟩:=h
   obtain⟨p1,p2⟩:=NO hp
   obtain⟨q1,q2⟩:=FN hq
   obtain⟨r1,r2⟩:=aO0 p2 p1 hd (UR q2).1 _ most.toNat fuel.toNat (lU q) 26 (cU _) (mE.start q2 q1) (by omega)
   exact fun a ha=>⟨hq,r2 a ha⟩
 · simp

def TS(x:Tm):ByteArray:=if x.k=1 then⟨#[]⟩ else if x.k=2 then m7 x.n else x.s++⟨#[47]⟩++k9 20 x.ts.length ⟨#[]⟩
def zW(t:Tm):ByteArray:=if t.k=1 then⟨#[]⟩ else match t.ts with
 | []=>⟨#[]⟩
 | x::_=>TS x
def MG(a b:ByteArray):Bool:=decide (a=⟨#[]⟩)||(decide (b=⟨#[]⟩)||decide (a=b))
def EE(p:List Cl)(key:ByteArray)(i:Nat):Bool:=match p[i]? with
 | some c=>MG (zW c.1) key
 | none=>false
def tY(p:List Cl)(t:Tm)(l:List Nat):List Nat:=l.filter (EE p (zW t))
section
variable (p:List Cl)
variable {p}
end
end Go.AW

namespace Go.AW
open Go.Proofs.Tryz
open Go.Shelf
set_option linter.unusedSimpArgs false
set_option linter.unusedVariables false
set_option maxRecDepth 100000
def a6S:Go.Shelf.Ren:=⟨fun | 171=>249 | 243=>310 | 246=>344 | 283=>361 | 284=>362 | 285=>363 | 286=>364 | 129=>369 | 317=>368 | 318=>370 | 319=>371 | 320=>372 | 337=>374 | 338=>375 | n=>n,fun | 3=>3 | 9=>9 | 2=>2 | 4=>4 | 171=>353 | 0=>0 | 53=>354 | 37=>22 | 5=>5 | 173=>357 | 212=>362 | 51=>363 | 20=>20 | 213=>364 | 46=>285 | 232=>367 | 233=>368 | n=>n,fun | 17=>1 | 18=>2 | 19=>3 | n=>n⟩
theorem a6R:Go.Proofs.LaysM.n171 prog a6S:={
 mixed:=by kernel_rfl
 f129:=Go.Proofs.Tryz.func369.trans (eA some (by kernel_rfl))
 f171:=Go.Proofs.Tryz.func249.trans (eA some (by kernel_rfl))
 f243:=Go.Proofs.Tryz.func310.trans (eA some (by kernel_rfl))
 f246:=Go.Proofs.Tryz.func344.trans (eA some (by kernel_rfl))
 f283:=Go.Proofs.Tryz.func361.trans (eA some (by kernel_rfl))
 f284:=Go.Proofs.Tryz.func362.trans (eA some (by kernel_rfl))
 f285:=Go.Proofs.Tryz.func363.trans (eA some (by kernel_rfl))
 f286:=Go.Proofs.Tryz.func364.trans (eA some (by kernel_rfl))
 f317:=Go.Proofs.Tryz.func368.trans (eA some (by kernel_rfl))
 f318:=Go.Proofs.Tryz.func370.trans (eA some (by kernel_rfl))
 f319:=Go.Proofs.Tryz.func371.trans (eA some (by kernel_rfl))
 f320:=Go.Proofs.Tryz.func372.trans (eA some (by kernel_rfl))
 f337:=Go.Proofs.Tryz.func374.trans (eA some (by kernel_rfl))
 f338:=Go.Proofs.Tryz.func375.trans (eA some (by kernel_rfl))
 t0:=Go.Proofs.Tryz.underlying0
 a0:=Go.Proofs.Tryz.isAgg0
 z0:=Go.Proofs.Tryz.sizeOf0
 v0:=Go.Proofs.Tryz.zeroValue0
 t2:=Go.Proofs.Tryz.underlying2
 a2:=Go.Proofs.Tryz.isAgg2
 z2:=Go.Proofs.Tryz.sizeOf2
 v2:=Go.Proofs.Tryz.zeroValue2
 t3:=Go.Proofs.Tryz.underlying3
 a3:=Go.Proofs.Tryz.isAgg3
 z3:=Go.Proofs.Tryz.sizeOf3
 v3:=Go.Proofs.Tryz.zeroValue3
 t4:=Go.Proofs.Tryz.underlying4
 a4:=Go.Proofs.Tryz.isAgg4
 z4:=Go.Proofs.Tryz.sizeOf4
 v4:=Go.Proofs.Tryz.zeroValue4
 t5:=Go.Proofs.Tryz.underlying5
 a5:=Go.Proofs.Tryz.isAgg5
 z5:=Go.Proofs.Tryz.sizeOf5
 v5:=Go.Proofs.Tryz.zeroValue5
 t9:=Go.Proofs.Tryz.underlying9
 a9:=Go.Proofs.Tryz.isAgg9
 z9:=Go.Proofs.Tryz.sizeOf9
 v9:=Go.Proofs.Tryz.zeroValue9
 t20:=Go.Proofs.Tryz.underlying20
 a20:=Go.Proofs.Tryz.isAgg20
 z20:=Go.Proofs.Tryz.sizeOf20
 v20:=Go.Proofs.Tryz.zeroValue20
 t37:=Go.Proofs.Tryz.underlying22
 a37:=Go.Proofs.Tryz.isAgg22
 z37:=Go.Proofs.Tryz.sizeOf22
 v37:=Go.Proofs.Tryz.zeroValue22
 t46:=Go.Proofs.Tryz.underlying285
 a46:=Go.Proofs.Tryz.isAgg285
 z46:=Go.Proofs.Tryz.sizeOf285
 v46:=Go.Proofs.Tryz.zeroValue285
 t51:=Go.Proofs.Tryz.underlying363
 a51:=Go.Proofs.Tryz.isAgg363
 z51:=Go.Proofs.Tryz.sizeOf363
 v51:=Go.Proofs.Tryz.zeroValue363
 t53:=Go.Proofs.Tryz.underlying354
 a53:=Go.Proofs.Tryz.isAgg354
 z53:=Go.Proofs.Tryz.sizeOf354
 v53:=Go.Proofs.Tryz.zeroValue354
 t171:=Go.Proofs.Tryz.underlying353
 a171:=Go.Proofs.Tryz.isAgg353
 z171:=Go.Proofs.Tryz.sizeOf353
 v171:=Go.Proofs.Tryz.zeroValue353
 t173:=Go.Proofs.Tryz.underlying357
 a173:=Go.Proofs.Tryz.isAgg357
 z173:=Go.Proofs.Tryz.sizeOf357
 v173:=Go.Proofs.Tryz.zeroValue357
 t212:=Go.Proofs.Tryz.underlying362
 a212:=Go.Proofs.Tryz.isAgg362
 z212:=Go.Proofs.Tryz.sizeOf362
 v212:=Go.Proofs.Tryz.zeroValue362
 t213:=Go.Proofs.Tryz.underlying364
 a213:=Go.Proofs.Tryz.isAgg364
 z213:=Go.Proofs.Tryz.sizeOf364
 t232:=Go.Proofs.Tryz.underlying367
 a232:=Go.Proofs.Tryz.isAgg367
 z232:=Go.Proofs.Tryz.sizeOf367
 v232:=Go.Proofs.Tryz.zeroValue367
 t233:=Go.Proofs.Tryz.underlying368
 a233:=Go.Proofs.Tryz.isAgg368
 z233:=Go.Proofs.Tryz.sizeOf368
 v233:=Go.Proofs.Tryz.zeroValue368
 g17:=by kernel_rfl
 g18:=by kernel_rfl
 g19:=by kernel_rfl
 i0:=by kernel_rfl
 i2:=by kernel_rfl
 i3:=by kernel_rfl
 i4:=by kernel_rfl
 i5:=by kernel_rfl
 i9:=by kernel_rfl
 i20:=by kernel_rfl
 i37:=by kernel_rfl
 i46:=by kernel_rfl
 i51:=by kernel_rfl
 i53:=by kernel_rfl
 i171:=by kernel_rfl
 i173:=by kernel_rfl
 i212:=by kernel_rfl
 i232:=by kernel_rfl
 i233:=by kernel_rfl
 m17:=by kernel_rfl
 m18:=by kernel_rfl
 m19:=by kernel_rfl }
theorem RF:∀(f u:Nat) (acc:ByteArray),u<10 ^ f→0<f→k9 f u acc=⟨(Lib.decDigits u).toArray⟩++acc
 | 0,_,_,_,h=>absurd h (by decide)
 | f+1,u,acc,h,_=>by
  rw[k9,Lib.decDigits]
  rw[Nat.pow_succ] at h
  by_cases h9:9<u
  · have hf:0<f:=by
     rcases PQ f with rfl | h'
     · simp at h;omega
     · exact h'
    rw[aG h9,dif_neg (by omega),RF f (u / 10) _ (by omega) hf]
    apply DE
    simp [GO]
  · rw[aE h9,dif_pos (by omega)]
theorem a6T{n:Int}(h1: -999≤n)(h2:n≤999):(⟨(Lib.itoa n).toArray⟩:ByteArray)=m7 n:=by
 unfold Lib.itoa m7
 by_cases h:n<0
 · rw[aG h,aG h,RF 20 _ _ (by omega) (by decide),show n.natAbs=(-n).toNat by omega]
   apply DE
   simp [GO]
 · rw[aE h,aE h,RF 20 _ _ (by omega) (by decide)]
   apply DE
   simp [GO]
theorem aZR(n:Int):(m7 n).size≤21:=by
 have h0:(⟨#[]⟩:ByteArray).size=0:=rfl
 unfold m7
 split
 · have:=BT 20 (-n).toNat ⟨#[]⟩
   rw[cK]
   show 1+_≤_
   omega
 · have:=BT 20 n.toNat ⟨#[]⟩
   omega
def jG:AO:=.tab (Lib.pow10Tab.map fun z=>Value.int .u64 z).toArray
abbrev iE:Nat:=1
def aOR:String:= "internal/strconv.uint64pow10"
theorem bAT{P:Program}{w:World}{g:Nat}{name:String}{k:IntKind}{zs:List Int}{st:aB}(hg:P.globalNamed name=some g)(S:cS w.heap st)(h:st g=some (.tab (zs.map fun z=>Value.int k z).toArray)):Lib.TabIs P w name k zs:=by
 obtain⟨_,t,e⟩:=S g _ h
 unfold Lib.TabIs World.var?
 rw[hg,KS,e]
theorem UA(n:Int)(h1: -999≤n)(h2:n≤999)(st:aB)(hT:st iE=some jG):aD prog 249 [.int .i64 n] st (fun r st'=>r=.str (m7 n)∧st'=st):=by
 refine⟨⟨_,func249,rfl,by kernel_rfl⟩,fun w vs S V=>?_⟩
 obtain rfl:vs= [.int .i64 n]:=by
  obtain⟨v,r,rfl,v1,v2⟩:=V
  obtain rfl:r= []:=v2
  rw[v1.kM]
 refine(Go.Proofs.Any.strconv_Itoa a6R n (by omega) (by omega) w (bAT (by kernel_rfl) S hT)).mono ?_
 rintro e w' ⟨rfl,k,os,rfl⟩
 rw[a6T h1 h2]
 have X:Ext w.heap (Sort.grow (w.drewN k) os).heap:=⟨by simp [Sort.grow],fun b hb=>by simp only[Sort.grow,World.heap_drewN];rw[Array.getElem?_append_left hb]⟩
 exact⟨_,.str (m7 n),st,rfl,⟨rfl,rfl,by have:=aZR n;show _≤(9223372036854775807:Nat);omega⟩,S.ext X,X.step st,⟨rfl,rfl,rfl⟩,rfl,rfl⟩
end Go.AW

namespace Go.AW
open Go.Proofs.Tryz
theorem UE{N:Int}{t:Tm}(h:bG N t):(t.k=1∨t.k=2∨t.k=3)∧(t.k=1→t.ts= [])∧(t.k=2→-999≤t.n∧t.n≤999)∧(t.k=3→t.s.size≤6)∧t.ts.length≤4:=by
 obtain⟨h,-⟩:=h
 obtain⟨k,n,s,ts⟩:=t
 have hk:=h.kind
 refine⟨hk.1,fun e=>?_,fun e=>?_,fun e=>?_,hk.2⟩<;>simp only[Tm.k] at e<;>subst e
 · exact h.var.2.2.2
 · have:=(h.own (by decide)).1
   simp [eF] at this
   simp only[Tm.n];omega
 · have:=(h.own (by decide)).1
   simp [eF] at this
   exact(TY this.1.2).2
theorem a79{N:Int}{t:Tm}(h:bG N t){x:Tm}{l:List Tm}(e:t.ts=x::l):bG N x:=by
 have h1:t.k≠1:=fun hk=>by have:=(UE h).2.1 hk;rw[e] at this;cases this
 exact rP N t h1 h x (by rw[e];simp)
theorem a6W{N:Int}{t:Tm}(h:bG N t):zW t=match t.ts with
 | []=>⟨#[]⟩
 | x::_=>TS x:=by
 unfold zW
 by_cases h1:t.k=1
 · rw[aG h1,(UE h).2.1 h1]
 · rw[aE h1]
   try rfl
abbrev N5:=zi aW (zi cW (zi cA bR))
theorem ZJ{N:Int}{t:Tm}(ht:bG N t)(st:aB)(hT:st iE=some jG):aD prog 159 [t.av] st (fun r st'=>r=.str (zW t)∧st'=st):=by
 refine aD.drop ?_
 rw[a6W ht]
 have hx:=@a79 N t ht
 obtain⟨k,n,s,ts⟩:=t
 simp only[Tm.ts] at hx ⊢
 rw[aX]
 refine wF [1000000] 1 func159 ntmps159 rfl rfl ?_
 intro _
 simp only[aF,aA,seval,N5]
 refine aP (fun h=>?_) (fun h=>?_)
 · have h':ts= []:=o0 (by simp at h;simp [h])
   subst h'
   simp only[aA,seval]
   first | exact aL.refl _ | exact⟨aL.refl _,rfl⟩
 cases ts with
 | nil=>simp at h
 | cons x l=>
  obtain⟨hk,h1,h2,h3,h4⟩:=UE (hx rfl)
  obtain⟨xk,xn,xs,xt⟩:=x
  simp only[Tm.k,Tm.ts,Tm.n,Tm.s] at hk h1 h2 h3 h4
  have hat:c8 prog 34 (.slice ((Tm.mk xk xn xs xt).av::l.map Tm.av)) (.int .i64 0)=some (.pptr (.agg [.int .i64 xk,.int .i64 xn,.str xs,.slice (xt.map Tm.av)])):=by
   rw[←aX]
   exact bH (av:=Tm.av) (l:=.mk xk xn xs xt::l) (i:=0) bQ rfl (aN _)
  have hdx:m7 (xt.length:Int)=k9 20 xt.length ⟨#[]⟩:=by unfold m7;rw[aE (by omega),jO]
  have hu:TS (.mk xk xn xs xt)=if xk=1 then⟨#[]⟩ else if xk=2 then m7 xn else xs++⟨#[47]⟩++k9 20 xt.length ⟨#[]⟩:=rfl
  simp only
  rw[hu]
  simp only[hat,aA,↓aS,seval,N5]
  refine aP (fun h=>?_) (fun h=>?_)
  · rw[aG (by simpa using h)]
    simp only[aA,seval]
    first | exact aL.refl _ | exact⟨aL.refl _,rfl⟩
  have h5:xk≠1:=by simpa using h
  rw[aE h5]
  simp only[aA,seval]
  refine aP (fun h=>?_) (fun h=>?_)
  · have h6:xk=2:=by simpa using h
    rw[aG h6]
    simp only[aA,seval,N5]
    refine(UA xn (h2 h6).1 (h2 h6).2 _ hT).to ?_
    simp only[aA,seval]
    first | exact aL.refl _ | exact⟨aL.refl _,rfl⟩
  have h6:xk≠2:=by simpa using h
  rw[aE h6]
  have hs:=h3 (by omega)
  have hm:maxLen=9223372036854775807:=by rfl
  have hs1:xs.size+(⟨#[47]⟩:ByteArray).size≤maxLen:=by show xs.size+1≤_;omega
  have hs2:(xs++(⟨#[47]⟩:ByteArray)).size+(k9 20 xt.length ⟨#[]⟩).size≤maxLen:=by
   have:=BT 20 xt.length ⟨#[]⟩
   have h0:(⟨#[]⟩:ByteArray).size=0:=rfl
   rw[cK]
   show xs.size+1+_≤_
   omega
  simp only[aA,seval]
  refine D1 mixed (by decide +kernel) (by decide +kernel) ?_
  simp only[aF,hs1,↓reduceIte,aA,seval,N5]
  refine gP (UA xt.length (by omega) (by omega) _ hT) ?_
  simp only[hs2,hdx,↓reduceIte,aA,seval]
  first | exact aL.refl _ | exact⟨aL.refl _,rfl⟩
theorem aWB(a b:ByteArray)(st:aB):aD prog 163 [.str a,.str b] st (fun r st'=>r=.bool (MG a b)∧st'=st):=by
 unfold MG
 refine wF [1000000] 2 func163 ntmps163 rfl rfl ?_
 intro _
 simp only[aA,seval]
 refine cT (fun h=>?_) (fun h=>?_)
 case refine_2=>
  have h':decide (a=⟨#[]⟩)=true:=by simpa using h
  simp only[h,aA,seval]
  try simp []
 have h1:decide (a=⟨#[]⟩)=false:=by simpa using h
 simp only[h,aA,seval]
 refine cT (fun h=>?_) (fun h=>?_)
 case refine_2=>
  have h':decide (b=⟨#[]⟩)=true:=by simpa using h
  simp only[h,aA,seval]
  try simp []
 have h2:decide (b=⟨#[]⟩)=false:=by simpa using h
 simp only[h,aA,seval]
 try simp [h1,h2]
theorem U9{h:bJ}{st:aB}{b:Nat}{cs cs':List AV}(hb:st b=some (.cells cs)):bX h st h (st.aC b (.cells cs')):=
 ⟨cU _,fun y _ e=>⟨rfl,by
  have hne:y≠b:=by rintro rfl;rw[hb] at e;cases e
  rw[aB.aH _ _ hne];exact e⟩,fun _ c _ _ e=>⟨c,e,rfl⟩⟩
theorem aAX{h:bJ}{b:Nat}:∀ {vs:List Value} {off:Nat} (k:Nat),eP h b off vs→eP h b off (vs.take k)
 | _,_,0,_=>by simp [eP]
 | [],_,k+1,_=>by simp [eP]
 | v::vs,off,k+1,x=>⟨x.1,aAX k x.2⟩
theorem aPJ{h:bJ}{st:aB}{b:Nat}{cs:List AV}(k:Nat)(hb:st b=some (.cells cs))(S:cS h st):cS h (st.aC b (.cells (cs.take k))):=fun y o e=>by
 have T:=U9 (h:=h) (cs':=cs.take k) hb
 by_cases hy:y=b
 · subst hy
   rw[aB.aJ] at e
   cases e
   obtain⟨h1,c,t,e1,e2,vs,e3,e4⟩:=S y _ hb
   exact⟨h1,c,t,e1,kQ (by rw[c7];omega) e2,vs.take k,aAX k e3,a8.mono T _ _ (e4.take k)⟩
 · rw[aB.aH _ _ hy] at e
   obtain⟨h1,h2⟩:=S y o e
   exact⟨h1,lD.mono T rfl h2⟩
theorem aD.cut{P:Program}{g:FuncId}{args:List AV}{st:aB}{Q:AV→aB→Prop}(x:aD P g args st (fun r st'=>∃b cs k,st' b=some (.cells cs)∧Q r (st'.aC b (.cells (cs.take k))))):aD P g args st Q:=
 x.l7 fun r st' ⟨b,cs,k,h1,h2⟩=>⟨r,_,fun h S=>⟨aPJ k h1 S,U9 h1⟩,fun h v S y=>y.mono (U9 h1),h2⟩
theorem aNH{st:aB}{b i:Nat}{cs:List AV}{x:AV}(hs:st b=some (.cells cs))(hx:cs[i]?=some x)(ha:x.isAgg=false):g9 prog st 3 (.ptr b i)=some x:=by
 simp [g9,tI_3,hs,sub,hx,ha]
abbrev bBF:=zi aW fJ
theorem a7Z(l:List Nat)(g:FuncId)(dD:List AV)(p:Nat→Bool)(b:Nat)(cs:List AV)(h9:l.length≤1048576)(st:aB)(hb:st b=some (.cells cs))(hcs:∀(i x:Nat),l[i]?=some x→cs[i]?=some (nv x))(hc:∀x∈l,aD prog g ([nv x]++dD) st (fun r st'=>r=.bool (p x)∧st'=st)) :
 aD prog 250 [.mslice b 0 l.length 1,.func g dD] st (fun r st'=>r=.int .i64 (pG p l 0)∧st'=st):=by
 refine wF [1000000] 2 func250 ntmps250 rfl rfl ?_
 intro _
 simp only[aA,seval,bBF]
 refine dX (σ:=Unit) [1000000] [0,1,7] l (fun i _=>pG p (l.drop i) i=pG p l 0) (fun i _=>[(8,.int .i64 i)]) (fun _ _=>st) (by decide +kernel) ⟨(),rfl,aO.mk (by simp only[aA,↓aS,seval])⟩ (fun i x _ hx hlt bL hdr hinv=>?_) (fun _ hge hinv=>?_)
 case refine_2=>
  simp only[hge,aA,seval]
  rw[←hinv,kB]
  try rfl
 rw[hdr,pG] at hinv
 have hw:=bF (n:=(i:Int)+1)
 have hat:=p8 (P:=prog) (t:=26) (b:=b) (w:=1) fO hlt
 rw[wR] at hat
 have hld:=aNH hb (hcs i x hx) rfl
 have hca:=hc x (cH hx)
 simp only[nv,gV,fB] at hld hca
 simp only[bL,hat,hld,aA,seval]
 refine(hca).to ?_
 simp only[aA,seval]
 refine aP (fun h=>?_) (fun h=>?_)
 · rw[aG h] at hinv
   simp only[hinv,aA,seval]
 · rw[aE (by simp [h])] at hinv
   simp only[hw,aA,seval]
   exact⟨(),by rw[←hinv],aO.mk (by simp only[aA,seval])⟩
end Go.AW
