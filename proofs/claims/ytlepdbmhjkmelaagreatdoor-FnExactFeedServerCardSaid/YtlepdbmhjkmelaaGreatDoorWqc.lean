/- Regions that draw their order: what leaves the owned store alone may come in any order. -/
import Derived.Test.YtlepdbmhjkmelaaGreatDoorWqb
set_option linter.unusedSimpArgs false
set_option linter.unusedVariables false
set_option maxRecDepth 100000
namespace Go.AW
section
variable {P:Program} {st:aA}
theorem PB{φ φ':AF}{x:Option Operand}(h:∀y∈x.toList,φ.eval y=φ'.eval y)(d m:Nat):eA φ x d m=eA φ' x d m:=by
 cases x with
 | none=>rfl
 | some y=>simp only[eA,h y (by simp)]
theorem WS{φ φ':AF}{ps:Array (Nat×Operand)}(h:∀y∈(ps.toList.map (·.2)),φ.eval y=φ'.eval y):rQ φ ps=rQ φ' ps:=by
 unfold rQ
 apply qK
 intro p hp
 rw[h p.2 (cF.2 ⟨p,hp,rfl⟩)]
theorem aRO{φ φ':AF}{o:Oper}(h:∀x∈o.op.operands,φ.eval x=φ'.eval x):lR P φ st o=lR P φ' st o:=by
 obtain⟨dst,op,type,pos,after,guard⟩:=o
 cases op<;>simp only[Op.operands] at h<;>simp only[lR]
 case move x=>rw[h x (by simp)]
 case assign x=>rw[h x (by simp)]
 case pick c a b=>rw[h c (by simp),h a (by simp),h b (by simp)]
 case binOp op t x y t'=>rw[h x (by simp),h y (by simp)]
 case unOp op t x=>rw[h x (by simp)]
 case nilCheck x=>rw[h x (by simp)]
 case fieldAddr t x f=>rw[h x (by simp)]
 case load t x=>rw[h x (by simp)]
 case field t x f=>rw[h x (by simp)]
 case indexAddr t x i=>rw[h x (by simp),h i (by simp)]
 case index t x i=>rw[h x (by simp),h i (by simp)]
 case slice t x lo hi mx=>
  rw[h x (by simp)]
  have hl:=PB (φ:=φ) (φ':=φ') (x:=lo) (fun y hy=>h y (by simp_all))
  have hh:=PB (φ:=φ) (φ':=φ') (x:=hi) (fun y hy=>h y (by simp_all))
  have hm:=PB (φ:=φ) (φ':=φ') (x:=mx) (fun y hy=>h y (by simp_all))
  unfold iB pP
  cases eI P t with
  | none=>cases lo<;>cases hi<;>cases mx<;>first | rfl | simp only[hl,hh,hm]
  | some q=>cases lo<;>cases hi<;>cases mx<;>first | rfl | simp only[hl,hh,hm]
 case extract x i=>rw[h x (by simp)]
 case makeFunc fn first cU=>
  have hc:cU.toList.map φ.eval=cU.toList.map φ'.eval:=qK fun x hx=>h x (by simp_all)
  cases fn<;>simp only[hc]
 case build t ps=>unfold zO;rw[WS fun y hy=>h y (by simpa using hy)]
 case buildSlice t n ps=>unfold B3;rw[WS fun y hy=>h y (by simpa using hy)]
 case convert src dst x=>rw[h x (by simp)]
 case box t x=>rw[h x (by simp)]
 case lookup t x i ok=>rw[h x (by simp),h i (by simp)]
 case call c=>
  obtain⟨callee,args,ats⟩:=c
  have ha:∀x∈args.toList,φ.eval x=φ'.eval x:=fun x hx=>h x (by simp [Call.operands];exact .inr (oK.1 hx))
  cases callee with
  | builtin b=>
   cases b<;>try rfl
   · simp only
     split
     · rename_i x t hx _;rw[ha x (by rw[hx];simp)]
     · rfl
   · simp only
     split
     · rename_i x t hx _;rw[ha x (by rw[hx];simp)]
     · rfl
   · simp only
     split
     · rename_i x y hx;rw[ha x (by rw[hx];simp),ha y (by rw[hx];simp)]
     · rfl
   · simp only
     split
     · rename_i x y hx;rw[ha x (by rw[hx];simp),ha y (by rw[hx];simp)]
     · rfl
  | _=>rfl
theorem WU{mt:List Nat}{φ φ':AF}{o:Oper}{K:AV→aA→Prop}(h:∀x∈o.op.operands,φ.eval x=φ'.eval x):fL P mt φ st o K=fL P mt φ' st o K:=by
 have hv:=aRO (P:=P) (st:=st) h
 obtain⟨dst,op,type,pos,after,guard⟩:=o
 cases op<;>simp only[Op.operands] at h<;>(try (simp only[fL,hv];done))
 case box t x=>simp only[fL];rw[h x (by simp)]
 case store t p x=>simp only[fL];rw[h p (by simp),h x (by simp)]
 case makeMap t r=>cases r<;>simp only[fL,hv]
 case makeSlice t n c=>simp only[fL];rw[h n (by simp),h c (by simp)]
 case mapUpdate t m k x=>simp only[fL];rw[h m (by simp),h k (by simp),h x (by simp)]
 case call c=>
  obtain⟨callee,args,ats⟩:=c
  have ha:∀x∈args.toList,φ.eval x=φ'.eval x:=fun x hx=>h x (by simp [Call.operands];exact .inr (oK.1 hx))
  cases callee with
  | value f=>
   simp only[fL]
   rw[h f (by simp [Call.operands]),qK ha]
  | invoke r m=>simp only[fL,hv]
  | builtin b=>
   cases b<;>(try (simp only[fL,hv];done))
   · simp only[fL]
     split
     · rename_i s x t t' hx _;rw[ha s (by rw[hx];simp),ha x (by rw[hx];simp)]
     · rfl
   · simp only[fL]
     split
     · rename_i x t hx _;rw[ha x (by rw[hx];simp)]
     · rfl
   · simp only[fL]
     split
     · rename_i s x t t' hx _;rw[ha s (by rw[hx];simp),ha x (by rw[hx];simp)]
     · rfl
def jY(P:Program)(st:aA)(ops:Array Oper)(o:Oper)(r:AV)(φ:AF):Prop:=
 (iZ ops φ o=some true∧fL P [] φ st o (fun r' st'=>r'=r∧st'=st))∨(iZ ops φ o=some false∧r=.undef)
theorem MI{φ:AF}{dst:Option Tmp}{v:AV}{x:Operand}(h:∀d,dst=some d→x≠.tmp d):(φ.put dst v).eval x=φ.eval x:=by
 cases dst with
 | none=>rfl
 | some d=>
  cases x with
  | tmp t=>
   have hne:t≠d:=fun e=>h d rfl (e▸rfl)
   simp [AF.put,AF.eval,AF.aC,hne]
  | _=>rfl
theorem qR{ops:Array Oper}{oi oj:Oper}(φ:AF)(v:AV)(h:∀d,oj.dst=some d→d∉oi.looksAt ops){r:AV}:jY P st ops oi r (φ.put oj.dst v)↔jY P st ops oi r φ:=by
 have h1:fL P [] (φ.put oj.dst v) st oi (fun r' st'=>r'=r∧st'=st)=fL P [] φ st oi (fun r' st'=>r'=r∧st'=st):=
  WU fun x hx=>MI fun d hd hxd=>h d hd (by
   subst hxd
   exact List.mem_append_left _ (List.mem_filterMap.2 ⟨.tmp d,by simpa using hx,rfl⟩))
 have h2:iZ ops (φ.put oj.dst v) oi=iZ ops φ oi:=by
  unfold iZ
  cases hg:oi.guard with
  | none=>rfl
  | some gw=>
   obtain⟨g,want⟩:=gw
   cases ht:(ops[g]?).bind (·.dst) with
   | none=>simp only[ht]
   | some t=>
    simp only[ht]
    have:(φ.put oj.dst v) t=φ t:=by
     have:=MI (φ:=φ) (dst:=oj.dst) (v:=v) (x:=.tmp t) (fun d hd hxd=>h d hd (by
      cases hxd
      simp [Oper.looksAt,hg,ht]))
     exact this
    rw[this]
 unfold jY
 rw[h1,h2]
theorem put_comm(φ:AF){x y:Option Tmp}(v u:AV)(h:∀d,x=some d→y≠some d):(φ.put x v).put y u=(φ.put y u).put x v:=by
 cases x with
 | none=>rfl
 | some d=>
  cases y with
  | none=>rfl
  | some e=>exact AF.pJ φ v u (fun he=>h d rfl (he▸rfl))
def F9(P:Program)(st:aA)(ops:Array Oper)(n:Nat)(L:Array Bool→AF→Prop):Nat→Array Bool→AF→Prop
 | 0,listed,φ=>L listed φ
 | f+1,listed,φ=>Region.ready .any ops listed≠[]∧∀i∈Region.ready .any ops listed,i<n∧∃o,ops[i]?=some o∧∃r,jY P st ops o r φ∧F9 P st ops n L f (listed.setIfInBounds i true) (φ.put o.dst r)
theorem WW{N:Nat}{ops:Array Oper}(hN:∀(j d:Nat),(ops[j]?).bind (·.dst)=some d→d<N){o:Oper}{i:Nat}{a:Act}{w:World}{φ:AF}{r:AV}{K:Act→World→Prop}{Q:Exit→Act→World→Prop}(hi:ops[i]?=some o)
 (R:Rel N a w φ st) (hd:oU N o=true) (y:jY P st ops o r φ) (h:∀a' w',Rel N a' w' (φ.put o.dst r) st→bT w.heap st w'.heap st→fO w w'→K a' w'):wpOp P ops Q i K a w:=by
 unfold wpOp
 simp only[hi]
 rcases y with ⟨hg,hs⟩ | ⟨hg,rfl⟩
 · rw[aN (yB R hN hg)]
   refine .inl (JT R.frame R.store hs fun v w' ⟨r',st',x1,x2,x3,x4,x5⟩=>?_)
   obtain⟨rfl,rfl⟩:=x5
   exact h _ _ (R.put hd x3 x2 x1) x3 x4
 · rw[aK (by rw[yB R hN hg];simp)]
   exact h _ _ (R.put (r:=.undef) hd (bT.refl _ _) R.store ⟨rfl,rfl⟩) (bT.refl _ _) (fO.refl _)
theorem WK{N n g:Nat}{ops:Array Oper}(hN:∀(j d:Nat),(ops[j]?).bind (·.dst)=some d→d<N)(hD:∀o∈ops.toList,oU N o=true){L:Array Bool→AF→Prop}{Q:Exit→Act→World→Prop}{w0:World}
 (hL:∀listed φ a w,L listed φ→Rel N a w φ st→bT w0.heap st w.heap st→fO w0 w→wpAny P .any ops Q g listed a w) :
 ∀(f:Nat) (listed:Array Bool) (φ:AF) (a:Act) (w:World),F9 P st ops n L f listed φ→Rel N a w φ st→bT w0.heap st w.heap st→fO w0 w→wpAny P .any ops Q (f+g) listed a w
 | 0,listed,φ,a,w,h,R,T,s=>by rw[jW];exact hL _ _ _ _ h R T s
 | f+1,listed,φ,a,w,h,R,T,s=>by
  rw[show f+1+g=(f+g)+1 by omega]
  refine⟨fun h0=>absurd h0 h.1,fun i hi=>?_⟩
  obtain⟨_,o,ho,r,y,h'⟩:=h.2 i hi
  exact WW hN ho R (hD o (oK.2 (B6 ho))) y fun a' w' R' T' s'=>WK hN hD hL f _ _ a' w' h' R' (T.trans T') (s.trans s')
theorem aRC{ops:Array Oper}{n i:Nat}{oi:Oper}{v:AV}{L:Array Bool→AF→Prop}(hi:ops[i]?=some oi)
 (hs:Region.sinkB .any ops n=true) (hc:Region.chainB .any ops n=true) (hn:n<ops.size) (hin:i<n)
 (a2U:∀listed φ,L listed φ→∀j∈Region.ready .any ops listed,n≤j) :
 ∀(f:Nat) (listed:Array Bool) (φ:AF),HeadInv .any ops n listed →
  (∀j oj,ops[j]?=some oj→j≠i→listed.getD j true=false→(∀e∈oj.after,Region.binds .any e=true→e.on≠i)→oi.apart ops oj=true) →
  i∈Region.ready .any ops listed→jY P st ops oi v φ →
  F9 P st ops n L f (listed.setIfInBounds i true) (φ.put oi.dst v)→F9 P st ops n L (f+1) listed φ:=by
 intro f
 induction f with
 | zero=>
  intro listed φ inv _ hr hy H
  have hun:=(mem_ready.1 hr).1
  refine⟨fun h=>(by rw[h] at hr;cases hr),fun j hj=>?_⟩
  have hjn:j<n:=by
   rcases mB j n with h | h
   · exact h
   · exact absurd hj (tail_waits hs hc hn inv _ i rfl hin hun j h)
  refine⟨hjn,?_⟩
  by_cases hji:j=i
  · subst hji;exact⟨oi,hi,v,hy,H⟩
  · have:=a2U _ _ H j (ready_mono hj hji)
    omega
 | succ f ih=>
  intro listed φ inv rB hr hy H
  have hun:=(mem_ready.1 hr).1
  refine⟨fun h=>(by rw[h] at hr;cases hr),fun j hj=>?_⟩
  have hjn:j<n:=by
   rcases mB j n with h | h
   · exact h
   · exact absurd hj (tail_waits hs hc hn inv _ i rfl hin hun j h)
  refine⟨hjn,?_⟩
  by_cases hji:j=i
  · subst hji;exact⟨oi,hi,v,hy,H⟩
  · obtain⟨_,oj,hoj,u,hu,h1⟩:=H.2 j (ready_mono hj hji)
    obtain⟨pZ,oj',A8,dN⟩:=mem_ready.1 hj
    have:oj'=oj:=nP (A8.symm.trans hoj)
    subst this
    have uF:∀e∈oj'.after,Region.binds .any e=true→e.on≠i:=fun e he hb heq=>by
     have h1:=dN e he hb
     rw[heq,getD_both hun] at h1
     cases h1
    obtain⟨a1,a2,a3⟩:=Oper.apart_spec (rB j oj' hoj hji pZ uF)
    have vH:∀k ok,ops[k]?=some ok→k≠i→(listed.setIfInBounds j true).getD k true=false →
     (∀e∈ok.after,Region.binds .any e=true→e.on≠i)→oi.apart ops ok=true:=fun k ok hk hki hun hno=>by
     refine rB k ok hk hki ?_ hno
     by_cases hjk:j=k
     · subst hjk;exact pZ
     · rw[getD_set_ne true hjk] at hun;exact hun
    refine⟨oj',hoj,u,(qR φ v a1).1 hu,?_⟩
    refine ih (listed.setIfInBounds j true) (φ.put oj'.dst u) (inv.set hj hjn) vH (ready_mono hr (dA hji)) ((qR φ u a3).2 hy) ?_
    rw[B7 _ _ hji,←put_comm φ v u a2]
    exact h1
def qP(P:Program)(st:aA)(ops:Array Oper):List Oper→(AF→Prop)→AF→Prop
 | [],K,φ=>K φ
 | o::rest,K,φ=>match iZ ops φ o with
  | some true=>∃r,fL P [] φ st o (fun r' st'=>r'=r∧st'=st)∧qP P st ops rest K (φ.put o.dst r)
  | some false=>qP P st ops rest K (φ.put o.dst .undef)
  | none=>False
theorem WJ{ops:Array Oper}{n g:Nat}{K:AF→Prop}(hs:Region.sinkB .any ops n=true)(hc:Region.chainB .any ops n=true)(hn:n<ops.size) :
 ∀(l:List Oper) (k:Nat) (listed:Array Bool) (φ:AF),(∀j,j<l.length→l[j]?=ops[k+j]?)→k+l.length=n→HeadInv .any ops n listed →
 Region.lexHead .any ops g l.length k listed=true→qP P st ops l K φ →
 F9 P st ops n (fun aL5 φ'=>Region.seqB .any ops g n aL5=true∧K φ') l.length listed φ
 | [],k,listed,φ,_,hk,_,hB,h=>by
  have:k=n:=by simpa using hk
  subst this
  exact⟨by simpa [Region.lexHead] using hB,h⟩
 | o::l,k,listed,φ,hl,hk,inv,hB,h=>by
  have h0:ops[k]?=some o:=by simpa using (hl 0 (by simp)).symm
  simp only[a8,Region.lexHead,cY] at hB
  obtain⟨⟨hr,hf⟩,hB'⟩:=hB
  have hkn:k<n:=by simp only[a8] at hk;omega
  have hr':k∈Region.ready .any ops listed:=by simpa using hr
  obtain⟨r,hy,hK⟩:∃r,jY P st ops o r φ∧qP P st ops l K (φ.put o.dst r):=by
   simp only[qP] at h
   split at h
   · rename_i hg;obtain⟨r,h1,h2⟩:=h;exact⟨r,.inl ⟨hg,h1⟩,h2⟩
   · rename_i hg;exact⟨_,.inr ⟨hg,rfl⟩,h⟩
   · cases h
  exact aRC h0 hs hc hn hkn (fun aL5 φ' hL=>seqB_ready hL.1) l.length listed φ inv (Region.free_spec h0 hf) hr' hy
   (WJ hs hc hn l (k+1) _ _ (fun j hj=>by have:=hl (j+1) (by simp;omega);simpa [zU,Nat.add_comm 1 j] using this) (by simp only[a8] at hk;omega) (inv.set hr' hkn) hB' hK)
theorem aSB{N:Nat}{id:Nat}{ops:Array Oper}{Q:Exit→AF→aA→Prop}{φ:AF}(n:Nat)(hm:P.follows .mixedOrders=true)(hok:qF N ops=true)(hB:Region.lexTailB .any ops n=true)
 (h:qP P st ops (ops.toList.take n) (fun φ'=>bA P [] ops (ops.toList.drop n) (Q .normal) φ' st) φ):fR P N (.region id ops true) Q φ st:=by
 intro a w R
 simp only[Region.lexTailB,cY,bM] at hB
 obtain⟨⟨⟨⟨bC2,hn⟩,hs⟩,hc⟩,a3F⟩:=hB
 have htl:(ops.toList.take n).length=n:=by simp;omega
 have hdl:(ops.toList.drop n).length=ops.size - n:=by simp
 have a4S:HeadInv .any ops n (Array.replicate ops.size false):=
  ⟨by simp,fun j oj _ hl=>(by rw[getD_replicate_false] at hl;cases hl),fun t _ ht=>getD_in (by simpa using ht) (getD_replicate_false _ _)⟩
 have H:=WJ (P:=P) (st:=st) (g:=ops.size - n) hs hc hn (ops.toList.take n) 0 _ φ (fun j hj=>by
  have hj':j<n:=by rw[htl] at hj;exact hj
  simp [hj']) (by simpa using htl) a4S (by rw[htl];exact a3F) h
 refine wp_region_any hm ?_
 have R0:Rel N a { w with drawn:=w.drawn+1 } φ st:=⟨R.size,R.defers,R.frame,R.store⟩
 have:=WK (P:=P) (st:=st) (g:=ops.size - n) (w0:=w) (Q:=xY N w st Q) (yW hok) (xG hok) (fun listed φ' a' w' hL R' T s=>by
  have:=wpAny_of_seq (P:=P) (md:=.any) (Q':=xY N w st Q) (ops.toList.drop n) n listed a' w' (fun j=>by simp [List.getElem?_drop]) (by rw[hdl];exact hL.1)
   (JS (yW hok) _ _ φ' st a' w' (fun o ho=>xG hok o (OV ho)) R' hL.2 fun a2 w2 φ2 st2 R2 T2 s2 k2=>⟨φ2,st2,R2,T.trans T2,s.trans s2,k2⟩)
  rwa [hdl] at this) _ _ φ a { w with drawn:=w.drawn+1 } H R0 (bT.refl _ _) ⟨rfl,rfl,rfl⟩
 rw[htl,show n+(ops.size - n)=ops.size by omega] at this
 exact this
def GA(P:Program)(st:aA)(ops:Array Oper)(K:AF→Prop):Nat→Array Bool→AF→Prop
 | 0,listed,φ=>Region.ready .any ops listed= []∧K φ
 | f+1,listed,φ=>(Region.ready .any ops listed= []→K φ)∧∀i∈Region.ready .any ops listed,∃o,ops[i]?=some o∧∃r,jY P st ops o r φ∧GA P st ops K f (listed.setIfInBounds i true) (φ.put o.dst r)
theorem WM{N:Nat}{ops:Array Oper}(hN:∀(j d:Nat),(ops[j]?).bind (·.dst)=some d→d<N)(hD:∀o∈ops.toList,oU N o=true){K:AF→Prop}{Q:Exit→Act→World→Prop}{w0:World}
 (hK:∀φ a w,K φ→Rel N a w φ st→bT w0.heap st w.heap st→fO w0 w→Q .normal a w) :
 ∀(f:Nat) (listed:Array Bool) (φ:AF) (a:Act) (w:World),GA P st ops K f listed φ→Rel N a w φ st→bT w0.heap st w.heap st→fO w0 w→wpAny P .any ops Q f listed a w
 | 0,listed,φ,a,w,h,R,T,s=>⟨h.1,hK φ a w h.2 R T s⟩
 | f+1,listed,φ,a,w,h,R,T,s=>by
  refine⟨fun h0=>hK φ a w (h.1 h0) R T s,fun i hi=>?_⟩
  obtain⟨o,ho,r,y,h'⟩:=h.2 i hi
  exact WW hN ho R (hD o (oK.2 (B6 ho))) y fun a' w' R' T' s'=>WM hN hD hK f _ _ a' w' h' R' (T.trans T') (s.trans s')
theorem aRD{ops:Array Oper}{i:Nat}{oi:Oper}{v:AV}{K:AF→Prop}(hi:ops[i]?=some oi) :
 ∀(f:Nat) (listed:Array Bool) (φ:AF),
  (∀j oj,ops[j]?=some oj→j≠i→listed.getD j true=false→(∀e∈oj.after,Region.binds .any e=true→e.on≠i)→oi.apart ops oj=true) →
  i∈Region.ready .any ops listed→jY P st ops oi v φ →
  GA P st ops K f (listed.setIfInBounds i true) (φ.put oi.dst v)→GA P st ops K (f+1) listed φ:=by
 intro f
 induction f with
 | zero=>
  intro listed φ _ hr hy H
  refine⟨fun h=>(by rw[h] at hr;cases hr),fun j hj=>?_⟩
  by_cases hji:j=i
  · subst hji;exact⟨oi,hi,v,hy,H⟩
  · have:=ready_mono hj hji
    rw[H.1] at this
    cases this
 | succ f ih=>
  intro listed φ rB hr hy H
  refine⟨fun h=>(by rw[h] at hr;cases hr),fun j hj=>?_⟩
  by_cases hji:j=i
  · subst hji;exact⟨oi,hi,v,hy,H⟩
  · obtain⟨oj,hoj,u,hu,h1⟩:=H.2 j (ready_mono hj hji)
    obtain⟨pZ,oj',A8,dN⟩:=mem_ready.1 hj
    have:oj'=oj:=nP (A8.symm.trans hoj)
    subst this
    have hun:=(mem_ready.1 hr).1
    have uF:∀e∈oj'.after,Region.binds .any e=true→e.on≠i:=fun e he hb heq=>by
     have h1:=dN e he hb
     rw[heq,getD_both hun] at h1
     cases h1
    obtain⟨a1,a2,a3⟩:=Oper.apart_spec (rB j oj' hoj hji pZ uF)
    have vH:∀k ok,ops[k]?=some ok→k≠i→(listed.setIfInBounds j true).getD k true=false →
     (∀e∈ok.after,Region.binds .any e=true→e.on≠i)→oi.apart ops ok=true:=fun k ok hk hki hun hno=>by
     refine rB k ok hk hki ?_ hno
     by_cases hjk:j=k
     · subst hjk;exact pZ
     · rw[getD_set_ne true hjk] at hun;exact hun
    refine⟨oj',hoj,u,(qR φ v a1).1 hu,?_⟩
    refine ih (listed.setIfInBounds j true) (φ.put oj'.dst u) vH (ready_mono hr (dA hji)) ((qR φ u a3).2 hy) ?_
    rw[B7 _ _ hji,←put_comm φ v u a2]
    exact h1
theorem WL{ops:Array Oper}{K:AF→Prop}:∀(l:List Oper) (k:Nat) (listed:Array Bool) (φ:AF),(∀j,l[j]?=ops[k+j]?)→Region.lexFrom .any ops l.length k listed=true→qP P st ops l K φ →
 GA P st ops K l.length listed φ
 | [],_,_,_,_,hB,h=>⟨by simpa [Region.lexFrom] using hB,h⟩
 | o::l,k,listed,φ,hl,hB,h=>by
  have h0:ops[k]?=some o:=by simpa using (hl 0).symm
  simp only[a8,Region.lexFrom,cY] at hB
  obtain⟨⟨hr,hf⟩,hB'⟩:=hB
  obtain⟨r,hy,hK⟩:∃r,jY P st ops o r φ∧qP P st ops l K (φ.put o.dst r):=by
   simp only[qP] at h
   split at h
   · rename_i hg;obtain⟨r,h1,h2⟩:=h;exact⟨r,.inl ⟨hg,h1⟩,h2⟩
   · rename_i hg;exact⟨_,.inr ⟨hg,rfl⟩,h⟩
   · cases h
  exact aRD h0 l.length listed φ (Region.free_spec h0 hf) (by simpa using hr) hy
   (WL l (k+1) _ _ (fun j=>by have:=hl (j+1);simpa [zU,Nat.add_comm 1 j] using this) hB' hK)
theorem aSC{N:Nat}{id:Nat}{ops:Array Oper}{Q:Exit→AF→aA→Prop}{φ:AF}(hm:P.follows .mixedOrders=true)(hok:qF N ops=true)(hB:Region.lexB .any ops=true)
 (h:qP P st ops ops.toList (fun φ'=>Q .normal φ' st) φ):fR P N (.region id ops true) Q φ st:=by
 intro a w R
 simp only[Region.lexB,cY] at hB
 refine wp_region_any hm ?_
 have H:=WL (P:=P) (st:=st) (K:=fun φ'=>Q .normal φ' st) ops.toList 0 (Array.replicate ops.size false) φ (by simp) (by simpa using hB.2) h
 have R0:Rel N a { w with drawn:=w.drawn+1 } φ st:=⟨R.size,R.defers,R.frame,R.store⟩
 have:=WM (P:=P) (st:=st) (w0:=w) (Q:=xY N w st Q) (yW hok) (xG hok) (fun φ' a' w' hK R' T s=>⟨φ',st,R',T,s,hK⟩) _ _ φ a { w with drawn:=w.drawn+1 } H R0 (bT.refl _ _) ⟨rfl,rfl,rfl⟩
 simpa using this
end
end Go.AW
