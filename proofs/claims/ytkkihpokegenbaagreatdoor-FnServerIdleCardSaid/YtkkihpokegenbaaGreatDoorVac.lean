/- Regions that draw their order: what leaves the owned store alone may come in any order. -/
import Derived.Test.YtkkihpokegenbaaGreatDoorVab
set_option linter.unusedSimpArgs false
set_option linter.unusedVariables false
set_option maxRecDepth 100000
namespace Go.AW
section
variable {P:Program} {st:aA}
theorem L7{φ φ':AF}{x:Option Operand}(h:∀y∈x.toList,φ.eval y=φ'.eval y)(d m:Nat):dE φ x d m=dE φ' x d m:=by
 cases x with
 | none=>rfl
 | some y=>simp only[dE,h y (by simp)]
theorem SA{φ φ':AF}{ps:Array (Nat×Operand)}(h:∀y∈(ps.toList.map (·.2)),φ.eval y=φ'.eval y):p7 φ ps=p7 φ' ps:=by
 unfold p7
 apply AG
 intro p hp
 rw[h p.2 (cM.2 ⟨p,hp,rfl⟩)]
theorem aMS{φ φ':AF}{o:Oper}(h:∀x∈o.op.operands,φ.eval x=φ'.eval x):kN P φ st o=kN P φ' st o:=by
 obtain⟨dst,op,type,pos,after,guard⟩:=o
 cases op<;>simp only[Op.operands] at h<;>simp only[kN]
 case move x=>rw[h x (by simp)]
 case assign x=>rw[h x (by simp)]
 case pick c a b=>rw[h c (by simp),h a (by simp),h b (by simp)]
 case binOp op t x y t'=>rw[h x (by simp),h y (by simp)]
 case unOp op t x=>rw[h x (by simp)]
 case nilCheck x=>rw[h x (by simp)]
 case fieldAddr t x f=>rw[h x (by simp)]
 case load t x=>rw[h x (by simp)]
 case field t x f=>rw[h x (by simp)]
 case indexAddr t x i=>rw[h x (by simp),h i (by simp)]
 case index t x i=>rw[h x (by simp),h i (by simp)]
 case slice t x lo hi mx=>
  rw[h x (by simp)]
  have hl:=L7 (φ:=φ) (φ':=φ') (x:=lo) (fun y hy=>h y (by simp_all))
  have hh:=L7 (φ:=φ) (φ':=φ') (x:=hi) (fun y hy=>h y (by simp_all))
  have hm:=L7 (φ:=φ) (φ':=φ') (x:=mx) (fun y hy=>h y (by simp_all))
  unfold gJ nU
  cases eI P t with
  | none=>cases lo<;>cases hi<;>cases mx<;>first | rfl | simp only[hl,hh,hm]
  | some q=>cases lo<;>cases hi<;>cases mx<;>first | rfl | simp only[hl,hh,hm]
 case extract x i=>rw[h x (by simp)]
 case makeFunc fn first dB=>
  have hc:dB.toList.map φ.eval=dB.toList.map φ'.eval:=AG fun x hx=>h x (by simp_all)
  cases fn<;>simp only[hc]
 case build t ps=>unfold xR;rw[SA fun y hy=>h y (by simpa using hy)]
 case buildSlice t n ps=>unfold z0;rw[SA fun y hy=>h y (by simpa using hy)]
 case convert src dst x=>rw[h x (by simp)]
 case box t x=>rw[h x (by simp)]
 case lookup t x i ok=>rw[h x (by simp),h i (by simp)]
 case call c=>
  obtain⟨callee,args,ats⟩:=c
  have ha:∀x∈args.toList,φ.eval x=φ'.eval x:=fun x hx=>h x (by simp [Call.operands];exact .inr (mS.1 hx))
  cases callee with
  | builtin b=>
   cases b<;>try rfl
   · simp only
     split
     · rename_i x t hx _;rw[ha x (by rw[hx];simp)]
     · rfl
   · simp only
     split
     · rename_i x t hx _;rw[ha x (by rw[hx];simp)]
     · rfl
   · simp only
     split
     · rename_i x y hx;rw[ha x (by rw[hx];simp),ha y (by rw[hx];simp)]
     · rfl
   · simp only
     split
     · rename_i x y hx;rw[ha x (by rw[hx];simp),ha y (by rw[hx];simp)]
     · rfl
  | _=>rfl
theorem SC{mt:List Nat}{φ φ':AF}{o:Oper}{K:AV→aA→Prop}(h:∀x∈o.op.operands,φ.eval x=φ'.eval x):eE P mt φ st o K=eE P mt φ' st o K:=by
 have hv:=aMS (P:=P) (st:=st) h
 obtain⟨dst,op,type,pos,after,guard⟩:=o
 cases op<;>simp only[Op.operands] at h<;>(try (simp only[eE,hv];done))
 case box t x=>simp only[eE];rw[h x (by simp)]
 case store t p x=>simp only[eE];rw[h p (by simp),h x (by simp)]
 case makeMap t r=>cases r<;>simp only[eE,hv]
 case makeSlice t n c=>simp only[eE];rw[h n (by simp),h c (by simp)]
 case mapUpdate t m k x=>simp only[eE];rw[h m (by simp),h k (by simp),h x (by simp)]
 case call c=>
  obtain⟨callee,args,ats⟩:=c
  have ha:∀x∈args.toList,φ.eval x=φ'.eval x:=fun x hx=>h x (by simp [Call.operands];exact .inr (mS.1 hx))
  cases callee with
  | value f=>
   simp only[eE]
   rw[h f (by simp [Call.operands]),AG ha]
  | invoke r m=>simp only[eE,hv]
  | builtin b=>
   cases b<;>(try (simp only[eE,hv];done))
   · simp only[eE]
     split
     · rename_i s x t t' hx _;rw[ha s (by rw[hx];simp),ha x (by rw[hx];simp)]
     · rfl
   · simp only[eE]
     split
     · rename_i x t hx _;rw[ha x (by rw[hx];simp)]
     · rfl
   · simp only[eE]
     split
     · rename_i s x t t' hx _;rw[ha s (by rw[hx];simp),ha x (by rw[hx];simp)]
     · rfl
def iW(P:Program)(st:aA)(ops:Array Oper)(o:Oper)(r:AV)(φ:AF):Prop:=
 (gX ops φ o=some true∧eE P [] φ st o (fun r' st'=>r'=r∧st'=st))∨(gX ops φ o=some false∧r=.undef)
theorem JV{φ:AF}{dst:Option Tmp}{v:AV}{x:Operand}(h:∀d,dst=some d→x≠.tmp d):(φ.put dst v).eval x=φ.eval x:=by
 cases dst with
 | none=>rfl
 | some d=>
  cases x with
  | tmp t=>
   have hne:t≠d:=fun e=>h d rfl (e▸rfl)
   simp [AF.put,AF.eval,AF.aC,hne]
  | _=>rfl
theorem oX{ops:Array Oper}{oi oj:Oper}(φ:AF)(v:AV)(h:∀d,oj.dst=some d→d∉oi.looksAt ops){r:AV}:iW P st ops oi r (φ.put oj.dst v)↔iW P st ops oi r φ:=by
 have h1:eE P [] (φ.put oj.dst v) st oi (fun r' st'=>r'=r∧st'=st)=eE P [] φ st oi (fun r' st'=>r'=r∧st'=st):=
  SC fun x hx=>JV fun d hd hxd=>h d hd (by
   subst hxd
   exact List.mem_append_left _ (List.mem_filterMap.2 ⟨.tmp d,by simpa using hx,rfl⟩))
 have h2:gX ops (φ.put oj.dst v) oi=gX ops φ oi:=by
  unfold gX
  cases hg:oi.guard with
  | none=>rfl
  | some gw=>
   obtain⟨g,want⟩:=gw
   cases ht:(ops[g]?).bind (·.dst) with
   | none=>simp only[ht]
   | some t=>
    simp only[ht]
    have:(φ.put oj.dst v) t=φ t:=by
     have:=JV (φ:=φ) (dst:=oj.dst) (v:=v) (x:=.tmp t) (fun d hd hxd=>h d hd (by
      cases hxd
      simp [Oper.looksAt,hg,ht]))
     exact this
    rw[this]
 unfold iW
 rw[h1,h2]
theorem put_comm(φ:AF){x y:Option Tmp}(v u:AV)(h:∀d,x=some d→y≠some d):(φ.put x v).put y u=(φ.put y u).put x v:=by
 cases x with
 | none=>rfl
 | some d=>
  cases y with
  | none=>rfl
  | some e=>exact AF.sK φ v u (fun he=>h d rfl (he▸rfl))
def D8(P:Program)(st:aA)(ops:Array Oper)(n:Nat)(L:Array Bool→AF→Prop):Nat→Array Bool→AF→Prop
 | 0,listed,φ=>L listed φ
 | f+1,listed,φ=>Region.ready .any ops listed≠[]∧∀i∈Region.ready .any ops listed,i<n∧∃o,ops[i]?=some o∧∃r,iW P st ops o r φ∧D8 P st ops n L f (listed.setIfInBounds i true) (φ.put o.dst r)
theorem SE{N:Nat}{ops:Array Oper}(hN:∀(j d:Nat),(ops[j]?).bind (·.dst)=some d→d<N){o:Oper}{i:Nat}{a:Act}{w:World}{φ:AF}{r:AV}{K:Act→World→Prop}{Q:Exit→Act→World→Prop}(hi:ops[i]?=some o)
 (R:Rel N a w φ st) (hd:m8 N o=true) (y:iW P st ops o r φ) (h:∀a' w',Rel N a' w' (φ.put o.dst r) st→bQ w.heap st w'.heap st→eD w w'→K a' w'):wpOp P ops Q i K a w:=by
 unfold wpOp
 simp only[hi]
 rcases y with ⟨hg,hs⟩ | ⟨hg,rfl⟩
 · rw[aN (wD R hN hg)]
   refine .inl (HM R.frame R.store hs fun v w' ⟨r',st',x1,x2,x3,x4,x5⟩=>?_)
   obtain⟨rfl,rfl⟩:=x5
   exact h _ _ (R.put hd x3 x2 x1) x3 x4
 · rw[aK (by rw[wD R hN hg];simp)]
   exact h _ _ (R.put (r:=.undef) hd (bQ.refl _ _) R.store ⟨rfl,rfl⟩) (bQ.refl _ _) (eD.refl _)
theorem RX{N n g:Nat}{ops:Array Oper}(hN:∀(j d:Nat),(ops[j]?).bind (·.dst)=some d→d<N)(hD:∀o∈ops.toList,m8 N o=true){L:Array Bool→AF→Prop}{Q:Exit→Act→World→Prop}{w0:World}
 (hL:∀listed φ a w,L listed φ→Rel N a w φ st→bQ w0.heap st w.heap st→eD w0 w→wpAny P .any ops Q g listed a w) :
 ∀(f:Nat) (listed:Array Bool) (φ:AF) (a:Act) (w:World),D8 P st ops n L f listed φ→Rel N a w φ st→bQ w0.heap st w.heap st→eD w0 w→wpAny P .any ops Q (f+g) listed a w
 | 0,listed,φ,a,w,h,R,T,s=>by rw[j7];exact hL _ _ _ _ h R T s
 | f+1,listed,φ,a,w,h,R,T,s=>by
  rw[show f+1+g=(f+g)+1 by omega]
  refine⟨fun h0=>absurd h0 h.1,fun i hi=>?_⟩
  obtain⟨_,o,ho,r,y,h'⟩:=h.2 i hi
  exact SE hN ho R (hD o (mS.2 (z9 ho))) y fun a' w' R' T' s'=>RX hN hD hL f _ _ a' w' h' R' (T.trans T') (s.trans s')
theorem aMF{ops:Array Oper}{n i:Nat}{oi:Oper}{v:AV}{L:Array Bool→AF→Prop}(hi:ops[i]?=some oi)
 (hs:Region.sinkB .any ops n=true) (hc:Region.chainB .any ops n=true) (hn:n<ops.size) (hin:i<n)
 (aW2:∀listed φ,L listed φ→∀j∈Region.ready .any ops listed,n≤j) :
 ∀(f:Nat) (listed:Array Bool) (φ:AF),HeadInv .any ops n listed →
  (∀j oj,ops[j]?=some oj→j≠i→listed.getD j true=false→(∀e∈oj.after,Region.binds .any e=true→e.on≠i)→oi.apart ops oj=true) →
  i∈Region.ready .any ops listed→iW P st ops oi v φ →
  D8 P st ops n L f (listed.setIfInBounds i true) (φ.put oi.dst v)→D8 P st ops n L (f+1) listed φ:=by
 intro f
 induction f with
 | zero=>
  intro listed φ inv _ hr hy H
  have hun:=(mem_ready.1 hr).1
  refine⟨fun h=>(by rw[h] at hr;cases hr),fun j hj=>?_⟩
  have hjn:j<n:=by
   rcases kK j n with h | h
   · exact h
   · exact absurd hj (tail_waits hs hc hn inv _ i rfl hin hun j h)
  refine⟨hjn,?_⟩
  by_cases hji:j=i
  · subst hji;exact⟨oi,hi,v,hy,H⟩
  · have:=aW2 _ _ H j (ready_mono hj hji)
    omega
 | succ f ih=>
  intro listed φ inv r8 hr hy H
  have hun:=(mem_ready.1 hr).1
  refine⟨fun h=>(by rw[h] at hr;cases hr),fun j hj=>?_⟩
  have hjn:j<n:=by
   rcases kK j n with h | h
   · exact h
   · exact absurd hj (tail_waits hs hc hn inv _ i rfl hin hun j h)
  refine⟨hjn,?_⟩
  by_cases hji:j=i
  · subst hji;exact⟨oi,hi,v,hy,H⟩
  · obtain⟨_,oj,hoj,u,hu,h1⟩:=H.2 j (ready_mono hj hji)
    obtain⟨n5,oj',yV,c9⟩:=mem_ready.1 hj
    have:oj'=oj:=mL (yV.symm.trans hoj)
    subst this
    have vI:∀e∈oj'.after,Region.binds .any e=true→e.on≠i:=fun e he hb heq=>by
     have h1:=c9 e he hb
     rw[heq,getD_both hun] at h1
     cases h1
    obtain⟨a1,a2,a3⟩:=Oper.apart_spec (r8 j oj' hoj hji n5 vI)
    have tG:∀k ok,ops[k]?=some ok→k≠i→(listed.setIfInBounds j true).getD k true=false →
     (∀e∈ok.after,Region.binds .any e=true→e.on≠i)→oi.apart ops ok=true:=fun k ok hk hki hun hno=>by
     refine r8 k ok hk hki ?_ hno
     by_cases hjk:j=k
     · subst hjk;exact n5
     · rw[getD_set_ne true hjk] at hun;exact hun
    refine⟨oj',hoj,u,(oX φ v a1).1 hu,?_⟩
    refine ih (listed.setIfInBounds j true) (φ.put oj'.dst u) (inv.set hj hjn) tG (ready_mono hr (dM hji)) ((oX φ u a3).2 hy) ?_
    rw[AA _ _ hji,←put_comm φ v u a2]
    exact h1
def oV(P:Program)(st:aA)(ops:Array Oper):List Oper→(AF→Prop)→AF→Prop
 | [],K,φ=>K φ
 | o::rest,K,φ=>match gX ops φ o with
  | some true=>∃r,eE P [] φ st o (fun r' st'=>r'=r∧st'=st)∧oV P st ops rest K (φ.put o.dst r)
  | some false=>oV P st ops rest K (φ.put o.dst .undef)
  | none=>False
theorem RW{ops:Array Oper}{n g:Nat}{K:AF→Prop}(hs:Region.sinkB .any ops n=true)(hc:Region.chainB .any ops n=true)(hn:n<ops.size) :
 ∀(l:List Oper) (k:Nat) (listed:Array Bool) (φ:AF),(∀j,j<l.length→l[j]?=ops[k+j]?)→k+l.length=n→HeadInv .any ops n listed →
 Region.lexHead .any ops g l.length k listed=true→oV P st ops l K φ →
 D8 P st ops n (fun aG7 φ'=>Region.seqB .any ops g n aG7=true∧K φ') l.length listed φ
 | [],k,listed,φ,_,hk,_,hB,h=>by
  have:k=n:=by simpa using hk
  subst this
  exact⟨by simpa [Region.lexHead] using hB,h⟩
 | o::l,k,listed,φ,hl,hk,inv,hB,h=>by
  have h0:ops[k]?=some o:=by simpa using (hl 0 (by simp)).symm
  simp only[aX,Region.lexHead,bD] at hB
  obtain⟨⟨hr,hf⟩,hB'⟩:=hB
  have hkn:k<n:=by simp only[aX] at hk;omega
  have hr':k∈Region.ready .any ops listed:=by simpa using hr
  obtain⟨r,hy,hK⟩:∃r,iW P st ops o r φ∧oV P st ops l K (φ.put o.dst r):=by
   simp only[oV] at h
   split at h
   · rename_i hg;obtain⟨r,h1,h2⟩:=h;exact⟨r,.inl ⟨hg,h1⟩,h2⟩
   · rename_i hg;exact⟨_,.inr ⟨hg,rfl⟩,h⟩
   · cases h
  exact aMF h0 hs hc hn hkn (fun aG7 φ' hL=>seqB_ready hL.1) l.length listed φ inv (Region.free_spec h0 hf) hr' hy
   (RW hs hc hn l (k+1) _ _ (fun j hj=>by have:=hl (j+1) (by simp;omega);simpa [AI,Nat.add_comm 1 j] using this) (by simp only[aX] at hk;omega) (inv.set hr' hkn) hB' hK)
theorem aNH{N:Nat}{id:Nat}{ops:Array Oper}{Q:Exit→AF→aA→Prop}{φ:AF}(n:Nat)(hm:P.follows .mixedOrders=true)(hok:oD N ops=true)(hB:Region.lexTailB .any ops n=true)
 (h:oV P st ops (ops.toList.take n) (fun φ'=>aW P [] ops (ops.toList.drop n) (Q .normal) φ' st) φ):eG P N (.region id ops true) Q φ st:=by
 intro a w R
 simp only[Region.lexTailB,bD,bA] at hB
 obtain⟨⟨⟨⟨a42,hn⟩,hs⟩,hc⟩,aXI⟩:=hB
 have htl:(ops.toList.take n).length=n:=by simp;omega
 have hdl:(ops.toList.drop n).length=ops.size - n:=by simp
 have aX9:HeadInv .any ops n (Array.replicate ops.size false):=
  ⟨by simp,fun j oj _ hl=>(by rw[getD_replicate_false] at hl;cases hl),fun t _ ht=>getD_in (by simpa using ht) (getD_replicate_false _ _)⟩
 have H:=RW (P:=P) (st:=st) (g:=ops.size - n) hs hc hn (ops.toList.take n) 0 _ φ (fun j hj=>by
  have hj':j<n:=by rw[htl] at hj;exact hj
  simp [hj']) (by simpa using htl) aX9 (by rw[htl];exact aXI) h
 refine wp_region_any hm ?_
 have R0:Rel N a { w with drawn:=w.drawn+1 } φ st:=⟨R.size,R.defers,R.frame,R.store⟩
 have:=RX (P:=P) (st:=st) (g:=ops.size - n) (w0:=w) (Q:=v7 N w st Q) (w6 hok) (vQ hok) (fun listed φ' a' w' hL R' T s=>by
  have:=wpAny_of_seq (P:=P) (md:=.any) (Q':=v7 N w st Q) (ops.toList.drop n) n listed a' w' (fun j=>by simp [LT]) (by rw[hdl];exact hL.1)
   (HL (w6 hok) _ _ φ' st a' w' (fun o ho=>vQ hok o (List.mem_of_mem_drop ho)) R' hL.2 fun a2 w2 φ2 st2 R2 T2 s2 k2=>⟨φ2,st2,R2,T.trans T2,s.trans s2,k2⟩)
  rwa [hdl] at this) _ _ φ a { w with drawn:=w.drawn+1 } H R0 (bQ.refl _ _) ⟨rfl,rfl,rfl⟩
 rw[htl,show n+(ops.size - n)=ops.size by omega] at this
 exact this
def EA(P:Program)(st:aA)(ops:Array Oper)(K:AF→Prop):Nat→Array Bool→AF→Prop
 | 0,listed,φ=>Region.ready .any ops listed= []∧K φ
 | f+1,listed,φ=>(Region.ready .any ops listed= []→K φ)∧∀i∈Region.ready .any ops listed,∃o,ops[i]?=some o∧∃r,iW P st ops o r φ∧EA P st ops K f (listed.setIfInBounds i true) (φ.put o.dst r)
theorem RZ{N:Nat}{ops:Array Oper}(hN:∀(j d:Nat),(ops[j]?).bind (·.dst)=some d→d<N)(hD:∀o∈ops.toList,m8 N o=true){K:AF→Prop}{Q:Exit→Act→World→Prop}{w0:World}
 (hK:∀φ a w,K φ→Rel N a w φ st→bQ w0.heap st w.heap st→eD w0 w→Q .normal a w) :
 ∀(f:Nat) (listed:Array Bool) (φ:AF) (a:Act) (w:World),EA P st ops K f listed φ→Rel N a w φ st→bQ w0.heap st w.heap st→eD w0 w→wpAny P .any ops Q f listed a w
 | 0,listed,φ,a,w,h,R,T,s=>⟨h.1,hK φ a w h.2 R T s⟩
 | f+1,listed,φ,a,w,h,R,T,s=>by
  refine⟨fun h0=>hK φ a w (h.1 h0) R T s,fun i hi=>?_⟩
  obtain⟨o,ho,r,y,h'⟩:=h.2 i hi
  exact SE hN ho R (hD o (mS.2 (z9 ho))) y fun a' w' R' T' s'=>RZ hN hD hK f _ _ a' w' h' R' (T.trans T') (s.trans s')
theorem aMG{ops:Array Oper}{i:Nat}{oi:Oper}{v:AV}{K:AF→Prop}(hi:ops[i]?=some oi) :
 ∀(f:Nat) (listed:Array Bool) (φ:AF),
  (∀j oj,ops[j]?=some oj→j≠i→listed.getD j true=false→(∀e∈oj.after,Region.binds .any e=true→e.on≠i)→oi.apart ops oj=true) →
  i∈Region.ready .any ops listed→iW P st ops oi v φ →
  EA P st ops K f (listed.setIfInBounds i true) (φ.put oi.dst v)→EA P st ops K (f+1) listed φ:=by
 intro f
 induction f with
 | zero=>
  intro listed φ _ hr hy H
  refine⟨fun h=>(by rw[h] at hr;cases hr),fun j hj=>?_⟩
  by_cases hji:j=i
  · subst hji;exact⟨oi,hi,v,hy,H⟩
  · have:=ready_mono hj hji
    rw[H.1] at this
    cases this
 | succ f ih=>
  intro listed φ r8 hr hy H
  refine⟨fun h=>(by rw[h] at hr;cases hr),fun j hj=>?_⟩
  by_cases hji:j=i
  · subst hji;exact⟨oi,hi,v,hy,H⟩
  · obtain⟨oj,hoj,u,hu,h1⟩:=H.2 j (ready_mono hj hji)
    obtain⟨n5,oj',yV,c9⟩:=mem_ready.1 hj
    have:oj'=oj:=mL (yV.symm.trans hoj)
    subst this
    have hun:=(mem_ready.1 hr).1
    have vI:∀e∈oj'.after,Region.binds .any e=true→e.on≠i:=fun e he hb heq=>by
     have h1:=c9 e he hb
     rw[heq,getD_both hun] at h1
     cases h1
    obtain⟨a1,a2,a3⟩:=Oper.apart_spec (r8 j oj' hoj hji n5 vI)
    have tG:∀k ok,ops[k]?=some ok→k≠i→(listed.setIfInBounds j true).getD k true=false →
     (∀e∈ok.after,Region.binds .any e=true→e.on≠i)→oi.apart ops ok=true:=fun k ok hk hki hun hno=>by
     refine r8 k ok hk hki ?_ hno
     by_cases hjk:j=k
     · subst hjk;exact n5
     · rw[getD_set_ne true hjk] at hun;exact hun
    refine⟨oj',hoj,u,(oX φ v a1).1 hu,?_⟩
    refine ih (listed.setIfInBounds j true) (φ.put oj'.dst u) tG (ready_mono hr (dM hji)) ((oX φ u a3).2 hy) ?_
    rw[AA _ _ hji,←put_comm φ v u a2]
    exact h1
theorem RY{ops:Array Oper}{K:AF→Prop}:∀(l:List Oper) (k:Nat) (listed:Array Bool) (φ:AF),(∀j,l[j]?=ops[k+j]?)→Region.lexFrom .any ops l.length k listed=true→oV P st ops l K φ →
 EA P st ops K l.length listed φ
 | [],_,_,_,_,hB,h=>⟨by simpa [Region.lexFrom] using hB,h⟩
 | o::l,k,listed,φ,hl,hB,h=>by
  have h0:ops[k]?=some o:=by simpa using (hl 0).symm
  simp only[aX,Region.lexFrom,bD] at hB
  obtain⟨⟨hr,hf⟩,hB'⟩:=hB
  obtain⟨r,hy,hK⟩:∃r,iW P st ops o r φ∧oV P st ops l K (φ.put o.dst r):=by
   simp only[oV] at h
   split at h
   · rename_i hg;obtain⟨r,h1,h2⟩:=h;exact⟨r,.inl ⟨hg,h1⟩,h2⟩
   · rename_i hg;exact⟨_,.inr ⟨hg,rfl⟩,h⟩
   · cases h
  exact aMG h0 l.length listed φ (Region.free_spec h0 hf) (by simpa using hr) hy
   (RY l (k+1) _ _ (fun j=>by have:=hl (j+1);simpa [AI,Nat.add_comm 1 j] using this) hB' hK)
theorem aNI{N:Nat}{id:Nat}{ops:Array Oper}{Q:Exit→AF→aA→Prop}{φ:AF}(hm:P.follows .mixedOrders=true)(hok:oD N ops=true)(hB:Region.lexB .any ops=true)
 (h:oV P st ops ops.toList (fun φ'=>Q .normal φ' st) φ):eG P N (.region id ops true) Q φ st:=by
 intro a w R
 simp only[Region.lexB,bD] at hB
 refine wp_region_any hm ?_
 have H:=RY (P:=P) (st:=st) (K:=fun φ'=>Q .normal φ' st) ops.toList 0 (Array.replicate ops.size false) φ (by simp) (by simpa using hB.2) h
 have R0:Rel N a { w with drawn:=w.drawn+1 } φ st:=⟨R.size,R.defers,R.frame,R.store⟩
 have:=RZ (P:=P) (st:=st) (w0:=w) (Q:=v7 N w st Q) (w6 hok) (vQ hok) (fun φ' a' w' hK R' T s=>⟨φ',st,R',T,s,hK⟩) _ _ φ a { w with drawn:=w.drawn+1 } H R0 (bQ.refl _ _) ⟨rfl,rfl,rfl⟩
 simpa using this
end
end Go.AW
