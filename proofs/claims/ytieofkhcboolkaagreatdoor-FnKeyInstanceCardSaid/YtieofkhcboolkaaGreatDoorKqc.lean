/- Regions that draw their order: what leaves the owned store alone may come in any order. -/
import Derived.Test.YtieofkhcboolkaaGreatDoorKqb
set_option linter.unusedSimpArgs false
set_option linter.unusedVariables false
set_option maxRecDepth 100000
namespace Go.AW
section
variable {P:Program} {st:aA}
theorem AN{φ φ':AF}{x:Option Operand}(h:∀y∈x.toList,φ.eval y=φ'.eval y)(d m:Nat):dN φ x d m=dN φ' x d m:=by
 cases x with
 | none=>rfl
 | some y=>simp only[dN,h y (by simp)]
theorem EC{φ φ':AF}{ps:Array (Nat×Operand)}(h:∀y∈(ps.toList.map (·.2)),φ.eval y=φ'.eval y):k6 φ ps=k6 φ' ps:=by
 unfold k6
 apply List.map_congr_left
 intro p hp
 rw[h p.2 (fN.2 ⟨p,hp,rfl⟩)]
theorem VI{φ φ':AF}{o:Oper}(h:∀x∈o.op.operands,φ.eval x=φ'.eval x):gD P φ st o=gD P φ' st o:=by
 obtain⟨dst,op,type,pos,after,guard⟩:=o
 cases op<;>simp only[Op.operands] at h<;>simp only[gD]
 case move x=>rw[h x (by simp)]
 case assign x=>rw[h x (by simp)]
 case pick c a b=>rw[h c (by simp),h a (by simp),h b (by simp)]
 case binOp op t x y t'=>rw[h x (by simp),h y (by simp)]
 case unOp op t x=>rw[h x (by simp)]
 case nilCheck x=>rw[h x (by simp)]
 case fieldAddr t x f=>rw[h x (by simp)]
 case load t x=>rw[h x (by simp)]
 case field t x f=>rw[h x (by simp)]
 case indexAddr t x i=>rw[h x (by simp),h i (by simp)]
 case index t x i=>rw[h x (by simp),h i (by simp)]
 case slice t x lo hi mx=>
  rw[h x (by simp)]
  have hl:=AN (φ:=φ) (φ':=φ') (x:=lo) (fun y hy=>h y (by simp_all))
  have hh:=AN (φ:=φ) (φ':=φ') (x:=hi) (fun y hy=>h y (by simp_all))
  have hm:=AN (φ:=φ) (φ':=φ') (x:=mx) (fun y hy=>h y (by simp_all))
  unfold i8 nE
  cases eI P t with
  | none=>cases lo<;>cases hi<;>cases mx<;>first | rfl | simp only[hl,hh,hm]
  | some q=>cases lo<;>cases hi<;>cases mx<;>first | rfl | simp only[hl,hh,hm]
 case extract x i=>rw[h x (by simp)]
 case makeFunc fn first bX=>
  have hc:bX.toList.map φ.eval=bX.toList.map φ'.eval:=List.map_congr_left fun x hx=>h x (by simp_all)
  cases fn<;>simp only[hc]
 case build t ps=>unfold qW;rw[EC fun y hy=>h y (by simpa using hy)]
 case buildSlice t n ps=>unfold qV;rw[EC fun y hy=>h y (by simpa using hy)]
 case convert src dst x=>rw[h x (by simp)]
 case box t x=>rw[h x (by simp)]
 case lookup t x i ok=>rw[h x (by simp),h i (by simp)]
 case call c=>
  obtain⟨callee,args,ats⟩:=c
  have ha:∀x∈args.toList,φ.eval x=φ'.eval x:=fun x hx=>h x (by simp [Call.operands];exact .inr (jL.1 hx))
  cases callee with
  | builtin b=>
   cases b<;>try rfl
   · simp only
     split
     · rename_i x t hx _;rw[ha x (by rw[hx];simp)]
     · rfl
   · simp only
     split
     · rename_i x y hx;rw[ha x (by rw[hx];simp),ha y (by rw[hx];simp)]
     · rfl
   · simp only
     split
     · rename_i x y hx;rw[ha x (by rw[hx];simp),ha y (by rw[hx];simp)]
     · rfl
  | _=>rfl
theorem EE{mt:List Nat}{φ φ':AF}{o:Oper}{K:AV→aA→Prop}(h:∀x∈o.op.operands,φ.eval x=φ'.eval x):cW P mt φ st o K=cW P mt φ' st o K:=by
 have hv:=VI (P:=P) (st:=st) h
 obtain⟨dst,op,type,pos,after,guard⟩:=o
 cases op<;>simp only[Op.operands] at h<;>(try (simp only[cW,hv];done))
 case box t x=>simp only[cW];rw[h x (by simp)]
 case store t p x=>simp only[cW];rw[h p (by simp),h x (by simp)]
 case makeMap t r=>cases r<;>simp only[cW,hv]
 case makeSlice t n c=>simp only[cW];rw[h n (by simp),h c (by simp)]
 case mapUpdate t m k x=>simp only[cW];rw[h m (by simp),h k (by simp),h x (by simp)]
 case call c=>
  obtain⟨callee,args,ats⟩:=c
  have ha:∀x∈args.toList,φ.eval x=φ'.eval x:=fun x hx=>h x (by simp [Call.operands];exact .inr (jL.1 hx))
  cases callee with
  | value f=>
   simp only[cW]
   rw[h f (by simp [Call.operands]),List.map_congr_left ha]
  | invoke r m=>simp only[cW,hv]
  | builtin b=>
   cases b<;>(try (simp only[cW,hv];done))
   · simp only[cW]
     split
     · rename_i s x t t' hx _;rw[ha s (by rw[hx];simp),ha x (by rw[hx];simp)]
     · rfl
   · simp only[cW]
     split
     · rename_i x t hx _;rw[ha x (by rw[hx];simp)]
     · rfl
   · simp only[cW]
     split
     · rename_i s x t t' hx _;rw[ha s (by rw[hx];simp),ha x (by rw[hx];simp)]
     · rfl
def fP(P:Program)(st:aA)(ops:Array Oper)(o:Oper)(r:AV)(φ:AF):Prop:=
 (eF ops φ o=some true∧cW P [] φ st o (fun r' st'=>r'=r∧st'=st))∨(eF ops φ o=some false∧r=.undef)
theorem yO{φ:AF}{dst:Option Tmp}{v:AV}{x:Operand}(h:∀d,dst=some d→x≠.tmp d):(φ.put dst v).eval x=φ.eval x:=by
 cases dst with
 | none=>rfl
 | some d=>
  cases x with
  | tmp t=>
   have hne:t≠d:=fun e=>h d rfl (e▸rfl)
   simp [AF.put,AF.eval,AF.aC,hne]
  | _=>rfl
theorem lD{ops:Array Oper}{oi oj:Oper}(φ:AF)(v:AV)(h:∀d,oj.dst=some d→d∉oi.looksAt ops){r:AV}:fP P st ops oi r (φ.put oj.dst v)↔fP P st ops oi r φ:=by
 have h1:cW P [] (φ.put oj.dst v) st oi (fun r' st'=>r'=r∧st'=st)=cW P [] φ st oi (fun r' st'=>r'=r∧st'=st):=
  EE fun x hx=>yO fun d hd hxd=>h d hd (by
   subst hxd
   exact List.mem_append_left _ (List.mem_filterMap.2 ⟨.tmp d,by simpa using hx,rfl⟩))
 have h2:eF ops (φ.put oj.dst v) oi=eF ops φ oi:=by
  unfold eF
  cases hg:oi.guard with
  | none=>rfl
  | some gw=>
   obtain⟨g,want⟩:=gw
   cases ht:(ops[g]?).bind (·.dst) with
   | none=>simp only[ht]
   | some t=>
    simp only[ht]
    have:(φ.put oj.dst v) t=φ t:=by
     have:=yO (φ:=φ) (dst:=oj.dst) (v:=v) (x:=.tmp t) (fun d hd hxd=>h d hd (by
      cases hxd
      simp [Oper.looksAt,hg,ht]))
     exact this
    rw[this]
 unfold fP
 rw[h1,h2]
theorem put_comm(φ:AF){x y:Option Tmp}(v u:AV)(h:∀d,x=some d→y≠some d):(φ.put x v).put y u=(φ.put y u).put x v:=by
 cases x with
 | none=>rfl
 | some d=>
  cases y with
  | none=>rfl
  | some e=>exact AF.mT φ v u (fun he=>h d rfl (he▸rfl))
def U3(P:Program)(st:aA)(ops:Array Oper)(n:Nat)(L:Array Bool→AF→Prop):Nat→Array Bool→AF→Prop
 | 0,listed,φ=>L listed φ
 | f+1,listed,φ=>Region.ready .any ops listed≠[]∧∀i∈Region.ready .any ops listed,i<n∧∃o,ops[i]?=some o∧∃r,fP P st ops o r φ∧U3 P st ops n L f (listed.setIfInBounds i true) (φ.put o.dst r)
theorem VM{N:Nat}{ops:Array Oper}(hN:∀(j d:Nat),(ops[j]?).bind (·.dst)=some d→d<N){o:Oper}{i:Nat}{a:Act}{w:World}{φ:AF}{r:AV}{K:Act→World→Prop}{Q:Exit→Act→World→Prop}(hi:ops[i]?=some o)
 (R:Rel N a w φ st) (hd:kL N o=true) (y:fP P st ops o r φ) (h:∀a' w',Rel N a' w' (φ.put o.dst r) st→aX w.heap st w'.heap st→c9 w w'→K a' w'):wpOp P ops Q i K a w:=by
 unfold wpOp
 simp only[hi]
 rcases y with ⟨hg,hs⟩ | ⟨hg,rfl⟩
 · rw[aU (oC R hN hg)]
   refine .inl (wY R.frame R.store hs fun v w' ⟨r',st',x1,x2,x3,x4,x5⟩=>?_)
   obtain⟨rfl,rfl⟩:=x5
   exact h _ _ (R.put hd x3 x2 x1) x3 x4
 · rw[aS (by rw[oC R hN hg];simp)]
   exact h _ _ (R.put (r:=.undef) hd (aX.refl _ _) R.store ⟨rfl,rfl⟩) (aX.refl _ _) (c9.refl _)
def nC(P:Program)(st:aA)(ops:Array Oper):List Oper→(AF→Prop)→AF→Prop
 | [],K,φ=>K φ
 | o::rest,K,φ=>match eF ops φ o with
  | some true=>∃r,cW P [] φ st o (fun r' st'=>r'=r∧st'=st)∧nC P st ops rest K (φ.put o.dst r)
  | some false=>nC P st ops rest K (φ.put o.dst .undef)
  | none=>False
def tU(P:Program)(st:aA)(ops:Array Oper)(K:AF→Prop):Nat→Array Bool→AF→Prop
 | 0,listed,φ=>Region.ready .any ops listed= []∧K φ
 | f+1,listed,φ=>(Region.ready .any ops listed= []→K φ)∧∀i∈Region.ready .any ops listed,∃o,ops[i]?=some o∧∃r,fP P st ops o r φ∧tU P st ops K f (listed.setIfInBounds i true) (φ.put o.dst r)
theorem D7{N:Nat}{ops:Array Oper}(hN:∀(j d:Nat),(ops[j]?).bind (·.dst)=some d→d<N)(hD:∀o∈ops.toList,kL N o=true){K:AF→Prop}{Q:Exit→Act→World→Prop}{w0:World}
 (hK:∀φ a w,K φ→Rel N a w φ st→aX w0.heap st w.heap st→c9 w0 w→Q .normal a w) :
 ∀(f:Nat) (listed:Array Bool) (φ:AF) (a:Act) (w:World),tU P st ops K f listed φ→Rel N a w φ st→aX w0.heap st w.heap st→c9 w0 w→wpAny P .any ops Q f listed a w
 | 0,listed,φ,a,w,h,R,T,s=>⟨h.1,hK φ a w h.2 R T s⟩
 | f+1,listed,φ,a,w,h,R,T,s=>by
  refine⟨fun h0=>hK φ a w (h.1 h0) R T s,fun i hi=>?_⟩
  obtain⟨o,ho,r,y,h'⟩:=h.2 i hi
  exact VM hN ho R (hD o (jL.2 (tF ho))) y fun a' w' R' T' s'=>D7 hN hD hK f _ _ a' w' h' R' (T.trans T') (s.trans s')
theorem U4{ops:Array Oper}{i:Nat}{oi:Oper}{v:AV}{K:AF→Prop}(hi:ops[i]?=some oi) :
 ∀(f:Nat) (listed:Array Bool) (φ:AF),
  (∀j oj,ops[j]?=some oj→j≠i→listed.getD j true=false→(∀e∈oj.after,Region.binds .any e=true→e.on≠i)→oi.apart ops oj=true) →
  i∈Region.ready .any ops listed→fP P st ops oi v φ →
  tU P st ops K f (listed.setIfInBounds i true) (φ.put oi.dst v)→tU P st ops K (f+1) listed φ:=by
 intro f
 induction f with
 | zero=>
  intro listed φ _ hr hy H
  refine⟨fun h=>(by rw[h] at hr;cases hr),fun j hj=>?_⟩
  by_cases hji:j=i
  · subst hji;exact⟨oi,hi,v,hy,H⟩
  · have:=ready_mono hj hji
    rw[H.1] at this
    cases this
 | succ f ih=>
  intro listed φ oR hr hy H
  refine⟨fun h=>(by rw[h] at hr;cases hr),fun j hj=>?_⟩
  by_cases hji:j=i
  · subst hji;exact⟨oi,hi,v,hy,H⟩
  · obtain⟨oj,hoj,u,hu,h1⟩:=H.2 j (ready_mono hj hji)
    obtain⟨lM,oj',uY,cX⟩:=mem_ready.1 hj
    have:oj'=oj:=m8 (uY.symm.trans hoj)
    subst this
    have hun:=(mem_ready.1 hr).1
    have p7:∀e∈oj'.after,Region.binds .any e=true→e.on≠i:=fun e he hb heq=>by
     have h1:=cX e he hb
     rw[heq,getD_both hun] at h1
     cases h1
    obtain⟨a1,a2,a3⟩:=Oper.apart_spec (oR j oj' hoj hji lM p7)
    have oS:∀k ok,ops[k]?=some ok→k≠i→(listed.setIfInBounds j true).getD k true=false →
     (∀e∈ok.after,Region.binds .any e=true→e.on≠i)→oi.apart ops ok=true:=fun k ok hk hki hun hno=>by
     refine oR k ok hk hki ?_ hno
     by_cases hjk:j=k
     · subst hjk;exact lM
     · rw[getD_set_ne true hjk] at hun;exact hun
    refine⟨oj',hoj,u,(lD φ v a1).1 hu,?_⟩
    refine ih (listed.setIfInBounds j true) (φ.put oj'.dst u) oS (ready_mono hr (cV hji)) ((lD φ u a3).2 hy) ?_
    rw[tG _ _ hji,←put_comm φ v u a2]
    exact h1
theorem D6{ops:Array Oper}{K:AF→Prop}:∀(l:List Oper) (k:Nat) (listed:Array Bool) (φ:AF),(∀j,l[j]?=ops[k+j]?)→Region.lexFrom .any ops l.length k listed=true→nC P st ops l K φ →
 tU P st ops K l.length listed φ
 | [],_,_,_,_,hB,h=>⟨by simpa [Region.lexFrom] using hB,h⟩
 | o::l,k,listed,φ,hl,hB,h=>by
  have h0:ops[k]?=some o:=by simpa using (hl 0).symm
  simp only[bD,Region.lexFrom,bV] at hB
  obtain⟨⟨hr,hf⟩,hB'⟩:=hB
  obtain⟨r,hy,hK⟩:∃r,fP P st ops o r φ∧nC P st ops l K (φ.put o.dst r):=by
   simp only[nC] at h
   split at h
   · rename_i hg;obtain⟨r,h1,h2⟩:=h;exact⟨r,.inl ⟨hg,h1⟩,h2⟩
   · rename_i hg;exact⟨_,.inr ⟨hg,rfl⟩,h⟩
   · cases h
  exact U4 h0 l.length listed φ (Region.free_spec h0 hf) (by simpa using hr) hy
   (D6 l (k+1) _ _ (fun j=>by have:=hl (j+1);simpa [tL,Nat.add_comm 1 j] using this) hB' hK)
theorem VV{N:Nat}{id:Nat}{ops:Array Oper}{Q:Exit→AF→aA→Prop}{φ:AF}(hm:P.follows .mixedOrders=true)(hok:lQ N ops=true)(hB:Region.lexB .any ops=true)
 (h:nC P st ops ops.toList (fun φ'=>Q .normal φ' st) φ):dT P N (.region id ops true) Q φ st:=by
 intro a w R
 simp only[Region.lexB,bV] at hB
 refine wp_region_any hm ?_
 have H:=D6 (P:=P) (st:=st) (K:=fun φ'=>Q .normal φ' st) ops.toList 0 (Array.replicate ops.size false) φ (by simp) (by simpa using hB.2) h
 have R0:Rel N a { w with drawn:=w.drawn+1 } φ st:=⟨R.size,R.defers,R.frame,R.store⟩
 have:=D7 (P:=P) (st:=st) (w0:=w) (Q:=q6 N w st Q) (vB hok) (sP hok) (fun φ' a' w' hK R' T s=>⟨φ',st,R',T,s,hK⟩) _ _ φ a { w with drawn:=w.drawn+1 } H R0 (aX.refl _ _) ⟨rfl,rfl,rfl⟩
 simpa using this
end
end Go.AW
