/- Regions that draw their order: what leaves the owned store alone may come in any order. -/
import Derived.Test.YtlepdbmhjkmelaaGreatWrb
set_option linter.unusedSimpArgs false
set_option linter.unusedVariables false
set_option maxRecDepth 100000
namespace Go.AW
section
variable {P:Program} {st:aA}
theorem w5{φ φ':AF}{x:Option Operand}(h:∀y∈x.toList,φ.eval y=φ'.eval y)(d m:Nat):dJ φ x d m=dJ φ' x d m:=by
 cases x with
 | none=>rfl
 | some y=>simp only[dJ,h y (by simp)]
theorem A7{φ φ':AF}{ps:Array (Nat×Operand)}(h:∀y∈(ps.toList.map (·.2)),φ.eval y=φ'.eval y):jY φ ps=jY φ' ps:=by
 unfold jY
 apply List.map_congr_left
 intro p hp
 rw[h p.2 (gR.2 ⟨p,hp,rfl⟩)]
theorem RF{φ φ':AF}{o:Oper}(h:∀x∈o.op.operands,φ.eval x=φ'.eval x):fH P φ st o=fH P φ' st o:=by
 obtain⟨dst,op,type,pos,after,guard⟩:=o
 cases op<;>simp only[Op.operands] at h<;>simp only[fH]
 case move x=>rw[h x (by simp)]
 case assign x=>rw[h x (by simp)]
 case pick c a b=>rw[h c (by simp),h a (by simp),h b (by simp)]
 case binOp op t x y t'=>rw[h x (by simp),h y (by simp)]
 case unOp op t x=>rw[h x (by simp)]
 case nilCheck x=>rw[h x (by simp)]
 case fieldAddr t x f=>rw[h x (by simp)]
 case load t x=>rw[h x (by simp)]
 case field t x f=>rw[h x (by simp)]
 case indexAddr t x i=>rw[h x (by simp),h i (by simp)]
 case index t x i=>rw[h x (by simp),h i (by simp)]
 case slice t x lo hi mx=>
  rw[h x (by simp)]
  have hl:=w5 (φ:=φ) (φ':=φ') (x:=lo) (fun y hy=>h y (by simp_all))
  have hh:=w5 (φ:=φ) (φ':=φ') (x:=hi) (fun y hy=>h y (by simp_all))
  have hm:=w5 (φ:=φ) (φ':=φ') (x:=mx) (fun y hy=>h y (by simp_all))
  unfold j7 n6
  cases eI P t with
  | none=>cases lo<;>cases hi<;>cases mx<;>first | rfl | simp only[hl,hh,hm]
  | some q=>cases lo<;>cases hi<;>cases mx<;>first | rfl | simp only[hl,hh,hm]
 case extract x i=>rw[h x (by simp)]
 case makeFunc fn first cJ=>
  have hc:cJ.toList.map φ.eval=cJ.toList.map φ'.eval:=List.map_congr_left fun x hx=>h x (by simp_all)
  cases fn<;>simp only[hc]
 case build t ps=>unfold o7;rw[A7 fun y hy=>h y (by simpa using hy)]
 case buildSlice t n ps=>unfold o6;rw[A7 fun y hy=>h y (by simpa using hy)]
 case convert src dst x=>rw[h x (by simp)]
 case box t x=>rw[h x (by simp)]
 case lookup t x i ok=>rw[h x (by simp),h i (by simp)]
 case call c=>
  obtain⟨callee,args,ats⟩:=c
  have ha:∀x∈args.toList,φ.eval x=φ'.eval x:=fun x hx=>h x (by simp [Call.operands];exact .inr (iV.1 hx))
  cases callee with
  | builtin b=>
   cases b<;>try rfl
   · simp only
     split
     · rename_i x t hx _;rw[ha x (by rw[hx];simp)]
     · rfl
   · simp only
     split
     · rename_i x t hx _;rw[ha x (by rw[hx];simp)]
     · rfl
   · simp only
     split
     · rename_i x y hx;rw[ha x (by rw[hx];simp),ha y (by rw[hx];simp)]
     · rfl
   · simp only
     split
     · rename_i x y hx;rw[ha x (by rw[hx];simp),ha y (by rw[hx];simp)]
     · rfl
  | _=>rfl
theorem A9{mt:List Nat}{φ φ':AF}{o:Oper}{K:AV→aA→Prop}(h:∀x∈o.op.operands,φ.eval x=φ'.eval x):cK P mt φ st o K=cK P mt φ' st o K:=by
 have hv:=RF (P:=P) (st:=st) h
 obtain⟨dst,op,type,pos,after,guard⟩:=o
 cases op<;>simp only[Op.operands] at h<;>(try (simp only[cK,hv];done))
 case box t x=>simp only[cK];rw[h x (by simp)]
 case store t p x=>simp only[cK];rw[h p (by simp),h x (by simp)]
 case makeMap t r=>cases r<;>simp only[cK,hv]
 case makeSlice t n c=>simp only[cK];rw[h n (by simp),h c (by simp)]
 case mapUpdate t m k x=>simp only[cK];rw[h m (by simp),h k (by simp),h x (by simp)]
 case call c=>
  obtain⟨callee,args,ats⟩:=c
  have ha:∀x∈args.toList,φ.eval x=φ'.eval x:=fun x hx=>h x (by simp [Call.operands];exact .inr (iV.1 hx))
  cases callee with
  | value f=>
   simp only[cK]
   rw[h f (by simp [Call.operands]),List.map_congr_left ha]
  | invoke r m=>simp only[cK,hv]
  | builtin b=>
   cases b<;>(try (simp only[cK,hv];done))
   · simp only[cK]
     split
     · rename_i s x t t' hx _;rw[ha s (by rw[hx];simp),ha x (by rw[hx];simp)]
     · rfl
   · simp only[cK]
     split
     · rename_i x t hx _;rw[ha x (by rw[hx];simp)]
     · rfl
   · simp only[cK]
     split
     · rename_i s x t t' hx _;rw[ha s (by rw[hx];simp),ha x (by rw[hx];simp)]
     · rfl
def gH(P:Program)(st:aA)(ops:Array Oper)(o:Oper)(r:AV)(φ:AF):Prop:=
 (eF ops φ o=some true∧cK P [] φ st o (fun r' st'=>r'=r∧st'=st))∨(eF ops φ o=some false∧r=.undef)
theorem vG{φ:AF}{dst:Option Tmp}{v:AV}{x:Operand}(h:∀d,dst=some d→x≠.tmp d):(φ.put dst v).eval x=φ.eval x:=by
 cases dst with
 | none=>rfl
 | some d=>
  cases x with
  | tmp t=>
   have hne:t≠d:=fun e=>h d rfl (e▸rfl)
   simp [AF.put,AF.eval,AF.aC,hne]
  | _=>rfl
theorem lY{ops:Array Oper}{oi oj:Oper}(φ:AF)(v:AV)(h:∀d,oj.dst=some d→d∉oi.looksAt ops){r:AV}:gH P st ops oi r (φ.put oj.dst v)↔gH P st ops oi r φ:=by
 have h1:cK P [] (φ.put oj.dst v) st oi (fun r' st'=>r'=r∧st'=st)=cK P [] φ st oi (fun r' st'=>r'=r∧st'=st):=
  A9 fun x hx=>vG fun d hd hxd=>h d hd (by
   subst hxd
   exact List.mem_append_left _ (List.mem_filterMap.2 ⟨.tmp d,by simpa using hx,rfl⟩))
 have h2:eF ops (φ.put oj.dst v) oi=eF ops φ oi:=by
  unfold eF
  cases hg:oi.guard with
  | none=>rfl
  | some gw=>
   obtain⟨g,want⟩:=gw
   cases ht:(ops[g]?).bind (·.dst) with
   | none=>simp only[ht]
   | some t=>
    simp only[ht]
    have:(φ.put oj.dst v) t=φ t:=by
     have:=vG (φ:=φ) (dst:=oj.dst) (v:=v) (x:=.tmp t) (fun d hd hxd=>h d hd (by
      cases hxd
      simp [Oper.looksAt,hg,ht]))
     exact this
    rw[this]
 unfold gH
 rw[h1,h2]
theorem put_comm(φ:AF){x y:Option Tmp}(v u:AV)(h:∀d,x=some d→y≠some d):(φ.put x v).put y u=(φ.put y u).put x v:=by
 cases x with
 | none=>rfl
 | some d=>
  cases y with
  | none=>rfl
  | some e=>exact AF.nV φ v u (fun he=>h d rfl (he▸rfl))
end
end Go.AW
