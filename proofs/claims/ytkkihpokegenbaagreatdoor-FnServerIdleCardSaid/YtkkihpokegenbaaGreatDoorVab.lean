/- Calls, stores, new objects: what each operation comes to with the owned store; lists of operations; code. -/
import Derived.Test.YtkkihpokegenbaaGreatDoorVaa
import Derived.Lib.AppendStr
import Derived.StillTail
set_option linter.unusedSimpArgs false
set_option linter.unusedVariables false
set_option maxRecDepth 100000
namespace Go.AW
theorem bQ.oC{h h':a7}{st:aA}{b:Nat}{o:AO}(hb:st b≠none)(hs:h.size≤h'.size)(k:∀x,x<h.size→x≠b→h'[x]?=h[x]?)
 (sh:∀c t fr,h[b]?=some (.cells c t fr)→∃c',h'[b]?=some (.cells c' t fr)∧c'.size=c.size):bQ h st h' (st.aC b o):=by
 refine⟨hs,fun x hx e=>?_,fun x c t fr e=>?_⟩
 · have hne:x≠b:=fun q=>hb (q▸e)
   exact⟨k x hx hne,by rw[aA.aJ _ _ hne];exact e⟩
 · by_cases hne:x=b
   · subst hne;exact sh c t fr e
   · have hx:x<h.size:=by
      rcases kK x h.size with h1 | h1
      · exact h1
      · simp [Array.getElem?_eq_none h1] at e
     exact⟨c,by rw[k x hx hne];exact e,rfl⟩
theorem cA.oC{h h':a7}{st:aA}{b:Nat}{o:AO}(S:cA h st)(T:bQ h st h' (st.aC b o))(hb:b<h'.size)(k:∀x,x<h.size→x≠b→h'[x]?=h[x]?)(ho:lA h' (st.aC b o) b o) :
 cA h' (st.aC b o):=by
 intro x p e
 by_cases hne:x=b
 · subst hne
   rw[aA.aH] at e;cases e
   exact⟨hb,ho⟩
 · rw[aA.aJ _ _ hne] at e
   obtain⟨l,r⟩:=S x p e
   exact⟨uF l T.size,lA.mono T (k x l hne) r⟩
theorem bQ.CJ(h:a7)(st:aA)(o:Obj)(p:AO):bQ h st (h.push o) (st.aC h.size p):=by
 have E:=Ext.push h o
 refine⟨E.size,fun x hx e=>⟨E.aY x hx,by rw[aA.aJ _ _ (by omega)];exact e⟩,(E.step st).shape⟩
theorem cA.fresh{h:a7}{st:aA}(S:cA h st):st h.size=none:=by
 cases e:st h.size with
 | none=>rfl
 | some o=>exact absurd (S _ _ e).1 (Nat.lt_irrefl _)
theorem cA.CJ{h:a7}{st:aA}{o:Obj}{p:AO}(S:cA h st)(ho:lA (h.push o) (st.aC h.size p) h.size p):cA (h.push o) (st.aC h.size p):=
 S.oC (bQ.CJ h st o p) (by simp) (fun x hx _=>(Ext.push h o).aY x hx) ho
def Enters(P:Program)(g:FuncId):Prop:=∃fn,P.funcs[g]?=some fn∧fn.body.isSome=true∧(fn.name == "runtime.NumGoroutine")=false
def cO(h:a7)(st:aA):List AV→List Value→Prop
 | [],vs=>vs= []
 | a::as,vs=>∃v r,vs=v::r∧aM h st a v∧cO h st as r
theorem cO.eval{h:a7}{st:aA}{a:Act}{φ:AF}(F:dR h st a.tmps φ):∀(l:List Operand),cO h st (l.map φ.eval) (l.map a.eval)
 | []=>by simp [cO]
 | o::l=>by simp only[bL,cO];exact⟨_,_,rfl,aM.eval F o,cO.eval F l⟩
theorem cO.aHR{h:a7}{st:aA}:∀ {as:List AV} {vs:List Value},c7 h st as vs→cO h st as vs
 | [],_,x=>by simpa [c7,cO] using x
 | a::as,vs,x=>by
  simp only[c7] at x
  obtain⟨v,r,rfl,x1,x2⟩:=x
  simp only[cO]
  exact⟨v,r,rfl,aM.aHT x1,cO.aHR x2⟩
theorem cO.append{h:a7}{st:aA}:∀ {as bs:List AV} {vs us:List Value},cO h st as vs→cO h st bs us→cO h st (as++bs) (vs++us)
 | [],_,vs,us,x,y=>by simp only[cO] at x;subst x;simpa using y
 | a::as,_,vs,us,x,y=>by
  simp only[cO] at x
  obtain⟨c,r,rfl,x1,x2⟩:=x
  simp only[fU,cO]
  exact⟨c,r++us,rfl,x1,cO.append x2 y⟩
def aD(P:Program)(g:FuncId)(args:List AV)(st:aA)(Q:AV→aA→Prop):Prop:=
 Enters P g∧∀(w:World) (vs:List Value),cA w.heap st→cO w.heap st args vs →
  Calls P g vs.toArray w fun e w'=>∃v r st',e=.returned v∧aM w'.heap st' r v∧cA w'.heap st'∧bQ w.heap st w'.heap st'∧eD w w'∧Q r st'
theorem aD.mono{P:Program}{g:FuncId}{args:List AV}{st:aA}{Q Q':AV→aA→Prop}(x:aD P g args st Q)(h:∀r st',Q r st'→Q' r st'):aD P g args st Q':=
 ⟨x.1,fun w vs S V=>(x.2 w vs S V).mono fun _ _ ⟨v,r,st',e,a,b,c,d,q⟩=>⟨v,r,st',e,a,b,c,d,h r st' q⟩⟩
def kM(st:aA)(w:World)(K:AV→aA→Prop)(v:Value)(w':World):Prop:=
 ∃r st',aM w'.heap st' r v∧cA w'.heap st'∧bQ w.heap st w'.heap st'∧eD w w'∧K r st'
def AV.storable:AV→Bool
 | .int _ _ | .bool _ | .str _ | .slice _ | .fslice _ | .mslice _ _ _ _ | .nilptr | .ptr _ _ | .pptr _ | .nilmap | .map _ | .func _ _=>true
 | .raw v=>v.oneCell'
 | _=>false
theorem VC.zC{h:a7}{st:aA}{a:AV}{v:Value}(x:VC h st a [v])(hs:a.storable=true):v.oneCell'=true:=by
 cases a<;>simp [AV.storable] at hs<;>simp only[VC] at x
 case int=>cases x;rfl
 case bool=>cases x;rfl
 case str=>obtain⟨x,_⟩:=x;cases x;rfl
 case slice=>rcases x with ⟨⟨_,x⟩,_⟩ | ⟨_,_,_,x,_⟩<;>cases x<;>rfl
 case fslice=>rcases x with ⟨⟨_,x⟩,_⟩ | ⟨_,_,x,_⟩<;>cases x<;>rfl
 case mslice=>obtain⟨_,x,_⟩:=x;cases x;rfl
 case nilptr=>cases x;rfl
 case ptr=>cases x;rfl
 case pptr=>obtain⟨_,_,x,_⟩:=x;cases x;rfl
 case nilmap=>cases x;rfl
 case map=>cases x;rfl
 case func=>obtain⟨_,x,_⟩:=x;cases x;rfl
 case raw=>obtain⟨x,_⟩:=x;cases x;exact hs
theorem aR.zC{h:a7}{st:aA}:∀ {as:List AV} {vs:List Value},aR h st as vs→as.all AV.storable=true→∀v∈vs,v.oneCell'=true
 | [],vs,x,_,v,hv=>by simp only[aR] at x;subst x;simp at hv
 | a::as,vs,x,hs,v,hv=>by
  simp only[aR] at x
  obtain⟨c,r,rfl,x1,x2⟩:=x
  simp at hs
  rcases cL.1 hv with rfl | hv
  · exact x1.zC hs.1
  · exact aR.zC x2 (by simpa using hs.2) v hv
def aG(cs:List AV)(o:Nat)(x:List AV):List AV:=cs.take o++x++cs.drop (o+x.length)
theorem BH{h:a7}{b:Nat}{c:Array Value}{t:TypeId}{fr:Nat×Nat}(e:h[b]?=some (.cells c t fr)):∀(n off:Nat),off+n≤c.size→d8 h b off ((c.toList.drop off).take n)
 | 0,off,_=>by simp [d8]
 | n+1,off,hl=>by
  have hlt:off<c.toList.length:=by simp;omega
  rw[uA hlt,uE]
  refine⟨?_,BH e n (off+1) (by omega)⟩
  simp only[cellAt,e]
  simp at hlt
  simp [hlt]
theorem BI{h:a7}{b:Nat}{c:Array Value}{t:TypeId}{fr:Nat×Nat}(e:h[b]?=some (.cells c t fr)):∀ {vs:List Value} {off:Nat},d8 h b off vs→(c.toList.drop off).take vs.length=vs
 | [],_,_=>by simp
 | v::vs,off,x=>by
  have h1:=x.1
  simp only[cellAt,e] at h1
  obtain⟨hlt,hv⟩:=LI.1 h1
  have bP:off<c.toList.length:=by simpa using hlt
  rw[uA bP,aX,uE,BI e x.2]
  simp [hv]
theorem aJF{α:Type}(C V:List α)(o n:Nat)(h:o+V.length≤n)(hn:n≤C.length) :
 (C.take o++V++C.drop (o+V.length)).take n=(C.take n).take o++V++(C.take n).drop (o+V.length):=by
 have hA:(C.take o++V).length=o+V.length:=by simp;omega
 rw[List.take_append,hA,oR (by omega),HD,oS (by omega),List.drop_take]
theorem a1U{P:Program}{st:aA}{w:World}{b o sz:Nat}{t:TypeId}{ag:Bool}{cs:List AV}{x:AV}{v:Value}(S:cA w.heap st)(hT:tI P t=some (ag,sz))(hs:st b=some (.cells cs))(hx:aM w.heap st x v)
 (hw:x.cells.length=sz) (eU:o+sz≤cs.length) (hst:x.cells.all AV.storable=true) :
 ∃w',(Instr.storeAt t (.pointer (some ⟨b,o,none⟩)) v).run P w=.ok () w'∧cA w'.heap (st.aC b (.cells (aG cs o x.cells)))∧bQ w.heap st w'.heap (st.aC b (.cells (aG cs o x.cells)))∧eD w w':=by
 obtain⟨hlt,c,ty,hb,hl,vs,x1,x2⟩:=S b _ hs
 have hj:x≠.junk:=by rintro rfl;simp [AV.cells,AV.storable] at hst
 have hc:=hx.cells hj
 have hlen:v.cells.toList.length=sz:=by rw[hc.length,hw]
 have cU:v.cells.size=sz:=by simpa using hlen
 obtain⟨_,r2,_⟩:=tI_run hT w
 have hvl:=x2.length
 have kT:=run_storeCells_at P b o ty v.cells.toList 0 c w hb (by omega) (hc.zC hst)
 simp only[D0,hlen] at kT
 refine⟨_,by simp only[Instr.storeAt,Instr.sureAddr,Sem.run_bind,Sem.run_pure,Result.andThen_ok,storeVar,r2,cU,ne_eq,JN,dA];exact kT,?_⟩
 generalize hc':(c.toList.take o++v.cells.toList++c.toList.drop (o+sz)).toArray=c' at *
 have hsz:c'.size=c.size:=by rw[←hc'];simp [cU];omega
 have eT:(w.setRow b c').heap[b]?=some (.cells c' ty (0,0)):=setRow_heap w b c c' ty (0,0) hb
 have l7:∀y,y<w.heap.size→y≠b→(w.setRow b c').heap[y]?=w.heap[y]?:=fun y _ hne=>setRow_other w b y c' hne
 have T:bQ w.heap st (w.setRow b c').heap (st.aC b (.cells (aG cs o x.cells))):=by
  refine bQ.oC (by rw[hs];simp) (by simp) l7 fun c1 t1 fr1 e1=>?_
  rw[hb] at e1;cases e1
  exact⟨c',eT,hsz⟩
 have pO:(aG cs o x.cells).length=cs.length:=by simp [aG,hw];omega
 refine⟨S.oC T (by simpa using hlt) l7 ⟨c',ty,eT,by rw[pO,hsz];exact hl,(c'.toList.drop 0).take cs.length,BH eT _ 0 (by rw[hsz];omega),?_⟩,T,⟨rfl,rfl,rfl⟩⟩
 refine aR.mono T _ _ ?_
 have n6:=BI hb x1
 simp only[sN] at n6 ⊢
 have e1:c'.toList.take cs.length=vs.take o++v.cells.toList++vs.drop (o+sz):=by
  rw[←hc',←n6,hvl]
  have:=aJF c.toList v.cells.toList o cs.length (by rw[hlen];exact eU) (by simpa using hl)
  rw[hlen] at this
  exact this
 rw[e1,aG,hw]
 exact((x2.take o).append hc).append (x2.drop (o+sz))
theorem d8.append{h:a7}{b:Nat}:∀ {vs us:List Value} {off:Nat},d8 h b off vs→d8 h b (off+vs.length) us→d8 h b off (vs++us)
 | [],us,off,_,y=>by simpa using y
 | v::vs,us,off,x,y=>⟨x.1,d8.append x.2 (by rw[show off+1+vs.length=off+(v::vs).length by simp;omega];exact y)⟩
theorem VC.cellsOf{h:a7}{st:aA}{a:AV}{vs:List Value}(x:VC h st a vs):aR h st a.cells vs:=by
 by_cases ha:a.isAgg=true
 · cases a<;>simp [AV.isAgg] at ha
   simpa [AV.cells,VC] using x
 · have ha':a.isAgg=false:=by simpa using ha
   obtain⟨c,rfl⟩:=x.one ha'
   have h3:a.cells= [a]:=by cases a<;>first | rfl | (simp [AV.isAgg] at ha')
   rw[h3]
   simp only[aR]
   exact⟨c,[],rfl,x,rfl⟩
theorem cS.flat{h:a7}{st:aA}{b:Nat}:∀ {es:List AV} {off:Nat},cS h st b off es→∃vs,d8 h b off vs∧aR h st (es.flatMap AV.cells) vs
 | [],off,_=>⟨[],trivial,by simp [aR]⟩
 | e::es,off,x=>by
  simp only[cS] at x
  obtain⟨⟨cs,c1,c2,c3⟩,x2⟩:=x
  obtain⟨vs,v1,v2⟩:=cS.flat x2
  exact⟨cs++vs,c1.append (by rw[c2];exact v1),by simpa using c3.cellsOf.append v2⟩
theorem BJ(a:AV):a.cells.length=a.width:=by cases a<;>rfl
theorem lQ{n:Nat}:∀ {es:List AV},(∀e∈es,e.width=n)→(es.flatMap AV.cells).length=es.length*n
 | [],_=>by simp
 | e::es,h=>by
  have:=lQ (es:=es) (n:=n) (fun x hx=>h x (by simp [hx]))
  simp [BJ,h e (by simp),this,qA]
  omega
def AR:AV→Option (List AV)
 | .slice es | .fslice es=>some es
 | _=>none
def eB(P:Program)(t:TypeId):Option Nat:=
 match P.underlying t with
 | some (.slice e)=>(P.info? e).map (·.bytes)
 | _=>none
def uO(sz:Nat)(xs:List AV):Prop:=∀e∈xs,e.width=sz∧e.cells.all AV.storable=true
def iT(P:Program)(t:TypeId)(st:aA)(s x:AV)(K:AV→aA→Prop):Prop:=
 match eI P t,eB P t,eZ P t,AR x with
 | some (_,sz),some bytes,some zs,some xs=>zs.length=sz∧uO sz xs ∧
  match s with
  | .fslice es=>(es.length+xs.length)*bytes≤140737488355328∧es.length+xs.length≤9223372036854775807∧(∀e∈es,e.width=sz) ∧
   (xs= []→K (.fslice es) st)∧(xs≠[]→∀b,st b=none→K (.mslice b 0 (es.length+xs.length) sz) (st.aC b (.cells ((es++xs).flatMap AV.cells))))
  | .mslice b 0 len n=>n=sz∧(len+xs.length)*bytes≤140737488355328∧len+xs.length≤9223372036854775807 ∧
   (match st b with
    | some (.cells cs)=>len*sz≤cs.length∧K (.mslice b 0 (len+xs.length) sz) (st.aC b (.cells (cs.take (len*sz)++xs.flatMap AV.cells))) ∧
     ∀b',st b'=none→K (.mslice b' 0 (len+xs.length) sz) ((st.erase b).aC b' (.cells (cs.take (len*sz)++xs.flatMap AV.cells)))
    | _=>False)
  | _=>False
 | _,_,_,_=>False
theorem a01{P:Program}(w:World)(t ty e t':TypeId)(i:TypeInfo)(ht:P.underlying t=some (.slice e))(hi:P.info? e=some i)
 (g fE lR:Nat) (cur:Array Value) (hg:w.heap[g]?=some (.cells cur t' (0,0)))
 (a:Addr) (m c:Nat) (news:List Value) (hl:news.length=m*i.size) (aXM:∀j u,news[j]?=some u→w.cell? (a.add j)=some u) (h1:∀u∈news,u.oneCell'=true)
 (pN:fE+m≤lR) (eU:fE*i.size+news.length≤cur.size) :
 (Builtin.append_ #[t,t] ty #[.slice (some ⟨g,0,none⟩) fE lR,.slice (some a) m c]).run P w =
  .ok (.slice (some ⟨g,0,none⟩) (fE+m) lR) (w.setRow g (cur.toList.take (fE*i.size)++news++cur.toList.drop (fE*i.size+news.length)).toArray):=by
 have hf:=run_firstCells_some (P:=P) w i.size m a m c news hl aXM
 have hst:=run_storeCells_at P g (fE*i.size) t' news 0 cur w hg (by simpa using eU) h1
 simp only[D0] at hst
 simp [Builtin.append_,run_underlying ht,sizeOf,typeInfo,hi,Builtin.lenOf,pN,hf,Addr.add_lit,hst]
theorem aIQ{P:Program}(w:World)(t ty e:TypeId)(i:TypeInfo)(ht:P.underlying t=some (.slice e))(hi:P.info? e=some i)(base xb:Option Addr)(n cap xc:Nat)(h:n≤cap) :
 (Builtin.append_ #[t,t] ty #[.slice base n cap,.slice xb 0 xc]).run P w=.ok (.slice base n cap) w:=by
 cases base<;>cases xb<;>simp [Builtin.append_,run_underlying ht,sizeOf,typeInfo,hi,Builtin.lenOf,h,Builtin.firstCells,loadCells,loadCellsFrom,storeCells]
section
variable {P:Program} {st:aA} {w:World}
theorem BB{o:Oper}{a:Act}{t:TypeId}{s x:Operand}{w w':World}{v:Value}(ho:o.op=.call { callee:=.builtin .append,args:=#[s,x],argTypes:=#[t,t] })
 (h:(Builtin.append_ #[t,t] o.type #[a.eval s,a.eval x]).run P w=.ok v w'):(execOp a.eval o).run P w=.ok (.value v) w':=by
 simp only[execOp,ho,resolve,Sem.run_bind,Sem.run_pure,Result.andThen_ok,invoke,builtin]
 simp [h]
theorem yB{sz need cap:Nat}{e:TypeId}{z:Value}{zs:List AV}{as:List AV}{vs:List Value}(S:cA w.heap st)(hz:aR w.heap st zs z.cells.toList)(hzl:zs.length=sz)
 (hv:aR w.heap st as vs) (hl:as.length=need*sz) (I4:need≤cap) (hm:cap≤maxLen) (st0:aA) (FI:∀b o,st0 b=some o→st b=some o) :
 aM (w.drew.alloc (.cells (vs.toArray++Builtin.zeroCells z.cells (cap - need)) e)).heap (st0.aC w.heap.size (.cells as)) (.mslice w.heap.size 0 need sz) (.slice (some ⟨w.heap.size,0,none⟩) need cap) ∧
 cA (w.drew.alloc (.cells (vs.toArray++Builtin.zeroCells z.cells (cap - need)) e)).heap (st0.aC w.heap.size (.cells as)) ∧
 bQ w.heap st (w.drew.alloc (.cells (vs.toArray++Builtin.zeroCells z.cells (cap - need)) e)).heap (st0.aC w.heap.size (.cells as)):=by
 generalize hc:vs.toArray++Builtin.zeroCells z.cells (cap - need)=c
 have hzz:z.cells.size=sz:=by have:=hz.length;simp at this;omega
 have hcs:c.size=cap*sz:=by
  rw[←hc]
  simp only[Array.size_append,List.size_toArray,size_zeroCells,hzz,hv.length,hl,←v9]
  congr 1
  omega
 show aM (w.heap.push (.cells c e)) _ _ _∧cA (w.heap.push (.cells c e)) _∧bQ w.heap st (w.heap.push (.cells c e)) _
 have E:=Ext.push w.heap (.cells c e)
 have eT:(w.heap.push (.cells c e))[w.heap.size]?=some (.cells c e (0,0)):=by simp
 have sA:∀b,st b=none→st0 b=none:=fun b h=>by
  cases h0:st0 b with
  | none=>rfl
  | some o=>rw[FI b o h0] at h;cases h
 have T:bQ w.heap st (w.heap.push (.cells c e)) (st0.aC w.heap.size (.cells as)):=
  ⟨E.size,fun b hb h=>⟨E.aY b hb,by rw[aA.aJ _ _ (by omega)];exact sA b h⟩,(E.step st).shape⟩
 refine⟨⟨rfl,cap,rfl,I4,hm,c,e,eT,by rw[hcs];omega⟩,fun b o hb=>?_,T⟩
 by_cases hne:b=w.heap.size
 · subst hne
   rw[aA.aH] at hb;cases hb
   refine⟨by simp,c,e,eT,by rw[hl,hcs];exact wA _ I4,vs,?_,aR.mono T _ _ hv⟩
   have hvl:vs=(c.toList.drop 0).take vs.length:=by rw[←hc];simp
   rw[hvl]
   exact BH eT _ 0 (by rw[←hc];simp)
 · rw[aA.aJ _ _ hne] at hb
   obtain⟨l,r⟩:=S b o (FI b o hb)
   exact⟨by simp;omega,lA.mono T (E.aY b l) r⟩
theorem aNA{o:Oper}{a:Act}{φ:AF}{t:TypeId}{s x:Operand}{K:AV→aA→Prop}(ho:o.op=.call { callee:=.builtin .append,args:=#[s,x],argTypes:=#[t,t] })(F:dR w.heap st a.tmps φ)(S:cA w.heap st)
 (e:iT P t st (φ.eval s) (φ.eval x) K):∃v w',(execOp a.eval o).run P w=.ok (.value v) w'∧kM st w K v w':=by
 unfold iT at e
 split at e
 case h_2=>cases e
 rename_i ag sz bytes zs xs hI hB hZ hX
 obtain⟨hzl,eU,e⟩:=e
 obtain⟨el,hu,hT⟩:=pC hI
 obtain⟨_,_,d,i,_,hi,pM,_⟩:=tI_run hT w
 have hby:i.bytes=bytes:=by simp only[eB,hu,hi,oT,Option.some.injEq] at hB;exact hB
 obtain⟨z,hz0,hzv⟩:∃z,i.zero=some z∧aR w.heap st zs z.cells.toList:=by
  simp only[eZ,hu] at hZ
  simp only[zI,hi] at hZ
  cases hz:i.zero with
  | none=>simp [hz] at hZ
  | some z=>simp only[hz,Option.some.injEq] at hZ;subst hZ;exact⟨z,rfl,aR.consts _ _ _⟩
 -- the second operand
 have hx:aM w.heap st (.slice xs) (a.eval x):=by
  have y:=aM.eval F x
  unfold AR at hX
  split at hX
  · rename_i es hx;cases hX;rw[hx] at y;exact y
  · rename_i es hx;cases hX;rw[hx] at y;exact y.E9
  · cases hX
 have hxs:∃xb xc news,a.eval x=.slice xb xs.length xc∧aR w.heap st (xs.flatMap AV.cells) news∧(∀u∈news,u.oneCell'=true)∧news.length=xs.length*i.size ∧
  (xs≠[]→∃xa,xb=some xa∧∀j u,news[j]?=some u→w.cell? (xa.add j)=some u):=by
  have hlen:=lQ (es:=xs) (n:=sz) (fun e he=>(eU e he).1)
  rcases hx.F8 with ⟨⟨p0,hv⟩,rfl⟩ | ⟨b,off,cap,hv,l1,l2,e2,e3,ev,e4⟩
  · exact⟨p0,0,[],by simpa using hv,by simp [aR],by simp,by simp,by simp⟩
  · obtain⟨vs,v1,v2⟩:=e4.flat
    refine⟨_,cap,vs,hv,v2,v2.zC ?_,by rw[v2.length,hlen,pM],fun _=>⟨_,rfl,fun j u hj=>by rw[Addr.mW,yE];exact v1.get j hj⟩⟩
    simp only[List.all_flatMap,c6]
    intro e he
    simpa using (eU e he).2
 obtain⟨xb,xc,news,hxv,hnv,hn1,hnl,hnc⟩:=hxs
 have hs:=aM.eval F s
 split at e
 · rename_i es hes
   rw[hes] at hs
   obtain⟨hb1,hb2,hw,vH,yS⟩:=e
   by_cases hx0:xs= []
   · subst hx0
     obtain⟨base,hv⟩:∃base,a.eval s=.slice base es.length es.length:=by
      rcases hs.vA with ⟨⟨p0,hv⟩,rfl⟩ | ⟨b,off,hv,_⟩
      · exact⟨p0,hv⟩
      · exact⟨_,hv⟩
     refine⟨a.eval s,w,BB ho ?_,.fslice es,st,hs,S,bQ.refl _ _,eD.refl _,vH rfl⟩
     rw[hv,hxv]
     exact aIQ w t o.type el i hu hi base xb es.length es.length xc (cX _)
   · obtain⟨xa,rfl,r7⟩:=hnc hx0
     have hlx:0<xs.length:=by cases xs<;>simp at hx0 ⊢
     rcases hs.vA with ⟨⟨p0,hv⟩,rfl⟩ | ⟨b,off,hv,l1,e2,e3,ev,e4⟩
     · cases p0 with
       | none=>
        have hr:=run_append_nil (P:=P) w t o.type el i z hu hi hz0 xa xs.length xc news hnl r7 hlx (by simp at hb2;omega) (by rw[hby];simp at hb1;omega)
        have hN:=yB (w:=w) (st:=st) (e:=el) (need:=xs.length) (cap:=grownCap w xs.length 0 el) S hzv hzl hnv (by rw[lQ (fun e he=>(eU e he).1)]) (grownCap_ge ..) (grownCap_le_maxLen _ _ _ _ (by unfold maxLen;simp at hb2;omega)) st (fun _ _ h=>h)
        refine⟨_,_,BB ho (by rw[hv,hxv];exact hr),.mslice w.heap.size 0 xs.length sz,_,hN.1,hN.2.1,hN.2.2,⟨rfl,rfl,rfl⟩,?_⟩
        have:=yS hx0 w.heap.size S.fresh
        simpa using this
       | some a0=>
        have hr:=run_append_grow (P:=P) w t o.type el i z hu hi hz0 a0 0 0 [] (by simp) (by simp) xa xs.length xc news hnl r7 (by omega) (by omega)
         (growslice_fits (by omega) (by rw[hby];simpa using hb1))
        have hN:=yB (w:=w) (st:=st) (e:=el) (need:=xs.length) (cap:=grownCap w (0+xs.length) 0 el) S hzv hzl hnv (by rw[lQ (fun e he=>(eU e he).1)]) (by have:=grownCap_ge w (0+xs.length) 0 el;omega) (grownCap_le_maxLen _ _ _ _ (by unfold maxLen;simp at hb2;omega)) st (fun _ _ h=>h)
        have hvn:(([]:List Value).toArray++news.toArray)=news.toArray:=by simp
        rw[hvn,j7] at hr
        rw[j7] at hN
        refine⟨_,_,BB ho (by rw[hv,hxv];exact hr),.mslice w.heap.size 0 xs.length sz,_,hN.1,hN.2.1,hN.2.2,⟨rfl,rfl,rfl⟩,?_⟩
        have:=yS hx0 w.heap.size S.fresh
        simpa using this
     · obtain⟨vs,v1,v2⟩:=e4.flat
       have hlv:vs.length=es.length*i.size:=by rw[v2.length,lQ hw,pM]
       have hr:=run_append_grow (P:=P) w t o.type el i z hu hi hz0 ⟨b,off,none⟩ es.length es.length vs hlv (fun j u hj=>by rw[Addr.mW,yE];exact v1.get j hj) xa xs.length xc news hnl r7 (by omega) (by omega)
        (growslice_fits (by omega) (by rw[hby];exact hb1))
       have hN:=yB (w:=w) (st:=st) (e:=el) (need:=es.length+xs.length) (cap:=grownCap w (es.length+xs.length) es.length el) S hzv hzl (v2.append hnv)
        (by rw[dO,lQ hw,lQ (fun e he=>(eU e he).1),v9]) (grownCap_ge ..) (grownCap_le_maxLen _ _ _ _ (by unfold maxLen;omega)) st (fun _ _ h=>h)
       have hvn:vs.toArray++news.toArray=(vs++news).toArray:=by simp
       rw[hvn] at hr
       refine⟨_,_,BB ho (by rw[hv,hxv];exact hr),.mslice w.heap.size 0 (es.length+xs.length) sz,_,hN.1,hN.2.1,hN.2.2,⟨rfl,rfl,rfl⟩,?_⟩
       have:=yS hx0 w.heap.size S.fresh
       rwa [uB] at this
 · rename_i b len n hes
   rw[hes] at hs
   obtain⟨rfl,hb1,hb2,e⟩:=e
   split at e
   case h_2=>cases e
   rename_i cs hcs
   obtain⟨hlen,hin,OP⟩:=e
   obtain⟨cap,hv,l1,l2,c,t',eT,l3⟩:=hs.CG
   obtain⟨hlt,c',ty,hb',hl,vs,x1,x2⟩:=S b _ hcs
   rw[eT] at hb';cases hb'
   have hvl:=x2.length
   by_cases pN:len+xs.length≤cap
   · -- in place
     have FE:len*n+news.length≤c.size:=by
      rw[hnl,pM,←v9]
      have:=wA n pN
      omega
     have kT:∃c2:Array Value,(Builtin.append_ #[t,t] o.type #[a.eval s,a.eval x]).run P w=.ok (.slice (some ⟨b,0,none⟩) (len+xs.length) cap) (w.setRow b c2)∧c2.size=c.size∧c2.toList.take (len*n+news.length)=vs.take (len*n)++news:=by
      by_cases hx0:xs= []
      · subst hx0
        refine⟨c,?_,rfl,?_⟩
        · rw[hv,hxv,setRow_self w b c t' (0,0) eT]
          exact aIQ w t o.type el i hu hi _ xb len cap xc l1
        · have:news= []:=oQ (by simpa using hnl)
          subst this
          have n6:=BI eT x1
          simp only[sN] at n6
          rw[←n6,HD,oS (by omega)]
          simp
      · obtain⟨xa,rfl,r7⟩:=hnc hx0
        have hr:=a01 (P:=P) w t o.type el t' i hu hi b len cap c eT xa xs.length xc news hnl r7 hn1 pN (by rw[pM];exact FE)
        rw[pM] at hr
        refine⟨_,by rw[hv,hxv];exact hr,by simp;omega,?_⟩
        have n6:=BI eT x1
        simp only[sN] at n6
        rw[←n6,HD,oS (by omega)]
        have hA:(c.toList.take (len*n)++news).length=len*n+news.length:=by simp;omega
        show List.take _ (_++_++_)=_
        rw[HC (by rw[hA];omega),oR (by rw[hA];omega)]
     obtain⟨c2,hr,vJ,htk⟩:=kT
     have vE:(w.setRow b c2).heap[b]?=some (.cells c2 t' (0,0)):=setRow_heap w b c c2 t' (0,0) eT
     have l7:∀y,y<w.heap.size→y≠b→(w.setRow b c2).heap[y]?=w.heap[y]?:=fun y _ hne=>setRow_other w b y c2 hne
     have T:bQ w.heap st (w.setRow b c2).heap (st.aC b (.cells (cs.take (len*n)++xs.flatMap AV.cells))):=by
      refine bQ.oC (by rw[hcs];simp) (by simp) l7 fun c1 t1 fr1 e1=>?_
      rw[eT] at e1;cases e1
      exact⟨c2,vE,vJ⟩
     have hal:(cs.take (len*n)++xs.flatMap AV.cells).length=len*n+news.length:=by
      rw[dO,dK,←hnv.length,oS hlen]
     refine⟨_,_,BB ho hr,.mslice b 0 (len+xs.length) n,_,⟨rfl,cap,rfl,pN,l2,c2,t',vE,by rw[vJ];exact l3⟩,S.oC T (by simpa using hlt) l7 ⟨c2,t',vE,by rw[hal,vJ];exact FE,(c2.toList.drop 0).take (len*n+news.length),BH vE _ 0 (by rw[vJ];omega),?_⟩,T,⟨rfl,rfl,rfl⟩,hin⟩
     rw[sN,htk]
     exact aR.mono T _ _ ((x2.take (len*n)).append hnv)
   · -- a new row
     have hx0:xs≠[]:=by rintro rfl;simp at pN;omega
     obtain⟨xa,rfl,r7⟩:=hnc hx0
     have hlv:(vs.take (len*n)).length=len*i.size:=by rw[pM,dK,hvl,oS hlen]
     have hr:=run_append_grow (P:=P) w t o.type el i z hu hi hz0 ⟨b,0,none⟩ len cap (vs.take (len*n)) hlv (fun j u hj=>by
      rw[Addr.mW,yE];exact(x1.take (len*n)).get j hj) xa xs.length xc news hnl r7 (by omega) (by omega)
      (growslice_fits (by omega) (by rw[hby];exact hb1))
     have hN:=yB (w:=w) (st:=st) (e:=el) (need:=len+xs.length) (cap:=grownCap w (len+xs.length) cap el) S hzv hzl ((x2.take (len*n)).append hnv)
      (by rw[dO,dK,oS hlen,lQ (fun e he=>(eU e he).1),v9]) (grownCap_ge ..) (grownCap_le_maxLen _ _ _ _ (by unfold maxLen;omega)) (st.erase b)
      (fun y o h=>by unfold aA.erase at h;split at h;cases h;exact h)
     have hvn:(vs.take (len*n)).toArray++news.toArray=(vs.take (len*n)++news).toArray:=by simp
     rw[hvn] at hr
     exact⟨_,_,BB ho (by rw[hv,hxv];exact hr),.mslice w.heap.size 0 (len+xs.length) n,_,hN.1,hN.2.1,hN.2.2,⟨rfl,rfl,rfl⟩,OP w.heap.size S.fresh⟩
 · cases e
end
section
variable {P:Program} {st:aA} {w:World}
theorem MF{o:Obj}{p:AO}{r:AV}{v:Value}{K:AV→aA→Prop}(S:cA w.heap st)(hr:aM (w.heap.push o) (st.aC w.heap.size p) r v)(ho:lA (w.heap.push o) (st.aC w.heap.size p) w.heap.size p)
 (hK:K r (st.aC w.heap.size p)):kM st w K v (w.alloc o):=
 ⟨r,_,hr,S.CJ ho,bQ.CJ _ _ _ _,⟨rfl,rfl,rfl⟩,hK⟩
theorem aHH{t:TypeId}{as:List AV}{v:Value}{K:AV→aA→Prop}(S:cA w.heap st)(hv:aR w.heap st as v.cells.toList)(hK:∀b,st b=none→K (.ptr b 0) (st.aC b (.cells as))) :
 kM st w K (.pointer (some ⟨w.heap.size,0,none⟩)) (w.alloc (.cells v.cells t)):=by
 refine MF S (p:=.cells as) (r:=.ptr w.heap.size 0) ⟨rfl,rfl⟩ ?_ (hK _ S.fresh)
 have hl:=hv.length
 refine⟨v.cells,t,by simp,by rw[←hl];simp,v.cells.toList,EZ w.heap _ t (0,0) _ 0 rfl,aR.mono (bQ.CJ w.heap st _ _) _ _ hv⟩
theorem aY3{t:TypeId}{a:Act}{o:Oper}{K:AV→aA→Prop}(ho:o.op=.makeMap t none)(S:cA w.heap st)(hK:∀b,st b=none→K (.map b) (st.aC b (.map fun _=>none))) :
 ∃v w',(execOp a.eval o).run P w=.ok (.value v) w'∧kM st w K v w':=by
 refine⟨.map (some w.heap.size),w.alloc (.map #[] 0),by simp [execOp,ho,Instr.makeMap],MF S (p:=.map fun _=>none) (r:=.map w.heap.size) ⟨rfl,rfl⟩ ?_ (hK _ S.fresh)⟩
 exact⟨#[],0,by simp,by simp,by simp,by simp⟩
def jG(zs:List AV)(n:Nat):List AV:=(List.range (n*zs.length)).map fun i=>zs.getD (i % zs.length) .junk
theorem aR.aHS{h:a7}{st:aA}:∀ {as:List AV} {vs:List Value},as.length=vs.length→(∀(i:Nat) a v,as[i]?=some a→vs[i]?=some v→VC h st a [v])→aR h st as vs
 | [],[],_,_=>by simp [aR]
 | a::as,v::vs,hl,h=>by
  simp only[aR]
  exact⟨v,vs,rfl,h 0 a v rfl rfl,aR.aHS (by simpa using hl) fun i a' v' e1 e2=>h (i+1) a' v' (by simpa using e1) (by simpa using e2)⟩
 | [],_::_,hl,_=>by simp at hl
 | _::_,[],hl,_=>by simp at hl
theorem aR.made{h:a7}{st:aA}{zs:List AV}{z:Array Value}(x:aR h st zs z.toList)(n:Nat):aR h st (jG zs n) (((Array.range (n*z.size)).map (fun i=>z[i % z.size]!)).toList):=by
 have hl:=x.length
 have hl':z.size=zs.length:=by simpa using hl
 refine aR.aHS (by simp [jG,hl']) fun i a v e1 e2=>?_
 obtain⟨hi,e1'⟩:=fM.1 e1
 obtain⟨hi2,e2'⟩:=fM.1 e2
 simp [jG] at hi e1' e2'
 have wR:0<zs.length:=by rcases Nat.eq_zero_or_pos zs.length with h0 | h0;(rw[h0] at hi;simp at hi);exact h0
 have aGM:i % zs.length<zs.length:=uG _ wR
 rw[hl'] at e2'
 obtain⟨v',hv',hvc⟩:=x.get (i % zs.length) (a:=zs[i % zs.length]) (by simp [aGM])
 have ea:a=zs[i % zs.length]:=by rw[←e1'];simp [aGM]
 have hz:i % zs.length<z.size:=by omega
 have ev:v=v':=by
  rw[←e2',getElem!_pos z _ hz]
  simp [hz] at hv'
  exact hv'
 rw[ea,ev];exact hvc
def uM(P:Program)(t:TypeId)(st:aA)(n c:AV)(K:AV→aA→Prop):Prop:=
 match n,c,eI P t,eB P t,eZ P t with
 | .int .i64 n,.int .i64 m,some (_,sz),some bytes,some zs=>n=m∧0≤n∧n≤9223372036854775807∧n*bytes≤281474976710656∧zs.length=sz∧sz≠0 ∧
  ∀b,st b=none→K (.mslice b 0 n.toNat sz) (st.aC b (.cells (jG zs n.toNat)))
 | _,_,_,_,_=>False
theorem aY4{t:TypeId}{a:Act}{φ:AF}{o:Oper}{x y:Operand}{K:AV→aA→Prop}(ho:o.op=.makeSlice t x y)(F:dR w.heap st a.tmps φ)(S:cA w.heap st)(e:uM P t st (φ.eval x) (φ.eval y) K) :
 ∃v w',(execOp a.eval o).run P w=.ok (.value v) w'∧kM st w K v w':=by
 have hx:=aM.eval F x
 have hy:=aM.eval F y
 unfold uM at e
 split at e
 case h_2=>cases e
 rename_i n m ag sz bytes zs ex ey hI hB hZ
 obtain⟨rfl,h0,hmx,hby,hzl,hsz,hK⟩:=e
 rw[ex] at hx
 rw[ey] at hy
 obtain⟨el,hu,hT⟩:=pC hI
 obtain⟨_,r2,d,i,_,hi,pM,_⟩:=tI_run hT w
 have hbi:i.bytes=bytes:=by simp only[eB,hu,hi,oT,Option.some.injEq] at hB;exact hB
 have hzs:zI P el=some zs:=by simpa [eZ,hu] using hZ
 obtain⟨z,z1,z2⟩:=zI_run hzs w.heap st w
 have hzc:z.cells.size=sz:=by have:=z2.length;simp at this;omega
 have aX0:IntKind.i64.wrap n=n:=IntWalk.i64_in n (by omega)
 have vI:(decide (n<0)||decide ((bytes:Int)*n>2 ^ 48))=false:=by
  have h1:¬n<0:=by omega
  have h2:¬((bytes:Int)*n>2 ^ 48):=by rw[Int.mul_comm];omega
  simp only[h1,h2,bB,Bool.or_self]
 obtain⟨k,rfl⟩:=v6 h0
 have hc':=aR.made z2 k
 generalize hcc:(Array.range (k*z.cells.size)).map (fun i=>z.cells[i % z.cells.size]!)=c at hc'
 have hcs:c.size=k*sz:=by rw[←hcc];simp [hzc]
 have run:(execOp a.eval o).run P w=.ok (.value (.slice (some ⟨w.heap.size,0,none⟩) k k)) (w.alloc (.cells c el)):=by
  simp only[execOp,ho,Instr.makeSlice,Sem.run_bind,dQ hu,Result.andThen_ok,hx.jF,hy.jF,asInt,asIntOf,Sem.run_pure,typeInfo,run_program,hi,aX0,hbi,vI,mT]
  have h1:(decide ((k:Int)<0)||decide ((k:Int)>(k:Int)))=false:=by simp
  rw[aK (by rw[h1];simp)]
  simp only[Sem.run_bind,run_askRoom,Result.andThen_ok,gI,r2]
  by_cases hk:k*sz=0
  · have hk0:k=0:=by rcases Nat.mul_eq_zero.1 hk with h | h;exact h;exact absurd h hsz
    subst hk0
    rw[aN hk]
    have:c= #[]:=by apply LH;omega
    subst this
    simp [newRow,Array.range]
    congr 2
    exact LH (by simp)
  · rw[aK hk]
    simp only[Sem.run_bind,z1,Result.andThen_ok,Sem.run_pure]
    rw[show(Array.range (k*sz)).map (fun i=>z.cells[i % z.cells.size]!)=c by rw[←hcc,hzc]]
    simp [newRow]
 refine⟨_,_,run,MF S (p:=.cells (jG zs k)) (r:=.mslice w.heap.size 0 k sz) ⟨rfl,k,rfl,cX _,by unfold maxLen;omega,c,el,by simp,by rw[hcs];omega⟩
  ⟨c,el,by simp,by simp [jG,hcs,hzl],c.toList,EZ w.heap _ el (0,0) _ 0 rfl,aR.mono (bQ.CJ w.heap st _ _) _ _ hc'⟩ (by simpa using hK _ S.fresh)⟩
def tP(f:Int→Option AV)(n:Int)(x:Option AV):Int→Option AV:=fun m=>if m=n then x else f m
def EG(P:Program)(t:TypeId)(st:aA)(m k v:AV)(K:AV→aA→Prop):Prop:=
 match m,k,P.underlying t with
 | .map b,.int .i64 n,some (.map kt _)=>match st b,P.underlying kt with
  | some (.map f),some (.int .i64)=>v.bR=false∧K .undef (st.aC b (.map (tP f n (some v))))
  | _,_=>False
 | _,_,_=>False
theorem J1{b:Nat}{es es':Array MapEntry}{cl cl':Nat}(h:w.heap[b]?=some (.map es cl)):(setObj b (.map es' cl')).run P w=.ok () { w with heap:=w.heap.setIfInBounds b (.map es' cl') }:=by
 simp only[setObj,Sem.run,h]
theorem aHA{b:Nat}{es es':Array MapEntry}{cl cl':Nat}{f:Int→Option AV}{o:AO}{K:AV→aA→Prop}(S:cA w.heap st)(hb:w.heap[b]?=some (.map es cl))(hs:st b=some (.map f))
 (ho:∀h' st',bQ w.heap st h' st'→h'[b]?=some (.map es' cl')→lA h' st' b o) (hK:K .undef (st.aC b o)):kM st w K undef { w with heap:=w.heap.setIfInBounds b (.map es' cl') }:=by
 have hlt:b<w.heap.size:=(S b _ hs).1
 have eT:(w.heap.setIfInBounds b (.map es' cl'))[b]?=some (.map es' cl'):=by simp [hlt]
 have l7:∀y,y<w.heap.size→y≠b→(w.heap.setIfInBounds b (.map es' cl'))[y]?=w.heap[y]?:=fun y _ hne=>RE (dM hne)
 have T:bQ w.heap st (w.heap.setIfInBounds b (.map es' cl')) (st.aC b o):=bQ.oC (by rw[hs];simp) (by simp) l7 fun c t fr e=>by rw[hb] at e;cases e
 exact⟨.undef,st.aC b o,⟨rfl,rfl⟩,S.oC T (by simpa using hlt) l7 (ho _ _ T eT),T,⟨rfl,rfl,rfl⟩,hK⟩
theorem aY5{t:TypeId}{a:Act}{φ:AF}{o:Oper}{m k x:Operand}{K:AV→aA→Prop}(ho:o.op=.mapUpdate t m k x)(F:dR w.heap st a.tmps φ)(S:cA w.heap st)(e:EG P t st (φ.eval m) (φ.eval k) (φ.eval x) K) :
 ∃w',(execOp a.eval o).run P w=.ok .skip w'∧kM st w K undef w':=by
 have hm:=aM.eval F m
 have hk:=aM.eval F k
 have hx:=aM.eval F x
 unfold EG at e
 split at e
 case h_2=>cases e
 rename_i b n kt el em ek hu
 split at e
 case h_2=>cases e
 rename_i f hs hkt
 obtain⟨hj,hK⟩:=e
 rw[em] at hm
 rw[ek] at hk
 obtain⟨_,es,cl,hb,hk1,hk2,hk3⟩:=S b _ hs
 rcases E5 n es.toList 0 hk1 with ⟨j,e',h1,h2,h3⟩ | ⟨h1,h3⟩
 · -- there is such an entry
   have aGG:j<es.size:=by have:=(fM.1 h1).1;simpa using this
   have hej:es[j]?=some e':=by simpa using h1
   have run:(execOp a.eval o).run P w=.ok .skip { w with heap:=w.heap.setIfInBounds b (.map (es.modify j fun e=>{ e with key:=.int .i64 n,val:=a.eval x }) cl) }:=by
    simp only[execOp,ho,Instr.mapUpdate,Sem.run_bind,dQ hu,Result.andThen_ok,hm.CB,hk.jF,BX hb,BK hkt,Instr.findKey,dQ hkt,h3,Sem.run_pure,j7,hej,oT,D3,h2]
    have hsb:Instr.sameBits 10000 (.int .i64 n) (.int .i64 n)=true:=by simp [Instr.sameBits]
    simp only[Instr.keyThatStays,hsb,eN,Sem.run_pure,Result.andThen_ok,J1 hb]
   refine⟨_,run,aHA (o:=.map (tP f n (some (φ.eval x)))) S hb hs (fun h' st' T hb'=>⟨_,cl,hb',?_,?_,fun q=>?_⟩) hK⟩
   · intro e he
     rw[mS,LJ] at he
     obtain⟨i,hi⟩:=he
     rw[G4] at hi
     split at hi
     · cases hee:es[i]? with
       | none=>rw[hee] at hi;cases hi
       | some e0=>rw[hee] at hi;cases hi;exact⟨n,rfl⟩
     · exact hk1 e (mS.2 (z9 hi))
   · have:(es.modify j fun e=>{ e with key:=Value.int .i64 n,val:=a.eval x }).toList.map (·.key)=es.toList.map (·.key):=by
      apply G9
      intro i
      simp only[lK,Array.getElem?_toList,G4]
      split
      · rename_i hij;subst hij;simp [hej,h2]
      · rfl
     rw[this];exact hk2
   · have hq:=hk3 q
     unfold tP
     by_cases hqn:q=n
     · subst hqn
       simp only[eN]
       refine⟨{ e' with key:=.int .i64 q,val:=a.eval x },?_,rfl,hx.mono T⟩
       rw[mS,LJ]
       exact⟨j,by rw[G4,aN rfl,hej];try rfl⟩
     · simp only[hqn,dA]
       split
       · rename_i v hf
         rw[hf] at hq
         obtain⟨e0,he0,hk0,hv0⟩:=hq
         refine⟨e0,?_,hk0,hv0.mono T⟩
         rw[mS,LJ] at he0 ⊢
         obtain⟨i,hi⟩:=he0
         refine⟨i,?_⟩
         rw[G4,aK,hi]
         rintro rfl
         rw[hej] at hi;cases hi
         rw[h2] at hk0;cases hk0;exact hqn rfl
       · rename_i hf
         rw[hf] at hq
         intro e he
         rw[mS,LJ] at he
         obtain⟨i,hi⟩:=he
         rw[G4] at hi
         split at hi
         · cases hee:es[i]? with
           | none=>rw[hee] at hi;cases hi
           | some e0=>rw[hee] at hi;cases hi;simpa using fun q'=>hqn q'.symm
         · exact hq e (mS.2 (z9 hi))
 · -- a new entry
   have run:(execOp a.eval o).run P w=.ok .skip { w with heap:=w.heap.setIfInBounds b (.map (es.push { key:=.int .i64 n,val:=a.eval x,born:=cl }) (cl+1)) }:=by
    simp only[execOp,ho,Instr.mapUpdate,Sem.run_bind,dQ hu,Result.andThen_ok,hm.CB,hk.jF,BX hb,BK hkt,Instr.findKey,dQ hkt,h3,Sem.run_pure,J1 hb]
   refine⟨_,run,aHA (o:=.map (tP f n (some (φ.eval x)))) S hb hs (fun h' st' T hb'=>⟨_,cl+1,hb',?_,?_,fun q=>?_⟩) hK⟩
   · intro e he
     simp at he
     rcases he with he | rfl
     · exact hk1 e (mS.2 he)
     · exact⟨n,rfl⟩
   · simp only[Array.toList_push,rM,bL,bE]
     rw[xV]
     refine⟨hk2,by simp,?_⟩
     intro p hp r hr
     simp at hr
     subst hr
     obtain⟨e,he,rfl⟩:=cM.1 hp
     exact h1 e he
   · have hq:=hk3 q
     unfold tP
     by_cases hqn:q=n
     · subst hqn
       simp only[eN]
       exact⟨_,by simp;exact .inr rfl,rfl,hx.mono T⟩
     · simp only[hqn,dA]
       split
       · rename_i v hf
         rw[hf] at hq
         obtain⟨e0,he0,hk0,hv0⟩:=hq
         exact⟨e0,by simp;exact .inl (mS.1 he0),hk0,hv0.mono T⟩
       · rename_i hf
         rw[hf] at hq
         intro e he
         simp at he
         rcases he with he | rfl
         · exact hq e (mS.2 he)
         · simpa using fun q'=>hqn q'.symm
def EF(P:Program)(t:TypeId)(st:aA)(m k:AV)(K:AV→aA→Prop):Prop:=
 match m,k,P.underlying t with
 | .map b,.int .i64 n,some (.map kt _)=>match st b,P.underlying kt with
  | some (.map f),some (.int .i64)=>K (.tup []) (st.aC b (.map (tP f n none)))
  | _,_=>False
 | _,_,_=>False
theorem aHB{b:Nat}{es es':Array MapEntry}{cl cl':Nat}{f:Int→Option AV}{o:AO}{K:AV→aA→Prop}(S:cA w.heap st)(hb:w.heap[b]?=some (.map es cl))(hs:st b=some (.map f))
 (ho:∀h' st',bQ w.heap st h' st'→h'[b]?=some (.map es' cl')→lA h' st' b o) (hK:K (.tup []) (st.aC b o)):kM st w K (.tuple #[]) { w with heap:=w.heap.setIfInBounds b (.map es' cl') }:=by
 have hlt:b<w.heap.size:=(S b _ hs).1
 have eT:(w.heap.setIfInBounds b (.map es' cl'))[b]?=some (.map es' cl'):=by simp [hlt]
 have l7:∀y,y<w.heap.size→y≠b→(w.heap.setIfInBounds b (.map es' cl'))[y]?=w.heap[y]?:=fun y _ hne=>RE (dM hne)
 have T:bQ w.heap st (w.heap.setIfInBounds b (.map es' cl')) (st.aC b o):=bQ.oC (by rw[hs];simp) (by simp) l7 fun c t fr e=>by rw[hb] at e;cases e
 exact⟨.tup [],st.aC b o,⟨rfl,[],rfl,rfl⟩,S.oC T (by simpa using hlt) l7 (ho _ _ T eT),T,⟨rfl,rfl,rfl⟩,hK⟩
theorem aSV{t t':TypeId}{a:Act}{φ:AF}{o:Oper}{m k:Operand}{K:AV→aA→Prop}(ho:o.op=.call { callee:=.builtin .delete,args:=#[m,k],argTypes:=#[t,t'] })(F:dR w.heap st a.tmps φ)(S:cA w.heap st)(e:EF P t st (φ.eval m) (φ.eval k) K) :
 ∃v w',(execOp a.eval o).run P w=.ok (.value v) w'∧kM st w K v w':=by
 have hm:=aM.eval F m
 have hk:=aM.eval F k
 unfold EF at e
 split at e
 case h_2=>cases e
 rename_i b n kt el em ek hu
 split at e
 case h_2=>cases e
 rename_i f hs hkt
 rw[em] at hm
 rw[ek] at hk
 obtain⟨_,es,cl,hb,hk1,hk2,hk3⟩:=S b _ hs
 rcases E5 n es.toList 0 hk1 with ⟨j,e',h1,h2,h3⟩ | ⟨h1,h3⟩
 · have aGG:j<es.size:=by have:=(fM.1 h1).1;simpa using this
   have B6:(es.eraseIdxIfInBounds j).toList=es.toList.eraseIdx j:=by
    unfold Array.eraseIdxIfInBounds
    rw[dif_pos aGG]
    simp
   have run:(execOp a.eval o).run P w=.ok (.value (.tuple #[])) { w with heap:=w.heap.setIfInBounds b (.map (es.eraseIdxIfInBounds j) cl) }:=by
    simp only[execOp,ho,resolve,Sem.run_bind,Sem.run_pure,Result.andThen_ok,invoke,builtin]
    simp [Builtin.delete_,dQ hu,hm.CB,hk.jF,BX hb,BK hkt,Instr.findKey,dQ hkt,h3,J1 hb,Result.andThen]
   have fQ:∀x∈(es.eraseIdxIfInBounds j).toList,x∈es.toList:=fun x hx=>by rw[B6] at hx;exact(List.eraseIdx_sublist _ _).subset hx
   have aW9:∀x∈(es.eraseIdxIfInBounds j).toList,x.key≠.int .i64 n:=fun x hx hxn=>by
    rw[B6] at hx
    obtain⟨i,hi⟩:=DW hx
    rw[List.getElem?_eraseIdx] at hi
    have key:∀i',i'≠j→es.toList[i']?=some x→False:=fun i' hne hx'=>by
     have ha:(es.toList.map (·.key))[i']?=some (.int .i64 n):=by rw[lK,hx'];simp [hxn]
     have hb':(es.toList.map (·.key))[j]?=some (.int .i64 n):=by rw[lK,h1];simp [h2]
     have hlt:i'<(es.toList.map (·.key)).length:=(fM.1 ha).1
     exact hne ((List.getElem?_inj hlt hk2).1 (ha.trans hb'.symm))
    split at hi
    · exact key i (by omega) hi
    · exact key (i+1) (by omega) hi
   refine⟨_,_,run,aHB (o:=.map (tP f n none)) S hb hs (fun h' st' T hb'=>⟨_,cl,hb',fun x hx=>hk1 x (fQ x hx),?_,fun q=>?_⟩) e⟩
   · rw[B6]
     exact hk2.sublist ((List.eraseIdx_sublist _ _).map _)
   · have hq:=hk3 q
     unfold tP
     by_cases hqn:q=n
     · subst hqn
       simp only[eN]
       exact aW9
     · simp only[hqn,dA]
       split
       · rename_i v hf
         rw[hf] at hq
         obtain⟨e0,he0,hk0,hv0⟩:=hq
         refine⟨e0,?_,hk0,hv0.mono T⟩
         rw[B6]
         obtain⟨i,hi⟩:=DW he0
         have hne:i≠j:=by
          rintro rfl
          rw[h1] at hi;cases hi
          rw[h2] at hk0;cases hk0;exact hqn rfl
         rw[List.mem_iff_getElem?]
         rcases kK i j with h | h
         · exact⟨i,by rw[List.getElem?_eraseIdx,aN h];exact hi⟩
         · exact⟨i - 1,by rw[List.getElem?_eraseIdx,aK (by omega),show i - 1+1=i by omega];exact hi⟩
       · rename_i hf
         rw[hf] at hq
         exact fun x hx=>hq x (fQ x hx)
 · have run:(execOp a.eval o).run P w=.ok (.value (.tuple #[])) { w with heap:=w.heap.setIfInBounds b (.map es cl) }:=by
    simp only[execOp,ho,resolve,Sem.run_bind,Sem.run_pure,Result.andThen_ok,invoke,builtin]
    simp [Builtin.delete_,dQ hu,hm.CB,hk.jF,BX hb,BK hkt,Instr.findKey,dQ hkt,h3,J1 hb,Result.andThen]
   refine⟨_,_,run,aHB (o:=.map (tP f n none)) S hb hs (fun h' st' T hb'=>⟨_,cl,hb',hk1,hk2,fun q=>?_⟩) e⟩
   have hq:=hk3 q
   unfold tP
   by_cases hqn:q=n
   · subst hqn
     simp only[eN]
     exact h1
   · simp only[hqn,dA]
     split
     · rename_i v hf
       rw[hf] at hq
       obtain⟨e0,he0,hk0,hv0⟩:=hq
       exact⟨e0,he0,hk0,hv0.mono T⟩
     · rename_i hf
       rw[hf] at hq
       exact hq
end
def EC(P:Program)(t t':TypeId)(st:aA)(s x:AV)(K:AV→aA→Prop):Prop:=
 match eI P t,eB P t,eZ P t,P.underlying t',x with
 | some (_,sz),some bytes,some zs,some (.int _),.int .i64 k=>zs.length=sz∧sz≠0∧zs.all AV.storable=true∧0≤k ∧
  match s with
  | .fslice es=>es= []∧k.toNat*bytes≤140737488355328∧k≤9223372036854775807 ∧
   (k.toNat=0→K (.fslice []) st)∧(k.toNat≠0→∀b,st b=none→K (.mslice b 0 k.toNat sz) (st.aC b (.cells (jG zs k.toNat))))
  | .mslice b 0 len n=>n=sz∧(len+k.toNat)*bytes≤140737488355328∧len+k.toNat≤9223372036854775807 ∧
   (match st b with
    | some (.cells cs)=>len*sz≤cs.length∧K (.mslice b 0 (len+k.toNat) sz) (st.aC b (.cells (cs.take (len*sz)++jG zs k.toNat))) ∧
     ∀b',st b'=none→K (.mslice b' 0 (len+k.toNat) sz) ((st.erase b).aC b' (.cells (cs.take (len*sz)++jG zs k.toNat)))
    | _=>False)
  | _=>False
 | _,_,_,_,_=>False
theorem aG8(zs:List AV)(n:Nat):(jG zs n).length=n*zs.length:=by simp [jG]
theorem a3J{z:Array Value}:Builtin.zeroCells z 0= #[]:=by apply LH;simp [size_zeroCells]
theorem a00{P:Program}(w:World)(t tn ty e t':TypeId)(i:TypeInfo)(z:Value)(kn:IntKind)(ht:P.underlying t=some (.slice e))(htn:P.underlying tn=some (.int kn))(hi:P.info? e=some i)(hz:i.zero=some z)(hzs:z.cells.size=i.size)(hs:0<i.size)
 (g fE lR:Nat) (cur:Array Value) (hg:w.heap[g]?=some (.cells cur t' (0,0)))
 (n:Nat) (h1:∀u∈(Builtin.zeroCells z.cells n).toList,u.oneCell'=true) (h63:(n:Int)≤9223372036854775807) (h48:n*i.bytes≤281474976710656)
 (pN:fE+n≤lR) (eU:fE*i.size+n*i.size≤cur.size) :
 (Builtin.append_ #[t,tn] ty #[.slice (some ⟨g,0,none⟩) fE lR,.int .i64 n]).run P w =
  .ok (.slice (some ⟨g,0,none⟩) (fE+n) lR) (w.setRow g (cur.toList.take (fE*i.size)++(Builtin.zeroCells z.cells n).toList++cur.toList.drop (fE*i.size+n*i.size)).toArray):=by
 have hw:IntKind.i64.wrap (n:Int)=n:=by rw[IntKind.wrap_i64];omega
 have N8:¬(281474976710656<(n:Int)*(i.bytes:Int)):=by rw[←Int.natCast_mul];omega
 have ON:¬((n:Int)<0):=by omega
 have hzl:(Builtin.zeroCells z.cells n).toList.length=n*i.size:=by simp [size_zeroCells,hzs]
 have hst:=run_storeCells_at P g (fE*i.size) t' (Builtin.zeroCells z.cells n).toList 0 cur w hg (by rw[hzl];simpa using eU) h1
 simp only[D0] at hst
 rw[hzl] at hst
 by_cases hn:n=0
 · subst hn
   rw[a3J] at hst ⊢
   have aXR:fE≤lR:=by simpa using pN
   simp at hst
   simp [Builtin.append_,run_underlying ht,run_underlying htn,sizeOf,typeInfo,hi,asInt,asIntOf,IntKind.wrap_i64,aXR,Addr.add_lit,hst]
 · have hns:¬(n*i.size=0):=Nat.mul_ne_zero hn (by omega)
   simp [Builtin.append_,run_underlying ht,run_underlying htn,sizeOf,typeInfo,zeroValue,hi,hz,asInt,asIntOf,hw,ON,hns,N8,pN,Addr.add_lit,hst]
theorem aIP{P:Program}(w:World)(t tn ty e:TypeId)(i:TypeInfo)(z:Value)(kn:IntKind)(ht:P.underlying t=some (.slice e))(htn:P.underlying tn=some (.int kn))(hi:P.info? e=some i)(hz:i.zero=some z)(hs:0<i.size)
 (base:Option Addr) (fE lR:Nat) (CL:List Value) (hlo:CL.length=fE*i.size) (hn0:base=none→fE=0) (holds:∀b,base=some b→∀j v,CL[j]?=some v→w.cell? (b.add j)=some v)
 (n:Nat) (hg:lR<fE+n) (h0:0<n) (h63:((fE+n:Nat):Int)≤9223372036854775807) (h48:n*i.bytes≤281474976710656) (eU:Builtin.nextslicecap (fE+n) lR*i.bytes≤281474976710656) :
 (Builtin.append_ #[t,tn] ty #[.slice base fE lR,.int .i64 n]).run P w =
  .ok (.slice (some ⟨w.heap.size,0,none⟩) (fE+n) (grownCap w (fE+n) lR e))
   (w.drew.alloc (.cells ((CL++(Builtin.zeroCells z.cells n).toList).toArray++Builtin.zeroCells z.cells (grownCap w (fE+n) lR e - (fE+n))) e)):=by
 have hw:IntKind.i64.wrap (n:Int)=n:=by rw[IntKind.wrap_i64];omega
 have N8:¬(281474976710656<(n:Int)*(i.bytes:Int)):=by rw[←Int.natCast_mul];omega
 have ON:¬((n:Int)<0):=by omega
 have hns:¬(n*i.size=0):=Nat.mul_ne_zero (by omega) (by omega)
 have hn:¬(fE+n≤lR):=by omega
 have aWQ:¬(9223372036854775807<((fE:Int)+(n:Int))):=by omega
 have B0:¬(281474976710656<Builtin.nextslicecap (fE+n) lR*i.bytes):=by omega
 have hfo:(Builtin.firstCells i.size fE (.slice base fE lR)).run P w.drew=.ok CL.toArray w.drew:=by
  cases base with
  | none=>
   have:=hn0 rfl
   subst this
   have:CL= []:=oQ (by simpa using hlo)
   subst this
   exact run_firstCells_none ..
  | some b=>exact run_firstCells_some (P:=P) w.drew i.size fE b fE lR CL hlo (by simpa using holds b rfl)
 simp [Builtin.append_,run_underlying ht,run_underlying htn,sizeOf,typeInfo,zeroValue,hi,hz,asInt,asIntOf,hw,ON,hns,N8,hn,aWQ,B0,Question.forced,hfo,newRow,grownCap]
 congr 2
 apply Array.ext'
 simp [p9]
section
variable {P:Program} {st:aA} {w:World}
theorem BA{o:Oper}{a:Act}{t t':TypeId}{s x:Operand}{w w':World}{v:Value}(ho:o.op=.call { callee:=.builtin .append,args:=#[s,x],argTypes:=#[t,t'] })
 (h:(Builtin.append_ #[t,t'] o.type #[a.eval s,a.eval x]).run P w=.ok v w'):(execOp a.eval o).run P w=.ok (.value v) w':=by
 simp only[execOp,ho,resolve,Sem.run_bind,Sem.run_pure,Result.andThen_ok,invoke,builtin]
 simp [h]
theorem aM8{o:Oper}{a:Act}{φ:AF}{t t':TypeId}{s x:Operand}{K:AV→aA→Prop}(ho:o.op=.call { callee:=.builtin .append,args:=#[s,x],argTypes:=#[t,t'] })(F:dR w.heap st a.tmps φ)(S:cA w.heap st)
 (e:EC P t t' st (φ.eval s) (φ.eval x) K):∃v w',(execOp a.eval o).run P w=.ok (.value v) w'∧kM st w K v w':=by
 unfold EC at e
 split at e
 case h_2=>cases e
 rename_i ag sz bytes zs kn k hI hB hZ hT' hX
 obtain⟨hzl,hsz,hst,hk0,e⟩:=e
 obtain⟨n,rfl⟩:=v6 hk0
 simp only[gI] at e
 obtain⟨el,hu,hT⟩:=pC hI
 obtain⟨_,_,d,i,_,hi,pM,_⟩:=tI_run hT w
 have hby:i.bytes=bytes:=by simp only[eB,hu,hi,oT,Option.some.injEq] at hB;exact hB
 obtain⟨z,hz0,hzv⟩:∃z,i.zero=some z∧aR w.heap st zs z.cells.toList:=by
  simp only[eZ,hu] at hZ
  simp only[zI,hi] at hZ
  cases hz:i.zero with
  | none=>simp [hz] at hZ
  | some z=>simp only[hz,Option.some.injEq] at hZ;subst hZ;exact⟨z,rfl,aR.consts _ _ _⟩
 have hzc:z.cells.size=sz:=by have:=hzv.length;simp at this;omega
 have hxv:a.eval x=.int .i64 n:=by
  have y:=aM.eval F x
  rw[hX] at y
  exact y.jF
 have hs:=aM.eval F s
 have hnv:aR w.heap st (jG zs n) (Builtin.zeroCells z.cells n).toList:=hzv.made n
 have hml:=aG8 zs n
 split at e
 · rename_i es hes
   rw[hes] at hs
   obtain⟨rfl,hb1,hb2,vH,yS⟩:=e
   obtain⟨base,hv⟩:∃base,a.eval s=.slice base 0 0:=by
    rcases hs.vA with ⟨⟨p0,hv⟩,_⟩ | ⟨b,off,hv,_⟩
    · exact⟨p0,hv⟩
    · exact⟨_,hv⟩
   by_cases hn:n=0
   · subst hn
     refine⟨a.eval s,w,BA ho ?_,.fslice [],st,hs,S,bQ.refl _ _,eD.refl _,vH rfl⟩
     rw[hv,hxv]
     cases base<;>simp [Builtin.append_,run_underlying hu,run_underlying hT',sizeOf,typeInfo,hi,asInt,asIntOf,IntKind.wrap_i64,storeCells]
   · have hr:=aIP (P:=P) w t t' o.type el i z kn hu hT' hi hz0 (by omega) base 0 0 [] (by simp) (fun _=>rfl) (by simp) n (by omega) (by omega) (by omega) (by rw[hby];omega)
      (growslice_fits (by omega) (by rw[hby];simpa using hb1))
     have hN:=yB (w:=w) (st:=st) (e:=el) (need:=n) (cap:=grownCap w (0+n) 0 el) S hzv hzl hnv (by rw[hml,hzl]) (by have:=grownCap_ge w (0+n) 0 el;omega) (grownCap_le_maxLen _ _ _ _ (by unfold maxLen;omega)) st (fun _ _ h=>h)
     simp only[dL,j7] at hr
     rw[j7] at hN
     exact⟨_,_,BA ho (by rw[hv,hxv];exact hr),.mslice w.heap.size 0 n sz,_,hN.1,hN.2.1,hN.2.2,⟨rfl,rfl,rfl⟩,yS hn w.heap.size S.fresh⟩
 · rename_i b len m hes
   rw[hes] at hs
   obtain⟨rfl,hb1,hb2,e⟩:=e
   split at e
   case h_2=>cases e
   rename_i cs hcs
   obtain⟨hlen,hin,OP⟩:=e
   obtain⟨cap,hv,l1,l2,c,ty',eT,l3⟩:=hs.CG
   obtain⟨hlt,c',ty,hb',hl,vs,x1,x2⟩:=S b _ hcs
   rw[eT] at hb';cases hb'
   have hvl:=x2.length
   have h48:n*i.bytes≤281474976710656:=by
    have:n*bytes≤(len+n)*bytes:=wA _ (by omega)
    rw[hby];omega
   have aX2:(Builtin.zeroCells z.cells n).toList.length=n*m:=by simp [size_zeroCells,hzc]
   by_cases pN:len+n≤cap
   · have FE:len*m+n*m≤c.size:=by
      rw[←v9]
      have:=wA m pN
      omega
     have hr:=a00 (P:=P) w t t' o.type el ty' i z kn hu hT' hi hz0 (by omega) (by omega) b len cap c eT n (hnv.zC (by
      simp only[jG,List.all_map,c6]
      intro j hj
      simp only[xU] at hj
      have hp:0<zs.length:=by omega
      have hm:=uG j hp
      simp only[Function.comp,RF,eL hm,D3]
      exact c6.1 hst _ (List.getElem_mem hm))) (by omega) h48 pN (by rw[pM];exact FE)
     rw[pM] at hr
     generalize hc2:(c.toList.take (len*m)++(Builtin.zeroCells z.cells n).toList++c.toList.drop (len*m+n*m)).toArray=c2 at hr
     have vJ:c2.size=c.size:=by rw[←hc2];simp [size_zeroCells,hzc];omega
     have htk:c2.toList.take (len*m+n*m)=vs.take (len*m)++(Builtin.zeroCells z.cells n).toList:=by
      have n6:=BI eT x1
      simp only[sN] at n6
      rw[←n6,HD,oS (by omega)]
      have hA:(c.toList.take (len*m)++(Builtin.zeroCells z.cells n).toList).length=len*m+n*m:=by rw[dO,aX2];simp;omega
      rw[←hc2]
      show List.take _ (_++_++_)=_
      rw[HC (by rw[hA];omega),oR (by rw[hA];omega)]
     have vE:(w.setRow b c2).heap[b]?=some (.cells c2 ty' (0,0)):=setRow_heap w b c c2 ty' (0,0) eT
     have l7:∀y,y<w.heap.size→y≠b→(w.setRow b c2).heap[y]?=w.heap[y]?:=fun y _ hne=>setRow_other w b y c2 hne
     have T:bQ w.heap st (w.setRow b c2).heap (st.aC b (.cells (cs.take (len*m)++jG zs n))):=by
      refine bQ.oC (by rw[hcs];simp) (by simp) l7 fun c1 t1 fr1 e1=>?_
      rw[eT] at e1;cases e1
      exact⟨c2,vE,vJ⟩
     have hal:(cs.take (len*m)++jG zs n).length=len*m+n*m:=by
      rw[dO,dK,hml,hzl,oS hlen]
     refine⟨_,_,BA ho (by rw[hv,hxv];exact hr),.mslice b 0 (len+n) m,_,⟨rfl,cap,rfl,pN,l2,c2,ty',vE,by rw[vJ];exact l3⟩,S.oC T (by simpa using hlt) l7 ⟨c2,ty',vE,by rw[hal,vJ];exact FE,(c2.toList.drop 0).take (len*m+n*m),BH vE _ 0 (by rw[vJ];omega),?_⟩,T,⟨rfl,rfl,rfl⟩,hin⟩
     rw[sN,htk]
     exact aR.mono T _ _ ((x2.take (len*m)).append hnv)
   · have hlv:(vs.take (len*m)).length=len*i.size:=by rw[pM,dK,hvl,oS hlen]
     have hr:=aIP (P:=P) w t t' o.type el i z kn hu hT' hi hz0 (by omega) (some ⟨b,0,none⟩) len cap (vs.take (len*m)) hlv (by simp) (fun a0 ha0 j u hj=>by
      cases ha0
      rw[Addr.mW,yE];exact(x1.take (len*m)).get j hj) n (by omega) (by omega) (by omega) h48
      (growslice_fits (by omega) (by rw[hby];exact hb1))
     have hN:=yB (w:=w) (st:=st) (e:=el) (need:=len+n) (cap:=grownCap w (len+n) cap el) S hzv hzl ((x2.take (len*m)).append hnv)
      (by rw[dO,dK,oS hlen,hml,hzl,v9]) (grownCap_ge ..) (grownCap_le_maxLen _ _ _ _ (by unfold maxLen;omega)) (st.erase b)
      (fun y o h=>by unfold aA.erase at h;split at h;cases h;exact h)
     exact⟨_,_,BA ho (by rw[hv,hxv];exact hr),.mslice w.heap.size 0 (len+n) m,_,hN.1,hN.2.1,hN.2.2,⟨rfl,rfl,rfl⟩,OP w.heap.size S.fresh⟩
 · cases e
def nL(t:ByteArray):List AV:=t.data.toList.map fun x=>.int .u8 (x.toNat:Int)
theorem PZ(t:ByteArray):(nL t).length=t.size:=by simp only[nL,aE,Array.length_toList];rfl
theorem aR.nL{h:a7}{st:aA}(t:ByteArray):aR h st (nL t) (Lib.strCells t):=by
 unfold Go.AW.nL Lib.strCells
 induction t.data.toList with
 | nil=>rfl
 | cons x l ih=>
  simp only[bL,aR]
  exact⟨_,_,rfl,by simp [VC],ih⟩
def EB(P:Program)(t t':TypeId)(st:aA)(s:AV)(tx:ByteArray)(K:AV→aA→Prop):Prop:=
 match eI P t,eB P t,eZ P t,P.underlying t',s with
 | some (_,sz),some bytes,some zs,some .string,.fslice es=>zs.length=sz∧sz=1∧es≠[]∧(es.length+tx.size)*bytes≤140737488355328∧es.length+tx.size≤9223372036854775807∧(∀e∈es,e.width=sz) ∧
  (tx.size=0→K (.fslice es) st)∧(tx.size≠0→∀b,st b=none→K (.mslice b 0 (es.length+tx.size) sz) (st.aC b (.cells (es.flatMap AV.cells++nL tx))))
 | _,_,_,_,_=>False
theorem aM7{o:Oper}{a:Act}{φ:AF}{t t':TypeId}{s x:Operand}{tx:ByteArray}{K:AV→aA→Prop}(ho:o.op=.call { callee:=.builtin .append,args:=#[s,x],argTypes:=#[t,t'] })(F:dR w.heap st a.tmps φ)(S:cA w.heap st)
 (hX:φ.eval x=.str tx) (e:EB P t t' st (φ.eval s) tx K):∃v w',(execOp a.eval o).run P w=.ok (.value v) w'∧kM st w K v w':=by
 unfold EB at e
 split at e
 case h_2=>cases e
 rename_i ag sz bytes zs es hI hB hZ hT' hes
 obtain⟨hzl,hsz,hne,hb1,hb2,hw,vH,yS⟩:=e
 obtain⟨el,hu,hT⟩:=pC hI
 obtain⟨_,_,d,i,_,hi,pM,_⟩:=tI_run hT w
 have hby:i.bytes=bytes:=by simp only[eB,hu,hi,oT,Option.some.injEq] at hB;exact hB
 obtain⟨z,hz0,hzv⟩:∃z,i.zero=some z∧aR w.heap st zs z.cells.toList:=by
  simp only[eZ,hu] at hZ
  simp only[zI,hi] at hZ
  cases hz:i.zero with
  | none=>simp [hz] at hZ
  | some z=>simp only[hz,Option.some.injEq] at hZ;subst hZ;exact⟨z,rfl,aR.consts _ _ _⟩
 have hxv:a.eval x=.string tx:=by
  have y:=aM.eval F x
  rw[hX] at y
  exact y.zP.1
 have hs:=aM.eval F s
 rw[hes] at hs
 rcases hs.vA with ⟨_,h0⟩ | ⟨b,off,hv,l1,e2,e3,ev,e4⟩
 · exact absurd h0 hne
 by_cases hn:tx.size=0
 · refine⟨a.eval s,w,BA ho ?_,.fslice es,st,hs,S,bQ.refl _ _,eD.refl _,vH hn⟩
   have hf:=Lib.run_firstCells_string (P:=P) w i.size tx
   have hc:Lib.strCells tx= []:=oQ (by rw[Lib.strCells_length];exact hn)
   rw[hc,hn] at hf
   rw[hv,hxv]
   simp [Builtin.append_,run_underlying hu,run_underlying hT',sizeOf,typeInfo,hi,Builtin.lenOf,hn,hf,storeCells]
 · obtain⟨vs,v1,v2⟩:=e4.flat
   have hlv:vs.length=es.length*i.size:=by rw[v2.length,lQ hw,pM]
   have hr:=Lib.run_append_grow_string (P:=P) w t t' o.type el i z hu hT' hi hz0 ⟨b,off,none⟩ es.length es.length vs hlv (fun j u hj=>by rw[Addr.mW,yE];exact v1.get j hj) tx (by omega) (by omega)
    (growslice_fits (by omega) (by rw[hby];exact hb1))
   have hN:=yB (w:=w) (st:=st) (e:=el) (need:=es.length+tx.size) (cap:=grownCap w (es.length+tx.size) es.length el) S hzv hzl (v2.append (aR.nL tx))
    (by rw[dO,lQ hw,PZ,v9,hsz,AJ,AJ]) (grownCap_ge ..) (grownCap_le_maxLen _ _ _ _ (by unfold maxLen;omega)) st (fun _ _ h=>h)
   have hvn:vs.toArray++(Lib.strCells tx).toArray=(vs++Lib.strCells tx).toArray:=by simp
   rw[hvn] at hr
   exact⟨_,_,BA ho (by rw[hv,hxv];exact hr),.mslice w.heap.size 0 (es.length+tx.size) sz,_,hN.1,hN.2.1,hN.2.2,⟨rfl,rfl,rfl⟩,yS hn w.heap.size S.fresh⟩
def sR(P:Program)(t t':TypeId)(st:aA)(s x:AV)(K:AV→aA→Prop):Prop:=(∃tx,x=.str tx∧EB P t t' st s tx K)∨EC P t t' st s x K
theorem aM9{o:Oper}{a:Act}{φ:AF}{t t':TypeId}{s x:Operand}{K:AV→aA→Prop}(ho:o.op=.call { callee:=.builtin .append,args:=#[s,x],argTypes:=#[t,t'] })(F:dR w.heap st a.tmps φ)(S:cA w.heap st)
 (e:sR P t t' st (φ.eval s) (φ.eval x) K):∃v w',(execOp a.eval o).run P w=.ok (.value v) w'∧kM st w K v w':=by
 rcases e with ⟨tx,hx,e⟩ | e
 · exact aM7 ho F S hx e
 · exact aM8 ho F S e
end
def EE(P:Program)(t:TypeId)(st:aA)(x:AV)(K:AV→aA→Prop):Prop:=
 match eI P t,eZ P t,x with
 | some (_,sz),some zs,.mslice b off n m=>m=sz∧sz≠0∧zs.length=sz∧zs.all AV.storable=true ∧
  (match st b with
   | some (.cells cs)=>off+n*sz≤cs.length∧K (.tup []) (st.aC b (.cells (aG cs off (jG zs n))))
   | _=>False)
 | some _,some _,.eslice=>K (.tup []) st
 | _,_,_=>False
section
variable {P:Program} {st:aA} {w:World}
theorem a3H{b o:Nat}{cs X:List AV}{V:List Value}(S:cA w.heap st)(hs:st b=some (.cells cs))(hX:aR w.heap st X V)(eU:o+X.length≤cs.length)(hst:X.all AV.storable=true) :
 ∃w',(storeCells ⟨b,o,none⟩ V).run P w=.ok () w'∧cA w'.heap (st.aC b (.cells (aG cs o X)))∧bQ w.heap st w'.heap (st.aC b (.cells (aG cs o X)))∧eD w w':=by
 obtain⟨hlt,c,ty,hb,hl,vs,x1,x2⟩:=S b _ hs
 have hlen:V.length=X.length:=hX.length
 have hvl:=x2.length
 have kT:=run_storeCells_at P b o ty V 0 c w hb (by omega) (hX.zC hst)
 simp only[D0,hlen] at kT
 refine⟨_,kT,?_⟩
 generalize hc':(c.toList.take o++V++c.toList.drop (o+X.length)).toArray=c' at *
 have hsz:c'.size=c.size:=by rw[←hc'];simp [hlen];omega
 have eT:(w.setRow b c').heap[b]?=some (.cells c' ty (0,0)):=setRow_heap w b c c' ty (0,0) hb
 have l7:∀y,y<w.heap.size→y≠b→(w.setRow b c').heap[y]?=w.heap[y]?:=fun y _ hne=>setRow_other w b y c' hne
 have T:bQ w.heap st (w.setRow b c').heap (st.aC b (.cells (aG cs o X))):=by
  refine bQ.oC (by rw[hs];simp) (by simp) l7 fun c1 t1 fr1 e1=>?_
  rw[hb] at e1;cases e1
  exact⟨c',eT,hsz⟩
 have pO:(aG cs o X).length=cs.length:=by simp [aG];omega
 refine⟨S.oC T (by simpa using hlt) l7 ⟨c',ty,eT,by rw[pO,hsz];exact hl,(c'.toList.drop 0).take cs.length,BH eT _ 0 (by rw[hsz];omega),?_⟩,T,⟨rfl,rfl,rfl⟩⟩
 refine aR.mono T _ _ ?_
 have n6:=BI hb x1
 simp only[sN] at n6 ⊢
 have e1:c'.toList.take cs.length=vs.take o++V++vs.drop (o+X.length):=by
  rw[←hc',←n6,hvl]
  have:=aJF c.toList V o cs.length (by rw[hlen];exact eU) (by simpa using hl)
  rw[hlen] at this
  exact this
 rw[e1,aG]
 exact((x2.take o).append hX).append (x2.drop (o+X.length))
theorem aSO{o:Oper}{a:Act}{φ:AF}{t:TypeId}{x:Operand}{K:AV→aA→Prop}(ho:o.op=.call { callee:=.builtin .clear,args:=#[x],argTypes:=#[t] })(F:dR w.heap st a.tmps φ)(S:cA w.heap st)
 (e:EE P t st (φ.eval x) K):∃v w',(execOp a.eval o).run P w=.ok (.value v) w'∧kM st w K v w':=by
 unfold EE at e
 split at e
 case h_3=>cases e
 case h_2=>
  rename_i q zs hI hZ hx
  obtain⟨ag,sz⟩:=q
  have hs:=aM.eval F x
  rw[hx] at hs
  obtain⟨p0,c0,hv⟩:=hs.NX
  obtain⟨el,hu,hT⟩:=pC hI
  have run:(execOp a.eval o).run P w=.ok (.value (.tuple #[])) w:=by
   simp only[execOp,ho,resolve,Sem.run_bind,Sem.run_pure,Result.andThen_ok,invoke,builtin]
   cases p0<;>simp [Builtin.clear_,dQ hu,hv]
  exact⟨_,_,run,.tup [],st,⟨rfl,[],rfl,rfl⟩,S,bQ.refl _ _,eD.refl _,e⟩
 rename_i ag sz zs b off n m hI hZ hx
 obtain⟨rfl,hsz,hzl,hst,e⟩:=e
 split at e
 case h_2=>cases e
 rename_i cs hcs
 obtain⟨eU,hK⟩:=e
 have hs:=aM.eval F x
 rw[hx] at hs
 obtain⟨cap,hv,l1,l2,c,ty',eT,l3⟩:=hs.CG
 obtain⟨el,hu,hT⟩:=pC hI
 have hzs:zI P el=some zs:=by simpa [eZ,hu] using hZ
 obtain⟨z,z1,z2⟩:=zI_run hzs w.heap st w
 have hnv:aR w.heap st (jG zs n) (Builtin.zeroCells z.cells n).toList:=z2.made n
 have hml:=aG8 zs n
 rcases Nat.eq_zero_or_pos n with rfl | hn
 · have run:(execOp a.eval o).run P w=.ok (.value (.tuple #[])) w:=by
    simp only[execOp,ho,resolve,Sem.run_bind,Sem.run_pure,Result.andThen_ok,invoke,builtin]
    simp [Builtin.clear_,dQ hu,hv]
   have he:st.aC b (.cells (aG cs off (jG zs 0)))=st:=by
    funext y
    simp only[aA.aC]
    split
    · rename_i h;rw[h,hcs];simp [aG,jG]
    · rfl
   rw[he] at hK
   exact⟨_,_,run,.tup [],st,⟨rfl,[],rfl,rfl⟩,S,bQ.refl _ _,eD.refl _,hK⟩
 · obtain⟨w',h1,h2,h3,h4⟩:=a3H (P:=P) (o:=off) S hcs hnv (by rw[hml,hzl];exact eU) (by
    simp only[jG,List.all_map,c6]
    intro j hj
    simp only[xU] at hj
    have hp:0<zs.length:=by omega
    have hm:=uG j hp
    simp only[Function.comp,RF,eL hm,D3]
    exact c6.1 hst _ (List.getElem_mem hm))
   have run:(execOp a.eval o).run P w=.ok (.value (.tuple #[])) w':=by
    obtain⟨k,rfl⟩:∃k,n=k+1:=⟨n - 1,by omega⟩
    simp only[execOp,ho,resolve,Sem.run_bind,Sem.run_pure,Result.andThen_ok,invoke,builtin]
    simp [Builtin.clear_,dQ hu,hv,z1,h1]
   exact⟨_,_,run,.tup [],_,⟨rfl,[],rfl,rfl⟩,h2,h3,h4,hK⟩
end
def z8(mt:List Nat):Option Tmp→Bool
 | some d=>mt.contains d
 | none=>false
def eE(P:Program)(mt:List Nat)(φ:AF)(st:aA)(o:Oper)(K:AV→aA→Prop):Prop:=
 match o.op with
 | .call { callee:=.value f,args,.. }=>match φ.eval f with
  | .func g dB=>aD P g (args.toList.map φ.eval++dB) st K
  | _=>False
 | .call { callee:=.builtin .append,args,argTypes }=>match args.toList,argTypes.toList with
  | [s,x],[t,t']=>if t=t' then iT P t st (φ.eval s) (φ.eval x) K else sR P t t' st (φ.eval s) (φ.eval x) K
  | _,_=>False
 | .call { callee:=.builtin .delete,args,argTypes }=>match args.toList,argTypes.toList with
  | [m,k],[t,_]=>EF P t st (φ.eval m) (φ.eval k) K
  | _,_=>False
 | .call { callee:=.builtin .clear,args,argTypes }=>match args.toList,argTypes.toList with
  | [x],[t]=>EE P t st (φ.eval x) K
  | _,_=>False
 | .box t x=>if z8 mt o.dst=true then
  (φ.eval x).bR=false∧∀b,st b=none→K (.ptr b 0) (st.aC b (.cells (φ.eval x).cells))
  else match v3 P t (φ.eval x) with | some r=>K r st | none=>False
 | .alloc t=>match zI P t with
  | some zs=>∀b,st b=none→K (.ptr b 0) (st.aC b (.cells zs))
  | none=>False
 | .store t p x=>match φ.eval p with
  | .ptr b q=>match st b,tI P t with
   | some (.cells cs),some (_,sz)=>(φ.eval x).cells.length=sz∧q+sz≤cs.length∧(φ.eval x).cells.all AV.storable=true∧K .undef (st.aC b (.cells (aG cs q (φ.eval x).cells)))
   | _,_=>False
  | _=>False
 | .makeMap _ none=>∀b,st b=none→K (.map b) (st.aC b (.map fun _=>none))
 | .makeSlice t n c=>uM P t st (φ.eval n) (φ.eval c) K
 | .mapUpdate t m k x=>EG P t st (φ.eval m) (φ.eval k) (φ.eval x) K
 | _=>match kN P φ st o with | some r=>K r st | none=>False
theorem kM.aHV{st:aA}{w:World}{r:AV}{x:Result Next}{K:AV→aA→Prop}(y:gA st w r x)(S:cA w.heap st)(k:K r st):∃v w',x=.ok (.value v) w'∧kM st w K v w':=by
 obtain⟨v,w',e,hv,E,hS⟩:=y
 exact⟨v,w',e,r,st,hv,S.ext E,E.step st,hS,k⟩
theorem aR4{P:Program}{g:FuncId}(h:Enters P g)(args:Array Value)(w:World):(callFunc g args).run P w=.ok (.enter g args) w:=by
 obtain⟨fn,h1,h2,h3⟩:=h
 have hb:fn.body.isNone=false:=by cases hb:fn.body<;>simp_all
 simp only[callFunc,Sem.run_bind,run_program,Result.andThen_ok,h1,h3,hb,iF,dA,Sem.run_pure]
theorem HM{P:Program}{mt:List Nat}{st:aA}{w:World}{a:Act}{φ:AF}{o:Oper}{K:AV→aA→Prop}{next:Act→World→Prop}{Q:Exit→Act→World→Prop}(F:dR w.heap st a.tmps φ)(S:cA w.heap st)
 (e:eE P mt φ st o K) (hn:∀v w',kM st w K v w'→next (a.put o.dst v) w'):o.wp P a w next Q:=by
 have val:(∃v w',(execOp a.eval o).run P w=.ok (.value v) w'∧kM st w K v w')→o.wp P a w next Q:=by
  rintro⟨v,w',h1,h2⟩
  simp only[Oper.wp,h1,Oper.upon]
  exact hn v w' h2
 have skp:(∃w',(execOp a.eval o).run P w=.ok .skip w'∧kM st w K Go.undef w')→o.wp P a w next Q:=by
  rintro⟨w',h1,h2⟩
  simp only[Oper.wp,h1,Oper.upon]
  exact hn _ w' h2
 unfold eE at e
 split at e
 case h_1 f args ats ho=>
  split at e
  case h_2=>cases e
  rename_i g dB hf
  have yf:=aM.eval F f
  rw[hf] at yf
  obtain⟨cvs,hv,hc⟩:=yf.aWK
  obtain⟨hE,OH⟩:=e
  have pK:=(cO.eval F args.toList).append (cO.aHR hc)
  have kT:(execOp a.eval o).run P w=.ok (.enter g (args.toList.map a.eval++cvs).toArray) w:=by
   have: #[]++Array.map a.eval args++cvs.toArray=(args.toList.map a.eval++cvs).toArray:=by apply Array.ext';simp
   simp only[execOp,ho,resolve,hv,Deferred.ofValue,Sem.run_bind,Sem.run_pure,Result.andThen_ok,invoke,this,aR4 hE]
  simp only[Oper.wp,kT,Oper.upon]
  refine(OH w _ S pK).mono ?_
  rintro e' w' ⟨v,r,st',rfl,x1,x2,x3,x4,x5⟩
  exact hn v w' ⟨r,st',x1,x2,x3,x4,x5⟩
 case h_2 args ats ho=>
  split at e
  case h_2=>cases e
  rename_i s x t t' hx ht
  obtain rfl:args= #[s,x]:=by rw[←p8 (xs:=args),hx]
  obtain rfl:ats= #[t,t']:=by rw[←p8 (xs:=ats),ht]
  split at e
  · rename_i htt;subst htt
    exact val (aNA ho F S e)
  · exact val (aM9 ho F S e)
 case h_3 args ats ho=>
  split at e
  case h_2=>cases e
  rename_i m k t t' hx ht
  obtain rfl:args= #[m,k]:=by rw[←p8 (xs:=args),hx]
  obtain rfl:ats= #[t,t']:=by rw[←p8 (xs:=ats),ht]
  exact val (aSV ho F S e)
 case h_4 args ats ho=>
  split at e
  case h_2=>cases e
  rename_i x t hx ht
  obtain rfl:args= #[x]:=by rw[←p8 (xs:=args),hx]
  obtain rfl:ats= #[t]:=by rw[←p8 (xs:=ats),ht]
  exact val (aSO ho F S e)
 case h_5 t x ho=>
  split at e
  · obtain⟨hj,hK⟩:=e
    have y:=aM.eval F x
    exact val ⟨_,_,by simp [execOp,ho,Instr.box,newVar,newRow],aHH (t:=t) S (y.cells (by rintro h;rw[h] at hj;simp [AV.bR] at hj)) hK⟩
  · split at e
    · rename_i r hr;exact val (kM.aHV (S4 ho F S hr) S e)
    · cases e
 case h_6 t ho=>
  split at e
  case h_2=>cases e
  rename_i zs hz
  obtain⟨z,z1,z2⟩:=zI_run (P:=P) hz w.heap st w
  exact val ⟨_,_,by simp [execOp,ho,Instr.alloc,newVar,newRow,z1],aHH (t:=t) S z2 e⟩
 case h_7 t p x ho=>
  split at e
  case h_2=>cases e
  rename_i b q hp
  split at e
  case h_2=>cases e
  rename_i cs ag sz hs hT
  obtain⟨e1,e2,e3,hK⟩:=e
  have yp:=aM.eval F p
  rw[hp] at yp
  obtain⟨w',r1,r2,r3,r4⟩:=a1U S hT hs (aM.eval F x) e1 e2 e3
  exact skp ⟨w',by simp [execOp,ho,yp.zE,r1],.undef,_,⟨rfl,rfl⟩,r2,r3,r4,hK⟩
 case h_8 t ho=>exact val (aY3 ho S e)
 case h_9 t n c ho=>exact val (aY4 ho F S e)
 case h_10 t m k x ho=>exact skp (aY5 ho F S e)
 case h_11=>
  split at e
  · rename_i r hr;exact val (kM.aHV (aMT F S hr) S e)
  · cases e
def gX(ops:Array Oper)(φ:AF)(o:Oper):Option Bool:=
 match o.guard with
 | none=>some true
 | some (j,want)=>match (ops[j]?).bind (·.dst) with
  | none=>some false
  | some d=>match φ d with
   | .bool b=>some (b == want)
   | .undef=>some false
   | _=>none
structure Rel (N:Nat) (a:Act) (w:World) (φ:AF) (st:aA):Prop where
 size:a.tmps.size=N
 defers:a.defers= []
 frame:dR w.heap st a.tmps φ
 store:cA w.heap st
theorem wD{N:Nat}{a:Act}{w:World}{φ:AF}{st:aA}{ops:Array Oper}{o:Oper}{b:Bool}(R:Rel N a w φ st)(hN:∀(j d:Nat),(ops[j]?).bind (·.dst)=some d→d<N)(e:gX ops φ o=some b):Region.wanted o (yielded ops a.tmps)=b:=by
 unfold gX at e
 unfold Region.wanted
 split at e
 · rename_i hg;rw[hg];exact mL e
 · rename_i j want hg
   rw[hg]
   simp only
   split at e
   · rename_i hd
     cases e
     simp [yielded,hd]
   · rename_i d hd
     have hdn:d<a.tmps.size:=by rw[R.size];exact hN j d hd
     have y:=R.frame d
     split at e
     · rename_i c hc
       rw[hc] at y
       have:=y.yD
       simp [hdn] at this
       cases e
       simp [yielded,hd,hdn,this]
     · rename_i hc
       rw[hc] at y
       have:=y.a24
       simp [hdn] at this
       cases e
       simp [yielded,hd,hdn,this,Go.undef]
     · cases e
def m8(N:Nat)(o:Oper):Bool:=match o.dst with | some d=>decide (d<N) | none=>true
theorem Rel.put{N:Nat}{a:Act}{w w':World}{φ:AF}{st st':aA}{o:Oper}{r:AV}{v:Value}(R:Rel N a w φ st)(hd:m8 N o=true)(T:bQ w.heap st w'.heap st')(S:cA w'.heap st')(y:aM w'.heap st' r v) :
 Rel N (a.put o.dst v) w' (φ.put o.dst r) st':=by
 unfold m8 at hd
 cases ho:o.dst with
 | none=>exact⟨R.size,R.defers,R.frame.mono T,S⟩
 | some d=>
  rw[ho] at hd
  have hlt:d<a.tmps.size:=by rw[R.size];simpa using hd
  exact⟨by simp [Act.put,R.size],R.defers,dR.set (R.frame.mono T) hlt y,S⟩
def aW(P:Program)(mt:List Nat)(ops:Array Oper):List Oper→(AF→aA→Prop)→AF→aA→Prop
 | [],K,φ,st=>K φ st
 | o::rest,K,φ,st=>match gX ops φ o with
  | some true=>eE P mt φ st o (fun r st'=>aW P mt ops rest K (φ.put o.dst r) st')
  | some false=>aW P mt ops rest K (φ.put o.dst .undef) st
  | none=>False
def v7(N:Nat)(w:World)(st:aA)(Q:Exit→AF→aA→Prop):Exit→Act→World→Prop:=
 fun e a' w'=>∃φ' st',Rel N a' w' φ' st'∧bQ w.heap st w'.heap st'∧eD w w'∧Q e φ' st'
theorem HL{P:Program}{mt:List Nat}{ops:Array Oper}{N:Nat}(hN:∀(j d:Nat),(ops[j]?).bind (·.dst)=some d→d<N){Q:Exit→Act→World→Prop} :
 ∀(l:List Oper) (K:AF→aA→Prop) (φ:AF) (st:aA) (a:Act) (w:World),(∀o∈l,m8 N o=true)→Rel N a w φ st→aW P mt ops l K φ st →
  (∀a' w' φ' st',Rel N a' w' φ' st'→bQ w.heap st w'.heap st'→eD w w'→K φ' st'→Q .normal a' w')→wpList P ops Q l a w
 | [],K,φ,st,a,w,_,R,e,h=>h a w φ st R (bQ.refl _ _) (eD.refl _) e
 | o::l,K,φ,st,a,w,hd,R,e,h=>by
  have hdo:=hd o (by simp)
  unfold aW at e
  split at e
  · rename_i hg
    have hw:=wD R hN hg
    unfold wpList
    rw[aN hw]
    refine .inl (HM R.frame R.store e fun v w' ⟨r,st',x1,x2,x3,x4,x5⟩=>?_)
    exact HL hN l K _ st' _ w' (fun o ho=>hd o (by simp [ho])) (R.put hdo x3 x2 x1) x5
     fun a2 w2 φ2 st2 R2 T2 s2 k2=>h a2 w2 φ2 st2 R2 (x3.trans T2) (x4.trans s2) k2
  · rename_i hg
    have hw:=wD R hN hg
    unfold wpList
    rw[aK (by rw[hw];simp)]
    exact HL hN l K _ st _ w (fun o ho=>hd o (by simp [ho])) (R.put (r:=.undef) hdo (bQ.refl _ _) R.store ⟨rfl,rfl⟩) e h
  · cases e
theorem qD{P:Program}{mt:List Nat}{ops:Array Oper}{N:Nat}(hN:∀(j d:Nat),(ops[j]?).bind (·.dst)=some d→d<N){Q:Exit→Act→World→Prop}{o:Oper}{l:List Oper}{K:AF→aA→Prop}{φ:AF}{st:aA}{a:Act}{w:World}
 (hdo:m8 N o=true) (R:Rel N a w φ st) (e:aW P mt ops [o] K φ st)
 (h:∀a' w' φ' st',Rel N a' w' φ' st'→bQ w.heap st w'.heap st'→eD w w'→K φ' st'→wpList P ops Q l a' w'):wpList P ops Q (o::l) a w:=by
 unfold aW at e
 split at e
 · rename_i hg
   have hw:=wD R hN hg
   unfold wpList
   rw[aN hw]
   refine .inl (HM R.frame R.store e fun v w' ⟨r,st',x1,x2,x3,x4,x5⟩=>?_)
   exact h _ w' _ st' (R.put hdo x3 x2 x1) x3 x4 (by simpa only[aW] using x5)
 · rename_i hg
   have hw:=wD R hN hg
   unfold wpList
   rw[aK (by rw[hw];simp)]
   exact h _ w _ st (R.put (r:=.undef) hdo (bQ.refl _ _) R.store ⟨rfl,rfl⟩) (bQ.refl _ _) (eD.refl _) (by simpa only[aW] using e)
 · cases e
def AS(P:Program)(t:TypeId)(x:AV)(K:AV→Prop):Prop:=
 match zI P t,tI P t with
 | some zs,some (_,sz)=>zs.length=sz∧x.cells.length=sz∧x.cells.all AV.storable=true∧x.bR=false∧K (.pptr x)
 | _,_=>False
def n7(x:Operand)(d:Nat):Bool:=match x with | .tmp e=>e == d | _=>false
def eX(P:Program)(mt:List Nat)(ops:Array Oper):List Oper→(AF→aA→Prop)→AF→aA→Prop
 | [],K,φ,st=>K φ st
 | ⟨some d,.alloc t,ty,pos,aft,none⟩::⟨none,.store t' (.tmp d') x,ty',pos',qG,none⟩::rest,K,φ,st=>
  if d=d'∧t=t'∧(mt.contains d||n7 x d)=false then AS P t (φ.eval x) (fun r=>eX P mt ops rest K (φ.aC d r) st)
  else aW P mt ops [⟨some d,.alloc t,ty,pos,aft,none⟩] (aW P mt ops [⟨none,.store t' (.tmp d') x,ty',pos',qG,none⟩] (fun φ' st'=>eX P mt ops rest K φ' st')) φ st
 | ⟨some d,.alloc t,ty,pos,aft,none⟩::⟨some e,.assign y,ty2,vS,ME,none⟩::⟨none,.store t' (.tmp d') x,ty',pos',qG,none⟩::rest,K,φ,st=>
  if d=d'∧t=t'∧(mt.contains d||n7 x d||n7 y d||d == e)=false then AS P t ((φ.aC e (φ.eval y)).eval x) (fun r=>eX P mt ops rest K ((φ.aC e (φ.eval y)).aC d r) st)
  else aW P mt ops [⟨some d,.alloc t,ty,pos,aft,none⟩] (aW P mt ops [⟨some e,.assign y,ty2,vS,ME,none⟩] (aW P mt ops [⟨none,.store t' (.tmp d') x,ty',pos',qG,none⟩] (fun φ' st'=>eX P mt ops rest K φ' st'))) φ st
 | o::rest,K,φ,st=>aW P mt ops [o] (fun φ' st'=>eX P mt ops rest K φ' st') φ st
theorem bQ.forget{h:a7}{st:aA}{b:Nat}{o:AO}(hb:st b=none):bQ h (st.aC b o) h st:=
 ⟨cX _,fun x _ e=>⟨rfl,by
  by_cases hx:x=b
  · rw[hx];exact hb
  · rwa [aA.aJ _ _ hx] at e⟩,fun _ c _ _ e=>⟨c,e,rfl⟩⟩
theorem cA.forget{h:a7}{st:aA}{b:Nat}{o:AO}(hb:st b=none)(S:cA h (st.aC b o)):cA h st:=fun x p e=>by
 have hx:x≠b:=by rintro rfl;rw[hb] at e;cases e
 obtain⟨h1,h2⟩:=S x p (by rw[aA.aJ _ _ hx];exact e)
 exact⟨h1,h2.mono (bQ.forget hb) rfl⟩
theorem VC.aHP{h:a7}{st:aA}{x:AV}{vs:List Value}(hj:x.bR=false)(y:aR h st x.cells vs):VC h st x vs:=by
 cases x
 case agg cs=>unfold VC;exact y
 case junk=>cases hj
 all_goals
  simp only[AV.cells,aR] at y
  obtain⟨c,r,rfl,y,rfl⟩:=y
  exact y
theorem aMN{P:Program}{mt:List Nat}{ops:Array Oper}{N:Nat}(hN:∀(j d:Nat),(ops[j]?).bind (·.dst)=some d→d<N){Q:Exit→Act→World→Prop}(l:List Oper)(K:AF→aA→Prop)(φ:AF)(st:aA) :
 ∀(a:Act) (w:World),(∀o∈l,m8 N o=true)→Rel N a w φ st→eX P mt ops l K φ st →
  (∀a' w' φ' st',Rel N a' w' φ' st'→bQ w.heap st w'.heap st'→eD w w'→K φ' st'→Q .normal a' w')→wpList P ops Q l a w:=by
 induction l,K,φ,st using eX.induct (mt:=mt) with
 | case1 K φ st=>intro a w _ R e h;rw[eX] at e;exact h a w φ st R (bQ.refl _ _) (eD.refl _) e
 | case2 d t ty pos aft t' d' x ty' pos' qG rest K φ st hc ih=>
  intro a w hd R e h
  rw[eX,aN hc] at e
  obtain⟨rfl,rfl,hm⟩:=hc
  unfold AS at e
  split at e
  case h_2=>cases e
  rename_i zs ag sz hz hT
  obtain⟨e1,e2,e3,e4,e5⟩:=e
  have hx:∀v,(φ.aC d v).eval x=φ.eval x:=by
   intro v
   cases x with
   | tmp y=>
    have hne:y≠d:=by rintro rfl;simp [n7] at hm
    simp only[AF.eval,AF.aJ φ v hne]
   | _=>rfl
  have hd1:=hd _ (jP ..)
  refine qD (mt:=mt) (K:=fun φ' st'=>∃b,st b=none∧φ'=φ.aC d (.ptr b 0)∧st'=st.aC b (.cells zs)) hN hd1 R ?_ ?_
  · simp only[aW,gX,eE,hz]
    exact fun b hb=>⟨b,hb,rfl,rfl⟩
  rintro a1 w1 _ _ R1 T1 s1 ⟨b,hb,rfl,rfl⟩
  refine qD (mt:=mt) (K:=fun φ' st'=>φ'=φ.aC d (.ptr b 0)∧st'=st.aC b (.cells (φ.eval x).cells)) hN (hd _ (by simp)) R1 ?_ ?_
  · simp only[aW,gX,eE]
    rw[show(φ.aC d (.ptr b 0)).eval (.tmp d)=.ptr b 0 from AF.aH _ _ _]
    simp only[aA.aH,hT,hx]
    refine⟨e2,by omega,e3,rfl,?_⟩
    rw[dW]
    congr 2
    simp [aG,e1,e2]
  rintro a2 w2 _ _ R2 T2 s2 ⟨rfl,rfl⟩
  have F2:=R2.frame
  have T3:=bQ.forget (h:=w2.heap) (o:=.cells (φ.eval x).cells) hb
  have R3:Rel N a2 w2 (φ.aC d (.pptr (φ.eval x))) st:=by
   refine⟨R2.size,R2.defers,fun y=>?_,cA.forget hb R2.store⟩
   by_cases hy:y=d
   · subst hy
     rw[AF.aH]
     have y1:=F2 y
     rw[AF.aH] at y1
     have hv:=y1.zE
     obtain⟨h1,c,t2,h2,h3,vs,h4,h5⟩:=R2.store b _ (aA.aH _ _ _)
     rw[hv]
     refine⟨rfl,b,0,rfl,hb,h1,vs,h4,by rw[h5.length,BJ],VC.mono T3 _ _ (VC.aHP e4 h5)⟩
   · rw[AF.aJ _ _ hy]
     have y1:=F2 y
     rw[AF.aJ _ _ hy] at y1
     exact y1.mono T3
  have T4:=(T1.trans T2).trans T3
  exact ih _ a2 w2 (fun o ho=>hd o (by simp [ho])) R3 e5 fun a' w' φ' st' R' T' s' k=>h a' w' φ' st' R' (T4.trans T') ((s1.trans s2).trans s') k
 | case3 d t ty pos aft t' d' x ty' pos' qG rest K φ st hc ih=>
  intro a w hd R e h
  rw[eX,aK hc] at e
  refine qD hN (hd _ (by simp)) R e fun a1 w1 φ1 st1 R1 T1 s1 k1=>?_
  refine qD hN (hd _ (by simp)) R1 k1 fun a2 w2 φ2 st2 R2 T2 s2 k2=>?_
  exact ih _ _ a2 w2 (fun o ho=>hd o (by simp [ho])) R2 k2 fun a' w' φ' st' R' T' s' k=>h a' w' φ' st' R' ((T1.trans T2).trans T') ((s1.trans s2).trans s') k
 | case4 d t ty pos aft e0 y ty2 vS ME t' d' x ty' pos' qG rest K φ st hc ih=>
  intro a w hd R e h
  rw[eX,aN hc] at e
  obtain⟨rfl,rfl,hm⟩:=hc
  unfold AS at e
  split at e
  case h_2=>cases e
  rename_i zs ag sz hz hT
  obtain⟨e1,e2,e3,e4,e5⟩:=e
  simp only[LN,beq_eq_false_iff_ne,ne_eq] at hm
  obtain⟨⟨⟨hm1,hmx⟩,hmy⟩,hde⟩:=hm
  have hev:∀(ψ:AF) (z:Operand) v,n7 z d=false→(ψ.aC d v).eval z=ψ.eval z:=by
   intro ψ z v hz
   cases z with
   | tmp q=>
    have hne:q≠d:=by rintro rfl;simp [n7] at hz
    simp only[AF.eval,AF.aJ ψ v hne]
   | _=>rfl
  have hcm:∀v u,(φ.aC d v).aC e0 u=(φ.aC e0 u).aC d v:=fun v u=>AF.sK φ v u hde
  have hd1:=hd _ (jP ..)
  refine qD (mt:=mt) (K:=fun φ' st'=>∃b,st b=none∧φ'=φ.aC d (.ptr b 0)∧st'=st.aC b (.cells zs)) hN hd1 R ?_ ?_
  · simp only[aW,gX,eE,hz]
    exact fun b hb=>⟨b,hb,rfl,rfl⟩
  rintro a1 w1 _ _ R1 T1 s1 ⟨b,hb,rfl,rfl⟩
  refine qD (mt:=mt) (K:=fun φ' st'=>φ'=(φ.aC e0 (φ.eval y)).aC d (.ptr b 0)∧st'=st.aC b (.cells zs)) hN (hd _ (by simp)) R1 ?_ ?_
  · simp only[aW,gX,eE,kN]
    rw[hev φ y _ hmy]
    exact⟨hcm _ _,trivial⟩
  rintro a2 w2 _ _ R2 T2 s2 ⟨rfl,rfl⟩
  refine qD (mt:=mt) (K:=fun φ' st'=>φ'=(φ.aC e0 (φ.eval y)).aC d (.ptr b 0)∧st'=st.aC b (.cells ((φ.aC e0 (φ.eval y)).eval x).cells)) hN (hd _ (by simp)) R2 ?_ ?_
  · simp only[aW,gX,eE]
    rw[show((φ.aC e0 (φ.eval y)).aC d (.ptr b 0)).eval (.tmp d)=.ptr b 0 from AF.aH _ _ _]
    simp only[aA.aH,hT,hev (φ.aC e0 (φ.eval y)) x _ hmx]
    refine⟨e2,by omega,e3,rfl,?_⟩
    rw[dW]
    congr 2
    simp [aG,e1,e2]
  rintro a3 w3 _ _ R3 T3 s3 ⟨rfl,rfl⟩
  have F2:=R3.frame
  have T4:=bQ.forget (h:=w3.heap) (o:=.cells ((φ.aC e0 (φ.eval y)).eval x).cells) hb
  have R4:Rel N a3 w3 ((φ.aC e0 (φ.eval y)).aC d (.pptr ((φ.aC e0 (φ.eval y)).eval x))) st:=by
   refine⟨R3.size,R3.defers,fun z=>?_,cA.forget hb R3.store⟩
   by_cases hy:z=d
   · subst hy
     rw[AF.aH]
     have y1:=F2 z
     rw[AF.aH] at y1
     have hv:=y1.zE
     obtain⟨h1,c,t2,h2,h3,vs,h4,h5⟩:=R3.store b _ (aA.aH _ _ _)
     rw[hv]
     refine⟨rfl,b,0,rfl,hb,h1,vs,h4,by rw[h5.length,BJ],VC.mono T4 _ _ (VC.aHP e4 h5)⟩
   · rw[AF.aJ _ _ hy]
     have y1:=F2 z
     rw[AF.aJ _ _ hy] at y1
     exact y1.mono T4
  have T5:=((T1.trans T2).trans T3).trans T4
  exact ih _ a3 w3 (fun o ho=>hd o (by simp [ho])) R4 e5 fun a' w' φ' st' R' T' s' k=>h a' w' φ' st' R' (T5.trans T') (((s1.trans s2).trans s3).trans s') k
 | case5 d t ty pos aft e0 y ty2 vS ME t' d' x ty' pos' qG rest K φ st hc ih=>
  intro a w hd R e h
  rw[eX,aK hc] at e
  refine qD hN (hd _ (by simp)) R e fun a1 w1 φ1 st1 R1 T1 s1 k1=>?_
  refine qD hN (hd _ (by simp)) R1 k1 fun a2 w2 φ2 st2 R2 T2 s2 k2=>?_
  refine qD hN (hd _ (by simp)) R2 k2 fun a3 w3 φ3 st3 R3 T3 s3 k3=>?_
  exact ih _ _ a3 w3 (fun o ho=>hd o (by simp [ho])) R3 k3 fun a' w' φ' st' R' T' s' k=>h a' w' φ' st' R' (((T1.trans T2).trans T3).trans T') (((s1.trans s2).trans s3).trans s') k
 | case6 o rest K φ st hne vG ih=>
  intro a w hd R e h
  rw[eX] at e
  case x_4=>exact hne
  case x_5=>exact vG
  refine qD hN (hd _ (by simp)) R e fun a1 w1 φ1 st1 R1 T1 s1 k1=>?_
  exact ih _ _ a1 w1 (fun o ho=>hd o (by simp [ho])) R1 k1 fun a' w' φ' st' R' T' s' k=>h a' w' φ' st' R' (T1.trans T') (s1.trans s') k
def eG(P:Program)(N:Nat)(c:Code)(Q:Exit→AF→aA→Prop)(φ:AF)(st:aA):Prop:=
 ∀a w,Rel N a w φ st→c.wp P (v7 N w st Q) a w
def DJ(k:AF→aA→Prop)(Q:Exit→AF→aA→Prop):Exit→AF→aA→Prop
 | .normal,φ,st=>k φ st
 | e,φ,st=>Q e φ st
def BE(id:Nat)(Q:Exit→AF→aA→Prop):Exit→AF→aA→Prop
 | .exit i,φ,st=>if i=id then Q .normal φ st else Q (.exit i) φ st
 | e,φ,st=>Q e φ st
def uL(c:AV)(k₁ k₂:AF→aA→Prop)(φ:AF)(st:aA):Prop:=
 match c with
 | .bool b=>(b=true→k₁ φ st)∧(b=false→k₂ φ st)
 | _=>False
def eW(P:Program)(N:Nat)(mt:List Nat):Code→(Exit→AF→aA→Prop)→AF→aA→Prop
 | .skip,Q,φ,st=>Q .normal φ st
 | .region id ops draw,Q,φ,st=>if draw then eG P N (.region id ops true) Q φ st else if mt.contains 1000000=true then eX P mt ops ops.toList (Q .normal) φ st else aW P mt ops ops.toList (Q .normal) φ st
 | .seq x y,Q,φ,st=>eW P N mt x (DJ (eW P N mt y Q) Q) φ st
 | .cond c x y,Q,φ,st=>uL (φ.eval c) (eW P N mt x Q) (eW P N mt y Q) φ st
 | .block id x,Q,φ,st=>eW P N mt x (BE id Q) φ st
 | .loop x,Q,φ,st=>eG P N (.loop x) Q φ st
 | .exit id,Q,φ,st=>Q (.exit id) φ st
 | .ret,Q,φ,st=>Q .ret φ st
 | c,Q,φ,st=>eG P N c Q φ st
def oD(N:Nat)(ops:Array Oper):Bool:=ops.all (m8 N)
def codeOk(N:Nat):Code→Bool
 | .region _ ops _=>oD N ops
 | .seq x y=>codeOk N x&&codeOk N y
 | .cond _ x y=>codeOk N x&&codeOk N y
 | .block _ x=>codeOk N x
 | .loop x=>codeOk N x
 | _=>true
theorem vQ{N:Nat}{ops:Array Oper}(h:oD N ops=true):∀o∈ops.toList,m8 N o=true:=by
 intro o ho
 exact Array.all_eq_true_iff_forall_mem.1 h o (mS.1 ho)
theorem w6{N:Nat}{ops:Array Oper}(h:oD N ops=true):∀(j d:Nat),(ops[j]?).bind (·.dst)=some d→d<N:=by
 intro j d e
 cases hj:ops[j]? with
 | none=>rw[hj] at e;cases e
 | some o=>
  rw[hj] at e
  have:=vQ h o (mS.2 (z9 hj))
  unfold m8 at this
  simp only[Option.bind_some] at e
  rw[e] at this
  simpa using this
theorem v7.mono{N:Nat}{w w':World}{st st':aA}{Q:Exit→AF→aA→Prop}(T:bQ w.heap st w'.heap st')(s:eD w w'){e:Exit}{a:Act}{w2:World}(x:v7 N w' st' Q e a w2):v7 N w st Q e a w2:=by
 obtain⟨φ',st2,R,T2,s2,q⟩:=x
 exact⟨φ',st2,R,T.trans T2,s.trans s2,q⟩
theorem x6{P:Program}{N:Nat}{mt:List Nat}:∀(c:Code) (Q:Exit→AF→aA→Prop) (φ:AF) (st:aA),codeOk N c=true→eW P N mt c Q φ st→eG P N c Q φ st
 | .skip,Q,φ,st,_,e=>fun a w R=>wp_skip ⟨φ,st,R,bQ.refl _ _,eD.refl _,e⟩
 | .region id ops draw,Q,φ,st,hc,e=>fun a w R=>by
  simp only[eW] at e
  cases draw with
  | true=>exact e a w R
  | false=>
   simp only[iF,dA] at e
   split at e
   · exact wp_region_list (aMN (w6 hc) ops.toList _ φ st a w (vQ hc) R e fun a' w' φ' st' R' T s k=>⟨φ',st',R',T,s,k⟩)
   exact wp_region_list (HL (w6 hc) ops.toList _ φ st a w (vQ hc) R e fun a' w' φ' st' R' T s k=>⟨φ',st',R',T,s,k⟩)
 | .seq x y,Q,φ,st,hc,e=>fun a w R=>by
  simp only[codeOk,bD] at hc
  refine wp_seq (wp_mono (x6 x _ φ st hc.1 e a w R) ?_)
  rintro ex a' w' ⟨φ',st',R',T,s,q⟩
  cases ex with
  | normal=>exact wp_mono (x6 y Q φ' st' hc.2 q a' w' R') fun _ _ _ h=>h.mono T s
  | _=>exact⟨φ',st',R',T,s,q⟩
 | .cond c x y,Q,φ,st,hc,e=>fun a w R=>by
  simp only[codeOk,bD] at hc
  simp only[eW,uL] at e
  split at e
  case h_2=>cases e
  rename_i b hb
  have yc:=aM.eval R.frame c
  rw[hb] at yc
  refine wp_cond_split yc.yD (fun h=>?_) (fun h=>?_)
  · exact x6 x Q φ st hc.1 (e.1 h) a w R
  · exact x6 y Q φ st hc.2 (e.2 h) a w R
 | .block id x,Q,φ,st,hc,e=>fun a w R=>by
  refine wp_block (wp_mono (x6 x _ φ st hc e a w R) ?_)
  rintro ex a' w' ⟨φ',st',R',T,s,q⟩
  cases ex with
  | exit i=>
   simp only[Exit.inBlock,BE] at q ⊢
   split<;>rename_i h
   · rw[aN h] at q;exact⟨φ',st',R',T,s,q⟩
   · rw[aK h] at q;exact⟨φ',st',R',T,s,q⟩
  | _=>exact⟨φ',st',R',T,s,q⟩
 | .loop x,Q,φ,st,_,e=>e
 | .exit id,Q,φ,st,_,e=>fun a w R=>wp_exit ⟨φ,st,R,bQ.refl _ _,eD.refl _,e⟩
 | .ret,Q,φ,st,_,e=>fun a w R=>wp_ret ⟨φ,st,R,bQ.refl _ _,eD.refl _,e⟩
 | .rangeFunc ..,Q,φ,st,_,e=>e
 | .scope _,Q,φ,st,_,e=>e
 | .label _,Q,φ,st,_,e=>e
 | .goto _,Q,φ,st,_,e=>e
 | .refuse _,Q,φ,st,_,e=>e
def A0(P:Program)(φ:AF)(st:aA):ResultVar→Option AV
 | .tmp t=>some (φ t)
 | .cell p t=>f0 P st t (φ p)
def nT(P:Program)(φ:AF)(st:aA):List ResultVar→Option (List AV)
 | []=>some []
 | r::rs=>match A0 P φ st r,nT P φ st rs with
  | some x,some xs=>some (x::xs)
  | _,_=>none
def DO(K:AV→aA→Prop)(st:aA):List AV→Prop
 | [r]=>K r st
 | rs=>kY rs=true∧K (.tup rs) st
def CU(P:Program)(rs:Array ResultVar)(K:AV→aA→Prop):Exit→AF→aA→Prop
 | .normal,φ,st | .ret,φ,st=>match nT P φ st rs.toList with
  | some xs=>DO K st xs
  | none=>False
 | _,_,_=>False
theorem aMO{P:Program}{φ:AF}{st:aA}{w:World}{a:Act}{v:ResultVar}{r:AV}(F:dR w.heap st a.tmps φ)(S:cA w.heap st)(e:A0 P φ st v=some r) :
 ∃u,(match v with | .tmp t=>pure (a.tmps.getD t undef) | .cell p t=>do loadVar t (←asAddr (a.tmps.getD p undef)):Sem Value).run P w=.ok u w∧aM w.heap st r u:=by
 cases v with
 | tmp t=>cases e;exact⟨_,rfl,F t⟩
 | cell p t=>
  obtain⟨b,off,u,hv,r1,rv⟩:=R9 (F p) S e
  exact⟨u,by simp only[hv,asAddr,Sem.run_bind,Sem.run_pure,Result.andThen_ok,r1],rv⟩
theorem SB{P:Program}{φ:AF}{st:aA}{w:World}{a:Act}(F:dR w.heap st a.tmps φ)(S:cA w.heap st):∀(l:List ResultVar) (rs:List AV),nT P φ st l=some rs →
 ∃us,(l.mapM fun v=>(match v with | .tmp t=>pure (a.tmps.getD t undef) | .cell p t=>do loadVar t (←asAddr (a.tmps.getD p undef)):Sem Value)).run P w=.ok us w∧cO w.heap st rs us
 | [],rs,e=>by simp only[nT] at e;cases e;exact⟨[],rfl,rfl⟩
 | v::l,rs,e=>by
  simp only[nT] at e
  split at e
  · rename_i x xs hx hxs
    cases e
    obtain⟨u,u1,u2⟩:=aMO F S hx
    obtain⟨us,v1,v2⟩:=SB F S l xs hxs
    refine⟨u::us,?_,by simp only[cO];exact⟨u,us,rfl,u2,v2⟩⟩
    rw[List.mapM_cons]
    simp only[Sem.run_bind,u1,Result.andThen_ok,v1,Sem.run_pure]
  · cases e
theorem cO.aKZ{h:a7}{st:aA}:∀ {as:List AV} {vs:List Value},cO h st as vs→kY as=true→c7 h st as vs
 | [],_,x,_=>by simpa [c7,cO] using x
 | a::as,vs,x,hj=>by
  simp only[cO] at x
  obtain⟨v,r,rfl,x1,x2⟩:=x
  simp [kY] at hj
  simp only[c7]
  exact⟨v,r,rfl,x1.pair hj.1,cO.aKZ x2 (by simp [kY];exact hj.2)⟩
theorem aIM{P:Program}{φ:AF}{st:aA}{w:World}{a:Act}{fn:Func}{rs:List AV}{K:AV→aA→Prop}(F:dR w.heap st a.tmps φ)(S:cA w.heap st)(e:nT P φ st fn.results.toList=some rs)(k:DO K st rs) :
 ∃v r,(results fn a.tmps).run P w=.ok v w∧aM w.heap st r v∧K r st:=by
 obtain⟨us,u1,u2⟩:=SB F S _ rs e
 have kT:(results fn a.tmps).run P w=.ok (if h:us.toArray.size=1 then us.toArray[0] else .tuple us.toArray) w:=by
  unfold results
  rw[Array.mapM_eq_mapM_toList]
  simp only[Sem.run_bind,Sem.run_map]
  exact(rX (fun r:Result (List Value)=>(r.andThen fun a w'=>Result.ok a.toArray w').andThen fun a w'=>Sem.run P (pure (if h:a.size=1 then a[0] else Value.tuple a)) w') u1).trans rfl
 match rs,k with
 | [r],k=>
  simp only[cO] at u2
  obtain⟨u,r',rfl,x1,rfl⟩:=u2
  exact⟨u,r,by rw[kT];try rfl,x1,k⟩
 | [],k=>
  simp only[cO] at u2
  subst u2
  exact⟨.tuple #[],.tup [],by rw[kT];try rfl,⟨rfl,[],rfl,rfl⟩,k.2⟩
 | r1::r2::rest,k=>
  have h2:=u2
  simp only[cO] at u2
  obtain⟨u,us',rfl,_,v,a3C,rfl,_,_⟩:=u2
  exact⟨.tuple (u::v::a3C).toArray,.tup (r1::r2::rest),by rw[kT];simp,⟨rfl,_,rfl,cO.aKZ h2 k.1⟩,k.2⟩
def qI:Nat→List AV→AF
 | _,[]=>AF.bot
 | i,a::as=>(qI (i+1) as).aC i a
theorem MI{h:a7}{st:aA}{tmps:Array Value}:∀(as:List AV) (vs:List Value) (i:Nat),cO h st as vs→(∀j v,vs[j]?=some v→tmps.getD (i+j) undef=v)→dR h st tmps (qI i as)
 | [],_,_,_,_=>fun d=>by trivial
 | a::as,vs,i,x,ht=>fun d=>by
  simp only[cO] at x
  obtain⟨v,r,rfl,x1,x2⟩:=x
  simp only[qI,AF.aC]
  split
  · rename_i hd
    subst hd
    have:=ht 0 v rfl
    rw[D0] at this
    rw[this];exact x1
  · exact MI as r (i+1) x2 (fun j u hj=>by
     have:=ht (j+1) u (by simpa using hj)
     rw[show i+(j+1)=i+1+j by omega] at this
     exact this) d
theorem cO.length{h:a7}{st:aA}:∀ {as:List AV} {vs:List Value},cO h st as vs→vs.length=as.length
 | [],vs,x=>by simp only[cO] at x;simp [x]
 | a::as,vs,x=>by
  simp only[cO] at x
  obtain⟨v,r,rfl,_,x2⟩:=x
  simp [cO.length x2]
theorem aMW{P:Program}{g:FuncId}{fn:Func}{c:Code}{args:List AV}{st:aA}{K:AV→aA→Prop}(mt:List Nat)(hf:P.funcs[g]?=some fn)(hb:fn.body=some c)(hn:(fn.name == "runtime.NumGoroutine")=false)
 (hok:codeOk fn.ntmps c=true) (pK:args.length≤fn.ntmps) (e:eW P fn.ntmps mt c (CU P fn.results K) (qI 0 args) st):aD P g args st K:=by
 refine⟨⟨fn,hf,by simp [hb],hn⟩,fun w vs S V=>?_⟩
 have hl:=V.length
 have R:Rel fn.ntmps { tmps:=vs.toArray++Array.replicate (fn.ntmps - vs.toArray.size) undef,defers:=[] } w (qI 0 args) st:=by
  refine⟨by simp;omega,rfl,MI args vs 0 V fun j v hj=>?_,S⟩
  obtain⟨hjl,hjv⟩:=fM.1 hj
  simp [Array.getElem?_append,hjl,hjv]
 refine calls_of_wp hf hb (wp_mono (x6 c _ _ st hok e _ w R) ?_)
 rintro ex a' w' ⟨φ',st',R',T,s,q⟩
 have fin:(match nT P φ' st' fn.results.toList with | some xs=>DO K st' xs | none=>False)→a'.defers= []∧∃v,(results fn a'.tmps).run P w'=.ok v w' ∧
  (∃v2 r st2,(Ending.returned v)=.returned v2∧aM w'.heap st2 r v2∧cA w'.heap st2∧bQ w.heap st w'.heap st2∧eD w w'∧K r st2):=by
  intro q
  split at q
  · rename_i xs hx
    obtain⟨v,r,r1,r2,r3⟩:=aIM R'.frame R'.store hx q
    exact⟨R'.defers,v,r1,v,r,st',rfl,r2,R'.store,T,s,r3⟩
  · cases q
 cases ex with
 | normal=>exact fin q
 | ret=>exact fin q
 | _=>exact q.elim
def uJ(st:aA)(r:AV)(st':aA)(r':AV):Prop:=∀(h:a7) (v:Value),cA h st→aM h st r v→aM h st' r' v
def xY(st st':aA):Prop:=∀(h:a7),cA h st→cA h st'∧bQ h st h st'
theorem aD.mH{P:Program}{g:FuncId}{args:List AV}{st:aA}{Q Q':AV→aA→Prop}(x:aD P g args st Q)(h:∀r st',Q r st'→∃r2 st2,xY st' st2∧uJ st' r st2 r2∧Q' r2 st2):aD P g args st Q':=
 ⟨x.1,fun w vs S V=>(x.2 w vs S V).mono fun _ _ ⟨v,r,st',e,a,b,c,d,q⟩=>
  let ⟨r2,st2,h1,h2,h3⟩:=h r st' q
  ⟨v,r2,st2,e,h2 _ v b a,(h1 _ b).1,c.trans (h1 _ b).2,d,h3⟩⟩
theorem aD.args{P:Program}{g:FuncId}{args args':List AV}{st:aA}{Q:AV→aA→Prop}(x:aD P g args' st Q)(h:∀(hp:a7) (vs:List Value),cA hp st→cO hp st args vs→cO hp st args' vs):aD P g args st Q:=
 ⟨x.1,fun w vs S V=>x.2 w vs S (h _ vs S V)⟩
def fA(φ:AF)(st:aA)(φ':AF)(st':aA):Prop:=∀(h:a7) (tmps:Array Value),cA h st→dR h st tmps φ→cA h st'∧bQ h st h st'∧dR h st' tmps φ'
theorem eG.less{P:Program}{N:Nat}{c:Code}{Q:Exit→AF→aA→Prop}{φ φ':AF}{st st':aA}(L:fA φ st φ' st')(x:eG P N c Q φ' st'):eG P N c Q φ st:=fun a w R=>by
 obtain⟨h1,h2,h3⟩:=L w.heap a.tmps R.store R.frame
 exact wp_mono (x a w ⟨R.size,R.defers,h3,h1⟩) fun _ _ _ y=>y.mono h2 (eD.refl _)
theorem fA.trans{φ φ' φ'':AF}{st st' GA:aA}(x:fA φ st φ' st')(y:fA φ' st' φ'' GA):fA φ st φ'' GA:=fun h t S F=>
 let ⟨a,b,c⟩:=x h t S F
 let ⟨a',b',c'⟩:=y h t a c
 ⟨a',b.trans b',c'⟩
theorem fA.bot(φ:AF)(st:aA):fA φ st AF.bot st:=fun _ _ S _=>⟨S,bQ.refl _ _,fun _=>trivial⟩
theorem fA.aC{φ φ':AF}{st:aA}(x:fA φ st φ' st){d:Nat}{v:AV}(e:φ d=v):fA φ st (φ'.aC d v) st:=fun h t S F=>by
 obtain⟨a,b,c⟩:=x h t S F
 refine⟨a,b,fun y=>?_⟩
 simp only[AF.aC]
 split
 · rename_i hy;subst hy;rw[←e];exact F y
 · exact c y
def oA(k:AF→aA→Prop)(Q:Exit→AF→aA→Prop):Exit→AF→aA→Prop
 | .normal,φ,st=>k φ st
 | e,φ,st=>Q e φ st
theorem MK{P:Program}{N:Nat}{c:Code}{Q:Exit→AF→aA→Prop}{φ:AF}{st:aA}{α:Type}(inv:α→Prop)(fr:α→AF)(so:α→aA)(μ:α→Nat)
 (h0:∃s,inv s∧fA φ st (fr s) (so s))
 (h1:∀s,inv s→eG P N c (oA (fun φ' st'=>∃s',μ s'<μ s∧inv s'∧fA φ' st' (fr s') (so s')) Q) (fr s) (so s)):eG P N (.loop c) Q φ st:=by
 have key:∀n s,μ s=n→inv s→∀a w,Rel N a w (fr s) (so s)→∀b k cs,
  ∃e a' w',v7 N w (so s) Q e a' w'∧Arrives P (lone (b.at a (.code c:: .inLoop c::k)) cs w) b k cs e a' w':=by
  intro n
  induction n using Nat.strongRecOn with
  | _ n ih=>
   intro s hn hI a w R b k cs
   obtain⟨e,a₁,w₁,hq,nA⟩:=h1 s hI a w R b (.inLoop c::k) cs
   obtain⟨φ',st',R',T,sm,q⟩:=hq
   cases e with
   | normal=>
    obtain⟨s',hlt,hI',L⟩:=q
    obtain⟨l1,l2,l3⟩:=L w₁.heap a₁.tmps R'.store R'.frame
    obtain⟨e₂,a₂,w₂,hq₂,aWS⟩:=ih (μ s') (hn▸hlt) s' rfl hI' a₁ w₁ ⟨R'.size,R'.defers,l3,l1⟩ b k cs
    exact⟨e₂,a₂,w₂,hq₂.mono (T.trans l2) sm,.of_steps (Steps.trans nA (.one step_inLoop)) aWS⟩
   | exit id=>exact⟨_,a₁,w₁,⟨φ',st',R',T,sm,q⟩,.pass (x:=.inLoop c) rfl (fun _ _=>.inl (by simp)) nA⟩
   | goto l=>exact⟨_,a₁,w₁,⟨φ',st',R',T,sm,q⟩,.pass (x:=.inLoop c) rfl (fun _ _=>.inl (by simp)) nA⟩
   | ret=>exact⟨_,a₁,w₁,⟨φ',st',R',T,sm,q⟩,.pass (x:=.inLoop c) rfl (fun _ _=>.inl (by simp)) nA⟩
   | panic ch=>exact⟨_,a₁,w₁,⟨φ',st',R',T,sm,q⟩,.pass (x:=.inLoop c) rfl (fun _ _=>.inl (by simp)) nA⟩
   | outgrown=>exact⟨_,a₁,w₁,⟨φ',st',R',T,sm,q⟩,.pass (x:=.inLoop c) rfl (fun _ _=>.inl (by simp)) nA⟩
 obtain⟨s,hI,L⟩:=h0
 refine eG.less L fun a w R b k cs=>?_
 obtain⟨e,a',w',hq,nA⟩:=key _ s rfl hI a w R b k cs
 exact⟨e,a',w',hq,.of_steps (.one step_loop) nA⟩
end Go.AW
