/- Calls, stores, new objects: what each operation comes to with the owned store; lists of operations; code. -/
import Derived.Test.YtieofkhcboolkaaGreatDoorKqa
import Derived.StillTail
set_option linter.unusedSimpArgs false
set_option linter.unusedVariables false
set_option maxRecDepth 100000
namespace Go.AW
theorem aX.jV{h h':aN}{st:aA}{b:Nat}{o:AO}(hb:st b≠none)(hs:h.size≤h'.size)(k:∀x,x<h.size→x≠b→h'[x]?=h[x]?)
 (sh:∀c t fr,h[b]?=some (.cells c t fr)→∃c',h'[b]?=some (.cells c' t fr)∧c'.size=c.size):aX h st h' (st.aC b o):=by
 refine⟨hs,fun x hx e=>?_,fun x c t fr e=>?_⟩
 · have hne:x≠b:=fun q=>hb (q▸e)
   exact⟨k x hx hne,by rw[aA.aV _ _ hne];exact e⟩
 · by_cases hne:x=b
   · subst hne;exact sh c t fr e
   · have hx:x<h.size:=by
      rcases iZ x h.size with h1 | h1
      · exact h1
      · simp [Array.getElem?_eq_none h1] at e
     exact⟨c,by rw[k x hx hne];exact e,rfl⟩
theorem bQ.jV{h h':aN}{st:aA}{b:Nat}{o:AO}(S:bQ h st)(T:aX h st h' (st.aC b o))(hb:b<h'.size)(k:∀x,x<h.size→x≠b→h'[x]?=h[x]?)(ho:iC h' (st.aC b o) b o) :
 bQ h' (st.aC b o):=by
 intro x p e
 by_cases hne:x=b
 · subst hne
   rw[aA.aP] at e;cases e
   exact⟨hb,ho⟩
 · rw[aA.aV _ _ hne] at e
   obtain⟨l,r⟩:=S x p e
   exact⟨m6 l T.size,iC.mono T (k x l hne) r⟩
theorem aX.sM(h:aN)(st:aA)(o:Obj)(p:AO):aX h st (h.push o) (st.aC h.size p):=by
 have E:=Ext.push h o
 refine⟨E.size,fun x hx e=>⟨E.cQ x hx,by rw[aA.aV _ _ (by omega)];exact e⟩,(E.step st).shape⟩
theorem bQ.fresh{h:aN}{st:aA}(S:bQ h st):st h.size=none:=by
 cases e:st h.size with
 | none=>rfl
 | some o=>exact absurd (S _ _ e).1 (Nat.lt_irrefl _)
theorem bQ.sM{h:aN}{st:aA}{o:Obj}{p:AO}(S:bQ h st)(ho:iC (h.push o) (st.aC h.size p) h.size p):bQ (h.push o) (st.aC h.size p):=
 S.jV (aX.sM h st o p) (by simp) (fun x hx _=>(Ext.push h o).cQ x hx) ho
def Enters(P:Program)(g:FuncId):Prop:=∃fn,P.funcs[g]?=some fn∧fn.body.isSome=true∧(fn.name == "runtime.NumGoroutine")=false
def cF(h:aN)(st:aA):List AV→List Value→Prop
 | [],vs=>vs= []
 | a::as,vs=>∃v r,vs=v::r∧aE h st a v∧cF h st as r
theorem cF.eval{h:aN}{st:aA}{a:Act}{φ:AF}(F:cM h st a.tmps φ):∀(l:List Operand),cF h st (l.map φ.eval) (l.map a.eval)
 | []=>by simp [cF]
 | o::l=>by simp only[bT,cF];exact⟨_,_,rfl,aE.eval F o,cF.eval F l⟩
theorem cF.RW{h:aN}{st:aA}:∀ {as:List AV} {vs:List Value},cL h st as vs→cF h st as vs
 | [],_,x=>by simpa [cL,cF] using x
 | a::as,vs,x=>by
  simp only[cL] at x
  obtain⟨v,r,rfl,x1,x2⟩:=x
  simp only[cF]
  exact⟨v,r,rfl,aE.RY x1,cF.RW x2⟩
theorem cF.append{h:aN}{st:aA}:∀ {as bs:List AV} {vs us:List Value},cF h st as vs→cF h st bs us→cF h st (as++bs) (vs++us)
 | [],_,vs,us,x,y=>by simp only[cF] at x;subst x;simpa using y
 | a::as,_,vs,us,x,y=>by
  simp only[cF] at x
  obtain⟨c,r,rfl,x1,x2⟩:=x
  simp only[dM,cF]
  exact⟨c,r++us,rfl,x1,cF.append x2 y⟩
def aD(P:Program)(g:FuncId)(args:List AV)(st:aA)(Q:AV→aA→Prop):Prop:=
 Enters P g∧∀(w:World) (vs:List Value),bQ w.heap st→cF w.heap st args vs →
  Calls P g vs.toArray w fun e w'=>∃v r st',e=.returned v∧aE w'.heap st' r v∧bQ w'.heap st'∧aX w.heap st w'.heap st'∧c9 w w'∧Q r st'
theorem aD.mono{P:Program}{g:FuncId}{args:List AV}{st:aA}{Q Q':AV→aA→Prop}(x:aD P g args st Q)(h:∀r st',Q r st'→Q' r st'):aD P g args st Q':=
 ⟨x.1,fun w vs S V=>(x.2 w vs S V).mono fun _ _ ⟨v,r,st',e,a,b,c,d,q⟩=>⟨v,r,st',e,a,b,c,d,h r st' q⟩⟩
def gY(st:aA)(w:World)(K:AV→aA→Prop)(v:Value)(w':World):Prop:=
 ∃r st',aE w'.heap st' r v∧bQ w'.heap st'∧aX w.heap st w'.heap st'∧c9 w w'∧K r st'
def AV.storable:AV→Bool
 | .int _ _ | .bool _ | .str _ | .slice _ | .fslice _ | .mslice _ _ _ _ | .nilptr | .ptr _ _ | .pptr _ | .nilmap | .map _ | .func _ _=>true
 | .raw v=>v.oneCell'
 | _=>false
theorem VC.qJ{h:aN}{st:aA}{a:AV}{v:Value}(x:VC h st a [v])(hs:a.storable=true):v.oneCell'=true:=by
 cases a<;>simp [AV.storable] at hs<;>simp only[VC] at x
 case int=>cases x;rfl
 case bool=>cases x;rfl
 case str=>obtain⟨x,_⟩:=x;cases x;rfl
 case slice=>rcases x with ⟨⟨_,x⟩,_⟩ | ⟨_,_,_,x,_⟩<;>cases x<;>rfl
 case fslice=>rcases x with ⟨⟨_,x⟩,_⟩ | ⟨_,_,x,_⟩<;>cases x<;>rfl
 case mslice=>obtain⟨_,x,_⟩:=x;cases x;rfl
 case nilptr=>cases x;rfl
 case ptr=>cases x;rfl
 case pptr=>obtain⟨_,_,x,_⟩:=x;cases x;rfl
 case nilmap=>cases x;rfl
 case map=>cases x;rfl
 case func=>obtain⟨_,x,_⟩:=x;cases x;rfl
 case raw=>obtain⟨x,_⟩:=x;cases x;exact hs
theorem aJ.qJ{h:aN}{st:aA}:∀ {as:List AV} {vs:List Value},aJ h st as vs→as.all AV.storable=true→∀v∈vs,v.oneCell'=true
 | [],vs,x,_,v,hv=>by simp only[aJ] at x;subst x;simp at hv
 | a::as,vs,x,hs,v,hv=>by
  simp only[aJ] at x
  obtain⟨c,r,rfl,x1,x2⟩:=x
  simp at hs
  rcases dS.1 hv with rfl | hv
  · exact x1.qJ hs.1
  · exact aJ.qJ x2 (by simpa using hs.2) v hv
def aF(cs:List AV)(o:Nat)(x:List AV):List AV:=cs.take o++x++cs.drop (o+x.length)
theorem pT{h:aN}{b:Nat}{c:Array Value}{t:TypeId}{fr:Nat×Nat}(e:h[b]?=some (.cells c t fr)):∀(n off:Nat),off+n≤c.size→cN h b off ((c.toList.drop off).take n)
 | 0,off,_=>by simp [cN]
 | n+1,off,hl=>by
  have hlt:off<c.toList.length:=by simp;omega
  rw[q7 hlt,m5]
  refine⟨?_,pT e n (off+1) (by omega)⟩
  simp only[cellAt,e]
  simp at hlt
  simp [hlt]
theorem rX{h:aN}{b:Nat}{c:Array Value}{t:TypeId}{fr:Nat×Nat}(e:h[b]?=some (.cells c t fr)):∀ {vs:List Value} {off:Nat},cN h b off vs→(c.toList.drop off).take vs.length=vs
 | [],_,_=>by simp
 | v::vs,off,x=>by
  have h1:=x.1
  simp only[cellAt,e] at h1
  obtain⟨hlt,hv⟩:=qZ.1 h1
  have b9:off<c.toList.length:=by simpa using hlt
  rw[q7 b9,bD,m5,rX e x.2]
  simp [hv]
theorem S2{α:Type}(C V:List α)(o n:Nat)(h:o+V.length≤n)(hn:n≤C.length) :
 (C.take o++V++C.drop (o+V.length)).take n=(C.take n).take o++V++(C.take n).drop (o+V.length):=by
 have hA:(C.take o++V).length=o+V.length:=by simp;omega
 rw[List.take_append,hA,kH (by omega),wL,l5 (by omega),List.drop_take]
theorem aE8{P:Program}{st:aA}{w:World}{b o sz:Nat}{t:TypeId}{ag:Bool}{cs:List AV}{x:AV}{v:Value}(S:bQ w.heap st)(hT:tI P t=some (ag,sz))(hs:st b=some (.cells cs))(hx:aE w.heap st x v)
 (hw:x.cells.length=sz) (eK:o+sz≤cs.length) (hst:x.cells.all AV.storable=true) :
 ∃w',(Instr.storeAt t (.pointer (some ⟨b,o,none⟩)) v).run P w=.ok () w'∧bQ w'.heap (st.aC b (.cells (aF cs o x.cells)))∧aX w.heap st w'.heap (st.aC b (.cells (aF cs o x.cells)))∧c9 w w':=by
 obtain⟨hlt,c,ty,hb,hl,vs,x1,x2⟩:=S b _ hs
 have hj:x≠.junk:=by rintro rfl;simp [AV.cells,AV.storable] at hst
 have hc:=hx.cells hj
 have hlen:v.cells.toList.length=sz:=by rw[hc.length,hw]
 have cO:v.cells.size=sz:=by simpa using hlen
 obtain⟨_,r2,_⟩:=tI_run hT w
 have hvl:=x2.length
 have j9:=run_storeCells_at P b o ty v.cells.toList 0 c w hb (by omega) (hc.qJ hst)
 simp only[tM,hlen] at j9
 refine⟨_,by simp only[Instr.storeAt,Instr.sureAddr,Sem.run_bind,Sem.run_pure,Result.andThen_ok,storeVar,r2,cO,ne_eq,not_true_eq_false,cP];exact j9,?_⟩
 generalize hc':(c.toList.take o++v.cells.toList++c.toList.drop (o+sz)).toArray=c' at *
 have hsz:c'.size=c.size:=by rw[←hc'];simp [cO];omega
 have d4:(w.setRow b c').heap[b]?=some (.cells c' ty (0,0)):=setRow_heap w b c c' ty (0,0) hb
 have iF:∀y,y<w.heap.size→y≠b→(w.setRow b c').heap[y]?=w.heap[y]?:=fun y _ hne=>setRow_other w b y c' hne
 have T:aX w.heap st (w.setRow b c').heap (st.aC b (.cells (aF cs o x.cells))):=by
  refine aX.jV (by rw[hs];simp) (by simp) iF fun c1 t1 fr1 e1=>?_
  rw[hb] at e1;cases e1
  exact⟨c',d4,hsz⟩
 have nX:(aF cs o x.cells).length=cs.length:=by simp [aF,hw];omega
 refine⟨S.jV T (by simpa using hlt) iF ⟨c',ty,d4,by rw[nX,hsz];exact hl,(c'.toList.drop 0).take cs.length,pT d4 _ 0 (by rw[hsz];omega),?_⟩,T,⟨rfl,rfl,rfl⟩⟩
 refine aJ.mono T _ _ ?_
 have jR:=rX hb x1
 simp only[lZ] at jR ⊢
 have e1:c'.toList.take cs.length=vs.take o++v.cells.toList++vs.drop (o+sz):=by
  rw[←hc',←jR,hvl]
  have:=S2 c.toList v.cells.toList o cs.length (by rw[hlen];exact eK) (by simpa using hl)
  rw[hlen] at this
  exact this
 rw[e1,aF,hw]
 exact((x2.take o).append hc).append (x2.drop (o+sz))
theorem cN.append{h:aN}{b:Nat}:∀ {vs us:List Value} {off:Nat},cN h b off vs→cN h b (off+vs.length) us→cN h b off (vs++us)
 | [],us,off,_,y=>by simpa using y
 | v::vs,us,off,x,y=>⟨x.1,cN.append x.2 (by rw[show off+1+vs.length=off+(v::vs).length by simp;omega];exact y)⟩
theorem VC.cellsOf{h:aN}{st:aA}{a:AV}{vs:List Value}(x:VC h st a vs):aJ h st a.cells vs:=by
 by_cases ha:a.isAgg=true
 · cases a<;>simp [AV.isAgg] at ha
   simpa [AV.cells,VC] using x
 · have ha':a.isAgg=false:=by simpa using ha
   obtain⟨c,rfl⟩:=x.one ha'
   have h3:a.cells= [a]:=by cases a<;>first | rfl | (simp [AV.isAgg] at ha')
   rw[h3]
   simp only[aJ]
   exact⟨c,[],rfl,x,rfl⟩
theorem bY.flat{h:aN}{st:aA}{b:Nat}:∀ {es:List AV} {off:Nat},bY h st b off es→∃vs,cN h b off vs∧aJ h st (es.flatMap AV.cells) vs
 | [],off,_=>⟨[],trivial,by simp [aJ]⟩
 | e::es,off,x=>by
  simp only[bY] at x
  obtain⟨⟨cs,c1,c2,c3⟩,x2⟩:=x
  obtain⟨vs,v1,v2⟩:=bY.flat x2
  exact⟨cs++vs,c1.append (by rw[c2];exact v1),by simpa using c3.cellsOf.append v2⟩
theorem uJ(a:AV):a.cells.length=a.width:=by cases a<;>rfl
theorem mJ{n:Nat}:∀ {es:List AV},(∀e∈es,e.width=n)→(es.flatMap AV.cells).length=es.length*n
 | [],_=>by simp
 | e::es,h=>by
  have:=mJ (es:=es) (n:=n) (fun x hx=>h x (by simp [hx]))
  simp [uJ,h e (by simp),this,m7]
  omega
def wT:AV→Option (List AV)
 | .slice es | .fslice es=>some es
 | _=>none
def eB(P:Program)(t:TypeId):Option Nat:=
 match P.underlying t with
 | some (.slice e)=>(P.info? e).map (·.bytes)
 | _=>none
def uC(sz:Nat)(xs:List AV):Prop:=∀e∈xs,e.width=sz∧e.cells.all AV.storable=true
def iL(P:Program)(t:TypeId)(st:aA)(s x:AV)(K:AV→aA→Prop):Prop:=
 match eI P t,eB P t,eZ P t,wT x with
 | some (_,sz),some bytes,some zs,some xs=>zs.length=sz∧uC sz xs ∧
  match s with
  | .fslice es=>(es.length+xs.length)*bytes≤140737488355328∧es.length+xs.length≤9223372036854775807∧(∀e∈es,e.width=sz) ∧
   (xs= []→K (.fslice es) st)∧(xs≠[]→∀b,st b=none→K (.mslice b 0 (es.length+xs.length) sz) (st.aC b (.cells ((es++xs).flatMap AV.cells))))
  | .mslice b 0 len n=>n=sz∧(len+xs.length)*bytes≤140737488355328∧len+xs.length≤9223372036854775807 ∧
   (match st b with
    | some (.cells cs)=>len*sz≤cs.length∧K (.mslice b 0 (len+xs.length) sz) (st.aC b (.cells (cs.take (len*sz)++xs.flatMap AV.cells))) ∧
     ∀b',st b'=none→K (.mslice b' 0 (len+xs.length) sz) ((st.erase b).aC b' (.cells (cs.take (len*sz)++xs.flatMap AV.cells)))
    | _=>False)
  | _=>False
 | _,_,_,_=>False
theorem aER{P:Program}(w:World)(t ty e t':TypeId)(i:TypeInfo)(ht:P.underlying t=some (.slice e))(hi:P.info? e=some i)
 (g dR hC:Nat) (cur:Array Value) (hg:w.heap[g]?=some (.cells cur t' (0,0)))
 (a:Addr) (m c:Nat) (news:List Value) (hl:news.length=m*i.size) (aCD:∀j u,news[j]?=some u→w.cell? (a.add j)=some u) (h1:∀u∈news,u.oneCell'=true)
 (j8:dR+m≤hC) (eK:dR*i.size+news.length≤cur.size) :
 (Builtin.append_ #[t,t] ty #[.slice (some ⟨g,0,none⟩) dR hC,.slice (some a) m c]).run P w =
  .ok (.slice (some ⟨g,0,none⟩) (dR+m) hC) (w.setRow g (cur.toList.take (dR*i.size)++news++cur.toList.drop (dR*i.size+news.length)).toArray):=by
 have hf:=run_firstCells_some (P:=P) w i.size m a m c news hl aCD
 have hst:=run_storeCells_at P g (dR*i.size) t' news 0 cur w hg (by simpa using eK) h1
 simp only[tM] at hst
 simp [Builtin.append_,run_underlying ht,sizeOf,typeInfo,hi,Builtin.lenOf,j8,hf,Addr.add_lit,hst]
theorem SK{P:Program}(w:World)(t ty e:TypeId)(i:TypeInfo)(ht:P.underlying t=some (.slice e))(hi:P.info? e=some i)(base xb:Option Addr)(n cap xc:Nat)(h:n≤cap) :
 (Builtin.append_ #[t,t] ty #[.slice base n cap,.slice xb 0 xc]).run P w=.ok (.slice base n cap) w:=by
 cases base<;>cases xb<;>simp [Builtin.append_,run_underlying ht,sizeOf,typeInfo,hi,Builtin.lenOf,h,Builtin.firstCells,loadCells,loadCellsFrom,storeCells]
section
variable {P:Program} {st:aA} {w:World}
theorem rR{o:Oper}{a:Act}{t:TypeId}{s x:Operand}{w w':World}{v:Value}(ho:o.op=.call { callee:=.builtin .append,args:=#[s,x],argTypes:=#[t,t] })
 (h:(Builtin.append_ #[t,t] o.type #[a.eval s,a.eval x]).run P w=.ok v w'):(execOp a.eval o).run P w=.ok (.value v) w':=by
 simp only[execOp,ho,resolve,Sem.run_bind,Sem.run_pure,Result.andThen_ok,invoke,builtin]
 simp [h]
theorem rQ{sz need cap:Nat}{e:TypeId}{z:Value}{zs:List AV}{as:List AV}{vs:List Value}(S:bQ w.heap st)(hz:aJ w.heap st zs z.cells.toList)(hzl:zs.length=sz)
 (hv:aJ w.heap st as vs) (hl:as.length=need*sz) (sC:need≤cap) (hm:cap≤maxLen) (st0:aA) (Q9:∀b o,st0 b=some o→st b=some o) :
 aE (w.drew.alloc (.cells (vs.toArray++Builtin.zeroCells z.cells (cap - need)) e)).heap (st0.aC w.heap.size (.cells as)) (.mslice w.heap.size 0 need sz) (.slice (some ⟨w.heap.size,0,none⟩) need cap) ∧
 bQ (w.drew.alloc (.cells (vs.toArray++Builtin.zeroCells z.cells (cap - need)) e)).heap (st0.aC w.heap.size (.cells as)) ∧
 aX w.heap st (w.drew.alloc (.cells (vs.toArray++Builtin.zeroCells z.cells (cap - need)) e)).heap (st0.aC w.heap.size (.cells as)):=by
 generalize hc:vs.toArray++Builtin.zeroCells z.cells (cap - need)=c
 have hzz:z.cells.size=sz:=by have:=hz.length;simp at this;omega
 have hcs:c.size=cap*sz:=by
  rw[←hc]
  simp only[Array.size_append,List.size_toArray,size_zeroCells,hzz,hv.length,hl,←rB]
  congr 1
  omega
 show aE (w.heap.push (.cells c e)) _ _ _∧bQ (w.heap.push (.cells c e)) _∧aX w.heap st (w.heap.push (.cells c e)) _
 have E:=Ext.push w.heap (.cells c e)
 have d4:(w.heap.push (.cells c e))[w.heap.size]?=some (.cells c e (0,0)):=by simp
 have RQ:∀b,st b=none→st0 b=none:=fun b h=>by
  cases h0:st0 b with
  | none=>rfl
  | some o=>rw[Q9 b o h0] at h;cases h
 have T:aX w.heap st (w.heap.push (.cells c e)) (st0.aC w.heap.size (.cells as)):=
  ⟨E.size,fun b hb h=>⟨E.cQ b hb,by rw[aA.aV _ _ (by omega)];exact RQ b h⟩,(E.step st).shape⟩
 refine⟨⟨rfl,cap,rfl,sC,hm,c,e,d4,by rw[hcs];omega⟩,fun b o hb=>?_,T⟩
 by_cases hne:b=w.heap.size
 · subst hne
   rw[aA.aP] at hb;cases hb
   refine⟨by simp,c,e,d4,by rw[hl,hcs];exact lA _ sC,vs,?_,aJ.mono T _ _ hv⟩
   have hvl:vs=(c.toList.drop 0).take vs.length:=by rw[←hc];simp
   rw[hvl]
   exact pT d4 _ 0 (by rw[←hc];simp)
 · rw[aA.aV _ _ hne] at hb
   obtain⟨l,r⟩:=S b o (Q9 b o hb)
   exact⟨by simp;omega,iC.mono T (E.cQ b l) r⟩
theorem VT{o:Oper}{a:Act}{φ:AF}{t:TypeId}{s x:Operand}{K:AV→aA→Prop}(ho:o.op=.call { callee:=.builtin .append,args:=#[s,x],argTypes:=#[t,t] })(F:cM w.heap st a.tmps φ)(S:bQ w.heap st)
 (e:iL P t st (φ.eval s) (φ.eval x) K):∃v w',(execOp a.eval o).run P w=.ok (.value v) w'∧gY st w K v w':=by
 unfold iL at e
 split at e
 case h_2=>cases e
 rename_i ag sz bytes zs xs hI hB hZ hX
 obtain⟨hzl,eK,e⟩:=e
 obtain⟨el,hu,hT⟩:=kM hI
 obtain⟨_,_,d,i,_,hi,lL,_⟩:=tI_run hT w
 have hby:i.bytes=bytes:=by simp only[eB,hu,hi,l6,Option.some.injEq] at hB;exact hB
 obtain⟨z,hz0,hzv⟩:∃z,i.zero=some z∧aJ w.heap st zs z.cells.toList:=by
  simp only[eZ,hu] at hZ
  simp only[zI,hi] at hZ
  cases hz:i.zero with
  | none=>simp [hz] at hZ
  | some z=>simp only[hz,Option.some.injEq] at hZ;subst hZ;exact⟨z,rfl,aJ.consts _ _ _⟩
 -- the second operand
 have hx:aE w.heap st (.slice xs) (a.eval x):=by
  have y:=aE.eval F x
  unfold wT at hX
  split at hX
  · rename_i es hx;cases hX;rw[hx] at y;exact y
  · rename_i es hx;cases hX;rw[hx] at y;exact y.xT
  · cases hX
 have hxs:∃xb xc news,a.eval x=.slice xb xs.length xc∧aJ w.heap st (xs.flatMap AV.cells) news∧(∀u∈news,u.oneCell'=true)∧news.length=xs.length*i.size ∧
  (xs≠[]→∃xa,xb=some xa∧∀j u,news[j]?=some u→w.cell? (xa.add j)=some u):=by
  have hlen:=mJ (es:=xs) (n:=sz) (fun e he=>(eK e he).1)
  rcases hx.sY with ⟨⟨p0,hv⟩,rfl⟩ | ⟨b,off,cap,hv,l1,l2,e2,e3,ev,e4⟩
  · exact⟨p0,0,[],by simpa using hv,by simp [aJ],by simp,by simp,by simp⟩
  · obtain⟨vs,v1,v2⟩:=e4.flat
    refine⟨_,cap,vs,hv,v2,v2.qJ ?_,by rw[v2.length,hlen,lL],fun _=>⟨_,rfl,fun j u hj=>by rw[Addr.iN,rW];exact v1.get j hj⟩⟩
    simp only[List.all_flatMap,dY]
    intro e he
    simpa using (eK e he).2
 obtain⟨xb,xc,news,hxv,hnv,hn1,hnl,hnc⟩:=hxs
 have hs:=aE.eval F s
 split at e
 · rename_i es hes
   rw[hes] at hs
   obtain⟨hb1,hb2,hw,B8,uT⟩:=e
   by_cases hx0:xs= []
   · subst hx0
     obtain⟨base,hv⟩:∃base,a.eval s=.slice base es.length es.length:=by
      rcases hs.pW with ⟨⟨p0,hv⟩,rfl⟩ | ⟨b,off,hv,_⟩
      · exact⟨p0,hv⟩
      · exact⟨_,hv⟩
     refine⟨a.eval s,w,rR ho ?_,.fslice es,st,hs,S,aX.refl _ _,c9.refl _,B8 rfl⟩
     rw[hv,hxv]
     exact SK w t o.type el i hu hi base xb es.length es.length xc (dJ _)
   · obtain⟨xa,rfl,lK⟩:=hnc hx0
     have hlx:0<xs.length:=by cases xs<;>simp at hx0 ⊢
     rcases hs.pW with ⟨⟨p0,hv⟩,rfl⟩ | ⟨b,off,hv,l1,e2,e3,ev,e4⟩
     · cases p0 with
       | none=>
        have hr:=run_append_nil (P:=P) w t o.type el i z hu hi hz0 xa xs.length xc news hnl lK hlx (by simp at hb2;omega) (by rw[hby];simp at hb1;omega)
        have hN:=rQ (w:=w) (st:=st) (e:=el) (need:=xs.length) (cap:=grownCap w xs.length 0 el) S hzv hzl hnv (by rw[mJ (fun e he=>(eK e he).1)]) (grownCap_ge ..) (grownCap_le_maxLen _ _ _ _ (by unfold maxLen;simp at hb2;omega)) st (fun _ _ h=>h)
        refine⟨_,_,rR ho (by rw[hv,hxv];exact hr),.mslice w.heap.size 0 xs.length sz,_,hN.1,hN.2.1,hN.2.2,⟨rfl,rfl,rfl⟩,?_⟩
        have:=uT hx0 w.heap.size S.fresh
        simpa using this
       | some a0=>
        have hr:=run_append_grow (P:=P) w t o.type el i z hu hi hz0 a0 0 0 [] (by simp) (by simp) xa xs.length xc news hnl lK (by omega) (by omega)
         (growslice_fits (by omega) (by rw[hby];simpa using hb1))
        have hN:=rQ (w:=w) (st:=st) (e:=el) (need:=xs.length) (cap:=grownCap w (0+xs.length) 0 el) S hzv hzl hnv (by rw[mJ (fun e he=>(eK e he).1)]) (by have:=grownCap_ge w (0+xs.length) 0 el;omega) (grownCap_le_maxLen _ _ _ _ (by unfold maxLen;simp at hb2;omega)) st (fun _ _ h=>h)
        have hvn:(([]:List Value).toArray++news.toArray)=news.toArray:=by simp
        rw[hvn,eX] at hr
        rw[eX] at hN
        refine⟨_,_,rR ho (by rw[hv,hxv];exact hr),.mslice w.heap.size 0 xs.length sz,_,hN.1,hN.2.1,hN.2.2,⟨rfl,rfl,rfl⟩,?_⟩
        have:=uT hx0 w.heap.size S.fresh
        simpa using this
     · obtain⟨vs,v1,v2⟩:=e4.flat
       have hlv:vs.length=es.length*i.size:=by rw[v2.length,mJ hw,lL]
       have hr:=run_append_grow (P:=P) w t o.type el i z hu hi hz0 ⟨b,off,none⟩ es.length es.length vs hlv (fun j u hj=>by rw[Addr.iN,rW];exact v1.get j hj) xa xs.length xc news hnl lK (by omega) (by omega)
        (growslice_fits (by omega) (by rw[hby];exact hb1))
       have hN:=rQ (w:=w) (st:=st) (e:=el) (need:=es.length+xs.length) (cap:=grownCap w (es.length+xs.length) es.length el) S hzv hzl (v2.append hnv)
        (by rw[dI,mJ hw,mJ (fun e he=>(eK e he).1),rB]) (grownCap_ge ..) (grownCap_le_maxLen _ _ _ _ (by unfold maxLen;omega)) st (fun _ _ h=>h)
       have hvn:vs.toArray++news.toArray=(vs++news).toArray:=by simp
       rw[hvn] at hr
       refine⟨_,_,rR ho (by rw[hv,hxv];exact hr),.mslice w.heap.size 0 (es.length+xs.length) sz,_,hN.1,hN.2.1,hN.2.2,⟨rfl,rfl,rfl⟩,?_⟩
       have:=uT hx0 w.heap.size S.fresh
       rwa [wG] at this
 · rename_i b len n hes
   rw[hes] at hs
   obtain⟨rfl,hb1,hb2,e⟩:=e
   split at e
   case h_2=>cases e
   rename_i cs hcs
   obtain⟨hlen,hin,CA⟩:=e
   obtain⟨cap,hv,l1,l2,c,t',d4,l3⟩:=hs.qF
   obtain⟨hlt,c',ty,hb',hl,vs,x1,x2⟩:=S b _ hcs
   rw[d4] at hb';cases hb'
   have hvl:=x2.length
   by_cases j8:len+xs.length≤cap
   · -- in place
     have uU:len*n+news.length≤c.size:=by
      rw[hnl,lL,←rB]
      have:=lA n j8
      omega
     have j9:∃c2:Array Value,(Builtin.append_ #[t,t] o.type #[a.eval s,a.eval x]).run P w=.ok (.slice (some ⟨b,0,none⟩) (len+xs.length) cap) (w.setRow b c2)∧c2.size=c.size∧c2.toList.take (len*n+news.length)=vs.take (len*n)++news:=by
      by_cases hx0:xs= []
      · subst hx0
        refine⟨c,?_,rfl,?_⟩
        · rw[hv,hxv,setRow_self w b c t' (0,0) d4]
          exact SK w t o.type el i hu hi _ xb len cap xc l1
        · have:news= []:=mY (by simpa using hnl)
          subst this
          have jR:=rX d4 x1
          simp only[lZ] at jR
          rw[←jR,wL,l5 (by omega)]
          simp
      · obtain⟨xa,rfl,lK⟩:=hnc hx0
        have hr:=aER (P:=P) w t o.type el t' i hu hi b len cap c d4 xa xs.length xc news hnl lK hn1 j8 (by rw[lL];exact uU)
        rw[lL] at hr
        refine⟨_,by rw[hv,hxv];exact hr,by simp;omega,?_⟩
        have jR:=rX d4 x1
        simp only[lZ] at jR
        rw[←jR,wL,l5 (by omega)]
        have hA:(c.toList.take (len*n)++news).length=len*n+news.length:=by simp;omega
        show List.take _ (_++_++_)=_
        rw[DZ (by rw[hA];omega),kH (by rw[hA];omega)]
     obtain⟨c2,hr,nY,htk⟩:=j9
     have nV:(w.setRow b c2).heap[b]?=some (.cells c2 t' (0,0)):=setRow_heap w b c c2 t' (0,0) d4
     have iF:∀y,y<w.heap.size→y≠b→(w.setRow b c2).heap[y]?=w.heap[y]?:=fun y _ hne=>setRow_other w b y c2 hne
     have T:aX w.heap st (w.setRow b c2).heap (st.aC b (.cells (cs.take (len*n)++xs.flatMap AV.cells))):=by
      refine aX.jV (by rw[hcs];simp) (by simp) iF fun c1 t1 fr1 e1=>?_
      rw[d4] at e1;cases e1
      exact⟨c2,nV,nY⟩
     have hal:(cs.take (len*n)++xs.flatMap AV.cells).length=len*n+news.length:=by
      rw[dI,dZ,←hnv.length,l5 hlen]
     refine⟨_,_,rR ho hr,.mslice b 0 (len+xs.length) n,_,⟨rfl,cap,rfl,j8,l2,c2,t',nV,by rw[nY];exact l3⟩,S.jV T (by simpa using hlt) iF ⟨c2,t',nV,by rw[hal,nY];exact uU,(c2.toList.drop 0).take (len*n+news.length),pT nV _ 0 (by rw[nY];omega),?_⟩,T,⟨rfl,rfl,rfl⟩,hin⟩
     rw[lZ,htk]
     exact aJ.mono T _ _ ((x2.take (len*n)).append hnv)
   · -- a new row
     have hx0:xs≠[]:=by rintro rfl;simp at j8;omega
     obtain⟨xa,rfl,lK⟩:=hnc hx0
     have hlv:(vs.take (len*n)).length=len*i.size:=by rw[lL,dZ,hvl,l5 hlen]
     have hr:=run_append_grow (P:=P) w t o.type el i z hu hi hz0 ⟨b,0,none⟩ len cap (vs.take (len*n)) hlv (fun j u hj=>by
      rw[Addr.iN,rW];exact(x1.take (len*n)).get j hj) xa xs.length xc news hnl lK (by omega) (by omega)
      (growslice_fits (by omega) (by rw[hby];exact hb1))
     have hN:=rQ (w:=w) (st:=st) (e:=el) (need:=len+xs.length) (cap:=grownCap w (len+xs.length) cap el) S hzv hzl ((x2.take (len*n)).append hnv)
      (by rw[dI,dZ,l5 hlen,mJ (fun e he=>(eK e he).1),rB]) (grownCap_ge ..) (grownCap_le_maxLen _ _ _ _ (by unfold maxLen;omega)) (st.erase b)
      (fun y o h=>by unfold aA.erase at h;split at h;cases h;exact h)
     have hvn:(vs.take (len*n)).toArray++news.toArray=(vs.take (len*n)++news).toArray:=by simp
     rw[hvn] at hr
     exact⟨_,_,rR ho (by rw[hv,hxv];exact hr),.mslice w.heap.size 0 (len+xs.length) n,_,hN.1,hN.2.1,hN.2.2,⟨rfl,rfl,rfl⟩,CA w.heap.size S.fresh⟩
 · cases e
end
section
variable {P:Program} {st:aA} {w:World}
theorem AU{o:Obj}{p:AO}{r:AV}{v:Value}{K:AV→aA→Prop}(S:bQ w.heap st)(hr:aE (w.heap.push o) (st.aC w.heap.size p) r v)(ho:iC (w.heap.push o) (st.aC w.heap.size p) w.heap.size p)
 (hK:K r (st.aC w.heap.size p)):gY st w K v (w.alloc o):=
 ⟨r,_,hr,S.sM ho,aX.sM _ _ _ _,⟨rfl,rfl,rfl⟩,hK⟩
theorem RP{t:TypeId}{as:List AV}{v:Value}{K:AV→aA→Prop}(S:bQ w.heap st)(hv:aJ w.heap st as v.cells.toList)(hK:∀b,st b=none→K (.ptr b 0) (st.aC b (.cells as))) :
 gY st w K (.pointer (some ⟨w.heap.size,0,none⟩)) (w.alloc (.cells v.cells t)):=by
 refine AU S (p:=.cells as) (r:=.ptr w.heap.size 0) ⟨rfl,rfl⟩ ?_ (hK _ S.fresh)
 have hl:=hv.length
 refine⟨v.cells,t,by simp,by rw[←hl];simp,v.cells.toList,uI w.heap _ t (0,0) _ 0 rfl,aJ.mono (aX.sM w.heap st _ _) _ _ hv⟩
theorem aDK{t:TypeId}{a:Act}{o:Oper}{K:AV→aA→Prop}(ho:o.op=.makeMap t none)(S:bQ w.heap st)(hK:∀b,st b=none→K (.map b) (st.aC b (.map fun _=>none))) :
 ∃v w',(execOp a.eval o).run P w=.ok (.value v) w'∧gY st w K v w':=by
 refine⟨.map (some w.heap.size),w.alloc (.map #[] 0),by simp [execOp,ho,Instr.makeMap],AU S (p:=.map fun _=>none) (r:=.map w.heap.size) ⟨rfl,rfl⟩ ?_ (hK _ S.fresh)⟩
 exact⟨#[],0,by simp,by simp,by simp,by simp⟩
def fT(zs:List AV)(n:Nat):List AV:=(List.range (n*zs.length)).map fun i=>zs.getD (i % zs.length) .junk
theorem aJ.RX{h:aN}{st:aA}:∀ {as:List AV} {vs:List Value},as.length=vs.length→(∀(i:Nat) a v,as[i]?=some a→vs[i]?=some v→VC h st a [v])→aJ h st as vs
 | [],[],_,_=>by simp [aJ]
 | a::as,v::vs,hl,h=>by
  simp only[aJ]
  exact⟨v,vs,rfl,h 0 a v rfl rfl,aJ.RX (by simpa using hl) fun i a' v' e1 e2=>h (i+1) a' v' (by simpa using e1) (by simpa using e2)⟩
 | [],_::_,hl,_=>by simp at hl
 | _::_,[],hl,_=>by simp at hl
theorem aJ.made{h:aN}{st:aA}{zs:List AV}{z:Array Value}(x:aJ h st zs z.toList)(n:Nat):aJ h st (fT zs n) (((Array.range (n*z.size)).map (fun i=>z[i % z.size]!)).toList):=by
 have hl:=x.length
 have hl':z.size=zs.length:=by simpa using hl
 refine aJ.RX (by simp [fT,hl']) fun i a v e1 e2=>?_
 obtain⟨hi,e1'⟩:=fY.1 e1
 obtain⟨hi2,e2'⟩:=fY.1 e2
 simp [fT] at hi e1' e2'
 have oU:0<zs.length:=by rcases AD zs.length with h0 | h0;(rw[h0] at hi;simp at hi);exact h0
 have Q3:i % zs.length<zs.length:=Nat.mod_lt _ oU
 rw[hl'] at e2'
 obtain⟨v',hv',hvc⟩:=x.get (i % zs.length) (a:=zs[i % zs.length]) (by simp [Q3])
 have ea:a=zs[i % zs.length]:=by rw[←e1'];simp [Q3]
 have hz:i % zs.length<z.size:=by omega
 have ev:v=v':=by
  rw[←e2',getElem!_pos z _ hz]
  simp [hz] at hv'
  exact hv'
 rw[ea,ev];exact hvc
def tW(P:Program)(t:TypeId)(st:aA)(n c:AV)(K:AV→aA→Prop):Prop:=
 match n,c,eI P t,eB P t,eZ P t with
 | .int .i64 n,.int .i64 m,some (_,sz),some bytes,some zs=>n=m∧0≤n∧n≤9223372036854775807∧n*bytes≤281474976710656∧zs.length=sz∧sz≠0 ∧
  ∀b,st b=none→K (.mslice b 0 n.toNat sz) (st.aC b (.cells (fT zs n.toNat)))
 | _,_,_,_,_=>False
theorem aDL{t:TypeId}{a:Act}{φ:AF}{o:Oper}{x y:Operand}{K:AV→aA→Prop}(ho:o.op=.makeSlice t x y)(F:cM w.heap st a.tmps φ)(S:bQ w.heap st)(e:tW P t st (φ.eval x) (φ.eval y) K) :
 ∃v w',(execOp a.eval o).run P w=.ok (.value v) w'∧gY st w K v w':=by
 have hx:=aE.eval F x
 have hy:=aE.eval F y
 unfold tW at e
 split at e
 case h_2=>cases e
 rename_i n m ag sz bytes zs ex ey hI hB hZ
 obtain⟨rfl,h0,hmx,hby,hzl,hsz,hK⟩:=e
 rw[ex] at hx
 rw[ey] at hy
 obtain⟨el,hu,hT⟩:=kM hI
 obtain⟨_,r2,d,i,_,hi,lL,_⟩:=tI_run hT w
 have hbi:i.bytes=bytes:=by simp only[eB,hu,hi,l6,Option.some.injEq] at hB;exact hB
 have hzs:zI P el=some zs:=by simpa [eZ,hu] using hZ
 obtain⟨z,z1,z2⟩:=zI_run hzs w.heap st w
 have hzc:z.cells.size=sz:=by have:=z2.length;simp at this;omega
 have aCR:IntKind.i64.wrap n=n:=IntWalk.i64_in n (by omega)
 have p7:(decide (n<0)||decide ((bytes:Int)*n>2 ^ 48))=false:=by
  have h1:¬n<0:=by omega
  have h2:¬((bytes:Int)*n>2 ^ 48):=by rw[Int.mul_comm];omega
  simp only[h1,h2,bB,Bool.or_self]
 obtain⟨k,rfl⟩:=q5 h0
 have hc':=aJ.made z2 k
 generalize hcc:(Array.range (k*z.cells.size)).map (fun i=>z.cells[i % z.cells.size]!)=c at hc'
 have hcs:c.size=k*sz:=by rw[←hcc];simp [hzc]
 have run:(execOp a.eval o).run P w=.ok (.value (.slice (some ⟨w.heap.size,0,none⟩) k k)) (w.alloc (.cells c el)):=by
  simp only[execOp,ho,Instr.makeSlice,Sem.run_bind,cK hu,Result.andThen_ok,hx.eT,hy.eT,asInt,asIntOf,Sem.run_pure,typeInfo,run_program,hi,aCR,hbi,p7,k7]
  have h1:(decide ((k:Int)<0)||decide ((k:Int)>(k:Int)))=false:=by simp
  rw[aS (by rw[h1];simp)]
  simp only[Sem.run_bind,run_askRoom,Result.andThen_ok,jZ,r2]
  by_cases hk:k*sz=0
  · have hk0:k=0:=by rcases Nat.mul_eq_zero.1 hk with h | h;exact h;exact absurd h hsz
    subst hk0
    rw[aU hk]
    have:c= #[]:=by apply z6;omega
    subst this
    simp [newRow,Array.range]
    congr 2
    exact z6 (by simp)
  · rw[aS hk]
    simp only[Sem.run_bind,z1,Result.andThen_ok,Sem.run_pure]
    rw[show(Array.range (k*sz)).map (fun i=>z.cells[i % z.cells.size]!)=c by rw[←hcc,hzc]]
    simp [newRow]
 refine⟨_,_,run,AU S (p:=.cells (fT zs k)) (r:=.mslice w.heap.size 0 k sz) ⟨rfl,k,rfl,dJ _,by unfold maxLen;omega,c,el,by simp,by rw[hcs];omega⟩
  ⟨c,el,by simp,by simp [fT,hcs,hzl],c.toList,uI w.heap _ el (0,0) _ 0 rfl,aJ.mono (aX.sM w.heap st _ _) _ _ hc'⟩ (by simpa using hK _ S.fresh)⟩
def mM(f:Int→Option AV)(n:Int)(x:Option AV):Int→Option AV:=fun m=>if m=n then x else f m
def tX(P:Program)(t:TypeId)(st:aA)(m k v:AV)(K:AV→aA→Prop):Prop:=
 match m,k,P.underlying t with
 | .map b,.int .i64 n,some (.map kt _)=>match st b,P.underlying kt with
  | some (.map f),some (.int .i64)=>v.bP=false∧K .undef (st.aC b (.map (mM f n (some v))))
  | _,_=>False
 | _,_,_=>False
theorem yQ{b:Nat}{es es':Array MapEntry}{cl cl':Nat}(h:w.heap[b]?=some (.map es cl)):(setObj b (.map es' cl')).run P w=.ok () { w with heap:=w.heap.setIfInBounds b (.map es' cl') }:=by
 simp only[setObj,Sem.run,h]
theorem RJ{b:Nat}{es es':Array MapEntry}{cl cl':Nat}{f:Int→Option AV}{o:AO}{K:AV→aA→Prop}(S:bQ w.heap st)(hb:w.heap[b]?=some (.map es cl))(hs:st b=some (.map f))
 (ho:∀h' st',aX w.heap st h' st'→h'[b]?=some (.map es' cl')→iC h' st' b o) (hK:K .undef (st.aC b o)):gY st w K undef { w with heap:=w.heap.setIfInBounds b (.map es' cl') }:=by
 have hlt:b<w.heap.size:=(S b _ hs).1
 have d4:(w.heap.setIfInBounds b (.map es' cl'))[b]?=some (.map es' cl'):=by simp [hlt]
 have iF:∀y,y<w.heap.size→y≠b→(w.heap.setIfInBounds b (.map es' cl'))[y]?=w.heap[y]?:=fun y _ hne=>DV (cV hne)
 have T:aX w.heap st (w.heap.setIfInBounds b (.map es' cl')) (st.aC b o):=aX.jV (by rw[hs];simp) (by simp) iF fun c t fr e=>by rw[hb] at e;cases e
 exact⟨.undef,st.aC b o,⟨rfl,rfl⟩,S.jV T (by simpa using hlt) iF (ho _ _ T d4),T,⟨rfl,rfl,rfl⟩,hK⟩
theorem aDM{t:TypeId}{a:Act}{φ:AF}{o:Oper}{m k x:Operand}{K:AV→aA→Prop}(ho:o.op=.mapUpdate t m k x)(F:cM w.heap st a.tmps φ)(S:bQ w.heap st)(e:tX P t st (φ.eval m) (φ.eval k) (φ.eval x) K) :
 ∃w',(execOp a.eval o).run P w=.ok .skip w'∧gY st w K undef w':=by
 have hm:=aE.eval F m
 have hk:=aE.eval F k
 have hx:=aE.eval F x
 unfold tX at e
 split at e
 case h_2=>cases e
 rename_i b n kt el em ek hu
 split at e
 case h_2=>cases e
 rename_i f hs hkt
 obtain⟨hj,hK⟩:=e
 rw[em] at hm
 rw[ek] at hk
 obtain⟨_,es,cl,hb,hk1,hk2,hk3⟩:=S b _ hs
 rcases uO n es.toList 0 hk1 with ⟨j,e',h1,h2,h3⟩ | ⟨h1,h3⟩
 · -- there is such an entry
   have QZ:j<es.size:=by have:=(fY.1 h1).1;simpa using this
   have hej:es[j]?=some e':=by simpa using h1
   have run:(execOp a.eval o).run P w=.ok .skip { w with heap:=w.heap.setIfInBounds b (.map (es.modify j fun e=>{ e with key:=.int .i64 n,val:=a.eval x }) cl) }:=by
    simp only[execOp,ho,Instr.mapUpdate,Sem.run_bind,cK hu,Result.andThen_ok,hm.sK,hk.eT,r8 hb,rY hkt,Instr.findKey,cK hkt,h3,Sem.run_pure,eX,hej,l6,tP,h2]
    have hsb:Instr.sameBits 10000 (.int .i64 n) (.int .i64 n)=true:=by simp [Instr.sameBits]
    simp only[Instr.keyThatStays,hsb,fD,Sem.run_pure,Result.andThen_ok,yQ hb]
   refine⟨_,run,RJ (o:=.map (mM f n (some (φ.eval x)))) S hb hs (fun h' st' T hb'=>⟨_,cl,hb',?_,?_,fun q=>?_⟩) hK⟩
   · intro e he
     rw[jL,z7] at he
     obtain⟨i,hi⟩:=he
     rw[wC] at hi
     split at hi
     · cases hee:es[i]? with
       | none=>rw[hee] at hi;cases hi
       | some e0=>rw[hee] at hi;cases hi;exact⟨n,rfl⟩
     · exact hk1 e (jL.2 (tF hi))
   · have:(es.modify j fun e=>{ e with key:=Value.int .i64 n,val:=a.eval x }).toList.map (·.key)=es.toList.map (·.key):=by
      apply List.ext_getElem?
      intro i
      simp only[q8,Array.getElem?_toList,wC]
      split
      · rename_i hij;subst hij;simp [hej,h2]
      · rfl
     rw[this];exact hk2
   · have hq:=hk3 q
     unfold mM
     by_cases hqn:q=n
     · subst hqn
       simp only[fD]
       refine⟨{ e' with key:=.int .i64 q,val:=a.eval x },?_,rfl,hx.mono T⟩
       rw[jL,z7]
       exact⟨j,by rw[wC,aU rfl,hej];try rfl⟩
     · simp only[hqn,cP]
       split
       · rename_i v hf
         rw[hf] at hq
         obtain⟨e0,he0,hk0,hv0⟩:=hq
         refine⟨e0,?_,hk0,hv0.mono T⟩
         rw[jL,z7] at he0 ⊢
         obtain⟨i,hi⟩:=he0
         refine⟨i,?_⟩
         rw[wC,aS,hi]
         rintro rfl
         rw[hej] at hi;cases hi
         rw[h2] at hk0;cases hk0;exact hqn rfl
       · rename_i hf
         rw[hf] at hq
         intro e he
         rw[jL,z7] at he
         obtain⟨i,hi⟩:=he
         rw[wC] at hi
         split at hi
         · cases hee:es[i]? with
           | none=>rw[hee] at hi;cases hi
           | some e0=>rw[hee] at hi;cases hi;simpa using fun q'=>hqn q'.symm
         · exact hq e (jL.2 (tF hi))
 · -- a new entry
   have run:(execOp a.eval o).run P w=.ok .skip { w with heap:=w.heap.setIfInBounds b (.map (es.push { key:=.int .i64 n,val:=a.eval x,born:=cl }) (cl+1)) }:=by
    simp only[execOp,ho,Instr.mapUpdate,Sem.run_bind,cK hu,Result.andThen_ok,hm.sK,hk.eT,r8 hb,rY hkt,Instr.findKey,cK hkt,h3,Sem.run_pure,yQ hb]
   refine⟨_,run,RJ (o:=.map (mM f n (some (φ.eval x)))) S hb hs (fun h' st' T hb'=>⟨_,cl+1,hb',?_,?_,fun q=>?_⟩) hK⟩
   · intro e he
     simp at he
     rcases he with he | rfl
     · exact hk1 e (jL.2 he)
     · exact⟨n,rfl⟩
   · simp only[Array.toList_push,List.map_append,bT,bF]
     rw[List.nodup_append]
     refine⟨hk2,by simp,?_⟩
     intro p hp r hr
     simp at hr
     subst hr
     obtain⟨e,he,rfl⟩:=fN.1 hp
     exact h1 e he
   · have hq:=hk3 q
     unfold mM
     by_cases hqn:q=n
     · subst hqn
       simp only[fD]
       exact⟨_,by simp;exact .inr rfl,rfl,hx.mono T⟩
     · simp only[hqn,cP]
       split
       · rename_i v hf
         rw[hf] at hq
         obtain⟨e0,he0,hk0,hv0⟩:=hq
         exact⟨e0,by simp;exact .inl (jL.1 he0),hk0,hv0.mono T⟩
       · rename_i hf
         rw[hf] at hq
         intro e he
         simp at he
         rcases he with he | rfl
         · exact hq e (jL.2 he)
         · simpa using fun q'=>hqn q'.symm
def tV(P:Program)(t:TypeId)(st:aA)(m k:AV)(K:AV→aA→Prop):Prop:=
 match m,k,P.underlying t with
 | .map b,.int .i64 n,some (.map kt _)=>match st b,P.underlying kt with
  | some (.map f),some (.int .i64)=>K (.tup []) (st.aC b (.map (mM f n none)))
  | _,_=>False
 | _,_,_=>False
theorem RK{b:Nat}{es es':Array MapEntry}{cl cl':Nat}{f:Int→Option AV}{o:AO}{K:AV→aA→Prop}(S:bQ w.heap st)(hb:w.heap[b]?=some (.map es cl))(hs:st b=some (.map f))
 (ho:∀h' st',aX w.heap st h' st'→h'[b]?=some (.map es' cl')→iC h' st' b o) (hK:K (.tup []) (st.aC b o)):gY st w K (.tuple #[]) { w with heap:=w.heap.setIfInBounds b (.map es' cl') }:=by
 have hlt:b<w.heap.size:=(S b _ hs).1
 have d4:(w.heap.setIfInBounds b (.map es' cl'))[b]?=some (.map es' cl'):=by simp [hlt]
 have iF:∀y,y<w.heap.size→y≠b→(w.heap.setIfInBounds b (.map es' cl'))[y]?=w.heap[y]?:=fun y _ hne=>DV (cV hne)
 have T:aX w.heap st (w.heap.setIfInBounds b (.map es' cl')) (st.aC b o):=aX.jV (by rw[hs];simp) (by simp) iF fun c t fr e=>by rw[hb] at e;cases e
 exact⟨.tup [],st.aC b o,⟨rfl,[],rfl,rfl⟩,S.jV T (by simpa using hlt) iF (ho _ _ T d4),T,⟨rfl,rfl,rfl⟩,hK⟩
theorem ZM{t t':TypeId}{a:Act}{φ:AF}{o:Oper}{m k:Operand}{K:AV→aA→Prop}(ho:o.op=.call { callee:=.builtin .delete,args:=#[m,k],argTypes:=#[t,t'] })(F:cM w.heap st a.tmps φ)(S:bQ w.heap st)(e:tV P t st (φ.eval m) (φ.eval k) K) :
 ∃v w',(execOp a.eval o).run P w=.ok (.value v) w'∧gY st w K v w':=by
 have hm:=aE.eval F m
 have hk:=aE.eval F k
 unfold tV at e
 split at e
 case h_2=>cases e
 rename_i b n kt el em ek hu
 split at e
 case h_2=>cases e
 rename_i f hs hkt
 rw[em] at hm
 rw[ek] at hk
 obtain⟨_,es,cl,hb,hk1,hk2,hk3⟩:=S b _ hs
 rcases uO n es.toList 0 hk1 with ⟨j,e',h1,h2,h3⟩ | ⟨h1,h3⟩
 · have QZ:j<es.size:=by have:=(fY.1 h1).1;simpa using this
   have sF:(es.eraseIdxIfInBounds j).toList=es.toList.eraseIdx j:=by
    unfold Array.eraseIdxIfInBounds
    rw[dif_pos QZ]
    simp
   have run:(execOp a.eval o).run P w=.ok (.value (.tuple #[])) { w with heap:=w.heap.setIfInBounds b (.map (es.eraseIdxIfInBounds j) cl) }:=by
    simp only[execOp,ho,resolve,Sem.run_bind,Sem.run_pure,Result.andThen_ok,invoke,builtin]
    simp [Builtin.delete_,cK hu,hm.sK,hk.eT,r8 hb,rY hkt,Instr.findKey,cK hkt,h3,yQ hb,Result.andThen]
   have Q2:∀x∈(es.eraseIdxIfInBounds j).toList,x∈es.toList:=fun x hx=>by rw[sF] at hx;exact(List.eraseIdx_sublist _ _).subset hx
   have aB4:∀x∈(es.eraseIdxIfInBounds j).toList,x.key≠.int .i64 n:=fun x hx hxn=>by
    rw[sF] at hx
    obtain⟨i,hi⟩:=q9 hx
    rw[List.getElem?_eraseIdx] at hi
    have key:∀i',i'≠j→es.toList[i']?=some x→False:=fun i' hne hx'=>by
     have ha:(es.toList.map (·.key))[i']?=some (.int .i64 n):=by rw[q8,hx'];simp [hxn]
     have hb':(es.toList.map (·.key))[j]?=some (.int .i64 n):=by rw[q8,h1];simp [h2]
     have hlt:i'<(es.toList.map (·.key)).length:=(fY.1 ha).1
     exact hne ((List.getElem?_inj hlt hk2).1 (ha.trans hb'.symm))
    split at hi
    · exact key i (by omega) hi
    · exact key (i+1) (by omega) hi
   refine⟨_,_,run,RK (o:=.map (mM f n none)) S hb hs (fun h' st' T hb'=>⟨_,cl,hb',fun x hx=>hk1 x (Q2 x hx),?_,fun q=>?_⟩) e⟩
   · rw[sF]
     exact hk2.sublist ((List.eraseIdx_sublist _ _).map _)
   · have hq:=hk3 q
     unfold mM
     by_cases hqn:q=n
     · subst hqn
       simp only[fD]
       exact aB4
     · simp only[hqn,cP]
       split
       · rename_i v hf
         rw[hf] at hq
         obtain⟨e0,he0,hk0,hv0⟩:=hq
         refine⟨e0,?_,hk0,hv0.mono T⟩
         rw[sF]
         obtain⟨i,hi⟩:=q9 he0
         have hne:i≠j:=by
          rintro rfl
          rw[h1] at hi;cases hi
          rw[h2] at hk0;cases hk0;exact hqn rfl
         rw[List.mem_iff_getElem?]
         rcases iZ i j with h | h
         · exact⟨i,by rw[List.getElem?_eraseIdx,aU h];exact hi⟩
         · exact⟨i - 1,by rw[List.getElem?_eraseIdx,aS (by omega),show i - 1+1=i by omega];exact hi⟩
       · rename_i hf
         rw[hf] at hq
         exact fun x hx=>hq x (Q2 x hx)
 · have run:(execOp a.eval o).run P w=.ok (.value (.tuple #[])) { w with heap:=w.heap.setIfInBounds b (.map es cl) }:=by
    simp only[execOp,ho,resolve,Sem.run_bind,Sem.run_pure,Result.andThen_ok,invoke,builtin]
    simp [Builtin.delete_,cK hu,hm.sK,hk.eT,r8 hb,rY hkt,Instr.findKey,cK hkt,h3,yQ hb,Result.andThen]
   refine⟨_,_,run,RK (o:=.map (mM f n none)) S hb hs (fun h' st' T hb'=>⟨_,cl,hb',hk1,hk2,fun q=>?_⟩) e⟩
   have hq:=hk3 q
   unfold mM
   by_cases hqn:q=n
   · subst hqn
     simp only[fD]
     exact h1
   · simp only[hqn,cP]
     split
     · rename_i v hf
       rw[hf] at hq
       obtain⟨e0,he0,hk0,hv0⟩:=hq
       exact⟨e0,he0,hk0,hv0.mono T⟩
     · rename_i hf
       rw[hf] at hq
       exact hq
end
def pN(P:Program)(t t':TypeId)(st:aA)(s x:AV)(K:AV→aA→Prop):Prop:=
 match eI P t,eB P t,eZ P t,P.underlying t',x with
 | some (_,sz),some bytes,some zs,some (.int _),.int .i64 k=>zs.length=sz∧sz≠0∧zs.all AV.storable=true∧0≤k ∧
  match s with
  | .fslice es=>es= []∧k.toNat*bytes≤140737488355328∧k≤9223372036854775807 ∧
   (k.toNat=0→K (.fslice []) st)∧(k.toNat≠0→∀b,st b=none→K (.mslice b 0 k.toNat sz) (st.aC b (.cells (fT zs k.toNat))))
  | .mslice b 0 len n=>n=sz∧(len+k.toNat)*bytes≤140737488355328∧len+k.toNat≤9223372036854775807 ∧
   (match st b with
    | some (.cells cs)=>len*sz≤cs.length∧K (.mslice b 0 (len+k.toNat) sz) (st.aC b (.cells (cs.take (len*sz)++fT zs k.toNat))) ∧
     ∀b',st b'=none→K (.mslice b' 0 (len+k.toNat) sz) ((st.erase b).aC b' (.cells (cs.take (len*sz)++fT zs k.toNat)))
    | _=>False)
  | _=>False
 | _,_,_,_,_=>False
theorem RI(zs:List AV)(n:Nat):(fT zs n).length=n*zs.length:=by simp [fT]
theorem aGR{z:Array Value}:Builtin.zeroCells z 0= #[]:=by apply z6;simp [size_zeroCells]
theorem aEQ{P:Program}(w:World)(t tn ty e t':TypeId)(i:TypeInfo)(z:Value)(kn:IntKind)(ht:P.underlying t=some (.slice e))(htn:P.underlying tn=some (.int kn))(hi:P.info? e=some i)(hz:i.zero=some z)(hzs:z.cells.size=i.size)(hs:0<i.size)
 (g dR hC:Nat) (cur:Array Value) (hg:w.heap[g]?=some (.cells cur t' (0,0)))
 (n:Nat) (h1:∀u∈(Builtin.zeroCells z.cells n).toList,u.oneCell'=true) (h63:(n:Int)≤9223372036854775807) (h48:n*i.bytes≤281474976710656)
 (j8:dR+n≤hC) (eK:dR*i.size+n*i.size≤cur.size) :
 (Builtin.append_ #[t,tn] ty #[.slice (some ⟨g,0,none⟩) dR hC,.int .i64 n]).run P w =
  .ok (.slice (some ⟨g,0,none⟩) (dR+n) hC) (w.setRow g (cur.toList.take (dR*i.size)++(Builtin.zeroCells z.cells n).toList++cur.toList.drop (dR*i.size+n*i.size)).toArray):=by
 have hw:IntKind.i64.wrap (n:Int)=n:=by rw[IntKind.wrap_i64];omega
 have BY:¬(281474976710656<(n:Int)*(i.bytes:Int)):=by rw[←Int.natCast_mul];omega
 have B7:¬((n:Int)<0):=by omega
 have hzl:(Builtin.zeroCells z.cells n).toList.length=n*i.size:=by simp [size_zeroCells,hzs]
 have hst:=run_storeCells_at P g (dR*i.size) t' (Builtin.zeroCells z.cells n).toList 0 cur w hg (by rw[hzl];simpa using eK) h1
 simp only[tM] at hst
 rw[hzl] at hst
 by_cases hn:n=0
 · subst hn
   rw[aGR] at hst ⊢
   have aCI:dR≤hC:=by simpa using j8
   simp at hst
   simp [Builtin.append_,run_underlying ht,run_underlying htn,sizeOf,typeInfo,hi,asInt,asIntOf,IntKind.wrap_i64,aCI,Addr.add_lit,hst]
 · have hns:¬(n*i.size=0):=Nat.mul_ne_zero hn (by omega)
   simp [Builtin.append_,run_underlying ht,run_underlying htn,sizeOf,typeInfo,zeroValue,hi,hz,asInt,asIntOf,hw,B7,hns,BY,j8,Addr.add_lit,hst]
theorem SJ{P:Program}(w:World)(t tn ty e:TypeId)(i:TypeInfo)(z:Value)(kn:IntKind)(ht:P.underlying t=some (.slice e))(htn:P.underlying tn=some (.int kn))(hi:P.info? e=some i)(hz:i.zero=some z)(hs:0<i.size)
 (base:Option Addr) (dR hC:Nat) (sO:List Value) (hlo:sO.length=dR*i.size) (hn0:base=none→dR=0) (holds:∀b,base=some b→∀j v,sO[j]?=some v→w.cell? (b.add j)=some v)
 (n:Nat) (hg:hC<dR+n) (h0:0<n) (h63:((dR+n:Nat):Int)≤9223372036854775807) (h48:n*i.bytes≤281474976710656) (eK:Builtin.nextslicecap (dR+n) hC*i.bytes≤281474976710656) :
 (Builtin.append_ #[t,tn] ty #[.slice base dR hC,.int .i64 n]).run P w =
  .ok (.slice (some ⟨w.heap.size,0,none⟩) (dR+n) (grownCap w (dR+n) hC e))
   (w.drew.alloc (.cells ((sO++(Builtin.zeroCells z.cells n).toList).toArray++Builtin.zeroCells z.cells (grownCap w (dR+n) hC e - (dR+n))) e)):=by
 have hw:IntKind.i64.wrap (n:Int)=n:=by rw[IntKind.wrap_i64];omega
 have BY:¬(281474976710656<(n:Int)*(i.bytes:Int)):=by rw[←Int.natCast_mul];omega
 have B7:¬((n:Int)<0):=by omega
 have hns:¬(n*i.size=0):=Nat.mul_ne_zero (by omega) (by omega)
 have hn:¬(dR+n≤hC):=by omega
 have aBM:¬(9223372036854775807<((dR:Int)+(n:Int))):=by omega
 have sB:¬(281474976710656<Builtin.nextslicecap (dR+n) hC*i.bytes):=by omega
 have hfo:(Builtin.firstCells i.size dR (.slice base dR hC)).run P w.drew=.ok sO.toArray w.drew:=by
  cases base with
  | none=>
   have:=hn0 rfl
   subst this
   have:sO= []:=mY (by simpa using hlo)
   subst this
   exact run_firstCells_none ..
  | some b=>exact run_firstCells_some (P:=P) w.drew i.size dR b dR hC sO hlo (by simpa using holds b rfl)
 simp [Builtin.append_,run_underlying ht,run_underlying htn,sizeOf,typeInfo,zeroValue,hi,hz,asInt,asIntOf,hw,B7,hns,BY,hn,aBM,sB,Question.forced,hfo,newRow,grownCap]
 congr 2
 apply Array.ext'
 simp [List.append_assoc]
section
variable {P:Program} {st:aA} {w:World}
theorem w6{o:Oper}{a:Act}{t t':TypeId}{s x:Operand}{w w':World}{v:Value}(ho:o.op=.call { callee:=.builtin .append,args:=#[s,x],argTypes:=#[t,t'] })
 (h:(Builtin.append_ #[t,t'] o.type #[a.eval s,a.eval x]).run P w=.ok v w'):(execOp a.eval o).run P w=.ok (.value v) w':=by
 simp only[execOp,ho,resolve,Sem.run_bind,Sem.run_pure,Result.andThen_ok,invoke,builtin]
 simp [h]
theorem VS{o:Oper}{a:Act}{φ:AF}{t t':TypeId}{s x:Operand}{K:AV→aA→Prop}(ho:o.op=.call { callee:=.builtin .append,args:=#[s,x],argTypes:=#[t,t'] })(F:cM w.heap st a.tmps φ)(S:bQ w.heap st)
 (e:pN P t t' st (φ.eval s) (φ.eval x) K):∃v w',(execOp a.eval o).run P w=.ok (.value v) w'∧gY st w K v w':=by
 unfold pN at e
 split at e
 case h_2=>cases e
 rename_i ag sz bytes zs kn k hI hB hZ hT' hX
 obtain⟨hzl,hsz,hst,hk0,e⟩:=e
 obtain⟨n,rfl⟩:=q5 hk0
 simp only[jZ] at e
 obtain⟨el,hu,hT⟩:=kM hI
 obtain⟨_,_,d,i,_,hi,lL,_⟩:=tI_run hT w
 have hby:i.bytes=bytes:=by simp only[eB,hu,hi,l6,Option.some.injEq] at hB;exact hB
 obtain⟨z,hz0,hzv⟩:∃z,i.zero=some z∧aJ w.heap st zs z.cells.toList:=by
  simp only[eZ,hu] at hZ
  simp only[zI,hi] at hZ
  cases hz:i.zero with
  | none=>simp [hz] at hZ
  | some z=>simp only[hz,Option.some.injEq] at hZ;subst hZ;exact⟨z,rfl,aJ.consts _ _ _⟩
 have hzc:z.cells.size=sz:=by have:=hzv.length;simp at this;omega
 have hxv:a.eval x=.int .i64 n:=by
  have y:=aE.eval F x
  rw[hX] at y
  exact y.eT
 have hs:=aE.eval F s
 have hnv:aJ w.heap st (fT zs n) (Builtin.zeroCells z.cells n).toList:=hzv.made n
 have hml:=RI zs n
 split at e
 · rename_i es hes
   rw[hes] at hs
   obtain⟨rfl,hb1,hb2,B8,uT⟩:=e
   obtain⟨base,hv⟩:∃base,a.eval s=.slice base 0 0:=by
    rcases hs.pW with ⟨⟨p0,hv⟩,_⟩ | ⟨b,off,hv,_⟩
    · exact⟨p0,hv⟩
    · exact⟨_,hv⟩
   by_cases hn:n=0
   · subst hn
     refine⟨a.eval s,w,w6 ho ?_,.fslice [],st,hs,S,aX.refl _ _,c9.refl _,B8 rfl⟩
     rw[hv,hxv]
     cases base<;>simp [Builtin.append_,run_underlying hu,run_underlying hT',sizeOf,typeInfo,hi,asInt,asIntOf,IntKind.wrap_i64,storeCells]
   · have hr:=SJ (P:=P) w t t' o.type el i z kn hu hT' hi hz0 (by omega) base 0 0 [] (by simp) (fun _=>rfl) (by simp) n (by omega) (by omega) (by omega) (by rw[hby];omega)
      (growslice_fits (by omega) (by rw[hby];simpa using hb1))
     have hN:=rQ (w:=w) (st:=st) (e:=el) (need:=n) (cap:=grownCap w (0+n) 0 el) S hzv hzl hnv (by rw[hml,hzl]) (by have:=grownCap_ge w (0+n) 0 el;omega) (grownCap_le_maxLen _ _ _ _ (by unfold maxLen;omega)) st (fun _ _ h=>h)
     simp only[dB,eX] at hr
     rw[eX] at hN
     exact⟨_,_,w6 ho (by rw[hv,hxv];exact hr),.mslice w.heap.size 0 n sz,_,hN.1,hN.2.1,hN.2.2,⟨rfl,rfl,rfl⟩,uT hn w.heap.size S.fresh⟩
 · rename_i b len m hes
   rw[hes] at hs
   obtain⟨rfl,hb1,hb2,e⟩:=e
   split at e
   case h_2=>cases e
   rename_i cs hcs
   obtain⟨hlen,hin,CA⟩:=e
   obtain⟨cap,hv,l1,l2,c,ty',d4,l3⟩:=hs.qF
   obtain⟨hlt,c',ty,hb',hl,vs,x1,x2⟩:=S b _ hcs
   rw[d4] at hb';cases hb'
   have hvl:=x2.length
   have h48:n*i.bytes≤281474976710656:=by
    have:n*bytes≤(len+n)*bytes:=lA _ (by omega)
    rw[hby];omega
   have aCT:(Builtin.zeroCells z.cells n).toList.length=n*m:=by simp [size_zeroCells,hzc]
   by_cases j8:len+n≤cap
   · have uU:len*m+n*m≤c.size:=by
      rw[←rB]
      have:=lA m j8
      omega
     have hr:=aEQ (P:=P) w t t' o.type el ty' i z kn hu hT' hi hz0 (by omega) (by omega) b len cap c d4 n (hnv.qJ (by
      simp only[fT,List.all_map,dY]
      intro j hj
      simp only[rA] at hj
      have hp:0<zs.length:=by omega
      have hm:=Nat.mod_lt j hp
      simp only[Function.comp,DY,eA hm,tP]
      exact dY.1 hst _ (List.getElem_mem hm))) (by omega) h48 j8 (by rw[lL];exact uU)
     rw[lL] at hr
     generalize hc2:(c.toList.take (len*m)++(Builtin.zeroCells z.cells n).toList++c.toList.drop (len*m+n*m)).toArray=c2 at hr
     have nY:c2.size=c.size:=by rw[←hc2];simp [size_zeroCells,hzc];omega
     have htk:c2.toList.take (len*m+n*m)=vs.take (len*m)++(Builtin.zeroCells z.cells n).toList:=by
      have jR:=rX d4 x1
      simp only[lZ] at jR
      rw[←jR,wL,l5 (by omega)]
      have hA:(c.toList.take (len*m)++(Builtin.zeroCells z.cells n).toList).length=len*m+n*m:=by rw[dI,aCT];simp;omega
      rw[←hc2]
      show List.take _ (_++_++_)=_
      rw[DZ (by rw[hA];omega),kH (by rw[hA];omega)]
     have nV:(w.setRow b c2).heap[b]?=some (.cells c2 ty' (0,0)):=setRow_heap w b c c2 ty' (0,0) d4
     have iF:∀y,y<w.heap.size→y≠b→(w.setRow b c2).heap[y]?=w.heap[y]?:=fun y _ hne=>setRow_other w b y c2 hne
     have T:aX w.heap st (w.setRow b c2).heap (st.aC b (.cells (cs.take (len*m)++fT zs n))):=by
      refine aX.jV (by rw[hcs];simp) (by simp) iF fun c1 t1 fr1 e1=>?_
      rw[d4] at e1;cases e1
      exact⟨c2,nV,nY⟩
     have hal:(cs.take (len*m)++fT zs n).length=len*m+n*m:=by
      rw[dI,dZ,hml,hzl,l5 hlen]
     refine⟨_,_,w6 ho (by rw[hv,hxv];exact hr),.mslice b 0 (len+n) m,_,⟨rfl,cap,rfl,j8,l2,c2,ty',nV,by rw[nY];exact l3⟩,S.jV T (by simpa using hlt) iF ⟨c2,ty',nV,by rw[hal,nY];exact uU,(c2.toList.drop 0).take (len*m+n*m),pT nV _ 0 (by rw[nY];omega),?_⟩,T,⟨rfl,rfl,rfl⟩,hin⟩
     rw[lZ,htk]
     exact aJ.mono T _ _ ((x2.take (len*m)).append hnv)
   · have hlv:(vs.take (len*m)).length=len*i.size:=by rw[lL,dZ,hvl,l5 hlen]
     have hr:=SJ (P:=P) w t t' o.type el i z kn hu hT' hi hz0 (by omega) (some ⟨b,0,none⟩) len cap (vs.take (len*m)) hlv (by simp) (fun a0 ha0 j u hj=>by
      cases ha0
      rw[Addr.iN,rW];exact(x1.take (len*m)).get j hj) n (by omega) (by omega) (by omega) h48
      (growslice_fits (by omega) (by rw[hby];exact hb1))
     have hN:=rQ (w:=w) (st:=st) (e:=el) (need:=len+n) (cap:=grownCap w (len+n) cap el) S hzv hzl ((x2.take (len*m)).append hnv)
      (by rw[dI,dZ,l5 hlen,hml,hzl,rB]) (grownCap_ge ..) (grownCap_le_maxLen _ _ _ _ (by unfold maxLen;omega)) (st.erase b)
      (fun y o h=>by unfold aA.erase at h;split at h;cases h;exact h)
     exact⟨_,_,w6 ho (by rw[hv,hxv];exact hr),.mslice w.heap.size 0 (len+n) m,_,hN.1,hN.2.1,hN.2.2,⟨rfl,rfl,rfl⟩,CA w.heap.size S.fresh⟩
 · cases e
end
def nA(P:Program)(t:TypeId)(st:aA)(x:AV)(K:AV→aA→Prop):Prop:=
 match eI P t,eZ P t,x with
 | some (_,sz),some zs,.mslice b off n m=>m=sz∧sz≠0∧zs.length=sz∧zs.all AV.storable=true ∧
  (match st b with
   | some (.cells cs)=>off+n*sz≤cs.length∧K (.tup []) (st.aC b (.cells (aF cs off (fT zs n))))
   | _=>False)
 | some _,some _,.eslice=>K (.tup []) st
 | _,_,_=>False
section
variable {P:Program} {st:aA} {w:World}
theorem aGP{b o:Nat}{cs X:List AV}{V:List Value}(S:bQ w.heap st)(hs:st b=some (.cells cs))(hX:aJ w.heap st X V)(eK:o+X.length≤cs.length)(hst:X.all AV.storable=true) :
 ∃w',(storeCells ⟨b,o,none⟩ V).run P w=.ok () w'∧bQ w'.heap (st.aC b (.cells (aF cs o X)))∧aX w.heap st w'.heap (st.aC b (.cells (aF cs o X)))∧c9 w w':=by
 obtain⟨hlt,c,ty,hb,hl,vs,x1,x2⟩:=S b _ hs
 have hlen:V.length=X.length:=hX.length
 have hvl:=x2.length
 have j9:=run_storeCells_at P b o ty V 0 c w hb (by omega) (hX.qJ hst)
 simp only[tM,hlen] at j9
 refine⟨_,j9,?_⟩
 generalize hc':(c.toList.take o++V++c.toList.drop (o+X.length)).toArray=c' at *
 have hsz:c'.size=c.size:=by rw[←hc'];simp [hlen];omega
 have d4:(w.setRow b c').heap[b]?=some (.cells c' ty (0,0)):=setRow_heap w b c c' ty (0,0) hb
 have iF:∀y,y<w.heap.size→y≠b→(w.setRow b c').heap[y]?=w.heap[y]?:=fun y _ hne=>setRow_other w b y c' hne
 have T:aX w.heap st (w.setRow b c').heap (st.aC b (.cells (aF cs o X))):=by
  refine aX.jV (by rw[hs];simp) (by simp) iF fun c1 t1 fr1 e1=>?_
  rw[hb] at e1;cases e1
  exact⟨c',d4,hsz⟩
 have nX:(aF cs o X).length=cs.length:=by simp [aF];omega
 refine⟨S.jV T (by simpa using hlt) iF ⟨c',ty,d4,by rw[nX,hsz];exact hl,(c'.toList.drop 0).take cs.length,pT d4 _ 0 (by rw[hsz];omega),?_⟩,T,⟨rfl,rfl,rfl⟩⟩
 refine aJ.mono T _ _ ?_
 have jR:=rX hb x1
 simp only[lZ] at jR ⊢
 have e1:c'.toList.take cs.length=vs.take o++V++vs.drop (o+X.length):=by
  rw[←hc',←jR,hvl]
  have:=S2 c.toList V o cs.length (by rw[hlen];exact eK) (by simpa using hl)
  rw[hlen] at this
  exact this
 rw[e1,aF]
 exact((x2.take o).append hX).append (x2.drop (o+X.length))
theorem ZG{o:Oper}{a:Act}{φ:AF}{t:TypeId}{x:Operand}{K:AV→aA→Prop}(ho:o.op=.call { callee:=.builtin .clear,args:=#[x],argTypes:=#[t] })(F:cM w.heap st a.tmps φ)(S:bQ w.heap st)
 (e:nA P t st (φ.eval x) K):∃v w',(execOp a.eval o).run P w=.ok (.value v) w'∧gY st w K v w':=by
 unfold nA at e
 split at e
 case h_3=>cases e
 case h_2=>
  rename_i q zs hI hZ hx
  obtain⟨ag,sz⟩:=q
  have hs:=aE.eval F x
  rw[hx] at hs
  obtain⟨p0,c0,hv⟩:=hs.BR
  obtain⟨el,hu,hT⟩:=kM hI
  have run:(execOp a.eval o).run P w=.ok (.value (.tuple #[])) w:=by
   simp only[execOp,ho,resolve,Sem.run_bind,Sem.run_pure,Result.andThen_ok,invoke,builtin]
   cases p0<;>simp [Builtin.clear_,cK hu,hv]
  exact⟨_,_,run,.tup [],st,⟨rfl,[],rfl,rfl⟩,S,aX.refl _ _,c9.refl _,e⟩
 rename_i ag sz zs b off n m hI hZ hx
 obtain⟨rfl,hsz,hzl,hst,e⟩:=e
 split at e
 case h_2=>cases e
 rename_i cs hcs
 obtain⟨eK,hK⟩:=e
 have hs:=aE.eval F x
 rw[hx] at hs
 obtain⟨cap,hv,l1,l2,c,ty',d4,l3⟩:=hs.qF
 obtain⟨el,hu,hT⟩:=kM hI
 have hzs:zI P el=some zs:=by simpa [eZ,hu] using hZ
 obtain⟨z,z1,z2⟩:=zI_run hzs w.heap st w
 have hnv:aJ w.heap st (fT zs n) (Builtin.zeroCells z.cells n).toList:=z2.made n
 have hml:=RI zs n
 rcases AD n with rfl | hn
 · have run:(execOp a.eval o).run P w=.ok (.value (.tuple #[])) w:=by
    simp only[execOp,ho,resolve,Sem.run_bind,Sem.run_pure,Result.andThen_ok,invoke,builtin]
    simp [Builtin.clear_,cK hu,hv]
   have he:st.aC b (.cells (aF cs off (fT zs 0)))=st:=by
    funext y
    simp only[aA.aC]
    split
    · rename_i h;rw[h,hcs];simp [aF,fT]
    · rfl
   rw[he] at hK
   exact⟨_,_,run,.tup [],st,⟨rfl,[],rfl,rfl⟩,S,aX.refl _ _,c9.refl _,hK⟩
 · obtain⟨w',h1,h2,h3,h4⟩:=aGP (P:=P) (o:=off) S hcs hnv (by rw[hml,hzl];exact eK) (by
    simp only[fT,List.all_map,dY]
    intro j hj
    simp only[rA] at hj
    have hp:0<zs.length:=by omega
    have hm:=Nat.mod_lt j hp
    simp only[Function.comp,DY,eA hm,tP]
    exact dY.1 hst _ (List.getElem_mem hm))
   have run:(execOp a.eval o).run P w=.ok (.value (.tuple #[])) w':=by
    obtain⟨k,rfl⟩:∃k,n=k+1:=⟨n - 1,by omega⟩
    simp only[execOp,ho,resolve,Sem.run_bind,Sem.run_pure,Result.andThen_ok,invoke,builtin]
    simp [Builtin.clear_,cK hu,hv,z1,h1]
   exact⟨_,_,run,.tup [],_,⟨rfl,[],rfl,rfl⟩,h2,h3,h4,hK⟩
end
def qY(mt:List Nat):Option Tmp→Bool
 | some d=>mt.contains d
 | none=>false
def cW(P:Program)(mt:List Nat)(φ:AF)(st:aA)(o:Oper)(K:AV→aA→Prop):Prop:=
 match o.op with
 | .call { callee:=.value f,args,.. }=>match φ.eval f with
  | .func g bX=>aD P g (args.toList.map φ.eval++bX) st K
  | _=>False
 | .call { callee:=.builtin .append,args,argTypes }=>match args.toList,argTypes.toList with
  | [s,x],[t,t']=>if t=t' then iL P t st (φ.eval s) (φ.eval x) K else pN P t t' st (φ.eval s) (φ.eval x) K
  | _,_=>False
 | .call { callee:=.builtin .delete,args,argTypes }=>match args.toList,argTypes.toList with
  | [m,k],[t,_]=>tV P t st (φ.eval m) (φ.eval k) K
  | _,_=>False
 | .call { callee:=.builtin .clear,args,argTypes }=>match args.toList,argTypes.toList with
  | [x],[t]=>nA P t st (φ.eval x) K
  | _,_=>False
 | .box t x=>if qY mt o.dst=true then
  (φ.eval x).bP=false∧∀b,st b=none→K (.ptr b 0) (st.aC b (.cells (φ.eval x).cells))
  else match n8 P t (φ.eval x) with | some r=>K r st | none=>False
 | .alloc t=>match zI P t with
  | some zs=>∀b,st b=none→K (.ptr b 0) (st.aC b (.cells zs))
  | none=>False
 | .store t p x=>match φ.eval p with
  | .ptr b q=>match st b,tI P t with
   | some (.cells cs),some (_,sz)=>(φ.eval x).cells.length=sz∧q+sz≤cs.length∧(φ.eval x).cells.all AV.storable=true∧K .undef (st.aC b (.cells (aF cs q (φ.eval x).cells)))
   | _,_=>False
  | _=>False
 | .makeMap _ none=>∀b,st b=none→K (.map b) (st.aC b (.map fun _=>none))
 | .makeSlice t n c=>tW P t st (φ.eval n) (φ.eval c) K
 | .mapUpdate t m k x=>tX P t st (φ.eval m) (φ.eval k) (φ.eval x) K
 | _=>match gD P φ st o with | some r=>K r st | none=>False
theorem gY.R5{st:aA}{w:World}{r:AV}{x:Result Next}{K:AV→aA→Prop}(y:eE st w r x)(S:bQ w.heap st)(k:K r st):∃v w',x=.ok (.value v) w'∧gY st w K v w':=by
 obtain⟨v,w',e,hv,E,hS⟩:=y
 exact⟨v,w',e,r,st,hv,S.ext E,E.step st,hS,k⟩
theorem YX{P:Program}{g:FuncId}(h:Enters P g)(args:Array Value)(w:World):(callFunc g args).run P w=.ok (.enter g args) w:=by
 obtain⟨fn,h1,h2,h3⟩:=h
 have hb:fn.body.isNone=false:=by cases hb:fn.body<;>simp_all
 simp only[callFunc,Sem.run_bind,run_program,Result.andThen_ok,h1,h3,hb,fJ,cP,Sem.run_pure]
theorem wY{P:Program}{mt:List Nat}{st:aA}{w:World}{a:Act}{φ:AF}{o:Oper}{K:AV→aA→Prop}{next:Act→World→Prop}{Q:Exit→Act→World→Prop}(F:cM w.heap st a.tmps φ)(S:bQ w.heap st)
 (e:cW P mt φ st o K) (hn:∀v w',gY st w K v w'→next (a.put o.dst v) w'):o.wp P a w next Q:=by
 have val:(∃v w',(execOp a.eval o).run P w=.ok (.value v) w'∧gY st w K v w')→o.wp P a w next Q:=by
  rintro⟨v,w',h1,h2⟩
  simp only[Oper.wp,h1,Oper.upon]
  exact hn v w' h2
 have skp:(∃w',(execOp a.eval o).run P w=.ok .skip w'∧gY st w K Go.undef w')→o.wp P a w next Q:=by
  rintro⟨w',h1,h2⟩
  simp only[Oper.wp,h1,Oper.upon]
  exact hn _ w' h2
 unfold cW at e
 split at e
 case h_1 f args ats ho=>
  split at e
  case h_2=>cases e
  rename_i g bX hf
  have yf:=aE.eval F f
  rw[hf] at yf
  obtain⟨cvs,hv,hc⟩:=yf.aBJ
  obtain⟨hE,aBS⟩:=e
  have kO:=(cF.eval F args.toList).append (cF.RW hc)
  have j9:(execOp a.eval o).run P w=.ok (.enter g (args.toList.map a.eval++cvs).toArray) w:=by
   have: #[]++Array.map a.eval args++cvs.toArray=(args.toList.map a.eval++cvs).toArray:=by apply Array.ext';simp
   simp only[execOp,ho,resolve,hv,Deferred.ofValue,Sem.run_bind,Sem.run_pure,Result.andThen_ok,invoke,this,YX hE]
  simp only[Oper.wp,j9,Oper.upon]
  refine(aBS w _ S kO).mono ?_
  rintro e' w' ⟨v,r,st',rfl,x1,x2,x3,x4,x5⟩
  exact hn v w' ⟨r,st',x1,x2,x3,x4,x5⟩
 case h_2 args ats ho=>
  split at e
  case h_2=>cases e
  rename_i s x t t' hx ht
  obtain rfl:args= #[s,x]:=by rw[←lY (xs:=args),hx]
  obtain rfl:ats= #[t,t']:=by rw[←lY (xs:=ats),ht]
  split at e
  · rename_i htt;subst htt
    exact val (VT ho F S e)
  · exact val (VS ho F S e)
 case h_3 args ats ho=>
  split at e
  case h_2=>cases e
  rename_i m k t t' hx ht
  obtain rfl:args= #[m,k]:=by rw[←lY (xs:=args),hx]
  obtain rfl:ats= #[t,t']:=by rw[←lY (xs:=ats),ht]
  exact val (ZM ho F S e)
 case h_4 args ats ho=>
  split at e
  case h_2=>cases e
  rename_i x t hx ht
  obtain rfl:args= #[x]:=by rw[←lY (xs:=args),hx]
  obtain rfl:ats= #[t]:=by rw[←lY (xs:=ats),ht]
  exact val (ZG ho F S e)
 case h_5 t x ho=>
  split at e
  · obtain⟨hj,hK⟩:=e
    have y:=aE.eval F x
    exact val ⟨_,_,by simp [execOp,ho,Instr.box,newVar,newRow],RP (t:=t) S (y.cells (by rintro h;rw[h] at hj;simp [AV.bP] at hj)) hK⟩
  · split at e
    · rename_i r hr;exact val (gY.R5 (ES ho F S hr) S e)
    · cases e
 case h_6 t ho=>
  split at e
  case h_2=>cases e
  rename_i zs hz
  obtain⟨z,z1,z2⟩:=zI_run (P:=P) hz w.heap st w
  exact val ⟨_,_,by simp [execOp,ho,Instr.alloc,newVar,newRow,z1],RP (t:=t) S z2 e⟩
 case h_7 t p x ho=>
  split at e
  case h_2=>cases e
  rename_i b q hp
  split at e
  case h_2=>cases e
  rename_i cs ag sz hs hT
  obtain⟨e1,e2,e3,hK⟩:=e
  have yp:=aE.eval F p
  rw[hp] at yp
  obtain⟨w',r1,r2,r3,r4⟩:=aE8 S hT hs (aE.eval F x) e1 e2 e3
  exact skp ⟨w',by simp [execOp,ho,yp.qK,r1],.undef,_,⟨rfl,rfl⟩,r2,r3,r4,hK⟩
 case h_8 t ho=>exact val (aDK ho S e)
 case h_9 t n c ho=>exact val (aDL ho F S e)
 case h_10 t m k x ho=>exact skp (aDM ho F S e)
 case h_11=>
  split at e
  · rename_i r hr;exact val (gY.R5 (VJ F S hr) S e)
  · cases e
def eF(ops:Array Oper)(φ:AF)(o:Oper):Option Bool:=
 match o.guard with
 | none=>some true
 | some (j,want)=>match (ops[j]?).bind (·.dst) with
  | none=>some false
  | some d=>match φ d with
   | .bool b=>some (b == want)
   | .undef=>some false
   | _=>none
structure Rel (N:Nat) (a:Act) (w:World) (φ:AF) (st:aA):Prop where
 size:a.tmps.size=N
 defers:a.defers= []
 frame:cM w.heap st a.tmps φ
 store:bQ w.heap st
theorem oC{N:Nat}{a:Act}{w:World}{φ:AF}{st:aA}{ops:Array Oper}{o:Oper}{b:Bool}(R:Rel N a w φ st)(hN:∀(j d:Nat),(ops[j]?).bind (·.dst)=some d→d<N)(e:eF ops φ o=some b):Region.wanted o (yielded ops a.tmps)=b:=by
 unfold eF at e
 unfold Region.wanted
 split at e
 · rename_i hg;rw[hg];exact m8 e
 · rename_i j want hg
   rw[hg]
   simp only
   split at e
   · rename_i hd
     cases e
     simp [yielded,hd]
   · rename_i d hd
     have hdn:d<a.tmps.size:=by rw[R.size];exact hN j d hd
     have y:=R.frame d
     split at e
     · rename_i c hc
       rw[hc] at y
       have:=y.pS
       simp [hdn] at this
       cases e
       simp [yielded,hd,hdn,this]
     · rename_i hc
       rw[hc] at y
       have:=y.aGK
       simp [hdn] at this
       cases e
       simp [yielded,hd,hdn,this,Go.undef]
     · cases e
def kL(N:Nat)(o:Oper):Bool:=match o.dst with | some d=>decide (d<N) | none=>true
theorem Rel.put{N:Nat}{a:Act}{w w':World}{φ:AF}{st st':aA}{o:Oper}{r:AV}{v:Value}(R:Rel N a w φ st)(hd:kL N o=true)(T:aX w.heap st w'.heap st')(S:bQ w'.heap st')(y:aE w'.heap st' r v) :
 Rel N (a.put o.dst v) w' (φ.put o.dst r) st':=by
 unfold kL at hd
 cases ho:o.dst with
 | none=>exact⟨R.size,R.defers,R.frame.mono T,S⟩
 | some d=>
  rw[ho] at hd
  have hlt:d<a.tmps.size:=by rw[R.size];simpa using hd
  exact⟨by simp [Act.put,R.size],R.defers,cM.set (R.frame.mono T) hlt y,S⟩
def aM(P:Program)(mt:List Nat)(ops:Array Oper):List Oper→(AF→aA→Prop)→AF→aA→Prop
 | [],K,φ,st=>K φ st
 | o::rest,K,φ,st=>match eF ops φ o with
  | some true=>cW P mt φ st o (fun r st'=>aM P mt ops rest K (φ.put o.dst r) st')
  | some false=>aM P mt ops rest K (φ.put o.dst .undef) st
  | none=>False
def q6(N:Nat)(w:World)(st:aA)(Q:Exit→AF→aA→Prop):Exit→Act→World→Prop:=
 fun e a' w'=>∃φ' st',Rel N a' w' φ' st'∧aX w.heap st w'.heap st'∧c9 w w'∧Q e φ' st'
theorem AP{P:Program}{mt:List Nat}{ops:Array Oper}{N:Nat}(hN:∀(j d:Nat),(ops[j]?).bind (·.dst)=some d→d<N){Q:Exit→Act→World→Prop} :
 ∀(l:List Oper) (K:AF→aA→Prop) (φ:AF) (st:aA) (a:Act) (w:World),(∀o∈l,kL N o=true)→Rel N a w φ st→aM P mt ops l K φ st →
  (∀a' w' φ' st',Rel N a' w' φ' st'→aX w.heap st w'.heap st'→c9 w w'→K φ' st'→Q .normal a' w')→wpList P ops Q l a w
 | [],K,φ,st,a,w,_,R,e,h=>h a w φ st R (aX.refl _ _) (c9.refl _) e
 | o::l,K,φ,st,a,w,hd,R,e,h=>by
  have hdo:=hd o (by simp)
  unfold aM at e
  split at e
  · rename_i hg
    have hw:=oC R hN hg
    unfold wpList
    rw[aU hw]
    refine .inl (wY R.frame R.store e fun v w' ⟨r,st',x1,x2,x3,x4,x5⟩=>?_)
    exact AP hN l K _ st' _ w' (fun o ho=>hd o (by simp [ho])) (R.put hdo x3 x2 x1) x5
     fun a2 w2 φ2 st2 R2 T2 s2 k2=>h a2 w2 φ2 st2 R2 (x3.trans T2) (x4.trans s2) k2
  · rename_i hg
    have hw:=oC R hN hg
    unfold wpList
    rw[aS (by rw[hw];simp)]
    exact AP hN l K _ st _ w (fun o ho=>hd o (by simp [ho])) (R.put (r:=.undef) hdo (aX.refl _ _) R.store ⟨rfl,rfl⟩) e h
  · cases e
theorem lC{P:Program}{mt:List Nat}{ops:Array Oper}{N:Nat}(hN:∀(j d:Nat),(ops[j]?).bind (·.dst)=some d→d<N){Q:Exit→Act→World→Prop}{o:Oper}{l:List Oper}{K:AF→aA→Prop}{φ:AF}{st:aA}{a:Act}{w:World}
 (hdo:kL N o=true) (R:Rel N a w φ st) (e:aM P mt ops [o] K φ st)
 (h:∀a' w' φ' st',Rel N a' w' φ' st'→aX w.heap st w'.heap st'→c9 w w'→K φ' st'→wpList P ops Q l a' w'):wpList P ops Q (o::l) a w:=by
 unfold aM at e
 split at e
 · rename_i hg
   have hw:=oC R hN hg
   unfold wpList
   rw[aU hw]
   refine .inl (wY R.frame R.store e fun v w' ⟨r,st',x1,x2,x3,x4,x5⟩=>?_)
   exact h _ w' _ st' (R.put hdo x3 x2 x1) x3 x4 (by simpa only[aM] using x5)
 · rename_i hg
   have hw:=oC R hN hg
   unfold wpList
   rw[aS (by rw[hw];simp)]
   exact h _ w _ st (R.put (r:=.undef) hdo (aX.refl _ _) R.store ⟨rfl,rfl⟩) (aX.refl _ _) (c9.refl _) (by simpa only[aM] using e)
 · cases e
def rF(P:Program)(t:TypeId)(x:AV)(K:AV→Prop):Prop:=
 match zI P t,tI P t with
 | some zs,some (_,sz)=>zs.length=sz∧x.cells.length=sz∧x.cells.all AV.storable=true∧x.bP=false∧K (.pptr x)
 | _,_=>False
def jS(x:Operand)(d:Nat):Bool:=match x with | .tmp e=>e == d | _=>false
def dE(P:Program)(mt:List Nat)(ops:Array Oper):List Oper→(AF→aA→Prop)→AF→aA→Prop
 | [],K,φ,st=>K φ st
 | ⟨some d,.alloc t,ty,pos,aft,none⟩::⟨none,.store t' (.tmp d') x,ty',pos',pR,none⟩::rest,K,φ,st=>
  if d=d'∧t=t'∧(mt.contains d||jS x d)=false then rF P t (φ.eval x) (fun r=>dE P mt ops rest K (φ.aC d r) st)
  else aM P mt ops [⟨some d,.alloc t,ty,pos,aft,none⟩] (aM P mt ops [⟨none,.store t' (.tmp d') x,ty',pos',pR,none⟩] (fun φ' st'=>dE P mt ops rest K φ' st')) φ st
 | ⟨some d,.alloc t,ty,pos,aft,none⟩::⟨some e,.assign y,ty2,n5,AT,none⟩::⟨none,.store t' (.tmp d') x,ty',pos',pR,none⟩::rest,K,φ,st=>
  if d=d'∧t=t'∧(mt.contains d||jS x d||jS y d||d == e)=false then rF P t ((φ.aC e (φ.eval y)).eval x) (fun r=>dE P mt ops rest K ((φ.aC e (φ.eval y)).aC d r) st)
  else aM P mt ops [⟨some d,.alloc t,ty,pos,aft,none⟩] (aM P mt ops [⟨some e,.assign y,ty2,n5,AT,none⟩] (aM P mt ops [⟨none,.store t' (.tmp d') x,ty',pos',pR,none⟩] (fun φ' st'=>dE P mt ops rest K φ' st'))) φ st
 | o::rest,K,φ,st=>aM P mt ops [o] (fun φ' st'=>dE P mt ops rest K φ' st') φ st
theorem aX.forget{h:aN}{st:aA}{b:Nat}{o:AO}(hb:st b=none):aX h (st.aC b o) h st:=
 ⟨dJ _,fun x _ e=>⟨rfl,by
  by_cases hx:x=b
  · rw[hx];exact hb
  · rwa [aA.aV _ _ hx] at e⟩,fun _ c _ _ e=>⟨c,e,rfl⟩⟩
theorem bQ.forget{h:aN}{st:aA}{b:Nat}{o:AO}(hb:st b=none)(S:bQ h (st.aC b o)):bQ h st:=fun x p e=>by
 have hx:x≠b:=by rintro rfl;rw[hb] at e;cases e
 obtain⟨h1,h2⟩:=S x p (by rw[aA.aV _ _ hx];exact e)
 exact⟨h1,h2.mono (aX.forget hb) rfl⟩
theorem VC.RV{h:aN}{st:aA}{x:AV}{vs:List Value}(hj:x.bP=false)(y:aJ h st x.cells vs):VC h st x vs:=by
 cases x
 case agg cs=>unfold VC;exact y
 case junk=>cases hj
 all_goals
  simp only[AV.cells,aJ] at y
  obtain⟨c,r,rfl,y,rfl⟩:=y
  exact y
theorem VB{P:Program}{mt:List Nat}{ops:Array Oper}{N:Nat}(hN:∀(j d:Nat),(ops[j]?).bind (·.dst)=some d→d<N){Q:Exit→Act→World→Prop}(l:List Oper)(K:AF→aA→Prop)(φ:AF)(st:aA) :
 ∀(a:Act) (w:World),(∀o∈l,kL N o=true)→Rel N a w φ st→dE P mt ops l K φ st →
  (∀a' w' φ' st',Rel N a' w' φ' st'→aX w.heap st w'.heap st'→c9 w w'→K φ' st'→Q .normal a' w')→wpList P ops Q l a w:=by
 induction l,K,φ,st using dE.induct (mt:=mt) with
 | case1 K φ st=>intro a w _ R e h;rw[dE] at e;exact h a w φ st R (aX.refl _ _) (c9.refl _) e
 | case2 d t ty pos aft t' d' x ty' pos' pR rest K φ st hc ih=>
  intro a w hd R e h
  rw[dE,aU hc] at e
  obtain⟨rfl,rfl,hm⟩:=hc
  unfold rF at e
  split at e
  case h_2=>cases e
  rename_i zs ag sz hz hT
  obtain⟨e1,e2,e3,e4,e5⟩:=e
  have hx:∀v,(φ.aC d v).eval x=φ.eval x:=by
   intro v
   cases x with
   | tmp y=>
    have hne:y≠d:=by rintro rfl;simp [jS] at hm
    simp only[AF.eval,AF.aV φ v hne]
   | _=>rfl
  have hd1:=hd _ (List.mem_cons_self ..)
  refine lC (mt:=mt) (K:=fun φ' st'=>∃b,st b=none∧φ'=φ.aC d (.ptr b 0)∧st'=st.aC b (.cells zs)) hN hd1 R ?_ ?_
  · simp only[aM,eF,cW,hz]
    exact fun b hb=>⟨b,hb,rfl,rfl⟩
  rintro a1 w1 _ _ R1 T1 s1 ⟨b,hb,rfl,rfl⟩
  refine lC (mt:=mt) (K:=fun φ' st'=>φ'=φ.aC d (.ptr b 0)∧st'=st.aC b (.cells (φ.eval x).cells)) hN (hd _ (by simp)) R1 ?_ ?_
  · simp only[aM,eF,cW]
    rw[show(φ.aC d (.ptr b 0)).eval (.tmp d)=.ptr b 0 from AF.aP _ _ _]
    simp only[aA.aP,hT,hx]
    refine⟨e2,by omega,e3,rfl,?_⟩
    rw[bM]
    congr 2
    simp [aF,e1,e2]
  rintro a2 w2 _ _ R2 T2 s2 ⟨rfl,rfl⟩
  have F2:=R2.frame
  have T3:=aX.forget (h:=w2.heap) (o:=.cells (φ.eval x).cells) hb
  have R3:Rel N a2 w2 (φ.aC d (.pptr (φ.eval x))) st:=by
   refine⟨R2.size,R2.defers,fun y=>?_,bQ.forget hb R2.store⟩
   by_cases hy:y=d
   · subst hy
     rw[AF.aP]
     have y1:=F2 y
     rw[AF.aP] at y1
     have hv:=y1.qK
     obtain⟨h1,c,t2,h2,h3,vs,h4,h5⟩:=R2.store b _ (aA.aP _ _ _)
     rw[hv]
     refine⟨rfl,b,0,rfl,hb,h1,vs,h4,by rw[h5.length,uJ],VC.mono T3 _ _ (VC.RV e4 h5)⟩
   · rw[AF.aV _ _ hy]
     have y1:=F2 y
     rw[AF.aV _ _ hy] at y1
     exact y1.mono T3
  have T4:=(T1.trans T2).trans T3
  exact ih _ a2 w2 (fun o ho=>hd o (by simp [ho])) R3 e5 fun a' w' φ' st' R' T' s' k=>h a' w' φ' st' R' (T4.trans T') ((s1.trans s2).trans s') k
 | case3 d t ty pos aft t' d' x ty' pos' pR rest K φ st hc ih=>
  intro a w hd R e h
  rw[dE,aS hc] at e
  refine lC hN (hd _ (by simp)) R e fun a1 w1 φ1 st1 R1 T1 s1 k1=>?_
  refine lC hN (hd _ (by simp)) R1 k1 fun a2 w2 φ2 st2 R2 T2 s2 k2=>?_
  exact ih _ _ a2 w2 (fun o ho=>hd o (by simp [ho])) R2 k2 fun a' w' φ' st' R' T' s' k=>h a' w' φ' st' R' ((T1.trans T2).trans T') ((s1.trans s2).trans s') k
 | case4 d t ty pos aft e0 y ty2 n5 AT t' d' x ty' pos' pR rest K φ st hc ih=>
  intro a w hd R e h
  rw[dE,aU hc] at e
  obtain⟨rfl,rfl,hm⟩:=hc
  unfold rF at e
  split at e
  case h_2=>cases e
  rename_i zs ag sz hz hT
  obtain⟨e1,e2,e3,e4,e5⟩:=e
  simp only[Bool.or_eq_false_iff,beq_eq_false_iff_ne,ne_eq] at hm
  obtain⟨⟨⟨hm1,hmx⟩,hmy⟩,hde⟩:=hm
  have hev:∀(ψ:AF) (z:Operand) v,jS z d=false→(ψ.aC d v).eval z=ψ.eval z:=by
   intro ψ z v hz
   cases z with
   | tmp q=>
    have hne:q≠d:=by rintro rfl;simp [jS] at hz
    simp only[AF.eval,AF.aV ψ v hne]
   | _=>rfl
  have hcm:∀v u,(φ.aC d v).aC e0 u=(φ.aC e0 u).aC d v:=fun v u=>AF.mT φ v u hde
  have hd1:=hd _ (List.mem_cons_self ..)
  refine lC (mt:=mt) (K:=fun φ' st'=>∃b,st b=none∧φ'=φ.aC d (.ptr b 0)∧st'=st.aC b (.cells zs)) hN hd1 R ?_ ?_
  · simp only[aM,eF,cW,hz]
    exact fun b hb=>⟨b,hb,rfl,rfl⟩
  rintro a1 w1 _ _ R1 T1 s1 ⟨b,hb,rfl,rfl⟩
  refine lC (mt:=mt) (K:=fun φ' st'=>φ'=(φ.aC e0 (φ.eval y)).aC d (.ptr b 0)∧st'=st.aC b (.cells zs)) hN (hd _ (by simp)) R1 ?_ ?_
  · simp only[aM,eF,cW,gD]
    rw[hev φ y _ hmy]
    exact⟨hcm _ _,trivial⟩
  rintro a2 w2 _ _ R2 T2 s2 ⟨rfl,rfl⟩
  refine lC (mt:=mt) (K:=fun φ' st'=>φ'=(φ.aC e0 (φ.eval y)).aC d (.ptr b 0)∧st'=st.aC b (.cells ((φ.aC e0 (φ.eval y)).eval x).cells)) hN (hd _ (by simp)) R2 ?_ ?_
  · simp only[aM,eF,cW]
    rw[show((φ.aC e0 (φ.eval y)).aC d (.ptr b 0)).eval (.tmp d)=.ptr b 0 from AF.aP _ _ _]
    simp only[aA.aP,hT,hev (φ.aC e0 (φ.eval y)) x _ hmx]
    refine⟨e2,by omega,e3,rfl,?_⟩
    rw[bM]
    congr 2
    simp [aF,e1,e2]
  rintro a3 w3 _ _ R3 T3 s3 ⟨rfl,rfl⟩
  have F2:=R3.frame
  have T4:=aX.forget (h:=w3.heap) (o:=.cells ((φ.aC e0 (φ.eval y)).eval x).cells) hb
  have R4:Rel N a3 w3 ((φ.aC e0 (φ.eval y)).aC d (.pptr ((φ.aC e0 (φ.eval y)).eval x))) st:=by
   refine⟨R3.size,R3.defers,fun z=>?_,bQ.forget hb R3.store⟩
   by_cases hy:z=d
   · subst hy
     rw[AF.aP]
     have y1:=F2 z
     rw[AF.aP] at y1
     have hv:=y1.qK
     obtain⟨h1,c,t2,h2,h3,vs,h4,h5⟩:=R3.store b _ (aA.aP _ _ _)
     rw[hv]
     refine⟨rfl,b,0,rfl,hb,h1,vs,h4,by rw[h5.length,uJ],VC.mono T4 _ _ (VC.RV e4 h5)⟩
   · rw[AF.aV _ _ hy]
     have y1:=F2 z
     rw[AF.aV _ _ hy] at y1
     exact y1.mono T4
  have T5:=((T1.trans T2).trans T3).trans T4
  exact ih _ a3 w3 (fun o ho=>hd o (by simp [ho])) R4 e5 fun a' w' φ' st' R' T' s' k=>h a' w' φ' st' R' (T5.trans T') (((s1.trans s2).trans s3).trans s') k
 | case5 d t ty pos aft e0 y ty2 n5 AT t' d' x ty' pos' pR rest K φ st hc ih=>
  intro a w hd R e h
  rw[dE,aS hc] at e
  refine lC hN (hd _ (by simp)) R e fun a1 w1 φ1 st1 R1 T1 s1 k1=>?_
  refine lC hN (hd _ (by simp)) R1 k1 fun a2 w2 φ2 st2 R2 T2 s2 k2=>?_
  refine lC hN (hd _ (by simp)) R2 k2 fun a3 w3 φ3 st3 R3 T3 s3 k3=>?_
  exact ih _ _ a3 w3 (fun o ho=>hd o (by simp [ho])) R3 k3 fun a' w' φ' st' R' T' s' k=>h a' w' φ' st' R' (((T1.trans T2).trans T3).trans T') (((s1.trans s2).trans s3).trans s') k
 | case6 o rest K φ st hne uW ih=>
  intro a w hd R e h
  rw[dE] at e
  case x_4=>exact hne
  case x_5=>exact uW
  refine lC hN (hd _ (by simp)) R e fun a1 w1 φ1 st1 R1 T1 s1 k1=>?_
  exact ih _ _ a1 w1 (fun o ho=>hd o (by simp [ho])) R1 k1 fun a' w' φ' st' R' T' s' k=>h a' w' φ' st' R' (T1.trans T') (s1.trans s') k
def dT(P:Program)(N:Nat)(c:Code)(Q:Exit→AF→aA→Prop)(φ:AF)(st:aA):Prop:=
 ∀a w,Rel N a w φ st→c.wp P (q6 N w st Q) a w
def vS(k:AF→aA→Prop)(Q:Exit→AF→aA→Prop):Exit→AF→aA→Prop
 | .normal,φ,st=>k φ st
 | e,φ,st=>Q e φ st
def rS(id:Nat)(Q:Exit→AF→aA→Prop):Exit→AF→aA→Prop
 | .exit i,φ,st=>if i=id then Q .normal φ st else Q (.exit i) φ st
 | e,φ,st=>Q e φ st
def nB(c:AV)(k₁ k₂:AF→aA→Prop)(φ:AF)(st:aA):Prop:=
 match c with
 | .bool b=>(b=true→k₁ φ st)∧(b=false→k₂ φ st)
 | _=>False
def dD(P:Program)(N:Nat)(mt:List Nat):Code→(Exit→AF→aA→Prop)→AF→aA→Prop
 | .skip,Q,φ,st=>Q .normal φ st
 | .region id ops draw,Q,φ,st=>if draw then dT P N (.region id ops true) Q φ st else if mt.contains 1000000=true then dE P mt ops ops.toList (Q .normal) φ st else aM P mt ops ops.toList (Q .normal) φ st
 | .seq x y,Q,φ,st=>dD P N mt x (vS (dD P N mt y Q) Q) φ st
 | .cond c x y,Q,φ,st=>nB (φ.eval c) (dD P N mt x Q) (dD P N mt y Q) φ st
 | .block id x,Q,φ,st=>dD P N mt x (rS id Q) φ st
 | .loop x,Q,φ,st=>dT P N (.loop x) Q φ st
 | .exit id,Q,φ,st=>Q (.exit id) φ st
 | .ret,Q,φ,st=>Q .ret φ st
 | c,Q,φ,st=>dT P N c Q φ st
def lQ(N:Nat)(ops:Array Oper):Bool:=ops.all (kL N)
def codeOk(N:Nat):Code→Bool
 | .region _ ops _=>lQ N ops
 | .seq x y=>codeOk N x&&codeOk N y
 | .cond _ x y=>codeOk N x&&codeOk N y
 | .block _ x=>codeOk N x
 | .loop x=>codeOk N x
 | _=>true
theorem sP{N:Nat}{ops:Array Oper}(h:lQ N ops=true):∀o∈ops.toList,kL N o=true:=by
 intro o ho
 exact Array.all_eq_true_iff_forall_mem.1 h o (jL.1 ho)
theorem vB{N:Nat}{ops:Array Oper}(h:lQ N ops=true):∀(j d:Nat),(ops[j]?).bind (·.dst)=some d→d<N:=by
 intro j d e
 cases hj:ops[j]? with
 | none=>rw[hj] at e;cases e
 | some o=>
  rw[hj] at e
  have:=sP h o (jL.2 (tF hj))
  unfold kL at this
  simp only[wM] at e
  rw[e] at this
  simpa using this
theorem q6.mono{N:Nat}{w w':World}{st st':aA}{Q:Exit→AF→aA→Prop}(T:aX w.heap st w'.heap st')(s:c9 w w'){e:Exit}{a:Act}{w2:World}(x:q6 N w' st' Q e a w2):q6 N w st Q e a w2:=by
 obtain⟨φ',st2,R,T2,s2,q⟩:=x
 exact⟨φ',st2,R,T.trans T2,s.trans s2,q⟩
theorem pO{P:Program}{N:Nat}{mt:List Nat}:∀(c:Code) (Q:Exit→AF→aA→Prop) (φ:AF) (st:aA),codeOk N c=true→dD P N mt c Q φ st→dT P N c Q φ st
 | .skip,Q,φ,st,_,e=>fun a w R=>wp_skip ⟨φ,st,R,aX.refl _ _,c9.refl _,e⟩
 | .region id ops draw,Q,φ,st,hc,e=>fun a w R=>by
  simp only[dD] at e
  cases draw with
  | true=>exact e a w R
  | false=>
   simp only[fJ,cP] at e
   split at e
   · exact wp_region_list (VB (vB hc) ops.toList _ φ st a w (sP hc) R e fun a' w' φ' st' R' T s k=>⟨φ',st',R',T,s,k⟩)
   exact wp_region_list (AP (vB hc) ops.toList _ φ st a w (sP hc) R e fun a' w' φ' st' R' T s k=>⟨φ',st',R',T,s,k⟩)
 | .seq x y,Q,φ,st,hc,e=>fun a w R=>by
  simp only[codeOk,bV] at hc
  refine wp_seq (wp_mono (pO x _ φ st hc.1 e a w R) ?_)
  rintro ex a' w' ⟨φ',st',R',T,s,q⟩
  cases ex with
  | normal=>exact wp_mono (pO y Q φ' st' hc.2 q a' w' R') fun _ _ _ h=>h.mono T s
  | _=>exact⟨φ',st',R',T,s,q⟩
 | .cond c x y,Q,φ,st,hc,e=>fun a w R=>by
  simp only[codeOk,bV] at hc
  simp only[dD,nB] at e
  split at e
  case h_2=>cases e
  rename_i b hb
  have yc:=aE.eval R.frame c
  rw[hb] at yc
  refine wp_cond_split yc.pS (fun h=>?_) (fun h=>?_)
  · exact pO x Q φ st hc.1 (e.1 h) a w R
  · exact pO y Q φ st hc.2 (e.2 h) a w R
 | .block id x,Q,φ,st,hc,e=>fun a w R=>by
  refine wp_block (wp_mono (pO x _ φ st hc e a w R) ?_)
  rintro ex a' w' ⟨φ',st',R',T,s,q⟩
  cases ex with
  | exit i=>
   simp only[Exit.inBlock,rS] at q ⊢
   split<;>rename_i h
   · rw[aU h] at q;exact⟨φ',st',R',T,s,q⟩
   · rw[aS h] at q;exact⟨φ',st',R',T,s,q⟩
  | _=>exact⟨φ',st',R',T,s,q⟩
 | .loop x,Q,φ,st,_,e=>e
 | .exit id,Q,φ,st,_,e=>fun a w R=>wp_exit ⟨φ,st,R,aX.refl _ _,c9.refl _,e⟩
 | .ret,Q,φ,st,_,e=>fun a w R=>wp_ret ⟨φ,st,R,aX.refl _ _,c9.refl _,e⟩
 | .rangeFunc ..,Q,φ,st,_,e=>e
 | .scope _,Q,φ,st,_,e=>e
 | .label _,Q,φ,st,_,e=>e
 | .goto _,Q,φ,st,_,e=>e
 | .refuse _,Q,φ,st,_,e=>e
def rM(P:Program)(φ:AF)(st:aA):ResultVar→Option AV
 | .tmp t=>some (φ t)
 | .cell p t=>d6 P st t (φ p)
def j2(P:Program)(φ:AF)(st:aA):List ResultVar→Option (List AV)
 | []=>some []
 | r::rs=>match rM P φ st r,j2 P φ st rs with
  | some x,some xs=>some (x::xs)
  | _,_=>none
def vW(K:AV→aA→Prop)(st:aA):List AV→Prop
 | [r]=>K r st
 | rs=>f9 rs=true∧K (.tup rs) st
def vI(P:Program)(rs:Array ResultVar)(K:AV→aA→Prop):Exit→AF→aA→Prop
 | .normal,φ,st | .ret,φ,st=>match j2 P φ st rs.toList with
  | some xs=>vW K st xs
  | none=>False
 | _,_,_=>False
theorem VD{P:Program}{φ:AF}{st:aA}{w:World}{a:Act}{v:ResultVar}{r:AV}(F:cM w.heap st a.tmps φ)(S:bQ w.heap st)(e:rM P φ st v=some r) :
 ∃u,(match v with | .tmp t=>pure (a.tmps.getD t undef) | .cell p t=>do loadVar t (←asAddr (a.tmps.getD p undef)):Sem Value).run P w=.ok u w∧aE w.heap st r u:=by
 cases v with
 | tmp t=>cases e;exact⟨_,rfl,F t⟩
 | cell p t=>
  obtain⟨b,off,u,hv,r1,rv⟩:=EB (F p) S e
  exact⟨u,by simp only[hv,asAddr,Sem.run_bind,Sem.run_pure,Result.andThen_ok,r1],rv⟩
theorem ED{P:Program}{φ:AF}{st:aA}{w:World}{a:Act}(F:cM w.heap st a.tmps φ)(S:bQ w.heap st):∀(l:List ResultVar) (rs:List AV),j2 P φ st l=some rs →
 ∃us,(l.mapM fun v=>(match v with | .tmp t=>pure (a.tmps.getD t undef) | .cell p t=>do loadVar t (←asAddr (a.tmps.getD p undef)):Sem Value)).run P w=.ok us w∧cF w.heap st rs us
 | [],rs,e=>by simp only[j2] at e;cases e;exact⟨[],rfl,rfl⟩
 | v::l,rs,e=>by
  simp only[j2] at e
  split at e
  · rename_i x xs hx hxs
    cases e
    obtain⟨u,u1,u2⟩:=VD F S hx
    obtain⟨us,v1,v2⟩:=ED F S l xs hxs
    refine⟨u::us,?_,by simp only[cF];exact⟨u,us,rfl,u2,v2⟩⟩
    rw[List.mapM_cons]
    simp only[Sem.run_bind,u1,Result.andThen_ok,v1,Sem.run_pure]
  · cases e
theorem cF.UF{h:aN}{st:aA}:∀ {as:List AV} {vs:List Value},cF h st as vs→f9 as=true→cL h st as vs
 | [],_,x,_=>by simpa [cL,cF] using x
 | a::as,vs,x,hj=>by
  simp only[cF] at x
  obtain⟨v,r,rfl,x1,x2⟩:=x
  simp [f9] at hj
  simp only[cL]
  exact⟨v,r,rfl,x1.pair hj.1,cF.UF x2 (by simp [f9];exact hj.2)⟩
theorem aEO{P:Program}{φ:AF}{st:aA}{w:World}{a:Act}{fn:Func}{rs:List AV}{K:AV→aA→Prop}(F:cM w.heap st a.tmps φ)(S:bQ w.heap st)(e:j2 P φ st fn.results.toList=some rs)(k:vW K st rs) :
 ∃v r,(results fn a.tmps).run P w=.ok v w∧aE w.heap st r v∧K r st:=by
 obtain⟨us,u1,u2⟩:=ED F S _ rs e
 have j9:(results fn a.tmps).run P w=.ok (if h:us.toArray.size=1 then us.toArray[0] else .tuple us.toArray) w:=by
  unfold results
  rw[Array.mapM_eq_mapM_toList]
  simp only[Sem.run_bind,Sem.run_map]
  exact(fR (fun r:Result (List Value)=>(r.andThen fun a w'=>Result.ok a.toArray w').andThen fun a w'=>Sem.run P (pure (if h:a.size=1 then a[0] else Value.tuple a)) w') u1).trans rfl
 match rs,k with
 | [r],k=>
  simp only[cF] at u2
  obtain⟨u,r',rfl,x1,rfl⟩:=u2
  exact⟨u,r,by rw[j9];try rfl,x1,k⟩
 | [],k=>
  simp only[cF] at u2
  subst u2
  exact⟨.tuple #[],.tup [],by rw[j9];try rfl,⟨rfl,[],rfl,rfl⟩,k.2⟩
 | r1::r2::rest,k=>
  have h2:=u2
  simp only[cF] at u2
  obtain⟨u,us',rfl,_,v,aGL,rfl,_,_⟩:=u2
  exact⟨.tuple (u::v::aGL).toArray,.tup (r1::r2::rest),by rw[j9];simp,⟨rfl,_,rfl,cF.UF h2 k.1⟩,k.2⟩
def mC:Nat→List AV→AF
 | _,[]=>AF.bot
 | i,a::as=>(mC (i+1) as).aC i a
theorem EM{h:aN}{st:aA}{tmps:Array Value}:∀(as:List AV) (vs:List Value) (i:Nat),cF h st as vs→(∀j v,vs[j]?=some v→tmps.getD (i+j) undef=v)→cM h st tmps (mC i as)
 | [],_,_,_,_=>fun d=>by trivial
 | a::as,vs,i,x,ht=>fun d=>by
  simp only[cF] at x
  obtain⟨v,r,rfl,x1,x2⟩:=x
  simp only[mC,AF.aC]
  split
  · rename_i hd
    subst hd
    have:=ht 0 v rfl
    rw[tM] at this
    rw[this];exact x1
  · exact EM as r (i+1) x2 (fun j u hj=>by
     have:=ht (j+1) u (by simpa using hj)
     rw[show i+(j+1)=i+1+j by omega] at this
     exact this) d
theorem cF.length{h:aN}{st:aA}:∀ {as:List AV} {vs:List Value},cF h st as vs→vs.length=as.length
 | [],vs,x=>by simp only[cF] at x;simp [x]
 | a::as,vs,x=>by
  simp only[cF] at x
  obtain⟨v,r,rfl,_,x2⟩:=x
  simp [cF.length x2]
theorem VN{P:Program}{g:FuncId}{fn:Func}{c:Code}{args:List AV}{st:aA}{K:AV→aA→Prop}(mt:List Nat)(hf:P.funcs[g]?=some fn)(hb:fn.body=some c)(hn:(fn.name == "runtime.NumGoroutine")=false)
 (hok:codeOk fn.ntmps c=true) (kO:args.length≤fn.ntmps) (e:dD P fn.ntmps mt c (vI P fn.results K) (mC 0 args) st):aD P g args st K:=by
 refine⟨⟨fn,hf,by simp [hb],hn⟩,fun w vs S V=>?_⟩
 have hl:=V.length
 have R:Rel fn.ntmps { tmps:=vs.toArray++Array.replicate (fn.ntmps - vs.toArray.size) undef,defers:=[] } w (mC 0 args) st:=by
  refine⟨by simp;omega,rfl,EM args vs 0 V fun j v hj=>?_,S⟩
  obtain⟨hjl,hjv⟩:=fY.1 hj
  simp [Array.getElem?_append,hjl,hjv]
 refine calls_of_wp hf hb (wp_mono (pO c _ _ st hok e _ w R) ?_)
 rintro ex a' w' ⟨φ',st',R',T,s,q⟩
 have fin:(match j2 P φ' st' fn.results.toList with | some xs=>vW K st' xs | none=>False)→a'.defers= []∧∃v,(results fn a'.tmps).run P w'=.ok v w' ∧
  (∃v2 r st2,(Ending.returned v)=.returned v2∧aE w'.heap st2 r v2∧bQ w'.heap st2∧aX w.heap st w'.heap st2∧c9 w w'∧K r st2):=by
  intro q
  split at q
  · rename_i xs hx
    obtain⟨v,r,r1,r2,r3⟩:=aEO R'.frame R'.store hx q
    exact⟨R'.defers,v,r1,v,r,st',rfl,r2,R'.store,T,s,r3⟩
  · cases q
 cases ex with
 | normal=>exact fin q
 | ret=>exact fin q
 | _=>exact q.elim
def l7(st:aA)(r:AV)(st':aA)(r':AV):Prop:=∀(h:aN) (v:Value),bQ h st→aE h st r v→aE h st' r' v
def rC(st st':aA):Prop:=∀(h:aN),bQ h st→bQ h st'∧aX h st h st'
theorem aD.iA{P:Program}{g:FuncId}{args:List AV}{st:aA}{Q Q':AV→aA→Prop}(x:aD P g args st Q)(h:∀r st',Q r st'→∃r2 st2,rC st' st2∧l7 st' r st2 r2∧Q' r2 st2):aD P g args st Q':=
 ⟨x.1,fun w vs S V=>(x.2 w vs S V).mono fun _ _ ⟨v,r,st',e,a,b,c,d,q⟩=>
  let ⟨r2,st2,h1,h2,h3⟩:=h r st' q
  ⟨v,r2,st2,e,h2 _ v b a,(h1 _ b).1,c.trans (h1 _ b).2,d,h3⟩⟩
theorem aD.args{P:Program}{g:FuncId}{args lF:List AV}{st:aA}{Q:AV→aA→Prop}(x:aD P g lF st Q)(h:∀(hp:aN) (vs:List Value),bQ hp st→cF hp st args vs→cF hp st lF vs):aD P g args st Q:=
 ⟨x.1,fun w vs S V=>x.2 w vs S (h _ vs S V)⟩
def c7(φ:AF)(st:aA)(φ':AF)(st':aA):Prop:=∀(h:aN) (tmps:Array Value),bQ h st→cM h st tmps φ→bQ h st'∧aX h st h st'∧cM h st' tmps φ'
theorem dT.less{P:Program}{N:Nat}{c:Code}{Q:Exit→AF→aA→Prop}{φ φ':AF}{st st':aA}(L:c7 φ st φ' st')(x:dT P N c Q φ' st'):dT P N c Q φ st:=fun a w R=>by
 obtain⟨h1,h2,h3⟩:=L w.heap a.tmps R.store R.frame
 exact wp_mono (x a w ⟨R.size,R.defers,h3,h1⟩) fun _ _ _ y=>y.mono h2 (c9.refl _)
theorem c7.trans{φ φ' φ'':AF}{st st' vK:aA}(x:c7 φ st φ' st')(y:c7 φ' st' φ'' vK):c7 φ st φ'' vK:=fun h t S F=>
 let ⟨a,b,c⟩:=x h t S F
 let ⟨a',b',c'⟩:=y h t a c
 ⟨a',b.trans b',c'⟩
theorem c7.bot(φ:AF)(st:aA):c7 φ st AF.bot st:=fun _ _ S _=>⟨S,aX.refl _ _,fun _=>trivial⟩
theorem c7.aC{φ φ':AF}{st:aA}(x:c7 φ st φ' st){d:Nat}{v:AV}(e:φ d=v):c7 φ st (φ'.aC d v) st:=fun h t S F=>by
 obtain⟨a,b,c⟩:=x h t S F
 refine⟨a,b,fun y=>?_⟩
 simp only[AF.aC]
 split
 · rename_i hy;subst hy;rw[←e];exact F y
 · exact c y
def jT(k:AF→aA→Prop)(Q:Exit→AF→aA→Prop):Exit→AF→aA→Prop
 | .normal,φ,st=>k φ st
 | e,φ,st=>Q e φ st
theorem AZ{P:Program}{N:Nat}{c:Code}{Q:Exit→AF→aA→Prop}{φ:AF}{st:aA}{α:Type}(inv:α→Prop)(fr:α→AF)(so:α→aA)(μ:α→Nat)
 (h0:∃s,inv s∧c7 φ st (fr s) (so s))
 (h1:∀s,inv s→dT P N c (jT (fun φ' st'=>∃s',μ s'<μ s∧inv s'∧c7 φ' st' (fr s') (so s')) Q) (fr s) (so s)):dT P N (.loop c) Q φ st:=by
 have key:∀n s,μ s=n→inv s→∀a w,Rel N a w (fr s) (so s)→∀b k cs,
  ∃e a' w',q6 N w (so s) Q e a' w'∧Arrives P (lone (b.at a (.code c:: .inLoop c::k)) cs w) b k cs e a' w':=by
  intro n
  induction n using Nat.strongRecOn with
  | _ n ih=>
   intro s hn hI a w R b k cs
   obtain⟨e,a₁,w₁,hq,oQ⟩:=h1 s hI a w R b (.inLoop c::k) cs
   obtain⟨φ',st',R',T,sm,q⟩:=hq
   cases e with
   | normal=>
    obtain⟨s',hlt,hI',L⟩:=q
    obtain⟨l1,l2,l3⟩:=L w₁.heap a₁.tmps R'.store R'.frame
    obtain⟨e₂,a₂,w₂,hq₂,aBN⟩:=ih (μ s') (hn▸hlt) s' rfl hI' a₁ w₁ ⟨R'.size,R'.defers,l3,l1⟩ b k cs
    exact⟨e₂,a₂,w₂,hq₂.mono (T.trans l2) sm,.of_steps (Steps.trans oQ (.one step_inLoop)) aBN⟩
   | exit id=>exact⟨_,a₁,w₁,⟨φ',st',R',T,sm,q⟩,.pass (x:=.inLoop c) rfl (fun _ _=>.inl (by simp)) oQ⟩
   | goto l=>exact⟨_,a₁,w₁,⟨φ',st',R',T,sm,q⟩,.pass (x:=.inLoop c) rfl (fun _ _=>.inl (by simp)) oQ⟩
   | ret=>exact⟨_,a₁,w₁,⟨φ',st',R',T,sm,q⟩,.pass (x:=.inLoop c) rfl (fun _ _=>.inl (by simp)) oQ⟩
   | panic ch=>exact⟨_,a₁,w₁,⟨φ',st',R',T,sm,q⟩,.pass (x:=.inLoop c) rfl (fun _ _=>.inl (by simp)) oQ⟩
   | outgrown=>exact⟨_,a₁,w₁,⟨φ',st',R',T,sm,q⟩,.pass (x:=.inLoop c) rfl (fun _ _=>.inl (by simp)) oQ⟩
 obtain⟨s,hI,L⟩:=h0
 refine dT.less L fun a w R b k cs=>?_
 obtain⟨e,a',w',hq,oQ⟩:=key _ s rfl hI a w R b k cs
 exact⟨e,a',w',hq,.of_steps (.one step_loop) oQ⟩
end Go.AW
