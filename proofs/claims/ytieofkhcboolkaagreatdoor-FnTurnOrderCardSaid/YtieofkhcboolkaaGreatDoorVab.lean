/- Calls, stores, new objects: what each operation comes to with the owned store; lists of operations; code. -/
import Derived.Test.YtieofkhcboolkaaGreatDoorVaa
import Derived.StillTail
set_option linter.unusedSimpArgs false
set_option linter.unusedVariables false
set_option maxRecDepth 100000
namespace Go.AW
theorem bX.qK{h h':bJ}{st:aB}{b:Nat}{o:AO}(hb:st b≠none)(hs:h.size≤h'.size)(k:∀x,x<h.size→x≠b→h'[x]?=h[x]?)
 (sh:∀c t fr,h[b]?=some (.cells c t fr)→∃c',h'[b]?=some (.cells c' t fr)∧c'.size=c.size):bX h st h' (st.aC b o):=by
 refine⟨hs,fun x hx e=>?_,fun x c t fr e=>?_⟩
 · have hne:x≠b:=fun q=>hb (q▸e)
   exact⟨k x hx hne,by rw[aB.aH _ _ hne];exact e⟩
 · by_cases hne:x=b
   · subst hne;exact sh c t fr e
   · have hx:x<h.size:=by
      rcases lN x h.size with h1 | h1
      · exact h1
      · simp [Array.getElem?_eq_none h1] at e
     exact⟨c,by rw[k x hx hne];exact e,rfl⟩
theorem cS.qK{h h':bJ}{st:aB}{b:Nat}{o:AO}(S:cS h st)(T:bX h st h' (st.aC b o))(hb:b<h'.size)(k:∀x,x<h.size→x≠b→h'[x]?=h[x]?)(ho:lD h' (st.aC b o) b o) :
 cS h' (st.aC b o):=by
 intro x p e
 by_cases hne:x=b
 · subst hne
   rw[aB.aJ] at e;cases e
   exact⟨hb,ho⟩
 · rw[aB.aH _ _ hne] at e
   obtain⟨l,r⟩:=S x p e
   exact⟨vE l T.size,lD.mono T (k x l hne) r⟩
theorem bX.FB(h:bJ)(st:aB)(o:Obj)(p:AO):bX h st (h.push o) (st.aC h.size p):=by
 have E:=Ext.push h o
 refine⟨E.size,fun x hx e=>⟨E.aV x hx,by rw[aB.aH _ _ (by omega)];exact e⟩,(E.step st).shape⟩
theorem cS.fresh{h:bJ}{st:aB}(S:cS h st):st h.size=none:=by
 cases e:st h.size with
 | none=>rfl
 | some o=>exact absurd (S _ _ e).1 (Nat.lt_irrefl _)
theorem cS.FB{h:bJ}{st:aB}{o:Obj}{p:AO}(S:cS h st)(ho:lD (h.push o) (st.aC h.size p) h.size p):cS (h.push o) (st.aC h.size p):=
 S.qK (bX.FB h st o p) (by simp) (fun x hx _=>(Ext.push h o).aV x hx) ho
def Enters(P:Program)(g:FuncId):Prop:=∃fn,P.funcs[g]?=some fn∧fn.body.isSome=true∧(fn.name == "runtime.NumGoroutine")=false
def dB(h:bJ)(st:aB):List AV→List Value→Prop
 | [],vs=>vs= []
 | a::as,vs=>∃v r,vs=v::r∧aQ h st a v∧dB h st as r
theorem dB.eval{h:bJ}{st:aB}{a:Act}{φ:AF}(F:eL h st a.tmps φ):∀(l:List Operand),dB h st (l.map φ.eval) (l.map a.eval)
 | []=>by simp [dB]
 | o::l=>by simp only[bA,dB];exact⟨_,_,rfl,aQ.eval F o,dB.eval F l⟩
theorem dB.aOF{h:bJ}{st:aB}:∀ {as:List AV} {vs:List Value},dP h st as vs→dB h st as vs
 | [],_,x=>by simpa [dP,dB] using x
 | a::as,vs,x=>by
  simp only[dP] at x
  obtain⟨v,r,rfl,x1,x2⟩:=x
  simp only[dB]
  exact⟨v,r,rfl,aQ.UC x1,dB.aOF x2⟩
theorem dB.append{h:bJ}{st:aB}:∀ {as bs:List AV} {vs us:List Value},dB h st as vs→dB h st bs us→dB h st (as++bs) (vs++us)
 | [],_,vs,us,x,y=>by simp only[dB] at x;subst x;simpa using y
 | a::as,_,vs,us,x,y=>by
  simp only[dB] at x
  obtain⟨c,r,rfl,x1,x2⟩:=x
  simp only[gV,dB]
  exact⟨c,r++us,rfl,x1,dB.append x2 y⟩
def aD(P:Program)(g:FuncId)(args:List AV)(st:aB)(Q:AV→aB→Prop):Prop:=
 Enters P g∧∀(w:World) (vs:List Value),cS w.heap st→dB w.heap st args vs →
  Calls P g vs.toArray w fun e w'=>∃v r st',e=.returned v∧aQ w'.heap st' r v∧cS w'.heap st'∧bX w.heap st w'.heap st'∧fC w w'∧Q r st'
theorem aD.mono{P:Program}{g:FuncId}{args:List AV}{st:aB}{Q Q':AV→aB→Prop}(x:aD P g args st Q)(h:∀r st',Q r st'→Q' r st'):aD P g args st Q':=
 ⟨x.1,fun w vs S V=>(x.2 w vs S V).mono fun _ _ ⟨v,r,st',e,a,b,c,d,q⟩=>⟨v,r,st',e,a,b,c,d,h r st' q⟩⟩
def mY(st:aB)(w:World)(K:AV→aB→Prop)(v:Value)(w':World):Prop:=
 ∃r st',aQ w'.heap st' r v∧cS w'.heap st'∧bX w.heap st w'.heap st'∧fC w w'∧K r st'
def AV.storable:AV→Bool
 | .int _ _ | .bool _ | .str _ | .slice _ | .fslice _ | .mslice _ _ _ _ | .nilptr | .ptr _ _ | .pptr _ | .nilmap | .map _ | .func _ _=>true
 | .raw v=>v.oneCell'
 | _=>false
theorem VC.CI{h:bJ}{st:aB}{a:AV}{v:Value}(x:VC h st a [v])(hs:a.storable=true):v.oneCell'=true:=by
 cases a<;>simp [AV.storable] at hs<;>simp only[VC] at x
 case int=>cases x;rfl
 case bool=>cases x;rfl
 case str=>obtain⟨x,_⟩:=x;cases x;rfl
 case slice=>rcases x with ⟨⟨_,x⟩,_⟩ | ⟨_,_,_,x,_⟩<;>cases x<;>rfl
 case fslice=>rcases x with ⟨⟨_,x⟩,_⟩ | ⟨_,_,x,_⟩<;>cases x<;>rfl
 case mslice=>obtain⟨_,x,_⟩:=x;cases x;rfl
 case nilptr=>cases x;rfl
 case ptr=>cases x;rfl
 case pptr=>obtain⟨_,_,x,_⟩:=x;cases x;rfl
 case nilmap=>cases x;rfl
 case map=>cases x;rfl
 case func=>obtain⟨_,x,_⟩:=x;cases x;rfl
 case raw=>obtain⟨x,_⟩:=x;cases x;exact hs
theorem a8.CI{h:bJ}{st:aB}:∀ {as:List AV} {vs:List Value},a8 h st as vs→as.all AV.storable=true→∀v∈vs,v.oneCell'=true
 | [],vs,x,_,v,hv=>by simp only[a8] at x;subst x;simp at hv
 | a::as,vs,x,hs,v,hv=>by
  simp only[a8] at x
  obtain⟨c,r,rfl,x1,x2⟩:=x
  simp at hs
  rcases cY.1 hv with rfl | hv
  · exact x1.CI hs.1
  · exact a8.CI x2 (by simpa using hs.2) v hv
def aK(cs:List AV)(o:Nat)(x:List AV):List AV:=cs.take o++x++cs.drop (o+x.length)
theorem BQ{h:bJ}{b:Nat}{c:Array Value}{t:TypeId}{fr:Nat×Nat}(e:h[b]?=some (.cells c t fr)):∀(n off:Nat),off+n≤c.size→eP h b off ((c.toList.drop off).take n)
 | 0,off,_=>by simp [eP]
 | n+1,off,hl=>by
  have hlt:off<c.toList.length:=by simp;omega
  rw[qS hlt,wQ]
  refine⟨?_,BQ e n (off+1) (by omega)⟩
  simp only[cellAt,e]
  simp at hlt
  simp [hlt]
theorem D7{h:bJ}{b:Nat}{c:Array Value}{t:TypeId}{fr:Nat×Nat}(e:h[b]?=some (.cells c t fr)):∀ {vs:List Value} {off:Nat},eP h b off vs→(c.toList.drop off).take vs.length=vs
 | [],_,_=>by simp
 | v::vs,off,x=>by
  have h1:=x.1
  simp only[cellAt,e] at h1
  obtain⟨hlt,hv⟩:=GN.1 h1
  have bL:off<c.toList.length:=by simpa using hlt
  rw[qS bL,aU,wQ,D7 e x.2]
  simp [hv]
theorem aP7{α:Type}(C V:List α)(o n:Nat)(h:o+V.length≤n)(hn:n≤C.length) :
 (C.take o++V++C.drop (o+V.length)).take n=(C.take n).take o++V++(C.take n).drop (o+V.length):=by
 have hA:(C.take o++V).length=o+V.length:=by simp;omega
 rw[List.take_append,hA,lM (by omega),yP,kZ (by omega),List.drop_take]
theorem bAO{P:Program}{st:aB}{w:World}{b o sz:Nat}{t:TypeId}{ag:Bool}{cs:List AV}{x:AV}{v:Value}(S:cS w.heap st)(hT:tI P t=some (ag,sz))(hs:st b=some (.cells cs))(hx:aQ w.heap st x v)
 (hw:x.cells.length=sz) (eR:o+sz≤cs.length) (hst:x.cells.all AV.storable=true) :
 ∃w',(Instr.storeAt t (.pointer (some ⟨b,o,none⟩)) v).run P w=.ok () w'∧cS w'.heap (st.aC b (.cells (aK cs o x.cells)))∧bX w.heap st w'.heap (st.aC b (.cells (aK cs o x.cells)))∧fC w w':=by
 obtain⟨hlt,c,ty,hb,hl,vs,x1,x2⟩:=S b _ hs
 have hj:x≠.junk:=by rintro rfl;simp [AV.cells,AV.storable] at hst
 have hc:=hx.cells hj
 have hlen:v.cells.toList.length=sz:=by rw[hc.length,hw]
 have cM:v.cells.size=sz:=by simpa using hlen
 obtain⟨_,r2,_⟩:=tI_run hT w
 have hvl:=x2.length
 have hH:=run_storeCells_at P b o ty v.cells.toList 0 c w hb (by omega) (hc.CI hst)
 simp only[DK,hlen] at hH
 refine⟨_,by simp only[Instr.storeAt,Instr.sureAddr,Sem.run_bind,Sem.run_pure,Result.andThen_ok,storeVar,r2,cM,ne_eq,NF,dT];exact hH,?_⟩
 generalize hc':(c.toList.take o++v.cells.toList++c.toList.drop (o+sz)).toArray=c' at *
 have hsz:c'.size=c.size:=by rw[←hc'];simp [cM];omega
 have gA:(w.setRow b c').heap[b]?=some (.cells c' ty (0,0)):=setRow_heap w b c c' ty (0,0) hb
 have nT:∀y,y<w.heap.size→y≠b→(w.setRow b c').heap[y]?=w.heap[y]?:=fun y _ hne=>setRow_other w b y c' hne
 have T:bX w.heap st (w.setRow b c').heap (st.aC b (.cells (aK cs o x.cells))):=by
  refine bX.qK (by rw[hs];simp) (by simp) nT fun c1 t1 fr1 e1=>?_
  rw[hb] at e1;cases e1
  exact⟨c',gA,hsz⟩
 have nU:(aK cs o x.cells).length=cs.length:=by simp [aK,hw];omega
 refine⟨S.qK T (by simpa using hlt) nT ⟨c',ty,gA,by rw[nU,hsz];exact hl,(c'.toList.drop 0).take cs.length,BQ gA _ 0 (by rw[hsz];omega),?_⟩,T,⟨rfl,rfl,rfl⟩⟩
 refine a8.mono T _ _ ?_
 have qD:=D7 hb x1
 simp only[r8] at qD ⊢
 have e1:c'.toList.take cs.length=vs.take o++v.cells.toList++vs.drop (o+sz):=by
  rw[←hc',←qD,hvl]
  have:=aP7 c.toList v.cells.toList o cs.length (by rw[hlen];exact eR) (by simpa using hl)
  rw[hlen] at this
  exact this
 rw[e1,aK,hw]
 exact((x2.take o).append hc).append (x2.drop (o+sz))
theorem eP.append{h:bJ}{b:Nat}:∀ {vs us:List Value} {off:Nat},eP h b off vs→eP h b (off+vs.length) us→eP h b off (vs++us)
 | [],us,off,_,y=>by simpa using y
 | v::vs,us,off,x,y=>⟨x.1,eP.append x.2 (by rw[show off+1+vs.length=off+(v::vs).length by simp;omega];exact y)⟩
theorem VC.cellsOf{h:bJ}{st:aB}{a:AV}{vs:List Value}(x:VC h st a vs):a8 h st a.cells vs:=by
 by_cases ha:a.isAgg=true
 · cases a<;>simp [AV.isAgg] at ha
   simpa [AV.cells,VC] using x
 · have ha':a.isAgg=false:=by simpa using ha
   obtain⟨c,rfl⟩:=x.one ha'
   have h3:a.cells= [a]:=by cases a<;>first | rfl | (simp [AV.isAgg] at ha')
   rw[h3]
   simp only[a8]
   exact⟨c,[],rfl,x,rfl⟩
theorem dA.flat{h:bJ}{st:aB}{b:Nat}:∀ {es:List AV} {off:Nat},dA h st b off es→∃vs,eP h b off vs∧a8 h st (es.flatMap AV.cells) vs
 | [],off,_=>⟨[],trivial,by simp [a8]⟩
 | e::es,off,x=>by
  simp only[dA] at x
  obtain⟨⟨cs,c1,c2,c3⟩,x2⟩:=x
  obtain⟨vs,v1,v2⟩:=dA.flat x2
  exact⟨cs++vs,c1.append (by rw[c2];exact v1),by simpa using c3.cellsOf.append v2⟩
theorem sJ(a:AV):a.cells.length=a.width:=by cases a<;>rfl
theorem mI{n:Nat}:∀ {es:List AV},(∀e∈es,e.width=n)→(es.flatMap AV.cells).length=es.length*n
 | [],_=>by simp
 | e::es,h=>by
  have:=mI (es:=es) (n:=n) (fun x hx=>h x (by simp [hx]))
  simp [sJ,h e (by simp),this,qV]
  omega
def yV:AV→Option (List AV)
 | .slice es | .fslice es=>some es
 | _=>none
def eB(P:Program)(t:TypeId):Option Nat:=
 match P.underlying t with
 | some (.slice e)=>(P.info? e).map (·.bytes)
 | _=>none
def w7(sz:Nat)(xs:List AV):Prop:=∀e∈xs,e.width=sz∧e.cells.all AV.storable=true
def jC(P:Program)(t:TypeId)(st:aB)(s x:AV)(K:AV→aB→Prop):Prop:=
 match eI P t,eB P t,eZ P t,yV x with
 | some (_,sz),some bytes,some zs,some xs=>zs.length=sz∧w7 sz xs ∧
  match s with
  | .fslice es=>(es.length+xs.length)*bytes≤140737488355328∧es.length+xs.length≤9223372036854775807∧(∀e∈es,e.width=sz) ∧
   (xs= []→K (.fslice es) st)∧(xs≠[]→∀b,st b=none→K (.mslice b 0 (es.length+xs.length) sz) (st.aC b (.cells ((es++xs).flatMap AV.cells))))
  | .mslice b 0 len n=>n=sz∧(len+xs.length)*bytes≤140737488355328∧len+xs.length≤9223372036854775807 ∧
   (match st b with
    | some (.cells cs)=>len*sz≤cs.length∧K (.mslice b 0 (len+xs.length) sz) (st.aC b (.cells (cs.take (len*sz)++xs.flatMap AV.cells))) ∧
     ∀b',st b'=none→K (.mslice b' 0 (len+xs.length) sz) ((st.erase b).aC b' (.cells (cs.take (len*sz)++xs.flatMap AV.cells)))
    | _=>False)
  | _=>False
 | _,_,_,_=>False
theorem a9S{P:Program}(w:World)(t ty e t':TypeId)(i:TypeInfo)(ht:P.underlying t=some (.slice e))(hi:P.info? e=some i)
 (g gT nD:Nat) (cur:Array Value) (hg:w.heap[g]?=some (.cells cur t' (0,0)))
 (a:Addr) (m c:Nat) (news:List Value) (hl:news.length=m*i.size) (a5G:∀j u,news[j]?=some u→w.cell? (a.add j)=some u) (h1:∀u∈news,u.oneCell'=true)
 (rL:gT+m≤nD) (eR:gT*i.size+news.length≤cur.size) :
 (Builtin.append_ #[t,t] ty #[.slice (some ⟨g,0,none⟩) gT nD,.slice (some a) m c]).run P w =
  .ok (.slice (some ⟨g,0,none⟩) (gT+m) nD) (w.setRow g (cur.toList.take (gT*i.size)++news++cur.toList.drop (gT*i.size+news.length)).toArray):=by
 have hf:=run_firstCells_some (P:=P) w i.size m a m c news hl a5G
 have hst:=run_storeCells_at P g (gT*i.size) t' news 0 cur w hg (by simpa using eR) h1
 simp only[DK] at hst
 simp [Builtin.append_,run_underlying ht,sizeOf,typeInfo,hi,Builtin.lenOf,rL,hf,Addr.add_lit,hst]
theorem aPA{P:Program}(w:World)(t ty e:TypeId)(i:TypeInfo)(ht:P.underlying t=some (.slice e))(hi:P.info? e=some i)(base xb:Option Addr)(n cap xc:Nat)(h:n≤cap) :
 (Builtin.append_ #[t,t] ty #[.slice base n cap,.slice xb 0 xc]).run P w=.ok (.slice base n cap) w:=by
 cases base<;>cases xb<;>simp [Builtin.append_,run_underlying ht,sizeOf,typeInfo,hi,Builtin.lenOf,h,Builtin.firstCells,loadCells,loadCellsFrom,storeCells]
section
variable {P:Program} {st:aB} {w:World}
theorem DY{o:Oper}{a:Act}{t:TypeId}{s x:Operand}{w w':World}{v:Value}(ho:o.op=.call { callee:=.builtin .append,args:=#[s,x],argTypes:=#[t,t] })
 (h:(Builtin.append_ #[t,t] o.type #[a.eval s,a.eval x]).run P w=.ok v w'):(execOp a.eval o).run P w=.ok (.value v) w':=by
 simp only[execOp,ho,resolve,Sem.run_bind,Sem.run_pure,Result.andThen_ok,invoke,builtin]
 simp [h]
theorem DX{sz need cap:Nat}{e:TypeId}{z:Value}{zs:List AV}{as:List AV}{vs:List Value}(S:cS w.heap st)(hz:a8 w.heap st zs z.cells.toList)(hzl:zs.length=sz)
 (hv:a8 w.heap st as vs) (hl:as.length=need*sz) (EM:need≤cap) (hm:cap≤maxLen) (st0:aB) (IR:∀b o,st0 b=some o→st b=some o) :
 aQ (w.drew.alloc (.cells (vs.toArray++Builtin.zeroCells z.cells (cap - need)) e)).heap (st0.aC w.heap.size (.cells as)) (.mslice w.heap.size 0 need sz) (.slice (some ⟨w.heap.size,0,none⟩) need cap) ∧
 cS (w.drew.alloc (.cells (vs.toArray++Builtin.zeroCells z.cells (cap - need)) e)).heap (st0.aC w.heap.size (.cells as)) ∧
 bX w.heap st (w.drew.alloc (.cells (vs.toArray++Builtin.zeroCells z.cells (cap - need)) e)).heap (st0.aC w.heap.size (.cells as)):=by
 generalize hc:vs.toArray++Builtin.zeroCells z.cells (cap - need)=c
 have hzz:z.cells.size=sz:=by have:=hz.length;simp at this;omega
 have hcs:c.size=cap*sz:=by
  rw[←hc]
  simp only[Array.size_append,KP,size_zeroCells,hzz,hv.length,hl,←tM]
  congr 1
  omega
 show aQ (w.heap.push (.cells c e)) _ _ _∧cS (w.heap.push (.cells c e)) _∧bX w.heap st (w.heap.push (.cells c e)) _
 have E:=Ext.push w.heap (.cells c e)
 have gA:(w.heap.push (.cells c e))[w.heap.size]?=some (.cells c e (0,0)):=by simp
 have aN8:∀b,st b=none→st0 b=none:=fun b h=>by
  cases h0:st0 b with
  | none=>rfl
  | some o=>rw[IR b o h0] at h;cases h
 have T:bX w.heap st (w.heap.push (.cells c e)) (st0.aC w.heap.size (.cells as)):=
  ⟨E.size,fun b hb h=>⟨E.aV b hb,by rw[aB.aH _ _ (by omega)];exact aN8 b h⟩,(E.step st).shape⟩
 refine⟨⟨rfl,cap,rfl,EM,hm,c,e,gA,by rw[hcs];omega⟩,fun b o hb=>?_,T⟩
 by_cases hne:b=w.heap.size
 · subst hne
   rw[aB.aJ] at hb;cases hb
   refine⟨by simp,c,e,gA,by rw[hl,hcs];exact tN _ EM,vs,?_,a8.mono T _ _ hv⟩
   have hvl:vs=(c.toList.drop 0).take vs.length:=by rw[←hc];simp
   rw[hvl]
   exact BQ gA _ 0 (by rw[←hc];simp)
 · rw[aB.aH _ _ hne] at hb
   obtain⟨l,r⟩:=S b o (IR b o hb)
   exact⟨by simp;omega,lD.mono T (E.aV b l) r⟩
theorem aT1{o:Oper}{a:Act}{φ:AF}{t:TypeId}{s x:Operand}{K:AV→aB→Prop}(ho:o.op=.call { callee:=.builtin .append,args:=#[s,x],argTypes:=#[t,t] })(F:eL w.heap st a.tmps φ)(S:cS w.heap st)
 (e:jC P t st (φ.eval s) (φ.eval x) K):∃v w',(execOp a.eval o).run P w=.ok (.value v) w'∧mY st w K v w':=by
 unfold jC at e
 split at e
 case h_2=>cases e
 rename_i ag sz bytes zs xs hI hB hZ hX
 obtain⟨hzl,eR,e⟩:=e
 obtain⟨el,hu,hT⟩:=sP hI
 obtain⟨_,_,d,i,_,hi,uH,_⟩:=tI_run hT w
 have hby:i.bytes=bytes:=by simp only[eB,hu,hi,oG,Option.some.injEq] at hB;exact hB
 obtain⟨z,hz0,hzv⟩:∃z,i.zero=some z∧a8 w.heap st zs z.cells.toList:=by
  simp only[eZ,hu] at hZ
  simp only[zI,hi] at hZ
  cases hz:i.zero with
  | none=>simp [hz] at hZ
  | some z=>simp only[hz,Option.some.injEq] at hZ;subst hZ;exact⟨z,rfl,a8.consts _ _ _⟩
 -- the second operand
 have hx:aQ w.heap st (.slice xs) (a.eval x):=by
  have y:=aQ.eval F x
  unfold yV at hX
  split at hX
  · rename_i es hx;cases hX;rw[hx] at y;exact y
  · rename_i es hx;cases hX;rw[hx] at y;exact y.H6
  · cases hX
 have hxs:∃xb xc news,a.eval x=.slice xb xs.length xc∧a8 w.heap st (xs.flatMap AV.cells) news∧(∀u∈news,u.oneCell'=true)∧news.length=xs.length*i.size ∧
  (xs≠[]→∃xa,xb=some xa∧∀j u,news[j]?=some u→w.cell? (xa.add j)=some u):=by
  have hlen:=mI (es:=xs) (n:=sz) (fun e he=>(eR e he).1)
  rcases hx.FU with ⟨⟨p0,hv⟩,rfl⟩ | ⟨b,off,cap,hv,l1,l2,e2,e3,ev,e4⟩
  · exact⟨p0,0,[],by simpa using hv,by simp [a8],by simp,by simp,by simp⟩
  · obtain⟨vs,v1,v2⟩:=e4.flat
    refine⟨_,cap,vs,hv,v2,v2.CI ?_,by rw[v2.length,hlen,uH],fun _=>⟨_,rfl,fun j u hj=>by rw[Addr.oJ,D6];exact v1.get j hj⟩⟩
    simp only[List.all_flatMap,dW]
    intro e he
    simpa using (eR e he).2
 obtain⟨xb,xc,news,hxv,hnv,hn1,hnl,hnc⟩:=hxs
 have hs:=aQ.eval F s
 split at e
 · rename_i es hes
   rw[hes] at hs
   obtain⟨hb1,hb2,hw,B3,ID⟩:=e
   by_cases hx0:xs= []
   · subst hx0
     obtain⟨base,hv⟩:∃base,a.eval s=.slice base es.length es.length:=by
      rcases hs.BW with ⟨⟨p0,hv⟩,rfl⟩ | ⟨b,off,hv,_⟩
      · exact⟨p0,hv⟩
      · exact⟨_,hv⟩
     refine⟨a.eval s,w,DY ho ?_,.fslice es,st,hs,S,bX.refl _ _,fC.refl _,B3 rfl⟩
     rw[hv,hxv]
     exact aPA w t o.type el i hu hi base xb es.length es.length xc (cU _)
   · obtain⟨xa,rfl,gQ⟩:=hnc hx0
     have hlx:0<xs.length:=by cases xs<;>simp at hx0 ⊢
     rcases hs.BW with ⟨⟨p0,hv⟩,rfl⟩ | ⟨b,off,hv,l1,e2,e3,ev,e4⟩
     · cases p0 with
       | none=>
        have hr:=run_append_nil (P:=P) w t o.type el i z hu hi hz0 xa xs.length xc news hnl gQ hlx (by simp at hb2;omega) (by rw[hby];simp at hb1;omega)
        have hN:=DX (w:=w) (st:=st) (e:=el) (need:=xs.length) (cap:=grownCap w xs.length 0 el) S hzv hzl hnv (by rw[mI (fun e he=>(eR e he).1)]) (grownCap_ge ..) (grownCap_le_maxLen _ _ _ _ (by unfold maxLen;simp at hb2;omega)) st (fun _ _ h=>h)
        refine⟨_,_,DY ho (by rw[hv,hxv];exact hr),.mslice w.heap.size 0 xs.length sz,_,hN.1,hN.2.1,hN.2.2,⟨rfl,rfl,rfl⟩,?_⟩
        have:=ID hx0 w.heap.size S.fresh
        simpa using this
       | some a0=>
        have hr:=run_append_grow (P:=P) w t o.type el i z hu hi hz0 a0 0 0 [] (by simp) (by simp) xa xs.length xc news hnl gQ (by omega) (by omega)
         (growslice_fits (by omega) (by rw[hby];simpa using hb1))
        have hN:=DX (w:=w) (st:=st) (e:=el) (need:=xs.length) (cap:=grownCap w (0+xs.length) 0 el) S hzv hzl hnv (by rw[mI (fun e he=>(eR e he).1)]) (by have:=grownCap_ge w (0+xs.length) 0 el;omega) (grownCap_le_maxLen _ _ _ _ (by unfold maxLen;simp at hb2;omega)) st (fun _ _ h=>h)
        have hvn:(([]:List Value).toArray++news.toArray)=news.toArray:=by simp
        rw[hvn,gZ] at hr
        rw[gZ] at hN
        refine⟨_,_,DY ho (by rw[hv,hxv];exact hr),.mslice w.heap.size 0 xs.length sz,_,hN.1,hN.2.1,hN.2.2,⟨rfl,rfl,rfl⟩,?_⟩
        have:=ID hx0 w.heap.size S.fresh
        simpa using this
     · obtain⟨vs,v1,v2⟩:=e4.flat
       have hlv:vs.length=es.length*i.size:=by rw[v2.length,mI hw,uH]
       have hr:=run_append_grow (P:=P) w t o.type el i z hu hi hz0 ⟨b,off,none⟩ es.length es.length vs hlv (fun j u hj=>by rw[Addr.oJ,D6];exact v1.get j hj) xa xs.length xc news hnl gQ (by omega) (by omega)
        (growslice_fits (by omega) (by rw[hby];exact hb1))
       have hN:=DX (w:=w) (st:=st) (e:=el) (need:=es.length+xs.length) (cap:=grownCap w (es.length+xs.length) es.length el) S hzv hzl (v2.append hnv)
        (by rw[dN,mI hw,mI (fun e he=>(eR e he).1),tM]) (grownCap_ge ..) (grownCap_le_maxLen _ _ _ _ (by unfold maxLen;omega)) st (fun _ _ h=>h)
       have hvn:vs.toArray++news.toArray=(vs++news).toArray:=by simp
       rw[hvn] at hr
       refine⟨_,_,DY ho (by rw[hv,hxv];exact hr),.mslice w.heap.size 0 (es.length+xs.length) sz,_,hN.1,hN.2.1,hN.2.2,⟨rfl,rfl,rfl⟩,?_⟩
       have:=ID hx0 w.heap.size S.fresh
       rwa [tL] at this
 · rename_i b len n hes
   rw[hes] at hs
   obtain⟨rfl,hb1,hb2,e⟩:=e
   split at e
   case h_2=>cases e
   rename_i cs hcs
   obtain⟨hlen,hin,IP⟩:=e
   obtain⟨cap,hv,l1,l2,c,t',gA,l3⟩:=hs.E8
   obtain⟨hlt,c',ty,hb',hl,vs,x1,x2⟩:=S b _ hcs
   rw[gA] at hb';cases hb'
   have hvl:=x2.length
   by_cases rL:len+xs.length≤cap
   · -- in place
     have IF:len*n+news.length≤c.size:=by
      rw[hnl,uH,←tM]
      have:=tN n rL
      omega
     have hH:∃c2:Array Value,(Builtin.append_ #[t,t] o.type #[a.eval s,a.eval x]).run P w=.ok (.slice (some ⟨b,0,none⟩) (len+xs.length) cap) (w.setRow b c2)∧c2.size=c.size∧c2.toList.take (len*n+news.length)=vs.take (len*n)++news:=by
      by_cases hx0:xs= []
      · subst hx0
        refine⟨c,?_,rfl,?_⟩
        · rw[hv,hxv,setRow_self w b c t' (0,0) gA]
          exact aPA w t o.type el i hu hi _ xb len cap xc l1
        · have:news= []:=o0 (by simpa using hnl)
          subst this
          have qD:=D7 gA x1
          simp only[r8] at qD
          rw[←qD,yP,kZ (by omega)]
          simp
      · obtain⟨xa,rfl,gQ⟩:=hnc hx0
        have hr:=a9S (P:=P) w t o.type el t' i hu hi b len cap c gA xa xs.length xc news hnl gQ hn1 rL (by rw[uH];exact IF)
        rw[uH] at hr
        refine⟨_,by rw[hv,hxv];exact hr,by simp;omega,?_⟩
        have qD:=D7 gA x1
        simp only[r8] at qD
        rw[←qD,yP,kZ (by omega)]
        have hA:(c.toList.take (len*n)++news).length=len*n+news.length:=by simp;omega
        show List.take _ (_++_++_)=_
        rw[DJ (by rw[hA];omega),lM (by rw[hA];omega)]
     obtain⟨c2,hr,xQ,htk⟩:=hH
     have xN:(w.setRow b c2).heap[b]?=some (.cells c2 t' (0,0)):=setRow_heap w b c c2 t' (0,0) gA
     have nT:∀y,y<w.heap.size→y≠b→(w.setRow b c2).heap[y]?=w.heap[y]?:=fun y _ hne=>setRow_other w b y c2 hne
     have T:bX w.heap st (w.setRow b c2).heap (st.aC b (.cells (cs.take (len*n)++xs.flatMap AV.cells))):=by
      refine bX.qK (by rw[hcs];simp) (by simp) nT fun c1 t1 fr1 e1=>?_
      rw[gA] at e1;cases e1
      exact⟨c2,xN,xQ⟩
     have hal:(cs.take (len*n)++xs.flatMap AV.cells).length=len*n+news.length:=by
      rw[dN,c7,←hnv.length,kZ hlen]
     refine⟨_,_,DY ho hr,.mslice b 0 (len+xs.length) n,_,⟨rfl,cap,rfl,rL,l2,c2,t',xN,by rw[xQ];exact l3⟩,S.qK T (by simpa using hlt) nT ⟨c2,t',xN,by rw[hal,xQ];exact IF,(c2.toList.drop 0).take (len*n+news.length),BQ xN _ 0 (by rw[xQ];omega),?_⟩,T,⟨rfl,rfl,rfl⟩,hin⟩
     rw[r8,htk]
     exact a8.mono T _ _ ((x2.take (len*n)).append hnv)
   · -- a new row
     have hx0:xs≠[]:=by rintro rfl;simp at rL;omega
     obtain⟨xa,rfl,gQ⟩:=hnc hx0
     have hlv:(vs.take (len*n)).length=len*i.size:=by rw[uH,c7,hvl,kZ hlen]
     have hr:=run_append_grow (P:=P) w t o.type el i z hu hi hz0 ⟨b,0,none⟩ len cap (vs.take (len*n)) hlv (fun j u hj=>by
      rw[Addr.oJ,D6];exact(x1.take (len*n)).get j hj) xa xs.length xc news hnl gQ (by omega) (by omega)
      (growslice_fits (by omega) (by rw[hby];exact hb1))
     have hN:=DX (w:=w) (st:=st) (e:=el) (need:=len+xs.length) (cap:=grownCap w (len+xs.length) cap el) S hzv hzl ((x2.take (len*n)).append hnv)
      (by rw[dN,c7,kZ hlen,mI (fun e he=>(eR e he).1),tM]) (grownCap_ge ..) (grownCap_le_maxLen _ _ _ _ (by unfold maxLen;omega)) (st.erase b)
      (fun y o h=>by unfold aB.erase at h;split at h;cases h;exact h)
     have hvn:(vs.take (len*n)).toArray++news.toArray=(vs.take (len*n)++news).toArray:=by simp
     rw[hvn] at hr
     exact⟨_,_,DY ho (by rw[hv,hxv];exact hr),.mslice w.heap.size 0 (len+xs.length) n,_,hN.1,hN.2.1,hN.2.2,⟨rfl,rfl,rfl⟩,IP w.heap.size S.fresh⟩
 · cases e
end
section
variable {P:Program} {st:aB} {w:World}
theorem QD{o:Obj}{p:AO}{r:AV}{v:Value}{K:AV→aB→Prop}(S:cS w.heap st)(hr:aQ (w.heap.push o) (st.aC w.heap.size p) r v)(ho:lD (w.heap.push o) (st.aC w.heap.size p) w.heap.size p)
 (hK:K r (st.aC w.heap.size p)):mY st w K v (w.alloc o):=
 ⟨r,_,hr,S.FB ho,bX.FB _ _ _ _,⟨rfl,rfl,rfl⟩,hK⟩
theorem aN5{t:TypeId}{as:List AV}{v:Value}{K:AV→aB→Prop}(S:cS w.heap st)(hv:a8 w.heap st as v.cells.toList)(hK:∀b,st b=none→K (.ptr b 0) (st.aC b (.cells as))) :
 mY st w K (.pointer (some ⟨w.heap.size,0,none⟩)) (w.alloc (.cells v.cells t)):=by
 refine QD S (p:=.cells as) (r:=.ptr w.heap.size 0) ⟨rfl,rfl⟩ ?_ (hK _ S.fresh)
 have hl:=hv.length
 refine⟨v.cells,t,by simp,by rw[←hl];simp,v.cells.toList,HS w.heap _ t (0,0) _ 0 rfl,a8.mono (bX.FB w.heap st _ _) _ _ hv⟩
theorem a7H{t:TypeId}{a:Act}{o:Oper}{K:AV→aB→Prop}(ho:o.op=.makeMap t none)(S:cS w.heap st)(hK:∀b,st b=none→K (.map b) (st.aC b (.map fun _=>none))) :
 ∃v w',(execOp a.eval o).run P w=.ok (.value v) w'∧mY st w K v w':=by
 refine⟨.map (some w.heap.size),w.alloc (.map #[] 0),by simp [execOp,ho,Instr.makeMap],QD S (p:=.map fun _=>none) (r:=.map w.heap.size) ⟨rfl,rfl⟩ ?_ (hK _ S.fresh)⟩
 exact⟨#[],0,by simp,by simp,by simp,by simp⟩
def j5(zs:List AV)(n:Nat):List AV:=(List.range (n*zs.length)).map fun i=>zs.getD (i % zs.length) .junk
theorem a8.aOG{h:bJ}{st:aB}:∀ {as:List AV} {vs:List Value},as.length=vs.length→(∀(i:Nat) a v,as[i]?=some a→vs[i]?=some v→VC h st a [v])→a8 h st as vs
 | [],[],_,_=>by simp [a8]
 | a::as,v::vs,hl,h=>by
  simp only[a8]
  exact⟨v,vs,rfl,h 0 a v rfl rfl,a8.aOG (by simpa using hl) fun i a' v' e1 e2=>h (i+1) a' v' (by simpa using e1) (by simpa using e2)⟩
 | [],_::_,hl,_=>by simp at hl
 | _::_,[],hl,_=>by simp at hl
theorem a8.made{h:bJ}{st:aB}{zs:List AV}{z:Array Value}(x:a8 h st zs z.toList)(n:Nat):a8 h st (j5 zs n) (((Array.range (n*z.size)).map (fun i=>z[i % z.size]!)).toList):=by
 have hl:=x.length
 have hl':z.size=zs.length:=by simpa using hl
 refine a8.aOG (by simp [j5,hl']) fun i a v e1 e2=>?_
 obtain⟨hi,e1'⟩:=fA.1 e1
 obtain⟨hi2,e2'⟩:=fA.1 e2
 simp [j5] at hi e1' e2'
 have zR:0<zs.length:=by rcases PQ zs.length with h0 | h0;(rw[h0] at hi;simp at hi);exact h0
 have aMU:i % zs.length<zs.length:=Nat.mod_lt _ zR
 rw[hl'] at e2'
 obtain⟨v',hv',hvc⟩:=x.get (i % zs.length) (a:=zs[i % zs.length]) (by simp [aMU])
 have ea:a=zs[i % zs.length]:=by rw[←e1'];simp [aMU]
 have hz:i % zs.length<z.size:=by omega
 have ev:v=v':=by
  rw[←e2',getElem!_pos z _ hz]
  simp [hz] at hv'
  exact hv'
 rw[ea,ev];exact hvc
def yX(P:Program)(t:TypeId)(st:aB)(n c:AV)(K:AV→aB→Prop):Prop:=
 match n,c,eI P t,eB P t,eZ P t with
 | .int .i64 n,.int .i64 m,some (_,sz),some bytes,some zs=>n=m∧0≤n∧n≤9223372036854775807∧n*bytes≤281474976710656∧zs.length=sz∧sz≠0 ∧
  ∀b,st b=none→K (.mslice b 0 n.toNat sz) (st.aC b (.cells (j5 zs n.toNat)))
 | _,_,_,_,_=>False
theorem a7I{t:TypeId}{a:Act}{φ:AF}{o:Oper}{x y:Operand}{K:AV→aB→Prop}(ho:o.op=.makeSlice t x y)(F:eL w.heap st a.tmps φ)(S:cS w.heap st)(e:yX P t st (φ.eval x) (φ.eval y) K) :
 ∃v w',(execOp a.eval o).run P w=.ok (.value v) w'∧mY st w K v w':=by
 have hx:=aQ.eval F x
 have hy:=aQ.eval F y
 unfold yX at e
 split at e
 case h_2=>cases e
 rename_i n m ag sz bytes zs ex ey hI hB hZ
 obtain⟨rfl,h0,hmx,hby,hzl,hsz,hK⟩:=e
 rw[ex] at hx
 rw[ey] at hy
 obtain⟨el,hu,hT⟩:=sP hI
 obtain⟨_,r2,d,i,_,hi,uH,_⟩:=tI_run hT w
 have hbi:i.bytes=bytes:=by simp only[eB,hu,hi,oG,Option.some.injEq] at hB;exact hB
 have hzs:zI P el=some zs:=by simpa [eZ,hu] using hZ
 obtain⟨z,z1,z2⟩:=zI_run hzs w.heap st w
 have hzc:z.cells.size=sz:=by have:=z2.length;simp at this;omega
 have a52:IntKind.i64.wrap n=n:=IntWalk.i64_in n (by omega)
 have uI:(decide (n<0)||decide ((bytes:Int)*n>2 ^ 48))=false:=by
  have h1:¬n<0:=by omega
  have h2:¬((bytes:Int)*n>2 ^ 48):=by rw[Int.mul_comm];omega
  simp only[h1,h2,bP,Bool.or_self]
 obtain⟨k,rfl⟩:=qR h0
 have hc':=a8.made z2 k
 generalize hcc:(Array.range (k*z.cells.size)).map (fun i=>z.cells[i % z.cells.size]!)=c at hc'
 have hcs:c.size=k*sz:=by rw[←hcc];simp [hzc]
 have run:(execOp a.eval o).run P w=.ok (.value (.slice (some ⟨w.heap.size,0,none⟩) k k)) (w.alloc (.cells c el)):=by
  simp only[execOp,ho,Instr.makeSlice,Sem.run_bind,eG hu,Result.andThen_ok,hx.kM,hy.kM,asInt,asIntOf,Sem.run_pure,typeInfo,run_program,hi,a52,hbi,uI,oY]
  have h1:(decide ((k:Int)<0)||decide ((k:Int)>(k:Int)))=false:=by simp
  rw[aE (by rw[h1];simp)]
  simp only[Sem.run_bind,run_askRoom,Result.andThen_ok,jO,r2]
  by_cases hk:k*sz=0
  · have hk0:k=0:=by rcases Nat.mul_eq_zero.1 hk with h | h;exact h;exact absurd h hsz
    subst hk0
    rw[aG hk]
    have:c= #[]:=by apply PC;omega
    subst this
    simp [newRow,Array.range]
    congr 2
    exact PC (by simp)
  · rw[aE hk]
    simp only[Sem.run_bind,z1,Result.andThen_ok,Sem.run_pure]
    rw[show(Array.range (k*sz)).map (fun i=>z.cells[i % z.cells.size]!)=c by rw[←hcc,hzc]]
    simp [newRow]
 refine⟨_,_,run,QD S (p:=.cells (j5 zs k)) (r:=.mslice w.heap.size 0 k sz) ⟨rfl,k,rfl,cU _,by unfold maxLen;omega,c,el,by simp,by rw[hcs];omega⟩
  ⟨c,el,by simp,by simp [j5,hcs,hzl],c.toList,HS w.heap _ el (0,0) _ 0 rfl,a8.mono (bX.FB w.heap st _ _) _ _ hc'⟩ (by simpa using hK _ S.fresh)⟩
def oR(f:Int→Option AV)(n:Int)(x:Option AV):Int→Option AV:=fun m=>if m=n then x else f m
def tR(P:Program)(t:TypeId)(st:aB)(m k v:AV)(K:AV→aB→Prop):Prop:=
 match m,k,P.underlying t with
 | .map b,.int .i64 n,some (.map kt _)=>match st b,P.underlying kt with
  | some (.map f),some (.int .i64)=>v.cD=false∧K .undef (st.aC b (.map (oR f n (some v))))
  | _,_=>False
 | _,_,_=>False
theorem NV{b:Nat}{es es':Array MapEntry}{cl cl':Nat}(h:w.heap[b]?=some (.map es cl)):(setObj b (.map es' cl')).run P w=.ok () { w with heap:=w.heap.setIfInBounds b (.map es' cl') }:=by
 simp only[setObj,Sem.run,h]
theorem aNV{b:Nat}{es es':Array MapEntry}{cl cl':Nat}{f:Int→Option AV}{o:AO}{K:AV→aB→Prop}(S:cS w.heap st)(hb:w.heap[b]?=some (.map es cl))(hs:st b=some (.map f))
 (ho:∀h' st',bX w.heap st h' st'→h'[b]?=some (.map es' cl')→lD h' st' b o) (hK:K .undef (st.aC b o)):mY st w K undef { w with heap:=w.heap.setIfInBounds b (.map es' cl') }:=by
 have hlt:b<w.heap.size:=(S b _ hs).1
 have gA:(w.heap.setIfInBounds b (.map es' cl'))[b]?=some (.map es' cl'):=by simp [hlt]
 have nT:∀y,y<w.heap.size→y≠b→(w.heap.setIfInBounds b (.map es' cl'))[y]?=w.heap[y]?:=fun y _ hne=>XC (c9 hne)
 have T:bX w.heap st (w.heap.setIfInBounds b (.map es' cl')) (st.aC b o):=bX.qK (by rw[hs];simp) (by simp) nT fun c t fr e=>by rw[hb] at e;cases e
 exact⟨.undef,st.aC b o,⟨rfl,rfl⟩,S.qK T (by simpa using hlt) nT (ho _ _ T gA),T,⟨rfl,rfl,rfl⟩,hK⟩
theorem a7K{t:TypeId}{a:Act}{φ:AF}{o:Oper}{m k x:Operand}{K:AV→aB→Prop}(ho:o.op=.mapUpdate t m k x)(F:eL w.heap st a.tmps φ)(S:cS w.heap st)(e:tR P t st (φ.eval m) (φ.eval k) (φ.eval x) K) :
 ∃w',(execOp a.eval o).run P w=.ok .skip w'∧mY st w K undef w':=by
 have hm:=aQ.eval F m
 have hk:=aQ.eval F k
 have hx:=aQ.eval F x
 unfold tR at e
 split at e
 case h_2=>cases e
 rename_i b n kt el em ek hu
 split at e
 case h_2=>cases e
 rename_i f hs hkt
 obtain⟨hj,hK⟩:=e
 rw[em] at hm
 rw[ek] at hk
 obtain⟨_,es,cl,hb,hk1,hk2,hk3⟩:=S b _ hs
 rcases H2 n es.toList 0 hk1 with ⟨j,e',h1,h2,h3⟩ | ⟨h1,h3⟩
 · -- there is such an entry
   have aMN:j<es.size:=by have:=(fA.1 h1).1;simpa using this
   have hej:es[j]?=some e':=by simpa using h1
   have run:(execOp a.eval o).run P w=.ok .skip { w with heap:=w.heap.setIfInBounds b (.map (es.modify j fun e=>{ e with key:=.int .i64 n,val:=a.eval x }) cl) }:=by
    simp only[execOp,ho,Instr.mapUpdate,Sem.run_bind,eG hu,Result.andThen_ok,hm.E6,hk.kM,EG hb,D8 hkt,Instr.findKey,eG hkt,h3,Sem.run_pure,gZ,hej,oG,GY,h2]
    have hsb:Instr.sameBits 10000 (.int .i64 n) (.int .i64 n)=true:=by simp [Instr.sameBits]
    simp only[Instr.keyThatStays,hsb,eX,Sem.run_pure,Result.andThen_ok,NV hb]
   refine⟨_,run,aNV (o:=.map (oR f n (some (φ.eval x)))) S hb hs (fun h' st' T hb'=>⟨_,cl,hb',?_,?_,fun q=>?_⟩) hK⟩
   · intro e he
     rw[oX,PD] at he
     obtain⟨i,hi⟩:=he
     rw[KL] at hi
     split at hi
     · cases hee:es[i]? with
       | none=>rw[hee] at hi;cases hi
       | some e0=>rw[hee] at hi;cases hi;exact⟨n,rfl⟩
     · exact hk1 e (oX.2 (DC hi))
   · have:(es.modify j fun e=>{ e with key:=Value.int .i64 n,val:=a.eval x }).toList.map (·.key)=es.toList.map (·.key):=by
      apply DH
      intro i
      simp only[mA,Array.getElem?_toList,KL]
      split
      · rename_i hij;subst hij;simp [hej,h2]
      · rfl
     rw[this];exact hk2
   · have hq:=hk3 q
     unfold oR
     by_cases hqn:q=n
     · subst hqn
       simp only[eX]
       refine⟨{ e' with key:=.int .i64 q,val:=a.eval x },?_,rfl,hx.mono T⟩
       rw[oX,PD]
       exact⟨j,by rw[KL,aG rfl,hej];try rfl⟩
     · simp only[hqn,dT]
       split
       · rename_i v hf
         rw[hf] at hq
         obtain⟨e0,he0,hk0,hv0⟩:=hq
         refine⟨e0,?_,hk0,hv0.mono T⟩
         rw[oX,PD] at he0 ⊢
         obtain⟨i,hi⟩:=he0
         refine⟨i,?_⟩
         rw[KL,aE,hi]
         rintro rfl
         rw[hej] at hi;cases hi
         rw[h2] at hk0;cases hk0;exact hqn rfl
       · rename_i hf
         rw[hf] at hq
         intro e he
         rw[oX,PD] at he
         obtain⟨i,hi⟩:=he
         rw[KL] at hi
         split at hi
         · cases hee:es[i]? with
           | none=>rw[hee] at hi;cases hi
           | some e0=>rw[hee] at hi;cases hi;simpa using fun q'=>hqn q'.symm
         · exact hq e (oX.2 (DC hi))
 · -- a new entry
   have run:(execOp a.eval o).run P w=.ok .skip { w with heap:=w.heap.setIfInBounds b (.map (es.push { key:=.int .i64 n,val:=a.eval x,born:=cl }) (cl+1)) }:=by
    simp only[execOp,ho,Instr.mapUpdate,Sem.run_bind,eG hu,Result.andThen_ok,hm.E6,hk.kM,EG hb,D8 hkt,Instr.findKey,eG hkt,h3,Sem.run_pure,NV hb]
   refine⟨_,run,aNV (o:=.map (oR f n (some (φ.eval x)))) S hb hs (fun h' st' T hb'=>⟨_,cl+1,hb',?_,?_,fun q=>?_⟩) hK⟩
   · intro e he
     simp at he
     rcases he with he | rfl
     · exact hk1 e (oX.2 he)
     · exact⟨n,rfl⟩
   · simp only[Array.toList_push,o7,bA,aY]
     rw[pS]
     refine⟨hk2,by simp,?_⟩
     intro p hp r hr
     simp at hr
     subst hr
     obtain⟨e,he,rfl⟩:=cB.1 hp
     exact h1 e he
   · have hq:=hk3 q
     unfold oR
     by_cases hqn:q=n
     · subst hqn
       simp only[eX]
       exact⟨_,by simp;exact .inr rfl,rfl,hx.mono T⟩
     · simp only[hqn,dT]
       split
       · rename_i v hf
         rw[hf] at hq
         obtain⟨e0,he0,hk0,hv0⟩:=hq
         exact⟨e0,by simp;exact .inl (oX.1 he0),hk0,hv0.mono T⟩
       · rename_i hf
         rw[hf] at hq
         intro e he
         simp at he
         rcases he with he | rfl
         · exact hq e (oX.2 he)
         · simpa using fun q'=>hqn q'.symm
def BF(P:Program)(t:TypeId)(st:aB)(m k:AV)(K:AV→aB→Prop):Prop:=
 match m,k,P.underlying t with
 | .map b,.int .i64 n,some (.map kt _)=>match st b,P.underlying kt with
  | some (.map f),some (.int .i64)=>K (.tup []) (st.aC b (.map (oR f n none)))
  | _,_=>False
 | _,_,_=>False
theorem aNW{b:Nat}{es es':Array MapEntry}{cl cl':Nat}{f:Int→Option AV}{o:AO}{K:AV→aB→Prop}(S:cS w.heap st)(hb:w.heap[b]?=some (.map es cl))(hs:st b=some (.map f))
 (ho:∀h' st',bX w.heap st h' st'→h'[b]?=some (.map es' cl')→lD h' st' b o) (hK:K (.tup []) (st.aC b o)):mY st w K (.tuple #[]) { w with heap:=w.heap.setIfInBounds b (.map es' cl') }:=by
 have hlt:b<w.heap.size:=(S b _ hs).1
 have gA:(w.heap.setIfInBounds b (.map es' cl'))[b]?=some (.map es' cl'):=by simp [hlt]
 have nT:∀y,y<w.heap.size→y≠b→(w.heap.setIfInBounds b (.map es' cl'))[y]?=w.heap[y]?:=fun y _ hne=>XC (c9 hne)
 have T:bX w.heap st (w.heap.setIfInBounds b (.map es' cl')) (st.aC b o):=bX.qK (by rw[hs];simp) (by simp) nT fun c t fr e=>by rw[hb] at e;cases e
 exact⟨.tup [],st.aC b o,⟨rfl,[],rfl,rfl⟩,S.qK T (by simpa using hlt) nT (ho _ _ T gA),T,⟨rfl,rfl,rfl⟩,hK⟩
theorem aZT{t t':TypeId}{a:Act}{φ:AF}{o:Oper}{m k:Operand}{K:AV→aB→Prop}(ho:o.op=.call { callee:=.builtin .delete,args:=#[m,k],argTypes:=#[t,t'] })(F:eL w.heap st a.tmps φ)(S:cS w.heap st)(e:BF P t st (φ.eval m) (φ.eval k) K) :
 ∃v w',(execOp a.eval o).run P w=.ok (.value v) w'∧mY st w K v w':=by
 have hm:=aQ.eval F m
 have hk:=aQ.eval F k
 unfold BF at e
 split at e
 case h_2=>cases e
 rename_i b n kt el em ek hu
 split at e
 case h_2=>cases e
 rename_i f hs hkt
 rw[em] at hm
 rw[ek] at hk
 obtain⟨_,es,cl,hb,hk1,hk2,hk3⟩:=S b _ hs
 rcases H2 n es.toList 0 hk1 with ⟨j,e',h1,h2,h3⟩ | ⟨h1,h3⟩
 · have aMN:j<es.size:=by have:=(fA.1 h1).1;simpa using this
   have qC:(es.eraseIdxIfInBounds j).toList=es.toList.eraseIdx j:=by
    unfold Array.eraseIdxIfInBounds
    rw[dif_pos aMN]
    simp
   have run:(execOp a.eval o).run P w=.ok (.value (.tuple #[])) { w with heap:=w.heap.setIfInBounds b (.map (es.eraseIdxIfInBounds j) cl) }:=by
    simp only[execOp,ho,resolve,Sem.run_bind,Sem.run_pure,Result.andThen_ok,invoke,builtin]
    simp [Builtin.delete_,eG hu,hm.E6,hk.kM,EG hb,D8 hkt,Instr.findKey,eG hkt,h3,NV hb,Result.andThen]
   have eT:∀x∈(es.eraseIdxIfInBounds j).toList,x∈es.toList:=fun x hx=>by rw[qC] at hx;exact(List.eraseIdx_sublist _ _).subset hx
   have a4S:∀x∈(es.eraseIdxIfInBounds j).toList,x.key≠.int .i64 n:=fun x hx hxn=>by
    rw[qC] at hx
    obtain⟨i,hi⟩:=A9 hx
    rw[List.getElem?_eraseIdx] at hi
    have key:∀i',i'≠j→es.toList[i']?=some x→False:=fun i' hne hx'=>by
     have ha:(es.toList.map (·.key))[i']?=some (.int .i64 n):=by rw[mA,hx'];simp [hxn]
     have hb':(es.toList.map (·.key))[j]?=some (.int .i64 n):=by rw[mA,h1];simp [h2]
     have hlt:i'<(es.toList.map (·.key)).length:=(fA.1 ha).1
     exact hne ((List.getElem?_inj hlt hk2).1 (ha.trans hb'.symm))
    split at hi
    · exact key i (by omega) hi
    · exact key (i+1) (by omega) hi
   refine⟨_,_,run,aNW (o:=.map (oR f n none)) S hb hs (fun h' st' T hb'=>⟨_,cl,hb',fun x hx=>hk1 x (eT x hx),?_,fun q=>?_⟩) e⟩
   · rw[qC]
     exact hk2.sublist ((List.eraseIdx_sublist _ _).map _)
   · have hq:=hk3 q
     unfold oR
     by_cases hqn:q=n
     · subst hqn
       simp only[eX]
       exact a4S
     · simp only[hqn,dT]
       split
       · rename_i v hf
         rw[hf] at hq
         obtain⟨e0,he0,hk0,hv0⟩:=hq
         refine⟨e0,?_,hk0,hv0.mono T⟩
         rw[qC]
         obtain⟨i,hi⟩:=A9 he0
         have hne:i≠j:=by
          rintro rfl
          rw[h1] at hi;cases hi
          rw[h2] at hk0;cases hk0;exact hqn rfl
         rw[List.mem_iff_getElem?]
         rcases lN i j with h | h
         · exact⟨i,by rw[List.getElem?_eraseIdx,aG h];exact hi⟩
         · exact⟨i - 1,by rw[List.getElem?_eraseIdx,aE (by omega),show i - 1+1=i by omega];exact hi⟩
       · rename_i hf
         rw[hf] at hq
         exact fun x hx=>hq x (eT x hx)
 · have run:(execOp a.eval o).run P w=.ok (.value (.tuple #[])) { w with heap:=w.heap.setIfInBounds b (.map es cl) }:=by
    simp only[execOp,ho,resolve,Sem.run_bind,Sem.run_pure,Result.andThen_ok,invoke,builtin]
    simp [Builtin.delete_,eG hu,hm.E6,hk.kM,EG hb,D8 hkt,Instr.findKey,eG hkt,h3,NV hb,Result.andThen]
   refine⟨_,_,run,aNW (o:=.map (oR f n none)) S hb hs (fun h' st' T hb'=>⟨_,cl,hb',hk1,hk2,fun q=>?_⟩) e⟩
   have hq:=hk3 q
   unfold oR
   by_cases hqn:q=n
   · subst hqn
     simp only[eX]
     exact h1
   · simp only[hqn,dT]
     split
     · rename_i v hf
       rw[hf] at hq
       obtain⟨e0,he0,hk0,hv0⟩:=hq
       exact⟨e0,he0,hk0,hv0.mono T⟩
     · rename_i hf
       rw[hf] at hq
       exact hq
end
def tP(P:Program)(t t':TypeId)(st:aB)(s x:AV)(K:AV→aB→Prop):Prop:=
 match eI P t,eB P t,eZ P t,P.underlying t',x with
 | some (_,sz),some bytes,some zs,some (.int _),.int .i64 k=>zs.length=sz∧sz≠0∧zs.all AV.storable=true∧0≤k ∧
  match s with
  | .fslice es=>es= []∧k.toNat*bytes≤140737488355328∧k≤9223372036854775807 ∧
   (k.toNat=0→K (.fslice []) st)∧(k.toNat≠0→∀b,st b=none→K (.mslice b 0 k.toNat sz) (st.aC b (.cells (j5 zs k.toNat))))
  | .mslice b 0 len n=>n=sz∧(len+k.toNat)*bytes≤140737488355328∧len+k.toNat≤9223372036854775807 ∧
   (match st b with
    | some (.cells cs)=>len*sz≤cs.length∧K (.mslice b 0 (len+k.toNat) sz) (st.aC b (.cells (cs.take (len*sz)++j5 zs k.toNat))) ∧
     ∀b',st b'=none→K (.mslice b' 0 (len+k.toNat) sz) ((st.erase b).aC b' (.cells (cs.take (len*sz)++j5 zs k.toNat)))
    | _=>False)
  | _=>False
 | _,_,_,_,_=>False
theorem aNT(zs:List AV)(n:Nat):(j5 zs n).length=n*zs.length:=by simp [j5]
theorem bC2{z:Array Value}:Builtin.zeroCells z 0= #[]:=by apply PC;simp [size_zeroCells]
theorem a9R{P:Program}(w:World)(t tn ty e t':TypeId)(i:TypeInfo)(z:Value)(kn:IntKind)(ht:P.underlying t=some (.slice e))(htn:P.underlying tn=some (.int kn))(hi:P.info? e=some i)(hz:i.zero=some z)(hzs:z.cells.size=i.size)(hs:0<i.size)
 (g gT nD:Nat) (cur:Array Value) (hg:w.heap[g]?=some (.cells cur t' (0,0)))
 (n:Nat) (h1:∀u∈(Builtin.zeroCells z.cells n).toList,u.oneCell'=true) (h63:(n:Int)≤9223372036854775807) (h48:n*i.bytes≤281474976710656)
 (rL:gT+n≤nD) (eR:gT*i.size+n*i.size≤cur.size) :
 (Builtin.append_ #[t,tn] ty #[.slice (some ⟨g,0,none⟩) gT nD,.int .i64 n]).run P w =
  .ok (.slice (some ⟨g,0,none⟩) (gT+n) nD) (w.setRow g (cur.toList.take (gT*i.size)++(Builtin.zeroCells z.cells n).toList++cur.toList.drop (gT*i.size+n*i.size)).toArray):=by
 have hw:IntKind.i64.wrap (n:Int)=n:=by rw[IntKind.wrap_i64];omega
 have SH:¬(281474976710656<(n:Int)*(i.bytes:Int)):=by rw[←Int.natCast_mul];omega
 have xP:¬((n:Int)<0):=by omega
 have hzl:(Builtin.zeroCells z.cells n).toList.length=n*i.size:=by simp [size_zeroCells,hzs]
 have hst:=run_storeCells_at P g (gT*i.size) t' (Builtin.zeroCells z.cells n).toList 0 cur w hg (by rw[hzl];simpa using eR) h1
 simp only[DK] at hst
 rw[hzl] at hst
 by_cases hn:n=0
 · subst hn
   rw[bC2] at hst ⊢
   have a5R:gT≤nD:=by simpa using rL
   simp at hst
   simp [Builtin.append_,run_underlying ht,run_underlying htn,sizeOf,typeInfo,hi,asInt,asIntOf,IntKind.wrap_i64,a5R,Addr.add_lit,hst]
 · have hns:¬(n*i.size=0):=Nat.mul_ne_zero hn (by omega)
   simp [Builtin.append_,run_underlying ht,run_underlying htn,sizeOf,typeInfo,zeroValue,hi,hz,asInt,asIntOf,hw,xP,hns,SH,rL,Addr.add_lit,hst]
theorem aO9{P:Program}(w:World)(t tn ty e:TypeId)(i:TypeInfo)(z:Value)(kn:IntKind)(ht:P.underlying t=some (.slice e))(htn:P.underlying tn=some (.int kn))(hi:P.info? e=some i)(hz:i.zero=some z)(hs:0<i.size)
 (base:Option Addr) (gT nD:Nat) (FF:List Value) (hlo:FF.length=gT*i.size) (hn0:base=none→gT=0) (holds:∀b,base=some b→∀j v,FF[j]?=some v→w.cell? (b.add j)=some v)
 (n:Nat) (hg:nD<gT+n) (h0:0<n) (h63:((gT+n:Nat):Int)≤9223372036854775807) (h48:n*i.bytes≤281474976710656) (eR:Builtin.nextslicecap (gT+n) nD*i.bytes≤281474976710656) :
 (Builtin.append_ #[t,tn] ty #[.slice base gT nD,.int .i64 n]).run P w =
  .ok (.slice (some ⟨w.heap.size,0,none⟩) (gT+n) (grownCap w (gT+n) nD e))
   (w.drew.alloc (.cells ((FF++(Builtin.zeroCells z.cells n).toList).toArray++Builtin.zeroCells z.cells (grownCap w (gT+n) nD e - (gT+n))) e)):=by
 have hw:IntKind.i64.wrap (n:Int)=n:=by rw[IntKind.wrap_i64];omega
 have SH:¬(281474976710656<(n:Int)*(i.bytes:Int)):=by rw[←Int.natCast_mul];omega
 have xP:¬((n:Int)<0):=by omega
 have hns:¬(n*i.size=0):=Nat.mul_ne_zero (by omega) (by omega)
 have hn:¬(gT+n≤nD):=by omega
 have a3M:¬(9223372036854775807<((gT:Int)+(n:Int))):=by omega
 have EK:¬(281474976710656<Builtin.nextslicecap (gT+n) nD*i.bytes):=by omega
 have hfo:(Builtin.firstCells i.size gT (.slice base gT nD)).run P w.drew=.ok FF.toArray w.drew:=by
  cases base with
  | none=>
   have:=hn0 rfl
   subst this
   have:FF= []:=o0 (by simpa using hlo)
   subst this
   exact run_firstCells_none ..
  | some b=>exact run_firstCells_some (P:=P) w.drew i.size gT b gT nD FF hlo (by simpa using holds b rfl)
 simp [Builtin.append_,run_underlying ht,run_underlying htn,sizeOf,typeInfo,zeroValue,hi,hz,asInt,asIntOf,hw,xP,hns,SH,hn,a3M,EK,Question.forced,hfo,newRow,grownCap]
 congr 2
 apply Array.ext'
 simp [lL]
section
variable {P:Program} {st:aB} {w:World}
theorem K9{o:Oper}{a:Act}{t t':TypeId}{s x:Operand}{w w':World}{v:Value}(ho:o.op=.call { callee:=.builtin .append,args:=#[s,x],argTypes:=#[t,t'] })
 (h:(Builtin.append_ #[t,t'] o.type #[a.eval s,a.eval x]).run P w=.ok v w'):(execOp a.eval o).run P w=.ok (.value v) w':=by
 simp only[execOp,ho,resolve,Sem.run_bind,Sem.run_pure,Result.andThen_ok,invoke,builtin]
 simp [h]
theorem aT0{o:Oper}{a:Act}{φ:AF}{t t':TypeId}{s x:Operand}{K:AV→aB→Prop}(ho:o.op=.call { callee:=.builtin .append,args:=#[s,x],argTypes:=#[t,t'] })(F:eL w.heap st a.tmps φ)(S:cS w.heap st)
 (e:tP P t t' st (φ.eval s) (φ.eval x) K):∃v w',(execOp a.eval o).run P w=.ok (.value v) w'∧mY st w K v w':=by
 unfold tP at e
 split at e
 case h_2=>cases e
 rename_i ag sz bytes zs kn k hI hB hZ hT' hX
 obtain⟨hzl,hsz,hst,hk0,e⟩:=e
 obtain⟨n,rfl⟩:=qR hk0
 simp only[jO] at e
 obtain⟨el,hu,hT⟩:=sP hI
 obtain⟨_,_,d,i,_,hi,uH,_⟩:=tI_run hT w
 have hby:i.bytes=bytes:=by simp only[eB,hu,hi,oG,Option.some.injEq] at hB;exact hB
 obtain⟨z,hz0,hzv⟩:∃z,i.zero=some z∧a8 w.heap st zs z.cells.toList:=by
  simp only[eZ,hu] at hZ
  simp only[zI,hi] at hZ
  cases hz:i.zero with
  | none=>simp [hz] at hZ
  | some z=>simp only[hz,Option.some.injEq] at hZ;subst hZ;exact⟨z,rfl,a8.consts _ _ _⟩
 have hzc:z.cells.size=sz:=by have:=hzv.length;simp at this;omega
 have hxv:a.eval x=.int .i64 n:=by
  have y:=aQ.eval F x
  rw[hX] at y
  exact y.kM
 have hs:=aQ.eval F s
 have hnv:a8 w.heap st (j5 zs n) (Builtin.zeroCells z.cells n).toList:=hzv.made n
 have hml:=aNT zs n
 split at e
 · rename_i es hes
   rw[hes] at hs
   obtain⟨rfl,hb1,hb2,B3,ID⟩:=e
   obtain⟨base,hv⟩:∃base,a.eval s=.slice base 0 0:=by
    rcases hs.BW with ⟨⟨p0,hv⟩,_⟩ | ⟨b,off,hv,_⟩
    · exact⟨p0,hv⟩
    · exact⟨_,hv⟩
   by_cases hn:n=0
   · subst hn
     refine⟨a.eval s,w,K9 ho ?_,.fslice [],st,hs,S,bX.refl _ _,fC.refl _,B3 rfl⟩
     rw[hv,hxv]
     cases base<;>simp [Builtin.append_,run_underlying hu,run_underlying hT',sizeOf,typeInfo,hi,asInt,asIntOf,IntKind.wrap_i64,storeCells]
   · have hr:=aO9 (P:=P) w t t' o.type el i z kn hu hT' hi hz0 (by omega) base 0 0 [] (by simp) (fun _=>rfl) (by simp) n (by omega) (by omega) (by omega) (by rw[hby];omega)
      (growslice_fits (by omega) (by rw[hby];simpa using hb1))
     have hN:=DX (w:=w) (st:=st) (e:=el) (need:=n) (cap:=grownCap w (0+n) 0 el) S hzv hzl hnv (by rw[hml,hzl]) (by have:=grownCap_ge w (0+n) 0 el;omega) (grownCap_le_maxLen _ _ _ _ (by unfold maxLen;omega)) st (fun _ _ h=>h)
     simp only[fB,gZ] at hr
     rw[gZ] at hN
     exact⟨_,_,K9 ho (by rw[hv,hxv];exact hr),.mslice w.heap.size 0 n sz,_,hN.1,hN.2.1,hN.2.2,⟨rfl,rfl,rfl⟩,ID hn w.heap.size S.fresh⟩
 · rename_i b len m hes
   rw[hes] at hs
   obtain⟨rfl,hb1,hb2,e⟩:=e
   split at e
   case h_2=>cases e
   rename_i cs hcs
   obtain⟨hlen,hin,IP⟩:=e
   obtain⟨cap,hv,l1,l2,c,ty',gA,l3⟩:=hs.E8
   obtain⟨hlt,c',ty,hb',hl,vs,x1,x2⟩:=S b _ hcs
   rw[gA] at hb';cases hb'
   have hvl:=x2.length
   have h48:n*i.bytes≤281474976710656:=by
    have:n*bytes≤(len+n)*bytes:=tN _ (by omega)
    rw[hby];omega
   have a55:(Builtin.zeroCells z.cells n).toList.length=n*m:=by simp [size_zeroCells,hzc]
   by_cases rL:len+n≤cap
   · have IF:len*m+n*m≤c.size:=by
      rw[←tM]
      have:=tN m rL
      omega
     have hr:=a9R (P:=P) w t t' o.type el ty' i z kn hu hT' hi hz0 (by omega) (by omega) b len cap c gA n (hnv.CI (by
      simp only[j5,List.all_map,dW]
      intro j hj
      simp only[wO] at hj
      have hp:0<zs.length:=by omega
      have hm:=Nat.mod_lt j hp
      simp only[Function.comp,XJ,d4 hm,GY]
      exact dW.1 hst _ (List.getElem_mem hm))) (by omega) h48 rL (by rw[uH];exact IF)
     rw[uH] at hr
     generalize hc2:(c.toList.take (len*m)++(Builtin.zeroCells z.cells n).toList++c.toList.drop (len*m+n*m)).toArray=c2 at hr
     have xQ:c2.size=c.size:=by rw[←hc2];simp [size_zeroCells,hzc];omega
     have htk:c2.toList.take (len*m+n*m)=vs.take (len*m)++(Builtin.zeroCells z.cells n).toList:=by
      have qD:=D7 gA x1
      simp only[r8] at qD
      rw[←qD,yP,kZ (by omega)]
      have hA:(c.toList.take (len*m)++(Builtin.zeroCells z.cells n).toList).length=len*m+n*m:=by rw[dN,a55];simp;omega
      rw[←hc2]
      show List.take _ (_++_++_)=_
      rw[DJ (by rw[hA];omega),lM (by rw[hA];omega)]
     have xN:(w.setRow b c2).heap[b]?=some (.cells c2 ty' (0,0)):=setRow_heap w b c c2 ty' (0,0) gA
     have nT:∀y,y<w.heap.size→y≠b→(w.setRow b c2).heap[y]?=w.heap[y]?:=fun y _ hne=>setRow_other w b y c2 hne
     have T:bX w.heap st (w.setRow b c2).heap (st.aC b (.cells (cs.take (len*m)++j5 zs n))):=by
      refine bX.qK (by rw[hcs];simp) (by simp) nT fun c1 t1 fr1 e1=>?_
      rw[gA] at e1;cases e1
      exact⟨c2,xN,xQ⟩
     have hal:(cs.take (len*m)++j5 zs n).length=len*m+n*m:=by
      rw[dN,c7,hml,hzl,kZ hlen]
     refine⟨_,_,K9 ho (by rw[hv,hxv];exact hr),.mslice b 0 (len+n) m,_,⟨rfl,cap,rfl,rL,l2,c2,ty',xN,by rw[xQ];exact l3⟩,S.qK T (by simpa using hlt) nT ⟨c2,ty',xN,by rw[hal,xQ];exact IF,(c2.toList.drop 0).take (len*m+n*m),BQ xN _ 0 (by rw[xQ];omega),?_⟩,T,⟨rfl,rfl,rfl⟩,hin⟩
     rw[r8,htk]
     exact a8.mono T _ _ ((x2.take (len*m)).append hnv)
   · have hlv:(vs.take (len*m)).length=len*i.size:=by rw[uH,c7,hvl,kZ hlen]
     have hr:=aO9 (P:=P) w t t' o.type el i z kn hu hT' hi hz0 (by omega) (some ⟨b,0,none⟩) len cap (vs.take (len*m)) hlv (by simp) (fun a0 ha0 j u hj=>by
      cases ha0
      rw[Addr.oJ,D6];exact(x1.take (len*m)).get j hj) n (by omega) (by omega) (by omega) h48
      (growslice_fits (by omega) (by rw[hby];exact hb1))
     have hN:=DX (w:=w) (st:=st) (e:=el) (need:=len+n) (cap:=grownCap w (len+n) cap el) S hzv hzl ((x2.take (len*m)).append hnv)
      (by rw[dN,c7,kZ hlen,hml,hzl,tM]) (grownCap_ge ..) (grownCap_le_maxLen _ _ _ _ (by unfold maxLen;omega)) (st.erase b)
      (fun y o h=>by unfold aB.erase at h;split at h;cases h;exact h)
     exact⟨_,_,K9 ho (by rw[hv,hxv];exact hr),.mslice w.heap.size 0 (len+n) m,_,hN.1,hN.2.1,hN.2.2,⟨rfl,rfl,rfl⟩,IP w.heap.size S.fresh⟩
 · cases e
end
def wV(P:Program)(t:TypeId)(st:aB)(x:AV)(K:AV→aB→Prop):Prop:=
 match eI P t,eZ P t,x with
 | some (_,sz),some zs,.mslice b off n m=>m=sz∧sz≠0∧zs.length=sz∧zs.all AV.storable=true ∧
  (match st b with
   | some (.cells cs)=>off+n*sz≤cs.length∧K (.tup []) (st.aC b (.cells (aK cs off (j5 zs n))))
   | _=>False)
 | some _,some _,.eslice=>K (.tup []) st
 | _,_,_=>False
section
variable {P:Program} {st:aB} {w:World}
theorem bCY{b o:Nat}{cs X:List AV}{V:List Value}(S:cS w.heap st)(hs:st b=some (.cells cs))(hX:a8 w.heap st X V)(eR:o+X.length≤cs.length)(hst:X.all AV.storable=true) :
 ∃w',(storeCells ⟨b,o,none⟩ V).run P w=.ok () w'∧cS w'.heap (st.aC b (.cells (aK cs o X)))∧bX w.heap st w'.heap (st.aC b (.cells (aK cs o X)))∧fC w w':=by
 obtain⟨hlt,c,ty,hb,hl,vs,x1,x2⟩:=S b _ hs
 have hlen:V.length=X.length:=hX.length
 have hvl:=x2.length
 have hH:=run_storeCells_at P b o ty V 0 c w hb (by omega) (hX.CI hst)
 simp only[DK,hlen] at hH
 refine⟨_,hH,?_⟩
 generalize hc':(c.toList.take o++V++c.toList.drop (o+X.length)).toArray=c' at *
 have hsz:c'.size=c.size:=by rw[←hc'];simp [hlen];omega
 have gA:(w.setRow b c').heap[b]?=some (.cells c' ty (0,0)):=setRow_heap w b c c' ty (0,0) hb
 have nT:∀y,y<w.heap.size→y≠b→(w.setRow b c').heap[y]?=w.heap[y]?:=fun y _ hne=>setRow_other w b y c' hne
 have T:bX w.heap st (w.setRow b c').heap (st.aC b (.cells (aK cs o X))):=by
  refine bX.qK (by rw[hs];simp) (by simp) nT fun c1 t1 fr1 e1=>?_
  rw[hb] at e1;cases e1
  exact⟨c',gA,hsz⟩
 have nU:(aK cs o X).length=cs.length:=by simp [aK];omega
 refine⟨S.qK T (by simpa using hlt) nT ⟨c',ty,gA,by rw[nU,hsz];exact hl,(c'.toList.drop 0).take cs.length,BQ gA _ 0 (by rw[hsz];omega),?_⟩,T,⟨rfl,rfl,rfl⟩⟩
 refine a8.mono T _ _ ?_
 have qD:=D7 hb x1
 simp only[r8] at qD ⊢
 have e1:c'.toList.take cs.length=vs.take o++V++vs.drop (o+X.length):=by
  rw[←hc',←qD,hvl]
  have:=aP7 c.toList V o cs.length (by rw[hlen];exact eR) (by simpa using hl)
  rw[hlen] at this
  exact this
 rw[e1,aK]
 exact((x2.take o).append hX).append (x2.drop (o+X.length))
theorem aZK{o:Oper}{a:Act}{φ:AF}{t:TypeId}{x:Operand}{K:AV→aB→Prop}(ho:o.op=.call { callee:=.builtin .clear,args:=#[x],argTypes:=#[t] })(F:eL w.heap st a.tmps φ)(S:cS w.heap st)
 (e:wV P t st (φ.eval x) K):∃v w',(execOp a.eval o).run P w=.ok (.value v) w'∧mY st w K v w':=by
 unfold wV at e
 split at e
 case h_3=>cases e
 case h_2=>
  rename_i q zs hI hZ hx
  obtain⟨ag,sz⟩:=q
  have hs:=aQ.eval F x
  rw[hx] at hs
  obtain⟨p0,c0,hv⟩:=hs.RY
  obtain⟨el,hu,hT⟩:=sP hI
  have run:(execOp a.eval o).run P w=.ok (.value (.tuple #[])) w:=by
   simp only[execOp,ho,resolve,Sem.run_bind,Sem.run_pure,Result.andThen_ok,invoke,builtin]
   cases p0<;>simp [Builtin.clear_,eG hu,hv]
  exact⟨_,_,run,.tup [],st,⟨rfl,[],rfl,rfl⟩,S,bX.refl _ _,fC.refl _,e⟩
 rename_i ag sz zs b off n m hI hZ hx
 obtain⟨rfl,hsz,hzl,hst,e⟩:=e
 split at e
 case h_2=>cases e
 rename_i cs hcs
 obtain⟨eR,hK⟩:=e
 have hs:=aQ.eval F x
 rw[hx] at hs
 obtain⟨cap,hv,l1,l2,c,ty',gA,l3⟩:=hs.E8
 obtain⟨el,hu,hT⟩:=sP hI
 have hzs:zI P el=some zs:=by simpa [eZ,hu] using hZ
 obtain⟨z,z1,z2⟩:=zI_run hzs w.heap st w
 have hnv:a8 w.heap st (j5 zs n) (Builtin.zeroCells z.cells n).toList:=z2.made n
 have hml:=aNT zs n
 rcases PQ n with rfl | hn
 · have run:(execOp a.eval o).run P w=.ok (.value (.tuple #[])) w:=by
    simp only[execOp,ho,resolve,Sem.run_bind,Sem.run_pure,Result.andThen_ok,invoke,builtin]
    simp [Builtin.clear_,eG hu,hv]
   have he:st.aC b (.cells (aK cs off (j5 zs 0)))=st:=by
    funext y
    simp only[aB.aC]
    split
    · rename_i h;rw[h,hcs];simp [aK,j5]
    · rfl
   rw[he] at hK
   exact⟨_,_,run,.tup [],st,⟨rfl,[],rfl,rfl⟩,S,bX.refl _ _,fC.refl _,hK⟩
 · obtain⟨w',h1,h2,h3,h4⟩:=bCY (P:=P) (o:=off) S hcs hnv (by rw[hml,hzl];exact eR) (by
    simp only[j5,List.all_map,dW]
    intro j hj
    simp only[wO] at hj
    have hp:0<zs.length:=by omega
    have hm:=Nat.mod_lt j hp
    simp only[Function.comp,XJ,d4 hm,GY]
    exact dW.1 hst _ (List.getElem_mem hm))
   have run:(execOp a.eval o).run P w=.ok (.value (.tuple #[])) w':=by
    obtain⟨k,rfl⟩:∃k,n=k+1:=⟨n - 1,by omega⟩
    simp only[execOp,ho,resolve,Sem.run_bind,Sem.run_pure,Result.andThen_ok,invoke,builtin]
    simp [Builtin.clear_,eG hu,hv,z1,h1]
   exact⟨_,_,run,.tup [],_,⟨rfl,[],rfl,rfl⟩,h2,h3,h4,hK⟩
end
def DB(mt:List Nat):Option Tmp→Bool
 | some d=>mt.contains d
 | none=>false
def fD(P:Program)(mt:List Nat)(φ:AF)(st:aB)(o:Oper)(K:AV→aB→Prop):Prop:=
 match o.op with
 | .call { callee:=.value f,args,.. }=>match φ.eval f with
  | .func g dD=>aD P g (args.toList.map φ.eval++dD) st K
  | _=>False
 | .call { callee:=.builtin .append,args,argTypes }=>match args.toList,argTypes.toList with
  | [s,x],[t,t']=>if t=t' then jC P t st (φ.eval s) (φ.eval x) K else tP P t t' st (φ.eval s) (φ.eval x) K
  | _,_=>False
 | .call { callee:=.builtin .delete,args,argTypes }=>match args.toList,argTypes.toList with
  | [m,k],[t,_]=>BF P t st (φ.eval m) (φ.eval k) K
  | _,_=>False
 | .call { callee:=.builtin .clear,args,argTypes }=>match args.toList,argTypes.toList with
  | [x],[t]=>wV P t st (φ.eval x) K
  | _,_=>False
 | .box t x=>if DB mt o.dst=true then
  (φ.eval x).cD=false∧∀b,st b=none→K (.ptr b 0) (st.aC b (.cells (φ.eval x).cells))
  else match yH P t (φ.eval x) with | some r=>K r st | none=>False
 | .alloc t=>match zI P t with
  | some zs=>∀b,st b=none→K (.ptr b 0) (st.aC b (.cells zs))
  | none=>False
 | .store t p x=>match φ.eval p with
  | .ptr b q=>match st b,tI P t with
   | some (.cells cs),some (_,sz)=>(φ.eval x).cells.length=sz∧q+sz≤cs.length∧(φ.eval x).cells.all AV.storable=true∧K .undef (st.aC b (.cells (aK cs q (φ.eval x).cells)))
   | _,_=>False
  | _=>False
 | .makeMap _ none=>∀b,st b=none→K (.map b) (st.aC b (.map fun _=>none))
 | .makeSlice t n c=>yX P t st (φ.eval n) (φ.eval c) K
 | .mapUpdate t m k x=>tR P t st (φ.eval m) (φ.eval k) (φ.eval x) K
 | _=>match lQ P φ st o with | some r=>K r st | none=>False
theorem mY.aOI{st:aB}{w:World}{r:AV}{x:Result Next}{K:AV→aB→Prop}(y:jP st w r x)(S:cS w.heap st)(k:K r st):∃v w',x=.ok (.value v) w'∧mY st w K v w':=by
 obtain⟨v,w',e,hv,E,hS⟩:=y
 exact⟨v,w',e,r,st,hv,S.ext E,E.step st,hS,k⟩
theorem aY0{P:Program}{g:FuncId}(h:Enters P g)(args:Array Value)(w:World):(callFunc g args).run P w=.ok (.enter g args) w:=by
 obtain⟨fn,h1,h2,h3⟩:=h
 have hb:fn.body.isNone=false:=by cases hb:fn.body<;>simp_all
 simp only[callFunc,Sem.run_bind,run_program,Result.andThen_ok,h1,h3,hb,fX,dT,Sem.run_pure]
theorem K2{P:Program}{mt:List Nat}{st:aB}{w:World}{a:Act}{φ:AF}{o:Oper}{K:AV→aB→Prop}{next:Act→World→Prop}{Q:Exit→Act→World→Prop}(F:eL w.heap st a.tmps φ)(S:cS w.heap st)
 (e:fD P mt φ st o K) (hn:∀v w',mY st w K v w'→next (a.put o.dst v) w'):o.wp P a w next Q:=by
 have val:(∃v w',(execOp a.eval o).run P w=.ok (.value v) w'∧mY st w K v w')→o.wp P a w next Q:=by
  rintro⟨v,w',h1,h2⟩
  simp only[Oper.wp,h1,Oper.upon]
  exact hn v w' h2
 have skp:(∃w',(execOp a.eval o).run P w=.ok .skip w'∧mY st w K Go.undef w')→o.wp P a w next Q:=by
  rintro⟨w',h1,h2⟩
  simp only[Oper.wp,h1,Oper.upon]
  exact hn _ w' h2
 unfold fD at e
 split at e
 case h_1 f args ats ho=>
  split at e
  case h_2=>cases e
  rename_i g dD hf
  have yf:=aQ.eval F f
  rw[hf] at yf
  obtain⟨cvs,hv,hc⟩:=yf.a3G
  obtain⟨hE,sR⟩:=e
  have rG:=(dB.eval F args.toList).append (dB.aOF hc)
  have hH:(execOp a.eval o).run P w=.ok (.enter g (args.toList.map a.eval++cvs).toArray) w:=by
   have: #[]++Array.map a.eval args++cvs.toArray=(args.toList.map a.eval++cvs).toArray:=by apply Array.ext';simp
   simp only[execOp,ho,resolve,hv,Deferred.ofValue,Sem.run_bind,Sem.run_pure,Result.andThen_ok,invoke,this,aY0 hE]
  simp only[Oper.wp,hH,Oper.upon]
  refine(sR w _ S rG).mono ?_
  rintro e' w' ⟨v,r,st',rfl,x1,x2,x3,x4,x5⟩
  exact hn v w' ⟨r,st',x1,x2,x3,x4,x5⟩
 case h_2 args ats ho=>
  split at e
  case h_2=>cases e
  rename_i s x t t' hx ht
  obtain rfl:args= #[s,x]:=by rw[←vA (xs:=args),hx]
  obtain rfl:ats= #[t,t']:=by rw[←vA (xs:=ats),ht]
  split at e
  · rename_i htt;subst htt
    exact val (aT1 ho F S e)
  · exact val (aT0 ho F S e)
 case h_3 args ats ho=>
  split at e
  case h_2=>cases e
  rename_i m k t t' hx ht
  obtain rfl:args= #[m,k]:=by rw[←vA (xs:=args),hx]
  obtain rfl:ats= #[t,t']:=by rw[←vA (xs:=ats),ht]
  exact val (aZT ho F S e)
 case h_4 args ats ho=>
  split at e
  case h_2=>cases e
  rename_i x t hx ht
  obtain rfl:args= #[x]:=by rw[←vA (xs:=args),hx]
  obtain rfl:ats= #[t]:=by rw[←vA (xs:=ats),ht]
  exact val (aZK ho F S e)
 case h_5 t x ho=>
  split at e
  · obtain⟨hj,hK⟩:=e
    have y:=aQ.eval F x
    exact val ⟨_,_,by simp [execOp,ho,Instr.box,newVar,newRow],aN5 (t:=t) S (y.cells (by rintro h;rw[h] at hj;simp [AV.cD] at hj)) hK⟩
  · split at e
    · rename_i r hr;exact val (mY.aOI (Y8 ho F S hr) S e)
    · cases e
 case h_6 t ho=>
  split at e
  case h_2=>cases e
  rename_i zs hz
  obtain⟨z,z1,z2⟩:=zI_run (P:=P) hz w.heap st w
  exact val ⟨_,_,by simp [execOp,ho,Instr.alloc,newVar,newRow,z1],aN5 (t:=t) S z2 e⟩
 case h_7 t p x ho=>
  split at e
  case h_2=>cases e
  rename_i b q hp
  split at e
  case h_2=>cases e
  rename_i cs ag sz hs hT
  obtain⟨e1,e2,e3,hK⟩:=e
  have yp:=aQ.eval F p
  rw[hp] at yp
  obtain⟨w',r1,r2,r3,r4⟩:=bAO S hT hs (aQ.eval F x) e1 e2 e3
  exact skp ⟨w',by simp [execOp,ho,yp.CL,r1],.undef,_,⟨rfl,rfl⟩,r2,r3,r4,hK⟩
 case h_8 t ho=>exact val (a7H ho S e)
 case h_9 t n c ho=>exact val (a7I ho F S e)
 case h_10 t m k x ho=>exact skp (a7K ho F S e)
 case h_11=>
  split at e
  · rename_i r hr;exact val (mY.aOI (aTK F S hr) S e)
  · cases e
def jQ(ops:Array Oper)(φ:AF)(o:Oper):Option Bool:=
 match o.guard with
 | none=>some true
 | some (j,want)=>match (ops[j]?).bind (·.dst) with
  | none=>some false
  | some d=>match φ d with
   | .bool b=>some (b == want)
   | .undef=>some false
   | _=>none
structure Rel (N:Nat) (a:Act) (w:World) (φ:AF) (st:aB):Prop where
 size:a.tmps.size=N
 defers:a.defers= []
 frame:eL w.heap st a.tmps φ
 store:cS w.heap st
theorem yW{N:Nat}{a:Act}{w:World}{φ:AF}{st:aB}{ops:Array Oper}{o:Oper}{b:Bool}(R:Rel N a w φ st)(hN:∀(j d:Nat),(ops[j]?).bind (·.dst)=some d→d<N)(e:jQ ops φ o=some b):Region.wanted o (yielded ops a.tmps)=b:=by
 unfold jQ at e
 unfold Region.wanted
 split at e
 · rename_i hg;rw[hg];exact mD e
 · rename_i j want hg
   rw[hg]
   simp only
   split at e
   · rename_i hd
     cases e
     simp [yielded,hd]
   · rename_i d hd
     have hdn:d<a.tmps.size:=by rw[R.size];exact hN j d hd
     have y:=R.frame d
     split at e
     · rename_i c hc
       rw[hc] at y
       have:=y.BN
       simp [hdn] at this
       cases e
       simp [yielded,hd,hdn,this]
     · rename_i hc
       rw[hc] at y
       have:=y.bCF
       simp [hdn] at this
       cases e
       simp [yielded,hd,hdn,this,Go.undef]
     · cases e
def pB(N:Nat)(o:Oper):Bool:=match o.dst with | some d=>decide (d<N) | none=>true
theorem Rel.put{N:Nat}{a:Act}{w w':World}{φ:AF}{st st':aB}{o:Oper}{r:AV}{v:Value}(R:Rel N a w φ st)(hd:pB N o=true)(T:bX w.heap st w'.heap st')(S:cS w'.heap st')(y:aQ w'.heap st' r v) :
 Rel N (a.put o.dst v) w' (φ.put o.dst r) st':=by
 unfold pB at hd
 cases ho:o.dst with
 | none=>exact⟨R.size,R.defers,R.frame.mono T,S⟩
 | some d=>
  rw[ho] at hd
  have hlt:d<a.tmps.size:=by rw[R.size];simpa using hd
  exact⟨by simp [Act.put,R.size],R.defers,eL.set (R.frame.mono T) hlt y,S⟩
def bD(P:Program)(mt:List Nat)(ops:Array Oper):List Oper→(AF→aB→Prop)→AF→aB→Prop
 | [],K,φ,st=>K φ st
 | o::rest,K,φ,st=>match jQ ops φ o with
  | some true=>fD P mt φ st o (fun r st'=>bD P mt ops rest K (φ.put o.dst r) st')
  | some false=>bD P mt ops rest K (φ.put o.dst .undef) st
  | none=>False
def yN(N:Nat)(w:World)(st:aB)(Q:Exit→AF→aB→Prop):Exit→Act→World→Prop:=
 fun e a' w'=>∃φ' st',Rel N a' w' φ' st'∧bX w.heap st w'.heap st'∧fC w w'∧Q e φ' st'
theorem K1{P:Program}{mt:List Nat}{ops:Array Oper}{N:Nat}(hN:∀(j d:Nat),(ops[j]?).bind (·.dst)=some d→d<N){Q:Exit→Act→World→Prop} :
 ∀(l:List Oper) (K:AF→aB→Prop) (φ:AF) (st:aB) (a:Act) (w:World),(∀o∈l,pB N o=true)→Rel N a w φ st→bD P mt ops l K φ st →
  (∀a' w' φ' st',Rel N a' w' φ' st'→bX w.heap st w'.heap st'→fC w w'→K φ' st'→Q .normal a' w')→wpList P ops Q l a w
 | [],K,φ,st,a,w,_,R,e,h=>h a w φ st R (bX.refl _ _) (fC.refl _) e
 | o::l,K,φ,st,a,w,hd,R,e,h=>by
  have hdo:=hd o (by simp)
  unfold bD at e
  split at e
  · rename_i hg
    have hw:=yW R hN hg
    unfold wpList
    rw[aG hw]
    refine .inl (K2 R.frame R.store e fun v w' ⟨r,st',x1,x2,x3,x4,x5⟩=>?_)
    exact K1 hN l K _ st' _ w' (fun o ho=>hd o (by simp [ho])) (R.put hdo x3 x2 x1) x5
     fun a2 w2 φ2 st2 R2 T2 s2 k2=>h a2 w2 φ2 st2 R2 (x3.trans T2) (x4.trans s2) k2
  · rename_i hg
    have hw:=yW R hN hg
    unfold wpList
    rw[aE (by rw[hw];simp)]
    exact K1 hN l K _ st _ w (fun o ho=>hd o (by simp [ho])) (R.put (r:=.undef) hdo (bX.refl _ _) R.store ⟨rfl,rfl⟩) e h
  · cases e
theorem sB{P:Program}{mt:List Nat}{ops:Array Oper}{N:Nat}(hN:∀(j d:Nat),(ops[j]?).bind (·.dst)=some d→d<N){Q:Exit→Act→World→Prop}{o:Oper}{l:List Oper}{K:AF→aB→Prop}{φ:AF}{st:aB}{a:Act}{w:World}
 (hdo:pB N o=true) (R:Rel N a w φ st) (e:bD P mt ops [o] K φ st)
 (h:∀a' w' φ' st',Rel N a' w' φ' st'→bX w.heap st w'.heap st'→fC w w'→K φ' st'→wpList P ops Q l a' w'):wpList P ops Q (o::l) a w:=by
 unfold bD at e
 split at e
 · rename_i hg
   have hw:=yW R hN hg
   unfold wpList
   rw[aG hw]
   refine .inl (K2 R.frame R.store e fun v w' ⟨r,st',x1,x2,x3,x4,x5⟩=>?_)
   exact h _ w' _ st' (R.put hdo x3 x2 x1) x3 x4 (by simpa only[bD] using x5)
 · rename_i hg
   have hw:=yW R hN hg
   unfold wpList
   rw[aE (by rw[hw];simp)]
   exact h _ w _ st (R.put (r:=.undef) hdo (bX.refl _ _) R.store ⟨rfl,rfl⟩) (bX.refl _ _) (fC.refl _) (by simpa only[bD] using e)
 · cases e
def DS(P:Program)(t:TypeId)(x:AV)(K:AV→Prop):Prop:=
 match zI P t,tI P t with
 | some zs,some (_,sz)=>zs.length=sz∧x.cells.length=sz∧x.cells.all AV.storable=true∧x.cD=false∧K (.pptr x)
 | _,_=>False
def qF(x:Operand)(d:Nat):Bool:=match x with | .tmp e=>e == d | _=>false
def gH(P:Program)(mt:List Nat)(ops:Array Oper):List Oper→(AF→aB→Prop)→AF→aB→Prop
 | [],K,φ,st=>K φ st
 | ⟨some d,.alloc t,ty,pos,aft,none⟩::⟨none,.store t' (.tmp d') x,ty',pos',sE,none⟩::rest,K,φ,st=>
  if d=d'∧t=t'∧(mt.contains d||qF x d)=false then DS P t (φ.eval x) (fun r=>gH P mt ops rest K (φ.aC d r) st)
  else bD P mt ops [⟨some d,.alloc t,ty,pos,aft,none⟩] (bD P mt ops [⟨none,.store t' (.tmp d') x,ty',pos',sE,none⟩] (fun φ' st'=>gH P mt ops rest K φ' st')) φ st
 | ⟨some d,.alloc t,ty,pos,aft,none⟩::⟨some e,.assign y,ty2,xZ,QC,none⟩::⟨none,.store t' (.tmp d') x,ty',pos',sE,none⟩::rest,K,φ,st=>
  if d=d'∧t=t'∧(mt.contains d||qF x d||qF y d||d == e)=false then DS P t ((φ.aC e (φ.eval y)).eval x) (fun r=>gH P mt ops rest K ((φ.aC e (φ.eval y)).aC d r) st)
  else bD P mt ops [⟨some d,.alloc t,ty,pos,aft,none⟩] (bD P mt ops [⟨some e,.assign y,ty2,xZ,QC,none⟩] (bD P mt ops [⟨none,.store t' (.tmp d') x,ty',pos',sE,none⟩] (fun φ' st'=>gH P mt ops rest K φ' st'))) φ st
 | o::rest,K,φ,st=>bD P mt ops [o] (fun φ' st'=>gH P mt ops rest K φ' st') φ st
theorem bX.forget{h:bJ}{st:aB}{b:Nat}{o:AO}(hb:st b=none):bX h (st.aC b o) h st:=
 ⟨cU _,fun x _ e=>⟨rfl,by
  by_cases hx:x=b
  · rw[hx];exact hb
  · rwa [aB.aH _ _ hx] at e⟩,fun _ c _ _ e=>⟨c,e,rfl⟩⟩
theorem cS.forget{h:bJ}{st:aB}{b:Nat}{o:AO}(hb:st b=none)(S:cS h (st.aC b o)):cS h st:=fun x p e=>by
 have hx:x≠b:=by rintro rfl;rw[hb] at e;cases e
 obtain⟨h1,h2⟩:=S x p (by rw[aB.aH _ _ hx];exact e)
 exact⟨h1,h2.mono (bX.forget hb) rfl⟩
theorem VC.aOE{h:bJ}{st:aB}{x:AV}{vs:List Value}(hj:x.cD=false)(y:a8 h st x.cells vs):VC h st x vs:=by
 cases x
 case agg cs=>unfold VC;exact y
 case junk=>cases hj
 all_goals
  simp only[AV.cells,a8] at y
  obtain⟨c,r,rfl,y,rfl⟩:=y
  exact y
theorem aS9{P:Program}{mt:List Nat}{ops:Array Oper}{N:Nat}(hN:∀(j d:Nat),(ops[j]?).bind (·.dst)=some d→d<N){Q:Exit→Act→World→Prop}(l:List Oper)(K:AF→aB→Prop)(φ:AF)(st:aB) :
 ∀(a:Act) (w:World),(∀o∈l,pB N o=true)→Rel N a w φ st→gH P mt ops l K φ st →
  (∀a' w' φ' st',Rel N a' w' φ' st'→bX w.heap st w'.heap st'→fC w w'→K φ' st'→Q .normal a' w')→wpList P ops Q l a w:=by
 induction l,K,φ,st using gH.induct (mt:=mt) with
 | case1 K φ st=>intro a w _ R e h;rw[gH] at e;exact h a w φ st R (bX.refl _ _) (fC.refl _) e
 | case2 d t ty pos aft t' d' x ty' pos' sE rest K φ st hc ih=>
  intro a w hd R e h
  rw[gH,aG hc] at e
  obtain⟨rfl,rfl,hm⟩:=hc
  unfold DS at e
  split at e
  case h_2=>cases e
  rename_i zs ag sz hz hT
  obtain⟨e1,e2,e3,e4,e5⟩:=e
  have hx:∀v,(φ.aC d v).eval x=φ.eval x:=by
   intro v
   cases x with
   | tmp y=>
    have hne:y≠d:=by rintro rfl;simp [qF] at hm
    simp only[AF.eval,AF.aH φ v hne]
   | _=>rfl
  have hd1:=hd _ (List.mem_cons_self ..)
  refine sB (mt:=mt) (K:=fun φ' st'=>∃b,st b=none∧φ'=φ.aC d (.ptr b 0)∧st'=st.aC b (.cells zs)) hN hd1 R ?_ ?_
  · simp only[bD,jQ,fD,hz]
    exact fun b hb=>⟨b,hb,rfl,rfl⟩
  rintro a1 w1 _ _ R1 T1 s1 ⟨b,hb,rfl,rfl⟩
  refine sB (mt:=mt) (K:=fun φ' st'=>φ'=φ.aC d (.ptr b 0)∧st'=st.aC b (.cells (φ.eval x).cells)) hN (hd _ (by simp)) R1 ?_ ?_
  · simp only[bD,jQ,fD]
    rw[show(φ.aC d (.ptr b 0)).eval (.tmp d)=.ptr b 0 from AF.aJ _ _ _]
    simp only[aB.aJ,hT,hx]
    refine⟨e2,by omega,e3,rfl,?_⟩
    rw[dO]
    congr 2
    simp [aK,e1,e2]
  rintro a2 w2 _ _ R2 T2 s2 ⟨rfl,rfl⟩
  have F2:=R2.frame
  have T3:=bX.forget (h:=w2.heap) (o:=.cells (φ.eval x).cells) hb
  have R3:Rel N a2 w2 (φ.aC d (.pptr (φ.eval x))) st:=by
   refine⟨R2.size,R2.defers,fun y=>?_,cS.forget hb R2.store⟩
   by_cases hy:y=d
   · subst hy
     rw[AF.aJ]
     have y1:=F2 y
     rw[AF.aJ] at y1
     have hv:=y1.CL
     obtain⟨h1,c,t2,h2,h3,vs,h4,h5⟩:=R2.store b _ (aB.aJ _ _ _)
     rw[hv]
     refine⟨rfl,b,0,rfl,hb,h1,vs,h4,by rw[h5.length,sJ],VC.mono T3 _ _ (VC.aOE e4 h5)⟩
   · rw[AF.aH _ _ hy]
     have y1:=F2 y
     rw[AF.aH _ _ hy] at y1
     exact y1.mono T3
  have T4:=(T1.trans T2).trans T3
  exact ih _ a2 w2 (fun o ho=>hd o (by simp [ho])) R3 e5 fun a' w' φ' st' R' T' s' k=>h a' w' φ' st' R' (T4.trans T') ((s1.trans s2).trans s') k
 | case3 d t ty pos aft t' d' x ty' pos' sE rest K φ st hc ih=>
  intro a w hd R e h
  rw[gH,aE hc] at e
  refine sB hN (hd _ (by simp)) R e fun a1 w1 φ1 st1 R1 T1 s1 k1=>?_
  refine sB hN (hd _ (by simp)) R1 k1 fun a2 w2 φ2 st2 R2 T2 s2 k2=>?_
  exact ih _ _ a2 w2 (fun o ho=>hd o (by simp [ho])) R2 k2 fun a' w' φ' st' R' T' s' k=>h a' w' φ' st' R' ((T1.trans T2).trans T') ((s1.trans s2).trans s') k
 | case4 d t ty pos aft e0 y ty2 xZ QC t' d' x ty' pos' sE rest K φ st hc ih=>
  intro a w hd R e h
  rw[gH,aG hc] at e
  obtain⟨rfl,rfl,hm⟩:=hc
  unfold DS at e
  split at e
  case h_2=>cases e
  rename_i zs ag sz hz hT
  obtain⟨e1,e2,e3,e4,e5⟩:=e
  simp only[Bool.or_eq_false_iff,beq_eq_false_iff_ne,ne_eq] at hm
  obtain⟨⟨⟨hm1,hmx⟩,hmy⟩,hde⟩:=hm
  have hev:∀(ψ:AF) (z:Operand) v,qF z d=false→(ψ.aC d v).eval z=ψ.eval z:=by
   intro ψ z v hz
   cases z with
   | tmp q=>
    have hne:q≠d:=by rintro rfl;simp [qF] at hz
    simp only[AF.eval,AF.aH ψ v hne]
   | _=>rfl
  have hcm:∀v u,(φ.aC d v).aC e0 u=(φ.aC e0 u).aC d v:=fun v u=>AF.lZ φ v u hde
  have hd1:=hd _ (List.mem_cons_self ..)
  refine sB (mt:=mt) (K:=fun φ' st'=>∃b,st b=none∧φ'=φ.aC d (.ptr b 0)∧st'=st.aC b (.cells zs)) hN hd1 R ?_ ?_
  · simp only[bD,jQ,fD,hz]
    exact fun b hb=>⟨b,hb,rfl,rfl⟩
  rintro a1 w1 _ _ R1 T1 s1 ⟨b,hb,rfl,rfl⟩
  refine sB (mt:=mt) (K:=fun φ' st'=>φ'=(φ.aC e0 (φ.eval y)).aC d (.ptr b 0)∧st'=st.aC b (.cells zs)) hN (hd _ (by simp)) R1 ?_ ?_
  · simp only[bD,jQ,fD,lQ]
    rw[hev φ y _ hmy]
    exact⟨hcm _ _,trivial⟩
  rintro a2 w2 _ _ R2 T2 s2 ⟨rfl,rfl⟩
  refine sB (mt:=mt) (K:=fun φ' st'=>φ'=(φ.aC e0 (φ.eval y)).aC d (.ptr b 0)∧st'=st.aC b (.cells ((φ.aC e0 (φ.eval y)).eval x).cells)) hN (hd _ (by simp)) R2 ?_ ?_
  · simp only[bD,jQ,fD]
    rw[show((φ.aC e0 (φ.eval y)).aC d (.ptr b 0)).eval (.tmp d)=.ptr b 0 from AF.aJ _ _ _]
    simp only[aB.aJ,hT,hev (φ.aC e0 (φ.eval y)) x _ hmx]
    refine⟨e2,by omega,e3,rfl,?_⟩
    rw[dO]
    congr 2
    simp [aK,e1,e2]
  rintro a3 w3 _ _ R3 T3 s3 ⟨rfl,rfl⟩
  have F2:=R3.frame
  have T4:=bX.forget (h:=w3.heap) (o:=.cells ((φ.aC e0 (φ.eval y)).eval x).cells) hb
  have R4:Rel N a3 w3 ((φ.aC e0 (φ.eval y)).aC d (.pptr ((φ.aC e0 (φ.eval y)).eval x))) st:=by
   refine⟨R3.size,R3.defers,fun z=>?_,cS.forget hb R3.store⟩
   by_cases hy:z=d
   · subst hy
     rw[AF.aJ]
     have y1:=F2 z
     rw[AF.aJ] at y1
     have hv:=y1.CL
     obtain⟨h1,c,t2,h2,h3,vs,h4,h5⟩:=R3.store b _ (aB.aJ _ _ _)
     rw[hv]
     refine⟨rfl,b,0,rfl,hb,h1,vs,h4,by rw[h5.length,sJ],VC.mono T4 _ _ (VC.aOE e4 h5)⟩
   · rw[AF.aH _ _ hy]
     have y1:=F2 z
     rw[AF.aH _ _ hy] at y1
     exact y1.mono T4
  have T5:=((T1.trans T2).trans T3).trans T4
  exact ih _ a3 w3 (fun o ho=>hd o (by simp [ho])) R4 e5 fun a' w' φ' st' R' T' s' k=>h a' w' φ' st' R' (T5.trans T') (((s1.trans s2).trans s3).trans s') k
 | case5 d t ty pos aft e0 y ty2 xZ QC t' d' x ty' pos' sE rest K φ st hc ih=>
  intro a w hd R e h
  rw[gH,aE hc] at e
  refine sB hN (hd _ (by simp)) R e fun a1 w1 φ1 st1 R1 T1 s1 k1=>?_
  refine sB hN (hd _ (by simp)) R1 k1 fun a2 w2 φ2 st2 R2 T2 s2 k2=>?_
  refine sB hN (hd _ (by simp)) R2 k2 fun a3 w3 φ3 st3 R3 T3 s3 k3=>?_
  exact ih _ _ a3 w3 (fun o ho=>hd o (by simp [ho])) R3 k3 fun a' w' φ' st' R' T' s' k=>h a' w' φ' st' R' (((T1.trans T2).trans T3).trans T') (((s1.trans s2).trans s3).trans s') k
 | case6 o rest K φ st hne IN ih=>
  intro a w hd R e h
  rw[gH] at e
  case x_4=>exact hne
  case x_5=>exact IN
  refine sB hN (hd _ (by simp)) R e fun a1 w1 φ1 st1 R1 T1 s1 k1=>?_
  exact ih _ _ a1 w1 (fun o ho=>hd o (by simp [ho])) R1 k1 fun a' w' φ' st' R' T' s' k=>h a' w' φ' st' R' (T1.trans T') (s1.trans s') k
def fK(P:Program)(N:Nat)(c:Code)(Q:Exit→AF→aB→Prop)(φ:AF)(st:aB):Prop:=
 ∀a w,Rel N a w φ st→c.wp P (yN N w st Q) a w
def GA(k:AF→aB→Prop)(Q:Exit→AF→aB→Prop):Exit→AF→aB→Prop
 | .normal,φ,st=>k φ st
 | e,φ,st=>Q e φ st
def D3(id:Nat)(Q:Exit→AF→aB→Prop):Exit→AF→aB→Prop
 | .exit i,φ,st=>if i=id then Q .normal φ st else Q (.exit i) φ st
 | e,φ,st=>Q e φ st
def wW(c:AV)(k₁ k₂:AF→aB→Prop)(φ:AF)(st:aB):Prop:=
 match c with
 | .bool b=>(b=true→k₁ φ st)∧(b=false→k₂ φ st)
 | _=>False
def gG(P:Program)(N:Nat)(mt:List Nat):Code→(Exit→AF→aB→Prop)→AF→aB→Prop
 | .skip,Q,φ,st=>Q .normal φ st
 | .region id ops draw,Q,φ,st=>if draw then fK P N (.region id ops true) Q φ st else if mt.contains 1000000=true then gH P mt ops ops.toList (Q .normal) φ st else bD P mt ops ops.toList (Q .normal) φ st
 | .seq x y,Q,φ,st=>gG P N mt x (GA (gG P N mt y Q) Q) φ st
 | .cond c x y,Q,φ,st=>wW (φ.eval c) (gG P N mt x Q) (gG P N mt y Q) φ st
 | .block id x,Q,φ,st=>gG P N mt x (D3 id Q) φ st
 | .loop x,Q,φ,st=>fK P N (.loop x) Q φ st
 | .exit id,Q,φ,st=>Q (.exit id) φ st
 | .ret,Q,φ,st=>Q .ret φ st
 | c,Q,φ,st=>fK P N c Q φ st
def qL(N:Nat)(ops:Array Oper):Bool:=ops.all (pB N)
def codeOk(N:Nat):Code→Bool
 | .region _ ops _=>qL N ops
 | .seq x y=>codeOk N x&&codeOk N y
 | .cond _ x y=>codeOk N x&&codeOk N y
 | .block _ x=>codeOk N x
 | .loop x=>codeOk N x
 | _=>true
theorem xW{N:Nat}{ops:Array Oper}(h:qL N ops=true):∀o∈ops.toList,pB N o=true:=by
 intro o ho
 exact Array.all_eq_true_iff_forall_mem.1 h o (oX.1 ho)
theorem zZ{N:Nat}{ops:Array Oper}(h:qL N ops=true):∀(j d:Nat),(ops[j]?).bind (·.dst)=some d→d<N:=by
 intro j d e
 cases hj:ops[j]? with
 | none=>rw[hj] at e;cases e
 | some o=>
  rw[hj] at e
  have:=xW h o (oX.2 (DC hj))
  unfold pB at this
  simp only[KS] at e
  rw[e] at this
  simpa using this
theorem yN.mono{N:Nat}{w w':World}{st st':aB}{Q:Exit→AF→aB→Prop}(T:bX w.heap st w'.heap st')(s:fC w w'){e:Exit}{a:Act}{w2:World}(x:yN N w' st' Q e a w2):yN N w st Q e a w2:=by
 obtain⟨φ',st2,R,T2,s2,q⟩:=x
 exact⟨φ',st2,R,T.trans T2,s.trans s2,q⟩
theorem BE{P:Program}{N:Nat}{mt:List Nat}:∀(c:Code) (Q:Exit→AF→aB→Prop) (φ:AF) (st:aB),codeOk N c=true→gG P N mt c Q φ st→fK P N c Q φ st
 | .skip,Q,φ,st,_,e=>fun a w R=>wp_skip ⟨φ,st,R,bX.refl _ _,fC.refl _,e⟩
 | .region id ops draw,Q,φ,st,hc,e=>fun a w R=>by
  simp only[gG] at e
  cases draw with
  | true=>exact e a w R
  | false=>
   simp only[fX,dT] at e
   split at e
   · exact wp_region_list (aS9 (zZ hc) ops.toList _ φ st a w (xW hc) R e fun a' w' φ' st' R' T s k=>⟨φ',st',R',T,s,k⟩)
   exact wp_region_list (K1 (zZ hc) ops.toList _ φ st a w (xW hc) R e fun a' w' φ' st' R' T s k=>⟨φ',st',R',T,s,k⟩)
 | .seq x y,Q,φ,st,hc,e=>fun a w R=>by
  simp only[codeOk,bV] at hc
  refine wp_seq (wp_mono (BE x _ φ st hc.1 e a w R) ?_)
  rintro ex a' w' ⟨φ',st',R',T,s,q⟩
  cases ex with
  | normal=>exact wp_mono (BE y Q φ' st' hc.2 q a' w' R') fun _ _ _ h=>h.mono T s
  | _=>exact⟨φ',st',R',T,s,q⟩
 | .cond c x y,Q,φ,st,hc,e=>fun a w R=>by
  simp only[codeOk,bV] at hc
  simp only[gG,wW] at e
  split at e
  case h_2=>cases e
  rename_i b hb
  have yc:=aQ.eval R.frame c
  rw[hb] at yc
  refine wp_cond_split yc.BN (fun h=>?_) (fun h=>?_)
  · exact BE x Q φ st hc.1 (e.1 h) a w R
  · exact BE y Q φ st hc.2 (e.2 h) a w R
 | .block id x,Q,φ,st,hc,e=>fun a w R=>by
  refine wp_block (wp_mono (BE x _ φ st hc e a w R) ?_)
  rintro ex a' w' ⟨φ',st',R',T,s,q⟩
  cases ex with
  | exit i=>
   simp only[Exit.inBlock,D3] at q ⊢
   split<;>rename_i h
   · rw[aG h] at q;exact⟨φ',st',R',T,s,q⟩
   · rw[aE h] at q;exact⟨φ',st',R',T,s,q⟩
  | _=>exact⟨φ',st',R',T,s,q⟩
 | .loop x,Q,φ,st,_,e=>e
 | .exit id,Q,φ,st,_,e=>fun a w R=>wp_exit ⟨φ,st,R,bX.refl _ _,fC.refl _,e⟩
 | .ret,Q,φ,st,_,e=>fun a w R=>wp_ret ⟨φ,st,R,bX.refl _ _,fC.refl _,e⟩
 | .rangeFunc ..,Q,φ,st,_,e=>e
 | .scope _,Q,φ,st,_,e=>e
 | .label _,Q,φ,st,_,e=>e
 | .goto _,Q,φ,st,_,e=>e
 | .refuse _,Q,φ,st,_,e=>e
def DW(P:Program)(φ:AF)(st:aB):ResultVar→Option AV
 | .tmp t=>some (φ t)
 | .cell p t=>g9 P st t (φ p)
def pV(P:Program)(φ:AF)(st:aB):List ResultVar→Option (List AV)
 | []=>some []
 | r::rs=>match DW P φ st r,pV P φ st rs with
  | some x,some xs=>some (x::xs)
  | _,_=>none
def GG(K:AV→aB→Prop)(st:aB):List AV→Prop
 | [r]=>K r st
 | rs=>lI rs=true∧K (.tup rs) st
def FQ(P:Program)(rs:Array ResultVar)(K:AV→aB→Prop):Exit→AF→aB→Prop
 | .normal,φ,st | .ret,φ,st=>match pV P φ st rs.toList with
  | some xs=>GG K st xs
  | none=>False
 | _,_,_=>False
theorem aTA{P:Program}{φ:AF}{st:aB}{w:World}{a:Act}{v:ResultVar}{r:AV}(F:eL w.heap st a.tmps φ)(S:cS w.heap st)(e:DW P φ st v=some r) :
 ∃u,(match v with | .tmp t=>pure (a.tmps.getD t undef) | .cell p t=>do loadVar t (←asAddr (a.tmps.getD p undef)):Sem Value).run P w=.ok u w∧aQ w.heap st r u:=by
 cases v with
 | tmp t=>cases e;exact⟨_,rfl,F t⟩
 | cell p t=>
  obtain⟨b,off,u,hv,r1,rv⟩:=YD (F p) S e
  exact⟨u,by simp only[hv,asAddr,Sem.run_bind,Sem.run_pure,Result.andThen_ok,r1],rv⟩
theorem YF{P:Program}{φ:AF}{st:aB}{w:World}{a:Act}(F:eL w.heap st a.tmps φ)(S:cS w.heap st):∀(l:List ResultVar) (rs:List AV),pV P φ st l=some rs →
 ∃us,(l.mapM fun v=>(match v with | .tmp t=>pure (a.tmps.getD t undef) | .cell p t=>do loadVar t (←asAddr (a.tmps.getD p undef)):Sem Value)).run P w=.ok us w∧dB w.heap st rs us
 | [],rs,e=>by simp only[pV] at e;cases e;exact⟨[],rfl,rfl⟩
 | v::l,rs,e=>by
  simp only[pV] at e
  split at e
  · rename_i x xs hx hxs
    cases e
    obtain⟨u,u1,u2⟩:=aTA F S hx
    obtain⟨us,v1,v2⟩:=YF F S l xs hxs
    refine⟨u::us,?_,by simp only[dB];exact⟨u,us,rfl,u2,v2⟩⟩
    rw[List.mapM_cons]
    simp only[Sem.run_bind,u1,Result.andThen_ok,v1,Sem.run_pure]
  · cases e
theorem dB.aRW{h:bJ}{st:aB}:∀ {as:List AV} {vs:List Value},dB h st as vs→lI as=true→dP h st as vs
 | [],_,x,_=>by simpa [dP,dB] using x
 | a::as,vs,x,hj=>by
  simp only[dB] at x
  obtain⟨v,r,rfl,x1,x2⟩:=x
  simp [lI] at hj
  simp only[dP]
  exact⟨v,r,rfl,x1.pair hj.1,dB.aRW x2 (by simp [lI];exact hj.2)⟩
theorem aO3{P:Program}{φ:AF}{st:aB}{w:World}{a:Act}{fn:Func}{rs:List AV}{K:AV→aB→Prop}(F:eL w.heap st a.tmps φ)(S:cS w.heap st)(e:pV P φ st fn.results.toList=some rs)(k:GG K st rs) :
 ∃v r,(results fn a.tmps).run P w=.ok v w∧aQ w.heap st r v∧K r st:=by
 obtain⟨us,u1,u2⟩:=YF F S _ rs e
 have hH:(results fn a.tmps).run P w=.ok (if h:us.toArray.size=1 then us.toArray[0] else .tuple us.toArray) w:=by
  unfold results
  rw[Array.mapM_eq_mapM_toList]
  simp only[Sem.run_bind,Sem.run_map]
  exact(eA (fun r:Result (List Value)=>(r.andThen fun a w'=>Result.ok a.toArray w').andThen fun a w'=>Sem.run P (pure (if h:a.size=1 then a[0] else Value.tuple a)) w') u1).trans rfl
 match rs,k with
 | [r],k=>
  simp only[dB] at u2
  obtain⟨u,r',rfl,x1,rfl⟩:=u2
  exact⟨u,r,by rw[hH];try rfl,x1,k⟩
 | [],k=>
  simp only[dB] at u2
  subst u2
  exact⟨.tuple #[],.tup [],by rw[hH];try rfl,⟨rfl,[],rfl,rfl⟩,k.2⟩
 | r1::r2::rest,k=>
  have h2:=u2
  simp only[dB] at u2
  obtain⟨u,us',rfl,_,v,bCP,rfl,_,_⟩:=u2
  exact⟨.tuple (u::v::bCP).toArray,.tup (r1::r2::rest),by rw[hH];simp,⟨rfl,_,rfl,dB.aRW h2 k.1⟩,k.2⟩
def sG:Nat→List AV→AF
 | _,[]=>AF.bot
 | i,a::as=>(sG (i+1) as).aC i a
theorem QG{h:bJ}{st:aB}{tmps:Array Value}:∀(as:List AV) (vs:List Value) (i:Nat),dB h st as vs→(∀j v,vs[j]?=some v→tmps.getD (i+j) undef=v)→eL h st tmps (sG i as)
 | [],_,_,_,_=>fun d=>by trivial
 | a::as,vs,i,x,ht=>fun d=>by
  simp only[dB] at x
  obtain⟨v,r,rfl,x1,x2⟩:=x
  simp only[sG,AF.aC]
  split
  · rename_i hd
    subst hd
    have:=ht 0 v rfl
    rw[DK] at this
    rw[this];exact x1
  · exact QG as r (i+1) x2 (fun j u hj=>by
     have:=ht (j+1) u (by simpa using hj)
     rw[show i+(j+1)=i+1+j by omega] at this
     exact this) d
theorem dB.length{h:bJ}{st:aB}:∀ {as:List AV} {vs:List Value},dB h st as vs→vs.length=as.length
 | [],vs,x=>by simp only[dB] at x;simp [x]
 | a::as,vs,x=>by
  simp only[dB] at x
  obtain⟨v,r,rfl,_,x2⟩:=x
  simp [dB.length x2]
theorem aTO{P:Program}{g:FuncId}{fn:Func}{c:Code}{args:List AV}{st:aB}{K:AV→aB→Prop}(mt:List Nat)(hf:P.funcs[g]?=some fn)(hb:fn.body=some c)(hn:(fn.name == "runtime.NumGoroutine")=false)
 (hok:codeOk fn.ntmps c=true) (rG:args.length≤fn.ntmps) (e:gG P fn.ntmps mt c (FQ P fn.results K) (sG 0 args) st):aD P g args st K:=by
 refine⟨⟨fn,hf,by simp [hb],hn⟩,fun w vs S V=>?_⟩
 have hl:=V.length
 have R:Rel fn.ntmps { tmps:=vs.toArray++Array.replicate (fn.ntmps - vs.toArray.size) undef,defers:=[] } w (sG 0 args) st:=by
  refine⟨by simp;omega,rfl,QG args vs 0 V fun j v hj=>?_,S⟩
  obtain⟨hjl,hjv⟩:=fA.1 hj
  simp [Array.getElem?_append,hjl,hjv]
 refine calls_of_wp hf hb (wp_mono (BE c _ _ st hok e _ w R) ?_)
 rintro ex a' w' ⟨φ',st',R',T,s,q⟩
 have fin:(match pV P φ' st' fn.results.toList with | some xs=>GG K st' xs | none=>False)→a'.defers= []∧∃v,(results fn a'.tmps).run P w'=.ok v w' ∧
  (∃v2 r st2,(Ending.returned v)=.returned v2∧aQ w'.heap st2 r v2∧cS w'.heap st2∧bX w.heap st w'.heap st2∧fC w w'∧K r st2):=by
  intro q
  split at q
  · rename_i xs hx
    obtain⟨v,r,r1,r2,r3⟩:=aO3 R'.frame R'.store hx q
    exact⟨R'.defers,v,r1,v,r,st',rfl,r2,R'.store,T,s,r3⟩
  · cases q
 cases ex with
 | normal=>exact fin q
 | ret=>exact fin q
 | _=>exact q.elim
def PY(st:aB)(r:AV)(st':aB)(r':AV):Prop:=∀(h:bJ) (v:Value),cS h st→aQ h st r v→aQ h st' r' v
def PZ(st st':aB):Prop:=∀(h:bJ),cS h st→cS h st'∧bX h st h st'
theorem aD.l7{P:Program}{g:FuncId}{args:List AV}{st:aB}{Q Q':AV→aB→Prop}(x:aD P g args st Q)(h:∀r st',Q r st'→∃r2 st2,PZ st' st2∧PY st' r st2 r2∧Q' r2 st2):aD P g args st Q':=
 ⟨x.1,fun w vs S V=>(x.2 w vs S V).mono fun _ _ ⟨v,r,st',e,a,b,c,d,q⟩=>
  let ⟨r2,st2,h1,h2,h3⟩:=h r st' q
  ⟨v,r2,st2,e,h2 _ v b a,(h1 _ b).1,c.trans (h1 _ b).2,d,h3⟩⟩
theorem aD.args{P:Program}{g:FuncId}{args args':List AV}{st:aB}{Q:AV→aB→Prop}(x:aD P g args' st Q)(h:∀(hp:bJ) (vs:List Value),cS hp st→dB hp st args vs→dB hp st args' vs):aD P g args st Q:=
 ⟨x.1,fun w vs S V=>x.2 w vs S (h _ vs S V)⟩
def fY(φ:AF)(st:aB)(φ':AF)(st':aB):Prop:=∀(h:bJ) (tmps:Array Value),cS h st→eL h st tmps φ→cS h st'∧bX h st h st'∧eL h st' tmps φ'
theorem fK.less{P:Program}{N:Nat}{c:Code}{Q:Exit→AF→aB→Prop}{φ φ':AF}{st st':aB}(L:fY φ st φ' st')(x:fK P N c Q φ' st'):fK P N c Q φ st:=fun a w R=>by
 obtain⟨h1,h2,h3⟩:=L w.heap a.tmps R.store R.frame
 exact wp_mono (x a w ⟨R.size,R.defers,h3,h1⟩) fun _ _ _ y=>y.mono h2 (fC.refl _)
theorem fY.trans{φ φ' φ'':AF}{st st' AI:aB}(x:fY φ st φ' st')(y:fY φ' st' φ'' AI):fY φ st φ'' AI:=fun h t S F=>
 let ⟨a,b,c⟩:=x h t S F
 let ⟨a',b',c'⟩:=y h t a c
 ⟨a',b.trans b',c'⟩
theorem fY.bot(φ:AF)(st:aB):fY φ st AF.bot st:=fun _ _ S _=>⟨S,bX.refl _ _,fun _=>trivial⟩
theorem fY.aC{φ φ':AF}{st:aB}(x:fY φ st φ' st){d:Nat}{v:AV}(e:φ d=v):fY φ st (φ'.aC d v) st:=fun h t S F=>by
 obtain⟨a,b,c⟩:=x h t S F
 refine⟨a,b,fun y=>?_⟩
 simp only[AF.aC]
 split
 · rename_i hy;subst hy;rw[←e];exact F y
 · exact c y
def qH(k:AF→aB→Prop)(Q:Exit→AF→aB→Prop):Exit→AF→aB→Prop
 | .normal,φ,st=>k φ st
 | e,φ,st=>Q e φ st
theorem QH{P:Program}{N:Nat}{c:Code}{Q:Exit→AF→aB→Prop}{φ:AF}{st:aB}{α:Type}(inv:α→Prop)(fr:α→AF)(so:α→aB)(μ:α→Nat)
 (h0:∃s,inv s∧fY φ st (fr s) (so s))
 (h1:∀s,inv s→fK P N c (qH (fun φ' st'=>∃s',μ s'<μ s∧inv s'∧fY φ' st' (fr s') (so s')) Q) (fr s) (so s)):fK P N (.loop c) Q φ st:=by
 have key:∀n s,μ s=n→inv s→∀a w,Rel N a w (fr s) (so s)→∀b k cs,
  ∃e a' w',yN N w (so s) Q e a' w'∧Arrives P (lone (b.at a (.code c:: .inLoop c::k)) cs w) b k cs e a' w':=by
  intro n
  induction n using Nat.strongRecOn with
  | _ n ih=>
   intro s hn hI a w R b k cs
   obtain⟨e,a₁,w₁,hq,pE⟩:=h1 s hI a w R b (.inLoop c::k) cs
   obtain⟨φ',st',R',T,sm,q⟩:=hq
   cases e with
   | normal=>
    obtain⟨s',hlt,hI',L⟩:=q
    obtain⟨l1,l2,l3⟩:=L w₁.heap a₁.tmps R'.store R'.frame
    obtain⟨e₂,a₂,w₂,hq₂,a3Q⟩:=ih (μ s') (hn▸hlt) s' rfl hI' a₁ w₁ ⟨R'.size,R'.defers,l3,l1⟩ b k cs
    exact⟨e₂,a₂,w₂,hq₂.mono (T.trans l2) sm,.of_steps (Steps.trans pE (.one step_inLoop)) a3Q⟩
   | exit id=>exact⟨_,a₁,w₁,⟨φ',st',R',T,sm,q⟩,.pass (x:=.inLoop c) rfl (fun _ _=>.inl (by simp)) pE⟩
   | goto l=>exact⟨_,a₁,w₁,⟨φ',st',R',T,sm,q⟩,.pass (x:=.inLoop c) rfl (fun _ _=>.inl (by simp)) pE⟩
   | ret=>exact⟨_,a₁,w₁,⟨φ',st',R',T,sm,q⟩,.pass (x:=.inLoop c) rfl (fun _ _=>.inl (by simp)) pE⟩
   | panic ch=>exact⟨_,a₁,w₁,⟨φ',st',R',T,sm,q⟩,.pass (x:=.inLoop c) rfl (fun _ _=>.inl (by simp)) pE⟩
   | outgrown=>exact⟨_,a₁,w₁,⟨φ',st',R',T,sm,q⟩,.pass (x:=.inLoop c) rfl (fun _ _=>.inl (by simp)) pE⟩
 obtain⟨s,hI,L⟩:=h0
 refine fK.less L fun a w R b k cs=>?_
 obtain⟨e,a',w',hq,pE⟩:=key _ s rfl hI a w R b k cs
 exact⟨e,a',w',hq,.of_steps (.one step_loop) pE⟩
end Go.AW
