/- Calls, stores, new objects: what each operation comes to with the owned store; lists of operations; code. -/
import Derived.Test.YthigelfjekcbmaaGreatDoorUza
import Derived.StillTail
set_option linter.unusedSimpArgs false
set_option linter.unusedVariables false
set_option maxRecDepth 100000
namespace Go.AW
theorem cL.sZ{h h':bS}{st:aB}{b:Nat}{o:AO}(hb:st b≠none)(hs:h.size≤h'.size)(k:∀x,x<h.size→x≠b→h'[x]?=h[x]?)
 (sh:∀c t fr,h[b]?=some (.cells c t fr)→∃c',h'[b]?=some (.cells c' t fr)∧c'.size=c.size):cL h st h' (st.aC b o):=by
 refine⟨hs,fun x hx e=>?_,fun x c t fr e=>?_⟩
 · have hne:x≠b:=fun q=>hb (q▸e)
   exact⟨k x hx hne,by rw[aB.aG _ _ hne];exact e⟩
 · by_cases hne:x=b
   · subst hne;exact sh c t fr e
   · have hx:x<h.size:=by
      rcases k7 x h.size with h1 | h1
      · exact h1
      · simp [Array.getElem?_eq_none h1] at e
     exact⟨c,by rw[k x hx hne];exact e,rfl⟩
theorem dD.sZ{h h':bS}{st:aB}{b:Nat}{o:AO}(S:dD h st)(T:cL h st h' (st.aC b o))(hb:b<h'.size)(k:∀x,x<h.size→x≠b→h'[x]?=h[x]?)(ho:mM h' (st.aC b o) b o) :
 dD h' (st.aC b o):=by
 intro x p e
 by_cases hne:x=b
 · subst hne
   rw[aB.aJ] at e;cases e
   exact⟨hb,ho⟩
 · rw[aB.aG _ _ hne] at e
   obtain⟨l,r⟩:=S x p e
   exact⟨wR l T.size,mM.mono T (k x l hne) r⟩
theorem cL.F1(h:bS)(st:aB)(o:Obj)(p:AO):cL h st (h.push o) (st.aC h.size p):=by
 have E:=Ext.push h o
 refine⟨E.size,fun x hx e=>⟨E.a7 x hx,by rw[aB.aG _ _ (by omega)];exact e⟩,(E.step st).shape⟩
theorem dD.fresh{h:bS}{st:aB}(S:dD h st):st h.size=none:=by
 cases e:st h.size with
 | none=>rfl
 | some o=>exact absurd (S _ _ e).1 (Nat.lt_irrefl _)
theorem dD.F1{h:bS}{st:aB}{o:Obj}{p:AO}(S:dD h st)(ho:mM (h.push o) (st.aC h.size p) h.size p):dD (h.push o) (st.aC h.size p):=
 S.sZ (cL.F1 h st o p) (by simp) (fun x hx _=>(Ext.push h o).a7 x hx) ho
def X7(P:Program)(g:FuncId):Prop:=∃fn,P.funcs[g]?=some fn∧fn.body.isSome=true∧(fn.name == "runtime.NumGoroutine")=false
def cZ(h:bS)(st:aB):List AV→List Value→Prop
 | [],vs=>vs= []
 | a::as,vs=>∃v r,vs=v::r∧aR h st a v∧cZ h st as r
theorem cZ.eval{h:bS}{st:aB}{a:Act}{φ:AF}(F:fD h st a.tmps φ):∀(l:List Operand),cZ h st (l.map φ.eval) (l.map a.eval)
 | []=>by simp [cZ]
 | o::l=>by simp only[bB,cZ];exact⟨_,_,rfl,aR.eval F o,cZ.eval F l⟩
theorem cZ.aPQ{h:bS}{st:aB}:∀ {as:List AV} {vs:List Value},d6 h st as vs→cZ h st as vs
 | [],_,x=>by simpa [d6,cZ] using x
 | a::as,vs,x=>by
  simp only[d6] at x
  obtain⟨v,r,rfl,x1,x2⟩:=x
  simp only[cZ]
  exact⟨v,r,rfl,aR.F3 x1,cZ.aPQ x2⟩
theorem cZ.append{h:bS}{st:aB}:∀ {as bs:List AV} {vs us:List Value},cZ h st as vs→cZ h st bs us→cZ h st (as++bs) (vs++us)
 | [],_,vs,us,x,y=>by simp only[cZ] at x;subst x;simpa using y
 | a::as,_,vs,us,x,y=>by
  simp only[cZ] at x
  obtain⟨c,r,rfl,x1,x2⟩:=x
  simp only[fE,cZ]
  exact⟨c,r++us,rfl,x1,cZ.append x2 y⟩
def aD(P:Program)(g:FuncId)(args:List AV)(st:aB)(Q:AV→aB→Prop):Prop:=
 X7 P g∧∀(w:World) (vs:List Value),dD w.heap st→cZ w.heap st args vs →
  Calls P g vs.toArray w fun e w'=>∃v r st',e=.returned v∧aR w'.heap st' r v∧dD w'.heap st'∧cL w.heap st w'.heap st'∧gQ w w'∧Q r st'
theorem aD.mono{P:Program}{g:FuncId}{args:List AV}{st:aB}{Q Q':AV→aB→Prop}(x:aD P g args st Q)(h:∀r st',Q r st'→Q' r st'):aD P g args st Q':=
 ⟨x.1,fun w vs S V=>(x.2 w vs S V).mono fun _ _ ⟨v,r,st',e,a,b,c,d,q⟩=>⟨v,r,st',e,a,b,c,d,h r st' q⟩⟩
def n9(st:aB)(w:World)(K:AV→aB→Prop)(v:Value)(w':World):Prop:=
 ∃r st',aR w'.heap st' r v∧dD w'.heap st'∧cL w.heap st w'.heap st'∧gQ w w'∧K r st'
def AV.storable:AV→Bool
 | .int _ _ | .bool _ | .str _ | .slice _ | .fslice _ | .mslice _ _ _ _ | .nilptr | .ptr _ _ | .pptr _ | .nilmap | .map _ | .func _ _=>true
 | .raw v=>v.oneCell'
 | _=>false
theorem VC.F7{h:bS}{st:aB}{a:AV}{v:Value}(x:VC h st a [v])(hs:a.storable=true):v.oneCell'=true:=by
 cases a<;>simp [AV.storable] at hs<;>simp only[VC] at x
 case int=>cases x;rfl
 case bool=>cases x;rfl
 case str=>obtain⟨x,_⟩:=x;cases x;rfl
 case slice=>rcases x with ⟨⟨_,x⟩,_⟩ | ⟨_,_,_,x,_⟩<;>cases x<;>rfl
 case fslice=>rcases x with ⟨⟨_,x⟩,_⟩ | ⟨_,_,x,_⟩<;>cases x<;>rfl
 case mslice=>obtain⟨_,x,_⟩:=x;cases x;rfl
 case nilptr=>cases x;rfl
 case ptr=>cases x;rfl
 case pptr=>obtain⟨_,_,x,_⟩:=x;cases x;rfl
 case nilmap=>cases x;rfl
 case map=>cases x;rfl
 case func=>obtain⟨_,x,_⟩:=x;cases x;rfl
 case raw=>obtain⟨x,_⟩:=x;cases x;exact hs
theorem bD.F7{h:bS}{st:aB}:∀ {as:List AV} {vs:List Value},bD h st as vs→as.all AV.storable=true→∀v∈vs,v.oneCell'=true
 | [],vs,x,_,v,hv=>by simp only[bD] at x;subst x;simp at hv
 | a::as,vs,x,hs,v,hv=>by
  simp only[bD] at x
  obtain⟨c,r,rfl,x1,x2⟩:=x
  simp at hs
  rcases dB.1 hv with rfl | hv
  · exact x1.F7 hs.1
  · exact bD.F7 x2 (by simpa using hs.2) v hv
def aK(cs:List AV)(o:Nat)(x:List AV):List AV:=cs.take o++x++cs.drop (o+x.length)
theorem IE{h:bS}{b:Nat}{c:Array Value}{t:TypeId}{fr:Nat×Nat}(e:h[b]?=some (.cells c t fr)):∀(n off:Nat),off+n≤c.size→gF h b off ((c.toList.drop off).take n)
 | 0,off,_=>by simp [gF]
 | n+1,off,hl=>by
  have hlt:off<c.toList.length:=by simp;omega
  rw[rH hlt,wQ]
  refine⟨?_,IE e n (off+1) (by omega)⟩
  simp only[cellAt,e]
  simp at hlt
  simp [hlt]
theorem II{h:bS}{b:Nat}{c:Array Value}{t:TypeId}{fr:Nat×Nat}(e:h[b]?=some (.cells c t fr)):∀ {vs:List Value} {off:Nat},gF h b off vs→(c.toList.drop off).take vs.length=vs
 | [],_,_=>by simp
 | v::vs,off,x=>by
  have h1:=x.1
  simp only[cellAt,e] at h1
  obtain⟨hlt,hv⟩:=QD.1 h1
  have bR:off<c.toList.length:=by simpa using hlt
  rw[rH bR,aT,wQ,II e x.2]
  simp [hv]
theorem a67{α:Type}(C V:List α)(o n:Nat)(h:o+V.length≤n)(hn:n≤C.length) :
 (C.take o++V++C.drop (o+V.length)).take n=(C.take n).take o++V++(C.take n).drop (o+V.length):=by
 have hA:(C.take o++V).length=o+V.length:=by simp;omega
 rw[List.take_append,hA,n7 (by omega),yZ,mL (by omega),List.drop_take]
theorem a63{P:Program}{st:aB}{w:World}{b o sz:Nat}{t:TypeId}{ag:Bool}{cs:List AV}{x:AV}{v:Value}(S:dD w.heap st)(hT:tI P t=some (ag,sz))(hs:st b=some (.cells cs))(hx:aR w.heap st x v)
 (hw:x.cells.length=sz) (g7:o+sz≤cs.length) (hst:x.cells.all AV.storable=true) :
 ∃w',(Instr.storeAt t (.pointer (some ⟨b,o,none⟩)) v).run P w=.ok () w'∧dD w'.heap (st.aC b (.cells (aK cs o x.cells)))∧cL w.heap st w'.heap (st.aC b (.cells (aK cs o x.cells)))∧gQ w w':=by
 obtain⟨hlt,c,ty,hb,hl,vs,x1,x2⟩:=S b _ hs
 have hj:x≠.junk:=by rintro rfl;simp [AV.cells,AV.storable] at hst
 have hc:=hx.cells hj
 have hlen:v.cells.toList.length=sz:=by rw[hc.length,hw]
 have c8:v.cells.size=sz:=by simpa using hlen
 obtain⟨_,r2,_⟩:=tI_run hT w
 have hvl:=x2.length
 have pD:=run_storeCells_at P b o ty v.cells.toList 0 c w hb (by omega) (hc.F7 hst)
 simp only[HD,hlen] at pD
 refine⟨_,by simp only[Instr.storeAt,Instr.sureAddr,Sem.run_bind,Sem.run_pure,Result.andThen_ok,storeVar,r2,c8,ne_eq,OD,d4];exact pD,?_⟩
 generalize hc':(c.toList.take o++v.cells.toList++c.toList.drop (o+sz)).toArray=c' at *
 have hsz:c'.size=c.size:=by rw[←hc'];simp [c8];omega
 have iX:(w.setRow b c').heap[b]?=some (.cells c' ty (0,0)):=setRow_heap w b c c' ty (0,0) hb
 have qU:∀y,y<w.heap.size→y≠b→(w.setRow b c').heap[y]?=w.heap[y]?:=fun y _ hne=>setRow_other w b y c' hne
 have T:cL w.heap st (w.setRow b c').heap (st.aC b (.cells (aK cs o x.cells))):=by
  refine cL.sZ (by rw[hs];simp) (by simp) qU fun c1 t1 fr1 e1=>?_
  rw[hb] at e1;cases e1
  exact⟨c',iX,hsz⟩
 have wA:(aK cs o x.cells).length=cs.length:=by simp [aK,hw];omega
 refine⟨S.sZ T (by simpa using hlt) qU ⟨c',ty,iX,by rw[wA,hsz];exact hl,(c'.toList.drop 0).take cs.length,IE iX _ 0 (by rw[hsz];omega),?_⟩,T,⟨rfl,rfl,rfl⟩⟩
 refine bD.mono T _ _ ?_
 have uN:=II hb x1
 simp only[vK] at uN ⊢
 have e1:c'.toList.take cs.length=vs.take o++v.cells.toList++vs.drop (o+sz):=by
  rw[←hc',←uN,hvl]
  have:=a67 c.toList v.cells.toList o cs.length (by rw[hlen];exact g7) (by simpa using hl)
  rw[hlen] at this
  exact this
 rw[e1,aK,hw]
 exact((x2.take o).append hc).append (x2.drop (o+sz))
theorem gF.append{h:bS}{b:Nat}:∀ {vs us:List Value} {off:Nat},gF h b off vs→gF h b (off+vs.length) us→gF h b off (vs++us)
 | [],us,off,_,y=>by simpa using y
 | v::vs,us,off,x,y=>⟨x.1,gF.append x.2 (by rw[show off+1+vs.length=off+(v::vs).length by simp;omega];exact y)⟩
theorem VC.cellsOf{h:bS}{st:aB}{a:AV}{vs:List Value}(x:VC h st a vs):bD h st a.cells vs:=by
 by_cases ha:a.isAgg=true
 · cases a<;>simp [AV.isAgg] at ha
   simpa [AV.cells,VC] using x
 · have ha':a.isAgg=false:=by simpa using ha
   obtain⟨c,rfl⟩:=x.one ha'
   have h3:a.cells= [a]:=by cases a<;>first | rfl | (simp [AV.isAgg] at ha')
   rw[h3]
   simp only[bD]
   exact⟨c,[],rfl,x,rfl⟩
theorem dF.flat{h:bS}{st:aB}{b:Nat}:∀ {es:List AV} {off:Nat},dF h st b off es→∃vs,gF h b off vs∧bD h st (es.flatMap AV.cells) vs
 | [],off,_=>⟨[],trivial,by simp [bD]⟩
 | e::es,off,x=>by
  simp only[dF] at x
  obtain⟨⟨cs,c1,c2,c3⟩,x2⟩:=x
  obtain⟨vs,v1,v2⟩:=dF.flat x2
  exact⟨cs++vs,c1.append (by rw[c2];exact v1),by simpa using c3.cellsOf.append v2⟩
theorem w9(a:AV):a.cells.length=a.width:=by cases a<;>rfl
theorem qP{n:Nat}:∀ {es:List AV},(∀e∈es,e.width=n)→(es.flatMap AV.cells).length=es.length*n
 | [],_=>by simp
 | e::es,h=>by
  have:=qP (es:=es) (n:=n) (fun x hx=>h x (by simp [hx]))
  simp [w9,h e (by simp),this,sK]
  omega
def BV:AV→Option (List AV)
 | .slice es | .fslice es=>some es
 | _=>none
def eB(P:Program)(t:TypeId):Option Nat:=
 match P.underlying t with
 | some (.slice e)=>(P.info? e).map (·.bytes)
 | _=>none
def vQ(sz:Nat)(xs:List AV):Prop:=∀e∈xs,e.width=sz∧e.cells.all AV.storable=true
def kP(P:Program)(t:TypeId)(st:aB)(s x:AV)(K:AV→aB→Prop):Prop:=
 match eI P t,eB P t,eZ P t,BV x with
 | some (_,sz),some bytes,some zs,some xs=>zs.length=sz∧vQ sz xs ∧
  match s with
  | .fslice es=>(es.length+xs.length)*bytes≤140737488355328∧es.length+xs.length≤9223372036854775807∧(∀e∈es,e.width=sz) ∧
   (xs= []→K (.fslice es) st)∧(xs≠[]→∀b,st b=none→K (.mslice b 0 (es.length+xs.length) sz) (st.aC b (.cells ((es++xs).flatMap AV.cells))))
  | .mslice b 0 len n=>n=sz∧(len+xs.length)*bytes≤140737488355328∧len+xs.length≤9223372036854775807 ∧
   (match st b with
    | some (.cells cs)=>len*sz≤cs.length∧K (.mslice b 0 (len+xs.length) sz) (st.aC b (.cells (cs.take (len*sz)++xs.flatMap AV.cells))) ∧
     ∀b',st b'=none→K (.mslice b' 0 (len+xs.length) sz) ((st.erase b).aC b' (.cells (cs.take (len*sz)++xs.flatMap AV.cells)))
    | _=>False)
  | _=>False
 | _,_,_,_=>False
theorem a55{P:Program}(w:World)(t ty e t':TypeId)(i:TypeInfo)(ht:P.underlying t=some (.slice e))(hi:P.info? e=some i)
 (g iI nU:Nat) (cur:Array Value) (hg:w.heap[g]?=some (.cells cur t' (0,0)))
 (a:Addr) (m c:Nat) (news:List Value) (hl:news.length=m*i.size) (a2J:∀j u,news[j]?=some u→w.cell? (a.add j)=some u) (h1:∀u∈news,u.oneCell'=true)
 (rX:iI+m≤nU) (g7:iI*i.size+news.length≤cur.size) :
 (Builtin.append_ #[t,t] ty #[.slice (some ⟨g,0,none⟩) iI nU,.slice (some a) m c]).run P w =
  .ok (.slice (some ⟨g,0,none⟩) (iI+m) nU) (w.setRow g (cur.toList.take (iI*i.size)++news++cur.toList.drop (iI*i.size+news.length)).toArray):=by
 have hf:=run_firstCells_some (P:=P) w i.size m a m c news hl a2J
 have hst:=run_storeCells_at P g (iI*i.size) t' news 0 cur w hg (by simpa using g7) h1
 simp only[HD] at hst
 simp [Builtin.append_,run_underlying ht,sizeOf,typeInfo,hi,Builtin.lenOf,rX,hf,Addr.add_lit,hst]
theorem aQI{P:Program}(w:World)(t ty e:TypeId)(i:TypeInfo)(ht:P.underlying t=some (.slice e))(hi:P.info? e=some i)(base xb:Option Addr)(n cap xc:Nat)(h:n≤cap) :
 (Builtin.append_ #[t,t] ty #[.slice base n cap,.slice xb 0 xc]).run P w=.ok (.slice base n cap) w:=by
 cases base<;>cases xb<;>simp [Builtin.append_,run_underlying ht,sizeOf,typeInfo,hi,Builtin.lenOf,h,Builtin.firstCells,loadCells,loadCellsFrom,storeCells]
section
variable {P:Program} {st:aB} {w:World}
theorem EU{o:Oper}{a:Act}{t:TypeId}{s x:Operand}{w w':World}{v:Value}(ho:o.op=.call { callee:=.builtin .append,args:=#[s,x],argTypes:=#[t,t] })
 (h:(Builtin.append_ #[t,t] o.type #[a.eval s,a.eval x]).run P w=.ok v w'):(execOp a.eval o).run P w=.ok (.value v) w':=by
 simp only[execOp,ho,resolve,Sem.run_bind,Sem.run_pure,Result.andThen_ok,invoke,builtin]
 simp [h]
theorem ET{sz need cap:Nat}{e:TypeId}{z:Value}{zs:List AV}{as:List AV}{vs:List Value}(S:dD w.heap st)(hz:bD w.heap st zs z.cells.toList)(hzl:zs.length=sz)
 (hv:bD w.heap st as vs) (hl:as.length=need*sz) (FK:need≤cap) (hm:cap≤maxLen) (st0:aB) (JP:∀b o,st0 b=some o→st b=some o) :
 aR (w.drew.alloc (.cells (vs.toArray++Builtin.zeroCells z.cells (cap - need)) e)).heap (st0.aC w.heap.size (.cells as)) (.mslice w.heap.size 0 need sz) (.slice (some ⟨w.heap.size,0,none⟩) need cap) ∧
 dD (w.drew.alloc (.cells (vs.toArray++Builtin.zeroCells z.cells (cap - need)) e)).heap (st0.aC w.heap.size (.cells as)) ∧
 cL w.heap st (w.drew.alloc (.cells (vs.toArray++Builtin.zeroCells z.cells (cap - need)) e)).heap (st0.aC w.heap.size (.cells as)):=by
 generalize hc:vs.toArray++Builtin.zeroCells z.cells (cap - need)=c
 have hzz:z.cells.size=sz:=by have:=hz.length;simp at this;omega
 have hcs:c.size=cap*sz:=by
  rw[←hc]
  simp only[Array.size_append,List.size_toArray,size_zeroCells,hzz,hv.length,hl,←y6]
  congr 1
  omega
 show aR (w.heap.push (.cells c e)) _ _ _∧dD (w.heap.push (.cells c e)) _∧cL w.heap st (w.heap.push (.cells c e)) _
 have E:=Ext.push w.heap (.cells c e)
 have iX:(w.heap.push (.cells c e))[w.heap.size]?=some (.cells c e (0,0)):=by simp
 have oF:∀b,st b=none→st0 b=none:=fun b h=>by
  cases h0:st0 b with
  | none=>rfl
  | some o=>rw[JP b o h0] at h;cases h
 have T:cL w.heap st (w.heap.push (.cells c e)) (st0.aC w.heap.size (.cells as)):=
  ⟨E.size,fun b hb h=>⟨E.a7 b hb,by rw[aB.aG _ _ (by omega)];exact oF b h⟩,(E.step st).shape⟩
 refine⟨⟨rfl,cap,rfl,FK,hm,c,e,iX,by rw[hcs];omega⟩,fun b o hb=>?_,T⟩
 by_cases hne:b=w.heap.size
 · subst hne
   rw[aB.aJ] at hb;cases hb
   refine⟨by simp,c,e,iX,by rw[hl,hcs];exact tU _ FK,vs,?_,bD.mono T _ _ hv⟩
   have hvl:vs=(c.toList.drop 0).take vs.length:=by rw[←hc];simp
   rw[hvl]
   exact IE iX _ 0 (by rw[←hc];simp)
 · rw[aB.aG _ _ hne] at hb
   obtain⟨l,r⟩:=S b o (JP b o hb)
   exact⟨by simp;omega,mM.mono T (E.a7 b l) r⟩
theorem aUL{o:Oper}{a:Act}{φ:AF}{t:TypeId}{s x:Operand}{K:AV→aB→Prop}(ho:o.op=.call { callee:=.builtin .append,args:=#[s,x],argTypes:=#[t,t] })(F:fD w.heap st a.tmps φ)(S:dD w.heap st)
 (e:kP P t st (φ.eval s) (φ.eval x) K):∃v w',(execOp a.eval o).run P w=.ok (.value v) w'∧n9 st w K v w':=by
 unfold kP at e
 split at e
 case h_2=>cases e
 rename_i ag sz bytes zs xs hI hB hZ hX
 obtain⟨hzl,g7,e⟩:=e
 obtain⟨el,hu,hT⟩:=vX hI
 obtain⟨_,_,d,i,_,hi,uL,_⟩:=tI_run hT w
 have hby:i.bytes=bytes:=by simp only[eB,hu,hi,pN,Option.some.injEq] at hB;exact hB
 obtain⟨z,hz0,hzv⟩:∃z,i.zero=some z∧bD w.heap st zs z.cells.toList:=by
  simp only[eZ,hu] at hZ
  simp only[zI,hi] at hZ
  cases hz:i.zero with
  | none=>simp [hz] at hZ
  | some z=>simp only[hz,Option.some.injEq] at hZ;subst hZ;exact⟨z,rfl,bD.consts _ _ _⟩
 -- the second operand
 have hx:aR w.heap st (.slice xs) (a.eval x):=by
  have y:=aR.eval F x
  unfold BV at hX
  split at hX
  · rename_i es hx;cases hX;rw[hx] at y;exact y
  · rename_i es hx;cases hX;rw[hx] at y;exact y.JA
  · cases hX
 have hxs:∃xb xc news,a.eval x=.slice xb xs.length xc∧bD w.heap st (xs.flatMap AV.cells) news∧(∀u∈news,u.oneCell'=true)∧news.length=xs.length*i.size ∧
  (xs≠[]→∃xa,xb=some xa∧∀j u,news[j]?=some u→w.cell? (xa.add j)=some u):=by
  have hlen:=qP (es:=xs) (n:=sz) (fun e he=>(g7 e he).1)
  rcases hx.KF with ⟨⟨p0,hv⟩,rfl⟩ | ⟨b,off,cap,hv,l1,l2,e2,e3,ev,e4⟩
  · exact⟨p0,0,[],by simpa using hv,by simp [bD],by simp,by simp,by simp⟩
  · obtain⟨vs,v1,v2⟩:=e4.flat
    refine⟨_,cap,vs,hv,v2,v2.F7 ?_,by rw[v2.length,hlen,uL],fun _=>⟨_,rfl,fun j u hj=>by rw[Addr.qI,E2];exact v1.get j hj⟩⟩
    simp only[List.all_flatMap,eM]
    intro e he
    simpa using (g7 e he).2
 obtain⟨xb,xc,news,hxv,hnv,hn1,hnl,hnc⟩:=hxs
 have hs:=aR.eval F s
 split at e
 · rename_i es hes
   rw[hes] at hs
   obtain⟨hb1,hb2,hw,CY,JG⟩:=e
   by_cases hx0:xs= []
   · subst hx0
     obtain⟨base,hv⟩:∃base,a.eval s=.slice base es.length es.length:=by
      rcases hs.CM with ⟨⟨p0,hv⟩,rfl⟩ | ⟨b,off,hv,_⟩
      · exact⟨p0,hv⟩
      · exact⟨_,hv⟩
     refine⟨a.eval s,w,EU ho ?_,.fslice es,st,hs,S,cL.refl _ _,gQ.refl _,CY rfl⟩
     rw[hv,hxv]
     exact aQI w t o.type el i hu hi base xb es.length es.length xc (dC _)
   · obtain⟨xa,rfl,gO⟩:=hnc hx0
     have hlx:0<xs.length:=by cases xs<;>simp at hx0 ⊢
     rcases hs.CM with ⟨⟨p0,hv⟩,rfl⟩ | ⟨b,off,hv,l1,e2,e3,ev,e4⟩
     · cases p0 with
       | none=>
        have hr:=run_append_nil (P:=P) w t o.type el i z hu hi hz0 xa xs.length xc news hnl gO hlx (by simp at hb2;omega) (by rw[hby];simp at hb1;omega)
        have hN:=ET (w:=w) (st:=st) (e:=el) (need:=xs.length) (cap:=grownCap w xs.length 0 el) S hzv hzl hnv (by rw[qP (fun e he=>(g7 e he).1)]) (grownCap_ge ..) (grownCap_le_maxLen _ _ _ _ (by unfold maxLen;simp at hb2;omega)) st (fun _ _ h=>h)
        refine⟨_,_,EU ho (by rw[hv,hxv];exact hr),.mslice w.heap.size 0 xs.length sz,_,hN.1,hN.2.1,hN.2.2,⟨rfl,rfl,rfl⟩,?_⟩
        have:=JG hx0 w.heap.size S.fresh
        simpa using this
       | some a0=>
        have hr:=run_append_grow (P:=P) w t o.type el i z hu hi hz0 a0 0 0 [] (by simp) (by simp) xa xs.length xc news hnl gO (by omega) (by omega)
         (growslice_fits (by omega) (by rw[hby];simpa using hb1))
        have hN:=ET (w:=w) (st:=st) (e:=el) (need:=xs.length) (cap:=grownCap w (0+xs.length) 0 el) S hzv hzl hnv (by rw[qP (fun e he=>(g7 e he).1)]) (by have:=grownCap_ge w (0+xs.length) 0 el;omega) (grownCap_le_maxLen _ _ _ _ (by unfold maxLen;simp at hb2;omega)) st (fun _ _ h=>h)
        have hvn:(([]:List Value).toArray++news.toArray)=news.toArray:=by simp
        rw[hvn,iA] at hr
        rw[iA] at hN
        refine⟨_,_,EU ho (by rw[hv,hxv];exact hr),.mslice w.heap.size 0 xs.length sz,_,hN.1,hN.2.1,hN.2.2,⟨rfl,rfl,rfl⟩,?_⟩
        have:=JG hx0 w.heap.size S.fresh
        simpa using this
     · obtain⟨vs,v1,v2⟩:=e4.flat
       have hlv:vs.length=es.length*i.size:=by rw[v2.length,qP hw,uL]
       have hr:=run_append_grow (P:=P) w t o.type el i z hu hi hz0 ⟨b,off,none⟩ es.length es.length vs hlv (fun j u hj=>by rw[Addr.qI,E2];exact v1.get j hj) xa xs.length xc news hnl gO (by omega) (by omega)
        (growslice_fits (by omega) (by rw[hby];exact hb1))
       have hN:=ET (w:=w) (st:=st) (e:=el) (need:=es.length+xs.length) (cap:=grownCap w (es.length+xs.length) es.length el) S hzv hzl (v2.append hnv)
        (by rw[dW,qP hw,qP (fun e he=>(g7 e he).1),y6]) (grownCap_ge ..) (grownCap_le_maxLen _ _ _ _ (by unfold maxLen;omega)) st (fun _ _ h=>h)
       have hvn:vs.toArray++news.toArray=(vs++news).toArray:=by simp
       rw[hvn] at hr
       refine⟨_,_,EU ho (by rw[hv,hxv];exact hr),.mslice w.heap.size 0 (es.length+xs.length) sz,_,hN.1,hN.2.1,hN.2.2,⟨rfl,rfl,rfl⟩,?_⟩
       have:=JG hx0 w.heap.size S.fresh
       rwa [BF] at this
 · rename_i b len n hes
   rw[hes] at hs
   obtain⟨rfl,hb1,hb2,e⟩:=e
   split at e
   case h_2=>cases e
   rename_i cs hcs
   obtain⟨hlen,hin,JN⟩:=e
   obtain⟨cap,hv,l1,l2,c,t',iX,l3⟩:=hs.DB
   obtain⟨hlt,c',ty,hb',hl,vs,x1,x2⟩:=S b _ hcs
   rw[iX] at hb';cases hb'
   have hvl:=x2.length
   by_cases rX:len+xs.length≤cap
   · -- in place
     have JI:len*n+news.length≤c.size:=by
      rw[hnl,uL,←y6]
      have:=tU n rX
      omega
     have pD:∃c2:Array Value,(Builtin.append_ #[t,t] o.type #[a.eval s,a.eval x]).run P w=.ok (.slice (some ⟨b,0,none⟩) (len+xs.length) cap) (w.setRow b c2)∧c2.size=c.size∧c2.toList.take (len*n+news.length)=vs.take (len*n)++news:=by
      by_cases hx0:xs= []
      · subst hx0
        refine⟨c,?_,rfl,?_⟩
        · rw[hv,hxv,setRow_self w b c t' (0,0) iX]
          exact aQI w t o.type el i hu hi _ xb len cap xc l1
        · have:news= []:=sI (by simpa using hnl)
          subst this
          have uN:=II iX x1
          simp only[vK] at uN
          rw[←uN,yZ,mL (by omega)]
          simp
      · obtain⟨xa,rfl,gO⟩:=hnc hx0
        have hr:=a55 (P:=P) w t o.type el t' i hu hi b len cap c iX xa xs.length xc news hnl gO hn1 rX (by rw[uL];exact JI)
        rw[uL] at hr
        refine⟨_,by rw[hv,hxv];exact hr,by simp;omega,?_⟩
        have uN:=II iX x1
        simp only[vK] at uN
        rw[←uN,yZ,mL (by omega)]
        have hA:(c.toList.take (len*n)++news).length=len*n+news.length:=by simp;omega
        show List.take _ (_++_++_)=_
        rw[EE (by rw[hA];omega),n7 (by rw[hA];omega)]
     obtain⟨c2,hr,xU,htk⟩:=pD
     have xQ:(w.setRow b c2).heap[b]?=some (.cells c2 t' (0,0)):=setRow_heap w b c c2 t' (0,0) iX
     have qU:∀y,y<w.heap.size→y≠b→(w.setRow b c2).heap[y]?=w.heap[y]?:=fun y _ hne=>setRow_other w b y c2 hne
     have T:cL w.heap st (w.setRow b c2).heap (st.aC b (.cells (cs.take (len*n)++xs.flatMap AV.cells))):=by
      refine cL.sZ (by rw[hcs];simp) (by simp) qU fun c1 t1 fr1 e1=>?_
      rw[iX] at e1;cases e1
      exact⟨c2,xQ,xU⟩
     have hal:(cs.take (len*n)++xs.flatMap AV.cells).length=len*n+news.length:=by
      rw[dW,eC,←hnv.length,mL hlen]
     refine⟨_,_,EU ho hr,.mslice b 0 (len+xs.length) n,_,⟨rfl,cap,rfl,rX,l2,c2,t',xQ,by rw[xU];exact l3⟩,S.sZ T (by simpa using hlt) qU ⟨c2,t',xQ,by rw[hal,xU];exact JI,(c2.toList.drop 0).take (len*n+news.length),IE xQ _ 0 (by rw[xU];omega),?_⟩,T,⟨rfl,rfl,rfl⟩,hin⟩
     rw[vK,htk]
     exact bD.mono T _ _ ((x2.take (len*n)).append hnv)
   · -- a new row
     have hx0:xs≠[]:=by rintro rfl;simp at rX;omega
     obtain⟨xa,rfl,gO⟩:=hnc hx0
     have hlv:(vs.take (len*n)).length=len*i.size:=by rw[uL,eC,hvl,mL hlen]
     have hr:=run_append_grow (P:=P) w t o.type el i z hu hi hz0 ⟨b,0,none⟩ len cap (vs.take (len*n)) hlv (fun j u hj=>by
      rw[Addr.qI,E2];exact(x1.take (len*n)).get j hj) xa xs.length xc news hnl gO (by omega) (by omega)
      (growslice_fits (by omega) (by rw[hby];exact hb1))
     have hN:=ET (w:=w) (st:=st) (e:=el) (need:=len+xs.length) (cap:=grownCap w (len+xs.length) cap el) S hzv hzl ((x2.take (len*n)).append hnv)
      (by rw[dW,eC,mL hlen,qP (fun e he=>(g7 e he).1),y6]) (grownCap_ge ..) (grownCap_le_maxLen _ _ _ _ (by unfold maxLen;omega)) (st.erase b)
      (fun y o h=>by unfold aB.erase at h;split at h;cases h;exact h)
     have hvn:(vs.take (len*n)).toArray++news.toArray=(vs.take (len*n)++news).toArray:=by simp
     rw[hvn] at hr
     exact⟨_,_,EU ho (by rw[hv,hxv];exact hr),.mslice w.heap.size 0 (len+xs.length) n,_,hN.1,hN.2.1,hN.2.2,⟨rfl,rfl,rfl⟩,JN w.heap.size S.fresh⟩
 · cases e
end
section
variable {P:Program} {st:aB} {w:World}
theorem RE{o:Obj}{p:AO}{r:AV}{v:Value}{K:AV→aB→Prop}(S:dD w.heap st)(hr:aR (w.heap.push o) (st.aC w.heap.size p) r v)(ho:mM (w.heap.push o) (st.aC w.heap.size p) w.heap.size p)
 (hK:K r (st.aC w.heap.size p)):n9 st w K v (w.alloc o):=
 ⟨r,_,hr,S.F1 ho,cL.F1 _ _ _ _,⟨rfl,rfl,rfl⟩,hK⟩
theorem aPI{t:TypeId}{as:List AV}{v:Value}{K:AV→aB→Prop}(S:dD w.heap st)(hv:bD w.heap st as v.cells.toList)(hK:∀b,st b=none→K (.ptr b 0) (st.aC b (.cells as))) :
 n9 st w K (.pointer (some ⟨w.heap.size,0,none⟩)) (w.alloc (.cells v.cells t)):=by
 refine RE S (p:=.cells as) (r:=.ptr w.heap.size 0) ⟨rfl,rfl⟩ ?_ (hK _ S.fresh)
 have hl:=hv.length
 refine⟨v.cells,t,by simp,by rw[←hl];simp,v.cells.toList,IF w.heap _ t (0,0) _ 0 rfl,bD.mono (cL.F1 w.heap st _ _) _ _ hv⟩
theorem a4E{t:TypeId}{a:Act}{o:Oper}{K:AV→aB→Prop}(ho:o.op=.makeMap t none)(S:dD w.heap st)(hK:∀b,st b=none→K (.map b) (st.aC b (.map fun _=>none))) :
 ∃v w',(execOp a.eval o).run P w=.ok (.value v) w'∧n9 st w K v w':=by
 refine⟨.map (some w.heap.size),w.alloc (.map #[] 0),by simp [execOp,ho,Instr.makeMap],RE S (p:=.map fun _=>none) (r:=.map w.heap.size) ⟨rfl,rfl⟩ ?_ (hK _ S.fresh)⟩
 exact⟨#[],0,by simp,by simp,by simp,by simp⟩
def nS(zs:List AV)(n:Nat):List AV:=(List.range (n*zs.length)).map fun i=>zs.getD (i % zs.length) .junk
theorem bD.aPR{h:bS}{st:aB}:∀ {as:List AV} {vs:List Value},as.length=vs.length→(∀(i:Nat) a v,as[i]?=some a→vs[i]?=some v→VC h st a [v])→bD h st as vs
 | [],[],_,_=>by simp [bD]
 | a::as,v::vs,hl,h=>by
  simp only[bD]
  exact⟨v,vs,rfl,h 0 a v rfl rfl,bD.aPR (by simpa using hl) fun i a' v' e1 e2=>h (i+1) a' v' (by simpa using e1) (by simpa using e2)⟩
 | [],_::_,hl,_=>by simp at hl
 | _::_,[],hl,_=>by simp at hl
theorem bD.made{h:bS}{st:aB}{zs:List AV}{z:Array Value}(x:bD h st zs z.toList)(n:Nat):bD h st (nS zs n) (((Array.range (n*z.size)).map (fun i=>z[i % z.size]!)).toList):=by
 have hl:=x.length
 have hl':z.size=zs.length:=by simpa using hl
 refine bD.aPR (by simp [nS,hl']) fun i a v e1 e2=>?_
 obtain⟨hi,e1'⟩:=gW.1 e1
 obtain⟨hi2,e2'⟩:=gW.1 e2
 simp [nS] at hi e1' e2'
 have FO:0<zs.length:=by rcases Nat.eq_zero_or_pos zs.length with h0 | h0;(rw[h0] at hi;simp at hi);exact h0
 have aOG:i % zs.length<zs.length:=Nat.mod_lt _ FO
 rw[hl'] at e2'
 obtain⟨v',hv',hvc⟩:=x.get (i % zs.length) (a:=zs[i % zs.length]) (by simp [aOG])
 have ea:a=zs[i % zs.length]:=by rw[←e1'];simp [aOG]
 have hz:i % zs.length<z.size:=by omega
 have ev:v=v':=by
  rw[←e2',getElem!_pos z _ hz]
  simp [hz] at hv'
  exact hv'
 rw[ea,ev];exact hvc
def zD(P:Program)(t:TypeId)(st:aB)(n c:AV)(K:AV→aB→Prop):Prop:=
 match n,c,eI P t,eB P t,eZ P t with
 | .int .i64 n,.int .i64 m,some (_,sz),some bytes,some zs=>n=m∧0≤n∧n≤9223372036854775807∧n*bytes≤281474976710656∧zs.length=sz∧sz≠0 ∧
  ∀b,st b=none→K (.mslice b 0 n.toNat sz) (st.aC b (.cells (nS zs n.toNat)))
 | _,_,_,_,_=>False
theorem a4F{t:TypeId}{a:Act}{φ:AF}{o:Oper}{x y:Operand}{K:AV→aB→Prop}(ho:o.op=.makeSlice t x y)(F:fD w.heap st a.tmps φ)(S:dD w.heap st)(e:zD P t st (φ.eval x) (φ.eval y) K) :
 ∃v w',(execOp a.eval o).run P w=.ok (.value v) w'∧n9 st w K v w':=by
 have hx:=aR.eval F x
 have hy:=aR.eval F y
 unfold zD at e
 split at e
 case h_2=>cases e
 rename_i n m ag sz bytes zs ex ey hI hB hZ
 obtain⟨rfl,h0,hmx,hby,hzl,hsz,hK⟩:=e
 rw[ex] at hx
 rw[ey] at hy
 obtain⟨el,hu,hT⟩:=vX hI
 obtain⟨_,r2,d,i,_,hi,uL,_⟩:=tI_run hT w
 have hbi:i.bytes=bytes:=by simp only[eB,hu,hi,pN,Option.some.injEq] at hB;exact hB
 have hzs:zI P el=some zs:=by simpa [eZ,hu] using hZ
 obtain⟨z,z1,z2⟩:=zI_run hzs w.heap st w
 have hzc:z.cells.size=sz:=by have:=z2.length;simp at this;omega
 have a23:IntKind.i64.wrap n=n:=IntWalk.i64_in n (by omega)
 have uM:(decide (n<0)||decide ((bytes:Int)*n>2 ^ 48))=false:=by
  have h1:¬n<0:=by omega
  have h2:¬((bytes:Int)*n>2 ^ 48):=by rw[Int.mul_comm];omega
  simp only[h1,h2,bM,Bool.or_self]
 obtain⟨k,rfl⟩:=qF h0
 have hc':=bD.made z2 k
 generalize hcc:(Array.range (k*z.cells.size)).map (fun i=>z.cells[i % z.cells.size]!)=c at hc'
 have hcs:c.size=k*sz:=by rw[←hcc];simp [hzc]
 have run:(execOp a.eval o).run P w=.ok (.value (.slice (some ⟨w.heap.size,0,none⟩) k k)) (w.alloc (.cells c el)):=by
  simp only[execOp,ho,Instr.makeSlice,Sem.run_bind,fN hu,Result.andThen_ok,hx.lJ,hy.lJ,asInt,asIntOf,Sem.run_pure,typeInfo,run_program,hi,a23,hbi,uM,sH]
  have h1:(decide ((k:Int)<0)||decide ((k:Int)>(k:Int)))=false:=by simp
  rw[aE (by rw[h1];simp)]
  simp only[Sem.run_bind,run_askRoom,Result.andThen_ok,jT,r2]
  by_cases hk:k*sz=0
  · have hk0:k=0:=by rcases Nat.mul_eq_zero.1 hk with h | h;exact h;exact absurd h hsz
    subst hk0
    rw[aH hk]
    have:c= #[]:=by apply QC;omega
    subst this
    simp [newRow,Array.range]
    congr 2
    exact QC (by simp)
  · rw[aE hk]
    simp only[Sem.run_bind,z1,Result.andThen_ok,Sem.run_pure]
    rw[show(Array.range (k*sz)).map (fun i=>z.cells[i % z.cells.size]!)=c by rw[←hcc,hzc]]
    simp [newRow]
 refine⟨_,_,run,RE S (p:=.cells (nS zs k)) (r:=.mslice w.heap.size 0 k sz) ⟨rfl,k,rfl,dC _,by unfold maxLen;omega,c,el,by simp,by rw[hcs];omega⟩
  ⟨c,el,by simp,by simp [nS,hcs,hzl],c.toList,IF w.heap _ el (0,0) _ 0 rfl,bD.mono (cL.F1 w.heap st _ _) _ _ hc'⟩ (by simpa using hK _ S.fresh)⟩
def pG(f:Int→Option AV)(n:Int)(x:Option AV):Int→Option AV:=fun m=>if m=n then x else f m
def tX(P:Program)(t:TypeId)(st:aB)(m k v:AV)(K:AV→aB→Prop):Prop:=
 match m,k,P.underlying t with
 | .map b,.int .i64 n,some (.map kt _)=>match st b,P.underlying kt with
  | some (.map f),some (.int .i64)=>v.cJ=false∧K .undef (st.aC b (.map (pG f n (some v))))
  | _,_=>False
 | _,_,_=>False
theorem OU{b:Nat}{es es':Array MapEntry}{cl cl':Nat}(h:w.heap[b]?=some (.map es cl)):(setObj b (.map es' cl')).run P w=.ok () { w with heap:=w.heap.setIfInBounds b (.map es' cl') }:=by
 simp only[setObj,Sem.run,h]
theorem aO9{b:Nat}{es es':Array MapEntry}{cl cl':Nat}{f:Int→Option AV}{o:AO}{K:AV→aB→Prop}(S:dD w.heap st)(hb:w.heap[b]?=some (.map es cl))(hs:st b=some (.map f))
 (ho:∀h' st',cL w.heap st h' st'→h'[b]?=some (.map es' cl')→mM h' st' b o) (hK:K .undef (st.aC b o)):n9 st w K undef { w with heap:=w.heap.setIfInBounds b (.map es' cl') }:=by
 have hlt:b<w.heap.size:=(S b _ hs).1
 have iX:(w.heap.setIfInBounds b (.map es' cl'))[b]?=some (.map es' cl'):=by simp [hlt]
 have qU:∀y,y<w.heap.size→y≠b→(w.heap.setIfInBounds b (.map es' cl'))[y]?=w.heap[y]?:=fun y _ hne=>X4 (dG hne)
 have T:cL w.heap st (w.heap.setIfInBounds b (.map es' cl')) (st.aC b o):=cL.sZ (by rw[hs];simp) (by simp) qU fun c t fr e=>by rw[hb] at e;cases e
 exact⟨.undef,st.aC b o,⟨rfl,rfl⟩,S.sZ T (by simpa using hlt) qU (ho _ _ T iX),T,⟨rfl,rfl,rfl⟩,hK⟩
theorem a4H{t:TypeId}{a:Act}{φ:AF}{o:Oper}{m k x:Operand}{K:AV→aB→Prop}(ho:o.op=.mapUpdate t m k x)(F:fD w.heap st a.tmps φ)(S:dD w.heap st)(e:tX P t st (φ.eval m) (φ.eval k) (φ.eval x) K) :
 ∃w',(execOp a.eval o).run P w=.ok .skip w'∧n9 st w K undef w':=by
 have hm:=aR.eval F m
 have hk:=aR.eval F k
 have hx:=aR.eval F x
 unfold tX at e
 split at e
 case h_2=>cases e
 rename_i b n kt el em ek hu
 split at e
 case h_2=>cases e
 rename_i f hs hkt
 obtain⟨hj,hK⟩:=e
 rw[em] at hm
 rw[ek] at hk
 obtain⟨_,es,cl,hb,hk1,hk2,hk3⟩:=S b _ hs
 rcases I7 n es.toList 0 hk1 with ⟨j,e',h1,h2,h3⟩ | ⟨h1,h3⟩
 · -- there is such an entry
   have aN9:j<es.size:=by have:=(gW.1 h1).1;simpa using this
   have hej:es[j]?=some e':=by simpa using h1
   have run:(execOp a.eval o).run P w=.ok .skip { w with heap:=w.heap.setIfInBounds b (.map (es.modify j fun e=>{ e with key:=.int .i64 n,val:=a.eval x }) cl) }:=by
    simp only[execOp,ho,Instr.mapUpdate,Sem.run_bind,fN hu,Result.andThen_ok,hm.FV,hk.lJ,FD hb,E3 hkt,Instr.findKey,fN hkt,h3,Sem.run_pure,iA,hej,pN,Option.getD_some,h2]
    have hsb:Instr.sameBits 10000 (.int .i64 n) (.int .i64 n)=true:=by simp [Instr.sameBits]
    simp only[Instr.keyThatStays,hsb,fS,Sem.run_pure,Result.andThen_ok,OU hb]
   refine⟨_,run,aO9 (o:=.map (pG f n (some (φ.eval x)))) S hb hs (fun h' st' T hb'=>⟨_,cl,hb',?_,?_,fun q=>?_⟩) hK⟩
   · intro e he
     rw[pL,QE] at he
     obtain⟨i,hi⟩:=he
     rw[LJ] at hi
     split at hi
     · cases hee:es[i]? with
       | none=>rw[hee] at hi;cases hi
       | some e0=>rw[hee] at hi;cases hi;exact⟨n,rfl⟩
     · exact hk1 e (pL.2 (sG hi))
   · have:(es.modify j fun e=>{ e with key:=Value.int .i64 n,val:=a.eval x }).toList.map (·.key)=es.toList.map (·.key):=by
      apply LM
      intro i
      simp only[oX,Array.getElem?_toList,LJ]
      split
      · rename_i hij;subst hij;simp [hej,h2]
      · rfl
     rw[this];exact hk2
   · have hq:=hk3 q
     unfold pG
     by_cases hqn:q=n
     · subst hqn
       simp only[fS]
       refine⟨{ e' with key:=.int .i64 q,val:=a.eval x },?_,rfl,hx.mono T⟩
       rw[pL,QE]
       exact⟨j,by rw[LJ,aH rfl,hej];try rfl⟩
     · simp only[hqn,d4]
       split
       · rename_i v hf
         rw[hf] at hq
         obtain⟨e0,he0,hk0,hv0⟩:=hq
         refine⟨e0,?_,hk0,hv0.mono T⟩
         rw[pL,QE] at he0 ⊢
         obtain⟨i,hi⟩:=he0
         refine⟨i,?_⟩
         rw[LJ,aE,hi]
         rintro rfl
         rw[hej] at hi;cases hi
         rw[h2] at hk0;cases hk0;exact hqn rfl
       · rename_i hf
         rw[hf] at hq
         intro e he
         rw[pL,QE] at he
         obtain⟨i,hi⟩:=he
         rw[LJ] at hi
         split at hi
         · cases hee:es[i]? with
           | none=>rw[hee] at hi;cases hi
           | some e0=>rw[hee] at hi;cases hi;simpa using fun q'=>hqn q'.symm
         · exact hq e (pL.2 (sG hi))
 · -- a new entry
   have run:(execOp a.eval o).run P w=.ok .skip { w with heap:=w.heap.setIfInBounds b (.map (es.push { key:=.int .i64 n,val:=a.eval x,born:=cl }) (cl+1)) }:=by
    simp only[execOp,ho,Instr.mapUpdate,Sem.run_bind,fN hu,Result.andThen_ok,hm.FV,hk.lJ,FD hb,E3 hkt,Instr.findKey,fN hkt,h3,Sem.run_pure,OU hb]
   refine⟨_,run,aO9 (o:=.map (pG f n (some (φ.eval x)))) S hb hs (fun h' st' T hb'=>⟨_,cl+1,hb',?_,?_,fun q=>?_⟩) hK⟩
   · intro e he
     simp at he
     rcases he with he | rfl
     · exact hk1 e (pL.2 he)
     · exact⟨n,rfl⟩
   · simp only[Array.toList_push,oY,bB,aW]
     rw[n6]
     refine⟨hk2,by simp,?_⟩
     intro p hp r hr
     simp at hr
     subst hr
     obtain⟨e,he,rfl⟩:=cY.1 hp
     exact h1 e he
   · have hq:=hk3 q
     unfold pG
     by_cases hqn:q=n
     · subst hqn
       simp only[fS]
       exact⟨_,by simp;exact .inr rfl,rfl,hx.mono T⟩
     · simp only[hqn,d4]
       split
       · rename_i v hf
         rw[hf] at hq
         obtain⟨e0,he0,hk0,hv0⟩:=hq
         exact⟨e0,by simp;exact .inl (pL.1 he0),hk0,hv0.mono T⟩
       · rename_i hf
         rw[hf] at hq
         intro e he
         simp at he
         rcases he with he | rfl
         · exact hq e (pL.2 he)
         · simpa using fun q'=>hqn q'.symm
def BU(P:Program)(t:TypeId)(st:aB)(m k:AV)(K:AV→aB→Prop):Prop:=
 match m,k,P.underlying t with
 | .map b,.int .i64 n,some (.map kt _)=>match st b,P.underlying kt with
  | some (.map f),some (.int .i64)=>K (.tup []) (st.aC b (.map (pG f n none)))
  | _,_=>False
 | _,_,_=>False
theorem aPA{b:Nat}{es es':Array MapEntry}{cl cl':Nat}{f:Int→Option AV}{o:AO}{K:AV→aB→Prop}(S:dD w.heap st)(hb:w.heap[b]?=some (.map es cl))(hs:st b=some (.map f))
 (ho:∀h' st',cL w.heap st h' st'→h'[b]?=some (.map es' cl')→mM h' st' b o) (hK:K (.tup []) (st.aC b o)):n9 st w K (.tuple #[]) { w with heap:=w.heap.setIfInBounds b (.map es' cl') }:=by
 have hlt:b<w.heap.size:=(S b _ hs).1
 have iX:(w.heap.setIfInBounds b (.map es' cl'))[b]?=some (.map es' cl'):=by simp [hlt]
 have qU:∀y,y<w.heap.size→y≠b→(w.heap.setIfInBounds b (.map es' cl'))[y]?=w.heap[y]?:=fun y _ hne=>X4 (dG hne)
 have T:cL w.heap st (w.heap.setIfInBounds b (.map es' cl')) (st.aC b o):=cL.sZ (by rw[hs];simp) (by simp) qU fun c t fr e=>by rw[hb] at e;cases e
 exact⟨.tup [],st.aC b o,⟨rfl,[],rfl,rfl⟩,S.sZ T (by simpa using hlt) qU (ho _ _ T iX),T,⟨rfl,rfl,rfl⟩,hK⟩
theorem aZA{t t':TypeId}{a:Act}{φ:AF}{o:Oper}{m k:Operand}{K:AV→aB→Prop}(ho:o.op=.call { callee:=.builtin .delete,args:=#[m,k],argTypes:=#[t,t'] })(F:fD w.heap st a.tmps φ)(S:dD w.heap st)(e:BU P t st (φ.eval m) (φ.eval k) K) :
 ∃v w',(execOp a.eval o).run P w=.ok (.value v) w'∧n9 st w K v w':=by
 have hm:=aR.eval F m
 have hk:=aR.eval F k
 unfold BU at e
 split at e
 case h_2=>cases e
 rename_i b n kt el em ek hu
 split at e
 case h_2=>cases e
 rename_i f hs hkt
 rw[em] at hm
 rw[ek] at hk
 obtain⟨_,es,cl,hb,hk1,hk2,hk3⟩:=S b _ hs
 rcases I7 n es.toList 0 hk1 with ⟨j,e',h1,h2,h3⟩ | ⟨h1,h3⟩
 · have aN9:j<es.size:=by have:=(gW.1 h1).1;simpa using this
   have oD:(es.eraseIdxIfInBounds j).toList=es.toList.eraseIdx j:=by
    unfold Array.eraseIdxIfInBounds
    rw[dif_pos aN9]
    simp
   have run:(execOp a.eval o).run P w=.ok (.value (.tuple #[])) { w with heap:=w.heap.setIfInBounds b (.map (es.eraseIdxIfInBounds j) cl) }:=by
    simp only[execOp,ho,resolve,Sem.run_bind,Sem.run_pure,Result.andThen_ok,invoke,builtin]
    simp [Builtin.delete_,fN hu,hm.FV,hk.lJ,FD hb,E3 hkt,Instr.findKey,fN hkt,h3,OU hb,Result.andThen]
   have iB:∀x∈(es.eraseIdxIfInBounds j).toList,x∈es.toList:=fun x hx=>by rw[oD] at hx;exact(List.eraseIdx_sublist _ _).subset hx
   have a1W:∀x∈(es.eraseIdxIfInBounds j).toList,x.key≠.int .i64 n:=fun x hx hxn=>by
    rw[oD] at hx
    obtain⟨i,hi⟩:=G8 hx
    rw[List.getElem?_eraseIdx] at hi
    have key:∀i',i'≠j→es.toList[i']?=some x→False:=fun i' hne hx'=>by
     have ha:(es.toList.map (·.key))[i']?=some (.int .i64 n):=by rw[oX,hx'];simp [hxn]
     have hb':(es.toList.map (·.key))[j]?=some (.int .i64 n):=by rw[oX,h1];simp [h2]
     have hlt:i'<(es.toList.map (·.key)).length:=(gW.1 ha).1
     exact hne ((List.getElem?_inj hlt hk2).1 (ha.trans hb'.symm))
    split at hi
    · exact key i (by omega) hi
    · exact key (i+1) (by omega) hi
   refine⟨_,_,run,aPA (o:=.map (pG f n none)) S hb hs (fun h' st' T hb'=>⟨_,cl,hb',fun x hx=>hk1 x (iB x hx),?_,fun q=>?_⟩) e⟩
   · rw[oD]
     exact hk2.sublist ((List.eraseIdx_sublist _ _).map _)
   · have hq:=hk3 q
     unfold pG
     by_cases hqn:q=n
     · subst hqn
       simp only[fS]
       exact a1W
     · simp only[hqn,d4]
       split
       · rename_i v hf
         rw[hf] at hq
         obtain⟨e0,he0,hk0,hv0⟩:=hq
         refine⟨e0,?_,hk0,hv0.mono T⟩
         rw[oD]
         obtain⟨i,hi⟩:=G8 he0
         have hne:i≠j:=by
          rintro rfl
          rw[h1] at hi;cases hi
          rw[h2] at hk0;cases hk0;exact hqn rfl
         rw[List.mem_iff_getElem?]
         rcases k7 i j with h | h
         · exact⟨i,by rw[List.getElem?_eraseIdx,aH h];exact hi⟩
         · exact⟨i - 1,by rw[List.getElem?_eraseIdx,aE (by omega),show i - 1+1=i by omega];exact hi⟩
       · rename_i hf
         rw[hf] at hq
         exact fun x hx=>hq x (iB x hx)
 · have run:(execOp a.eval o).run P w=.ok (.value (.tuple #[])) { w with heap:=w.heap.setIfInBounds b (.map es cl) }:=by
    simp only[execOp,ho,resolve,Sem.run_bind,Sem.run_pure,Result.andThen_ok,invoke,builtin]
    simp [Builtin.delete_,fN hu,hm.FV,hk.lJ,FD hb,E3 hkt,Instr.findKey,fN hkt,h3,OU hb,Result.andThen]
   refine⟨_,_,run,aPA (o:=.map (pG f n none)) S hb hs (fun h' st' T hb'=>⟨_,cl,hb',hk1,hk2,fun q=>?_⟩) e⟩
   have hq:=hk3 q
   unfold pG
   by_cases hqn:q=n
   · subst hqn
     simp only[fS]
     exact h1
   · simp only[hqn,d4]
     split
     · rename_i v hf
       rw[hf] at hq
       obtain⟨e0,he0,hk0,hv0⟩:=hq
       exact⟨e0,he0,hk0,hv0.mono T⟩
     · rename_i hf
       rw[hf] at hq
       exact hq
end
def tW(P:Program)(t t':TypeId)(st:aB)(s x:AV)(K:AV→aB→Prop):Prop:=
 match eI P t,eB P t,eZ P t,P.underlying t',x with
 | some (_,sz),some bytes,some zs,some (.int _),.int .i64 k=>zs.length=sz∧sz≠0∧zs.all AV.storable=true∧0≤k ∧
  match s with
  | .fslice es=>es= []∧k.toNat*bytes≤140737488355328∧k≤9223372036854775807 ∧
   (k.toNat=0→K (.fslice []) st)∧(k.toNat≠0→∀b,st b=none→K (.mslice b 0 k.toNat sz) (st.aC b (.cells (nS zs k.toNat))))
  | .mslice b 0 len n=>n=sz∧(len+k.toNat)*bytes≤140737488355328∧len+k.toNat≤9223372036854775807 ∧
   (match st b with
    | some (.cells cs)=>len*sz≤cs.length∧K (.mslice b 0 (len+k.toNat) sz) (st.aC b (.cells (cs.take (len*sz)++nS zs k.toNat))) ∧
     ∀b',st b'=none→K (.mslice b' 0 (len+k.toNat) sz) ((st.erase b).aC b' (.cells (cs.take (len*sz)++nS zs k.toNat)))
    | _=>False)
  | _=>False
 | _,_,_,_,_=>False
theorem a4C(zs:List AV)(n:Nat):(nS zs n).length=n*zs.length:=by simp [nS]
theorem a8Z{z:Array Value}:Builtin.zeroCells z 0= #[]:=by apply QC;simp [size_zeroCells]
theorem a54{P:Program}(w:World)(t tn ty e t':TypeId)(i:TypeInfo)(z:Value)(kn:IntKind)(ht:P.underlying t=some (.slice e))(htn:P.underlying tn=some (.int kn))(hi:P.info? e=some i)(hz:i.zero=some z)(hzs:z.cells.size=i.size)(hs:0<i.size)
 (g iI nU:Nat) (cur:Array Value) (hg:w.heap[g]?=some (.cells cur t' (0,0)))
 (n:Nat) (h1:∀u∈(Builtin.zeroCells z.cells n).toList,u.oneCell'=true) (h63:(n:Int)≤9223372036854775807) (h48:n*i.bytes≤281474976710656)
 (rX:iI+n≤nU) (g7:iI*i.size+n*i.size≤cur.size) :
 (Builtin.append_ #[t,tn] ty #[.slice (some ⟨g,0,none⟩) iI nU,.int .i64 n]).run P w =
  .ok (.slice (some ⟨g,0,none⟩) (iI+n) nU) (w.setRow g (cur.toList.take (iI*i.size)++(Builtin.zeroCells z.cells n).toList++cur.toList.drop (iI*i.size+n*i.size)).toArray):=by
 have hw:IntKind.i64.wrap (n:Int)=n:=by rw[IntKind.wrap_i64];omega
 have T0:¬(281474976710656<(n:Int)*(i.bytes:Int)):=by rw[←Int.natCast_mul];omega
 have xT:¬((n:Int)<0):=by omega
 have hzl:(Builtin.zeroCells z.cells n).toList.length=n*i.size:=by simp [size_zeroCells,hzs]
 have hst:=run_storeCells_at P g (iI*i.size) t' (Builtin.zeroCells z.cells n).toList 0 cur w hg (by rw[hzl];simpa using g7) h1
 simp only[HD] at hst
 rw[hzl] at hst
 by_cases hn:n=0
 · subst hn
   rw[a8Z] at hst ⊢
   have a2T:iI≤nU:=by simpa using rX
   simp at hst
   simp [Builtin.append_,run_underlying ht,run_underlying htn,sizeOf,typeInfo,hi,asInt,asIntOf,IntKind.wrap_i64,a2T,Addr.add_lit,hst]
 · have hns:¬(n*i.size=0):=Nat.mul_ne_zero hn (by omega)
   simp [Builtin.append_,run_underlying ht,run_underlying htn,sizeOf,typeInfo,zeroValue,hi,hz,asInt,asIntOf,hw,xT,hns,T0,rX,Addr.add_lit,hst]
theorem aQH{P:Program}(w:World)(t tn ty e:TypeId)(i:TypeInfo)(z:Value)(kn:IntKind)(ht:P.underlying t=some (.slice e))(htn:P.underlying tn=some (.int kn))(hi:P.info? e=some i)(hz:i.zero=some z)(hs:0<i.size)
 (base:Option Addr) (iI nU:Nat) (F6:List Value) (hlo:F6.length=iI*i.size) (hn0:base=none→iI=0) (holds:∀b,base=some b→∀j v,F6[j]?=some v→w.cell? (b.add j)=some v)
 (n:Nat) (hg:nU<iI+n) (h0:0<n) (h63:((iI+n:Nat):Int)≤9223372036854775807) (h48:n*i.bytes≤281474976710656) (g7:Builtin.nextslicecap (iI+n) nU*i.bytes≤281474976710656) :
 (Builtin.append_ #[t,tn] ty #[.slice base iI nU,.int .i64 n]).run P w =
  .ok (.slice (some ⟨w.heap.size,0,none⟩) (iI+n) (grownCap w (iI+n) nU e))
   (w.drew.alloc (.cells ((F6++(Builtin.zeroCells z.cells n).toList).toArray++Builtin.zeroCells z.cells (grownCap w (iI+n) nU e - (iI+n))) e)):=by
 have hw:IntKind.i64.wrap (n:Int)=n:=by rw[IntKind.wrap_i64];omega
 have T0:¬(281474976710656<(n:Int)*(i.bytes:Int)):=by rw[←Int.natCast_mul];omega
 have xT:¬((n:Int)<0):=by omega
 have hns:¬(n*i.size=0):=Nat.mul_ne_zero (by omega) (by omega)
 have hn:¬(iI+n≤nU):=by omega
 have a02:¬(9223372036854775807<((iI:Int)+(n:Int))):=by omega
 have FH:¬(281474976710656<Builtin.nextslicecap (iI+n) nU*i.bytes):=by omega
 have hfo:(Builtin.firstCells i.size iI (.slice base iI nU)).run P w.drew=.ok F6.toArray w.drew:=by
  cases base with
  | none=>
   have:=hn0 rfl
   subst this
   have:F6= []:=sI (by simpa using hlo)
   subst this
   exact run_firstCells_none ..
  | some b=>exact run_firstCells_some (P:=P) w.drew i.size iI b iI nU F6 hlo (by simpa using holds b rfl)
 simp [Builtin.append_,run_underlying ht,run_underlying htn,sizeOf,typeInfo,zeroValue,hi,hz,asInt,asIntOf,hw,xT,hns,T0,hn,a02,FH,Question.forced,hfo,newRow,grownCap]
 congr 2
 apply Array.ext'
 simp [nE]
section
variable {P:Program} {st:aB} {w:World}
theorem L5{o:Oper}{a:Act}{t t':TypeId}{s x:Operand}{w w':World}{v:Value}(ho:o.op=.call { callee:=.builtin .append,args:=#[s,x],argTypes:=#[t,t'] })
 (h:(Builtin.append_ #[t,t'] o.type #[a.eval s,a.eval x]).run P w=.ok v w'):(execOp a.eval o).run P w=.ok (.value v) w':=by
 simp only[execOp,ho,resolve,Sem.run_bind,Sem.run_pure,Result.andThen_ok,invoke,builtin]
 simp [h]
theorem aUK{o:Oper}{a:Act}{φ:AF}{t t':TypeId}{s x:Operand}{K:AV→aB→Prop}(ho:o.op=.call { callee:=.builtin .append,args:=#[s,x],argTypes:=#[t,t'] })(F:fD w.heap st a.tmps φ)(S:dD w.heap st)
 (e:tW P t t' st (φ.eval s) (φ.eval x) K):∃v w',(execOp a.eval o).run P w=.ok (.value v) w'∧n9 st w K v w':=by
 unfold tW at e
 split at e
 case h_2=>cases e
 rename_i ag sz bytes zs kn k hI hB hZ hT' hX
 obtain⟨hzl,hsz,hst,hk0,e⟩:=e
 obtain⟨n,rfl⟩:=qF hk0
 simp only[jT] at e
 obtain⟨el,hu,hT⟩:=vX hI
 obtain⟨_,_,d,i,_,hi,uL,_⟩:=tI_run hT w
 have hby:i.bytes=bytes:=by simp only[eB,hu,hi,pN,Option.some.injEq] at hB;exact hB
 obtain⟨z,hz0,hzv⟩:∃z,i.zero=some z∧bD w.heap st zs z.cells.toList:=by
  simp only[eZ,hu] at hZ
  simp only[zI,hi] at hZ
  cases hz:i.zero with
  | none=>simp [hz] at hZ
  | some z=>simp only[hz,Option.some.injEq] at hZ;subst hZ;exact⟨z,rfl,bD.consts _ _ _⟩
 have hzc:z.cells.size=sz:=by have:=hzv.length;simp at this;omega
 have hxv:a.eval x=.int .i64 n:=by
  have y:=aR.eval F x
  rw[hX] at y
  exact y.lJ
 have hs:=aR.eval F s
 have hnv:bD w.heap st (nS zs n) (Builtin.zeroCells z.cells n).toList:=hzv.made n
 have hml:=a4C zs n
 split at e
 · rename_i es hes
   rw[hes] at hs
   obtain⟨rfl,hb1,hb2,CY,JG⟩:=e
   obtain⟨base,hv⟩:∃base,a.eval s=.slice base 0 0:=by
    rcases hs.CM with ⟨⟨p0,hv⟩,_⟩ | ⟨b,off,hv,_⟩
    · exact⟨p0,hv⟩
    · exact⟨_,hv⟩
   by_cases hn:n=0
   · subst hn
     refine⟨a.eval s,w,L5 ho ?_,.fslice [],st,hs,S,cL.refl _ _,gQ.refl _,CY rfl⟩
     rw[hv,hxv]
     cases base<;>simp [Builtin.append_,run_underlying hu,run_underlying hT',sizeOf,typeInfo,hi,asInt,asIntOf,IntKind.wrap_i64,storeCells]
   · have hr:=aQH (P:=P) w t t' o.type el i z kn hu hT' hi hz0 (by omega) base 0 0 [] (by simp) (fun _=>rfl) (by simp) n (by omega) (by omega) (by omega) (by rw[hby];omega)
      (growslice_fits (by omega) (by rw[hby];simpa using hb1))
     have hN:=ET (w:=w) (st:=st) (e:=el) (need:=n) (cap:=grownCap w (0+n) 0 el) S hzv hzl hnv (by rw[hml,hzl]) (by have:=grownCap_ge w (0+n) 0 el;omega) (grownCap_le_maxLen _ _ _ _ (by unfold maxLen;omega)) st (fun _ _ h=>h)
     simp only[eD,iA] at hr
     rw[iA] at hN
     exact⟨_,_,L5 ho (by rw[hv,hxv];exact hr),.mslice w.heap.size 0 n sz,_,hN.1,hN.2.1,hN.2.2,⟨rfl,rfl,rfl⟩,JG hn w.heap.size S.fresh⟩
 · rename_i b len m hes
   rw[hes] at hs
   obtain⟨rfl,hb1,hb2,e⟩:=e
   split at e
   case h_2=>cases e
   rename_i cs hcs
   obtain⟨hlen,hin,JN⟩:=e
   obtain⟨cap,hv,l1,l2,c,ty',iX,l3⟩:=hs.DB
   obtain⟨hlt,c',ty,hb',hl,vs,x1,x2⟩:=S b _ hcs
   rw[iX] at hb';cases hb'
   have hvl:=x2.length
   have h48:n*i.bytes≤281474976710656:=by
    have:n*bytes≤(len+n)*bytes:=tU _ (by omega)
    rw[hby];omega
   have a25:(Builtin.zeroCells z.cells n).toList.length=n*m:=by simp [size_zeroCells,hzc]
   by_cases rX:len+n≤cap
   · have JI:len*m+n*m≤c.size:=by
      rw[←y6]
      have:=tU m rX
      omega
     have hr:=a54 (P:=P) w t t' o.type el ty' i z kn hu hT' hi hz0 (by omega) (by omega) b len cap c iX n (hnv.F7 (by
      simp only[nS,List.all_map,eM]
      intro j hj
      simp only[yY] at hj
      have hp:0<zs.length:=by omega
      have hm:=Nat.mod_lt j hp
      simp only[Function.comp,List.getD_eq_getElem?_getD,fF hm,Option.getD_some]
      exact eM.1 hst _ (List.getElem_mem hm))) (by omega) h48 rX (by rw[uL];exact JI)
     rw[uL] at hr
     generalize hc2:(c.toList.take (len*m)++(Builtin.zeroCells z.cells n).toList++c.toList.drop (len*m+n*m)).toArray=c2 at hr
     have xU:c2.size=c.size:=by rw[←hc2];simp [size_zeroCells,hzc];omega
     have htk:c2.toList.take (len*m+n*m)=vs.take (len*m)++(Builtin.zeroCells z.cells n).toList:=by
      have uN:=II iX x1
      simp only[vK] at uN
      rw[←uN,yZ,mL (by omega)]
      have hA:(c.toList.take (len*m)++(Builtin.zeroCells z.cells n).toList).length=len*m+n*m:=by rw[dW,a25];simp;omega
      rw[←hc2]
      show List.take _ (_++_++_)=_
      rw[EE (by rw[hA];omega),n7 (by rw[hA];omega)]
     have xQ:(w.setRow b c2).heap[b]?=some (.cells c2 ty' (0,0)):=setRow_heap w b c c2 ty' (0,0) iX
     have qU:∀y,y<w.heap.size→y≠b→(w.setRow b c2).heap[y]?=w.heap[y]?:=fun y _ hne=>setRow_other w b y c2 hne
     have T:cL w.heap st (w.setRow b c2).heap (st.aC b (.cells (cs.take (len*m)++nS zs n))):=by
      refine cL.sZ (by rw[hcs];simp) (by simp) qU fun c1 t1 fr1 e1=>?_
      rw[iX] at e1;cases e1
      exact⟨c2,xQ,xU⟩
     have hal:(cs.take (len*m)++nS zs n).length=len*m+n*m:=by
      rw[dW,eC,hml,hzl,mL hlen]
     refine⟨_,_,L5 ho (by rw[hv,hxv];exact hr),.mslice b 0 (len+n) m,_,⟨rfl,cap,rfl,rX,l2,c2,ty',xQ,by rw[xU];exact l3⟩,S.sZ T (by simpa using hlt) qU ⟨c2,ty',xQ,by rw[hal,xU];exact JI,(c2.toList.drop 0).take (len*m+n*m),IE xQ _ 0 (by rw[xU];omega),?_⟩,T,⟨rfl,rfl,rfl⟩,hin⟩
     rw[vK,htk]
     exact bD.mono T _ _ ((x2.take (len*m)).append hnv)
   · have hlv:(vs.take (len*m)).length=len*i.size:=by rw[uL,eC,hvl,mL hlen]
     have hr:=aQH (P:=P) w t t' o.type el i z kn hu hT' hi hz0 (by omega) (some ⟨b,0,none⟩) len cap (vs.take (len*m)) hlv (by simp) (fun a0 ha0 j u hj=>by
      cases ha0
      rw[Addr.qI,E2];exact(x1.take (len*m)).get j hj) n (by omega) (by omega) (by omega) h48
      (growslice_fits (by omega) (by rw[hby];exact hb1))
     have hN:=ET (w:=w) (st:=st) (e:=el) (need:=len+n) (cap:=grownCap w (len+n) cap el) S hzv hzl ((x2.take (len*m)).append hnv)
      (by rw[dW,eC,mL hlen,hml,hzl,y6]) (grownCap_ge ..) (grownCap_le_maxLen _ _ _ _ (by unfold maxLen;omega)) (st.erase b)
      (fun y o h=>by unfold aB.erase at h;split at h;cases h;exact h)
     exact⟨_,_,L5 ho (by rw[hv,hxv];exact hr),.mslice w.heap.size 0 (len+n) m,_,hN.1,hN.2.1,hN.2.2,⟨rfl,rfl,rfl⟩,JN w.heap.size S.fresh⟩
 · cases e
end
def D7(mt:List Nat):Option Tmp→Bool
 | some d=>mt.contains d
 | none=>false
def fZ(P:Program)(mt:List Nat)(φ:AF)(st:aB)(o:Oper)(K:AV→aB→Prop):Prop:=
 match o.op with
 | .call { callee:=.value f,args,.. }=>match φ.eval f with
  | .func g eF=>aD P g (args.toList.map φ.eval++eF) st K
  | _=>False
 | .call { callee:=.builtin .append,args,argTypes }=>match args.toList,argTypes.toList with
  | [s,x],[t,t']=>if t=t' then kP P t st (φ.eval s) (φ.eval x) K else tW P t t' st (φ.eval s) (φ.eval x) K
  | _,_=>False
 | .call { callee:=.builtin .delete,args,argTypes }=>match args.toList,argTypes.toList with
  | [m,k],[t,_]=>BU P t st (φ.eval m) (φ.eval k) K
  | _,_=>False
 | .box t x=>if D7 mt o.dst=true then
  (φ.eval x).cJ=false∧∀b,st b=none→K (.ptr b 0) (st.aC b (.cells (φ.eval x).cells))
  else match yO P t (φ.eval x) with | some r=>K r st | none=>False
 | .alloc t=>match zI P t with
  | some zs=>∀b,st b=none→K (.ptr b 0) (st.aC b (.cells zs))
  | none=>False
 | .store t p x=>match φ.eval p with
  | .ptr b q=>match st b,tI P t with
   | some (.cells cs),some (_,sz)=>(φ.eval x).cells.length=sz∧q+sz≤cs.length∧(φ.eval x).cells.all AV.storable=true∧K .undef (st.aC b (.cells (aK cs q (φ.eval x).cells)))
   | _,_=>False
  | _=>False
 | .makeMap _ none=>∀b,st b=none→K (.map b) (st.aC b (.map fun _=>none))
 | .makeSlice t n c=>zD P t st (φ.eval n) (φ.eval c) K
 | .mapUpdate t m k x=>tX P t st (φ.eval m) (φ.eval k) (φ.eval x) K
 | _=>match mA P φ st o with | some r=>K r st | none=>False
theorem n9.aPU{st:aB}{w:World}{r:AV}{x:Result Next}{K:AV→aB→Prop}(y:kF st w r x)(S:dD w.heap st)(k:K r st):∃v w',x=.ok (.value v) w'∧n9 st w K v w':=by
 obtain⟨v,w',e,hv,E,hS⟩:=y
 exact⟨v,w',e,r,st,hv,S.ext E,E.step st,hS,k⟩
theorem aYR{P:Program}{g:FuncId}(h:X7 P g)(args:Array Value)(w:World):(callFunc g args).run P w=.ok (.enter g args) w:=by
 obtain⟨fn,h1,h2,h3⟩:=h
 have hb:fn.body.isNone=false:=by cases hb:fn.body<;>simp_all
 simp only[callFunc,Sem.run_bind,run_program,Result.andThen_ok,h1,h3,hb,jR,d4,Sem.run_pure]
theorem LY{P:Program}{mt:List Nat}{st:aB}{w:World}{a:Act}{φ:AF}{o:Oper}{K:AV→aB→Prop}{next:Act→World→Prop}{Q:Exit→Act→World→Prop}(F:fD w.heap st a.tmps φ)(S:dD w.heap st)
 (e:fZ P mt φ st o K) (hn:∀v w',n9 st w K v w'→next (a.put o.dst v) w'):o.wp P a w next Q:=by
 have val:(∃v w',(execOp a.eval o).run P w=.ok (.value v) w'∧n9 st w K v w')→o.wp P a w next Q:=by
  rintro⟨v,w',h1,h2⟩
  simp only[Oper.wp,h1,Oper.upon]
  exact hn v w' h2
 have skp:(∃w',(execOp a.eval o).run P w=.ok .skip w'∧n9 st w K Go.undef w')→o.wp P a w next Q:=by
  rintro⟨w',h1,h2⟩
  simp only[Oper.wp,h1,Oper.upon]
  exact hn _ w' h2
 unfold fZ at e
 split at e
 case h_1 f args ats ho=>
  split at e
  case h_2=>cases e
  rename_i g eF hf
  have yf:=aR.eval F f
  rw[hf] at yf
  obtain⟨cvs,hv,hc⟩:=yf.a0V
  obtain⟨hE,JF⟩:=e
  have sS:=(cZ.eval F args.toList).append (cZ.aPQ hc)
  have pD:(execOp a.eval o).run P w=.ok (.enter g (args.toList.map a.eval++cvs).toArray) w:=by
   have: #[]++Array.map a.eval args++cvs.toArray=(args.toList.map a.eval++cvs).toArray:=by apply Array.ext';simp
   simp only[execOp,ho,resolve,hv,Deferred.ofValue,Sem.run_bind,Sem.run_pure,Result.andThen_ok,invoke,this,aYR hE]
  simp only[Oper.wp,pD,Oper.upon]
  refine(JF w _ S sS).mono ?_
  rintro e' w' ⟨v,r,st',rfl,x1,x2,x3,x4,x5⟩
  exact hn v w' ⟨r,st',x1,x2,x3,x4,x5⟩
 case h_2 args ats ho=>
  split at e
  case h_2=>cases e
  rename_i s x t t' hx ht
  obtain rfl:args= #[s,x]:=by rw[←yQ (xs:=args),hx]
  obtain rfl:ats= #[t,t']:=by rw[←yQ (xs:=ats),ht]
  split at e
  · rename_i htt;subst htt
    exact val (aUL ho F S e)
  · exact val (aUK ho F S e)
 case h_3 args ats ho=>
  split at e
  case h_2=>cases e
  rename_i m k t t' hx ht
  obtain rfl:args= #[m,k]:=by rw[←yQ (xs:=args),hx]
  obtain rfl:ats= #[t,t']:=by rw[←yQ (xs:=ats),ht]
  exact val (aZA ho F S e)
 case h_4 t x ho=>
  split at e
  · obtain⟨hj,hK⟩:=e
    have y:=aR.eval F x
    exact val ⟨_,_,by simp [execOp,ho,Instr.box,newVar,newRow],aPI (t:=t) S (y.cells (by rintro h;rw[h] at hj;simp [AV.cJ] at hj)) hK⟩
  · split at e
    · rename_i r hr;exact val (n9.aPU (Z1 ho F S hr) S e)
    · cases e
 case h_5 t ho=>
  split at e
  case h_2=>cases e
  rename_i zs hz
  obtain⟨z,z1,z2⟩:=zI_run (P:=P) hz w.heap st w
  exact val ⟨_,_,by simp [execOp,ho,Instr.alloc,newVar,newRow,z1],aPI (t:=t) S z2 e⟩
 case h_6 t p x ho=>
  split at e
  case h_2=>cases e
  rename_i b q hp
  split at e
  case h_2=>cases e
  rename_i cs ag sz hs hT
  obtain⟨e1,e2,e3,hK⟩:=e
  have yp:=aR.eval F p
  rw[hp] at yp
  obtain⟨w',r1,r2,r3,r4⟩:=a63 S hT hs (aR.eval F x) e1 e2 e3
  exact skp ⟨w',by simp [execOp,ho,yp.DJ,r1],.undef,_,⟨rfl,rfl⟩,r2,r3,r4,hK⟩
 case h_7 t ho=>exact val (a4E ho S e)
 case h_8 t n c ho=>exact val (a4F ho F S e)
 case h_9 t m k x ho=>exact skp (a4H ho F S e)
 case h_10=>
  split at e
  · rename_i r hr;exact val (n9.aPU (aT7 F S hr) S e)
  · cases e
def kG(ops:Array Oper)(φ:AF)(o:Oper):Option Bool:=
 match o.guard with
 | none=>some true
 | some (j,want)=>match (ops[j]?).bind (·.dst) with
  | none=>some false
  | some d=>match φ d with
   | .bool b=>some (b == want)
   | .undef=>some false
   | _=>none
structure Rel (N:Nat) (a:Act) (w:World) (φ:AF) (st:aB):Prop where
 size:a.tmps.size=N
 defers:a.defers= []
 frame:fD w.heap st a.tmps φ
 store:dD w.heap st
theorem zC{N:Nat}{a:Act}{w:World}{φ:AF}{st:aB}{ops:Array Oper}{o:Oper}{b:Bool}(R:Rel N a w φ st)(hN:∀(j d:Nat),(ops[j]?).bind (·.dst)=some d→d<N)(e:kG ops φ o=some b):Region.wanted o (yielded ops a.tmps)=b:=by
 unfold kG at e
 unfold Region.wanted
 split at e
 · rename_i hg;rw[hg];exact jL e
 · rename_i j want hg
   rw[hg]
   simp only
   split at e
   · rename_i hd
     cases e
     simp [yielded,hd]
   · rename_i d hd
     have hdn:d<a.tmps.size:=by rw[R.size];exact hN j d hd
     have y:=R.frame d
     split at e
     · rename_i c hc
       rw[hc] at y
       have:=y.B2
       simp [hdn] at this
       cases e
       simp [yielded,hd,hdn,this]
     · rename_i hc
       rw[hc] at y
       have:=y.a8G
       simp [hdn] at this
       cases e
       simp [yielded,hd,hdn,this,Go.undef]
     · cases e
def rO(N:Nat)(o:Oper):Bool:=match o.dst with | some d=>decide (d<N) | none=>true
theorem Rel.put{N:Nat}{a:Act}{w w':World}{φ:AF}{st st':aB}{o:Oper}{r:AV}{v:Value}(R:Rel N a w φ st)(hd:rO N o=true)(T:cL w.heap st w'.heap st')(S:dD w'.heap st')(y:aR w'.heap st' r v) :
 Rel N (a.put o.dst v) w' (φ.put o.dst r) st':=by
 unfold rO at hd
 cases ho:o.dst with
 | none=>exact⟨R.size,R.defers,R.frame.mono T,S⟩
 | some d=>
  rw[ho] at hd
  have hlt:d<a.tmps.size:=by rw[R.size];simpa using hd
  exact⟨by simp [Act.put,R.size],R.defers,fD.set (R.frame.mono T) hlt y,S⟩
def bJ(P:Program)(mt:List Nat)(ops:Array Oper):List Oper→(AF→aB→Prop)→AF→aB→Prop
 | [],K,φ,st=>K φ st
 | o::rest,K,φ,st=>match kG ops φ o with
  | some true=>fZ P mt φ st o (fun r st'=>bJ P mt ops rest K (φ.put o.dst r) st')
  | some false=>bJ P mt ops rest K (φ.put o.dst .undef) st
  | none=>False
def yT(N:Nat)(w:World)(st:aB)(Q:Exit→AF→aB→Prop):Exit→Act→World→Prop:=
 fun e a' w'=>∃φ' st',Rel N a' w' φ' st'∧cL w.heap st w'.heap st'∧gQ w w'∧Q e φ' st'
theorem LX{P:Program}{mt:List Nat}{ops:Array Oper}{N:Nat}(hN:∀(j d:Nat),(ops[j]?).bind (·.dst)=some d→d<N){Q:Exit→Act→World→Prop} :
 ∀(l:List Oper) (K:AF→aB→Prop) (φ:AF) (st:aB) (a:Act) (w:World),(∀o∈l,rO N o=true)→Rel N a w φ st→bJ P mt ops l K φ st →
  (∀a' w' φ' st',Rel N a' w' φ' st'→cL w.heap st w'.heap st'→gQ w w'→K φ' st'→Q .normal a' w')→wpList P ops Q l a w
 | [],K,φ,st,a,w,_,R,e,h=>h a w φ st R (cL.refl _ _) (gQ.refl _) e
 | o::l,K,φ,st,a,w,hd,R,e,h=>by
  have hdo:=hd o (by simp)
  unfold bJ at e
  split at e
  · rename_i hg
    have hw:=zC R hN hg
    unfold wpList
    rw[aH hw]
    refine .inl (LY R.frame R.store e fun v w' ⟨r,st',x1,x2,x3,x4,x5⟩=>?_)
    exact LX hN l K _ st' _ w' (fun o ho=>hd o (by simp [ho])) (R.put hdo x3 x2 x1) x5
     fun a2 w2 φ2 st2 R2 T2 s2 k2=>h a2 w2 φ2 st2 R2 (x3.trans T2) (x4.trans s2) k2
  · rename_i hg
    have hw:=zC R hN hg
    unfold wpList
    rw[aE (by rw[hw];simp)]
    exact LX hN l K _ st _ w (fun o ho=>hd o (by simp [ho])) (R.put (r:=.undef) hdo (cL.refl _ _) R.store ⟨rfl,rfl⟩) e h
  · cases e
theorem tY{P:Program}{mt:List Nat}{ops:Array Oper}{N:Nat}(hN:∀(j d:Nat),(ops[j]?).bind (·.dst)=some d→d<N){Q:Exit→Act→World→Prop}{o:Oper}{l:List Oper}{K:AF→aB→Prop}{φ:AF}{st:aB}{a:Act}{w:World}
 (hdo:rO N o=true) (R:Rel N a w φ st) (e:bJ P mt ops [o] K φ st)
 (h:∀a' w' φ' st',Rel N a' w' φ' st'→cL w.heap st w'.heap st'→gQ w w'→K φ' st'→wpList P ops Q l a' w'):wpList P ops Q (o::l) a w:=by
 unfold bJ at e
 split at e
 · rename_i hg
   have hw:=zC R hN hg
   unfold wpList
   rw[aH hw]
   refine .inl (LY R.frame R.store e fun v w' ⟨r,st',x1,x2,x3,x4,x5⟩=>?_)
   exact h _ w' _ st' (R.put hdo x3 x2 x1) x3 x4 (by simpa only[bJ] using x5)
 · rename_i hg
   have hw:=zC R hN hg
   unfold wpList
   rw[aE (by rw[hw];simp)]
   exact h _ w _ st (R.put (r:=.undef) hdo (cL.refl _ _) R.store ⟨rfl,rfl⟩) (cL.refl _ _) (gQ.refl _) (by simpa only[bJ] using e)
 · cases e
def EM(P:Program)(t:TypeId)(x:AV)(K:AV→Prop):Prop:=
 match zI P t,tI P t with
 | some zs,some (_,sz)=>zs.length=sz∧x.cells.length=sz∧x.cells.all AV.storable=true∧x.cJ=false∧K (.pptr x)
 | _,_=>False
def qW(x:Operand)(d:Nat):Bool:=match x with | .tmp e=>e == d | _=>false
def gZ(P:Program)(mt:List Nat)(ops:Array Oper):List Oper→(AF→aB→Prop)→AF→aB→Prop
 | [],K,φ,st=>K φ st
 | ⟨some d,.alloc t,ty,pos,aft,none⟩::⟨none,.store t' (.tmp d') x,ty',pos',BZ,none⟩::rest,K,φ,st=>
  if d=d'∧t=t'∧(mt.contains d||qW x d)=false then EM P t (φ.eval x) (fun r=>gZ P mt ops rest K (φ.aC d r) st)
  else bJ P mt ops [⟨some d,.alloc t,ty,pos,aft,none⟩] (bJ P mt ops [⟨none,.store t' (.tmp d') x,ty',pos',BZ,none⟩] (fun φ' st'=>gZ P mt ops rest K φ' st')) φ st
 | ⟨some d,.alloc t,ty,pos,aft,none⟩::⟨some e,.assign y,ty2,yA,RD,none⟩::⟨none,.store t' (.tmp d') x,ty',pos',BZ,none⟩::rest,K,φ,st=>
  if d=d'∧t=t'∧(mt.contains d||qW x d||qW y d||d == e)=false then EM P t ((φ.aC e (φ.eval y)).eval x) (fun r=>gZ P mt ops rest K ((φ.aC e (φ.eval y)).aC d r) st)
  else bJ P mt ops [⟨some d,.alloc t,ty,pos,aft,none⟩] (bJ P mt ops [⟨some e,.assign y,ty2,yA,RD,none⟩] (bJ P mt ops [⟨none,.store t' (.tmp d') x,ty',pos',BZ,none⟩] (fun φ' st'=>gZ P mt ops rest K φ' st'))) φ st
 | o::rest,K,φ,st=>bJ P mt ops [o] (fun φ' st'=>gZ P mt ops rest K φ' st') φ st
theorem cL.forget{h:bS}{st:aB}{b:Nat}{o:AO}(hb:st b=none):cL h (st.aC b o) h st:=
 ⟨dC _,fun x _ e=>⟨rfl,by
  by_cases hx:x=b
  · rw[hx];exact hb
  · rwa [aB.aG _ _ hx] at e⟩,fun _ c _ _ e=>⟨c,e,rfl⟩⟩
theorem dD.forget{h:bS}{st:aB}{b:Nat}{o:AO}(hb:st b=none)(S:dD h (st.aC b o)):dD h st:=fun x p e=>by
 have hx:x≠b:=by rintro rfl;rw[hb] at e;cases e
 obtain⟨h1,h2⟩:=S x p (by rw[aB.aG _ _ hx];exact e)
 exact⟨h1,h2.mono (cL.forget hb) rfl⟩
theorem VC.aPP{h:bS}{st:aB}{x:AV}{vs:List Value}(hj:x.cJ=false)(y:bD h st x.cells vs):VC h st x vs:=by
 cases x
 case agg cs=>unfold VC;exact y
 case junk=>cases hj
 all_goals
  simp only[AV.cells,bD] at y
  obtain⟨c,r,rfl,y,rfl⟩:=y
  exact y
theorem aTW{P:Program}{mt:List Nat}{ops:Array Oper}{N:Nat}(hN:∀(j d:Nat),(ops[j]?).bind (·.dst)=some d→d<N){Q:Exit→Act→World→Prop}(l:List Oper)(K:AF→aB→Prop)(φ:AF)(st:aB) :
 ∀(a:Act) (w:World),(∀o∈l,rO N o=true)→Rel N a w φ st→gZ P mt ops l K φ st →
  (∀a' w' φ' st',Rel N a' w' φ' st'→cL w.heap st w'.heap st'→gQ w w'→K φ' st'→Q .normal a' w')→wpList P ops Q l a w:=by
 induction l,K,φ,st using gZ.induct (mt:=mt) with
 | case1 K φ st=>intro a w _ R e h;rw[gZ] at e;exact h a w φ st R (cL.refl _ _) (gQ.refl _) e
 | case2 d t ty pos aft t' d' x ty' pos' BZ rest K φ st hc ih=>
  intro a w hd R e h
  rw[gZ,aH hc] at e
  obtain⟨rfl,rfl,hm⟩:=hc
  unfold EM at e
  split at e
  case h_2=>cases e
  rename_i zs ag sz hz hT
  obtain⟨e1,e2,e3,e4,e5⟩:=e
  have hx:∀v,(φ.aC d v).eval x=φ.eval x:=by
   intro v
   cases x with
   | tmp y=>
    have hne:y≠d:=by rintro rfl;simp [qW] at hm
    simp only[AF.eval,AF.aG φ v hne]
   | _=>rfl
  have hd1:=hd _ (List.mem_cons_self ..)
  refine tY (mt:=mt) (K:=fun φ' st'=>∃b,st b=none∧φ'=φ.aC d (.ptr b 0)∧st'=st.aC b (.cells zs)) hN hd1 R ?_ ?_
  · simp only[bJ,kG,fZ,hz]
    exact fun b hb=>⟨b,hb,rfl,rfl⟩
  rintro a1 w1 _ _ R1 T1 s1 ⟨b,hb,rfl,rfl⟩
  refine tY (mt:=mt) (K:=fun φ' st'=>φ'=φ.aC d (.ptr b 0)∧st'=st.aC b (.cells (φ.eval x).cells)) hN (hd _ (by simp)) R1 ?_ ?_
  · simp only[bJ,kG,fZ]
    rw[show(φ.aC d (.ptr b 0)).eval (.tmp d)=.ptr b 0 from AF.aJ _ _ _]
    simp only[aB.aJ,hT,hx]
    refine⟨e2,by omega,e3,rfl,?_⟩
    rw[cK]
    congr 2
    simp [aK,e1,e2]
  rintro a2 w2 _ _ R2 T2 s2 ⟨rfl,rfl⟩
  have F2:=R2.frame
  have T3:=cL.forget (h:=w2.heap) (o:=.cells (φ.eval x).cells) hb
  have R3:Rel N a2 w2 (φ.aC d (.pptr (φ.eval x))) st:=by
   refine⟨R2.size,R2.defers,fun y=>?_,dD.forget hb R2.store⟩
   by_cases hy:y=d
   · subst hy
     rw[AF.aJ]
     have y1:=F2 y
     rw[AF.aJ] at y1
     have hv:=y1.DJ
     obtain⟨h1,c,t2,h2,h3,vs,h4,h5⟩:=R2.store b _ (aB.aJ _ _ _)
     rw[hv]
     refine⟨rfl,b,0,rfl,hb,h1,vs,h4,by rw[h5.length,w9],VC.mono T3 _ _ (VC.aPP e4 h5)⟩
   · rw[AF.aG _ _ hy]
     have y1:=F2 y
     rw[AF.aG _ _ hy] at y1
     exact y1.mono T3
  have T4:=(T1.trans T2).trans T3
  exact ih _ a2 w2 (fun o ho=>hd o (by simp [ho])) R3 e5 fun a' w' φ' st' R' T' s' k=>h a' w' φ' st' R' (T4.trans T') ((s1.trans s2).trans s') k
 | case3 d t ty pos aft t' d' x ty' pos' BZ rest K φ st hc ih=>
  intro a w hd R e h
  rw[gZ,aE hc] at e
  refine tY hN (hd _ (by simp)) R e fun a1 w1 φ1 st1 R1 T1 s1 k1=>?_
  refine tY hN (hd _ (by simp)) R1 k1 fun a2 w2 φ2 st2 R2 T2 s2 k2=>?_
  exact ih _ _ a2 w2 (fun o ho=>hd o (by simp [ho])) R2 k2 fun a' w' φ' st' R' T' s' k=>h a' w' φ' st' R' ((T1.trans T2).trans T') ((s1.trans s2).trans s') k
 | case4 d t ty pos aft e0 y ty2 yA RD t' d' x ty' pos' BZ rest K φ st hc ih=>
  intro a w hd R e h
  rw[gZ,aH hc] at e
  obtain⟨rfl,rfl,hm⟩:=hc
  unfold EM at e
  split at e
  case h_2=>cases e
  rename_i zs ag sz hz hT
  obtain⟨e1,e2,e3,e4,e5⟩:=e
  simp only[Bool.or_eq_false_iff,beq_eq_false_iff_ne,ne_eq] at hm
  obtain⟨⟨⟨hm1,hmx⟩,hmy⟩,hde⟩:=hm
  have hev:∀(ψ:AF) (z:Operand) v,qW z d=false→(ψ.aC d v).eval z=ψ.eval z:=by
   intro ψ z v hz
   cases z with
   | tmp q=>
    have hne:q≠d:=by rintro rfl;simp [qW] at hz
    simp only[AF.eval,AF.aG ψ v hne]
   | _=>rfl
  have hcm:∀v u,(φ.aC d v).aC e0 u=(φ.aC e0 u).aC d v:=fun v u=>AF.nD φ v u hde
  have hd1:=hd _ (List.mem_cons_self ..)
  refine tY (mt:=mt) (K:=fun φ' st'=>∃b,st b=none∧φ'=φ.aC d (.ptr b 0)∧st'=st.aC b (.cells zs)) hN hd1 R ?_ ?_
  · simp only[bJ,kG,fZ,hz]
    exact fun b hb=>⟨b,hb,rfl,rfl⟩
  rintro a1 w1 _ _ R1 T1 s1 ⟨b,hb,rfl,rfl⟩
  refine tY (mt:=mt) (K:=fun φ' st'=>φ'=(φ.aC e0 (φ.eval y)).aC d (.ptr b 0)∧st'=st.aC b (.cells zs)) hN (hd _ (by simp)) R1 ?_ ?_
  · simp only[bJ,kG,fZ,mA]
    rw[hev φ y _ hmy]
    exact⟨hcm _ _,trivial⟩
  rintro a2 w2 _ _ R2 T2 s2 ⟨rfl,rfl⟩
  refine tY (mt:=mt) (K:=fun φ' st'=>φ'=(φ.aC e0 (φ.eval y)).aC d (.ptr b 0)∧st'=st.aC b (.cells ((φ.aC e0 (φ.eval y)).eval x).cells)) hN (hd _ (by simp)) R2 ?_ ?_
  · simp only[bJ,kG,fZ]
    rw[show((φ.aC e0 (φ.eval y)).aC d (.ptr b 0)).eval (.tmp d)=.ptr b 0 from AF.aJ _ _ _]
    simp only[aB.aJ,hT,hev (φ.aC e0 (φ.eval y)) x _ hmx]
    refine⟨e2,by omega,e3,rfl,?_⟩
    rw[cK]
    congr 2
    simp [aK,e1,e2]
  rintro a3 w3 _ _ R3 T3 s3 ⟨rfl,rfl⟩
  have F2:=R3.frame
  have T4:=cL.forget (h:=w3.heap) (o:=.cells ((φ.aC e0 (φ.eval y)).eval x).cells) hb
  have R4:Rel N a3 w3 ((φ.aC e0 (φ.eval y)).aC d (.pptr ((φ.aC e0 (φ.eval y)).eval x))) st:=by
   refine⟨R3.size,R3.defers,fun z=>?_,dD.forget hb R3.store⟩
   by_cases hy:z=d
   · subst hy
     rw[AF.aJ]
     have y1:=F2 z
     rw[AF.aJ] at y1
     have hv:=y1.DJ
     obtain⟨h1,c,t2,h2,h3,vs,h4,h5⟩:=R3.store b _ (aB.aJ _ _ _)
     rw[hv]
     refine⟨rfl,b,0,rfl,hb,h1,vs,h4,by rw[h5.length,w9],VC.mono T4 _ _ (VC.aPP e4 h5)⟩
   · rw[AF.aG _ _ hy]
     have y1:=F2 z
     rw[AF.aG _ _ hy] at y1
     exact y1.mono T4
  have T5:=((T1.trans T2).trans T3).trans T4
  exact ih _ a3 w3 (fun o ho=>hd o (by simp [ho])) R4 e5 fun a' w' φ' st' R' T' s' k=>h a' w' φ' st' R' (T5.trans T') (((s1.trans s2).trans s3).trans s') k
 | case5 d t ty pos aft e0 y ty2 yA RD t' d' x ty' pos' BZ rest K φ st hc ih=>
  intro a w hd R e h
  rw[gZ,aE hc] at e
  refine tY hN (hd _ (by simp)) R e fun a1 w1 φ1 st1 R1 T1 s1 k1=>?_
  refine tY hN (hd _ (by simp)) R1 k1 fun a2 w2 φ2 st2 R2 T2 s2 k2=>?_
  refine tY hN (hd _ (by simp)) R2 k2 fun a3 w3 φ3 st3 R3 T3 s3 k3=>?_
  exact ih _ _ a3 w3 (fun o ho=>hd o (by simp [ho])) R3 k3 fun a' w' φ' st' R' T' s' k=>h a' w' φ' st' R' (((T1.trans T2).trans T3).trans T') (((s1.trans s2).trans s3).trans s') k
 | case6 o rest K φ st hne xS ih=>
  intro a w hd R e h
  rw[gZ] at e
  case x_4=>exact hne
  case x_5=>exact xS
  refine tY hN (hd _ (by simp)) R e fun a1 w1 φ1 st1 R1 T1 s1 k1=>?_
  exact ih _ _ a1 w1 (fun o ho=>hd o (by simp [ho])) R1 k1 fun a' w' φ' st' R' T' s' k=>h a' w' φ' st' R' (T1.trans T') (s1.trans s') k
def g8(P:Program)(N:Nat)(c:Code)(Q:Exit→AF→aB→Prop)(φ:AF)(st:aB):Prop:=
 ∀a w,Rel N a w φ st→c.wp P (yT N w st Q) a w
def K2(k:AF→aB→Prop)(Q:Exit→AF→aB→Prop):Exit→AF→aB→Prop
 | .normal,φ,st=>k φ st
 | e,φ,st=>Q e φ st
def EX(id:Nat)(Q:Exit→AF→aB→Prop):Exit→AF→aB→Prop
 | .exit i,φ,st=>if i=id then Q .normal φ st else Q (.exit i) φ st
 | e,φ,st=>Q e φ st
def wW(c:AV)(k₁ k₂:AF→aB→Prop)(φ:AF)(st:aB):Prop:=
 match c with
 | .bool b=>(b=true→k₁ φ st)∧(b=false→k₂ φ st)
 | _=>False
def gY(P:Program)(N:Nat)(mt:List Nat):Code→(Exit→AF→aB→Prop)→AF→aB→Prop
 | .skip,Q,φ,st=>Q .normal φ st
 | .region id ops draw,Q,φ,st=>if draw then g8 P N (.region id ops true) Q φ st else if mt.contains 1000000=true then gZ P mt ops ops.toList (Q .normal) φ st else bJ P mt ops ops.toList (Q .normal) φ st
 | .seq x y,Q,φ,st=>gY P N mt x (K2 (gY P N mt y Q) Q) φ st
 | .cond c x y,Q,φ,st=>wW (φ.eval c) (gY P N mt x Q) (gY P N mt y Q) φ st
 | .block id x,Q,φ,st=>gY P N mt x (EX id Q) φ st
 | .loop x,Q,φ,st=>g8 P N (.loop x) Q φ st
 | .exit id,Q,φ,st=>Q (.exit id) φ st
 | .ret,Q,φ,st=>Q .ret φ st
 | c,Q,φ,st=>g8 P N c Q φ st
def q9(N:Nat)(ops:Array Oper):Bool:=ops.all (rO N)
def codeOk(N:Nat):Code→Bool
 | .region _ ops _=>q9 N ops
 | .seq x y=>codeOk N x&&codeOk N y
 | .cond _ x y=>codeOk N x&&codeOk N y
 | .block _ x=>codeOk N x
 | .loop x=>codeOk N x
 | _=>true
theorem x7{N:Nat}{ops:Array Oper}(h:q9 N ops=true):∀o∈ops.toList,rO N o=true:=by
 intro o ho
 exact Array.all_eq_true_iff_forall_mem.1 h o (pL.1 ho)
theorem AI{N:Nat}{ops:Array Oper}(h:q9 N ops=true):∀(j d:Nat),(ops[j]?).bind (·.dst)=some d→d<N:=by
 intro j d e
 cases hj:ops[j]? with
 | none=>rw[hj] at e;cases e
 | some o=>
  rw[hj] at e
  have:=x7 h o (pL.2 (sG hj))
  unfold rO at this
  simp only[Option.bind_some] at e
  rw[e] at this
  simpa using this
theorem yT.mono{N:Nat}{w w':World}{st st':aB}{Q:Exit→AF→aB→Prop}(T:cL w.heap st w'.heap st')(s:gQ w w'){e:Exit}{a:Act}{w2:World}(x:yT N w' st' Q e a w2):yT N w st Q e a w2:=by
 obtain⟨φ',st2,R,T2,s2,q⟩:=x
 exact⟨φ',st2,R,T.trans T2,s.trans s2,q⟩
theorem BT{P:Program}{N:Nat}{mt:List Nat}:∀(c:Code) (Q:Exit→AF→aB→Prop) (φ:AF) (st:aB),codeOk N c=true→gY P N mt c Q φ st→g8 P N c Q φ st
 | .skip,Q,φ,st,_,e=>fun a w R=>wp_skip ⟨φ,st,R,cL.refl _ _,gQ.refl _,e⟩
 | .region id ops draw,Q,φ,st,hc,e=>fun a w R=>by
  simp only[gY] at e
  cases draw with
  | true=>exact e a w R
  | false=>
   simp only[jR,d4] at e
   split at e
   · exact wp_region_list (aTW (AI hc) ops.toList _ φ st a w (x7 hc) R e fun a' w' φ' st' R' T s k=>⟨φ',st',R',T,s,k⟩)
   exact wp_region_list (LX (AI hc) ops.toList _ φ st a w (x7 hc) R e fun a' w' φ' st' R' T s k=>⟨φ',st',R',T,s,k⟩)
 | .seq x y,Q,φ,st,hc,e=>fun a w R=>by
  simp only[codeOk,cE] at hc
  refine wp_seq (wp_mono (BT x _ φ st hc.1 e a w R) ?_)
  rintro ex a' w' ⟨φ',st',R',T,s,q⟩
  cases ex with
  | normal=>exact wp_mono (BT y Q φ' st' hc.2 q a' w' R') fun _ _ _ h=>h.mono T s
  | _=>exact⟨φ',st',R',T,s,q⟩
 | .cond c x y,Q,φ,st,hc,e=>fun a w R=>by
  simp only[codeOk,cE] at hc
  simp only[gY,wW] at e
  split at e
  case h_2=>cases e
  rename_i b hb
  have yc:=aR.eval R.frame c
  rw[hb] at yc
  refine wp_cond_split yc.B2 (fun h=>?_) (fun h=>?_)
  · exact BT x Q φ st hc.1 (e.1 h) a w R
  · exact BT y Q φ st hc.2 (e.2 h) a w R
 | .block id x,Q,φ,st,hc,e=>fun a w R=>by
  refine wp_block (wp_mono (BT x _ φ st hc e a w R) ?_)
  rintro ex a' w' ⟨φ',st',R',T,s,q⟩
  cases ex with
  | exit i=>
   simp only[Exit.inBlock,EX] at q ⊢
   split<;>rename_i h
   · rw[aH h] at q;exact⟨φ',st',R',T,s,q⟩
   · rw[aE h] at q;exact⟨φ',st',R',T,s,q⟩
  | _=>exact⟨φ',st',R',T,s,q⟩
 | .loop x,Q,φ,st,_,e=>e
 | .exit id,Q,φ,st,_,e=>fun a w R=>wp_exit ⟨φ,st,R,cL.refl _ _,gQ.refl _,e⟩
 | .ret,Q,φ,st,_,e=>fun a w R=>wp_ret ⟨φ,st,R,cL.refl _ _,gQ.refl _,e⟩
 | .rangeFunc ..,Q,φ,st,_,e=>e
 | .scope _,Q,φ,st,_,e=>e
 | .label _,Q,φ,st,_,e=>e
 | .goto _,Q,φ,st,_,e=>e
 | .refuse _,Q,φ,st,_,e=>e
def EQ(P:Program)(φ:AF)(st:aB):ResultVar→Option AV
 | .tmp t=>some (φ t)
 | .cell p t=>jK P st t (φ p)
def rK(P:Program)(φ:AF)(st:aB):List ResultVar→Option (List AV)
 | []=>some []
 | r::rs=>match EQ P φ st r,rK P φ st rs with
  | some x,some xs=>some (x::xs)
  | _,_=>none
def K8(K:AV→aB→Prop)(st:aB):List AV→Prop
 | [r]=>K r st
 | rs=>lS rs=true∧K (.tup rs) st
def KC(P:Program)(rs:Array ResultVar)(K:AV→aB→Prop):Exit→AF→aB→Prop
 | .normal,φ,st | .ret,φ,st=>match rK P φ st rs.toList with
  | some xs=>K8 K st xs
  | none=>False
 | _,_,_=>False
theorem aTX{P:Program}{φ:AF}{st:aB}{w:World}{a:Act}{v:ResultVar}{r:AV}(F:fD w.heap st a.tmps φ)(S:dD w.heap st)(e:EQ P φ st v=some r) :
 ∃u,(match v with | .tmp t=>pure (a.tmps.getD t undef) | .cell p t=>do loadVar t (←asAddr (a.tmps.getD p undef)):Sem Value).run P w=.ok u w∧aR w.heap st r u:=by
 cases v with
 | tmp t=>cases e;exact⟨_,rfl,F t⟩
 | cell p t=>
  obtain⟨b,off,u,hv,r1,rv⟩:=YW (F p) S e
  exact⟨u,by simp only[hv,asAddr,Sem.run_bind,Sem.run_pure,Result.andThen_ok,r1],rv⟩
theorem YY{P:Program}{φ:AF}{st:aB}{w:World}{a:Act}(F:fD w.heap st a.tmps φ)(S:dD w.heap st):∀(l:List ResultVar) (rs:List AV),rK P φ st l=some rs →
 ∃us,(l.mapM fun v=>(match v with | .tmp t=>pure (a.tmps.getD t undef) | .cell p t=>do loadVar t (←asAddr (a.tmps.getD p undef)):Sem Value)).run P w=.ok us w∧cZ w.heap st rs us
 | [],rs,e=>by simp only[rK] at e;cases e;exact⟨[],rfl,rfl⟩
 | v::l,rs,e=>by
  simp only[rK] at e
  split at e
  · rename_i x xs hx hxs
    cases e
    obtain⟨u,u1,u2⟩:=aTX F S hx
    obtain⟨us,v1,v2⟩:=YY F S l xs hxs
    refine⟨u::us,?_,by simp only[cZ];exact⟨u,us,rfl,u2,v2⟩⟩
    rw[List.mapM_cons]
    simp only[Sem.run_bind,u1,Result.andThen_ok,v1,Sem.run_pure]
  · cases e
theorem cZ.aSS{h:bS}{st:aB}:∀ {as:List AV} {vs:List Value},cZ h st as vs→lS as=true→d6 h st as vs
 | [],_,x,_=>by simpa [d6,cZ] using x
 | a::as,vs,x,hj=>by
  simp only[cZ] at x
  obtain⟨v,r,rfl,x1,x2⟩:=x
  simp [lS] at hj
  simp only[d6]
  exact⟨v,r,rfl,x1.pair hj.1,cZ.aSS x2 (by simp [lS];exact hj.2)⟩
theorem a5Z{P:Program}{φ:AF}{st:aB}{w:World}{a:Act}{fn:Func}{rs:List AV}{K:AV→aB→Prop}(F:fD w.heap st a.tmps φ)(S:dD w.heap st)(e:rK P φ st fn.results.toList=some rs)(k:K8 K st rs) :
 ∃v r,(results fn a.tmps).run P w=.ok v w∧aR w.heap st r v∧K r st:=by
 obtain⟨us,u1,u2⟩:=YY F S _ rs e
 have pD:(results fn a.tmps).run P w=.ok (if h:us.toArray.size=1 then us.toArray[0] else .tuple us.toArray) w:=by
  unfold results
  rw[Array.mapM_eq_mapM_toList]
  simp only[Sem.run_bind,Sem.run_map]
  exact(oC (fun r:Result (List Value)=>(r.andThen fun a w'=>Result.ok a.toArray w').andThen fun a w'=>Sem.run P (pure (if h:a.size=1 then a[0] else Value.tuple a)) w') u1).trans rfl
 match rs,k with
 | [r],k=>
  simp only[cZ] at u2
  obtain⟨u,r',rfl,x1,rfl⟩:=u2
  exact⟨u,r,by rw[pD];try rfl,x1,k⟩
 | [],k=>
  simp only[cZ] at u2
  subst u2
  exact⟨.tuple #[],.tup [],by rw[pD];try rfl,⟨rfl,[],rfl,rfl⟩,k.2⟩
 | r1::r2::rest,k=>
  have h2:=u2
  simp only[cZ] at u2
  obtain⟨u,us',rfl,_,v,a8P,rfl,_,_⟩:=u2
  exact⟨.tuple (u::v::a8P).toArray,.tup (r1::r2::rest),by rw[pD];simp,⟨rfl,_,rfl,cZ.aSS h2 k.1⟩,k.2⟩
def vR:Nat→List AV→AF
 | _,[]=>AF.bot
 | i,a::as=>(vR (i+1) as).aC i a
theorem ZF{h:bS}{st:aB}{tmps:Array Value}:∀(as:List AV) (vs:List Value) (i:Nat),cZ h st as vs→(∀j v,vs[j]?=some v→tmps.getD (i+j) undef=v)→fD h st tmps (vR i as)
 | [],_,_,_,_=>fun d=>by trivial
 | a::as,vs,i,x,ht=>fun d=>by
  simp only[cZ] at x
  obtain⟨v,r,rfl,x1,x2⟩:=x
  simp only[vR,AF.aC]
  split
  · rename_i hd
    subst hd
    have:=ht 0 v rfl
    rw[HD] at this
    rw[this];exact x1
  · exact ZF as r (i+1) x2 (fun j u hj=>by
     have:=ht (j+1) u (by simpa using hj)
     rw[show i+(j+1)=i+1+j by omega] at this
     exact this) d
theorem cZ.length{h:bS}{st:aB}:∀ {as:List AV} {vs:List Value},cZ h st as vs→vs.length=as.length
 | [],vs,x=>by simp only[cZ] at x;simp [x]
 | a::as,vs,x=>by
  simp only[cZ] at x
  obtain⟨v,r,rfl,_,x2⟩:=x
  simp [cZ.length x2]
theorem aUA{P:Program}{g:FuncId}{fn:Func}{c:Code}{args:List AV}{st:aB}{K:AV→aB→Prop}(mt:List Nat)(hf:P.funcs[g]?=some fn)(hb:fn.body=some c)(hn:(fn.name == "runtime.NumGoroutine")=false)
 (hok:codeOk fn.ntmps c=true) (sS:args.length≤fn.ntmps) (e:gY P fn.ntmps mt c (KC P fn.results K) (vR 0 args) st):aD P g args st K:=by
 refine⟨⟨fn,hf,by simp [hb],hn⟩,fun w vs S V=>?_⟩
 have hl:=V.length
 have R:Rel fn.ntmps { tmps:=vs.toArray++Array.replicate (fn.ntmps - vs.toArray.size) undef,defers:=[] } w (vR 0 args) st:=by
  refine⟨by simp;omega,rfl,ZF args vs 0 V fun j v hj=>?_,S⟩
  obtain⟨hjl,hjv⟩:=gW.1 hj
  simp [Array.getElem?_append,hjl,hjv]
 refine calls_of_wp hf hb (wp_mono (BT c _ _ st hok e _ w R) ?_)
 rintro ex a' w' ⟨φ',st',R',T,s,q⟩
 have fin:(match rK P φ' st' fn.results.toList with | some xs=>K8 K st' xs | none=>False)→a'.defers= []∧∃v,(results fn a'.tmps).run P w'=.ok v w' ∧
  (∃v2 r st2,(Ending.returned v)=.returned v2∧aR w'.heap st2 r v2∧dD w'.heap st2∧cL w.heap st w'.heap st2∧gQ w w'∧K r st2):=by
  intro q
  split at q
  · rename_i xs hx
    obtain⟨v,r,r1,r2,r3⟩:=a5Z R'.frame R'.store hx q
    exact⟨R'.defers,v,r1,v,r,st',rfl,r2,R'.store,T,s,r3⟩
  · cases q
 cases ex with
 | normal=>exact fin q
 | ret=>exact fin q
 | _=>exact q.elim
def qG(st:aB)(r:AV)(st':aB)(r':AV):Prop:=∀(h:bS) (v:Value),dD h st→aR h st r v→aR h st' r' v
def zB(st st':aB):Prop:=∀(h:bS),dD h st→dD h st'∧cL h st h st'
theorem aD.nY{P:Program}{g:FuncId}{args:List AV}{st:aB}{Q Q':AV→aB→Prop}(x:aD P g args st Q)(h:∀r st',Q r st'→∃r2 st2,zB st' st2∧qG st' r st2 r2∧Q' r2 st2):aD P g args st Q':=
 ⟨x.1,fun w vs S V=>(x.2 w vs S V).mono fun _ _ ⟨v,r,st',e,a,b,c,d,q⟩=>
  let ⟨r2,st2,h1,h2,h3⟩:=h r st' q
  ⟨v,r2,st2,e,h2 _ v b a,(h1 _ b).1,c.trans (h1 _ b).2,d,h3⟩⟩
theorem aD.args{P:Program}{g:FuncId}{args args':List AV}{st:aB}{Q:AV→aB→Prop}(x:aD P g args' st Q)(h:∀(hp:bS) (vs:List Value),dD hp st→cZ hp st args vs→cZ hp st args' vs):aD P g args st Q:=
 ⟨x.1,fun w vs S V=>x.2 w vs S (h _ vs S V)⟩
def fV(φ:AF)(st:aB)(φ':AF)(st':aB):Prop:=∀(h:bS) (tmps:Array Value),dD h st→fD h st tmps φ→dD h st'∧cL h st h st'∧fD h st' tmps φ'
theorem g8.less{P:Program}{N:Nat}{c:Code}{Q:Exit→AF→aB→Prop}{φ φ':AF}{st st':aB}(L:fV φ st φ' st')(x:g8 P N c Q φ' st'):g8 P N c Q φ st:=fun a w R=>by
 obtain⟨h1,h2,h3⟩:=L w.heap a.tmps R.store R.frame
 exact wp_mono (x a w ⟨R.size,R.defers,h3,h1⟩) fun _ _ _ y=>y.mono h2 (gQ.refl _)
theorem fV.trans{φ φ' φ'':AF}{st st' AT:aB}(x:fV φ st φ' st')(y:fV φ' st' φ'' AT):fV φ st φ'' AT:=fun h t S F=>
 let ⟨a,b,c⟩:=x h t S F
 let ⟨a',b',c'⟩:=y h t a c
 ⟨a',b.trans b',c'⟩
theorem fV.bot(φ:AF)(st:aB):fV φ st AF.bot st:=fun _ _ S _=>⟨S,cL.refl _ _,fun _=>trivial⟩
theorem fV.aC{φ φ':AF}{st:aB}(x:fV φ st φ' st){d:Nat}{v:AV}(e:φ d=v):fV φ st (φ'.aC d v) st:=fun h t S F=>by
 obtain⟨a,b,c⟩:=x h t S F
 refine⟨a,b,fun y=>?_⟩
 simp only[AF.aC]
 split
 · rename_i hy;subst hy;rw[←e];exact F y
 · exact c y
def qX(k:AF→aB→Prop)(Q:Exit→AF→aB→Prop):Exit→AF→aB→Prop
 | .normal,φ,st=>k φ st
 | e,φ,st=>Q e φ st
theorem RL{P:Program}{N:Nat}{c:Code}{Q:Exit→AF→aB→Prop}{φ:AF}{st:aB}{α:Type}(inv:α→Prop)(fr:α→AF)(so:α→aB)(μ:α→Nat)
 (h0:∃s,inv s∧fV φ st (fr s) (so s))
 (h1:∀s,inv s→g8 P N c (qX (fun φ' st'=>∃s',μ s'<μ s∧inv s'∧fV φ' st' (fr s') (so s')) Q) (fr s) (so s)):g8 P N (.loop c) Q φ st:=by
 have key:∀n s,μ s=n→inv s→∀a w,Rel N a w (fr s) (so s)→∀b k cs,
  ∃e a' w',yT N w (so s) Q e a' w'∧Arrives P (lone (b.at a (.code c:: .inLoop c::k)) cs w) b k cs e a' w':=by
  intro n
  induction n using Nat.strongRecOn with
  | _ n ih=>
   intro s hn hI a w R b k cs
   obtain⟨e,a₁,w₁,hq,pX⟩:=h1 s hI a w R b (.inLoop c::k) cs
   obtain⟨φ',st',R',T,sm,q⟩:=hq
   cases e with
   | normal=>
    obtain⟨s',hlt,hI',L⟩:=q
    obtain⟨l1,l2,l3⟩:=L w₁.heap a₁.tmps R'.store R'.frame
    obtain⟨e₂,a₂,w₂,hq₂,a05⟩:=ih (μ s') (hn▸hlt) s' rfl hI' a₁ w₁ ⟨R'.size,R'.defers,l3,l1⟩ b k cs
    exact⟨e₂,a₂,w₂,hq₂.mono (T.trans l2) sm,.of_steps (Steps.trans pX (.one step_inLoop)) a05⟩
   | exit id=>exact⟨_,a₁,w₁,⟨φ',st',R',T,sm,q⟩,.pass (x:=.inLoop c) rfl (fun _ _=>.inl (by simp)) pX⟩
   | goto l=>exact⟨_,a₁,w₁,⟨φ',st',R',T,sm,q⟩,.pass (x:=.inLoop c) rfl (fun _ _=>.inl (by simp)) pX⟩
   | ret=>exact⟨_,a₁,w₁,⟨φ',st',R',T,sm,q⟩,.pass (x:=.inLoop c) rfl (fun _ _=>.inl (by simp)) pX⟩
   | panic ch=>exact⟨_,a₁,w₁,⟨φ',st',R',T,sm,q⟩,.pass (x:=.inLoop c) rfl (fun _ _=>.inl (by simp)) pX⟩
   | outgrown=>exact⟨_,a₁,w₁,⟨φ',st',R',T,sm,q⟩,.pass (x:=.inLoop c) rfl (fun _ _=>.inl (by simp)) pX⟩
 obtain⟨s,hI,L⟩:=h0
 refine g8.less L fun a w R b k cs=>?_
 obtain⟨e,a',w',hq,pX⟩:=key _ s rfl hI a w R b k cs
 exact⟨e,a',w',hq,.of_steps (.one step_loop) pX⟩
end Go.AW
