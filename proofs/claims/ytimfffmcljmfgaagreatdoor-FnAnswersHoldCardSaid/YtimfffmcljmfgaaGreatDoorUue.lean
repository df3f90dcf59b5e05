/- Smaller stores, frozen slices, sizes, frames as lists, regions that draw. -/
import Derived.Test.YtimfffmcljmfgaaGreatDoorUud
set_option linter.unusedSimpArgs false
set_option linter.unusedVariables false
set_option maxRecDepth 100000
namespace Go.AW
def aM(st st':aB):Prop:=∀b,(st b=none→st' b=none)∧∀o,st' b=some o→st b=some o
theorem aM.refl(st:aB):aM st st:=fun _=>⟨id,fun _=>id⟩
theorem aM.trans{a b c:aB}(x:aM a b)(y:aM b c):aM a c:=fun i=>⟨fun h=>(y i).1 ((x i).1 h),fun o h=>(x i).2 o ((y i).2 o h)⟩
theorem aM.aC{st st':aB}(x:aM st st'){b:Nat}{o:AO}(h:st' b=none):aM (st.aC b o) st':=fun i=>by
 simp only[aB.aC]
 split
 · rename_i e;subst e;exact⟨fun _=>h,fun o' h'=>by rw[h] at h';cases h'⟩
 · exact x i
theorem jI(st:aB)(b:Nat):aM st (st.erase b):=fun i=>by
 simp only[aB.erase]
 split
 · exact⟨fun _=>rfl,fun o' h'=>by cases h'⟩
 · exact⟨id,fun _=>id⟩
theorem aM.step{st st':aB}(x:aM st st')(h:bK):cB h st h st':=⟨c7 _,fun b _ e=>⟨rfl,(x b).1 e⟩,fun _ c _ _ e=>⟨c,e,rfl⟩⟩
theorem aM.HT{st st':aB}(x:aM st st'){h:bK}(S:cY h st):cY h st':=fun b o e=>by
 obtain⟨h1,h2⟩:=S b o ((x b).2 o e)
 refine⟨h1,?_⟩
 cases o with
 | cells as=>
  obtain⟨c,t,e1,e2,vs,e3,e4⟩:=h2
  exact⟨c,t,e1,e2,vs,e3,aY.mono (x.step h) _ _ e4⟩
 | map f=>
  obtain⟨es,clock,e1,e2,e3,e4⟩:=h2
  refine⟨es,clock,e1,e2,e3,fun n=>?_⟩
  have:=e4 n
  cases hf:f n with
  | none=>rw[hf] at this;exact this
  | some a=>
   rw[hf] at this
   obtain⟨e,m,k,v⟩:=this
   exact⟨e,m,k,v.mono (x.step h)⟩
 | tab cs=>exact h2
theorem aM.tG{st st':aB}(x:aM st st'):y9 st st':=fun h S=>⟨x.HT S,x.step h⟩
theorem aM.mT{st st':aB}(x:aM st st')(r:AV):qX st r st' r:=fun h _ _ y=>y.mono (x.step h)
theorem aD.drop{P:Program}{g:FuncId}{args:List AV}{st:aB}{Q:AV→Prop}(x:aD P g args st (fun r st'=>aM st' st∧Q r)):aD P g args st (fun r st'=>Q r∧st'=st):=
 x.mT fun r st' ⟨h1,h2⟩=>⟨r,st,h1.tG,h1.mT r,h2,rfl⟩
mutual
def AV.fz(b:Nat)(es:List AV):AV→AV
 | .mslice b' 0 n sz=>if b'=b∧n=es.length then .slice es else .mslice b' 0 n sz
 | .agg cs=>.agg (lG b es cs)
 | .tup vs=>.tup (lG b es vs)
 | a=>a
def lG(b:Nat)(es:List AV):List AV→List AV
 | []=>[]
 | a::as=>AV.fz b es a::lG b es as
end
theorem aJB(b:Nat)(es:List AV)(a:AV):(a.fz b es).isAgg=a.isAgg:=by
 cases a<;>try rfl
 case mslice b' off n sz=>
  cases off with
  | zero=>simp only[AV.fz];split<;>rfl
  | succ k=>rfl
section
variable {h:bK} {st:aB} {b:Nat} {es:List AV}
theorem frozen(S:cY h st)(hb:st b=some (.cells (es.flatMap AV.cells)))(hj:∀e∈es,e.cF=false):b<h.size∧c9 h (st.erase b) b 0 es:=by
 obtain⟨h1,c,t,e1,e2,vs,e3,e4⟩:=S b _ hb
 exact⟨h1,c9.mono ((jI st b).step h) b rfl _ _ (I9 hj e3 e4)⟩
theorem VC.aWT{b' off n sz:Nat}{cs:List Value}(S:cY h st)(hb:st b=some (.cells (es.flatMap AV.cells)))(hj:∀e∈es,e.cF=false)(hE:gZ es)(x:VC h st (.mslice b' off n sz) cs):VC h (st.erase b) ((AV.mslice b' off n sz).fz b es) cs:=by
 have x0:VC h (st.erase b) (.mslice b' off n sz) cs:=VC.mono ((jI st b).step h) _ _ x
 cases off with
 | succ k=>exact x0
 | zero=>
  simp only[AV.fz]
  split
  · rename_i e
    obtain⟨rfl,rfl⟩:=e
    simp only[VC] at x
    obtain⟨cap,e1,l1,l2,c,t,_,_⟩:=x
    obtain⟨hs,hE'⟩:=frozen S hb hj
    unfold VC
    exact .inr ⟨b',0,cap,e1,l1,l2,aB.YE _ _,hs,hE,hE'⟩
  · exact x0
mutual
theorem VC.fz(S:cY h st)(hb:st b=some (.cells (es.flatMap AV.cells)))(hj:∀e∈es,e.cF=false)(hE:gZ es):∀(a:AV) (cs:List Value),VC h st a cs→VC h (st.erase b) (a.fz b es) cs
 | .mslice b' off n sz,cs,x=>VC.aWT S hb hj hE x
 | .agg as,cs,x=>by simp only[VC,AV.fz] at x ⊢;exact aY.fz S hb hj hE as cs x
 | .tup as,cs,x=>by
  simp only[VC,AV.fz] at x ⊢
  obtain⟨vs,e,r⟩:=x
  exact⟨vs,e,dU.fz S hb hj hE as vs r⟩
 | .junk,cs,x=>VC.mono ((jI st b).step h) _ _ x
 | .undef,cs,x=>VC.mono ((jI st b).step h) _ _ x
 | .int _ _,cs,x=>VC.mono ((jI st b).step h) _ _ x
 | .bool _,cs,x=>VC.mono ((jI st b).step h) _ _ x
 | .str _,cs,x=>VC.mono ((jI st b).step h) _ _ x
 | .slice _,cs,x=>VC.mono ((jI st b).step h) _ _ x
 | .fslice _,cs,x=>VC.mono ((jI st b).step h) _ _ x
 | .nilptr,cs,x=>VC.mono ((jI st b).step h) _ _ x
 | .ptr _ _,cs,x=>VC.mono ((jI st b).step h) _ _ x
 | .pptr _,cs,x=>VC.mono ((jI st b).step h) _ _ x
 | .nilmap,cs,x=>VC.mono ((jI st b).step h) _ _ x
 | .map _,cs,x=>VC.mono ((jI st b).step h) _ _ x
 | .func _ _,cs,x=>VC.mono ((jI st b).step h) _ _ x
 | .raw _,cs,x=>VC.mono ((jI st b).step h) _ _ x
 | .eslice,cs,x=>VC.mono ((jI st b).step h) _ _ x
theorem aY.fz(S:cY h st)(hb:st b=some (.cells (es.flatMap AV.cells)))(hj:∀e∈es,e.cF=false)(hE:gZ es):∀(as:List AV) (cs:List Value),aY h st as cs→aY h (st.erase b) (lG b es as) cs
 | [],_,x=>x
 | a::as,cs,x=>by
  simp only[aY,lG] at x ⊢
  obtain⟨c,r,e,x1,x2⟩:=x
  exact⟨c,r,e,VC.fz S hb hj hE a [c] x1,aY.fz S hb hj hE as r x2⟩
theorem dU.fz(S:cY h st)(hb:st b=some (.cells (es.flatMap AV.cells)))(hj:∀e∈es,e.cF=false)(hE:gZ es):∀(as:List AV) (cs:List Value),dU h st as cs→dU h (st.erase b) (lG b es as) cs
 | [],_,x=>x
 | a::as,cs,x=>by
  simp only[dU,lG] at x ⊢
  obtain⟨v,r,e,x1,x2⟩:=x
  exact⟨v,r,e,⟨(aJB b es a).trans x1.1,VC.fz S hb hj hE a _ x1.2⟩,dU.fz S hb hj hE as r x2⟩
end
theorem aR.fz{a:AV}{v:Value}(S:cY h st)(hb:st b=some (.cells (es.flatMap AV.cells)))(hj:∀e∈es,e.cF=false)(hE:gZ es)(x:aR h st a v):aR h (st.erase b) (a.fz b es) v:=by
 have key:a.isAgg=mB v∧VC h st a v.cells.toList→aR h (st.erase b) (a.fz b es) v:=fun x=>by
  have y:(a.fz b es).isAgg=mB v∧VC h (st.erase b) (a.fz b es) v.cells.toList:=⟨(aJB b es a).trans x.1,VC.fz S hb hj hE a _ x.2⟩
  cases hq:a.fz b es<;>rw[hq] at y<;>first | trivial | exact y
 cases a<;>first | trivial | exact key x
end
theorem aD.freeze{P:Program}{g:FuncId}{args:List AV}{st:aB}{Q:AV→aB→Prop}
 (x:aD P g args st (fun r st'=>∃b es,st' b=some (.cells (es.flatMap AV.cells))∧(∀e∈es,e.cF=false)∧gZ es∧Q (r.fz b es) (st'.erase b))):aD P g args st Q:=
 x.mT fun r st' ⟨b,es,h1,h2,h3,h4⟩=>⟨r.fz b es,st'.erase b,(jI st' b).tG,fun _ _ S y=>y.fz S h1 h2 h3,h4⟩
theorem fX.freeze{φ:AF}{st:aB}{b:Nat}{es:List AV}(h1:st b=some (.cells (es.flatMap AV.cells)))(h2:∀e∈es,e.cF=false)(h3:gZ es):fX φ st (fun d=>(φ d).fz b es) (st.erase b):=
 fun h _ S F=>⟨(jI st b).HT S,(jI st b).step h,fun d=>(F d).fz S h1 h2 h3⟩
theorem fX.drop{φ:AF}{st st':aB}(x:aM st st'):fX φ st φ st':=fun h _ S F=>⟨x.HT S,x.step h,fun d=>(F d).mono (x.step h)⟩
mutual
def AV.soft:AV→AV
 | .fslice es=>.slice es
 | .agg cs=>.agg (gY cs)
 | .tup vs=>.tup (gY vs)
 | a=>a
def gY:List AV→List AV
 | []=>[]
 | a::as=>a.soft::gY as
end
theorem a2W(a:AV):a.soft.isAgg=a.isAgg:=by cases a<;>rfl
section
variable {h:bK} {st:aB}
mutual
theorem VC.soft:∀(a:AV) (cs:List Value),VC h st a cs→VC h st a.soft cs
 | .fslice es,cs,x=>by
  simp only[AV.soft]
  unfold VC at x ⊢
  rcases x with x | ⟨b,off,e,l,r⟩
  · exact .inl x
  · exact .inr ⟨b,off,es.length,e,c7 _,l,r⟩
 | .agg as,cs,x=>by simp only[VC,AV.soft] at x ⊢;exact aY.soft as cs x
 | .tup as,cs,x=>by
  simp only[VC,AV.soft] at x ⊢
  obtain⟨vs,e,r⟩:=x
  exact⟨vs,e,dU.soft as vs r⟩
 | .mslice _ _ _ _,cs,x=>x
 | .junk,cs,x=>x
 | .undef,cs,x=>x
 | .int _ _,cs,x=>x
 | .bool _,cs,x=>x
 | .str _,cs,x=>x
 | .slice _,cs,x=>x
 | .nilptr,cs,x=>x
 | .ptr _ _,cs,x=>x
 | .pptr _,cs,x=>x
 | .nilmap,cs,x=>x
 | .map _,cs,x=>x
 | .func _ _,cs,x=>x
 | .raw _,cs,x=>x
 | .eslice,cs,x=>x
theorem aY.soft:∀(as:List AV) (cs:List Value),aY h st as cs→aY h st (gY as) cs
 | [],_,x=>x
 | a::as,cs,x=>by
  simp only[aY,gY] at x ⊢
  obtain⟨c,r,e,x1,x2⟩:=x
  exact⟨c,r,e,VC.soft a [c] x1,aY.soft as r x2⟩
theorem dU.soft:∀(as:List AV) (cs:List Value),dU h st as cs→dU h st (gY as) cs
 | [],_,x=>x
 | a::as,cs,x=>by
  simp only[dU,gY] at x ⊢
  obtain⟨v,r,e,x1,x2⟩:=x
  exact⟨v,r,e,⟨(a2W a).trans x1.1,VC.soft a _ x1.2⟩,dU.soft as r x2⟩
end
theorem aR.soft{a:AV}{v:Value}(x:aR h st a v):aR h st a.soft v:=by
 cases a
 case fslice=>exact x.GN
 case agg=>exact⟨x.1,VC.soft _ _ x.2⟩
 case tup=>exact⟨x.1,VC.soft _ _ x.2⟩
 all_goals exact x
end
theorem aD.soft{P:Program}{g:FuncId}{args:List AV}{st:aB}{Q:AV→aB→Prop}(x:aD P g args st (fun r st'=>Q r.soft st')):aD P g args st Q:=
 x.mT fun r st' h=>⟨r.soft,st',(aM.refl st').tG,fun _ _ _ y=>y.soft,h⟩
theorem aD.oS{P:Program}{g:FuncId}{args:List AV}{st:aB}{Q:AV→aB→Prop}(x:aD P g (gY args) st Q):aD P g args st Q:=
 x.args fun hp=>by
  have:∀(as:List AV) (vs:List Value),dA hp st as vs→dA hp st (gY as) vs:=by
   intro as
   induction as with
   | nil=>intro vs y;exact y
   | cons a as ih=>
    intro vs y
    simp only[dA,gY] at y ⊢
    obtain⟨v,r,rfl,y1,y2⟩:=y
    exact⟨v,r,rfl,y1.soft,ih r y2⟩
  exact fun vs _=>this args vs
mutual
def AV.fits:AV→Prop
 | .str s=>s.size≤9223372036854775807
 | .agg cs=>eC cs
 | .tup vs=>eC vs
 | .slice es=>es.length≤9223372036854775807∧eC es
 | .fslice es=>es.length≤9223372036854775807∧eC es
 | .mslice _ _ n _=>n≤9223372036854775807
 | .pptr e=>e.fits
 | _=>True
def eC:List AV→Prop
 | []=>True
 | a::as=>a.fits∧eC as
end
section
variable {h:bK} {st:aB}
mutual
theorem VC.fits:∀(a:AV) (cs:List Value),VC h st a cs→a.fits
 | .str s,cs,x=>by simp only[VC,maxLen] at x;exact x.2
 | .agg as,cs,x=>by simp only[VC,AV.fits] at x ⊢;exact aY.fits as cs x
 | .tup as,cs,x=>by
  simp only[VC,AV.fits] at x ⊢
  obtain⟨vs,e,r⟩:=x
  exact dU.fits as vs r
 | .slice es,cs,x=>by
  simp only[VC,AV.fits] at x ⊢
  rcases x with ⟨⟨p0,_⟩,rfl⟩ | ⟨b,off,cap,_,l1,l2,_,_,_,r⟩
  · exact⟨by simp,trivial⟩
  · exact⟨lA l1 l2,c9.fits es off r⟩
 | .fslice es,cs,x=>by
  simp only[VC,AV.fits] at x ⊢
  rcases x with ⟨⟨p0,_⟩,rfl⟩ | ⟨b,off,_,l1,_,_,_,r⟩
  · exact⟨by simp,trivial⟩
  · exact⟨l1,c9.fits es off r⟩
 | .mslice _ _ n _,cs,x=>by
  simp only[VC,AV.fits] at x ⊢
  obtain⟨cap,_,l1,l2,_⟩:=x
  exact lA l1 l2
 | .pptr e,cs,x=>by
  simp only[VC,AV.fits] at x ⊢
  obtain⟨b,off,_,_,_,vs,_,_,y⟩:=x
  exact VC.fits e vs y
 | .junk,cs,x=>trivial
 | .undef,cs,x=>trivial
 | .int _ _,cs,x=>trivial
 | .bool _,cs,x=>trivial
 | .nilptr,cs,x=>trivial
 | .ptr _ _,cs,x=>trivial
 | .nilmap,cs,x=>trivial
 | .map _,cs,x=>trivial
 | .func _ _,cs,x=>trivial
 | .raw _,cs,x=>trivial
 | .eslice,cs,x=>trivial
theorem aY.fits:∀(as:List AV) (cs:List Value),aY h st as cs→eC as
 | [],_,x=>trivial
 | a::as,cs,x=>by
  simp only[aY] at x
  obtain⟨c,r,e,x1,x2⟩:=x
  exact⟨VC.fits a [c] x1,aY.fits as r x2⟩
theorem dU.fits:∀(as:List AV) (cs:List Value),dU h st as cs→eC as
 | [],_,x=>trivial
 | a::as,cs,x=>by
  simp only[dU] at x
  obtain⟨v,r,e,x1,x2⟩:=x
  exact⟨VC.fits a _ x1.2,dU.fits as r x2⟩
theorem c9.fits{b:Nat}:∀(as:List AV) (off:Nat),c9 h st b off as→eC as
 | [],_,x=>trivial
 | a::as,off,x=>by
  simp only[c9] at x
  obtain⟨⟨cs,_,_,x3⟩,x4⟩:=x
  exact⟨VC.fits a cs x3,c9.fits as _ x4⟩
end
theorem aR.fits{a:AV}{v:Value}(x:aR h st a v):a.fits:=by
 cases a<;>first | trivial | exact VC.fits _ _ x.2
theorem dA.fits:∀ {as:List AV} {vs:List Value},dA h st as vs→eC as
 | [],_,_=>trivial
 | a::as,vs,x=>by
  simp only[dA] at x
  obtain⟨v,r,_,x1,x2⟩:=x
  exact⟨x1.fits,dA.fits x2⟩
end
theorem zw6{P:Program}{g:FuncId}{fn:Func}{c:Code}{args:List AV}{st:aB}{N:Nat}{rs:List ResultVar}{K:AV→aB→Prop}(mt:List Nat)(hf:P.funcs[g]?=some fn)(hN:fn.ntmps=N)(hr:fn.results=rs.toArray)(hb:fn.body=some c)(hn:(fn.name == "runtime.NumGoroutine")=false)
 (hok:codeOk N c=true) (rD:args.length≤N) (e:eC args→gG P N mt c (HP P rs.toArray K) (tU 0 args) st):aD P g args st K:=by
 subst hN
 rw[←hr] at e
 exact⟨⟨fn,hf,by simp [hb],hn⟩,fun w vs S V=>(aP1 mt hf hb hn hok rD (e V.fits)).2 w vs S V⟩
def kC:List (Nat×AV)→AF
 | []=>AF.bot
 | (d,v)::l=>(kC l).aC d v
def z7(φ:AF):List (Nat×AV)→Prop
 | []=>True
 | (d,v)::l=>φ d=v∧z7 φ l
theorem fX.kC{φ:AF}{st:aB}:∀ {l:List (Nat×AV)},z7 φ l→fX φ st (kC l) st
 | [],_=>fX.bot φ st
 | (d,v)::l,h=>(fX.kC h.2).aC h.1
theorem aCM{φ:AF}:z7 φ []=True:=rfl
theorem aCN{φ:AF}{d:Nat}{v:AV}{l:List (Nat×AV)}:z7 φ ((d,v)::l)=(φ d=v∧z7 φ l):=rfl
theorem aD.to{P:Program}{g:FuncId}{args:List AV}{st:aB}{r:AV}{K:AV→aB→Prop}(x:aD P g args st (fun r' st'=>r'=r∧st'=st))(h:K r st):aD P g args st K:=
 x.mono fun _ _ ⟨e1,e2⟩=>by rw[e1,e2];exact h
theorem FM{P:Program}{N:Nat}(mt:List Nat){c:Code}{Q:Exit→AF→aB→Prop}{φ:AF}{st:aB}(hok:codeOk N c=true)(e:gG P N mt c Q φ st):gO P N c Q φ st:=zA c Q φ st hok e
def vS(l:List (Nat×AV)):AF:=kC l
theorem aCG:vS []=AF.bot:=rfl
theorem aCF{d:Nat}{v:AV}{l:List (Nat×AV)}:vS ((d,v)::l)=(vS l).aC d v:=rfl
def aO(φ:AF)(st:aB)(l:List (Nat×AV))(st':aB):Prop:=fX φ st (kC l) st'
theorem aO.mk{φ:AF}{st:aB}{l:List (Nat×AV)}(h:z7 φ l):aO φ st l st:=fX.kC h
theorem aO.drop{φ:AF}{st st':aB}{l:List (Nat×AV)}(d:aM st st')(h:z7 φ l):aO φ st l st':=(fX.drop d).trans (fX.kC h)
theorem wT{P:Program}{N:Nat}{c:Code}{Q:Exit→AF→aB→Prop}{φ:AF}{st:aB}{α:Type}(mt:List Nat)(inv:α→Prop)(fl:α→List (Nat×AV))(so:α→aB)(μ:α→Nat)(hok:codeOk N c=true)
 (h0:∃s,inv s∧aO φ st (fl s) (so s))
 (h1:∀s,inv s→gG P N mt c (pK (fun φ' st'=>∃s',μ s'<μ s∧inv s'∧aO φ' st' (fl s') (so s')) Q) (vS (fl s)) (so s)):gO P N (.loop c) Q φ st:=
 N9 inv (fun s=>kC (fl s)) so μ h0 fun s hs=>FM mt hok (h1 s hs)
theorem cV{P:Program}{mt:List Nat}{ops:Array Oper}{o:Oper}{l:List Oper}{K:AF→aB→Prop}{φ:AF}{st:aB}{c want:Bool}
 (h1:c=want→wC P mt ops o l K φ st (some true)) (h2:c=(!want)→wC P mt ops o l K φ st (some false)):wC P mt ops o l K φ st (some (c == want)):=by
 cases c<;>cases want<;>first | exact h1 rfl | exact h2 rfl
def kH(o:Oper):Bool:=match o.op with
 | .call { callee:=.value _,.. }=>false
 | .call { callee:=.builtin .append,.. }=>false
 | .call { callee:=.builtin .delete,.. }=>false
 | .call { callee:=.builtin .clear,.. }=>false
 | .alloc _=>false
 | .store _ _ _=>false
 | .makeMap _ none=>false
 | .makeSlice _ _ _=>false
 | .mapUpdate _ _ _ _=>false
 | _=>true
theorem sA{P:Program}{φ:AF}{st:aB}{o:Oper}{K:AV→aB→Prop}(h:kH o=true):fH P [] φ st o K=match lD P φ st o with | some r=>K r st | none=>False:=by
 obtain⟨dst,op,type,pos,after,guard⟩:=o
 unfold fH
 split
 case h_5 t x e=>
  simp only at e
  subst e
  simp only[BM,List.contains_nil,lD]
  cases dst<;>rfl
 case h_11=>rfl
 all_goals (rename_i e;simp only at e;subst e;simp [kH] at h)
def fC(P:Program)(ops:Array Oper)(st:aB):List Oper→(AF→Prop)→AF→Prop
 | [],K,φ=>K φ
 | o::rest,K,φ=>if kH o=true then bE P [] ops [o] (fun φ' _=>fC P ops st rest K φ') φ st else
  match o.guard,o.op with
  | none,.call { callee:=.value f,args,.. }=>∃r,sD P (φ.eval f) (args.toList.map φ.eval) st (fun r' st'=>r'=r∧st'=st)∧fC P ops st rest K (φ.put o.dst r)
  | _,_=>False
theorem FF{P:Program}{ops:Array Oper}{st:aB}{K:AF→Prop}:∀(l:List Oper) (φ:AF),fC P ops st l K φ→pV P st ops l K φ
 | [],_,h=>h
 | o::rest,φ,h=>by
  simp only[fC] at h
  split at h
  · rename_i hp
    simp only[bE] at h
    simp only[pV]
    split at h
    · rename_i hg
      rw[sA hp] at h
      rw[hg]
      simp only
      split at h
      · rename_i r hr
        exact⟨r,by rw[sA hp,hr];exact⟨rfl,rfl⟩,FF rest _ h⟩
      · cases h
    · rename_i hg
      rw[hg]
      exact FF rest _ h
    · cases h
  · split at h
    · rename_i f args ats hg ho
      obtain⟨r,h1,h2⟩:=h
      simp only[pV,jF,hg]
      refine⟨r,?_,FF rest _ h2⟩
      simp only[fH,ho]
      exact h1
    · cases h
theorem YI{P:Program}{ops:Array Oper}{st:aB}{K:AF→Prop}{φ:AF}:fC P ops st [] K φ=K φ:=rfl
def hK(P:Program)(ops:Array Oper)(st:aB)(rest:List Oper)(K:AF→Prop)(φ:AF)(_:aB):Prop:=fC P ops st rest K φ
theorem aCL{P:Program}{ops:Array Oper}{st st':aB}{K:AF→Prop}{φ:AF}{rest:List Oper}:hK P ops st rest K φ st'=fC P ops st rest K φ:=rfl
theorem k9{P:Program}{ops:Array Oper}{st:aB}{K:AF→Prop}{φ:AF}{o:Oper}{rest:List Oper}(h:kH o=true):fC P ops st (o::rest) K φ=bE P [] ops [o] (hK P ops st rest K) φ st:=by
 simp [fC,h]
 rfl
def xJ(P:Program)(f:AV)(args:List AV)(st:aB)(K:AV→Prop):Prop:=∃r,sD P f args st (fun r' st'=>r'=r∧st'=st)∧K r
def DD(P:Program)(ops:Array Oper)(st:aB)(rest:List Oper)(K:AF→Prop)(φ:AF)(dst:Option Tmp)(r:AV):Prop:=fC P ops st rest K (φ.put dst r)
theorem aO4{P:Program}{ops:Array Oper}{st:aB}{K:AF→Prop}{φ:AF}{rest:List Oper}{dst:Option Tmp}{f:Operand}{args:List Operand}{ats:Array TypeId}{type:TypeId}{pos:String}{after:Array Edge} :
 fC P ops st (⟨dst,.call { callee:=.value f,args:=args.toArray,argTypes:=ats },type,pos,after,none⟩::rest) K φ=xJ P (φ.eval f) (args.map φ.eval) st (DD P ops st rest K φ dst):=by
 simp [fC,kH,xJ,DD]
section
variable {P:Program} {ops:Array Oper} {st:aB} {K:AF→Prop} {φ:AF} {rest:List Oper} {dst:Option Tmp} {type:TypeId} {pos:String} {after:Array Edge} {g:Option (Nat×Bool)}
theorem Y4{f:Operand}{args:List Operand}{ats:Array TypeId} :
 fC P ops st (⟨dst,.call { callee:=.value f,args:=args.toArray,argTypes:=ats },type,pos,after,none⟩::rest) K φ=xJ P (φ.eval f) (args.map φ.eval) st (DD P ops st rest K φ dst):=aO4
theorem YJ{x:Operand}:fC P ops st (⟨dst,.move x,type,pos,after,g⟩::rest) K φ=bE P [] ops [⟨dst,.move x,type,pos,after,g⟩] (hK P ops st rest K) φ st:=k9 rfl
theorem YV{x:Operand}:fC P ops st (⟨dst,.assign x,type,pos,after,g⟩::rest) K φ=bE P [] ops [⟨dst,.assign x,type,pos,after,g⟩] (hK P ops st rest K) φ st:=k9 rfl
theorem YW{c x y:Operand}:fC P ops st (⟨dst,.pick c x y,type,pos,after,g⟩::rest) K φ=bE P [] ops [⟨dst,.pick c x y,type,pos,after,g⟩] (hK P ops st rest K) φ st:=k9 rfl
theorem YX{op:BinOp}{t t':TypeId}{x y:Operand}:fC P ops st (⟨dst,.binOp op t x y t',type,pos,after,g⟩::rest) K φ=bE P [] ops [⟨dst,.binOp op t x y t',type,pos,after,g⟩] (hK P ops st rest K) φ st:=k9 rfl
theorem YY{op:UnOp}{t:TypeId}{x:Operand}:fC P ops st (⟨dst,.unOp op t x,type,pos,after,g⟩::rest) K φ=bE P [] ops [⟨dst,.unOp op t x,type,pos,after,g⟩] (hK P ops st rest K) φ st:=k9 rfl
theorem YZ{x:Operand}:fC P ops st (⟨dst,.nilCheck x,type,pos,after,g⟩::rest) K φ=bE P [] ops [⟨dst,.nilCheck x,type,pos,after,g⟩] (hK P ops st rest K) φ st:=k9 rfl
theorem Y0{t f:Nat}{x:Operand}:fC P ops st (⟨dst,.fieldAddr t x f,type,pos,after,g⟩::rest) K φ=bE P [] ops [⟨dst,.fieldAddr t x f,type,pos,after,g⟩] (hK P ops st rest K) φ st:=k9 rfl
theorem Y1{t:TypeId}{x:Operand}:fC P ops st (⟨dst,.load t x,type,pos,after,g⟩::rest) K φ=bE P [] ops [⟨dst,.load t x,type,pos,after,g⟩] (hK P ops st rest K) φ st:=k9 rfl
theorem Y2{t f:Nat}{x:Operand}:fC P ops st (⟨dst,.field t x f,type,pos,after,g⟩::rest) K φ=bE P [] ops [⟨dst,.field t x f,type,pos,after,g⟩] (hK P ops st rest K) φ st:=k9 rfl
theorem YK{t:TypeId}{x i:Operand}:fC P ops st (⟨dst,.indexAddr t x i,type,pos,after,g⟩::rest) K φ=bE P [] ops [⟨dst,.indexAddr t x i,type,pos,after,g⟩] (hK P ops st rest K) φ st:=k9 rfl
theorem YL{t:TypeId}{x i:Operand}:fC P ops st (⟨dst,.index t x i,type,pos,after,g⟩::rest) K φ=bE P [] ops [⟨dst,.index t x i,type,pos,after,g⟩] (hK P ops st rest K) φ st:=k9 rfl
theorem YM{t:TypeId}{x:Operand}{lo hi mx:Option Operand}:fC P ops st (⟨dst,.slice t x lo hi mx,type,pos,after,g⟩::rest) K φ=bE P [] ops [⟨dst,.slice t x lo hi mx,type,pos,after,g⟩] (hK P ops st rest K) φ st:=k9 rfl
theorem YN{x:Operand}{i:Nat}:fC P ops st (⟨dst,.extract x i,type,pos,after,g⟩::rest) K φ=bE P [] ops [⟨dst,.extract x i,type,pos,after,g⟩] (hK P ops st rest K) φ st:=k9 rfl
theorem YO{t:TypeId}{ps:Array (Nat×Operand)}:fC P ops st (⟨dst,.build t ps,type,pos,after,g⟩::rest) K φ=bE P [] ops [⟨dst,.build t ps,type,pos,after,g⟩] (hK P ops st rest K) φ st:=k9 rfl
theorem YP{t:TypeId}{n:Nat}{ps:Array (Nat×Operand)}:fC P ops st (⟨dst,.buildSlice t n ps,type,pos,after,g⟩::rest) K φ=bE P [] ops [⟨dst,.buildSlice t n ps,type,pos,after,g⟩] (hK P ops st rest K) φ st:=k9 rfl
theorem YQ{t u:TypeId}{x:Operand}:fC P ops st (⟨dst,.convert t u x,type,pos,after,g⟩::rest) K φ=bE P [] ops [⟨dst,.convert t u x,type,pos,after,g⟩] (hK P ops st rest K) φ st:=k9 rfl
theorem YR{t:TypeId}{x i:Operand}{ok:Bool}:fC P ops st (⟨dst,.lookup t x i ok,type,pos,after,g⟩::rest) K φ=bE P [] ops [⟨dst,.lookup t x i ok,type,pos,after,g⟩] (hK P ops st rest K) φ st:=k9 rfl
theorem YS{x:Operand}{t:TypeId}:fC P ops st (⟨dst,.call { callee:=.builtin .len,args:=#[x],argTypes:=#[t] },type,pos,after,g⟩::rest) K φ=bE P [] ops [⟨dst,.call { callee:=.builtin .len,args:=#[x],argTypes:=#[t] },type,pos,after,g⟩] (hK P ops st rest K) φ st:=k9 rfl
theorem YT{x y:Operand}{ts:Array TypeId}:fC P ops st (⟨dst,.call { callee:=.builtin .max,args:=#[x,y],argTypes:=ts },type,pos,after,g⟩::rest) K φ=bE P [] ops [⟨dst,.call { callee:=.builtin .max,args:=#[x,y],argTypes:=ts },type,pos,after,g⟩] (hK P ops st rest K) φ st:=k9 rfl
theorem YU{x y:Operand}{ts:Array TypeId}:fC P ops st (⟨dst,.call { callee:=.builtin .min,args:=#[x,y],argTypes:=ts },type,pos,after,g⟩::rest) K φ=bE P [] ops [⟨dst,.call { callee:=.builtin .min,args:=#[x,y],argTypes:=ts },type,pos,after,g⟩] (hK P ops st rest K) φ st:=k9 rfl
end
theorem Y3{P:Program}{ops:Array Oper}{st:aB}{K:AF→Prop}{φ:AF}{rest:List Oper}{dst:Option Tmp}{r:AV}:DD P ops st rest K φ dst r=fC P ops st rest K (φ.put dst r):=rfl
theorem iD{P:Program}{g:FuncId}{args:List AV}{st:aB}{r:AV}{K:AV→Prop}(x:aD P g args st (fun r' st'=>r'=r∧st'=st))(h:K r):xJ P (.func g []) args st K:=⟨r,by show aD P g (args++ []) st _;rw[g9];exact x,h⟩
@[congr] theorem a58 {P:Program} {ops:Array Oper} {l:List Oper} {K:AF→Prop} {φ φ':AF} {st st':aB} (h1:φ=φ') (h2:st=st'):fC P ops st l K φ=fC P ops st' l K φ':=by rw[h1,h2]
@[congr] theorem a6F {P:Program} {f f':AV} {args args':List AV} {st st':aB} {K:AV→Prop} (h0:f=f') (h1:args=args') (h2:st=st'):xJ P f args st K=xJ P f' args' st' K:=by rw[h0,h1,h2]
@[congr] theorem a6I {P:Program} {ops:Array Oper} {l:List Oper} {K:AF→Prop} {φ:AF} {st:aB} {dst:Option Tmp} {r r':AV} (h1:r=r'):DD P ops st l K φ dst r=DD P ops st l K φ dst r':=by rw[h1]
def QD(ops:Array Oper):Nat:=(ops.toList.findIdx fun o=> !kH o)
theorem aQN{P:Program}{st:aB}{N:Nat}{id:Nat}{ops:Array Oper}{Q:Exit→AF→aB→Prop}{φ:AF}(hm:P.follows .mixedOrders=true)(hok:qL N ops=true)(hB:Region.lexTailB .any ops (QD ops)=true)
 (h:bE P [] ops ops.toList (Q .normal) φ st):gO P N (.region id ops true) Q φ st:=by
 refine aQL (QD ops) hm hok hB (FF _ _ ?_)
 have key:∀(l1 l2:List Oper) (φ:AF),(∀o∈l1,kH o=true)→bE P [] ops (l1++l2) (Q .normal) φ st→fC P ops st l1 (fun φ'=>bE P [] ops l2 (Q .normal) φ' st) φ:=by
  intro l1
  induction l1 with
  | nil=>intro l2 φ _ h;exact h
  | cons o l1 ih=>
   intro l2 φ hp h
   have ho:=hp o (by simp)
   have hr:∀o∈l1,kH o=true:=fun o h=>hp o (by simp [h])
   simp only[fC,ho,gA,bE]
   simp only[fL,bE] at h
   split at h
   · rename_i hg
     rw[sA ho] at h
     rw[sA ho]
     split at h
     · rename_i hr2
       first | rw[hr2] | skip
       exact ih l2 _ hr h
     · cases h
   · exact ih l2 _ hr h
   · cases h
 refine key _ _ φ (fun o ho=>?_) (by rw[rY];exact h)
 obtain⟨i,hi,rfl⟩:=List.getElem_of_mem ho
 rw[dS] at hi
 have h2:=List.not_of_lt_findIdx (p:=fun o=> !kH o) (xs:=ops.toList) (i:=i) (by have:QD ops=ops.toList.findIdx (fun o=> !kH o):=rfl;omega)
 simpa using h2
def B5(P:Program)(ops:Array Oper)(st:aB)(K:AF→aB→Prop):Nat→List Oper→AF→Prop
 | 0,l,φ=>bE P [] ops l K φ st
 | _+1,[],_=>False
 | n+1,o::rest,φ=>fC P ops st [o] (B5 P ops st K n rest) φ
theorem Y6{P:Program}{ops:Array Oper}{st:aB}{K:AF→aB→Prop}{l:List Oper}{φ:AF}:B5 P ops st K 0 l φ=bE P [] ops l K φ st:=rfl
theorem Y7{P:Program}{ops:Array Oper}{st:aB}{K:AF→aB→Prop}{n:Nat}{o:Oper}{l:List Oper}{φ:AF}:B5 P ops st K (n+1) (o::l) φ=fC P ops st [o] (B5 P ops st K n l) φ:=rfl
theorem aG8{P:Program}{mt:List Nat}{l:List Oper}{st:aB}{K:AF→aB→Prop}{φ:AF}:bE P mt l.toArray l.toArray.toList K φ st=bE P mt l.toArray l K φ st:=rfl
theorem aG9{P:Program}{l:List Oper}{st:aB}{K:AF→Prop}{φ:AF}:fC P l.toArray st l.toArray.toList K φ=fC P l.toArray st l K φ:=rfl
theorem aHA{P:Program}{n:Nat}{l:List Oper}{st:aB}{K:AF→aB→Prop}{φ:AF}:B5 P l.toArray st K n l.toArray.toList φ=B5 P l.toArray st K n l φ:=rfl
def YD(Q:Exit→AF→aB→Prop)(st:aB)(φ:AF):Prop:=Q .normal φ st
theorem aB6{Q:Exit→AF→aB→Prop}{st:aB}{φ:AF}:YD Q st φ=Q .normal φ st:=rfl
theorem CG{P:Program}{st:aB}{N:Nat}{id:Nat}{ops:Array Oper}{Q:Exit→AF→aB→Prop}{φ:AF}(hm:P.follows .mixedOrders=true)(hok:qL N ops=true)(hB:Region.lexB .any ops=true)
 (h:fC P ops st ops.toList (YD Q st) φ):gO P N (.region id ops true) Q φ st:=
 aQM hm hok hB (FF _ _ h)
theorem aCT:AV.junk.isAgg=false:=rfl
theorem aHU:AV.junk.width=1:=rfl
theorem aDA:AV.junk.cF=true:=rfl
theorem aBP:AV.junk.cells= [AV.junk]:=rfl
theorem aFT:AV.junk.storable=false:=rfl
theorem aC4:AV.undef.isAgg=false:=rfl
theorem aH5:AV.undef.width=1:=rfl
theorem aDL:AV.undef.cF=false:=rfl
theorem aB0:AV.undef.cells= [AV.undef]:=rfl
theorem aF3:AV.undef.storable=false:=rfl
theorem aCS{k:IntKind}{n:Int}:(AV.int k n).isAgg=false:=rfl
theorem aHT{k:IntKind}{n:Int}:(AV.int k n).width=1:=rfl
theorem aC9{k:IntKind}{n:Int}:(AV.int k n).cF=false:=rfl
theorem aBO{k:IntKind}{n:Int}:(AV.int k n).cells= [(AV.int k n)]:=rfl
theorem aFS{k:IntKind}{n:Int}:(AV.int k n).storable=true:=rfl
theorem aCP{b:Bool}:(AV.bool b).isAgg=false:=rfl
theorem aHQ{b:Bool}:(AV.bool b).width=1:=rfl
theorem aC6{b:Bool}:(AV.bool b).cF=false:=rfl
theorem aBL{b:Bool}:(AV.bool b).cells= [(AV.bool b)]:=rfl
theorem aFP{b:Bool}:(AV.bool b).storable=true:=rfl
theorem aC2{s:ByteArray}:(AV.str s).isAgg=false:=rfl
theorem aH3{s:ByteArray}:(AV.str s).width=1:=rfl
theorem aDJ{s:ByteArray}:(AV.str s).cF=false:=rfl
theorem aBY{s:ByteArray}:(AV.str s).cells= [(AV.str s)]:=rfl
theorem aF1{s:ByteArray}:(AV.str s).storable=true:=rfl
theorem aC3{vs:List AV}:(AV.tup vs).isAgg=false:=rfl
theorem aH4{vs:List AV}:(AV.tup vs).width=1:=rfl
theorem aDK{vs:List AV}:(AV.tup vs).cF=false:=rfl
theorem aBZ{vs:List AV}:(AV.tup vs).cells= [(AV.tup vs)]:=rfl
theorem aF2{vs:List AV}:(AV.tup vs).storable=false:=rfl
theorem aC1{es:List AV}:(AV.slice es).isAgg=false:=rfl
theorem aH2{es:List AV}:(AV.slice es).width=1:=rfl
theorem aDI{es:List AV}:(AV.slice es).cF=false:=rfl
theorem aBX{es:List AV}:(AV.slice es).cells= [(AV.slice es)]:=rfl
theorem aF0{es:List AV}:(AV.slice es).storable=true:=rfl
theorem aCQ{es:List AV}:(AV.fslice es).isAgg=false:=rfl
theorem aHR{es:List AV}:(AV.fslice es).width=1:=rfl
theorem aC7{es:List AV}:(AV.fslice es).cF=false:=rfl
theorem aBM{es:List AV}:(AV.fslice es).cells= [(AV.fslice es)]:=rfl
theorem aFQ{es:List AV}:(AV.fslice es).storable=true:=rfl
theorem aCV{b:Nat}{o:Nat}{l:Nat}{m:Nat}:(AV.mslice b o l m).isAgg=false:=rfl
theorem aHW{b:Nat}{o:Nat}{l:Nat}{m:Nat}:(AV.mslice b o l m).width=1:=rfl
theorem aDC{b:Nat}{o:Nat}{l:Nat}{m:Nat}:(AV.mslice b o l m).cF=false:=rfl
theorem aBR{b:Nat}{o:Nat}{l:Nat}{m:Nat}:(AV.mslice b o l m).cells= [(AV.mslice b o l m)]:=rfl
theorem aFV{b:Nat}{o:Nat}{l:Nat}{m:Nat}:(AV.mslice b o l m).storable=true:=rfl
theorem aCX:AV.nilptr.isAgg=false:=rfl
theorem aHY:AV.nilptr.width=1:=rfl
theorem aDE:AV.nilptr.cF=false:=rfl
theorem aBT:AV.nilptr.cells= [AV.nilptr]:=rfl
theorem aFX:AV.nilptr.storable=true:=rfl
theorem aCZ{b:Nat}{o:Nat}:(AV.ptr b o).isAgg=false:=rfl
theorem aH0{b:Nat}{o:Nat}:(AV.ptr b o).width=1:=rfl
theorem aDG{b:Nat}{o:Nat}:(AV.ptr b o).cF=false:=rfl
theorem aBV{b:Nat}{o:Nat}:(AV.ptr b o).cells= [(AV.ptr b o)]:=rfl
theorem aFZ{b:Nat}{o:Nat}:(AV.ptr b o).storable=true:=rfl
theorem aCY{e:AV}:(AV.pptr e).isAgg=false:=rfl
theorem aHZ{e:AV}:(AV.pptr e).width=1:=rfl
theorem aDF{e:AV}:(AV.pptr e).cF=false:=rfl
theorem aBU{e:AV}:(AV.pptr e).cells= [(AV.pptr e)]:=rfl
theorem aFY{e:AV}:(AV.pptr e).storable=true:=rfl
theorem aCW:AV.nilmap.isAgg=false:=rfl
theorem aHX:AV.nilmap.width=1:=rfl
theorem aDD:AV.nilmap.cF=false:=rfl
theorem aBS:AV.nilmap.cells= [AV.nilmap]:=rfl
theorem aFW:AV.nilmap.storable=true:=rfl
theorem aCU{b:Nat}:(AV.map b).isAgg=false:=rfl
theorem aHV{b:Nat}:(AV.map b).width=1:=rfl
theorem aDB{b:Nat}:(AV.map b).cF=false:=rfl
theorem aBQ{b:Nat}:(AV.map b).cells= [(AV.map b)]:=rfl
theorem aFU{b:Nat}:(AV.map b).storable=true:=rfl
theorem aCR{f:FuncId}{cs:List AV}:(AV.func f cs).isAgg=false:=rfl
theorem aHS{f:FuncId}{cs:List AV}:(AV.func f cs).width=1:=rfl
theorem aC8{f:FuncId}{cs:List AV}:(AV.func f cs).cF=false:=rfl
theorem aBN{f:FuncId}{cs:List AV}:(AV.func f cs).cells= [(AV.func f cs)]:=rfl
theorem aFR{f:FuncId}{cs:List AV}:(AV.func f cs).storable=true:=rfl
theorem aC0{v:Value}:(AV.raw v).isAgg=false:=rfl
theorem aH1{v:Value}:(AV.raw v).width=1:=rfl
theorem aDH{v:Value}:(AV.raw v).cF=false:=rfl
theorem aBW{v:Value}:(AV.raw v).cells= [(AV.raw v)]:=rfl
theorem aCO{cs:List AV}:(AV.agg cs).isAgg=true:=rfl
theorem aHP{cs:List AV}:(AV.agg cs).width=cs.length:=rfl
theorem aC5{cs:List AV}:(AV.agg cs).cF=false:=rfl
theorem aBK{cs:List AV}:(AV.agg cs).cells=cs:=rfl
theorem aBI:((0:Nat):Int)=0:=rfl
theorem aBJ{n:Nat}:((n+1:Nat):Int)=(n:Int)+1:=rfl
theorem uL{st:aB}{b x:Nat}{o:AO}:(st.aC b o) x=if x=b then some o else st x:=rfl
theorem wrap64{n:Int}(h1: -9223372036854775808≤n)(h2:n≤9223372036854775807):IntKind.wrap .i64 n=n:=by
 rw[IntKind.wrap_i64];omega
end Go.AW
