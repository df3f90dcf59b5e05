/- Smaller stores, frozen slices, sizes, frames as lists, regions that draw. -/
import Derived.Test.YtieofkhcboolkaaGreatDoorWad
set_option linter.unusedSimpArgs false
set_option linter.unusedVariables false
set_option maxRecDepth 100000
namespace Go.AW
def aL(st st':aB):Prop:=∀b,(st b=none→st' b=none)∧∀o,st' b=some o→st b=some o
theorem aL.refl(st:aB):aL st st:=fun _=>⟨id,fun _=>id⟩
theorem aL.trans{a b c:aB}(x:aL a b)(y:aL b c):aL a c:=fun i=>⟨fun h=>(y i).1 ((x i).1 h),fun o h=>(x i).2 o ((y i).2 o h)⟩
theorem aL.aC{st st':aB}(x:aL st st'){b:Nat}{o:AO}(h:st' b=none):aL (st.aC b o) st':=fun i=>by
 simp only[aB.aC]
 split
 · rename_i e;subst e;exact⟨fun _=>h,fun o' h'=>by rw[h] at h';cases h'⟩
 · exact x i
theorem jK(st:aB)(b:Nat):aL st (st.erase b):=fun i=>by
 simp only[aB.erase]
 split
 · exact⟨fun _=>rfl,fun o' h'=>by cases h'⟩
 · exact⟨id,fun _=>id⟩
theorem aL.step{st st':aB}(x:aL st st')(h:bM):b7 h st h st':=⟨cZ _,fun b _ e=>⟨rfl,(x b).1 e⟩,fun _ c _ _ e=>⟨c,e,rfl⟩⟩
theorem aL.HO{st st':aB}(x:aL st st'){h:bM}(S:cW h st):cW h st':=fun b o e=>by
 obtain⟨h1,h2⟩:=S b o ((x b).2 o e)
 refine⟨h1,?_⟩
 cases o with
 | cells as=>
  obtain⟨c,t,e1,e2,vs,e3,e4⟩:=h2
  exact⟨c,t,e1,e2,vs,e3,bA.mono (x.step h) _ _ e4⟩
 | map f=>
  obtain⟨es,clock,e1,e2,e3,e4⟩:=h2
  refine⟨es,clock,e1,e2,e3,fun n=>?_⟩
  have:=e4 n
  cases hf:f n with
  | none=>rw[hf] at this;exact this
  | some a=>
   rw[hf] at this
   obtain⟨e,m,k,v⟩:=this
   exact⟨e,m,k,v.mono (x.step h)⟩
 | tab cs=>exact h2
theorem aL.tU{st st':aB}(x:aL st st'):zP st st':=fun h S=>⟨x.HO S,x.step h⟩
theorem aL.mV{st st':aB}(x:aL st st')(r:AV):rL st r st' r:=fun h _ _ y=>y.mono (x.step h)
theorem aD.drop{P:Program}{g:FuncId}{args:List AV}{st:aB}{Q:AV→Prop}(x:aD P g args st (fun r st'=>aL st' st∧Q r)):aD P g args st (fun r st'=>Q r∧st'=st):=
 x.mV fun r st' ⟨h1,h2⟩=>⟨r,st,h1.tU,h1.mV r,h2,rfl⟩
mutual
def AV.fz(b:Nat)(es:List AV):AV→AV
 | .mslice b' 0 n sz=>if b'=b∧n=es.length then .slice es else .mslice b' 0 n sz
 | .agg cs=>.agg (lI b es cs)
 | .tup vs=>.tup (lI b es vs)
 | a=>a
def lI(b:Nat)(es:List AV):List AV→List AV
 | []=>[]
 | a::as=>AV.fz b es a::lI b es as
end
theorem aJY(b:Nat)(es:List AV)(a:AV):(a.fz b es).isAgg=a.isAgg:=by
 cases a<;>try rfl
 case mslice b' off n sz=>
  cases off with
  | zero=>simp only[AV.fz];split<;>rfl
  | succ k=>rfl
section
variable {h:bM} {st:aB} {b:Nat} {es:List AV}
theorem frozen(S:cW h st)(hb:st b=some (.cells (es.flatMap AV.cells)))(hj:∀e∈es,e.cE=false):b<h.size∧dH h (st.erase b) b 0 es:=by
 obtain⟨h1,c,t,e1,e2,vs,e3,e4⟩:=S b _ hb
 exact⟨h1,dH.mono ((jK st b).step h) b rfl _ _ (JB hj e3 e4)⟩
theorem VC.aZM{b' off n sz:Nat}{cs:List Value}(S:cW h st)(hb:st b=some (.cells (es.flatMap AV.cells)))(hj:∀e∈es,e.cE=false)(hE:iI es)(x:VC h st (.mslice b' off n sz) cs):VC h (st.erase b) ((AV.mslice b' off n sz).fz b es) cs:=by
 have x0:VC h (st.erase b) (.mslice b' off n sz) cs:=VC.mono ((jK st b).step h) _ _ x
 cases off with
 | succ k=>exact x0
 | zero=>
  simp only[AV.fz]
  split
  · rename_i e
    obtain⟨rfl,rfl⟩:=e
    simp only[VC] at x
    obtain⟨cap,e1,l1,l2,c,t,_,_⟩:=x
    obtain⟨hs,hE'⟩:=frozen S hb hj
    unfold VC
    exact .inr ⟨b',0,cap,e1,l1,l2,aB.ZM _ _,hs,hE,hE'⟩
  · exact x0
mutual
theorem VC.fz(S:cW h st)(hb:st b=some (.cells (es.flatMap AV.cells)))(hj:∀e∈es,e.cE=false)(hE:iI es):∀(a:AV) (cs:List Value),VC h st a cs→VC h (st.erase b) (a.fz b es) cs
 | .mslice b' off n sz,cs,x=>VC.aZM S hb hj hE x
 | .agg as,cs,x=>by simp only[VC,AV.fz] at x ⊢;exact bA.fz S hb hj hE as cs x
 | .tup as,cs,x=>by
  simp only[VC,AV.fz] at x ⊢
  obtain⟨vs,e,r⟩:=x
  exact⟨vs,e,dT.fz S hb hj hE as vs r⟩
 | .junk,cs,x=>VC.mono ((jK st b).step h) _ _ x
 | .undef,cs,x=>VC.mono ((jK st b).step h) _ _ x
 | .int _ _,cs,x=>VC.mono ((jK st b).step h) _ _ x
 | .bool _,cs,x=>VC.mono ((jK st b).step h) _ _ x
 | .str _,cs,x=>VC.mono ((jK st b).step h) _ _ x
 | .slice _,cs,x=>VC.mono ((jK st b).step h) _ _ x
 | .fslice _,cs,x=>VC.mono ((jK st b).step h) _ _ x
 | .nilptr,cs,x=>VC.mono ((jK st b).step h) _ _ x
 | .ptr _ _,cs,x=>VC.mono ((jK st b).step h) _ _ x
 | .pptr _,cs,x=>VC.mono ((jK st b).step h) _ _ x
 | .nilmap,cs,x=>VC.mono ((jK st b).step h) _ _ x
 | .map _,cs,x=>VC.mono ((jK st b).step h) _ _ x
 | .func _ _,cs,x=>VC.mono ((jK st b).step h) _ _ x
 | .raw _,cs,x=>VC.mono ((jK st b).step h) _ _ x
 | .eslice,cs,x=>VC.mono ((jK st b).step h) _ _ x
theorem bA.fz(S:cW h st)(hb:st b=some (.cells (es.flatMap AV.cells)))(hj:∀e∈es,e.cE=false)(hE:iI es):∀(as:List AV) (cs:List Value),bA h st as cs→bA h (st.erase b) (lI b es as) cs
 | [],_,x=>x
 | a::as,cs,x=>by
  simp only[bA,lI] at x ⊢
  obtain⟨c,r,e,x1,x2⟩:=x
  exact⟨c,r,e,VC.fz S hb hj hE a [c] x1,bA.fz S hb hj hE as r x2⟩
theorem dT.fz(S:cW h st)(hb:st b=some (.cells (es.flatMap AV.cells)))(hj:∀e∈es,e.cE=false)(hE:iI es):∀(as:List AV) (cs:List Value),dT h st as cs→dT h (st.erase b) (lI b es as) cs
 | [],_,x=>x
 | a::as,cs,x=>by
  simp only[dT,lI] at x ⊢
  obtain⟨v,r,e,x1,x2⟩:=x
  exact⟨v,r,e,⟨(aJY b es a).trans x1.1,VC.fz S hb hj hE a _ x1.2⟩,dT.fz S hb hj hE as r x2⟩
end
theorem aQ.fz{a:AV}{v:Value}(S:cW h st)(hb:st b=some (.cells (es.flatMap AV.cells)))(hj:∀e∈es,e.cE=false)(hE:iI es)(x:aQ h st a v):aQ h (st.erase b) (a.fz b es) v:=by
 have key:a.isAgg=mC v∧VC h st a v.cells.toList→aQ h (st.erase b) (a.fz b es) v:=fun x=>by
  have y:(a.fz b es).isAgg=mC v∧VC h (st.erase b) (a.fz b es) v.cells.toList:=⟨(aJY b es a).trans x.1,VC.fz S hb hj hE a _ x.2⟩
  cases hq:a.fz b es<;>rw[hq] at y<;>first | trivial | exact y
 cases a<;>first | trivial | exact key x
end
theorem aD.freeze{P:Program}{g:FuncId}{args:List AV}{st:aB}{Q:AV→aB→Prop}
 (x:aD P g args st (fun r st'=>∃b es,st' b=some (.cells (es.flatMap AV.cells))∧(∀e∈es,e.cE=false)∧iI es∧Q (r.fz b es) (st'.erase b))):aD P g args st Q:=
 x.mV fun r st' ⟨b,es,h1,h2,h3,h4⟩=>⟨r.fz b es,st'.erase b,(jK st' b).tU,fun _ _ S y=>y.fz S h1 h2 h3,h4⟩
theorem fV.freeze{φ:AF}{st:aB}{b:Nat}{es:List AV}(h1:st b=some (.cells (es.flatMap AV.cells)))(h2:∀e∈es,e.cE=false)(h3:iI es):fV φ st (fun d=>(φ d).fz b es) (st.erase b):=
 fun h _ S F=>⟨(jK st b).HO S,(jK st b).step h,fun d=>(F d).fz S h1 h2 h3⟩
theorem fV.drop{φ:AF}{st st':aB}(x:aL st st'):fV φ st φ st':=fun h _ S F=>⟨x.HO S,x.step h,fun d=>(F d).mono (x.step h)⟩
mutual
def AV.soft:AV→AV
 | .fslice es=>.slice es
 | .agg cs=>.agg (hH cs)
 | .tup vs=>.tup (hH vs)
 | a=>a
def hH:List AV→List AV
 | []=>[]
 | a::as=>a.soft::hH as
end
theorem a5R(a:AV):a.soft.isAgg=a.isAgg:=by cases a<;>rfl
section
variable {h:bM} {st:aB}
mutual
theorem VC.soft:∀(a:AV) (cs:List Value),VC h st a cs→VC h st a.soft cs
 | .fslice es,cs,x=>by
  simp only[AV.soft]
  unfold VC at x ⊢
  rcases x with x | ⟨b,off,e,l,r⟩
  · exact .inl x
  · exact .inr ⟨b,off,es.length,e,cZ _,l,r⟩
 | .agg as,cs,x=>by simp only[VC,AV.soft] at x ⊢;exact bA.soft as cs x
 | .tup as,cs,x=>by
  simp only[VC,AV.soft] at x ⊢
  obtain⟨vs,e,r⟩:=x
  exact⟨vs,e,dT.soft as vs r⟩
 | .mslice _ _ _ _,cs,x=>x
 | .junk,cs,x=>x
 | .undef,cs,x=>x
 | .int _ _,cs,x=>x
 | .bool _,cs,x=>x
 | .str _,cs,x=>x
 | .slice _,cs,x=>x
 | .nilptr,cs,x=>x
 | .ptr _ _,cs,x=>x
 | .pptr _,cs,x=>x
 | .nilmap,cs,x=>x
 | .map _,cs,x=>x
 | .func _ _,cs,x=>x
 | .raw _,cs,x=>x
 | .eslice,cs,x=>x
theorem bA.soft:∀(as:List AV) (cs:List Value),bA h st as cs→bA h st (hH as) cs
 | [],_,x=>x
 | a::as,cs,x=>by
  simp only[bA,hH] at x ⊢
  obtain⟨c,r,e,x1,x2⟩:=x
  exact⟨c,r,e,VC.soft a [c] x1,bA.soft as r x2⟩
theorem dT.soft:∀(as:List AV) (cs:List Value),dT h st as cs→dT h st (hH as) cs
 | [],_,x=>x
 | a::as,cs,x=>by
  simp only[dT,hH] at x ⊢
  obtain⟨v,r,e,x1,x2⟩:=x
  exact⟨v,r,e,⟨(a5R a).trans x1.1,VC.soft a _ x1.2⟩,dT.soft as r x2⟩
end
theorem aQ.soft{a:AV}{v:Value}(x:aQ h st a v):aQ h st a.soft v:=by
 cases a
 case fslice=>exact x.GH
 case agg=>exact⟨x.1,VC.soft _ _ x.2⟩
 case tup=>exact⟨x.1,VC.soft _ _ x.2⟩
 all_goals exact x
end
theorem aD.soft{P:Program}{g:FuncId}{args:List AV}{st:aB}{Q:AV→aB→Prop}(x:aD P g args st (fun r st'=>Q r.soft st')):aD P g args st Q:=
 x.mV fun r st' h=>⟨r.soft,st',(aL.refl st').tU,fun _ _ _ y=>y.soft,h⟩
theorem aD.pQ{P:Program}{g:FuncId}{args:List AV}{st:aB}{Q:AV→aB→Prop}(x:aD P g (hH args) st Q):aD P g args st Q:=
 x.args fun hp=>by
  have:∀(as:List AV) (vs:List Value),dA hp st as vs→dA hp st (hH as) vs:=by
   intro as
   induction as with
   | nil=>intro vs y;exact y
   | cons a as ih=>
    intro vs y
    simp only[dA,hH] at y ⊢
    obtain⟨v,r,rfl,y1,y2⟩:=y
    exact⟨v,r,rfl,y1.soft,ih r y2⟩
  exact fun vs _=>this args vs
mutual
def AV.fits:AV→Prop
 | .str s=>s.size≤9223372036854775807
 | .agg cs=>d7 cs
 | .tup vs=>d7 vs
 | .slice es=>es.length≤9223372036854775807∧d7 es
 | .fslice es=>es.length≤9223372036854775807∧d7 es
 | .mslice _ _ n _=>n≤9223372036854775807
 | .pptr e=>e.fits
 | _=>True
def d7:List AV→Prop
 | []=>True
 | a::as=>a.fits∧d7 as
end
section
variable {h:bM} {st:aB}
mutual
theorem VC.fits:∀(a:AV) (cs:List Value),VC h st a cs→a.fits
 | .str s,cs,x=>by simp only[VC,maxLen] at x;exact x.2
 | .agg as,cs,x=>by simp only[VC,AV.fits] at x ⊢;exact bA.fits as cs x
 | .tup as,cs,x=>by
  simp only[VC,AV.fits] at x ⊢
  obtain⟨vs,e,r⟩:=x
  exact dT.fits as vs r
 | .slice es,cs,x=>by
  simp only[VC,AV.fits] at x ⊢
  rcases x with ⟨⟨p0,_⟩,rfl⟩ | ⟨b,off,cap,_,l1,l2,_,_,_,r⟩
  · exact⟨by simp,trivial⟩
  · exact⟨jP l1 l2,dH.fits es off r⟩
 | .fslice es,cs,x=>by
  simp only[VC,AV.fits] at x ⊢
  rcases x with ⟨⟨p0,_⟩,rfl⟩ | ⟨b,off,_,l1,_,_,_,r⟩
  · exact⟨by simp,trivial⟩
  · exact⟨l1,dH.fits es off r⟩
 | .mslice _ _ n _,cs,x=>by
  simp only[VC,AV.fits] at x ⊢
  obtain⟨cap,_,l1,l2,_⟩:=x
  exact jP l1 l2
 | .pptr e,cs,x=>by
  simp only[VC,AV.fits] at x ⊢
  obtain⟨b,off,_,_,_,vs,_,_,y⟩:=x
  exact VC.fits e vs y
 | .junk,cs,x=>trivial
 | .undef,cs,x=>trivial
 | .int _ _,cs,x=>trivial
 | .bool _,cs,x=>trivial
 | .nilptr,cs,x=>trivial
 | .ptr _ _,cs,x=>trivial
 | .nilmap,cs,x=>trivial
 | .map _,cs,x=>trivial
 | .func _ _,cs,x=>trivial
 | .raw _,cs,x=>trivial
 | .eslice,cs,x=>trivial
theorem bA.fits:∀(as:List AV) (cs:List Value),bA h st as cs→d7 as
 | [],_,x=>trivial
 | a::as,cs,x=>by
  simp only[bA] at x
  obtain⟨c,r,e,x1,x2⟩:=x
  exact⟨VC.fits a [c] x1,bA.fits as r x2⟩
theorem dT.fits:∀(as:List AV) (cs:List Value),dT h st as cs→d7 as
 | [],_,x=>trivial
 | a::as,cs,x=>by
  simp only[dT] at x
  obtain⟨v,r,e,x1,x2⟩:=x
  exact⟨VC.fits a _ x1.2,dT.fits as r x2⟩
theorem dH.fits{b:Nat}:∀(as:List AV) (off:Nat),dH h st b off as→d7 as
 | [],_,x=>trivial
 | a::as,off,x=>by
  simp only[dH] at x
  obtain⟨⟨cs,_,_,x3⟩,x4⟩:=x
  exact⟨VC.fits a cs x3,dH.fits as _ x4⟩
end
theorem aQ.fits{a:AV}{v:Value}(x:aQ h st a v):a.fits:=by
 cases a<;>first | trivial | exact VC.fits _ _ x.2
theorem dA.fits:∀ {as:List AV} {vs:List Value},dA h st as vs→d7 as
 | [],_,_=>trivial
 | a::as,vs,x=>by
  simp only[dA] at x
  obtain⟨v,r,_,x1,x2⟩:=x
  exact⟨x1.fits,dA.fits x2⟩
end
theorem zw6{P:Program}{g:FuncId}{fn:Func}{c:Code}{args:List AV}{st:aB}{N:Nat}{rs:List ResultVar}{K:AV→aB→Prop}(mt:List Nat)(hf:P.funcs[g]?=some fn)(hN:fn.ntmps=N)(hr:fn.results=rs.toArray)(hb:fn.body=some c)(hn:(fn.name == "runtime.NumGoroutine")=false)
 (hok:codeOk N c=true) (rW:args.length≤N) (e:d7 args→gH P N mt c (HM P rs.toArray K) (uA 0 args) st):aD P g args st K:=by
 subst hN
 rw[←hr] at e
 exact⟨⟨fn,hf,by simp [hb],hn⟩,fun w vs S V=>(aQS mt hf hb hn hok rW (e V.fits)).2 w vs S V⟩
def kG:List (Nat×AV)→AF
 | []=>AF.bot
 | (d,v)::l=>(kG l).aC d v
def AI(φ:AF):List (Nat×AV)→Prop
 | []=>True
 | (d,v)::l=>φ d=v∧AI φ l
theorem fV.kG{φ:AF}{st:aB}:∀ {l:List (Nat×AV)},AI φ l→fV φ st (kG l) st
 | [],_=>fV.bot φ st
 | (d,v)::l,h=>(fV.kG h.2).aC h.1
theorem aDU{φ:AF}:AI φ []=True:=rfl
theorem aDV{φ:AF}{d:Nat}{v:AV}{l:List (Nat×AV)}:AI φ ((d,v)::l)=(φ d=v∧AI φ l):=rfl
theorem aD.to{P:Program}{g:FuncId}{args:List AV}{st:aB}{r:AV}{K:AV→aB→Prop}(x:aD P g args st (fun r' st'=>r'=r∧st'=st))(h:K r st):aD P g args st K:=
 x.mono fun _ _ ⟨e1,e2⟩=>by rw[e1,e2];exact h
theorem FU{P:Program}{N:Nat}(mt:List Nat){c:Code}{Q:Exit→AF→aB→Prop}{φ:AF}{st:aB}(hok:codeOk N c=true)(e:gH P N mt c Q φ st):gP P N c Q φ st:=zR c Q φ st hok e
def v8(l:List (Nat×AV)):AF:=kG l
theorem aDO:v8 []=AF.bot:=rfl
theorem aDN{d:Nat}{v:AV}{l:List (Nat×AV)}:v8 ((d,v)::l)=(v8 l).aC d v:=rfl
def aN(φ:AF)(st:aB)(l:List (Nat×AV))(st':aB):Prop:=fV φ st (kG l) st'
theorem aN.mk{φ:AF}{st:aB}{l:List (Nat×AV)}(h:AI φ l):aN φ st l st:=fV.kG h
theorem aN.drop{φ:AF}{st st':aB}{l:List (Nat×AV)}(d:aL st st')(h:AI φ l):aN φ st l st':=(fV.drop d).trans (fV.kG h)
theorem w9{P:Program}{N:Nat}{c:Code}{Q:Exit→AF→aB→Prop}{φ:AF}{st:aB}{α:Type}(mt:List Nat)(inv:α→Prop)(fl:α→List (Nat×AV))(so:α→aB)(μ:α→Nat)(hok:codeOk N c=true)
 (h0:∃s,inv s∧aN φ st (fl s) (so s))
 (h1:∀s,inv s→gH P N mt c (pN (fun φ' st'=>∃s',μ s'<μ s∧inv s'∧aN φ' st' (fl s') (so s')) Q) (v8 (fl s)) (so s)):gP P N (.loop c) Q φ st:=
 OH inv (fun s=>kG (fl s)) so μ h0 fun s hs=>FU mt hok (h1 s hs)
theorem cU{P:Program}{mt:List Nat}{ops:Array Oper}{o:Oper}{l:List Oper}{K:AF→aB→Prop}{φ:AF}{st:aB}{c want:Bool}
 (h1:c=want→wM P mt ops o l K φ st (some true)) (h2:c=(!want)→wM P mt ops o l K φ st (some false)):wM P mt ops o l K φ st (some (c == want)):=by
 cases c<;>cases want<;>first | exact h1 rfl | exact h2 rfl
def kL(o:Oper):Bool:=match o.op with
 | .call { callee:=.value _,.. }=>false
 | .call { callee:=.builtin .append,.. }=>false
 | .call { callee:=.builtin .delete,.. }=>false
 | .call { callee:=.builtin .clear,.. }=>false
 | .alloc _=>false
 | .store _ _ _=>false
 | .makeMap _ none=>false
 | .makeSlice _ _ _=>false
 | .mapUpdate _ _ _ _=>false
 | _=>true
theorem sR{P:Program}{φ:AF}{st:aB}{o:Oper}{K:AV→aB→Prop}(h:kL o=true):fH P [] φ st o K=match lG P φ st o with | some r=>K r st | none=>False:=by
 obtain⟨dst,op,type,pos,after,guard⟩:=o
 unfold fH
 split
 case h_5 t x e=>
  simp only at e
  subst e
  simp only[BW,List.contains_nil,lG]
  cases dst<;>rfl
 case h_11=>rfl
 all_goals (rename_i e;simp only at e;subst e;simp [kL] at h)
def fD(P:Program)(ops:Array Oper)(st:aB):List Oper→(AF→Prop)→AF→Prop
 | [],K,φ=>K φ
 | o::rest,K,φ=>if kL o=true then bJ P [] ops [o] (fun φ' _=>fD P ops st rest K φ') φ st else
  match o.guard,o.op with
  | none,.call { callee:=.value f,args,.. }=>∃r,sU P (φ.eval f) (args.toList.map φ.eval) st (fun r' st'=>r'=r∧st'=st)∧fD P ops st rest K (φ.put o.dst r)
  | _,_=>False
theorem FL{P:Program}{ops:Array Oper}{st:aB}{K:AF→Prop}:∀(l:List Oper) (φ:AF),fD P ops st l K φ→pZ P st ops l K φ
 | [],_,h=>h
 | o::rest,φ,h=>by
  simp only[fD] at h
  split at h
  · rename_i hp
    simp only[bJ] at h
    simp only[pZ]
    split at h
    · rename_i hg
      rw[sR hp] at h
      rw[hg]
      simp only
      split at h
      · rename_i r hr
        exact⟨r,by rw[sR hp,hr];exact⟨rfl,rfl⟩,FL rest _ h⟩
      · cases h
    · rename_i hg
      rw[hg]
      exact FL rest _ h
    · cases h
  · split at h
    · rename_i f args ats hg ho
      obtain⟨r,h1,h2⟩:=h
      simp only[pZ,jJ,hg]
      refine⟨r,?_,FL rest _ h2⟩
      simp only[fH,ho]
      exact h1
    · cases h
theorem ZQ{P:Program}{ops:Array Oper}{st:aB}{K:AF→Prop}{φ:AF}:fD P ops st [] K φ=K φ:=rfl
def hK(P:Program)(ops:Array Oper)(st:aB)(rest:List Oper)(K:AF→Prop)(φ:AF)(_:aB):Prop:=fD P ops st rest K φ
theorem aDT{P:Program}{ops:Array Oper}{st st':aB}{K:AF→Prop}{φ:AF}{rest:List Oper}:hK P ops st rest K φ st'=fD P ops st rest K φ:=rfl
theorem lA{P:Program}{ops:Array Oper}{st:aB}{K:AF→Prop}{φ:AF}{o:Oper}{rest:List Oper}(h:kL o=true):fD P ops st (o::rest) K φ=bJ P [] ops [o] (hK P ops st rest K) φ st:=by
 simp [fD,h]
 rfl
def xV(P:Program)(f:AV)(args:List AV)(st:aB)(K:AV→Prop):Prop:=∃r,sU P f args st (fun r' st'=>r'=r∧st'=st)∧K r
def DL(P:Program)(ops:Array Oper)(st:aB)(rest:List Oper)(K:AF→Prop)(φ:AF)(dst:Option Tmp)(r:AV):Prop:=fD P ops st rest K (φ.put dst r)
theorem aP2{P:Program}{ops:Array Oper}{st:aB}{K:AF→Prop}{φ:AF}{rest:List Oper}{dst:Option Tmp}{f:Operand}{args:List Operand}{ats:Array TypeId}{type:TypeId}{pos:String}{after:Array Edge} :
 fD P ops st (⟨dst,.call { callee:=.value f,args:=args.toArray,argTypes:=ats },type,pos,after,none⟩::rest) K φ=xV P (φ.eval f) (args.map φ.eval) st (DL P ops st rest K φ dst):=by
 simp [fD,kL,xV,DL]
section
variable {P:Program} {ops:Array Oper} {st:aB} {K:AF→Prop} {φ:AF} {rest:List Oper} {dst:Option Tmp} {type:TypeId} {pos:String} {after:Array Edge} {g:Option (Nat×Bool)}
theorem aAC{f:Operand}{args:List Operand}{ats:Array TypeId} :
 fD P ops st (⟨dst,.call { callee:=.value f,args:=args.toArray,argTypes:=ats },type,pos,after,none⟩::rest) K φ=xV P (φ.eval f) (args.map φ.eval) st (DL P ops st rest K φ dst):=aP2
theorem ZR{x:Operand}:fD P ops st (⟨dst,.move x,type,pos,after,g⟩::rest) K φ=bJ P [] ops [⟨dst,.move x,type,pos,after,g⟩] (hK P ops st rest K) φ st:=lA rfl
theorem Z3{x:Operand}:fD P ops st (⟨dst,.assign x,type,pos,after,g⟩::rest) K φ=bJ P [] ops [⟨dst,.assign x,type,pos,after,g⟩] (hK P ops st rest K) φ st:=lA rfl
theorem Z4{c x y:Operand}:fD P ops st (⟨dst,.pick c x y,type,pos,after,g⟩::rest) K φ=bJ P [] ops [⟨dst,.pick c x y,type,pos,after,g⟩] (hK P ops st rest K) φ st:=lA rfl
theorem Z5{op:BinOp}{t t':TypeId}{x y:Operand}:fD P ops st (⟨dst,.binOp op t x y t',type,pos,after,g⟩::rest) K φ=bJ P [] ops [⟨dst,.binOp op t x y t',type,pos,after,g⟩] (hK P ops st rest K) φ st:=lA rfl
theorem Z6{op:UnOp}{t:TypeId}{x:Operand}:fD P ops st (⟨dst,.unOp op t x,type,pos,after,g⟩::rest) K φ=bJ P [] ops [⟨dst,.unOp op t x,type,pos,after,g⟩] (hK P ops st rest K) φ st:=lA rfl
theorem Z7{x:Operand}:fD P ops st (⟨dst,.nilCheck x,type,pos,after,g⟩::rest) K φ=bJ P [] ops [⟨dst,.nilCheck x,type,pos,after,g⟩] (hK P ops st rest K) φ st:=lA rfl
theorem Z8{t f:Nat}{x:Operand}:fD P ops st (⟨dst,.fieldAddr t x f,type,pos,after,g⟩::rest) K φ=bJ P [] ops [⟨dst,.fieldAddr t x f,type,pos,after,g⟩] (hK P ops st rest K) φ st:=lA rfl
theorem Z9{t:TypeId}{x:Operand}:fD P ops st (⟨dst,.load t x,type,pos,after,g⟩::rest) K φ=bJ P [] ops [⟨dst,.load t x,type,pos,after,g⟩] (hK P ops st rest K) φ st:=lA rfl
theorem aAA{t f:Nat}{x:Operand}:fD P ops st (⟨dst,.field t x f,type,pos,after,g⟩::rest) K φ=bJ P [] ops [⟨dst,.field t x f,type,pos,after,g⟩] (hK P ops st rest K) φ st:=lA rfl
theorem ZS{t:TypeId}{x i:Operand}:fD P ops st (⟨dst,.indexAddr t x i,type,pos,after,g⟩::rest) K φ=bJ P [] ops [⟨dst,.indexAddr t x i,type,pos,after,g⟩] (hK P ops st rest K) φ st:=lA rfl
theorem ZT{t:TypeId}{x i:Operand}:fD P ops st (⟨dst,.index t x i,type,pos,after,g⟩::rest) K φ=bJ P [] ops [⟨dst,.index t x i,type,pos,after,g⟩] (hK P ops st rest K) φ st:=lA rfl
theorem ZU{t:TypeId}{x:Operand}{lo hi mx:Option Operand}:fD P ops st (⟨dst,.slice t x lo hi mx,type,pos,after,g⟩::rest) K φ=bJ P [] ops [⟨dst,.slice t x lo hi mx,type,pos,after,g⟩] (hK P ops st rest K) φ st:=lA rfl
theorem ZV{x:Operand}{i:Nat}:fD P ops st (⟨dst,.extract x i,type,pos,after,g⟩::rest) K φ=bJ P [] ops [⟨dst,.extract x i,type,pos,after,g⟩] (hK P ops st rest K) φ st:=lA rfl
theorem ZW{t:TypeId}{ps:Array (Nat×Operand)}:fD P ops st (⟨dst,.build t ps,type,pos,after,g⟩::rest) K φ=bJ P [] ops [⟨dst,.build t ps,type,pos,after,g⟩] (hK P ops st rest K) φ st:=lA rfl
theorem ZX{t:TypeId}{n:Nat}{ps:Array (Nat×Operand)}:fD P ops st (⟨dst,.buildSlice t n ps,type,pos,after,g⟩::rest) K φ=bJ P [] ops [⟨dst,.buildSlice t n ps,type,pos,after,g⟩] (hK P ops st rest K) φ st:=lA rfl
theorem ZY{t u:TypeId}{x:Operand}:fD P ops st (⟨dst,.convert t u x,type,pos,after,g⟩::rest) K φ=bJ P [] ops [⟨dst,.convert t u x,type,pos,after,g⟩] (hK P ops st rest K) φ st:=lA rfl
theorem ZZ{t:TypeId}{x i:Operand}{ok:Bool}:fD P ops st (⟨dst,.lookup t x i ok,type,pos,after,g⟩::rest) K φ=bJ P [] ops [⟨dst,.lookup t x i ok,type,pos,after,g⟩] (hK P ops st rest K) φ st:=lA rfl
theorem Z0{x:Operand}{t:TypeId}:fD P ops st (⟨dst,.call { callee:=.builtin .len,args:=#[x],argTypes:=#[t] },type,pos,after,g⟩::rest) K φ=bJ P [] ops [⟨dst,.call { callee:=.builtin .len,args:=#[x],argTypes:=#[t] },type,pos,after,g⟩] (hK P ops st rest K) φ st:=lA rfl
theorem Z1{x y:Operand}{ts:Array TypeId}:fD P ops st (⟨dst,.call { callee:=.builtin .max,args:=#[x,y],argTypes:=ts },type,pos,after,g⟩::rest) K φ=bJ P [] ops [⟨dst,.call { callee:=.builtin .max,args:=#[x,y],argTypes:=ts },type,pos,after,g⟩] (hK P ops st rest K) φ st:=lA rfl
theorem Z2{x y:Operand}{ts:Array TypeId}:fD P ops st (⟨dst,.call { callee:=.builtin .min,args:=#[x,y],argTypes:=ts },type,pos,after,g⟩::rest) K φ=bJ P [] ops [⟨dst,.call { callee:=.builtin .min,args:=#[x,y],argTypes:=ts },type,pos,after,g⟩] (hK P ops st rest K) φ st:=lA rfl
end
theorem aAB{P:Program}{ops:Array Oper}{st:aB}{K:AF→Prop}{φ:AF}{rest:List Oper}{dst:Option Tmp}{r:AV}:DL P ops st rest K φ dst r=fD P ops st rest K (φ.put dst r):=rfl
theorem fK{P:Program}{g:FuncId}{args:List AV}{st:aB}{r:AV}{K:AV→Prop}(x:aD P g args st (fun r' st'=>r'=r∧st'=st))(h:K r):xV P (.func g []) args st K:=⟨r,by show aD P g (args++ []) st _;rw[iB];exact x,h⟩
@[congr] theorem a82 {P:Program} {ops:Array Oper} {l:List Oper} {K:AF→Prop} {φ φ':AF} {st st':aB} (h1:φ=φ') (h2:st=st'):fD P ops st l K φ=fD P ops st' l K φ':=by rw[h1,h2]
@[congr] theorem a89 {P:Program} {f f':AV} {args args':List AV} {st st':aB} {K:AV→Prop} (h0:f=f') (h1:args=args') (h2:st=st'):xV P f args st K=xV P f' args' st' K:=by rw[h0,h1,h2]
@[congr] theorem a9C {P:Program} {ops:Array Oper} {l:List Oper} {K:AF→Prop} {φ:AF} {st:aB} {dst:Option Tmp} {r r':AV} (h1:r=r'):DL P ops st l K φ dst r=DL P ops st l K φ dst r':=by rw[h1]
def QO(ops:Array Oper):Nat:=(ops.toList.findIdx fun o=> !kL o)
theorem aRD{P:Program}{st:aB}{N:Nat}{id:Nat}{ops:Array Oper}{Q:Exit→AF→aB→Prop}{φ:AF}(hm:P.follows .mixedOrders=true)(hok:qV N ops=true)(hB:Region.lexTailB .any ops (QO ops)=true)
 (h:bJ P [] ops ops.toList (Q .normal) φ st):gP P N (.region id ops true) Q φ st:=by
 refine aRB (QO ops) hm hok hB (FL _ _ ?_)
 have key:∀(l1 l2:List Oper) (φ:AF),(∀o∈l1,kL o=true)→bJ P [] ops (l1++l2) (Q .normal) φ st→fD P ops st l1 (fun φ'=>bJ P [] ops l2 (Q .normal) φ' st) φ:=by
  intro l1
  induction l1 with
  | nil=>intro l2 φ _ h;exact h
  | cons o l1 ih=>
   intro l2 φ hp h
   have ho:=hp o (by simp)
   have hr:∀o∈l1,kL o=true:=fun o h=>hp o (by simp [h])
   simp only[fD,ho,gB,bJ]
   simp only[fC,bJ] at h
   split at h
   · rename_i hg
     rw[sR ho] at h
     rw[sR ho]
     split at h
     · rename_i hr2
       first | rw[hr2] | skip
       exact ih l2 _ hr h
     · cases h
   · exact ih l2 _ hr h
   · cases h
 refine key _ _ φ (fun o ho=>?_) (by rw[sL];exact h)
 obtain⟨i,hi,rfl⟩:=List.getElem_of_mem ho
 rw[dC] at hi
 have h2:=List.not_of_lt_findIdx (p:=fun o=> !kL o) (xs:=ops.toList) (i:=i) (by have:QO ops=ops.toList.findIdx (fun o=> !kL o):=rfl;omega)
 simpa using h2
def CH(P:Program)(ops:Array Oper)(st:aB)(K:AF→aB→Prop):Nat→List Oper→AF→Prop
 | 0,l,φ=>bJ P [] ops l K φ st
 | _+1,[],_=>False
 | n+1,o::rest,φ=>fD P ops st [o] (CH P ops st K n rest) φ
theorem aAE{P:Program}{ops:Array Oper}{st:aB}{K:AF→aB→Prop}{l:List Oper}{φ:AF}:CH P ops st K 0 l φ=bJ P [] ops l K φ st:=rfl
theorem aAF{P:Program}{ops:Array Oper}{st:aB}{K:AF→aB→Prop}{n:Nat}{o:Oper}{l:List Oper}{φ:AF}:CH P ops st K (n+1) (o::l) φ=fD P ops st [o] (CH P ops st K n l) φ:=rfl
theorem aIG{P:Program}{mt:List Nat}{l:List Oper}{st:aB}{K:AF→aB→Prop}{φ:AF}:bJ P mt l.toArray l.toArray.toList K φ st=bJ P mt l.toArray l K φ st:=rfl
theorem aIH{P:Program}{l:List Oper}{st:aB}{K:AF→Prop}{φ:AF}:fD P l.toArray st l.toArray.toList K φ=fD P l.toArray st l K φ:=rfl
theorem aII{P:Program}{n:Nat}{l:List Oper}{st:aB}{K:AF→aB→Prop}{φ:AF}:CH P l.toArray st K n l.toArray.toList φ=CH P l.toArray st K n l φ:=rfl
def ZL(Q:Exit→AF→aB→Prop)(st:aB)(φ:AF):Prop:=Q .normal φ st
theorem aDE{Q:Exit→AF→aB→Prop}{st:aB}{φ:AF}:ZL Q st φ=Q .normal φ st:=rfl
theorem CT{P:Program}{st:aB}{N:Nat}{id:Nat}{ops:Array Oper}{Q:Exit→AF→aB→Prop}{φ:AF}(hm:P.follows .mixedOrders=true)(hok:qV N ops=true)(hB:Region.lexB .any ops=true)
 (h:fD P ops st ops.toList (ZL Q st) φ):gP P N (.region id ops true) Q φ st:=
 aRC hm hok hB (FL _ _ h)
theorem aD1:AV.junk.isAgg=false:=rfl
theorem aI2:AV.junk.width=1:=rfl
theorem aEI:AV.junk.cE=true:=rfl
theorem aCX:AV.junk.cells= [AV.junk]:=rfl
theorem aG1:AV.junk.storable=false:=rfl
theorem aEC:AV.undef.isAgg=false:=rfl
theorem aJD:AV.undef.width=1:=rfl
theorem aET:AV.undef.cE=false:=rfl
theorem aC8:AV.undef.cells= [AV.undef]:=rfl
theorem aHB:AV.undef.storable=false:=rfl
theorem aD0{k:IntKind}{n:Int}:(AV.int k n).isAgg=false:=rfl
theorem aI1{k:IntKind}{n:Int}:(AV.int k n).width=1:=rfl
theorem aEH{k:IntKind}{n:Int}:(AV.int k n).cE=false:=rfl
theorem aCW{k:IntKind}{n:Int}:(AV.int k n).cells= [(AV.int k n)]:=rfl
theorem aG0{k:IntKind}{n:Int}:(AV.int k n).storable=true:=rfl
theorem aDX{b:Bool}:(AV.bool b).isAgg=false:=rfl
theorem aIY{b:Bool}:(AV.bool b).width=1:=rfl
theorem aEE{b:Bool}:(AV.bool b).cE=false:=rfl
theorem aCT{b:Bool}:(AV.bool b).cells= [(AV.bool b)]:=rfl
theorem aGX{b:Bool}:(AV.bool b).storable=true:=rfl
theorem aEA{s:ByteArray}:(AV.str s).isAgg=false:=rfl
theorem aJB{s:ByteArray}:(AV.str s).width=1:=rfl
theorem aER{s:ByteArray}:(AV.str s).cE=false:=rfl
theorem aC6{s:ByteArray}:(AV.str s).cells= [(AV.str s)]:=rfl
theorem aG9{s:ByteArray}:(AV.str s).storable=true:=rfl
theorem aEB{vs:List AV}:(AV.tup vs).isAgg=false:=rfl
theorem aJC{vs:List AV}:(AV.tup vs).width=1:=rfl
theorem aES{vs:List AV}:(AV.tup vs).cE=false:=rfl
theorem aC7{vs:List AV}:(AV.tup vs).cells= [(AV.tup vs)]:=rfl
theorem aHA{vs:List AV}:(AV.tup vs).storable=false:=rfl
theorem aD9{es:List AV}:(AV.slice es).isAgg=false:=rfl
theorem aJA{es:List AV}:(AV.slice es).width=1:=rfl
theorem aEQ{es:List AV}:(AV.slice es).cE=false:=rfl
theorem aC5{es:List AV}:(AV.slice es).cells= [(AV.slice es)]:=rfl
theorem aG8{es:List AV}:(AV.slice es).storable=true:=rfl
theorem aDY{es:List AV}:(AV.fslice es).isAgg=false:=rfl
theorem aIZ{es:List AV}:(AV.fslice es).width=1:=rfl
theorem aEF{es:List AV}:(AV.fslice es).cE=false:=rfl
theorem aCU{es:List AV}:(AV.fslice es).cells= [(AV.fslice es)]:=rfl
theorem aGY{es:List AV}:(AV.fslice es).storable=true:=rfl
theorem aD3{b:Nat}{o:Nat}{l:Nat}{m:Nat}:(AV.mslice b o l m).isAgg=false:=rfl
theorem aI4{b:Nat}{o:Nat}{l:Nat}{m:Nat}:(AV.mslice b o l m).width=1:=rfl
theorem aEK{b:Nat}{o:Nat}{l:Nat}{m:Nat}:(AV.mslice b o l m).cE=false:=rfl
theorem aCZ{b:Nat}{o:Nat}{l:Nat}{m:Nat}:(AV.mslice b o l m).cells= [(AV.mslice b o l m)]:=rfl
theorem aG3{b:Nat}{o:Nat}{l:Nat}{m:Nat}:(AV.mslice b o l m).storable=true:=rfl
theorem aD5:AV.nilptr.isAgg=false:=rfl
theorem aI6:AV.nilptr.width=1:=rfl
theorem aEM:AV.nilptr.cE=false:=rfl
theorem aC1:AV.nilptr.cells= [AV.nilptr]:=rfl
theorem aG5:AV.nilptr.storable=true:=rfl
theorem aD7{b:Nat}{o:Nat}:(AV.ptr b o).isAgg=false:=rfl
theorem aI8{b:Nat}{o:Nat}:(AV.ptr b o).width=1:=rfl
theorem aEO{b:Nat}{o:Nat}:(AV.ptr b o).cE=false:=rfl
theorem aC3{b:Nat}{o:Nat}:(AV.ptr b o).cells= [(AV.ptr b o)]:=rfl
theorem aG7{b:Nat}{o:Nat}:(AV.ptr b o).storable=true:=rfl
theorem aD6{e:AV}:(AV.pptr e).isAgg=false:=rfl
theorem aI7{e:AV}:(AV.pptr e).width=1:=rfl
theorem aEN{e:AV}:(AV.pptr e).cE=false:=rfl
theorem aC2{e:AV}:(AV.pptr e).cells= [(AV.pptr e)]:=rfl
theorem aG6{e:AV}:(AV.pptr e).storable=true:=rfl
theorem aD4:AV.nilmap.isAgg=false:=rfl
theorem aI5:AV.nilmap.width=1:=rfl
theorem aEL:AV.nilmap.cE=false:=rfl
theorem aC0:AV.nilmap.cells= [AV.nilmap]:=rfl
theorem aG4:AV.nilmap.storable=true:=rfl
theorem aD2{b:Nat}:(AV.map b).isAgg=false:=rfl
theorem aI3{b:Nat}:(AV.map b).width=1:=rfl
theorem aEJ{b:Nat}:(AV.map b).cE=false:=rfl
theorem aCY{b:Nat}:(AV.map b).cells= [(AV.map b)]:=rfl
theorem aG2{b:Nat}:(AV.map b).storable=true:=rfl
theorem aDZ{f:FuncId}{cs:List AV}:(AV.func f cs).isAgg=false:=rfl
theorem aI0{f:FuncId}{cs:List AV}:(AV.func f cs).width=1:=rfl
theorem aEG{f:FuncId}{cs:List AV}:(AV.func f cs).cE=false:=rfl
theorem aCV{f:FuncId}{cs:List AV}:(AV.func f cs).cells= [(AV.func f cs)]:=rfl
theorem aGZ{f:FuncId}{cs:List AV}:(AV.func f cs).storable=true:=rfl
theorem aD8{v:Value}:(AV.raw v).isAgg=false:=rfl
theorem aI9{v:Value}:(AV.raw v).width=1:=rfl
theorem aEP{v:Value}:(AV.raw v).cE=false:=rfl
theorem aC4{v:Value}:(AV.raw v).cells= [(AV.raw v)]:=rfl
theorem aDW{cs:List AV}:(AV.agg cs).isAgg=true:=rfl
theorem aIX{cs:List AV}:(AV.agg cs).width=cs.length:=rfl
theorem aED{cs:List AV}:(AV.agg cs).cE=false:=rfl
theorem aCS{cs:List AV}:(AV.agg cs).cells=cs:=rfl
theorem aCQ:((0:Nat):Int)=0:=rfl
theorem aCR{n:Nat}:((n+1:Nat):Int)=(n:Int)+1:=rfl
theorem uV{st:aB}{b x:Nat}{o:AO}:(st.aC b o) x=if x=b then some o else st x:=rfl
theorem wrap64{n:Int}(h1: -9223372036854775808≤n)(h2:n≤9223372036854775807):IntKind.wrap .i64 n=n:=by
 rw[IntKind.wrap_i64];omega
end Go.AW
