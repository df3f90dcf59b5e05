/- Smaller stores, frozen slices, sizes, frames as lists, regions that draw. -/
import Derived.Test.YtieofkhcboolkaaGreatDoorVad
set_option linter.unusedSimpArgs false
set_option linter.unusedVariables false
set_option maxRecDepth 100000
namespace Go.AW
def aL(st st':aB):Prop:=∀b,(st b=none→st' b=none)∧∀o,st' b=some o→st b=some o
theorem aL.refl(st:aB):aL st st:=fun _=>⟨id,fun _=>id⟩
theorem aL.trans{a b c:aB}(x:aL a b)(y:aL b c):aL a c:=fun i=>⟨fun h=>(y i).1 ((x i).1 h),fun o h=>(x i).2 o ((y i).2 o h)⟩
theorem aL.aC{st st':aB}(x:aL st st'){b:Nat}{o:AO}(h:st' b=none):aL (st.aC b o) st':=fun i=>by
 simp only[aB.aC]
 split
 · rename_i e;subst e;exact⟨fun _=>h,fun o' h'=>by rw[h] at h';cases h'⟩
 · exact x i
theorem kI(st:aB)(b:Nat):aL st (st.erase b):=fun i=>by
 simp only[aB.erase]
 split
 · exact⟨fun _=>rfl,fun o' h'=>by cases h'⟩
 · exact⟨id,fun _=>id⟩
theorem aL.step{st st':aB}(x:aL st st')(h:bJ):bX h st h st':=⟨cU _,fun b _ e=>⟨rfl,(x b).1 e⟩,fun _ c _ _ e=>⟨c,e,rfl⟩⟩
theorem aL.JI{st st':aB}(x:aL st st'){h:bJ}(S:cS h st):cS h st':=fun b o e=>by
 obtain⟨h1,h2⟩:=S b o ((x b).2 o e)
 refine⟨h1,?_⟩
 cases o with
 | cells as=>
  obtain⟨c,t,e1,e2,vs,e3,e4⟩:=h2
  exact⟨c,t,e1,e2,vs,e3,a8.mono (x.step h) _ _ e4⟩
 | map f=>
  obtain⟨es,clock,e1,e2,e3,e4⟩:=h2
  refine⟨es,clock,e1,e2,e3,fun n=>?_⟩
  have:=e4 n
  cases hf:f n with
  | none=>rw[hf] at this;exact this
  | some a=>
   rw[hf] at this
   obtain⟨e,m,k,v⟩:=this
   exact⟨e,m,k,v.mono (x.step h)⟩
 | tab cs=>exact h2
theorem aL.u9{st st':aB}(x:aL st st'):PZ st st':=fun h S=>⟨x.JI S,x.step h⟩
theorem aL.l7{st st':aB}(x:aL st st')(r:AV):PY st r st' r:=fun h _ _ y=>y.mono (x.step h)
theorem aD.drop{P:Program}{g:FuncId}{args:List AV}{st:aB}{Q:AV→Prop}(x:aD P g args st (fun r st'=>aL st' st∧Q r)):aD P g args st (fun r st'=>Q r∧st'=st):=
 x.l7 fun r st' ⟨h1,h2⟩=>⟨r,st,h1.u9,h1.l7 r,h2,rfl⟩
mutual
def AV.fz(b:Nat)(es:List AV):AV→AV
 | .mslice b' 0 n sz=>if b'=b∧n=es.length then .slice es else .mslice b' 0 n sz
 | .agg cs=>.agg (kU b es cs)
 | .tup vs=>.tup (kU b es vs)
 | a=>a
def kU(b:Nat)(es:List AV):List AV→List AV
 | []=>[]
 | a::as=>AV.fz b es a::kU b es as
end
theorem aLW(b:Nat)(es:List AV)(a:AV):(a.fz b es).isAgg=a.isAgg:=by
 cases a<;>try rfl
 case mslice b' off n sz=>
  cases off with
  | zero=>simp only[AV.fz];split<;>rfl
  | succ k=>rfl
section
variable {h:bJ} {st:aB} {b:Nat} {es:List AV}
theorem frozen(S:cS h st)(hb:st b=some (.cells (es.flatMap AV.cells)))(hj:∀e∈es,e.cD=false):b<h.size∧dA h (st.erase b) b 0 es:=by
 obtain⟨h1,c,t,e1,e2,vs,e3,e4⟩:=S b _ hb
 exact⟨h1,dA.mono ((kI st b).step h) b rfl _ _ (KU hj e3 e4)⟩
theorem VC.a3H{b' off n sz:Nat}{cs:List Value}(S:cS h st)(hb:st b=some (.cells (es.flatMap AV.cells)))(hj:∀e∈es,e.cD=false)(hE:iT es)(x:VC h st (.mslice b' off n sz) cs):VC h (st.erase b) ((AV.mslice b' off n sz).fz b es) cs:=by
 have x0:VC h (st.erase b) (.mslice b' off n sz) cs:=VC.mono ((kI st b).step h) _ _ x
 cases off with
 | succ k=>exact x0
 | zero=>
  simp only[AV.fz]
  split
  · rename_i e
    obtain⟨rfl,rfl⟩:=e
    simp only[VC] at x
    obtain⟨cap,e1,l1,l2,c,t,_,_⟩:=x
    obtain⟨hs,hE'⟩:=frozen S hb hj
    unfold VC
    exact .inr ⟨b',0,cap,e1,l1,l2,aB.aBK _ _,hs,hE,hE'⟩
  · exact x0
mutual
theorem VC.fz(S:cS h st)(hb:st b=some (.cells (es.flatMap AV.cells)))(hj:∀e∈es,e.cD=false)(hE:iT es):∀(a:AV) (cs:List Value),VC h st a cs→VC h (st.erase b) (a.fz b es) cs
 | .mslice b' off n sz,cs,x=>VC.a3H S hb hj hE x
 | .agg as,cs,x=>by simp only[VC,AV.fz] at x ⊢;exact a8.fz S hb hj hE as cs x
 | .tup as,cs,x=>by
  simp only[VC,AV.fz] at x ⊢
  obtain⟨vs,e,r⟩:=x
  exact⟨vs,e,dP.fz S hb hj hE as vs r⟩
 | .junk,cs,x=>VC.mono ((kI st b).step h) _ _ x
 | .undef,cs,x=>VC.mono ((kI st b).step h) _ _ x
 | .int _ _,cs,x=>VC.mono ((kI st b).step h) _ _ x
 | .bool _,cs,x=>VC.mono ((kI st b).step h) _ _ x
 | .str _,cs,x=>VC.mono ((kI st b).step h) _ _ x
 | .slice _,cs,x=>VC.mono ((kI st b).step h) _ _ x
 | .fslice _,cs,x=>VC.mono ((kI st b).step h) _ _ x
 | .nilptr,cs,x=>VC.mono ((kI st b).step h) _ _ x
 | .ptr _ _,cs,x=>VC.mono ((kI st b).step h) _ _ x
 | .pptr _,cs,x=>VC.mono ((kI st b).step h) _ _ x
 | .nilmap,cs,x=>VC.mono ((kI st b).step h) _ _ x
 | .map _,cs,x=>VC.mono ((kI st b).step h) _ _ x
 | .func _ _,cs,x=>VC.mono ((kI st b).step h) _ _ x
 | .raw _,cs,x=>VC.mono ((kI st b).step h) _ _ x
 | .eslice,cs,x=>VC.mono ((kI st b).step h) _ _ x
theorem a8.fz(S:cS h st)(hb:st b=some (.cells (es.flatMap AV.cells)))(hj:∀e∈es,e.cD=false)(hE:iT es):∀(as:List AV) (cs:List Value),a8 h st as cs→a8 h (st.erase b) (kU b es as) cs
 | [],_,x=>x
 | a::as,cs,x=>by
  simp only[a8,kU] at x ⊢
  obtain⟨c,r,e,x1,x2⟩:=x
  exact⟨c,r,e,VC.fz S hb hj hE a [c] x1,a8.fz S hb hj hE as r x2⟩
theorem dP.fz(S:cS h st)(hb:st b=some (.cells (es.flatMap AV.cells)))(hj:∀e∈es,e.cD=false)(hE:iT es):∀(as:List AV) (cs:List Value),dP h st as cs→dP h (st.erase b) (kU b es as) cs
 | [],_,x=>x
 | a::as,cs,x=>by
  simp only[dP,kU] at x ⊢
  obtain⟨v,r,e,x1,x2⟩:=x
  exact⟨v,r,e,⟨(aLW b es a).trans x1.1,VC.fz S hb hj hE a _ x1.2⟩,dP.fz S hb hj hE as r x2⟩
end
theorem aQ.fz{a:AV}{v:Value}(S:cS h st)(hb:st b=some (.cells (es.flatMap AV.cells)))(hj:∀e∈es,e.cD=false)(hE:iT es)(x:aQ h st a v):aQ h (st.erase b) (a.fz b es) v:=by
 have key:a.isAgg=j8 v∧VC h st a v.cells.toList→aQ h (st.erase b) (a.fz b es) v:=fun x=>by
  have y:(a.fz b es).isAgg=j8 v∧VC h (st.erase b) (a.fz b es) v.cells.toList:=⟨(aLW b es a).trans x.1,VC.fz S hb hj hE a _ x.2⟩
  cases hq:a.fz b es<;>rw[hq] at y<;>first | trivial | exact y
 cases a<;>first | trivial | exact key x
end
theorem aD.freeze{P:Program}{g:FuncId}{args:List AV}{st:aB}{Q:AV→aB→Prop}
 (x:aD P g args st (fun r st'=>∃b es,st' b=some (.cells (es.flatMap AV.cells))∧(∀e∈es,e.cD=false)∧iT es∧Q (r.fz b es) (st'.erase b))):aD P g args st Q:=
 x.l7 fun r st' ⟨b,es,h1,h2,h3,h4⟩=>⟨r.fz b es,st'.erase b,(kI st' b).u9,fun _ _ S y=>y.fz S h1 h2 h3,h4⟩
theorem fY.freeze{φ:AF}{st:aB}{b:Nat}{es:List AV}(h1:st b=some (.cells (es.flatMap AV.cells)))(h2:∀e∈es,e.cD=false)(h3:iT es):fY φ st (fun d=>(φ d).fz b es) (st.erase b):=
 fun h _ S F=>⟨(kI st b).JI S,(kI st b).step h,fun d=>(F d).fz S h1 h2 h3⟩
theorem fY.drop{φ:AF}{st st':aB}(x:aL st st'):fY φ st φ st':=fun h _ S F=>⟨x.JI S,x.step h,fun d=>(F d).mono (x.step h)⟩
mutual
def AV.soft:AV→AV
 | .fslice es=>.slice es
 | .agg cs=>.agg (iQ cs)
 | .tup vs=>.tup (iQ vs)
 | a=>a
def iQ:List AV→List AV
 | []=>[]
 | a::as=>a.soft::iQ as
end
theorem bAH(a:AV):a.soft.isAgg=a.isAgg:=by cases a<;>rfl
section
variable {h:bJ} {st:aB}
mutual
theorem VC.soft:∀(a:AV) (cs:List Value),VC h st a cs→VC h st a.soft cs
 | .fslice es,cs,x=>by
  simp only[AV.soft]
  unfold VC at x ⊢
  rcases x with x | ⟨b,off,e,l,r⟩
  · exact .inl x
  · exact .inr ⟨b,off,es.length,e,cU _,l,r⟩
 | .agg as,cs,x=>by simp only[VC,AV.soft] at x ⊢;exact a8.soft as cs x
 | .tup as,cs,x=>by
  simp only[VC,AV.soft] at x ⊢
  obtain⟨vs,e,r⟩:=x
  exact⟨vs,e,dP.soft as vs r⟩
 | .mslice _ _ _ _,cs,x=>x
 | .junk,cs,x=>x
 | .undef,cs,x=>x
 | .int _ _,cs,x=>x
 | .bool _,cs,x=>x
 | .str _,cs,x=>x
 | .slice _,cs,x=>x
 | .nilptr,cs,x=>x
 | .ptr _ _,cs,x=>x
 | .pptr _,cs,x=>x
 | .nilmap,cs,x=>x
 | .map _,cs,x=>x
 | .func _ _,cs,x=>x
 | .raw _,cs,x=>x
 | .eslice,cs,x=>x
theorem a8.soft:∀(as:List AV) (cs:List Value),a8 h st as cs→a8 h st (iQ as) cs
 | [],_,x=>x
 | a::as,cs,x=>by
  simp only[a8,iQ] at x ⊢
  obtain⟨c,r,e,x1,x2⟩:=x
  exact⟨c,r,e,VC.soft a [c] x1,a8.soft as r x2⟩
theorem dP.soft:∀(as:List AV) (cs:List Value),dP h st as cs→dP h st (iQ as) cs
 | [],_,x=>x
 | a::as,cs,x=>by
  simp only[dP,iQ] at x ⊢
  obtain⟨v,r,e,x1,x2⟩:=x
  exact⟨v,r,e,⟨(bAH a).trans x1.1,VC.soft a _ x1.2⟩,dP.soft as r x2⟩
end
theorem aQ.soft{a:AV}{v:Value}(x:aQ h st a v):aQ h st a.soft v:=by
 cases a
 case fslice=>exact x.H6
 case agg=>exact⟨x.1,VC.soft _ _ x.2⟩
 case tup=>exact⟨x.1,VC.soft _ _ x.2⟩
 all_goals exact x
end
theorem aD.soft{P:Program}{g:FuncId}{args:List AV}{st:aB}{Q:AV→aB→Prop}(x:aD P g args st (fun r st'=>Q r.soft st')):aD P g args st Q:=
 x.l7 fun r st' h=>⟨r.soft,st',(aL.refl st').u9,fun _ _ _ y=>y.soft,h⟩
theorem aD.rT{P:Program}{g:FuncId}{args:List AV}{st:aB}{Q:AV→aB→Prop}(x:aD P g (iQ args) st Q):aD P g args st Q:=
 x.args fun hp=>by
  have:∀(as:List AV) (vs:List Value),dB hp st as vs→dB hp st (iQ as) vs:=by
   intro as
   induction as with
   | nil=>intro vs y;exact y
   | cons a as ih=>
    intro vs y
    simp only[dB,iQ] at y ⊢
    obtain⟨v,r,rfl,y1,y2⟩:=y
    exact⟨v,r,rfl,y1.soft,ih r y2⟩
  exact fun vs _=>this args vs
mutual
def AV.fits:AV→Prop
 | .str s=>s.size≤9223372036854775807
 | .agg cs=>eM cs
 | .tup vs=>eM vs
 | .slice es=>es.length≤9223372036854775807∧eM es
 | .fslice es=>es.length≤9223372036854775807∧eM es
 | .mslice _ _ n _=>n≤9223372036854775807
 | .pptr e=>e.fits
 | _=>True
def eM:List AV→Prop
 | []=>True
 | a::as=>a.fits∧eM as
end
section
variable {h:bJ} {st:aB}
mutual
theorem VC.fits:∀(a:AV) (cs:List Value),VC h st a cs→a.fits
 | .str s,cs,x=>by simp only[VC,maxLen] at x;exact x.2
 | .agg as,cs,x=>by simp only[VC,AV.fits] at x ⊢;exact a8.fits as cs x
 | .tup as,cs,x=>by
  simp only[VC,AV.fits] at x ⊢
  obtain⟨vs,e,r⟩:=x
  exact dP.fits as vs r
 | .slice es,cs,x=>by
  simp only[VC,AV.fits] at x ⊢
  rcases x with ⟨⟨p0,_⟩,rfl⟩ | ⟨b,off,cap,_,l1,l2,_,_,_,r⟩
  · exact⟨by simp,trivial⟩
  · exact⟨kQ l1 l2,dA.fits es off r⟩
 | .fslice es,cs,x=>by
  simp only[VC,AV.fits] at x ⊢
  rcases x with ⟨⟨p0,_⟩,rfl⟩ | ⟨b,off,_,l1,_,_,_,r⟩
  · exact⟨by simp,trivial⟩
  · exact⟨l1,dA.fits es off r⟩
 | .mslice _ _ n _,cs,x=>by
  simp only[VC,AV.fits] at x ⊢
  obtain⟨cap,_,l1,l2,_⟩:=x
  exact kQ l1 l2
 | .pptr e,cs,x=>by
  simp only[VC,AV.fits] at x ⊢
  obtain⟨b,off,_,_,_,vs,_,_,y⟩:=x
  exact VC.fits e vs y
 | .junk,cs,x=>trivial
 | .undef,cs,x=>trivial
 | .int _ _,cs,x=>trivial
 | .bool _,cs,x=>trivial
 | .nilptr,cs,x=>trivial
 | .ptr _ _,cs,x=>trivial
 | .nilmap,cs,x=>trivial
 | .map _,cs,x=>trivial
 | .func _ _,cs,x=>trivial
 | .raw _,cs,x=>trivial
 | .eslice,cs,x=>trivial
theorem a8.fits:∀(as:List AV) (cs:List Value),a8 h st as cs→eM as
 | [],_,x=>trivial
 | a::as,cs,x=>by
  simp only[a8] at x
  obtain⟨c,r,e,x1,x2⟩:=x
  exact⟨VC.fits a [c] x1,a8.fits as r x2⟩
theorem dP.fits:∀(as:List AV) (cs:List Value),dP h st as cs→eM as
 | [],_,x=>trivial
 | a::as,cs,x=>by
  simp only[dP] at x
  obtain⟨v,r,e,x1,x2⟩:=x
  exact⟨VC.fits a _ x1.2,dP.fits as r x2⟩
theorem dA.fits{b:Nat}:∀(as:List AV) (off:Nat),dA h st b off as→eM as
 | [],_,x=>trivial
 | a::as,off,x=>by
  simp only[dA] at x
  obtain⟨⟨cs,_,_,x3⟩,x4⟩:=x
  exact⟨VC.fits a cs x3,dA.fits as _ x4⟩
end
theorem aQ.fits{a:AV}{v:Value}(x:aQ h st a v):a.fits:=by
 cases a<;>first | trivial | exact VC.fits _ _ x.2
theorem dB.fits:∀ {as:List AV} {vs:List Value},dB h st as vs→eM as
 | [],_,_=>trivial
 | a::as,vs,x=>by
  simp only[dB] at x
  obtain⟨v,r,_,x1,x2⟩:=x
  exact⟨x1.fits,dB.fits x2⟩
end
theorem zw6{P:Program}{g:FuncId}{fn:Func}{c:Code}{args:List AV}{st:aB}{N:Nat}{rs:List ResultVar}{K:AV→aB→Prop}(mt:List Nat)(hf:P.funcs[g]?=some fn)(hN:fn.ntmps=N)(hr:fn.results=rs.toArray)(hb:fn.body=some c)(hn:(fn.name == "runtime.NumGoroutine")=false)
 (hok:codeOk N c=true) (rG:args.length≤N) (e:eM args→gG P N mt c (FQ P rs.toArray K) (sG 0 args) st):aD P g args st K:=by
 subst hN
 rw[←hr] at e
 exact⟨⟨fn,hf,by simp [hb],hn⟩,fun w vs S V=>(aTO mt hf hb hn hok rG (e V.fits)).2 w vs S V⟩
def kK:List (Nat×AV)→AF
 | []=>AF.bot
 | (d,v)::l=>(kK l).aC d v
def B0(φ:AF):List (Nat×AV)→Prop
 | []=>True
 | (d,v)::l=>φ d=v∧B0 φ l
theorem fY.kK{φ:AF}{st:aB}:∀ {l:List (Nat×AV)},B0 φ l→fY φ st (kK l) st
 | [],_=>fY.bot φ st
 | (d,v)::l,h=>(fY.kK h.2).aC h.1
theorem aFS{φ:AF}:B0 φ []=True:=rfl
theorem aFT{φ:AF}{d:Nat}{v:AV}{l:List (Nat×AV)}:B0 φ ((d,v)::l)=(φ d=v∧B0 φ l):=rfl
theorem aD.to{P:Program}{g:FuncId}{args:List AV}{st:aB}{r:AV}{K:AV→aB→Prop}(x:aD P g args st (fun r' st'=>r'=r∧st'=st))(h:K r st):aD P g args st K:=
 x.mono fun _ _ ⟨e1,e2⟩=>by rw[e1,e2];exact h
theorem y7{P:Program}{N:Nat}(mt:List Nat){c:Code}{Q:Exit→AF→aB→Prop}{φ:AF}{st:aB}(hok:codeOk N c=true)(e:gG P N mt c Q φ st):fK P N c Q φ st:=BE c Q φ st hok e
def xH(l:List (Nat×AV)):AF:=kK l
theorem aFM:xH []=AF.bot:=rfl
theorem aFL{d:Nat}{v:AV}{l:List (Nat×AV)}:xH ((d,v)::l)=(xH l).aC d v:=rfl
def aO(φ:AF)(st:aB)(l:List (Nat×AV))(st':aB):Prop:=fY φ st (kK l) st'
theorem aO.mk{φ:AF}{st:aB}{l:List (Nat×AV)}(h:B0 φ l):aO φ st l st:=fY.kK h
theorem aO.drop{φ:AF}{st st':aB}{l:List (Nat×AV)}(d:aL st st')(h:B0 φ l):aO φ st l st':=(fY.drop d).trans (fY.kK h)
theorem yJ{P:Program}{N:Nat}{c:Code}{Q:Exit→AF→aB→Prop}{φ:AF}{st:aB}{α:Type}(mt:List Nat)(inv:α→Prop)(fl:α→List (Nat×AV))(so:α→aB)(μ:α→Nat)(hok:codeOk N c=true)
 (h0:∃s,inv s∧aO φ st (fl s) (so s))
 (h1:∀s,inv s→gG P N mt c (qH (fun φ' st'=>∃s',μ s'<μ s∧inv s'∧aO φ' st' (fl s') (so s')) Q) (xH (fl s)) (so s)):fK P N (.loop c) Q φ st:=
 QH inv (fun s=>kK (fl s)) so μ h0 fun s hs=>y7 mt hok (h1 s hs)
theorem cT{P:Program}{mt:List Nat}{ops:Array Oper}{o:Oper}{l:List Oper}{K:AF→aB→Prop}{φ:AF}{st:aB}{c want:Bool}
 (h1:c=want→xV P mt ops o l K φ st (some true)) (h2:c=(!want)→xV P mt ops o l K φ st (some false)):xV P mt ops o l K φ st (some (c == want)):=by
 cases c<;>cases want<;>first | exact h1 rfl | exact h2 rfl
def kX(o:Oper):Bool:=match o.op with
 | .call { callee:=.value _,.. }=>false
 | .call { callee:=.builtin .append,.. }=>false
 | .call { callee:=.builtin .delete,.. }=>false
 | .call { callee:=.builtin .clear,.. }=>false
 | .alloc _=>false
 | .store _ _ _=>false
 | .makeMap _ none=>false
 | .makeSlice _ _ _=>false
 | .mapUpdate _ _ _ _=>false
 | _=>true
theorem tU{P:Program}{φ:AF}{st:aB}{o:Oper}{K:AV→aB→Prop}(h:kX o=true):fD P [] φ st o K=match lQ P φ st o with | some r=>K r st | none=>False:=by
 obtain⟨dst,op,type,pos,after,guard⟩:=o
 unfold fD
 split
 case h_5 t x e=>
  simp only at e
  subst e
  simp only[DB,List.contains_nil,lQ]
  cases dst<;>rfl
 case h_11=>rfl
 all_goals (rename_i e;simp only at e;subst e;simp [kX] at h)
def eU(P:Program)(ops:Array Oper)(st:aB):List Oper→(AF→Prop)→AF→Prop
 | [],K,φ=>K φ
 | o::rest,K,φ=>if kX o=true then bD P [] ops [o] (fun φ' _=>eU P ops st rest K φ') φ st else
  match o.guard,o.op with
  | none,.call { callee:=.value f,args,.. }=>∃r,tW P (φ.eval f) (args.toList.map φ.eval) st (fun r' st'=>r'=r∧st'=st)∧eU P ops st rest K (φ.put o.dst r)
  | _,_=>False
theorem G8{P:Program}{ops:Array Oper}{st:aB}{K:AF→Prop}:∀(l:List Oper) (φ:AF),eU P ops st l K φ→qX P st ops l K φ
 | [],_,h=>h
 | o::rest,φ,h=>by
  simp only[eU] at h
  split at h
  · rename_i hp
    simp only[bD] at h
    simp only[qX]
    split at h
    · rename_i hg
      rw[tU hp] at h
      rw[hg]
      simp only
      split at h
      · rename_i r hr
        exact⟨r,by rw[tU hp,hr];exact⟨rfl,rfl⟩,G8 rest _ h⟩
      · cases h
    · rename_i hg
      rw[hg]
      exact G8 rest _ h
    · cases h
  · split at h
    · rename_i f args ats hg ho
      obtain⟨r,h1,h2⟩:=h
      simp only[qX,jQ,hg]
      refine⟨r,?_,G8 rest _ h2⟩
      simp only[fD,ho]
      exact h1
    · cases h
theorem aBO{P:Program}{ops:Array Oper}{st:aB}{K:AF→Prop}{φ:AF}:eU P ops st [] K φ=K φ:=rfl
def hK(P:Program)(ops:Array Oper)(st:aB)(rest:List Oper)(K:AF→Prop)(φ:AF)(_:aB):Prop:=eU P ops st rest K φ
theorem aFR{P:Program}{ops:Array Oper}{st st':aB}{K:AF→Prop}{φ:AF}{rest:List Oper}:hK P ops st rest K φ st'=eU P ops st rest K φ:=rfl
theorem lK{P:Program}{ops:Array Oper}{st:aB}{K:AF→Prop}{φ:AF}{o:Oper}{rest:List Oper}(h:kX o=true):eU P ops st (o::rest) K φ=bD P [] ops [o] (hK P ops st rest K) φ st:=by
 simp [eU,h]
 rfl
def zA(P:Program)(f:AV)(args:List AV)(st:aB)(K:AV→Prop):Prop:=∃r,tW P f args st (fun r' st'=>r'=r∧st'=st)∧K r
def ES(P:Program)(ops:Array Oper)(st:aB)(rest:List Oper)(K:AF→Prop)(φ:AF)(dst:Option Tmp)(r:AV):Prop:=eU P ops st rest K (φ.put dst r)
theorem aSM{P:Program}{ops:Array Oper}{st:aB}{K:AF→Prop}{φ:AF}{rest:List Oper}{dst:Option Tmp}{f:Operand}{args:List Operand}{ats:Array TypeId}{type:TypeId}{pos:String}{after:Array Edge} :
 eU P ops st (⟨dst,.call { callee:=.value f,args:=args.toArray,argTypes:=ats },type,pos,after,none⟩::rest) K φ=zA P (φ.eval f) (args.map φ.eval) st (ES P ops st rest K φ dst):=by
 simp [eU,kX,zA,ES]
section
variable {P:Program} {ops:Array Oper} {st:aB} {K:AF→Prop} {φ:AF} {rest:List Oper} {dst:Option Tmp} {type:TypeId} {pos:String} {after:Array Edge} {g:Option (Nat×Bool)}
theorem aCA{f:Operand}{args:List Operand}{ats:Array TypeId} :
 eU P ops st (⟨dst,.call { callee:=.value f,args:=args.toArray,argTypes:=ats },type,pos,after,none⟩::rest) K φ=zA P (φ.eval f) (args.map φ.eval) st (ES P ops st rest K φ dst):=aSM
theorem aBP{x:Operand}:eU P ops st (⟨dst,.move x,type,pos,after,g⟩::rest) K φ=bD P [] ops [⟨dst,.move x,type,pos,after,g⟩] (hK P ops st rest K) φ st:=lK rfl
theorem aB1{x:Operand}:eU P ops st (⟨dst,.assign x,type,pos,after,g⟩::rest) K φ=bD P [] ops [⟨dst,.assign x,type,pos,after,g⟩] (hK P ops st rest K) φ st:=lK rfl
theorem aB2{c x y:Operand}:eU P ops st (⟨dst,.pick c x y,type,pos,after,g⟩::rest) K φ=bD P [] ops [⟨dst,.pick c x y,type,pos,after,g⟩] (hK P ops st rest K) φ st:=lK rfl
theorem aB3{op:BinOp}{t t':TypeId}{x y:Operand}:eU P ops st (⟨dst,.binOp op t x y t',type,pos,after,g⟩::rest) K φ=bD P [] ops [⟨dst,.binOp op t x y t',type,pos,after,g⟩] (hK P ops st rest K) φ st:=lK rfl
theorem aB4{op:UnOp}{t:TypeId}{x:Operand}:eU P ops st (⟨dst,.unOp op t x,type,pos,after,g⟩::rest) K φ=bD P [] ops [⟨dst,.unOp op t x,type,pos,after,g⟩] (hK P ops st rest K) φ st:=lK rfl
theorem aB5{x:Operand}:eU P ops st (⟨dst,.nilCheck x,type,pos,after,g⟩::rest) K φ=bD P [] ops [⟨dst,.nilCheck x,type,pos,after,g⟩] (hK P ops st rest K) φ st:=lK rfl
theorem aB6{t f:Nat}{x:Operand}:eU P ops st (⟨dst,.fieldAddr t x f,type,pos,after,g⟩::rest) K φ=bD P [] ops [⟨dst,.fieldAddr t x f,type,pos,after,g⟩] (hK P ops st rest K) φ st:=lK rfl
theorem aB7{t:TypeId}{x:Operand}:eU P ops st (⟨dst,.load t x,type,pos,after,g⟩::rest) K φ=bD P [] ops [⟨dst,.load t x,type,pos,after,g⟩] (hK P ops st rest K) φ st:=lK rfl
theorem aB8{t f:Nat}{x:Operand}:eU P ops st (⟨dst,.field t x f,type,pos,after,g⟩::rest) K φ=bD P [] ops [⟨dst,.field t x f,type,pos,after,g⟩] (hK P ops st rest K) φ st:=lK rfl
theorem aBQ{t:TypeId}{x i:Operand}:eU P ops st (⟨dst,.indexAddr t x i,type,pos,after,g⟩::rest) K φ=bD P [] ops [⟨dst,.indexAddr t x i,type,pos,after,g⟩] (hK P ops st rest K) φ st:=lK rfl
theorem aBR{t:TypeId}{x i:Operand}:eU P ops st (⟨dst,.index t x i,type,pos,after,g⟩::rest) K φ=bD P [] ops [⟨dst,.index t x i,type,pos,after,g⟩] (hK P ops st rest K) φ st:=lK rfl
theorem aBS{t:TypeId}{x:Operand}{lo hi mx:Option Operand}:eU P ops st (⟨dst,.slice t x lo hi mx,type,pos,after,g⟩::rest) K φ=bD P [] ops [⟨dst,.slice t x lo hi mx,type,pos,after,g⟩] (hK P ops st rest K) φ st:=lK rfl
theorem aBT{x:Operand}{i:Nat}:eU P ops st (⟨dst,.extract x i,type,pos,after,g⟩::rest) K φ=bD P [] ops [⟨dst,.extract x i,type,pos,after,g⟩] (hK P ops st rest K) φ st:=lK rfl
theorem aBU{t:TypeId}{ps:Array (Nat×Operand)}:eU P ops st (⟨dst,.build t ps,type,pos,after,g⟩::rest) K φ=bD P [] ops [⟨dst,.build t ps,type,pos,after,g⟩] (hK P ops st rest K) φ st:=lK rfl
theorem aBV{t:TypeId}{n:Nat}{ps:Array (Nat×Operand)}:eU P ops st (⟨dst,.buildSlice t n ps,type,pos,after,g⟩::rest) K φ=bD P [] ops [⟨dst,.buildSlice t n ps,type,pos,after,g⟩] (hK P ops st rest K) φ st:=lK rfl
theorem aBW{t u:TypeId}{x:Operand}:eU P ops st (⟨dst,.convert t u x,type,pos,after,g⟩::rest) K φ=bD P [] ops [⟨dst,.convert t u x,type,pos,after,g⟩] (hK P ops st rest K) φ st:=lK rfl
theorem aBX{t:TypeId}{x i:Operand}{ok:Bool}:eU P ops st (⟨dst,.lookup t x i ok,type,pos,after,g⟩::rest) K φ=bD P [] ops [⟨dst,.lookup t x i ok,type,pos,after,g⟩] (hK P ops st rest K) φ st:=lK rfl
theorem aBY{x:Operand}{t:TypeId}:eU P ops st (⟨dst,.call { callee:=.builtin .len,args:=#[x],argTypes:=#[t] },type,pos,after,g⟩::rest) K φ=bD P [] ops [⟨dst,.call { callee:=.builtin .len,args:=#[x],argTypes:=#[t] },type,pos,after,g⟩] (hK P ops st rest K) φ st:=lK rfl
theorem aBZ{x y:Operand}{ts:Array TypeId}:eU P ops st (⟨dst,.call { callee:=.builtin .max,args:=#[x,y],argTypes:=ts },type,pos,after,g⟩::rest) K φ=bD P [] ops [⟨dst,.call { callee:=.builtin .max,args:=#[x,y],argTypes:=ts },type,pos,after,g⟩] (hK P ops st rest K) φ st:=lK rfl
theorem aB0{x y:Operand}{ts:Array TypeId}:eU P ops st (⟨dst,.call { callee:=.builtin .min,args:=#[x,y],argTypes:=ts },type,pos,after,g⟩::rest) K φ=bD P [] ops [⟨dst,.call { callee:=.builtin .min,args:=#[x,y],argTypes:=ts },type,pos,after,g⟩] (hK P ops st rest K) φ st:=lK rfl
end
theorem aB9{P:Program}{ops:Array Oper}{st:aB}{K:AF→Prop}{φ:AF}{rest:List Oper}{dst:Option Tmp}{r:AV}:ES P ops st rest K φ dst r=eU P ops st rest K (φ.put dst r):=rfl
theorem gP{P:Program}{g:FuncId}{args:List AV}{st:aB}{r:AV}{K:AV→Prop}(x:aD P g args st (fun r' st'=>r'=r∧st'=st))(h:K r):zA P (.func g []) args st K:=⟨r,by show aD P g (args++ []) st _;rw[gM];exact x,h⟩
@[congr] theorem bD3 {P:Program} {ops:Array Oper} {l:List Oper} {K:AF→Prop} {φ φ':AF} {st st':aB} (h1:φ=φ') (h2:st=st'):eU P ops st l K φ=eU P ops st' l K φ':=by rw[h1,h2]
@[congr] theorem bEA {P:Program} {f f':AV} {args args':List AV} {st st':aB} {K:AV→Prop} (h0:f=f') (h1:args=args') (h2:st=st'):zA P f args st K=zA P f' args' st' K:=by rw[h0,h1,h2]
@[congr] theorem bED {P:Program} {ops:Array Oper} {l:List Oper} {K:AF→Prop} {φ:AF} {st:aB} {dst:Option Tmp} {r r':AV} (h1:r=r'):ES P ops st l K φ dst r=ES P ops st l K φ dst r':=by rw[h1]
def S3(ops:Array Oper):Nat:=(ops.toList.findIdx fun o=> !kX o)
theorem aT9{P:Program}{st:aB}{N:Nat}{id:Nat}{ops:Array Oper}{Q:Exit→AF→aB→Prop}{φ:AF}(hm:P.follows .mixedOrders=true)(hok:qL N ops=true)(hB:Region.lexTailB .any ops (S3 ops)=true)
 (h:bD P [] ops ops.toList (Q .normal) φ st):fK P N (.region id ops true) Q φ st:=by
 refine aT7 (S3 ops) hm hok hB (G8 _ _ ?_)
 have key:∀(l1 l2:List Oper) (φ:AF),(∀o∈l1,kX o=true)→bD P [] ops (l1++l2) (Q .normal) φ st→eU P ops st l1 (fun φ'=>bD P [] ops l2 (Q .normal) φ' st) φ:=by
  intro l1
  induction l1 with
  | nil=>intro l2 φ _ h;exact h
  | cons o l1 ih=>
   intro l2 φ hp h
   have ho:=hp o (by simp)
   have hr:∀o∈l1,kX o=true:=fun o h=>hp o (by simp [h])
   simp only[eU,ho,eX,bD]
   simp only[gV,bD] at h
   split at h
   · rename_i hg
     rw[tU ho] at h
     rw[tU ho]
     split at h
     · rename_i hr2
       first | rw[hr2] | skip
       exact ih l2 _ hr h
     · cases h
   · exact ih l2 _ hr h
   · cases h
 refine key _ _ φ (fun o ho=>?_) (by rw[pT];exact h)
 obtain⟨i,hi,rfl⟩:=List.getElem_of_mem ho
 rw[c7] at hi
 have h2:=List.not_of_lt_findIdx (p:=fun o=> !kX o) (xs:=ops.toList) (i:=i) (by have:S3 ops=ops.toList.findIdx (fun o=> !kX o):=rfl;omega)
 simpa using h2
def DU(P:Program)(ops:Array Oper)(st:aB)(K:AF→aB→Prop):Nat→List Oper→AF→Prop
 | 0,l,φ=>bD P [] ops l K φ st
 | _+1,[],_=>False
 | n+1,o::rest,φ=>eU P ops st [o] (DU P ops st K n rest) φ
theorem aCC{P:Program}{ops:Array Oper}{st:aB}{K:AF→aB→Prop}{l:List Oper}{φ:AF}:DU P ops st K 0 l φ=bD P [] ops l K φ st:=rfl
theorem aCD{P:Program}{ops:Array Oper}{st:aB}{K:AF→aB→Prop}{n:Nat}{o:Oper}{l:List Oper}{φ:AF}:DU P ops st K (n+1) (o::l) φ=eU P ops st [o] (DU P ops st K n l) φ:=rfl
theorem aKE{P:Program}{mt:List Nat}{l:List Oper}{st:aB}{K:AF→aB→Prop}{φ:AF}:bD P mt l.toArray l.toArray.toList K φ st=bD P mt l.toArray l K φ st:=rfl
theorem aKF{P:Program}{l:List Oper}{st:aB}{K:AF→Prop}{φ:AF}:eU P l.toArray st l.toArray.toList K φ=eU P l.toArray st l K φ:=rfl
theorem aKG{P:Program}{n:Nat}{l:List Oper}{st:aB}{K:AF→aB→Prop}{φ:AF}:DU P l.toArray st K n l.toArray.toList φ=DU P l.toArray st K n l φ:=rfl
def aBI(Q:Exit→AF→aB→Prop)(st:aB)(φ:AF):Prop:=Q .normal φ st
theorem aFC{Q:Exit→AF→aB→Prop}{st:aB}{φ:AF}:aBI Q st φ=Q .normal φ st:=rfl
theorem D1{P:Program}{st:aB}{N:Nat}{id:Nat}{ops:Array Oper}{Q:Exit→AF→aB→Prop}{φ:AF}(hm:P.follows .mixedOrders=true)(hok:qL N ops=true)(hB:Region.lexB .any ops=true)
 (h:eU P ops st ops.toList (aBI Q st) φ):fK P N (.region id ops true) Q φ st:=
 aT8 hm hok hB (G8 _ _ h)
theorem aFZ:AV.junk.isAgg=false:=rfl
theorem aK0:AV.junk.width=1:=rfl
theorem aGG:AV.junk.cD=true:=rfl
theorem aEV:AV.junk.cells= [AV.junk]:=rfl
theorem aIZ:AV.junk.storable=false:=rfl
theorem aGA:AV.undef.isAgg=false:=rfl
theorem aLB:AV.undef.width=1:=rfl
theorem aGR:AV.undef.cD=false:=rfl
theorem aE6:AV.undef.cells= [AV.undef]:=rfl
theorem aI9:AV.undef.storable=false:=rfl
theorem aFY{k:IntKind}{n:Int}:(AV.int k n).isAgg=false:=rfl
theorem aKZ{k:IntKind}{n:Int}:(AV.int k n).width=1:=rfl
theorem aGF{k:IntKind}{n:Int}:(AV.int k n).cD=false:=rfl
theorem aEU{k:IntKind}{n:Int}:(AV.int k n).cells= [(AV.int k n)]:=rfl
theorem aIY{k:IntKind}{n:Int}:(AV.int k n).storable=true:=rfl
theorem aFV{b:Bool}:(AV.bool b).isAgg=false:=rfl
theorem aKW{b:Bool}:(AV.bool b).width=1:=rfl
theorem aGC{b:Bool}:(AV.bool b).cD=false:=rfl
theorem aER{b:Bool}:(AV.bool b).cells= [(AV.bool b)]:=rfl
theorem aIV{b:Bool}:(AV.bool b).storable=true:=rfl
theorem aF8{s:ByteArray}:(AV.str s).isAgg=false:=rfl
theorem aK9{s:ByteArray}:(AV.str s).width=1:=rfl
theorem aGP{s:ByteArray}:(AV.str s).cD=false:=rfl
theorem aE4{s:ByteArray}:(AV.str s).cells= [(AV.str s)]:=rfl
theorem aI7{s:ByteArray}:(AV.str s).storable=true:=rfl
theorem aF9{vs:List AV}:(AV.tup vs).isAgg=false:=rfl
theorem aLA{vs:List AV}:(AV.tup vs).width=1:=rfl
theorem aGQ{vs:List AV}:(AV.tup vs).cD=false:=rfl
theorem aE5{vs:List AV}:(AV.tup vs).cells= [(AV.tup vs)]:=rfl
theorem aI8{vs:List AV}:(AV.tup vs).storable=false:=rfl
theorem aF7{es:List AV}:(AV.slice es).isAgg=false:=rfl
theorem aK8{es:List AV}:(AV.slice es).width=1:=rfl
theorem aGO{es:List AV}:(AV.slice es).cD=false:=rfl
theorem aE3{es:List AV}:(AV.slice es).cells= [(AV.slice es)]:=rfl
theorem aI6{es:List AV}:(AV.slice es).storable=true:=rfl
theorem aFW{es:List AV}:(AV.fslice es).isAgg=false:=rfl
theorem aKX{es:List AV}:(AV.fslice es).width=1:=rfl
theorem aGD{es:List AV}:(AV.fslice es).cD=false:=rfl
theorem aES{es:List AV}:(AV.fslice es).cells= [(AV.fslice es)]:=rfl
theorem aIW{es:List AV}:(AV.fslice es).storable=true:=rfl
theorem aF1{b:Nat}{o:Nat}{l:Nat}{m:Nat}:(AV.mslice b o l m).isAgg=false:=rfl
theorem aK2{b:Nat}{o:Nat}{l:Nat}{m:Nat}:(AV.mslice b o l m).width=1:=rfl
theorem aGI{b:Nat}{o:Nat}{l:Nat}{m:Nat}:(AV.mslice b o l m).cD=false:=rfl
theorem aEX{b:Nat}{o:Nat}{l:Nat}{m:Nat}:(AV.mslice b o l m).cells= [(AV.mslice b o l m)]:=rfl
theorem aI1{b:Nat}{o:Nat}{l:Nat}{m:Nat}:(AV.mslice b o l m).storable=true:=rfl
theorem aF3:AV.nilptr.isAgg=false:=rfl
theorem aK4:AV.nilptr.width=1:=rfl
theorem aGK:AV.nilptr.cD=false:=rfl
theorem aEZ:AV.nilptr.cells= [AV.nilptr]:=rfl
theorem aI3:AV.nilptr.storable=true:=rfl
theorem aF5{b:Nat}{o:Nat}:(AV.ptr b o).isAgg=false:=rfl
theorem aK6{b:Nat}{o:Nat}:(AV.ptr b o).width=1:=rfl
theorem aGM{b:Nat}{o:Nat}:(AV.ptr b o).cD=false:=rfl
theorem aE1{b:Nat}{o:Nat}:(AV.ptr b o).cells= [(AV.ptr b o)]:=rfl
theorem aI5{b:Nat}{o:Nat}:(AV.ptr b o).storable=true:=rfl
theorem aF4{e:AV}:(AV.pptr e).isAgg=false:=rfl
theorem aK5{e:AV}:(AV.pptr e).width=1:=rfl
theorem aGL{e:AV}:(AV.pptr e).cD=false:=rfl
theorem aE0{e:AV}:(AV.pptr e).cells= [(AV.pptr e)]:=rfl
theorem aI4{e:AV}:(AV.pptr e).storable=true:=rfl
theorem aF2:AV.nilmap.isAgg=false:=rfl
theorem aK3:AV.nilmap.width=1:=rfl
theorem aGJ:AV.nilmap.cD=false:=rfl
theorem aEY:AV.nilmap.cells= [AV.nilmap]:=rfl
theorem aI2:AV.nilmap.storable=true:=rfl
theorem aF0{b:Nat}:(AV.map b).isAgg=false:=rfl
theorem aK1{b:Nat}:(AV.map b).width=1:=rfl
theorem aGH{b:Nat}:(AV.map b).cD=false:=rfl
theorem aEW{b:Nat}:(AV.map b).cells= [(AV.map b)]:=rfl
theorem aI0{b:Nat}:(AV.map b).storable=true:=rfl
theorem aFX{f:FuncId}{cs:List AV}:(AV.func f cs).isAgg=false:=rfl
theorem aKY{f:FuncId}{cs:List AV}:(AV.func f cs).width=1:=rfl
theorem aGE{f:FuncId}{cs:List AV}:(AV.func f cs).cD=false:=rfl
theorem aET{f:FuncId}{cs:List AV}:(AV.func f cs).cells= [(AV.func f cs)]:=rfl
theorem aIX{f:FuncId}{cs:List AV}:(AV.func f cs).storable=true:=rfl
theorem aF6{v:Value}:(AV.raw v).isAgg=false:=rfl
theorem aK7{v:Value}:(AV.raw v).width=1:=rfl
theorem aGN{v:Value}:(AV.raw v).cD=false:=rfl
theorem aE2{v:Value}:(AV.raw v).cells= [(AV.raw v)]:=rfl
theorem aFU{cs:List AV}:(AV.agg cs).isAgg=true:=rfl
theorem aKV{cs:List AV}:(AV.agg cs).width=cs.length:=rfl
theorem aGB{cs:List AV}:(AV.agg cs).cD=false:=rfl
theorem aEQ{cs:List AV}:(AV.agg cs).cells=cs:=rfl
theorem aEO:((0:Nat):Int)=0:=rfl
theorem aEP{n:Nat}:((n+1:Nat):Int)=(n:Int)+1:=rfl
theorem mS{st:aB}{b x:Nat}{o:AO}:(st.aC b o) x=if x=b then some o else st x:=rfl
theorem wrap64{n:Int}(h1: -9223372036854775808≤n)(h2:n≤9223372036854775807):IntKind.wrap .i64 n=n:=by
 rw[IntKind.wrap_i64];omega
end Go.AW
