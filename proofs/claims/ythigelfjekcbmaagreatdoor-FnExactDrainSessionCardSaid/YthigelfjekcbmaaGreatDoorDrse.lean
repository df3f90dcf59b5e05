/- Smaller stores, frozen slices, sizes, frames as lists, regions that draw. -/
import Derived.Test.YthigelfjekcbmaaGreatDoorDrsd
set_option linter.unusedSimpArgs false
set_option linter.unusedVariables false
set_option maxRecDepth 100000
namespace Go.AW
def aL(st st':aA):Prop:=∀b,(st b=none→st' b=none)∧∀o,st' b=some o→st b=some o
theorem aL.refl(st:aA):aL st st:=fun _=>⟨id,fun _=>id⟩
theorem aL.trans{a b c:aA}(x:aL a b)(y:aL b c):aL a c:=fun i=>⟨fun h=>(y i).1 ((x i).1 h),fun o h=>(x i).2 o ((y i).2 o h)⟩
theorem aL.aC{st st':aA}(x:aL st st'){b:Nat}{o:AO}(h:st' b=none):aL (st.aC b o) st':=fun i=>by
 simp only[aA.aC]
 split
 · rename_i e;subst e;exact⟨fun _=>h,fun o' h'=>by rw[h] at h';cases h'⟩
 · exact x i
theorem iZ(st:aA)(b:Nat):aL st (st.erase b):=fun i=>by
 simp only[aA.erase]
 split
 · exact⟨fun _=>rfl,fun o' h'=>by cases h'⟩
 · exact⟨id,fun _=>id⟩
theorem aL.step{st st':aA}(x:aL st st')(h:bB):bT h st h st':=⟨cQ _,fun b _ e=>⟨rfl,(x b).1 e⟩,fun _ c _ _ e=>⟨c,e,rfl⟩⟩
theorem aL.FG{st st':aA}(x:aL st st'){h:bB}(S:cJ h st):cJ h st':=fun b o e=>by
 obtain⟨h1,h2⟩:=S b o ((x b).2 o e)
 refine⟨h1,?_⟩
 cases o with
 | cells as=>
  obtain⟨c,t,e1,e2,vs,e3,e4⟩:=h2
  exact⟨c,t,e1,e2,vs,e3,aW.mono (x.step h) _ _ e4⟩
 | map f=>
  obtain⟨es,clock,e1,e2,e3,e4⟩:=h2
  refine⟨es,clock,e1,e2,e3,fun n=>?_⟩
  have:=e4 n
  cases hf:f n with
  | none=>rw[hf] at this;exact this
  | some a=>
   rw[hf] at this
   obtain⟨e,m,k,v⟩:=this
   exact⟨e,m,k,v.mono (x.step h)⟩
theorem aL.uZ{st st':aA}(x:aL st st'):K7 st st':=fun h S=>⟨x.FG S,x.step h⟩
theorem aL.mI{st st':aA}(x:aL st st')(r:AV):K6 st r st' r:=fun h _ _ y=>y.mono (x.step h)
theorem aD.drop{P:Program}{g:FuncId}{args:List AV}{st:aA}{Q:AV→Prop}(x:aD P g args st (fun r st'=>aL st' st∧Q r)):aD P g args st (fun r st'=>Q r∧st'=st):=
 x.mI fun r st' ⟨h1,h2⟩=>⟨r,st,h1.uZ,h1.mI r,h2,rfl⟩
mutual
def AV.fz(b:Nat)(es:List AV):AV→AV
 | .mslice b' 0 n sz=>if b'=b∧n=es.length then .slice es else .mslice b' 0 n sz
 | .agg cs=>.agg (jH b es cs)
 | .tup vs=>.tup (jH b es vs)
 | a=>a
def jH(b:Nat)(es:List AV):List AV→List AV
 | []=>[]
 | a::as=>AV.fz b es a::jH b es as
end
theorem aFH(b:Nat)(es:List AV)(a:AV):(a.fz b es).isAgg=a.isAgg:=by
 cases a<;>try rfl
 case mslice b' off n sz=>
  cases off with
  | zero=>simp only[AV.fz];split<;>rfl
  | succ k=>rfl
section
variable {h:bB} {st:aA} {b:Nat} {es:List AV}
theorem frozen(S:cJ h st)(hb:st b=some (.cells (es.flatMap AV.cells)))(hj:∀e∈es,e.b9=false):b<h.size∧cX h (st.erase b) b 0 es:=by
 obtain⟨h1,c,t,e1,e2,vs,e3,e4⟩:=S b _ hb
 exact⟨h1,cX.mono ((iZ st b).step h) b rfl _ _ (GE hj e3 e4)⟩
theorem VC.aQY{b' off n sz:Nat}{cs:List Value}(S:cJ h st)(hb:st b=some (.cells (es.flatMap AV.cells)))(hj:∀e∈es,e.b9=false)(hE:jD es)(x:VC h st (.mslice b' off n sz) cs):VC h (st.erase b) ((AV.mslice b' off n sz).fz b es) cs:=by
 have x0:VC h (st.erase b) (.mslice b' off n sz) cs:=VC.mono ((iZ st b).step h) _ _ x
 cases off with
 | succ k=>exact x0
 | zero=>
  simp only[AV.fz]
  split
  · rename_i e
    obtain⟨rfl,rfl⟩:=e
    simp only[VC] at x
    obtain⟨cap,e1,l1,l2,c,t,_,_⟩:=x
    obtain⟨hs,hE'⟩:=frozen S hb hj
    unfold VC
    exact .inr ⟨b',0,cap,e1,l1,l2,aA.T8 _ _,hs,hE,hE'⟩
  · exact x0
mutual
theorem VC.fz(S:cJ h st)(hb:st b=some (.cells (es.flatMap AV.cells)))(hj:∀e∈es,e.b9=false)(hE:jD es):∀(a:AV) (cs:List Value),VC h st a cs→VC h (st.erase b) (a.fz b es) cs
 | .mslice b' off n sz,cs,x=>VC.aQY S hb hj hE x
 | .agg as,cs,x=>by simp only[VC,AV.fz] at x ⊢;exact aW.fz S hb hj hE as cs x
 | .tup as,cs,x=>by
  simp only[VC,AV.fz] at x ⊢
  obtain⟨vs,e,r⟩:=x
  exact⟨vs,e,dF.fz S hb hj hE as vs r⟩
 | .junk,cs,x=>VC.mono ((iZ st b).step h) _ _ x
 | .undef,cs,x=>VC.mono ((iZ st b).step h) _ _ x
 | .int _ _,cs,x=>VC.mono ((iZ st b).step h) _ _ x
 | .bool _,cs,x=>VC.mono ((iZ st b).step h) _ _ x
 | .str _,cs,x=>VC.mono ((iZ st b).step h) _ _ x
 | .slice _,cs,x=>VC.mono ((iZ st b).step h) _ _ x
 | .fslice _,cs,x=>VC.mono ((iZ st b).step h) _ _ x
 | .nilptr,cs,x=>VC.mono ((iZ st b).step h) _ _ x
 | .ptr _ _,cs,x=>VC.mono ((iZ st b).step h) _ _ x
 | .pptr _,cs,x=>VC.mono ((iZ st b).step h) _ _ x
 | .nilmap,cs,x=>VC.mono ((iZ st b).step h) _ _ x
 | .map _,cs,x=>VC.mono ((iZ st b).step h) _ _ x
 | .func _ _,cs,x=>VC.mono ((iZ st b).step h) _ _ x
 | .raw _,cs,x=>VC.mono ((iZ st b).step h) _ _ x
 | .eslice,cs,x=>VC.mono ((iZ st b).step h) _ _ x
theorem aW.fz(S:cJ h st)(hb:st b=some (.cells (es.flatMap AV.cells)))(hj:∀e∈es,e.b9=false)(hE:jD es):∀(as:List AV) (cs:List Value),aW h st as cs→aW h (st.erase b) (jH b es as) cs
 | [],_,x=>x
 | a::as,cs,x=>by
  simp only[aW,jH] at x ⊢
  obtain⟨c,r,e,x1,x2⟩:=x
  exact⟨c,r,e,VC.fz S hb hj hE a [c] x1,aW.fz S hb hj hE as r x2⟩
theorem dF.fz(S:cJ h st)(hb:st b=some (.cells (es.flatMap AV.cells)))(hj:∀e∈es,e.b9=false)(hE:jD es):∀(as:List AV) (cs:List Value),dF h st as cs→dF h (st.erase b) (jH b es as) cs
 | [],_,x=>x
 | a::as,cs,x=>by
  simp only[dF,jH] at x ⊢
  obtain⟨v,r,e,x1,x2⟩:=x
  exact⟨v,r,e,⟨(aFH b es a).trans x1.1,VC.fz S hb hj hE a _ x1.2⟩,dF.fz S hb hj hE as r x2⟩
end
theorem aO.fz{a:AV}{v:Value}(S:cJ h st)(hb:st b=some (.cells (es.flatMap AV.cells)))(hj:∀e∈es,e.b9=false)(hE:jD es)(x:aO h st a v):aO h (st.erase b) (a.fz b es) v:=by
 have key:a.isAgg=j9 v∧VC h st a v.cells.toList→aO h (st.erase b) (a.fz b es) v:=fun x=>by
  have y:(a.fz b es).isAgg=j9 v∧VC h (st.erase b) (a.fz b es) v.cells.toList:=⟨(aFH b es a).trans x.1,VC.fz S hb hj hE a _ x.2⟩
  cases hq:a.fz b es<;>rw[hq] at y<;>first | trivial | exact y
 cases a<;>first | trivial | exact key x
end
theorem fR.freeze{φ:AF}{st:aA}{b:Nat}{es:List AV}(h1:st b=some (.cells (es.flatMap AV.cells)))(h2:∀e∈es,e.b9=false)(h3:jD es):fR φ st (fun d=>(φ d).fz b es) (st.erase b):=
 fun h _ S F=>⟨(iZ st b).FG S,(iZ st b).step h,fun d=>(F d).fz S h1 h2 h3⟩
theorem fR.drop{φ:AF}{st st':aA}(x:aL st st'):fR φ st φ st':=fun h _ S F=>⟨x.FG S,x.step h,fun d=>(F d).mono (x.step h)⟩
mutual
def AV.soft:AV→AV
 | .fslice es=>.slice es
 | .agg cs=>.agg (nJ cs)
 | .tup vs=>.tup (nJ vs)
 | a=>a
def nJ:List AV→List AV
 | []=>[]
 | a::as=>a.soft::nJ as
end
theorem aV4(a:AV):a.soft.isAgg=a.isAgg:=by cases a<;>rfl
section
variable {h:bB} {st:aA}
mutual
theorem VC.soft:∀(a:AV) (cs:List Value),VC h st a cs→VC h st a.soft cs
 | .fslice es,cs,x=>by
  simp only[AV.soft]
  unfold VC at x ⊢
  rcases x with x | ⟨b,off,e,l,r⟩
  · exact .inl x
  · exact .inr ⟨b,off,es.length,e,cQ _,l,r⟩
 | .agg as,cs,x=>by simp only[VC,AV.soft] at x ⊢;exact aW.soft as cs x
 | .tup as,cs,x=>by
  simp only[VC,AV.soft] at x ⊢
  obtain⟨vs,e,r⟩:=x
  exact⟨vs,e,dF.soft as vs r⟩
 | .mslice _ _ _ _,cs,x=>x
 | .junk,cs,x=>x
 | .undef,cs,x=>x
 | .int _ _,cs,x=>x
 | .bool _,cs,x=>x
 | .str _,cs,x=>x
 | .slice _,cs,x=>x
 | .nilptr,cs,x=>x
 | .ptr _ _,cs,x=>x
 | .pptr _,cs,x=>x
 | .nilmap,cs,x=>x
 | .map _,cs,x=>x
 | .func _ _,cs,x=>x
 | .raw _,cs,x=>x
 | .eslice,cs,x=>x
theorem aW.soft:∀(as:List AV) (cs:List Value),aW h st as cs→aW h st (nJ as) cs
 | [],_,x=>x
 | a::as,cs,x=>by
  simp only[aW,nJ] at x ⊢
  obtain⟨c,r,e,x1,x2⟩:=x
  exact⟨c,r,e,VC.soft a [c] x1,aW.soft as r x2⟩
theorem dF.soft:∀(as:List AV) (cs:List Value),dF h st as cs→dF h st (nJ as) cs
 | [],_,x=>x
 | a::as,cs,x=>by
  simp only[dF,nJ] at x ⊢
  obtain⟨v,r,e,x1,x2⟩:=x
  exact⟨v,r,e,⟨(aV4 a).trans x1.1,VC.soft a _ x1.2⟩,dF.soft as r x2⟩
end
theorem aO.soft{a:AV}{v:Value}(x:aO h st a v):aO h st a.soft v:=by
 cases a
 case fslice=>exact x.D7
 case agg=>exact⟨x.1,VC.soft _ _ x.2⟩
 case tup=>exact⟨x.1,VC.soft _ _ x.2⟩
 all_goals exact x
end
theorem aD.soft{P:Program}{g:FuncId}{args:List AV}{st:aA}{Q:AV→aA→Prop}(x:aD P g args st (fun r st'=>Q r.soft st')):aD P g args st Q:=
 x.mI fun r st' h=>⟨r.soft,st',(aL.refl st').uZ,fun _ _ _ y=>y.soft,h⟩
theorem aD.FF{P:Program}{g:FuncId}{args:List AV}{st:aA}{Q:AV→aA→Prop}(x:aD P g (nJ args) st Q):aD P g args st Q:=
 x.args fun hp=>by
  have:∀(as:List AV) (vs:List Value),cO hp st as vs→cO hp st (nJ as) vs:=by
   intro as
   induction as with
   | nil=>intro vs y;exact y
   | cons a as ih=>
    intro vs y
    simp only[cO,nJ] at y ⊢
    obtain⟨v,r,rfl,y1,y2⟩:=y
    exact⟨v,r,rfl,y1.soft,ih r y2⟩
  exact fun vs _=>this args vs
mutual
def AV.fits:AV→Prop
 | .str s=>s.size≤9223372036854775807
 | .agg cs=>dK cs
 | .tup vs=>dK vs
 | .slice es=>es.length≤9223372036854775807∧dK es
 | .fslice es=>es.length≤9223372036854775807∧dK es
 | .mslice _ _ n _=>n≤9223372036854775807
 | .pptr e=>e.fits
 | _=>True
def dK:List AV→Prop
 | []=>True
 | a::as=>a.fits∧dK as
end
section
variable {h:bB} {st:aA}
mutual
theorem VC.fits:∀(a:AV) (cs:List Value),VC h st a cs→a.fits
 | .str s,cs,x=>by simp only[VC,maxLen] at x;exact x.2
 | .agg as,cs,x=>by simp only[VC,AV.fits] at x ⊢;exact aW.fits as cs x
 | .tup as,cs,x=>by
  simp only[VC,AV.fits] at x ⊢
  obtain⟨vs,e,r⟩:=x
  exact dF.fits as vs r
 | .slice es,cs,x=>by
  simp only[VC,AV.fits] at x ⊢
  rcases x with ⟨⟨p0,_⟩,rfl⟩ | ⟨b,off,cap,_,l1,l2,_,_,_,r⟩
  · exact⟨by simp,trivial⟩
  · exact⟨w9 l1 l2,cX.fits es off r⟩
 | .fslice es,cs,x=>by
  simp only[VC,AV.fits] at x ⊢
  rcases x with ⟨⟨p0,_⟩,rfl⟩ | ⟨b,off,_,l1,_,_,_,r⟩
  · exact⟨by simp,trivial⟩
  · exact⟨l1,cX.fits es off r⟩
 | .mslice _ _ n _,cs,x=>by
  simp only[VC,AV.fits] at x ⊢
  obtain⟨cap,_,l1,l2,_⟩:=x
  exact w9 l1 l2
 | .pptr e,cs,x=>by
  simp only[VC,AV.fits] at x ⊢
  obtain⟨b,off,_,_,_,vs,_,_,y⟩:=x
  exact VC.fits e vs y
 | .junk,cs,x=>trivial
 | .undef,cs,x=>trivial
 | .int _ _,cs,x=>trivial
 | .bool _,cs,x=>trivial
 | .nilptr,cs,x=>trivial
 | .ptr _ _,cs,x=>trivial
 | .nilmap,cs,x=>trivial
 | .map _,cs,x=>trivial
 | .func _ _,cs,x=>trivial
 | .raw _,cs,x=>trivial
 | .eslice,cs,x=>trivial
theorem aW.fits:∀(as:List AV) (cs:List Value),aW h st as cs→dK as
 | [],_,x=>trivial
 | a::as,cs,x=>by
  simp only[aW] at x
  obtain⟨c,r,e,x1,x2⟩:=x
  exact⟨VC.fits a [c] x1,aW.fits as r x2⟩
theorem dF.fits:∀(as:List AV) (cs:List Value),dF h st as cs→dK as
 | [],_,x=>trivial
 | a::as,cs,x=>by
  simp only[dF] at x
  obtain⟨v,r,e,x1,x2⟩:=x
  exact⟨VC.fits a _ x1.2,dF.fits as r x2⟩
theorem cX.fits{b:Nat}:∀(as:List AV) (off:Nat),cX h st b off as→dK as
 | [],_,x=>trivial
 | a::as,off,x=>by
  simp only[cX] at x
  obtain⟨⟨cs,_,_,x3⟩,x4⟩:=x
  exact⟨VC.fits a cs x3,cX.fits as _ x4⟩
end
theorem aO.fits{a:AV}{v:Value}(x:aO h st a v):a.fits:=by
 cases a<;>first | trivial | exact VC.fits _ _ x.2
theorem cO.fits:∀ {as:List AV} {vs:List Value},cO h st as vs→dK as
 | [],_,_=>trivial
 | a::as,vs,x=>by
  simp only[cO] at x
  obtain⟨v,r,_,x1,x2⟩:=x
  exact⟨x1.fits,cO.fits x2⟩
end
theorem zw6{P:Program}{g:FuncId}{fn:Func}{c:Code}{args:List AV}{st:aA}{N:Nat}{rs:List ResultVar}{K:AV→aA→Prop}(mt:List Nat)(hf:P.funcs[g]?=some fn)(hN:fn.ntmps=N)(hr:fn.results=rs.toArray)(hb:fn.body=some c)(hn:(fn.name == "runtime.NumGoroutine")=false)
 (hok:codeOk N c=true) (xR:args.length≤N) (e:dK args→fO P N mt c (E8 P rs.toArray K) (sG 0 args) st):aD P g args st K:=by
 subst hN
 rw[←hr] at e
 exact⟨⟨fn,hf,by simp [hb],hn⟩,fun w vs S V=>(aLP mt hf hb hn hok xR (e V.fits)).2 w vs S V⟩
def jG:List (Nat×AV)→AF
 | []=>AF.bot
 | (d,v)::l=>(jG l).aC d v
def xS(φ:AF):List (Nat×AV)→Prop
 | []=>True
 | (d,v)::l=>φ d=v∧xS φ l
theorem fR.jG{φ:AF}{st:aA}:∀ {l:List (Nat×AV)},xS φ l→fR φ st (jG l) st
 | [],_=>fR.bot φ st
 | (d,v)::l,h=>(fR.jG h.2).aC h.1
theorem YR{φ:AF}:xS φ []=True:=rfl
theorem YS{φ:AF}{d:Nat}{v:AV}{l:List (Nat×AV)}:xS φ ((d,v)::l)=(φ d=v∧xS φ l):=rfl
theorem aD.to{P:Program}{g:FuncId}{args:List AV}{st:aA}{r:AV}{K:AV→aA→Prop}(x:aD P g args st (fun r' st'=>r'=r∧st'=st))(h:K r st):aD P g args st K:=
 x.mono fun _ _ ⟨e1,e2⟩=>by rw[e1,e2];exact h
theorem C6{P:Program}{N:Nat}(mt:List Nat){c:Code}{Q:Exit→AF→aA→Prop}{φ:AF}{st:aA}(hok:codeOk N c=true)(e:fO P N mt c Q φ st):fW P N c Q φ st:=xD c Q φ st hok e
def t9(l:List (Nat×AV)):AF:=jG l
theorem YL:t9 []=AF.bot:=rfl
theorem YK{d:Nat}{v:AV}{l:List (Nat×AV)}:t9 ((d,v)::l)=(t9 l).aC d v:=rfl
def aP(φ:AF)(st:aA)(l:List (Nat×AV))(st':aA):Prop:=fR φ st (jG l) st'
theorem aP.mk{φ:AF}{st:aA}{l:List (Nat×AV)}(h:xS φ l):aP φ st l st:=fR.jG h
theorem aP.drop{φ:AF}{st st':aA}{l:List (Nat×AV)}(d:aL st st')(h:xS φ l):aP φ st l st':=(fR.drop d).trans (fR.jG h)
theorem oI{P:Program}{N:Nat}{c:Code}{Q:Exit→AF→aA→Prop}{φ:AF}{st:aA}{α:Type}(mt:List Nat)(inv:α→Prop)(fl:α→List (Nat×AV))(so:α→aA)(μ:α→Nat)(hok:codeOk N c=true)
 (h0:∃s,inv s∧aP φ st (fl s) (so s))
 (h1:∀s,inv s→fO P N mt c (oA (fun φ' st'=>∃s',μ s'<μ s∧inv s'∧aP φ' st' (fl s') (so s')) Q) (t9 (fl s)) (so s)):fW P N (.loop c) Q φ st:=
 LR inv (fun s=>jG (fl s)) so μ h0 fun s hs=>C6 mt hok (h1 s hs)
theorem cT{P:Program}{mt:List Nat}{ops:Array Oper}{o:Oper}{l:List Oper}{K:AF→aA→Prop}{φ:AF}{st:aA}{c want:Bool}
 (h1:c=want→uM P mt ops o l K φ st (some true)) (h2:c=(!want)→uM P mt ops o l K φ st (some false)):uM P mt ops o l K φ st (some (c == want)):=by
 cases c<;>cases want<;>first | exact h1 rfl | exact h2 rfl
def jL(o:Oper):Bool:=match o.op with
 | .call { callee:=.value _,.. }=>false
 | .call { callee:=.builtin .append,.. }=>false
 | .call { callee:=.builtin .delete,.. }=>false
 | .alloc _=>false
 | .store _ _ _=>false
 | .makeMap _ none=>false
 | .makeSlice _ _ _=>false
 | .mapUpdate _ _ _ _=>false
 | _=>true
theorem q7{P:Program}{φ:AF}{st:aA}{o:Oper}{K:AV→aA→Prop}(h:jL o=true):eN P [] φ st o K=match kE P φ st o with | some r=>K r st | none=>False:=by
 obtain⟨dst,op,type,pos,after,guard⟩:=o
 unfold eN
 split
 case h_4 t x e=>
  simp only at e
  subst e
  simp only[yY,List.contains_nil,kE]
  cases dst<;>rfl
 case h_10=>rfl
 all_goals (rename_i e;simp only at e;subst e;simp [jL] at h)
def eG(P:Program)(ops:Array Oper)(st:aA):List Oper→(AF→Prop)→AF→Prop
 | [],K,φ=>K φ
 | o::rest,K,φ=>if jL o=true then a8 P [] ops [o] (fun φ' _=>eG P ops st rest K φ') φ st else
  match o.guard,o.op with
  | none,.call { callee:=.value f,args,.. }=>∃r,rE P (φ.eval f) (args.toList.map φ.eval) st (fun r' st'=>r'=r∧st'=st)∧eG P ops st rest K (φ.put o.dst r)
  | _,_=>False
theorem CU{P:Program}{ops:Array Oper}{st:aA}{K:AF→Prop}:∀(l:List Oper) (φ:AF),eG P ops st l K φ→oL P st ops l K φ
 | [],_,h=>h
 | o::rest,φ,h=>by
  simp only[eG] at h
  split at h
  · rename_i hp
    simp only[a8] at h
    simp only[oL]
    split at h
    · rename_i hg
      rw[q7 hp] at h
      rw[hg]
      simp only
      split at h
      · rename_i r hr
        exact⟨r,by rw[q7 hp,hr];exact⟨rfl,rfl⟩,CU rest _ h⟩
      · cases h
    · rename_i hg
      rw[hg]
      exact CU rest _ h
    · cases h
  · split at h
    · rename_i f args ats hg ho
      obtain⟨r,h1,h2⟩:=h
      simp only[oL,iI,hg]
      refine⟨r,?_,CU rest _ h2⟩
      simp only[eN,ho]
      exact h1
    · cases h
theorem UD{P:Program}{ops:Array Oper}{st:aA}{K:AF→Prop}{φ:AF}:eG P ops st [] K φ=K φ:=rfl
def hK(P:Program)(ops:Array Oper)(st:aA)(rest:List Oper)(K:AF→Prop)(φ:AF)(_:aA):Prop:=eG P ops st rest K φ
theorem YQ{P:Program}{ops:Array Oper}{st st':aA}{K:AF→Prop}{φ:AF}{rest:List Oper}:hK P ops st rest K φ st'=eG P ops st rest K φ:=rfl
theorem kB{P:Program}{ops:Array Oper}{st:aA}{K:AF→Prop}{φ:AF}{o:Oper}{rest:List Oper}(h:jL o=true):eG P ops st (o::rest) K φ=a8 P [] ops [o] (hK P ops st rest K) φ st:=by
 simp [eG,h]
 rfl
def vT(P:Program)(f:AV)(args:List AV)(st:aA)(K:AV→Prop):Prop:=∃r,rE P f args st (fun r' st'=>r'=r∧st'=st)∧K r
def IA(P:Program)(ops:Array Oper)(st:aA)(rest:List Oper)(K:AF→Prop)(φ:AF)(dst:Option Tmp)(r:AV):Prop:=eG P ops st rest K (φ.put dst r)
theorem aKT{P:Program}{ops:Array Oper}{st:aA}{K:AF→Prop}{φ:AF}{rest:List Oper}{dst:Option Tmp}{f:Operand}{args:List Operand}{ats:Array TypeId}{type:TypeId}{pos:String}{after:Array Edge} :
 eG P ops st (⟨dst,.call { callee:=.value f,args:=args.toArray,argTypes:=ats },type,pos,after,none⟩::rest) K φ=vT P (φ.eval f) (args.map φ.eval) st (IA P ops st rest K φ dst):=by
 simp [eG,jL,vT,IA]
section
variable {P:Program} {ops:Array Oper} {st:aA} {K:AF→Prop} {φ:AF} {rest:List Oper} {dst:Option Tmp} {type:TypeId} {pos:String} {after:Array Edge} {g:Option (Nat×Bool)}
theorem UZ{f:Operand}{args:List Operand}{ats:Array TypeId} :
 eG P ops st (⟨dst,.call { callee:=.value f,args:=args.toArray,argTypes:=ats },type,pos,after,none⟩::rest) K φ=vT P (φ.eval f) (args.map φ.eval) st (IA P ops st rest K φ dst):=aKT
theorem UE{x:Operand}:eG P ops st (⟨dst,.move x,type,pos,after,g⟩::rest) K φ=a8 P [] ops [⟨dst,.move x,type,pos,after,g⟩] (hK P ops st rest K) φ st:=kB rfl
theorem UQ{x:Operand}:eG P ops st (⟨dst,.assign x,type,pos,after,g⟩::rest) K φ=a8 P [] ops [⟨dst,.assign x,type,pos,after,g⟩] (hK P ops st rest K) φ st:=kB rfl
theorem UR{c x y:Operand}:eG P ops st (⟨dst,.pick c x y,type,pos,after,g⟩::rest) K φ=a8 P [] ops [⟨dst,.pick c x y,type,pos,after,g⟩] (hK P ops st rest K) φ st:=kB rfl
theorem US{op:BinOp}{t t':TypeId}{x y:Operand}:eG P ops st (⟨dst,.binOp op t x y t',type,pos,after,g⟩::rest) K φ=a8 P [] ops [⟨dst,.binOp op t x y t',type,pos,after,g⟩] (hK P ops st rest K) φ st:=kB rfl
theorem UT{op:UnOp}{t:TypeId}{x:Operand}:eG P ops st (⟨dst,.unOp op t x,type,pos,after,g⟩::rest) K φ=a8 P [] ops [⟨dst,.unOp op t x,type,pos,after,g⟩] (hK P ops st rest K) φ st:=kB rfl
theorem UU{x:Operand}:eG P ops st (⟨dst,.nilCheck x,type,pos,after,g⟩::rest) K φ=a8 P [] ops [⟨dst,.nilCheck x,type,pos,after,g⟩] (hK P ops st rest K) φ st:=kB rfl
theorem UV{t f:Nat}{x:Operand}:eG P ops st (⟨dst,.fieldAddr t x f,type,pos,after,g⟩::rest) K φ=a8 P [] ops [⟨dst,.fieldAddr t x f,type,pos,after,g⟩] (hK P ops st rest K) φ st:=kB rfl
theorem UW{t:TypeId}{x:Operand}:eG P ops st (⟨dst,.load t x,type,pos,after,g⟩::rest) K φ=a8 P [] ops [⟨dst,.load t x,type,pos,after,g⟩] (hK P ops st rest K) φ st:=kB rfl
theorem UX{t f:Nat}{x:Operand}:eG P ops st (⟨dst,.field t x f,type,pos,after,g⟩::rest) K φ=a8 P [] ops [⟨dst,.field t x f,type,pos,after,g⟩] (hK P ops st rest K) φ st:=kB rfl
theorem UF{t:TypeId}{x i:Operand}:eG P ops st (⟨dst,.indexAddr t x i,type,pos,after,g⟩::rest) K φ=a8 P [] ops [⟨dst,.indexAddr t x i,type,pos,after,g⟩] (hK P ops st rest K) φ st:=kB rfl
theorem UG{t:TypeId}{x i:Operand}:eG P ops st (⟨dst,.index t x i,type,pos,after,g⟩::rest) K φ=a8 P [] ops [⟨dst,.index t x i,type,pos,after,g⟩] (hK P ops st rest K) φ st:=kB rfl
theorem UH{t:TypeId}{x:Operand}{lo hi mx:Option Operand}:eG P ops st (⟨dst,.slice t x lo hi mx,type,pos,after,g⟩::rest) K φ=a8 P [] ops [⟨dst,.slice t x lo hi mx,type,pos,after,g⟩] (hK P ops st rest K) φ st:=kB rfl
theorem UI{x:Operand}{i:Nat}:eG P ops st (⟨dst,.extract x i,type,pos,after,g⟩::rest) K φ=a8 P [] ops [⟨dst,.extract x i,type,pos,after,g⟩] (hK P ops st rest K) φ st:=kB rfl
theorem UJ{t:TypeId}{ps:Array (Nat×Operand)}:eG P ops st (⟨dst,.build t ps,type,pos,after,g⟩::rest) K φ=a8 P [] ops [⟨dst,.build t ps,type,pos,after,g⟩] (hK P ops st rest K) φ st:=kB rfl
theorem UK{t:TypeId}{n:Nat}{ps:Array (Nat×Operand)}:eG P ops st (⟨dst,.buildSlice t n ps,type,pos,after,g⟩::rest) K φ=a8 P [] ops [⟨dst,.buildSlice t n ps,type,pos,after,g⟩] (hK P ops st rest K) φ st:=kB rfl
theorem UL{t u:TypeId}{x:Operand}:eG P ops st (⟨dst,.convert t u x,type,pos,after,g⟩::rest) K φ=a8 P [] ops [⟨dst,.convert t u x,type,pos,after,g⟩] (hK P ops st rest K) φ st:=kB rfl
theorem UM{t:TypeId}{x i:Operand}{ok:Bool}:eG P ops st (⟨dst,.lookup t x i ok,type,pos,after,g⟩::rest) K φ=a8 P [] ops [⟨dst,.lookup t x i ok,type,pos,after,g⟩] (hK P ops st rest K) φ st:=kB rfl
theorem UN{x:Operand}{t:TypeId}:eG P ops st (⟨dst,.call { callee:=.builtin .len,args:=#[x],argTypes:=#[t] },type,pos,after,g⟩::rest) K φ=a8 P [] ops [⟨dst,.call { callee:=.builtin .len,args:=#[x],argTypes:=#[t] },type,pos,after,g⟩] (hK P ops st rest K) φ st:=kB rfl
theorem UO{x y:Operand}{ts:Array TypeId}:eG P ops st (⟨dst,.call { callee:=.builtin .max,args:=#[x,y],argTypes:=ts },type,pos,after,g⟩::rest) K φ=a8 P [] ops [⟨dst,.call { callee:=.builtin .max,args:=#[x,y],argTypes:=ts },type,pos,after,g⟩] (hK P ops st rest K) φ st:=kB rfl
theorem UP{x y:Operand}{ts:Array TypeId}:eG P ops st (⟨dst,.call { callee:=.builtin .min,args:=#[x,y],argTypes:=ts },type,pos,after,g⟩::rest) K φ=a8 P [] ops [⟨dst,.call { callee:=.builtin .min,args:=#[x,y],argTypes:=ts },type,pos,after,g⟩] (hK P ops st rest K) φ st:=kB rfl
end
theorem UY{P:Program}{ops:Array Oper}{st:aA}{K:AF→Prop}{φ:AF}{rest:List Oper}{dst:Option Tmp}{r:AV}:IA P ops st rest K φ dst r=eG P ops st rest K (φ.put dst r):=rfl
theorem jW{P:Program}{g:FuncId}{args:List AV}{st:aA}{r:AV}{K:AV→Prop}(x:aD P g args st (fun r' st'=>r'=r∧st'=st))(h:K r):vT P (.func g []) args st K:=⟨r,by show aD P g (args++ []) st _;rw[fM];exact x,h⟩
@[congr] theorem aY9 {P:Program} {ops:Array Oper} {l:List Oper} {K:AF→Prop} {φ φ':AF} {st st':aA} (h1:φ=φ') (h2:st=st'):eG P ops st l K φ=eG P ops st' l K φ':=by rw[h1,h2]
@[congr] theorem aZG {P:Program} {f f':AV} {args args':List AV} {st st':aA} {K:AV→Prop} (h0:f=f') (h1:args=args') (h2:st=st'):vT P f args st K=vT P f' args' st' K:=by rw[h0,h1,h2]
def NH(ops:Array Oper):Nat:=(ops.toList.findIdx fun o=> !jL o)
theorem GU{P:Program}{st:aA}{N:Nat}{id:Nat}{ops:Array Oper}{Q:Exit→AF→aA→Prop}{φ:AF}(hm:P.follows .mixedOrders=true)(hok:pF N ops=true)(hB:Region.lexTailB .any ops (NH ops)=true)
 (h:a8 P [] ops ops.toList (Q .normal) φ st):fW P N (.region id ops true) Q φ st:=by
 refine aL4 (NH ops) hm hok hB (CU _ _ ?_)
 have key:∀(l1 l2:List Oper) (φ:AF),(∀o∈l1,jL o=true)→a8 P [] ops (l1++l2) (Q .normal) φ st→eG P ops st l1 (fun φ'=>a8 P [] ops l2 (Q .normal) φ' st) φ:=by
  intro l1
  induction l1 with
  | nil=>intro l2 φ _ h;exact h
  | cons o l1 ih=>
   intro l2 φ hp h
   have ho:=hp o (by simp)
   have hr:∀o∈l1,jL o=true:=fun o h=>hp o (by simp [h])
   simp only[eG,ho,d3,a8]
   simp only[gF,a8] at h
   split at h
   · rename_i hg
     rw[q7 ho] at h
     rw[q7 ho]
     split at h
     · rename_i hr2
       first | rw[hr2] | skip
       exact ih l2 _ hr h
     · cases h
   · exact ih l2 _ hr h
   · cases h
 refine key _ _ φ (fun o ho=>?_) (by rw[qS];exact h)
 obtain⟨i,hi,rfl⟩:=List.getElem_of_mem ho
 rw[dY] at hi
 have h2:=List.not_of_lt_findIdx (p:=fun o=> !jL o) (xs:=ops.toList) (i:=i) (by have:NH ops=ops.toList.findIdx (fun o=> !jL o):=rfl;omega)
 simpa using h2
def zW(P:Program)(ops:Array Oper)(st:aA)(K:AF→aA→Prop):Nat→List Oper→AF→Prop
 | 0,l,φ=>a8 P [] ops l K φ st
 | _+1,[],_=>False
 | n+1,o::rest,φ=>eG P ops st [o] (zW P ops st K n rest) φ
theorem U3{P:Program}{ops:Array Oper}{st:aA}{K:AF→aA→Prop}{l:List Oper}{φ:AF}:zW P ops st K 0 l φ=a8 P [] ops l K φ st:=rfl
theorem U4{P:Program}{ops:Array Oper}{st:aA}{K:AF→aA→Prop}{n:Nat}{o:Oper}{l:List Oper}{φ:AF}:zW P ops st K (n+1) (o::l) φ=eG P ops st [o] (zW P ops st K n l) φ:=rfl
theorem aDD{P:Program}{mt:List Nat}{l:List Oper}{st:aA}{K:AF→aA→Prop}{φ:AF}:a8 P mt l.toArray l.toArray.toList K φ st=a8 P mt l.toArray l K φ st:=rfl
theorem aDE{P:Program}{l:List Oper}{st:aA}{K:AF→Prop}{φ:AF}:eG P l.toArray st l.toArray.toList K φ=eG P l.toArray st l K φ:=rfl
theorem aDF{P:Program}{n:Nat}{l:List Oper}{st:aA}{K:AF→aA→Prop}{φ:AF}:zW P l.toArray st K n l.toArray.toList φ=zW P l.toArray st K n l φ:=rfl
def T7(Q:Exit→AF→aA→Prop)(st:aA)(φ:AF):Prop:=Q .normal φ st
theorem YB{Q:Exit→AF→aA→Prop}{st:aA}{φ:AF}:T7 Q st φ=Q .normal φ st:=rfl
theorem z9{P:Program}{st:aA}{N:Nat}{id:Nat}{ops:Array Oper}{Q:Exit→AF→aA→Prop}{φ:AF}(hm:P.follows .mixedOrders=true)(hok:pF N ops=true)(hB:Region.lexB .any ops=true)
 (h:eG P ops st ops.toList (T7 Q st) φ):fW P N (.region id ops true) Q φ st:=
 aL5 hm hok hB (CU _ _ h)
theorem YY:AV.junk.isAgg=false:=rfl
theorem aDZ:AV.junk.width=1:=rfl
theorem ZF:AV.junk.b9=true:=rfl
theorem XV:AV.junk.cells= [AV.junk]:=rfl
theorem aBY:AV.junk.storable=false:=rfl
theorem Y9:AV.undef.isAgg=false:=rfl
theorem aEA:AV.undef.width=1:=rfl
theorem ZQ:AV.undef.b9=false:=rfl
theorem X6:AV.undef.cells= [AV.undef]:=rfl
theorem aB8:AV.undef.storable=false:=rfl
theorem YX{k:IntKind}{n:Int}:(AV.int k n).isAgg=false:=rfl
theorem aDY{k:IntKind}{n:Int}:(AV.int k n).width=1:=rfl
theorem ZE{k:IntKind}{n:Int}:(AV.int k n).b9=false:=rfl
theorem XU{k:IntKind}{n:Int}:(AV.int k n).cells= [(AV.int k n)]:=rfl
theorem aBX{k:IntKind}{n:Int}:(AV.int k n).storable=true:=rfl
theorem YU{b:Bool}:(AV.bool b).isAgg=false:=rfl
theorem aDV{b:Bool}:(AV.bool b).width=1:=rfl
theorem ZB{b:Bool}:(AV.bool b).b9=false:=rfl
theorem XR{b:Bool}:(AV.bool b).cells= [(AV.bool b)]:=rfl
theorem aBU{b:Bool}:(AV.bool b).storable=true:=rfl
theorem Y7{s:ByteArray}:(AV.str s).isAgg=false:=rfl
theorem aD8{s:ByteArray}:(AV.str s).width=1:=rfl
theorem ZO{s:ByteArray}:(AV.str s).b9=false:=rfl
theorem X4{s:ByteArray}:(AV.str s).cells= [(AV.str s)]:=rfl
theorem aB6{s:ByteArray}:(AV.str s).storable=true:=rfl
theorem Y8{vs:List AV}:(AV.tup vs).isAgg=false:=rfl
theorem aD9{vs:List AV}:(AV.tup vs).width=1:=rfl
theorem ZP{vs:List AV}:(AV.tup vs).b9=false:=rfl
theorem X5{vs:List AV}:(AV.tup vs).cells= [(AV.tup vs)]:=rfl
theorem aB7{vs:List AV}:(AV.tup vs).storable=false:=rfl
theorem Y6{es:List AV}:(AV.slice es).isAgg=false:=rfl
theorem aD7{es:List AV}:(AV.slice es).width=1:=rfl
theorem ZN{es:List AV}:(AV.slice es).b9=false:=rfl
theorem X3{es:List AV}:(AV.slice es).cells= [(AV.slice es)]:=rfl
theorem aB5{es:List AV}:(AV.slice es).storable=true:=rfl
theorem YV{es:List AV}:(AV.fslice es).isAgg=false:=rfl
theorem aDW{es:List AV}:(AV.fslice es).width=1:=rfl
theorem ZC{es:List AV}:(AV.fslice es).b9=false:=rfl
theorem XS{es:List AV}:(AV.fslice es).cells= [(AV.fslice es)]:=rfl
theorem aBV{es:List AV}:(AV.fslice es).storable=true:=rfl
theorem Y0{b:Nat}{o:Nat}{l:Nat}{m:Nat}:(AV.mslice b o l m).isAgg=false:=rfl
theorem aD1{b:Nat}{o:Nat}{l:Nat}{m:Nat}:(AV.mslice b o l m).width=1:=rfl
theorem ZH{b:Nat}{o:Nat}{l:Nat}{m:Nat}:(AV.mslice b o l m).b9=false:=rfl
theorem XX{b:Nat}{o:Nat}{l:Nat}{m:Nat}:(AV.mslice b o l m).cells= [(AV.mslice b o l m)]:=rfl
theorem aB0{b:Nat}{o:Nat}{l:Nat}{m:Nat}:(AV.mslice b o l m).storable=true:=rfl
theorem Y2:AV.nilptr.isAgg=false:=rfl
theorem aD3:AV.nilptr.width=1:=rfl
theorem ZJ:AV.nilptr.b9=false:=rfl
theorem XZ:AV.nilptr.cells= [AV.nilptr]:=rfl
theorem aB2:AV.nilptr.storable=true:=rfl
theorem Y4{b:Nat}{o:Nat}:(AV.ptr b o).isAgg=false:=rfl
theorem aD5{b:Nat}{o:Nat}:(AV.ptr b o).width=1:=rfl
theorem ZL{b:Nat}{o:Nat}:(AV.ptr b o).b9=false:=rfl
theorem X1{b:Nat}{o:Nat}:(AV.ptr b o).cells= [(AV.ptr b o)]:=rfl
theorem aB4{b:Nat}{o:Nat}:(AV.ptr b o).storable=true:=rfl
theorem Y3{e:AV}:(AV.pptr e).isAgg=false:=rfl
theorem aD4{e:AV}:(AV.pptr e).width=1:=rfl
theorem ZK{e:AV}:(AV.pptr e).b9=false:=rfl
theorem X0{e:AV}:(AV.pptr e).cells= [(AV.pptr e)]:=rfl
theorem aB3{e:AV}:(AV.pptr e).storable=true:=rfl
theorem Y1:AV.nilmap.isAgg=false:=rfl
theorem aD2:AV.nilmap.width=1:=rfl
theorem ZI:AV.nilmap.b9=false:=rfl
theorem XY:AV.nilmap.cells= [AV.nilmap]:=rfl
theorem aB1:AV.nilmap.storable=true:=rfl
theorem YZ{b:Nat}:(AV.map b).isAgg=false:=rfl
theorem aD0{b:Nat}:(AV.map b).width=1:=rfl
theorem ZG{b:Nat}:(AV.map b).b9=false:=rfl
theorem XW{b:Nat}:(AV.map b).cells= [(AV.map b)]:=rfl
theorem aBZ{b:Nat}:(AV.map b).storable=true:=rfl
theorem YW{f:FuncId}{cs:List AV}:(AV.func f cs).isAgg=false:=rfl
theorem aDX{f:FuncId}{cs:List AV}:(AV.func f cs).width=1:=rfl
theorem ZD{f:FuncId}{cs:List AV}:(AV.func f cs).b9=false:=rfl
theorem XT{f:FuncId}{cs:List AV}:(AV.func f cs).cells= [(AV.func f cs)]:=rfl
theorem aBW{f:FuncId}{cs:List AV}:(AV.func f cs).storable=true:=rfl
theorem Y5{v:Value}:(AV.raw v).isAgg=false:=rfl
theorem aD6{v:Value}:(AV.raw v).width=1:=rfl
theorem ZM{v:Value}:(AV.raw v).b9=false:=rfl
theorem X2{v:Value}:(AV.raw v).cells= [(AV.raw v)]:=rfl
theorem YT{cs:List AV}:(AV.agg cs).isAgg=true:=rfl
theorem aDU{cs:List AV}:(AV.agg cs).width=cs.length:=rfl
theorem ZA{cs:List AV}:(AV.agg cs).b9=false:=rfl
theorem XQ{cs:List AV}:(AV.agg cs).cells=cs:=rfl
theorem XO:((0:Nat):Int)=0:=rfl
theorem XP{n:Nat}:((n+1:Nat):Int)=(n:Int)+1:=rfl
theorem dP{st:aA}{b x:Nat}{o:AO}:(st.aC b o) x=if x=b then some o else st x:=rfl
theorem wrap64{n:Int}(h1: -9223372036854775808≤n)(h2:n≤9223372036854775807):IntKind.wrap .i64 n=n:=by
 rw[IntKind.wrap_i64];omega
end Go.AW
