/- Smaller stores, frozen slices, sizes, frames as lists, regions that draw. -/
import Derived.Test.YtieofkhcboolkaaGreatDoorKqd
set_option linter.unusedSimpArgs false
set_option linter.unusedVariables false
set_option maxRecDepth 100000
namespace Go.AW
def aH(st st':aA):Prop:=∀b,(st b=none→st' b=none)∧∀o,st' b=some o→st b=some o
theorem aH.refl(st:aA):aH st st:=fun _=>⟨id,fun _=>id⟩
theorem aH.aC{st st':aA}(x:aH st st'){b:Nat}{o:AO}(h:st' b=none):aH (st.aC b o) st':=fun i=>by
 simp only[aA.aC]
 split
 · rename_i e;subst e;exact⟨fun _=>h,fun o' h'=>by rw[h] at h';cases h'⟩
 · exact x i
theorem eP(st:aA)(b:Nat):aH st (st.erase b):=fun i=>by
 simp only[aA.erase]
 split
 · exact⟨fun _=>rfl,fun o' h'=>by cases h'⟩
 · exact⟨id,fun _=>id⟩
theorem aH.step{st st':aA}(x:aH st st')(h:aN):aX h st h st':=⟨dJ _,fun b _ e=>⟨rfl,(x b).1 e⟩,fun _ c _ _ e=>⟨c,e,rfl⟩⟩
theorem aH.C6{st st':aA}(x:aH st st'){h:aN}(S:bQ h st):bQ h st':=fun b o e=>by
 obtain⟨h1,h2⟩:=S b o ((x b).2 o e)
 refine⟨h1,?_⟩
 cases o with
 | cells as=>
  obtain⟨c,t,e1,e2,vs,e3,e4⟩:=h2
  exact⟨c,t,e1,e2,vs,e3,aJ.mono (x.step h) _ _ e4⟩
 | map f=>
  obtain⟨es,clock,e1,e2,e3,e4⟩:=h2
  refine⟨es,clock,e1,e2,e3,fun n=>?_⟩
  have:=e4 n
  cases hf:f n with
  | none=>rw[hf] at this;exact this
  | some a=>
   rw[hf] at this
   obtain⟨e,m,k,v⟩:=this
   exact⟨e,m,k,v.mono (x.step h)⟩
 | tab cs=>exact h2
theorem aH.lX{st st':aA}(x:aH st st'):rC st st':=fun h S=>⟨x.C6 S,x.step h⟩
theorem aH.iA{st st':aA}(x:aH st st')(r:AV):l7 st r st' r:=fun h _ _ y=>y.mono (x.step h)
theorem aD.drop{P:Program}{g:FuncId}{args:List AV}{st:aA}{Q:AV→Prop}(x:aD P g args st (fun r st'=>aH st' st∧Q r)):aD P g args st (fun r st'=>Q r∧st'=st):=
 x.iA fun r st' ⟨h1,h2⟩=>⟨r,st,h1.lX,h1.iA r,h2,rfl⟩
mutual
def AV.fz(b:Nat)(es:List AV):AV→AV
 | .mslice b' 0 n sz=>if b'=b∧n=es.length then .slice es else .mslice b' 0 n sz
 | .agg cs=>.agg (j7 b es cs)
 | .tup vs=>.tup (j7 b es vs)
 | a=>a
def j7(b:Nat)(es:List AV):List AV→List AV
 | []=>[]
 | a::as=>AV.fz b es a::j7 b es as
end
theorem QL(b:Nat)(es:List AV)(a:AV):(a.fz b es).isAgg=a.isAgg:=by
 cases a<;>try rfl
 case mslice b' off n sz=>
  cases off with
  | zero=>simp only[AV.fz];split<;>rfl
  | succ k=>rfl
section
variable {h:aN} {st:aA} {b:Nat} {es:List AV}
theorem frozen(S:bQ h st)(hb:st b=some (.cells (es.flatMap AV.cells)))(hj:∀e∈es,e.bP=false):b<h.size∧bY h (st.erase b) b 0 es:=by
 obtain⟨h1,c,t,e1,e2,vs,e3,e4⟩:=S b _ hb
 exact⟨h1,bY.mono ((eP st b).step h) b rfl _ _ (wO hj e3 e4)⟩
theorem VC.aBK{b' off n sz:Nat}{cs:List Value}(S:bQ h st)(hb:st b=some (.cells (es.flatMap AV.cells)))(hj:∀e∈es,e.bP=false)(hE:eW es)(x:VC h st (.mslice b' off n sz) cs):VC h (st.erase b) ((AV.mslice b' off n sz).fz b es) cs:=by
 have x0:VC h (st.erase b) (.mslice b' off n sz) cs:=VC.mono ((eP st b).step h) _ _ x
 cases off with
 | succ k=>exact x0
 | zero=>
  simp only[AV.fz]
  split
  · rename_i e
    obtain⟨rfl,rfl⟩:=e
    simp only[VC] at x
    obtain⟨cap,e1,l1,l2,c,t,_,_⟩:=x
    obtain⟨hs,hE'⟩:=frozen S hb hj
    unfold VC
    exact .inr ⟨b',0,cap,e1,l1,l2,aA.GB _ _,hs,hE,hE'⟩
  · exact x0
mutual
theorem VC.fz(S:bQ h st)(hb:st b=some (.cells (es.flatMap AV.cells)))(hj:∀e∈es,e.bP=false)(hE:eW es):∀(a:AV) (cs:List Value),VC h st a cs→VC h (st.erase b) (a.fz b es) cs
 | .mslice b' off n sz,cs,x=>VC.aBK S hb hj hE x
 | .agg as,cs,x=>by simp only[VC,AV.fz] at x ⊢;exact aJ.fz S hb hj hE as cs x
 | .tup as,cs,x=>by
  simp only[VC,AV.fz] at x ⊢
  obtain⟨vs,e,r⟩:=x
  exact⟨vs,e,cL.fz S hb hj hE as vs r⟩
 | .junk,cs,x=>VC.mono ((eP st b).step h) _ _ x
 | .undef,cs,x=>VC.mono ((eP st b).step h) _ _ x
 | .int _ _,cs,x=>VC.mono ((eP st b).step h) _ _ x
 | .bool _,cs,x=>VC.mono ((eP st b).step h) _ _ x
 | .str _,cs,x=>VC.mono ((eP st b).step h) _ _ x
 | .slice _,cs,x=>VC.mono ((eP st b).step h) _ _ x
 | .fslice _,cs,x=>VC.mono ((eP st b).step h) _ _ x
 | .nilptr,cs,x=>VC.mono ((eP st b).step h) _ _ x
 | .ptr _ _,cs,x=>VC.mono ((eP st b).step h) _ _ x
 | .pptr _,cs,x=>VC.mono ((eP st b).step h) _ _ x
 | .nilmap,cs,x=>VC.mono ((eP st b).step h) _ _ x
 | .map _,cs,x=>VC.mono ((eP st b).step h) _ _ x
 | .func _ _,cs,x=>VC.mono ((eP st b).step h) _ _ x
 | .raw _,cs,x=>VC.mono ((eP st b).step h) _ _ x
 | .eslice,cs,x=>VC.mono ((eP st b).step h) _ _ x
theorem aJ.fz(S:bQ h st)(hb:st b=some (.cells (es.flatMap AV.cells)))(hj:∀e∈es,e.bP=false)(hE:eW es):∀(as:List AV) (cs:List Value),aJ h st as cs→aJ h (st.erase b) (j7 b es as) cs
 | [],_,x=>x
 | a::as,cs,x=>by
  simp only[aJ,j7] at x ⊢
  obtain⟨c,r,e,x1,x2⟩:=x
  exact⟨c,r,e,VC.fz S hb hj hE a [c] x1,aJ.fz S hb hj hE as r x2⟩
theorem cL.fz(S:bQ h st)(hb:st b=some (.cells (es.flatMap AV.cells)))(hj:∀e∈es,e.bP=false)(hE:eW es):∀(as:List AV) (cs:List Value),cL h st as cs→cL h (st.erase b) (j7 b es as) cs
 | [],_,x=>x
 | a::as,cs,x=>by
  simp only[cL,j7] at x ⊢
  obtain⟨v,r,e,x1,x2⟩:=x
  exact⟨v,r,e,⟨(QL b es a).trans x1.1,VC.fz S hb hj hE a _ x1.2⟩,cL.fz S hb hj hE as r x2⟩
end
theorem aE.fz{a:AV}{v:Value}(S:bQ h st)(hb:st b=some (.cells (es.flatMap AV.cells)))(hj:∀e∈es,e.bP=false)(hE:eW es)(x:aE h st a v):aE h (st.erase b) (a.fz b es) v:=by
 have key:a.isAgg=gV v∧VC h st a v.cells.toList→aE h (st.erase b) (a.fz b es) v:=fun x=>by
  have y:(a.fz b es).isAgg=gV v∧VC h (st.erase b) (a.fz b es) v.cells.toList:=⟨(QL b es a).trans x.1,VC.fz S hb hj hE a _ x.2⟩
  cases hq:a.fz b es<;>rw[hq] at y<;>first | trivial | exact y
 cases a<;>first | trivial | exact key x
end
theorem aD.freeze{P:Program}{g:FuncId}{args:List AV}{st:aA}{Q:AV→aA→Prop}
 (x:aD P g args st (fun r st'=>∃b es,st' b=some (.cells (es.flatMap AV.cells))∧(∀e∈es,e.bP=false)∧eW es∧Q (r.fz b es) (st'.erase b))):aD P g args st Q:=
 x.iA fun r st' ⟨b,es,h1,h2,h3,h4⟩=>⟨r.fz b es,st'.erase b,(eP st' b).lX,fun _ _ S y=>y.fz S h1 h2 h3,h4⟩
theorem c7.freeze{φ:AF}{st:aA}{b:Nat}{es:List AV}(h1:st b=some (.cells (es.flatMap AV.cells)))(h2:∀e∈es,e.bP=false)(h3:eW es):c7 φ st (fun d=>(φ d).fz b es) (st.erase b):=
 fun h _ S F=>⟨(eP st b).C6 S,(eP st b).step h,fun d=>(F d).fz S h1 h2 h3⟩
theorem c7.drop{φ:AF}{st st':aA}(x:aH st st'):c7 φ st φ st':=fun h _ S F=>⟨x.C6 S,x.step h,fun d=>(F d).mono (x.step h)⟩
mutual
def AV.soft:AV→AV
 | .fslice es=>.slice es
 | .agg cs=>.agg (dX cs)
 | .tup vs=>.tup (dX vs)
 | a=>a
def dX:List AV→List AV
 | []=>[]
 | a::as=>a.soft::dX as
end
theorem aE6(a:AV):a.soft.isAgg=a.isAgg:=by cases a<;>rfl
section
variable {h:aN} {st:aA}
mutual
theorem VC.soft:∀(a:AV) (cs:List Value),VC h st a cs→VC h st a.soft cs
 | .fslice es,cs,x=>by
  simp only[AV.soft]
  unfold VC at x ⊢
  rcases x with x | ⟨b,off,e,l,r⟩
  · exact .inl x
  · exact .inr ⟨b,off,es.length,e,dJ _,l,r⟩
 | .agg as,cs,x=>by simp only[VC,AV.soft] at x ⊢;exact aJ.soft as cs x
 | .tup as,cs,x=>by
  simp only[VC,AV.soft] at x ⊢
  obtain⟨vs,e,r⟩:=x
  exact⟨vs,e,cL.soft as vs r⟩
 | .mslice _ _ _ _,cs,x=>x
 | .junk,cs,x=>x
 | .undef,cs,x=>x
 | .int _ _,cs,x=>x
 | .bool _,cs,x=>x
 | .str _,cs,x=>x
 | .slice _,cs,x=>x
 | .nilptr,cs,x=>x
 | .ptr _ _,cs,x=>x
 | .pptr _,cs,x=>x
 | .nilmap,cs,x=>x
 | .map _,cs,x=>x
 | .func _ _,cs,x=>x
 | .raw _,cs,x=>x
 | .eslice,cs,x=>x
theorem aJ.soft:∀(as:List AV) (cs:List Value),aJ h st as cs→aJ h st (dX as) cs
 | [],_,x=>x
 | a::as,cs,x=>by
  simp only[aJ,dX] at x ⊢
  obtain⟨c,r,e,x1,x2⟩:=x
  exact⟨c,r,e,VC.soft a [c] x1,aJ.soft as r x2⟩
theorem cL.soft:∀(as:List AV) (cs:List Value),cL h st as cs→cL h st (dX as) cs
 | [],_,x=>x
 | a::as,cs,x=>by
  simp only[cL,dX] at x ⊢
  obtain⟨v,r,e,x1,x2⟩:=x
  exact⟨v,r,e,⟨(aE6 a).trans x1.1,VC.soft a _ x1.2⟩,cL.soft as r x2⟩
end
theorem aE.soft{a:AV}{v:Value}(x:aE h st a v):aE h st a.soft v:=by
 cases a
 case fslice=>exact x.xT
 case agg=>exact⟨x.1,VC.soft _ _ x.2⟩
 case tup=>exact⟨x.1,VC.soft _ _ x.2⟩
 all_goals exact x
end
theorem aD.soft{P:Program}{g:FuncId}{args:List AV}{st:aA}{Q:AV→aA→Prop}(x:aD P g args st (fun r st'=>Q r.soft st')):aD P g args st Q:=
 x.iA fun r st' h=>⟨r.soft,st',(aH.refl st').lX,fun _ _ _ y=>y.soft,h⟩
theorem aD.lT{P:Program}{g:FuncId}{args:List AV}{st:aA}{Q:AV→aA→Prop}(x:aD P g (dX args) st Q):aD P g args st Q:=
 x.args fun hp=>by
  have:∀(as:List AV) (vs:List Value),cF hp st as vs→cF hp st (dX as) vs:=by
   intro as
   induction as with
   | nil=>intro vs y;exact y
   | cons a as ih=>
    intro vs y
    simp only[cF,dX] at y ⊢
    obtain⟨v,r,rfl,y1,y2⟩:=y
    exact⟨v,r,rfl,y1.soft,ih r y2⟩
  exact fun vs _=>this args vs
mutual
def AV.fits:AV→Prop
 | .str s=>s.size≤9223372036854775807
 | .agg cs=>dG cs
 | .tup vs=>dG vs
 | .slice es=>es.length≤9223372036854775807∧dG es
 | .fslice es=>es.length≤9223372036854775807∧dG es
 | .mslice _ _ n _=>n≤9223372036854775807
 | .pptr e=>e.fits
 | _=>True
def dG:List AV→Prop
 | []=>True
 | a::as=>a.fits∧dG as
end
section
variable {h:aN} {st:aA}
mutual
theorem VC.fits:∀(a:AV) (cs:List Value),VC h st a cs→a.fits
 | .str s,cs,x=>by simp only[VC,maxLen] at x;exact x.2
 | .agg as,cs,x=>by simp only[VC,AV.fits] at x ⊢;exact aJ.fits as cs x
 | .tup as,cs,x=>by
  simp only[VC,AV.fits] at x ⊢
  obtain⟨vs,e,r⟩:=x
  exact cL.fits as vs r
 | .slice es,cs,x=>by
  simp only[VC,AV.fits] at x ⊢
  rcases x with ⟨⟨p0,_⟩,rfl⟩ | ⟨b,off,cap,_,l1,l2,_,_,_,r⟩
  · exact⟨by simp,trivial⟩
  · exact⟨jM l1 l2,bY.fits es off r⟩
 | .fslice es,cs,x=>by
  simp only[VC,AV.fits] at x ⊢
  rcases x with ⟨⟨p0,_⟩,rfl⟩ | ⟨b,off,_,l1,_,_,_,r⟩
  · exact⟨by simp,trivial⟩
  · exact⟨l1,bY.fits es off r⟩
 | .mslice _ _ n _,cs,x=>by
  simp only[VC,AV.fits] at x ⊢
  obtain⟨cap,_,l1,l2,_⟩:=x
  exact jM l1 l2
 | .pptr e,cs,x=>by
  simp only[VC,AV.fits] at x ⊢
  obtain⟨b,off,_,_,_,vs,_,_,y⟩:=x
  exact VC.fits e vs y
 | .junk,cs,x=>trivial
 | .undef,cs,x=>trivial
 | .int _ _,cs,x=>trivial
 | .bool _,cs,x=>trivial
 | .nilptr,cs,x=>trivial
 | .ptr _ _,cs,x=>trivial
 | .nilmap,cs,x=>trivial
 | .map _,cs,x=>trivial
 | .func _ _,cs,x=>trivial
 | .raw _,cs,x=>trivial
 | .eslice,cs,x=>trivial
theorem aJ.fits:∀(as:List AV) (cs:List Value),aJ h st as cs→dG as
 | [],_,x=>trivial
 | a::as,cs,x=>by
  simp only[aJ] at x
  obtain⟨c,r,e,x1,x2⟩:=x
  exact⟨VC.fits a [c] x1,aJ.fits as r x2⟩
theorem cL.fits:∀(as:List AV) (cs:List Value),cL h st as cs→dG as
 | [],_,x=>trivial
 | a::as,cs,x=>by
  simp only[cL] at x
  obtain⟨v,r,e,x1,x2⟩:=x
  exact⟨VC.fits a _ x1.2,cL.fits as r x2⟩
theorem bY.fits{b:Nat}:∀(as:List AV) (off:Nat),bY h st b off as→dG as
 | [],_,x=>trivial
 | a::as,off,x=>by
  simp only[bY] at x
  obtain⟨⟨cs,_,_,x3⟩,x4⟩:=x
  exact⟨VC.fits a cs x3,bY.fits as _ x4⟩
end
theorem aE.fits{a:AV}{v:Value}(x:aE h st a v):a.fits:=by
 cases a<;>first | trivial | exact VC.fits _ _ x.2
theorem cF.fits:∀ {as:List AV} {vs:List Value},cF h st as vs→dG as
 | [],_,_=>trivial
 | a::as,vs,x=>by
  simp only[cF] at x
  obtain⟨v,r,_,x1,x2⟩:=x
  exact⟨x1.fits,cF.fits x2⟩
end
theorem zw6{P:Program}{g:FuncId}{fn:Func}{c:Code}{args:List AV}{st:aA}{N:Nat}{rs:List ResultVar}{K:AV→aA→Prop}(mt:List Nat)(hf:P.funcs[g]?=some fn)(hN:fn.ntmps=N)(hr:fn.results=rs.toArray)(hb:fn.body=some c)(hn:(fn.name == "runtime.NumGoroutine")=false)
 (hok:codeOk N c=true) (kO:args.length≤N) (e:dG args→dD P N mt c (vI P rs.toArray K) (mC 0 args) st):aD P g args st K:=by
 subst hN
 rw[←hr] at e
 exact⟨⟨fn,hf,by simp [hb],hn⟩,fun w vs S V=>(VN mt hf hb hn hok kO (e V.fits)).2 w vs S V⟩
def fC:List (Nat×AV)→AF
 | []=>AF.bot
 | (d,v)::l=>(fC l).aC d v
def pZ(φ:AF):List (Nat×AV)→Prop
 | []=>True
 | (d,v)::l=>φ d=v∧pZ φ l
theorem c7.fC{φ:AF}{st:aA}:∀ {l:List (Nat×AV)},pZ φ l→c7 φ st (fC l) st
 | [],_=>c7.bot φ st
 | (d,v)::l,h=>(c7.fC h.2).aC h.1
theorem KN{φ:AF}:pZ φ []=True:=rfl
theorem KO{φ:AF}{d:Nat}{v:AV}{l:List (Nat×AV)}:pZ φ ((d,v)::l)=(φ d=v∧pZ φ l):=rfl
theorem aD.to{P:Program}{g:FuncId}{args:List AV}{st:aA}{r:AV}{K:AV→aA→Prop}(x:aD P g args st (fun r' st'=>r'=r∧st'=st))(h:K r st):aD P g args st K:=
 x.mono fun _ _ ⟨e1,e2⟩=>by rw[e1,e2];exact h
theorem uD{P:Program}{N:Nat}(mt:List Nat){c:Code}{Q:Exit→AF→aA→Prop}{φ:AF}{st:aA}(hok:codeOk N c=true)(e:dD P N mt c Q φ st):dT P N c Q φ st:=pO c Q φ st hok e
def nQ(l:List (Nat×AV)):AF:=fC l
theorem KH:nQ []=AF.bot:=rfl
theorem KG{d:Nat}{v:AV}{l:List (Nat×AV)}:nQ ((d,v)::l)=(nQ l).aC d v:=rfl
def aL(φ:AF)(st:aA)(l:List (Nat×AV))(st':aA):Prop:=c7 φ st (fC l) st'
theorem aL.mk{φ:AF}{st:aA}{l:List (Nat×AV)}(h:pZ φ l):aL φ st l st:=c7.fC h
theorem aL.drop{φ:AF}{st st':aA}{l:List (Nat×AV)}(d:aH st st')(h:pZ φ l):aL φ st l st':=(c7.drop d).trans (c7.fC h)
theorem pG{P:Program}{N:Nat}{c:Code}{Q:Exit→AF→aA→Prop}{φ:AF}{st:aA}{α:Type}(mt:List Nat)(inv:α→Prop)(fl:α→List (Nat×AV))(so:α→aA)(μ:α→Nat)(hok:codeOk N c=true)
 (h0:∃s,inv s∧aL φ st (fl s) (so s))
 (h1:∀s,inv s→dD P N mt c (jT (fun φ' st'=>∃s',μ s'<μ s∧inv s'∧aL φ' st' (fl s') (so s')) Q) (nQ (fl s)) (so s)):dT P N (.loop c) Q φ st:=
 AZ inv (fun s=>fC (fl s)) so μ h0 fun s hs=>uD mt hok (h1 s hs)
theorem cU{P:Program}{mt:List Nat}{ops:Array Oper}{o:Oper}{l:List Oper}{K:AF→aA→Prop}{φ:AF}{st:aA}{c want:Bool}
 (h1:c=want→n3 P mt ops o l K φ st (some true)) (h2:c=(!want)→n3 P mt ops o l K φ st (some false)):n3 P mt ops o l K φ st (some (c == want)):=by
 cases c<;>cases want<;>first | exact h1 rfl | exact h2 rfl
def iB(o:Oper):Bool:=match o.op with
 | .call { callee:=.value _,.. }=>false
 | .call { callee:=.builtin .append,.. }=>false
 | .call { callee:=.builtin .delete,.. }=>false
 | .call { callee:=.builtin .clear,.. }=>false
 | .alloc _=>false
 | .store _ _ _=>false
 | .makeMap _ none=>false
 | .makeSlice _ _ _=>false
 | .mapUpdate _ _ _ _=>false
 | _=>true
theorem nF{P:Program}{φ:AF}{st:aA}{o:Oper}{K:AV→aA→Prop}(h:iB o=true):cW P [] φ st o K=match gD P φ st o with | some r=>K r st | none=>False:=by
 obtain⟨dst,op,type,pos,after,guard⟩:=o
 unfold cW
 split
 case h_5 t x e=>
  simp only at e
  subst e
  simp only[qY,List.contains_nil,gD]
  cases dst<;>rfl
 case h_11=>rfl
 all_goals (rename_i e;simp only at e;subst e;simp [iB] at h)
def cZ(P:Program)(ops:Array Oper)(st:aA):List Oper→(AF→Prop)→AF→Prop
 | [],K,φ=>K φ
 | o::rest,K,φ=>if iB o=true then aM P [] ops [o] (fun φ' _=>cZ P ops st rest K φ') φ st else
  match o.guard,o.op with
  | none,.call { callee:=.value f,args,.. }=>∃r,lG P (φ.eval f) (args.toList.map φ.eval) st (fun r' st'=>r'=r∧st'=st)∧cZ P ops st rest K (φ.put o.dst r)
  | _,_=>False
theorem wV{P:Program}{ops:Array Oper}{st:aA}{K:AF→Prop}:∀(l:List Oper) (φ:AF),cZ P ops st l K φ→nC P st ops l K φ
 | [],_,h=>h
 | o::rest,φ,h=>by
  simp only[cZ] at h
  split at h
  · rename_i hp
    simp only[aM] at h
    simp only[nC]
    split at h
    · rename_i hg
      rw[nF hp] at h
      rw[hg]
      simp only
      split at h
      · rename_i r hr
        exact⟨r,by rw[nF hp,hr];exact⟨rfl,rfl⟩,wV rest _ h⟩
      · cases h
    · rename_i hg
      rw[hg]
      exact wV rest _ h
    · cases h
  · split at h
    · rename_i f args ats hg ho
      obtain⟨r,h1,h2⟩:=h
      simp only[nC,eF,hg]
      refine⟨r,?_,wV rest _ h2⟩
      simp only[cW,ho]
      exact h1
    · cases h
theorem GF{P:Program}{ops:Array Oper}{st:aA}{K:AF→Prop}{φ:AF}:cZ P ops st [] K φ=K φ:=rfl
def hK(P:Program)(ops:Array Oper)(st:aA)(rest:List Oper)(K:AF→Prop)(φ:AF)(_:aA):Prop:=cZ P ops st rest K φ
theorem KM{P:Program}{ops:Array Oper}{st st':aA}{K:AF→Prop}{φ:AF}{rest:List Oper}:hK P ops st rest K φ st'=cZ P ops st rest K φ:=rfl
theorem gA{P:Program}{ops:Array Oper}{st:aA}{K:AF→Prop}{φ:AF}{o:Oper}{rest:List Oper}(h:iB o=true):cZ P ops st (o::rest) K φ=aM P [] ops [o] (hK P ops st rest K) φ st:=by
 simp [cZ,h]
 rfl
def oK(P:Program)(f:AV)(args:List AV)(st:aA)(K:AV→Prop):Prop:=∃r,lG P f args st (fun r' st'=>r'=r∧st'=st)∧K r
def sD(P:Program)(ops:Array Oper)(st:aA)(rest:List Oper)(K:AF→Prop)(φ:AF)(dst:Option Tmp)(r:AV):Prop:=cZ P ops st rest K (φ.put dst r)
theorem US{P:Program}{ops:Array Oper}{st:aA}{K:AF→Prop}{φ:AF}{rest:List Oper}{dst:Option Tmp}{f:Operand}{args:List Operand}{ats:Array TypeId}{type:TypeId}{pos:String}{after:Array Edge} :
 cZ P ops st (⟨dst,.call { callee:=.value f,args:=args.toArray,argTypes:=ats },type,pos,after,none⟩::rest) K φ=oK P (φ.eval f) (args.map φ.eval) st (sD P ops st rest K φ dst):=by
 simp [cZ,iB,oK,sD]
section
variable {P:Program} {ops:Array Oper} {st:aA} {K:AF→Prop} {φ:AF} {rest:List Oper} {dst:Option Tmp} {type:TypeId} {pos:String} {after:Array Edge} {g:Option (Nat×Bool)}
theorem G1{f:Operand}{args:List Operand}{ats:Array TypeId} :
 cZ P ops st (⟨dst,.call { callee:=.value f,args:=args.toArray,argTypes:=ats },type,pos,after,none⟩::rest) K φ=oK P (φ.eval f) (args.map φ.eval) st (sD P ops st rest K φ dst):=US
theorem GG{x:Operand}:cZ P ops st (⟨dst,.move x,type,pos,after,g⟩::rest) K φ=aM P [] ops [⟨dst,.move x,type,pos,after,g⟩] (hK P ops st rest K) φ st:=gA rfl
theorem GS{x:Operand}:cZ P ops st (⟨dst,.assign x,type,pos,after,g⟩::rest) K φ=aM P [] ops [⟨dst,.assign x,type,pos,after,g⟩] (hK P ops st rest K) φ st:=gA rfl
theorem GT{c x y:Operand}:cZ P ops st (⟨dst,.pick c x y,type,pos,after,g⟩::rest) K φ=aM P [] ops [⟨dst,.pick c x y,type,pos,after,g⟩] (hK P ops st rest K) φ st:=gA rfl
theorem GU{op:BinOp}{t t':TypeId}{x y:Operand}:cZ P ops st (⟨dst,.binOp op t x y t',type,pos,after,g⟩::rest) K φ=aM P [] ops [⟨dst,.binOp op t x y t',type,pos,after,g⟩] (hK P ops st rest K) φ st:=gA rfl
theorem GV{op:UnOp}{t:TypeId}{x:Operand}:cZ P ops st (⟨dst,.unOp op t x,type,pos,after,g⟩::rest) K φ=aM P [] ops [⟨dst,.unOp op t x,type,pos,after,g⟩] (hK P ops st rest K) φ st:=gA rfl
theorem GW{x:Operand}:cZ P ops st (⟨dst,.nilCheck x,type,pos,after,g⟩::rest) K φ=aM P [] ops [⟨dst,.nilCheck x,type,pos,after,g⟩] (hK P ops st rest K) φ st:=gA rfl
theorem GX{t f:Nat}{x:Operand}:cZ P ops st (⟨dst,.fieldAddr t x f,type,pos,after,g⟩::rest) K φ=aM P [] ops [⟨dst,.fieldAddr t x f,type,pos,after,g⟩] (hK P ops st rest K) φ st:=gA rfl
theorem GY{t:TypeId}{x:Operand}:cZ P ops st (⟨dst,.load t x,type,pos,after,g⟩::rest) K φ=aM P [] ops [⟨dst,.load t x,type,pos,after,g⟩] (hK P ops st rest K) φ st:=gA rfl
theorem GZ{t f:Nat}{x:Operand}:cZ P ops st (⟨dst,.field t x f,type,pos,after,g⟩::rest) K φ=aM P [] ops [⟨dst,.field t x f,type,pos,after,g⟩] (hK P ops st rest K) φ st:=gA rfl
theorem GH{t:TypeId}{x i:Operand}:cZ P ops st (⟨dst,.indexAddr t x i,type,pos,after,g⟩::rest) K φ=aM P [] ops [⟨dst,.indexAddr t x i,type,pos,after,g⟩] (hK P ops st rest K) φ st:=gA rfl
theorem GI{t:TypeId}{x i:Operand}:cZ P ops st (⟨dst,.index t x i,type,pos,after,g⟩::rest) K φ=aM P [] ops [⟨dst,.index t x i,type,pos,after,g⟩] (hK P ops st rest K) φ st:=gA rfl
theorem GJ{t:TypeId}{x:Operand}{lo hi mx:Option Operand}:cZ P ops st (⟨dst,.slice t x lo hi mx,type,pos,after,g⟩::rest) K φ=aM P [] ops [⟨dst,.slice t x lo hi mx,type,pos,after,g⟩] (hK P ops st rest K) φ st:=gA rfl
theorem GK{x:Operand}{i:Nat}:cZ P ops st (⟨dst,.extract x i,type,pos,after,g⟩::rest) K φ=aM P [] ops [⟨dst,.extract x i,type,pos,after,g⟩] (hK P ops st rest K) φ st:=gA rfl
theorem GL{t:TypeId}{ps:Array (Nat×Operand)}:cZ P ops st (⟨dst,.build t ps,type,pos,after,g⟩::rest) K φ=aM P [] ops [⟨dst,.build t ps,type,pos,after,g⟩] (hK P ops st rest K) φ st:=gA rfl
theorem GM{t:TypeId}{n:Nat}{ps:Array (Nat×Operand)}:cZ P ops st (⟨dst,.buildSlice t n ps,type,pos,after,g⟩::rest) K φ=aM P [] ops [⟨dst,.buildSlice t n ps,type,pos,after,g⟩] (hK P ops st rest K) φ st:=gA rfl
theorem GN{t u:TypeId}{x:Operand}:cZ P ops st (⟨dst,.convert t u x,type,pos,after,g⟩::rest) K φ=aM P [] ops [⟨dst,.convert t u x,type,pos,after,g⟩] (hK P ops st rest K) φ st:=gA rfl
theorem GO{t:TypeId}{x i:Operand}{ok:Bool}:cZ P ops st (⟨dst,.lookup t x i ok,type,pos,after,g⟩::rest) K φ=aM P [] ops [⟨dst,.lookup t x i ok,type,pos,after,g⟩] (hK P ops st rest K) φ st:=gA rfl
theorem GP{x:Operand}{t:TypeId}:cZ P ops st (⟨dst,.call { callee:=.builtin .len,args:=#[x],argTypes:=#[t] },type,pos,after,g⟩::rest) K φ=aM P [] ops [⟨dst,.call { callee:=.builtin .len,args:=#[x],argTypes:=#[t] },type,pos,after,g⟩] (hK P ops st rest K) φ st:=gA rfl
theorem GQ{x y:Operand}{ts:Array TypeId}:cZ P ops st (⟨dst,.call { callee:=.builtin .max,args:=#[x,y],argTypes:=ts },type,pos,after,g⟩::rest) K φ=aM P [] ops [⟨dst,.call { callee:=.builtin .max,args:=#[x,y],argTypes:=ts },type,pos,after,g⟩] (hK P ops st rest K) φ st:=gA rfl
theorem GR{x y:Operand}{ts:Array TypeId}:cZ P ops st (⟨dst,.call { callee:=.builtin .min,args:=#[x,y],argTypes:=ts },type,pos,after,g⟩::rest) K φ=aM P [] ops [⟨dst,.call { callee:=.builtin .min,args:=#[x,y],argTypes:=ts },type,pos,after,g⟩] (hK P ops st rest K) φ st:=gA rfl
end
theorem G0{P:Program}{ops:Array Oper}{st:aA}{K:AF→Prop}{φ:AF}{rest:List Oper}{dst:Option Tmp}{r:AV}:sD P ops st rest K φ dst r=cZ P ops st rest K (φ.put dst r):=rfl
theorem eV{P:Program}{g:FuncId}{args:List AV}{st:aA}{r:AV}{K:AV→Prop}(x:aD P g args st (fun r' st'=>r'=r∧st'=st))(h:K r):oK P (.func g []) args st K:=⟨r,by show aD P g (args++ []) st _;rw[kF];exact x,h⟩
@[congr] theorem aHI {P:Program} {ops:Array Oper} {l:List Oper} {K:AF→Prop} {φ φ':AF} {st st':aA} (h1:φ=φ') (h2:st=st'):cZ P ops st l K φ=cZ P ops st' l K φ':=by rw[h1,h2]
@[congr] theorem aHN {P:Program} {f f':AV} {args lF:List AV} {st st':aA} {K:AV→Prop} (h0:f=f') (h1:args=lF) (h2:st=st'):oK P f args st K=oK P f' lF st' K:=by rw[h0,h1,h2]
@[congr] theorem aHQ {P:Program} {ops:Array Oper} {l:List Oper} {K:AF→Prop} {φ:AF} {st:aA} {dst:Option Tmp} {r r':AV} (h1:r=r'):sD P ops st l K φ dst r=sD P ops st l K φ dst r':=by rw[h1]
def rJ(P:Program)(ops:Array Oper)(st:aA)(K:AF→aA→Prop):Nat→List Oper→AF→Prop
 | 0,l,φ=>aM P [] ops l K φ st
 | _+1,[],_=>False
 | n+1,o::rest,φ=>cZ P ops st [o] (rJ P ops st K n rest) φ
theorem G3{P:Program}{ops:Array Oper}{st:aA}{K:AF→aA→Prop}{l:List Oper}{φ:AF}:rJ P ops st K 0 l φ=aM P [] ops l K φ st:=rfl
theorem G4{P:Program}{ops:Array Oper}{st:aA}{K:AF→aA→Prop}{n:Nat}{o:Oper}{l:List Oper}{φ:AF}:rJ P ops st K (n+1) (o::l) φ=cZ P ops st [o] (rJ P ops st K n l) φ:=rfl
theorem PC{P:Program}{mt:List Nat}{l:List Oper}{st:aA}{K:AF→aA→Prop}{φ:AF}:aM P mt l.toArray l.toArray.toList K φ st=aM P mt l.toArray l K φ st:=rfl
theorem PD{P:Program}{l:List Oper}{st:aA}{K:AF→Prop}{φ:AF}:cZ P l.toArray st l.toArray.toList K φ=cZ P l.toArray st l K φ:=rfl
theorem PE{P:Program}{n:Nat}{l:List Oper}{st:aA}{K:AF→aA→Prop}{φ:AF}:rJ P l.toArray st K n l.toArray.toList φ=rJ P l.toArray st K n l φ:=rfl
def GA(Q:Exit→AF→aA→Prop)(st:aA)(φ:AF):Prop:=Q .normal φ st
theorem J7{Q:Exit→AF→aA→Prop}{st:aA}{φ:AF}:GA Q st φ=Q .normal φ st:=rfl
theorem w8{P:Program}{st:aA}{N:Nat}{id:Nat}{ops:Array Oper}{Q:Exit→AF→aA→Prop}{φ:AF}(hm:P.follows .mixedOrders=true)(hok:lQ N ops=true)(hB:Region.lexB .any ops=true)
 (h:cZ P ops st ops.toList (GA Q st) φ):dT P N (.region id ops true) Q φ st:=
 VV hm hok hB (wV _ _ h)
theorem KU:AV.junk.isAgg=false:=rfl
theorem PZ:AV.junk.width=1:=rfl
theorem LB:AV.junk.bP=true:=rfl
theorem JQ:AV.junk.cells= [AV.junk]:=rfl
theorem NW:AV.junk.storable=false:=rfl
theorem K5:AV.undef.isAgg=false:=rfl
theorem QA:AV.undef.width=1:=rfl
theorem LM:AV.undef.bP=false:=rfl
theorem J1:AV.undef.cells= [AV.undef]:=rfl
theorem N6:AV.undef.storable=false:=rfl
theorem KT{k:IntKind}{n:Int}:(AV.int k n).isAgg=false:=rfl
theorem PY{k:IntKind}{n:Int}:(AV.int k n).width=1:=rfl
theorem LA{k:IntKind}{n:Int}:(AV.int k n).bP=false:=rfl
theorem JP{k:IntKind}{n:Int}:(AV.int k n).cells= [(AV.int k n)]:=rfl
theorem NV{k:IntKind}{n:Int}:(AV.int k n).storable=true:=rfl
theorem KQ{b:Bool}:(AV.bool b).isAgg=false:=rfl
theorem PV{b:Bool}:(AV.bool b).width=1:=rfl
theorem K7{b:Bool}:(AV.bool b).bP=false:=rfl
theorem JM{b:Bool}:(AV.bool b).cells= [(AV.bool b)]:=rfl
theorem NS{b:Bool}:(AV.bool b).storable=true:=rfl
theorem K3{s:ByteArray}:(AV.str s).isAgg=false:=rfl
theorem P8{s:ByteArray}:(AV.str s).width=1:=rfl
theorem LK{s:ByteArray}:(AV.str s).bP=false:=rfl
theorem JZ{s:ByteArray}:(AV.str s).cells= [(AV.str s)]:=rfl
theorem N4{s:ByteArray}:(AV.str s).storable=true:=rfl
theorem K4{vs:List AV}:(AV.tup vs).isAgg=false:=rfl
theorem P9{vs:List AV}:(AV.tup vs).width=1:=rfl
theorem LL{vs:List AV}:(AV.tup vs).bP=false:=rfl
theorem J0{vs:List AV}:(AV.tup vs).cells= [(AV.tup vs)]:=rfl
theorem N5{vs:List AV}:(AV.tup vs).storable=false:=rfl
theorem K2{es:List AV}:(AV.slice es).isAgg=false:=rfl
theorem P7{es:List AV}:(AV.slice es).width=1:=rfl
theorem LJ{es:List AV}:(AV.slice es).bP=false:=rfl
theorem JY{es:List AV}:(AV.slice es).cells= [(AV.slice es)]:=rfl
theorem N3{es:List AV}:(AV.slice es).storable=true:=rfl
theorem KR{es:List AV}:(AV.fslice es).isAgg=false:=rfl
theorem PW{es:List AV}:(AV.fslice es).width=1:=rfl
theorem K8{es:List AV}:(AV.fslice es).bP=false:=rfl
theorem JN{es:List AV}:(AV.fslice es).cells= [(AV.fslice es)]:=rfl
theorem NT{es:List AV}:(AV.fslice es).storable=true:=rfl
theorem KW{b:Nat}{o:Nat}{l:Nat}{m:Nat}:(AV.mslice b o l m).isAgg=false:=rfl
theorem P1{b:Nat}{o:Nat}{l:Nat}{m:Nat}:(AV.mslice b o l m).width=1:=rfl
theorem LD{b:Nat}{o:Nat}{l:Nat}{m:Nat}:(AV.mslice b o l m).bP=false:=rfl
theorem JS{b:Nat}{o:Nat}{l:Nat}{m:Nat}:(AV.mslice b o l m).cells= [(AV.mslice b o l m)]:=rfl
theorem NY{b:Nat}{o:Nat}{l:Nat}{m:Nat}:(AV.mslice b o l m).storable=true:=rfl
theorem KY:AV.nilptr.isAgg=false:=rfl
theorem P3:AV.nilptr.width=1:=rfl
theorem LF:AV.nilptr.bP=false:=rfl
theorem JU:AV.nilptr.cells= [AV.nilptr]:=rfl
theorem N0:AV.nilptr.storable=true:=rfl
theorem K0{b:Nat}{o:Nat}:(AV.ptr b o).isAgg=false:=rfl
theorem P5{b:Nat}{o:Nat}:(AV.ptr b o).width=1:=rfl
theorem LH{b:Nat}{o:Nat}:(AV.ptr b o).bP=false:=rfl
theorem JW{b:Nat}{o:Nat}:(AV.ptr b o).cells= [(AV.ptr b o)]:=rfl
theorem N2{b:Nat}{o:Nat}:(AV.ptr b o).storable=true:=rfl
theorem KZ{e:AV}:(AV.pptr e).isAgg=false:=rfl
theorem P4{e:AV}:(AV.pptr e).width=1:=rfl
theorem LG{e:AV}:(AV.pptr e).bP=false:=rfl
theorem JV{e:AV}:(AV.pptr e).cells= [(AV.pptr e)]:=rfl
theorem N1{e:AV}:(AV.pptr e).storable=true:=rfl
theorem KX:AV.nilmap.isAgg=false:=rfl
theorem P2:AV.nilmap.width=1:=rfl
theorem LE:AV.nilmap.bP=false:=rfl
theorem JT:AV.nilmap.cells= [AV.nilmap]:=rfl
theorem NZ:AV.nilmap.storable=true:=rfl
theorem KV{b:Nat}:(AV.map b).isAgg=false:=rfl
theorem P0{b:Nat}:(AV.map b).width=1:=rfl
theorem LC{b:Nat}:(AV.map b).bP=false:=rfl
theorem JR{b:Nat}:(AV.map b).cells= [(AV.map b)]:=rfl
theorem NX{b:Nat}:(AV.map b).storable=true:=rfl
theorem KS{f:FuncId}{cs:List AV}:(AV.func f cs).isAgg=false:=rfl
theorem PX{f:FuncId}{cs:List AV}:(AV.func f cs).width=1:=rfl
theorem K9{f:FuncId}{cs:List AV}:(AV.func f cs).bP=false:=rfl
theorem JO{f:FuncId}{cs:List AV}:(AV.func f cs).cells= [(AV.func f cs)]:=rfl
theorem NU{f:FuncId}{cs:List AV}:(AV.func f cs).storable=true:=rfl
theorem K1{v:Value}:(AV.raw v).isAgg=false:=rfl
theorem P6{v:Value}:(AV.raw v).width=1:=rfl
theorem LI{v:Value}:(AV.raw v).bP=false:=rfl
theorem JX{v:Value}:(AV.raw v).cells= [(AV.raw v)]:=rfl
theorem KP{cs:List AV}:(AV.agg cs).isAgg=true:=rfl
theorem PU{cs:List AV}:(AV.agg cs).width=cs.length:=rfl
theorem K6{cs:List AV}:(AV.agg cs).bP=false:=rfl
theorem JL{cs:List AV}:(AV.agg cs).cells=cs:=rfl
theorem JJ:((0:Nat):Int)=0:=rfl
theorem JK{n:Nat}:((n+1:Nat):Int)=(n:Int)+1:=rfl
theorem mP{st:aA}{b x:Nat}{o:AO}:(st.aC b o) x=if x=b then some o else st x:=rfl
theorem wrap64{n:Int}(h1: -9223372036854775808≤n)(h2:n≤9223372036854775807):IntKind.wrap .i64 n=n:=by
 rw[IntKind.wrap_i64];omega
end Go.AW
