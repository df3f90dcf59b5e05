/- Smaller stores, frozen slices, sizes, frames as lists, regions that draw. -/
import Derived.Test.YthigelfjekcbmaaGreatDoorSlsd
set_option linter.unusedSimpArgs false
set_option linter.unusedVariables false
set_option maxRecDepth 100000
namespace Go.AW
def aM(st st':aA):Prop:=∀b,(st b=none→st' b=none)∧∀o,st' b=some o→st b=some o
theorem aM.refl(st:aA):aM st st:=fun _=>⟨id,fun _=>id⟩
theorem aM.trans{a b c:aA}(x:aM a b)(y:aM b c):aM a c:=fun i=>⟨fun h=>(y i).1 ((x i).1 h),fun o h=>(x i).2 o ((y i).2 o h)⟩
theorem aM.aC{st st':aA}(x:aM st st'){b:Nat}{o:AO}(h:st' b=none):aM (st.aC b o) st':=fun i=>by
 simp only[aA.aC]
 split
 · rename_i e;subst e;exact⟨fun _=>h,fun o' h'=>by rw[h] at h';cases h'⟩
 · exact x i
theorem iQ(st:aA)(b:Nat):aM st (st.erase b):=fun i=>by
 simp only[aA.erase]
 split
 · exact⟨fun _=>rfl,fun o' h'=>by cases h'⟩
 · exact⟨id,fun _=>id⟩
theorem aM.step{st st':aA}(x:aM st st')(h:a9):bZ h st h st':=⟨cT _,fun b _ e=>⟨rfl,(x b).1 e⟩,fun _ c _ _ e=>⟨c,e,rfl⟩⟩
theorem aM.ED{st st':aA}(x:aM st st'){h:a9}(S:cH h st):cH h st':=fun b o e=>by
 obtain⟨h1,h2⟩:=S b o ((x b).2 o e)
 refine⟨h1,?_⟩
 cases o with
 | cells as=>
  obtain⟨c,t,e1,e2,vs,e3,e4⟩:=h2
  exact⟨c,t,e1,e2,vs,e3,aV.mono (x.step h) _ _ e4⟩
 | map f=>
  obtain⟨es,clock,e1,e2,e3,e4⟩:=h2
  refine⟨es,clock,e1,e2,e3,fun n=>?_⟩
  have:=e4 n
  cases hf:f n with
  | none=>rw[hf] at this;exact this
  | some a=>
   rw[hf] at this
   obtain⟨e,m,k,v⟩:=this
   exact⟨e,m,k,v.mono (x.step h)⟩
theorem aM.uF{st st':aA}(x:aM st st'):PT st st':=fun h S=>⟨x.ED S,x.step h⟩
theorem aM.lQ{st st':aA}(x:aM st st')(r:AV):PS st r st' r:=fun h _ _ y=>y.mono (x.step h)
theorem aD.drop{P:Program}{g:FuncId}{args:List AV}{st:aA}{Q:AV→Prop}(x:aD P g args st (fun r st'=>aM st' st∧Q r)):aD P g args st (fun r st'=>Q r∧st'=st):=
 x.lQ fun r st' ⟨h1,h2⟩=>⟨r,st,h1.uF,h1.lQ r,h2,rfl⟩
mutual
def AV.fz(b:Nat)(es:List AV):AV→AV
 | .mslice b' 0 n sz=>if b'=b∧n=es.length then .slice es else .mslice b' 0 n sz
 | .agg cs=>.agg (iZ b es cs)
 | .tup vs=>.tup (iZ b es vs)
 | a=>a
def iZ(b:Nat)(es:List AV):List AV→List AV
 | []=>[]
 | a::as=>AV.fz b es a::iZ b es as
end
theorem aDZ(b:Nat)(es:List AV)(a:AV):(a.fz b es).isAgg=a.isAgg:=by
 cases a<;>try rfl
 case mslice b' off n sz=>
  cases off with
  | zero=>simp only[AV.fz];split<;>rfl
  | succ k=>rfl
section
variable {h:a9} {st:aA} {b:Nat} {es:List AV}
theorem frozen(S:cH h st)(hb:st b=some (.cells (es.flatMap AV.cells)))(hj:∀e∈es,e.cA=false):b<h.size∧cX h (st.erase b) b 0 es:=by
 obtain⟨h1,c,t,e1,e2,vs,e3,e4⟩:=S b _ hb
 exact⟨h1,cX.mono ((iQ st b).step h) b rfl _ _ (BP hj e3 e4)⟩
theorem VC.aPM{b' off n sz:Nat}{cs:List Value}(S:cH h st)(hb:st b=some (.cells (es.flatMap AV.cells)))(hj:∀e∈es,e.cA=false)(hE:iV es)(x:VC h st (.mslice b' off n sz) cs):VC h (st.erase b) ((AV.mslice b' off n sz).fz b es) cs:=by
 have x0:VC h (st.erase b) (.mslice b' off n sz) cs:=VC.mono ((iQ st b).step h) _ _ x
 cases off with
 | succ k=>exact x0
 | zero=>
  simp only[AV.fz]
  split
  · rename_i e
    obtain⟨rfl,rfl⟩:=e
    simp only[VC] at x
    obtain⟨cap,e1,l1,l2,c,t,_,_⟩:=x
    obtain⟨hs,hE'⟩:=frozen S hb hj
    unfold VC
    exact .inr ⟨b',0,cap,e1,l1,l2,aA.SU _ _,hs,hE,hE'⟩
  · exact x0
mutual
theorem VC.fz(S:cH h st)(hb:st b=some (.cells (es.flatMap AV.cells)))(hj:∀e∈es,e.cA=false)(hE:iV es):∀(a:AV) (cs:List Value),VC h st a cs→VC h (st.erase b) (a.fz b es) cs
 | .mslice b' off n sz,cs,x=>VC.aPM S hb hj hE x
 | .agg as,cs,x=>by simp only[VC,AV.fz] at x ⊢;exact aV.fz S hb hj hE as cs x
 | .tup as,cs,x=>by
  simp only[VC,AV.fz] at x ⊢
  obtain⟨vs,e,r⟩:=x
  exact⟨vs,e,dB.fz S hb hj hE as vs r⟩
 | .junk,cs,x=>VC.mono ((iQ st b).step h) _ _ x
 | .undef,cs,x=>VC.mono ((iQ st b).step h) _ _ x
 | .int _ _,cs,x=>VC.mono ((iQ st b).step h) _ _ x
 | .bool _,cs,x=>VC.mono ((iQ st b).step h) _ _ x
 | .str _,cs,x=>VC.mono ((iQ st b).step h) _ _ x
 | .slice _,cs,x=>VC.mono ((iQ st b).step h) _ _ x
 | .fslice _,cs,x=>VC.mono ((iQ st b).step h) _ _ x
 | .nilptr,cs,x=>VC.mono ((iQ st b).step h) _ _ x
 | .ptr _ _,cs,x=>VC.mono ((iQ st b).step h) _ _ x
 | .pptr _,cs,x=>VC.mono ((iQ st b).step h) _ _ x
 | .nilmap,cs,x=>VC.mono ((iQ st b).step h) _ _ x
 | .map _,cs,x=>VC.mono ((iQ st b).step h) _ _ x
 | .func _ _,cs,x=>VC.mono ((iQ st b).step h) _ _ x
 | .raw _,cs,x=>VC.mono ((iQ st b).step h) _ _ x
 | .eslice,cs,x=>VC.mono ((iQ st b).step h) _ _ x
theorem aV.fz(S:cH h st)(hb:st b=some (.cells (es.flatMap AV.cells)))(hj:∀e∈es,e.cA=false)(hE:iV es):∀(as:List AV) (cs:List Value),aV h st as cs→aV h (st.erase b) (iZ b es as) cs
 | [],_,x=>x
 | a::as,cs,x=>by
  simp only[aV,iZ] at x ⊢
  obtain⟨c,r,e,x1,x2⟩:=x
  exact⟨c,r,e,VC.fz S hb hj hE a [c] x1,aV.fz S hb hj hE as r x2⟩
theorem dB.fz(S:cH h st)(hb:st b=some (.cells (es.flatMap AV.cells)))(hj:∀e∈es,e.cA=false)(hE:iV es):∀(as:List AV) (cs:List Value),dB h st as cs→dB h (st.erase b) (iZ b es as) cs
 | [],_,x=>x
 | a::as,cs,x=>by
  simp only[dB,iZ] at x ⊢
  obtain⟨v,r,e,x1,x2⟩:=x
  exact⟨v,r,e,⟨(aDZ b es a).trans x1.1,VC.fz S hb hj hE a _ x1.2⟩,dB.fz S hb hj hE as r x2⟩
end
theorem aN.fz{a:AV}{v:Value}(S:cH h st)(hb:st b=some (.cells (es.flatMap AV.cells)))(hj:∀e∈es,e.cA=false)(hE:iV es)(x:aN h st a v):aN h (st.erase b) (a.fz b es) v:=by
 have key:a.isAgg=jH v∧VC h st a v.cells.toList→aN h (st.erase b) (a.fz b es) v:=fun x=>by
  have y:(a.fz b es).isAgg=jH v∧VC h (st.erase b) (a.fz b es) v.cells.toList:=⟨(aDZ b es a).trans x.1,VC.fz S hb hj hE a _ x.2⟩
  cases hq:a.fz b es<;>rw[hq] at y<;>first | trivial | exact y
 cases a<;>first | trivial | exact key x
end
theorem fD.freeze{φ:AF}{st:aA}{b:Nat}{es:List AV}(h1:st b=some (.cells (es.flatMap AV.cells)))(h2:∀e∈es,e.cA=false)(h3:iV es):fD φ st (fun d=>(φ d).fz b es) (st.erase b):=
 fun h _ S F=>⟨(iQ st b).ED S,(iQ st b).step h,fun d=>(F d).fz S h1 h2 h3⟩
theorem fD.drop{φ:AF}{st st':aA}(x:aM st st'):fD φ st φ st':=fun h _ S F=>⟨x.ED S,x.step h,fun d=>(F d).mono (x.step h)⟩
mutual
def AV.soft:AV→AV
 | .fslice es=>.slice es
 | .agg cs=>.agg (mO cs)
 | .tup vs=>.tup (mO vs)
 | a=>a
def mO:List AV→List AV
 | []=>[]
 | a::as=>a.soft::mO as
end
theorem aUS(a:AV):a.soft.isAgg=a.isAgg:=by cases a<;>rfl
section
variable {h:a9} {st:aA}
mutual
theorem VC.soft:∀(a:AV) (cs:List Value),VC h st a cs→VC h st a.soft cs
 | .fslice es,cs,x=>by
  simp only[AV.soft]
  unfold VC at x ⊢
  rcases x with x | ⟨b,off,e,l,r⟩
  · exact .inl x
  · exact .inr ⟨b,off,es.length,e,cT _,l,r⟩
 | .agg as,cs,x=>by simp only[VC,AV.soft] at x ⊢;exact aV.soft as cs x
 | .tup as,cs,x=>by
  simp only[VC,AV.soft] at x ⊢
  obtain⟨vs,e,r⟩:=x
  exact⟨vs,e,dB.soft as vs r⟩
 | .mslice _ _ _ _,cs,x=>x
 | .junk,cs,x=>x
 | .undef,cs,x=>x
 | .int _ _,cs,x=>x
 | .bool _,cs,x=>x
 | .str _,cs,x=>x
 | .slice _,cs,x=>x
 | .nilptr,cs,x=>x
 | .ptr _ _,cs,x=>x
 | .pptr _,cs,x=>x
 | .nilmap,cs,x=>x
 | .map _,cs,x=>x
 | .func _ _,cs,x=>x
 | .raw _,cs,x=>x
 | .eslice,cs,x=>x
theorem aV.soft:∀(as:List AV) (cs:List Value),aV h st as cs→aV h st (mO as) cs
 | [],_,x=>x
 | a::as,cs,x=>by
  simp only[aV,mO] at x ⊢
  obtain⟨c,r,e,x1,x2⟩:=x
  exact⟨c,r,e,VC.soft a [c] x1,aV.soft as r x2⟩
theorem dB.soft:∀(as:List AV) (cs:List Value),dB h st as cs→dB h st (mO as) cs
 | [],_,x=>x
 | a::as,cs,x=>by
  simp only[dB,mO] at x ⊢
  obtain⟨v,r,e,x1,x2⟩:=x
  exact⟨v,r,e,⟨(aUS a).trans x1.1,VC.soft a _ x1.2⟩,dB.soft as r x2⟩
end
theorem aN.soft{a:AV}{v:Value}(x:aN h st a v):aN h st a.soft v:=by
 cases a
 case fslice=>exact x.C9
 case agg=>exact⟨x.1,VC.soft _ _ x.2⟩
 case tup=>exact⟨x.1,VC.soft _ _ x.2⟩
 all_goals exact x
end
theorem aD.soft{P:Program}{g:FuncId}{args:List AV}{st:aA}{Q:AV→aA→Prop}(x:aD P g args st (fun r st'=>Q r.soft st')):aD P g args st Q:=
 x.lQ fun r st' h=>⟨r.soft,st',(aM.refl st').uF,fun _ _ _ y=>y.soft,h⟩
theorem aD.EC{P:Program}{g:FuncId}{args:List AV}{st:aA}{Q:AV→aA→Prop}(x:aD P g (mO args) st Q):aD P g args st Q:=
 x.args fun hp=>by
  have:∀(as:List AV) (vs:List Value),cK hp st as vs→cK hp st (mO as) vs:=by
   intro as
   induction as with
   | nil=>intro vs y;exact y
   | cons a as ih=>
    intro vs y
    simp only[cK,mO] at y ⊢
    obtain⟨v,r,rfl,y1,y2⟩:=y
    exact⟨v,r,rfl,y1.soft,ih r y2⟩
  exact fun vs _=>this args vs
mutual
def AV.fits:AV→Prop
 | .str s=>s.size≤9223372036854775807
 | .agg cs=>dK cs
 | .tup vs=>dK vs
 | .slice es=>es.length≤9223372036854775807∧dK es
 | .fslice es=>es.length≤9223372036854775807∧dK es
 | .mslice _ _ n _=>n≤9223372036854775807
 | .pptr e=>e.fits
 | _=>True
def dK:List AV→Prop
 | []=>True
 | a::as=>a.fits∧dK as
end
section
variable {h:a9} {st:aA}
mutual
theorem VC.fits:∀(a:AV) (cs:List Value),VC h st a cs→a.fits
 | .str s,cs,x=>by simp only[VC,maxLen] at x;exact x.2
 | .agg as,cs,x=>by simp only[VC,AV.fits] at x ⊢;exact aV.fits as cs x
 | .tup as,cs,x=>by
  simp only[VC,AV.fits] at x ⊢
  obtain⟨vs,e,r⟩:=x
  exact dB.fits as vs r
 | .slice es,cs,x=>by
  simp only[VC,AV.fits] at x ⊢
  rcases x with ⟨⟨p0,_⟩,rfl⟩ | ⟨b,off,cap,_,l1,l2,_,_,_,r⟩
  · exact⟨by simp,trivial⟩
  · exact⟨wH l1 l2,cX.fits es off r⟩
 | .fslice es,cs,x=>by
  simp only[VC,AV.fits] at x ⊢
  rcases x with ⟨⟨p0,_⟩,rfl⟩ | ⟨b,off,_,l1,_,_,_,r⟩
  · exact⟨by simp,trivial⟩
  · exact⟨l1,cX.fits es off r⟩
 | .mslice _ _ n _,cs,x=>by
  simp only[VC,AV.fits] at x ⊢
  obtain⟨cap,_,l1,l2,_⟩:=x
  exact wH l1 l2
 | .pptr e,cs,x=>by
  simp only[VC,AV.fits] at x ⊢
  obtain⟨b,off,_,_,_,vs,_,_,y⟩:=x
  exact VC.fits e vs y
 | .junk,cs,x=>trivial
 | .undef,cs,x=>trivial
 | .int _ _,cs,x=>trivial
 | .bool _,cs,x=>trivial
 | .nilptr,cs,x=>trivial
 | .ptr _ _,cs,x=>trivial
 | .nilmap,cs,x=>trivial
 | .map _,cs,x=>trivial
 | .func _ _,cs,x=>trivial
 | .raw _,cs,x=>trivial
 | .eslice,cs,x=>trivial
theorem aV.fits:∀(as:List AV) (cs:List Value),aV h st as cs→dK as
 | [],_,x=>trivial
 | a::as,cs,x=>by
  simp only[aV] at x
  obtain⟨c,r,e,x1,x2⟩:=x
  exact⟨VC.fits a [c] x1,aV.fits as r x2⟩
theorem dB.fits:∀(as:List AV) (cs:List Value),dB h st as cs→dK as
 | [],_,x=>trivial
 | a::as,cs,x=>by
  simp only[dB] at x
  obtain⟨v,r,e,x1,x2⟩:=x
  exact⟨VC.fits a _ x1.2,dB.fits as r x2⟩
theorem cX.fits{b:Nat}:∀(as:List AV) (off:Nat),cX h st b off as→dK as
 | [],_,x=>trivial
 | a::as,off,x=>by
  simp only[cX] at x
  obtain⟨⟨cs,_,_,x3⟩,x4⟩:=x
  exact⟨VC.fits a cs x3,cX.fits as _ x4⟩
end
theorem aN.fits{a:AV}{v:Value}(x:aN h st a v):a.fits:=by
 cases a<;>first | trivial | exact VC.fits _ _ x.2
theorem cK.fits:∀ {as:List AV} {vs:List Value},cK h st as vs→dK as
 | [],_,_=>trivial
 | a::as,vs,x=>by
  simp only[cK] at x
  obtain⟨v,r,_,x1,x2⟩:=x
  exact⟨x1.fits,cK.fits x2⟩
end
theorem zw6{P:Program}{g:FuncId}{fn:Func}{c:Code}{args:List AV}{st:aA}{N:Nat}{rs:List ResultVar}{K:AV→aA→Prop}(mt:List Nat)(hf:P.funcs[g]?=some fn)(hN:fn.ntmps=N)(hr:fn.results=rs.toArray)(hb:fn.body=some c)(hn:(fn.name == "runtime.NumGoroutine")=false)
 (hok:codeOk N c=true) (w4:args.length≤N) (e:dK args→fA P N mt c (D6 P rs.toArray K) (rK 0 args) st):aD P g args st K:=by
 subst hN
 rw[←hr] at e
 exact⟨⟨fn,hf,by simp [hb],hn⟩,fun w vs S V=>(aJ2 mt hf hb hn hok w4 (e V.fits)).2 w vs S V⟩
def iY:List (Nat×AV)→AF
 | []=>AF.bot
 | (d,v)::l=>(iY l).aC d v
def w5(φ:AF):List (Nat×AV)→Prop
 | []=>True
 | (d,v)::l=>φ d=v∧w5 φ l
theorem fD.iY{φ:AF}{st:aA}:∀ {l:List (Nat×AV)},w5 φ l→fD φ st (iY l) st
 | [],_=>fD.bot φ st
 | (d,v)::l,h=>(fD.iY h.2).aC h.1
theorem XK{φ:AF}:w5 φ []=True:=rfl
theorem XL{φ:AF}{d:Nat}{v:AV}{l:List (Nat×AV)}:w5 φ ((d,v)::l)=(φ d=v∧w5 φ l):=rfl
theorem aD.to{P:Program}{g:FuncId}{args:List AV}{st:aA}{r:AV}{K:AV→aA→Prop}(x:aD P g args st (fun r' st'=>r'=r∧st'=st))(h:K r st):aD P g args st K:=
 x.mono fun _ _ ⟨e1,e2⟩=>by rw[e1,e2];exact h
theorem B4{P:Program}{N:Nat}(mt:List Nat){c:Code}{Q:Exit→AF→aA→Prop}{φ:AF}{st:aA}(hok:codeOk N c=true)(e:fA P N mt c Q φ st):fH P N c Q φ st:=wL c Q φ st hok e
def tL(l:List (Nat×AV)):AF:=iY l
theorem XE:tL []=AF.bot:=rfl
theorem XD{d:Nat}{v:AV}{l:List (Nat×AV)}:tL ((d,v)::l)=(tL l).aC d v:=rfl
def aR(φ:AF)(st:aA)(l:List (Nat×AV))(st':aA):Prop:=fD φ st (iY l) st'
theorem aR.mk{φ:AF}{st:aA}{l:List (Nat×AV)}(h:w5 φ l):aR φ st l st:=fD.iY h
theorem aR.drop{φ:AF}{st st':aA}{l:List (Nat×AV)}(d:aM st st')(h:w5 φ l):aR φ st l st':=(fD.drop d).trans (fD.iY h)
theorem nQ{P:Program}{N:Nat}{c:Code}{Q:Exit→AF→aA→Prop}{φ:AF}{st:aA}{α:Type}(mt:List Nat)(inv:α→Prop)(fl:α→List (Nat×AV))(so:α→aA)(μ:α→Nat)(hok:codeOk N c=true)
 (h0:∃s,inv s∧aR φ st (fl s) (so s))
 (h1:∀s,inv s→fA P N mt c (nH (fun φ' st'=>∃s',μ s'<μ s∧inv s'∧aR φ' st' (fl s') (so s')) Q) (tL (fl s)) (so s)):fH P N (.loop c) Q φ st:=
 KM inv (fun s=>iY (fl s)) so μ h0 fun s hs=>B4 mt hok (h1 s hs)
theorem cS{P:Program}{mt:List Nat}{ops:Array Oper}{o:Oper}{l:List Oper}{K:AF→aA→Prop}{φ:AF}{st:aA}{c want:Bool}
 (h1:c=want→tW P mt ops o l K φ st (some true)) (h2:c=(!want)→tW P mt ops o l K φ st (some false)):tW P mt ops o l K φ st (some (c == want)):=by
 cases c<;>cases want<;>first | exact h1 rfl | exact h2 rfl
def jA(o:Oper):Bool:=match o.op with
 | .call { callee:=.value _,.. }=>false
 | .call { callee:=.builtin .append,.. }=>false
 | .call { callee:=.builtin .delete,.. }=>false
 | .alloc _=>false
 | .store _ _ _=>false
 | .makeMap _ none=>false
 | .makeSlice _ _ _=>false
 | .mapUpdate _ _ _ _=>false
 | _=>true
theorem qC{P:Program}{φ:AF}{st:aA}{o:Oper}{K:AV→aA→Prop}(h:jA o=true):eF P [] φ st o K=match jQ P φ st o with | some r=>K r st | none=>False:=by
 obtain⟨dst,op,type,pos,after,guard⟩:=o
 unfold eF
 split
 case h_4 t x e=>
  simp only at e
  subst e
  simp only[x6,List.contains_nil,jQ]
  cases dst<;>rfl
 case h_10=>rfl
 all_goals (rename_i e;simp only at e;subst e;simp [jA] at h)
def d7(P:Program)(ops:Array Oper)(st:aA):List Oper→(AF→Prop)→AF→Prop
 | [],K,φ=>K φ
 | o::rest,K,φ=>if jA o=true then aZ P [] ops [o] (fun φ' _=>d7 P ops st rest K φ') φ st else
  match o.guard,o.op with
  | none,.call { callee:=.value f,args,.. }=>∃r,qG P (φ.eval f) (args.toList.map φ.eval) st (fun r' st'=>r'=r∧st'=st)∧d7 P ops st rest K (φ.put o.dst r)
  | _,_=>False
theorem BV{P:Program}{ops:Array Oper}{st:aA}{K:AF→Prop}:∀(l:List Oper) (φ:AF),d7 P ops st l K φ→nS P st ops l K φ
 | [],_,h=>h
 | o::rest,φ,h=>by
  simp only[d7] at h
  split at h
  · rename_i hp
    simp only[aZ] at h
    simp only[nS]
    split at h
    · rename_i hg
      rw[qC hp] at h
      rw[hg]
      simp only
      split at h
      · rename_i r hr
        exact⟨r,by rw[qC hp,hr];exact⟨rfl,rfl⟩,BV rest _ h⟩
      · cases h
    · rename_i hg
      rw[hg]
      exact BV rest _ h
    · cases h
  · split at h
    · rename_i f args ats hg ho
      obtain⟨r,h1,h2⟩:=h
      simp only[nS,gZ,hg]
      refine⟨r,?_,BV rest _ h2⟩
      simp only[eF,ho]
      exact h1
    · cases h
theorem SZ{P:Program}{ops:Array Oper}{st:aA}{K:AF→Prop}{φ:AF}:d7 P ops st [] K φ=K φ:=rfl
def hK(P:Program)(ops:Array Oper)(st:aA)(rest:List Oper)(K:AF→Prop)(φ:AF)(_:aA):Prop:=d7 P ops st rest K φ
theorem XJ{P:Program}{ops:Array Oper}{st st':aA}{K:AF→Prop}{φ:AF}{rest:List Oper}:hK P ops st rest K φ st'=d7 P ops st rest K φ:=rfl
theorem jN{P:Program}{ops:Array Oper}{st:aA}{K:AF→Prop}{φ:AF}{o:Oper}{rest:List Oper}(h:jA o=true):d7 P ops st (o::rest) K φ=aZ P [] ops [o] (hK P ops st rest K) φ st:=by
 simp [d7,h]
 rfl
def u7(P:Program)(f:AV)(args:List AV)(st:aA)(K:AV→Prop):Prop:=∃r,qG P f args st (fun r' st'=>r'=r∧st'=st)∧K r
def G8(P:Program)(ops:Array Oper)(st:aA)(rest:List Oper)(K:AF→Prop)(φ:AF)(dst:Option Tmp)(r:AV):Prop:=d7 P ops st rest K (φ.put dst r)
theorem aI5{P:Program}{ops:Array Oper}{st:aA}{K:AF→Prop}{φ:AF}{rest:List Oper}{dst:Option Tmp}{f:Operand}{args:List Operand}{ats:Array TypeId}{type:TypeId}{pos:String}{after:Array Edge} :
 d7 P ops st (⟨dst,.call { callee:=.value f,args:=args.toArray,argTypes:=ats },type,pos,after,none⟩::rest) K φ=u7 P (φ.eval f) (args.map φ.eval) st (G8 P ops st rest K φ dst):=by
 simp [d7,jA,u7,G8]
section
variable {P:Program} {ops:Array Oper} {st:aA} {K:AF→Prop} {φ:AF} {rest:List Oper} {dst:Option Tmp} {type:TypeId} {pos:String} {after:Array Edge} {g:Option (Nat×Bool)}
theorem TN{f:Operand}{args:List Operand}{ats:Array TypeId} :
 d7 P ops st (⟨dst,.call { callee:=.value f,args:=args.toArray,argTypes:=ats },type,pos,after,none⟩::rest) K φ=u7 P (φ.eval f) (args.map φ.eval) st (G8 P ops st rest K φ dst):=aI5
theorem S0{x:Operand}:d7 P ops st (⟨dst,.move x,type,pos,after,g⟩::rest) K φ=aZ P [] ops [⟨dst,.move x,type,pos,after,g⟩] (hK P ops st rest K) φ st:=jN rfl
theorem TE{x:Operand}:d7 P ops st (⟨dst,.assign x,type,pos,after,g⟩::rest) K φ=aZ P [] ops [⟨dst,.assign x,type,pos,after,g⟩] (hK P ops st rest K) φ st:=jN rfl
theorem TF{c x y:Operand}:d7 P ops st (⟨dst,.pick c x y,type,pos,after,g⟩::rest) K φ=aZ P [] ops [⟨dst,.pick c x y,type,pos,after,g⟩] (hK P ops st rest K) φ st:=jN rfl
theorem TG{op:BinOp}{t t':TypeId}{x y:Operand}:d7 P ops st (⟨dst,.binOp op t x y t',type,pos,after,g⟩::rest) K φ=aZ P [] ops [⟨dst,.binOp op t x y t',type,pos,after,g⟩] (hK P ops st rest K) φ st:=jN rfl
theorem TH{op:UnOp}{t:TypeId}{x:Operand}:d7 P ops st (⟨dst,.unOp op t x,type,pos,after,g⟩::rest) K φ=aZ P [] ops [⟨dst,.unOp op t x,type,pos,after,g⟩] (hK P ops st rest K) φ st:=jN rfl
theorem TI{x:Operand}:d7 P ops st (⟨dst,.nilCheck x,type,pos,after,g⟩::rest) K φ=aZ P [] ops [⟨dst,.nilCheck x,type,pos,after,g⟩] (hK P ops st rest K) φ st:=jN rfl
theorem TJ{t f:Nat}{x:Operand}:d7 P ops st (⟨dst,.fieldAddr t x f,type,pos,after,g⟩::rest) K φ=aZ P [] ops [⟨dst,.fieldAddr t x f,type,pos,after,g⟩] (hK P ops st rest K) φ st:=jN rfl
theorem TK{t:TypeId}{x:Operand}:d7 P ops st (⟨dst,.load t x,type,pos,after,g⟩::rest) K φ=aZ P [] ops [⟨dst,.load t x,type,pos,after,g⟩] (hK P ops st rest K) φ st:=jN rfl
theorem TL{t f:Nat}{x:Operand}:d7 P ops st (⟨dst,.field t x f,type,pos,after,g⟩::rest) K φ=aZ P [] ops [⟨dst,.field t x f,type,pos,after,g⟩] (hK P ops st rest K) φ st:=jN rfl
theorem S3{t:TypeId}{x i:Operand}:d7 P ops st (⟨dst,.indexAddr t x i,type,pos,after,g⟩::rest) K φ=aZ P [] ops [⟨dst,.indexAddr t x i,type,pos,after,g⟩] (hK P ops st rest K) φ st:=jN rfl
theorem S4{t:TypeId}{x i:Operand}:d7 P ops st (⟨dst,.index t x i,type,pos,after,g⟩::rest) K φ=aZ P [] ops [⟨dst,.index t x i,type,pos,after,g⟩] (hK P ops st rest K) φ st:=jN rfl
theorem S5{t:TypeId}{x:Operand}{lo hi mx:Option Operand}:d7 P ops st (⟨dst,.slice t x lo hi mx,type,pos,after,g⟩::rest) K φ=aZ P [] ops [⟨dst,.slice t x lo hi mx,type,pos,after,g⟩] (hK P ops st rest K) φ st:=jN rfl
theorem S6{x:Operand}{i:Nat}:d7 P ops st (⟨dst,.extract x i,type,pos,after,g⟩::rest) K φ=aZ P [] ops [⟨dst,.extract x i,type,pos,after,g⟩] (hK P ops st rest K) φ st:=jN rfl
theorem S7{t:TypeId}{ps:Array (Nat×Operand)}:d7 P ops st (⟨dst,.build t ps,type,pos,after,g⟩::rest) K φ=aZ P [] ops [⟨dst,.build t ps,type,pos,after,g⟩] (hK P ops st rest K) φ st:=jN rfl
theorem S8{t:TypeId}{n:Nat}{ps:Array (Nat×Operand)}:d7 P ops st (⟨dst,.buildSlice t n ps,type,pos,after,g⟩::rest) K φ=aZ P [] ops [⟨dst,.buildSlice t n ps,type,pos,after,g⟩] (hK P ops st rest K) φ st:=jN rfl
theorem S9{t u:TypeId}{x:Operand}:d7 P ops st (⟨dst,.convert t u x,type,pos,after,g⟩::rest) K φ=aZ P [] ops [⟨dst,.convert t u x,type,pos,after,g⟩] (hK P ops st rest K) φ st:=jN rfl
theorem TA{t:TypeId}{x i:Operand}{ok:Bool}:d7 P ops st (⟨dst,.lookup t x i ok,type,pos,after,g⟩::rest) K φ=aZ P [] ops [⟨dst,.lookup t x i ok,type,pos,after,g⟩] (hK P ops st rest K) φ st:=jN rfl
theorem TB{x:Operand}{t:TypeId}:d7 P ops st (⟨dst,.call { callee:=.builtin .len,args:=#[x],argTypes:=#[t] },type,pos,after,g⟩::rest) K φ=aZ P [] ops [⟨dst,.call { callee:=.builtin .len,args:=#[x],argTypes:=#[t] },type,pos,after,g⟩] (hK P ops st rest K) φ st:=jN rfl
theorem TC{x y:Operand}{ts:Array TypeId}:d7 P ops st (⟨dst,.call { callee:=.builtin .max,args:=#[x,y],argTypes:=ts },type,pos,after,g⟩::rest) K φ=aZ P [] ops [⟨dst,.call { callee:=.builtin .max,args:=#[x,y],argTypes:=ts },type,pos,after,g⟩] (hK P ops st rest K) φ st:=jN rfl
theorem TD{x y:Operand}{ts:Array TypeId}:d7 P ops st (⟨dst,.call { callee:=.builtin .min,args:=#[x,y],argTypes:=ts },type,pos,after,g⟩::rest) K φ=aZ P [] ops [⟨dst,.call { callee:=.builtin .min,args:=#[x,y],argTypes:=ts },type,pos,after,g⟩] (hK P ops st rest K) φ st:=jN rfl
end
theorem TM{P:Program}{ops:Array Oper}{st:aA}{K:AF→Prop}{φ:AF}{rest:List Oper}{dst:Option Tmp}{r:AV}:G8 P ops st rest K φ dst r=d7 P ops st rest K (φ.put dst r):=rfl
theorem jB{P:Program}{g:FuncId}{args:List AV}{st:aA}{r:AV}{K:AV→Prop}(x:aD P g args st (fun r' st'=>r'=r∧st'=st))(h:K r):u7 P (.func g []) args st K:=⟨r,by show aD P g (args++ []) st _;rw[fN];exact x,h⟩
@[congr] theorem aXP {P:Program} {ops:Array Oper} {l:List Oper} {K:AF→Prop} {φ φ':AF} {st st':aA} (h1:φ=φ') (h2:st=st'):d7 P ops st l K φ=d7 P ops st' l K φ':=by rw[h1,h2]
@[congr] theorem aXW {P:Program} {f f':AV} {args args':List AV} {st st':aA} {K:AV→Prop} (h0:f=f') (h1:args=args') (h2:st=st'):u7 P f args st K=u7 P f' args' st' K:=by rw[h0,h1,h2]
def L6(ops:Array Oper):Nat:=(ops.toList.findIdx fun o=> !jA o)
theorem FP{P:Program}{st:aA}{N:Nat}{id:Nat}{ops:Array Oper}{Q:Exit→AF→aA→Prop}{φ:AF}(hm:P.follows .mixedOrders=true)(hok:oM N ops=true)(hB:Region.lexTailB .any ops (L6 ops)=true)
 (h:aZ P [] ops ops.toList (Q .normal) φ st):fH P N (.region id ops true) Q φ st:=by
 refine aKJ (L6 ops) hm hok hB (BV _ _ ?_)
 have key:∀(l1 l2:List Oper) (φ:AF),(∀o∈l1,jA o=true)→aZ P [] ops (l1++l2) (Q .normal) φ st→d7 P ops st l1 (fun φ'=>aZ P [] ops l2 (Q .normal) φ' st) φ:=by
  intro l1
  induction l1 with
  | nil=>intro l2 φ _ h;exact h
  | cons o l1 ih=>
   intro l2 φ hp h
   have ho:=hp o (by simp)
   have hr:∀o∈l1,jA o=true:=fun o h=>hp o (by simp [h])
   simp only[d7,ho,dP,aZ]
   simp only[gB,aZ] at h
   split at h
   · rename_i hg
     rw[qC ho] at h
     rw[qC ho]
     split at h
     · rename_i hr2
       first | rw[hr2] | skip
       exact ih l2 _ hr h
     · cases h
   · exact ih l2 _ hr h
   · cases h
 refine key _ _ φ (fun o ho=>?_) (by rw[mT];exact h)
 obtain⟨i,hi,rfl⟩:=List.getElem_of_mem ho
 rw[dX] at hi
 have h2:=List.not_of_lt_findIdx (p:=fun o=> !jA o) (xs:=ops.toList) (i:=i) (by have:L6 ops=ops.toList.findIdx (fun o=> !jA o):=rfl;omega)
 simpa using h2
def yT(P:Program)(ops:Array Oper)(st:aA)(K:AF→aA→Prop):Nat→List Oper→AF→Prop
 | 0,l,φ=>aZ P [] ops l K φ st
 | _+1,[],_=>False
 | n+1,o::rest,φ=>d7 P ops st [o] (yT P ops st K n rest) φ
theorem TP{P:Program}{ops:Array Oper}{st:aA}{K:AF→aA→Prop}{l:List Oper}{φ:AF}:yT P ops st K 0 l φ=aZ P [] ops l K φ st:=rfl
theorem TQ{P:Program}{ops:Array Oper}{st:aA}{K:AF→aA→Prop}{n:Nat}{o:Oper}{l:List Oper}{φ:AF}:yT P ops st K (n+1) (o::l) φ=d7 P ops st [o] (yT P ops st K n l) φ:=rfl
theorem aB6{P:Program}{mt:List Nat}{l:List Oper}{st:aA}{K:AF→aA→Prop}{φ:AF}:aZ P mt l.toArray l.toArray.toList K φ st=aZ P mt l.toArray l K φ st:=rfl
theorem aB7{P:Program}{l:List Oper}{st:aA}{K:AF→Prop}{φ:AF}:d7 P l.toArray st l.toArray.toList K φ=d7 P l.toArray st l K φ:=rfl
theorem aB8{P:Program}{n:Nat}{l:List Oper}{st:aA}{K:AF→aA→Prop}{φ:AF}:yT P l.toArray st K n l.toArray.toList φ=yT P l.toArray st K n l φ:=rfl
def ST(Q:Exit→AF→aA→Prop)(st:aA)(φ:AF):Prop:=Q .normal φ st
theorem W3{Q:Exit→AF→aA→Prop}{st:aA}{φ:AF}:ST Q st φ=Q .normal φ st:=rfl
theorem B5{P:Program}{st:aA}{N:Nat}{id:Nat}{ops:Array Oper}{Q:Exit→AF→aA→Prop}{φ:AF}(hm:P.follows .mixedOrders=true)(hok:oM N ops=true)(hB:Region.lexB .any ops=true)
 (h:d7 P ops st ops.toList (ST Q st) φ):fH P N (.region id ops true) Q φ st:=
 aKK hm hok hB (BV _ _ h)
theorem XR:AV.junk.isAgg=false:=rfl
theorem aCS:AV.junk.width=1:=rfl
theorem X8:AV.junk.cA=true:=rfl
theorem WM:AV.junk.cells= [AV.junk]:=rfl
theorem aAR:AV.junk.storable=false:=rfl
theorem X2:AV.undef.isAgg=false:=rfl
theorem aC3:AV.undef.width=1:=rfl
theorem YJ:AV.undef.cA=false:=rfl
theorem WX:AV.undef.cells= [AV.undef]:=rfl
theorem aA1:AV.undef.storable=false:=rfl
theorem XQ{k:IntKind}{n:Int}:(AV.int k n).isAgg=false:=rfl
theorem aCR{k:IntKind}{n:Int}:(AV.int k n).width=1:=rfl
theorem X7{k:IntKind}{n:Int}:(AV.int k n).cA=false:=rfl
theorem WL{k:IntKind}{n:Int}:(AV.int k n).cells= [(AV.int k n)]:=rfl
theorem aAQ{k:IntKind}{n:Int}:(AV.int k n).storable=true:=rfl
theorem XN{b:Bool}:(AV.bool b).isAgg=false:=rfl
theorem aCO{b:Bool}:(AV.bool b).width=1:=rfl
theorem X4{b:Bool}:(AV.bool b).cA=false:=rfl
theorem WI{b:Bool}:(AV.bool b).cells= [(AV.bool b)]:=rfl
theorem aAN{b:Bool}:(AV.bool b).storable=true:=rfl
theorem X0{s:ByteArray}:(AV.str s).isAgg=false:=rfl
theorem aC1{s:ByteArray}:(AV.str s).width=1:=rfl
theorem YH{s:ByteArray}:(AV.str s).cA=false:=rfl
theorem WV{s:ByteArray}:(AV.str s).cells= [(AV.str s)]:=rfl
theorem aAZ{s:ByteArray}:(AV.str s).storable=true:=rfl
theorem X1{vs:List AV}:(AV.tup vs).isAgg=false:=rfl
theorem aC2{vs:List AV}:(AV.tup vs).width=1:=rfl
theorem YI{vs:List AV}:(AV.tup vs).cA=false:=rfl
theorem WW{vs:List AV}:(AV.tup vs).cells= [(AV.tup vs)]:=rfl
theorem aA0{vs:List AV}:(AV.tup vs).storable=false:=rfl
theorem XZ{es:List AV}:(AV.slice es).isAgg=false:=rfl
theorem aC0{es:List AV}:(AV.slice es).width=1:=rfl
theorem YG{es:List AV}:(AV.slice es).cA=false:=rfl
theorem WU{es:List AV}:(AV.slice es).cells= [(AV.slice es)]:=rfl
theorem aAY{es:List AV}:(AV.slice es).storable=true:=rfl
theorem XO{es:List AV}:(AV.fslice es).isAgg=false:=rfl
theorem aCP{es:List AV}:(AV.fslice es).width=1:=rfl
theorem X5{es:List AV}:(AV.fslice es).cA=false:=rfl
theorem WJ{es:List AV}:(AV.fslice es).cells= [(AV.fslice es)]:=rfl
theorem aAO{es:List AV}:(AV.fslice es).storable=true:=rfl
theorem XT{b:Nat}{o:Nat}{l:Nat}{m:Nat}:(AV.mslice b o l m).isAgg=false:=rfl
theorem aCU{b:Nat}{o:Nat}{l:Nat}{m:Nat}:(AV.mslice b o l m).width=1:=rfl
theorem YA{b:Nat}{o:Nat}{l:Nat}{m:Nat}:(AV.mslice b o l m).cA=false:=rfl
theorem WO{b:Nat}{o:Nat}{l:Nat}{m:Nat}:(AV.mslice b o l m).cells= [(AV.mslice b o l m)]:=rfl
theorem aAT{b:Nat}{o:Nat}{l:Nat}{m:Nat}:(AV.mslice b o l m).storable=true:=rfl
theorem XV:AV.nilptr.isAgg=false:=rfl
theorem aCW:AV.nilptr.width=1:=rfl
theorem YC:AV.nilptr.cA=false:=rfl
theorem WQ:AV.nilptr.cells= [AV.nilptr]:=rfl
theorem aAV:AV.nilptr.storable=true:=rfl
theorem XX{b:Nat}{o:Nat}:(AV.ptr b o).isAgg=false:=rfl
theorem aCY{b:Nat}{o:Nat}:(AV.ptr b o).width=1:=rfl
theorem YE{b:Nat}{o:Nat}:(AV.ptr b o).cA=false:=rfl
theorem WS{b:Nat}{o:Nat}:(AV.ptr b o).cells= [(AV.ptr b o)]:=rfl
theorem aAX{b:Nat}{o:Nat}:(AV.ptr b o).storable=true:=rfl
theorem XW{e:AV}:(AV.pptr e).isAgg=false:=rfl
theorem aCX{e:AV}:(AV.pptr e).width=1:=rfl
theorem YD{e:AV}:(AV.pptr e).cA=false:=rfl
theorem WR{e:AV}:(AV.pptr e).cells= [(AV.pptr e)]:=rfl
theorem aAW{e:AV}:(AV.pptr e).storable=true:=rfl
theorem XU:AV.nilmap.isAgg=false:=rfl
theorem aCV:AV.nilmap.width=1:=rfl
theorem YB:AV.nilmap.cA=false:=rfl
theorem WP:AV.nilmap.cells= [AV.nilmap]:=rfl
theorem aAU:AV.nilmap.storable=true:=rfl
theorem XS{b:Nat}:(AV.map b).isAgg=false:=rfl
theorem aCT{b:Nat}:(AV.map b).width=1:=rfl
theorem X9{b:Nat}:(AV.map b).cA=false:=rfl
theorem WN{b:Nat}:(AV.map b).cells= [(AV.map b)]:=rfl
theorem aAS{b:Nat}:(AV.map b).storable=true:=rfl
theorem XP{f:FuncId}{cs:List AV}:(AV.func f cs).isAgg=false:=rfl
theorem aCQ{f:FuncId}{cs:List AV}:(AV.func f cs).width=1:=rfl
theorem X6{f:FuncId}{cs:List AV}:(AV.func f cs).cA=false:=rfl
theorem WK{f:FuncId}{cs:List AV}:(AV.func f cs).cells= [(AV.func f cs)]:=rfl
theorem aAP{f:FuncId}{cs:List AV}:(AV.func f cs).storable=true:=rfl
theorem XY{v:Value}:(AV.raw v).isAgg=false:=rfl
theorem aCZ{v:Value}:(AV.raw v).width=1:=rfl
theorem YF{v:Value}:(AV.raw v).cA=false:=rfl
theorem WT{v:Value}:(AV.raw v).cells= [(AV.raw v)]:=rfl
theorem XM{cs:List AV}:(AV.agg cs).isAgg=true:=rfl
theorem aCN{cs:List AV}:(AV.agg cs).width=cs.length:=rfl
theorem X3{cs:List AV}:(AV.agg cs).cA=false:=rfl
theorem WH{cs:List AV}:(AV.agg cs).cells=cs:=rfl
theorem WF:((0:Nat):Int)=0:=rfl
theorem WG{n:Nat}:((n+1:Nat):Int)=(n:Int)+1:=rfl
theorem dN{st:aA}{b x:Nat}{o:AO}:(st.aC b o) x=if x=b then some o else st x:=rfl
theorem wrap64{n:Int}(h1: -9223372036854775808≤n)(h2:n≤9223372036854775807):IntKind.wrap .i64 n=n:=by
 rw[IntKind.wrap_i64];omega
end Go.AW
