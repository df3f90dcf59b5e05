/- Smaller stores, frozen slices, sizes, frames as lists, regions that draw. -/
import Derived.Test.YtkkihpokegenbaaGreatDoorVad
set_option linter.unusedSimpArgs false
set_option linter.unusedVariables false
set_option maxRecDepth 100000
namespace Go.AW
def aL(st st':aA):Prop:=∀b,(st b=none→st' b=none)∧∀o,st' b=some o→st b=some o
theorem aL.refl(st:aA):aL st st:=fun _=>⟨id,fun _=>id⟩
theorem aL.trans{a b c:aA}(x:aL a b)(y:aL b c):aL a c:=fun i=>⟨fun h=>(y i).1 ((x i).1 h),fun o h=>(x i).2 o ((y i).2 o h)⟩
theorem aL.aC{st st':aA}(x:aL st st'){b:Nat}{o:AO}(h:st' b=none):aL (st.aC b o) st':=fun i=>by
 simp only[aA.aC]
 split
 · rename_i e;subst e;exact⟨fun _=>h,fun o' h'=>by rw[h] at h';cases h'⟩
 · exact x i
theorem hH(st:aA)(b:Nat):aL st (st.erase b):=fun i=>by
 simp only[aA.erase]
 split
 · exact⟨fun _=>rfl,fun o' h'=>by cases h'⟩
 · exact⟨id,fun _=>id⟩
theorem aL.step{st st':aA}(x:aL st st')(h:a7):bQ h st h st':=⟨cX _,fun b _ e=>⟨rfl,(x b).1 e⟩,fun _ c _ _ e=>⟨c,e,rfl⟩⟩
theorem aL.CY{st st':aA}(x:aL st st'){h:a7}(S:cA h st):cA h st':=fun b o e=>by
 obtain⟨h1,h2⟩:=S b o ((x b).2 o e)
 refine⟨h1,?_⟩
 cases o with
 | cells as=>
  obtain⟨c,t,e1,e2,vs,e3,e4⟩:=h2
  exact⟨c,t,e1,e2,vs,e3,aR.mono (x.step h) _ _ e4⟩
 | map f=>
  obtain⟨es,clock,e1,e2,e3,e4⟩:=h2
  refine⟨es,clock,e1,e2,e3,fun n=>?_⟩
  have:=e4 n
  cases hf:f n with
  | none=>rw[hf] at this;exact this
  | some a=>
   rw[hf] at this
   obtain⟨e,m,k,v⟩:=this
   exact⟨e,m,k,v.mono (x.step h)⟩
 | tab cs=>exact h2
theorem aL.pY{st st':aA}(x:aL st st'):xY st st':=fun h S=>⟨x.CY S,x.step h⟩
theorem aL.mH{st st':aA}(x:aL st st')(r:AV):uJ st r st' r:=fun h _ _ y=>y.mono (x.step h)
theorem aD.drop{P:Program}{g:FuncId}{args:List AV}{st:aA}{Q:AV→Prop}(x:aD P g args st (fun r st'=>aL st' st∧Q r)):aD P g args st (fun r st'=>Q r∧st'=st):=
 x.mH fun r st' ⟨h1,h2⟩=>⟨r,st,h1.pY,h1.mH r,h2,rfl⟩
mutual
def AV.fz(b:Nat)(es:List AV):AV→AV
 | .mslice b' 0 n sz=>if b'=b∧n=es.length then .slice es else .mslice b' 0 n sz
 | .agg cs=>.agg (jE b es cs)
 | .tup vs=>.tup (jE b es vs)
 | a=>a
def jE(b:Nat)(es:List AV):List AV→List AV
 | []=>[]
 | a::as=>AV.fz b es a::jE b es as
end
theorem aFT(b:Nat)(es:List AV)(a:AV):(a.fz b es).isAgg=a.isAgg:=by
 cases a<;>try rfl
 case mslice b' off n sz=>
  cases off with
  | zero=>simp only[AV.fz];split<;>rfl
  | succ k=>rfl
section
variable {h:a7} {st:aA} {b:Nat} {es:List AV}
theorem frozen(S:cA h st)(hb:st b=some (.cells (es.flatMap AV.cells)))(hj:∀e∈es,e.bR=false):b<h.size∧cS h (st.erase b) b 0 es:=by
 obtain⟨h1,c,t,e1,e2,vs,e3,e4⟩:=S b _ hb
 exact⟨h1,cS.mono ((hH st b).step h) b rfl _ _ (AM hj e3 e4)⟩
theorem VC.aWL{b' off n sz:Nat}{cs:List Value}(S:cA h st)(hb:st b=some (.cells (es.flatMap AV.cells)))(hj:∀e∈es,e.bR=false)(hE:gW es)(x:VC h st (.mslice b' off n sz) cs):VC h (st.erase b) ((AV.mslice b' off n sz).fz b es) cs:=by
 have x0:VC h (st.erase b) (.mslice b' off n sz) cs:=VC.mono ((hH st b).step h) _ _ x
 cases off with
 | succ k=>exact x0
 | zero=>
  simp only[AV.fz]
  split
  · rename_i e
    obtain⟨rfl,rfl⟩:=e
    simp only[VC] at x
    obtain⟨cap,e1,l1,l2,c,t,_,_⟩:=x
    obtain⟨hs,hE'⟩:=frozen S hb hj
    unfold VC
    exact .inr ⟨b',0,cap,e1,l1,l2,aA.VA _ _,hs,hE,hE'⟩
  · exact x0
mutual
theorem VC.fz(S:cA h st)(hb:st b=some (.cells (es.flatMap AV.cells)))(hj:∀e∈es,e.bR=false)(hE:gW es):∀(a:AV) (cs:List Value),VC h st a cs→VC h (st.erase b) (a.fz b es) cs
 | .mslice b' off n sz,cs,x=>VC.aWL S hb hj hE x
 | .agg as,cs,x=>by simp only[VC,AV.fz] at x ⊢;exact aR.fz S hb hj hE as cs x
 | .tup as,cs,x=>by
  simp only[VC,AV.fz] at x ⊢
  obtain⟨vs,e,r⟩:=x
  exact⟨vs,e,c7.fz S hb hj hE as vs r⟩
 | .junk,cs,x=>VC.mono ((hH st b).step h) _ _ x
 | .undef,cs,x=>VC.mono ((hH st b).step h) _ _ x
 | .int _ _,cs,x=>VC.mono ((hH st b).step h) _ _ x
 | .bool _,cs,x=>VC.mono ((hH st b).step h) _ _ x
 | .str _,cs,x=>VC.mono ((hH st b).step h) _ _ x
 | .slice _,cs,x=>VC.mono ((hH st b).step h) _ _ x
 | .fslice _,cs,x=>VC.mono ((hH st b).step h) _ _ x
 | .nilptr,cs,x=>VC.mono ((hH st b).step h) _ _ x
 | .ptr _ _,cs,x=>VC.mono ((hH st b).step h) _ _ x
 | .pptr _,cs,x=>VC.mono ((hH st b).step h) _ _ x
 | .nilmap,cs,x=>VC.mono ((hH st b).step h) _ _ x
 | .map _,cs,x=>VC.mono ((hH st b).step h) _ _ x
 | .func _ _,cs,x=>VC.mono ((hH st b).step h) _ _ x
 | .raw _,cs,x=>VC.mono ((hH st b).step h) _ _ x
 | .eslice,cs,x=>VC.mono ((hH st b).step h) _ _ x
theorem aR.fz(S:cA h st)(hb:st b=some (.cells (es.flatMap AV.cells)))(hj:∀e∈es,e.bR=false)(hE:gW es):∀(as:List AV) (cs:List Value),aR h st as cs→aR h (st.erase b) (jE b es as) cs
 | [],_,x=>x
 | a::as,cs,x=>by
  simp only[aR,jE] at x ⊢
  obtain⟨c,r,e,x1,x2⟩:=x
  exact⟨c,r,e,VC.fz S hb hj hE a [c] x1,aR.fz S hb hj hE as r x2⟩
theorem c7.fz(S:cA h st)(hb:st b=some (.cells (es.flatMap AV.cells)))(hj:∀e∈es,e.bR=false)(hE:gW es):∀(as:List AV) (cs:List Value),c7 h st as cs→c7 h (st.erase b) (jE b es as) cs
 | [],_,x=>x
 | a::as,cs,x=>by
  simp only[c7,jE] at x ⊢
  obtain⟨v,r,e,x1,x2⟩:=x
  exact⟨v,r,e,⟨(aFT b es a).trans x1.1,VC.fz S hb hj hE a _ x1.2⟩,c7.fz S hb hj hE as r x2⟩
end
theorem aM.fz{a:AV}{v:Value}(S:cA h st)(hb:st b=some (.cells (es.flatMap AV.cells)))(hj:∀e∈es,e.bR=false)(hE:gW es)(x:aM h st a v):aM h (st.erase b) (a.fz b es) v:=by
 have key:a.isAgg=jY v∧VC h st a v.cells.toList→aM h (st.erase b) (a.fz b es) v:=fun x=>by
  have y:(a.fz b es).isAgg=jY v∧VC h (st.erase b) (a.fz b es) v.cells.toList:=⟨(aFT b es a).trans x.1,VC.fz S hb hj hE a _ x.2⟩
  cases hq:a.fz b es<;>rw[hq] at y<;>first | trivial | exact y
 cases a<;>first | trivial | exact key x
end
theorem fA.freeze{φ:AF}{st:aA}{b:Nat}{es:List AV}(h1:st b=some (.cells (es.flatMap AV.cells)))(h2:∀e∈es,e.bR=false)(h3:gW es):fA φ st (fun d=>(φ d).fz b es) (st.erase b):=
 fun h _ S F=>⟨(hH st b).CY S,(hH st b).step h,fun d=>(F d).fz S h1 h2 h3⟩
theorem fA.drop{φ:AF}{st st':aA}(x:aL st st'):fA φ st φ st':=fun h _ S F=>⟨x.CY S,x.step h,fun d=>(F d).mono (x.step h)⟩
mutual
def AV.soft:AV→AV
 | .fslice es=>.slice es
 | .agg cs=>.agg (fT cs)
 | .tup vs=>.tup (fT vs)
 | a=>a
def fT:List AV→List AV
 | []=>[]
 | a::as=>a.soft::fT as
end
theorem a1N(a:AV):a.soft.isAgg=a.isAgg:=by cases a<;>rfl
section
variable {h:a7} {st:aA}
mutual
theorem VC.soft:∀(a:AV) (cs:List Value),VC h st a cs→VC h st a.soft cs
 | .fslice es,cs,x=>by
  simp only[AV.soft]
  unfold VC at x ⊢
  rcases x with x | ⟨b,off,e,l,r⟩
  · exact .inl x
  · exact .inr ⟨b,off,es.length,e,cX _,l,r⟩
 | .agg as,cs,x=>by simp only[VC,AV.soft] at x ⊢;exact aR.soft as cs x
 | .tup as,cs,x=>by
  simp only[VC,AV.soft] at x ⊢
  obtain⟨vs,e,r⟩:=x
  exact⟨vs,e,c7.soft as vs r⟩
 | .mslice _ _ _ _,cs,x=>x
 | .junk,cs,x=>x
 | .undef,cs,x=>x
 | .int _ _,cs,x=>x
 | .bool _,cs,x=>x
 | .str _,cs,x=>x
 | .slice _,cs,x=>x
 | .nilptr,cs,x=>x
 | .ptr _ _,cs,x=>x
 | .pptr _,cs,x=>x
 | .nilmap,cs,x=>x
 | .map _,cs,x=>x
 | .func _ _,cs,x=>x
 | .raw _,cs,x=>x
 | .eslice,cs,x=>x
theorem aR.soft:∀(as:List AV) (cs:List Value),aR h st as cs→aR h st (fT as) cs
 | [],_,x=>x
 | a::as,cs,x=>by
  simp only[aR,fT] at x ⊢
  obtain⟨c,r,e,x1,x2⟩:=x
  exact⟨c,r,e,VC.soft a [c] x1,aR.soft as r x2⟩
theorem c7.soft:∀(as:List AV) (cs:List Value),c7 h st as cs→c7 h st (fT as) cs
 | [],_,x=>x
 | a::as,cs,x=>by
  simp only[c7,fT] at x ⊢
  obtain⟨v,r,e,x1,x2⟩:=x
  exact⟨v,r,e,⟨(a1N a).trans x1.1,VC.soft a _ x1.2⟩,c7.soft as r x2⟩
end
theorem aM.soft{a:AV}{v:Value}(x:aM h st a v):aM h st a.soft v:=by
 cases a
 case fslice=>exact x.E9
 case agg=>exact⟨x.1,VC.soft _ _ x.2⟩
 case tup=>exact⟨x.1,VC.soft _ _ x.2⟩
 all_goals exact x
end
theorem aD.soft{P:Program}{g:FuncId}{args:List AV}{st:aA}{Q:AV→aA→Prop}(x:aD P g args st (fun r st'=>Q r.soft st')):aD P g args st Q:=
 x.mH fun r st' h=>⟨r.soft,st',(aL.refl st').pY,fun _ _ _ y=>y.soft,h⟩
theorem aD.oG{P:Program}{g:FuncId}{args:List AV}{st:aA}{Q:AV→aA→Prop}(x:aD P g (fT args) st Q):aD P g args st Q:=
 x.args fun hp=>by
  have:∀(as:List AV) (vs:List Value),cO hp st as vs→cO hp st (fT as) vs:=by
   intro as
   induction as with
   | nil=>intro vs y;exact y
   | cons a as ih=>
    intro vs y
    simp only[cO,fT] at y ⊢
    obtain⟨v,r,rfl,y1,y2⟩:=y
    exact⟨v,r,rfl,y1.soft,ih r y2⟩
  exact fun vs _=>this args vs
mutual
def AV.fits:AV→Prop
 | .str s=>s.size≤9223372036854775807
 | .agg cs=>dS cs
 | .tup vs=>dS vs
 | .slice es=>es.length≤9223372036854775807∧dS es
 | .fslice es=>es.length≤9223372036854775807∧dS es
 | .mslice _ _ n _=>n≤9223372036854775807
 | .pptr e=>e.fits
 | _=>True
def dS:List AV→Prop
 | []=>True
 | a::as=>a.fits∧dS as
end
section
variable {h:a7} {st:aA}
mutual
theorem VC.fits:∀(a:AV) (cs:List Value),VC h st a cs→a.fits
 | .str s,cs,x=>by simp only[VC,maxLen] at x;exact x.2
 | .agg as,cs,x=>by simp only[VC,AV.fits] at x ⊢;exact aR.fits as cs x
 | .tup as,cs,x=>by
  simp only[VC,AV.fits] at x ⊢
  obtain⟨vs,e,r⟩:=x
  exact c7.fits as vs r
 | .slice es,cs,x=>by
  simp only[VC,AV.fits] at x ⊢
  rcases x with ⟨⟨p0,_⟩,rfl⟩ | ⟨b,off,cap,_,l1,l2,_,_,_,r⟩
  · exact⟨by simp,trivial⟩
  · exact⟨lZ l1 l2,cS.fits es off r⟩
 | .fslice es,cs,x=>by
  simp only[VC,AV.fits] at x ⊢
  rcases x with ⟨⟨p0,_⟩,rfl⟩ | ⟨b,off,_,l1,_,_,_,r⟩
  · exact⟨by simp,trivial⟩
  · exact⟨l1,cS.fits es off r⟩
 | .mslice _ _ n _,cs,x=>by
  simp only[VC,AV.fits] at x ⊢
  obtain⟨cap,_,l1,l2,_⟩:=x
  exact lZ l1 l2
 | .pptr e,cs,x=>by
  simp only[VC,AV.fits] at x ⊢
  obtain⟨b,off,_,_,_,vs,_,_,y⟩:=x
  exact VC.fits e vs y
 | .junk,cs,x=>trivial
 | .undef,cs,x=>trivial
 | .int _ _,cs,x=>trivial
 | .bool _,cs,x=>trivial
 | .nilptr,cs,x=>trivial
 | .ptr _ _,cs,x=>trivial
 | .nilmap,cs,x=>trivial
 | .map _,cs,x=>trivial
 | .func _ _,cs,x=>trivial
 | .raw _,cs,x=>trivial
 | .eslice,cs,x=>trivial
theorem aR.fits:∀(as:List AV) (cs:List Value),aR h st as cs→dS as
 | [],_,x=>trivial
 | a::as,cs,x=>by
  simp only[aR] at x
  obtain⟨c,r,e,x1,x2⟩:=x
  exact⟨VC.fits a [c] x1,aR.fits as r x2⟩
theorem c7.fits:∀(as:List AV) (cs:List Value),c7 h st as cs→dS as
 | [],_,x=>trivial
 | a::as,cs,x=>by
  simp only[c7] at x
  obtain⟨v,r,e,x1,x2⟩:=x
  exact⟨VC.fits a _ x1.2,c7.fits as r x2⟩
theorem cS.fits{b:Nat}:∀(as:List AV) (off:Nat),cS h st b off as→dS as
 | [],_,x=>trivial
 | a::as,off,x=>by
  simp only[cS] at x
  obtain⟨⟨cs,_,_,x3⟩,x4⟩:=x
  exact⟨VC.fits a cs x3,cS.fits as _ x4⟩
end
theorem aM.fits{a:AV}{v:Value}(x:aM h st a v):a.fits:=by
 cases a<;>first | trivial | exact VC.fits _ _ x.2
theorem cO.fits:∀ {as:List AV} {vs:List Value},cO h st as vs→dS as
 | [],_,_=>trivial
 | a::as,vs,x=>by
  simp only[cO] at x
  obtain⟨v,r,_,x1,x2⟩:=x
  exact⟨x1.fits,cO.fits x2⟩
end
theorem zw6{P:Program}{g:FuncId}{fn:Func}{c:Code}{args:List AV}{st:aA}{N:Nat}{rs:List ResultVar}{K:AV→aA→Prop}(mt:List Nat)(hf:P.funcs[g]?=some fn)(hN:fn.ntmps=N)(hr:fn.results=rs.toArray)(hb:fn.body=some c)(hn:(fn.name == "runtime.NumGoroutine")=false)
 (hok:codeOk N c=true) (pK:args.length≤N) (e:dS args→eW P N mt c (CU P rs.toArray K) (qI 0 args) st):aD P g args st K:=by
 subst hN
 rw[←hr] at e
 exact⟨⟨fn,hf,by simp [hb],hn⟩,fun w vs S V=>(aMW mt hf hb hn hok pK (e V.fits)).2 w vs S V⟩
def jD:List (Nat×AV)→AF
 | []=>AF.bot
 | (d,v)::l=>(jD l).aC d v
def yR(φ:AF):List (Nat×AV)→Prop
 | []=>True
 | (d,v)::l=>φ d=v∧yR φ l
theorem fA.jD{φ:AF}{st:aA}:∀ {l:List (Nat×AV)},yR φ l→fA φ st (jD l) st
 | [],_=>fA.bot φ st
 | (d,v)::l,h=>(fA.jD h.2).aC h.1
theorem ZQ{φ:AF}:yR φ []=True:=rfl
theorem ZR{φ:AF}{d:Nat}{v:AV}{l:List (Nat×AV)}:yR φ ((d,v)::l)=(φ d=v∧yR φ l):=rfl
theorem aD.to{P:Program}{g:FuncId}{args:List AV}{st:aA}{r:AV}{K:AV→aA→Prop}(x:aD P g args st (fun r' st'=>r'=r∧st'=st))(h:K r st):aD P g args st K:=
 x.mono fun _ _ ⟨e1,e2⟩=>by rw[e1,e2];exact h
theorem nW{P:Program}{N:Nat}(mt:List Nat){c:Code}{Q:Exit→AF→aA→Prop}{φ:AF}{st:aA}(hok:codeOk N c=true)(e:eW P N mt c Q φ st):eG P N c Q φ st:=x6 c Q φ st hok e
def u7(l:List (Nat×AV)):AF:=jD l
theorem ZK:u7 []=AF.bot:=rfl
theorem ZJ{d:Nat}{v:AV}{l:List (Nat×AV)}:u7 ((d,v)::l)=(u7 l).aC d v:=rfl
def aO(φ:AF)(st:aA)(l:List (Nat×AV))(st':aA):Prop:=fA φ st (jD l) st'
theorem aO.mk{φ:AF}{st:aA}{l:List (Nat×AV)}(h:yR φ l):aO φ st l st:=fA.jD h
theorem aO.drop{φ:AF}{st st':aA}{l:List (Nat×AV)}(d:aL st st')(h:yR φ l):aO φ st l st':=(fA.drop d).trans (fA.jD h)
theorem v4{P:Program}{N:Nat}{c:Code}{Q:Exit→AF→aA→Prop}{φ:AF}{st:aA}{α:Type}(mt:List Nat)(inv:α→Prop)(fl:α→List (Nat×AV))(so:α→aA)(μ:α→Nat)(hok:codeOk N c=true)
 (h0:∃s,inv s∧aO φ st (fl s) (so s))
 (h1:∀s,inv s→eW P N mt c (oA (fun φ' st'=>∃s',μ s'<μ s∧inv s'∧aO φ' st' (fl s') (so s')) Q) (u7 (fl s)) (so s)):eG P N (.loop c) Q φ st:=
 MK inv (fun s=>jD (fl s)) so μ h0 fun s hs=>nW mt hok (h1 s hs)
theorem cK{P:Program}{mt:List Nat}{ops:Array Oper}{o:Oper}{l:List Oper}{K:AF→aA→Prop}{φ:AF}{st:aA}{c want:Bool}
 (h1:c=want→vP P mt ops o l K φ st (some true)) (h2:c=(!want)→vP P mt ops o l K φ st (some false)):vP P mt ops o l K φ st (some (c == want)):=by
 cases c<;>cases want<;>first | exact h1 rfl | exact h2 rfl
def jM(o:Oper):Bool:=match o.op with
 | .call { callee:=.value _,.. }=>false
 | .call { callee:=.builtin .append,.. }=>false
 | .call { callee:=.builtin .delete,.. }=>false
 | .call { callee:=.builtin .clear,.. }=>false
 | .alloc _=>false
 | .store _ _ _=>false
 | .makeMap _ none=>false
 | .makeSlice _ _ _=>false
 | .mapUpdate _ _ _ _=>false
 | _=>true
theorem rP{P:Program}{φ:AF}{st:aA}{o:Oper}{K:AV→aA→Prop}(h:jM o=true):eE P [] φ st o K=match kN P φ st o with | some r=>K r st | none=>False:=by
 obtain⟨dst,op,type,pos,after,guard⟩:=o
 unfold eE
 split
 case h_5 t x e=>
  simp only at e
  subst e
  simp only[z8,List.contains_nil,kN]
  cases dst<;>rfl
 case h_11=>rfl
 all_goals (rename_i e;simp only at e;subst e;simp [jM] at h)
def d7(P:Program)(ops:Array Oper)(st:aA):List Oper→(AF→Prop)→AF→Prop
 | [],K,φ=>K φ
 | o::rest,K,φ=>if jM o=true then aW P [] ops [o] (fun φ' _=>d7 P ops st rest K φ') φ st else
  match o.guard,o.op with
  | none,.call { callee:=.value f,args,.. }=>∃r,rV P (φ.eval f) (args.toList.map φ.eval) st (fun r' st'=>r'=r∧st'=st)∧d7 P ops st rest K (φ.put o.dst r)
  | _,_=>False
theorem EH{P:Program}{ops:Array Oper}{st:aA}{K:AF→Prop}:∀(l:List Oper) (φ:AF),d7 P ops st l K φ→oV P st ops l K φ
 | [],_,h=>h
 | o::rest,φ,h=>by
  simp only[d7] at h
  split at h
  · rename_i hp
    simp only[aW] at h
    simp only[oV]
    split at h
    · rename_i hg
      rw[rP hp] at h
      rw[hg]
      simp only
      split at h
      · rename_i r hr
        exact⟨r,by rw[rP hp,hr];exact⟨rfl,rfl⟩,EH rest _ h⟩
      · cases h
    · rename_i hg
      rw[hg]
      exact EH rest _ h
    · cases h
  · split at h
    · rename_i f args ats hg ho
      obtain⟨r,h1,h2⟩:=h
      simp only[oV,gX,hg]
      refine⟨r,?_,EH rest _ h2⟩
      simp only[eE,ho]
      exact h1
    · cases h
theorem VG{P:Program}{ops:Array Oper}{st:aA}{K:AF→Prop}{φ:AF}:d7 P ops st [] K φ=K φ:=rfl
def hK(P:Program)(ops:Array Oper)(st:aA)(rest:List Oper)(K:AF→Prop)(φ:AF)(_:aA):Prop:=d7 P ops st rest K φ
theorem ZP{P:Program}{ops:Array Oper}{st st':aA}{K:AF→Prop}{φ:AF}{rest:List Oper}:hK P ops st rest K φ st'=d7 P ops st rest K φ:=rfl
theorem jZ{P:Program}{ops:Array Oper}{st:aA}{K:AF→Prop}{φ:AF}{o:Oper}{rest:List Oper}(h:jM o=true):d7 P ops st (o::rest) K φ=aW P [] ops [o] (hK P ops st rest K) φ st:=by
 simp [d7,h]
 rfl
def wJ(P:Program)(f:AV)(args:List AV)(st:aA)(K:AV→Prop):Prop:=∃r,rV P f args st (fun r' st'=>r'=r∧st'=st)∧K r
def I9(P:Program)(ops:Array Oper)(st:aA)(rest:List Oper)(K:AF→Prop)(φ:AF)(dst:Option Tmp)(r:AV):Prop:=d7 P ops st rest K (φ.put dst r)
theorem aLW{P:Program}{ops:Array Oper}{st:aA}{K:AF→Prop}{φ:AF}{rest:List Oper}{dst:Option Tmp}{f:Operand}{args:List Operand}{ats:Array TypeId}{type:TypeId}{pos:String}{after:Array Edge} :
 d7 P ops st (⟨dst,.call { callee:=.value f,args:=args.toArray,argTypes:=ats },type,pos,after,none⟩::rest) K φ=wJ P (φ.eval f) (args.map φ.eval) st (I9 P ops st rest K φ dst):=by
 simp [d7,jM,wJ,I9]
section
variable {P:Program} {ops:Array Oper} {st:aA} {K:AF→Prop} {φ:AF} {rest:List Oper} {dst:Option Tmp} {type:TypeId} {pos:String} {after:Array Edge} {g:Option (Nat×Bool)}
theorem V6{f:Operand}{args:List Operand}{ats:Array TypeId} :
 d7 P ops st (⟨dst,.call { callee:=.value f,args:=args.toArray,argTypes:=ats },type,pos,after,none⟩::rest) K φ=wJ P (φ.eval f) (args.map φ.eval) st (I9 P ops st rest K φ dst):=aLW
theorem VH{x:Operand}:d7 P ops st (⟨dst,.move x,type,pos,after,g⟩::rest) K φ=aW P [] ops [⟨dst,.move x,type,pos,after,g⟩] (hK P ops st rest K) φ st:=jZ rfl
theorem VV{x:Operand}:d7 P ops st (⟨dst,.assign x,type,pos,after,g⟩::rest) K φ=aW P [] ops [⟨dst,.assign x,type,pos,after,g⟩] (hK P ops st rest K) φ st:=jZ rfl
theorem VW{c x y:Operand}:d7 P ops st (⟨dst,.pick c x y,type,pos,after,g⟩::rest) K φ=aW P [] ops [⟨dst,.pick c x y,type,pos,after,g⟩] (hK P ops st rest K) φ st:=jZ rfl
theorem VX{op:BinOp}{t t':TypeId}{x y:Operand}:d7 P ops st (⟨dst,.binOp op t x y t',type,pos,after,g⟩::rest) K φ=aW P [] ops [⟨dst,.binOp op t x y t',type,pos,after,g⟩] (hK P ops st rest K) φ st:=jZ rfl
theorem VY{op:UnOp}{t:TypeId}{x:Operand}:d7 P ops st (⟨dst,.unOp op t x,type,pos,after,g⟩::rest) K φ=aW P [] ops [⟨dst,.unOp op t x,type,pos,after,g⟩] (hK P ops st rest K) φ st:=jZ rfl
theorem VZ{x:Operand}:d7 P ops st (⟨dst,.nilCheck x,type,pos,after,g⟩::rest) K φ=aW P [] ops [⟨dst,.nilCheck x,type,pos,after,g⟩] (hK P ops st rest K) φ st:=jZ rfl
theorem V0{t f:Nat}{x:Operand}:d7 P ops st (⟨dst,.fieldAddr t x f,type,pos,after,g⟩::rest) K φ=aW P [] ops [⟨dst,.fieldAddr t x f,type,pos,after,g⟩] (hK P ops st rest K) φ st:=jZ rfl
theorem V3{t:TypeId}{x:Operand}:d7 P ops st (⟨dst,.load t x,type,pos,after,g⟩::rest) K φ=aW P [] ops [⟨dst,.load t x,type,pos,after,g⟩] (hK P ops st rest K) φ st:=jZ rfl
theorem V4{t f:Nat}{x:Operand}:d7 P ops st (⟨dst,.field t x f,type,pos,after,g⟩::rest) K φ=aW P [] ops [⟨dst,.field t x f,type,pos,after,g⟩] (hK P ops st rest K) φ st:=jZ rfl
theorem VI{t:TypeId}{x i:Operand}:d7 P ops st (⟨dst,.indexAddr t x i,type,pos,after,g⟩::rest) K φ=aW P [] ops [⟨dst,.indexAddr t x i,type,pos,after,g⟩] (hK P ops st rest K) φ st:=jZ rfl
theorem VJ{t:TypeId}{x i:Operand}:d7 P ops st (⟨dst,.index t x i,type,pos,after,g⟩::rest) K φ=aW P [] ops [⟨dst,.index t x i,type,pos,after,g⟩] (hK P ops st rest K) φ st:=jZ rfl
theorem VK{t:TypeId}{x:Operand}{lo hi mx:Option Operand}:d7 P ops st (⟨dst,.slice t x lo hi mx,type,pos,after,g⟩::rest) K φ=aW P [] ops [⟨dst,.slice t x lo hi mx,type,pos,after,g⟩] (hK P ops st rest K) φ st:=jZ rfl
theorem VL{x:Operand}{i:Nat}:d7 P ops st (⟨dst,.extract x i,type,pos,after,g⟩::rest) K φ=aW P [] ops [⟨dst,.extract x i,type,pos,after,g⟩] (hK P ops st rest K) φ st:=jZ rfl
theorem VM{t:TypeId}{ps:Array (Nat×Operand)}:d7 P ops st (⟨dst,.build t ps,type,pos,after,g⟩::rest) K φ=aW P [] ops [⟨dst,.build t ps,type,pos,after,g⟩] (hK P ops st rest K) φ st:=jZ rfl
theorem VO{t:TypeId}{n:Nat}{ps:Array (Nat×Operand)}:d7 P ops st (⟨dst,.buildSlice t n ps,type,pos,after,g⟩::rest) K φ=aW P [] ops [⟨dst,.buildSlice t n ps,type,pos,after,g⟩] (hK P ops st rest K) φ st:=jZ rfl
theorem VP{t u:TypeId}{x:Operand}:d7 P ops st (⟨dst,.convert t u x,type,pos,after,g⟩::rest) K φ=aW P [] ops [⟨dst,.convert t u x,type,pos,after,g⟩] (hK P ops st rest K) φ st:=jZ rfl
theorem VQ{t:TypeId}{x i:Operand}{ok:Bool}:d7 P ops st (⟨dst,.lookup t x i ok,type,pos,after,g⟩::rest) K φ=aW P [] ops [⟨dst,.lookup t x i ok,type,pos,after,g⟩] (hK P ops st rest K) φ st:=jZ rfl
theorem VR{x:Operand}{t:TypeId}:d7 P ops st (⟨dst,.call { callee:=.builtin .len,args:=#[x],argTypes:=#[t] },type,pos,after,g⟩::rest) K φ=aW P [] ops [⟨dst,.call { callee:=.builtin .len,args:=#[x],argTypes:=#[t] },type,pos,after,g⟩] (hK P ops st rest K) φ st:=jZ rfl
theorem VS{x:Operand}{t:TypeId}:d7 P ops st (⟨dst,.call { callee:=.builtin .cap,args:=#[x],argTypes:=#[t] },type,pos,after,g⟩::rest) K φ=aW P [] ops [⟨dst,.call { callee:=.builtin .cap,args:=#[x],argTypes:=#[t] },type,pos,after,g⟩] (hK P ops st rest K) φ st:=jZ rfl
theorem VT{x y:Operand}{ts:Array TypeId}:d7 P ops st (⟨dst,.call { callee:=.builtin .max,args:=#[x,y],argTypes:=ts },type,pos,after,g⟩::rest) K φ=aW P [] ops [⟨dst,.call { callee:=.builtin .max,args:=#[x,y],argTypes:=ts },type,pos,after,g⟩] (hK P ops st rest K) φ st:=jZ rfl
theorem VU{x y:Operand}{ts:Array TypeId}:d7 P ops st (⟨dst,.call { callee:=.builtin .min,args:=#[x,y],argTypes:=ts },type,pos,after,g⟩::rest) K φ=aW P [] ops [⟨dst,.call { callee:=.builtin .min,args:=#[x,y],argTypes:=ts },type,pos,after,g⟩] (hK P ops st rest K) φ st:=jZ rfl
end
theorem V5{P:Program}{ops:Array Oper}{st:aA}{K:AF→Prop}{φ:AF}{rest:List Oper}{dst:Option Tmp}{r:AV}:I9 P ops st rest K φ dst r=d7 P ops st rest K (φ.put dst r):=rfl
theorem gG{P:Program}{g:FuncId}{args:List AV}{st:aA}{r:AV}{K:AV→Prop}(x:aD P g args st (fun r' st'=>r'=r∧st'=st))(h:K r):wJ P (.func g []) args st K:=⟨r,by show aD P g (args++ []) st _;rw[jO];exact x,h⟩
@[congr] theorem a38 {P:Program} {ops:Array Oper} {l:List Oper} {K:AF→Prop} {φ φ':AF} {st st':aA} (h1:φ=φ') (h2:st=st'):d7 P ops st l K φ=d7 P ops st' l K φ':=by rw[h1,h2]
@[congr] theorem a4E {P:Program} {f f':AV} {args args':List AV} {st st':aA} {K:AV→Prop} (h0:f=f') (h1:args=args') (h2:st=st'):wJ P f args st K=wJ P f' args' st' K:=by rw[h0,h1,h2]
def OJ(ops:Array Oper):Nat:=(ops.toList.findIdx fun o=> !jM o)
theorem aNJ{P:Program}{st:aA}{N:Nat}{id:Nat}{ops:Array Oper}{Q:Exit→AF→aA→Prop}{φ:AF}(hm:P.follows .mixedOrders=true)(hok:oD N ops=true)(hB:Region.lexTailB .any ops (OJ ops)=true)
 (h:aW P [] ops ops.toList (Q .normal) φ st):eG P N (.region id ops true) Q φ st:=by
 refine aNH (OJ ops) hm hok hB (EH _ _ ?_)
 have key:∀(l1 l2:List Oper) (φ:AF),(∀o∈l1,jM o=true)→aW P [] ops (l1++l2) (Q .normal) φ st→d7 P ops st l1 (fun φ'=>aW P [] ops l2 (Q .normal) φ' st) φ:=by
  intro l1
  induction l1 with
  | nil=>intro l2 φ _ h;exact h
  | cons o l1 ih=>
   intro l2 φ hp h
   have ho:=hp o (by simp)
   have hr:∀o∈l1,jM o=true:=fun o h=>hp o (by simp [h])
   simp only[d7,ho,eN,aW]
   simp only[fU,aW] at h
   split at h
   · rename_i hg
     rw[rP ho] at h
     rw[rP ho]
     split at h
     · rename_i hr2
       first | rw[hr2] | skip
       exact ih l2 _ hr h
     · cases h
   · exact ih l2 _ hr h
   · cases h
 refine key _ _ φ (fun o ho=>?_) (by rw[DZ];exact h)
 obtain⟨i,hi,rfl⟩:=LU ho
 rw[dK] at hi
 have h2:=List.not_of_lt_findIdx (p:=fun o=> !jM o) (xs:=ops.toList) (i:=i) (by have:OJ ops=ops.toList.findIdx (fun o=> !jM o):=rfl;omega)
 simpa using h2
def AY(P:Program)(ops:Array Oper)(st:aA)(K:AF→aA→Prop):Nat→List Oper→AF→Prop
 | 0,l,φ=>aW P [] ops l K φ st
 | _+1,[],_=>False
 | n+1,o::rest,φ=>d7 P ops st [o] (AY P ops st K n rest) φ
theorem V8{P:Program}{ops:Array Oper}{st:aA}{K:AF→aA→Prop}{l:List Oper}{φ:AF}:AY P ops st K 0 l φ=aW P [] ops l K φ st:=rfl
theorem V9{P:Program}{ops:Array Oper}{st:aA}{K:AF→aA→Prop}{n:Nat}{o:Oper}{l:List Oper}{φ:AF}:AY P ops st K (n+1) (o::l) φ=d7 P ops st [o] (AY P ops st K n l) φ:=rfl
theorem aEE{P:Program}{mt:List Nat}{l:List Oper}{st:aA}{K:AF→aA→Prop}{φ:AF}:aW P mt l.toArray l.toArray.toList K φ st=aW P mt l.toArray l K φ st:=rfl
theorem aEF{P:Program}{l:List Oper}{st:aA}{K:AF→Prop}{φ:AF}:d7 P l.toArray st l.toArray.toList K φ=d7 P l.toArray st l K φ:=rfl
theorem aEG{P:Program}{n:Nat}{l:List Oper}{st:aA}{K:AF→aA→Prop}{φ:AF}:AY P l.toArray st K n l.toArray.toList φ=AY P l.toArray st K n l φ:=rfl
def U9(Q:Exit→AF→aA→Prop)(st:aA)(φ:AF):Prop:=Q .normal φ st
theorem ZA{Q:Exit→AF→aA→Prop}{st:aA}{φ:AF}:U9 Q st φ=Q .normal φ st:=rfl
theorem MJ{P:Program}{st:aA}{N:Nat}{id:Nat}{ops:Array Oper}{Q:Exit→AF→aA→Prop}{φ:AF}(hm:P.follows .mixedOrders=true)(hok:oD N ops=true)(hB:Region.lexB .any ops=true)
 (h:d7 P ops st ops.toList (U9 Q st) φ):eG P N (.region id ops true) Q φ st:=
 aNI hm hok hB (EH _ _ h)
theorem ZX:AV.junk.isAgg=false:=rfl
theorem aE0:AV.junk.width=1:=rfl
theorem aAE:AV.junk.bR=true:=rfl
theorem YT:AV.junk.cells= [AV.junk]:=rfl
theorem aCX:AV.junk.storable=false:=rfl
theorem Z8:AV.undef.isAgg=false:=rfl
theorem aFB:AV.undef.width=1:=rfl
theorem aAP:AV.undef.bR=false:=rfl
theorem Y4:AV.undef.cells= [AV.undef]:=rfl
theorem aC7:AV.undef.storable=false:=rfl
theorem ZW{k:IntKind}{n:Int}:(AV.int k n).isAgg=false:=rfl
theorem aEZ{k:IntKind}{n:Int}:(AV.int k n).width=1:=rfl
theorem aAD{k:IntKind}{n:Int}:(AV.int k n).bR=false:=rfl
theorem YS{k:IntKind}{n:Int}:(AV.int k n).cells= [(AV.int k n)]:=rfl
theorem aCW{k:IntKind}{n:Int}:(AV.int k n).storable=true:=rfl
theorem ZT{b:Bool}:(AV.bool b).isAgg=false:=rfl
theorem aEW{b:Bool}:(AV.bool b).width=1:=rfl
theorem aAA{b:Bool}:(AV.bool b).bR=false:=rfl
theorem YP{b:Bool}:(AV.bool b).cells= [(AV.bool b)]:=rfl
theorem aCT{b:Bool}:(AV.bool b).storable=true:=rfl
theorem Z6{s:ByteArray}:(AV.str s).isAgg=false:=rfl
theorem aE9{s:ByteArray}:(AV.str s).width=1:=rfl
theorem aAN{s:ByteArray}:(AV.str s).bR=false:=rfl
theorem Y2{s:ByteArray}:(AV.str s).cells= [(AV.str s)]:=rfl
theorem aC5{s:ByteArray}:(AV.str s).storable=true:=rfl
theorem Z7{vs:List AV}:(AV.tup vs).isAgg=false:=rfl
theorem aFA{vs:List AV}:(AV.tup vs).width=1:=rfl
theorem aAO{vs:List AV}:(AV.tup vs).bR=false:=rfl
theorem Y3{vs:List AV}:(AV.tup vs).cells= [(AV.tup vs)]:=rfl
theorem aC6{vs:List AV}:(AV.tup vs).storable=false:=rfl
theorem Z5{es:List AV}:(AV.slice es).isAgg=false:=rfl
theorem aE8{es:List AV}:(AV.slice es).width=1:=rfl
theorem aAM{es:List AV}:(AV.slice es).bR=false:=rfl
theorem Y1{es:List AV}:(AV.slice es).cells= [(AV.slice es)]:=rfl
theorem aC4{es:List AV}:(AV.slice es).storable=true:=rfl
theorem ZU{es:List AV}:(AV.fslice es).isAgg=false:=rfl
theorem aEX{es:List AV}:(AV.fslice es).width=1:=rfl
theorem aAB{es:List AV}:(AV.fslice es).bR=false:=rfl
theorem YQ{es:List AV}:(AV.fslice es).cells= [(AV.fslice es)]:=rfl
theorem aCU{es:List AV}:(AV.fslice es).storable=true:=rfl
theorem ZZ{b:Nat}{o:Nat}{l:Nat}{m:Nat}:(AV.mslice b o l m).isAgg=false:=rfl
theorem aE2{b:Nat}{o:Nat}{l:Nat}{m:Nat}:(AV.mslice b o l m).width=1:=rfl
theorem aAG{b:Nat}{o:Nat}{l:Nat}{m:Nat}:(AV.mslice b o l m).bR=false:=rfl
theorem YV{b:Nat}{o:Nat}{l:Nat}{m:Nat}:(AV.mslice b o l m).cells= [(AV.mslice b o l m)]:=rfl
theorem aCZ{b:Nat}{o:Nat}{l:Nat}{m:Nat}:(AV.mslice b o l m).storable=true:=rfl
theorem Z1:AV.nilptr.isAgg=false:=rfl
theorem aE4:AV.nilptr.width=1:=rfl
theorem aAI:AV.nilptr.bR=false:=rfl
theorem YX:AV.nilptr.cells= [AV.nilptr]:=rfl
theorem aC1:AV.nilptr.storable=true:=rfl
theorem Z3{b:Nat}{o:Nat}:(AV.ptr b o).isAgg=false:=rfl
theorem aE6{b:Nat}{o:Nat}:(AV.ptr b o).width=1:=rfl
theorem aAK{b:Nat}{o:Nat}:(AV.ptr b o).bR=false:=rfl
theorem YZ{b:Nat}{o:Nat}:(AV.ptr b o).cells= [(AV.ptr b o)]:=rfl
theorem aC3{b:Nat}{o:Nat}:(AV.ptr b o).storable=true:=rfl
theorem Z2{e:AV}:(AV.pptr e).isAgg=false:=rfl
theorem aE5{e:AV}:(AV.pptr e).width=1:=rfl
theorem aAJ{e:AV}:(AV.pptr e).bR=false:=rfl
theorem YY{e:AV}:(AV.pptr e).cells= [(AV.pptr e)]:=rfl
theorem aC2{e:AV}:(AV.pptr e).storable=true:=rfl
theorem Z0:AV.nilmap.isAgg=false:=rfl
theorem aE3:AV.nilmap.width=1:=rfl
theorem aAH:AV.nilmap.bR=false:=rfl
theorem YW:AV.nilmap.cells= [AV.nilmap]:=rfl
theorem aC0:AV.nilmap.storable=true:=rfl
theorem ZY{b:Nat}:(AV.map b).isAgg=false:=rfl
theorem aE1{b:Nat}:(AV.map b).width=1:=rfl
theorem aAF{b:Nat}:(AV.map b).bR=false:=rfl
theorem YU{b:Nat}:(AV.map b).cells= [(AV.map b)]:=rfl
theorem aCY{b:Nat}:(AV.map b).storable=true:=rfl
theorem ZV{f:FuncId}{cs:List AV}:(AV.func f cs).isAgg=false:=rfl
theorem aEY{f:FuncId}{cs:List AV}:(AV.func f cs).width=1:=rfl
theorem aAC{f:FuncId}{cs:List AV}:(AV.func f cs).bR=false:=rfl
theorem YR{f:FuncId}{cs:List AV}:(AV.func f cs).cells= [(AV.func f cs)]:=rfl
theorem aCV{f:FuncId}{cs:List AV}:(AV.func f cs).storable=true:=rfl
theorem Z4{v:Value}:(AV.raw v).isAgg=false:=rfl
theorem aE7{v:Value}:(AV.raw v).width=1:=rfl
theorem aAL{v:Value}:(AV.raw v).bR=false:=rfl
theorem Y0{v:Value}:(AV.raw v).cells= [(AV.raw v)]:=rfl
theorem ZS{cs:List AV}:(AV.agg cs).isAgg=true:=rfl
theorem aEV{cs:List AV}:(AV.agg cs).width=cs.length:=rfl
theorem Z9{cs:List AV}:(AV.agg cs).bR=false:=rfl
theorem YO{cs:List AV}:(AV.agg cs).cells=cs:=rfl
theorem YM:((0:Nat):Int)=0:=rfl
theorem YN{n:Nat}:((n+1:Nat):Int)=(n:Int)+1:=rfl
theorem gC{st:aA}{b x:Nat}{o:AO}:(st.aC b o) x=if x=b then some o else st x:=rfl
theorem wrap64{n:Int}(h1: -9223372036854775808≤n)(h2:n≤9223372036854775807):IntKind.wrap .i64 n=n:=by
 rw[IntKind.wrap_i64];omega
end Go.AW
