/- Smaller stores, frozen slices, sizes, frames as lists, regions that draw. -/
import Derived.Test.YtimfffmcljmfgaaGreatDoorUxd
set_option linter.unusedSimpArgs false
set_option linter.unusedVariables false
set_option maxRecDepth 100000
namespace Go.AW
def aL(st st':aA):Prop:=∀b,(st b=none→st' b=none)∧∀o,st' b=some o→st b=some o
theorem aL.refl(st:aA):aL st st:=fun _=>⟨id,fun _=>id⟩
theorem aL.trans{a b c:aA}(x:aL a b)(y:aL b c):aL a c:=fun i=>⟨fun h=>(y i).1 ((x i).1 h),fun o h=>(x i).2 o ((y i).2 o h)⟩
theorem aL.aC{st st':aA}(x:aL st st'){b:Nat}{o:AO}(h:st' b=none):aL (st.aC b o) st':=fun i=>by
 simp only[aA.aC]
 split
 · rename_i e;subst e;exact⟨fun _=>h,fun o' h'=>by rw[h] at h';cases h'⟩
 · exact x i
theorem kB(st:aA)(b:Nat):aL st (st.erase b):=fun i=>by
 simp only[aA.erase]
 split
 · exact⟨fun _=>rfl,fun o' h'=>by cases h'⟩
 · exact⟨id,fun _=>id⟩
theorem aL.step{st st':aA}(x:aL st st')(h:bQ):cC h st h st':=⟨cY _,fun b _ e=>⟨rfl,(x b).1 e⟩,fun _ c _ _ e=>⟨c,e,rfl⟩⟩
theorem aL.G2{st st':aA}(x:aL st st'){h:bQ}(S:cS h st):cS h st':=fun b o e=>by
 obtain⟨h1,h2⟩:=S b o ((x b).2 o e)
 refine⟨h1,?_⟩
 cases o with
 | cells as=>
  obtain⟨c,t,e1,e2,vs,e3,e4⟩:=h2
  exact⟨c,t,e1,e2,vs,e3,bB.mono (x.step h) _ _ e4⟩
 | map f=>
  obtain⟨es,clock,e1,e2,e3,e4⟩:=h2
  refine⟨es,clock,e1,e2,e3,fun n=>?_⟩
  have:=e4 n
  cases hf:f n with
  | none=>rw[hf] at this;exact this
  | some a=>
   rw[hf] at this
   obtain⟨e,m,k,v⟩:=this
   exact⟨e,m,k,v.mono (x.step h)⟩
 | tab cs=>exact h2
theorem aL.rJ{st st':aA}(x:aL st st'):H4 st st':=fun h S=>⟨x.G2 S,x.step h⟩
theorem aL.mE{st st':aA}(x:aL st st')(r:AV):CA st r st' r:=fun h _ _ y=>y.mono (x.step h)
theorem aD.drop{P:Program}{g:FuncId}{args:List AV}{st:aA}{Q:AV→Prop}(x:aD P g args st (fun r st'=>aL st' st∧Q r)):aD P g args st (fun r st'=>Q r∧st'=st):=
 x.mE fun r st' ⟨h1,h2⟩=>⟨r,st,h1.rJ,h1.mE r,h2,rfl⟩
mutual
def AV.fz(b:Nat)(es:List AV):AV→AV
 | .mslice b' 0 n sz=>if b'=b∧n=es.length then .slice es else .mslice b' 0 n sz
 | .agg cs=>.agg (lK b es cs)
 | .tup vs=>.tup (lK b es vs)
 | a=>a
def lK(b:Nat)(es:List AV):List AV→List AV
 | []=>[]
 | a::as=>AV.fz b es a::lK b es as
end
theorem aOM(b:Nat)(es:List AV)(a:AV):(a.fz b es).isAgg=a.isAgg:=by
 cases a<;>try rfl
 case mslice b' off n sz=>
  cases off with
  | zero=>simp only[AV.fz];split<;>rfl
  | succ k=>rfl
section
variable {h:bQ} {st:aA} {b:Nat} {es:List AV}
theorem frozen(S:cS h st)(hb:st b=some (.cells (es.flatMap AV.cells)))(hj:∀e∈es,e.cE=false):b<h.size∧dI h (st.erase b) b 0 es:=by
 obtain⟨h1,c,t,e1,e2,vs,e3,e4⟩:=S b _ hb
 exact⟨h1,dI.mono ((kB st b).step h) b rfl _ _ (L2 hj e3 e4)⟩
theorem VC.a2V{b' off n sz:Nat}{cs:List Value}(S:cS h st)(hb:st b=some (.cells (es.flatMap AV.cells)))(hj:∀e∈es,e.cE=false)(hE:iV es)(x:VC h st (.mslice b' off n sz) cs):VC h (st.erase b) ((AV.mslice b' off n sz).fz b es) cs:=by
 have x0:VC h (st.erase b) (.mslice b' off n sz) cs:=VC.mono ((kB st b).step h) _ _ x
 cases off with
 | succ k=>exact x0
 | zero=>
  simp only[AV.fz]
  split
  · rename_i e
    obtain⟨rfl,rfl⟩:=e
    simp only[VC] at x
    obtain⟨cap,e1,l1,l2,c,t,_,_⟩:=x
    obtain⟨hs,hE'⟩:=frozen S hb hj
    unfold VC
    exact .inr ⟨b',0,cap,e1,l1,l2,aA.aDL _ _,hs,hE,hE'⟩
  · exact x0
mutual
theorem VC.fz(S:cS h st)(hb:st b=some (.cells (es.flatMap AV.cells)))(hj:∀e∈es,e.cE=false)(hE:iV es):∀(a:AV) (cs:List Value),VC h st a cs→VC h (st.erase b) (a.fz b es) cs
 | .mslice b' off n sz,cs,x=>VC.a2V S hb hj hE x
 | .agg as,cs,x=>by simp only[VC,AV.fz] at x ⊢;exact bB.fz S hb hj hE as cs x
 | .tup as,cs,x=>by
  simp only[VC,AV.fz] at x ⊢
  obtain⟨vs,e,r⟩:=x
  exact⟨vs,e,dX.fz S hb hj hE as vs r⟩
 | .junk,cs,x=>VC.mono ((kB st b).step h) _ _ x
 | .undef,cs,x=>VC.mono ((kB st b).step h) _ _ x
 | .int _ _,cs,x=>VC.mono ((kB st b).step h) _ _ x
 | .bool _,cs,x=>VC.mono ((kB st b).step h) _ _ x
 | .str _,cs,x=>VC.mono ((kB st b).step h) _ _ x
 | .slice _,cs,x=>VC.mono ((kB st b).step h) _ _ x
 | .fslice _,cs,x=>VC.mono ((kB st b).step h) _ _ x
 | .nilptr,cs,x=>VC.mono ((kB st b).step h) _ _ x
 | .ptr _ _,cs,x=>VC.mono ((kB st b).step h) _ _ x
 | .pptr _,cs,x=>VC.mono ((kB st b).step h) _ _ x
 | .nilmap,cs,x=>VC.mono ((kB st b).step h) _ _ x
 | .map _,cs,x=>VC.mono ((kB st b).step h) _ _ x
 | .func _ _,cs,x=>VC.mono ((kB st b).step h) _ _ x
 | .raw _,cs,x=>VC.mono ((kB st b).step h) _ _ x
 | .eslice,cs,x=>VC.mono ((kB st b).step h) _ _ x
theorem bB.fz(S:cS h st)(hb:st b=some (.cells (es.flatMap AV.cells)))(hj:∀e∈es,e.cE=false)(hE:iV es):∀(as:List AV) (cs:List Value),bB h st as cs→bB h (st.erase b) (lK b es as) cs
 | [],_,x=>x
 | a::as,cs,x=>by
  simp only[bB,lK] at x ⊢
  obtain⟨c,r,e,x1,x2⟩:=x
  exact⟨c,r,e,VC.fz S hb hj hE a [c] x1,bB.fz S hb hj hE as r x2⟩
theorem dX.fz(S:cS h st)(hb:st b=some (.cells (es.flatMap AV.cells)))(hj:∀e∈es,e.cE=false)(hE:iV es):∀(as:List AV) (cs:List Value),dX h st as cs→dX h (st.erase b) (lK b es as) cs
 | [],_,x=>x
 | a::as,cs,x=>by
  simp only[dX,lK] at x ⊢
  obtain⟨v,r,e,x1,x2⟩:=x
  exact⟨v,r,e,⟨(aOM b es a).trans x1.1,VC.fz S hb hj hE a _ x1.2⟩,dX.fz S hb hj hE as r x2⟩
end
theorem aR.fz{a:AV}{v:Value}(S:cS h st)(hb:st b=some (.cells (es.flatMap AV.cells)))(hj:∀e∈es,e.cE=false)(hE:iV es)(x:aR h st a v):aR h (st.erase b) (a.fz b es) v:=by
 have key:a.isAgg=kI v∧VC h st a v.cells.toList→aR h (st.erase b) (a.fz b es) v:=fun x=>by
  have y:(a.fz b es).isAgg=kI v∧VC h (st.erase b) (a.fz b es) v.cells.toList:=⟨(aOM b es a).trans x.1,VC.fz S hb hj hE a _ x.2⟩
  cases hq:a.fz b es<;>rw[hq] at y<;>first | trivial | exact y
 cases a<;>first | trivial | exact key x
end
theorem aD.freeze{P:Program}{g:FuncId}{args:List AV}{st:aA}{Q:AV→aA→Prop}
 (x:aD P g args st (fun r st'=>∃b es,st' b=some (.cells (es.flatMap AV.cells))∧(∀e∈es,e.cE=false)∧iV es∧Q (r.fz b es) (st'.erase b))):aD P g args st Q:=
 x.mE fun r st' ⟨b,es,h1,h2,h3,h4⟩=>⟨r.fz b es,st'.erase b,(kB st' b).rJ,fun _ _ S y=>y.fz S h1 h2 h3,h4⟩
theorem gJ.freeze{φ:AF}{st:aA}{b:Nat}{es:List AV}(h1:st b=some (.cells (es.flatMap AV.cells)))(h2:∀e∈es,e.cE=false)(h3:iV es):gJ φ st (fun d=>(φ d).fz b es) (st.erase b):=
 fun h _ S F=>⟨(kB st b).G2 S,(kB st b).step h,fun d=>(F d).fz S h1 h2 h3⟩
theorem gJ.drop{φ:AF}{st st':aA}(x:aL st st'):gJ φ st φ st':=fun h _ S F=>⟨x.G2 S,x.step h,fun d=>(F d).mono (x.step h)⟩
mutual
def AV.soft:AV→AV
 | .fslice es=>.slice es
 | .agg cs=>.agg (iS cs)
 | .tup vs=>.tup (iS vs)
 | a=>a
def iS:List AV→List AV
 | []=>[]
 | a::as=>a.soft::iS as
end
theorem a9I(a:AV):a.soft.isAgg=a.isAgg:=by cases a<;>rfl
section
variable {h:bQ} {st:aA}
mutual
theorem VC.soft:∀(a:AV) (cs:List Value),VC h st a cs→VC h st a.soft cs
 | .fslice es,cs,x=>by
  simp only[AV.soft]
  unfold VC at x ⊢
  rcases x with x | ⟨b,off,e,l,r⟩
  · exact .inl x
  · exact .inr ⟨b,off,es.length,e,cY _,l,r⟩
 | .agg as,cs,x=>by simp only[VC,AV.soft] at x ⊢;exact bB.soft as cs x
 | .tup as,cs,x=>by
  simp only[VC,AV.soft] at x ⊢
  obtain⟨vs,e,r⟩:=x
  exact⟨vs,e,dX.soft as vs r⟩
 | .mslice _ _ _ _,cs,x=>x
 | .junk,cs,x=>x
 | .undef,cs,x=>x
 | .int _ _,cs,x=>x
 | .bool _,cs,x=>x
 | .str _,cs,x=>x
 | .slice _,cs,x=>x
 | .nilptr,cs,x=>x
 | .ptr _ _,cs,x=>x
 | .pptr _,cs,x=>x
 | .nilmap,cs,x=>x
 | .map _,cs,x=>x
 | .func _ _,cs,x=>x
 | .raw _,cs,x=>x
 | .eslice,cs,x=>x
theorem bB.soft:∀(as:List AV) (cs:List Value),bB h st as cs→bB h st (iS as) cs
 | [],_,x=>x
 | a::as,cs,x=>by
  simp only[bB,iS] at x ⊢
  obtain⟨c,r,e,x1,x2⟩:=x
  exact⟨c,r,e,VC.soft a [c] x1,bB.soft as r x2⟩
theorem dX.soft:∀(as:List AV) (cs:List Value),dX h st as cs→dX h st (iS as) cs
 | [],_,x=>x
 | a::as,cs,x=>by
  simp only[dX,iS] at x ⊢
  obtain⟨v,r,e,x1,x2⟩:=x
  exact⟨v,r,e,⟨(a9I a).trans x1.1,VC.soft a _ x1.2⟩,dX.soft as r x2⟩
end
theorem aR.soft{a:AV}{v:Value}(x:aR h st a v):aR h st a.soft v:=by
 cases a
 case fslice=>exact x.JM
 case agg=>exact⟨x.1,VC.soft _ _ x.2⟩
 case tup=>exact⟨x.1,VC.soft _ _ x.2⟩
 all_goals exact x
end
theorem aD.soft{P:Program}{g:FuncId}{args:List AV}{st:aA}{Q:AV→aA→Prop}(x:aD P g args st (fun r st'=>Q r.soft st')):aD P g args st Q:=
 x.mE fun r st' h=>⟨r.soft,st',(aL.refl st').rJ,fun _ _ _ y=>y.soft,h⟩
theorem aD.rH{P:Program}{g:FuncId}{args:List AV}{st:aA}{Q:AV→aA→Prop}(x:aD P g (iS args) st Q):aD P g args st Q:=
 x.args fun hp=>by
  have:∀(as:List AV) (vs:List Value),dF hp st as vs→dF hp st (iS as) vs:=by
   intro as
   induction as with
   | nil=>intro vs y;exact y
   | cons a as ih=>
    intro vs y
    simp only[dF,iS] at y ⊢
    obtain⟨v,r,rfl,y1,y2⟩:=y
    exact⟨v,r,rfl,y1.soft,ih r y2⟩
  exact fun vs _=>this args vs
mutual
def AV.fits:AV→Prop
 | .str s=>s.size≤9223372036854775807
 | .agg cs=>eW cs
 | .tup vs=>eW vs
 | .slice es=>es.length≤9223372036854775807∧eW es
 | .fslice es=>es.length≤9223372036854775807∧eW es
 | .mslice _ _ n _=>n≤9223372036854775807
 | .pptr e=>e.fits
 | _=>True
def eW:List AV→Prop
 | []=>True
 | a::as=>a.fits∧eW as
end
section
variable {h:bQ} {st:aA}
mutual
theorem VC.fits:∀(a:AV) (cs:List Value),VC h st a cs→a.fits
 | .str s,cs,x=>by simp only[VC,maxLen] at x;exact x.2
 | .agg as,cs,x=>by simp only[VC,AV.fits] at x ⊢;exact bB.fits as cs x
 | .tup as,cs,x=>by
  simp only[VC,AV.fits] at x ⊢
  obtain⟨vs,e,r⟩:=x
  exact dX.fits as vs r
 | .slice es,cs,x=>by
  simp only[VC,AV.fits] at x ⊢
  rcases x with ⟨⟨p0,_⟩,rfl⟩ | ⟨b,off,cap,_,l1,l2,_,_,_,r⟩
  · exact⟨by simp,trivial⟩
  · exact⟨mK l1 l2,dI.fits es off r⟩
 | .fslice es,cs,x=>by
  simp only[VC,AV.fits] at x ⊢
  rcases x with ⟨⟨p0,_⟩,rfl⟩ | ⟨b,off,_,l1,_,_,_,r⟩
  · exact⟨by simp,trivial⟩
  · exact⟨l1,dI.fits es off r⟩
 | .mslice _ _ n _,cs,x=>by
  simp only[VC,AV.fits] at x ⊢
  obtain⟨cap,_,l1,l2,_⟩:=x
  exact mK l1 l2
 | .pptr e,cs,x=>by
  simp only[VC,AV.fits] at x ⊢
  obtain⟨b,off,_,_,_,vs,_,_,y⟩:=x
  exact VC.fits e vs y
 | .junk,cs,x=>trivial
 | .undef,cs,x=>trivial
 | .int _ _,cs,x=>trivial
 | .bool _,cs,x=>trivial
 | .nilptr,cs,x=>trivial
 | .ptr _ _,cs,x=>trivial
 | .nilmap,cs,x=>trivial
 | .map _,cs,x=>trivial
 | .func _ _,cs,x=>trivial
 | .raw _,cs,x=>trivial
 | .eslice,cs,x=>trivial
theorem bB.fits:∀(as:List AV) (cs:List Value),bB h st as cs→eW as
 | [],_,x=>trivial
 | a::as,cs,x=>by
  simp only[bB] at x
  obtain⟨c,r,e,x1,x2⟩:=x
  exact⟨VC.fits a [c] x1,bB.fits as r x2⟩
theorem dX.fits:∀(as:List AV) (cs:List Value),dX h st as cs→eW as
 | [],_,x=>trivial
 | a::as,cs,x=>by
  simp only[dX] at x
  obtain⟨v,r,e,x1,x2⟩:=x
  exact⟨VC.fits a _ x1.2,dX.fits as r x2⟩
theorem dI.fits{b:Nat}:∀(as:List AV) (off:Nat),dI h st b off as→eW as
 | [],_,x=>trivial
 | a::as,off,x=>by
  simp only[dI] at x
  obtain⟨⟨cs,_,_,x3⟩,x4⟩:=x
  exact⟨VC.fits a cs x3,dI.fits as _ x4⟩
end
theorem aR.fits{a:AV}{v:Value}(x:aR h st a v):a.fits:=by
 cases a<;>first | trivial | exact VC.fits _ _ x.2
theorem dF.fits:∀ {as:List AV} {vs:List Value},dF h st as vs→eW as
 | [],_,_=>trivial
 | a::as,vs,x=>by
  simp only[dF] at x
  obtain⟨v,r,_,x1,x2⟩:=x
  exact⟨x1.fits,dF.fits x2⟩
end
theorem zw6{P:Program}{g:FuncId}{fn:Func}{c:Code}{args:List AV}{st:aA}{N:Nat}{rs:List ResultVar}{K:AV→aA→Prop}(mt:List Nat)(hf:P.funcs[g]?=some fn)(hN:fn.ntmps=N)(hr:fn.results=rs.toArray)(hb:fn.body=some c)(hn:(fn.name == "runtime.NumGoroutine")=false)
 (hok:codeOk N c=true) (rZ:args.length≤N) (e:eW args→gT P N mt c (GY P rs.toArray K) (sY 0 args) st):aD P g args st K:=by
 subst hN
 rw[←hr] at e
 exact⟨⟨fn,hf,by simp [hb],hn⟩,fun w vs S V=>(aV5 mt hf hb hn hok rZ (e V.fits)).2 w vs S V⟩
def kW:List (Nat×AV)→AF
 | []=>AF.bot
 | (d,v)::l=>(kW l).aC d v
def CX(φ:AF):List (Nat×AV)→Prop
 | []=>True
 | (d,v)::l=>φ d=v∧CX φ l
theorem gJ.kW{φ:AF}{st:aA}:∀ {l:List (Nat×AV)},CX φ l→gJ φ st (kW l) st
 | [],_=>gJ.bot φ st
 | (d,v)::l,h=>(gJ.kW h.2).aC h.1
theorem aHT{φ:AF}:CX φ []=True:=rfl
theorem aHU{φ:AF}{d:Nat}{v:AV}{l:List (Nat×AV)}:CX φ ((d,v)::l)=(φ d=v∧CX φ l):=rfl
theorem aD.to{P:Program}{g:FuncId}{args:List AV}{st:aA}{r:AV}{K:AV→aA→Prop}(x:aD P g args st (fun r' st'=>r'=r∧st'=st))(h:K r st):aD P g args st K:=
 x.mono fun _ _ ⟨e1,e2⟩=>by rw[e1,e2];exact h
theorem AC{P:Program}{N:Nat}(mt:List Nat){c:Code}{Q:Exit→AF→aA→Prop}{φ:AF}{st:aA}(hok:codeOk N c=true)(e:gT P N mt c Q φ st):fU P N c Q φ st:=CB c Q φ st hok e
def yH(l:List (Nat×AV)):AF:=kW l
theorem aHN:yH []=AF.bot:=rfl
theorem aHM{d:Nat}{v:AV}{l:List (Nat×AV)}:yH ((d,v)::l)=(yH l).aC d v:=rfl
def aM(φ:AF)(st:aA)(l:List (Nat×AV))(st':aA):Prop:=gJ φ st (kW l) st'
theorem aM.mk{φ:AF}{st:aA}{l:List (Nat×AV)}(h:CX φ l):aM φ st l st:=gJ.kW h
theorem aM.drop{φ:AF}{st st':aA}{l:List (Nat×AV)}(d:aL st st')(h:CX φ l):aM φ st l st':=(gJ.drop d).trans (gJ.kW h)
theorem zN{P:Program}{N:Nat}{c:Code}{Q:Exit→AF→aA→Prop}{φ:AF}{st:aA}{α:Type}(mt:List Nat)(inv:α→Prop)(fl:α→List (Nat×AV))(so:α→aA)(μ:α→Nat)(hok:codeOk N c=true)
 (h0:∃s,inv s∧aM φ st (fl s) (so s))
 (h1:∀s,inv s→gT P N mt c (rA (fun φ' st'=>∃s',μ s'<μ s∧inv s'∧aM φ' st' (fl s') (so s')) Q) (yH (fl s)) (so s)):fU P N (.loop c) Q φ st:=
 RX inv (fun s=>kW (fl s)) so μ h0 fun s hs=>AC mt hok (h1 s hs)
theorem cX{P:Program}{mt:List Nat}{ops:Array Oper}{o:Oper}{l:List Oper}{K:AF→aA→Prop}{φ:AF}{st:aA}{c want:Bool}
 (h1:c=want→yY P mt ops o l K φ st (some true)) (h2:c=(!want)→yY P mt ops o l K φ st (some false)):yY P mt ops o l K φ st (some (c == want)):=by
 cases c<;>cases want<;>first | exact h1 rfl | exact h2 rfl
def lP(o:Oper):Bool:=match o.op with
 | .call { callee:=.value _,.. }=>false
 | .call { callee:=.builtin .append,.. }=>false
 | .call { callee:=.builtin .delete,.. }=>false
 | .call { callee:=.builtin .clear,.. }=>false
 | .alloc _=>false
 | .store _ _ _=>false
 | .makeMap _ none=>false
 | .makeSlice _ _ _=>false
 | .mapUpdate _ _ _ _=>false
 | _=>true
theorem uH{P:Program}{φ:AF}{st:aA}{o:Oper}{K:AV→aA→Prop}(h:lP o=true):fM P [] φ st o K=match mO P φ st o with | some r=>K r st | none=>False:=by
 obtain⟨dst,op,type,pos,after,guard⟩:=o
 unfold fM
 split
 case h_5 t x e=>
  simp only at e
  subst e
  simp only[ED,List.contains_nil,mO]
  cases dst<;>rfl
 case h_11=>rfl
 all_goals (rename_i e;simp only at e;subst e;simp [lP] at h)
def fG(P:Program)(ops:Array Oper)(st:aA):List Oper→(AF→Prop)→AF→Prop
 | [],K,φ=>K φ
 | o::rest,K,φ=>if lP o=true then bF P [] ops [o] (fun φ' _=>fG P ops st rest K φ') φ st else
  match o.guard,o.op with
  | none,.call { callee:=.value f,args,.. }=>∃r,uL P (φ.eval f) (args.toList.map φ.eval) st (fun r' st'=>r'=r∧st'=st)∧fG P ops st rest K (φ.put o.dst r)
  | _,_=>False
theorem H8{P:Program}{ops:Array Oper}{st:aA}{K:AF→Prop}:∀(l:List Oper) (φ:AF),fG P ops st l K φ→rP P st ops l K φ
 | [],_,h=>h
 | o::rest,φ,h=>by
  simp only[fG] at h
  split at h
  · rename_i hp
    simp only[bF] at h
    simp only[rP]
    split at h
    · rename_i hg
      rw[uH hp] at h
      rw[hg]
      simp only
      split at h
      · rename_i r hr
        exact⟨r,by rw[uH hp,hr];exact⟨rfl,rfl⟩,H8 rest _ h⟩
      · cases h
    · rename_i hg
      rw[hg]
      exact H8 rest _ h
    · cases h
  · split at h
    · rename_i f args ats hg ho
      obtain⟨r,h1,h2⟩:=h
      simp only[rP,j8,hg]
      refine⟨r,?_,H8 rest _ h2⟩
      simp only[fM,ho]
      exact h1
    · cases h
theorem aDP{P:Program}{ops:Array Oper}{st:aA}{K:AF→Prop}{φ:AF}:fG P ops st [] K φ=K φ:=rfl
def hK(P:Program)(ops:Array Oper)(st:aA)(rest:List Oper)(K:AF→Prop)(φ:AF)(_:aA):Prop:=fG P ops st rest K φ
theorem aHS{P:Program}{ops:Array Oper}{st st':aA}{K:AF→Prop}{φ:AF}{rest:List Oper}:hK P ops st rest K φ st'=fG P ops st rest K φ:=rfl
theorem mH{P:Program}{ops:Array Oper}{st:aA}{K:AF→Prop}{φ:AF}{o:Oper}{rest:List Oper}(h:lP o=true):fG P ops st (o::rest) K φ=bF P [] ops [o] (hK P ops st rest K) φ st:=by
 simp [fG,h]
 rfl
def AH(P:Program)(f:AV)(args:List AV)(st:aA)(K:AV→Prop):Prop:=∃r,uL P f args st (fun r' st'=>r'=r∧st'=st)∧K r
def F1(P:Program)(ops:Array Oper)(st:aA)(rest:List Oper)(K:AF→Prop)(φ:AF)(dst:Option Tmp)(r:AV):Prop:=fG P ops st rest K (φ.put dst r)
theorem aU5{P:Program}{ops:Array Oper}{st:aA}{K:AF→Prop}{φ:AF}{rest:List Oper}{dst:Option Tmp}{f:Operand}{args:List Operand}{ats:Array TypeId}{type:TypeId}{pos:String}{after:Array Edge} :
 fG P ops st (⟨dst,.call { callee:=.value f,args:=args.toArray,argTypes:=ats },type,pos,after,none⟩::rest) K φ=AH P (φ.eval f) (args.map φ.eval) st (F1 P ops st rest K φ dst):=by
 simp [fG,lP,AH,F1]
section
variable {P:Program} {ops:Array Oper} {st:aA} {K:AF→Prop} {φ:AF} {rest:List Oper} {dst:Option Tmp} {type:TypeId} {pos:String} {after:Array Edge} {g:Option (Nat×Bool)}
theorem aEB{f:Operand}{args:List Operand}{ats:Array TypeId} :
 fG P ops st (⟨dst,.call { callee:=.value f,args:=args.toArray,argTypes:=ats },type,pos,after,none⟩::rest) K φ=AH P (φ.eval f) (args.map φ.eval) st (F1 P ops st rest K φ dst):=aU5
theorem aDQ{x:Operand}:fG P ops st (⟨dst,.move x,type,pos,after,g⟩::rest) K φ=bF P [] ops [⟨dst,.move x,type,pos,after,g⟩] (hK P ops st rest K) φ st:=mH rfl
theorem aD2{x:Operand}:fG P ops st (⟨dst,.assign x,type,pos,after,g⟩::rest) K φ=bF P [] ops [⟨dst,.assign x,type,pos,after,g⟩] (hK P ops st rest K) φ st:=mH rfl
theorem aD3{c x y:Operand}:fG P ops st (⟨dst,.pick c x y,type,pos,after,g⟩::rest) K φ=bF P [] ops [⟨dst,.pick c x y,type,pos,after,g⟩] (hK P ops st rest K) φ st:=mH rfl
theorem aD4{op:BinOp}{t t':TypeId}{x y:Operand}:fG P ops st (⟨dst,.binOp op t x y t',type,pos,after,g⟩::rest) K φ=bF P [] ops [⟨dst,.binOp op t x y t',type,pos,after,g⟩] (hK P ops st rest K) φ st:=mH rfl
theorem aD5{op:UnOp}{t:TypeId}{x:Operand}:fG P ops st (⟨dst,.unOp op t x,type,pos,after,g⟩::rest) K φ=bF P [] ops [⟨dst,.unOp op t x,type,pos,after,g⟩] (hK P ops st rest K) φ st:=mH rfl
theorem aD6{x:Operand}:fG P ops st (⟨dst,.nilCheck x,type,pos,after,g⟩::rest) K φ=bF P [] ops [⟨dst,.nilCheck x,type,pos,after,g⟩] (hK P ops st rest K) φ st:=mH rfl
theorem aD7{t f:Nat}{x:Operand}:fG P ops st (⟨dst,.fieldAddr t x f,type,pos,after,g⟩::rest) K φ=bF P [] ops [⟨dst,.fieldAddr t x f,type,pos,after,g⟩] (hK P ops st rest K) φ st:=mH rfl
theorem aD8{t:TypeId}{x:Operand}:fG P ops st (⟨dst,.load t x,type,pos,after,g⟩::rest) K φ=bF P [] ops [⟨dst,.load t x,type,pos,after,g⟩] (hK P ops st rest K) φ st:=mH rfl
theorem aD9{t f:Nat}{x:Operand}:fG P ops st (⟨dst,.field t x f,type,pos,after,g⟩::rest) K φ=bF P [] ops [⟨dst,.field t x f,type,pos,after,g⟩] (hK P ops st rest K) φ st:=mH rfl
theorem aDR{t:TypeId}{x i:Operand}:fG P ops st (⟨dst,.indexAddr t x i,type,pos,after,g⟩::rest) K φ=bF P [] ops [⟨dst,.indexAddr t x i,type,pos,after,g⟩] (hK P ops st rest K) φ st:=mH rfl
theorem aDS{t:TypeId}{x i:Operand}:fG P ops st (⟨dst,.index t x i,type,pos,after,g⟩::rest) K φ=bF P [] ops [⟨dst,.index t x i,type,pos,after,g⟩] (hK P ops st rest K) φ st:=mH rfl
theorem aDT{t:TypeId}{x:Operand}{lo hi mx:Option Operand}:fG P ops st (⟨dst,.slice t x lo hi mx,type,pos,after,g⟩::rest) K φ=bF P [] ops [⟨dst,.slice t x lo hi mx,type,pos,after,g⟩] (hK P ops st rest K) φ st:=mH rfl
theorem aDU{x:Operand}{i:Nat}:fG P ops st (⟨dst,.extract x i,type,pos,after,g⟩::rest) K φ=bF P [] ops [⟨dst,.extract x i,type,pos,after,g⟩] (hK P ops st rest K) φ st:=mH rfl
theorem aDV{t:TypeId}{ps:Array (Nat×Operand)}:fG P ops st (⟨dst,.build t ps,type,pos,after,g⟩::rest) K φ=bF P [] ops [⟨dst,.build t ps,type,pos,after,g⟩] (hK P ops st rest K) φ st:=mH rfl
theorem aDW{t:TypeId}{n:Nat}{ps:Array (Nat×Operand)}:fG P ops st (⟨dst,.buildSlice t n ps,type,pos,after,g⟩::rest) K φ=bF P [] ops [⟨dst,.buildSlice t n ps,type,pos,after,g⟩] (hK P ops st rest K) φ st:=mH rfl
theorem aDX{t u:TypeId}{x:Operand}:fG P ops st (⟨dst,.convert t u x,type,pos,after,g⟩::rest) K φ=bF P [] ops [⟨dst,.convert t u x,type,pos,after,g⟩] (hK P ops st rest K) φ st:=mH rfl
theorem aDY{t:TypeId}{x i:Operand}{ok:Bool}:fG P ops st (⟨dst,.lookup t x i ok,type,pos,after,g⟩::rest) K φ=bF P [] ops [⟨dst,.lookup t x i ok,type,pos,after,g⟩] (hK P ops st rest K) φ st:=mH rfl
theorem aDZ{x:Operand}{t:TypeId}:fG P ops st (⟨dst,.call { callee:=.builtin .len,args:=#[x],argTypes:=#[t] },type,pos,after,g⟩::rest) K φ=bF P [] ops [⟨dst,.call { callee:=.builtin .len,args:=#[x],argTypes:=#[t] },type,pos,after,g⟩] (hK P ops st rest K) φ st:=mH rfl
theorem aD0{x y:Operand}{ts:Array TypeId}:fG P ops st (⟨dst,.call { callee:=.builtin .max,args:=#[x,y],argTypes:=ts },type,pos,after,g⟩::rest) K φ=bF P [] ops [⟨dst,.call { callee:=.builtin .max,args:=#[x,y],argTypes:=ts },type,pos,after,g⟩] (hK P ops st rest K) φ st:=mH rfl
theorem aD1{x y:Operand}{ts:Array TypeId}:fG P ops st (⟨dst,.call { callee:=.builtin .min,args:=#[x,y],argTypes:=ts },type,pos,after,g⟩::rest) K φ=bF P [] ops [⟨dst,.call { callee:=.builtin .min,args:=#[x,y],argTypes:=ts },type,pos,after,g⟩] (hK P ops st rest K) φ st:=mH rfl
end
theorem aEA{P:Program}{ops:Array Oper}{st:aA}{K:AF→Prop}{φ:AF}{rest:List Oper}{dst:Option Tmp}{r:AV}:F1 P ops st rest K φ dst r=fG P ops st rest K (φ.put dst r):=rfl
theorem jC{P:Program}{g:FuncId}{args:List AV}{st:aA}{r:AV}{K:AV→Prop}(x:aD P g args st (fun r' st'=>r'=r∧st'=st))(h:K r):AH P (.func g []) args st K:=⟨r,by show aD P g (args++ []) st _;rw[gF];exact x,h⟩
@[congr] theorem bCM {P:Program} {ops:Array Oper} {l:List Oper} {K:AF→Prop} {φ φ':AF} {st st':aA} (h1:φ=φ') (h2:st=st'):fG P ops st l K φ=fG P ops st' l K φ':=by rw[h1,h2]
@[congr] theorem bCT {P:Program} {f f':AV} {args args':List AV} {st st':aA} {K:AV→Prop} (h0:f=f') (h1:args=args') (h2:st=st'):AH P f args st K=AH P f' args' st' K:=by rw[h0,h1,h2]
@[congr] theorem bCW {P:Program} {ops:Array Oper} {l:List Oper} {K:AF→Prop} {φ:AF} {st:aA} {dst:Option Tmp} {r r':AV} (h1:r=r'):F1 P ops st l K φ dst r=F1 P ops st l K φ dst r':=by rw[h1]
def UO(ops:Array Oper):Nat:=(ops.toList.findIdx fun o=> !lP o)
theorem aWQ{P:Program}{st:aA}{N:Nat}{id:Nat}{ops:Array Oper}{Q:Exit→AF→aA→Prop}{φ:AF}(hm:P.follows .mixedOrders=true)(hok:rE N ops=true)(hB:Region.lexTailB .any ops (UO ops)=true)
 (h:bF P [] ops ops.toList (Q .normal) φ st):fU P N (.region id ops true) Q φ st:=by
 refine aWO (UO ops) hm hok hB (H8 _ _ ?_)
 have key:∀(l1 l2:List Oper) (φ:AF),(∀o∈l1,lP o=true)→bF P [] ops (l1++l2) (Q .normal) φ st→fG P ops st l1 (fun φ'=>bF P [] ops l2 (Q .normal) φ' st) φ:=by
  intro l1
  induction l1 with
  | nil=>intro l2 φ _ h;exact h
  | cons o l1 ih=>
   intro l2 φ hp h
   have ho:=hp o (by simp)
   have hr:∀o∈l1,lP o=true:=fun o h=>hp o (by simp [h])
   simp only[fG,ho,eX,bF]
   simp only[iB,bF] at h
   split at h
   · rename_i hg
     rw[uH ho] at h
     rw[uH ho]
     split at h
     · rename_i hr2
       first | rw[hr2] | skip
       exact ih l2 _ hr h
     · cases h
   · exact ih l2 _ hr h
   · cases h
 refine key _ _ φ (fun o ho=>?_) (by rw[qG];exact h)
 obtain⟨i,hi,rfl⟩:=List.getElem_of_mem ho
 rw[dE] at hi
 have h2:=List.not_of_lt_findIdx (p:=fun o=> !lP o) (xs:=ops.toList) (i:=i) (by have:UO ops=ops.toList.findIdx (fun o=> !lP o):=rfl;omega)
 simpa using h2
def EX(P:Program)(ops:Array Oper)(st:aA)(K:AF→aA→Prop):Nat→List Oper→AF→Prop
 | 0,l,φ=>bF P [] ops l K φ st
 | _+1,[],_=>False
 | n+1,o::rest,φ=>fG P ops st [o] (EX P ops st K n rest) φ
theorem aED{P:Program}{ops:Array Oper}{st:aA}{K:AF→aA→Prop}{l:List Oper}{φ:AF}:EX P ops st K 0 l φ=bF P [] ops l K φ st:=rfl
theorem aEE{P:Program}{ops:Array Oper}{st:aA}{K:AF→aA→Prop}{n:Nat}{o:Oper}{l:List Oper}{φ:AF}:EX P ops st K (n+1) (o::l) φ=fG P ops st [o] (EX P ops st K n l) φ:=rfl
theorem aMF{P:Program}{mt:List Nat}{l:List Oper}{st:aA}{K:AF→aA→Prop}{φ:AF}:bF P mt l.toArray l.toArray.toList K φ st=bF P mt l.toArray l K φ st:=rfl
theorem aMG{P:Program}{l:List Oper}{st:aA}{K:AF→Prop}{φ:AF}:fG P l.toArray st l.toArray.toList K φ=fG P l.toArray st l K φ:=rfl
theorem aMH{P:Program}{n:Nat}{l:List Oper}{st:aA}{K:AF→aA→Prop}{φ:AF}:EX P l.toArray st K n l.toArray.toList φ=EX P l.toArray st K n l φ:=rfl
def aDK(Q:Exit→AF→aA→Prop)(st:aA)(φ:AF):Prop:=Q .normal φ st
theorem aHD{Q:Exit→AF→aA→Prop}{st:aA}{φ:AF}:aDK Q st φ=Q .normal φ st:=rfl
theorem E5{P:Program}{st:aA}{N:Nat}{id:Nat}{ops:Array Oper}{Q:Exit→AF→aA→Prop}{φ:AF}(hm:P.follows .mixedOrders=true)(hok:rE N ops=true)(hB:Region.lexB .any ops=true)
 (h:fG P ops st ops.toList (aDK Q st) φ):fU P N (.region id ops true) Q φ st:=
 aWP hm hok hB (H8 _ _ h)
theorem aH0:AV.junk.isAgg=false:=rfl
theorem aM1:AV.junk.width=1:=rfl
theorem aIH:AV.junk.cE=true:=rfl
theorem aGW:AV.junk.cells= [AV.junk]:=rfl
theorem aK0:AV.junk.storable=false:=rfl
theorem aIB:AV.undef.isAgg=false:=rfl
theorem aNC:AV.undef.width=1:=rfl
theorem aIS:AV.undef.cE=false:=rfl
theorem aG7:AV.undef.cells= [AV.undef]:=rfl
theorem aLA:AV.undef.storable=false:=rfl
theorem aHZ{k:IntKind}{n:Int}:(AV.int k n).isAgg=false:=rfl
theorem aM0{k:IntKind}{n:Int}:(AV.int k n).width=1:=rfl
theorem aIG{k:IntKind}{n:Int}:(AV.int k n).cE=false:=rfl
theorem aGV{k:IntKind}{n:Int}:(AV.int k n).cells= [(AV.int k n)]:=rfl
theorem aKZ{k:IntKind}{n:Int}:(AV.int k n).storable=true:=rfl
theorem aHW{b:Bool}:(AV.bool b).isAgg=false:=rfl
theorem aMX{b:Bool}:(AV.bool b).width=1:=rfl
theorem aID{b:Bool}:(AV.bool b).cE=false:=rfl
theorem aGS{b:Bool}:(AV.bool b).cells= [(AV.bool b)]:=rfl
theorem aKW{b:Bool}:(AV.bool b).storable=true:=rfl
theorem aH9{s:ByteArray}:(AV.str s).isAgg=false:=rfl
theorem aNA{s:ByteArray}:(AV.str s).width=1:=rfl
theorem aIQ{s:ByteArray}:(AV.str s).cE=false:=rfl
theorem aG5{s:ByteArray}:(AV.str s).cells= [(AV.str s)]:=rfl
theorem aK8{s:ByteArray}:(AV.str s).storable=true:=rfl
theorem aIA{vs:List AV}:(AV.tup vs).isAgg=false:=rfl
theorem aNB{vs:List AV}:(AV.tup vs).width=1:=rfl
theorem aIR{vs:List AV}:(AV.tup vs).cE=false:=rfl
theorem aG6{vs:List AV}:(AV.tup vs).cells= [(AV.tup vs)]:=rfl
theorem aK9{vs:List AV}:(AV.tup vs).storable=false:=rfl
theorem aH8{es:List AV}:(AV.slice es).isAgg=false:=rfl
theorem aM9{es:List AV}:(AV.slice es).width=1:=rfl
theorem aIP{es:List AV}:(AV.slice es).cE=false:=rfl
theorem aG4{es:List AV}:(AV.slice es).cells= [(AV.slice es)]:=rfl
theorem aK7{es:List AV}:(AV.slice es).storable=true:=rfl
theorem aHX{es:List AV}:(AV.fslice es).isAgg=false:=rfl
theorem aMY{es:List AV}:(AV.fslice es).width=1:=rfl
theorem aIE{es:List AV}:(AV.fslice es).cE=false:=rfl
theorem aGT{es:List AV}:(AV.fslice es).cells= [(AV.fslice es)]:=rfl
theorem aKX{es:List AV}:(AV.fslice es).storable=true:=rfl
theorem aH2{b:Nat}{o:Nat}{l:Nat}{m:Nat}:(AV.mslice b o l m).isAgg=false:=rfl
theorem aM3{b:Nat}{o:Nat}{l:Nat}{m:Nat}:(AV.mslice b o l m).width=1:=rfl
theorem aIJ{b:Nat}{o:Nat}{l:Nat}{m:Nat}:(AV.mslice b o l m).cE=false:=rfl
theorem aGY{b:Nat}{o:Nat}{l:Nat}{m:Nat}:(AV.mslice b o l m).cells= [(AV.mslice b o l m)]:=rfl
theorem aK2{b:Nat}{o:Nat}{l:Nat}{m:Nat}:(AV.mslice b o l m).storable=true:=rfl
theorem aH4:AV.nilptr.isAgg=false:=rfl
theorem aM5:AV.nilptr.width=1:=rfl
theorem aIL:AV.nilptr.cE=false:=rfl
theorem aG0:AV.nilptr.cells= [AV.nilptr]:=rfl
theorem aK4:AV.nilptr.storable=true:=rfl
theorem aH6{b:Nat}{o:Nat}:(AV.ptr b o).isAgg=false:=rfl
theorem aM7{b:Nat}{o:Nat}:(AV.ptr b o).width=1:=rfl
theorem aIN{b:Nat}{o:Nat}:(AV.ptr b o).cE=false:=rfl
theorem aG2{b:Nat}{o:Nat}:(AV.ptr b o).cells= [(AV.ptr b o)]:=rfl
theorem aK6{b:Nat}{o:Nat}:(AV.ptr b o).storable=true:=rfl
theorem aH5{e:AV}:(AV.pptr e).isAgg=false:=rfl
theorem aM6{e:AV}:(AV.pptr e).width=1:=rfl
theorem aIM{e:AV}:(AV.pptr e).cE=false:=rfl
theorem aG1{e:AV}:(AV.pptr e).cells= [(AV.pptr e)]:=rfl
theorem aK5{e:AV}:(AV.pptr e).storable=true:=rfl
theorem aH3:AV.nilmap.isAgg=false:=rfl
theorem aM4:AV.nilmap.width=1:=rfl
theorem aIK:AV.nilmap.cE=false:=rfl
theorem aGZ:AV.nilmap.cells= [AV.nilmap]:=rfl
theorem aK3:AV.nilmap.storable=true:=rfl
theorem aH1{b:Nat}:(AV.map b).isAgg=false:=rfl
theorem aM2{b:Nat}:(AV.map b).width=1:=rfl
theorem aII{b:Nat}:(AV.map b).cE=false:=rfl
theorem aGX{b:Nat}:(AV.map b).cells= [(AV.map b)]:=rfl
theorem aK1{b:Nat}:(AV.map b).storable=true:=rfl
theorem aHY{f:FuncId}{cs:List AV}:(AV.func f cs).isAgg=false:=rfl
theorem aMZ{f:FuncId}{cs:List AV}:(AV.func f cs).width=1:=rfl
theorem aIF{f:FuncId}{cs:List AV}:(AV.func f cs).cE=false:=rfl
theorem aGU{f:FuncId}{cs:List AV}:(AV.func f cs).cells= [(AV.func f cs)]:=rfl
theorem aKY{f:FuncId}{cs:List AV}:(AV.func f cs).storable=true:=rfl
theorem aH7{v:Value}:(AV.raw v).isAgg=false:=rfl
theorem aM8{v:Value}:(AV.raw v).width=1:=rfl
theorem aIO{v:Value}:(AV.raw v).cE=false:=rfl
theorem aG3{v:Value}:(AV.raw v).cells= [(AV.raw v)]:=rfl
theorem aHV{cs:List AV}:(AV.agg cs).isAgg=true:=rfl
theorem aMW{cs:List AV}:(AV.agg cs).width=cs.length:=rfl
theorem aIC{cs:List AV}:(AV.agg cs).cE=false:=rfl
theorem aGR{cs:List AV}:(AV.agg cs).cells=cs:=rfl
theorem aGP:((0:Nat):Int)=0:=rfl
theorem aGQ{n:Nat}:((n+1:Nat):Int)=(n:Int)+1:=rfl
theorem lN{st:aA}{b x:Nat}{o:AO}:(st.aC b o) x=if x=b then some o else st x:=rfl
theorem wrap64{n:Int}(h1: -9223372036854775808≤n)(h2:n≤9223372036854775807):IntKind.wrap .i64 n=n:=by
 rw[IntKind.wrap_i64];omega
end Go.AW
