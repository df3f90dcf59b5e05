/- Smaller stores, frozen slices, sizes, frames as lists, regions that draw. -/
import Derived.Test.YtimfffmcljmfgaaGreatDoorUyd
set_option linter.unusedSimpArgs false
set_option linter.unusedVariables false
set_option maxRecDepth 100000
namespace Go.AW
def aM(st st':aA):Prop:=∀b,(st b=none→st' b=none)∧∀o,st' b=some o→st b=some o
theorem aM.refl(st:aA):aM st st:=fun _=>⟨id,fun _=>id⟩
theorem aM.trans{a b c:aA}(x:aM a b)(y:aM b c):aM a c:=fun i=>⟨fun h=>(y i).1 ((x i).1 h),fun o h=>(x i).2 o ((y i).2 o h)⟩
theorem aM.aC{st st':aA}(x:aM st st'){b:Nat}{o:AO}(h:st' b=none):aM (st.aC b o) st':=fun i=>by
 simp only[aA.aC]
 split
 · rename_i e;subst e;exact⟨fun _=>h,fun o' h'=>by rw[h] at h';cases h'⟩
 · exact x i
theorem jP(st:aA)(b:Nat):aM st (st.erase b):=fun i=>by
 simp only[aA.erase]
 split
 · exact⟨fun _=>rfl,fun o' h'=>by cases h'⟩
 · exact⟨id,fun _=>id⟩
theorem aM.step{st st':aA}(x:aM st st')(h:bF):bU h st h st':=⟨cO _,fun b _ e=>⟨rfl,(x b).1 e⟩,fun _ c _ _ e=>⟨c,e,rfl⟩⟩
theorem aM.GW{st st':aA}(x:aM st st'){h:bF}(S:cI h st):cI h st':=fun b o e=>by
 obtain⟨h1,h2⟩:=S b o ((x b).2 o e)
 refine⟨h1,?_⟩
 cases o with
 | cells as=>
  obtain⟨c,t,e1,e2,vs,e3,e4⟩:=h2
  exact⟨c,t,e1,e2,vs,e3,aZ.mono (x.step h) _ _ e4⟩
 | map f=>
  obtain⟨es,clock,e1,e2,e3,e4⟩:=h2
  refine⟨es,clock,e1,e2,e3,fun n=>?_⟩
  have:=e4 n
  cases hf:f n with
  | none=>rw[hf] at this;exact this
  | some a=>
   rw[hf] at this
   obtain⟨e,m,k,v⟩:=this
   exact⟨e,m,k,v.mono (x.step h)⟩
 | tab cs=>exact h2
theorem aM.rX{st st':aA}(x:aM st st'):M0 st st':=fun h S=>⟨x.GW S,x.step h⟩
theorem aM.kP{st st':aA}(x:aM st st')(r:AV):MZ st r st' r:=fun h _ _ y=>y.mono (x.step h)
theorem aD.drop{P:Program}{g:FuncId}{args:List AV}{st:aA}{Q:AV→Prop}(x:aD P g args st (fun r st'=>aM st' st∧Q r)):aD P g args st (fun r st'=>Q r∧st'=st):=
 x.kP fun r st' ⟨h1,h2⟩=>⟨r,st,h1.rX,h1.kP r,h2,rfl⟩
mutual
def AV.fz(b:Nat)(es:List AV):AV→AV
 | .mslice b' 0 n sz=>if b'=b∧n=es.length then .slice es else .mslice b' 0 n sz
 | .agg cs=>.agg (j8 b es cs)
 | .tup vs=>.tup (j8 b es vs)
 | a=>a
def j8(b:Nat)(es:List AV):List AV→List AV
 | []=>[]
 | a::as=>AV.fz b es a::j8 b es as
end
theorem aHX(b:Nat)(es:List AV)(a:AV):(a.fz b es).isAgg=a.isAgg:=by
 cases a<;>try rfl
 case mslice b' off n sz=>
  cases off with
  | zero=>simp only[AV.fz];split<;>rfl
  | succ k=>rfl
section
variable {h:bF} {st:aA} {b:Nat} {es:List AV}
theorem frozen(S:cI h st)(hb:st b=some (.cells (es.flatMap AV.cells)))(hj:∀e∈es,e.cD=false):b<h.size∧cX h (st.erase b) b 0 es:=by
 obtain⟨h1,c,t,e1,e2,vs,e3,e4⟩:=S b _ hb
 exact⟨h1,cX.mono ((jP st b).step h) b rfl _ _ (HR hj e3 e4)⟩
theorem VC.aVH{b' off n sz:Nat}{cs:List Value}(S:cI h st)(hb:st b=some (.cells (es.flatMap AV.cells)))(hj:∀e∈es,e.cD=false)(hE:jG es)(x:VC h st (.mslice b' off n sz) cs):VC h (st.erase b) ((AV.mslice b' off n sz).fz b es) cs:=by
 have x0:VC h (st.erase b) (.mslice b' off n sz) cs:=VC.mono ((jP st b).step h) _ _ x
 cases off with
 | succ k=>exact x0
 | zero=>
  simp only[AV.fz]
  split
  · rename_i e
    obtain⟨rfl,rfl⟩:=e
    simp only[VC] at x
    obtain⟨cap,e1,l1,l2,c,t,_,_⟩:=x
    obtain⟨hs,hE'⟩:=frozen S hb hj
    unfold VC
    exact .inr ⟨b',0,cap,e1,l1,l2,aA.W6 _ _,hs,hE,hE'⟩
  · exact x0
mutual
theorem VC.fz(S:cI h st)(hb:st b=some (.cells (es.flatMap AV.cells)))(hj:∀e∈es,e.cD=false)(hE:jG es):∀(a:AV) (cs:List Value),VC h st a cs→VC h (st.erase b) (a.fz b es) cs
 | .mslice b' off n sz,cs,x=>VC.aVH S hb hj hE x
 | .agg as,cs,x=>by simp only[VC,AV.fz] at x ⊢;exact aZ.fz S hb hj hE as cs x
 | .tup as,cs,x=>by
  simp only[VC,AV.fz] at x ⊢
  obtain⟨vs,e,r⟩:=x
  exact⟨vs,e,dJ.fz S hb hj hE as vs r⟩
 | .junk,cs,x=>VC.mono ((jP st b).step h) _ _ x
 | .undef,cs,x=>VC.mono ((jP st b).step h) _ _ x
 | .int _ _,cs,x=>VC.mono ((jP st b).step h) _ _ x
 | .bool _,cs,x=>VC.mono ((jP st b).step h) _ _ x
 | .str _,cs,x=>VC.mono ((jP st b).step h) _ _ x
 | .slice _,cs,x=>VC.mono ((jP st b).step h) _ _ x
 | .fslice _,cs,x=>VC.mono ((jP st b).step h) _ _ x
 | .nilptr,cs,x=>VC.mono ((jP st b).step h) _ _ x
 | .ptr _ _,cs,x=>VC.mono ((jP st b).step h) _ _ x
 | .pptr _,cs,x=>VC.mono ((jP st b).step h) _ _ x
 | .nilmap,cs,x=>VC.mono ((jP st b).step h) _ _ x
 | .map _,cs,x=>VC.mono ((jP st b).step h) _ _ x
 | .func _ _,cs,x=>VC.mono ((jP st b).step h) _ _ x
 | .raw _,cs,x=>VC.mono ((jP st b).step h) _ _ x
 | .eslice,cs,x=>VC.mono ((jP st b).step h) _ _ x
theorem aZ.fz(S:cI h st)(hb:st b=some (.cells (es.flatMap AV.cells)))(hj:∀e∈es,e.cD=false)(hE:jG es):∀(as:List AV) (cs:List Value),aZ h st as cs→aZ h (st.erase b) (j8 b es as) cs
 | [],_,x=>x
 | a::as,cs,x=>by
  simp only[aZ,j8] at x ⊢
  obtain⟨c,r,e,x1,x2⟩:=x
  exact⟨c,r,e,VC.fz S hb hj hE a [c] x1,aZ.fz S hb hj hE as r x2⟩
theorem dJ.fz(S:cI h st)(hb:st b=some (.cells (es.flatMap AV.cells)))(hj:∀e∈es,e.cD=false)(hE:jG es):∀(as:List AV) (cs:List Value),dJ h st as cs→dJ h (st.erase b) (j8 b es as) cs
 | [],_,x=>x
 | a::as,cs,x=>by
  simp only[dJ,j8] at x ⊢
  obtain⟨v,r,e,x1,x2⟩:=x
  exact⟨v,r,e,⟨(aHX b es a).trans x1.1,VC.fz S hb hj hE a _ x1.2⟩,dJ.fz S hb hj hE as r x2⟩
end
theorem aQ.fz{a:AV}{v:Value}(S:cI h st)(hb:st b=some (.cells (es.flatMap AV.cells)))(hj:∀e∈es,e.cD=false)(hE:jG es)(x:aQ h st a v):aQ h (st.erase b) (a.fz b es) v:=by
 have key:a.isAgg=iX v∧VC h st a v.cells.toList→aQ h (st.erase b) (a.fz b es) v:=fun x=>by
  have y:(a.fz b es).isAgg=iX v∧VC h (st.erase b) (a.fz b es) v.cells.toList:=⟨(aHX b es a).trans x.1,VC.fz S hb hj hE a _ x.2⟩
  cases hq:a.fz b es<;>rw[hq] at y<;>first | trivial | exact y
 cases a<;>first | trivial | exact key x
end
theorem aD.freeze{P:Program}{g:FuncId}{args:List AV}{st:aA}{Q:AV→aA→Prop}
 (x:aD P g args st (fun r st'=>∃b es,st' b=some (.cells (es.flatMap AV.cells))∧(∀e∈es,e.cD=false)∧jG es∧Q (r.fz b es) (st'.erase b))):aD P g args st Q:=
 x.kP fun r st' ⟨b,es,h1,h2,h3,h4⟩=>⟨r.fz b es,st'.erase b,(jP st' b).rX,fun _ _ S y=>y.fz S h1 h2 h3,h4⟩
theorem fL.freeze{φ:AF}{st:aA}{b:Nat}{es:List AV}(h1:st b=some (.cells (es.flatMap AV.cells)))(h2:∀e∈es,e.cD=false)(h3:jG es):fL φ st (fun d=>(φ d).fz b es) (st.erase b):=
 fun h _ S F=>⟨(jP st b).GW S,(jP st b).step h,fun d=>(F d).fz S h1 h2 h3⟩
theorem fL.drop{φ:AF}{st st':aA}(x:aM st st'):fL φ st φ st':=fun h _ S F=>⟨x.GW S,x.step h,fun d=>(F d).mono (x.step h)⟩
mutual
def AV.soft:AV→AV
 | .fslice es=>.slice es
 | .agg cs=>.agg (nX cs)
 | .tup vs=>.tup (nX vs)
 | a=>a
def nX:List AV→List AV
 | []=>[]
 | a::as=>a.soft::nX as
end
theorem a1U(a:AV):a.soft.isAgg=a.isAgg:=by cases a<;>rfl
section
variable {h:bF} {st:aA}
mutual
theorem VC.soft:∀(a:AV) (cs:List Value),VC h st a cs→VC h st a.soft cs
 | .fslice es,cs,x=>by
  simp only[AV.soft]
  unfold VC at x ⊢
  rcases x with x | ⟨b,off,e,l,r⟩
  · exact .inl x
  · exact .inr ⟨b,off,es.length,e,cO _,l,r⟩
 | .agg as,cs,x=>by simp only[VC,AV.soft] at x ⊢;exact aZ.soft as cs x
 | .tup as,cs,x=>by
  simp only[VC,AV.soft] at x ⊢
  obtain⟨vs,e,r⟩:=x
  exact⟨vs,e,dJ.soft as vs r⟩
 | .mslice _ _ _ _,cs,x=>x
 | .junk,cs,x=>x
 | .undef,cs,x=>x
 | .int _ _,cs,x=>x
 | .bool _,cs,x=>x
 | .str _,cs,x=>x
 | .slice _,cs,x=>x
 | .nilptr,cs,x=>x
 | .ptr _ _,cs,x=>x
 | .pptr _,cs,x=>x
 | .nilmap,cs,x=>x
 | .map _,cs,x=>x
 | .func _ _,cs,x=>x
 | .raw _,cs,x=>x
 | .eslice,cs,x=>x
theorem aZ.soft:∀(as:List AV) (cs:List Value),aZ h st as cs→aZ h st (nX as) cs
 | [],_,x=>x
 | a::as,cs,x=>by
  simp only[aZ,nX] at x ⊢
  obtain⟨c,r,e,x1,x2⟩:=x
  exact⟨c,r,e,VC.soft a [c] x1,aZ.soft as r x2⟩
theorem dJ.soft:∀(as:List AV) (cs:List Value),dJ h st as cs→dJ h st (nX as) cs
 | [],_,x=>x
 | a::as,cs,x=>by
  simp only[dJ,nX] at x ⊢
  obtain⟨v,r,e,x1,x2⟩:=x
  exact⟨v,r,e,⟨(a1U a).trans x1.1,VC.soft a _ x1.2⟩,dJ.soft as r x2⟩
end
theorem aQ.soft{a:AV}{v:Value}(x:aQ h st a v):aQ h st a.soft v:=by
 cases a
 case fslice=>exact x.FO
 case agg=>exact⟨x.1,VC.soft _ _ x.2⟩
 case tup=>exact⟨x.1,VC.soft _ _ x.2⟩
 all_goals exact x
end
theorem aD.soft{P:Program}{g:FuncId}{args:List AV}{st:aA}{Q:AV→aA→Prop}(x:aD P g args st (fun r st'=>Q r.soft st')):aD P g args st Q:=
 x.kP fun r st' h=>⟨r.soft,st',(aM.refl st').rX,fun _ _ _ y=>y.soft,h⟩
theorem aD.GU{P:Program}{g:FuncId}{args:List AV}{st:aA}{Q:AV→aA→Prop}(x:aD P g (nX args) st Q):aD P g args st Q:=
 x.args fun hp=>by
  have:∀(as:List AV) (vs:List Value),cV hp st as vs→cV hp st (nX as) vs:=by
   intro as
   induction as with
   | nil=>intro vs y;exact y
   | cons a as ih=>
    intro vs y
    simp only[cV,nX] at y ⊢
    obtain⟨v,r,rfl,y1,y2⟩:=y
    exact⟨v,r,rfl,y1.soft,ih r y2⟩
  exact fun vs _=>this args vs
mutual
def AV.fits:AV→Prop
 | .str s=>s.size≤9223372036854775807
 | .agg cs=>dK cs
 | .tup vs=>dK vs
 | .slice es=>es.length≤9223372036854775807∧dK es
 | .fslice es=>es.length≤9223372036854775807∧dK es
 | .mslice _ _ n _=>n≤9223372036854775807
 | .pptr e=>e.fits
 | _=>True
def dK:List AV→Prop
 | []=>True
 | a::as=>a.fits∧dK as
end
section
variable {h:bF} {st:aA}
mutual
theorem VC.fits:∀(a:AV) (cs:List Value),VC h st a cs→a.fits
 | .str s,cs,x=>by simp only[VC,maxLen] at x;exact x.2
 | .agg as,cs,x=>by simp only[VC,AV.fits] at x ⊢;exact aZ.fits as cs x
 | .tup as,cs,x=>by
  simp only[VC,AV.fits] at x ⊢
  obtain⟨vs,e,r⟩:=x
  exact dJ.fits as vs r
 | .slice es,cs,x=>by
  simp only[VC,AV.fits] at x ⊢
  rcases x with ⟨⟨p0,_⟩,rfl⟩ | ⟨b,off,cap,_,l1,l2,_,_,_,r⟩
  · exact⟨by simp,trivial⟩
  · exact⟨pH l1 l2,cX.fits es off r⟩
 | .fslice es,cs,x=>by
  simp only[VC,AV.fits] at x ⊢
  rcases x with ⟨⟨p0,_⟩,rfl⟩ | ⟨b,off,_,l1,_,_,_,r⟩
  · exact⟨by simp,trivial⟩
  · exact⟨l1,cX.fits es off r⟩
 | .mslice _ _ n _,cs,x=>by
  simp only[VC,AV.fits] at x ⊢
  obtain⟨cap,_,l1,l2,_⟩:=x
  exact pH l1 l2
 | .pptr e,cs,x=>by
  simp only[VC,AV.fits] at x ⊢
  obtain⟨b,off,_,_,_,vs,_,_,y⟩:=x
  exact VC.fits e vs y
 | .junk,cs,x=>trivial
 | .undef,cs,x=>trivial
 | .int _ _,cs,x=>trivial
 | .bool _,cs,x=>trivial
 | .nilptr,cs,x=>trivial
 | .ptr _ _,cs,x=>trivial
 | .nilmap,cs,x=>trivial
 | .map _,cs,x=>trivial
 | .func _ _,cs,x=>trivial
 | .raw _,cs,x=>trivial
 | .eslice,cs,x=>trivial
theorem aZ.fits:∀(as:List AV) (cs:List Value),aZ h st as cs→dK as
 | [],_,x=>trivial
 | a::as,cs,x=>by
  simp only[aZ] at x
  obtain⟨c,r,e,x1,x2⟩:=x
  exact⟨VC.fits a [c] x1,aZ.fits as r x2⟩
theorem dJ.fits:∀(as:List AV) (cs:List Value),dJ h st as cs→dK as
 | [],_,x=>trivial
 | a::as,cs,x=>by
  simp only[dJ] at x
  obtain⟨v,r,e,x1,x2⟩:=x
  exact⟨VC.fits a _ x1.2,dJ.fits as r x2⟩
theorem cX.fits{b:Nat}:∀(as:List AV) (off:Nat),cX h st b off as→dK as
 | [],_,x=>trivial
 | a::as,off,x=>by
  simp only[cX] at x
  obtain⟨⟨cs,_,_,x3⟩,x4⟩:=x
  exact⟨VC.fits a cs x3,cX.fits as _ x4⟩
end
theorem aQ.fits{a:AV}{v:Value}(x:aQ h st a v):a.fits:=by
 cases a<;>first | trivial | exact VC.fits _ _ x.2
theorem cV.fits:∀ {as:List AV} {vs:List Value},cV h st as vs→dK as
 | [],_,_=>trivial
 | a::as,vs,x=>by
  simp only[cV] at x
  obtain⟨v,r,_,x1,x2⟩:=x
  exact⟨x1.fits,cV.fits x2⟩
end
theorem zw6{P:Program}{g:FuncId}{fn:Func}{c:Code}{args:List AV}{st:aA}{N:Nat}{rs:List ResultVar}{K:AV→aA→Prop}(mt:List Nat)(hf:P.funcs[g]?=some fn)(hN:fn.ntmps=N)(hr:fn.results=rs.toArray)(hb:fn.body=some c)(hn:(fn.name == "runtime.NumGoroutine")=false)
 (hok:codeOk N c=true) (xB:args.length≤N) (e:dK args→fT P N mt c (DA P rs.toArray K) (qW 0 args) st):aD P g args st K:=by
 subst hN
 rw[←hr] at e
 exact⟨⟨fn,hf,by simp [hb],hn⟩,fun w vs S V=>(aO2 mt hf hb hn hok xB (e V.fits)).2 w vs S V⟩
def jQ:List (Nat×AV)→AF
 | []=>AF.bot
 | (d,v)::l=>(jQ l).aC d v
def y7(φ:AF):List (Nat×AV)→Prop
 | []=>True
 | (d,v)::l=>φ d=v∧y7 φ l
theorem fL.jQ{φ:AF}{st:aA}:∀ {l:List (Nat×AV)},y7 φ l→fL φ st (jQ l) st
 | [],_=>fL.bot φ st
 | (d,v)::l,h=>(fL.jQ h.2).aC h.1
theorem aBD{φ:AF}:y7 φ []=True:=rfl
theorem aBE{φ:AF}{d:Nat}{v:AV}{l:List (Nat×AV)}:y7 φ ((d,v)::l)=(φ d=v∧y7 φ l):=rfl
theorem aD.to{P:Program}{g:FuncId}{args:List AV}{st:aA}{r:AV}{K:AV→aA→Prop}(x:aD P g args st (fun r' st'=>r'=r∧st'=st))(h:K r st):aD P g args st K:=
 x.mono fun _ _ ⟨e1,e2⟩=>by rw[e1,e2];exact h
theorem wQ{P:Program}{N:Nat}(mt:List Nat){c:Code}{Q:Exit→AF→aA→Prop}{φ:AF}{st:aA}(hok:codeOk N c=true)(e:fT P N mt c Q φ st):fC P N c Q φ st:=yM c Q φ st hok e
def vE(l:List (Nat×AV)):AF:=jQ l
theorem aA7:vE []=AF.bot:=rfl
theorem aA6{d:Nat}{v:AV}{l:List (Nat×AV)}:vE ((d,v)::l)=(vE l).aC d v:=rfl
def aN(φ:AF)(st:aA)(l:List (Nat×AV))(st':aA):Prop:=fL φ st (jQ l) st'
theorem aN.mk{φ:AF}{st:aA}{l:List (Nat×AV)}(h:y7 φ l):aN φ st l st:=fL.jQ h
theorem aN.drop{φ:AF}{st st':aA}{l:List (Nat×AV)}(d:aM st st')(h:y7 φ l):aN φ st l st':=(fL.drop d).trans (fL.jQ h)
theorem n6{P:Program}{N:Nat}{c:Code}{Q:Exit→AF→aA→Prop}{φ:AF}{st:aA}{α:Type}(mt:List Nat)(inv:α→Prop)(fl:α→List (Nat×AV))(so:α→aA)(μ:α→Nat)(hok:codeOk N c=true)
 (h0:∃s,inv s∧aN φ st (fl s) (so s))
 (h1:∀s,inv s→fT P N mt c (oT (fun φ' st'=>∃s',μ s'<μ s∧inv s'∧aN φ' st' (fl s') (so s')) Q) (vE (fl s)) (so s)):fC P N (.loop c) Q φ st:=
 NL inv (fun s=>jQ (fl s)) so μ h0 fun s hs=>wQ mt hok (h1 s hs)
theorem cU{P:Program}{mt:List Nat}{ops:Array Oper}{o:Oper}{l:List Oper}{K:AF→aA→Prop}{φ:AF}{st:aA}{c want:Bool}
 (h1:c=want→vQ P mt ops o l K φ st (some true)) (h2:c=(!want)→vQ P mt ops o l K φ st (some false)):vQ P mt ops o l K φ st (some (c == want)):=by
 cases c<;>cases want<;>first | exact h1 rfl | exact h2 rfl
def kB(o:Oper):Bool:=match o.op with
 | .call { callee:=.value _,.. }=>false
 | .call { callee:=.builtin .append,.. }=>false
 | .call { callee:=.builtin .delete,.. }=>false
 | .call { callee:=.builtin .clear,.. }=>false
 | .alloc _=>false
 | .store _ _ _=>false
 | .makeMap _ none=>false
 | .makeSlice _ _ _=>false
 | .mapUpdate _ _ _ _=>false
 | _=>true
theorem sE{P:Program}{φ:AF}{st:aA}{o:Oper}{K:AV→aA→Prop}(h:kB o=true):eV P [] φ st o K=match kT P φ st o with | some r=>K r st | none=>False:=by
 obtain⟨dst,op,type,pos,after,guard⟩:=o
 unfold eV
 split
 case h_5 t x e=>
  simp only at e
  subst e
  simp only[AQ,List.contains_nil,kT]
  cases dst<;>rfl
 case h_11=>rfl
 all_goals (rename_i e;simp only at e;subst e;simp [kB] at h)
def eS(P:Program)(ops:Array Oper)(st:aA):List Oper→(AF→Prop)→AF→Prop
 | [],K,φ=>K φ
 | o::rest,K,φ=>if kB o=true then bE P [] ops [o] (fun φ' _=>eS P ops st rest K φ') φ st else
  match o.guard,o.op with
  | none,.call { callee:=.value f,args,.. }=>∃r,sI P (φ.eval f) (args.toList.map φ.eval) st (fun r' st'=>r'=r∧st'=st)∧eS P ops st rest K (φ.put o.dst r)
  | _,_=>False
theorem EF{P:Program}{ops:Array Oper}{st:aA}{K:AF→Prop}:∀(l:List Oper) (φ:AF),eS P ops st l K φ→pK P st ops l K φ
 | [],_,h=>h
 | o::rest,φ,h=>by
  simp only[eS] at h
  split at h
  · rename_i hp
    simp only[bE] at h
    simp only[pK]
    split at h
    · rename_i hg
      rw[sE hp] at h
      rw[hg]
      simp only
      split at h
      · rename_i r hr
        exact⟨r,by rw[sE hp,hr];exact⟨rfl,rfl⟩,EF rest _ h⟩
      · cases h
    · rename_i hg
      rw[hg]
      exact EF rest _ h
    · cases h
  · split at h
    · rename_i f args ats hg ho
      obtain⟨r,h1,h2⟩:=h
      simp only[pK,iS,hg]
      refine⟨r,?_,EF rest _ h2⟩
      simp only[eV,ho]
      exact h1
    · cases h
theorem XA{P:Program}{ops:Array Oper}{st:aA}{K:AF→Prop}{φ:AF}:eS P ops st [] K φ=K φ:=rfl
def hK(P:Program)(ops:Array Oper)(st:aA)(rest:List Oper)(K:AF→Prop)(φ:AF)(_:aA):Prop:=eS P ops st rest K φ
theorem aBC{P:Program}{ops:Array Oper}{st st':aA}{K:AF→Prop}{φ:AF}{rest:List Oper}:hK P ops st rest K φ st'=eS P ops st rest K φ:=rfl
theorem kR{P:Program}{ops:Array Oper}{st:aA}{K:AF→Prop}{φ:AF}{o:Oper}{rest:List Oper}(h:kB o=true):eS P ops st (o::rest) K φ=bE P [] ops [o] (hK P ops st rest K) φ st:=by
 simp [eS,h]
 rfl
def wT(P:Program)(f:AV)(args:List AV)(st:aA)(K:AV→Prop):Prop:=∃r,sI P f args st (fun r' st'=>r'=r∧st'=st)∧K r
def CK(P:Program)(ops:Array Oper)(st:aA)(rest:List Oper)(K:AF→Prop)(φ:AF)(dst:Option Tmp)(r:AV):Prop:=eS P ops st rest K (φ.put dst r)
theorem aN2{P:Program}{ops:Array Oper}{st:aA}{K:AF→Prop}{φ:AF}{rest:List Oper}{dst:Option Tmp}{f:Operand}{args:List Operand}{ats:Array TypeId}{type:TypeId}{pos:String}{after:Array Edge} :
 eS P ops st (⟨dst,.call { callee:=.value f,args:=args.toArray,argTypes:=ats },type,pos,after,none⟩::rest) K φ=wT P (φ.eval f) (args.map φ.eval) st (CK P ops st rest K φ dst):=by
 simp [eS,kB,wT,CK]
section
variable {P:Program} {ops:Array Oper} {st:aA} {K:AF→Prop} {φ:AF} {rest:List Oper} {dst:Option Tmp} {type:TypeId} {pos:String} {after:Array Edge} {g:Option (Nat×Bool)}
theorem XW{f:Operand}{args:List Operand}{ats:Array TypeId} :
 eS P ops st (⟨dst,.call { callee:=.value f,args:=args.toArray,argTypes:=ats },type,pos,after,none⟩::rest) K φ=wT P (φ.eval f) (args.map φ.eval) st (CK P ops st rest K φ dst):=aN2
theorem XB{x:Operand}:eS P ops st (⟨dst,.move x,type,pos,after,g⟩::rest) K φ=bE P [] ops [⟨dst,.move x,type,pos,after,g⟩] (hK P ops st rest K) φ st:=kR rfl
theorem XN{x:Operand}:eS P ops st (⟨dst,.assign x,type,pos,after,g⟩::rest) K φ=bE P [] ops [⟨dst,.assign x,type,pos,after,g⟩] (hK P ops st rest K) φ st:=kR rfl
theorem XO{c x y:Operand}:eS P ops st (⟨dst,.pick c x y,type,pos,after,g⟩::rest) K φ=bE P [] ops [⟨dst,.pick c x y,type,pos,after,g⟩] (hK P ops st rest K) φ st:=kR rfl
theorem XP{op:BinOp}{t t':TypeId}{x y:Operand}:eS P ops st (⟨dst,.binOp op t x y t',type,pos,after,g⟩::rest) K φ=bE P [] ops [⟨dst,.binOp op t x y t',type,pos,after,g⟩] (hK P ops st rest K) φ st:=kR rfl
theorem XQ{op:UnOp}{t:TypeId}{x:Operand}:eS P ops st (⟨dst,.unOp op t x,type,pos,after,g⟩::rest) K φ=bE P [] ops [⟨dst,.unOp op t x,type,pos,after,g⟩] (hK P ops st rest K) φ st:=kR rfl
theorem XR{x:Operand}:eS P ops st (⟨dst,.nilCheck x,type,pos,after,g⟩::rest) K φ=bE P [] ops [⟨dst,.nilCheck x,type,pos,after,g⟩] (hK P ops st rest K) φ st:=kR rfl
theorem XS{t f:Nat}{x:Operand}:eS P ops st (⟨dst,.fieldAddr t x f,type,pos,after,g⟩::rest) K φ=bE P [] ops [⟨dst,.fieldAddr t x f,type,pos,after,g⟩] (hK P ops st rest K) φ st:=kR rfl
theorem XT{t:TypeId}{x:Operand}:eS P ops st (⟨dst,.load t x,type,pos,after,g⟩::rest) K φ=bE P [] ops [⟨dst,.load t x,type,pos,after,g⟩] (hK P ops st rest K) φ st:=kR rfl
theorem XU{t f:Nat}{x:Operand}:eS P ops st (⟨dst,.field t x f,type,pos,after,g⟩::rest) K φ=bE P [] ops [⟨dst,.field t x f,type,pos,after,g⟩] (hK P ops st rest K) φ st:=kR rfl
theorem XC{t:TypeId}{x i:Operand}:eS P ops st (⟨dst,.indexAddr t x i,type,pos,after,g⟩::rest) K φ=bE P [] ops [⟨dst,.indexAddr t x i,type,pos,after,g⟩] (hK P ops st rest K) φ st:=kR rfl
theorem XD{t:TypeId}{x i:Operand}:eS P ops st (⟨dst,.index t x i,type,pos,after,g⟩::rest) K φ=bE P [] ops [⟨dst,.index t x i,type,pos,after,g⟩] (hK P ops st rest K) φ st:=kR rfl
theorem XE{t:TypeId}{x:Operand}{lo hi mx:Option Operand}:eS P ops st (⟨dst,.slice t x lo hi mx,type,pos,after,g⟩::rest) K φ=bE P [] ops [⟨dst,.slice t x lo hi mx,type,pos,after,g⟩] (hK P ops st rest K) φ st:=kR rfl
theorem XF{x:Operand}{i:Nat}:eS P ops st (⟨dst,.extract x i,type,pos,after,g⟩::rest) K φ=bE P [] ops [⟨dst,.extract x i,type,pos,after,g⟩] (hK P ops st rest K) φ st:=kR rfl
theorem XG{t:TypeId}{ps:Array (Nat×Operand)}:eS P ops st (⟨dst,.build t ps,type,pos,after,g⟩::rest) K φ=bE P [] ops [⟨dst,.build t ps,type,pos,after,g⟩] (hK P ops st rest K) φ st:=kR rfl
theorem XH{t:TypeId}{n:Nat}{ps:Array (Nat×Operand)}:eS P ops st (⟨dst,.buildSlice t n ps,type,pos,after,g⟩::rest) K φ=bE P [] ops [⟨dst,.buildSlice t n ps,type,pos,after,g⟩] (hK P ops st rest K) φ st:=kR rfl
theorem XI{t u:TypeId}{x:Operand}:eS P ops st (⟨dst,.convert t u x,type,pos,after,g⟩::rest) K φ=bE P [] ops [⟨dst,.convert t u x,type,pos,after,g⟩] (hK P ops st rest K) φ st:=kR rfl
theorem XJ{t:TypeId}{x i:Operand}{ok:Bool}:eS P ops st (⟨dst,.lookup t x i ok,type,pos,after,g⟩::rest) K φ=bE P [] ops [⟨dst,.lookup t x i ok,type,pos,after,g⟩] (hK P ops st rest K) φ st:=kR rfl
theorem XK{x:Operand}{t:TypeId}:eS P ops st (⟨dst,.call { callee:=.builtin .len,args:=#[x],argTypes:=#[t] },type,pos,after,g⟩::rest) K φ=bE P [] ops [⟨dst,.call { callee:=.builtin .len,args:=#[x],argTypes:=#[t] },type,pos,after,g⟩] (hK P ops st rest K) φ st:=kR rfl
theorem XL{x y:Operand}{ts:Array TypeId}:eS P ops st (⟨dst,.call { callee:=.builtin .max,args:=#[x,y],argTypes:=ts },type,pos,after,g⟩::rest) K φ=bE P [] ops [⟨dst,.call { callee:=.builtin .max,args:=#[x,y],argTypes:=ts },type,pos,after,g⟩] (hK P ops st rest K) φ st:=kR rfl
theorem XM{x y:Operand}{ts:Array TypeId}:eS P ops st (⟨dst,.call { callee:=.builtin .min,args:=#[x,y],argTypes:=ts },type,pos,after,g⟩::rest) K φ=bE P [] ops [⟨dst,.call { callee:=.builtin .min,args:=#[x,y],argTypes:=ts },type,pos,after,g⟩] (hK P ops st rest K) φ st:=kR rfl
end
theorem XV{P:Program}{ops:Array Oper}{st:aA}{K:AF→Prop}{φ:AF}{rest:List Oper}{dst:Option Tmp}{r:AV}:CK P ops st rest K φ dst r=eS P ops st rest K (φ.put dst r):=rfl
theorem kC{P:Program}{g:FuncId}{args:List AV}{st:aA}{r:AV}{K:AV→Prop}(x:aD P g args st (fun r' st'=>r'=r∧st'=st))(h:K r):wT P (.func g []) args st K:=⟨r,by show aD P g (args++ []) st _;rw[fA];exact x,h⟩
@[congr] theorem a5G {P:Program} {ops:Array Oper} {l:List Oper} {K:AF→Prop} {φ φ':AF} {st st':aA} (h1:φ=φ') (h2:st=st'):eS P ops st l K φ=eS P ops st' l K φ':=by rw[h1,h2]
@[congr] theorem a5N {P:Program} {f f':AV} {args args':List AV} {st st':aA} {K:AV→Prop} (h0:f=f') (h1:args=args') (h2:st=st'):wT P f args st K=wT P f' args' st' K:=by rw[h0,h1,h2]
@[congr] theorem a5Q {P:Program} {ops:Array Oper} {l:List Oper} {K:AF→Prop} {φ:AF} {st:aA} {dst:Option Tmp} {r r':AV} (h1:r=r'):CK P ops st l K φ dst r=CK P ops st l K φ dst r':=by rw[h1]
def PH(ops:Array Oper):Nat:=(ops.toList.findIdx fun o=> !kB o)
theorem EN{P:Program}{st:aA}{N:Nat}{id:Nat}{ops:Array Oper}{Q:Exit→AF→aA→Prop}{φ:AF}(hm:P.follows .mixedOrders=true)(hok:qA N ops=true)(hB:Region.lexTailB .any ops (PH ops)=true)
 (h:bE P [] ops ops.toList (Q .normal) φ st):fC P N (.region id ops true) Q φ st:=by
 refine aPM (PH ops) hm hok hB (EF _ _ ?_)
 have key:∀(l1 l2:List Oper) (φ:AF),(∀o∈l1,kB o=true)→bE P [] ops (l1++l2) (Q .normal) φ st→eS P ops st l1 (fun φ'=>bE P [] ops l2 (Q .normal) φ' st) φ:=by
  intro l1
  induction l1 with
  | nil=>intro l2 φ _ h;exact h
  | cons o l1 ih=>
   intro l2 φ hp h
   have ho:=hp o (by simp)
   have hr:∀o∈l1,kB o=true:=fun o h=>hp o (by simp [h])
   simp only[eS,ho,dX,bE]
   simp only[gH,bE] at h
   split at h
   · rename_i hg
     rw[sE ho] at h
     rw[sE ho]
     split at h
     · rename_i hr2
       first | rw[hr2] | skip
       exact ih l2 _ hr h
     · cases h
   · exact ih l2 _ hr h
   · cases h
 refine key _ _ φ (fun o ho=>?_) (by rw[n9];exact h)
 obtain⟨i,hi,rfl⟩:=List.getElem_of_mem ho
 rw[dI] at hi
 have h2:=List.not_of_lt_findIdx (p:=fun o=> !kB o) (xs:=ops.toList) (i:=i) (by have:PH ops=ops.toList.findIdx (fun o=> !kB o):=rfl;omega)
 simpa using h2
def BI(P:Program)(ops:Array Oper)(st:aA)(K:AF→aA→Prop):Nat→List Oper→AF→Prop
 | 0,l,φ=>bE P [] ops l K φ st
 | _+1,[],_=>False
 | n+1,o::rest,φ=>eS P ops st [o] (BI P ops st K n rest) φ
theorem XY{P:Program}{ops:Array Oper}{st:aA}{K:AF→aA→Prop}{l:List Oper}{φ:AF}:BI P ops st K 0 l φ=bE P [] ops l K φ st:=rfl
theorem XZ{P:Program}{ops:Array Oper}{st:aA}{K:AF→aA→Prop}{n:Nat}{o:Oper}{l:List Oper}{φ:AF}:BI P ops st K (n+1) (o::l) φ=eS P ops st [o] (BI P ops st K n l) φ:=rfl
theorem aFZ{P:Program}{mt:List Nat}{l:List Oper}{st:aA}{K:AF→aA→Prop}{φ:AF}:bE P mt l.toArray l.toArray.toList K φ st=bE P mt l.toArray l K φ st:=rfl
theorem aF0{P:Program}{l:List Oper}{st:aA}{K:AF→Prop}{φ:AF}:eS P l.toArray st l.toArray.toList K φ=eS P l.toArray st l K φ:=rfl
theorem aF1{P:Program}{n:Nat}{l:List Oper}{st:aA}{K:AF→aA→Prop}{φ:AF}:BI P l.toArray st K n l.toArray.toList φ=BI P l.toArray st K n l φ:=rfl
def W3(Q:Exit→AF→aA→Prop)(st:aA)(φ:AF):Prop:=Q .normal φ st
theorem aAX{Q:Exit→AF→aA→Prop}{st:aA}{φ:AF}:W3 Q st φ=Q .normal φ st:=rfl
theorem yQ{P:Program}{st:aA}{N:Nat}{id:Nat}{ops:Array Oper}{Q:Exit→AF→aA→Prop}{φ:AF}(hm:P.follows .mixedOrders=true)(hok:qA N ops=true)(hB:Region.lexB .any ops=true)
 (h:eS P ops st ops.toList (W3 Q st) φ):fC P N (.region id ops true) Q φ st:=
 aPN hm hok hB (EF _ _ h)
theorem aBK:AV.junk.isAgg=false:=rfl
theorem aGL:AV.junk.width=1:=rfl
theorem aB1:AV.junk.cD=true:=rfl
theorem aAG:AV.junk.cells= [AV.junk]:=rfl
theorem aEK:AV.junk.storable=false:=rfl
theorem aBV:AV.undef.isAgg=false:=rfl
theorem aGW:AV.undef.width=1:=rfl
theorem aCC:AV.undef.cD=false:=rfl
theorem aAR:AV.undef.cells= [AV.undef]:=rfl
theorem aEU:AV.undef.storable=false:=rfl
theorem aBJ{k:IntKind}{n:Int}:(AV.int k n).isAgg=false:=rfl
theorem aGK{k:IntKind}{n:Int}:(AV.int k n).width=1:=rfl
theorem aB0{k:IntKind}{n:Int}:(AV.int k n).cD=false:=rfl
theorem aAF{k:IntKind}{n:Int}:(AV.int k n).cells= [(AV.int k n)]:=rfl
theorem aEJ{k:IntKind}{n:Int}:(AV.int k n).storable=true:=rfl
theorem aBG{b:Bool}:(AV.bool b).isAgg=false:=rfl
theorem aGH{b:Bool}:(AV.bool b).width=1:=rfl
theorem aBX{b:Bool}:(AV.bool b).cD=false:=rfl
theorem aAC{b:Bool}:(AV.bool b).cells= [(AV.bool b)]:=rfl
theorem aEG{b:Bool}:(AV.bool b).storable=true:=rfl
theorem aBT{s:ByteArray}:(AV.str s).isAgg=false:=rfl
theorem aGU{s:ByteArray}:(AV.str s).width=1:=rfl
theorem aCA{s:ByteArray}:(AV.str s).cD=false:=rfl
theorem aAP{s:ByteArray}:(AV.str s).cells= [(AV.str s)]:=rfl
theorem aES{s:ByteArray}:(AV.str s).storable=true:=rfl
theorem aBU{vs:List AV}:(AV.tup vs).isAgg=false:=rfl
theorem aGV{vs:List AV}:(AV.tup vs).width=1:=rfl
theorem aCB{vs:List AV}:(AV.tup vs).cD=false:=rfl
theorem aAQ{vs:List AV}:(AV.tup vs).cells= [(AV.tup vs)]:=rfl
theorem aET{vs:List AV}:(AV.tup vs).storable=false:=rfl
theorem aBS{es:List AV}:(AV.slice es).isAgg=false:=rfl
theorem aGT{es:List AV}:(AV.slice es).width=1:=rfl
theorem aB9{es:List AV}:(AV.slice es).cD=false:=rfl
theorem aAO{es:List AV}:(AV.slice es).cells= [(AV.slice es)]:=rfl
theorem aER{es:List AV}:(AV.slice es).storable=true:=rfl
theorem aBH{es:List AV}:(AV.fslice es).isAgg=false:=rfl
theorem aGI{es:List AV}:(AV.fslice es).width=1:=rfl
theorem aBY{es:List AV}:(AV.fslice es).cD=false:=rfl
theorem aAD{es:List AV}:(AV.fslice es).cells= [(AV.fslice es)]:=rfl
theorem aEH{es:List AV}:(AV.fslice es).storable=true:=rfl
theorem aBM{b:Nat}{o:Nat}{l:Nat}{m:Nat}:(AV.mslice b o l m).isAgg=false:=rfl
theorem aGN{b:Nat}{o:Nat}{l:Nat}{m:Nat}:(AV.mslice b o l m).width=1:=rfl
theorem aB3{b:Nat}{o:Nat}{l:Nat}{m:Nat}:(AV.mslice b o l m).cD=false:=rfl
theorem aAI{b:Nat}{o:Nat}{l:Nat}{m:Nat}:(AV.mslice b o l m).cells= [(AV.mslice b o l m)]:=rfl
theorem aEM{b:Nat}{o:Nat}{l:Nat}{m:Nat}:(AV.mslice b o l m).storable=true:=rfl
theorem aBO:AV.nilptr.isAgg=false:=rfl
theorem aGP:AV.nilptr.width=1:=rfl
theorem aB5:AV.nilptr.cD=false:=rfl
theorem aAK:AV.nilptr.cells= [AV.nilptr]:=rfl
theorem aEO:AV.nilptr.storable=true:=rfl
theorem aBQ{b:Nat}{o:Nat}:(AV.ptr b o).isAgg=false:=rfl
theorem aGR{b:Nat}{o:Nat}:(AV.ptr b o).width=1:=rfl
theorem aB7{b:Nat}{o:Nat}:(AV.ptr b o).cD=false:=rfl
theorem aAM{b:Nat}{o:Nat}:(AV.ptr b o).cells= [(AV.ptr b o)]:=rfl
theorem aEQ{b:Nat}{o:Nat}:(AV.ptr b o).storable=true:=rfl
theorem aBP{e:AV}:(AV.pptr e).isAgg=false:=rfl
theorem aGQ{e:AV}:(AV.pptr e).width=1:=rfl
theorem aB6{e:AV}:(AV.pptr e).cD=false:=rfl
theorem aAL{e:AV}:(AV.pptr e).cells= [(AV.pptr e)]:=rfl
theorem aEP{e:AV}:(AV.pptr e).storable=true:=rfl
theorem aBN:AV.nilmap.isAgg=false:=rfl
theorem aGO:AV.nilmap.width=1:=rfl
theorem aB4:AV.nilmap.cD=false:=rfl
theorem aAJ:AV.nilmap.cells= [AV.nilmap]:=rfl
theorem aEN:AV.nilmap.storable=true:=rfl
theorem aBL{b:Nat}:(AV.map b).isAgg=false:=rfl
theorem aGM{b:Nat}:(AV.map b).width=1:=rfl
theorem aB2{b:Nat}:(AV.map b).cD=false:=rfl
theorem aAH{b:Nat}:(AV.map b).cells= [(AV.map b)]:=rfl
theorem aEL{b:Nat}:(AV.map b).storable=true:=rfl
theorem aBI{f:FuncId}{cs:List AV}:(AV.func f cs).isAgg=false:=rfl
theorem aGJ{f:FuncId}{cs:List AV}:(AV.func f cs).width=1:=rfl
theorem aBZ{f:FuncId}{cs:List AV}:(AV.func f cs).cD=false:=rfl
theorem aAE{f:FuncId}{cs:List AV}:(AV.func f cs).cells= [(AV.func f cs)]:=rfl
theorem aEI{f:FuncId}{cs:List AV}:(AV.func f cs).storable=true:=rfl
theorem aBR{v:Value}:(AV.raw v).isAgg=false:=rfl
theorem aGS{v:Value}:(AV.raw v).width=1:=rfl
theorem aB8{v:Value}:(AV.raw v).cD=false:=rfl
theorem aAN{v:Value}:(AV.raw v).cells= [(AV.raw v)]:=rfl
theorem aBF{cs:List AV}:(AV.agg cs).isAgg=true:=rfl
theorem aGG{cs:List AV}:(AV.agg cs).width=cs.length:=rfl
theorem aBW{cs:List AV}:(AV.agg cs).cD=false:=rfl
theorem aAB{cs:List AV}:(AV.agg cs).cells=cs:=rfl
theorem Z9:((0:Nat):Int)=0:=rfl
theorem aAA{n:Nat}:((n+1:Nat):Int)=(n:Int)+1:=rfl
theorem d8{st:aA}{b x:Nat}{o:AO}:(st.aC b o) x=if x=b then some o else st x:=rfl
theorem wrap64{n:Int}(h1: -9223372036854775808≤n)(h2:n≤9223372036854775807):IntKind.wrap .i64 n=n:=by
 rw[IntKind.wrap_i64];omega
end Go.AW
