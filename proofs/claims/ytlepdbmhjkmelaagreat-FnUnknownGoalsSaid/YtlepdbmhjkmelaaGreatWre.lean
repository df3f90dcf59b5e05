/- Smaller stores, frozen slices, sizes, frames as lists, regions that draw. -/
import Derived.Test.YtlepdbmhjkmelaaGreatWrd
set_option linter.unusedSimpArgs false
set_option linter.unusedVariables false
set_option maxRecDepth 100000
namespace Go.AW
def aN(st st':aA):Prop:=∀b,(st b=none→st' b=none)∧∀o,st' b=some o→st b=some o
theorem aN.refl(st:aA):aN st st:=fun _=>⟨id,fun _=>id⟩
theorem aN.aC{st st':aA}(x:aN st st'){b:Nat}{o:AO}(h:st' b=none):aN (st.aC b o) st':=fun i=>by
 simp only[aA.aC]
 split
 · rename_i e;subst e;exact⟨fun _=>h,fun o' h'=>by rw[h] at h';cases h'⟩
 · exact x i
theorem d9(st:aA)(b:Nat):aN st (st.erase b):=fun i=>by
 simp only[aA.erase]
 split
 · exact⟨fun _=>rfl,fun o' h'=>by cases h'⟩
 · exact⟨id,fun _=>id⟩
theorem aN.step{st st':aA}(x:aN st st')(h:aM):aS h st h st':=⟨c9 _,fun b _ e=>⟨rfl,(x b).1 e⟩,fun _ c _ _ e=>⟨c,e,rfl⟩⟩
theorem aN.vL{st st':aA}(x:aN st st'){h:aM}(S:bF h st):bF h st':=fun b o e=>by
 obtain⟨h1,h2⟩:=S b o ((x b).2 o e)
 refine⟨h1,?_⟩
 cases o with
 | cells as=>
  obtain⟨c,t,e1,e2,vs,e3,e4⟩:=h2
  exact⟨c,t,e1,e2,vs,e3,aG.mono (x.step h) _ _ e4⟩
 | map f=>
  obtain⟨es,clock,e1,e2,e3,e4⟩:=h2
  refine⟨es,clock,e1,e2,e3,fun n=>?_⟩
  have:=e4 n
  cases hf:f n with
  | none=>rw[hf] at this;exact this
  | some a=>
   rw[hf] at this
   obtain⟨e,m,k,v⟩:=this
   exact⟨e,m,k,v.mono (x.step h)⟩
 | tab cs=>exact h2
theorem aN.lN{st st':aA}(x:aN st st'):pG st st':=fun h S=>⟨x.vL S,x.step h⟩
theorem aN.hJ{st st':aA}(x:aN st st')(r:AV):kV st r st' r:=fun h _ _ y=>y.mono (x.step h)
theorem aD.drop{P:Program}{g:FuncId}{args:List AV}{st:aA}{Q:AV→Prop}(x:aD P g args st (fun r st'=>aN st' st∧Q r)):aD P g args st (fun r st'=>Q r∧st'=st):=
 x.hJ fun r st' ⟨h1,h2⟩=>⟨r,st,h1.lN,h1.hJ r,h2,rfl⟩
mutual
def AV.fz(b:Nat)(es:List AV):AV→AV
 | .mslice b' 0 n sz=>if b'=b∧n=es.length then .slice es else .mslice b' 0 n sz
 | .agg cs=>.agg (gA b es cs)
 | .tup vs=>.tup (gA b es vs)
 | a=>a
def gA(b:Nat)(es:List AV):List AV→List AV
 | []=>[]
 | a::as=>AV.fz b es a::gA b es as
end
theorem ND(b:Nat)(es:List AV)(a:AV):(a.fz b es).isAgg=a.isAgg:=by
 cases a<;>try rfl
 case mslice b' off n sz=>
  cases off with
  | zero=>simp only[AV.fz];split<;>rfl
  | succ k=>rfl
section
variable {h:aM} {st:aA} {b:Nat} {es:List AV}
theorem frozen(S:bF h st)(hb:st b=some (.cells (es.flatMap AV.cells)))(hj:∀e∈es,e.bA=false):b<h.size∧bR h (st.erase b) b 0 es:=by
 obtain⟨h1,c,t,e1,e2,vs,e3,e4⟩:=S b _ hb
 exact⟨h1,bR.mono ((d9 st b).step h) b rfl _ _ (tU hj e3 e4)⟩
theorem VC.WZ{b' off n sz:Nat}{cs:List Value}(S:bF h st)(hb:st b=some (.cells (es.flatMap AV.cells)))(hj:∀e∈es,e.bA=false)(hE:eL es)(x:VC h st (.mslice b' off n sz) cs):VC h (st.erase b) ((AV.mslice b' off n sz).fz b es) cs:=by
 have x0:VC h (st.erase b) (.mslice b' off n sz) cs:=VC.mono ((d9 st b).step h) _ _ x
 cases off with
 | succ k=>exact x0
 | zero=>
  simp only[AV.fz]
  split
  · rename_i e
    obtain⟨rfl,rfl⟩:=e
    simp only[VC] at x
    obtain⟨cap,e1,l1,l2,c,t,_,_⟩:=x
    obtain⟨hs,hE'⟩:=frozen S hb hj
    unfold VC
    exact .inr ⟨b',0,cap,e1,l1,l2,aA.C0 _ _,hs,hE,hE'⟩
  · exact x0
mutual
theorem VC.fz(S:bF h st)(hb:st b=some (.cells (es.flatMap AV.cells)))(hj:∀e∈es,e.bA=false)(hE:eL es):∀(a:AV) (cs:List Value),VC h st a cs→VC h (st.erase b) (a.fz b es) cs
 | .mslice b' off n sz,cs,x=>VC.WZ S hb hj hE x
 | .agg as,cs,x=>by simp only[VC,AV.fz] at x ⊢;exact aG.fz S hb hj hE as cs x
 | .tup as,cs,x=>by
  simp only[VC,AV.fz] at x ⊢
  obtain⟨vs,e,r⟩:=x
  exact⟨vs,e,cE.fz S hb hj hE as vs r⟩
 | .junk,cs,x=>VC.mono ((d9 st b).step h) _ _ x
 | .undef,cs,x=>VC.mono ((d9 st b).step h) _ _ x
 | .int _ _,cs,x=>VC.mono ((d9 st b).step h) _ _ x
 | .bool _,cs,x=>VC.mono ((d9 st b).step h) _ _ x
 | .str _,cs,x=>VC.mono ((d9 st b).step h) _ _ x
 | .slice _,cs,x=>VC.mono ((d9 st b).step h) _ _ x
 | .fslice _,cs,x=>VC.mono ((d9 st b).step h) _ _ x
 | .nilptr,cs,x=>VC.mono ((d9 st b).step h) _ _ x
 | .ptr _ _,cs,x=>VC.mono ((d9 st b).step h) _ _ x
 | .pptr _,cs,x=>VC.mono ((d9 st b).step h) _ _ x
 | .nilmap,cs,x=>VC.mono ((d9 st b).step h) _ _ x
 | .map _,cs,x=>VC.mono ((d9 st b).step h) _ _ x
 | .func _ _,cs,x=>VC.mono ((d9 st b).step h) _ _ x
 | .raw _,cs,x=>VC.mono ((d9 st b).step h) _ _ x
 | .eslice,cs,x=>VC.mono ((d9 st b).step h) _ _ x
theorem aG.fz(S:bF h st)(hb:st b=some (.cells (es.flatMap AV.cells)))(hj:∀e∈es,e.bA=false)(hE:eL es):∀(as:List AV) (cs:List Value),aG h st as cs→aG h (st.erase b) (gA b es as) cs
 | [],_,x=>x
 | a::as,cs,x=>by
  simp only[aG,gA] at x ⊢
  obtain⟨c,r,e,x1,x2⟩:=x
  exact⟨c,r,e,VC.fz S hb hj hE a [c] x1,aG.fz S hb hj hE as r x2⟩
theorem cE.fz(S:bF h st)(hb:st b=some (.cells (es.flatMap AV.cells)))(hj:∀e∈es,e.bA=false)(hE:eL es):∀(as:List AV) (cs:List Value),cE h st as cs→cE h (st.erase b) (gA b es as) cs
 | [],_,x=>x
 | a::as,cs,x=>by
  simp only[cE,gA] at x ⊢
  obtain⟨v,r,e,x1,x2⟩:=x
  exact⟨v,r,e,⟨(ND b es a).trans x1.1,VC.fz S hb hj hE a _ x1.2⟩,cE.fz S hb hj hE as r x2⟩
end
theorem aE.fz{a:AV}{v:Value}(S:bF h st)(hb:st b=some (.cells (es.flatMap AV.cells)))(hj:∀e∈es,e.bA=false)(hE:eL es)(x:aE h st a v):aE h (st.erase b) (a.fz b es) v:=by
 have key:a.isAgg=fX v∧VC h st a v.cells.toList→aE h (st.erase b) (a.fz b es) v:=fun x=>by
  have y:(a.fz b es).isAgg=fX v∧VC h (st.erase b) (a.fz b es) v.cells.toList:=⟨(ND b es a).trans x.1,VC.fz S hb hj hE a _ x.2⟩
  cases hq:a.fz b es<;>rw[hq] at y<;>first | trivial | exact y
 cases a<;>first | trivial | exact key x
end
theorem cN.freeze{φ:AF}{st:aA}{b:Nat}{es:List AV}(h1:st b=some (.cells (es.flatMap AV.cells)))(h2:∀e∈es,e.bA=false)(h3:eL es):cN φ st (fun d=>(φ d).fz b es) (st.erase b):=
 fun h _ S F=>⟨(d9 st b).vL S,(d9 st b).step h,fun d=>(F d).fz S h1 h2 h3⟩
theorem cN.drop{φ:AF}{st st':aA}(x:aN st st'):cN φ st φ st':=fun h _ S F=>⟨x.vL S,x.step h,fun d=>(F d).mono (x.step h)⟩
mutual
def AV.soft:AV→AV
 | .fslice es=>.slice es
 | .agg cs=>.agg (dK cs)
 | .tup vs=>.tup (dK vs)
 | a=>a
def dK:List AV→List AV
 | []=>[]
 | a::as=>a.soft::dK as
end
theorem ZN(a:AV):a.soft.isAgg=a.isAgg:=by cases a<;>rfl
section
variable {h:aM} {st:aA}
mutual
theorem VC.soft:∀(a:AV) (cs:List Value),VC h st a cs→VC h st a.soft cs
 | .fslice es,cs,x=>by
  simp only[AV.soft]
  unfold VC at x ⊢
  rcases x with x | ⟨b,off,e,l,r⟩
  · exact .inl x
  · exact .inr ⟨b,off,es.length,e,c9 _,l,r⟩
 | .agg as,cs,x=>by simp only[VC,AV.soft] at x ⊢;exact aG.soft as cs x
 | .tup as,cs,x=>by
  simp only[VC,AV.soft] at x ⊢
  obtain⟨vs,e,r⟩:=x
  exact⟨vs,e,cE.soft as vs r⟩
 | .mslice _ _ _ _,cs,x=>x
 | .junk,cs,x=>x
 | .undef,cs,x=>x
 | .int _ _,cs,x=>x
 | .bool _,cs,x=>x
 | .str _,cs,x=>x
 | .slice _,cs,x=>x
 | .nilptr,cs,x=>x
 | .ptr _ _,cs,x=>x
 | .pptr _,cs,x=>x
 | .nilmap,cs,x=>x
 | .map _,cs,x=>x
 | .func _ _,cs,x=>x
 | .raw _,cs,x=>x
 | .eslice,cs,x=>x
theorem aG.soft:∀(as:List AV) (cs:List Value),aG h st as cs→aG h st (dK as) cs
 | [],_,x=>x
 | a::as,cs,x=>by
  simp only[aG,dK] at x ⊢
  obtain⟨c,r,e,x1,x2⟩:=x
  exact⟨c,r,e,VC.soft a [c] x1,aG.soft as r x2⟩
theorem cE.soft:∀(as:List AV) (cs:List Value),cE h st as cs→cE h st (dK as) cs
 | [],_,x=>x
 | a::as,cs,x=>by
  simp only[cE,dK] at x ⊢
  obtain⟨v,r,e,x1,x2⟩:=x
  exact⟨v,r,e,⟨(ZN a).trans x1.1,VC.soft a _ x1.2⟩,cE.soft as r x2⟩
end
theorem aE.soft{a:AV}{v:Value}(x:aE h st a v):aE h st a.soft v:=by
 cases a
 case fslice=>exact x.r9
 case agg=>exact⟨x.1,VC.soft _ _ x.2⟩
 case tup=>exact⟨x.1,VC.soft _ _ x.2⟩
 all_goals exact x
end
theorem aD.soft{P:Program}{g:FuncId}{args:List AV}{st:aA}{Q:AV→aA→Prop}(x:aD P g args st (fun r st'=>Q r.soft st')):aD P g args st Q:=
 x.hJ fun r st' h=>⟨r.soft,st',(aN.refl st').lN,fun _ _ _ y=>y.soft,h⟩
theorem aD.kN{P:Program}{g:FuncId}{args:List AV}{st:aA}{Q:AV→aA→Prop}(x:aD P g (dK args) st Q):aD P g args st Q:=
 x.args fun hp=>by
  have:∀(as:List AV) (vs:List Value),bT hp st as vs→bT hp st (dK as) vs:=by
   intro as
   induction as with
   | nil=>intro vs y;exact y
   | cons a as ih=>
    intro vs y
    simp only[bT,dK] at y ⊢
    obtain⟨v,r,rfl,y1,y2⟩:=y
    exact⟨v,r,rfl,y1.soft,ih r y2⟩
  exact fun vs _=>this args vs
mutual
def AV.fits:AV→Prop
 | .str s=>s.size≤9223372036854775807
 | .agg cs=>cS cs
 | .tup vs=>cS vs
 | .slice es=>es.length≤9223372036854775807∧cS es
 | .fslice es=>es.length≤9223372036854775807∧cS es
 | .mslice _ _ n _=>n≤9223372036854775807
 | .pptr e=>e.fits
 | _=>True
def cS:List AV→Prop
 | []=>True
 | a::as=>a.fits∧cS as
end
section
variable {h:aM} {st:aA}
mutual
theorem VC.fits:∀(a:AV) (cs:List Value),VC h st a cs→a.fits
 | .str s,cs,x=>by simp only[VC,maxLen] at x;exact x.2
 | .agg as,cs,x=>by simp only[VC,AV.fits] at x ⊢;exact aG.fits as cs x
 | .tup as,cs,x=>by
  simp only[VC,AV.fits] at x ⊢
  obtain⟨vs,e,r⟩:=x
  exact cE.fits as vs r
 | .slice es,cs,x=>by
  simp only[VC,AV.fits] at x ⊢
  rcases x with ⟨⟨p0,_⟩,rfl⟩ | ⟨b,off,cap,_,l1,l2,_,_,_,r⟩
  · exact⟨by simp,trivial⟩
  · exact⟨j4 l1 l2,bR.fits es off r⟩
 | .fslice es,cs,x=>by
  simp only[VC,AV.fits] at x ⊢
  rcases x with ⟨⟨p0,_⟩,rfl⟩ | ⟨b,off,_,l1,_,_,_,r⟩
  · exact⟨by simp,trivial⟩
  · exact⟨l1,bR.fits es off r⟩
 | .mslice _ _ n _,cs,x=>by
  simp only[VC,AV.fits] at x ⊢
  obtain⟨cap,_,l1,l2,_⟩:=x
  exact j4 l1 l2
 | .pptr e,cs,x=>by
  simp only[VC,AV.fits] at x ⊢
  obtain⟨b,off,_,_,_,vs,_,_,y⟩:=x
  exact VC.fits e vs y
 | .junk,cs,x=>trivial
 | .undef,cs,x=>trivial
 | .int _ _,cs,x=>trivial
 | .bool _,cs,x=>trivial
 | .nilptr,cs,x=>trivial
 | .ptr _ _,cs,x=>trivial
 | .nilmap,cs,x=>trivial
 | .map _,cs,x=>trivial
 | .func _ _,cs,x=>trivial
 | .raw _,cs,x=>trivial
 | .eslice,cs,x=>trivial
theorem aG.fits:∀(as:List AV) (cs:List Value),aG h st as cs→cS as
 | [],_,x=>trivial
 | a::as,cs,x=>by
  simp only[aG] at x
  obtain⟨c,r,e,x1,x2⟩:=x
  exact⟨VC.fits a [c] x1,aG.fits as r x2⟩
theorem cE.fits:∀(as:List AV) (cs:List Value),cE h st as cs→cS as
 | [],_,x=>trivial
 | a::as,cs,x=>by
  simp only[cE] at x
  obtain⟨v,r,e,x1,x2⟩:=x
  exact⟨VC.fits a _ x1.2,cE.fits as r x2⟩
theorem bR.fits{b:Nat}:∀(as:List AV) (off:Nat),bR h st b off as→cS as
 | [],_,x=>trivial
 | a::as,off,x=>by
  simp only[bR] at x
  obtain⟨⟨cs,_,_,x3⟩,x4⟩:=x
  exact⟨VC.fits a cs x3,bR.fits as _ x4⟩
end
theorem aE.fits{a:AV}{v:Value}(x:aE h st a v):a.fits:=by
 cases a<;>first | trivial | exact VC.fits _ _ x.2
theorem bT.fits:∀ {as:List AV} {vs:List Value},bT h st as vs→cS as
 | [],_,_=>trivial
 | a::as,vs,x=>by
  simp only[bT] at x
  obtain⟨v,r,_,x1,x2⟩:=x
  exact⟨x1.fits,bT.fits x2⟩
end
theorem zw6{P:Program}{g:FuncId}{fn:Func}{c:Code}{args:List AV}{st:aA}{N:Nat}{rs:List ResultVar}{K:AV→aA→Prop}(mt:List Nat)(hf:P.funcs[g]?=some fn)(hN:fn.ntmps=N)(hr:fn.results=rs.toArray)(hb:fn.body=some c)(hn:(fn.name == "runtime.NumGoroutine")=false)
 (hok:codeOk N c=true) (jQ:args.length≤N) (e:cS args→cX P N mt c (sX P rs.toArray K) (k0 0 args) st):aD P g args st K:=by
 subst hN
 rw[←hr] at e
 exact⟨⟨fn,hf,by simp [hb],hn⟩,fun w vs S V=>(RJ mt hf hb hn hok jQ (e V.fits)).2 w vs S V⟩
def eO:List (Nat×AV)→AF
 | []=>AF.bot
 | (d,v)::l=>(eO l).aC d v
def oJ(φ:AF):List (Nat×AV)→Prop
 | []=>True
 | (d,v)::l=>φ d=v∧oJ φ l
theorem cN.eO{φ:AF}{st:aA}:∀ {l:List (Nat×AV)},oJ φ l→cN φ st (eO l) st
 | [],_=>cN.bot φ st
 | (d,v)::l,h=>(cN.eO h.2).aC h.1
theorem HB{φ:AF}:oJ φ []=True:=rfl
theorem HC{φ:AF}{d:Nat}{v:AV}{l:List (Nat×AV)}:oJ φ ((d,v)::l)=(φ d=v∧oJ φ l):=rfl
theorem aD.to{P:Program}{g:FuncId}{args:List AV}{st:aA}{r:AV}{K:AV→aA→Prop}(x:aD P g args st (fun r' st'=>r'=r∧st'=st))(h:K r st):aD P g args st K:=
 x.mono fun _ _ ⟨e1,e2⟩=>by rw[e1,e2];exact h
theorem rS{P:Program}{N:Nat}(mt:List Nat){c:Code}{Q:Exit→AF→aA→Prop}{φ:AF}{st:aA}(hok:codeOk N c=true)(e:cX P N mt c Q φ st):dL P N c Q φ st:=n5 c Q φ st hok e
def l9(l:List (Nat×AV)):AF:=eO l
theorem G5:l9 []=AF.bot:=rfl
theorem G4{d:Nat}{v:AV}{l:List (Nat×AV)}:l9 ((d,v)::l)=(l9 l).aC d v:=rfl
def aL(φ:AF)(st:aA)(l:List (Nat×AV))(st':aA):Prop:=cN φ st (eO l) st'
theorem aL.mk{φ:AF}{st:aA}{l:List (Nat×AV)}(h:oJ φ l):aL φ st l st:=cN.eO h
theorem aL.drop{φ:AF}{st st':aA}{l:List (Nat×AV)}(d:aN st st')(h:oJ φ l):aL φ st l st':=(cN.drop d).trans (cN.eO h)
theorem nW{P:Program}{N:Nat}{c:Code}{Q:Exit→AF→aA→Prop}{φ:AF}{st:aA}{α:Type}(mt:List Nat)(inv:α→Prop)(fl:α→List (Nat×AV))(so:α→aA)(μ:α→Nat)(hok:codeOk N c=true)
 (h0:∃s,inv s∧aL φ st (fl s) (so s))
 (h1:∀s,inv s→cX P N mt c (iP (fun φ' st'=>∃s',μ s'<μ s∧inv s'∧aL φ' st' (fl s') (so s')) Q) (l9 (fl s)) (so s)):dL P N (.loop c) Q φ st:=
 xG inv (fun s=>eO (fl s)) so μ h0 fun s hs=>rS mt hok (h1 s hs)
theorem cM{P:Program}{mt:List Nat}{ops:Array Oper}{o:Oper}{l:List Oper}{K:AF→aA→Prop}{φ:AF}{st:aA}{c want:Bool}
 (h1:c=want→mK P mt ops o l K φ st (some true)) (h2:c=(!want)→mK P mt ops o l K φ st (some false)):mK P mt ops o l K φ st (some (c == want)):=by
 cases c<;>cases want<;>first | exact h1 rfl | exact h2 rfl
def gF(o:Oper):Bool:=match o.op with
 | .call { callee:=.value _,.. }=>false
 | .call { callee:=.builtin .append,.. }=>false
 | .call { callee:=.builtin .delete,.. }=>false
 | .call { callee:=.builtin .clear,.. }=>false
 | .alloc _=>false
 | .store _ _ _=>false
 | .makeMap _ none=>false
 | .makeSlice _ _ _=>false
 | .mapUpdate _ _ _ _=>false
 | _=>true
theorem n7{P:Program}{φ:AF}{st:aA}{o:Oper}{K:AV→aA→Prop}(h:gF o=true):cK P [] φ st o K=match fH P φ st o with | some r=>K r st | none=>False:=by
 obtain⟨dst,op,type,pos,after,guard⟩:=o
 unfold cK
 split
 case h_5 t x e=>
  simp only at e
  subst e
  simp only[o9,List.contains_nil,fH]
  cases dst<;>rfl
 case h_11=>rfl
 all_goals (rename_i e;simp only at e;subst e;simp [gF] at h)
def cQ(P:Program)(ops:Array Oper)(st:aA):List Oper→(AF→Prop)→AF→Prop
 | [],K,φ=>K φ
 | o::rest,K,φ=>if gF o=true then aJ P [] ops [o] (fun φ' _=>cQ P ops st rest K φ') φ st else
  match o.guard,o.op with
  | none,.call { callee:=.value f,args,.. }=>∃r,kA P (φ.eval f) (args.toList.map φ.eval) st (fun r' st'=>r'=r∧st'=st)∧cQ P ops st rest K (φ.put o.dst r)
  | _,_=>False
theorem C4{P:Program}{ops:Array Oper}{st:aA}{K:AF→Prop}{φ:AF}:cQ P ops st [] K φ=K φ:=rfl
def hK(P:Program)(ops:Array Oper)(st:aA)(rest:List Oper)(K:AF→Prop)(φ:AF)(_:aA):Prop:=cQ P ops st rest K φ
theorem HA{P:Program}{ops:Array Oper}{st st':aA}{K:AF→Prop}{φ:AF}{rest:List Oper}:hK P ops st rest K φ st'=cQ P ops st rest K φ:=rfl
theorem eW{P:Program}{ops:Array Oper}{st:aA}{K:AF→Prop}{φ:AF}{o:Oper}{rest:List Oper}(h:gF o=true):cQ P ops st (o::rest) K φ=aJ P [] ops [o] (hK P ops st rest K) φ st:=by
 simp [cQ,h]
 rfl
def m9(P:Program)(f:AV)(args:List AV)(st:aA)(K:AV→Prop):Prop:=∃r,kA P f args st (fun r' st'=>r'=r∧st'=st)∧K r
def uW(P:Program)(ops:Array Oper)(st:aA)(rest:List Oper)(K:AF→Prop)(φ:AF)(dst:Option Tmp)(r:AV):Prop:=cQ P ops st rest K (φ.put dst r)
theorem QY{P:Program}{ops:Array Oper}{st:aA}{K:AF→Prop}{φ:AF}{rest:List Oper}{dst:Option Tmp}{f:Operand}{args:List Operand}{ats:Array TypeId}{type:TypeId}{pos:String}{after:Array Edge} :
 cQ P ops st (⟨dst,.call { callee:=.value f,args:=args.toArray,argTypes:=ats },type,pos,after,none⟩::rest) K φ=m9 P (φ.eval f) (args.map φ.eval) st (uW P ops st rest K φ dst):=by
 simp [cQ,gF,m9,uW]
section
variable {P:Program} {ops:Array Oper} {st:aA} {K:AF→Prop} {φ:AF} {rest:List Oper} {dst:Option Tmp} {type:TypeId} {pos:String} {after:Array Edge} {g:Option (Nat×Bool)}
theorem DR{f:Operand}{args:List Operand}{ats:Array TypeId} :
 cQ P ops st (⟨dst,.call { callee:=.value f,args:=args.toArray,argTypes:=ats },type,pos,after,none⟩::rest) K φ=m9 P (φ.eval f) (args.map φ.eval) st (uW P ops st rest K φ dst):=QY
theorem C5{x:Operand}:cQ P ops st (⟨dst,.move x,type,pos,after,g⟩::rest) K φ=aJ P [] ops [⟨dst,.move x,type,pos,after,g⟩] (hK P ops st rest K) φ st:=eW rfl
theorem DI{x:Operand}:cQ P ops st (⟨dst,.assign x,type,pos,after,g⟩::rest) K φ=aJ P [] ops [⟨dst,.assign x,type,pos,after,g⟩] (hK P ops st rest K) φ st:=eW rfl
theorem DJ{c x y:Operand}:cQ P ops st (⟨dst,.pick c x y,type,pos,after,g⟩::rest) K φ=aJ P [] ops [⟨dst,.pick c x y,type,pos,after,g⟩] (hK P ops st rest K) φ st:=eW rfl
theorem DK{op:BinOp}{t t':TypeId}{x y:Operand}:cQ P ops st (⟨dst,.binOp op t x y t',type,pos,after,g⟩::rest) K φ=aJ P [] ops [⟨dst,.binOp op t x y t',type,pos,after,g⟩] (hK P ops st rest K) φ st:=eW rfl
theorem DL{op:UnOp}{t:TypeId}{x:Operand}:cQ P ops st (⟨dst,.unOp op t x,type,pos,after,g⟩::rest) K φ=aJ P [] ops [⟨dst,.unOp op t x,type,pos,after,g⟩] (hK P ops st rest K) φ st:=eW rfl
theorem DM{x:Operand}:cQ P ops st (⟨dst,.nilCheck x,type,pos,after,g⟩::rest) K φ=aJ P [] ops [⟨dst,.nilCheck x,type,pos,after,g⟩] (hK P ops st rest K) φ st:=eW rfl
theorem DN{t f:Nat}{x:Operand}:cQ P ops st (⟨dst,.fieldAddr t x f,type,pos,after,g⟩::rest) K φ=aJ P [] ops [⟨dst,.fieldAddr t x f,type,pos,after,g⟩] (hK P ops st rest K) φ st:=eW rfl
theorem DO{t:TypeId}{x:Operand}:cQ P ops st (⟨dst,.load t x,type,pos,after,g⟩::rest) K φ=aJ P [] ops [⟨dst,.load t x,type,pos,after,g⟩] (hK P ops st rest K) φ st:=eW rfl
theorem DP{t f:Nat}{x:Operand}:cQ P ops st (⟨dst,.field t x f,type,pos,after,g⟩::rest) K φ=aJ P [] ops [⟨dst,.field t x f,type,pos,after,g⟩] (hK P ops st rest K) φ st:=eW rfl
theorem C6{t:TypeId}{x i:Operand}:cQ P ops st (⟨dst,.indexAddr t x i,type,pos,after,g⟩::rest) K φ=aJ P [] ops [⟨dst,.indexAddr t x i,type,pos,after,g⟩] (hK P ops st rest K) φ st:=eW rfl
theorem C7{t:TypeId}{x i:Operand}:cQ P ops st (⟨dst,.index t x i,type,pos,after,g⟩::rest) K φ=aJ P [] ops [⟨dst,.index t x i,type,pos,after,g⟩] (hK P ops st rest K) φ st:=eW rfl
theorem C8{t:TypeId}{x:Operand}{lo hi mx:Option Operand}:cQ P ops st (⟨dst,.slice t x lo hi mx,type,pos,after,g⟩::rest) K φ=aJ P [] ops [⟨dst,.slice t x lo hi mx,type,pos,after,g⟩] (hK P ops st rest K) φ st:=eW rfl
theorem C9{x:Operand}{i:Nat}:cQ P ops st (⟨dst,.extract x i,type,pos,after,g⟩::rest) K φ=aJ P [] ops [⟨dst,.extract x i,type,pos,after,g⟩] (hK P ops st rest K) φ st:=eW rfl
theorem DA{t:TypeId}{ps:Array (Nat×Operand)}:cQ P ops st (⟨dst,.build t ps,type,pos,after,g⟩::rest) K φ=aJ P [] ops [⟨dst,.build t ps,type,pos,after,g⟩] (hK P ops st rest K) φ st:=eW rfl
theorem DB{t:TypeId}{n:Nat}{ps:Array (Nat×Operand)}:cQ P ops st (⟨dst,.buildSlice t n ps,type,pos,after,g⟩::rest) K φ=aJ P [] ops [⟨dst,.buildSlice t n ps,type,pos,after,g⟩] (hK P ops st rest K) φ st:=eW rfl
theorem DC{t u:TypeId}{x:Operand}:cQ P ops st (⟨dst,.convert t u x,type,pos,after,g⟩::rest) K φ=aJ P [] ops [⟨dst,.convert t u x,type,pos,after,g⟩] (hK P ops st rest K) φ st:=eW rfl
theorem DD{t:TypeId}{x i:Operand}{ok:Bool}:cQ P ops st (⟨dst,.lookup t x i ok,type,pos,after,g⟩::rest) K φ=aJ P [] ops [⟨dst,.lookup t x i ok,type,pos,after,g⟩] (hK P ops st rest K) φ st:=eW rfl
theorem DE{x:Operand}{t:TypeId}:cQ P ops st (⟨dst,.call { callee:=.builtin .len,args:=#[x],argTypes:=#[t] },type,pos,after,g⟩::rest) K φ=aJ P [] ops [⟨dst,.call { callee:=.builtin .len,args:=#[x],argTypes:=#[t] },type,pos,after,g⟩] (hK P ops st rest K) φ st:=eW rfl
theorem DF{x:Operand}{t:TypeId}:cQ P ops st (⟨dst,.call { callee:=.builtin .cap,args:=#[x],argTypes:=#[t] },type,pos,after,g⟩::rest) K φ=aJ P [] ops [⟨dst,.call { callee:=.builtin .cap,args:=#[x],argTypes:=#[t] },type,pos,after,g⟩] (hK P ops st rest K) φ st:=eW rfl
theorem DG{x y:Operand}{ts:Array TypeId}:cQ P ops st (⟨dst,.call { callee:=.builtin .max,args:=#[x,y],argTypes:=ts },type,pos,after,g⟩::rest) K φ=aJ P [] ops [⟨dst,.call { callee:=.builtin .max,args:=#[x,y],argTypes:=ts },type,pos,after,g⟩] (hK P ops st rest K) φ st:=eW rfl
theorem DH{x y:Operand}{ts:Array TypeId}:cQ P ops st (⟨dst,.call { callee:=.builtin .min,args:=#[x,y],argTypes:=ts },type,pos,after,g⟩::rest) K φ=aJ P [] ops [⟨dst,.call { callee:=.builtin .min,args:=#[x,y],argTypes:=ts },type,pos,after,g⟩] (hK P ops st rest K) φ st:=eW rfl
end
theorem DQ{P:Program}{ops:Array Oper}{st:aA}{K:AF→Prop}{φ:AF}{rest:List Oper}{dst:Option Tmp}{r:AV}:uW P ops st rest K φ dst r=cQ P ops st rest K (φ.put dst r):=rfl
theorem iU{P:Program}{g:FuncId}{args:List AV}{st:aA}{r:AV}{K:AV→Prop}(x:aD P g args st (fun r' st'=>r'=r∧st'=st))(h:K r):m9 P (.func g []) args st K:=⟨r,by show aD P g (args++ []) st _;rw[iX];exact x,h⟩
@[congr] theorem aBO {P:Program} {f f':AV} {args j9:List AV} {st st':aA} {K:AV→Prop} (h0:f=f') (h1:args=j9) (h2:st=st'):m9 P f args st K=m9 P f' j9 st' K:=by rw[h0,h1,h2]
def pO(P:Program)(ops:Array Oper)(st:aA)(K:AF→aA→Prop):Nat→List Oper→AF→Prop
 | 0,l,φ=>aJ P [] ops l K φ st
 | _+1,[],_=>False
 | n+1,o::rest,φ=>cQ P ops st [o] (pO P ops st K n rest) φ
theorem DT{P:Program}{ops:Array Oper}{st:aA}{K:AF→aA→Prop}{l:List Oper}{φ:AF}:pO P ops st K 0 l φ=aJ P [] ops l K φ st:=rfl
theorem DU{P:Program}{ops:Array Oper}{st:aA}{K:AF→aA→Prop}{n:Nat}{o:Oper}{l:List Oper}{φ:AF}:pO P ops st K (n+1) (o::l) φ=cQ P ops st [o] (pO P ops st K n l) φ:=rfl
theorem L0{P:Program}{mt:List Nat}{l:List Oper}{st:aA}{K:AF→aA→Prop}{φ:AF}:aJ P mt l.toArray l.toArray.toList K φ st=aJ P mt l.toArray l K φ st:=rfl
theorem L2{P:Program}{l:List Oper}{st:aA}{K:AF→Prop}{φ:AF}:cQ P l.toArray st l.toArray.toList K φ=cQ P l.toArray st l K φ:=rfl
theorem L3{P:Program}{n:Nat}{l:List Oper}{st:aA}{K:AF→aA→Prop}{φ:AF}:pO P l.toArray st K n l.toArray.toList φ=pO P l.toArray st K n l φ:=rfl
def U3(Q:Exit→AF→aA→Prop)(st:aA)(φ:AF):Prop:=Q .normal φ st
theorem GV{Q:Exit→AF→aA→Prop}{st:aA}{φ:AF}:U3 Q st φ=Q .normal φ st:=rfl
theorem HI:AV.junk.isAgg=false:=rfl
theorem MN:AV.junk.width=1:=rfl
theorem HZ:AV.junk.bA=true:=rfl
theorem GE:AV.junk.cells= [AV.junk]:=rfl
theorem KK:AV.junk.storable=false:=rfl
theorem HT:AV.undef.isAgg=false:=rfl
theorem MY:AV.undef.width=1:=rfl
theorem IA:AV.undef.bA=false:=rfl
theorem GP:AV.undef.cells= [AV.undef]:=rfl
theorem KU:AV.undef.storable=false:=rfl
theorem HH{k:IntKind}{n:Int}:(AV.int k n).isAgg=false:=rfl
theorem MM{k:IntKind}{n:Int}:(AV.int k n).width=1:=rfl
theorem HY{k:IntKind}{n:Int}:(AV.int k n).bA=false:=rfl
theorem GD{k:IntKind}{n:Int}:(AV.int k n).cells= [(AV.int k n)]:=rfl
theorem KJ{k:IntKind}{n:Int}:(AV.int k n).storable=true:=rfl
theorem HE{b:Bool}:(AV.bool b).isAgg=false:=rfl
theorem MJ{b:Bool}:(AV.bool b).width=1:=rfl
theorem HV{b:Bool}:(AV.bool b).bA=false:=rfl
theorem GA{b:Bool}:(AV.bool b).cells= [(AV.bool b)]:=rfl
theorem KG{b:Bool}:(AV.bool b).storable=true:=rfl
theorem HR{s:ByteArray}:(AV.str s).isAgg=false:=rfl
theorem MW{s:ByteArray}:(AV.str s).width=1:=rfl
theorem H8{s:ByteArray}:(AV.str s).bA=false:=rfl
theorem GN{s:ByteArray}:(AV.str s).cells= [(AV.str s)]:=rfl
theorem KS{s:ByteArray}:(AV.str s).storable=true:=rfl
theorem HS{vs:List AV}:(AV.tup vs).isAgg=false:=rfl
theorem MX{vs:List AV}:(AV.tup vs).width=1:=rfl
theorem H9{vs:List AV}:(AV.tup vs).bA=false:=rfl
theorem GO{vs:List AV}:(AV.tup vs).cells= [(AV.tup vs)]:=rfl
theorem KT{vs:List AV}:(AV.tup vs).storable=false:=rfl
theorem HQ{es:List AV}:(AV.slice es).isAgg=false:=rfl
theorem MV{es:List AV}:(AV.slice es).width=1:=rfl
theorem H7{es:List AV}:(AV.slice es).bA=false:=rfl
theorem GM{es:List AV}:(AV.slice es).cells= [(AV.slice es)]:=rfl
theorem KR{es:List AV}:(AV.slice es).storable=true:=rfl
theorem HF{es:List AV}:(AV.fslice es).isAgg=false:=rfl
theorem MK{es:List AV}:(AV.fslice es).width=1:=rfl
theorem HW{es:List AV}:(AV.fslice es).bA=false:=rfl
theorem GB{es:List AV}:(AV.fslice es).cells= [(AV.fslice es)]:=rfl
theorem KH{es:List AV}:(AV.fslice es).storable=true:=rfl
theorem HK{b:Nat}{o:Nat}{l:Nat}{m:Nat}:(AV.mslice b o l m).isAgg=false:=rfl
theorem MP{b:Nat}{o:Nat}{l:Nat}{m:Nat}:(AV.mslice b o l m).width=1:=rfl
theorem H1{b:Nat}{o:Nat}{l:Nat}{m:Nat}:(AV.mslice b o l m).bA=false:=rfl
theorem GG{b:Nat}{o:Nat}{l:Nat}{m:Nat}:(AV.mslice b o l m).cells= [(AV.mslice b o l m)]:=rfl
theorem KM{b:Nat}{o:Nat}{l:Nat}{m:Nat}:(AV.mslice b o l m).storable=true:=rfl
theorem HM:AV.nilptr.isAgg=false:=rfl
theorem MR:AV.nilptr.width=1:=rfl
theorem H3:AV.nilptr.bA=false:=rfl
theorem GI:AV.nilptr.cells= [AV.nilptr]:=rfl
theorem KO:AV.nilptr.storable=true:=rfl
theorem HO{b:Nat}{o:Nat}:(AV.ptr b o).isAgg=false:=rfl
theorem MT{b:Nat}{o:Nat}:(AV.ptr b o).width=1:=rfl
theorem H5{b:Nat}{o:Nat}:(AV.ptr b o).bA=false:=rfl
theorem GK{b:Nat}{o:Nat}:(AV.ptr b o).cells= [(AV.ptr b o)]:=rfl
theorem KQ{b:Nat}{o:Nat}:(AV.ptr b o).storable=true:=rfl
theorem HN{e:AV}:(AV.pptr e).isAgg=false:=rfl
theorem MS{e:AV}:(AV.pptr e).width=1:=rfl
theorem H4{e:AV}:(AV.pptr e).bA=false:=rfl
theorem GJ{e:AV}:(AV.pptr e).cells= [(AV.pptr e)]:=rfl
theorem KP{e:AV}:(AV.pptr e).storable=true:=rfl
theorem HL:AV.nilmap.isAgg=false:=rfl
theorem MQ:AV.nilmap.width=1:=rfl
theorem H2:AV.nilmap.bA=false:=rfl
theorem GH:AV.nilmap.cells= [AV.nilmap]:=rfl
theorem KN:AV.nilmap.storable=true:=rfl
theorem HJ{b:Nat}:(AV.map b).isAgg=false:=rfl
theorem MO{b:Nat}:(AV.map b).width=1:=rfl
theorem H0{b:Nat}:(AV.map b).bA=false:=rfl
theorem GF{b:Nat}:(AV.map b).cells= [(AV.map b)]:=rfl
theorem KL{b:Nat}:(AV.map b).storable=true:=rfl
theorem HG{f:FuncId}{cs:List AV}:(AV.func f cs).isAgg=false:=rfl
theorem ML{f:FuncId}{cs:List AV}:(AV.func f cs).width=1:=rfl
theorem HX{f:FuncId}{cs:List AV}:(AV.func f cs).bA=false:=rfl
theorem GC{f:FuncId}{cs:List AV}:(AV.func f cs).cells= [(AV.func f cs)]:=rfl
theorem KI{f:FuncId}{cs:List AV}:(AV.func f cs).storable=true:=rfl
theorem HP{v:Value}:(AV.raw v).isAgg=false:=rfl
theorem MU{v:Value}:(AV.raw v).width=1:=rfl
theorem H6{v:Value}:(AV.raw v).bA=false:=rfl
theorem GL{v:Value}:(AV.raw v).cells= [(AV.raw v)]:=rfl
theorem HD{cs:List AV}:(AV.agg cs).isAgg=true:=rfl
theorem MI{cs:List AV}:(AV.agg cs).width=cs.length:=rfl
theorem HU{cs:List AV}:(AV.agg cs).bA=false:=rfl
theorem F9{cs:List AV}:(AV.agg cs).cells=cs:=rfl
theorem F7:((0:Nat):Int)=0:=rfl
theorem F8{n:Nat}:((n+1:Nat):Int)=(n:Int)+1:=rfl
theorem lJ{st:aA}{b x:Nat}{o:AO}:(st.aC b o) x=if x=b then some o else st x:=rfl
theorem wrap64{n:Int}(h1: -9223372036854775808≤n)(h2:n≤9223372036854775807):IntKind.wrap .i64 n=n:=by
 rw[IntKind.wrap_i64];omega
end Go.AW
