/- Smaller stores, frozen slices, sizes, frames as lists, regions that draw. -/
import Derived.Test.YtlepdbmhjkmelaaGreatWsd
set_option linter.unusedSimpArgs false
set_option linter.unusedVariables false
set_option maxRecDepth 100000
namespace Go.AW
def aJ(st st':aA):Prop:=∀b,(st b=none→st' b=none)∧∀o,st' b=some o→st b=some o
theorem aJ.refl(st:aA):aJ st st:=fun _=>⟨id,fun _=>id⟩
theorem aJ.trans{a b c:aA}(x:aJ a b)(y:aJ b c):aJ a c:=fun i=>⟨fun h=>(y i).1 ((x i).1 h),fun o h=>(x i).2 o ((y i).2 o h)⟩
theorem aJ.aC{st st':aA}(x:aJ st st'){b:Nat}{o:AO}(h:st' b=none):aJ (st.aC b o) st':=fun i=>by
 simp only[aA.aC]
 split
 · rename_i e;subst e;exact⟨fun _=>h,fun o' h'=>by rw[h] at h';cases h'⟩
 · exact x i
theorem aJ.iP(st:aA)(b:Nat):aJ st (st.erase b):=fun i=>by
 simp only[aA.erase]
 split
 · exact⟨fun _=>rfl,fun o' h'=>by cases h'⟩
 · exact⟨id,fun _=>id⟩
theorem aJ.step{st st':aA}(x:aJ st st')(h:aZ):bL h st h st':=⟨c6 _,fun b _ e=>⟨rfl,(x b).1 e⟩,fun _ c _ _ e=>⟨c,e,rfl⟩⟩
theorem aJ.BX{st st':aA}(x:aJ st st'){h:aZ}(S:bZ h st):bZ h st':=fun b o e=>by
 obtain⟨h1,h2⟩:=S b o ((x b).2 o e)
 refine⟨h1,?_⟩
 cases o with
 | cells as=>
  obtain⟨c,t,e1,e2,vs,e3,e4⟩:=h2
  exact⟨c,t,e1,e2,vs,e3,aR.mono (x.step h) _ _ e4⟩
 | map f=>
  obtain⟨es,clock,e1,e2,e3,e4⟩:=h2
  refine⟨es,clock,e1,e2,e3,fun n=>?_⟩
  have:=e4 n
  cases hf:f n with
  | none=>rw[hf] at this;exact this
  | some a=>
   rw[hf] at this
   obtain⟨e,m,k,v⟩:=this
   exact⟨e,m,k,v.mono (x.step h)⟩
 | tab cs=>exact h2
theorem aJ.o5{st st':aA}(x:aJ st st'):wR st st':=fun h S=>⟨x.BX S,x.step h⟩
theorem aJ.mF{st st':aA}(x:aJ st st')(r:AV):s9 st r st' r:=fun h _ _ y=>y.mono (x.step h)
theorem aD.drop{P:Program}{g:FuncId}{args:List AV}{st:aA}{Q:AV→Prop}(x:aD P g args st (fun r st'=>aJ st' st∧Q r)):aD P g args st (fun r st'=>Q r∧st'=st):=
 x.mF fun r st' ⟨h1,h2⟩=>⟨r,st,h1.o5,h1.mF r,h2,rfl⟩
mutual
def AV.fz(b:Nat)(es:List AV):AV→AV
 | .mslice b' 0 n sz=>if b'=b∧n=es.length then .slice es else .mslice b' 0 n sz
 | .agg cs=>.agg (iR b es cs)
 | .tup vs=>.tup (iR b es vs)
 | a=>a
def iR(b:Nat)(es:List AV):List AV→List AV
 | []=>[]
 | a::as=>AV.fz b es a::iR b es as
end
theorem aD5(b:Nat)(es:List AV)(a:AV):(a.fz b es).isAgg=a.isAgg:=by
 cases a<;>try rfl
 case mslice b' off n sz=>
  cases off with
  | zero=>simp only[AV.fz];split<;>rfl
  | succ k=>rfl
section
variable {h:aZ} {st:aA} {b:Nat} {es:List AV}
theorem frozen(S:bZ h st)(hb:st b=some (.cells (es.flatMap AV.cells)))(hj:∀e∈es,e.bO=false):b<h.size∧cM h (st.erase b) b 0 es:=by
 obtain⟨h1,c,t,e1,e2,vs,e3,e4⟩:=S b _ hb
 exact⟨h1,cM.mono ((aJ.iP st b).step h) b rfl _ _ (zD hj e3 e4)⟩
theorem VC.aSO{b' off n sz:Nat}{cs:List Value}(S:bZ h st)(hb:st b=some (.cells (es.flatMap AV.cells)))(hj:∀e∈es,e.bO=false)(hE:gN es)(x:VC h st (.mslice b' off n sz) cs):VC h (st.erase b) ((AV.mslice b' off n sz).fz b es) cs:=by
 have x0:VC h (st.erase b) (.mslice b' off n sz) cs:=VC.mono ((aJ.iP st b).step h) _ _ x
 cases off with
 | succ k=>exact x0
 | zero=>
  simp only[AV.fz]
  split
  · rename_i e
    obtain⟨rfl,rfl⟩:=e
    simp only[VC] at x
    obtain⟨cap,e1,l1,l2,c,t,_,_⟩:=x
    obtain⟨hs,hE'⟩:=frozen S hb hj
    unfold VC
    exact .inr ⟨b',0,cap,e1,l1,l2,aA.aPQ _ _,hs,hE,hE'⟩
  · exact x0
mutual
theorem VC.fz(S:bZ h st)(hb:st b=some (.cells (es.flatMap AV.cells)))(hj:∀e∈es,e.bO=false)(hE:gN es):∀(a:AV) (cs:List Value),VC h st a cs→VC h (st.erase b) (a.fz b es) cs
 | .mslice b' off n sz,cs,x=>VC.aSO S hb hj hE x
 | .agg as,cs,x=>by simp only[VC,AV.fz] at x ⊢;exact aR.fz S hb hj hE as cs x
 | .tup as,cs,x=>by
  simp only[VC,AV.fz] at x ⊢
  obtain⟨vs,e,r⟩:=x
  exact⟨vs,e,cW.fz S hb hj hE as vs r⟩
 | .junk,cs,x=>VC.mono ((aJ.iP st b).step h) _ _ x
 | .undef,cs,x=>VC.mono ((aJ.iP st b).step h) _ _ x
 | .int _ _,cs,x=>VC.mono ((aJ.iP st b).step h) _ _ x
 | .bool _,cs,x=>VC.mono ((aJ.iP st b).step h) _ _ x
 | .str _,cs,x=>VC.mono ((aJ.iP st b).step h) _ _ x
 | .slice _,cs,x=>VC.mono ((aJ.iP st b).step h) _ _ x
 | .fslice _,cs,x=>VC.mono ((aJ.iP st b).step h) _ _ x
 | .nilptr,cs,x=>VC.mono ((aJ.iP st b).step h) _ _ x
 | .ptr _ _,cs,x=>VC.mono ((aJ.iP st b).step h) _ _ x
 | .pptr _,cs,x=>VC.mono ((aJ.iP st b).step h) _ _ x
 | .nilmap,cs,x=>VC.mono ((aJ.iP st b).step h) _ _ x
 | .map _,cs,x=>VC.mono ((aJ.iP st b).step h) _ _ x
 | .func _ _,cs,x=>VC.mono ((aJ.iP st b).step h) _ _ x
 | .raw _,cs,x=>VC.mono ((aJ.iP st b).step h) _ _ x
 | .eslice,cs,x=>VC.mono ((aJ.iP st b).step h) _ _ x
theorem aR.fz(S:bZ h st)(hb:st b=some (.cells (es.flatMap AV.cells)))(hj:∀e∈es,e.bO=false)(hE:gN es):∀(as:List AV) (cs:List Value),aR h st as cs→aR h (st.erase b) (iR b es as) cs
 | [],_,x=>x
 | a::as,cs,x=>by
  simp only[aR,iR] at x ⊢
  obtain⟨c,r,e,x1,x2⟩:=x
  exact⟨c,r,e,VC.fz S hb hj hE a [c] x1,aR.fz S hb hj hE as r x2⟩
theorem cW.fz(S:bZ h st)(hb:st b=some (.cells (es.flatMap AV.cells)))(hj:∀e∈es,e.bO=false)(hE:gN es):∀(as:List AV) (cs:List Value),cW h st as cs→cW h (st.erase b) (iR b es as) cs
 | [],_,x=>x
 | a::as,cs,x=>by
  simp only[cW,iR] at x ⊢
  obtain⟨v,r,e,x1,x2⟩:=x
  exact⟨v,r,e,⟨(aD5 b es a).trans x1.1,VC.fz S hb hj hE a _ x1.2⟩,cW.fz S hb hj hE as r x2⟩
end
theorem aL.fz{a:AV}{v:Value}(S:bZ h st)(hb:st b=some (.cells (es.flatMap AV.cells)))(hj:∀e∈es,e.bO=false)(hE:gN es)(x:aL h st a v):aL h (st.erase b) (a.fz b es) v:=by
 have key:a.isAgg=iW v∧VC h st a v.cells.toList→aL h (st.erase b) (a.fz b es) v:=fun x=>by
  have y:(a.fz b es).isAgg=iW v∧VC h (st.erase b) (a.fz b es) v.cells.toList:=⟨(aD5 b es a).trans x.1,VC.fz S hb hj hE a _ x.2⟩
  cases hq:a.fz b es<;>rw[hq] at y<;>first | trivial | exact y
 cases a<;>first | trivial | exact key x
end
theorem eP.freeze{φ:AF}{st:aA}{b:Nat}{es:List AV}(h1:st b=some (.cells (es.flatMap AV.cells)))(h2:∀e∈es,e.bO=false)(h3:gN es):eP φ st (fun d=>(φ d).fz b es) (st.erase b):=
 fun h _ S F=>⟨(aJ.iP st b).BX S,(aJ.iP st b).step h,fun d=>(F d).fz S h1 h2 h3⟩
theorem eP.drop{φ:AF}{st st':aA}(x:aJ st st'):eP φ st φ st':=fun h _ S F=>⟨x.BX S,x.step h,fun d=>(F d).mono (x.step h)⟩
mutual
def AV.soft:AV→AV
 | .fslice es=>.slice es
 | .agg cs=>.agg (fT cs)
 | .tup vs=>.tup (fT vs)
 | a=>a
def fT:List AV→List AV
 | []=>[]
 | a::as=>a.soft::fT as
end
theorem aW7(a:AV):a.soft.isAgg=a.isAgg:=by cases a<;>rfl
section
variable {h:aZ} {st:aA}
mutual
theorem VC.soft:∀(a:AV) (cs:List Value),VC h st a cs→VC h st a.soft cs
 | .fslice es,cs,x=>by
  simp only[AV.soft]
  unfold VC at x ⊢
  rcases x with x | ⟨b,off,e,l,r⟩
  · exact .inl x
  · exact .inr ⟨b,off,es.length,e,c6 _,l,r⟩
 | .agg as,cs,x=>by simp only[VC,AV.soft] at x ⊢;exact aR.soft as cs x
 | .tup as,cs,x=>by
  simp only[VC,AV.soft] at x ⊢
  obtain⟨vs,e,r⟩:=x
  exact⟨vs,e,cW.soft as vs r⟩
 | .mslice _ _ _ _,cs,x=>x
 | .junk,cs,x=>x
 | .undef,cs,x=>x
 | .int _ _,cs,x=>x
 | .bool _,cs,x=>x
 | .str _,cs,x=>x
 | .slice _,cs,x=>x
 | .nilptr,cs,x=>x
 | .ptr _ _,cs,x=>x
 | .pptr _,cs,x=>x
 | .nilmap,cs,x=>x
 | .map _,cs,x=>x
 | .func _ _,cs,x=>x
 | .raw _,cs,x=>x
 | .eslice,cs,x=>x
theorem aR.soft:∀(as:List AV) (cs:List Value),aR h st as cs→aR h st (fT as) cs
 | [],_,x=>x
 | a::as,cs,x=>by
  simp only[aR,fT] at x ⊢
  obtain⟨c,r,e,x1,x2⟩:=x
  exact⟨c,r,e,VC.soft a [c] x1,aR.soft as r x2⟩
theorem cW.soft:∀(as:List AV) (cs:List Value),cW h st as cs→cW h st (fT as) cs
 | [],_,x=>x
 | a::as,cs,x=>by
  simp only[cW,fT] at x ⊢
  obtain⟨v,r,e,x1,x2⟩:=x
  exact⟨v,r,e,⟨(aW7 a).trans x1.1,VC.soft a _ x1.2⟩,cW.soft as r x2⟩
end
theorem aL.soft{a:AV}{v:Value}(x:aL h st a v):aL h st a.soft v:=by
 cases a
 case fslice=>exact x.AK
 case agg=>exact⟨x.1,VC.soft _ _ x.2⟩
 case tup=>exact⟨x.1,VC.soft _ _ x.2⟩
 all_goals exact x
end
theorem aD.soft{P:Program}{g:FuncId}{args:List AV}{st:aA}{Q:AV→aA→Prop}(x:aD P g args st (fun r st'=>Q r.soft st')):aD P g args st Q:=
 x.mF fun r st' h=>⟨r.soft,st',(aJ.refl st').o5,fun _ _ _ y=>y.soft,h⟩
theorem aD.nY{P:Program}{g:FuncId}{args:List AV}{st:aA}{Q:AV→aA→Prop}(x:aD P g (fT args) st Q):aD P g args st Q:=
 x.args fun hp=>by
  have:∀(as:List AV) (vs:List Value),cJ hp st as vs→cJ hp st (fT as) vs:=by
   intro as
   induction as with
   | nil=>intro vs y;exact y
   | cons a as ih=>
    intro vs y
    simp only[cJ,fT] at y ⊢
    obtain⟨v,r,rfl,y1,y2⟩:=y
    exact⟨v,r,rfl,y1.soft,ih r y2⟩
  exact fun vs _=>this args vs
mutual
def AV.fits:AV→Prop
 | .str s=>s.size≤9223372036854775807
 | .agg cs=>eF cs
 | .tup vs=>eF vs
 | .slice es=>es.length≤9223372036854775807∧eF es
 | .fslice es=>es.length≤9223372036854775807∧eF es
 | .mslice _ _ n _=>n≤9223372036854775807
 | .pptr e=>e.fits
 | _=>True
def eF:List AV→Prop
 | []=>True
 | a::as=>a.fits∧eF as
end
section
variable {h:aZ} {st:aA}
mutual
theorem VC.fits:∀(a:AV) (cs:List Value),VC h st a cs→a.fits
 | .str s,cs,x=>by simp only[VC,maxLen] at x;exact x.2
 | .agg as,cs,x=>by simp only[VC,AV.fits] at x ⊢;exact aR.fits as cs x
 | .tup as,cs,x=>by
  simp only[VC,AV.fits] at x ⊢
  obtain⟨vs,e,r⟩:=x
  exact cW.fits as vs r
 | .slice es,cs,x=>by
  simp only[VC,AV.fits] at x ⊢
  rcases x with ⟨⟨p0,_⟩,rfl⟩ | ⟨b,off,cap,_,l1,l2,_,_,_,r⟩
  · exact⟨by simp,trivial⟩
  · exact⟨lL l1 l2,cM.fits es off r⟩
 | .fslice es,cs,x=>by
  simp only[VC,AV.fits] at x ⊢
  rcases x with ⟨⟨p0,_⟩,rfl⟩ | ⟨b,off,_,l1,_,_,_,r⟩
  · exact⟨by simp,trivial⟩
  · exact⟨l1,cM.fits es off r⟩
 | .mslice _ _ n _,cs,x=>by
  simp only[VC,AV.fits] at x ⊢
  obtain⟨cap,_,l1,l2,_⟩:=x
  exact lL l1 l2
 | .pptr e,cs,x=>by
  simp only[VC,AV.fits] at x ⊢
  obtain⟨b,off,_,_,_,vs,_,_,y⟩:=x
  exact VC.fits e vs y
 | .junk,cs,x=>trivial
 | .undef,cs,x=>trivial
 | .int _ _,cs,x=>trivial
 | .bool _,cs,x=>trivial
 | .nilptr,cs,x=>trivial
 | .ptr _ _,cs,x=>trivial
 | .nilmap,cs,x=>trivial
 | .map _,cs,x=>trivial
 | .func _ _,cs,x=>trivial
 | .raw _,cs,x=>trivial
 | .eslice,cs,x=>trivial
theorem aR.fits:∀(as:List AV) (cs:List Value),aR h st as cs→eF as
 | [],_,x=>trivial
 | a::as,cs,x=>by
  simp only[aR] at x
  obtain⟨c,r,e,x1,x2⟩:=x
  exact⟨VC.fits a [c] x1,aR.fits as r x2⟩
theorem cW.fits:∀(as:List AV) (cs:List Value),cW h st as cs→eF as
 | [],_,x=>trivial
 | a::as,cs,x=>by
  simp only[cW] at x
  obtain⟨v,r,e,x1,x2⟩:=x
  exact⟨VC.fits a _ x1.2,cW.fits as r x2⟩
theorem cM.fits{b:Nat}:∀(as:List AV) (off:Nat),cM h st b off as→eF as
 | [],_,x=>trivial
 | a::as,off,x=>by
  simp only[cM] at x
  obtain⟨⟨cs,_,_,x3⟩,x4⟩:=x
  exact⟨VC.fits a cs x3,cM.fits as _ x4⟩
end
theorem aL.fits{a:AV}{v:Value}(x:aL h st a v):a.fits:=by
 cases a<;>first | trivial | exact VC.fits _ _ x.2
theorem cJ.fits:∀ {as:List AV} {vs:List Value},cJ h st as vs→eF as
 | [],_,_=>trivial
 | a::as,vs,x=>by
  simp only[cJ] at x
  obtain⟨v,r,_,x1,x2⟩:=x
  exact⟨x1.fits,cJ.fits x2⟩
end
theorem zw6{P:Program}{g:FuncId}{fn:Func}{c:Code}{args:List AV}{st:aA}{N:Nat}{rs:List ResultVar}{K:AV→aA→Prop}(mt:List Nat)(hf:P.funcs[g]?=some fn)(hN:fn.ntmps=N)(hr:fn.results=rs.toArray)(hb:fn.body=some c)(hn:(fn.name == "runtime.NumGoroutine")=false)
 (hok:codeOk N c=true) (oR:args.length≤N) (e:eF args→eL P N mt c (BS P rs.toArray K) (pI 0 args) st):aD P g args st K:=by
 subst hN
 rw[←hr] at e
 exact⟨⟨fn,hf,by simp [hb],hn⟩,fun w vs S V=>(aKM mt hf hb hn hok oR (e V.fits)).2 w vs S V⟩
def iQ:List (Nat×AV)→AF
 | []=>AF.bot
 | (d,v)::l=>(iQ l).aC d v
def xL(φ:AF):List (Nat×AV)→Prop
 | []=>True
 | (d,v)::l=>φ d=v∧xL φ l
theorem eP.iQ{φ:AF}{st:aA}:∀ {l:List (Nat×AV)},xL φ l→eP φ st (iQ l) st
 | [],_=>eP.bot φ st
 | (d,v)::l,h=>(eP.iQ h.2).aC h.1
theorem X1{φ:AF}:xL φ []=True:=rfl
theorem X2{φ:AF}{d:Nat}{v:AV}{l:List (Nat×AV)}:xL φ ((d,v)::l)=(φ d=v∧xL φ l):=rfl
theorem aD.to{P:Program}{g:FuncId}{args:List AV}{st:aA}{r:AV}{K:AV→aA→Prop}(x:aD P g args st (fun r' st'=>r'=r∧st'=st))(h:K r st):aD P g args st K:=
 x.mono fun _ _ ⟨e1,e2⟩=>by rw[e1,e2];exact h
theorem qL{P:Program}{N:Nat}(mt:List Nat){c:Code}{Q:Exit→AF→aA→Prop}{φ:AF}{st:aA}(hok:codeOk N c=true)(e:eL P N mt c Q φ st):d8 P N c Q φ st:=wS c Q φ st hok e
def tZ(l:List (Nat×AV)):AF:=iQ l
theorem XV:tZ []=AF.bot:=rfl
theorem XU{d:Nat}{v:AV}{l:List (Nat×AV)}:tZ ((d,v)::l)=(tZ l).aC d v:=rfl
def aP(φ:AF)(st:aA)(l:List (Nat×AV))(st':aA):Prop:=eP φ st (iQ l) st'
theorem aP.mk{φ:AF}{st:aA}{l:List (Nat×AV)}(h:xL φ l):aP φ st l st:=eP.iQ h
theorem aP.drop{φ:AF}{st st':aA}{l:List (Nat×AV)}(d:aJ st st')(h:xL φ l):aP φ st l st':=(eP.drop d).trans (eP.iQ h)
theorem CN{P:Program}{N:Nat}{c:Code}{Q:Exit→AF→aA→Prop}{φ:AF}{st:aA}{α:Type}(mt:List Nat)(inv:α→Prop)(fl:α→List (Nat×AV))(so:α→aA)(μ:α→Nat)(hok:codeOk N c=true)
 (h0:∃s,inv s∧aP φ st (fl s) (so s))
 (h1:∀s,inv s→eL P N mt c (nS (fun φ' st'=>∃s',μ s'<μ s∧inv s'∧aP φ' st' (fl s') (so s')) Q) (tZ (fl s)) (so s)):d8 P N (.loop c) Q φ st:=
 KY inv (fun s=>iQ (fl s)) so μ h0 fun s hs=>qL mt hok (h1 s hs)
theorem c5{P:Program}{mt:List Nat}{ops:Array Oper}{o:Oper}{l:List Oper}{K:AF→aA→Prop}{φ:AF}{st:aA}{c want:Bool}
 (h1:c=want→uJ P mt ops o l K φ st (some true)) (h2:c=(!want)→uJ P mt ops o l K φ st (some false)):uJ P mt ops o l K φ st (some (c == want)):=by
 cases c<;>cases want<;>first | exact h1 rfl | exact h2 rfl
def iY(o:Oper):Bool:=match o.op with
 | .call { callee:=.value _,.. }=>false
 | .call { callee:=.builtin .append,.. }=>false
 | .call { callee:=.builtin .delete,.. }=>false
 | .call { callee:=.builtin .clear,.. }=>false
 | .alloc _=>false
 | .store _ _ _=>false
 | .makeMap _ none=>false
 | .makeSlice _ _ _=>false
 | .mapUpdate _ _ _ _=>false
 | _=>true
theorem qK{P:Program}{φ:AF}{st:aA}{o:Oper}{K:AV→aA→Prop}(h:iY o=true):dZ P [] φ st o K=match j6 P φ st o with | some r=>K r st | none=>False:=by
 obtain⟨dst,op,type,pos,after,guard⟩:=o
 unfold dZ
 split
 case h_5 t x e=>
  simp only at e
  subst e
  simp only[yV,List.contains_nil,j6]
  cases dst<;>rfl
 case h_11=>rfl
 all_goals (rename_i e;simp only at e;subst e;simp [iY] at h)
def dU(P:Program)(ops:Array Oper)(st:aA):List Oper→(AF→Prop)→AF→Prop
 | [],K,φ=>K φ
 | o::rest,K,φ=>if iY o=true then aT P [] ops [o] (fun φ' _=>dU P ops st rest K φ') φ st else
  match o.guard,o.op with
  | none,.call { callee:=.value f,args,.. }=>∃r,qN P (φ.eval f) (args.toList.map φ.eval) st (fun r' st'=>r'=r∧st'=st)∧dU P ops st rest K (φ.put o.dst r)
  | _,_=>False
theorem DG{P:Program}{ops:Array Oper}{st:aA}{K:AF→Prop}:∀(l:List Oper) (φ:AF),dU P ops st l K φ→oG P st ops l K φ
 | [],_,h=>h
 | o::rest,φ,h=>by
  simp only[dU] at h
  split at h
  · rename_i hp
    simp only[aT] at h
    simp only[oG]
    split at h
    · rename_i hg
      rw[qK hp] at h
      rw[hg]
      simp only
      split at h
      · rename_i r hr
        exact⟨r,by rw[qK hp,hr];exact⟨rfl,rfl⟩,DG rest _ h⟩
      · cases h
    · rename_i hg
      rw[hg]
      exact DG rest _ h
    · cases h
  · split at h
    · rename_i f args ats hg ho
      obtain⟨r,h1,h2⟩:=h
      simp only[oG,gP,hg]
      refine⟨r,?_,DG rest _ h2⟩
      simp only[dZ,ho]
      exact h1
    · cases h
theorem TG{P:Program}{ops:Array Oper}{st:aA}{K:AF→Prop}{φ:AF}:dU P ops st [] K φ=K φ:=rfl
def hK(P:Program)(ops:Array Oper)(st:aA)(rest:List Oper)(K:AF→Prop)(φ:AF)(_:aA):Prop:=dU P ops st rest K φ
theorem X0{P:Program}{ops:Array Oper}{st st':aA}{K:AF→Prop}{φ:AF}{rest:List Oper}:hK P ops st rest K φ st'=dU P ops st rest K φ:=rfl
theorem jJ{P:Program}{ops:Array Oper}{st:aA}{K:AF→Prop}{φ:AF}{o:Oper}{rest:List Oper}(h:iY o=true):dU P ops st (o::rest) K φ=aT P [] ops [o] (hK P ops st rest K) φ st:=by
 simp [dU,h]
 rfl
def vH(P:Program)(f:AV)(args:List AV)(st:aA)(K:AV→Prop):Prop:=∃r,qN P f args st (fun r' st'=>r'=r∧st'=st)∧K r
def H1(P:Program)(ops:Array Oper)(st:aA)(rest:List Oper)(K:AF→Prop)(φ:AF)(dst:Option Tmp)(r:AV):Prop:=dU P ops st rest K (φ.put dst r)
theorem aJS{P:Program}{ops:Array Oper}{st:aA}{K:AF→Prop}{φ:AF}{rest:List Oper}{dst:Option Tmp}{f:Operand}{args:List Operand}{ats:Array TypeId}{type:TypeId}{pos:String}{after:Array Edge} :
 dU P ops st (⟨dst,.call { callee:=.value f,args:=args.toArray,argTypes:=ats },type,pos,after,none⟩::rest) K φ=vH P (φ.eval f) (args.map φ.eval) st (H1 P ops st rest K φ dst):=by
 simp [dU,iY,vH,H1]
section
variable {P:Program} {ops:Array Oper} {st:aA} {K:AF→Prop} {φ:AF} {rest:List Oper} {dst:Option Tmp} {type:TypeId} {pos:String} {after:Array Edge} {g:Option (Nat×Bool)}
theorem T8{f:Operand}{args:List Operand}{ats:Array TypeId} :
 dU P ops st (⟨dst,.call { callee:=.value f,args:=args.toArray,argTypes:=ats },type,pos,after,none⟩::rest) K φ=vH P (φ.eval f) (args.map φ.eval) st (H1 P ops st rest K φ dst):=aJS
theorem TH{x:Operand}:dU P ops st (⟨dst,.move x,type,pos,after,g⟩::rest) K φ=aT P [] ops [⟨dst,.move x,type,pos,after,g⟩] (hK P ops st rest K) φ st:=jJ rfl
theorem TU{x:Operand}:dU P ops st (⟨dst,.assign x,type,pos,after,g⟩::rest) K φ=aT P [] ops [⟨dst,.assign x,type,pos,after,g⟩] (hK P ops st rest K) φ st:=jJ rfl
theorem TV{c x y:Operand}:dU P ops st (⟨dst,.pick c x y,type,pos,after,g⟩::rest) K φ=aT P [] ops [⟨dst,.pick c x y,type,pos,after,g⟩] (hK P ops st rest K) φ st:=jJ rfl
theorem TW{op:BinOp}{t t':TypeId}{x y:Operand}:dU P ops st (⟨dst,.binOp op t x y t',type,pos,after,g⟩::rest) K φ=aT P [] ops [⟨dst,.binOp op t x y t',type,pos,after,g⟩] (hK P ops st rest K) φ st:=jJ rfl
theorem TX{op:UnOp}{t:TypeId}{x:Operand}:dU P ops st (⟨dst,.unOp op t x,type,pos,after,g⟩::rest) K φ=aT P [] ops [⟨dst,.unOp op t x,type,pos,after,g⟩] (hK P ops st rest K) φ st:=jJ rfl
theorem TY{x:Operand}:dU P ops st (⟨dst,.nilCheck x,type,pos,after,g⟩::rest) K φ=aT P [] ops [⟨dst,.nilCheck x,type,pos,after,g⟩] (hK P ops st rest K) φ st:=jJ rfl
theorem TZ{t f:Nat}{x:Operand}:dU P ops st (⟨dst,.fieldAddr t x f,type,pos,after,g⟩::rest) K φ=aT P [] ops [⟨dst,.fieldAddr t x f,type,pos,after,g⟩] (hK P ops st rest K) φ st:=jJ rfl
theorem T0{t:TypeId}{x:Operand}:dU P ops st (⟨dst,.load t x,type,pos,after,g⟩::rest) K φ=aT P [] ops [⟨dst,.load t x,type,pos,after,g⟩] (hK P ops st rest K) φ st:=jJ rfl
theorem T6{t f:Nat}{x:Operand}:dU P ops st (⟨dst,.field t x f,type,pos,after,g⟩::rest) K φ=aT P [] ops [⟨dst,.field t x f,type,pos,after,g⟩] (hK P ops st rest K) φ st:=jJ rfl
theorem TI{t:TypeId}{x i:Operand}:dU P ops st (⟨dst,.indexAddr t x i,type,pos,after,g⟩::rest) K φ=aT P [] ops [⟨dst,.indexAddr t x i,type,pos,after,g⟩] (hK P ops st rest K) φ st:=jJ rfl
theorem TJ{t:TypeId}{x i:Operand}:dU P ops st (⟨dst,.index t x i,type,pos,after,g⟩::rest) K φ=aT P [] ops [⟨dst,.index t x i,type,pos,after,g⟩] (hK P ops st rest K) φ st:=jJ rfl
theorem TK{t:TypeId}{x:Operand}{lo hi mx:Option Operand}:dU P ops st (⟨dst,.slice t x lo hi mx,type,pos,after,g⟩::rest) K φ=aT P [] ops [⟨dst,.slice t x lo hi mx,type,pos,after,g⟩] (hK P ops st rest K) φ st:=jJ rfl
theorem TL{x:Operand}{i:Nat}:dU P ops st (⟨dst,.extract x i,type,pos,after,g⟩::rest) K φ=aT P [] ops [⟨dst,.extract x i,type,pos,after,g⟩] (hK P ops st rest K) φ st:=jJ rfl
theorem TM{t:TypeId}{ps:Array (Nat×Operand)}:dU P ops st (⟨dst,.build t ps,type,pos,after,g⟩::rest) K φ=aT P [] ops [⟨dst,.build t ps,type,pos,after,g⟩] (hK P ops st rest K) φ st:=jJ rfl
theorem TN{t:TypeId}{n:Nat}{ps:Array (Nat×Operand)}:dU P ops st (⟨dst,.buildSlice t n ps,type,pos,after,g⟩::rest) K φ=aT P [] ops [⟨dst,.buildSlice t n ps,type,pos,after,g⟩] (hK P ops st rest K) φ st:=jJ rfl
theorem TO{t u:TypeId}{x:Operand}:dU P ops st (⟨dst,.convert t u x,type,pos,after,g⟩::rest) K φ=aT P [] ops [⟨dst,.convert t u x,type,pos,after,g⟩] (hK P ops st rest K) φ st:=jJ rfl
theorem TP{t:TypeId}{x i:Operand}{ok:Bool}:dU P ops st (⟨dst,.lookup t x i ok,type,pos,after,g⟩::rest) K φ=aT P [] ops [⟨dst,.lookup t x i ok,type,pos,after,g⟩] (hK P ops st rest K) φ st:=jJ rfl
theorem TQ{x:Operand}{t:TypeId}:dU P ops st (⟨dst,.call { callee:=.builtin .len,args:=#[x],argTypes:=#[t] },type,pos,after,g⟩::rest) K φ=aT P [] ops [⟨dst,.call { callee:=.builtin .len,args:=#[x],argTypes:=#[t] },type,pos,after,g⟩] (hK P ops st rest K) φ st:=jJ rfl
theorem TR{x:Operand}{t:TypeId}:dU P ops st (⟨dst,.call { callee:=.builtin .cap,args:=#[x],argTypes:=#[t] },type,pos,after,g⟩::rest) K φ=aT P [] ops [⟨dst,.call { callee:=.builtin .cap,args:=#[x],argTypes:=#[t] },type,pos,after,g⟩] (hK P ops st rest K) φ st:=jJ rfl
theorem TS{x y:Operand}{ts:Array TypeId}:dU P ops st (⟨dst,.call { callee:=.builtin .max,args:=#[x,y],argTypes:=ts },type,pos,after,g⟩::rest) K φ=aT P [] ops [⟨dst,.call { callee:=.builtin .max,args:=#[x,y],argTypes:=ts },type,pos,after,g⟩] (hK P ops st rest K) φ st:=jJ rfl
theorem TT{x y:Operand}{ts:Array TypeId}:dU P ops st (⟨dst,.call { callee:=.builtin .min,args:=#[x,y],argTypes:=ts },type,pos,after,g⟩::rest) K φ=aT P [] ops [⟨dst,.call { callee:=.builtin .min,args:=#[x,y],argTypes:=ts },type,pos,after,g⟩] (hK P ops st rest K) φ st:=jJ rfl
end
theorem T7{P:Program}{ops:Array Oper}{st:aA}{K:AF→Prop}{φ:AF}{rest:List Oper}{dst:Option Tmp}{r:AV}:H1 P ops st rest K φ dst r=dU P ops st rest K (φ.put dst r):=rfl
theorem iK{P:Program}{g:FuncId}{args:List AV}{st:aA}{r:AV}{K:AV→Prop}(x:aD P g args st (fun r' st'=>r'=r∧st'=st))(h:K r):vH P (.func g []) args st K:=⟨r,by show aD P g (args++ []) st _;rw[gI];exact x,h⟩
@[congr] theorem aZP {P:Program} {ops:Array Oper} {l:List Oper} {K:AF→Prop} {φ φ':AF} {st st':aA} (h1:φ=φ') (h2:st=st'):dU P ops st l K φ=dU P ops st' l K φ':=by rw[h1,h2]
@[congr] theorem aZV {P:Program} {f f':AV} {args args':List AV} {st st':aA} {K:AV→Prop} (h0:f=f') (h1:args=args') (h2:st=st'):vH P f args st K=vH P f' args' st' K:=by rw[h0,h1,h2]
def M0(ops:Array Oper):Nat:=(ops.toList.findIdx fun o=> !iY o)
theorem aK9{P:Program}{st:aA}{N:Nat}{id:Nat}{ops:Array Oper}{Q:Exit→AF→aA→Prop}{φ:AF}(hm:P.follows .mixedOrders=true)(hok:nV N ops=true)(hB:Region.lexTailB .any ops (M0 ops)=true)
 (h:aT P [] ops ops.toList (Q .normal) φ st):d8 P N (.region id ops true) Q φ st:=by
 refine aK7 (M0 ops) hm hok hB (DG _ _ ?_)
 have key:∀(l1 l2:List Oper) (φ:AF),(∀o∈l1,iY o=true)→aT P [] ops (l1++l2) (Q .normal) φ st→dU P ops st l1 (fun φ'=>aT P [] ops l2 (Q .normal) φ' st) φ:=by
  intro l1
  induction l1 with
  | nil=>intro l2 φ _ h;exact h
  | cons o l1 ih=>
   intro l2 φ hp h
   have ho:=hp o (by simp)
   have hr:∀o∈l1,iY o=true:=fun o h=>hp o (by simp [h])
   simp only[dU,ho,fQ,aT]
   simp only[gO,aT] at h
   split at h
   · rename_i hg
     rw[qK ho] at h
     rw[qK ho]
     split at h
     · rename_i hr2
       first | rw[hr2] | skip
       exact ih l2 _ hr h
     · cases h
   · exact ih l2 _ hr h
   · cases h
 refine key _ _ φ (fun o ho=>?_) (by rw[y7];exact h)
 obtain⟨i,hi,rfl⟩:=List.getElem_of_mem ho
 rw[dE] at hi
 have h2:=List.not_of_lt_findIdx (p:=fun o=> !iY o) (xs:=ops.toList) (i:=i) (by have:M0 ops=ops.toList.findIdx (fun o=> !iY o):=rfl;omega)
 simpa using h2
def zP(P:Program)(ops:Array Oper)(st:aA)(K:AF→aA→Prop):Nat→List Oper→AF→Prop
 | 0,l,φ=>aT P [] ops l K φ st
 | _+1,[],_=>False
 | n+1,o::rest,φ=>dU P ops st [o] (zP P ops st K n rest) φ
theorem UA{P:Program}{ops:Array Oper}{st:aA}{K:AF→aA→Prop}{l:List Oper}{φ:AF}:zP P ops st K 0 l φ=aT P [] ops l K φ st:=rfl
theorem UB{P:Program}{ops:Array Oper}{st:aA}{K:AF→aA→Prop}{n:Nat}{o:Oper}{l:List Oper}{φ:AF}:zP P ops st K (n+1) (o::l) φ=dU P ops st [o] (zP P ops st K n l) φ:=rfl
theorem aCQ{P:Program}{mt:List Nat}{l:List Oper}{st:aA}{K:AF→aA→Prop}{φ:AF}:aT P mt l.toArray l.toArray.toList K φ st=aT P mt l.toArray l K φ st:=rfl
theorem aCR{P:Program}{l:List Oper}{st:aA}{K:AF→Prop}{φ:AF}:dU P l.toArray st l.toArray.toList K φ=dU P l.toArray st l K φ:=rfl
theorem aCS{P:Program}{n:Nat}{l:List Oper}{st:aA}{K:AF→aA→Prop}{φ:AF}:zP P l.toArray st K n l.toArray.toList φ=zP P l.toArray st K n l φ:=rfl
def TC(Q:Exit→AF→aA→Prop)(st:aA)(φ:AF):Prop:=Q .normal φ st
theorem XL{Q:Exit→AF→aA→Prop}{st:aA}{φ:AF}:TC Q st φ=Q .normal φ st:=rfl
theorem KX{P:Program}{st:aA}{N:Nat}{id:Nat}{ops:Array Oper}{Q:Exit→AF→aA→Prop}{φ:AF}(hm:P.follows .mixedOrders=true)(hok:nV N ops=true)(hB:Region.lexB .any ops=true)
 (h:dU P ops st ops.toList (TC Q st) φ):d8 P N (.region id ops true) Q φ st:=
 aK8 hm hok hB (DG _ _ h)
theorem X9:AV.junk.isAgg=false:=rfl
theorem aDC:AV.junk.width=1:=rfl
theorem YQ:AV.junk.bO=true:=rfl
theorem W4:AV.junk.cells= [AV.junk]:=rfl
theorem aA9:AV.junk.storable=false:=rfl
theorem YK:AV.undef.isAgg=false:=rfl
theorem aDN:AV.undef.width=1:=rfl
theorem Y1:AV.undef.bO=false:=rfl
theorem XF:AV.undef.cells= [AV.undef]:=rfl
theorem aBJ:AV.undef.storable=false:=rfl
theorem X8{k:IntKind}{n:Int}:(AV.int k n).isAgg=false:=rfl
theorem aDB{k:IntKind}{n:Int}:(AV.int k n).width=1:=rfl
theorem YP{k:IntKind}{n:Int}:(AV.int k n).bO=false:=rfl
theorem W3{k:IntKind}{n:Int}:(AV.int k n).cells= [(AV.int k n)]:=rfl
theorem aA8{k:IntKind}{n:Int}:(AV.int k n).storable=true:=rfl
theorem X5{b:Bool}:(AV.bool b).isAgg=false:=rfl
theorem aC8{b:Bool}:(AV.bool b).width=1:=rfl
theorem YM{b:Bool}:(AV.bool b).bO=false:=rfl
theorem W0{b:Bool}:(AV.bool b).cells= [(AV.bool b)]:=rfl
theorem aA5{b:Bool}:(AV.bool b).storable=true:=rfl
theorem YI{s:ByteArray}:(AV.str s).isAgg=false:=rfl
theorem aDL{s:ByteArray}:(AV.str s).width=1:=rfl
theorem YZ{s:ByteArray}:(AV.str s).bO=false:=rfl
theorem XD{s:ByteArray}:(AV.str s).cells= [(AV.str s)]:=rfl
theorem aBH{s:ByteArray}:(AV.str s).storable=true:=rfl
theorem YJ{vs:List AV}:(AV.tup vs).isAgg=false:=rfl
theorem aDM{vs:List AV}:(AV.tup vs).width=1:=rfl
theorem Y0{vs:List AV}:(AV.tup vs).bO=false:=rfl
theorem XE{vs:List AV}:(AV.tup vs).cells= [(AV.tup vs)]:=rfl
theorem aBI{vs:List AV}:(AV.tup vs).storable=false:=rfl
theorem YH{es:List AV}:(AV.slice es).isAgg=false:=rfl
theorem aDK{es:List AV}:(AV.slice es).width=1:=rfl
theorem YY{es:List AV}:(AV.slice es).bO=false:=rfl
theorem XC{es:List AV}:(AV.slice es).cells= [(AV.slice es)]:=rfl
theorem aBG{es:List AV}:(AV.slice es).storable=true:=rfl
theorem X6{es:List AV}:(AV.fslice es).isAgg=false:=rfl
theorem aC9{es:List AV}:(AV.fslice es).width=1:=rfl
theorem YN{es:List AV}:(AV.fslice es).bO=false:=rfl
theorem W1{es:List AV}:(AV.fslice es).cells= [(AV.fslice es)]:=rfl
theorem aA6{es:List AV}:(AV.fslice es).storable=true:=rfl
theorem YB{b:Nat}{o:Nat}{l:Nat}{m:Nat}:(AV.mslice b o l m).isAgg=false:=rfl
theorem aDE{b:Nat}{o:Nat}{l:Nat}{m:Nat}:(AV.mslice b o l m).width=1:=rfl
theorem YS{b:Nat}{o:Nat}{l:Nat}{m:Nat}:(AV.mslice b o l m).bO=false:=rfl
theorem W6{b:Nat}{o:Nat}{l:Nat}{m:Nat}:(AV.mslice b o l m).cells= [(AV.mslice b o l m)]:=rfl
theorem aBB{b:Nat}{o:Nat}{l:Nat}{m:Nat}:(AV.mslice b o l m).storable=true:=rfl
theorem YD:AV.nilptr.isAgg=false:=rfl
theorem aDG:AV.nilptr.width=1:=rfl
theorem YU:AV.nilptr.bO=false:=rfl
theorem W8:AV.nilptr.cells= [AV.nilptr]:=rfl
theorem aBD:AV.nilptr.storable=true:=rfl
theorem YF{b:Nat}{o:Nat}:(AV.ptr b o).isAgg=false:=rfl
theorem aDI{b:Nat}{o:Nat}:(AV.ptr b o).width=1:=rfl
theorem YW{b:Nat}{o:Nat}:(AV.ptr b o).bO=false:=rfl
theorem XA{b:Nat}{o:Nat}:(AV.ptr b o).cells= [(AV.ptr b o)]:=rfl
theorem aBF{b:Nat}{o:Nat}:(AV.ptr b o).storable=true:=rfl
theorem YE{e:AV}:(AV.pptr e).isAgg=false:=rfl
theorem aDH{e:AV}:(AV.pptr e).width=1:=rfl
theorem YV{e:AV}:(AV.pptr e).bO=false:=rfl
theorem W9{e:AV}:(AV.pptr e).cells= [(AV.pptr e)]:=rfl
theorem aBE{e:AV}:(AV.pptr e).storable=true:=rfl
theorem YC:AV.nilmap.isAgg=false:=rfl
theorem aDF:AV.nilmap.width=1:=rfl
theorem YT:AV.nilmap.bO=false:=rfl
theorem W7:AV.nilmap.cells= [AV.nilmap]:=rfl
theorem aBC:AV.nilmap.storable=true:=rfl
theorem YA{b:Nat}:(AV.map b).isAgg=false:=rfl
theorem aDD{b:Nat}:(AV.map b).width=1:=rfl
theorem YR{b:Nat}:(AV.map b).bO=false:=rfl
theorem W5{b:Nat}:(AV.map b).cells= [(AV.map b)]:=rfl
theorem aBA{b:Nat}:(AV.map b).storable=true:=rfl
theorem X7{f:FuncId}{cs:List AV}:(AV.func f cs).isAgg=false:=rfl
theorem aDA{f:FuncId}{cs:List AV}:(AV.func f cs).width=1:=rfl
theorem YO{f:FuncId}{cs:List AV}:(AV.func f cs).bO=false:=rfl
theorem W2{f:FuncId}{cs:List AV}:(AV.func f cs).cells= [(AV.func f cs)]:=rfl
theorem aA7{f:FuncId}{cs:List AV}:(AV.func f cs).storable=true:=rfl
theorem YG{v:Value}:(AV.raw v).isAgg=false:=rfl
theorem aDJ{v:Value}:(AV.raw v).width=1:=rfl
theorem YX{v:Value}:(AV.raw v).bO=false:=rfl
theorem XB{v:Value}:(AV.raw v).cells= [(AV.raw v)]:=rfl
theorem X3{cs:List AV}:(AV.agg cs).isAgg=true:=rfl
theorem aC7{cs:List AV}:(AV.agg cs).width=cs.length:=rfl
theorem YL{cs:List AV}:(AV.agg cs).bO=false:=rfl
theorem WZ{cs:List AV}:(AV.agg cs).cells=cs:=rfl
theorem WX:((0:Nat):Int)=0:=rfl
theorem WY{n:Nat}:((n+1:Nat):Int)=(n:Int)+1:=rfl
theorem n6{st:aA}{b x:Nat}{o:AO}:(st.aC b o) x=if x=b then some o else st x:=rfl
theorem wrap64{n:Int}(h1: -9223372036854775808≤n)(h2:n≤9223372036854775807):IntKind.wrap .i64 n=n:=by
 rw[IntKind.wrap_i64];omega
end Go.AW
