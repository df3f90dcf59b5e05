/- Smaller stores, frozen slices, sizes, frames as lists, regions that draw. -/
import Derived.Test.YtlepdbmhjkmelaaGreatDoorWqd
set_option linter.unusedSimpArgs false
set_option linter.unusedVariables false
set_option maxRecDepth 100000
namespace Go.AW
def aO(st st':aA):Prop:=∀b,(st b=none→st' b=none)∧∀o,st' b=some o→st b=some o
theorem aO.refl(st:aA):aO st st:=fun _=>⟨id,fun _=>id⟩
theorem aO.trans{a b c:aA}(x:aO a b)(y:aO b c):aO a c:=fun i=>⟨fun h=>(y i).1 ((x i).1 h),fun o h=>(x i).2 o ((y i).2 o h)⟩
theorem aO.aC{st st':aA}(x:aO st st'){b:Nat}{o:AO}(h:st' b=none):aO (st.aC b o) st':=fun i=>by
 simp only[aA.aC]
 split
 · rename_i e;subst e;exact⟨fun _=>h,fun o' h'=>by rw[h] at h';cases h'⟩
 · exact x i
theorem jD(st:aA)(b:Nat):aO st (st.erase b):=fun i=>by
 simp only[aA.erase]
 split
 · exact⟨fun _=>rfl,fun o' h'=>by cases h'⟩
 · exact⟨id,fun _=>id⟩
theorem aO.step{st st':aA}(x:aO st st')(h:bE):bT h st h st':=⟨cZ _,fun b _ e=>⟨rfl,(x b).1 e⟩,fun _ c _ _ e=>⟨c,e,rfl⟩⟩
theorem aO.IE{st st':aA}(x:aO st st'){h:bE}(S:cK h st):cK h st':=fun b o e=>by
 obtain⟨h1,h2⟩:=S b o ((x b).2 o e)
 refine⟨h1,?_⟩
 cases o with
 | cells as=>
  obtain⟨c,t,e1,e2,vs,e3,e4⟩:=h2
  exact⟨c,t,e1,e2,vs,e3,aY.mono (x.step h) _ _ e4⟩
 | map f=>
  obtain⟨es,clock,e1,e2,e3,e4⟩:=h2
  refine⟨es,clock,e1,e2,e3,fun n=>?_⟩
  have:=e4 n
  cases hf:f n with
  | none=>rw[hf] at this;exact this
  | some a=>
   rw[hf] at this
   obtain⟨e,m,k,v⟩:=this
   exact⟨e,m,k,v.mono (x.step h)⟩
 | tab cs=>exact h2
theorem aO.uV{st st':aA}(x:aO st st'):F0 st st':=fun h S=>⟨x.IE S,x.step h⟩
theorem aO.lN{st st':aA}(x:aO st st')(r:AV):WI st r st' r:=fun h _ _ y=>y.mono (x.step h)
theorem aD.drop{P:Program}{g:FuncId}{args:List AV}{st:aA}{Q:AV→Prop}(x:aD P g args st (fun r st'=>aO st' st∧Q r)):aD P g args st (fun r st'=>Q r∧st'=st):=
 x.lN fun r st' ⟨h1,h2⟩=>⟨r,st,h1.uV,h1.lN r,h2,rfl⟩
mutual
def AV.fz(b:Nat)(es:List AV):AV→AV
 | .mslice b' 0 n sz=>if b'=b∧n=es.length then .slice es else .mslice b' 0 n sz
 | .agg cs=>.agg (kK b es cs)
 | .tup vs=>.tup (kK b es vs)
 | a=>a
def kK(b:Nat)(es:List AV):List AV→List AV
 | []=>[]
 | a::as=>AV.fz b es a::kK b es as
end
theorem aKK(b:Nat)(es:List AV)(a:AV):(a.fz b es).isAgg=a.isAgg:=by
 cases a<;>try rfl
 case mslice b' off n sz=>
  cases off with
  | zero=>simp only[AV.fz];split<;>rfl
  | succ k=>rfl
section
variable {h:bE} {st:aA} {b:Nat} {es:List AV}
theorem frozen(S:cK h st)(hb:st b=some (.cells (es.flatMap AV.cells)))(hj:∀e∈es,e.bV=false):b<h.size∧cW h (st.erase b) b 0 es:=by
 obtain⟨h1,c,t,e1,e2,vs,e3,e4⟩:=S b _ hb
 exact⟨h1,cW.mono ((jD st b).step h) b rfl _ _ (CH hj e3 e4)⟩
theorem VC.a10{b' off n sz:Nat}{cs:List Value}(S:cK h st)(hb:st b=some (.cells (es.flatMap AV.cells)))(hj:∀e∈es,e.bV=false)(hE:jU es)(x:VC h st (.mslice b' off n sz) cs):VC h (st.erase b) ((AV.mslice b' off n sz).fz b es) cs:=by
 have x0:VC h (st.erase b) (.mslice b' off n sz) cs:=VC.mono ((jD st b).step h) _ _ x
 cases off with
 | succ k=>exact x0
 | zero=>
  simp only[AV.fz]
  split
  · rename_i e
    obtain⟨rfl,rfl⟩:=e
    simp only[VC] at x
    obtain⟨cap,e1,l1,l2,c,t,_,_⟩:=x
    obtain⟨hs,hE'⟩:=frozen S hb hj
    unfold VC
    exact .inr ⟨b',0,cap,e1,l1,l2,aA.Z5 _ _,hs,hE,hE'⟩
  · exact x0
mutual
theorem VC.fz(S:cK h st)(hb:st b=some (.cells (es.flatMap AV.cells)))(hj:∀e∈es,e.bV=false)(hE:jU es):∀(a:AV) (cs:List Value),VC h st a cs→VC h (st.erase b) (a.fz b es) cs
 | .mslice b' off n sz,cs,x=>VC.a10 S hb hj hE x
 | .agg as,cs,x=>by simp only[VC,AV.fz] at x ⊢;exact aY.fz S hb hj hE as cs x
 | .tup as,cs,x=>by
  simp only[VC,AV.fz] at x ⊢
  obtain⟨vs,e,r⟩:=x
  exact⟨vs,e,d8.fz S hb hj hE as vs r⟩
 | .junk,cs,x=>VC.mono ((jD st b).step h) _ _ x
 | .undef,cs,x=>VC.mono ((jD st b).step h) _ _ x
 | .int _ _,cs,x=>VC.mono ((jD st b).step h) _ _ x
 | .bool _,cs,x=>VC.mono ((jD st b).step h) _ _ x
 | .str _,cs,x=>VC.mono ((jD st b).step h) _ _ x
 | .slice _,cs,x=>VC.mono ((jD st b).step h) _ _ x
 | .fslice _,cs,x=>VC.mono ((jD st b).step h) _ _ x
 | .nilptr,cs,x=>VC.mono ((jD st b).step h) _ _ x
 | .ptr _ _,cs,x=>VC.mono ((jD st b).step h) _ _ x
 | .pptr _,cs,x=>VC.mono ((jD st b).step h) _ _ x
 | .nilmap,cs,x=>VC.mono ((jD st b).step h) _ _ x
 | .map _,cs,x=>VC.mono ((jD st b).step h) _ _ x
 | .func _ _,cs,x=>VC.mono ((jD st b).step h) _ _ x
 | .raw _,cs,x=>VC.mono ((jD st b).step h) _ _ x
 | .eslice,cs,x=>VC.mono ((jD st b).step h) _ _ x
theorem aY.fz(S:cK h st)(hb:st b=some (.cells (es.flatMap AV.cells)))(hj:∀e∈es,e.bV=false)(hE:jU es):∀(as:List AV) (cs:List Value),aY h st as cs→aY h (st.erase b) (kK b es as) cs
 | [],_,x=>x
 | a::as,cs,x=>by
  simp only[aY,kK] at x ⊢
  obtain⟨c,r,e,x1,x2⟩:=x
  exact⟨c,r,e,VC.fz S hb hj hE a [c] x1,aY.fz S hb hj hE as r x2⟩
theorem d8.fz(S:cK h st)(hb:st b=some (.cells (es.flatMap AV.cells)))(hj:∀e∈es,e.bV=false)(hE:jU es):∀(as:List AV) (cs:List Value),d8 h st as cs→d8 h (st.erase b) (kK b es as) cs
 | [],_,x=>x
 | a::as,cs,x=>by
  simp only[d8,kK] at x ⊢
  obtain⟨v,r,e,x1,x2⟩:=x
  exact⟨v,r,e,⟨(aKK b es a).trans x1.1,VC.fz S hb hj hE a _ x1.2⟩,d8.fz S hb hj hE as r x2⟩
end
theorem aR.fz{a:AV}{v:Value}(S:cK h st)(hb:st b=some (.cells (es.flatMap AV.cells)))(hj:∀e∈es,e.bV=false)(hE:jU es)(x:aR h st a v):aR h (st.erase b) (a.fz b es) v:=by
 have key:a.isAgg=jS v∧VC h st a v.cells.toList→aR h (st.erase b) (a.fz b es) v:=fun x=>by
  have y:(a.fz b es).isAgg=jS v∧VC h (st.erase b) (a.fz b es) v.cells.toList:=⟨(aKK b es a).trans x.1,VC.fz S hb hj hE a _ x.2⟩
  cases hq:a.fz b es<;>rw[hq] at y<;>first | trivial | exact y
 cases a<;>first | trivial | exact key x
end
theorem aD.freeze{P:Program}{g:FuncId}{args:List AV}{st:aA}{Q:AV→aA→Prop}
 (x:aD P g args st (fun r st'=>∃b es,st' b=some (.cells (es.flatMap AV.cells))∧(∀e∈es,e.bV=false)∧jU es∧Q (r.fz b es) (st'.erase b))):aD P g args st Q:=
 x.lN fun r st' ⟨b,es,h1,h2,h3,h4⟩=>⟨r.fz b es,st'.erase b,(jD st' b).uV,fun _ _ S y=>y.fz S h1 h2 h3,h4⟩
theorem gN.freeze{φ:AF}{st:aA}{b:Nat}{es:List AV}(h1:st b=some (.cells (es.flatMap AV.cells)))(h2:∀e∈es,e.bV=false)(h3:jU es):gN φ st (fun d=>(φ d).fz b es) (st.erase b):=
 fun h _ S F=>⟨(jD st b).IE S,(jD st b).step h,fun d=>(F d).fz S h1 h2 h3⟩
theorem gN.drop{φ:AF}{st st':aA}(x:aO st st'):gN φ st φ st':=fun h _ S F=>⟨x.IE S,x.step h,fun d=>(F d).mono (x.step h)⟩
mutual
def AV.soft:AV→AV
 | .fslice es=>.slice es
 | .agg cs=>.agg (pB cs)
 | .tup vs=>.tup (pB vs)
 | a=>a
def pB:List AV→List AV
 | []=>[]
 | a::as=>a.soft::pB as
end
theorem a8H(a:AV):a.soft.isAgg=a.isAgg:=by cases a<;>rfl
section
variable {h:bE} {st:aA}
mutual
theorem VC.soft:∀(a:AV) (cs:List Value),VC h st a cs→VC h st a.soft cs
 | .fslice es,cs,x=>by
  simp only[AV.soft]
  unfold VC at x ⊢
  rcases x with x | ⟨b,off,e,l,r⟩
  · exact .inl x
  · exact .inr ⟨b,off,es.length,e,cZ _,l,r⟩
 | .agg as,cs,x=>by simp only[VC,AV.soft] at x ⊢;exact aY.soft as cs x
 | .tup as,cs,x=>by
  simp only[VC,AV.soft] at x ⊢
  obtain⟨vs,e,r⟩:=x
  exact⟨vs,e,d8.soft as vs r⟩
 | .mslice _ _ _ _,cs,x=>x
 | .junk,cs,x=>x
 | .undef,cs,x=>x
 | .int _ _,cs,x=>x
 | .bool _,cs,x=>x
 | .str _,cs,x=>x
 | .slice _,cs,x=>x
 | .nilptr,cs,x=>x
 | .ptr _ _,cs,x=>x
 | .pptr _,cs,x=>x
 | .nilmap,cs,x=>x
 | .map _,cs,x=>x
 | .func _ _,cs,x=>x
 | .raw _,cs,x=>x
 | .eslice,cs,x=>x
theorem aY.soft:∀(as:List AV) (cs:List Value),aY h st as cs→aY h st (pB as) cs
 | [],_,x=>x
 | a::as,cs,x=>by
  simp only[aY,pB] at x ⊢
  obtain⟨c,r,e,x1,x2⟩:=x
  exact⟨c,r,e,VC.soft a [c] x1,aY.soft as r x2⟩
theorem d8.soft:∀(as:List AV) (cs:List Value),d8 h st as cs→d8 h st (pB as) cs
 | [],_,x=>x
 | a::as,cs,x=>by
  simp only[d8,pB] at x ⊢
  obtain⟨v,r,e,x1,x2⟩:=x
  exact⟨v,r,e,⟨(a8H a).trans x1.1,VC.soft a _ x1.2⟩,d8.soft as r x2⟩
end
theorem aR.soft{a:AV}{v:Value}(x:aR h st a v):aR h st a.soft v:=by
 cases a
 case fslice=>exact x.DL
 case agg=>exact⟨x.1,VC.soft _ _ x.2⟩
 case tup=>exact⟨x.1,VC.soft _ _ x.2⟩
 all_goals exact x
end
theorem aD.soft{P:Program}{g:FuncId}{args:List AV}{st:aA}{Q:AV→aA→Prop}(x:aD P g args st (fun r st'=>Q r.soft st')):aD P g args st Q:=
 x.lN fun r st' h=>⟨r.soft,st',(aO.refl st').uV,fun _ _ _ y=>y.soft,h⟩
theorem aD.IB{P:Program}{g:FuncId}{args:List AV}{st:aA}{Q:AV→aA→Prop}(x:aD P g (pB args) st Q):aD P g args st Q:=
 x.args fun hp=>by
  have:∀(as:List AV) (vs:List Value),cT hp st as vs→cT hp st (pB as) vs:=by
   intro as
   induction as with
   | nil=>intro vs y;exact y
   | cons a as ih=>
    intro vs y
    simp only[cT,pB] at y ⊢
    obtain⟨v,r,rfl,y1,y2⟩:=y
    exact⟨v,r,rfl,y1.soft,ih r y2⟩
  exact fun vs _=>this args vs
mutual
def AV.fits:AV→Prop
 | .str s=>s.size≤9223372036854775807
 | .agg cs=>cV cs
 | .tup vs=>cV vs
 | .slice es=>es.length≤9223372036854775807∧cV es
 | .fslice es=>es.length≤9223372036854775807∧cV es
 | .mslice _ _ n _=>n≤9223372036854775807
 | .pptr e=>e.fits
 | _=>True
def cV:List AV→Prop
 | []=>True
 | a::as=>a.fits∧cV as
end
section
variable {h:bE} {st:aA}
mutual
theorem VC.fits:∀(a:AV) (cs:List Value),VC h st a cs→a.fits
 | .str s,cs,x=>by simp only[VC,maxLen] at x;exact x.2
 | .agg as,cs,x=>by simp only[VC,AV.fits] at x ⊢;exact aY.fits as cs x
 | .tup as,cs,x=>by
  simp only[VC,AV.fits] at x ⊢
  obtain⟨vs,e,r⟩:=x
  exact d8.fits as vs r
 | .slice es,cs,x=>by
  simp only[VC,AV.fits] at x ⊢
  rcases x with ⟨⟨p0,_⟩,rfl⟩ | ⟨b,off,cap,_,l1,l2,_,_,_,r⟩
  · exact⟨by simp,trivial⟩
  · exact⟨nN l1 l2,cW.fits es off r⟩
 | .fslice es,cs,x=>by
  simp only[VC,AV.fits] at x ⊢
  rcases x with ⟨⟨p0,_⟩,rfl⟩ | ⟨b,off,_,l1,_,_,_,r⟩
  · exact⟨by simp,trivial⟩
  · exact⟨l1,cW.fits es off r⟩
 | .mslice _ _ n _,cs,x=>by
  simp only[VC,AV.fits] at x ⊢
  obtain⟨cap,_,l1,l2,_⟩:=x
  exact nN l1 l2
 | .pptr e,cs,x=>by
  simp only[VC,AV.fits] at x ⊢
  obtain⟨b,off,_,_,_,vs,_,_,y⟩:=x
  exact VC.fits e vs y
 | .junk,cs,x=>trivial
 | .undef,cs,x=>trivial
 | .int _ _,cs,x=>trivial
 | .bool _,cs,x=>trivial
 | .nilptr,cs,x=>trivial
 | .ptr _ _,cs,x=>trivial
 | .nilmap,cs,x=>trivial
 | .map _,cs,x=>trivial
 | .func _ _,cs,x=>trivial
 | .raw _,cs,x=>trivial
 | .eslice,cs,x=>trivial
theorem aY.fits:∀(as:List AV) (cs:List Value),aY h st as cs→cV as
 | [],_,x=>trivial
 | a::as,cs,x=>by
  simp only[aY] at x
  obtain⟨c,r,e,x1,x2⟩:=x
  exact⟨VC.fits a [c] x1,aY.fits as r x2⟩
theorem d8.fits:∀(as:List AV) (cs:List Value),d8 h st as cs→cV as
 | [],_,x=>trivial
 | a::as,cs,x=>by
  simp only[d8] at x
  obtain⟨v,r,e,x1,x2⟩:=x
  exact⟨VC.fits a _ x1.2,d8.fits as r x2⟩
theorem cW.fits{b:Nat}:∀(as:List AV) (off:Nat),cW h st b off as→cV as
 | [],_,x=>trivial
 | a::as,off,x=>by
  simp only[cW] at x
  obtain⟨⟨cs,_,_,x3⟩,x4⟩:=x
  exact⟨VC.fits a cs x3,cW.fits as _ x4⟩
end
theorem aR.fits{a:AV}{v:Value}(x:aR h st a v):a.fits:=by
 cases a<;>first | trivial | exact VC.fits _ _ x.2
theorem cT.fits:∀ {as:List AV} {vs:List Value},cT h st as vs→cV as
 | [],_,_=>trivial
 | a::as,vs,x=>by
  simp only[cT] at x
  obtain⟨v,r,_,x1,x2⟩:=x
  exact⟨x1.fits,cT.fits x2⟩
end
theorem zw6{P:Program}{g:FuncId}{fn:Func}{c:Code}{args:List AV}{st:aA}{N:Nat}{rs:List ResultVar}{K:AV→aA→Prop}(mt:List Nat)(hf:P.funcs[g]?=some fn)(hN:fn.ntmps=N)(hr:fn.results=rs.toArray)(hb:fn.body=some c)(hn:(fn.name == "runtime.NumGoroutine")=false)
 (hok:codeOk N c=true) (yO:args.length≤N) (e:cV args→gH P N mt c (ER P rs.toArray K) (sA 0 args) st):aD P g args st K:=by
 subst hN
 rw[←hr] at e
 exact⟨⟨fn,hf,by simp [hb],hn⟩,fun w vs S V=>(aRR mt hf hb hn hok yO (e V.fits)).2 w vs S V⟩
def kJ:List (Nat×AV)→AF
 | []=>AF.bot
 | (d,v)::l=>(kJ l).aC d v
def AR(φ:AF):List (Nat×AV)→Prop
 | []=>True
 | (d,v)::l=>φ d=v∧AR φ l
theorem gN.kJ{φ:AF}{st:aA}:∀ {l:List (Nat×AV)},AR φ l→gN φ st (kJ l) st
 | [],_=>gN.bot φ st
 | (d,v)::l,h=>(gN.kJ h.2).aC h.1
theorem aEF{φ:AF}:AR φ []=True:=rfl
theorem aEG{φ:AF}{d:Nat}{v:AV}{l:List (Nat×AV)}:AR φ ((d,v)::l)=(φ d=v∧AR φ l):=rfl
theorem aD.to{P:Program}{g:FuncId}{args:List AV}{st:aA}{r:AV}{K:AV→aA→Prop}(x:aD P g args st (fun r' st'=>r'=r∧st'=st))(h:K r st):aD P g args st K:=
 x.mono fun _ _ ⟨e1,e2⟩=>by rw[e1,e2];exact h
theorem nD{P:Program}{N:Nat}(mt:List Nat){c:Code}{Q:Exit→AF→aA→Prop}{φ:AF}{st:aA}(hok:codeOk N c=true)(e:gH P N mt c Q φ st):fR P N c Q φ st:=zZ c Q φ st hok e
def wW(l:List (Nat×AV)):AF:=kJ l
theorem aD9:wW []=AF.bot:=rfl
theorem aD8{d:Nat}{v:AV}{l:List (Nat×AV)}:wW ((d,v)::l)=(wW l).aC d v:=rfl
def aP(φ:AF)(st:aA)(l:List (Nat×AV))(st':aA):Prop:=gN φ st (kJ l) st'
theorem aP.mk{φ:AF}{st:aA}{l:List (Nat×AV)}(h:AR φ l):aP φ st l st:=gN.kJ h
theorem aP.drop{φ:AF}{st st':aA}{l:List (Nat×AV)}(d:aO st st')(h:AR φ l):aP φ st l st':=(gN.drop d).trans (gN.kJ h)
theorem oJ{P:Program}{N:Nat}{c:Code}{Q:Exit→AF→aA→Prop}{φ:AF}{st:aA}{α:Type}(mt:List Nat)(inv:α→Prop)(fl:α→List (Nat×AV))(so:α→aA)(μ:α→Nat)(hok:codeOk N c=true)
 (h0:∃s,inv s∧aP φ st (fl s) (so s))
 (h1:∀s,inv s→gH P N mt c (qA (fun φ' st'=>∃s',μ s'<μ s∧inv s'∧aP φ' st' (fl s') (so s')) Q) (wW (fl s)) (so s)):fR P N (.loop c) Q φ st:=
 PO inv (fun s=>kJ (fl s)) so μ h0 fun s hs=>nD mt hok (h1 s hs)
theorem cP{P:Program}{mt:List Nat}{ops:Array Oper}{o:Oper}{l:List Oper}{K:AF→aA→Prop}{φ:AF}{st:aA}{c want:Bool}
 (h1:c=want→xF P mt ops o l K φ st (some true)) (h2:c=(!want)→xF P mt ops o l K φ st (some false)):xF P mt ops o l K φ st (some (c == want)):=by
 cases c<;>cases want<;>first | exact h1 rfl | exact h2 rfl
def kN(o:Oper):Bool:=match o.op with
 | .call { callee:=.value _,.. }=>false
 | .call { callee:=.builtin .append,.. }=>false
 | .call { callee:=.builtin .delete,.. }=>false
 | .call { callee:=.builtin .clear,.. }=>false
 | .alloc _=>false
 | .store _ _ _=>false
 | .makeMap _ none=>false
 | .makeSlice _ _ _=>false
 | .mapUpdate _ _ _ _=>false
 | _=>true
theorem tM{P:Program}{φ:AF}{st:aA}{o:Oper}{K:AV→aA→Prop}(h:kN o=true):fL P [] φ st o K=match lR P φ st o with | some r=>K r st | none=>False:=by
 obtain⟨dst,op,type,pos,after,guard⟩:=o
 unfold fL
 split
 case h_5 t x e=>
  simp only at e
  subst e
  simp only[B5,List.contains_nil,lR]
  cases dst<;>rfl
 case h_11=>rfl
 all_goals (rename_i e;simp only at e;subst e;simp [kN] at h)
def fD(P:Program)(ops:Array Oper)(st:aA):List Oper→(AF→Prop)→AF→Prop
 | [],K,φ=>K φ
 | o::rest,K,φ=>if kN o=true then bA P [] ops [o] (fun φ' _=>fD P ops st rest K φ') φ st else
  match o.guard,o.op with
  | none,.call { callee:=.value f,args,.. }=>∃r,tR P (φ.eval f) (args.toList.map φ.eval) st (fun r' st'=>r'=r∧st'=st)∧fD P ops st rest K (φ.put o.dst r)
  | _,_=>False
theorem GC{P:Program}{ops:Array Oper}{st:aA}{K:AF→Prop}:∀(l:List Oper) (φ:AF),fD P ops st l K φ→qP P st ops l K φ
 | [],_,h=>h
 | o::rest,φ,h=>by
  simp only[fD] at h
  split at h
  · rename_i hp
    simp only[bA] at h
    simp only[qP]
    split at h
    · rename_i hg
      rw[tM hp] at h
      rw[hg]
      simp only
      split at h
      · rename_i r hr
        exact⟨r,by rw[tM hp,hr];exact⟨rfl,rfl⟩,GC rest _ h⟩
      · cases h
    · rename_i hg
      rw[hg]
      exact GC rest _ h
    · cases h
  · split at h
    · rename_i f args ats hg ho
      obtain⟨r,h1,h2⟩:=h
      simp only[qP,iZ,hg]
      refine⟨r,?_,GC rest _ h2⟩
      simp only[fL,ho]
      exact h1
    · cases h
theorem Z9{P:Program}{ops:Array Oper}{st:aA}{K:AF→Prop}{φ:AF}:fD P ops st [] K φ=K φ:=rfl
def hK(P:Program)(ops:Array Oper)(st:aA)(rest:List Oper)(K:AF→Prop)(φ:AF)(_:aA):Prop:=fD P ops st rest K φ
theorem aEE{P:Program}{ops:Array Oper}{st st':aA}{K:AF→Prop}{φ:AF}{rest:List Oper}:hK P ops st rest K φ st'=fD P ops st rest K φ:=rfl
theorem lA{P:Program}{ops:Array Oper}{st:aA}{K:AF→Prop}{φ:AF}{o:Oper}{rest:List Oper}(h:kN o=true):fD P ops st (o::rest) K φ=bA P [] ops [o] (hK P ops st rest K) φ st:=by
 simp [fD,h]
 rfl
def yH(P:Program)(f:AV)(args:List AV)(st:aA)(K:AV→Prop):Prop:=∃r,tR P f args st (fun r' st'=>r'=r∧st'=st)∧K r
def DV(P:Program)(ops:Array Oper)(st:aA)(rest:List Oper)(K:AF→Prop)(φ:AF)(dst:Option Tmp)(r:AV):Prop:=fD P ops st rest K (φ.put dst r)
theorem aQ2{P:Program}{ops:Array Oper}{st:aA}{K:AF→Prop}{φ:AF}{rest:List Oper}{dst:Option Tmp}{f:Operand}{args:List Operand}{ats:Array TypeId}{type:TypeId}{pos:String}{after:Array Edge} :
 fD P ops st (⟨dst,.call { callee:=.value f,args:=args.toArray,argTypes:=ats },type,pos,after,none⟩::rest) K φ=yH P (φ.eval f) (args.map φ.eval) st (DV P ops st rest K φ dst):=by
 simp [fD,kN,yH,DV]
section
variable {P:Program} {ops:Array Oper} {st:aA} {K:AF→Prop} {φ:AF} {rest:List Oper} {dst:Option Tmp} {type:TypeId} {pos:String} {after:Array Edge} {g:Option (Nat×Bool)}
theorem aAW{f:Operand}{args:List Operand}{ats:Array TypeId} :
 fD P ops st (⟨dst,.call { callee:=.value f,args:=args.toArray,argTypes:=ats },type,pos,after,none⟩::rest) K φ=yH P (φ.eval f) (args.map φ.eval) st (DV P ops st rest K φ dst):=aQ2
theorem aAA{x:Operand}:fD P ops st (⟨dst,.move x,type,pos,after,g⟩::rest) K φ=bA P [] ops [⟨dst,.move x,type,pos,after,g⟩] (hK P ops st rest K) φ st:=lA rfl
theorem aAN{x:Operand}:fD P ops st (⟨dst,.assign x,type,pos,after,g⟩::rest) K φ=bA P [] ops [⟨dst,.assign x,type,pos,after,g⟩] (hK P ops st rest K) φ st:=lA rfl
theorem aAO{c x y:Operand}:fD P ops st (⟨dst,.pick c x y,type,pos,after,g⟩::rest) K φ=bA P [] ops [⟨dst,.pick c x y,type,pos,after,g⟩] (hK P ops st rest K) φ st:=lA rfl
theorem aAP{op:BinOp}{t t':TypeId}{x y:Operand}:fD P ops st (⟨dst,.binOp op t x y t',type,pos,after,g⟩::rest) K φ=bA P [] ops [⟨dst,.binOp op t x y t',type,pos,after,g⟩] (hK P ops st rest K) φ st:=lA rfl
theorem aAQ{op:UnOp}{t:TypeId}{x:Operand}:fD P ops st (⟨dst,.unOp op t x,type,pos,after,g⟩::rest) K φ=bA P [] ops [⟨dst,.unOp op t x,type,pos,after,g⟩] (hK P ops st rest K) φ st:=lA rfl
theorem aAR{x:Operand}:fD P ops st (⟨dst,.nilCheck x,type,pos,after,g⟩::rest) K φ=bA P [] ops [⟨dst,.nilCheck x,type,pos,after,g⟩] (hK P ops st rest K) φ st:=lA rfl
theorem aAS{t f:Nat}{x:Operand}:fD P ops st (⟨dst,.fieldAddr t x f,type,pos,after,g⟩::rest) K φ=bA P [] ops [⟨dst,.fieldAddr t x f,type,pos,after,g⟩] (hK P ops st rest K) φ st:=lA rfl
theorem aAT{t:TypeId}{x:Operand}:fD P ops st (⟨dst,.load t x,type,pos,after,g⟩::rest) K φ=bA P [] ops [⟨dst,.load t x,type,pos,after,g⟩] (hK P ops st rest K) φ st:=lA rfl
theorem aAU{t f:Nat}{x:Operand}:fD P ops st (⟨dst,.field t x f,type,pos,after,g⟩::rest) K φ=bA P [] ops [⟨dst,.field t x f,type,pos,after,g⟩] (hK P ops st rest K) φ st:=lA rfl
theorem aAB{t:TypeId}{x i:Operand}:fD P ops st (⟨dst,.indexAddr t x i,type,pos,after,g⟩::rest) K φ=bA P [] ops [⟨dst,.indexAddr t x i,type,pos,after,g⟩] (hK P ops st rest K) φ st:=lA rfl
theorem aAC{t:TypeId}{x i:Operand}:fD P ops st (⟨dst,.index t x i,type,pos,after,g⟩::rest) K φ=bA P [] ops [⟨dst,.index t x i,type,pos,after,g⟩] (hK P ops st rest K) φ st:=lA rfl
theorem aAD{t:TypeId}{x:Operand}{lo hi mx:Option Operand}:fD P ops st (⟨dst,.slice t x lo hi mx,type,pos,after,g⟩::rest) K φ=bA P [] ops [⟨dst,.slice t x lo hi mx,type,pos,after,g⟩] (hK P ops st rest K) φ st:=lA rfl
theorem aAE{x:Operand}{i:Nat}:fD P ops st (⟨dst,.extract x i,type,pos,after,g⟩::rest) K φ=bA P [] ops [⟨dst,.extract x i,type,pos,after,g⟩] (hK P ops st rest K) φ st:=lA rfl
theorem aAF{t:TypeId}{ps:Array (Nat×Operand)}:fD P ops st (⟨dst,.build t ps,type,pos,after,g⟩::rest) K φ=bA P [] ops [⟨dst,.build t ps,type,pos,after,g⟩] (hK P ops st rest K) φ st:=lA rfl
theorem aAG{t:TypeId}{n:Nat}{ps:Array (Nat×Operand)}:fD P ops st (⟨dst,.buildSlice t n ps,type,pos,after,g⟩::rest) K φ=bA P [] ops [⟨dst,.buildSlice t n ps,type,pos,after,g⟩] (hK P ops st rest K) φ st:=lA rfl
theorem aAH{t u:TypeId}{x:Operand}:fD P ops st (⟨dst,.convert t u x,type,pos,after,g⟩::rest) K φ=bA P [] ops [⟨dst,.convert t u x,type,pos,after,g⟩] (hK P ops st rest K) φ st:=lA rfl
theorem aAI{t:TypeId}{x i:Operand}{ok:Bool}:fD P ops st (⟨dst,.lookup t x i ok,type,pos,after,g⟩::rest) K φ=bA P [] ops [⟨dst,.lookup t x i ok,type,pos,after,g⟩] (hK P ops st rest K) φ st:=lA rfl
theorem aAJ{x:Operand}{t:TypeId}:fD P ops st (⟨dst,.call { callee:=.builtin .len,args:=#[x],argTypes:=#[t] },type,pos,after,g⟩::rest) K φ=bA P [] ops [⟨dst,.call { callee:=.builtin .len,args:=#[x],argTypes:=#[t] },type,pos,after,g⟩] (hK P ops st rest K) φ st:=lA rfl
theorem aAK{x:Operand}{t:TypeId}:fD P ops st (⟨dst,.call { callee:=.builtin .cap,args:=#[x],argTypes:=#[t] },type,pos,after,g⟩::rest) K φ=bA P [] ops [⟨dst,.call { callee:=.builtin .cap,args:=#[x],argTypes:=#[t] },type,pos,after,g⟩] (hK P ops st rest K) φ st:=lA rfl
theorem aAL{x y:Operand}{ts:Array TypeId}:fD P ops st (⟨dst,.call { callee:=.builtin .max,args:=#[x,y],argTypes:=ts },type,pos,after,g⟩::rest) K φ=bA P [] ops [⟨dst,.call { callee:=.builtin .max,args:=#[x,y],argTypes:=ts },type,pos,after,g⟩] (hK P ops st rest K) φ st:=lA rfl
theorem aAM{x y:Operand}{ts:Array TypeId}:fD P ops st (⟨dst,.call { callee:=.builtin .min,args:=#[x,y],argTypes:=ts },type,pos,after,g⟩::rest) K φ=bA P [] ops [⟨dst,.call { callee:=.builtin .min,args:=#[x,y],argTypes:=ts },type,pos,after,g⟩] (hK P ops st rest K) φ st:=lA rfl
end
theorem aAV{P:Program}{ops:Array Oper}{st:aA}{K:AF→Prop}{φ:AF}{rest:List Oper}{dst:Option Tmp}{r:AV}:DV P ops st rest K φ dst r=fD P ops st rest K (φ.put dst r):=rfl
theorem iD{P:Program}{g:FuncId}{args:List AV}{st:aA}{r:AV}{K:AV→Prop}(x:aD P g args st (fun r' st'=>r'=r∧st'=st))(h:K r):yH P (.func g []) args st K:=⟨r,by show aD P g (args++ []) st _;rw[eU];exact x,h⟩
@[congr] theorem bB2 {P:Program} {ops:Array Oper} {l:List Oper} {K:AF→Prop} {φ φ':AF} {st st':aA} (h1:φ=φ') (h2:st=st'):fD P ops st l K φ=fD P ops st' l K φ':=by rw[h1,h2]
@[congr] theorem bB9 {P:Program} {f f':AV} {args args':List AV} {st st':aA} {K:AV→Prop} (h0:f=f') (h1:args=args') (h2:st=st'):yH P f args st K=yH P f' args' st' K:=by rw[h0,h1,h2]
@[congr] theorem bCC {P:Program} {ops:Array Oper} {l:List Oper} {K:AF→Prop} {φ:AF} {st:aA} {dst:Option Tmp} {r r':AV} (h1:r=r'):DV P ops st l K φ dst r=DV P ops st l K φ dst r':=by rw[h1]
def RW(ops:Array Oper):Nat:=(ops.toList.findIdx fun o=> !kN o)
theorem GO{P:Program}{st:aA}{N:Nat}{id:Nat}{ops:Array Oper}{Q:Exit→AF→aA→Prop}{φ:AF}(hm:P.follows .mixedOrders=true)(hok:qF N ops=true)(hB:Region.lexTailB .any ops (RW ops)=true)
 (h:bA P [] ops ops.toList (Q .normal) φ st):fR P N (.region id ops true) Q φ st:=by
 refine aSB (RW ops) hm hok hB (GC _ _ ?_)
 have key:∀(l1 l2:List Oper) (φ:AF),(∀o∈l1,kN o=true)→bA P [] ops (l1++l2) (Q .normal) φ st→fD P ops st l1 (fun φ'=>bA P [] ops l2 (Q .normal) φ' st) φ:=by
  intro l1
  induction l1 with
  | nil=>intro l2 φ _ h;exact h
  | cons o l1 ih=>
   intro l2 φ hp h
   have ho:=hp o (by simp)
   have hr:∀o∈l1,kN o=true:=fun o h=>hp o (by simp [h])
   simp only[fD,ho,dV,bA]
   simp only[gR,bA] at h
   split at h
   · rename_i hg
     rw[tM ho] at h
     rw[tM ho]
     split at h
     · rename_i hr2
       first | rw[hr2] | skip
       exact ih l2 _ hr h
     · cases h
   · exact ih l2 _ hr h
   · cases h
 refine key _ _ φ (fun o ho=>?_) (by rw[oO];exact h)
 obtain⟨i,hi,rfl⟩:=OT ho
 rw[dZ] at hi
 have h2:=List.not_of_lt_findIdx (p:=fun o=> !kN o) (xs:=ops.toList) (i:=i) (by have:RW ops=ops.toList.findIdx (fun o=> !kN o):=rfl;omega)
 simpa using h2
def CP(P:Program)(ops:Array Oper)(st:aA)(K:AF→aA→Prop):Nat→List Oper→AF→Prop
 | 0,l,φ=>bA P [] ops l K φ st
 | _+1,[],_=>False
 | n+1,o::rest,φ=>fD P ops st [o] (CP P ops st K n rest) φ
theorem aAY{P:Program}{ops:Array Oper}{st:aA}{K:AF→aA→Prop}{l:List Oper}{φ:AF}:CP P ops st K 0 l φ=bA P [] ops l K φ st:=rfl
theorem aAZ{P:Program}{ops:Array Oper}{st:aA}{K:AF→aA→Prop}{n:Nat}{o:Oper}{l:List Oper}{φ:AF}:CP P ops st K (n+1) (o::l) φ=fD P ops st [o] (CP P ops st K n l) φ:=rfl
theorem aI2{P:Program}{mt:List Nat}{l:List Oper}{st:aA}{K:AF→aA→Prop}{φ:AF}:bA P mt l.toArray l.toArray.toList K φ st=bA P mt l.toArray l K φ st:=rfl
theorem aI3{P:Program}{l:List Oper}{st:aA}{K:AF→Prop}{φ:AF}:fD P l.toArray st l.toArray.toList K φ=fD P l.toArray st l K φ:=rfl
theorem aI4{P:Program}{n:Nat}{l:List Oper}{st:aA}{K:AF→aA→Prop}{φ:AF}:CP P l.toArray st K n l.toArray.toList φ=CP P l.toArray st K n l φ:=rfl
def Z4(Q:Exit→AF→aA→Prop)(st:aA)(φ:AF):Prop:=Q .normal φ st
theorem aDZ{Q:Exit→AF→aA→Prop}{st:aA}{φ:AF}:Z4 Q st φ=Q .normal φ st:=rfl
theorem yD{P:Program}{st:aA}{N:Nat}{id:Nat}{ops:Array Oper}{Q:Exit→AF→aA→Prop}{φ:AF}(hm:P.follows .mixedOrders=true)(hok:qF N ops=true)(hB:Region.lexB .any ops=true)
 (h:fD P ops st ops.toList (Z4 Q st) φ):fR P N (.region id ops true) Q φ st:=
 aSC hm hok hB (GC _ _ h)
theorem aEM:AV.junk.isAgg=false:=rfl
theorem aJO:AV.junk.width=1:=rfl
theorem aE3:AV.junk.bV=true:=rfl
theorem aDI:AV.junk.cells= [AV.junk]:=rfl
theorem aHM:AV.junk.storable=false:=rfl
theorem aEX:AV.undef.isAgg=false:=rfl
theorem aJZ:AV.undef.width=1:=rfl
theorem aFE:AV.undef.bV=false:=rfl
theorem aDT:AV.undef.cells= [AV.undef]:=rfl
theorem aHW:AV.undef.storable=false:=rfl
theorem aEL{k:IntKind}{n:Int}:(AV.int k n).isAgg=false:=rfl
theorem aJN{k:IntKind}{n:Int}:(AV.int k n).width=1:=rfl
theorem aE2{k:IntKind}{n:Int}:(AV.int k n).bV=false:=rfl
theorem aDH{k:IntKind}{n:Int}:(AV.int k n).cells= [(AV.int k n)]:=rfl
theorem aHL{k:IntKind}{n:Int}:(AV.int k n).storable=true:=rfl
theorem aEI{b:Bool}:(AV.bool b).isAgg=false:=rfl
theorem aJK{b:Bool}:(AV.bool b).width=1:=rfl
theorem aEZ{b:Bool}:(AV.bool b).bV=false:=rfl
theorem aDE{b:Bool}:(AV.bool b).cells= [(AV.bool b)]:=rfl
theorem aHI{b:Bool}:(AV.bool b).storable=true:=rfl
theorem aEV{s:ByteArray}:(AV.str s).isAgg=false:=rfl
theorem aJX{s:ByteArray}:(AV.str s).width=1:=rfl
theorem aFC{s:ByteArray}:(AV.str s).bV=false:=rfl
theorem aDR{s:ByteArray}:(AV.str s).cells= [(AV.str s)]:=rfl
theorem aHU{s:ByteArray}:(AV.str s).storable=true:=rfl
theorem aEW{vs:List AV}:(AV.tup vs).isAgg=false:=rfl
theorem aJY{vs:List AV}:(AV.tup vs).width=1:=rfl
theorem aFD{vs:List AV}:(AV.tup vs).bV=false:=rfl
theorem aDS{vs:List AV}:(AV.tup vs).cells= [(AV.tup vs)]:=rfl
theorem aHV{vs:List AV}:(AV.tup vs).storable=false:=rfl
theorem aEU{es:List AV}:(AV.slice es).isAgg=false:=rfl
theorem aJW{es:List AV}:(AV.slice es).width=1:=rfl
theorem aFB{es:List AV}:(AV.slice es).bV=false:=rfl
theorem aDQ{es:List AV}:(AV.slice es).cells= [(AV.slice es)]:=rfl
theorem aHT{es:List AV}:(AV.slice es).storable=true:=rfl
theorem aEJ{es:List AV}:(AV.fslice es).isAgg=false:=rfl
theorem aJL{es:List AV}:(AV.fslice es).width=1:=rfl
theorem aE0{es:List AV}:(AV.fslice es).bV=false:=rfl
theorem aDF{es:List AV}:(AV.fslice es).cells= [(AV.fslice es)]:=rfl
theorem aHJ{es:List AV}:(AV.fslice es).storable=true:=rfl
theorem aEO{b:Nat}{o:Nat}{l:Nat}{m:Nat}:(AV.mslice b o l m).isAgg=false:=rfl
theorem aJQ{b:Nat}{o:Nat}{l:Nat}{m:Nat}:(AV.mslice b o l m).width=1:=rfl
theorem aE5{b:Nat}{o:Nat}{l:Nat}{m:Nat}:(AV.mslice b o l m).bV=false:=rfl
theorem aDK{b:Nat}{o:Nat}{l:Nat}{m:Nat}:(AV.mslice b o l m).cells= [(AV.mslice b o l m)]:=rfl
theorem aHO{b:Nat}{o:Nat}{l:Nat}{m:Nat}:(AV.mslice b o l m).storable=true:=rfl
theorem aEQ:AV.nilptr.isAgg=false:=rfl
theorem aJS:AV.nilptr.width=1:=rfl
theorem aE7:AV.nilptr.bV=false:=rfl
theorem aDM:AV.nilptr.cells= [AV.nilptr]:=rfl
theorem aHQ:AV.nilptr.storable=true:=rfl
theorem aES{b:Nat}{o:Nat}:(AV.ptr b o).isAgg=false:=rfl
theorem aJU{b:Nat}{o:Nat}:(AV.ptr b o).width=1:=rfl
theorem aE9{b:Nat}{o:Nat}:(AV.ptr b o).bV=false:=rfl
theorem aDO{b:Nat}{o:Nat}:(AV.ptr b o).cells= [(AV.ptr b o)]:=rfl
theorem aHS{b:Nat}{o:Nat}:(AV.ptr b o).storable=true:=rfl
theorem aER{e:AV}:(AV.pptr e).isAgg=false:=rfl
theorem aJT{e:AV}:(AV.pptr e).width=1:=rfl
theorem aE8{e:AV}:(AV.pptr e).bV=false:=rfl
theorem aDN{e:AV}:(AV.pptr e).cells= [(AV.pptr e)]:=rfl
theorem aHR{e:AV}:(AV.pptr e).storable=true:=rfl
theorem aEP:AV.nilmap.isAgg=false:=rfl
theorem aJR:AV.nilmap.width=1:=rfl
theorem aE6:AV.nilmap.bV=false:=rfl
theorem aDL:AV.nilmap.cells= [AV.nilmap]:=rfl
theorem aHP:AV.nilmap.storable=true:=rfl
theorem aEN{b:Nat}:(AV.map b).isAgg=false:=rfl
theorem aJP{b:Nat}:(AV.map b).width=1:=rfl
theorem aE4{b:Nat}:(AV.map b).bV=false:=rfl
theorem aDJ{b:Nat}:(AV.map b).cells= [(AV.map b)]:=rfl
theorem aHN{b:Nat}:(AV.map b).storable=true:=rfl
theorem aEK{f:FuncId}{cs:List AV}:(AV.func f cs).isAgg=false:=rfl
theorem aJM{f:FuncId}{cs:List AV}:(AV.func f cs).width=1:=rfl
theorem aE1{f:FuncId}{cs:List AV}:(AV.func f cs).bV=false:=rfl
theorem aDG{f:FuncId}{cs:List AV}:(AV.func f cs).cells= [(AV.func f cs)]:=rfl
theorem aHK{f:FuncId}{cs:List AV}:(AV.func f cs).storable=true:=rfl
theorem aET{v:Value}:(AV.raw v).isAgg=false:=rfl
theorem aJV{v:Value}:(AV.raw v).width=1:=rfl
theorem aFA{v:Value}:(AV.raw v).bV=false:=rfl
theorem aDP{v:Value}:(AV.raw v).cells= [(AV.raw v)]:=rfl
theorem aEH{cs:List AV}:(AV.agg cs).isAgg=true:=rfl
theorem aJJ{cs:List AV}:(AV.agg cs).width=cs.length:=rfl
theorem aEY{cs:List AV}:(AV.agg cs).bV=false:=rfl
theorem aDD{cs:List AV}:(AV.agg cs).cells=cs:=rfl
theorem aDB:((0:Nat):Int)=0:=rfl
theorem aDC{n:Nat}:((n+1:Nat):Int)=(n:Int)+1:=rfl
theorem eC{st:aA}{b x:Nat}{o:AO}:(st.aC b o) x=if x=b then some o else st x:=rfl
theorem wrap64{n:Int}(h1: -9223372036854775808≤n)(h2:n≤9223372036854775807):IntKind.wrap .i64 n=n:=by
 rw[IntKind.wrap_i64];omega
end Go.AW
