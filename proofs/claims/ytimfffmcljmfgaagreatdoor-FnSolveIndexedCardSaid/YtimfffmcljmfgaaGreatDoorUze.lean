/- Smaller stores, frozen slices, sizes, frames as lists, regions that draw. -/
import Derived.Test.YtimfffmcljmfgaaGreatDoorUzd
set_option linter.unusedSimpArgs false
set_option linter.unusedVariables false
set_option maxRecDepth 100000
namespace Go.AW
def aL(st st':aB):Prop:=∀b,(st b=none→st' b=none)∧∀o,st' b=some o→st b=some o
theorem aL.refl(st:aB):aL st st:=fun _=>⟨id,fun _=>id⟩
theorem aL.trans{a b c:aB}(x:aL a b)(y:aL b c):aL a c:=fun i=>⟨fun h=>(y i).1 ((x i).1 h),fun o h=>(x i).2 o ((y i).2 o h)⟩
theorem aL.aC{st st':aB}(x:aL st st'){b:Nat}{o:AO}(h:st' b=none):aL (st.aC b o) st':=fun i=>by
 simp only[aB.aC]
 split
 · rename_i e;subst e;exact⟨fun _=>h,fun o' h'=>by rw[h] at h';cases h'⟩
 · exact x i
theorem jZ(st:aB)(b:Nat):aL st (st.erase b):=fun i=>by
 simp only[aB.erase]
 split
 · exact⟨fun _=>rfl,fun o' h'=>by cases h'⟩
 · exact⟨id,fun _=>id⟩
theorem aL.step{st st':aB}(x:aL st st')(h:bP):cC h st h st':=⟨dB _,fun b _ e=>⟨rfl,(x b).1 e⟩,fun _ c _ _ e=>⟨c,e,rfl⟩⟩
theorem aL.JL{st st':aB}(x:aL st st'){h:bP}(S:cX h st):cX h st':=fun b o e=>by
 obtain⟨h1,h2⟩:=S b o ((x b).2 o e)
 refine⟨h1,?_⟩
 cases o with
 | cells as=>
  obtain⟨c,t,e1,e2,vs,e3,e4⟩:=h2
  exact⟨c,t,e1,e2,vs,e3,bD.mono (x.step h) _ _ e4⟩
 | map f=>
  obtain⟨es,clock,e1,e2,e3,e4⟩:=h2
  refine⟨es,clock,e1,e2,e3,fun n=>?_⟩
  have:=e4 n
  cases hf:f n with
  | none=>rw[hf] at this;exact this
  | some a=>
   rw[hf] at this
   obtain⟨e,m,k,v⟩:=this
   exact⟨e,m,k,v.mono (x.step h)⟩
 | tab cs=>exact h2
theorem aL.tD{st st':aB}(x:aL st st'):BH st st':=fun h S=>⟨x.JL S,x.step h⟩
theorem aL.mT{st st':aB}(x:aL st st')(r:AV):r9 st r st' r:=fun h _ _ y=>y.mono (x.step h)
theorem aD.drop{P:Program}{g:FuncId}{args:List AV}{st:aB}{Q:AV→Prop}(x:aD P g args st (fun r st'=>aL st' st∧Q r)):aD P g args st (fun r st'=>Q r∧st'=st):=
 x.mT fun r st' ⟨h1,h2⟩=>⟨r,st,h1.tD,h1.mT r,h2,rfl⟩
mutual
def AV.fz(b:Nat)(es:List AV):AV→AV
 | .mslice b' 0 n sz=>if b'=b∧n=es.length then .slice es else .mslice b' 0 n sz
 | .agg cs=>.agg (lZ b es cs)
 | .tup vs=>.tup (lZ b es vs)
 | a=>a
def lZ(b:Nat)(es:List AV):List AV→List AV
 | []=>[]
 | a::as=>AV.fz b es a::lZ b es as
end
theorem aM9(b:Nat)(es:List AV)(a:AV):(a.fz b es).isAgg=a.isAgg:=by
 cases a<;>try rfl
 case mslice b' off n sz=>
  cases off with
  | zero=>simp only[AV.fz];split<;>rfl
  | succ k=>rfl
section
variable {h:bP} {st:aB} {b:Nat} {es:List AV}
theorem frozen(S:cX h st)(hb:st b=some (.cells (es.flatMap AV.cells)))(hj:∀e∈es,e.cH=false):b<h.size∧dP h (st.erase b) b 0 es:=by
 obtain⟨h1,c,t,e1,e2,vs,e3,e4⟩:=S b _ hb
 exact⟨h1,dP.mono ((jZ st b).step h) b rfl _ _ (K0 hj e3 e4)⟩
theorem VC.a0Y{b' off n sz:Nat}{cs:List Value}(S:cX h st)(hb:st b=some (.cells (es.flatMap AV.cells)))(hj:∀e∈es,e.cH=false)(hE:iR es)(x:VC h st (.mslice b' off n sz) cs):VC h (st.erase b) ((AV.mslice b' off n sz).fz b es) cs:=by
 have x0:VC h (st.erase b) (.mslice b' off n sz) cs:=VC.mono ((jZ st b).step h) _ _ x
 cases off with
 | succ k=>exact x0
 | zero=>
  simp only[AV.fz]
  split
  · rename_i e
    obtain⟨rfl,rfl⟩:=e
    simp only[VC] at x
    obtain⟨cap,e1,l1,l2,c,t,_,_⟩:=x
    obtain⟨hs,hE'⟩:=frozen S hb hj
    unfold VC
    exact .inr ⟨b',0,cap,e1,l1,l2,aB.aCE _ _,hs,hE,hE'⟩
  · exact x0
mutual
theorem VC.fz(S:cX h st)(hb:st b=some (.cells (es.flatMap AV.cells)))(hj:∀e∈es,e.cH=false)(hE:iR es):∀(a:AV) (cs:List Value),VC h st a cs→VC h (st.erase b) (a.fz b es) cs
 | .mslice b' off n sz,cs,x=>VC.a0Y S hb hj hE x
 | .agg as,cs,x=>by simp only[VC,AV.fz] at x ⊢;exact bD.fz S hb hj hE as cs x
 | .tup as,cs,x=>by
  simp only[VC,AV.fz] at x ⊢
  obtain⟨vs,e,r⟩:=x
  exact⟨vs,e,d4.fz S hb hj hE as vs r⟩
 | .junk,cs,x=>VC.mono ((jZ st b).step h) _ _ x
 | .undef,cs,x=>VC.mono ((jZ st b).step h) _ _ x
 | .int _ _,cs,x=>VC.mono ((jZ st b).step h) _ _ x
 | .bool _,cs,x=>VC.mono ((jZ st b).step h) _ _ x
 | .str _,cs,x=>VC.mono ((jZ st b).step h) _ _ x
 | .slice _,cs,x=>VC.mono ((jZ st b).step h) _ _ x
 | .fslice _,cs,x=>VC.mono ((jZ st b).step h) _ _ x
 | .nilptr,cs,x=>VC.mono ((jZ st b).step h) _ _ x
 | .ptr _ _,cs,x=>VC.mono ((jZ st b).step h) _ _ x
 | .pptr _,cs,x=>VC.mono ((jZ st b).step h) _ _ x
 | .nilmap,cs,x=>VC.mono ((jZ st b).step h) _ _ x
 | .map _,cs,x=>VC.mono ((jZ st b).step h) _ _ x
 | .func _ _,cs,x=>VC.mono ((jZ st b).step h) _ _ x
 | .raw _,cs,x=>VC.mono ((jZ st b).step h) _ _ x
 | .eslice,cs,x=>VC.mono ((jZ st b).step h) _ _ x
theorem bD.fz(S:cX h st)(hb:st b=some (.cells (es.flatMap AV.cells)))(hj:∀e∈es,e.cH=false)(hE:iR es):∀(as:List AV) (cs:List Value),bD h st as cs→bD h (st.erase b) (lZ b es as) cs
 | [],_,x=>x
 | a::as,cs,x=>by
  simp only[bD,lZ] at x ⊢
  obtain⟨c,r,e,x1,x2⟩:=x
  exact⟨c,r,e,VC.fz S hb hj hE a [c] x1,bD.fz S hb hj hE as r x2⟩
theorem d4.fz(S:cX h st)(hb:st b=some (.cells (es.flatMap AV.cells)))(hj:∀e∈es,e.cH=false)(hE:iR es):∀(as:List AV) (cs:List Value),d4 h st as cs→d4 h (st.erase b) (lZ b es as) cs
 | [],_,x=>x
 | a::as,cs,x=>by
  simp only[d4,lZ] at x ⊢
  obtain⟨v,r,e,x1,x2⟩:=x
  exact⟨v,r,e,⟨(aM9 b es a).trans x1.1,VC.fz S hb hj hE a _ x1.2⟩,d4.fz S hb hj hE as r x2⟩
end
theorem aT.fz{a:AV}{v:Value}(S:cX h st)(hb:st b=some (.cells (es.flatMap AV.cells)))(hj:∀e∈es,e.cH=false)(hE:iR es)(x:aT h st a v):aT h (st.erase b) (a.fz b es) v:=by
 have key:a.isAgg=mB v∧VC h st a v.cells.toList→aT h (st.erase b) (a.fz b es) v:=fun x=>by
  have y:(a.fz b es).isAgg=mB v∧VC h (st.erase b) (a.fz b es) v.cells.toList:=⟨(aM9 b es a).trans x.1,VC.fz S hb hj hE a _ x.2⟩
  cases hq:a.fz b es<;>rw[hq] at y<;>first | trivial | exact y
 cases a<;>first | trivial | exact key x
end
theorem aD.freeze{P:Program}{g:FuncId}{args:List AV}{st:aB}{Q:AV→aB→Prop}
 (x:aD P g args st (fun r st'=>∃b es,st' b=some (.cells (es.flatMap AV.cells))∧(∀e∈es,e.cH=false)∧iR es∧Q (r.fz b es) (st'.erase b))):aD P g args st Q:=
 x.mT fun r st' ⟨b,es,h1,h2,h3,h4⟩=>⟨r.fz b es,st'.erase b,(jZ st' b).tD,fun _ _ S y=>y.fz S h1 h2 h3,h4⟩
theorem gM.freeze{φ:AF}{st:aB}{b:Nat}{es:List AV}(h1:st b=some (.cells (es.flatMap AV.cells)))(h2:∀e∈es,e.cH=false)(h3:iR es):gM φ st (fun d=>(φ d).fz b es) (st.erase b):=
 fun h _ S F=>⟨(jZ st b).JL S,(jZ st b).step h,fun d=>(F d).fz S h1 h2 h3⟩
theorem gM.drop{φ:AF}{st st':aB}(x:aL st st'):gM φ st φ st':=fun h _ S F=>⟨x.JL S,x.step h,fun d=>(F d).mono (x.step h)⟩
mutual
def AV.soft:AV→AV
 | .fslice es=>.slice es
 | .agg cs=>.agg (iL cs)
 | .tup vs=>.tup (iL vs)
 | a=>a
def iL:List AV→List AV
 | []=>[]
 | a::as=>a.soft::iL as
end
theorem a65(a:AV):a.soft.isAgg=a.isAgg:=by cases a<;>rfl
section
variable {h:bP} {st:aB}
mutual
theorem VC.soft:∀(a:AV) (cs:List Value),VC h st a cs→VC h st a.soft cs
 | .fslice es,cs,x=>by
  simp only[AV.soft]
  unfold VC at x ⊢
  rcases x with x | ⟨b,off,e,l,r⟩
  · exact .inl x
  · exact .inr ⟨b,off,es.length,e,dB _,l,r⟩
 | .agg as,cs,x=>by simp only[VC,AV.soft] at x ⊢;exact bD.soft as cs x
 | .tup as,cs,x=>by
  simp only[VC,AV.soft] at x ⊢
  obtain⟨vs,e,r⟩:=x
  exact⟨vs,e,d4.soft as vs r⟩
 | .mslice _ _ _ _,cs,x=>x
 | .junk,cs,x=>x
 | .undef,cs,x=>x
 | .int _ _,cs,x=>x
 | .bool _,cs,x=>x
 | .str _,cs,x=>x
 | .slice _,cs,x=>x
 | .nilptr,cs,x=>x
 | .ptr _ _,cs,x=>x
 | .pptr _,cs,x=>x
 | .nilmap,cs,x=>x
 | .map _,cs,x=>x
 | .func _ _,cs,x=>x
 | .raw _,cs,x=>x
 | .eslice,cs,x=>x
theorem bD.soft:∀(as:List AV) (cs:List Value),bD h st as cs→bD h st (iL as) cs
 | [],_,x=>x
 | a::as,cs,x=>by
  simp only[bD,iL] at x ⊢
  obtain⟨c,r,e,x1,x2⟩:=x
  exact⟨c,r,e,VC.soft a [c] x1,bD.soft as r x2⟩
theorem d4.soft:∀(as:List AV) (cs:List Value),d4 h st as cs→d4 h st (iL as) cs
 | [],_,x=>x
 | a::as,cs,x=>by
  simp only[d4,iL] at x ⊢
  obtain⟨v,r,e,x1,x2⟩:=x
  exact⟨v,r,e,⟨(a65 a).trans x1.1,VC.soft a _ x1.2⟩,d4.soft as r x2⟩
end
theorem aT.soft{a:AV}{v:Value}(x:aT h st a v):aT h st a.soft v:=by
 cases a
 case fslice=>exact x.H5
 case agg=>exact⟨x.1,VC.soft _ _ x.2⟩
 case tup=>exact⟨x.1,VC.soft _ _ x.2⟩
 all_goals exact x
end
theorem aD.soft{P:Program}{g:FuncId}{args:List AV}{st:aB}{Q:AV→aB→Prop}(x:aD P g args st (fun r st'=>Q r.soft st')):aD P g args st Q:=
 x.mT fun r st' h=>⟨r.soft,st',(aL.refl st').tD,fun _ _ _ y=>y.soft,h⟩
theorem aD.qP{P:Program}{g:FuncId}{args:List AV}{st:aB}{Q:AV→aB→Prop}(x:aD P g (iL args) st Q):aD P g args st Q:=
 x.args fun hp=>by
  have:∀(as:List AV) (vs:List Value),dC hp st as vs→dC hp st (iL as) vs:=by
   intro as
   induction as with
   | nil=>intro vs y;exact y
   | cons a as ih=>
    intro vs y
    simp only[dC,iL] at y ⊢
    obtain⟨v,r,rfl,y1,y2⟩:=y
    exact⟨v,r,rfl,y1.soft,ih r y2⟩
  exact fun vs _=>this args vs
mutual
def AV.fits:AV→Prop
 | .str s=>s.size≤9223372036854775807
 | .agg cs=>d5 cs
 | .tup vs=>d5 vs
 | .slice es=>es.length≤9223372036854775807∧d5 es
 | .fslice es=>es.length≤9223372036854775807∧d5 es
 | .mslice _ _ n _=>n≤9223372036854775807
 | .pptr e=>e.fits
 | _=>True
def d5:List AV→Prop
 | []=>True
 | a::as=>a.fits∧d5 as
end
section
variable {h:bP} {st:aB}
mutual
theorem VC.fits:∀(a:AV) (cs:List Value),VC h st a cs→a.fits
 | .str s,cs,x=>by simp only[VC,maxLen] at x;exact x.2
 | .agg as,cs,x=>by simp only[VC,AV.fits] at x ⊢;exact bD.fits as cs x
 | .tup as,cs,x=>by
  simp only[VC,AV.fits] at x ⊢
  obtain⟨vs,e,r⟩:=x
  exact d4.fits as vs r
 | .slice es,cs,x=>by
  simp only[VC,AV.fits] at x ⊢
  rcases x with ⟨⟨p0,_⟩,rfl⟩ | ⟨b,off,cap,_,l1,l2,_,_,_,r⟩
  · exact⟨by simp,trivial⟩
  · exact⟨lF l1 l2,dP.fits es off r⟩
 | .fslice es,cs,x=>by
  simp only[VC,AV.fits] at x ⊢
  rcases x with ⟨⟨p0,_⟩,rfl⟩ | ⟨b,off,_,l1,_,_,_,r⟩
  · exact⟨by simp,trivial⟩
  · exact⟨l1,dP.fits es off r⟩
 | .mslice _ _ n _,cs,x=>by
  simp only[VC,AV.fits] at x ⊢
  obtain⟨cap,_,l1,l2,_⟩:=x
  exact lF l1 l2
 | .pptr e,cs,x=>by
  simp only[VC,AV.fits] at x ⊢
  obtain⟨b,off,_,_,_,vs,_,_,y⟩:=x
  exact VC.fits e vs y
 | .junk,cs,x=>trivial
 | .undef,cs,x=>trivial
 | .int _ _,cs,x=>trivial
 | .bool _,cs,x=>trivial
 | .nilptr,cs,x=>trivial
 | .ptr _ _,cs,x=>trivial
 | .nilmap,cs,x=>trivial
 | .map _,cs,x=>trivial
 | .func _ _,cs,x=>trivial
 | .raw _,cs,x=>trivial
 | .eslice,cs,x=>trivial
theorem bD.fits:∀(as:List AV) (cs:List Value),bD h st as cs→d5 as
 | [],_,x=>trivial
 | a::as,cs,x=>by
  simp only[bD] at x
  obtain⟨c,r,e,x1,x2⟩:=x
  exact⟨VC.fits a [c] x1,bD.fits as r x2⟩
theorem d4.fits:∀(as:List AV) (cs:List Value),d4 h st as cs→d5 as
 | [],_,x=>trivial
 | a::as,cs,x=>by
  simp only[d4] at x
  obtain⟨v,r,e,x1,x2⟩:=x
  exact⟨VC.fits a _ x1.2,d4.fits as r x2⟩
theorem dP.fits{b:Nat}:∀(as:List AV) (off:Nat),dP h st b off as→d5 as
 | [],_,x=>trivial
 | a::as,off,x=>by
  simp only[dP] at x
  obtain⟨⟨cs,_,_,x3⟩,x4⟩:=x
  exact⟨VC.fits a cs x3,dP.fits as _ x4⟩
end
theorem aT.fits{a:AV}{v:Value}(x:aT h st a v):a.fits:=by
 cases a<;>first | trivial | exact VC.fits _ _ x.2
theorem dC.fits:∀ {as:List AV} {vs:List Value},dC h st as vs→d5 as
 | [],_,_=>trivial
 | a::as,vs,x=>by
  simp only[dC] at x
  obtain⟨v,r,_,x1,x2⟩:=x
  exact⟨x1.fits,dC.fits x2⟩
end
theorem zw6{P:Program}{g:FuncId}{fn:Func}{c:Code}{args:List AV}{st:aB}{N:Nat}{rs:List ResultVar}{K:AV→aB→Prop}(mt:List Nat)(hf:P.funcs[g]?=some fn)(hN:fn.ntmps=N)(hr:fn.results=rs.toArray)(hb:fn.body=some c)(hn:(fn.name == "runtime.NumGoroutine")=false)
 (hok:codeOk N c=true) (sL:args.length≤N) (e:d5 args→gT P N mt c (JI P rs.toArray K) (vG 0 args) st):aD P g args st K:=by
 subst hN
 rw[←hr] at e
 exact⟨⟨fn,hf,by simp [hb],hn⟩,fun w vs S V=>(aT7 mt hf hb hn hok sL (e V.fits)).2 w vs S V⟩
def k9:List (Nat×AV)→AF
 | []=>AF.bot
 | (d,v)::l=>(k9 l).aC d v
def CA(φ:AF):List (Nat×AV)→Prop
 | []=>True
 | (d,v)::l=>φ d=v∧CA φ l
theorem gM.k9{φ:AF}{st:aB}:∀ {l:List (Nat×AV)},CA φ l→gM φ st (k9 l) st
 | [],_=>gM.bot φ st
 | (d,v)::l,h=>(gM.k9 h.2).aC h.1
theorem aGN{φ:AF}:CA φ []=True:=rfl
theorem aGO{φ:AF}{d:Nat}{v:AV}{l:List (Nat×AV)}:CA φ ((d,v)::l)=(φ d=v∧CA φ l):=rfl
theorem aD.to{P:Program}{g:FuncId}{args:List AV}{st:aB}{r:AV}{K:AV→aB→Prop}(x:aD P g args st (fun r' st'=>r'=r∧st'=st))(h:K r st):aD P g args st K:=
 x.mono fun _ _ ⟨e1,e2⟩=>by rw[e1,e2];exact h
theorem HA{P:Program}{N:Nat}(mt:List Nat){c:Code}{Q:Exit→AF→aB→Prop}{φ:AF}{st:aB}(hok:codeOk N c=true)(e:gT P N mt c Q φ st):g7 P N c Q φ st:=BJ c Q φ st hok e
def xO(l:List (Nat×AV)):AF:=k9 l
theorem aGH:xO []=AF.bot:=rfl
theorem aGG{d:Nat}{v:AV}{l:List (Nat×AV)}:xO ((d,v)::l)=(xO l).aC d v:=rfl
def aN(φ:AF)(st:aB)(l:List (Nat×AV))(st':aB):Prop:=gM φ st (k9 l) st'
theorem aN.mk{φ:AF}{st:aB}{l:List (Nat×AV)}(h:CA φ l):aN φ st l st:=gM.k9 h
theorem aN.drop{φ:AF}{st st':aB}{l:List (Nat×AV)}(d:aL st st')(h:CA φ l):aN φ st l st':=(gM.drop d).trans (gM.k9 h)
theorem pP{P:Program}{N:Nat}{c:Code}{Q:Exit→AF→aB→Prop}{φ:AF}{st:aB}{α:Type}(mt:List Nat)(inv:α→Prop)(fl:α→List (Nat×AV))(so:α→aB)(μ:α→Nat)(hok:codeOk N c=true)
 (h0:∃s,inv s∧aN φ st (fl s) (so s))
 (h1:∀s,inv s→gT P N mt c (qJ (fun φ' st'=>∃s',μ s'<μ s∧inv s'∧aN φ' st' (fl s') (so s')) Q) (xO (fl s)) (so s)):g7 P N (.loop c) Q φ st:=
 QX inv (fun s=>k9 (fl s)) so μ h0 fun s hs=>HA mt hok (h1 s hs)
theorem cS{P:Program}{mt:List Nat}{ops:Array Oper}{o:Oper}{l:List Oper}{K:AF→aB→Prop}{φ:AF}{st:aB}{c want:Bool}
 (h1:c=want→x9 P mt ops o l K φ st (some true)) (h2:c=(!want)→x9 P mt ops o l K φ st (some false)):x9 P mt ops o l K φ st (some (c == want)):=by
 cases c<;>cases want<;>first | exact h1 rfl | exact h2 rfl
def lD(o:Oper):Bool:=match o.op with
 | .call { callee:=.value _,.. }=>false
 | .call { callee:=.builtin .append,.. }=>false
 | .call { callee:=.builtin .delete,.. }=>false
 | .call { callee:=.builtin .clear,.. }=>false
 | .alloc _=>false
 | .store _ _ _=>false
 | .makeMap _ none=>false
 | .makeSlice _ _ _=>false
 | .mapUpdate _ _ _ _=>false
 | _=>true
theorem tV{P:Program}{φ:AF}{st:aB}{o:Oper}{K:AV→aB→Prop}(h:lD o=true):fY P [] φ st o K=match lV P φ st o with | some r=>K r st | none=>False:=by
 obtain⟨dst,op,type,pos,after,guard⟩:=o
 unfold fY
 split
 case h_5 t x e=>
  simp only at e
  subst e
  simp only[DJ,List.contains_nil,lV]
  cases dst<;>rfl
 case h_11=>rfl
 all_goals (rename_i e;simp only at e;subst e;simp [lD] at h)
def fT(P:Program)(ops:Array Oper)(st:aB):List Oper→(AF→Prop)→AF→Prop
 | [],K,φ=>K φ
 | o::rest,K,φ=>if lD o=true then bK P [] ops [o] (fun φ' _=>fT P ops st rest K φ') φ st else
  match o.guard,o.op with
  | none,.call { callee:=.value f,args,.. }=>∃r,tZ P (φ.eval f) (args.toList.map φ.eval) st (fun r' st'=>r'=r∧st'=st)∧fT P ops st rest K (φ.put o.dst r)
  | _,_=>False
theorem G1{P:Program}{ops:Array Oper}{st:aB}{K:AF→Prop}:∀(l:List Oper) (φ:AF),fT P ops st l K φ→qU P st ops l K φ
 | [],_,h=>h
 | o::rest,φ,h=>by
  simp only[fT] at h
  split at h
  · rename_i hp
    simp only[bK] at h
    simp only[qU]
    split at h
    · rename_i hg
      rw[tV hp] at h
      rw[hg]
      simp only
      split at h
      · rename_i r hr
        exact⟨r,by rw[tV hp,hr];exact⟨rfl,rfl⟩,G1 rest _ h⟩
      · cases h
    · rename_i hg
      rw[hg]
      exact G1 rest _ h
    · cases h
  · split at h
    · rename_i f args ats hg ho
      obtain⟨r,h1,h2⟩:=h
      simp only[qU,jW,hg]
      refine⟨r,?_,G1 rest _ h2⟩
      simp only[fY,ho]
      exact h1
    · cases h
theorem aCJ{P:Program}{ops:Array Oper}{st:aB}{K:AF→Prop}{φ:AF}:fT P ops st [] K φ=K φ:=rfl
def hK(P:Program)(ops:Array Oper)(st:aB)(rest:List Oper)(K:AF→Prop)(φ:AF)(_:aB):Prop:=fT P ops st rest K φ
theorem aGM{P:Program}{ops:Array Oper}{st st':aB}{K:AF→Prop}{φ:AF}{rest:List Oper}:hK P ops st rest K φ st'=fT P ops st rest K φ:=rfl
theorem lP{P:Program}{ops:Array Oper}{st:aB}{K:AF→Prop}{φ:AF}{o:Oper}{rest:List Oper}(h:lD o=true):fT P ops st (o::rest) K φ=bK P [] ops [o] (hK P ops st rest K) φ st:=by
 simp [fT,h]
 rfl
def y9(P:Program)(f:AV)(args:List AV)(st:aB)(K:AV→Prop):Prop:=∃r,tZ P f args st (fun r' st'=>r'=r∧st'=st)∧K r
def E6(P:Program)(ops:Array Oper)(st:aB)(rest:List Oper)(K:AF→Prop)(φ:AF)(dst:Option Tmp)(r:AV):Prop:=fT P ops st rest K (φ.put dst r)
theorem aTG{P:Program}{ops:Array Oper}{st:aB}{K:AF→Prop}{φ:AF}{rest:List Oper}{dst:Option Tmp}{f:Operand}{args:List Operand}{ats:Array TypeId}{type:TypeId}{pos:String}{after:Array Edge} :
 fT P ops st (⟨dst,.call { callee:=.value f,args:=args.toArray,argTypes:=ats },type,pos,after,none⟩::rest) K φ=y9 P (φ.eval f) (args.map φ.eval) st (E6 P ops st rest K φ dst):=by
 simp [fT,lD,y9,E6]
section
variable {P:Program} {ops:Array Oper} {st:aB} {K:AF→Prop} {φ:AF} {rest:List Oper} {dst:Option Tmp} {type:TypeId} {pos:String} {after:Array Edge} {g:Option (Nat×Bool)}
theorem aC5{f:Operand}{args:List Operand}{ats:Array TypeId} :
 fT P ops st (⟨dst,.call { callee:=.value f,args:=args.toArray,argTypes:=ats },type,pos,after,none⟩::rest) K φ=y9 P (φ.eval f) (args.map φ.eval) st (E6 P ops st rest K φ dst):=aTG
theorem aCK{x:Operand}:fT P ops st (⟨dst,.move x,type,pos,after,g⟩::rest) K φ=bK P [] ops [⟨dst,.move x,type,pos,after,g⟩] (hK P ops st rest K) φ st:=lP rfl
theorem aCW{x:Operand}:fT P ops st (⟨dst,.assign x,type,pos,after,g⟩::rest) K φ=bK P [] ops [⟨dst,.assign x,type,pos,after,g⟩] (hK P ops st rest K) φ st:=lP rfl
theorem aCX{c x y:Operand}:fT P ops st (⟨dst,.pick c x y,type,pos,after,g⟩::rest) K φ=bK P [] ops [⟨dst,.pick c x y,type,pos,after,g⟩] (hK P ops st rest K) φ st:=lP rfl
theorem aCY{op:BinOp}{t t':TypeId}{x y:Operand}:fT P ops st (⟨dst,.binOp op t x y t',type,pos,after,g⟩::rest) K φ=bK P [] ops [⟨dst,.binOp op t x y t',type,pos,after,g⟩] (hK P ops st rest K) φ st:=lP rfl
theorem aCZ{op:UnOp}{t:TypeId}{x:Operand}:fT P ops st (⟨dst,.unOp op t x,type,pos,after,g⟩::rest) K φ=bK P [] ops [⟨dst,.unOp op t x,type,pos,after,g⟩] (hK P ops st rest K) φ st:=lP rfl
theorem aC0{x:Operand}:fT P ops st (⟨dst,.nilCheck x,type,pos,after,g⟩::rest) K φ=bK P [] ops [⟨dst,.nilCheck x,type,pos,after,g⟩] (hK P ops st rest K) φ st:=lP rfl
theorem aC1{t f:Nat}{x:Operand}:fT P ops st (⟨dst,.fieldAddr t x f,type,pos,after,g⟩::rest) K φ=bK P [] ops [⟨dst,.fieldAddr t x f,type,pos,after,g⟩] (hK P ops st rest K) φ st:=lP rfl
theorem aC2{t:TypeId}{x:Operand}:fT P ops st (⟨dst,.load t x,type,pos,after,g⟩::rest) K φ=bK P [] ops [⟨dst,.load t x,type,pos,after,g⟩] (hK P ops st rest K) φ st:=lP rfl
theorem aC3{t f:Nat}{x:Operand}:fT P ops st (⟨dst,.field t x f,type,pos,after,g⟩::rest) K φ=bK P [] ops [⟨dst,.field t x f,type,pos,after,g⟩] (hK P ops st rest K) φ st:=lP rfl
theorem aCL{t:TypeId}{x i:Operand}:fT P ops st (⟨dst,.indexAddr t x i,type,pos,after,g⟩::rest) K φ=bK P [] ops [⟨dst,.indexAddr t x i,type,pos,after,g⟩] (hK P ops st rest K) φ st:=lP rfl
theorem aCM{t:TypeId}{x i:Operand}:fT P ops st (⟨dst,.index t x i,type,pos,after,g⟩::rest) K φ=bK P [] ops [⟨dst,.index t x i,type,pos,after,g⟩] (hK P ops st rest K) φ st:=lP rfl
theorem aCN{t:TypeId}{x:Operand}{lo hi mx:Option Operand}:fT P ops st (⟨dst,.slice t x lo hi mx,type,pos,after,g⟩::rest) K φ=bK P [] ops [⟨dst,.slice t x lo hi mx,type,pos,after,g⟩] (hK P ops st rest K) φ st:=lP rfl
theorem aCO{x:Operand}{i:Nat}:fT P ops st (⟨dst,.extract x i,type,pos,after,g⟩::rest) K φ=bK P [] ops [⟨dst,.extract x i,type,pos,after,g⟩] (hK P ops st rest K) φ st:=lP rfl
theorem aCP{t:TypeId}{ps:Array (Nat×Operand)}:fT P ops st (⟨dst,.build t ps,type,pos,after,g⟩::rest) K φ=bK P [] ops [⟨dst,.build t ps,type,pos,after,g⟩] (hK P ops st rest K) φ st:=lP rfl
theorem aCQ{t:TypeId}{n:Nat}{ps:Array (Nat×Operand)}:fT P ops st (⟨dst,.buildSlice t n ps,type,pos,after,g⟩::rest) K φ=bK P [] ops [⟨dst,.buildSlice t n ps,type,pos,after,g⟩] (hK P ops st rest K) φ st:=lP rfl
theorem aCR{t u:TypeId}{x:Operand}:fT P ops st (⟨dst,.convert t u x,type,pos,after,g⟩::rest) K φ=bK P [] ops [⟨dst,.convert t u x,type,pos,after,g⟩] (hK P ops st rest K) φ st:=lP rfl
theorem aCS{t:TypeId}{x i:Operand}{ok:Bool}:fT P ops st (⟨dst,.lookup t x i ok,type,pos,after,g⟩::rest) K φ=bK P [] ops [⟨dst,.lookup t x i ok,type,pos,after,g⟩] (hK P ops st rest K) φ st:=lP rfl
theorem aCT{x:Operand}{t:TypeId}:fT P ops st (⟨dst,.call { callee:=.builtin .len,args:=#[x],argTypes:=#[t] },type,pos,after,g⟩::rest) K φ=bK P [] ops [⟨dst,.call { callee:=.builtin .len,args:=#[x],argTypes:=#[t] },type,pos,after,g⟩] (hK P ops st rest K) φ st:=lP rfl
theorem aCU{x y:Operand}{ts:Array TypeId}:fT P ops st (⟨dst,.call { callee:=.builtin .max,args:=#[x,y],argTypes:=ts },type,pos,after,g⟩::rest) K φ=bK P [] ops [⟨dst,.call { callee:=.builtin .max,args:=#[x,y],argTypes:=ts },type,pos,after,g⟩] (hK P ops st rest K) φ st:=lP rfl
theorem aCV{x y:Operand}{ts:Array TypeId}:fT P ops st (⟨dst,.call { callee:=.builtin .min,args:=#[x,y],argTypes:=ts },type,pos,after,g⟩::rest) K φ=bK P [] ops [⟨dst,.call { callee:=.builtin .min,args:=#[x,y],argTypes:=ts },type,pos,after,g⟩] (hK P ops st rest K) φ st:=lP rfl
end
theorem aC4{P:Program}{ops:Array Oper}{st:aB}{K:AF→Prop}{φ:AF}{rest:List Oper}{dst:Option Tmp}{r:AV}:E6 P ops st rest K φ dst r=fT P ops st rest K (φ.put dst r):=rfl
theorem iE{P:Program}{g:FuncId}{args:List AV}{st:aB}{r:AV}{K:AV→Prop}(x:aD P g args st (fun r' st'=>r'=r∧st'=st))(h:K r):y9 P (.func g []) args st K:=⟨r,by show aD P g (args++ []) st _;rw[gI];exact x,h⟩
@[congr] theorem bAH {P:Program} {ops:Array Oper} {l:List Oper} {K:AF→Prop} {φ φ':AF} {st st':aB} (h1:φ=φ') (h2:st=st'):fT P ops st l K φ=fT P ops st' l K φ':=by rw[h1,h2]
@[congr] theorem bAO {P:Program} {f f':AV} {args args':List AV} {st st':aB} {K:AV→Prop} (h0:f=f') (h1:args=args') (h2:st=st'):y9 P f args st K=y9 P f' args' st' K:=by rw[h0,h1,h2]
@[congr] theorem bAR {P:Program} {ops:Array Oper} {l:List Oper} {K:AF→Prop} {φ:AF} {st:aB} {dst:Option Tmp} {r r':AV} (h1:r=r'):E6 P ops st l K φ dst r=E6 P ops st l K φ dst r':=by rw[h1]
def TL(ops:Array Oper):Nat:=(ops.toList.findIdx fun o=> !lD o)
theorem LJ{P:Program}{st:aB}{N:Nat}{id:Nat}{ops:Array Oper}{Q:Exit→AF→aB→Prop}{φ:AF}(hm:P.follows .mixedOrders=true)(hok:qM N ops=true)(hB:Region.lexTailB .any ops (TL ops)=true)
 (h:bK P [] ops ops.toList (Q .normal) φ st):g7 P N (.region id ops true) Q φ st:=by
 refine aUO (TL ops) hm hok hB (G1 _ _ ?_)
 have key:∀(l1 l2:List Oper) (φ:AF),(∀o∈l1,lD o=true)→bK P [] ops (l1++l2) (Q .normal) φ st→fT P ops st l1 (fun φ'=>bK P [] ops l2 (Q .normal) φ' st) φ:=by
  intro l1
  induction l1 with
  | nil=>intro l2 φ _ h;exact h
  | cons o l1 ih=>
   intro l2 φ hp h
   have ho:=hp o (by simp)
   have hr:∀o∈l1,lD o=true:=fun o h=>hp o (by simp [h])
   simp only[fT,ho,gB,bK]
   simp only[fQ,bK] at h
   split at h
   · rename_i hg
     rw[tV ho] at h
     rw[tV ho]
     split at h
     · rename_i hr2
       first | rw[hr2] | skip
       exact ih l2 _ hr h
     · cases h
   · exact ih l2 _ hr h
   · cases h
 refine key _ _ φ (fun o ho=>?_) (by rw[rX];exact h)
 obtain⟨i,hi,rfl⟩:=List.getElem_of_mem ho
 rw[dQ] at hi
 have h2:=List.not_of_lt_findIdx (p:=fun o=> !lD o) (xs:=ops.toList) (i:=i) (by have:TL ops=ops.toList.findIdx (fun o=> !lD o):=rfl;omega)
 simpa using h2
def D1(P:Program)(ops:Array Oper)(st:aB)(K:AF→aB→Prop):Nat→List Oper→AF→Prop
 | 0,l,φ=>bK P [] ops l K φ st
 | _+1,[],_=>False
 | n+1,o::rest,φ=>fT P ops st [o] (D1 P ops st K n rest) φ
theorem aC7{P:Program}{ops:Array Oper}{st:aB}{K:AF→aB→Prop}{l:List Oper}{φ:AF}:D1 P ops st K 0 l φ=bK P [] ops l K φ st:=rfl
theorem aC8{P:Program}{ops:Array Oper}{st:aB}{K:AF→aB→Prop}{n:Nat}{o:Oper}{l:List Oper}{φ:AF}:D1 P ops st K (n+1) (o::l) φ=fT P ops st [o] (D1 P ops st K n l) φ:=rfl
theorem aK9{P:Program}{mt:List Nat}{l:List Oper}{st:aB}{K:AF→aB→Prop}{φ:AF}:bK P mt l.toArray l.toArray.toList K φ st=bK P mt l.toArray l K φ st:=rfl
theorem aLA{P:Program}{l:List Oper}{st:aB}{K:AF→Prop}{φ:AF}:fT P l.toArray st l.toArray.toList K φ=fT P l.toArray st l K φ:=rfl
theorem aLB{P:Program}{n:Nat}{l:List Oper}{st:aB}{K:AF→aB→Prop}{φ:AF}:D1 P l.toArray st K n l.toArray.toList φ=D1 P l.toArray st K n l φ:=rfl
def aCD(Q:Exit→AF→aB→Prop)(st:aB)(φ:AF):Prop:=Q .normal φ st
theorem aF7{Q:Exit→AF→aB→Prop}{st:aB}{φ:AF}:aCD Q st φ=Q .normal φ st:=rfl
theorem xA{P:Program}{st:aB}{N:Nat}{id:Nat}{ops:Array Oper}{Q:Exit→AF→aB→Prop}{φ:AF}(hm:P.follows .mixedOrders=true)(hok:qM N ops=true)(hB:Region.lexB .any ops=true)
 (h:fT P ops st ops.toList (aCD Q st) φ):g7 P N (.region id ops true) Q φ st:=
 aUP hm hok hB (G1 _ _ h)
theorem aGU:AV.junk.isAgg=false:=rfl
theorem aLV:AV.junk.width=1:=rfl
theorem aHB:AV.junk.cH=true:=rfl
theorem aFQ:AV.junk.cells= [AV.junk]:=rfl
theorem aJU:AV.junk.storable=false:=rfl
theorem aG5:AV.undef.isAgg=false:=rfl
theorem aL6:AV.undef.width=1:=rfl
theorem aHM:AV.undef.cH=false:=rfl
theorem aF1:AV.undef.cells= [AV.undef]:=rfl
theorem aJ4:AV.undef.storable=false:=rfl
theorem aGT{k:IntKind}{n:Int}:(AV.int k n).isAgg=false:=rfl
theorem aLU{k:IntKind}{n:Int}:(AV.int k n).width=1:=rfl
theorem aHA{k:IntKind}{n:Int}:(AV.int k n).cH=false:=rfl
theorem aFP{k:IntKind}{n:Int}:(AV.int k n).cells= [(AV.int k n)]:=rfl
theorem aJT{k:IntKind}{n:Int}:(AV.int k n).storable=true:=rfl
theorem aGQ{b:Bool}:(AV.bool b).isAgg=false:=rfl
theorem aLR{b:Bool}:(AV.bool b).width=1:=rfl
theorem aG7{b:Bool}:(AV.bool b).cH=false:=rfl
theorem aFM{b:Bool}:(AV.bool b).cells= [(AV.bool b)]:=rfl
theorem aJQ{b:Bool}:(AV.bool b).storable=true:=rfl
theorem aG3{s:ByteArray}:(AV.str s).isAgg=false:=rfl
theorem aL4{s:ByteArray}:(AV.str s).width=1:=rfl
theorem aHK{s:ByteArray}:(AV.str s).cH=false:=rfl
theorem aFZ{s:ByteArray}:(AV.str s).cells= [(AV.str s)]:=rfl
theorem aJ2{s:ByteArray}:(AV.str s).storable=true:=rfl
theorem aG4{vs:List AV}:(AV.tup vs).isAgg=false:=rfl
theorem aL5{vs:List AV}:(AV.tup vs).width=1:=rfl
theorem aHL{vs:List AV}:(AV.tup vs).cH=false:=rfl
theorem aF0{vs:List AV}:(AV.tup vs).cells= [(AV.tup vs)]:=rfl
theorem aJ3{vs:List AV}:(AV.tup vs).storable=false:=rfl
theorem aG2{es:List AV}:(AV.slice es).isAgg=false:=rfl
theorem aL3{es:List AV}:(AV.slice es).width=1:=rfl
theorem aHJ{es:List AV}:(AV.slice es).cH=false:=rfl
theorem aFY{es:List AV}:(AV.slice es).cells= [(AV.slice es)]:=rfl
theorem aJ1{es:List AV}:(AV.slice es).storable=true:=rfl
theorem aGR{es:List AV}:(AV.fslice es).isAgg=false:=rfl
theorem aLS{es:List AV}:(AV.fslice es).width=1:=rfl
theorem aG8{es:List AV}:(AV.fslice es).cH=false:=rfl
theorem aFN{es:List AV}:(AV.fslice es).cells= [(AV.fslice es)]:=rfl
theorem aJR{es:List AV}:(AV.fslice es).storable=true:=rfl
theorem aGW{b:Nat}{o:Nat}{l:Nat}{m:Nat}:(AV.mslice b o l m).isAgg=false:=rfl
theorem aLX{b:Nat}{o:Nat}{l:Nat}{m:Nat}:(AV.mslice b o l m).width=1:=rfl
theorem aHD{b:Nat}{o:Nat}{l:Nat}{m:Nat}:(AV.mslice b o l m).cH=false:=rfl
theorem aFS{b:Nat}{o:Nat}{l:Nat}{m:Nat}:(AV.mslice b o l m).cells= [(AV.mslice b o l m)]:=rfl
theorem aJW{b:Nat}{o:Nat}{l:Nat}{m:Nat}:(AV.mslice b o l m).storable=true:=rfl
theorem aGY:AV.nilptr.isAgg=false:=rfl
theorem aLZ:AV.nilptr.width=1:=rfl
theorem aHF:AV.nilptr.cH=false:=rfl
theorem aFU:AV.nilptr.cells= [AV.nilptr]:=rfl
theorem aJY:AV.nilptr.storable=true:=rfl
theorem aG0{b:Nat}{o:Nat}:(AV.ptr b o).isAgg=false:=rfl
theorem aL1{b:Nat}{o:Nat}:(AV.ptr b o).width=1:=rfl
theorem aHH{b:Nat}{o:Nat}:(AV.ptr b o).cH=false:=rfl
theorem aFW{b:Nat}{o:Nat}:(AV.ptr b o).cells= [(AV.ptr b o)]:=rfl
theorem aJ0{b:Nat}{o:Nat}:(AV.ptr b o).storable=true:=rfl
theorem aGZ{e:AV}:(AV.pptr e).isAgg=false:=rfl
theorem aL0{e:AV}:(AV.pptr e).width=1:=rfl
theorem aHG{e:AV}:(AV.pptr e).cH=false:=rfl
theorem aFV{e:AV}:(AV.pptr e).cells= [(AV.pptr e)]:=rfl
theorem aJZ{e:AV}:(AV.pptr e).storable=true:=rfl
theorem aGX:AV.nilmap.isAgg=false:=rfl
theorem aLY:AV.nilmap.width=1:=rfl
theorem aHE:AV.nilmap.cH=false:=rfl
theorem aFT:AV.nilmap.cells= [AV.nilmap]:=rfl
theorem aJX:AV.nilmap.storable=true:=rfl
theorem aGV{b:Nat}:(AV.map b).isAgg=false:=rfl
theorem aLW{b:Nat}:(AV.map b).width=1:=rfl
theorem aHC{b:Nat}:(AV.map b).cH=false:=rfl
theorem aFR{b:Nat}:(AV.map b).cells= [(AV.map b)]:=rfl
theorem aJV{b:Nat}:(AV.map b).storable=true:=rfl
theorem aGS{f:FuncId}{cs:List AV}:(AV.func f cs).isAgg=false:=rfl
theorem aLT{f:FuncId}{cs:List AV}:(AV.func f cs).width=1:=rfl
theorem aG9{f:FuncId}{cs:List AV}:(AV.func f cs).cH=false:=rfl
theorem aFO{f:FuncId}{cs:List AV}:(AV.func f cs).cells= [(AV.func f cs)]:=rfl
theorem aJS{f:FuncId}{cs:List AV}:(AV.func f cs).storable=true:=rfl
theorem aG1{v:Value}:(AV.raw v).isAgg=false:=rfl
theorem aL2{v:Value}:(AV.raw v).width=1:=rfl
theorem aHI{v:Value}:(AV.raw v).cH=false:=rfl
theorem aFX{v:Value}:(AV.raw v).cells= [(AV.raw v)]:=rfl
theorem aGP{cs:List AV}:(AV.agg cs).isAgg=true:=rfl
theorem aLQ{cs:List AV}:(AV.agg cs).width=cs.length:=rfl
theorem aG6{cs:List AV}:(AV.agg cs).cH=false:=rfl
theorem aFL{cs:List AV}:(AV.agg cs).cells=cs:=rfl
theorem aFJ:((0:Nat):Int)=0:=rfl
theorem aFK{n:Nat}:((n+1:Nat):Int)=(n:Int)+1:=rfl
theorem gZ{st:aB}{b x:Nat}{o:AO}:(st.aC b o) x=if x=b then some o else st x:=rfl
theorem wrap64{n:Int}(h1: -9223372036854775808≤n)(h2:n≤9223372036854775807):IntKind.wrap .i64 n=n:=by
 rw[IntKind.wrap_i64];omega
end Go.AW
