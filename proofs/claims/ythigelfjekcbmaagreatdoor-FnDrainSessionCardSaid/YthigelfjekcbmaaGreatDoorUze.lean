/- Smaller stores, frozen slices, sizes, frames as lists, regions that draw. -/
import Derived.Test.YthigelfjekcbmaaGreatDoorUzd
set_option linter.unusedSimpArgs false
set_option linter.unusedVariables false
set_option maxRecDepth 100000
namespace Go.AW
def aL(st st':aB):Prop:=∀b,(st b=none→st' b=none)∧∀o,st' b=some o→st b=some o
theorem aL.refl(st:aB):aL st st:=fun _=>⟨id,fun _=>id⟩
theorem aL.trans{a b c:aB}(x:aL a b)(y:aL b c):aL a c:=fun i=>⟨fun h=>(y i).1 ((x i).1 h),fun o h=>(x i).2 o ((y i).2 o h)⟩
theorem aL.aC{st st':aB}(x:aL st st'){b:Nat}{o:AO}(h:st' b=none):aL (st.aC b o) st':=fun i=>by
 simp only[aB.aC]
 split
 · rename_i e;subst e;exact⟨fun _=>h,fun o' h'=>by rw[h] at h';cases h'⟩
 · exact x i
theorem kJ(st:aB)(b:Nat):aL st (st.erase b):=fun i=>by
 simp only[aB.erase]
 split
 · exact⟨fun _=>rfl,fun o' h'=>by cases h'⟩
 · exact⟨id,fun _=>id⟩
theorem aL.step{st st':aB}(x:aL st st')(h:bS):cL h st h st':=⟨dC _,fun b _ e=>⟨rfl,(x b).1 e⟩,fun _ c _ _ e=>⟨c,e,rfl⟩⟩
theorem aL.GN{st st':aB}(x:aL st st'){h:bS}(S:dD h st):dD h st':=fun b o e=>by
 obtain⟨h1,h2⟩:=S b o ((x b).2 o e)
 refine⟨h1,?_⟩
 cases o with
 | cells as=>
  obtain⟨c,t,e1,e2,vs,e3,e4⟩:=h2
  exact⟨c,t,e1,e2,vs,e3,bD.mono (x.step h) _ _ e4⟩
 | map f=>
  obtain⟨es,clock,e1,e2,e3,e4⟩:=h2
  refine⟨es,clock,e1,e2,e3,fun n=>?_⟩
  have:=e4 n
  cases hf:f n with
  | none=>rw[hf] at this;exact this
  | some a=>
   rw[hf] at this
   obtain⟨e,m,k,v⟩:=this
   exact⟨e,m,k,v.mono (x.step h)⟩
theorem aL.tO{st st':aB}(x:aL st st'):zB st st':=fun h S=>⟨x.GN S,x.step h⟩
theorem aL.nY{st st':aB}(x:aL st st')(r:AV):qG st r st' r:=fun h _ _ y=>y.mono (x.step h)
theorem aD.drop{P:Program}{g:FuncId}{args:List AV}{st:aB}{Q:AV→Prop}(x:aD P g args st (fun r st'=>aL st' st∧Q r)):aD P g args st (fun r st'=>Q r∧st'=st):=
 x.nY fun r st' ⟨h1,h2⟩=>⟨r,st,h1.tO,h1.nY r,h2,rfl⟩
mutual
def AV.fz(b:Nat)(es:List AV):AV→AV
 | .mslice b' 0 n sz=>if b'=b∧n=es.length then .slice es else .mslice b' 0 n sz
 | .agg cs=>.agg (lC b es cs)
 | .tup vs=>.tup (lC b es vs)
 | a=>a
def lC(b:Nat)(es:List AV):List AV→List AV
 | []=>[]
 | a::as=>AV.fz b es a::lC b es as
end
theorem aNK(b:Nat)(es:List AV)(a:AV):(a.fz b es).isAgg=a.isAgg:=by
 cases a<;>try rfl
 case mslice b' off n sz=>
  cases off with
  | zero=>simp only[AV.fz];split<;>rfl
  | succ k=>rfl
section
variable {h:bS} {st:aB} {b:Nat} {es:List AV}
theorem frozen(S:dD h st)(hb:st b=some (.cells (es.flatMap AV.cells)))(hj:∀e∈es,e.cJ=false):b<h.size∧dF h (st.erase b) b 0 es:=by
 obtain⟨h1,c,t,e1,e2,vs,e3,e4⟩:=S b _ hb
 exact⟨h1,dF.mono ((kJ st b).step h) b rfl _ _ (HK hj e3 e4)⟩
theorem VC.a0W{b' off n sz:Nat}{cs:List Value}(S:dD h st)(hb:st b=some (.cells (es.flatMap AV.cells)))(hj:∀e∈es,e.cJ=false)(hE:iU es)(x:VC h st (.mslice b' off n sz) cs):VC h (st.erase b) ((AV.mslice b' off n sz).fz b es) cs:=by
 have x0:VC h (st.erase b) (.mslice b' off n sz) cs:=VC.mono ((kJ st b).step h) _ _ x
 cases off with
 | succ k=>exact x0
 | zero=>
  simp only[AV.fz]
  split
  · rename_i e
    obtain⟨rfl,rfl⟩:=e
    simp only[VC] at x
    obtain⟨cap,e1,l1,l2,c,t,_,_⟩:=x
    obtain⟨hs,hE'⟩:=frozen S hb hj
    unfold VC
    exact .inr ⟨b',0,cap,e1,l1,l2,aB.aCE _ _,hs,hE,hE'⟩
  · exact x0
mutual
theorem VC.fz(S:dD h st)(hb:st b=some (.cells (es.flatMap AV.cells)))(hj:∀e∈es,e.cJ=false)(hE:iU es):∀(a:AV) (cs:List Value),VC h st a cs→VC h (st.erase b) (a.fz b es) cs
 | .mslice b' off n sz,cs,x=>VC.a0W S hb hj hE x
 | .agg as,cs,x=>by simp only[VC,AV.fz] at x ⊢;exact bD.fz S hb hj hE as cs x
 | .tup as,cs,x=>by
  simp only[VC,AV.fz] at x ⊢
  obtain⟨vs,e,r⟩:=x
  exact⟨vs,e,d6.fz S hb hj hE as vs r⟩
 | .junk,cs,x=>VC.mono ((kJ st b).step h) _ _ x
 | .undef,cs,x=>VC.mono ((kJ st b).step h) _ _ x
 | .int _ _,cs,x=>VC.mono ((kJ st b).step h) _ _ x
 | .bool _,cs,x=>VC.mono ((kJ st b).step h) _ _ x
 | .str _,cs,x=>VC.mono ((kJ st b).step h) _ _ x
 | .slice _,cs,x=>VC.mono ((kJ st b).step h) _ _ x
 | .fslice _,cs,x=>VC.mono ((kJ st b).step h) _ _ x
 | .nilptr,cs,x=>VC.mono ((kJ st b).step h) _ _ x
 | .ptr _ _,cs,x=>VC.mono ((kJ st b).step h) _ _ x
 | .pptr _,cs,x=>VC.mono ((kJ st b).step h) _ _ x
 | .nilmap,cs,x=>VC.mono ((kJ st b).step h) _ _ x
 | .map _,cs,x=>VC.mono ((kJ st b).step h) _ _ x
 | .func _ _,cs,x=>VC.mono ((kJ st b).step h) _ _ x
 | .raw _,cs,x=>VC.mono ((kJ st b).step h) _ _ x
 | .eslice,cs,x=>VC.mono ((kJ st b).step h) _ _ x
theorem bD.fz(S:dD h st)(hb:st b=some (.cells (es.flatMap AV.cells)))(hj:∀e∈es,e.cJ=false)(hE:iU es):∀(as:List AV) (cs:List Value),bD h st as cs→bD h (st.erase b) (lC b es as) cs
 | [],_,x=>x
 | a::as,cs,x=>by
  simp only[bD,lC] at x ⊢
  obtain⟨c,r,e,x1,x2⟩:=x
  exact⟨c,r,e,VC.fz S hb hj hE a [c] x1,bD.fz S hb hj hE as r x2⟩
theorem d6.fz(S:dD h st)(hb:st b=some (.cells (es.flatMap AV.cells)))(hj:∀e∈es,e.cJ=false)(hE:iU es):∀(as:List AV) (cs:List Value),d6 h st as cs→d6 h (st.erase b) (lC b es as) cs
 | [],_,x=>x
 | a::as,cs,x=>by
  simp only[d6,lC] at x ⊢
  obtain⟨v,r,e,x1,x2⟩:=x
  exact⟨v,r,e,⟨(aNK b es a).trans x1.1,VC.fz S hb hj hE a _ x1.2⟩,d6.fz S hb hj hE as r x2⟩
end
theorem aR.fz{a:AV}{v:Value}(S:dD h st)(hb:st b=some (.cells (es.flatMap AV.cells)))(hj:∀e∈es,e.cJ=false)(hE:iU es)(x:aR h st a v):aR h (st.erase b) (a.fz b es) v:=by
 have key:a.isAgg=lY v∧VC h st a v.cells.toList→aR h (st.erase b) (a.fz b es) v:=fun x=>by
  have y:(a.fz b es).isAgg=lY v∧VC h (st.erase b) (a.fz b es) v.cells.toList:=⟨(aNK b es a).trans x.1,VC.fz S hb hj hE a _ x.2⟩
  cases hq:a.fz b es<;>rw[hq] at y<;>first | trivial | exact y
 cases a<;>first | trivial | exact key x
end
theorem fV.freeze{φ:AF}{st:aB}{b:Nat}{es:List AV}(h1:st b=some (.cells (es.flatMap AV.cells)))(h2:∀e∈es,e.cJ=false)(h3:iU es):fV φ st (fun d=>(φ d).fz b es) (st.erase b):=
 fun h _ S F=>⟨(kJ st b).GN S,(kJ st b).step h,fun d=>(F d).fz S h1 h2 h3⟩
theorem fV.drop{φ:AF}{st st':aB}(x:aL st st'):fV φ st φ st':=fun h _ S F=>⟨x.GN S,x.step h,fun d=>(F d).mono (x.step h)⟩
mutual
def AV.soft:AV→AV
 | .fslice es=>.slice es
 | .agg cs=>.agg (jA cs)
 | .tup vs=>.tup (jA vs)
 | a=>a
def jA:List AV→List AV
 | []=>[]
 | a::as=>a.soft::jA as
end
theorem a6S(a:AV):a.soft.isAgg=a.isAgg:=by cases a<;>rfl
section
variable {h:bS} {st:aB}
mutual
theorem VC.soft:∀(a:AV) (cs:List Value),VC h st a cs→VC h st a.soft cs
 | .fslice es,cs,x=>by
  simp only[AV.soft]
  unfold VC at x ⊢
  rcases x with x | ⟨b,off,e,l,r⟩
  · exact .inl x
  · exact .inr ⟨b,off,es.length,e,dC _,l,r⟩
 | .agg as,cs,x=>by simp only[VC,AV.soft] at x ⊢;exact bD.soft as cs x
 | .tup as,cs,x=>by
  simp only[VC,AV.soft] at x ⊢
  obtain⟨vs,e,r⟩:=x
  exact⟨vs,e,d6.soft as vs r⟩
 | .mslice _ _ _ _,cs,x=>x
 | .junk,cs,x=>x
 | .undef,cs,x=>x
 | .int _ _,cs,x=>x
 | .bool _,cs,x=>x
 | .str _,cs,x=>x
 | .slice _,cs,x=>x
 | .nilptr,cs,x=>x
 | .ptr _ _,cs,x=>x
 | .pptr _,cs,x=>x
 | .nilmap,cs,x=>x
 | .map _,cs,x=>x
 | .func _ _,cs,x=>x
 | .raw _,cs,x=>x
 | .eslice,cs,x=>x
theorem bD.soft:∀(as:List AV) (cs:List Value),bD h st as cs→bD h st (jA as) cs
 | [],_,x=>x
 | a::as,cs,x=>by
  simp only[bD,jA] at x ⊢
  obtain⟨c,r,e,x1,x2⟩:=x
  exact⟨c,r,e,VC.soft a [c] x1,bD.soft as r x2⟩
theorem d6.soft:∀(as:List AV) (cs:List Value),d6 h st as cs→d6 h st (jA as) cs
 | [],_,x=>x
 | a::as,cs,x=>by
  simp only[d6,jA] at x ⊢
  obtain⟨v,r,e,x1,x2⟩:=x
  exact⟨v,r,e,⟨(a6S a).trans x1.1,VC.soft a _ x1.2⟩,d6.soft as r x2⟩
end
theorem aR.soft{a:AV}{v:Value}(x:aR h st a v):aR h st a.soft v:=by
 cases a
 case fslice=>exact x.JA
 case agg=>exact⟨x.1,VC.soft _ _ x.2⟩
 case tup=>exact⟨x.1,VC.soft _ _ x.2⟩
 all_goals exact x
end
theorem aD.soft{P:Program}{g:FuncId}{args:List AV}{st:aB}{Q:AV→aB→Prop}(x:aD P g args st (fun r st'=>Q r.soft st')):aD P g args st Q:=
 x.nY fun r st' h=>⟨r.soft,st',(aL.refl st').tO,fun _ _ _ y=>y.soft,h⟩
theorem aD.rD{P:Program}{g:FuncId}{args:List AV}{st:aB}{Q:AV→aB→Prop}(x:aD P g (jA args) st Q):aD P g args st Q:=
 x.args fun hp=>by
  have:∀(as:List AV) (vs:List Value),cZ hp st as vs→cZ hp st (jA as) vs:=by
   intro as
   induction as with
   | nil=>intro vs y;exact y
   | cons a as ih=>
    intro vs y
    simp only[cZ,jA] at y ⊢
    obtain⟨v,r,rfl,y1,y2⟩:=y
    exact⟨v,r,rfl,y1.soft,ih r y2⟩
  exact fun vs _=>this args vs
mutual
def AV.fits:AV→Prop
 | .str s=>s.size≤9223372036854775807
 | .agg cs=>eQ cs
 | .tup vs=>eQ vs
 | .slice es=>es.length≤9223372036854775807∧eQ es
 | .fslice es=>es.length≤9223372036854775807∧eQ es
 | .mslice _ _ n _=>n≤9223372036854775807
 | .pptr e=>e.fits
 | _=>True
def eQ:List AV→Prop
 | []=>True
 | a::as=>a.fits∧eQ as
end
section
variable {h:bS} {st:aB}
mutual
theorem VC.fits:∀(a:AV) (cs:List Value),VC h st a cs→a.fits
 | .str s,cs,x=>by simp only[VC,maxLen] at x;exact x.2
 | .agg as,cs,x=>by simp only[VC,AV.fits] at x ⊢;exact bD.fits as cs x
 | .tup as,cs,x=>by
  simp only[VC,AV.fits] at x ⊢
  obtain⟨vs,e,r⟩:=x
  exact d6.fits as vs r
 | .slice es,cs,x=>by
  simp only[VC,AV.fits] at x ⊢
  rcases x with ⟨⟨p0,_⟩,rfl⟩ | ⟨b,off,cap,_,l1,l2,_,_,_,r⟩
  · exact⟨by simp,trivial⟩
  · exact⟨oZ l1 l2,dF.fits es off r⟩
 | .fslice es,cs,x=>by
  simp only[VC,AV.fits] at x ⊢
  rcases x with ⟨⟨p0,_⟩,rfl⟩ | ⟨b,off,_,l1,_,_,_,r⟩
  · exact⟨by simp,trivial⟩
  · exact⟨l1,dF.fits es off r⟩
 | .mslice _ _ n _,cs,x=>by
  simp only[VC,AV.fits] at x ⊢
  obtain⟨cap,_,l1,l2,_⟩:=x
  exact oZ l1 l2
 | .pptr e,cs,x=>by
  simp only[VC,AV.fits] at x ⊢
  obtain⟨b,off,_,_,_,vs,_,_,y⟩:=x
  exact VC.fits e vs y
 | .junk,cs,x=>trivial
 | .undef,cs,x=>trivial
 | .int _ _,cs,x=>trivial
 | .bool _,cs,x=>trivial
 | .nilptr,cs,x=>trivial
 | .ptr _ _,cs,x=>trivial
 | .nilmap,cs,x=>trivial
 | .map _,cs,x=>trivial
 | .func _ _,cs,x=>trivial
 | .raw _,cs,x=>trivial
 | .eslice,cs,x=>trivial
theorem bD.fits:∀(as:List AV) (cs:List Value),bD h st as cs→eQ as
 | [],_,x=>trivial
 | a::as,cs,x=>by
  simp only[bD] at x
  obtain⟨c,r,e,x1,x2⟩:=x
  exact⟨VC.fits a [c] x1,bD.fits as r x2⟩
theorem d6.fits:∀(as:List AV) (cs:List Value),d6 h st as cs→eQ as
 | [],_,x=>trivial
 | a::as,cs,x=>by
  simp only[d6] at x
  obtain⟨v,r,e,x1,x2⟩:=x
  exact⟨VC.fits a _ x1.2,d6.fits as r x2⟩
theorem dF.fits{b:Nat}:∀(as:List AV) (off:Nat),dF h st b off as→eQ as
 | [],_,x=>trivial
 | a::as,off,x=>by
  simp only[dF] at x
  obtain⟨⟨cs,_,_,x3⟩,x4⟩:=x
  exact⟨VC.fits a cs x3,dF.fits as _ x4⟩
end
theorem aR.fits{a:AV}{v:Value}(x:aR h st a v):a.fits:=by
 cases a<;>first | trivial | exact VC.fits _ _ x.2
theorem cZ.fits:∀ {as:List AV} {vs:List Value},cZ h st as vs→eQ as
 | [],_,_=>trivial
 | a::as,vs,x=>by
  simp only[cZ] at x
  obtain⟨v,r,_,x1,x2⟩:=x
  exact⟨x1.fits,cZ.fits x2⟩
end
theorem zw6{P:Program}{g:FuncId}{fn:Func}{c:Code}{args:List AV}{st:aB}{N:Nat}{rs:List ResultVar}{K:AV→aB→Prop}(mt:List Nat)(hf:P.funcs[g]?=some fn)(hN:fn.ntmps=N)(hr:fn.results=rs.toArray)(hb:fn.body=some c)(hn:(fn.name == "runtime.NumGoroutine")=false)
 (hok:codeOk N c=true) (sS:args.length≤N) (e:eQ args→gY P N mt c (KC P rs.toArray K) (vR 0 args) st):aD P g args st K:=by
 subst hN
 rw[←hr] at e
 exact⟨⟨fn,hf,by simp [hb],hn⟩,fun w vs S V=>(aUA mt hf hb hn hok sS (e V.fits)).2 w vs S V⟩
def lB:List (Nat×AV)→AF
 | []=>AF.bot
 | (d,v)::l=>(lB l).aC d v
def CQ(φ:AF):List (Nat×AV)→Prop
 | []=>True
 | (d,v)::l=>φ d=v∧CQ φ l
theorem fV.lB{φ:AF}{st:aB}:∀ {l:List (Nat×AV)},CQ φ l→fV φ st (lB l) st
 | [],_=>fV.bot φ st
 | (d,v)::l,h=>(fV.lB h.2).aC h.1
theorem aGM{φ:AF}:CQ φ []=True:=rfl
theorem aGN{φ:AF}{d:Nat}{v:AV}{l:List (Nat×AV)}:CQ φ ((d,v)::l)=(φ d=v∧CQ φ l):=rfl
theorem aD.to{P:Program}{g:FuncId}{args:List AV}{st:aB}{r:AV}{K:AV→aB→Prop}(x:aD P g args st (fun r' st'=>r'=r∧st'=st))(h:K r st):aD P g args st K:=
 x.mono fun _ _ ⟨e1,e2⟩=>by rw[e1,e2];exact h
theorem HX{P:Program}{N:Nat}(mt:List Nat){c:Code}{Q:Exit→AF→aB→Prop}{φ:AF}{st:aB}(hok:codeOk N c=true)(e:gY P N mt c Q φ st):g8 P N c Q φ st:=BT c Q φ st hok e
def xM(l:List (Nat×AV)):AF:=lB l
theorem aGG:xM []=AF.bot:=rfl
theorem aGF{d:Nat}{v:AV}{l:List (Nat×AV)}:xM ((d,v)::l)=(xM l).aC d v:=rfl
def aP(φ:AF)(st:aB)(l:List (Nat×AV))(st':aB):Prop:=fV φ st (lB l) st'
theorem aP.mk{φ:AF}{st:aB}{l:List (Nat×AV)}(h:CQ φ l):aP φ st l st:=fV.lB h
theorem aP.drop{φ:AF}{st st':aB}{l:List (Nat×AV)}(d:aL st st')(h:CQ φ l):aP φ st l st':=(fV.drop d).trans (fV.lB h)
theorem yP{P:Program}{N:Nat}{c:Code}{Q:Exit→AF→aB→Prop}{φ:AF}{st:aB}{α:Type}(mt:List Nat)(inv:α→Prop)(fl:α→List (Nat×AV))(so:α→aB)(μ:α→Nat)(hok:codeOk N c=true)
 (h0:∃s,inv s∧aP φ st (fl s) (so s))
 (h1:∀s,inv s→gY P N mt c (qX (fun φ' st'=>∃s',μ s'<μ s∧inv s'∧aP φ' st' (fl s') (so s')) Q) (xM (fl s)) (so s)):g8 P N (.loop c) Q φ st:=
 RL inv (fun s=>lB (fl s)) so μ h0 fun s hs=>HX mt hok (h1 s hs)
theorem cU{P:Program}{mt:List Nat}{ops:Array Oper}{o:Oper}{l:List Oper}{K:AF→aB→Prop}{φ:AF}{st:aB}{c want:Bool}
 (h1:c=want→x6 P mt ops o l K φ st (some true)) (h2:c=(!want)→x6 P mt ops o l K φ st (some false)):x6 P mt ops o l K φ st (some (c == want)):=by
 cases c<;>cases want<;>first | exact h1 rfl | exact h2 rfl
def lN(o:Oper):Bool:=match o.op with
 | .call { callee:=.value _,.. }=>false
 | .call { callee:=.builtin .append,.. }=>false
 | .call { callee:=.builtin .delete,.. }=>false
 | .alloc _=>false
 | .store _ _ _=>false
 | .makeMap _ none=>false
 | .makeSlice _ _ _=>false
 | .mapUpdate _ _ _ _=>false
 | _=>true
theorem t6{P:Program}{φ:AF}{st:aB}{o:Oper}{K:AV→aB→Prop}(h:lN o=true):fZ P [] φ st o K=match mA P φ st o with | some r=>K r st | none=>False:=by
 obtain⟨dst,op,type,pos,after,guard⟩:=o
 unfold fZ
 split
 case h_4 t x e=>
  simp only at e
  subst e
  simp only[D7,List.contains_nil,mA]
  cases dst<;>rfl
 case h_10=>rfl
 all_goals (rename_i e;simp only at e;subst e;simp [lN] at h)
def fQ(P:Program)(ops:Array Oper)(st:aB):List Oper→(AF→Prop)→AF→Prop
 | [],K,φ=>K φ
 | o::rest,K,φ=>if lN o=true then bJ P [] ops [o] (fun φ' _=>fQ P ops st rest K φ') φ st else
  match o.guard,o.op with
  | none,.call { callee:=.value f,args,.. }=>∃r,uB P (φ.eval f) (args.toList.map φ.eval) st (fun r' st'=>r'=r∧st'=st)∧fQ P ops st rest K (φ.put o.dst r)
  | _,_=>False
theorem HP{P:Program}{ops:Array Oper}{st:aB}{K:AF→Prop}:∀(l:List Oper) (φ:AF),fQ P ops st l K φ→rJ P st ops l K φ
 | [],_,h=>h
 | o::rest,φ,h=>by
  simp only[fQ] at h
  split at h
  · rename_i hp
    simp only[bJ] at h
    simp only[rJ]
    split at h
    · rename_i hg
      rw[t6 hp] at h
      rw[hg]
      simp only
      split at h
      · rename_i r hr
        exact⟨r,by rw[t6 hp,hr];exact⟨rfl,rfl⟩,HP rest _ h⟩
      · cases h
    · rename_i hg
      rw[hg]
      exact HP rest _ h
    · cases h
  · split at h
    · rename_i f args ats hg ho
      obtain⟨r,h1,h2⟩:=h
      simp only[rJ,kG,hg]
      refine⟨r,?_,HP rest _ h2⟩
      simp only[fZ,ho]
      exact h1
    · cases h
theorem aCJ{P:Program}{ops:Array Oper}{st:aB}{K:AF→Prop}{φ:AF}:fQ P ops st [] K φ=K φ:=rfl
def hK(P:Program)(ops:Array Oper)(st:aB)(rest:List Oper)(K:AF→Prop)(φ:AF)(_:aB):Prop:=fQ P ops st rest K φ
theorem aGL{P:Program}{ops:Array Oper}{st st':aB}{K:AF→Prop}{φ:AF}{rest:List Oper}:hK P ops st rest K φ st'=fQ P ops st rest K φ:=rfl
theorem lZ{P:Program}{ops:Array Oper}{st:aB}{K:AF→Prop}{φ:AF}{o:Oper}{rest:List Oper}(h:lN o=true):fQ P ops st (o::rest) K φ=bJ P [] ops [o] (hK P ops st rest K) φ st:=by
 simp [fQ,h]
 rfl
def zQ(P:Program)(f:AV)(args:List AV)(st:aB)(K:AV→Prop):Prop:=∃r,uB P f args st (fun r' st'=>r'=r∧st'=st)∧K r
def NU(P:Program)(ops:Array Oper)(st:aB)(rest:List Oper)(K:AF→Prop)(φ:AF)(dst:Option Tmp)(r:AV):Prop:=fQ P ops st rest K (φ.put dst r)
theorem aTF{P:Program}{ops:Array Oper}{st:aB}{K:AF→Prop}{φ:AF}{rest:List Oper}{dst:Option Tmp}{f:Operand}{args:List Operand}{ats:Array TypeId}{type:TypeId}{pos:String}{after:Array Edge} :
 fQ P ops st (⟨dst,.call { callee:=.value f,args:=args.toArray,argTypes:=ats },type,pos,after,none⟩::rest) K φ=zQ P (φ.eval f) (args.map φ.eval) st (NU P ops st rest K φ dst):=by
 simp [fQ,lN,zQ,NU]
section
variable {P:Program} {ops:Array Oper} {st:aB} {K:AF→Prop} {φ:AF} {rest:List Oper} {dst:Option Tmp} {type:TypeId} {pos:String} {after:Array Edge} {g:Option (Nat×Bool)}
theorem aC5{f:Operand}{args:List Operand}{ats:Array TypeId} :
 fQ P ops st (⟨dst,.call { callee:=.value f,args:=args.toArray,argTypes:=ats },type,pos,after,none⟩::rest) K φ=zQ P (φ.eval f) (args.map φ.eval) st (NU P ops st rest K φ dst):=aTF
theorem aCK{x:Operand}:fQ P ops st (⟨dst,.move x,type,pos,after,g⟩::rest) K φ=bJ P [] ops [⟨dst,.move x,type,pos,after,g⟩] (hK P ops st rest K) φ st:=lZ rfl
theorem aCW{x:Operand}:fQ P ops st (⟨dst,.assign x,type,pos,after,g⟩::rest) K φ=bJ P [] ops [⟨dst,.assign x,type,pos,after,g⟩] (hK P ops st rest K) φ st:=lZ rfl
theorem aCX{c x y:Operand}:fQ P ops st (⟨dst,.pick c x y,type,pos,after,g⟩::rest) K φ=bJ P [] ops [⟨dst,.pick c x y,type,pos,after,g⟩] (hK P ops st rest K) φ st:=lZ rfl
theorem aCY{op:BinOp}{t t':TypeId}{x y:Operand}:fQ P ops st (⟨dst,.binOp op t x y t',type,pos,after,g⟩::rest) K φ=bJ P [] ops [⟨dst,.binOp op t x y t',type,pos,after,g⟩] (hK P ops st rest K) φ st:=lZ rfl
theorem aCZ{op:UnOp}{t:TypeId}{x:Operand}:fQ P ops st (⟨dst,.unOp op t x,type,pos,after,g⟩::rest) K φ=bJ P [] ops [⟨dst,.unOp op t x,type,pos,after,g⟩] (hK P ops st rest K) φ st:=lZ rfl
theorem aC0{x:Operand}:fQ P ops st (⟨dst,.nilCheck x,type,pos,after,g⟩::rest) K φ=bJ P [] ops [⟨dst,.nilCheck x,type,pos,after,g⟩] (hK P ops st rest K) φ st:=lZ rfl
theorem aC1{t f:Nat}{x:Operand}:fQ P ops st (⟨dst,.fieldAddr t x f,type,pos,after,g⟩::rest) K φ=bJ P [] ops [⟨dst,.fieldAddr t x f,type,pos,after,g⟩] (hK P ops st rest K) φ st:=lZ rfl
theorem aC2{t:TypeId}{x:Operand}:fQ P ops st (⟨dst,.load t x,type,pos,after,g⟩::rest) K φ=bJ P [] ops [⟨dst,.load t x,type,pos,after,g⟩] (hK P ops st rest K) φ st:=lZ rfl
theorem aC3{t f:Nat}{x:Operand}:fQ P ops st (⟨dst,.field t x f,type,pos,after,g⟩::rest) K φ=bJ P [] ops [⟨dst,.field t x f,type,pos,after,g⟩] (hK P ops st rest K) φ st:=lZ rfl
theorem aCL{t:TypeId}{x i:Operand}:fQ P ops st (⟨dst,.indexAddr t x i,type,pos,after,g⟩::rest) K φ=bJ P [] ops [⟨dst,.indexAddr t x i,type,pos,after,g⟩] (hK P ops st rest K) φ st:=lZ rfl
theorem aCM{t:TypeId}{x i:Operand}:fQ P ops st (⟨dst,.index t x i,type,pos,after,g⟩::rest) K φ=bJ P [] ops [⟨dst,.index t x i,type,pos,after,g⟩] (hK P ops st rest K) φ st:=lZ rfl
theorem aCN{t:TypeId}{x:Operand}{lo hi mx:Option Operand}:fQ P ops st (⟨dst,.slice t x lo hi mx,type,pos,after,g⟩::rest) K φ=bJ P [] ops [⟨dst,.slice t x lo hi mx,type,pos,after,g⟩] (hK P ops st rest K) φ st:=lZ rfl
theorem aCO{x:Operand}{i:Nat}:fQ P ops st (⟨dst,.extract x i,type,pos,after,g⟩::rest) K φ=bJ P [] ops [⟨dst,.extract x i,type,pos,after,g⟩] (hK P ops st rest K) φ st:=lZ rfl
theorem aCP{t:TypeId}{ps:Array (Nat×Operand)}:fQ P ops st (⟨dst,.build t ps,type,pos,after,g⟩::rest) K φ=bJ P [] ops [⟨dst,.build t ps,type,pos,after,g⟩] (hK P ops st rest K) φ st:=lZ rfl
theorem aCQ{t:TypeId}{n:Nat}{ps:Array (Nat×Operand)}:fQ P ops st (⟨dst,.buildSlice t n ps,type,pos,after,g⟩::rest) K φ=bJ P [] ops [⟨dst,.buildSlice t n ps,type,pos,after,g⟩] (hK P ops st rest K) φ st:=lZ rfl
theorem aCR{t u:TypeId}{x:Operand}:fQ P ops st (⟨dst,.convert t u x,type,pos,after,g⟩::rest) K φ=bJ P [] ops [⟨dst,.convert t u x,type,pos,after,g⟩] (hK P ops st rest K) φ st:=lZ rfl
theorem aCS{t:TypeId}{x i:Operand}{ok:Bool}:fQ P ops st (⟨dst,.lookup t x i ok,type,pos,after,g⟩::rest) K φ=bJ P [] ops [⟨dst,.lookup t x i ok,type,pos,after,g⟩] (hK P ops st rest K) φ st:=lZ rfl
theorem aCT{x:Operand}{t:TypeId}:fQ P ops st (⟨dst,.call { callee:=.builtin .len,args:=#[x],argTypes:=#[t] },type,pos,after,g⟩::rest) K φ=bJ P [] ops [⟨dst,.call { callee:=.builtin .len,args:=#[x],argTypes:=#[t] },type,pos,after,g⟩] (hK P ops st rest K) φ st:=lZ rfl
theorem aCU{x y:Operand}{ts:Array TypeId}:fQ P ops st (⟨dst,.call { callee:=.builtin .max,args:=#[x,y],argTypes:=ts },type,pos,after,g⟩::rest) K φ=bJ P [] ops [⟨dst,.call { callee:=.builtin .max,args:=#[x,y],argTypes:=ts },type,pos,after,g⟩] (hK P ops st rest K) φ st:=lZ rfl
theorem aCV{x y:Operand}{ts:Array TypeId}:fQ P ops st (⟨dst,.call { callee:=.builtin .min,args:=#[x,y],argTypes:=ts },type,pos,after,g⟩::rest) K φ=bJ P [] ops [⟨dst,.call { callee:=.builtin .min,args:=#[x,y],argTypes:=ts },type,pos,after,g⟩] (hK P ops st rest K) φ st:=lZ rfl
end
theorem aC4{P:Program}{ops:Array Oper}{st:aB}{K:AF→Prop}{φ:AF}{rest:List Oper}{dst:Option Tmp}{r:AV}:NU P ops st rest K φ dst r=fQ P ops st rest K (φ.put dst r):=rfl
theorem j6{P:Program}{g:FuncId}{args:List AV}{st:aB}{r:AV}{K:AV→Prop}(x:aD P g args st (fun r' st'=>r'=r∧st'=st))(h:K r):zQ P (.func g []) args st K:=⟨r,by show aD P g (args++ []) st _;rw[iV];exact x,h⟩
@[congr] theorem a9S {P:Program} {ops:Array Oper} {l:List Oper} {K:AF→Prop} {φ φ':AF} {st st':aB} (h1:φ=φ') (h2:st=st'):fQ P ops st l K φ=fQ P ops st' l K φ':=by rw[h1,h2]
@[congr] theorem a9Z {P:Program} {f f':AV} {args args':List AV} {st st':aB} {K:AV→Prop} (h0:f=f') (h1:args=args') (h2:st=st'):zQ P f args st K=zQ P f' args' st' K:=by rw[h0,h1,h2]
def UJ(ops:Array Oper):Nat:=(ops.toList.findIdx fun o=> !lN o)
theorem L9{P:Program}{st:aB}{N:Nat}{id:Nat}{ops:Array Oper}{Q:Exit→AF→aB→Prop}{φ:AF}(hm:P.follows .mixedOrders=true)(hok:q9 N ops=true)(hB:Region.lexTailB .any ops (UJ ops)=true)
 (h:bJ P [] ops ops.toList (Q .normal) φ st):g8 P N (.region id ops true) Q φ st:=by
 refine aUS (UJ ops) hm hok hB (HP _ _ ?_)
 have key:∀(l1 l2:List Oper) (φ:AF),(∀o∈l1,lN o=true)→bJ P [] ops (l1++l2) (Q .normal) φ st→fQ P ops st l1 (fun φ'=>bJ P [] ops l2 (Q .normal) φ' st) φ:=by
  intro l1
  induction l1 with
  | nil=>intro l2 φ _ h;exact h
  | cons o l1 ih=>
   intro l2 φ hp h
   have ho:=hp o (by simp)
   have hr:∀o∈l1,lN o=true:=fun o h=>hp o (by simp [h])
   simp only[fQ,ho,fS,bJ]
   simp only[fE,bJ] at h
   split at h
   · rename_i hg
     rw[t6 ho] at h
     rw[t6 ho]
     split at h
     · rename_i hr2
       first | rw[hr2] | skip
       exact ih l2 _ hr h
     · cases h
   · exact ih l2 _ hr h
   · cases h
 refine key _ _ φ (fun o ho=>?_) (by rw[tT];exact h)
 obtain⟨i,hi,rfl⟩:=List.getElem_of_mem ho
 rw[eC] at hi
 have h2:=List.not_of_lt_findIdx (p:=fun o=> !lN o) (xs:=ops.toList) (i:=i) (by have:UJ ops=ops.toList.findIdx (fun o=> !lN o):=rfl;omega)
 simpa using h2
def EO(P:Program)(ops:Array Oper)(st:aB)(K:AF→aB→Prop):Nat→List Oper→AF→Prop
 | 0,l,φ=>bJ P [] ops l K φ st
 | _+1,[],_=>False
 | n+1,o::rest,φ=>fQ P ops st [o] (EO P ops st K n rest) φ
theorem aC7{P:Program}{ops:Array Oper}{st:aB}{K:AF→aB→Prop}{l:List Oper}{φ:AF}:EO P ops st K 0 l φ=bJ P [] ops l K φ st:=rfl
theorem aC8{P:Program}{ops:Array Oper}{st:aB}{K:AF→aB→Prop}{n:Nat}{o:Oper}{l:List Oper}{φ:AF}:EO P ops st K (n+1) (o::l) φ=fQ P ops st [o] (EO P ops st K n l) φ:=rfl
theorem aK8{P:Program}{mt:List Nat}{l:List Oper}{st:aB}{K:AF→aB→Prop}{φ:AF}:bJ P mt l.toArray l.toArray.toList K φ st=bJ P mt l.toArray l K φ st:=rfl
theorem aK9{P:Program}{l:List Oper}{st:aB}{K:AF→Prop}{φ:AF}:fQ P l.toArray st l.toArray.toList K φ=fQ P l.toArray st l K φ:=rfl
theorem aLA{P:Program}{n:Nat}{l:List Oper}{st:aB}{K:AF→aB→Prop}{φ:AF}:EO P l.toArray st K n l.toArray.toList φ=EO P l.toArray st K n l φ:=rfl
def aCC(Q:Exit→AF→aB→Prop)(st:aB)(φ:AF):Prop:=Q .normal φ st
theorem aF6{Q:Exit→AF→aB→Prop}{st:aB}{φ:AF}:aCC Q st φ=Q .normal φ st:=rfl
theorem L8{P:Program}{st:aB}{N:Nat}{id:Nat}{ops:Array Oper}{Q:Exit→AF→aB→Prop}{φ:AF}(hm:P.follows .mixedOrders=true)(hok:q9 N ops=true)(hB:Region.lexB .any ops=true)
 (h:fQ P ops st ops.toList (aCC Q st) φ):g8 P N (.region id ops true) Q φ st:=
 aUT hm hok hB (HP _ _ h)
theorem aGT:AV.junk.isAgg=false:=rfl
theorem aLU:AV.junk.width=1:=rfl
theorem aHA:AV.junk.cJ=true:=rfl
theorem aFQ:AV.junk.cells= [AV.junk]:=rfl
theorem aJT:AV.junk.storable=false:=rfl
theorem aG4:AV.undef.isAgg=false:=rfl
theorem aL5:AV.undef.width=1:=rfl
theorem aHL:AV.undef.cJ=false:=rfl
theorem aF1:AV.undef.cells= [AV.undef]:=rfl
theorem aJ3:AV.undef.storable=false:=rfl
theorem aGS{k:IntKind}{n:Int}:(AV.int k n).isAgg=false:=rfl
theorem aLT{k:IntKind}{n:Int}:(AV.int k n).width=1:=rfl
theorem aG9{k:IntKind}{n:Int}:(AV.int k n).cJ=false:=rfl
theorem aFP{k:IntKind}{n:Int}:(AV.int k n).cells= [(AV.int k n)]:=rfl
theorem aJS{k:IntKind}{n:Int}:(AV.int k n).storable=true:=rfl
theorem aGP{b:Bool}:(AV.bool b).isAgg=false:=rfl
theorem aLQ{b:Bool}:(AV.bool b).width=1:=rfl
theorem aG6{b:Bool}:(AV.bool b).cJ=false:=rfl
theorem aFM{b:Bool}:(AV.bool b).cells= [(AV.bool b)]:=rfl
theorem aJP{b:Bool}:(AV.bool b).storable=true:=rfl
theorem aG2{s:ByteArray}:(AV.str s).isAgg=false:=rfl
theorem aL3{s:ByteArray}:(AV.str s).width=1:=rfl
theorem aHJ{s:ByteArray}:(AV.str s).cJ=false:=rfl
theorem aFZ{s:ByteArray}:(AV.str s).cells= [(AV.str s)]:=rfl
theorem aJ1{s:ByteArray}:(AV.str s).storable=true:=rfl
theorem aG3{vs:List AV}:(AV.tup vs).isAgg=false:=rfl
theorem aL4{vs:List AV}:(AV.tup vs).width=1:=rfl
theorem aHK{vs:List AV}:(AV.tup vs).cJ=false:=rfl
theorem aF0{vs:List AV}:(AV.tup vs).cells= [(AV.tup vs)]:=rfl
theorem aJ2{vs:List AV}:(AV.tup vs).storable=false:=rfl
theorem aG1{es:List AV}:(AV.slice es).isAgg=false:=rfl
theorem aL2{es:List AV}:(AV.slice es).width=1:=rfl
theorem aHI{es:List AV}:(AV.slice es).cJ=false:=rfl
theorem aFY{es:List AV}:(AV.slice es).cells= [(AV.slice es)]:=rfl
theorem aJ0{es:List AV}:(AV.slice es).storable=true:=rfl
theorem aGQ{es:List AV}:(AV.fslice es).isAgg=false:=rfl
theorem aLR{es:List AV}:(AV.fslice es).width=1:=rfl
theorem aG7{es:List AV}:(AV.fslice es).cJ=false:=rfl
theorem aFN{es:List AV}:(AV.fslice es).cells= [(AV.fslice es)]:=rfl
theorem aJQ{es:List AV}:(AV.fslice es).storable=true:=rfl
theorem aGV{b:Nat}{o:Nat}{l:Nat}{m:Nat}:(AV.mslice b o l m).isAgg=false:=rfl
theorem aLW{b:Nat}{o:Nat}{l:Nat}{m:Nat}:(AV.mslice b o l m).width=1:=rfl
theorem aHC{b:Nat}{o:Nat}{l:Nat}{m:Nat}:(AV.mslice b o l m).cJ=false:=rfl
theorem aFS{b:Nat}{o:Nat}{l:Nat}{m:Nat}:(AV.mslice b o l m).cells= [(AV.mslice b o l m)]:=rfl
theorem aJV{b:Nat}{o:Nat}{l:Nat}{m:Nat}:(AV.mslice b o l m).storable=true:=rfl
theorem aGX:AV.nilptr.isAgg=false:=rfl
theorem aLY:AV.nilptr.width=1:=rfl
theorem aHE:AV.nilptr.cJ=false:=rfl
theorem aFU:AV.nilptr.cells= [AV.nilptr]:=rfl
theorem aJX:AV.nilptr.storable=true:=rfl
theorem aGZ{b:Nat}{o:Nat}:(AV.ptr b o).isAgg=false:=rfl
theorem aL0{b:Nat}{o:Nat}:(AV.ptr b o).width=1:=rfl
theorem aHG{b:Nat}{o:Nat}:(AV.ptr b o).cJ=false:=rfl
theorem aFW{b:Nat}{o:Nat}:(AV.ptr b o).cells= [(AV.ptr b o)]:=rfl
theorem aJZ{b:Nat}{o:Nat}:(AV.ptr b o).storable=true:=rfl
theorem aGY{e:AV}:(AV.pptr e).isAgg=false:=rfl
theorem aLZ{e:AV}:(AV.pptr e).width=1:=rfl
theorem aHF{e:AV}:(AV.pptr e).cJ=false:=rfl
theorem aFV{e:AV}:(AV.pptr e).cells= [(AV.pptr e)]:=rfl
theorem aJY{e:AV}:(AV.pptr e).storable=true:=rfl
theorem aGW:AV.nilmap.isAgg=false:=rfl
theorem aLX:AV.nilmap.width=1:=rfl
theorem aHD:AV.nilmap.cJ=false:=rfl
theorem aFT:AV.nilmap.cells= [AV.nilmap]:=rfl
theorem aJW:AV.nilmap.storable=true:=rfl
theorem aGU{b:Nat}:(AV.map b).isAgg=false:=rfl
theorem aLV{b:Nat}:(AV.map b).width=1:=rfl
theorem aHB{b:Nat}:(AV.map b).cJ=false:=rfl
theorem aFR{b:Nat}:(AV.map b).cells= [(AV.map b)]:=rfl
theorem aJU{b:Nat}:(AV.map b).storable=true:=rfl
theorem aGR{f:FuncId}{cs:List AV}:(AV.func f cs).isAgg=false:=rfl
theorem aLS{f:FuncId}{cs:List AV}:(AV.func f cs).width=1:=rfl
theorem aG8{f:FuncId}{cs:List AV}:(AV.func f cs).cJ=false:=rfl
theorem aFO{f:FuncId}{cs:List AV}:(AV.func f cs).cells= [(AV.func f cs)]:=rfl
theorem aJR{f:FuncId}{cs:List AV}:(AV.func f cs).storable=true:=rfl
theorem aG0{v:Value}:(AV.raw v).isAgg=false:=rfl
theorem aL1{v:Value}:(AV.raw v).width=1:=rfl
theorem aHH{v:Value}:(AV.raw v).cJ=false:=rfl
theorem aFX{v:Value}:(AV.raw v).cells= [(AV.raw v)]:=rfl
theorem aGO{cs:List AV}:(AV.agg cs).isAgg=true:=rfl
theorem aLP{cs:List AV}:(AV.agg cs).width=cs.length:=rfl
theorem aG5{cs:List AV}:(AV.agg cs).cJ=false:=rfl
theorem aFL{cs:List AV}:(AV.agg cs).cells=cs:=rfl
theorem aFJ:((0:Nat):Int)=0:=rfl
theorem aFK{n:Nat}:((n+1:Nat):Int)=(n:Int)+1:=rfl
theorem lG{st:aB}{b x:Nat}{o:AO}:(st.aC b o) x=if x=b then some o else st x:=rfl
theorem wrap64{n:Int}(h1: -9223372036854775808≤n)(h2:n≤9223372036854775807):IntKind.wrap .i64 n=n:=by
 rw[IntKind.wrap_i64];omega
end Go.AW
