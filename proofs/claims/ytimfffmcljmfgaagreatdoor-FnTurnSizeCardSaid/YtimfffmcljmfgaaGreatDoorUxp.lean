import Derived.Test.YtimfffmcljmfgaaGreatDoorUxo
import Derived.Test.YtimfffmcljmfgaaGreatDoorUxf
import Derived.Test.YtimfffmcljmfgaaGreatDoorUxj
import Derived.Test.YtimfffmcljmfgaaGreatDoorUxi
import Derived.Test.YtimfffmcljmfgaaGreatDoorUxk
import Derived.Test.YtimfffmcljmfgaaGreatDoorUxl
import Derived.Test.YtimfffmcljmfgaaGreatDoorUxn
import Derived.Test.YtimfffmcljmfgaaGreatDoorUxm
set_option linter.unusedSimpArgs false
set_option linter.unusedVariables false
set_option maxRecDepth 100000
namespace Go.AW
open Go.Proofs.Tryz
theorem RM{S:aA}{b c:Nat}{l:List AV}{o:AO}(h:l≠[]→b≠c):(aZ S b l).aC c o=aZ (S.aC c o) b l:=by
 cases l with
 | nil=>rfl
 | cons x l=>rw[jU (by simp),jU (by simp),aA.m7 _ _ _ (h (by simp))]
theorem vF{p:List Cl}{cnd:Tm→List Nat→List Nat}{vars:List Int}{most fuel:Nat}{s:RS}(hg:s.goals= []):jB p cnd vars most fuel s=if most=0 then([],1) else match jV s.σ vars with
 | none=>([],3)
 | some a=>match gC p s.chs.length s.chs with
  | none=>([a],0)
  | some s'=>(a::(jB p cnd vars (most - 1) fuel s').1,(jB p cnd vars (most - 1) fuel s').2):=by
 rw[jB.eq_def,hg]
 simp only
 split<;>rfl
theorem sH{p:List Cl}{cnd:Tm→List Nat→List Nat}{vars:List Int}{most fuel:Nat}{s:RS}{g:RG}{rest:List RG}(hg:s.goals=g::rest):jB p cnd vars most fuel s=if fuel=0 then([],2) else match jL p cnd s g rest with
 | .stop e=>([],e)
 | .go s'=>jB p cnd vars most (fuel - 1) s'
 | .fail=>match gC p s.chs.length s.chs with
  | none=>([],0)
  | some s'=>jB p cnd vars most (fuel - 1) s':=by
 rw[jB.eq_def,hg]
 simp only
 split<;>rfl
structure Y5 (p:List Cl) (vars:List Int) (most fuel:Nat) (T:List (List Tm)×Int) (s:RS) (out:List (List Tm)) (f B:Nat):Prop where
 tot:T=(out++(jB p (fun _ l=>l) vars (most - out.length) f s).1,(jB p (fun _ l=>l) vars (most - out.length) f s).2)
 len:out.length≤most
 ok:nX p B s
 bd:B+26*f≤8000
abbrev oC:=zi tI_2 (zi zI_2 (zi QI (zi tI_3 (zi zI_3 (zi aY (zi tI_4 (zi zI_4 (zi cJ (zi tI_26 (zi zI_26 (zi fZ (zi jF (zi jG (zi mZ (zi tI_29 (zi zI_29 (zi fN (zi iG (zi iI (zi jN (zi tI_31 (zi zI_31 (zi aQ (zi bS (zi bT (zi cI (zi tI_46 (zi zI_46 (zi cZ (zi eG (zi eE (zi eT (zi tI_59 (zi zI_59 (zi yE (zi xX (zi tI_163 (zi zI_163 (zi yC (zi CP (zi CR (zi LJ (zi tI_166 (zi zI_166 (zi I3 (zi I4 (zi I5 IK)))))))))))))))))))))))))))))))))))))))))))))))
theorem aZ0{p:List Cl}(hp:∀c∈p,gQ c∧c.2.length≤6)(hpl:p.length≤20){q:List Tm}(hq:∀t∈q,bJ 26 t∧t.k=3)(h6:q.length≤6){most fuel:Nat}(hm:most≤20)(hf:fuel≤300)(st:aA) :
 aD prog 124 [.slice (p.map bR),.slice (q.map Tm.av),.int .i64 (most:Int),.int .i64 (fuel:Int)] st (fun r st'=>r=.tup [.slice ((w7 p (fun _ l=>l) q most fuel).1.map bO),.int .i64 (w7 p (fun _ l=>l) q most fuel).2]∧st'=st):=by
 have hnd:bD Tm.nodes q≤1099511627776:=by
  have:=GH q fun t ht=>(hq t ht).1.2
  omega
 have hva:=fun st=>aB6 q st (fun t ht=>Tm.wG t (hq t ht).1.1.2.1) hnd
 have J4:=fun st=>aZ1 q (fun t ht=>(hq t ht).1) h6 st
 have hv:∀v∈cG q [],0≤v∧v<26:=fun v hv=>by
  rcases (BQ q [] fun t ht=>(hq t ht).1.1.2.1).1 hv with h | ⟨t,ht,h⟩
  · cases h
  · exact(hq t ht).1.1.2.2 v h
 have hvl:(cG q []).length≤1000:=by
  have h1:=BP q []
  have h2:=GH q fun t ht=>(hq t ht).1.2
  simp only[a8] at h1
  omega
 have N8:=nX.start (p:=p) hq h6
 generalize hT:w7 p (fun _ l=>l) q most fuel=T
 unfold w7 at hT
 generalize cG q []=vars at *
 have hI0:Y5 p vars most fuel T (nS q) [] fuel 26:=⟨by rw[←hT];try rfl,jE _,N8,by omega⟩
 generalize nS q=s0 at *
 simp only[qB] at J4
 refine aD.oK (aD.fin (aD.nG ?_))
 refine wF [1000000,12] 4 func124 ntmps124 rfl rfl ?_
 intro _
 simp -implicitDefEqProofs only[aB,seval,oC]
 refine(hva _).to ?_
 simp -implicitDefEqProofs only[aB,seval]
 refine(J4 _).to ?_
 simp -implicitDefEqProofs only[aK,aB,↓aU,seval,oC]
 intro b12 h12
 refine iP (σ:=RS×List (List Tm)×Nat×Nat×Nat) [1000000,12] [0,2,11,12] (fun x=>Y5 p vars most fuel T x.1 x.2.1 x.2.2.1 x.2.2.2.1∧(x.2.1.map bO≠[]→(st.aC b12 (.cells [.slice (x.1.goals.map eY),.slice (dA x.1.N x.1.σ),.slice (x.1.chs.map gD)])) x.2.2.2.2=none))
  (fun x=>[(3,.int .i64 (x.2.2.1:Int)),(8,.fslice []),(9,.int .i64 0),(10,bU 1 x.2.2.2.2 (x.2.1.map bO))])
  (fun x=>aZ (st.aC b12 (.cells [.slice (x.1.goals.map eY),.slice (dA x.1.N x.1.σ),.slice (x.1.chs.map gD)])) x.2.2.2.2 (x.2.1.map bO))
  (fun x=>(most - x.2.1.length)+x.2.2.1) (by decide +kernel) ⟨(s0,[],fuel,26,0),⟨hI0,by simp⟩,aM.mk (by simp -implicitDefEqProofs only[iY,a7,aB,seval])⟩ ?_
 rintro⟨s,out,f,B,b⟩ ⟨⟨tot,hlen,hok,hbd⟩,hb⟩
 simp only at tot hlen hok hbd hb
 simp only
 have hbc:out.map bO≠[]→b≠b12:=fun h=>by rintro rfl;have:=hb h;rw[aA.aJ] at this;cases this
 have rX:=CF hb (aA.aJ st b12 (.cells [.slice (s.goals.map eY),.slice (dA s.N s.σ),.slice (s.chs.map gD)]))
 have hlo:(out.map bO).length=out.length:=aF _
 have a4C:∀l:List (List Tm),∀e∈l.map bO,e.cE=false:=fun l e he=>by simp only[cH] at he;obtain⟨t,_,rfl⟩:=he;rfl
 have N9:∀l:List (List Tm),∀e∈l.map bO,e.width=1:=fun l e he=>by simp only[cH] at he;obtain⟨t,_,rfl⟩:=he;rfl
 have fin:∀(S:aA) (b:Nat) (l:List (List Tm)) (e:Int),(l.map bO≠[]→S b=none)→aL S st→T=(l,e)→∃s2,aL (aZ S b (l.map bO)) s2∧∃b' l' s0,s2=aZ s0 b' l'∧(l'≠[]→s0 b'=none)∧(∀e∈l',e.cE=false)∧iV l'∧(AV.tup [bU 1 b (l.map bO),.int .i64 e]).fin b' l'=.tup [.slice (T.1.map bO),.int .i64 T.2]∧aL s0 st:=fun S b l e h1 h2 h3=>
  ⟨_,aL.refl _,b,l.map bO,S,rfl,h1,a4C l,⟨1,N9 l⟩,by subst h3;simp only[kC,fS,lU,bH,a7],h2⟩
 have hSD:∀o,aL (st.aC b12 o) st:=fun o=>(aL.refl _).aC h12
 generalize hX:(AO.cells [.slice (s.goals.map eY),.slice (dA s.N s.σ),.slice (s.chs.map gD)])=X at rX hb
 have rX:=rX.trans (gH some hX.symm)
 have hun:prog.underlying 26=some (.slice 59):=by kernel_rfl
 have wR:=CG (w:=1) (b:=b) (l:=out.map bO) hun
 rw[hlo] at wR
 cases hgs:s.goals with
 | nil=>
  rw[hgs] at hX rX
  simp only[a7] at hX rX
  rw[vF hgs] at tot
  simp -implicitDefEqProofs only[a8,wR,rX,aB,seval,oC]
  refine aP (fun h=>?_) (fun h=>?_)
  · have h':out.length=most:=by simp at h;omega
    rw[aH (by omega)] at tot
    simp -implicitDefEqProofs only[nF,aB,seval]
    exact fin _ b out 1 hb (hSD _) (by rw[tot,gF])
  have h':out.length<most:=by simp at h;omega
  rw[aE (by omega)] at tot
  simp -implicitDefEqProofs only[rX,aB,seval,oC]
  refine(aZU (N:=s.N) hok.a.iC hok.a.ok vars (fun v h=>⟨(hv v h).1,by have:=(hv v h).2;have:=hok.l.1;omega⟩) hvl _).mono ?_
  rintro _ _ ⟨rfl,a,rfl,ha⟩
  cases rY:jV s.σ vars with
  | none=>
   rw[rY] at tot
   simp only[Option.isSome_none,bO]
   simp -implicitDefEqProofs only[a8,aX,nF,aB,↓aU,seval,oC]
   exact fin _ b out 3 hb (hSD _) (by rw[tot,gF])
  | some x=>
   obtain rfl:=ha x rY
   rw[rY] at tot
   simp only[Option.isSome_some,bO] at tot ⊢
   simp -implicitDefEqProofs only[a8,aX,aB,↓aU,seval,oC]
   refine eQ (P:=prog) (b:=b) (l:=out.map bO) (xs:=[bO a]) fZ jF jG rfl rfl (f9 rfl rfl) (N9 out) hb (by simp only[aX,a8,hlo];omega) (by simp only[aX,a8,hlo];omega) (fun b' hb'=>?_)
   rw[show(out.map bO)++ [bO a]=(out++ [a]).map bO by simp] at hb' ⊢
   have aOT:=(CF hb' (aA.aJ st b12 X)).trans (gH some hX.symm)
   simp -implicitDefEqProofs only[a8,aX,aOT,aB,seval,oC]
   have NY:(f:Int)=(f:Int):=rfl
   refine(aB1 hp (B:=B) (by omega) [] (dA s.N s.σ) s.chs hok.a.qO hok.a.chs _).mono ?_
   rintro r _ ⟨rfl,hr⟩
   cases hbk:gC p s.chs.length s.chs with
   | none=>
    rw[hbk] at hr tot
    simp only at hr tot
    obtain⟨l1,l2,l3,rfl⟩:=hr
    simp -implicitDefEqProofs only[a8,aX,nF,aB,↓aU,seval,oC]
    exact fin _ b' (out++ [a]) 0 hb' (hSD _) (by rw[tot];try rw[gF])
   | some s'=>
    rw[hbk] at hr tot
    simp only[qB] at hr tot
    subst hr
    simp -implicitDefEqProofs only[aK,a8,aX,aOT,aB,↓aU,seval,oC]
    rw[RM (fun h=>by rintro rfl;have:=hb' h;rw[aA.aJ] at this;cases this),dS]
    have hne:(out++ [a]).map bO≠[]→b'≠b12:=fun h=>by rintro rfl;have:=hb' h;rw[aA.aJ] at this;cases this
    refine⟨(s',out++ [a],f,B,b'),by simp only[dQ,aX,a8];omega,⟨⟨by rw[tot];try simp only[lX,iB,fF,dQ,aX,a8,Nat.sub_sub];try rfl,by simp only[dQ,aX,a8];omega,hok.back hp (by omega) hbk,by simp only;omega⟩,fun h=>by rw[aA.aG _ _ (hne h)];have:=hb' h;rwa [aA.aG _ _ (hne h)] at this⟩,aM.mk (by simp -implicitDefEqProofs only[aB,seval])⟩
 | cons g rest=>
  rw[hgs] at hX rX
  rw[sH hgs] at tot
  simp -implicitDefEqProofs only[aF,aX,rX,aB,seval,oC]
  refine aP (fun h=>absurd h (by simp;omega)) (fun h=>?_)
  simp -implicitDefEqProofs only[aB,seval]
  refine aP (fun h=>?_) (fun h=>?_)
  · have h':f=0:=by simp at h;omega
    rw[aH h'] at tot
    simp -implicitDefEqProofs only[nF,aB,seval]
    exact fin _ b out 2 hb (hSD _) (by rw[tot,gF])
  have h':f≠0:=by simp at h;omega
  rw[aE h'] at tot
  have hw:=bE (n:=(f:Int) - 1)
  simp -implicitDefEqProofs only[hw,a8,aX,rX,aB,seval,oC]
  have hst:=aZ2 hp (by omega) (B:=B) (by omega) s.goals s.σ s.N s.chs g rest hgs hok.a hok.k
  rw[hgs,bH] at hst
  refine(hst _).mono ?_
  rintro r _ ⟨rfl,hr⟩
  have hse:(⟨g::rest,s.σ,s.N,s.chs⟩:RS)=s:=by rw[←hgs]
  rw[hse] at hr
  cases iQ:jL p (fun _ l=>l) s g rest with
  | go s'=>
   rw[iQ] at hr tot
   simp only[v6,qB] at hr tot
   subst hr
   simp -implicitDefEqProofs only[a8,aX,yD,↓NB,List.contains,List.elem,EC,↓reduceIte,Nat.reduceEqDiff,Nat.reduceAdd,Nat.reduceBEq,oC]
   refine aP (fun h=>absurd h (by decide)) (fun h=>?_)
   simp -implicitDefEqProofs only[aK,a8,aX,rX,aB,seval,oC]
   rw[RM hbc,dS]
   have NY:((f - 1:Nat):Int)=(f:Int) - 1:=by omega
   refine⟨(s',out,f - 1,B+26,b),by simp only;omega,⟨⟨tot,hlen,hok.step hp (by omega) (by omega) (cnd:=fun _ l=>l) (fun _ _=>⟨fun _ h=>h,cY _⟩) hgs iQ,by simp only;omega⟩,fun h=>by rw[aA.aG _ _ (hbc h)];have:=hb h;rwa [aA.aG _ _ (hbc h)] at this⟩,aM.mk (by simp -implicitDefEqProofs only[NY,aB,seval])⟩
  | fail=>
   rw[iQ] at hr tot
   simp only[v6,qB] at hr tot
   subst hr
   simp -implicitDefEqProofs only[a8,aX,yD,↓NB,List.contains,List.elem,EC,↓reduceIte,Nat.reduceEqDiff,Nat.reduceAdd,Nat.reduceBEq,oC]
   refine aP (fun h=>absurd h (by decide)) (fun h=>?_)
   simp -implicitDefEqProofs only[a8,aX,rX,aB,seval,oC]
   have NY:((f - 1:Nat):Int)=(f:Int) - 1:=by omega
   refine(aB1 hp (B:=B) (by omega) (g::rest) (dA s.N s.σ) s.chs hok.a.qO hok.a.chs _).mono ?_
   rintro r _ ⟨rfl,hr⟩
   cases hbk:gC p s.chs.length s.chs with
   | none=>
    rw[hbk] at hr tot
    simp only at hr tot
    obtain⟨l1,l2,l3,rfl⟩:=hr
    simp -implicitDefEqProofs only[a8,aX,nF,aB,↓aU,seval,oC]
    exact fin _ b (out) 0 hb (hSD _) (by rw[tot];try rw[gF])
   | some s'=>
    rw[hbk] at hr tot
    simp only[qB] at hr tot
    subst hr
    simp -implicitDefEqProofs only[aK,a8,aX,rX,aB,↓aU,seval,oC]
    rw[RM (fun h=>by rintro rfl;have:=hb h;rw[aA.aJ] at this;cases this),dS]
    have hne:(out).map bO≠[]→b≠b12:=fun h=>by rintro rfl;have:=hb h;rw[aA.aJ] at this;cases this
    refine⟨(s',out,f - 1,B,b),by simp only[];omega,⟨⟨by rw[tot];try simp only[lX,iB,fF,dQ,aX,a8,Nat.sub_sub];try rfl,by simp only[];omega,hok.back hp (by omega) hbk,by simp only;omega⟩,fun h=>by rw[aA.aG _ _ (hne h)];have:=hb h;rwa [aA.aG _ _ (hne h)] at this⟩,aM.mk (by simp -implicitDefEqProofs only[NY,aB,seval])⟩
  | stop e=>
   rw[iQ] at hr tot
   simp only[v6] at hr tot
   obtain⟨he0,l1,l2,l3,rfl⟩:=hr
   simp -implicitDefEqProofs only[a8,aX,aB,↓aU,seval,oC]
   refine aP (fun h=>?_) (fun h=>absurd he0 (by simpa using h))
   simp -implicitDefEqProofs only[nF,aB,seval]
   exact fin _ b out e hb (hSD _) (by rw[tot,gF])
end Go.AW
namespace Go.AW
def nB(st:aA)(xs:List AV)(r:AV)(st':aA):Prop:=∃(os:List AV) (bs:List Nat),r=.tup os∧bs.Nodup∧(∀b∈bs,st b=none)∧aW st' xs os bs∧∀b,b∉bs→st' b=st b
theorem aW.aUY{h:bQ}{st s0:aA}(S:cS h st)(D:aL st s0):∀(xs os:List AV) (bs:List Nat) (vs:List Value),aW st xs os bs→(∀b∈bs,s0 b=none)→dX h st os vs→dX h s0 xs vs
 | [],os,bs,vs,x,_,y=>by simp only[aW] at x;rw[x.1] at y;exact y
 | a::xs,os,bs,vs,x,hb,y=>by
  simp only[aW] at x
  obtain⟨o,os',b1,b2,rfl,rfl,x1,x2⟩:=x
  simp only[dX] at y ⊢
  obtain⟨v,r,e,⟨y0,y1⟩,y2⟩:=y
  exact⟨v,r,e,⟨x1.shape.1.symm.trans y0,bM.view S D a o b1 _ x1 (fun q hq=>hb q (by simp [hq])) y1⟩,aW.aUY S D xs os' b2 r x2 (fun q hq=>hb q (by simp [hq])) y2⟩
theorem aD.KB{P:Program}{g:FuncId}{args:List AV}{st:aA}{xs:List AV}(x:aD P g args st (nB st xs)):aD P g args st (fun r st'=>r=.tup xs∧st'=st):=
 x.mE fun r st' ⟨os,bs,hr,_,h2,h3,h4⟩=>by
  have D:aL st' st:=fun b=>⟨fun e=>by
   by_cases hb:b∈bs
   · exact h2 b hb
   · rw[←h4 b hb];exact e,fun o e=>by
   by_cases hb:b∈bs
   · rw[h2 b hb] at e;cases e
   · rw[h4 b hb];exact e⟩
  refine⟨.tup xs,st,D.rJ,fun h v S y=>?_,rfl,rfl⟩
  subst hr
  obtain⟨y0,y1⟩:=y
  refine⟨y0,?_⟩
  unfold VC at y1 ⊢
  obtain⟨vs,e,y2⟩:=y1
  exact⟨vs,e,aW.aUY S D xs os bs vs h3 h2 y2⟩
theorem bM.a9N{s:aA}{a o:AV}{bs:List Nat}(h:bM s a o bs):∀b∈bs,s b≠none:=fun b hb=>by
 obtain⟨cs,e,_⟩:=(bM.gY _ _ _ h).2.2 b hb
 rw[e];simp
theorem bM.oQ{st:aA}{es:List AV}{q:AV}{bs:List Nat}(h:bM st (.slice es) q bs):q.cells= [q]∧q.storable=true∧q.isAgg=false∧q.width=1∧q.cE=false:=by
 simp only[bM] at h
 rcases h with ⟨_,rfl,_⟩ | ⟨_,_,_,_,rfl,_⟩<;>exact⟨rfl,rfl,rfl,rfl,rfl⟩
theorem WB{s:aA}{x o:AV}{bs:List Nat}:bM s (.agg [x]) o bs↔∃q,o=.agg [q]∧bM s x q bs:=by
 simp only[bM,aW]
 constructor
 · rintro⟨os,rfl,o1,os1,b1,b2,rfl,rfl,h,rfl,rfl⟩
   exact⟨o1,rfl,by simpa using h⟩
 · rintro⟨q,rfl,h⟩
   exact⟨_,rfl,q,[],bs,[],rfl,by simp,h,rfl,rfl⟩
theorem WA{s:aA}{x y:AV}{os:List AV}{bs:List Nat}:aW s [x,y] os bs↔∃o1 o2 b1 b2,os= [o1,o2]∧bs=b1++b2∧bM s x o1 b1∧bM s y o2 b2:=by
 simp only[aW]
 constructor
 · rintro⟨o1,os1,b1,b1',rfl,rfl,h1,o2,os2,b2,b2',rfl,rfl,h2,rfl,rfl⟩
   exact⟨o1,o2,b1,b2,rfl,by simp,h1,h2⟩
 · rintro⟨o1,o2,b1,b2,rfl,rfl,h1,h2⟩
   exact⟨o1,[o2],b1,b2,rfl,rfl,h1,o2,[],b2,[],rfl,by simp,h2,rfl,rfl⟩
end Go.AW
namespace Go.AW
open Go.Proofs.Tryz
abbrev FD (c:Cl):Prop:=c.1.small=true∧c.2.length≤1048576∧∀x∈c.2,x.small=true
abbrev XJ:=zi tI_3 (zi zI_3 (zi aY (zi tI_29 (zi zI_29 (zi fN (zi iG (zi iI (zi jN (zi tI_84 (zi zI_84 (zi mA (zi mB l8))))))))))))
theorem a7D(l:List Cl)(st:aA)(hb:l.length≤1048576)(hc:∀x∈l,∀(st:aA),aD prog 313 [bR x] st (Made st (bR x))) :
 aD prog 249 [.slice (l.map bR)] st (Made st (.slice (l.map bR))):=by
 have hws:∀e∈l.map bR,e.width=5:=fun e he=>by simp only[cH] at he;obtain⟨t,_,rfl⟩:=he;exact kA t
 refine wF [] 1 func249 ntmps249 rfl rfl ?_
 intro _
 simp -implicitDefEqProofs only[aF,aB,seval,XJ]
 refine d8 (σ:=List AV×List Nat×Nat×aA) [] [2,6,7] l (fun i p=>tZ (l.map bR) st i p.1 p.2.1 p.2.2.1 p.2.2.2) (fun i p=>[(3,bU 5 p.2.2.1 p.1),(8,.int .i64 i)]) (fun _ p=>p.2.2.2) (by decide +kernel)
  ⟨([],[],0,st),tZ.start,aM.mk (by simp -implicitDefEqProofs only[iY,aB,↓aU,seval])⟩ (fun i x p hx hlt bL hdr hinv=>?_) (fun p hge hinv=>?_)
 case refine_2=>
  obtain⟨os,bs,b,s⟩:=p
  simp -implicitDefEqProofs only[hge,aB,seval]
  exact hinv.done (aF _) hws
 obtain⟨os,bs,b,s⟩:=p
 simp only at hinv
 have hw:=bE (n:=(i:Int)+1)
 have nJ:∀zs:List AV,zs.length=5→aK zs 0 (bR x).cells=(bR x).cells:=fun zs h=>BE (MZ x) h
 simp -implicitDefEqProofs only[bL,bP (av:=bR) fN hx (kA x),uM,kA,MZ,FC,dS,nJ,aB,seval,XJ]
 intro b2 hb2
 try simp -implicitDefEqProofs only[gI (MZ x),gG (uM x),seval]
 refine(hc x (cM hx) _).mono ?_
 rintro r s2 ⟨bx,m1,m2,m3,m4⟩
 obtain⟨f1,f2,f3⟩:=m3.aCO (kA x) (FC x)
 have hra:r.isAgg=true:=by rw[(bM.shape m3).1,uM]
 have hrj:r.cE=false:=(bM.shape m3).2.2.1
 simp -implicitDefEqProofs only[f1,hra,hrj,aB,seval,XJ]
 have hlen:os.length=i:=hinv.1
 have U4:∀e∈os,e.width=5:=fun e he=>by
  obtain⟨k,hk,rfl⟩:=List.getElem_of_mem he
  exact hinv.2.1.BU (fun q hq=>hws q (m9 hq)) _ he
 have hkb:os≠[]→s2 b=some (.cells (os.flatMap AV.cells)):=fun hne=>by
  have h:=(hinv.2.2.2.2.1 hne).2.2
  have hbx:b∉bx:=fun hq=>by
   have:=m2 b hq
   have yP:b≠b2:=fun e=>by rw[e,hb2] at h;cases h
   rw[aA.aG _ _ yP,h] at this;cases this
  have yP:b≠b2:=fun e=>by rw[e,hb2] at h;cases h
  rw[m4 b hbx,aA.aG _ _ yP,h]
 refine Z3 fN iG iI rfl rfl (f9 f1 f3) U4 hkb (by simp only[aX,a8,hlen];omega) (by simp only[aX,a8,hlen];omega) (fun b' s' k1 k2 k3 k4=>?_)
 have iQ:=hinv.step hb2 (show(l.map bR)[i]?=some (bR x) by rw[lY,hx];try rfl) m1 m2 m3 m4 (k1 (by simp)) (k2 (by simp)) (fun q h1 h2=>k3 q (fun _=>h1) h2) k4
 simp -implicitDefEqProofs only[hw,aB,seval]
 exact⟨(os++ [r],bs++bx,b',s'.erase b2),iQ,aM.drop (kB _ _) (by simp -implicitDefEqProofs only[aB,seval])⟩
abbrev XK:=zi tI_31 (zi zI_31 (zi aQ (zi bS (zi bT (zi cI (zi tI_66 (zi zI_66 (zi bZ (zi b9 (zi cA (zi cB (zi bY (zi tI_84 (zi zI_84 (zi mA (zi mB l8))))))))))))))))
theorem a7C(c:Cl)(st:aA)(hsm:FD c):aD prog 313 [bR c] st (Made st (bR c)):=by
 obtain⟨⟨k,n,s,ts⟩,bd⟩:=c
 obtain⟨h1,h2,h3⟩:=hsm
 have hg:=fun st=>KF (.mk k n s ts) st h1
 have hc:=fun st=>OL bd st h2 fun x hx st=>KF x st (h3 x hx)
 simp only[bA] at hg
 simp only[iL]
 refine aD.VM ?_
 refine wF [1000000] 1 func313 ntmps313 rfl rfl ?_
 intro _
 simp -implicitDefEqProofs only[aB,seval,XK]
 intro b hb1
 refine wX [(0,1),(1,1),(3,1),(4,1),(2,0),(5,0),(6,1),(7,2)] [0,1,3,4,6] d9 mixed rfl eK ?_
 simp -implicitDefEqProofs only[aB,seval,XK]
 refine(hg _).mono ?_
 rintro q0 s2 ⟨bs,m1,m2,m3,m4⟩
 rw[←bA] at m3
 obtain⟨q,rfl,m3'⟩:=aRF.1 m3
 have hbb:b∉bs:=fun h=>by have:=m2 b h;simp [lN] at this
 have e1:=m4 b hbb
 rw[aA.aJ] at e1
 obtain⟨hqc,hqs,hqa,hqw,hqj⟩:=bM.oQ m3'
 simp -implicitDefEqProofs only[aB,seval]
 refine⟨eK,?_⟩
 refine(hc _).mono ?_
 rintro r s3 ⟨cs,n1,n2,n3,n4⟩
 have hcb:b∉cs:=fun h=>by have:=n2 b h;rw[e1] at this;cases this
 have f1:=n4 b hcb
 rw[e1] at f1
 obtain⟨hrc,hrs,hra,hrw,hrj⟩:=bM.oQ n3
 simp -implicitDefEqProofs only[aK,f1,hqs,hrc,hrs,hrj,aB,seval,XK]
 have wT:=(bM.gY _ _ _ m3').2.2
 have wL:∀x∈bs,x∉cs:=fun x hx hx'=>by
  obtain⟨u,e,_⟩:=wT x hx
  have:=n2 x hx'
  rw[e] at this;cases this
 have hcs:∀x∈cs,x≠b:=fun x hx e=>hcb (e▸hx)
 have hbs:∀x∈bs,x≠b:=fun x hx e=>hbb (e▸hx)
 refine⟨eK,[b],bs++cs,mJ.2 ⟨m1,n1,fun x hx y hy e=>wL x hx (e▸hy)⟩,fun x hx=>?_,?_,?_,?_⟩
 · rcases d6.1 hx with hx | hx
   · have:=m2 x hx
     rwa [aA.aG _ _ (hbs x hx)] at this
   · have:=n2 x hx
     rw[m4 x (fun h=>wL x h hx),aA.aG _ _ (hcs x hx)] at this
     exact this
 · simp [hb1,hbb,hcb]
 · rw[←iL]
   refine a7O.2 ⟨q,bs,r,cs,rfl,rfl,bM.aV _ _ _ (fun x hx=>?_) m3',bM.aV _ _ _ (fun x hx=>?_) n3⟩
   · rw[aA.aG _ _ (hbs x hx),n4 x (wL x hx)]
   · rw[aA.aG _ _ (hcs x hx)]
 · intro x hx hd
   simp only[c7,dT,d4] at hd
   simp only[d6,nO] at hx
   rw[aA.aG _ _ hd,n4 x hx.2,m4 x hx.1,aA.aG _ _ hd]
def opens(p:List Cl)(q:List Tm)(k:Int):Bool:=pJ p&&lM q&&(decide (0≤k)&&decide (k≤300))
def vG(p:List Cl)(q:List Tm)(k:Int):Ss:=if opens p q k=true then⟨p,q,k,0,0,-1⟩ else⟨[],[],0,0,0,0⟩
theorem aRM{p:List Cl}(h:pJ p=true):p.length≤20∧∀c∈p,FD c:=by
 simp only[pJ,cF,bK,eH] at h
 refine⟨h.1,fun c hc=>?_⟩
 have:=h.2 c hc
 simp only[mS,cF,bK,eH] at this
 refine⟨Tm.QN this.1.1,by omega,fun x hx=>?_⟩
 have hg:=this.2.2 x hx
 cases x
 simp only[Tm.goal,cF] at hg
 exact Tm.QN hg.1
theorem aRN{q:List Tm}(h:lM q=true):q.length≤6∧∀t∈q,t.small=true:=by
 simp only[lM,cF,bK,eH] at h
 refine⟨h.1,fun x hx=>?_⟩
 have hg:=h.2 x hx
 cases x
 simp only[Tm.goal,cF] at hg
 exact Tm.QN hg.1
abbrev DY:=zi tI_3 (zi zI_3 (zi aY (zi tI_4 (zi zI_4 (zi cJ (zi tI_29 (zi zI_29 (zi fN (zi iG (zi iI (zi jN (zi tI_31 (zi zI_31 (zi aQ (zi bS (zi bT (zi cI (zi tI_62 (zi zI_62 (zi lE (zi lF (zi lG (zi lH (zi lI (zi lJ lA)))))))))))))))))))))))))
theorem a0F(p:List Cl)(q:List Tm)(k:Int)(st:aA):aD prog 173 [.slice (p.map bR),.slice (q.map Tm.av),.int .i64 k] st (fun r st'=>r=.tup [aS (vG p q k),.bool (opens p q k)]∧st'=st):=by
 refine aD.done ?_
 refine wF [1000000] 3 func173 ntmps173 rfl rfl ?_
 intro _
 simp -implicitDefEqProofs only[aB,seval,DY]
 intro b hb
 have jI:opens p q k=false→∀o,(AV.tup [.agg [.fslice [],.fslice [],.int .i64 0,.int .i64 0,.int .i64 0,.int .i64 0],.bool false]).soft=.tup [aS (vG p q k),.bool (opens p q k)]∧aL (st.aC b o) st:=fun h o=>by
  refine⟨?_,(aL.refl _).aC hb⟩
  unfold vG
  rw[h]
  simp only[aS,iT,jZ,iU,sI,mV,bH,a7,iK,dY]
 refine(aCF p _).to ?_
 simp -implicitDefEqProofs only[aB,seval]
 refine cX (fun h=>?_) (fun h=>?_)
 case refine_2=>
  simp -implicitDefEqProofs only[h,aK,aB,seval,DY]
  exact jI (by simp at h;simp [opens,h]) _
 simp only[rM] at h
 simp -implicitDefEqProofs only[h,aB,seval]
 refine(SS q _).to ?_
 simp -implicitDefEqProofs only[aB,seval]
 refine cX (fun h2=>?_) (fun h2=>?_)
 case refine_2=>
  simp -implicitDefEqProofs only[h2,aK,aB,seval,DY]
  exact jI (by simp at h2;simp [opens,h2]) _
 have hq:lM q=true:=by simpa using h2
 simp -implicitDefEqProofs only[h2,aB,seval]
 refine cX (fun h3=>?_) (fun h3=>?_)
 case refine_2=>
  simp -implicitDefEqProofs only[h3,aK,aB,seval,DY]
  exact jI (by simp at h3;simp only[opens,h,hq,eU];rw[show decide (0≤k)=false from fP (by omega)];try rfl) _
 simp -implicitDefEqProofs only[h3,aB,seval]
 refine aP (fun h4=>?_) (fun h4=>?_)
 · simp -implicitDefEqProofs only[aK,aB,seval,DY]
   exact jI (by simp at h4;simp only[opens,h,hq,eU];rw[show decide (k≤300)=false from fP (by omega)];simp) _
 simp -implicitDefEqProofs only[aB,seval,DY]
 have hok:opens p q k=true:=by
  have h3':0≤k:=by simp at h3;omega
  have h4':k≤300:=by simp at h4;omega
  simp [opens,h,hq,h3',h4']
 have hss:vG p q k=⟨p,q,k,0,0,-1⟩:=by unfold vG;rw[aH hok]
 obtain⟨p1,p2⟩:=aRM h
 obtain⟨q1,q2⟩:=aRN hq
 have hc:=fun st=>MO ⟨p,q,k,0,0,-1⟩ (by simp only;omega) p2 (by simp only;omega) q2 st
 simp only[aS] at hc
 refine(hc _).to ?_
 simp -implicitDefEqProofs only[aK,aB,seval,DY]
 rw[hss,hok]
 exact⟨by simp only[aS,iT,jZ,iU,sI,n9,bH,a7],(aL.refl _).aC hb⟩
theorem a7P{st:aA}{s:Ss}{o:AV}{bs:List Nat} :
 bM st (aS s) o bs↔∃q b1 q' b2,o=.agg [q,q',.int .i64 s.dD,.int .i64 s.used,.int .i64 s.sent,.int .i64 s.fin]∧bs=b1++b2∧bM st (.slice (s.p.map bR)) q b1∧bM st (.slice (s.q.map Tm.av)) q' b2:=by
 unfold aS
 generalize AV.slice (s.p.map bR)=x
 generalize AV.slice (s.q.map Tm.av)=y
 simp only[bM,aW]
 constructor
 · rintro⟨os,rfl,o4,os4,b4,b4',rfl,rfl,h,o6,os6,b6,b6',rfl,rfl,h',o1,os1,b1,b1',rfl,rfl,⟨rfl,rfl⟩,o2,os2,b2,b2',rfl,rfl,⟨rfl,rfl⟩,o3,os3,b3,b3',rfl,rfl,⟨rfl,rfl⟩,o5,os5,b5,b5',rfl,rfl,⟨rfl,rfl⟩,rfl,rfl⟩
   exact⟨o4,b4,o6,b6,rfl,by simp,h,h'⟩
 · rintro⟨q,b1,q',b2,rfl,rfl,h,h'⟩
   exact⟨_,rfl,q,_,b1,b2,rfl,rfl,h,q',_,b2,[],rfl,by simp,h',_,_,[],[],rfl,rfl,⟨rfl,rfl⟩,_,_,[],[],rfl,rfl,⟨rfl,rfl⟩,_,_,[],[],rfl,rfl,⟨rfl,rfl⟩,_,_,[],[],rfl,rfl,⟨rfl,rfl⟩,rfl,rfl⟩
def lW(p:List Cl)(q:List Tm)(most fuel:Int):Bool:=pJ p&&(lM q&&(decide (0≤most)&&(decide (most≤20)&&(decide (0≤fuel)&&decide (fuel≤300)))))
noncomputable def g9(p:List Cl)(cnd:Tm→List Nat→List Nat)(q:List Tm)(most fuel:Int):List (List Tm)×Int:=if lW p q most fuel=true then w7 p cnd q most.toNat fuel.toNat else([],9)
theorem WK{p:List Cl}(h:pJ p=true):p.length≤20∧∀c∈p,gQ c∧c.2.length≤6:=by
 simp only[pJ,cF,bK,eH] at h
 refine⟨h.1,fun c hc=>⟨a0V (h.2 c hc),?_⟩⟩
 have:=h.2 c hc
 simp only[mS,cF,bK,eH] at this
 exact this.2.1
theorem OW{q:List Tm}(h:lM q=true):q.length≤6∧∀t∈q,bJ 26 t∧t.k=3:=by
 simp only[lM,cF,bK,eH] at h
 refine⟨h.1,fun t ht=>?_⟩
 have hg:=h.2 t ht
 have hk:t.valid=true∧t.k=3:=by
  obtain⟨k,n,s,ts⟩:=t
  simp only[Tm.goal,cF] at hg
  refine⟨hg.1,?_⟩
  have:=hg.2
  simp only[AY,sG,pP,cF,bK] at this
  simp only[Tm.k]
  rcases this with (h | h) | h<;>first | exact h.1 | exact h.1.1 | exact h.1.1.1
 exact⟨⟨Tm.LN hk.1,Tm.LM hk.1⟩,hk.2⟩
theorem aF3{α:Type}{P:Program}{t:TypeId}{ag:Bool}{w:Nat}{av:α→AV}{l:List α}{i:Nat}{x:α}(hI:eI P t=some (ag,w))(h:l[i]?=some x)(hw:(av x).width=w):dG P t (.fslice (l.map av)) (.int .i64 (i:Int))=some (.pptr (av x)):=by
 simp only[dG,hI,jQ,lY,h,pA,hw]
 simp
def aOL(l:List ByteArray):AV:=.fslice (l.map AV.str)
abbrev OV (q:List Tm):Prop:=q.length≤6∧∀t∈q,Dn t
theorem aRO(s:ByteArray):∃q:List Tm,OV q∧∃f,H0 (oR (sb s))=.tup [.slice (q.map Tm.av),.bool f]:=by
 cases h:oR (sb s) with
 | none=>exact⟨[],⟨by simp,by simp⟩,false,rfl⟩
 | some q=>
  obtain⟨h1,h2⟩:=a7R h
  exact⟨q,⟨(OW h1).1,h2⟩,true,rfl⟩
theorem a7U{s:ByteArray}(h:WC s=true):s.size≤200∧∃l:List Cl,DO (sb s)=some l∧2≤l.length∧l.length≤20∧∀c∈l,yA c:=by
 unfold WC at h
 rw[cF,bK] at h
 refine⟨h.1,?_⟩
 have h2:=h.2
 cases hp:DO (sb s) with
 | none=>rw[hp] at h2;simp at h2
 | some l=>
  rw[hp] at h2
  simp only[cF,bK] at h2
  refine⟨l,rfl,h2.1,h2.2,fun c hc=>?_⟩
  unfold DO at hp
  simp only at hp
  split at hp
  · cases hp
  · exact((aCR _ [] l (by simp) hp).1 c hc).1
abbrev aT2:=zi tI_3 (zi zI_3 (zi aY (zi tI_9 (zi zI_9 (zi cV (zi tI_31 (zi zI_31 (zi aQ (zi bS (zi bT (zi cI (zi tI_116 (zi zI_116 (zi tI_147 (zi zI_147 (zi lT (zi qP (zi qR sN))))))))))))))))))
theorem aZZ(bs:List Bt)(c p:Nat)(st:aA)(hp:p+10≤1099511627776)(hR:iF st c bs p):aD prog 206 [.ptr c 0] st (Dr bs c p 10 st (fun r=>∃q:List Tm,OV q∧r=.slice (q.map Tm.av))):=by
 refine wF [1000000] 1 func206 ntmps206 rfl rfl ?_
 intro _
 simp -implicitDefEqProofs only[aB,seval]
 refine(aZY _).to ?_
 simp -implicitDefEqProofs only[aF,aB,seval,aT2]
 refine(AG bs c p (by omega) YF.length (by decide) (by decide) _ hR).mono ?_
 rintro _ _ ⟨k,hk,rfl,rfl⟩
 obtain⟨x,hx⟩:∃x,YF[k]?=some x:=⟨_,eA hk⟩
 have hat:=bP (av:=AV.str) lT hx rfl
 simp -implicitDefEqProofs only[hat,aB,seval,aT2]
 refine(aA5 x _).to ?_
 obtain⟨q,hq,f,hf⟩:=aRO x
 rw[hf]
 simp -implicitDefEqProofs only[aB,seval]
 exact⟨p+1,by omega,by omega,rfl,q,hq,rfl⟩
abbrev LA:=zi tI_3 (zi zI_3 (zi aY (zi tI_5 (zi zI_5 (zi m6 (zi tI_9 (zi zI_9 (zi cV (zi tI_29 (zi zI_29 (zi fN (zi iG (zi iI (zi jN (zi tI_31 (zi zI_31 (zi aQ (zi bS (zi bT (zi cI (zi tI_116 (zi zI_116 (zi tI_147 (zi zI_147 (zi lT (zi qP (zi qR (zi sN (zi tI_210 (zi zI_210 (zi aDF (zi a1C (zi a1F bA3)))))))))))))))))))))))))))))))))
set_option maxHeartbeats 1000000 in
theorem aZX(bs:List Bt)(c p:Nat)(st:aA)(hp:p+100≤1099511627776)(hR:iF st c bs p) :
 aD prog 123 [.ptr c 0] st (Dr bs c p 100 st (fun r=>∃(l:List Cl) (q:List Tm),(2≤l.length∧l.length≤20∧∀x∈l,yA x)∧OV q∧r=.tup [.slice (l.map bR),.slice (q.map Tm.av)])):=by
 refine wF [1000000] 1 func123 ntmps123 rfl rfl ?_
 intro _
 simp -implicitDefEqProofs only[aB,seval]
 refine(aZM _).to ?_
 simp -implicitDefEqProofs only[aF,aB,seval,LA]
 refine(AG bs c p (by omega) QF.length (by decide) (by decide) _ hR).mono ?_
 rintro _ _ ⟨k,hk,rfl,rfl⟩
 obtain⟨x,hx⟩:∃x,QF[k]?=some x:=⟨_,eA hk⟩
 have hat:=bP (av:=AV.str) lT hx rfl
 have hk2:k<HJ.length:=hk
 obtain⟨y,hy⟩:∃y,HJ[k]?=some y:=⟨_,eA hk2⟩
 obtain⟨hxs,l,hl1,hl2,hl3,hl4⟩:=a7U (eH.1 bA0 x (cM hx))
 have hyo:=eH.1 bAY y (cM hy)
 simp only[cF,bK] at hyo
 have aOX:=aF3 (P:=prog) (av:=aOL) aDF hy rfl
 simp only[HJ,aOL,bH,a7] at aOX
 have hpp:=fun st=>aXT x (by omega) st
 rw[hl1] at hpp
 simp -implicitDefEqProofs only[hat,aB,seval,LA]
 refine(hpp _).mono ?_
 rintro _ _ ⟨rfl,rfl⟩
 simp -implicitDefEqProofs only[aOX,aB,seval,LA]
 refine(AG bs c (p+1) (by omega) 5 (by omega) (by omega) _ iF.new).mono ?_
 rintro _ _ ⟨j,hj,rfl,rfl⟩
 rw[dS]
 simp -implicitDefEqProofs only[aB,seval]
 refine aP (fun h0=>?_) (fun h0=>?_)
 · simp -implicitDefEqProofs only[aB,seval]
   refine(aZZ bs c (p+1+1) _ (by omega) iF.new).mono ?_
   rintro _ _ ⟨p2,r1,r2,rfl,q,hq,rfl⟩
   rw[dS]
   simp -implicitDefEqProofs only[aB,seval]
   exact⟨p2,by omega,by omega,rfl,l,q,⟨hl2,hl3,hl4⟩,hq,rfl⟩
 simp -implicitDefEqProofs only[aF,aB,seval,LA]
 refine(AG bs c (p+1+1) (by omega) y.length (by omega) (by have:=bAZ y (cM hy);omega) _ iF.new).mono ?_
 rintro _ _ ⟨i,hi,rfl,rfl⟩
 rw[dS]
 obtain⟨z,hz⟩:∃z,y[i]?=some z:=⟨_,eA hi⟩
 have yL:=aF3 (P:=prog) (av:=AV.str) lT hz rfl
 simp -implicitDefEqProofs only[yL,aB,seval,LA]
 refine(aA5 z _).to ?_
 obtain⟨q,hq,f,hf⟩:=aRO z
 rw[hf]
 simp -implicitDefEqProofs only[aB,seval]
 exact⟨p+1+1+1,by omega,by omega,rfl,l,q,⟨hl2,hl3,hl4⟩,hq,rfl⟩
end Go.AW
namespace Go.AW
def rB(l:List IC):Nat:=(l.map fun c=>c.list.length).sum
theorem VL(l m:List IC):rB (l++m)=rB l+rB m:=by simp [rB]
theorem aQI(c:IC):rB [c]=c.list.length:=by simp [rB]
theorem aQJ(l:List IC)(k:Nat):rB (l.take k)≤rB l:=by
 have:=VL (l.take k) (l.drop k)
 rw[qG] at this
 omega
structure IX (p:List Cl) (M:Nat) (i:IS):Prop where
 tnd:i.tr.Nodup
 tin:∀n∈i.tr,(0≤n∧n<(i.fresh:Int))∧i.σ n≠none
 phi:i.fresh+26*rB i.chs≤M
 ch:∀c∈i.chs,c.node<c.taken∧c.taken≤i.nn∧c.fK≤i.tr.length∧∀x∈c.list,x<p.length
 mono:i.chs.Pairwise (fun c d=>c.taken≤d.taken∧c.fK≤d.fK)
theorem IX.up{p:List Cl}{M M':Nat}{i:IS}(h:IX p M i)(hM:M≤M'):IX p M' i:=⟨h.tnd,h.tin,mK h.phi hM,h.ch,h.mono⟩
theorem IX.YB{p:List Cl}{M:Nat}{i:IS}(h:IX p M i):i.tr.length≤i.fresh:=GI h.tnd fun n hn=>(h.tin n hn).1
theorem OA{p:List Cl}(hp:∀c∈p,gQ c){M:Nat}{goal:Tm}{at':Nat}{rest:List IG}:∀(l:List Nat) (s:IS),(∀x∈l,x<p.length)→at'<s.nn→s.fresh+26*rB s.chs+26*l.length≤M→IX p M s→cT s.σ→c9 (bJ s.fresh) s.σ→bJ s.fresh goal →
 IX p M (gB p goal at' rest l s).2
 | [],s,_,_,_,h,_,_,_=>by unfold gB;exact h
 | j::l,s,hl,ha,hM,h,hg,ho,hgo=>by
  obtain⟨x,hx⟩:∃x,p[j]?=some x:=⟨_,eA (hl j (by simp))⟩
  have hX:=hp x (cM hx)
  have hl':∀x∈l,x<p.length:=fun x h=>hl x (by simp [h])
  simp only[aX] at hM
  unfold gB
  simp only[hx]
  split
  · have hhd:bJ ((s.fresh+26:Nat):Int) (dO s.fresh x.1):=(hX.dO s.fresh x.1 (by simp)).mono (by have:=hX.fr.1;omega)
    obtain⟨r,σ',add,U⟩:=vS (N:=s.fresh+26) hg (fun n u e=>(ho n u e).mono (by omega)) (hgo.mono (by omega)) hhd
    rw[U.eq]
    have S:=U.zA
    refine⟨?_,?_,?_,?_,?_⟩
    · simp only
      refine mJ.2 ⟨h.tnd,S.nodup,fun a ha b hb e=>?_⟩
      subst e
      exact(h.tin a ha).2 (S.new a hb).1
    · intro n hn
      simp only[d6] at hn ⊢
      rcases hn with hn | hn
      · have h1:=h.tin n hn
        have hna:n∉add:=fun ha=>h1.2 (S.new n ha).1
        exact⟨⟨h1.1.1,by have:=h1.1.2;omega⟩,by rw[S.aV n hna];exact h1.2⟩
      · have:=S.gO n hn
        exact⟨⟨this.1,by omega⟩,(S.new n hn).2⟩
    · simp only
      split
      · omega
      · rw[VL,aQI];simp only;omega
    · intro c hc
      have key:∀c∈s.chs,c.node<c.taken∧c.taken≤s.nn∧c.fK≤(s.tr++add).length∧∀x∈c.list,x<p.length:=fun c hc=>by
       obtain⟨h1,h2,h3,h4⟩:=h.ch c hc
       exact⟨h1,h2,by rw[dQ];omega,h4⟩
      simp only at hc ⊢
      split at hc
      · exact key c hc
      · rcases d6.1 hc with hc | hc
        · exact key c hc
        · simp only[c7,dT,d4] at hc
          subst hc
          exact⟨ha,cY _,by rw[dQ];simp only;omega,hl'⟩
    · simp only
      split
      · exact h.mono
      · refine List.pairwise_append.2 ⟨h.mono,List.pairwise_singleton _ _,fun a ha b hb=>?_⟩
        simp only[c7,dT,d4] at hb
        subst hb
        obtain⟨h1,h2,h3,h4⟩:=h.ch a ha
        exact⟨h2,h3⟩
  · refine OA hp l { s with fresh:=s.fresh+26 } hl' ha (by simp only;omega) ⟨h.tnd,fun n hn=>?_,by simp only;omega,h.ch,h.mono⟩ hg (fun n u e=>(ho n u e).mono (by simp only;omega)) (hgo.mono (by simp only;omega))
    have:=h.tin n hn
    exact⟨⟨this.1.1,by simp only;omega⟩,this.2⟩
theorem IX.pop{p:List Cl}{M:Nat}{gl:List IG}{τ:Sub}{tr:List Int}{ds:List IC}{d:IC}{F nn:Nat}(h:IX p M ⟨gl,τ,tr,ds++ [d],F,nn⟩) :
 IX p M ⟨gl,τ.out (tr.drop d.fK),tr.take d.fK,ds,F,d.taken⟩∧F+26*rB ds+26*d.list.length≤M∧d.node<d.taken∧d.taken≤nn∧d.fK≤tr.length∧∀x∈d.list,x<p.length:=by
 obtain⟨h1,h2,h3,h4⟩:=h.ch d (by simp)
 have a4Y:=h.phi
 simp only[VL,aQI] at a4Y
 have hm:=List.pairwise_append.1 h.mono
 have hnd:=h.tnd
 simp only at hnd h2 h3
 have hsp:tr.take d.fK++tr.drop d.fK=tr:=qG _ _
 rw[←hsp,mJ] at hnd
 refine⟨⟨hnd.1,fun n hn=>?_,by simp only;omega,fun c hc=>?_,hm.1⟩,by omega,h1,h2,h3,h4⟩
 · have:=h.tin n (m9 hn)
   refine⟨this.1,?_⟩
   simp only
   unfold Sub.out
   rw[aE (fun hd=>hnd.2.2 n hn n hd rfl)]
   exact this.2
 · obtain⟨g1,g2,g3,g4⟩:=h.ch c (by simp [hc])
   have:=hm.2.2 c hc d (by simp)
   exact⟨g1,this.1,by simp only[dE];simp only at g3;omega,g4⟩
theorem aP2{p:List Cl}(hp:∀c∈p,gQ c){M:Nat}:∀(n:Nat) (cs:List RC) (i:IS),jD i.fresh cs i.chs i.σ i.tr→IX p M i→∀i',g7 p n i=some i'→IX p M i'
 | 0,_,_,_,_,i',h=>by simp [g7] at h
 | n+1,cs,i,C,h,i',e=>by
  obtain⟨gl,τ,tr,ds,F,nn⟩:=i
  simp only at C
  cases C with
  | nil=>simp only[g7,List.getLast?_nil] at e;cases e
  | @snoc cs ds c d _ _ C h1 h2=>
   obtain⟨hP,hM,hnt,htn,htr,hli⟩:=h.pop
   have e3:(IS.pop ⟨gl,τ,tr,ds++ [d],F,nn⟩ d)=⟨gl,τ.out (tr.drop d.fK),tr.take d.fK,ds,F,d.taken⟩:=by simp only[IS.pop,QV]
   simp only[g7,List.getLast?_append,List.getLast?_singleton,Option.some_or,e3] at e
   obtain⟨ρ,S,e1,hok,hG,e2⟩:=h1
   have hX:=OA hp (rest:=d.rest) d.list _ hli (at':=d.node) (by simp only;exact hnt) (by simp only;exact hM) hP S.g2 S.o2 (e1▸S.DS hok)
   split at e
   · cases e
     exact hX
   · rename_i hf
     have key:=QD hp (cs:=cs) (nn:=d.taken) (at':=d.node) (tr:=tr.take d.fK) hok hG c.left F gl S C
     rw[←e1,←e2] at key
     cases ht:jM p cs c.goal c.rest c.σ c.N c.left with
     | some s=>
      rw[e2,ht] at key
      obtain⟨i2,k1,_⟩:=key
      rw[←e2] at k1
      rw[k1] at hf
      simp at hf
     | none=>
      rw[e2,ht] at key
      obtain⟨F',hF,k1⟩:=key
      rw[←e2] at k1
      rw[k1] at e hX
      exact aP2 hp n cs _ (C.mono hF) hX i' e
end Go.AW
namespace Go.AW
open Go.Proofs.Tryz
def eS:List IG→AV
 | []=>.nilptr
 | ⟨.mk k n s ts,cut,up⟩::l=>.pptr (.agg [.int .i64 k,.int .i64 n,.str s,.slice (ts.map Tm.av),.int .i64 (cut:Int),.int .i64 up,eS l])
theorem uR(k n:Int)(s:ByteArray)(ts:List Tm)(cut:Nat)(up:Int)(l:List IG):eS (⟨.mk k n s ts,cut,up⟩::l)=.pptr (.agg [.int .i64 k,.int .i64 n,.str s,.slice (ts.map Tm.av),.int .i64 (cut:Int),.int .i64 up,eS l]):=by rw[eS]
theorem qU(l:List IG):(eS l).isAgg=false∧(eS l).width=1∧(eS l).cE=false∧(eS l).cells= [eS l]∧(eS l).storable=true∧(eS l).soft=eS l:=by
 cases l with
 | nil=>rw[eS];exact⟨rfl,rfl,rfl,rfl,rfl,rfl⟩
 | cons g l=>obtain⟨⟨k,n,s,ts⟩,cut,up⟩:=g;rw[uR];exact⟨rfl,rfl,rfl,rfl,rfl,rfl⟩
abbrev aTQ:=zi tI_3 (zi zI_3 (zi aY (zi tI_31 (zi zI_31 (zi aQ (zi bS (zi bT (zi cI (zi tI_66 (zi zI_66 (zi bZ (zi b9 (zi cA (zi cB (zi bY (zi tI_256 (zi zI_256 (zi tI_321 (zi zI_321 (zi aNR (zi aNS (zi aNT (zi aNU aAM)))))))))))))))))))))))
theorem SP(bd:List Tm)(cut:Nat)(up:Int)(rest:List IG)(hl:bd.length≤1048576)(st:aA) :
 aD prog 242 [.slice (bd.map Tm.av),.int .i64 (cut:Int),.int .i64 up,eS rest] st (fun r st'=>r=eS (bd.map (fun t=>(⟨t,cut,up⟩:IG))++rest)∧st'=st):=by
 obtain⟨r1,r2,r3,r4,r5,r6⟩:=qU rest
 refine aD.done ?_
 refine wF [1000000] 4 func242 ntmps242 rfl rfl ?_
 intro _
 have hw0:=bE (n:=(bd.length:Int) - 1)
 simp -implicitDefEqProofs only[aF,hw0,aB,seval,aTQ]
 refine iP (σ:=Nat) [1000000] [0,1,2,8] (fun j=>j≤bd.length) (fun j=>[(3,eS ((bd.drop j).map (fun t=>(⟨t,cut,up⟩:IG))++rest)),(9,.int .i64 ((j:Int) - 1))]) (fun _=>st) (fun j=>j) (by decide +kernel) ⟨bd.length,cY _,aM.mk (by simp -implicitDefEqProofs only[kK,a7,fF,aB,seval])⟩ ?_
 intro j hj
 cases j with
 | zero=>
  rw[sP]
  obtain⟨s1,s2,s3,s4,s5,s6⟩:=qU (bd.map (fun t=>(⟨t,cut,up⟩:IG))++rest)
  simp -implicitDefEqProofs only[yD,↓LT,List.contains,List.elem,↓reduceIte,reduceCtorEq,Nat.reduceEqDiff]
  refine aP (fun h=>absurd h (by simp)) (fun h=>?_)
  simp -implicitDefEqProofs only[aB,seval]
  exact⟨s6,aL.refl _⟩
 | succ j=>
 obtain⟨s1,s2,s3,s4,s5,s6⟩:=qU ((bd.drop (j+1)).map (fun t=>(⟨t,cut,up⟩:IG))++rest)
 obtain⟨x,hx⟩:∃x,bd[j]?=some x:=⟨_,eA (by omega)⟩
 have hat:=bP (av:=Tm.av) (P:=prog) aQ hx (aO x)
 have hdr:bd.drop j=x::bd.drop (j+1):=by
  obtain⟨h1,h2⟩:=fL.1 hx
  rw[qF h1,h2]
 have hc:((j+1:Nat):Int) - 1=(j:Int):=by omega
 have hw:=bE (n:=(j:Int) - 1)
 have hnx:eS ((bd.drop j).map (fun t=>(⟨t,cut,up⟩:IG))++rest)=.pptr (.agg (x.av.cells++ [.int .i64 (cut:Int),.int .i64 up,eS ((bd.drop (j+1)).map (fun t=>(⟨t,cut,up⟩:IG))++rest)])):=by
  rw[hdr]
  obtain⟨k,n,s,ts⟩:=x
  rw[bH,iB,uR,bA]
  try rfl
 generalize eS ((bd.drop (j+1)).map (fun t=>(⟨t,cut,up⟩:IG))++rest)=A at *
 obtain⟨k,n,s,ts⟩:=x
 simp only[bA] at hat hnx
 rw[hc]
 simp -implicitDefEqProofs only[aB,seval]
 refine aP (fun h=>?_) (fun h=>absurd h (by simp))
 simp -implicitDefEqProofs only[s3,s4,hat,hw,aB,seval,aTQ]
 trace_state
 refine⟨j,by omega,by omega,aM.mk (by rw[hnx];simp -implicitDefEqProofs only[aB,seval])⟩
theorem aX3(c:Int)(st:aA):aD prog 309 [.int .i64 c] st (fun r st'=>r=.int .i64 (qT c)∧st'=st):=by
 refine aD.done ?_
 refine wF [1000000] 1 func309 ntmps309 rfl rfl ?_
 intro _
 simp -implicitDefEqProofs only[aB,seval]
 unfold qT
 refine aP (fun h=>?_) (fun h=>?_)
 · simp -implicitDefEqProofs only[aB,seval]
   have h':c=2:=by simpa using h
   exact⟨by rw[aH h'];try rfl,aL.refl _⟩
 rw[aE (show ¬c=2 by simpa using h)]
 simp -implicitDefEqProofs only[aB,seval]
 refine aP (fun h=>?_) (fun h=>?_)
 · simp -implicitDefEqProofs only[aB,seval]
   have h':c=3:=by simpa using h
   exact⟨by rw[aH h'];try rfl,aL.refl _⟩
 rw[aE (show ¬c=3 by simpa using h)]
 simp -implicitDefEqProofs only[aB,seval]
 refine aP (fun h=>?_) (fun h=>?_)
 · simp -implicitDefEqProofs only[aB,seval]
   have h':c=4:=by simpa using h
   exact⟨by rw[aH h'];try rfl,aL.refl _⟩
 rw[aE (show ¬c=4 by simpa using h)]
 simp -implicitDefEqProofs only[aB,seval]
 exact⟨rfl,aL.refl _⟩
abbrev bAJ:=zi tI_9 (zi zI_9 (zi cV (zi tI_31 (zi zI_31 (zi aQ (zi bS (zi bT (zi cI (zi tI_66 (zi zI_66 (zi bZ (zi b9 (zi cA (zi cB (zi bY (zi tI_199 (zi zI_199 (zi TK (zi TL RZ)))))))))))))))))))
theorem aB7(k n:Int)(s:ByteArray)(ts:List Tm)(st:aA):aD prog 191 [(Tm.mk k n s ts).av] st (fun r st'=>r=.agg [.str s,.int .i64 (ts.length:Int)]∧st'=st):=by
 refine aD.done ?_
 simp only[bA]
 refine wF [1000000] 1 func191 ntmps191 rfl rfl ?_
 intro _
 simp -implicitDefEqProofs only[aK,aF,aB,seval,bAJ]
 intro b2 h2
 exact⟨by simp only[iT,iU,nT,bH,a7],(aL.refl _).aC h2⟩
abbrev K2:=zi tI_3 (zi zI_3 (zi aY (zi tI_29 (zi zI_29 (zi fN (zi iG (zi iI (zi jN (zi tI_46 (zi zI_46 (zi cZ (zi eG (zi eE (zi eT (zi tI_66 (zi zI_66 (zi bZ (zi b9 (zi cA (zi cB (zi bY (zi tI_84 (zi zI_84 (zi mA (zi mB (zi l8 (zi tI_199 (zi zI_199 (zi TK (zi TL RZ))))))))))))))))))))))))))))))
theorem aXX(p:List Cl)(t:Tm)(hp:p.length≤1048576)(st:aA):aD prog 190 [.slice (p.map bR),.agg [.str t.s,.int .i64 (t.ts.length:Int)]] st (fun r st'=>r=.slice ((eR p t).map nv)∧st'=st):=by
 rw[NK]
 refine aD.done ?_
 obtain⟨tk,tn,ts',tts⟩:=t
 simp only[Tm.s,Tm.ts]
 refine wF [1000000] 2 func190 ntmps190 rfl rfl ?_
 intro _
 simp -implicitDefEqProofs only[aF,aB,seval,K2]
 refine rK (σ:=Unit) [1000000] [3,4,8,9] p 1 5 (fun i _=>((List.range i).filter (rW p (.mk tk tn ts' tts))).map nv) (fun _ _=>True) (fun i _=>[(10,.int .i64 i)]) (fun _ _=>st) (fun i _ _ e he=>by simp only[cH] at he;obtain⟨t,_,rfl⟩:=he;exact⟨rfl,rfl⟩) (by decide +kernel) ⟨(),0,trivial,fun h=>absurd rfl h,aM.mk (by simp -implicitDefEqProofs only[iY,List.range_zero,List.filter_nil,a7,aB,↓aU,seval])⟩ (fun i x _ b hx hlt bL hdr hinv hb=>?_) (fun _ b hge hinv=>?_)
 case refine_2=>
  simp -implicitDefEqProofs only[hge,fS,jW,oL,FM,lU,aB,seval]
  exact⟨rfl,aL.refl _⟩
 have hw:=bE (n:=(i:Int)+1)
 have hst:=aOH p (.mk tk tn ts' tts) i
 have hln:=NL p (.mk tk tn ts' tts) i
 have hat:=bP (av:=bR) (P:=prog) fN hx (kA x)
 obtain⟨⟨k,n,s',ts⟩,bd⟩:=x
 rw[iL] at hat
 have hP:rW p (.mk tk tn ts' tts) i=(decide (s'=ts')&&decide ((ts.length:Int)=(tts.length:Int))):=by unfold rW;rw[hx];try rfl
 rw[hP] at hst
 have hpr:=fun st=>aB7 k n s' ts st
 have a3Z:eJ prog .eql 199 (.agg [.str s',.int .i64 (ts.length:Int)]) (.agg [.str ts',.int .i64 (tts.length:Int)])=some (.bool (decide (s'=ts')&&decide ((ts.length:Int)=(tts.length:Int)))):=by
  have h:NA prog 199=true:=by kernel_rfl
  simp only[eJ,h,xU,eX]
 simp only[bA] at hpr
 simp -implicitDefEqProofs only[bL,hat,aB,↓aU,seval,K2]
 refine wP [(0,1),(1,2),(2,2),(3,2),(4,1)] [0,1,2,3,4] mixed ?_
 simp -implicitDefEqProofs only[aB,seval,K2]
 refine jC (hpr _) ?_
 simp -implicitDefEqProofs only[a3Z,aB,seval,K2]
 refine aP (fun h2=>?_) (fun h2=>?_)
 · rw[aH h2] at hst
   simp -implicitDefEqProofs only[aB,seval,K2]
   refine eQ cZ eG eE rfl rfl (f9 rfl rfl) (VX _) hb (by simp only[aF,aX,a8];omega) (by simp only[aF,aX,a8];omega) (fun b' hb'=>?_)
   rw[show ∀l:List Nat,l.map nv++ [AV.int .i64 (i:Int)]=(l++ [i]).map nv from fun l=>by simp [nv],←hst] at hb' ⊢
   simp -implicitDefEqProofs only[hw,aB,seval]
   exact⟨(),b',hb',aM.mk (by simp -implicitDefEqProofs only[aB,seval])⟩
 · rw[aE (by rw[h2];simp),gF] at hst
   rw[←hst] at hb ⊢
   simp -implicitDefEqProofs only[hw,aB,seval]
   exact⟨(),b,hb,aM.mk (by simp -implicitDefEqProofs only[aB,seval])⟩
def tH:IC→AV
 | ⟨.mk k n s ts,node,rest,list,fK,taken⟩=>.agg [.int .i64 k,.int .i64 n,.str s,.slice (ts.map Tm.av),.int .i64 (node:Int),eS rest,.slice (list.map nv),.int .i64 (fK:Int),.int .i64 (taken:Int)]
theorem aP5(k n:Int)(s:ByteArray)(ts:List Tm)(node:Nat)(rest:List IG)(list:List Nat)(fK taken:Nat):tH ⟨.mk k n s ts,node,rest,list,fK,taken⟩=.agg [.int .i64 k,.int .i64 n,.str s,.slice (ts.map Tm.av),.int .i64 (node:Int),eS rest,.slice (list.map nv),.int .i64 (fK:Int),.int .i64 (taken:Int)]:=rfl
theorem a5N(c:IC):(tH c).width=9:=by obtain⟨⟨k,n,s,ts⟩,_,_,_,_,_⟩:=c;rfl
theorem VF(l:List IC):∀e∈l.map tH,e.width=9:=by intro e he;simp only[cH] at he;obtain⟨t,_,rfl⟩:=he;exact a5N t
theorem a5M(c:IC):(tH c).cells.all AV.storable=true:=by
 obtain⟨⟨k,n,s,ts⟩,_,rest,_,_,_⟩:=c
 rw[aP5]
 have:=(qU rest).2.2.2.2.1
 rw[eH]
 intro e he
 simp only[AV.cells,c7,dT,d4] at he
 rcases he with rfl | rfl | rfl | rfl | rfl | rfl | rfl | rfl | rfl<;>first | rfl | exact this
def iO(c:Nat)(p:List Cl)(q:List Tm)(idx:Bool)(fuel used fresh:Int)(gl qc qn:AV)(mx:Int):List AV:=
 [.ptr c 0,.slice (p.map bR),.slice (q.map Tm.av),.bool idx,.bool false,.int .i64 fuel,.int .i64 used,.int .i64 fresh,gl,qc,qn,.int .i64 mx]
def j4(S c m:Nat)(qt qc qn:AV):List Nat:=[S,c,m]++dV qt++aT qc++aT qn
theorem a9U(q:AV):dV q=aT q:=by cases q<;>rfl
theorem GQ(q:AV):(aT q).Nodup:=by cases q<;>simp [aT]
structure dR (st0 st:aA) (S c m:Nat) (qt qc qn:AV) (p:List Cl) (q:List Tm) (idx:Bool) (fuel used mx:Int) (nd:List AV) (i:IS):Prop where
 cell:st S=some (.cells (iO c p q idx fuel used i.fresh (eS i.goals) qc qn mx))
 sto:gR st c m qt i.σ i.tr
 acC:gE st 9 qc (i.chs.map tH)
 acN:gE st 6 qn nd
 ndl:nd.length=i.nn
 ndw:∀e∈nd,e.width=6
 dis:(j4 S c m qt qc qn).Nodup
 new:∀b∈j4 S c m qt qc qn,st0 b=none
 aV:∀b o,st0 b=some o→st b=some o
theorem eL{b S c m:Nat}{qt qc qn:AV}:b∈j4 S c m qt qc qn↔b=S∨b=c∨b=m∨b∈dV qt∨b∈aT qc∨b∈aT qn:=by
 simp only[j4,d6,c7,dT,d4,or_assoc]
section
variable {st0 st:aA} {S c m:Nat} {qt qc qn:AV} {p:List Cl} {q:List Tm} {idx:Bool} {fuel used mx:Int} {nd:List AV} {i:IS}
theorem dR.held(h:dR st0 st S c m qt qc qn p q idx fuel used mx nd i):∀b∈j4 S c m qt qc qn,st b≠none:=fun b hb=>by
 rcases eL.1 hb with rfl | rfl | rfl | hb | hb | hb
 · rw[h.cell];simp
 · rw[h.sto.sub.cells];simp
 · rw[h.sto.sub.map];simp
 · obtain⟨cs,e⟩:=h.sto.KY b hb;rw[e];simp
 · obtain⟨cs,e⟩:=h.acC.some b hb;rw[e];simp
 · obtain⟨cs,e⟩:=h.acN.some b hb;rw[e];simp
theorem dR.uP(h:dR st0 st S c m qt qc qn p q idx fuel used mx nd i):aL st st0:=fun b=>by
 refine⟨fun e=>?_,h.aV b⟩
 cases hb:st0 b with
 | none=>rfl
 | some o=>rw[h.aV b o hb] at e;cases e
theorem dR.aOK(h:dR st0 st S c m qt qc qn p q idx fuel used mx nd i){b:Nat}(hb:st b=none):st0 b=none:=(h.uP b).1 hb
theorem dR.parts(h:dR st0 st S c m qt qc qn p q idx fuel used mx nd i):S≠c∧S≠m∧c≠m∧S∉dV qt∧S∉aT qc∧S∉aT qn∧c∉dV qt∧c∉aT qc∧c∉aT qn∧m∉dV qt∧m∉aT qc∧m∉aT qn∧(∀b∈dV qt,b∉aT qc∧b∉aT qn)∧∀b∈aT qc,b∉aT qn:=by
 have hd:=h.dis
 simp only[j4,mJ,B5,c7,dT,d4,nO,d6] at hd
 obtain⟨⟨⟨⟨⟨h1,h2⟩,h3,_⟩,h4,h5⟩,h6,h7⟩,h8,h9⟩:=hd
 refine⟨h1,h2,h3,fun hb=>h5 _ (.inl rfl) _ hb rfl,fun hb=>h7 _ (.inl (.inl rfl)) _ hb rfl,fun hb=>h9 _ (.inl (.inl (.inl rfl))) _ hb rfl,
  fun hb=>h5 _ (.inr (.inl rfl)) _ hb rfl,fun hb=>h7 _ (.inl (.inr (.inl rfl))) _ hb rfl,fun hb=>h9 _ (.inl (.inl (.inr (.inl rfl)))) _ hb rfl,
  fun hb=>h5 _ (.inr (.inr rfl)) _ hb rfl,fun hb=>h7 _ (.inl (.inr (.inr rfl))) _ hb rfl,fun hb=>h9 _ (.inl (.inl (.inr (.inr rfl)))) _ hb rfl,
  fun b hb=>⟨fun h'=>h7 b (.inr hb) b h' rfl,fun h'=>h9 b (.inl (.inr hb)) b h' rfl⟩,fun b hb h'=>h9 b (.inr hb) b h' rfl⟩
theorem VV{X A A' Y:List Nat}(h:(X++A++Y).Nodup)(hA:A'.Nodup)(hn:∀b∈A',b∈A∨b∉X++A++Y):(X++A'++Y).Nodup:=by
 simp only[mJ,d6] at h ⊢
 obtain⟨⟨hX,hA0,hXA⟩,hY,hXY⟩:=h
 refine⟨⟨hX,hA,fun a ha b hb e=>?_⟩,hY,fun a ha b hb e=>?_⟩
 · subst e
   rcases hn a hb with h | h
   · exact hXA a ha a h rfl
   · simp only[d6,nO] at h;exact h.1.1 ha
 · subst e
   rcases ha with ha | ha
   · exact hXY a (.inl ha) a hb rfl
   · rcases hn a ha with h | h
     · exact hXY a (.inr h) a hb rfl
     · simp only[d6,nO] at h;exact h.2 hb
theorem dR.go{st':aA}{qt' qc' qn':AV}{fuel' used' mx':Int}{nd':List AV}{i':IS}(h:dR st0 st S c m qt qc qn p q idx fuel used mx nd i)
 (cell:st' S=some (.cells (iO c p q idx fuel' used' i'.fresh (eS i'.goals) qc' qn' mx'))) (sto:gR st' c m qt' i'.σ i'.tr) (acC:gE st' 9 qc' (i'.chs.map tH)) (acN:gE st' 6 qn' nd') (ndl:nd'.length=i'.nn) (ndw:∀e∈nd',e.width=6)
 (dis:(j4 S c m qt' qc' qn').Nodup) (new:∀b∈j4 S c m qt' qc' qn',b∈j4 S c m qt qc qn∨st b=none) (frame:∀b o,st b=some o→b∉j4 S c m qt qc qn→st' b=some o) :
 dR st0 st' S c m qt' qc' qn' p q idx fuel' used' mx' nd' i':=
 ⟨cell,sto,acC,acN,ndl,ndw,dis,fun b hb=>by
  rcases new b hb with h1 | h1
  · exact h.new b h1
  · exact h.aOK h1,fun b o hb=>frame b o (h.aV b o hb) fun hm=>by rw[h.new b hm] at hb;cases hb⟩
theorem dR.put{fuel' used' mx':Int}{gl:List IG}{F:Nat}{cs:List AV}(h:dR st0 st S c m qt qc qn p q idx fuel used mx nd i)(hcs:cs=iO c p q idx fuel' used' F (eS gl) qc qn mx') :
 dR st0 (st.aC S (.cells cs)) S c m qt qc qn p q idx fuel' used' mx' nd { i with goals:=gl,fresh:=F }:=by
 obtain⟨h1,h2,h3,h4,h5,h6,_⟩:=h.parts
 subst hcs
 refine h.go (aA.aJ _ _ _) (h.sto.aC h1 h2 h4) (h.acC.aV fun b hb=>aA.aG _ _ (by rintro rfl;exact h5 hb)) (h.acN.aV fun b hb=>aA.aG _ _ (by rintro rfl;exact h6 hb)) h.ndl h.ndw h.dis (fun b hb=>.inl hb) fun b o hb hn=>?_
 rw[aA.aG _ _ (by rintro rfl;exact hn (eL.2 (.inl rfl)))]
 exact hb
theorem dR.LH{st':aA}{qt':AV}{σ':Sub}{tr':List Int}(h:dR st0 st S c m qt qc qn p q idx fuel used mx nd i)(hS:gR st' c m qt' σ' tr')(hf:∀b o,st b=some o→b≠c→b≠m→b∉dV qt→st' b=some o)(hn:∀b∈dV qt',b∈dV qt∨st b=none) :
 dR st0 st' S c m qt' qc qn p q idx fuel used mx nd { i with σ:=σ',tr:=tr' }:=by
 obtain⟨h1,h2,h3,h4,h5,h6,h7,h8,h9,h10,h11,h12,h13,h14⟩:=h.parts
 have hC:∀b∈aT qc,st' b=st b:=fun b hb=>by
  obtain⟨cs,e⟩:=h.acC.some b hb
  rw[e,hf b _ e (by rintro rfl;exact h8 hb) (by rintro rfl;exact h11 hb) (fun hb'=>(h13 b hb').1 hb)]
 have hN:∀b∈aT qn,st' b=st b:=fun b hb=>by
  obtain⟨cs,e⟩:=h.acN.some b hb
  rw[e,hf b _ e (by rintro rfl;exact h9 hb) (by rintro rfl;exact h12 hb) (fun hb'=>(h13 b hb').2 hb)]
 refine h.go (hf S _ h.cell h1 h2 h4) hS (h.acC.aV hC) (h.acN.aV hN) h.ndl h.ndw ?_ (fun b hb=>?_) (fun b o hb hn'=>?_)
 · have hd:=h.dis
   unfold j4 at hd ⊢
   rw[lX] at hd ⊢
   refine VV hd (by rw[a9U];exact GQ _) fun b hb=>?_
   rcases hn b hb with h' | h'
   · exact .inl h'
   · refine .inr fun hm=>h.held b ?_ h'
     unfold j4;rw[lX];exact hm
 · rcases eL.1 hb with rfl | rfl | rfl | hb | hb | hb
   · exact .inl (eL.2 (.inl rfl))
   · exact .inl (eL.2 (.inr (.inl rfl)))
   · exact .inl (eL.2 (.inr (.inr (.inl rfl))))
   · rcases hn b hb with h' | h'
     · exact .inl (eL.2 (.inr (.inr (.inr (.inl h')))))
     · exact .inr h'
   · exact .inl (eL.2 (.inr (.inr (.inr (.inr (.inl hb))))))
   · exact .inl (eL.2 (.inr (.inr (.inr (.inr (.inr hb))))))
 · have:=fun x=>hn' (eL.2 x)
   exact hf b o hb (by rintro rfl;exact this (.inr (.inl rfl))) (by rintro rfl;exact this (.inr (.inr (.inl rfl)))) fun hb'=>this (.inr (.inr (.inr (.inl hb'))))
theorem dR.post{st':aA}{σ':Sub}{tr':List Int}(h:dR st0 st S c m qt qc qn p q idx fuel used mx nd i)(hP:xM c m st qt σ' tr' st'):∃qt',dR st0 st' S c m qt' qc qn p q idx fuel used mx nd { i with σ:=σ',tr:=tr' }:=by
 obtain⟨q',hS,hQ⟩:=hP
 exact⟨q',h.LH hS (fun b o hb h1 h2 h3=>hQ.frame b o hb h1 h2 h3) hQ.fresh⟩
end
theorem gR.GA{st st':aA}{c m:Nat}{q:AV}{σ:Sub}{tr:List Int}(h:gR st c m q σ tr)(hc:st' c=st c)(hm:st' m=st m)(ht:∀b∈dV q,st' b=st b):gR st' c m q σ tr:=by
 refine⟨⟨by rw[hc];exact h.sub.cells,by rw[hm];exact h.sub.map⟩,?_,h.apart⟩
 rcases h.fK with h1 | ⟨b,cs,h1,h2,h3⟩
 · exact .inl h1
 · exact .inr ⟨b,cs,h1,by rw[ht b (by rw[h1];simp [dV])];exact h2,h3⟩
section
variable {st0 st:aA} {S c m:Nat} {qt qc qn:AV} {p:List Cl} {q:List Tm} {idx:Bool} {fuel used mx:Int} {nd:List AV} {i:IS}
theorem dR.a72{st':aA}{qc':AV}{aCQ:List IC}{cs:List AV}(h:dR st0 st S c m qt qc qn p q idx fuel used mx nd i)(gM:gE st' 9 qc' (aCQ.map tH))(hf:∀y,y∉aT qc→y∉aT qc'→st' y=st y)(hn:∀y∈aT qc',y∈aT qc∨st y=none)
 (hcs:cs=iO c p q idx fuel used i.fresh (eS i.goals) qc' qn mx):dR st0 (st'.aC S (.cells cs)) S c m qt qc' qn p q idx fuel used mx nd { i with chs:=aCQ }:=by
 obtain⟨h1,h2,h3,h4,h5,h6,h7,h8,h9,h10,h11,h12,h13,h14⟩:=h.parts
 have same:∀b,st b≠none→b∉aT qc→st' b=st b:=fun b hb hq=>hf b hq fun hq'=>by
  rcases hn b hq' with h' | h'
  · exact hq h'
  · exact hb h'
 have hS:S∉aT qc':=fun hb=>by
  rcases hn S hb with h' | h'
  · exact h5 h'
  · rw[h.cell] at h';cases h'
 subst hcs
 have held:=fun b x=>h.held b (eL.2 x)
 refine h.go (aA.aJ _ _ _) (h.sto.GA ?_ ?_ fun b hb=>?_) (gM.aV fun b hb=>aA.aG _ _ (by rintro rfl;exact hS hb)) (h.acN.aV fun b hb=>?_) h.ndl h.ndw ?_ (fun b hb=>?_) fun b o hb hn'=>?_
 · rw[aA.aG _ _ (dH h1)];exact same c (held c (.inr (.inl rfl))) h8
 · rw[aA.aG _ _ (dH h2)];exact same m (held m (.inr (.inr (.inl rfl)))) h11
 · rw[aA.aG _ _ (by rintro rfl;exact h4 hb)];exact same b (held b (.inr (.inr (.inr (.inl hb))))) (h13 b hb).1
 · rw[aA.aG _ _ (by rintro rfl;exact h6 hb)];exact same b (held b (.inr (.inr (.inr (.inr (.inr hb)))))) fun h'=>h14 b h' hb
 · have hd:=h.dis
   unfold j4 at hd ⊢
   refine VV hd (GQ _) fun b hb=>?_
   rcases hn b hb with h' | h'
   · exact .inl h'
   · refine .inr fun hm=>h.held b ?_ h'
     unfold j4;exact hm
 · rcases eL.1 hb with rfl | rfl | rfl | hb | hb | hb
   · exact .inl (eL.2 (.inl rfl))
   · exact .inl (eL.2 (.inr (.inl rfl)))
   · exact .inl (eL.2 (.inr (.inr (.inl rfl))))
   · exact .inl (eL.2 (.inr (.inr (.inr (.inl hb)))))
   · rcases hn b hb with h' | h'
     · exact .inl (eL.2 (.inr (.inr (.inr (.inr (.inl h'))))))
     · exact .inr h'
   · exact .inl (eL.2 (.inr (.inr (.inr (.inr (.inr hb))))))
 · have hno:=fun x=>hn' (eL.2 x)
   rw[aA.aG _ _ (by rintro rfl;exact hno (.inl rfl)),same b (by rw[hb];simp) fun h'=>hno (.inr (.inr (.inr (.inr (.inl h')))))]
   exact hb
theorem dR.a73{st':aA}{qn':AV}{nd':List AV}{n':Nat}{cs:List AV}(h:dR st0 st S c m qt qc qn p q idx fuel used mx nd i)(gM:gE st' 6 qn' nd')(hl:nd'.length=n')(hw:∀e∈nd',e.width=6)(hf:∀y,y∉aT qn→y∉aT qn'→st' y=st y)(hn:∀y∈aT qn',y∈aT qn∨st y=none)
 (hcs:cs=iO c p q idx fuel used i.fresh (eS i.goals) qc qn' mx):dR st0 (st'.aC S (.cells cs)) S c m qt qc qn' p q idx fuel used mx nd' { i with nn:=n' }:=by
 obtain⟨h1,h2,h3,h4,h5,h6,h7,h8,h9,h10,h11,h12,h13,h14⟩:=h.parts
 have same:∀b,st b≠none→b∉aT qn→st' b=st b:=fun b hb hq=>hf b hq fun hq'=>by
  rcases hn b hq' with h' | h'
  · exact hq h'
  · exact hb h'
 have hS:S∉aT qn':=fun hb=>by
  rcases hn S hb with h' | h'
  · exact h6 h'
  · rw[h.cell] at h';cases h'
 subst hcs
 have held:=fun b x=>h.held b (eL.2 x)
 refine h.go (aA.aJ _ _ _) (h.sto.GA ?_ ?_ fun b hb=>?_) (h.acC.aV fun b hb=>?_) (gM.aV fun b hb=>aA.aG _ _ (by rintro rfl;exact hS hb)) hl hw ?_ (fun b hb=>?_) fun b o hb hn'=>?_
 · rw[aA.aG _ _ (dH h1)];exact same c (held c (.inr (.inl rfl))) h9
 · rw[aA.aG _ _ (dH h2)];exact same m (held m (.inr (.inr (.inl rfl)))) h12
 · rw[aA.aG _ _ (by rintro rfl;exact h4 hb)];exact same b (held b (.inr (.inr (.inr (.inl hb))))) (h13 b hb).2
 · rw[aA.aG _ _ (by rintro rfl;exact h5 hb)];exact same b (held b (.inr (.inr (.inr (.inr (.inl hb)))))) (h14 b hb)
 · have hd:=h.dis
   unfold j4 at hd ⊢
   have:=VV (X:=[S,c,m]++dV qt++aT qc) (A:=aT qn) (A':=aT qn') (Y:=[]) (by rw[gF];exact hd) (GQ _) fun b hb=>by
    rcases hn b hb with h' | h'
    · exact .inl h'
    · refine .inr fun hm=>h.held b ?_ h'
      rw[gF] at hm
      unfold j4;exact hm
   rwa [gF] at this
 · rcases eL.1 hb with rfl | rfl | rfl | hb | hb | hb
   · exact .inl (eL.2 (.inl rfl))
   · exact .inl (eL.2 (.inr (.inl rfl)))
   · exact .inl (eL.2 (.inr (.inr (.inl rfl))))
   · exact .inl (eL.2 (.inr (.inr (.inr (.inl hb)))))
   · exact .inl (eL.2 (.inr (.inr (.inr (.inr (.inl hb))))))
   · rcases hn b hb with h' | h'
     · exact .inl (eL.2 (.inr (.inr (.inr (.inr (.inr h'))))))
     · exact .inr h'
 · have hno:=fun x=>hn' (eL.2 x)
   rw[aA.aG _ _ (by rintro rfl;exact hno (.inl rfl)),same b (by rw[hb];simp) fun h'=>hno (.inr (.inr (.inr (.inr (.inr h')))))]
   exact hb
theorem dR.nodes{k:Nat}(h:dR st0 st S c m qt qc qn p q idx fuel used mx nd i)(hk:k<i.nn):∃b,qn=.mslice b 0 nd.length 6:=by
 have hl:=h.ndl
 rcases h.acN with ⟨_,e⟩ | ⟨b,cs,e,_⟩
 · subst e;simp at hl;omega
 · exact⟨b,e⟩
theorem dR.nodeAt{b n:Nat}(h:dR st0 st S c m qt qc (.mslice b 0 n 6) p q idx fuel used mx nd i):∃cs,st b=some (.cells cs)∧nd.length*6≤cs.length:=by
 rcases h.acN with ⟨e,_⟩ | ⟨b',cs,e,h2,_,h4⟩
 · cases e
 · cases e;exact⟨cs,h2,h4⟩
theorem aSC:∀(n:Nat) (cs:List AV),cs.length=n*6→∃nd:List AV,nd.length=n∧(∀e∈nd,e.width=6)∧nd.flatMap AV.cells=cs
 | 0,cs,h=>⟨[],rfl,by simp,by have:cs= []:=pQ (by simpa using h);subst this;rfl⟩
 | n+1,cs,h=>by
  obtain⟨nd,h1,h2,h3⟩:=aSC n (cs.drop 6) (by rw[mI,h];omega)
  refine⟨.agg (cs.take 6)::nd,by simp [h1],fun e he=>?_,?_⟩
  · rcases c7.1 he with rfl | he
    · show(cs.take 6).length=6
      rw[dE,h];omega
    · exact h2 e he
  · rw[rN,h3]
    exact qG 6 cs
theorem dR.aR6{b k:Nat}{cs:List AV}{x:AV}(h:dR st0 st S c m qt qc qn p q idx fuel used mx nd i)(hq:qn=.mslice b 0 nd.length 6)(hb:st b=some (.cells cs))(hk:k<nd.length*6) :
 ∃nd',dR st0 (st.aC b (.cells (aK cs k [x]))) S c m qt qc qn p q idx fuel used mx nd' i:=by
 obtain⟨h1,h2,h3,h4,h5,h6,h7,h8,h9,h10,h11,h12,h13,h14⟩:=h.parts
 have hbq:b∈aT qn:=by rw[hq];simp [aT]
 have hne:∀a,a∉aT qn→st.aC b (.cells (aK cs k [x])) a=st a:=fun a ha=>aA.aG _ _ (by rintro rfl;exact ha hbq)
 have hcl:nd.length*6≤cs.length:=by
  rcases h.acN with ⟨e,_⟩ | ⟨b',cs',e1,e2,e3,e4⟩
  · rw[hq] at e;cases e
  · rw[hq] at e1
    cases e1
    rw[hb] at e2;cases e2
    exact e4
 have hlen:(aK cs k [x]).length=cs.length:=by
  simp only[aK,dQ,dE,mI,aX,a8]
  omega
 obtain⟨nd',n1,n2,n3⟩:=aSC nd.length ((aK cs k [x]).take (nd.length*6)) (by rw[dE,hlen];omega)
 refine⟨nd',h.go (by rw[hne S h6];exact h.cell) (h.sto.GA (hne c h9) (hne m h12) fun b hb=>hne b (h13 b hb).2) (h.acC.aV fun b hb=>hne b (h14 b hb)) (.inr ⟨b,_,by rw[hq,n1],aA.aJ _ _ _,by rw[n1,n3],by rw[n1,hlen];exact hcl⟩) (by rw[n1];exact h.ndl) n2 h.dis (fun b hb=>.inl hb) fun a o ha hn=>?_⟩
 rw[hne a fun h'=>hn (eL.2 (.inr (.inr (.inr (.inr (.inr h'))))))]
 exact ha
end
theorem aSE{φ:AF}{t:TypeId}{ag:Bool}{w d k:Nat}{st:aA}{qc:AV}{l:List AV}(hI:eI prog t=some (ag,w))(hA:gE st w qc l)(h:φ d=.int .i64 (k:Int))(hk:k≤l.length):fH prog φ t qc none (some (.tmp d)) none=some (AJ k qc):=by
 rcases hA with ⟨rfl,rfl⟩ | ⟨b,cs,rfl,_⟩
 · have h0:k=0:=by simpa using hk
   subst h0
   exact aSF hI h
 · exact W6 hI h hk
section
variable {st0 st:aA} {S c m:Nat} {qt qc qn:AV} {p:List Cl} {q:List Tm} {idx:Bool} {fuel used mx:Int} {nd:List AV} {i:IS}
theorem dR.aC2{k:Nat}{cs:List AV}{gl:List IG}(h:dR st0 st S c m qt qc qn p q idx fuel used mx nd i)(hk:k≤i.chs.length)(hcs:cs=iO c p q idx fuel used i.fresh (eS gl) (AJ k qc) qn mx) :
 dR st0 (st.aC S (.cells cs)) S c m qt (AJ k qc) qn p q idx fuel used mx nd { i with goals:=gl,chs:=i.chs.take k }:=by
 obtain⟨h1,h2,h3,h4,h5,h6,_⟩:=h.parts
 subst hcs
 have hA:=h.acC.take (k:=k) (by rw[aF];exact hk) (VF _)
 rw[←HR] at hA
 refine h.go (aA.aJ _ _ _) (h.sto.aC h1 h2 h4) (hA.aV fun b hb=>aA.aG _ _ (by rw[GP] at hb;rintro rfl;exact h5 hb)) (h.acN.aV fun b hb=>aA.aG _ _ (by rintro rfl;exact h6 hb)) h.ndl h.ndw (by unfold j4;rw[GP];exact h.dis) (fun b hb=>.inl (by unfold j4 at hb;rw[GP] at hb;exact hb)) fun b o hb hn=>?_
 rw[aA.aG _ _ (by rintro rfl;exact hn (eL.2 (.inl rfl)))]
 exact hb
theorem dR.a03{k:Nat}{cs:List AV}(h:dR st0 st S c m qt qc qn p q idx fuel used mx nd i)(hk:k≤i.nn)(hcs:cs=iO c p q idx fuel used i.fresh (eS i.goals) qc (AJ k qn) mx) :
 dR st0 (st.aC S (.cells cs)) S c m qt qc (AJ k qn) p q idx fuel used mx (nd.take k) { i with nn:=k }:=by
 obtain⟨h1,h2,h3,h4,h5,h6,_⟩:=h.parts
 subst hcs
 have hnl:=h.ndl
 have hA:=h.acN.take (k:=k) (by rw[hnl];exact hk) h.ndw
 refine h.go (aA.aJ _ _ _) (h.sto.aC h1 h2 h4) (h.acC.aV fun b hb=>aA.aG _ _ (by rintro rfl;exact h5 hb)) (hA.aV fun b hb=>aA.aG _ _ (by rw[GP] at hb;rintro rfl;exact h6 hb)) (by rw[dE,hnl];simp only;omega) (fun e he=>h.ndw e (m9 he)) (by unfold j4;rw[GP];exact h.dis) (fun b hb=>.inl (by unfold j4 at hb;rw[GP] at hb;exact hb)) fun b o hb hn=>?_
 rw[aA.aG _ _ (by rintro rfl;exact hn (eL.2 (.inl rfl)))]
 exact hb
end
def oD(c m:Nat)(st:aA)(q:AV)(tr:List Int)(x:Int×Sub×List Int)(r:AV)(st':aA):Prop:=r=.int .i64 x.1∧xM c m st q x.2.1 (tr++x.2.2) st'
theorem oD.same{c m:Nat}{st:aA}{q:AV}{σ:Sub}{tr:List Int}(h:gR st c m q σ tr){r:AV}(k:Int)(hr:r=.int .i64 k):oD c m st q tr (k,σ,[]) r st:=⟨hr,q,by rw[gF];exact h,nZ.refl _ _ _ _⟩
theorem gR.aUH{P:Program}{t e:TypeId}{st:aA}{c m:Nat}{q:AV}{σ:Sub}{tr:List Int}(h:gR st c m q σ tr)(hu:P.underlying t=some (.slice e)):mN P t q=some (.int .i64 (tr.length:Int)):=by
 rcases h.fK with ⟨rfl,rfl⟩ | ⟨b,cs,rfl,_⟩<;>simp only[mN,hu,a8]
theorem IT{N:Nat}{σ:Sub}(hg:cT σ)(ho:c9 (bJ N) σ)(a b:Tm)(ha:bJ N a)(hb:bJ N b)(c m:Nat)(q:AV)(tr:List Int)(st:aA)(hS:gR st c m q σ tr)(hl:tr.length+N≤1099511627776) :
 aD prog 360 [.ptr c 0,a.av,b.av] st (fun r st'=>r=.bool (j5 σ a b).1∧xM c m st q (j5 σ a b).2.1 (tr++(j5 σ a b).2.2) st'):=by
 obtain⟨r,σ',tr',hU⟩:=vS hg ho ha hb
 obtain⟨g,iM⟩:=hU.run
 have hlen:=GI hU.oZ.nodup hU.gO
 rw[hU.eq]
 exact aCL g σ a b r σ' tr' hg (ho.imp fun t ht=>ht.1.small) ha.1.small hb.1.small iM c m q tr st hS (by omega)
abbrev mX:=zi tI_3 (zi zI_3 (zi aY (zi tI_4 (zi zI_4 (zi cJ (zi tI_9 (zi zI_9 (zi cV (zi tI_31 (zi zI_31 (zi aQ (zi bS (zi bT (zi cI (zi tI_46 (zi zI_46 (zi cZ (zi eG (zi eE (zi eT (zi tI_66 (zi zI_66 (zi bZ (zi b9 (zi cA (zi cB (zi bY (zi tI_227 (zi zI_227 (zi tI_304 (zi zI_304 (zi FJ (zi FK E6)))))))))))))))))))))))))))))))))
theorem aXV{N:Nat}{σ:Sub}(hg:cT σ)(ho:c9 (bJ N) σ)(n:Int)(s:ByteArray)(ks:List Tm)(hb:isBuiltin s (ks.length:Int)=true)(hv:∀x∈ks,bJ N x)(c m:Nat)(q:AV)(tr:List Int)(st:aA)(hS:gR st c m q σ tr)(hl:tr.length+N≤1099511627776) :
 aD prog 308 [.ptr c 0,(Tm.mk 3 n s ks).av] st (oD c m st q tr (dM σ s ks)):=by
 have UM:=aX2 3 n s ks
 have hcs:=aAU hb
 have FZ:=fun x y (hxy:ks= [x,y]) h=>aX1 n s x y h (hv x (by simp [hxy])).1 (hv y (by simp [hxy])).1
 simp only[bA] at UM FZ ⊢
 refine wF [1000000] 2 func308 ntmps308 rfl rfl ?_
 intro _
 simp -implicitDefEqProofs only[aB,seval,mX]
 refine(UM _).to ?_
 simp -implicitDefEqProofs only[aB,seval]
 refine aP (fun h=>?_) (fun h=>?_)
 · have h':ks.length=2∧gO tA s=true:=by simp at h;exact⟨by omega,h.2⟩
   obtain⟨x,y,rfl⟩:=wW h'.1
   have e:dM σ s [x,y]=(AI s x y,σ,[]):=by simp only[dM];rw[aH h'.2]
   rw[e]
   have hc:=FZ x y rfl h'.2
   simp only[bH,a7] at hc
   simp -implicitDefEqProofs only[aB,↓aU,seval,mX]
   refine(hc _).to ?_
   simp -implicitDefEqProofs only[aB,seval]
   exact oD.same hS _ rfl
 have hnc:ks.length=2→gO tA s=false:=fun h2=>by simpa [h2] using h
 clear UM FZ h
 simp -implicitDefEqProofs only[aB,seval,mX]
 refine aP (fun h=>?_) (fun h=>?_)
 · have hs:s=⟨#[116,114,117,101]⟩:=by simpa using h
   have hk:=OF (ts:=ks) (by subst hs;simpa [isBuiltin] using hb)
   subst hk
   simp -implicitDefEqProofs only[aB,seval]
   exact oD.same hS _ (by simp [jA,hs])
 have ht:s≠⟨#[116,114,117,101]⟩:=by simpa using h
 simp -implicitDefEqProofs only[aB,seval]
 refine aP (fun h=>?_) (fun h=>?_)
 · have hs:s=⟨#[102,97,105,108]⟩:=by simpa using h
   have hk:=OF (ts:=ks) (by subst hs;simpa [isBuiltin] using hb)
   subst hk
   simp -implicitDefEqProofs only[aB,seval]
   exact oD.same hS _ (by simp [jA,hs])
 have hf:s≠⟨#[102,97,105,108]⟩:=by simpa using h
 simp -implicitDefEqProofs only[aB,seval]
 refine aP (fun h=>?_) (fun h=>?_)
 · have hs:s=⟨#[61]⟩:=by simpa using h
   obtain⟨x,y,rfl⟩:=wW (ts:=ks) (by subst hs;simp [isBuiltin] at hb;omega)
   have e:dM σ s [x,y]=tW σ x y:=by simp only[dM];rw[aE (by rw[hnc rfl];simp),aH hs]
   rw[e]
   have eC:dG prog 31 (.slice [x.av,y.av]) (.int .i64 0)=some (.pptr x.av):=bP (av:=Tm.av) (l:=[x,y]) (i:=0) aQ rfl (aO x)
   have gX:dG prog 31 (.slice [x.av,y.av]) (.int .i64 1)=some (.pptr y.av):=bP (av:=Tm.av) (l:=[x,y]) (i:=1) aQ rfl (aO y)
   simp -implicitDefEqProofs only[aB,↓aU,seval]
   refine wX [(0,1),(1,1),(2,1),(3,1),(4,1),(5,1),(6,1),(7,0),(8,0),(9,1)] [0,1,2,3,4,5,6,9] d9 mixed rfl eK ?_
   simp -implicitDefEqProofs only[eC,gX,bG,aO,aB,seval,mX]
   refine(IT hg ho x y (hv x (by simp)) (hv y (by simp)) c m q tr _ hS hl).mono ?_
   rintro _ s2 ⟨rfl,hP⟩
   simp -implicitDefEqProofs only[aB,seval]
   refine⟨eK,?_⟩
   refine(qN _ _).to ?_
   simp -implicitDefEqProofs only[aB,seval]
   exact⟨eK,rfl,hP⟩
 have he:s≠⟨#[61]⟩:=by simpa using h
 simp -implicitDefEqProofs only[aB,seval]
 refine aP (fun h=>?_) (fun h=>?_)
 · have hs:s=⟨#[92,61]⟩:=by simpa using h
   obtain⟨x,y,rfl⟩:=wW (ts:=ks) (by subst hs;simp [isBuiltin] at hb;omega)
   have e:dM σ s [x,y]=(jA (!(j5 σ x y).1),σ,[]):=by simp only[dM];rw[aE (by rw[hnc rfl];simp),aE he,aH hs]
   rw[e]
   have e1:=hS.sub.cells
   have hql:=hS.aUH eT
   obtain⟨hqa,hqw,hqj,hqc,hqs⟩:=hS.shape
   have eC:dG prog 31 (.slice [x.av,y.av]) (.int .i64 0)=some (.pptr x.av):=bP (av:=Tm.av) (l:=[x,y]) (i:=0) aQ rfl (aO x)
   have gX:dG prog 31 (.slice [x.av,y.av]) (.int .i64 1)=some (.pptr y.av):=bP (av:=Tm.av) (l:=[x,y]) (i:=1) aQ rfl (aO y)
   simp -implicitDefEqProofs only[e1,hql,hqa,aB,↓aU,seval,mX]
   refine wX [(0,1),(1,1),(2,1),(3,1),(4,1),(5,1),(6,1),(7,0),(8,1)] [0,1,2,3,4,5,6,8] d9 mixed rfl eK ?_
   simp -implicitDefEqProofs only[eC,gX,bG,aO,aB,seval,mX]
   refine(IT hg ho x y (hv x (by simp)) (hv y (by simp)) c m q tr _ hS hl).mono ?_
   rintro _ s2 ⟨rfl,hP⟩
   obtain⟨r,σ',add,hU⟩:=vS hg ho (hv x (by simp)) (hv y (by simp))
   rw[hU.eq] at hP ⊢
   obtain⟨q',hS2,hQ2⟩:=hP
   have a25:=GI hU.oZ.nodup hU.gO
   simp -implicitDefEqProofs only[aB,seval]
   refine⟨eK,?_⟩
   refine(SU σ' (tr++add) tr.length (by simp) c m q' s2 hS2 (by rw[dQ];omega)).mono ?_
   rintro _ s3 ⟨rfl,q2,hS3,hb3,hk3⟩
   rw[EI,HU,show σ'.out add=σ from funext fun n=>hU.out n] at hS3
   simp -implicitDefEqProofs only[aB,seval]
   refine(qN _ _).to ?_
   simp -implicitDefEqProofs only[aB,seval]
   refine⟨rfl,q2,by rw[gF];exact hS3,fun b o h h1 h2 h3=>hk3 b o (hQ2.frame b o h h1 h2 h3) h1 h2,fun b hb'=>hQ2.fresh b (hb3 b hb')⟩
 have hne:s≠⟨#[92,61]⟩:=by simpa using h
 simp -implicitDefEqProofs only[aB,seval]
 refine aP (fun h=>?_) (fun h=>?_)
 · have hs:s=⟨#[61,61]⟩:=by simpa using h
   obtain⟨x,y,rfl⟩:=wW (ts:=ks) (by subst hs;simp [isBuiltin] at hb;omega)
   have e:dM σ s [x,y]=(jA (x.same y),σ,[]):=by simp only[dM];rw[aE (by rw[hnc rfl];simp),aE he,aE hne,aH hs]
   rw[e]
   have eC:dG prog 31 (.slice [x.av,y.av]) (.int .i64 0)=some (.pptr x.av):=bP (av:=Tm.av) (l:=[x,y]) (i:=0) aQ rfl (aO x)
   have gX:dG prog 31 (.slice [x.av,y.av]) (.int .i64 1)=some (.pptr y.av):=bP (av:=Tm.av) (l:=[x,y]) (i:=1) aQ rfl (aO y)
   simp -implicitDefEqProofs only[aB,↓aU,seval]
   refine E5 mixed (by decide +kernel) (by decide +kernel) ?_
   simp -implicitDefEqProofs only[eC,gX,bG,aO,aB,seval,mX]
   refine jC (SF x y _) ?_
   simp -implicitDefEqProofs only[aB,seval]
   refine jC (qN _ _) ?_
   simp -implicitDefEqProofs only[aB,seval]
   exact oD.same hS _ rfl
 have hee:s≠⟨#[61,61]⟩:=by simpa using h
 simp -implicitDefEqProofs only[aB,seval]
 refine aP (fun h=>?_) (fun h=>?_)
 · have hs:s=⟨#[105,115]⟩:=by simpa using h
   obtain⟨x,y,rfl⟩:=wW (ts:=ks) (by subst hs;simp [isBuiltin] at hb;omega)
   have e:dM σ s [x,y]=if y.ev.2≠0 then(y.ev.2,σ,[]) else tW σ x (pG y.ev.1):=by simp only[dM];rw[aE (by rw[hnc rfl];simp),aE he,aE hne,aE hee]
   rw[e]
   have hy:=hv y (by simp)
   have hin:=OC (N:=N) (Tm.wI y hy.1)
   have har:=fun st=>MM y st hy.1
   generalize y.ev.1=a at *
   generalize y.ev.2=ca at *
   have eC:dG prog 31 (.slice [x.av,y.av]) (.int .i64 0)=some (.pptr x.av):=bP (av:=Tm.av) (l:=[x,y]) (i:=0) aQ rfl (aO x)
   have gX:dG prog 31 (.slice [x.av,y.av]) (.int .i64 1)=some (.pptr y.av):=bP (av:=Tm.av) (l:=[x,y]) (i:=1) aQ rfl (aO y)
   simp -implicitDefEqProofs only[gX,bG,aO,aB,↓aU,seval,mX]
   refine(har _).to ?_
   simp -implicitDefEqProofs only[aB,seval]
   refine aP (fun h4=>?_) (fun h4=>?_)
   · simp -implicitDefEqProofs only[aB,seval]
     have h4':ca≠0:=by simpa using h4
     rw[aH h4']
     exact oD.same hS _ rfl
   have h4':ca=0:=by simpa using h4
   subst h4'
   rw[aE (by simp)]
   simp -implicitDefEqProofs only[aB,seval]
   refine wX [(0,1),(1,1),(2,1),(3,1),(4,1),(5,0),(6,0),(7,0),(8,1)] [0,1,2,3,4,8] d9 mixed rfl eK ?_
   simp -implicitDefEqProofs only[eC,bG,aO,aB,seval,mX]
   refine(aZ6 a _).to ?_
   simp -implicitDefEqProofs only[aB,seval]
   refine⟨eK,?_⟩
   refine(IT hg ho x (pG a) (hv x (by simp)) hin c m q tr _ hS hl).mono ?_
   rintro _ s2 ⟨rfl,hP⟩
   simp -implicitDefEqProofs only[aB,seval]
   refine⟨eK,?_⟩
   refine(qN _ _).to ?_
   simp -implicitDefEqProofs only[aB,seval]
   exact⟨eK,rfl,hP⟩
 have his:s≠⟨#[105,115]⟩:=by simpa using h
 simp -implicitDefEqProofs only[aB,seval]
 refine aP (fun h=>?_) (fun h=>?_)
 · have hs:s=⟨#[118,97,114]⟩:=by simpa using h
   obtain⟨x,rfl⟩:=J8 (ts:=ks) (by subst hs;simp [isBuiltin] at hb;omega)
   have e:dM σ s [x]=(jA (vI s x),σ,[]):=rfl
   rw[e]
   subst hs
   obtain⟨xk,xn,xs,xt⟩:=x
   have eC:dG prog 31 (.slice [(Tm.mk xk xn xs xt).av]) (.int .i64 0)=some (.pptr (Tm.mk xk xn xs xt).av):=bP (av:=Tm.av) (l:=[Tm.mk xk xn xs xt]) (i:=0) aQ rfl (aO _)
   have eat:=IP xk xn xs xt
   simp only[bA] at eC eat
   simp only[bH,a7,bA]
   simp -implicitDefEqProofs only[eC,aB,↓aU,seval,mX]
   refine(qN _ _).to ?_
   simp -implicitDefEqProofs only[aB,seval]
   exact oD.same hS _ rfl
 have hva:s≠⟨#[118,97,114]⟩:=by simpa using h
 simp -implicitDefEqProofs only[aB,seval]
 refine aP (fun h=>?_) (fun h=>?_)
 · have hs:s=⟨#[110,111,110,118,97,114]⟩:=by simpa using h
   obtain⟨x,rfl⟩:=J8 (ts:=ks) (by subst hs;simp [isBuiltin] at hb;omega)
   have e:dM σ s [x]=(jA (vI s x),σ,[]):=rfl
   rw[e]
   subst hs
   obtain⟨xk,xn,xs,xt⟩:=x
   have eC:dG prog 31 (.slice [(Tm.mk xk xn xs xt).av]) (.int .i64 0)=some (.pptr (Tm.mk xk xn xs xt).av):=bP (av:=Tm.av) (l:=[Tm.mk xk xn xs xt]) (i:=0) aQ rfl (aO _)
   have eat:=IP xk xn xs xt
   simp only[bA] at eC eat
   simp only[bH,a7,bA]
   simp -implicitDefEqProofs only[eC,aB,↓aU,seval,mX]
   refine(qN _ _).to ?_
   simp -implicitDefEqProofs only[aB,seval]
   exact oD.same hS _ rfl
 have hnv:s≠⟨#[110,111,110,118,97,114]⟩:=by simpa using h
 simp -implicitDefEqProofs only[aB,seval]
 refine aP (fun h=>?_) (fun h=>?_)
 · have hs:s=⟨#[97,116,111,109]⟩:=by simpa using h
   obtain⟨x,rfl⟩:=J8 (ts:=ks) (by subst hs;simp [isBuiltin] at hb;omega)
   have e:dM σ s [x]=(jA (vI s x),σ,[]):=rfl
   rw[e]
   subst hs
   obtain⟨xk,xn,xs,xt⟩:=x
   have eC:dG prog 31 (.slice [(Tm.mk xk xn xs xt).av]) (.int .i64 0)=some (.pptr (Tm.mk xk xn xs xt).av):=bP (av:=Tm.av) (l:=[Tm.mk xk xn xs xt]) (i:=0) aQ rfl (aO _)
   have eat:=IP xk xn xs xt
   simp only[bA] at eC eat
   simp only[bH,a7,bA]
   simp -implicitDefEqProofs only[eC,aB,↓aU,seval,mX]
   refine(eat _).to ?_
   simp -implicitDefEqProofs only[aB,seval]
   refine(qN _ _).to ?_
   simp -implicitDefEqProofs only[aB,seval]
   exact oD.same hS _ rfl
 have hat:s≠⟨#[97,116,111,109]⟩:=by simpa using h
 simp -implicitDefEqProofs only[aB,seval]
 refine aP (fun h=>?_) (fun h=>?_)
 · have hs:s=⟨#[105,110,116]⟩:=by simpa using h
   obtain⟨x,rfl⟩:=J8 (ts:=ks) (by subst hs;simp [isBuiltin] at hb;omega)
   have e:dM σ s [x]=(jA (vI s x),σ,[]):=rfl
   rw[e]
   subst hs
   obtain⟨xk,xn,xs,xt⟩:=x
   have eC:dG prog 31 (.slice [(Tm.mk xk xn xs xt).av]) (.int .i64 0)=some (.pptr (Tm.mk xk xn xs xt).av):=bP (av:=Tm.av) (l:=[Tm.mk xk xn xs xt]) (i:=0) aQ rfl (aO _)
   have eat:=IP xk xn xs xt
   simp only[bA] at eC eat
   simp only[bH,a7,bA]
   simp -implicitDefEqProofs only[eC,aB,↓aU,seval,mX]
   refine(qN _ _).to ?_
   simp -implicitDefEqProofs only[aB,seval]
   exact oD.same hS _ rfl
 have hint:s≠⟨#[105,110,116]⟩:=by simpa using h
 have hs:s=⟨#[97,114,103]⟩∧ks.length=3:=by
  rcases hcs with ⟨h2,h3⟩ | ⟨h2,h3⟩ | ⟨h2,h3⟩ | ⟨h2,h3⟩
  · rw[hnc h2] at h3
    simp [he,hne,hee,his] at h3
  · simp [ht,hf] at h3
  · simp [hva,hnv,hat,hint] at h3
  · exact⟨h3,h2⟩
 obtain⟨hs,hk3⟩:=hs
 obtain⟨x,y,z,rfl⟩:=aQD hk3
 have hz:=hv z (by simp)
 have hy:=hv y (by simp)
 have e:dM σ s [x,y,z]=xW σ x y z:=rfl
 rw[e]
 unfold xW
 have eC:dG prog 31 (.slice [x.av,y.av,z.av]) (.int .i64 0)=some (.pptr x.av):=bP (av:=Tm.av) (l:=[x,y,z]) (i:=0) aQ rfl (aO x)
 have gX:dG prog 31 (.slice [x.av,y.av,z.av]) (.int .i64 1)=some (.pptr y.av):=bP (av:=Tm.av) (l:=[x,y,z]) (i:=1) aQ rfl (aO y)
 have yL:dG prog 31 (.slice [x.av,y.av,z.av]) (.int .i64 2)=some (.pptr z.av):=bP (av:=Tm.av) (l:=[x,y,z]) (i:=2) aQ rfl (aO z)
 clear hcs hb hnc hv e
 obtain⟨xk,xn,xs,xt⟩:=x
 obtain⟨yk,yn,ys,yt⟩:=y
 have hyl:yt.length≤4:=by
  exact hy.1.kind.2
 rw[bA] at eC
 simp only[bA xk,bA yk] at eC gX yL
 simp only[bH,a7,bA xk,bA yk,Tm.k,Tm.ts]
 simp -implicitDefEqProofs only[eC,aB,↓aU,seval,mX]
 refine cX (fun h=>?_) (fun h=>?_)
 case refine_2=>
  have h':xk=1:=by simpa using h
  simp -implicitDefEqProofs only[h,aB,seval]
  rw[aH (.inl h')]
  exact oD.same hS _ rfl
 have hx1:xk≠1:=by simpa using h
 simp -implicitDefEqProofs only[h,gX,aB,seval,mX]
 refine aP (fun h1=>?_) (fun h1=>?_)
 · have h':yk=1:=by simpa using h1
   simp -implicitDefEqProofs only[aB,seval]
   rw[aH (.inr h')]
   exact oD.same hS _ rfl
 have hy1:yk≠1:=by simpa using h1
 rw[aE (fun h2=>h2.elim hx1 hy1)]
 have h3:∀s2,(xk≠2∨yk≠3∨yt.length=0)→s2=st→oD c m st q tr (if xk≠2∨yk≠3∨yt.length=0 then((3:Int),σ,[]) else match oI (.mk xk xn xs xt) (.mk yk yn ys yt) with | some u=>tW σ z u | none=>(1,σ,[])) (.int .i64 3) s2:=fun s2 hh e=>by
  subst e
  rw[aH hh]
  exact oD.same hS _ rfl
 simp -implicitDefEqProofs only[eC,aB,seval,mX]
 refine cX (fun h4=>?_) (fun h4=>?_)
 case refine_2=>
  have h':xk≠2:=by simpa using h4
  simp -implicitDefEqProofs only[h4,aB,seval]
  exact h3 _ (.inl h') rfl
 have hx2:xk=2:=by simpa using h4
 simp -implicitDefEqProofs only[h4,gX,aB,seval,mX]
 refine cX (fun h5=>?_) (fun h5=>?_)
 case refine_2=>
  have h':yk≠3:=by simpa using h5
  simp -implicitDefEqProofs only[h5,aB,seval]
  exact h3 _ (.inr (.inl h')) rfl
 have hy3:yk=3:=by simpa using h5
 simp -implicitDefEqProofs only[h5,gX,aF,aB,seval,mX]
 refine aP (fun h6=>?_) (fun h6=>?_)
 · have h':yt.length=0:=by simp at h6;simp [h6]
   simp -implicitDefEqProofs only[aB,seval]
   exact h3 _ (.inr (.inr h')) rfl
 have hyt:yt.length≠0:=by simp at h6;simpa using h6
 clear h3
 rw[aE (by simp [hx2,hy3];intro h7;simp [h7] at hyt)]
 simp -implicitDefEqProofs only[aB,seval]
 refine E5 mixed (by decide +kernel) (by decide +kernel) ?_
 simp -implicitDefEqProofs only[eC,gX,aF,aB,seval,mX]
 refine jC (CJ xn 1 _ _) ?_
 simp -implicitDefEqProofs only[aB,seval]
 refine aP (fun h7=>?_) (fun h7=>?_)
 · have h':¬(1≤xn∧xn≤yt.length):=by simp at h7;omega
   have ea:oI (.mk xk xn xs xt) (.mk yk yn ys yt)=none:=aE h'
   rw[ea]
   simp -implicitDefEqProofs only[aB,seval]
   exact oD.same hS _ rfl
 have h':1≤xn∧xn≤yt.length:=by simp at h7;omega
 obtain⟨i,hi⟩:∃i:Nat,xn - 1=i:=⟨(xn - 1).toNat,by omega⟩
 have hlt:i<yt.length:=by omega
 obtain⟨u,hu⟩:∃u,yt[i]?=some u:=⟨_,eA hlt⟩
 have ea:oI (.mk xk xn xs xt) (.mk yk yn ys yt)=some u:=by
  refine(aH h').trans ?_
  show yt[(xn - 1).toNat]?=some u
  rw[hi,jQ,hu]
 rw[ea]
 have huv:bJ N u:=sE N (.mk yk yn ys yt) hy1 hy u (cM hu)
 have hw:IntKind.i64.wrap (xn - 1)=(i:Int):=by rw[wrap64 (by omega) (by omega)];exact hi
 have UD:=bP (av:=Tm.av) (P:=prog) aQ hu (aO u)
 simp -implicitDefEqProofs only[aB,seval]
 refine wX [(0,1),(1,1),(2,1),(3,1),(4,1),(5,1),(6,1),(7,1),(8,1),(9,1),(10,1),(11,1),(12,1),(13,1),(14,1),(15,0),(16,0),(17,1)] [0,1,2,3,4,5,6,7,8,9,10,11,12,13,14,17] d9 mixed rfl eK ?_
 simp -implicitDefEqProofs only[eC,gX,yL,UD,hw,bG,aO,aB,seval,mX]
 refine(IT hg ho z u hz huv c m q tr _ hS hl).mono ?_
 rintro _ s2 ⟨rfl,hP⟩
 simp -implicitDefEqProofs only[aB,seval]
 refine⟨eK,?_⟩
 refine(qN _ _).to ?_
 simp -implicitDefEqProofs only[aB,seval]
 exact⟨eK,rfl,hP⟩
abbrev aTR:=zi tI_3 (zi zI_3 (zi aY (zi tI_66 (zi zI_66 (zi bZ (zi b9 (zi cA (zi cB bY))))))))
theorem a0J(n:Int)(F:Nat)(h0:0≤n)(h1:n≤1048576)(hF:F≤536870912)(st:aA):aD prog 362 [.int .i64 n,.pptr (.int .i64 (F:Int))] st (fun r st'=>r=(vr (n+(F:Int))).av∧st'=st):=by
 refine aD.done ?_
 refine wF [1000000] 2 func362 ntmps362 rfl rfl ?_
 intro _
 have hw:=bE (n:=n+(F:Int))
 simp -implicitDefEqProofs only[hw,aB,seval,aTR]
 intro b3 h3
 refine(SV _ _).to ?_
 simp -implicitDefEqProofs only[aK,cP,cL,gI (cL _),gG (bG _),aB,seval,aTR]
 exact⟨by simp only[Tm.soft],(aL.refl _).aC h3⟩
theorem SQ{F:Nat}(hF:F≤536870912)(t:Tm)(h:bJ 26 t)(st:aA):aD prog 112 [t.av,.func 362 [.pptr (.int .i64 (F:Int))]] st (fun r st'=>r=(dO F t).av∧st'=st):=
 SM (fun v=>vr (v+(F:Int))) _ _ rfl t st h.1.small fun n hn s=>a0J n F (h.1.2.2 n hn).1 (by have:=(h.1.2.2 n hn).2;omega) hF s
theorem aON{b:Nat}{L:List AV}(l:List IG):(eS l).fin b L=eS l:=by
 cases l with
 | nil=>rw[eS];unfold AV.fin;split<;>rfl
 | cons g l=>obtain⟨⟨k,n,s,ts⟩,cut,up⟩:=g;rw[uR];exact FM
abbrev oX:=zi tI_3 (zi zI_3 (zi aY (zi tI_4 (zi zI_4 (zi cJ (zi tI_29 (zi zI_29 (zi fN (zi iG (zi iI (zi jN (zi tI_31 (zi zI_31 (zi aQ (zi bS (zi bT (zi cI (zi tI_46 (zi zI_46 (zi cZ (zi eG (zi eE (zi eT (zi tI_66 (zi zI_66 (zi bZ (zi b9 (zi cA (zi cB (zi bY (zi tI_84 (zi zI_84 (zi mA (zi mB (zi l8 (zi tI_174 (zi zI_174 (zi tI_227 (zi zI_227 (zi tI_256 (zi zI_256 (zi tI_257 (zi zI_257 (zi CQ (zi M6 (zi M8 (zi YH (zi tI_258 (zi zI_258 (zi FH (zi M7 (zi M9 (zi YI (zi tI_260 (zi zI_260 (zi I6 (zi I7 (zi JA (zi JB (zi JC (zi JD (zi JE (zi JF (zi JG (zi JH (zi I8 (zi I9 (zi IL (zi tI_304 (zi zI_304 (zi FJ (zi FK (zi E6 (zi tI_324 (zi zI_324 (zi aNV (zi aNW (zi aNX (zi aAN (zi tI_327 (zi zI_327 (zi aNY (zi aNZ (zi aN0 (zi aN1 (zi aN2 (zi aN3 aAO)))))))))))))))))))))))))))))))))))))))))))))))))))))))))))))))))))))))))))))))))))))))
set_option maxHeartbeats 2000000 in
theorem aCJ{p:List Cl}(hp:∀c∈p,gQ c∧c.2.length≤6){M:Nat}(hM:M≤268435456){st0 st:aA}{S c m:Nat}{qt qc qn:AV}{q:List Tm}{idx:Bool}{fuel used mx:Int}{nd:List AV}{i:IS}(h:dR st0 st S c m qt qc qn p q idx fuel used mx nd i)
 (goal:Tm) (at':Nat) (rest:List IG) (list:List Nat) (hg:cT i.σ) (ho:c9 (bJ i.fresh) i.σ) (hgo:bJ i.fresh goal) (hl:∀x∈list,x<p.length) (hll:list.length≤1048576) (ha:at'<i.nn) (hX:IX p M i) (hMl:i.fresh+26*rB i.chs+26*list.length≤M) (hch:i.chs.length≤524288) (hnn:i.nn≤524288) :
 aD prog 310 [.ptr S 0,goal.av,.int .i64 (at':Int),.slice (list.map nv),eS rest] st (fun r st'=>r=.bool (gB p goal at' rest list i).1∧∃qt' qc' mx' nd',dR st0 st' S c m qt' qc' qn p q idx fuel used mx' nd' (gB p goal at' rest list i).2):=by
 obtain⟨bN,rfl⟩:=h.nodes ha
 obtain⟨gk,gn,gs',gts⟩:=goal
 obtain⟨g1,g2,g3,g4,g5,g6⟩:=qU rest
 generalize hT:gB p (.mk gk gn gs' gts) at' rest list i=T
 simp only[bA]
 have hun:prog.underlying 46=some (.slice 3):=by kernel_rfl
 have gA:st S=some (.cells [.ptr c 0,.slice (p.map bR),.slice (q.map Tm.av),.bool idx,.bool false,.int .i64 fuel,.int .i64 used,.int .i64 i.fresh,eS i.goals,qc,.mslice bN 0 nd.length 6,.int .i64 mx]):=h.cell
 have hcc:=h.sto.sub.cells
 have htl:=h.sto.aUH (P:=prog) hun
 obtain⟨t1,t2,t3,t4,t5⟩:=h.sto.shape
 refine aD.nG ?_
 refine wF [1000000] 5 func310 ntmps310 rfl rfl ?_
 intro _
 simp -implicitDefEqProofs only[aF,gA,hcc,htl,t1,aB,seval,oX]
 refine d8 (σ:=aA×AV) [1000000] [0,2,3,4,6,11,28,29] list (fun k s=>dR st0 s.1 S c m s.2 qc (.mslice bN 0 nd.length 6) p q idx fuel used mx nd { i with fresh:=i.fresh+26*k }∧gB p (.mk gk gn gs' gts) at' rest (list.drop k) { i with fresh:=i.fresh+26*k }=T)
  (fun k s=>[(10,.bool false),(30,.int .i64 k)]) (fun k s=>s.1) (by decide +kernel) ⟨(st,qt),⟨h,hT⟩,aM.mk (by simp -implicitDefEqProofs only[aB,↓aU,seval])⟩ (fun k x s hx hlt bL hdr hinv=>?_) (fun s hge hinv=>?_)
 case refine_2=>
  simp -implicitDefEqProofs only[hge,aB,seval]
  obtain⟨hi,he⟩:=hinv
  rw[kK] at he
  unfold gB at he
  subst he
  exact⟨s.1,aL.refl _,rfl,_,_,_,_,hi⟩
 obtain⟨st,qt⟩:=s
 obtain⟨h,hT⟩:=hinv
 simp only at h hT
 obtain⟨t1,t2,t3,t4,t5⟩:=h.sto.shape
 obtain⟨n1,n2,n3,n4,n5⟩:=h.acC.shape
 obtain⟨m1,m2,m3,m4,m5⟩:=h.acN.shape
 obtain⟨l1,l2,l3,l4,l5,l6⟩:=qU i.goals
 have hxl:=hl x (cM hx)
 obtain⟨cl,hcx⟩:∃cl,p[x]?=some cl:=⟨_,eA hxl⟩
 obtain⟨uV,r8⟩:=hp cl (cM hcx)
 rw[hdr,gB.eq_def] at hT
 simp only[hcx] at hT
 have hat:dG prog 46 (.slice (list.map nv)) (.int .i64 (k:Int))=some (.pptr (.int .i64 (x:Int))):=bP (av:=nv) cZ hx rfl
 have CY:=bP (av:=bR) (P:=prog) fN hcx (kA cl)
 have hw:=bE (n:=(k:Int)+1)
 generalize hF:i.fresh+26*k=F at *
 have hFM:F+26≤M:=by have:=aQJ i.chs 0;omega
 have a49:=bE (n:=(F:Int)+26)
 have gA:st S=some (.cells [.ptr c 0,.slice (p.map bR),.slice (q.map Tm.av),.bool idx,.bool false,.int .i64 fuel,.int .i64 used,.int .i64 F,eS i.goals,qc,.mslice bN 0 nd.length 6,.int .i64 mx]):=h.cell
 obtain⟨⟨ck,cn,cs',cts⟩,bd⟩:=cl
 rw[iL] at CY
 simp -implicitDefEqProofs only[bL,aK,gA,hat,a49,aB,↓aU,seval,oX]
 have h2:=h.put (gl:=i.goals) (F:=F+26) (fuel':=fuel) (used':=used) (mx':=mx) (cs:=[.ptr c 0,.slice (p.map bR),.slice (q.map Tm.av),.bool idx,.bool false,.int .i64 fuel,.int .i64 used,.int .i64 ((F:Int)+26),eS i.goals,qc,.mslice bN 0 nd.length 6,.int .i64 mx]) rfl
 generalize st.aC S (.cells [.ptr c 0,.slice (p.map bR),.slice (q.map Tm.av),.bool idx,.bool false,.int .i64 fuel,.int .i64 used,.int .i64 ((F:Int)+26),eS i.goals,qc,.mslice bN 0 nd.length 6,.int .i64 mx])=V at *
 simp only at h2
 have tG:V S=some (.cells [.ptr c 0,.slice (p.map bR),.slice (q.map Tm.av),.bool idx,.bool false,.int .i64 fuel,.int .i64 used,.int .i64 ((F:Int)+26),eS i.goals,qc,.mslice bN 0 nd.length 6,.int .i64 mx]):=h2.cell
 refine wX [(0,1),(1,1),(2,1),(3,1),(4,1),(5,1),(6,1),(7,1),(8,1),(9,1),(10,1),(11,1),(12,1),(13,1),(14,0),(15,0),(16,1)] [0,1,2,3,4,5,6,7,8,9,10,11,12,13,16] (one S (.cells [.ptr c 0,.slice (p.map bR),.slice (q.map Tm.av),.bool idx,.bool false,.int .i64 fuel,.int .i64 used,.int .i64 ((F:Int)+26),eS i.goals,qc,.mslice bN 0 nd.length 6,.int .i64 mx])) mixed rfl (fR tG) ?_
 simp -implicitDefEqProofs only[wY,CY,aB,seval,oX]
 have hsh:=fun st=>SQ (F:=F) (by omega) (.mk ck cn cs' cts) uV.head st
 have hhd:bJ ((F+26:Nat):Int) (dO F (.mk ck cn cs' cts)):=(uV.dO F (.mk ck cn cs' cts) (by simp)).mono (by have:=uV.fr.1;omega)
 have htr:=h2.sto
 obtain⟨r,σ',add,U⟩:=vS (N:=F+26) hg (fun n u e=>(ho n u e).mono (by omega)) (hgo.mono (by omega)) hhd
 have htl:i.tr.length≤i.fresh:=hX.YB
 have hun:=IT (N:=F+26) hg (fun n u e=>(ho n u e).mono (by omega)) (.mk gk gn gs' gts) (dO F (.mk ck cn cs' cts)) (hgo.mono (by omega)) hhd c m qt i.tr V h2.sto (by omega)
 rw[U.eq] at hT hun
 simp only at hT hun
 have J1:=U.DN
 have hso:=U.zA
 clear U
 generalize hy:dO F (.mk ck cn cs' cts)=y at *
 obtain⟨yk,yn,ys,yt⟩:=y
 simp only[bA] at hsh hun ⊢
 refine(hsh _).to ?_
 simp -implicitDefEqProofs only[aB,seval]
 refine⟨fR tG,?_⟩
 refine hun.mono ?_
 rintro _ s2 ⟨rfl,hP⟩
 obtain⟨qt2,h3⟩:=h2.post hP
 have FX:s2 S=some (.cells [.ptr c 0,.slice (p.map bR),.slice (q.map Tm.av),.bool idx,.bool false,.int .i64 fuel,.int .i64 used,.int .i64 ((F:Int)+26),eS i.goals,qc,.mslice bN 0 nd.length 6,.int .i64 mx]):=h3.cell
 simp -implicitDefEqProofs only[aB,seval]
 refine⟨fR FX,?_⟩
 refine aP (fun hr=>?_) (fun hr=>?_)
 · have hr':r=false:=by simpa using hr
   rw[aE (by rw[hr'];simp)] at hT
   simp -implicitDefEqProofs only[FX,aB,seval,oX]
   have hud:=SU σ' (i.tr++add) i.tr.length (by simp) c m qt2 s2 h3.sto (by
    have:=h3.sto
    have:add.length≤F+26:=GI hso.nodup hso.gO
    rw[dQ];omega)
   refine hud.mono ?_
   rintro _ s4 ⟨rfl,qt4,hS4,hb4,hf4⟩
   simp -implicitDefEqProofs only[hw,aB,seval]
   have h5:=h3.LH hS4 (fun b o hb e1 e2 _=>hf4 b o hb e1 e2) (fun b hb=>.inl (hb4 b hb))
   simp only[EI,HU,J1] at h5
   refine⟨(s4,qt4),⟨?_,?_⟩,aM.mk (by simp -implicitDefEqProofs only[aB,seval])⟩
   · rw[show i.fresh+26*(k+1)=F+26 by omega];exact h5
   · rw[show i.fresh+26*(k+1)=F+26 by omega];exact hT
 have hr':r=true:=by simpa using hr
 have a4R:nd.length=i.nn:=h3.ndl
 rw[aH hr'] at hT
 have J5:prog.underlying 257=some (.slice 327):=by kernel_rfl
 have U8:prog.underlying 258=some (.slice 324):=by kernel_rfl
 have hlC:=h3.acC.len J5
 have hlN:=h3.acN.len U8
 rw[aF] at hlC
 rw[h3.ndl] at hlN
 simp only at hlC hlN
 have aOY:=qV (P:=prog) (b:=bN) (w:=6) (i:=at') FH (len:=nd.length) (by rw[h3.ndl];exact ha)
 simp -implicitDefEqProofs only[aF,FX,hlC,hw,n1,aB,seval,oX]
 refine aP (fun h7=>?_) (fun h7=>?_)
 · have h':k+1<list.length:=by simp at h7;omega
   have hdn:list.drop (k+1)≠[]:=by intro e;have:=gH List.length e;simp at this;omega
   rw[aE hdn] at hT
   have hsl:=fun(φ:AF) (d:Nat) (h:φ d=.int .i64 ((k:Int)+1))=>aSH h' h
   refine wX [(0,1),(1,1),(2,1),(3,1),(4,1),(5,1),(6,1),(7,1),(8,1),(9,1),(10,1),(11,1),(12,1),(13,1),(14,1),(15,1),(16,1),(17,1),(18,1),(19,1),(20,0),(21,1),(22,1),(23,2)] [0,1,2,3,4,5,6,7,8,9,10,11,12,13,14,15,16,17,18,19,21,22] (one S (.cells [.ptr c 0,.slice (p.map bR),.slice (q.map Tm.av),.bool idx,.bool false,.int .i64 fuel,.int .i64 used,.int .i64 ((F:Int)+26),eS i.goals,qc,.mslice bN 0 nd.length 6,.int .i64 mx])) mixed rfl (fR FX) ?_
   simp -implicitDefEqProofs only[hsl,hw,g3,g4,n1,m1,wY,aB,seval,oX]
   refine gE.append CQ M6 M8 rfl (by decide) h3.acC rfl (a5M ⟨.mk gk gn gs' gts,at',rest,list.drop (k+1),i.tr.length,nd.length⟩) (by rw[aF];simp only;omega) (fun qc5 s5 gM hf hn=>?_)
   have a3I:(i.chs.map tH)++ [tH ⟨.mk gk gn gs' gts,at',rest,list.drop (k+1),i.tr.length,nd.length⟩]=(i.chs++ [(⟨.mk gk gn gs' gts,at',rest,list.drop (k+1),i.tr.length,nd.length⟩:IC)]).map tH:=by simp
   have gM:=a3I▸gM
   obtain⟨c1,c2,c3,c4,c5⟩:=gM.shape
   have hS5:s5 S=s2 S:=hf S h3.parts.2.2.2.2.1 (fun hb=>by
    rcases hn S hb with h' | h'
    · exact h3.parts.2.2.2.2.1 h'
    · rw[FX] at h';cases h')
   have aO6:=hS5.trans FX
   have a30:=fR aO6
   simp -implicitDefEqProofs only[aK,aO6,c4,c5,m1,aA.aJ,aB,seval,oX]
   refine⟨a30,?_⟩
   have h5:=h3.a72 gM hf hn (cs:=[.ptr c 0,.slice (p.map bR),.slice (q.map Tm.av),.bool idx,.bool false,.int .i64 fuel,.int .i64 used,.int .i64 ((F:Int)+26),eS i.goals,qc5,.mslice bN 0 nd.length 6,.int .i64 mx]) rfl
   generalize s5.aC S (.cells [.ptr c 0,.slice (p.map bR),.slice (q.map Tm.av),.bool idx,.bool false,.int .i64 fuel,.int .i64 used,.int .i64 ((F:Int)+26),eS i.goals,qc5,.mslice bN 0 nd.length 6,.int .i64 mx])=V5 at *
   rw[show(⟨.mk gk gn gs' gts,at',rest,list.drop (k+1),i.tr.length,nd.length⟩:IC)=⟨.mk gk gn gs' gts,at',rest,list.drop (k+1),i.tr.length,i.nn⟩ by rw[a4R]] at h5
   obtain⟨csN,hbN,hcN⟩:=h5.nodeAt
   obtain⟨c1,c2,c3,c4,c5⟩:=(h5).acC.shape
   have hSN:S≠bN:=fun e=>(h5).parts.2.2.2.2.2.1 (by rw[e];simp [aT])
   have uU:=h5.cell
   simp only[iO] at uU
   rw[show((F+26:Nat):Int)=(F:Int)+26 from rfl] at uU
   simp -implicitDefEqProofs only[aK,aF,uU,hbN,hSN,aOY,CY,aB,seval,oX]
   refine⟨by omega,?_⟩
   obtain⟨nd6,h6⟩:=(h5).aR6 (x:=.int .i64 (x:Int)) (k:=at'*6+5) rfl hbN (by omega)
   have U0:=h6.ndl
   simp only at U0
   rw[show aK csN (at'*6+5) [.int .i64 (x:Int)]=List.take (at'*6+5) csN++ [AV.int IntKind.i64 (x:Int)]++List.drop (at'*6+5+1) csN from rfl] at h6
   generalize aA.aC _ bN (.cells (List.take (at'*6+5) csN++ [AV.int IntKind.i64 (x:Int)]++List.drop (at'*6+5+1) csN))=V6 at *
   have lL:=h6.cell
   simp only[iO] at lL
   rw[show((F+26:Nat):Int)=(F:Int)+26 from rfl] at lL
   refine rK (σ:=Unit) [1000000] [0,2,3,4,6,10,11,12,13,14,15,16,28,29,30,31,32,33,34,35,36,37,38,39,40,41,42,43,44,45,46,47,48,49,50,51,52,53,54,55,56,57,58,59,60,61,62,63,64,65,66,67,68,70,71,72,73,74,75,76,77,78,79,80,81,82,83,84,85,86,87,88,89,90,91,92,93,94,95,96,97,98,99,100,101,102,103,104,105,106,107,108,109,110,111,112,113,114,115,116,117,118,119] bd 4 17 (fun j _=>((bd.take j).map (dO F)).map Tm.av) (fun _ _=>True) (fun j _=>[(120,.int .i64 j)]) (fun _ _=>V6) (fun j _ _ e he=>by simp only[cH] at he;obtain⟨t,_,rfl⟩:=he;exact⟨cU _,aO _⟩) (by decide +kernel) ⟨(),0,trivial,fun h=>absurd rfl h,aM.mk (by simp -implicitDefEqProofs only[iY,jR,a7,aB,↓aU,seval])⟩ (fun j y5 _ b5 hx5 a4J UX a3V UW hb5=>?_) (fun _ b5 UT UW=>?_)
   · have hw5:=wrap64 (n:=(j:Int)+1) (by simp only at r8;omega) (by simp only at r8;omega)
     have UC:=bP (av:=Tm.av) (P:=prog) aQ hx5 (aO y5)
     have JZ:(((bd.take j).map (dO F)).map Tm.av).length=j:=by simp only[aF,dE];omega
     have hyb:=uV.body y5 (cM hx5)
     simp -implicitDefEqProofs only[UX,UC,bG,aO,cP,cU,aB,↓aU,seval,oX]
     refine(SQ (F:=F) (by omega) y5 hyb.1 _).to ?_
     simp -implicitDefEqProofs only[bG,aO,cU,aB,seval,oX]
     refine eQ aQ bS bT rfl rfl (f9 (aO _) (cP _)) (gZ _) hb5 (by simp only[JZ,aX,a8];simp only at r8;omega) (by simp only[JZ,aX,a8];simp only at r8;omega) (fun b' hb'=>?_)
     rw[show(((bd.take j).map (dO F)).map Tm.av)++ [(dO F y5).av]=((bd.take (j+1)).map (dO F)).map Tm.av by rw[eD,hx5];simp] at hb' ⊢
     simp -implicitDefEqProofs only[aB,seval]
     exact⟨(),b',hb',aM.mk (by simp -implicitDefEqProofs only[hw5,aB,seval])⟩
   · have C8:=fun st=>SP (bd.map (dO F)) i.chs.length at' rest (by simp only[aF];simp only at r8;omega) st
     simp -implicitDefEqProofs only[UT,jH,fS,rU,pE,jW,oL,FM,JI,aOA,lU,dZ,aON,aB,seval]
     refine(C8 _).to ?_
     have h7:=h6.put (gl:=(bd.map (dO F)).map (fun t=>(⟨t,i.chs.length,at'⟩:IG))++rest) (F:=F+26) (fuel':=fuel) (used':=used) (mx':=mx) rfl
     simp only[iO] at h7
     rw[show((F+26:Nat):Int)=(F:Int)+26 from rfl] at h7
     have hgl:(bd.map (dO F)).map (fun t=>(⟨t,i.chs.length,at'⟩:IG))++rest=bd.map (fun t=>(⟨dO F t,i.chs.length,at'⟩:IG))++rest:=by rw[uA];try rfl
     rw[hgl] at h7 ⊢
     generalize bd.map (fun t=>(⟨dO F t,i.chs.length,at'⟩:IG))++rest=NG at *
     obtain⟨u1,u2,u3,u4,u5,u6⟩:=qU NG
     have JX:=h7.acC.len J5
     simp only[aF] at JX
     simp -implicitDefEqProofs only[aK,lL,u4,u5,aB,seval,oX]
     generalize aA.aC V6 S _=V7 at h7 ⊢
     have pF:=h7.cell
     simp only[iO] at pF
     rw[show((F+26:Nat):Int)=(F:Int)+26 from rfl] at pF
     refine wX [(0,1),(1,1),(2,1),(3,1),(4,1),(5,1),(6,1),(7,1),(8,1),(9,1),(10,0),(11,1),(12,1),(13,2)] [0,1,2,3,4,5,6,7,8,9,11,12] _ mixed rfl (fR pF) ?_
     simp -implicitDefEqProofs only[aK,pF,JX,c1,wY,aB,seval,oX]
     refine⟨fR pF,?_⟩
     subst hT
     exact⟨_,aL.refl _,rfl,qt2,_,_,nd6,h7.put (gl:=NG) (F:=F+26) rfl⟩
 · have h':list.drop (k+1)= []:=B2 (by simp at h7;omega)
   rw[aH h'] at hT
   obtain⟨csN,hbN,hcN⟩:=h3.nodeAt
   obtain⟨c1,c2,c3,c4,c5⟩:=(h3).acC.shape
   have hSN:S≠bN:=fun e=>(h3).parts.2.2.2.2.2.1 (by rw[e];simp [aT])
   have uU:=h3.cell
   simp only[iO] at uU
   rw[show((F+26:Nat):Int)=(F:Int)+26 from rfl] at uU
   simp -implicitDefEqProofs only[aK,aF,uU,hbN,hSN,aOY,CY,m1,aB,seval,oX]
   refine⟨by omega,?_⟩
   obtain⟨nd6,h6⟩:=(h3).aR6 (x:=.int .i64 (x:Int)) (k:=at'*6+5) rfl hbN (by omega)
   have U0:=h6.ndl
   simp only at U0
   rw[show aK csN (at'*6+5) [.int .i64 (x:Int)]=List.take (at'*6+5) csN++ [AV.int IntKind.i64 (x:Int)]++List.drop (at'*6+5+1) csN from rfl] at h6
   generalize aA.aC _ bN (.cells (List.take (at'*6+5) csN++ [AV.int IntKind.i64 (x:Int)]++List.drop (at'*6+5+1) csN))=V6 at *
   have lL:=h6.cell
   simp only[iO] at lL
   rw[show((F+26:Nat):Int)=(F:Int)+26 from rfl] at lL
   refine rK (σ:=Unit) [1000000] [0,2,3,4,6,10,11,12,13,14,15,16,28,29,30,31,32,33,34,35,36,37,38,39,40,41,42,43,44,45,46,47,48,49,50,51,52,53,54,55,56,57,58,59,60,61,62,63,64,65,66,67,68,70,71,72,73,74,75,76,77,78,79,80,81,82,83,84,85,86,87,88,89,90,91,92,93,94,95,96,97,98,99,100,101,102,103,104,105,106,107,108,109,110,111,112,113,114,115,116,117,118,119] bd 4 17 (fun j _=>((bd.take j).map (dO F)).map Tm.av) (fun _ _=>True) (fun j _=>[(120,.int .i64 j)]) (fun _ _=>V6) (fun j _ _ e he=>by simp only[cH] at he;obtain⟨t,_,rfl⟩:=he;exact⟨cU _,aO _⟩) (by decide +kernel) ⟨(),0,trivial,fun h=>absurd rfl h,aM.mk (by simp -implicitDefEqProofs only[iY,jR,a7,aB,↓aU,seval])⟩ (fun j y5 _ b5 hx5 a4J UX a3V UW hb5=>?_) (fun _ b5 UT UW=>?_)
   · have hw5:=wrap64 (n:=(j:Int)+1) (by simp only at r8;omega) (by simp only at r8;omega)
     have UC:=bP (av:=Tm.av) (P:=prog) aQ hx5 (aO y5)
     have JZ:(((bd.take j).map (dO F)).map Tm.av).length=j:=by simp only[aF,dE];omega
     have hyb:=uV.body y5 (cM hx5)
     simp -implicitDefEqProofs only[UX,UC,bG,aO,cP,cU,aB,↓aU,seval,oX]
     refine(SQ (F:=F) (by omega) y5 hyb.1 _).to ?_
     simp -implicitDefEqProofs only[bG,aO,cU,aB,seval,oX]
     refine eQ aQ bS bT rfl rfl (f9 (aO _) (cP _)) (gZ _) hb5 (by simp only[JZ,aX,a8];simp only at r8;omega) (by simp only[JZ,aX,a8];simp only at r8;omega) (fun b' hb'=>?_)
     rw[show(((bd.take j).map (dO F)).map Tm.av)++ [(dO F y5).av]=((bd.take (j+1)).map (dO F)).map Tm.av by rw[eD,hx5];simp] at hb' ⊢
     simp -implicitDefEqProofs only[aB,seval]
     exact⟨(),b',hb',aM.mk (by simp -implicitDefEqProofs only[hw5,aB,seval])⟩
   · have C8:=fun st=>SP (bd.map (dO F)) i.chs.length at' rest (by simp only[aF];simp only at r8;omega) st
     simp -implicitDefEqProofs only[UT,jH,fS,rU,pE,jW,FM,JI,aOA,lU,dZ,aON,aB,seval]
     refine(C8 _).to ?_
     have h7:=h6.put (gl:=(bd.map (dO F)).map (fun t=>(⟨t,i.chs.length,at'⟩:IG))++rest) (F:=F+26) (fuel':=fuel) (used':=used) (mx':=mx) rfl
     simp only[iO] at h7
     rw[show((F+26:Nat):Int)=(F:Int)+26 from rfl] at h7
     have hgl:(bd.map (dO F)).map (fun t=>(⟨t,i.chs.length,at'⟩:IG))++rest=bd.map (fun t=>(⟨dO F t,i.chs.length,at'⟩:IG))++rest:=by rw[uA];try rfl
     rw[hgl] at h7 ⊢
     generalize bd.map (fun t=>(⟨dO F t,i.chs.length,at'⟩:IG))++rest=NG at *
     obtain⟨u1,u2,u3,u4,u5,u6⟩:=qU NG
     have JX:=h7.acC.len J5
     simp only[aF] at JX
     simp -implicitDefEqProofs only[aK,lL,u4,u5,aB,seval,oX]
     generalize aA.aC V6 S _=V7 at h7 ⊢
     have pF:=h7.cell
     simp only[iO] at pF
     rw[show((F+26:Nat):Int)=(F:Int)+26 from rfl] at pF
     refine wX [(0,1),(1,1),(2,1),(3,1),(4,1),(5,1),(6,1),(7,1),(8,1),(9,1),(10,0),(11,1),(12,1),(13,2)] [0,1,2,3,4,5,6,7,8,9,11,12] _ mixed rfl (fR pF) ?_
     simp -implicitDefEqProofs only[aK,pF,JX,c1,wY,aB,seval,oX]
     refine⟨fR pF,?_⟩
     subst hT
     exact⟨_,aL.refl _,rfl,qt2,_,_,nd6,h7.put (gl:=NG) (F:=F+26) rfl⟩
end Go.AW
