import Derived.Test.YtimfffmcljmfgaaGreatDoorUyo
import Derived.Test.YtimfffmcljmfgaaGreatDoorUyf
import Derived.Test.YtimfffmcljmfgaaGreatDoorUyg
import Derived.Test.YtimfffmcljmfgaaGreatDoorUyk
import Derived.Test.YtimfffmcljmfgaaGreatDoorUyj
import Derived.Test.YtimfffmcljmfgaaGreatDoorUym
import Derived.Shelf.LaysM
import Derived.Shelf.Strconv.Itoa3
import Derived.Test.YtimfffmcljmfgaaGreatDoorUyn
import Derived.Shelf.Slices.Clone
import Derived.Test.YtimfffmcljmfgaaGreatDoorUyl
set_option linter.unusedSimpArgs false
set_option linter.unusedVariables false
set_option maxRecDepth 100000
namespace Go.AW
open Go.Proofs.Tryz
theorem NB{S:aA}{b c:Nat}{l:List AV}{o:AO}(h:l≠[]→b≠c):(bV S b l).aC c o=bV (S.aC c o) b l:=by
 cases l with
 | nil=>rfl
 | cons x l=>rw[j4 (by simp),j4 (by simp),aA.nZ _ _ _ (h (by simp))]
theorem sY{p:List Cl}{cnd:Tm→List Nat→List Nat}{vars:List Int}{most fuel:Nat}{s:RS}(hg:s.goals= []):iA p cnd vars most fuel s=if most=0 then([],1) else match iJ s.σ vars with
 | none=>([],3)
 | some a=>match fF p s.chs.length s.chs with
  | none=>([a],0)
  | some s'=>(a::(iA p cnd vars (most - 1) fuel s').1,(iA p cnd vars (most - 1) fuel s').2):=by
 rw[iA.eq_def,hg]
 simp only
 split<;>rfl
theorem qC{p:List Cl}{cnd:Tm→List Nat→List Nat}{vars:List Int}{most fuel:Nat}{s:RS}{g:RG}{rest:List RG}(hg:s.goals=g::rest):iA p cnd vars most fuel s=if fuel=0 then([],2) else match iC p cnd s g rest with
 | .stop e=>([],e)
 | .go s'=>iA p cnd vars most (fuel - 1) s'
 | .fail=>match fF p s.chs.length s.chs with
  | none=>([],0)
  | some s'=>iA p cnd vars most (fuel - 1) s':=by
 rw[iA.eq_def,hg]
 simp only
 split<;>rfl
structure TN (p:List Cl) (vars:List Int) (most fuel:Nat) (T:List (List Tm)×Int) (s:RS) (out:List (List Tm)) (f B:Nat):Prop where
 tot:T=(out++(iA p (fun _ l=>l) vars (most - out.length) f s).1,(iA p (fun _ l=>l) vars (most - out.length) f s).2)
 len:out.length≤most
 ok:lU p B s
 bd:B+26*f≤8000
abbrev l9:=zi tI_2 (zi zI_2 (zi MC (zi tI_3 (zi zI_3 (zi a7 (zi tI_4 (zi zI_4 (zi cL (zi tI_26 (zi zI_26 (zi gC (zi kM (zi kN (zi mA (zi tI_29 (zi zI_29 (zi eP (zi gO (zi gP (zi gV (zi tI_31 (zi zI_31 (zi aR (zi bO (zi bP (zi cF (zi tI_46 (zi zI_46 (zi cW (zi eJ (zi eF (zi eY (zi tI_59 (zi zI_59 (zi tT (zi tK (zi tI_163 (zi zI_163 (zi u9 (zi yU (zi yW (zi HB (zi tI_166 (zi zI_166 (zi E4 (zi E5 (zi E6 EO)))))))))))))))))))))))))))))))))))))))))))))))
theorem aSB{p:List Cl}(hp:∀c∈p,fQ c∧c.2.length≤6)(hpl:p.length≤20){q:List Tm}(hq:∀t∈q,bD 26 t∧t.k=3)(h6:q.length≤6){most fuel:Nat}(hm:most≤20)(hf:fuel≤300)(st:aA) :
 aD prog 124 [.slice (p.map bK),.slice (q.map Tm.av),.int .i64 (most:Int),.int .i64 (fuel:Int)] st (fun r st'=>r=.tup [.slice ((uC p (fun _ l=>l) q most fuel).1.map bJ),.int .i64 (uC p (fun _ l=>l) q most fuel).2]∧st'=st):=by
 have hnd:aL Tm.nodes q≤1099511627776:=by
  have:=CV q fun t ht=>(hq t ht).1.2
  omega
 have hva:=fun st=>V8 q st (fun t ht=>Tm.tM t (hq t ht).1.1.2.1) hnd
 have F4:=fun st=>aSC q (fun t ht=>(hq t ht).1) h6 st
 have hv:∀v∈bX q [],0≤v∧v<26:=fun v hv=>by
  rcases (xV q [] fun t ht=>(hq t ht).1.1.2.1).1 hv with h | ⟨t,ht,h⟩
  · cases h
  · exact(hq t ht).1.1.2.2 v h
 have hvl:(bX q []).length≤1000:=by
  have h1:=xU q []
  have h2:=CV q fun t ht=>(hq t ht).1.2
  simp only[bL] at h1
  omega
 have J9:=lU.start (p:=p) hq h6
 generalize hT:uC p (fun _ l=>l) q most fuel=T
 unfold uC at hT
 generalize bX q []=vars at *
 have hI0:TN p vars most fuel T (lR q) [] fuel 26:=⟨by rw[←hT];try rfl,nI _,J9,by omega⟩
 generalize lR q=s0 at *
 simp only[nW] at F4
 refine aD.pQ (aD.fin (aD.oJ ?_))
 refine wF [1000000,12] 4 func124 ntmps124 rfl rfl ?_
 intro _
 simp -implicitDefEqProofs only[aB,seval,l9]
 refine(hva _).to ?_
 simp -implicitDefEqProofs only[aB,seval]
 refine(F4 _).to ?_
 simp -implicitDefEqProofs only[aP,aB,↓aY,seval,l9]
 intro b12 h12
 refine pC (σ:=RS×List (List Tm)×Nat×Nat×Nat) [1000000,12] [0,2,11,12] (fun x=>TN p vars most fuel T x.1 x.2.1 x.2.2.1 x.2.2.2.1∧(x.2.1.map bJ≠[]→(st.aC b12 (.cells [.slice (x.1.goals.map eG),.slice (cP x.1.N x.1.σ),.slice (x.1.chs.map fG)])) x.2.2.2.2=none))
  (fun x=>[(3,.int .i64 (x.2.2.1:Int)),(8,.fslice []),(9,.int .i64 0),(10,bS 1 x.2.2.2.2 (x.2.1.map bJ))])
  (fun x=>bV (st.aC b12 (.cells [.slice (x.1.goals.map eG),.slice (cP x.1.N x.1.σ),.slice (x.1.chs.map fG)])) x.2.2.2.2 (x.2.1.map bJ))
  (fun x=>(most - x.2.1.length)+x.2.2.1) (by decide +kernel) ⟨(s0,[],fuel,26,0),⟨hI0,by simp⟩,aN.mk (by simp -implicitDefEqProofs only[lJ,bQ,aB,seval])⟩ ?_
 rintro⟨s,out,f,B,b⟩ ⟨⟨tot,hlen,hok,hbd⟩,hb⟩
 simp only at tot hlen hok hbd hb
 simp only
 have hbc:out.map bJ≠[]→b≠b12:=fun h=>by rintro rfl;have:=hb h;rw[aA.aJ] at this;cases this
 have pU:=yO hb (aA.aJ st b12 (.cells [.slice (s.goals.map eG),.slice (cP s.N s.σ),.slice (s.chs.map fG)]))
 have hlo:(out.map bJ).length=out.length:=aE _
 have aWR:∀l:List (List Tm),∀e∈l.map bJ,e.cD=false:=fun l e he=>by simp only[bY] at he;obtain⟨t,_,rfl⟩:=he;rfl
 have KA:∀l:List (List Tm),∀e∈l.map bJ,e.width=1:=fun l e he=>by simp only[bY] at he;obtain⟨t,_,rfl⟩:=he;rfl
 have fin:∀(S:aA) (b:Nat) (l:List (List Tm)) (e:Int),(l.map bJ≠[]→S b=none)→aM S st→T=(l,e)→∃s2,aM (bV S b (l.map bJ)) s2∧∃b' l' s0,s2=bV s0 b' l'∧(l'≠[]→s0 b'=none)∧(∀e∈l',e.cD=false)∧jG l'∧(AV.tup [bS 1 b (l.map bJ),.int .i64 e]).fin b' l'=.tup [.slice (T.1.map bJ),.int .i64 T.2]∧aM s0 st:=fun S b l e h1 h2 h3=>
  ⟨_,aM.refl _,b,l.map bJ,S,rfl,h1,aWR l,⟨1,KA l⟩,by subst h3;simp only[mH,f7,nN,bR,bQ],h2⟩
 have hSD:∀o,aM (st.aC b12 o) st:=fun o=>(aM.refl _).aC h12
 generalize hX:(AO.cells [.slice (s.goals.map eG),.slice (cP s.N s.σ),.slice (s.chs.map fG)])=X at pU hb
 have pU:=pU.trans (gI some hX.symm)
 have hun:prog.underlying 26=some (.slice 59):=by kernel_rfl
 have tZ:=BN (w:=1) (b:=b) (l:=out.map bJ) hun
 rw[hlo] at tZ
 cases hgs:s.goals with
 | nil=>
  rw[hgs] at hX pU
  simp only[bQ] at hX pU
  rw[sY hgs] at tot
  simp -implicitDefEqProofs only[bL,tZ,pU,aB,seval,l9]
  refine aT (fun h=>?_) (fun h=>?_)
  · have h':out.length=most:=by simp at h;omega
    rw[aH (by omega)] at tot
    simp -implicitDefEqProofs only[sF,aB,seval]
    exact fin _ b out 1 hb (hSD _) (by rw[tot,fA])
  have h':out.length<most:=by simp at h;omega
  rw[aG (by omega)] at tot
  simp -implicitDefEqProofs only[pU,aB,seval,l9]
  refine(aR8 (N:=s.N) hok.a.gJ hok.a.ok vars (fun v h=>⟨(hv v h).1,by have:=(hv v h).2;have:=hok.l.1;omega⟩) hvl _).mono ?_
  rintro _ _ ⟨rfl,a,rfl,ha⟩
  cases pV:iJ s.σ vars with
  | none=>
   rw[pV] at tot
   simp only[Option.isSome_none,bJ]
   simp -implicitDefEqProofs only[bL,a8,sF,aB,↓aY,seval,l9]
   exact fin _ b out 3 hb (hSD _) (by rw[tot,fA])
  | some x=>
   obtain rfl:=ha x pV
   rw[pV] at tot
   simp only[Option.isSome_some,bJ] at tot ⊢
   simp -implicitDefEqProofs only[bL,a8,aB,↓aY,seval,l9]
   refine f9 (P:=prog) (b:=b) (l:=out.map bJ) (xs:=[bJ a]) gC kM kN rfl rfl (g9 rfl rfl) (KA out) hb (by simp only[a8,bL,hlo];omega) (by simp only[a8,bL,hlo];omega) (fun b' hb'=>?_)
   rw[show(out.map bJ)++ [bJ a]=(out++ [a]).map bJ by simp] at hb' ⊢
   have aH5:=(yO hb' (aA.aJ st b12 X)).trans (gI some hX.symm)
   simp -implicitDefEqProofs only[bL,a8,aH5,aB,seval,l9]
   have J0:(f:Int)=(f:Int):=rfl
   refine(VY hp (B:=B) (by omega) [] (cP s.N s.σ) s.chs hok.a.oI hok.a.chs _).mono ?_
   rintro r _ ⟨rfl,hr⟩
   cases hbk:fF p s.chs.length s.chs with
   | none=>
    rw[hbk] at hr tot
    simp only at hr tot
    obtain⟨l1,l2,l3,rfl⟩:=hr
    simp -implicitDefEqProofs only[bL,a8,sF,aB,↓aY,seval,l9]
    exact fin _ b' (out++ [a]) 0 hb' (hSD _) (by rw[tot];try rw[fA])
   | some s'=>
    rw[hbk] at hr tot
    simp only[nW] at hr tot
    subst hr
    simp -implicitDefEqProofs only[aP,bL,a8,aH5,aB,↓aY,seval,l9]
    rw[NB (fun h=>by rintro rfl;have:=hb' h;rw[aA.aJ] at this;cases this),eA]
    have hne:(out++ [a]).map bJ≠[]→b'≠b12:=fun h=>by rintro rfl;have:=hb' h;rw[aA.aJ] at this;cases this
    refine⟨(s',out++ [a],f,B,b'),by simp only[dP,a8,bL];omega,⟨⟨by rw[tot];try simp only[kK,gH,eU,dP,a8,bL,Nat.sub_sub];try rfl,by simp only[dP,a8,bL];omega,hok.back hp (by omega) hbk,by simp only;omega⟩,fun h=>by rw[aA.aF _ _ (hne h)];have:=hb' h;rwa [aA.aF _ _ (hne h)] at this⟩,aN.mk (by simp -implicitDefEqProofs only[aB,seval])⟩
 | cons g rest=>
  rw[hgs] at hX pU
  rw[qC hgs] at tot
  simp -implicitDefEqProofs only[aE,a8,pU,aB,seval,l9]
  refine aT (fun h=>absurd h (by simp;omega)) (fun h=>?_)
  simp -implicitDefEqProofs only[aB,seval]
  refine aT (fun h=>?_) (fun h=>?_)
  · have h':f=0:=by simp at h;omega
    rw[aH h'] at tot
    simp -implicitDefEqProofs only[sF,aB,seval]
    exact fin _ b out 2 hb (hSD _) (by rw[tot,fA])
  have h':f≠0:=by simp at h;omega
  rw[aG h'] at tot
  have hw:=bG (n:=(f:Int) - 1)
  simp -implicitDefEqProofs only[hw,bL,a8,pU,aB,seval,l9]
  have hst:=aSD hp (by omega) (B:=B) (by omega) s.goals s.σ s.N s.chs g rest hgs hok.a hok.k
  rw[hgs,bR] at hst
  refine(hst _).mono ?_
  rintro r _ ⟨rfl,hr⟩
  have hse:(⟨g::rest,s.σ,s.N,s.chs⟩:RS)=s:=by rw[←hgs]
  rw[hse] at hr
  cases vJ:iC p (fun _ l=>l) s g rest with
  | go s'=>
   rw[vJ] at hr tot
   simp only[tG,nW] at hr tot
   subst hr
   simp -implicitDefEqProofs only[bL,a8,vA,↓I9,List.contains,List.elem,AP,↓reduceIte,Nat.reduceEqDiff,Nat.reduceAdd,Nat.reduceBEq,l9]
   refine aT (fun h=>absurd h (by decide)) (fun h=>?_)
   simp -implicitDefEqProofs only[aP,bL,a8,pU,aB,seval,l9]
   rw[NB hbc,eA]
   have J0:((f - 1:Nat):Int)=(f:Int) - 1:=by omega
   refine⟨(s',out,f - 1,B+26,b),by simp only;omega,⟨⟨tot,hlen,hok.step hp (by omega) (by omega) (cnd:=fun _ l=>l) (fun _ _=>⟨fun _ h=>h,cO _⟩) hgs vJ,by simp only;omega⟩,fun h=>by rw[aA.aF _ _ (hbc h)];have:=hb h;rwa [aA.aF _ _ (hbc h)] at this⟩,aN.mk (by simp -implicitDefEqProofs only[J0,aB,seval])⟩
  | fail=>
   rw[vJ] at hr tot
   simp only[tG,nW] at hr tot
   subst hr
   simp -implicitDefEqProofs only[bL,a8,vA,↓I9,List.contains,List.elem,AP,↓reduceIte,Nat.reduceEqDiff,Nat.reduceAdd,Nat.reduceBEq,l9]
   refine aT (fun h=>absurd h (by decide)) (fun h=>?_)
   simp -implicitDefEqProofs only[bL,a8,pU,aB,seval,l9]
   have J0:((f - 1:Nat):Int)=(f:Int) - 1:=by omega
   refine(VY hp (B:=B) (by omega) (g::rest) (cP s.N s.σ) s.chs hok.a.oI hok.a.chs _).mono ?_
   rintro r _ ⟨rfl,hr⟩
   cases hbk:fF p s.chs.length s.chs with
   | none=>
    rw[hbk] at hr tot
    simp only at hr tot
    obtain⟨l1,l2,l3,rfl⟩:=hr
    simp -implicitDefEqProofs only[bL,a8,sF,aB,↓aY,seval,l9]
    exact fin _ b (out) 0 hb (hSD _) (by rw[tot];try rw[fA])
   | some s'=>
    rw[hbk] at hr tot
    simp only[nW] at hr tot
    subst hr
    simp -implicitDefEqProofs only[aP,bL,a8,pU,aB,↓aY,seval,l9]
    rw[NB (fun h=>by rintro rfl;have:=hb h;rw[aA.aJ] at this;cases this),eA]
    have hne:(out).map bJ≠[]→b≠b12:=fun h=>by rintro rfl;have:=hb h;rw[aA.aJ] at this;cases this
    refine⟨(s',out,f - 1,B,b),by simp only[];omega,⟨⟨by rw[tot];try simp only[kK,gH,eU,dP,a8,bL,Nat.sub_sub];try rfl,by simp only[];omega,hok.back hp (by omega) hbk,by simp only;omega⟩,fun h=>by rw[aA.aF _ _ (hne h)];have:=hb h;rwa [aA.aF _ _ (hne h)] at this⟩,aN.mk (by simp -implicitDefEqProofs only[J0,aB,seval])⟩
  | stop e=>
   rw[vJ] at hr tot
   simp only[tG] at hr tot
   obtain⟨he0,l1,l2,l3,rfl⟩:=hr
   simp -implicitDefEqProofs only[bL,a8,aB,↓aY,seval,l9]
   refine aT (fun h=>?_) (fun h=>absurd he0 (by simpa using h))
   simp -implicitDefEqProofs only[sF,aB,seval]
   exact fin _ b out e hb (hSD _) (by rw[tot,fA])
end Go.AW
namespace Go.AW
def qN(st:aA)(xs:List AV)(r:AV)(st':aA):Prop:=∃(os:List AV) (bs:List Nat),r=.tup os∧bs.Nodup∧(∀b∈bs,st b=none)∧aW st' xs os bs∧∀b,b∉bs→st' b=st b
theorem aW.aNW{h:bF}{st s0:aA}(S:cI h st)(D:aM st s0):∀(xs os:List AV) (bs:List Nat) (vs:List Value),aW st xs os bs→(∀b∈bs,s0 b=none)→dJ h st os vs→dJ h s0 xs vs
 | [],os,bs,vs,x,_,y=>by simp only[aW] at x;rw[x.1] at y;exact y
 | a::xs,os,bs,vs,x,hb,y=>by
  simp only[aW] at x
  obtain⟨o,os',b1,b2,rfl,rfl,x1,x2⟩:=x
  simp only[dJ] at y ⊢
  obtain⟨v,r,e,⟨y0,y1⟩,y2⟩:=y
  exact⟨v,r,e,⟨x1.shape.1.symm.trans y0,aV.view S D a o b1 _ x1 (fun q hq=>hb q (by simp [hq])) y1⟩,aW.aNW S D xs os' b2 r x2 (fun q hq=>hb q (by simp [hq])) y2⟩
theorem aD.aJW{P:Program}{g:FuncId}{args:List AV}{st:aA}{xs:List AV}(x:aD P g args st (qN st xs)):aD P g args st (fun r st'=>r=.tup xs∧st'=st):=
 x.kP fun r st' ⟨os,bs,hr,_,h2,h3,h4⟩=>by
  have D:aM st' st:=fun b=>⟨fun e=>by
   by_cases hb:b∈bs
   · exact h2 b hb
   · rw[←h4 b hb];exact e,fun o e=>by
   by_cases hb:b∈bs
   · rw[h2 b hb] at e;cases e
   · rw[h4 b hb];exact e⟩
  refine⟨.tup xs,st,D.rX,fun h v S y=>?_,rfl,rfl⟩
  subst hr
  obtain⟨y0,y1⟩:=y
  refine⟨y0,?_⟩
  unfold VC at y1 ⊢
  obtain⟨vs,e,y2⟩:=y1
  exact⟨vs,e,aW.aNW S D xs os bs vs h3 h2 y2⟩
def rZ(b1 b2:List Nat):Prop:=∀b∈b1,b∉b2
theorem rZ.symm{b1 b2:List Nat}(h:rZ b1 b2):rZ b2 b1:=fun b h2 h1=>h b h1 h2
theorem aV.a1Z{s:aA}{a o:AV}{bs:List Nat}(h:aV s a o bs):∀b∈bs,s b≠none:=fun b hb=>by
 obtain⟨cs,e,_⟩:=(aV.fZ _ _ _ h).2.2 b hb
 rw[e];simp
theorem aV.apart{s:aA}{a o:AV}{bs bs':List Nat}(h:aV s a o bs)(hf:∀b∈bs',s b=none):rZ bs bs':=fun b hb hb'=>h.a1Z b hb (hf b hb')
theorem aV.beside{s s':aA}{a o:AV}{bs bs':List Nat}(h:aV s a o bs)(k:∀b,b∉bs'→s' b=s b)(d:rZ bs bs'):aV s' a o bs:=aV.aU _ _ _ (fun b hb=>k b (d b hb)) h
theorem aV.oY{st:aA}{es:List AV}{q:AV}{bs:List Nat}(h:aV st (.slice es) q bs):q.cells= [q]∧q.storable=true∧q.isAgg=false∧q.width=1∧q.cD=false:=by
 simp only[aV] at h
 rcases h with ⟨_,rfl,_⟩ | ⟨_,_,_,_,rfl,_⟩<;>exact⟨rfl,rfl,rfl,rfl,rfl⟩
theorem KO{s:aA}{x o:AV}{bs:List Nat}:aV s (.agg [x]) o bs↔∃q,o=.agg [q]∧aV s x q bs:=by
 simp only[aV,aW]
 constructor
 · rintro⟨os,rfl,o1,os1,b1,b2,rfl,rfl,h,rfl,rfl⟩
   exact⟨o1,rfl,by simpa using h⟩
 · rintro⟨q,rfl,h⟩
   exact⟨_,rfl,q,[],bs,[],rfl,by simp,h,rfl,rfl⟩
theorem aZ4{s:aA}{x y:AV}{os:List AV}{bs:List Nat}:aW s [x,y] os bs↔∃o1 o2 b1 b2,os= [o1,o2]∧bs=b1++b2∧aV s x o1 b1∧aV s y o2 b2:=by
 simp only[aW]
 constructor
 · rintro⟨o1,os1,b1,b1',rfl,rfl,h1,o2,os2,b2,b2',rfl,rfl,h2,rfl,rfl⟩
   exact⟨o1,o2,b1,b2,rfl,by simp,h1,h2⟩
 · rintro⟨o1,o2,b1,b2,rfl,rfl,h1,h2⟩
   exact⟨o1,[o2],b1,b2,rfl,rfl,h1,o2,[],b2,[],rfl,by simp,h2,rfl,rfl⟩
end Go.AW
namespace Go.AW
open Go.Proofs.Tryz
abbrev WT (c:Cl):Prop:=c.1.small=true∧c.2.length≤1048576∧∀x∈c.2,x.small=true
def oV(S:aA)(c b w:Nat)(hd tl:List AV)(l:List AV):aA:=bV (S.aC c (.cells (hd++bS w b l::tl))) b l
section
variable {S:aA} {c b w:Nat} {hd tl l:List AV}
theorem GE(hb:l≠[]→(S.aC c (.cells (hd++bS w b l::tl))) b=none):oV S c b w hd tl l c=some (.cells (hd++bS w b l::tl)):=by
 unfold oV
 by_cases h:l= []
 · rw[h,EI,aA.aJ]
 · have h0:=hb h
   have hne:c≠b:=fun e=>by rw[←e,aA.aJ] at h0;cases h0
   rw[oE hne,aA.aJ]
theorem aJ2{b':Nat}{l':List AV}(hb:l'≠[]→(S.aC c (.cells (hd++bS w b l::tl))) b'=none) :
 (bV (S.aC c (.cells (hd++bS w b l::tl))) b' l').aC c (.cells (hd++bS w b' l'::tl))=oV S c b' w hd tl l'∧(l'≠[]→(S.aC c (.cells (hd++bS w b' l'::tl))) b'=none)∧bV (S.aC c (.cells (hd++bS w b l::tl))) b' l' c=some (.cells (hd++bS w b l::tl)):=by
 have hne:l'≠[]→c≠b':=fun h e=>by have:=hb h;rw[←e,aA.aJ] at this;cases this
 refine⟨?_,fun h=>?_,?_⟩
 · rw[uT hne,eA];try rfl
 · have:=hb h
   rw[aA.aF _ _ (dF (hne h))] at this ⊢
   exact this
 · by_cases h:l'= []
   · rw[h,EI,aA.aJ]
   · rw[oE (hne h),aA.aJ]
theorem aZD{x:Nat}(hb:l≠[]→(S.aC c (.cells (hd++bS w b l::tl))) b=none)(hx:S x≠none)(hxc:x≠c):oV S c b w hd tl l x=S x:=by
 unfold oV
 by_cases h:l= []
 · rw[h,EI,aA.aF _ _ hxc]
 · have h0:=hb h
   have hne:x≠b:=fun e=>by rw[←e,aA.aF _ _ hxc] at h0;exact hx h0
   rw[oE hne,aA.aF _ _ hxc]
theorem TQ{h:bF}{st:aA}{a a':AV}(hv:∀v,VC h st a [v]→VC h st a' [v]):∀(hd:List AV) {tl:List AV} {vs:List Value},aZ h st (hd++a::tl) vs→aZ h st (hd++a'::tl) vs
 | [],tl,vs,x=>by
  simp only[eU,aZ] at x ⊢
  obtain⟨c,r,e,x1,x2⟩:=x
  exact⟨c,r,e,hv c x1,x2⟩
 | y::hd,tl,vs,x=>by
  simp only[gH,aZ] at x ⊢
  obtain⟨c,r,e,x1,x2⟩:=x
  exact⟨c,r,e,x1,TQ hv hd x2⟩
theorem fL.a1T{φ:AF}{st:aA}{c:Nat}{hd tl:List AV}{a:AV}(hc:st c=some (.cells (hd++a::tl))):fL φ st φ (st.aC c (.cells (hd++a.soft::tl))):=fun h tmps S F=>by
 have T:bU h st h (st.aC c (.cells (hd++a.soft::tl))):=bU.of fun x hx=>by
  have:x≠c:=by rintro rfl;rw[hc] at hx;cases hx
  rw[aA.aF _ _ this];exact hx
 refine⟨fun x o hx=>?_,T,fun d=>(F d).mono T⟩
 by_cases e:x=c
 · subst e
   rw[aA.aJ] at hx
   cases hx
   obtain⟨hl,c0,t,e1,e2,vs,e3,e4⟩:=S x _ hc
   refine⟨hl,c0,t,e1,?_,vs,e3,aZ.mono T _ _ (TQ (fun v hv=>VC.soft a [v] hv) hd e4)⟩
   simpa using e2
 · rw[aA.aF _ _ e] at hx
   obtain⟨hl,y⟩:=S x o hx
   exact⟨hl,kL.mono T rfl y⟩
theorem OR{es:List AV}:∀ {l:List AV},(∀a∈l,a.fz b es=a)→j8 b es l=l
 | [],_=>rfl
 | a::l,h=>by rw[j8,h a (by simp),OR fun x hx=>h x (by simp [hx])]
theorem aYS{φ:AF}(hb:l≠[]→(S.aC c (.cells (hd++bS w b l::tl))) b=none)(hj:∀e∈l,e.cD=false)(hE:jG l)
 (hh:∀a∈hd++tl,∀b es,a.fz b es=a) :
 fL φ (oV S c b w hd tl l) φ (S.aC c (.cells (hd++ .slice l::tl))):=by
 have hcc:=GE hb
 cases l with
 | nil=>
  have:=fL.a1T (φ:=φ) hcc
  unfold oV at this ⊢
  simp only[EI,eA] at this
  exact this
 | cons y l=>
  have h0:=hb (by simp)
  have hne:b≠c:=by rintro rfl;rw[aA.aJ] at h0;cases h0
  have h1:oV S c b w hd tl (y::l) b=some (.cells ((y::l).flatMap AV.cells)):=by unfold oV;simp only[bV];exact aA.aJ _ _ _
  have:=fL.aVE (φ:=φ) hne h1 hj hE hcc
  have e:(oV S c b w hd tl (y::l)).erase b=S.aC c (.cells (hd++bS w b (y::l)::tl)):=by unfold oV;simp only[bV];exact aA.yX _ _ _ h0
  have f1:j8 b (y::l) hd=hd:=OR fun a ha=>hh a (by simp [ha]) _ _
  have f2:j8 b (y::l) tl=tl:=OR fun a ha=>hh a (by simp [ha]) _ _
  have f3:(bS w b (y::l)).fz b (y::l)=.slice (y::l):=by simp [bS,AV.fz]
  rw[e,eA,y6,mX,bR,←y6,←y6,f1,f2,f3] at this
  exact this
end
abbrev xQ:=zi tI_3 (zi zI_3 (zi a7 (zi tI_31 (zi zI_31 (zi aR (zi bO (zi bP (zi cF (zi tI_66 (zi zI_66 (zi b9 (zi cA (zi cB (zi cC (zi bZ (zi tI_84 (zi zI_84 (zi lB (zi lC kV)))))))))))))))))))
theorem aRY(cl:Cl)(h1:cl.1.small=true)(h2:cl.2.length≤1048576)(h3:∀x∈cl.2,x.small=true)(st:aA):aD prog 248 [bK cl] st (fun r st'=>r=bK cl∧st'=st):=by
 obtain⟨⟨k,n,s,ks⟩,ts⟩:=cl
 have hhd:=fun st=>IL (.mk k n s ks) st h1
 simp only[bA] at hhd
 have IH:=fun(x:Tm) (hx:x∈ts) st=>IL x st (h3 x hx)
 have hlen:ts.length≤1048576:=h2
 refine aD.pQ (aD.fin ?_)
 simp only[m7]
 refine wF [] 1 func248 ntmps248 rfl rfl ?_
 simp only[dK,AV.fits,dT,aE]
 intro ⟨_,_,_,_,hl,_⟩
 simp -implicitDefEqProofs only[aB,seval,xQ]
 intro b2 hb2
 refine(hhd _).to ?_
 simp -implicitDefEqProofs only[aP,aB,seval,xQ]
 intro c hc
 have hne:c≠b2:=by rintro rfl;rw[aA.aJ] at hc;cases hc
 have hn2:st c=none:=by rw[aA.aF st _ hne] at hc;exact hc
 have pX:b2≠c:=dF hne
 refine dL (σ:=Nat) [] [1,2,3] ts (fun i b=>(((ts.take i).map (fun y=>y)).map Tm.av≠[]→(aA.aC (st.aC b2 (.cells [AV.int .i64 0,AV.int .i64 0,AV.str ⟨#[]⟩,AV.fslice [],AV.fslice []])) c (.cells ([AV.int .i64 k,AV.int .i64 n,AV.str s,AV.slice (ks.map Tm.av)]++ [bS 4 b (((ts.take i).map (fun y=>y)).map Tm.av)]))) b=none)) (fun i b=>[(4,.int .i64 i)]) (fun i b=>kO (st.aC b2 (.cells [AV.int .i64 0,AV.int .i64 0,AV.str ⟨#[]⟩,AV.fslice [],AV.fslice []])) c b [AV.int .i64 k,AV.int .i64 n,AV.str s,AV.slice (ks.map Tm.av)] (((ts.take i).map (fun y=>y)).map Tm.av)) (by decide +kernel)
  ⟨0,fun h=>absurd rfl h,aN.mk (by simp -implicitDefEqProofs only[aB,↓aY,seval])⟩ (fun i x b hx hlt bB hdr hinv=>?_) (fun b hge hinv=>?_)
 case refine_1=>
  have hw:=bG (n:=(i:Int)+1)
  have c7:(((ts.take i).map (fun y=>y)).map Tm.av).length=i:=by simp only[aE,dI];omega
  have htk:(ts.take (i+1)).map (fun y=>y)=(ts.take i).map (fun y=>y)++ [(fun y=>y) x]:=by rw[eH,hx];simp
  have hbo:=lM hinv
  simp -implicitDefEqProofs only[aE,bB,aB,seval,xQ]
  refine wP [(0,1),(2,1),(4,1),(1,2),(3,2),(5,1),(6,2),(7,2),(8,1),(9,0),(10,1),(11,0)] [0,2,4,1,3,5,6,7,8,10] mixed ?_
  simp -implicitDefEqProofs only[bH (av:=Tm.av) aR hx (aO x),cE,aO,hbo,qR,gU,aB,seval,xQ]
  refine kC (IH x (cG hx) _) ?_
  simp -implicitDefEqProofs only[cE,aO,Tm.eN,gU,aB,seval,xQ]
  refine f9 aR bO bP rfl rfl (g9 (aO _) (Tm.d5 _)) (iP _) hinv (by simp only[c7,a8,bL];omega) (by simp only[c7,a8,bL];omega) (fun b' hb'=>?_)
  rw[show(((ts.take i).map (fun y=>y)).map Tm.av)++ [((fun y=>y) x).av]=((ts.take (i+1)).map (fun y=>y)).map Tm.av by rw[htk];simp] at hb' ⊢
  obtain⟨g1,g2,g3⟩:=vM hb'
  simp only[gH,eU] at g1 g3
  simp -implicitDefEqProofs only[g3,qS,j5,aP,g1,hw,aP,aB,seval,xQ]
  exact⟨b',g2,aN.mk (by simp -implicitDefEqProofs only[aB,seval])⟩
 have hbo:=lM hinv
 rw[dQ] at hinv hbo ⊢
 simp -implicitDefEqProofs only[aE,hge,aB,seval,xQ]
 simp -implicitDefEqProofs only[hbo,aP,aB,seval,xQ]
 have hS:(st.aC b2 (.cells [AV.int .i64 0,AV.int .i64 0,AV.str ⟨#[]⟩,AV.fslice [],AV.fslice []])) b2≠none:=by rw[aA.aJ];simp
 have h1:=nC hinv hS pX
 rw[aA.aJ] at h1
 simp -implicitDefEqProofs only[h1,j5,aB,seval]
 obtain⟨h2,h3⟩:=t7 (o:=.cells [AV.int .i64 k,AV.int .i64 n,AV.str s,AV.slice (ks.map Tm.av),bS 4 b ((ts.map fun y=>y).map Tm.av)]) hinv hS pX
 refine⟨b,_,_,h2,h3,rT _,⟨4,iP _⟩,?_,?_⟩
 · simp only[iK,bR,bQ,f7,oL,iL,nL,D1]
 · exact(((aM.refl _).aC hb2).aC hn2).aC hb2
structure Ss where
 p:List Cl
 q:List Tm
 dO:Int
 used:Int
 sent:Int
 fin:Int
def aX(s:Ss):AV:=.agg [.slice (s.p.map bK),.slice (s.q.map Tm.av),.int .i64 s.dO,.int .i64 s.used,.int .i64 s.sent,.int .i64 s.fin]
abbrev IU (c:Cl):Prop:=c.1.small=true∧c.2.length≤1048576∧∀x∈c.2,x.small=true
theorem WU(l:List Cl):∀e∈l.map bK,e.width=5:=by intro e h;simp only[bY] at h;obtain⟨t,_,rfl⟩:=h;exact gA t
theorem aTM(l:List Cl):∀e∈l.map bK,e.cD=false:=by intro e h;simp only[bY] at h;obtain⟨t,_,rfl⟩:=h;exact BX t
abbrev s9:=zi tI_3 (zi zI_3 (zi a7 (zi tI_29 (zi zI_29 (zi eP (zi gO (zi gP (zi gV (zi tI_31 (zi zI_31 (zi aR (zi bO (zi bP (zi cF (zi tI_62 (zi zI_62 (zi kX (zi kY (zi kZ (zi k8 (zi k9 (zi lA (zi kU (zi tI_66 (zi zI_66 (zi b9 (zi cA (zi cB (zi cC (zi bZ (zi tI_84 (zi zI_84 (zi lB (zi lC kV))))))))))))))))))))))))))))))))))
theorem aRI(s:Ss)(hp:s.p.length≤1048576)(hps:∀c∈s.p,IU c)(hq:s.q.length≤1048576)(hqs:∀t∈s.q,t.small=true)(st:aA):aD prog 175 [aX s] st (fun r st'=>r=aX s∧st'=st):=by
 obtain⟨ps,qs,i0,i1,i2,i3⟩:=s
 simp only at hp hps hq hqs
 refine aD.pQ (aD.fin ?_)
 simp only[aX]
 refine wF [1000000,3] 1 func175 ntmps175 rfl rfl ?_
 intro _
 simp -implicitDefEqProofs only[aP,aB,↓aY,seval,s9]
 intro b2 hb2 c hc
 have hne:c≠b2:=by rintro rfl;rw[aA.aJ] at hc;cases hc
 have hn2:st c=none:=by rw[aA.aF st _ hne] at hc;exact hc
 have pX:b2≠c:=dF hne
 refine dL (σ:=Nat) [1000000,3] [1,2,3] ps
  (fun i b=>((ps.take i).map bK≠[]→((st.aC b2 (.cells [.fslice [],.fslice [],.int .i64 0,.int .i64 0,.int .i64 0,.int .i64 0])).aC c (.cells ([]++bS 5 b ((ps.take i).map bK):: [.fslice [],.int .i64 i0,.int .i64 i1,.int .i64 i2,.int .i64 i3]))) b=none))
  (fun i _=>[(4,.int .i64 i)]) (fun i b=>oV (st.aC b2 (.cells [.fslice [],.fslice [],.int .i64 0,.int .i64 0,.int .i64 0,.int .i64 0])) c b 5 [] [.fslice [],.int .i64 i0,.int .i64 i1,.int .i64 i2,.int .i64 i3] ((ps.take i).map bK)) (by decide +kernel)
  ⟨0,fun h=>absurd rfl h,aN.mk (by simp -implicitDefEqProofs only[aB,↓aY,seval])⟩ (fun i x b hx hlt bB hdr hinv=>?_) (fun b hge hinv=>?_)
 · have hw:=bG (n:=(i:Int)+1)
   have c7:((ps.take i).map bK).length=i:=by simp only[aE,dI];omega
   have htk:(ps.take (i+1)).map bK=(ps.take i).map bK++ [bK x]:=by rw[eH,hx];simp
   have hbo:=GE hinv
   simp only[eU] at hbo
   have eX:=cG hx
   obtain⟨s1,s2,s3⟩:=hps x eX
   have hat:=bH (av:=bK) eP hx (gA x)
   simp -implicitDefEqProofs only[bB,aE,aB,seval,s9]
   refine wP [(0,1),(2,1),(4,1),(1,2),(3,2),(5,1),(6,2),(7,2),(8,1),(9,0),(10,1),(11,0)] [0,2,4,1,3,5,6,7,8,10] mixed ?_
   simp -implicitDefEqProofs only[hat,sJ,gA,hbo,qR,aB,seval,s9]
   refine kC (aRY x s1 s2 s3 _) ?_
   simp -implicitDefEqProofs only[sJ,gA,BX,aB,seval,s9]
   refine f9 eP gO gP rfl rfl (g9 (gA _) (IT _)) (WU _) hinv (by simp only[c7,a8,bL];omega) (by simp only[c7,a8,bL];omega) (fun b' hb'=>?_)
   rw[←htk] at hb' ⊢
   obtain⟨g1,g2,g3⟩:=aJ2 hb'
   simp only[eU] at g1 g3
   simp -implicitDefEqProofs only[g3,qS,j5,g1,hw,aP,aB,seval,s9]
   exact⟨b',g2,aN.mk (by simp -implicitDefEqProofs only[aB,seval])⟩
 · rw[dQ] at hinv ⊢
   have hbo:=GE hinv
   simp only[eU] at hbo
   simp -implicitDefEqProofs only[hge,aE,aB,seval,s9]
   refine dL (σ:=Nat) [1000000,3] [1,2,3] qs
    (fun i b=>((qs.take i).map Tm.av≠[]→((st.aC b2 (.cells [.fslice [],.fslice [],.int .i64 0,.int .i64 0,.int .i64 0,.int .i64 0])).aC c (.cells ([.slice (ps.map bK)]++bS 4 b ((qs.take i).map Tm.av):: [.int .i64 i0,.int .i64 i1,.int .i64 i2,.int .i64 i3]))) b=none))
    (fun i _=>[(5,.int .i64 i)]) (fun i b=>oV (st.aC b2 (.cells [.fslice [],.fslice [],.int .i64 0,.int .i64 0,.int .i64 0,.int .i64 0])) c b 4 [.slice (ps.map bK)] [.int .i64 i0,.int .i64 i1,.int .i64 i2,.int .i64 i3] ((qs.take i).map Tm.av)) (by decide +kernel)
    ⟨0,fun h=>absurd rfl h,?_⟩ (fun i x b hx hlt bB hdr hinv=>?_) (fun b hge hinv=>?_)
   · exact(aYS hinv (aTM _) ⟨5,WU _⟩ (by intro a ha;simp only[eU,cQ,dD,dN] at ha;rcases ha with rfl | rfl | rfl | rfl | rfl<;>intro _ _<;>rfl)).trans (fL.jQ (by simp -implicitDefEqProofs only[aB,↓aY,seval]))
   · have hw:=bG (n:=(i:Int)+1)
     have c7:((qs.take i).map Tm.av).length=i:=by simp only[aE,dI];omega
     have htk:(qs.take (i+1)).map Tm.av=(qs.take i).map Tm.av++ [x.av]:=by rw[eH,hx];simp
     have hbo:=GE hinv
     simp only[gH,eU] at hbo
     have hat:=bH (av:=Tm.av) aR hx (aO x)
     simp -implicitDefEqProofs only[bB,aE,aB,seval,s9]
     refine wP [(0,1),(2,1),(4,1),(1,2),(3,2),(5,1),(6,2),(7,2),(8,1),(9,0),(10,1),(11,0)] [0,2,4,1,3,5,6,7,8,10] mixed ?_
     simp -implicitDefEqProofs only[hat,cE,aO,hbo,qR,aB,seval,s9]
     refine kC (IL x _ (hqs x (cG hx))) ?_
     simp -implicitDefEqProofs only[cE,aO,Tm.eN,aB,seval,s9]
     refine f9 aR bO bP rfl rfl (g9 (aO _) (Tm.d5 _)) (iP _) hinv (by simp only[c7,a8,bL];omega) (by simp only[c7,a8,bL];omega) (fun b' hb'=>?_)
     rw[←htk] at hb' ⊢
     obtain⟨g1,g2,g3⟩:=aJ2 hb'
     simp only[gH,eU] at g1 g3
     simp -implicitDefEqProofs only[g3,qS,j5,g1,hw,aP,aB,seval,s9]
     exact⟨b',g2,aN.mk (by simp -implicitDefEqProofs only[aB,seval])⟩
   · rw[dQ] at hinv ⊢
     have hbo:=GE hinv
     simp only[gH,eU] at hbo
     have h2o:=aZD (x:=b2) hinv (by rw[aA.aJ];simp) pX
     rw[aA.aJ] at h2o
     simp -implicitDefEqProofs only[hge,aE,hbo,h2o,j5,aP,aB,seval,s9]
     have aID:qs.map Tm.av≠[]→b2≠b:=fun h e=>by
      have:=hinv h
      rw[←e,aA.aF _ _ pX,aA.aJ] at this
      cases this
     refine⟨b,qs.map Tm.av,_,by unfold oV;rw[uT aID],fun h=>by rw[aA.aF _ _ (dF (aID h))];exact hinv h,rT _,⟨4,iP _⟩,by simp only[iK,bR,bQ,f7,iL,nL],?_⟩
     exact(((aM.refl _).aC hb2).aC hn2).aC hb2
theorem a0B{p:List Cl}(h:nV p=true):p.length≤20∧∀c∈p,WT c:=by
 simp only[nV,cT,bM,eD] at h
 refine⟨h.1,fun c hc=>?_⟩
 have:=h.2 c hc
 simp only[pO,cT,bM,eD] at this
 refine⟨Tm.MH this.1.1,by omega,fun x hx=>?_⟩
 have hg:=this.2.2 x hx
 cases x
 simp only[Tm.goal,cT] at hg
 exact Tm.MH hg.1
theorem a0E{q:List Tm}(h:mM q=true):q.length≤6∧∀t∈q,t.small=true:=by
 simp only[mM,cT,bM,eD] at h
 refine⟨h.1,fun x hx=>?_⟩
 have hg:=h.2 x hx
 cases x
 simp only[Tm.goal,cT] at hg
 exact Tm.MH hg.1
theorem aKQ{st:aA}{s:Ss}{o:AV}{bs:List Nat} :
 aV st (aX s) o bs↔∃q b1 q' b2,o=.agg [q,q',.int .i64 s.dO,.int .i64 s.used,.int .i64 s.sent,.int .i64 s.fin]∧bs=b1++b2∧aV st (.slice (s.p.map bK)) q b1∧aV st (.slice (s.q.map Tm.av)) q' b2:=by
 unfold aX
 generalize AV.slice (s.p.map bK)=x
 generalize AV.slice (s.q.map Tm.av)=y
 simp only[aV,aW]
 constructor
 · rintro⟨os,rfl,o4,os4,b4,b4',rfl,rfl,h,o6,os6,b6,b6',rfl,rfl,h',o1,os1,b1,b1',rfl,rfl,⟨rfl,rfl⟩,o2,os2,b2,b2',rfl,rfl,⟨rfl,rfl⟩,o3,os3,b3,b3',rfl,rfl,⟨rfl,rfl⟩,o5,os5,b5,b5',rfl,rfl,⟨rfl,rfl⟩,rfl,rfl⟩
   exact⟨o4,b4,o6,b6,rfl,by simp,h,h'⟩
 · rintro⟨q,b1,q',b2,rfl,rfl,h,h'⟩
   exact⟨_,rfl,q,_,b1,b2,rfl,rfl,h,q',_,b2,[],rfl,by simp,h',_,_,[],[],rfl,rfl,⟨rfl,rfl⟩,_,_,[],[],rfl,rfl,⟨rfl,rfl⟩,_,_,[],[],rfl,rfl,⟨rfl,rfl⟩,_,_,[],[],rfl,rfl,⟨rfl,rfl⟩,rfl,rfl⟩
def kI(p:List Cl)(q:List Tm)(most fuel:Int):Bool:=nV p&&(mM q&&(decide (0≤most)&&(decide (most≤20)&&(decide (0≤fuel)&&decide (fuel≤300)))))
noncomputable def gG(p:List Cl)(cnd:Tm→List Nat→List Nat)(q:List Tm)(most fuel:Int):List (List Tm)×Int:=if kI p q most fuel=true then uC p cnd q most.toNat fuel.toNat else([],9)
theorem QV{p:List Cl}(h:nV p=true):p.length≤20∧∀c∈p,fQ c∧c.2.length≤6:=by
 simp only[nV,cT,bM,eD] at h
 refine⟨h.1,fun c hc=>⟨aTK (h.2 c hc),?_⟩⟩
 have:=h.2 c hc
 simp only[pO,cT,bM,eD] at this
 exact this.2.1
theorem QX{q:List Tm}(h:mM q=true):q.length≤6∧∀t∈q,bD 26 t∧t.k=3:=by
 simp only[mM,cT,bM,eD] at h
 refine⟨h.1,fun t ht=>?_⟩
 have hg:=h.2 t ht
 have hk:t.valid=true∧t.k=3:=by
  obtain⟨k,n,s,ts⟩:=t
  simp only[Tm.goal,cT] at hg
  refine⟨hg.1,?_⟩
  have:=hg.2
  simp only[xA,qB,n7,cT,bM] at this
  simp only[Tm.k]
  rcases this with (h | h) | h<;>first | exact h.1 | exact h.1.1 | exact h.1.1.1
 exact⟨⟨Tm.HF hk.1,Tm.HE hk.1⟩,hk.2⟩
end Go.AW
namespace Go.AW
theorem a0J(p:List Cl)(cnd:Tm→List Nat→List Nat)(vars:List Int)(k:Nat):∀(n most f:Nat) (s:RS),most+f≤n →
 ((iA p cnd vars most f s).2≠2→iA p cnd vars most (f+k) s=iA p cnd vars most f s)∧(iA p cnd vars most f s).1 <+: (iA p cnd vars most (f+k) s).1:=by
 intro n
 induction n with
 | zero=>
  intro most f s hn
  obtain rfl:most=0:=by omega
  obtain rfl:f=0:=by omega
  cases hg:s.goals with
  | nil=>rw[sY hg,sY hg];simp
  | cons g rest=>rw[qC (fuel:=0) hg];simp
 | succ n ih=>
  intro most f s hn
  cases hg:s.goals with
  | nil=>
   rw[sY hg,sY hg]
   by_cases hm:most=0
   · rw[aH hm,aH hm];simp
   rw[aG hm,aG hm]
   cases ha:iJ s.σ vars with
   | none=>simp
   | some a=>
    simp only
    cases hb:fF p s.chs.length s.chs with
    | none=>simp
    | some s'=>
     obtain⟨h1,h2⟩:=ih (most - 1) f s' (by omega)
     simp only
     refine⟨fun h=>by rw[h1 h],?_⟩
     rw[List.cons_prefix_cons]
     exact⟨rfl,h2⟩
  | cons g rest=>
   by_cases hf:f=0
   · subst hf
     rw[qC (fuel:=0) hg];simp
   rw[qC hg,qC hg,aG hf,aG (by omega)]
   cases hst:iC p cnd s g rest with
   | stop e=>simp
   | go s'=>
    have:=ih most (f - 1) s' (by omega)
    rw[show f - 1+k=f+k - 1 by omega] at this
    exact this
   | fail=>
    simp only
    cases hb:fF p s.chs.length s.chs with
    | none=>simp
    | some s'=>
     have:=ih most (f - 1) s' (by omega)
     rw[show f - 1+k=f+k - 1 by omega] at this
     exact this
theorem RJ{p:List Cl}{cnd:Tm→List Nat→List Nat}{q:List Tm}{most fuel:Int}(h:kI p q most fuel=true):gG p cnd q most fuel=uC p cnd q most.toNat fuel.toNat:=by
 unfold gG
 rw[aH h]
theorem K2{p:List Cl}{q:List Tm}{most fuel:Int}:kI p q most fuel=true↔(nV p=true∧mM q=true∧0≤most∧most≤20∧0≤fuel∧fuel≤300):=by
 simp only[kI,cT,bM]
theorem a0L{p:List Cl}{cnd:Tm→List Nat→List Nat}{s:RS}{g:RG}{rest:List RG}{e:Int}(h:iC p cnd s g rest=.stop e):e≠9:=by
 unfold iC at h
 intro he
 subst he
 repeat' split at h
 all_goals first | (cases h;done) | (injection h with h;unfold oK at h;repeat' split at h;all_goals omega) | (injection h with h;omega)
theorem a0H(p:List Cl)(cnd:Tm→List Nat→List Nat)(vars:List Int):∀(n most f:Nat) (s:RS),most+f≤n→(iA p cnd vars most f s).2≠9∧(iA p cnd vars most f s).1.length≤most:=by
 intro n
 induction n with
 | zero=>
  intro most f s hn
  obtain rfl:most=0:=by omega
  obtain rfl:f=0:=by omega
  cases hg:s.goals with
  | nil=>rw[sY hg];simp
  | cons g rest=>rw[qC (fuel:=0) hg];simp
 | succ n ih=>
  intro most f s hn
  cases hg:s.goals with
  | nil=>
   rw[sY hg]
   by_cases hm:most=0
   · rw[aH hm];simp
   rw[aG hm]
   cases ha:iJ s.σ vars with
   | none=>simp
   | some a=>
    simp only
    cases hb:fF p s.chs.length s.chs with
    | none=>simp;omega
    | some s'=>
     obtain⟨h1,h2⟩:=ih (most - 1) f s' (by omega)
     simp only[a8]
     exact⟨h1,by omega⟩
  | cons g rest=>
   by_cases hf:f=0
   · subst hf
     rw[qC (fuel:=0) hg];simp
   rw[qC hg,aG hf]
   cases hst:iC p cnd s g rest with
   | stop e=>exact⟨a0L hst,nI _⟩
   | go s'=>exact ih most (f - 1) s' (by omega)
   | fail=>
    simp only
    cases hb:fF p s.chs.length s.chs with
    | none=>simp
    | some s'=>exact ih most (f - 1) s' (by omega)
theorem a1X{p:List Cl}{cnd:Tm→List Nat→List Nat}{q:List Tm}{most fuel:Int}(h:kI p q most fuel=true):((gG p cnd q most fuel).1.length:Int)≤most:=by
 rw[RJ h]
 have h1:=(a0H p cnd (bX q []) _ most.toNat fuel.toNat (lR q) (cO _)).2
 have h2:=(K2.1 h).2.2.1
 unfold uC
 omega
theorem OQ{p:List Cl}{cnd:Tm→List Nat→List Nat}{q:List Tm}{most fuel fuel':Int}(h:kI p q most fuel=true)(hf:fuel≤fuel')(hf':fuel'≤300) :
 ((gG p cnd q most fuel).2≠2→gG p cnd q most fuel'=gG p cnd q most fuel)∧(gG p cnd q most fuel).1 <+: (gG p cnd q most fuel').1:=by
 obtain⟨h1,h2,h3,h4,h5,h6⟩:=K2.1 h
 have h':kI p q most fuel'=true:=K2.2 ⟨h1,h2,h3,h4,by omega,by omega⟩
 rw[RJ h,RJ h']
 obtain⟨k,hk⟩:∃k:Nat,fuel'.toNat=fuel.toNat+k:=⟨fuel'.toNat - fuel.toNat,by omega⟩
 rw[hk]
 exact a0J p cnd (bX q []) k _ most.toNat fuel.toNat (lR q) (cO _)
def TA(vars:List Int)(a:List Tm):Prop:=a.length=vars.length∧a.all Tm.valid=true
theorem aO7{N:Nat}{σ:Sub}(hg:cJ σ)(ho:cK (bD N) σ){vars:List Int}(hv:∀v∈vars,0≤v∧v<(N:Int)){a:List Tm}(h:iJ σ vars=some a):TA vars a:=by
 obtain⟨rk,B,G⟩:=hg.rs
 unfold iJ at h
 split at h
 · rename_i hh
   cases h
   obtain⟨h1,h2⟩:=hh
   have hok:∀t∈vars.map (rs σ),bD N t:=fun t ht=>by
    obtain⟨v,hvm,rfl⟩:=bY.1 ht
    have hf:=eD.1 h1 _ ht
    unfold eK at hf
    simp only[cT,bM] at hf
    exact⟨G.lP ho.lP v (hv v hvm).1 (hv v hvm).2,hf.2⟩
   exact⟨by rw[a0X hok,aE],by rw[aK2 hok h1,bM];exact h2⟩
 · cases h
theorem a0K{p:List Cl}(hp:∀c∈p,fQ c∧c.2.length≤6)(hpl:p.length≤20){cnd:Tm→List Nat→List Nat}(hd:∀t l,(∀i∈cnd t l,i∈l)∧(cnd t l).length≤l.length){vars:List Int}(hv:∀v∈vars,0≤v∧v<26) :
 ∀(n most fuel:Nat) (s:RS) (B:Nat),most+fuel≤n→lU p B s→B+26*fuel≤8000→(iA p cnd vars most fuel s).1.length≤most∧∀a∈(iA p cnd vars most fuel s).1,TA vars a:=by
 intro n
 induction n with
 | zero=>
  intro most fuel s B hn hs hB
  obtain rfl:most=0:=by omega
  obtain rfl:fuel=0:=by omega
  cases hg:s.goals with
  | nil=>rw[sY hg];simp
  | cons g rest=>rw[qC hg];simp
 | succ n ih=>
  intro most fuel s B hn hs hB
  cases hg:s.goals with
  | nil=>
   rw[sY hg]
   by_cases hm:most=0
   · rw[aH hm];simp
   rw[aG hm]
   cases ha:iJ s.σ vars with
   | none=>simp
   | some a=>
    have hok:=aO7 hs.a.gJ hs.a.ok (fun v h=>⟨(hv v h).1,by have:=(hv v h).2;have:=hs.l.1;omega⟩) ha
    simp only
    cases hb:fF p s.chs.length s.chs with
    | none=>
     simp only[a8,bL,cQ,dD,dN]
     exact⟨by omega,fun x hx=>by rw[hx];exact hok⟩
    | some s'=>
     obtain⟨h1,h2⟩:=ih (most - 1) fuel s' B (by omega) (hs.back hp (by omega) hb) hB
     simp only[a8,cQ]
     refine⟨by omega,fun x hx=>?_⟩
     rcases hx with rfl | hx
     · exact hok
     · exact h2 x hx
  | cons g rest=>
   rw[qC hg]
   by_cases hf:fuel=0
   · rw[aH hf];simp
   rw[aG hf]
   cases hst:iC p cnd s g rest with
   | stop e=>simp
   | go s'=>exact ih most (fuel - 1) s' (B+26) (by omega) (hs.step hp (by omega) (by omega) hd hg hst) (by omega)
   | fail=>
    simp only
    cases hb:fF p s.chs.length s.chs with
    | none=>simp
    | some s'=>exact ih most (fuel - 1) s' B (by omega) (hs.back hp (by omega) hb) (by omega)
theorem a0F{q:List Tm}(hq:∀t∈q,bD 26 t∧t.k=3):(∀v∈bX q [],0≤v∧v<26)∧(bX q []).length≤26:=by
 have hv:∀v∈bX q [],0≤v∧v<26:=fun v hv=>by
  rcases (xV q [] fun t ht=>(hq t ht).1.1.2.1).1 hv with h | ⟨t,ht,h⟩
  · cases h
  · exact(hq t ht).1.1.2.2 v h
 refine⟨hv,?_⟩
 have hnd:=L5 q [] (fun t ht=>Tm.tM t (hq t ht).1.1.2.1) lS
 exact CW (N:=26) hnd fun n hn=>hv n hn
theorem aLQ(p:List Cl){cnd:Tm→List Nat→List Nat}(hd:∀t l,(∀i∈cnd t l,i∈l)∧(cnd t l).length≤l.length)(q:List Tm)(most fuel:Int):(gG p cnd q most fuel).1.length≤20∧∀a∈(gG p cnd q most fuel).1,a.length≤26∧a.all Tm.valid=true:=by
 unfold gG
 split
 · rename_i h
   simp only[kI,cT,bM] at h
   obtain⟨hp,hq,h1,h2,h3,h4⟩:=h
   obtain⟨p1,p2⟩:=QV hp
   obtain⟨q1,q2⟩:=QX hq
   obtain⟨v1,v2⟩:=a0F q2
   obtain⟨r1,r2⟩:=a0K p2 p1 hd v1 _ most.toNat fuel.toNat (lR q) 26 (cO _) (lU.start q2 q1) (by omega)
   unfold uC
   refine⟨by omega,fun a ha=>?_⟩
   obtain⟨h5,h6⟩:=r2 a ha
   exact⟨by omega,h6⟩
 · simp
theorem aZF(t:Tm):t.dG=3*t.nodes:=by
 induction t using Tm.ind with
 | h k n s ts ih=>
  rw[Tm.GF,Tm.kG]
  have:∀l:List Tm,(∀t∈l,t.dG=3*t.nodes)→aL Tm.dG l=3*aL Tm.nodes l:=by
   intro l
   induction l with
   | nil=>intro _;rfl
   | cons x l ih2=>intro h;simp only[aL,h x (by simp),ih2 fun y hy=>h y (by simp [hy])];omega
  rw[this ts ih];omega
theorem UK:∀ {a:List Tm},a.all Tm.valid=true→aL Tm.dG a≤360*a.length
 | [],_=>by simp [aL]
 | t::a,h=>by
  simp only[jI,cT] at h
  have h1:=UK h.2
  have h2:=Tm.HE h.1
  simp only[aL,aZF t,a8]
  omega
theorem UL:∀ {l:List (List Tm)},(∀a∈l,a.length≤26∧a.all Tm.valid=true)→aL (fun a=>aL Tm.dG a) l≤9360*l.length
 | [],_=>by simp [aL]
 | a::l,h=>by
  have h1:=UL (l:=l) fun x hx=>h x (by simp [hx])
  obtain⟨h2,h3⟩:=h a (by simp)
  have h4:=UK h3
  simp only[aL,a8]
  omega
abbrev ba (l:List UInt8):ByteArray:=⟨⟨l⟩⟩
def dgt(x:UInt8):Bool:=decide (48≤x.toNat)&&decide (x.toNat≤57)
def upp(x:UInt8):Bool:=decide (65≤x.toNat)&&decide (x.toNat≤90)
def isB(l:List UInt8)(n c:Nat):Bool:=match l[n]? with | some x=>decide (x.toNat=c) | none=>false
def P6(l:List UInt8)(n:Nat)(p:UInt8→Bool):Bool:=match l[n]? with | some x=>p x | none=>false
def a39(nm:ByteArray):Bool:=decide (nm=⟨#[105,115]⟩)||decide (nm=⟨#[109,111,100]⟩)
def rA:Nat→Nat→ByteArray→ByteArray
 | 0,_,acc=>acc
 | f+1,n,acc=>if 9<n then rA f (n / 10) (⟨#[UInt8.ofNat (48+n % 10)]⟩++acc) else⟨#[UInt8.ofNat (48+n)]⟩++acc
def sL(n:Int):ByteArray:=if n<0 then⟨#[45]⟩++rA 20 (-n).toNat ⟨#[]⟩ else rA 20 n.toNat ⟨#[]⟩
def aYT(n:Int):ByteArray:=⟨#[UInt8.ofNat (65+n.toNat)]⟩
def aKT(t:Tm):Bool:=decide (t.k=3)&&(decide (t.s=⟨#[46]⟩)&&decide (t.ts.length=2))
def aZJ(t:Tm):Bool:=decide (t.k=3)&&(decide (t.s=⟨#[91,93]⟩)&&decide (t.ts.length=0))
def aJK(t:Tm):Bool:=decide (t.k=3)&&(decide (t.ts.length=2)&&decide (0<jD t.s))
def aLP(t:Tm):Bool:=decide (t.k=3)&&(decide (t.ts.length=0)&&decide (0<jD t.s))
def aPB(t:Tm):Bool:=decide (t.k=3)&&decide (0<t.ts.length)
def t6(t:Tm)(i:Nat):Tm:=t.ts.getD i a28
 where a28:Tm:=.mk 0 0 ⟨#[]⟩ []
def NK(T:Tm→ByteArray):List Tm→ByteArray
 | []=>⟨#[]⟩
 | x::xs=>xs.foldl (fun o y=>(o++⟨#[44]⟩)++T y) (⟨#[]⟩++T x)
def spine:Nat→Tm→List Tm×Tm
 | 0,t=>([],t)
 | n+1,t=>if aKT t then(t6 t 0::(spine n (t6 t 1)).1,(spine n (t6 t 1)).2) else([],t)
def a10(nm:ByteArray):ByteArray:=if a39 nm then(⟨#[32]⟩++nm)++⟨#[32]⟩ else nm
def a0A(l:List UInt8):Bool:=P6 l 0 letter||(P6 l 0 dgt||(P6 l 0 upp||(isB l 0 91||isB l 0 40)))
def ID(T:Tm→ByteArray)(t:Tm)(lv:Nat):ByteArray:=if aJK t&&decide (lv<jD t.s) then(⟨#[40]⟩++T t)++⟨#[41]⟩ else T t
def aYO(T:Tm→ByteArray)(t:Tm)(lv:Nat):ByteArray:=if aLP t then(⟨#[40]⟩++T t)++⟨#[41]⟩ else ID T t lv
def a02(T:Tm→ByteArray)(t:Tm)(lv:Nat):ByteArray:=if aLP t|| !a0A (sb (ID T t lv)) then(⟨#[40]⟩++ID T t lv)++⟨#[41]⟩ else ID T t lv
def aYU(T:Tm→ByteArray)(p:List Tm×Tm):ByteArray:=if aZJ p.2 then(⟨#[91]⟩++NK T p.1)++⟨#[93]⟩ else(((⟨#[91]⟩++NK T p.1)++⟨#[124]⟩)++T p.2)++⟨#[93]⟩
def aYM(t:Tm):ByteArray:=if t.k=1 then aYT t.n else if t.k=2 then sL t.n else t.s
def lvl(n:Nat):Nat:=if n=3 then 2 else n
def tx:Nat→Tm→ByteArray
 | 0,_=>⟨#[]⟩
 | n+1,t=>if aKT t then aYU (tx n) (spine n t) else if aJK t then(aYO (tx n) (t6 t 0) (lvl (jD t.s))++a10 t.s)++a02 (tx n) (t6 t 1) (jD t.s - 1)
  else if aPB t then((t.s++⟨#[40]⟩)++NK (tx n) t.ts)++⟨#[41]⟩ else aYM t
theorem IA(a b:ByteArray):(a++b).size=a.size+b.size:=ByteArray.size_append
theorem IW:∀(f n:Nat) (acc:ByteArray),(rA f n acc).size≤f+acc.size
 | 0,n,acc=>by simp [rA]
 | f+1,n,acc=>by
  unfold rA
  split
  · refine pH (IW f _ _) ?_
    rw[IA]
    show f+(1+acc.size)≤_
    omega
  · rw[IA]
    show 1+acc.size≤_
    omega
theorem aZI{s:ByteArray}(h:zO s=true):1≤s.size∧s.size≤6:=by
 unfold zO at h
 rw[n7] at h
 rcases h with h | h
 · simp only[sU,cT,bM] at h
   omega
 · rw[yB] at h
   obtain⟨x,hx,h⟩:=h
   rw[bM] at h
   subst h
   revert hx
   revert s
   decide

def P7(x:Tm):ByteArray:=if x.k=1 then⟨#[]⟩ else if x.k=2 then sL x.n else x.s++⟨#[47]⟩++rA 20 x.ts.length ⟨#[]⟩
def xI(t:Tm):ByteArray:=if t.k=1 then⟨#[]⟩ else match t.ts with
 | []=>⟨#[]⟩
 | x::_=>P7 x
def JO(a b:ByteArray):Bool:=decide (a=⟨#[]⟩)||(decide (b=⟨#[]⟩)||decide (a=b))
def CC(p:List Cl)(key:ByteArray)(i:Nat):Bool:=match p[i]? with
 | some c=>JO (xI c.1) key
 | none=>false
def sK(p:List Cl)(t:Tm)(l:List Nat):List Nat:=l.filter (CC p (xI t))
section
variable (p:List Cl)
variable {p}
end
end Go.AW

namespace Go.AW
open Go.Proofs.Tryz
open Go.Shelf
set_option linter.unusedSimpArgs false
set_option linter.unusedVariables false
set_option maxRecDepth 100000
def aYG:Go.Shelf.Ren:=⟨fun | 171=>258 | 243=>319 | 246=>365 | 283=>383 | 284=>384 | 285=>385 | 286=>386 | 129=>400 | 317=>399 | 318=>401 | 319=>402 | 320=>403 | 337=>407 | 338=>408 | n=>n,fun | 3=>3 | 9=>9 | 2=>2 | 4=>4 | 171=>370 | 0=>0 | 53=>371 | 37=>40 | 5=>5 | 173=>374 | 212=>391 | 51=>392 | 20=>20 | 213=>393 | 46=>394 | 232=>398 | 233=>399 | n=>n,fun | 17=>1 | 18=>2 | 19=>3 | n=>n⟩
theorem aYF:Go.Proofs.LaysM.n171 prog aYG:={
 mixed:=by kernel_rfl
 f129:=Go.Proofs.Tryz.func400.trans (gI some (by kernel_rfl))
 f171:=Go.Proofs.Tryz.func258.trans (gI some (by kernel_rfl))
 f243:=Go.Proofs.Tryz.func319.trans (gI some (by kernel_rfl))
 f246:=Go.Proofs.Tryz.func365.trans (gI some (by kernel_rfl))
 f283:=Go.Proofs.Tryz.func383.trans (gI some (by kernel_rfl))
 f284:=Go.Proofs.Tryz.func384.trans (gI some (by kernel_rfl))
 f285:=Go.Proofs.Tryz.func385.trans (gI some (by kernel_rfl))
 f286:=Go.Proofs.Tryz.func386.trans (gI some (by kernel_rfl))
 f317:=Go.Proofs.Tryz.func399.trans (gI some (by kernel_rfl))
 f318:=Go.Proofs.Tryz.func401.trans (gI some (by kernel_rfl))
 f319:=Go.Proofs.Tryz.func402.trans (gI some (by kernel_rfl))
 f320:=Go.Proofs.Tryz.func403.trans (gI some (by kernel_rfl))
 f337:=Go.Proofs.Tryz.func407.trans (gI some (by kernel_rfl))
 f338:=Go.Proofs.Tryz.func408.trans (gI some (by kernel_rfl))
 t0:=Go.Proofs.Tryz.underlying0
 a0:=Go.Proofs.Tryz.isAgg0
 z0:=Go.Proofs.Tryz.sizeOf0
 v0:=Go.Proofs.Tryz.zeroValue0
 t2:=Go.Proofs.Tryz.underlying2
 a2:=Go.Proofs.Tryz.isAgg2
 z2:=Go.Proofs.Tryz.sizeOf2
 v2:=Go.Proofs.Tryz.zeroValue2
 t3:=Go.Proofs.Tryz.underlying3
 a3:=Go.Proofs.Tryz.isAgg3
 z3:=Go.Proofs.Tryz.sizeOf3
 v3:=Go.Proofs.Tryz.zeroValue3
 t4:=Go.Proofs.Tryz.underlying4
 a4:=Go.Proofs.Tryz.isAgg4
 z4:=Go.Proofs.Tryz.sizeOf4
 v4:=Go.Proofs.Tryz.zeroValue4
 t5:=Go.Proofs.Tryz.underlying5
 a5:=Go.Proofs.Tryz.isAgg5
 z5:=Go.Proofs.Tryz.sizeOf5
 v5:=Go.Proofs.Tryz.zeroValue5
 t9:=Go.Proofs.Tryz.underlying9
 a9:=Go.Proofs.Tryz.isAgg9
 z9:=Go.Proofs.Tryz.sizeOf9
 v9:=Go.Proofs.Tryz.zeroValue9
 t20:=Go.Proofs.Tryz.underlying20
 a20:=Go.Proofs.Tryz.isAgg20
 z20:=Go.Proofs.Tryz.sizeOf20
 v20:=Go.Proofs.Tryz.zeroValue20
 t37:=Go.Proofs.Tryz.underlying40
 a37:=Go.Proofs.Tryz.isAgg40
 z37:=Go.Proofs.Tryz.sizeOf40
 v37:=Go.Proofs.Tryz.zeroValue40
 t46:=Go.Proofs.Tryz.underlying394
 a46:=Go.Proofs.Tryz.isAgg394
 z46:=Go.Proofs.Tryz.sizeOf394
 v46:=Go.Proofs.Tryz.zeroValue394
 t51:=Go.Proofs.Tryz.underlying392
 a51:=Go.Proofs.Tryz.isAgg392
 z51:=Go.Proofs.Tryz.sizeOf392
 v51:=Go.Proofs.Tryz.zeroValue392
 t53:=Go.Proofs.Tryz.underlying371
 a53:=Go.Proofs.Tryz.isAgg371
 z53:=Go.Proofs.Tryz.sizeOf371
 v53:=Go.Proofs.Tryz.zeroValue371
 t171:=Go.Proofs.Tryz.underlying370
 a171:=Go.Proofs.Tryz.isAgg370
 z171:=Go.Proofs.Tryz.sizeOf370
 v171:=Go.Proofs.Tryz.zeroValue370
 t173:=Go.Proofs.Tryz.underlying374
 a173:=Go.Proofs.Tryz.isAgg374
 z173:=Go.Proofs.Tryz.sizeOf374
 v173:=Go.Proofs.Tryz.zeroValue374
 t212:=Go.Proofs.Tryz.underlying391
 a212:=Go.Proofs.Tryz.isAgg391
 z212:=Go.Proofs.Tryz.sizeOf391
 v212:=Go.Proofs.Tryz.zeroValue391
 t213:=Go.Proofs.Tryz.underlying393
 a213:=Go.Proofs.Tryz.isAgg393
 z213:=Go.Proofs.Tryz.sizeOf393
 t232:=Go.Proofs.Tryz.underlying398
 a232:=Go.Proofs.Tryz.isAgg398
 z232:=Go.Proofs.Tryz.sizeOf398
 v232:=Go.Proofs.Tryz.zeroValue398
 t233:=Go.Proofs.Tryz.underlying399
 a233:=Go.Proofs.Tryz.isAgg399
 z233:=Go.Proofs.Tryz.sizeOf399
 v233:=Go.Proofs.Tryz.zeroValue399
 g17:=by kernel_rfl
 g18:=by kernel_rfl
 g19:=by kernel_rfl
 i0:=by kernel_rfl
 i2:=by kernel_rfl
 i3:=by kernel_rfl
 i4:=by kernel_rfl
 i5:=by kernel_rfl
 i9:=by kernel_rfl
 i20:=by kernel_rfl
 i37:=by kernel_rfl
 i46:=by kernel_rfl
 i51:=by kernel_rfl
 i53:=by kernel_rfl
 i171:=by kernel_rfl
 i173:=by kernel_rfl
 i212:=by kernel_rfl
 i232:=by kernel_rfl
 i233:=by kernel_rfl
 m17:=by kernel_rfl
 m18:=by kernel_rfl
 m19:=by kernel_rfl }
theorem OA:∀(f u:Nat) (acc:ByteArray),u<10 ^ f→0<f→rA f u acc=⟨(Lib.decDigits u).toArray⟩++acc
 | 0,_,_,_,h=>absurd h (by decide)
 | f+1,u,acc,h,_=>by
  rw[rA,Lib.decDigits]
  rw[Nat.pow_succ] at h
  by_cases h9:9<u
  · have hf:0<f:=by
     rcases Nat.eq_zero_or_pos f with rfl | h'
     · simp at h;omega
     · exact h'
    rw[aH h9,dif_neg (by omega),OA f (u / 10) _ (by omega) hf]
    apply ByteArray.ext
    simp [MM]
  · rw[aG h9,dif_pos (by omega)]
theorem aYH{n:Int}(h1: -999≤n)(h2:n≤999):(⟨(Lib.itoa n).toArray⟩:ByteArray)=sL n:=by
 unfold Lib.itoa sL
 by_cases h:n<0
 · rw[aH h,aH h,OA 20 _ _ (by omega) (by decide),show n.natAbs=(-n).toNat by omega]
   apply ByteArray.ext
   simp [MM]
 · rw[aG h,aG h,OA 20 _ _ (by omega) (by decide)]
   apply ByteArray.ext
   simp [MM]
theorem aTU(n:Int):(sL n).size≤21:=by
 have h0:(⟨#[]⟩:ByteArray).size=0:=rfl
 unfold sL
 split
 · have:=IW 20 (-n).toNat ⟨#[]⟩
   rw[IA]
   show 1+_≤_
   omega
 · have:=IW 20 n.toNat ⟨#[]⟩
   omega
def vS:AO:=.tab (Lib.pow10Tab.map fun z=>Value.int .u64 z).toArray
abbrev sX:Nat:=1
theorem a17{P:Program}{w:World}{g:Nat}{name:String}{k:IntKind}{zs:List Int}{st:aA}(hg:P.globalNamed name=some g)(S:cI w.heap st)(h:st g=some (.tab (zs.map fun z=>Value.int k z).toArray)):Lib.TabIs P w name k zs:=by
 obtain⟨_,t,e⟩:=S g _ h
 unfold Lib.TabIs World.var?
 rw[hg,Option.bind_some,e]
theorem aKC(n:Int)(h1: -999≤n)(h2:n≤999)(st:aA)(hT:st sX=some vS):aD prog 258 [.int .i64 n] st (fun r st'=>r=.str (sL n)∧st'=st):=by
 refine⟨⟨_,func258,rfl,by kernel_rfl⟩,fun w vs S V=>?_⟩
 obtain rfl:vs= [.int .i64 n]:=by
  obtain⟨v,r,rfl,v1,v2⟩:=V
  obtain rfl:r= []:=v2
  rw[v1.jS]
 refine(Go.Proofs.Any.strconv_Itoa aYF n (by omega) (by omega) w (a17 (by kernel_rfl) S hT)).mono ?_
 rintro e w' ⟨rfl,k,os,rfl⟩
 rw[aYH h1 h2]
 have X:Ext w.heap (Sort.grow (w.drewN k) os).heap:=⟨by simp [Sort.grow],fun b hb=>by simp only[Sort.grow,World.heap_drewN];rw[Array.getElem?_append_left hb]⟩
 exact⟨_,.str (sL n),st,rfl,⟨rfl,rfl,by have:=aTU n;show _≤(9223372036854775807:Nat);omega⟩,S.ext X,X.step st,⟨rfl,rfl,rfl⟩,rfl,rfl⟩
end Go.AW

namespace Go.AW
open Go.Proofs.Tryz









theorem QL{N:Int}{t:Tm}(h:bD N t):(t.k=1∨t.k=2∨t.k=3)∧(t.k=1→t.ts= [])∧(t.k=2→-999≤t.n∧t.n≤999)∧(t.k=3→t.s.size≤6)∧t.ts.length≤4:=by
 obtain⟨h,-⟩:=h
 obtain⟨k,n,s,ts⟩:=t
 have hk:=h.kind
 refine⟨hk.1,fun e=>?_,fun e=>?_,fun e=>?_,hk.2⟩<;>simp only[Tm.k] at e<;>subst e
 · exact h.var.2.2.2
 · have:=(h.own (by decide)).1
   simp [eM] at this
   simp only[Tm.n];omega
 · have:=(h.own (by decide)).1
   simp [eM] at this
   exact(aZI this.1.2).2
theorem aZ1{N:Int}{t:Tm}(h:bD N t){x:Tm}{l:List Tm}(e:t.ts=x::l):bD N x:=by
 have h1:t.k≠1:=fun hk=>by have:=(QL h).2.1 hk;rw[e] at this;cases this
 exact p9 N t h1 h x (by rw[e];simp)
theorem aYJ{N:Int}{t:Tm}(h:bD N t):xI t=match t.ts with
 | []=>⟨#[]⟩
 | x::_=>P7 x:=by
 unfold xI
 by_cases h1:t.k=1
 · rw[aH h1,(QL h).2.1 h1]
 · rw[aG h1]
   try rfl
abbrev LA:=zi tI_3 (zi zI_3 (zi a7 (zi tI_9 (zi zI_9 (zi d9 (zi tI_31 (zi zI_31 (zi aR (zi bO (zi bP (zi cF (zi tI_66 (zi zI_66 (zi b9 (zi cA (zi cB (zi cC bZ)))))))))))))))))
theorem VA{N:Int}{t:Tm}(ht:bD N t)(st:aA)(hT:st sX=some vS):aD prog 185 [t.av] st (fun r st'=>r=.str (xI t)∧st'=st):=by
 refine aD.drop ?_
 rw[aYJ ht]
 have hx:=@aZ1 N t ht
 obtain⟨k,n,s,ts⟩:=t
 simp only[Tm.ts] at hx ⊢
 rw[bA]
 refine wF [1000000] 1 func185 ntmps185 rfl rfl ?_
 intro _
 simp -implicitDefEqProofs only[aE,aB,seval,LA]
 refine aT (fun h=>?_) (fun h=>?_)
 · have h':ts= []:=nG (by simp at h;simp [h])
   subst h'
   simp -implicitDefEqProofs only[aB,seval]
   first | exact aM.refl _ | exact⟨aM.refl _,rfl⟩
 cases ts with
 | nil=>simp at h
 | cons x l=>
  obtain⟨hk,h1,h2,h3,h4⟩:=QL (hx rfl)
  obtain⟨xk,xn,xs,xt⟩:=x
  simp only[Tm.k,Tm.ts,Tm.n,Tm.s] at hk h1 h2 h3 h4
  have hat:dM prog 31 (.slice ((Tm.mk xk xn xs xt).av::l.map Tm.av)) (.int .i64 0)=some (.pptr (.agg [.int .i64 xk,.int .i64 xn,.str xs,.slice (xt.map Tm.av)])):=by
   rw[←bA]
   exact bH (av:=Tm.av) (l:=.mk xk xn xs xt::l) (i:=0) aR rfl (aO _)
  have hdx:sL (xt.length:Int)=rA 20 xt.length ⟨#[]⟩:=by unfold sL;rw[aG (by omega),jV]
  have hu:P7 (.mk xk xn xs xt)=if xk=1 then⟨#[]⟩ else if xk=2 then sL xn else xs++⟨#[47]⟩++rA 20 xt.length ⟨#[]⟩:=rfl
  simp only
  rw[hu]
  simp -implicitDefEqProofs only[hat,aB,↓aY,seval,LA]
  refine aT (fun h=>?_) (fun h=>?_)
  · rw[aH (by simpa using h)]
    simp -implicitDefEqProofs only[aB,seval]
    first | exact aM.refl _ | exact⟨aM.refl _,rfl⟩
  have h5:xk≠1:=by simpa using h
  rw[aG h5]
  simp -implicitDefEqProofs only[aB,seval]
  refine aT (fun h=>?_) (fun h=>?_)
  · have h6:xk=2:=by simpa using h
    rw[aH h6]
    simp -implicitDefEqProofs only[aB,seval,LA]
    refine(aKC xn (h2 h6).1 (h2 h6).2 _ hT).to ?_
    simp -implicitDefEqProofs only[aB,seval]
    first | exact aM.refl _ | exact⟨aM.refl _,rfl⟩
  have h6:xk≠2:=by simpa using h
  rw[aG h6]
  have hs:=h3 (by omega)
  have hm:maxLen=9223372036854775807:=by rfl
  have hs1:xs.size+(⟨#[47]⟩:ByteArray).size≤maxLen:=by show xs.size+1≤_;omega
  have hs2:(xs++(⟨#[47]⟩:ByteArray)).size+(rA 20 xt.length ⟨#[]⟩).size≤maxLen:=by
   have:=IW 20 xt.length ⟨#[]⟩
   have h0:(⟨#[]⟩:ByteArray).size=0:=rfl
   rw[IA]
   show xs.size+1+_≤_
   omega
  simp -implicitDefEqProofs only[aB,seval]
  refine yQ mixed (by decide +kernel) (by decide +kernel) ?_
  simp -implicitDefEqProofs only[aE,hs1,↓reduceIte,aB,seval,LA]
  refine kC (aKC xt.length (by omega) (by omega) _ hT) ?_
  simp -implicitDefEqProofs only[hs2,hdx,↓reduceIte,aB,seval]
  first | exact aM.refl _ | exact⟨aM.refl _,rfl⟩
theorem aQ7(a b:ByteArray)(st:aA):aD prog 189 [.str a,.str b] st (fun r st'=>r=.bool (JO a b)∧st'=st):=by
 unfold JO
 refine wF [1000000] 2 func189 ntmps189 rfl rfl ?_
 intro _
 simp -implicitDefEqProofs only[aB,seval]
 refine cU (fun h=>?_) (fun h=>?_)
 case refine_2=>
  have h':decide (a=⟨#[]⟩)=true:=by simpa using h
  simp -implicitDefEqProofs only[h,aB,seval]
  try simp []
 have h1:decide (a=⟨#[]⟩)=false:=by simpa using h
 simp -implicitDefEqProofs only[h,aB,seval]
 refine cU (fun h=>?_) (fun h=>?_)
 case refine_2=>
  have h':decide (b=⟨#[]⟩)=true:=by simpa using h
  simp -implicitDefEqProofs only[h,aB,seval]
  try simp []
 have h2:decide (b=⟨#[]⟩)=false:=by simpa using h
 simp -implicitDefEqProofs only[h,aB,seval]
 try simp [h1,h2]
theorem RE{h:bF}{st:aA}{b:Nat}{cs cs':List AV}(hb:st b=some (.cells cs)):bU h st h (st.aC b (.cells cs')):=
 ⟨cO _,fun y _ e=>⟨rfl,by
  have hne:y≠b:=by rintro rfl;rw[hb] at e;cases e
  rw[aA.aF _ _ hne];exact e⟩,fun _ c _ _ e=>⟨c,e,rfl⟩⟩
theorem WN{h:bF}{b:Nat}:∀ {vs:List Value} {off:Nat} (k:Nat),eO h b off vs→eO h b off (vs.take k)
 | _,_,0,_=>by simp [eO]
 | [],_,k+1,_=>by simp [eO]
 | v::vs,off,k+1,x=>⟨x.1,WN k x.2⟩
theorem aLJ{h:bF}{st:aA}{b:Nat}{cs:List AV}(k:Nat)(hb:st b=some (.cells cs))(S:cI h st):cI h (st.aC b (.cells (cs.take k))):=fun y o e=>by
 have T:=RE (h:=h) (cs':=cs.take k) hb
 by_cases hy:y=b
 · subst hy
   rw[aA.aJ] at e
   cases e
   obtain⟨h1,c,t,e1,e2,vs,e3,e4⟩:=S y _ hb
   exact⟨h1,c,t,e1,pH (by rw[dI];omega) e2,vs.take k,WN k e3,aZ.mono T _ _ (e4.take k)⟩
 · rw[aA.aF _ _ hy] at e
   obtain⟨h1,h2⟩:=S y o e
   exact⟨h1,kL.mono T rfl h2⟩
theorem aD.cut{P:Program}{g:FuncId}{args:List AV}{st:aA}{Q:AV→aA→Prop}(x:aD P g args st (fun r st'=>∃b cs k,st' b=some (.cells cs)∧Q r (st'.aC b (.cells (cs.take k))))):aD P g args st Q:=
 x.kP fun r st' ⟨b,cs,k,h1,h2⟩=>⟨r,_,fun h S=>⟨aLJ k h1 S,RE h1⟩,fun h v S y=>y.mono (RE h1),h2⟩
theorem aJL{st:aA}{b i:Nat}{cs:List AV}{x:AV}(hs:st b=some (.cells cs))(hx:cs[i]?=some x)(ha:x.isAgg=false):gN prog st 3 (.ptr b i)=some x:=by
 simp [gN,tI_3,hs,sub,hx,ha]
abbrev a2T:=zi tI_3 (zi zI_3 (zi a7 (zi tI_46 (zi zI_46 (zi cW (zi eJ (zi eF eY)))))))
theorem aZQ(l:List Nat)(g:FuncId)(cY:List AV)(p:Nat→Bool)(b:Nat)(cs:List AV)(h9:l.length≤1048576)(st:aA)(hb:st b=some (.cells cs))(hcs:∀(i x:Nat),l[i]?=some x→cs[i]?=some (nv x))(hc:∀x∈l,aD prog g ([nv x]++cY) st (fun r st'=>r=.bool (p x)∧st'=st)) :
 aD prog 259 [.mslice b 0 l.length 1,.func g cY] st (fun r st'=>r=.int .i64 (nS p l 0)∧st'=st):=by
 refine wF [1000000] 2 func259 ntmps259 rfl rfl ?_
 intro _
 simp -implicitDefEqProofs only[aB,seval,a2T]
 refine dL (σ:=Unit) [1000000] [0,1,7] l (fun i _=>nS p (l.drop i) i=nS p l 0) (fun i _=>[(8,.int .i64 i)]) (fun _ _=>st) (by decide +kernel) ⟨(),rfl,aN.mk (by simp -implicitDefEqProofs only[aB,↓aY,seval])⟩ (fun i x _ hx hlt bB hdr hinv=>?_) (fun _ hge hinv=>?_)
 case refine_2=>
  simp -implicitDefEqProofs only[hge,aB,seval]
  rw[←hinv,gT]
  try rfl
 rw[hdr,nS] at hinv
 have hw:=bG (n:=(i:Int)+1)
 have hat:=kE (P:=prog) (t:=46) (b:=b) (w:=1) cW hlt
 rw[uM] at hat
 have hld:=aJL hb (hcs i x hx) rfl
 have hca:=hc x (cG hx)
 simp only[nv,gH,eU] at hld hca
 simp -implicitDefEqProofs only[bB,hat,hld,aB,seval]
 refine(hca).to ?_
 simp -implicitDefEqProofs only[aB,seval]
 refine aT (fun h=>?_) (fun h=>?_)
 · rw[aH h] at hinv
   simp -implicitDefEqProofs only[hinv,aB,seval]
 · rw[aG (by simp [h])] at hinv
   simp -implicitDefEqProofs only[hw,aB,seval]
   exact⟨(),by rw[←hinv],aN.mk (by simp -implicitDefEqProofs only[aB,seval])⟩
end Go.AW

namespace Go.AW
open Go.Proofs.Tryz
open Go.Shelf
set_option linter.unusedSimpArgs false
set_option linter.unusedVariables false
set_option maxRecDepth 100000
def aTQ:Go.Shelf.Ren:=⟨fun | 15=>187 | n=>n,fun | 22=>46 | 3=>3 | 4=>4 | n=>n,fun | n=>n⟩
theorem aTP:Go.Proofs.Lays2.n15 prog aTQ:={
 mixed:=by kernel_rfl
 f15:=func187.trans (gI some (by kernel_rfl))
 t3:=a7
 a3:=isAgg3
 z3:=sizeOf3
 v3:=zeroValue3
 t4:=cL
 a4:=isAgg4
 z4:=sizeOf4
 v4:=zeroValue4
 t22:=eY
 a22:=isAgg46
 z22:=sizeOf46
 v22:=zeroValue46
 i3:=by kernel_rfl }
def zJ(i:Nat):Value:=.int .i64 (i:Int)
theorem TT{h:bF}{st:aA}{b:Nat}:∀ {l:List Nat} {off:Nat},cX h st b off (l.map nv)→∀(j x:Nat),l[j]?=some x→cellAt h b (off+j)=some (zJ x)
 | [],_,_,j,x,e=>by simp at e
 | a::l,off,v,0,x,e=>by
  simp only[A5,Option.some.injEq] at e
  subst e
  obtain⟨⟨cs,c1,c2,c3⟩,_⟩:=v
  have c3:cs= [zJ a]:=c3
  subst c3
  exact c1.1
 | a::l,off,v,j+1,x,e=>by
  rw[A4] at e
  have:=TT v.2 j x e
  rwa [show(nv a).width=1 from rfl,yH,Nat.add_comm 1 j] at this
theorem TR{h:bF}{st:aA}:∀l:List Nat,aZ h st (l.map nv) (l.map zJ)
 | []=>rfl
 | a::l=>⟨zJ a,l.map zJ,rfl,rfl,TR l⟩
theorem aZO(l:List Nat)(hl:l≠[])(h9:l.length≤1048576)(st:aA):aD prog 187 [.slice (l.map nv)] st (fun r st'=>∃b,st b=none∧r=.mslice b 0 l.length 1∧st'=st.aC b (.cells (l.map nv))):=by
 refine⟨⟨_,func187,rfl,by kernel_rfl⟩,fun w vs S V=>?_⟩
 obtain⟨v,r,rfl,v1,v2⟩:=V
 obtain rfl:r= []:=v2
 have hne:l.map nv≠[]:=by simpa using hl
 obtain⟨hag,hv⟩:=v1
 unfold VC at hv
 rcases hv with ⟨_,h⟩ | ⟨b,off,cap,e1,e2,e3,e4,e5,e6,e7⟩
 · exact absurd h hne
 obtain rfl:v=.slice (some ⟨b,off,none⟩) (l.map nv).length cap:=by
  cases v<;>first | exact absurd hag Bool.false_ne_true | simp_all [Value.cells]
 rw[aE]
 have gM:∀j,j<(l.map fun i:Nat=>(i:Int)).length→w.cell? ⟨b,off+j,none⟩=some (.int .i64 ((l.map fun i:Nat=>(i:Int)).getD j 0)):=fun j hj=>by
  rw[aE] at hj
  have h1:=TT e7 j l[j] (dZ hj)
  unfold cellAt at h1
  unfold World.cell?
  simp only[TG,kS,dZ hj,oB,D6]
  split at h1
  · rename_i hb;rw[hb];exact h1
  · cases h1
 refine(Go.Proofs.Any.slices_Clone_int aTP b off l.length cap (l.map fun i:Nat=>(i:Int)) w (by rw[aE];omega) (by omega) gM).mono ?_
 rintro e w' ⟨v',rfl,⟨_,ho⟩,hnn,hB⟩
 rcases ho with ⟨h,_⟩ | ⟨g,aTA,cur,rfl,h1,h2,h3,h4,h5,h6⟩
 · exact absurd h hnn
 have X:Ext w.heap w'.heap:=⟨hB.size,hB.block⟩
 have hg:st g=none:=by
  cases hs:st g with
  | none=>rfl
  | some o=>exact absurd (S g o hs).1 (by omega)
 have hgl:g<w'.heap.size:=(DW.1 h2).1
 have T:bU w.heap st w'.heap (st.aC g (.cells (l.map nv))):=⟨hB.size,fun y hy hn=>⟨hB.block y hy,by rw[aA.aF _ _ (by omega)];exact hn⟩,(X.step st).shape⟩
 have h7:(l.map fun i:Nat=>(i:Int)).take l.length=l.map fun i:Nat=>(i:Int):=mY (by rw[aE];omega)
 rw[uM] at h5 h6
 rw[h7,r8] at h6
 have hvs:(l.map zJ)=(cur.toList.drop 0).take l.length:=by rw[r0,h6];try rfl
 refine⟨_,.mslice g 0 l.length 1,st.aC g (.cells (l.map nv)),rfl,⟨rfl,aTA,rfl,h3,h4,cur,_,h2,by omega⟩,fun y o e=>?_,T,⟨hB.os,hB.tape,hB.output⟩,g,hg,rfl,rfl⟩
 by_cases hy:y=g
 · subst hy
   rw[aA.aJ] at e
   cases e
   exact⟨hgl,cur,_,h2,by rw[aE];omega,l.map zJ,by rw[hvs];exact yT h2 _ 0 (by omega),TR l⟩
 · rw[aA.aF _ _ hy] at e
   obtain⟨p1,p2⟩:=S y o e
   exact⟨yI p1 hB.size,kL.mono T (hB.block y p1) p2⟩
end Go.AW

namespace Go.AW
open Go.Proofs.Tryz
theorem aTN{P:Program}{t:TypeId}{ag:Bool}{sz b off n:Nat}{zs cs:List AV}{st:aA}{K:AV→aA→Prop}(hI:eI P t=some (ag,sz))(hZ:eZ P t=some zs)(h0:sz≠0)(hz:zs.length=sz)(hst:zs.all AV.storable=true)(hb:st b=some (.cells cs))(eL:off+n*sz≤cs.length)
 (hK:K (.tup []) (st.aC b (.cells (aP cs off (jB zs n))))):uP P t st (.mslice b off n sz) K:=by
 unfold uP
 rw[hI,hZ]
 simp only[hb]
 exact⟨trivial,h0,hz,hst,eL,hK⟩
theorem a1D{cs:List AV}{i:Nat}{x:List AV}(h:i≤cs.length):(aP cs i x).take i=cs.take i:=by
 unfold aP
 rw[kK,D5 (by rw[dI];omega)]
theorem a1E{cs:List AV}{i:Nat}{x:AV}(h:i<cs.length):(aP cs i [x]).take (i+1)=cs.take i++ [x]:=by
 unfold aP
 rw[D5 (by rw[dP,dI,a8,bL];omega)]
theorem a1C{cs:List AV}{i:Nat}{x:List AV}(h:i+x.length≤cs.length):(aP cs i x).length=cs.length:=by
 unfold aP
 simp only[dP,dI,nH]
 omega
theorem set_drop{cs:List AV}{i j:Nat}{x:AV}(h:i<cs.length)(hj:i<j):(aP cs i [x]).drop j=cs.drop j:=by
 unfold aP
 rw[List.drop_append,D0 (by rw[dP,dI,a8,bL];omega),eU,DZ]
 congr 1
 rw[dP,dI,a8,bL]
 omega
structure TE (l:List Nat) (p:Nat→Bool) (i j:Nat) (W:List AV):Prop where
 lt:i<j
 le:j≤l.length
 len:W.length=l.length
 head:W.take i=((l.take j).filter fun x=> !p x).map nv
 hlen:i=((l.take j).filter fun x=> !p x).length
 tail:W.drop j=(l.drop j).map nv
abbrev aMH:=zi tI_3 (zi zI_3 (zi a7 (zi tI_4 (zi zI_4 (zi cL (zi tI_46 (zi zI_46 (zi cW (zi eJ (zi eF eY))))))))))
theorem aZP(l:List Nat)(g:FuncId)(cY:List AV)(p:Nat→Bool)(b:Nat)(h9:l.length≤1048576)(st:aA)(hb:st b=some (.cells (l.map nv)))(hc:∀x∈l,∀cs,aD prog g ([nv x]++cY) (st.aC b (.cells cs)) (fun r st'=>r=.bool (p x)∧st'=st.aC b (.cells cs))) :
 aD prog 186 [.mslice b 0 l.length 1,.func g cY] st (fun r st'=>∃W,r=.mslice b 0 (l.filter fun x=> !p x).length 1∧st'=st.aC b (.cells W)∧W.take (l.filter fun x=> !p x).length=(l.filter fun x=> !p x).map nv):=by
 have hst:st.aC b (.cells (l.map nv))=st:=by
  funext y
  simp only[aA.aC]
  split
  · rename_i h;rw[h,hb]
  · rfl
 have PN:=aZQ l g cY p b (l.map nv) h9 st hb (fun i x h=>by simp [h]) (fun x hx=>by have:=hc x hx (l.map nv);rwa [hst] at this)
 refine wF [1000000] 2 func186 ntmps186 rfl rfl ?_
 intro _
 simp -implicitDefEqProofs only[aB,seval]
 refine(PN).to ?_
 simp -implicitDefEqProofs only[aB,seval]
 rcases P5 p l 0 (by omega) with ⟨h1,h2⟩ | ⟨j0,x0,h1,h2,h3,h4,h5⟩
 · have dC:(l.filter fun x=> !p x)=l:=List.filter_eq_self.2 fun a ha=>by
    have:=List.any_eq_false.1 h2 a ha
    simpa using this
   rw[h1,dC]
   simp -implicitDefEqProofs only[aB,seval]
   exact⟨l.map nv,hst.symm,by rw[mY (by rw[aE];exact cO _)]⟩
 have hj:j0<l.length:=(eE.1 h2).1
 have hf0:((l.take (j0+1)).filter fun x=> !p x)=l.take j0:=by
  rw[eH,h2,List.filter_append]
  simp only[HP,List.filter_cons,h3,mC,jF,cS,List.filter_nil,fA]
  refine List.filter_eq_self.2 fun a ha=>?_
  obtain⟨k,hk⟩:=yC ha
  rw[List.getElem?_take] at hk
  split at hk
  · rename_i h;rw[h5 k a h hk];try rfl
  · cases hk
 have hI0:TE l p j0 (j0+1) (l.map nv):=⟨by omega,by omega,by rw[aE],by rw[hf0,D3],by rw[hf0,dI];omega,by rw[yE]⟩
 rw[h1,Int.zero_add]
 have hn1:((j0:Int)= -1)=False:=eq_false (by omega)
 have hw0:=bG (n:=(j0:Int)+1)
 simp -implicitDefEqProofs only[hn1,hw0,gB,aB,seval]
 refine pC (σ:=Nat×Nat×List AV) [1000000] [0,1,4] (fun x=>TE l p x.1 x.2.1 x.2.2) (fun x=>[(5,.int .i64 (x.1:Int)),(6,.int .i64 (x.2.1:Int))]) (fun x=>st.aC b (.cells x.2.2)) (fun x=>l.length - x.2.1) (by decide +kernel) ⟨(j0,j0+1,l.map nv),hI0,(by simp only[hst];exact aN.mk (by simp -implicitDefEqProofs only[aB,seval]))⟩ ?_
 rintro⟨i,j,W⟩ ⟨i1,i2,i3,i4,i5,i6⟩
 simp only at i1 i2 i3 i4 i5 i6
 simp only
 simp -implicitDefEqProofs only[aB,seval,aMH]
 refine aT (fun h=>?_) (fun h=>?_)
 · have hlt:j<l.length:=by simp at h;omega
   obtain⟨x,hx⟩:∃x,l[j]?=some x:=⟨_,dZ hlt⟩
   have hWj:W[j]?=some (nv x):=by
    have e:(W.drop j)[0]?=((l.drop j).map nv)[0]?:=by rw[i6]
    simpa [hx] using e
   have hat:=kE (P:=prog) (t:=46) (b:=b) (w:=1) cW hlt
   have y8:=kE (P:=prog) (t:=46) (b:=b) (w:=1) (i:=i) (len:=l.length) cW (by omega)
   rw[uM] at hat y8
   have hld:=aJL (st:=st.aC b (.cells W)) (aA.aJ _ _ _) hWj rfl
   have hca:=hc x (cG hx) W
   simp only[nv,gH,eU] at hld hca
   have hw:=bG (n:=(j:Int)+1)
   have hw2:=bG (n:=(i:Int)+1)
   simp -implicitDefEqProofs only[hat,hld,aB,seval]
   refine(hca).to ?_
   simp -implicitDefEqProofs only[aB,seval]
   have htl:(l.take (j+1)).filter (fun x=> !p x)=(l.take j).filter (fun x=> !p x)++(if p x=false then[x] else[]):=by
    rw[eH,hx,List.filter_append]
    congr 1
    cases hp:p x<;>simp [hp]
   have hdr:∀V:List AV,V.drop j=W.drop j∨V.drop (j+1)=W.drop (j+1)→V.drop (j+1)=(l.drop (j+1)).map nv:=fun V hV=>by
    have e:W.drop (j+1)=(l.drop (j+1)).map nv:=by rw[←DZ,i6,←yE,DZ]
    rcases hV with hV | hV
    · rw[←DZ,hV,DZ,e]
    · rw[hV,e]
   refine aT (fun h7=>?_) (fun h7=>?_)
   · have hp:p x=false:=by simpa using h7
     rw[aH hp] at htl
     simp -implicitDefEqProofs only[y8,hw,hw2,aA.aJ,eA,aB,seval,aMH]
     have hil:i<W.length:=by omega
     refine⟨by omega,(i+1,j+1,aP W i [nv x]),by simp only;omega,⟨by simp only;omega,by simp only;omega,by rw[a1C (by simp only[a8,bL];omega)];exact i3,by simp only;rw[a1E hil,htl,i4,mX];try rfl,by simp only;rw[htl,dP,a8,bL,←i5],hdr _ (.inr (set_drop hil (by omega)))⟩,aN.mk (by simp -implicitDefEqProofs only[aB,seval])⟩
   · have hp:p x=true:=by simpa using h7
     rw[aG (by simp [hp]),fA] at htl
     simp -implicitDefEqProofs only[hw,aB,seval]
     refine⟨(i,j+1,W),by simp only;omega,⟨by simp only;omega,by simp only;omega,i3,by simp only;rw[htl];exact i4,by simp only;rw[htl];exact i5,hdr W (.inl rfl)⟩,aN.mk (by simp -implicitDefEqProofs only[aB,seval])⟩
 · have hge:j=l.length:=by simp at h;omega
   subst hge
   rw[dQ] at i4 i5
   have hsl:∀(φ:AF) (y:Operand),φ.eval y=.int .i64 (i:Int)→fD prog φ 46 (.mslice b 0 l.length 1) (some y) none none=some (.mslice b i (l.length - i) 1):=fun φ y hy=>by
    unfold fD
    rw[aG (by simp [nT])]
    simp only[mF,cW,dB,hy]
    rw[aH (by constructor<;>omega)]
    simp only[jV]
    by_cases h0:i=0
    · simp [h0]
    · simp [h0,i1]
   have hsh:∀(φ:AF) (y:Operand),φ.eval y=.int .i64 (i:Int)→fD prog φ 46 (.mslice b 0 l.length 1) none (some y) none=some (.mslice b 0 i 1):=fun φ y hy=>by
    unfold fD
    rw[aG (by simp [nT])]
    simp only[mF,cW,dB,hy]
    rw[aH (by constructor<;>omega)]
    simp
   simp -implicitDefEqProofs only[hsl,aB,seval]
   refine aTN cW eF (by decide) rfl rfl (aA.aJ _ _ _) (by omega) ?_
   rw[eA]
   simp -implicitDefEqProofs only[hsh,aB,seval]
   refine⟨aP W i (jB [.int .i64 0] (l.length - i)),by rw[←i5],rfl,?_⟩
   rw[←i5,a1D (by omega)]
   exact i4
abbrev aMJ:=zi tI_3 (zi zI_3 (zi a7 (zi tI_4 (zi zI_4 (zi cL (zi tI_9 (zi zI_9 (zi d9 (zi tI_29 (zi zI_29 (zi eP (zi gO (zi gP (zi gV (zi tI_66 (zi zI_66 (zi b9 (zi cA (zi cB (zi cC (zi bZ (zi tI_84 (zi zI_84 (zi lB (zi lC kV)))))))))))))))))))))))))
theorem aQ3{p:List Cl}(hp:∀c∈p,fQ c∧c.2.length≤6)(key:ByteArray)(x:Nat)(hx:x<p.length)(st:aA)(hT:st sX=some vS):aD prog 188 [nv x,.pptr (.slice (p.map bK)),.pptr (.str key)] st (fun r st'=>r=.bool (!CC p key x)∧st'=st):=by
 obtain⟨c,hc⟩:∃c,p[x]?=some c:=⟨_,dZ hx⟩
 have hat:=bH (av:=bK) (P:=prog) eP hc (gA c)
 have hck:=VA (hp c (cG hc)).1.head st hT
 have hF:CC p key x=JO (xI c.1) key:=by unfold CC;rw[hc]
 rw[hF]
 obtain⟨⟨k,n,s',ts⟩,bd⟩:=c
 rw[m7] at hat
 simp only[bA] at hck
 simp only[nv]
 refine wF [1000000] 3 func188 ntmps188 rfl rfl ?_
 intro _
 simp -implicitDefEqProofs only[aB,seval]
 refine yQ mixed (by decide +kernel) (by decide +kernel) ?_
 simp -implicitDefEqProofs only[hat,aB,seval,aMJ]
 refine kC hck ?_
 simp -implicitDefEqProofs only[aB,seval,aMJ]
 refine kC (aQ7 _ key _) ?_
 simp -implicitDefEqProofs only[aB,seval]
abbrev aMI:=zi tI_9 (zi zI_9 (zi d9 (zi tI_29 (zi zI_29 (zi eP (zi gO (zi gP (zi gV (zi tI_46 (zi zI_46 (zi cW (zi eJ (zi eF (zi eY (zi tI_66 (zi zI_66 (zi b9 (zi cA (zi cB (zi cC bZ))))))))))))))))))))
theorem aQ2{p:List Cl}(hp:∀c∈p,fQ c∧c.2.length≤6){N:Int}{t:Tm}(ht:bD N t)(l:List Nat)(hl:l≠[])(hlt:∀i∈l,i<p.length)(h9:l.length≤1048576)(st:aA)(hT:st sX=some vS):aD prog 104 [.slice (p.map bK),.slice (l.map nv),t.av] st (fun r st'=>r=.slice ((sK p t l).map nv)∧st'=st):=by
 refine aD.freeze (aD.cut ?_)
 have hk:=VA ht st hT
 have hcl:=aZO l hl h9 st
 have xD:(l.filter fun x=> !(!CC p (xI t) x))=sK p t l:=by unfold sK;simp only[Bool.not_not]
 generalize hkt:xI t=key at *
 obtain⟨tk,tn,ts',tts⟩:=t
 simp only[bA] at hk ⊢
 refine wF [1000000] 3 func104 ntmps104 rfl rfl ?_
 intro _
 simp -implicitDefEqProofs only[aB,seval,aMI]
 refine(hk).to ?_
 simp -implicitDefEqProofs only[aB,↓aY,seval,aMI]
 refine(hcl).mono ?_
 rintro _ _ ⟨b,hb,rfl,rfl⟩
 simp -implicitDefEqProofs only[aB,seval]
 have hb0:sX≠b:=by rintro rfl;rw[hT] at hb;cases hb
 have aWA:=aZP l _ [.pptr (.slice (p.map bK)),.pptr (.str key)] (fun i=> !CC p key i) b h9 (st.aC b (.cells (l.map nv))) (aA.aJ _ _ _) (fun x hx cs=>aQ3 hp key x (hlt x hx) _ (by rw[eA,aA.aF _ _ hb0];exact hT))
 refine(aWA).mono ?_
 rintro _ _ ⟨W,rfl,rfl,hW⟩
 rw[xD] at hW ⊢
 simp -implicitDefEqProofs only[aB,seval]
 have hfl:∀L:List Nat,(L.map nv).flatMap AV.cells=L.map nv:=fun L=>by
  induction L with
  | nil=>rfl
  | cons a L ih=>simp only[bR,pF,ih];rfl
 refine⟨b,W,_,aA.aJ _ _ _,b,_,by rw[aA.aJ,hW,hfl],fun e he=>?_,⟨1,QG _⟩,by simp [AV.fz],by rw[eA,aA.yX _ _ _ hb]⟩
 simp only[bY] at he
 obtain⟨_,_,rfl⟩:=he
 rfl
def D8(st0 st':aA)(S c m:Nat)(p:List Cl)(q:List Tm)(idx:Bool)(fuel used:Int)(r:AV):wD→Prop
 | .go i'=>r=.int .i64 (-1)∧∃qt qc qn mx nd,dA st0 st' S c m qt qc qn p q idx fuel used mx nd i'
 | .fail i'=>TD st0 st' S c m p q idx fuel used r (gE p i'.chs.length i')
 | .stop e=>r=.int .i64 e∧∃qt qc qn mx nd i',dA st0 st' S c m qt qc qn p q idx fuel used mx nd i'
def MN(p:List Cl)(idx:Bool)(cnd:Tm→List Nat→List Nat):Prop:=cnd=if idx=true then sK p else fun _ l=>l
theorem aYC(yn:Int)(ys:ByteArray)(yts:List Tm)(st:aA):aD prog 122 [(Tm.mk 3 yn ys yts).av] st (fun r st'=>r=.bool (q9 (.mk 3 yn ys yts))∧st'=st):=by
 have h:=VL 3 yn ys yts st
 have e:(decide ((3:Int)=3)&&decide ((yts.length:Int)=0)&&decide (ys=⟨#[33]⟩))=q9 (.mk 3 yn ys yts):=by
  rw[x9]
  simp [q9,Tm.k,Tm.s,Tm.ts,and_comm]
  exact fun _=>⟨fun h=>tN h,fun h=>of_decide_eq_true h⟩
 rw[e] at h
 exact h
theorem aYB(yn:Int)(ys:ByteArray)(yts:List Tm)(st:aA):aD prog 121 [(Tm.mk 3 yn ys yts).av] st (fun r st'=>r=.bool (isBuiltin ys (yts.length:Int))∧st'=st):=by
 have h:=NS 3 yn ys yts st
 rw[show(decide ((3:Int)=3)&&isBuiltin ys (yts.length:Int))=isBuiltin ys (yts.length:Int) from rfl] at h
 exact h
abbrev lG:=zi tI_3 (zi zI_3 (zi a7 (zi tI_4 (zi zI_4 (zi cL (zi tI_29 (zi zI_29 (zi eP (zi gO (zi gP (zi gV (zi tI_46 (zi zI_46 (zi cW (zi eJ (zi eF (zi eY (zi tI_66 (zi zI_66 (zi b9 (zi cA (zi cB (zi cC (zi bZ (zi tI_174 (zi zI_174 (zi tI_199 (zi zI_199 (zi OF (zi OG (zi NN (zi tI_227 (zi zI_227 (zi tI_256 (zi zI_256 (zi tI_257 (zi zI_257 (zi yV (zi I2 (zi I6 (zi SY (zi tI_258 (zi zI_258 (zi B3 (zi I3 (zi I7 (zi SZ (zi tI_260 (zi zI_260 (zi E7 (zi E8 (zi FB (zi FC (zi FD (zi FF (zi FG (zi FH (zi FI (zi FJ (zi E9 (zi FA (zi EP (zi tI_321 (zi zI_321 (zi aG9 (zi aHA (zi aHB (zi aHC (zi UT (zi tI_324 (zi zI_324 (zi aHD (zi aHE (zi aHF UU))))))))))))))))))))))))))))))))))))))))))))))))))))))))))))))))))))))))))
set_option maxHeartbeats 2000000 in
theorem aSY{p:List Cl}(hp:∀c∈p,fQ c∧c.2.length≤6)(hpl:p.length≤20){cnd:Tm→List Nat→List Nat}(hc:∀(ρ:Int→Int) (t:Tm) (l:List Nat),cnd (bT ρ t) l=cnd t l)(hd:∀t l,(∀i∈cnd t l,i∈l)∧(cnd t l).length≤l.length){idx:Bool}(xD:MN p idx cnd)
 {B M k:Nat} (hB:B+26≤524288) (hM:M+520≤16777216) (hk:k+1≤524288) {st0 st:aA} {S c m:Nat} {qt qc qn:AV} {q:List Tm} {fuel used:Int} {mx:Int} {nd:List AV} {s:RS} {i:IS} {g:IG} {rest:List IG}
 (xF:idx=true→st0 sX=some vS) (h:dA st0 st S c m qt qc qn p q idx fuel used mx nd i) (hR:RI p B M k s i) (hg:i.goals=g::rest) (hu0:0≤used) (hu:used≤1000000) :
 aD prog 243 [.ptr S 0] st (fun r st'=>if used=fuel then r=.int .i64 2∧dA st0 st' S c m qt qc qn p q idx fuel used mx nd i else D8 st0 st' S c m p q idx fuel (used+1) r (lL p cnd i g rest)):=by
 have hp1:=fun c h=>(hp c h).1
 obtain⟨hgd,ho,hcl,_⟩:=hR.r.facts
 obtain⟨hgo,hg3,_⟩:=hR.r.goal hg
 have hct:=hR.cut hg
 have hst:=hR.step hp hpl hc hd hB hg
 have a56:=hR.oI
 have hnn:=hR.n
 have hX:=hR.x
 obtain⟨rk,D,G⟩:=hgd.rs
 have hfo:=JP hgd ho hgo
 have hyk:(g.t.aK (rs i.σ)).k=3:=by rw[Tm.rJ _ (by omega)];exact hg3
 have zE:=WB G (ho.imp fun t ht=>ht.1.2.1) (ho.imp fun t ht=>ht.1.small) c m qt g.t hgo.1.2.1 hgo.1.small
 generalize hT:lL p cnd i g rest=T at *
 unfold lL at hT
 obtain⟨⟨gk,gn,gs',gts⟩,cut,up⟩:=g
 simp only at hgo hg3 hct hfo hyk zE hT
 generalize (Tm.mk gk gn gs' gts).aK (rs i.σ)=y at *
 obtain⟨yk,yn,ys,yts⟩:=y
 obtain rfl:yk=3:=hyk
 simp only[Tm.s,Tm.ts] at hT
 have gM:=h.cell
 rw[hg,sO] at gM
 simp only[gS] at gM
 obtain⟨t1,t2,t3,t4,t5⟩:=h.sto.shape
 obtain⟨n1,n2,n3,n4,n5⟩:=h.acC.shape
 obtain⟨m1,m2,m3,m4,m5⟩:=h.acN.shape
 obtain⟨l1,l2,l3,l4,l5,l6⟩:=oM rest
 refine aD.oJ ?_
 refine wF [1000000] 1 func243 ntmps243 rfl rfl ?_
 intro _
 simp -implicitDefEqProofs only[aB,seval]
 refine wX [(0,1),(1,1),(2,1),(3,1),(4,1),(5,1),(6,1),(7,1),(8,1)] [0,1,2,3,4,5,6,7,8] _ mixed rfl (g8 gM) ?_
 simp -implicitDefEqProofs only[vP,aB,seval,lG]
 refine aT (fun h1=>?_) (fun h1=>?_)
 · have h1':used=fuel:=by simpa using h1
   simp -implicitDefEqProofs only[aB,seval]
   exact⟨st,aM.refl _,by rw[aH h1'];exact h⟩
 have h1':used≠fuel:=by simpa using h1
 have hw:=bG (n:=used+1)
 simp -implicitDefEqProofs only[aP,gM,hw,aA.aJ,aB,seval,lG]
 have h2:=h.put (gl:=i.goals) (F:=i.fresh) (fuel':=fuel) (used':=used+1) (mx':=mx) rfl
 rw[hg,sO] at h2
 simp only[gS] at h2
 generalize aA.aC st S _=V at h2 ⊢
 have rH:=h2.cell
 rw[sO] at rH
 simp only[gS] at rH
 have hSV:=h2.sto
 have hr:=fun(s2:aA) (hs2:fJ V s2)=>zE s2 ⟨hs2 _ _ hSV.sub.cells,hs2 _ _ hSV.sub.map⟩
 unfold KN at hr
 by_cases hf:eK (.mk 3 yn ys yts)=true
 case neg=>
  rw[aG (by unfold eK at hf;simpa using hf)] at hr
  rw[aH (by simpa using hf)] at hT
  subst hT
  simp only[bA,Tm.zero,bQ] at hr
  refine wX [(0,1),(1,1),(2,1),(3,1),(4,1),(5,1),(6,1),(7,1),(8,1),(9,1),(10,1),(11,1),(12,0),(13,0),(14,1)] [0,1,2,3,4,5,6,7,8,9,10,11,14] V mixed rfl (fJ.refl V) ?_
  simp -implicitDefEqProofs only[rH,aB,seval,lG]
  refine WL hr ?_
  simp -implicitDefEqProofs only[aP,aA.aJ,aB,seval,lG]
  exact fun b hb=>⟨JD hb,JD hb,V,(aM.refl _).aC hb,by rw[aG h1'];exact⟨rfl,_,_,_,_,_,_,h2⟩⟩
 rw[aH (by unfold eK at hf;simpa using hf)] at hr
 rw[aG (by rw[hf];simp)] at hT
 have hyo:=hfo hf
 simp only[bA] at hr
 have PY:prog.underlying 258=some (.slice 324):=by kernel_rfl
 refine wX [(0,1),(1,1),(2,1),(3,1),(4,1),(5,1),(6,1),(7,1),(8,1),(9,1),(10,1),(11,1),(12,0),(13,0),(14,1)] [0,1,2,3,4,5,6,7,8,9,10,11,14] V mixed rfl (fJ.refl V) ?_
 simp -implicitDefEqProofs only[rH,aB,seval,lG]
 refine WL hr ?_
 simp -implicitDefEqProofs only[aP,aA.aJ,aB,seval,lG]
 intro b4 h4
 refine⟨JD h4,JD h4,?_⟩
 have h40:=h2.aHW h4
 have aI2:idx=true→(st0.aC b4 (.cells [AV.int IntKind.i64 3,AV.int IntKind.i64 yn,AV.str ys,AV.slice (List.map Tm.av yts)])) sX=some vS:=fun hi=>by
  rw[aA.aF _ _ (by intro e;rw[←e,xF hi] at h40;cases h40)]
  exact xF hi
 have JU:S≠b4:=by rintro rfl;rw[rH] at h4;cases h4
 have h3:=h2.box (o:=.cells [AV.int IntKind.i64 3,AV.int IntKind.i64 yn,AV.str ys,AV.slice (List.map Tm.av yts)]) h4
 have FR:(st0.aC b4 (.cells [AV.int IntKind.i64 3,AV.int IntKind.i64 yn,AV.str ys,AV.slice (List.map Tm.av yts)])) b4=some (.cells [AV.int IntKind.i64 3,AV.int IntKind.i64 yn,AV.str ys,AV.slice (List.map Tm.av yts)]):=aA.aJ _ _ _
 have hun:=fun {st' qt qc qn q idx fuel used mx nd i}=>dA.unbox (st0:=st0) (st:=st') (S:=S) (c:=c) (m:=m) (qt:=qt) (qc:=qc) (qn:=qn) (p:=p) (q:=q) (idx:=idx) (fuel:=fuel) (used:=used) (mx:=mx) (nd:=nd) (i:=i) (b:=b4) (o:=.cells [AV.int IntKind.i64 3,AV.int IntKind.i64 yn,AV.str ys,AV.slice (List.map Tm.av yts)]) (hn:=h40)
 generalize V.aC b4 (.cells [AV.int IntKind.i64 3,AV.int IntKind.i64 yn,AV.str ys,AV.slice (List.map Tm.av yts)])=W at h3 ⊢
 generalize st0.aC b4 (.cells [AV.int IntKind.i64 3,AV.int IntKind.i64 yn,AV.str ys,AV.slice (List.map Tm.av yts)])=W0 at h3 FR hun aI2
 clear rH hSV hr h2
 have CI:=h3.cell
 rw[sO] at CI
 simp only[gS] at CI
 have hbW:=h3.aU b4 _ FR
 have hlN:=h3.acN.len PY
 rw[h3.ndl] at hlN
 simp only at hlN
 simp -implicitDefEqProofs only[CI,hlN,m1,aB,seval]
 obtain⟨s0,z1,z2,z3⟩:=MB JU _ _
 refine wX [(0,1),(1,1),(2,1),(3,1),(4,1),(5,1),(6,1),(7,1),(8,1),(9,1),(10,1),(11,1),(12,0),(13,1),(14,1),(15,2)] [0,1,2,3,4,5,6,7,8,9,10,11,13,14] s0 mixed rfl (z3 _ CI hbW) ?_
 simp -implicitDefEqProofs only[z1,z2,m1,aB,seval,lG]
 refine fH.append B3 I3 I7 rfl (by decide) h3.acN rfl rfl (by rw[h3.ndl];simp only;omega) (fun qn5 s5 gK hf hn=>?_)
 have hbo:b4∉iN S c m qt qc qn:=fun hm=>by have:=h3.new b4 hm;rw[FR] at this;cases this
 have hold:∀y o,W y=some o→y∉aS qn→s5 y=some o:=fun y o hy hq=>by
  rw[hf y hq fun hq'=>by
   rcases hn y hq' with h' | h'
   · exact hq h'
   · rw[hy] at h';cases h']
  exact hy
 have sP:=hold S _ CI h3.parts.2.2.2.2.2.1
 have hb5:=hold b4 _ hbW fun hm=>hbo (dY.2 (.inr (.inr (.inr (.inr (.inr hm))))))
 obtain⟨m1,m2,m3,m4,m5⟩:=gK.shape
 simp -implicitDefEqProofs only[aP,sP,m4,m5,aB,seval,lG]
 refine⟨z3 _ sP hb5,?_⟩
 have h5:=h3.a0D (n':=i.nn+1) gK (by rw[dP,h3.ndl];try rfl) (fun e he=>by
  rcases dS.1 he with he | he
  · exact h3.ndw e he
  · simp only[cQ,dD,dN] at he;subst he;rfl) hf hn rfl
 rw[sO] at h5
 simp only[gS] at h5
 generalize aA.aC s5 S _=W5 at h5 ⊢
 clear sP hb5 hold hf hn CI hbW
 have j9:=h5.cell
 rw[sO] at j9
 simp only[gS] at j9
 have hb6:=h5.aU b4 _ FR
 have aIM:=aYC yn ys yts
 have aIF:=aYB yn ys yts
 simp only[bA] at aIM aIF
 simp -implicitDefEqProofs only[hb6,aB,seval]
 refine(aIM _).to ?_
 simp -implicitDefEqProofs only[aB,seval]
 refine aT (fun hcu=>?_) (fun hcu=>?_)
 · simp only[hcu,dX] at hT
   subst hT
   simp -implicitDefEqProofs only[j9,aB,seval,lG]
   have hsl:=fun(φ:AF) (dd:Nat) (h:φ dd=.int .i64 (cut:Int))=>aLL yV h5.acC h (by rw[aE];exact hct)
   have hQ:=(h5.acC.take (k:=cut) (by rw[aE];exact hct) (P0 _)).shape
   obtain⟨c1,c2,c3,c4,c5⟩:=hQ
   obtain⟨s1,y1,y2,y3⟩:=MB JU _ _
   refine wX [(0,1),(1,1),(2,1),(3,1),(4,1),(5,1),(6,1),(7,1),(8,1),(9,1),(10,1),(11,1),(12,2)] [0,1,2,3,4,5,6,7,8,9,10,11] s1 mixed rfl (y3 _ j9 hb6) ?_
   simp -implicitDefEqProofs only[aP,y1,j9,hsl,c4,c5,n1,l1,l2,l4,l5,aA.aJ,aB,seval,lG]
   refine⟨_,aM.refl _,?_⟩
   rw[aG h1']
   have h6:=h5.WX (k:=cut) (gl:=rest) hct rfl
   exact⟨rfl,_,_,_,_,_,hun h6⟩
 simp only[hcu,jF,cS] at hT
 simp -implicitDefEqProofs only[hb6,aB,seval,lG]
 refine(aIF _).to ?_
 simp -implicitDefEqProofs only[aB,seval]
 refine aT (fun hbl=>?_) (fun hbl=>?_)
 · simp only[hbl,dX] at hT
   have hks:∀x∈yts,bD i.fresh x:=p9 _ (.mk 3 yn ys yts) (show(3:Int)≠1 by decide) hyo
   have rG:=aQK hgd ho yn ys yts hbl hks c m qt i.tr W5 h5.sto (by have:=hX.SV;have:=hX.phi;omega)
   simp only[bA] at rG
   replace hT:(if(cZ i.σ ys yts).1=0 then wD.go { goals:=rest,σ:=(cZ i.σ ys yts).2.1,tr:=i.tr++(cZ i.σ ys yts).2.2,chs:=i.chs,fresh:=i.fresh,nn:=i.nn+1 } else if(cZ i.σ ys yts).1=1 then wD.fail { goals:=i.goals,σ:=(cZ i.σ ys yts).2.1,tr:=i.tr++(cZ i.σ ys yts).2.2,chs:=i.chs,fresh:=i.fresh,nn:=i.nn+1 } else wD.stop (oK (cZ i.σ ys yts).1))=T:=hT
   generalize xG:cZ i.σ ys yts=Z at rG hT
   obtain⟨code,σ',add⟩:=Z
   simp only at hT
   obtain⟨s1,y1,y2,y3⟩:=MB JU _ _
   refine wX [(0,1),(1,1),(2,1),(3,1),(4,1),(5,0),(6,1)] [0,1,2,3,4,6] s1 mixed rfl (y3 _ j9 hb6) ?_
   simp -implicitDefEqProofs only[y1,y2,aB,seval,lG]
   refine rG.mono ?_
   rintro _ s6 ⟨rfl,hP⟩
   obtain⟨qt6,h6⟩:=h5.post hP
   have m9:=h6.cell
   rw[sO] at m9
   simp only[gS] at m9
   have hb7:=h6.aU b4 _ FR
   obtain⟨t1,t2,t3,t4,t5⟩:=h6.sto.shape
   simp -implicitDefEqProofs only[aB,seval]
   refine⟨y3 _ m9 hb7,?_⟩
   refine aT (fun hc0=>?_) (fun hc0=>?_)
   · have O8:code=0:=by simpa using hc0
     rw[aH O8] at hT
     subst hT
     simp -implicitDefEqProofs only[aP,m9,l1,l2,l4,l5,aB,seval,lG]
     refine⟨_,aM.refl _,?_⟩
     rw[aG h1']
     exact⟨rfl,_,_,_,_,_,hun (h6.put (gl:=rest) (F:=i.fresh) (fuel':=fuel) (used':=used+1) (mx':=mx) rfl)⟩
   have O8:code≠0:=by simpa using hc0
   rw[aG O8] at hT
   simp -implicitDefEqProofs only[aB,seval]
   refine aT (fun hc1=>?_) (fun hc1=>?_)
   · have O9:code=1:=by simpa using hc1
     rw[aH O9] at hT
     subst hT
     simp only at hst
     rw[←hg] at h6
     have hbk:=IF hp (M:=M+520) (by omega) _ _ _ _ _ _ ({ goals:=i.goals,σ:=σ',tr:=i.tr++add,chs:=i.chs,fresh:=i.fresh,nn:=i.nn+1 }:IS) s.chs (T:=gE p (({ goals:=i.goals,σ:=σ',tr:=i.tr++add,chs:=i.chs,fresh:=i.fresh,nn:=i.nn+1 }:IS)).chs.length ({ goals:=i.goals,σ:=σ',tr:=i.tr++add,chs:=i.chs,fresh:=i.fresh,nn:=i.nn+1 }:IS)) ⟨h6,hst.1,hst.2.1,rfl,⟨by rw[hst.1.len];have:=hR.a.a.oI;omega,pH hst.2.2.1 (by omega)⟩⟩
     simp -implicitDefEqProofs only[aB,seval]
     refine hbk.mono ?_
     rintro r s7 hr
     simp -implicitDefEqProofs only[aB,seval]
     refine⟨s7,aM.refl _,?_⟩
     rw[aG h1']
     simp only[D8]
     cases hB2:gE p (({ goals:=i.goals,σ:=σ',tr:=i.tr++add,chs:=i.chs,fresh:=i.fresh,nn:=i.nn+1 }:IS)).chs.length ({ goals:=i.goals,σ:=σ',tr:=i.tr++add,chs:=i.chs,fresh:=i.fresh,nn:=i.nn+1 }:IS) with
     | none=>
      rw[hB2] at hr
      obtain⟨e1,qt7,qc7,qn7,mx7,nd7,i7,h7⟩:=hr
      exact⟨e1,_,_,_,_,_,_,hun h7⟩
     | some i7=>
      rw[hB2] at hr
      obtain⟨e1,qt7,qc7,qn7,mx7,nd7,h7⟩:=hr
      exact⟨e1,_,_,_,_,_,hun h7⟩
   have O9:code≠1:=by simpa using hc1
   rw[aG O9] at hT
   subst hT
   simp -implicitDefEqProofs only[aB,seval]
   refine(aQS code _).to ?_
   simp -implicitDefEqProofs only[aB,seval]
   refine⟨_,aM.refl _,?_⟩
   rw[aG h1']
   exact⟨rfl,_,_,_,_,_,_,hun h6⟩
 simp only[hbl,jF,cS] at hT
 have hpr:=WA 3 yn ys yts
 have hcf:=aQM p (.mk 3 yn ys yts) (by omega)
 simp only[bA,Tm.s,Tm.ts] at hpr hcf
 obtain⟨s1,y1,y2,y3⟩:=MB JU _ _
 simp -implicitDefEqProofs only[aB,seval]
 refine wX [(0,1),(1,1),(2,1),(3,1),(4,1),(5,0),(6,0),(7,1)] [0,1,2,3,4,7] s1 mixed rfl (y3 _ j9 hb6) ?_
 simp -implicitDefEqProofs only[y1,y2,aB,seval,lG]
 refine(hpr _).to ?_
 simp -implicitDefEqProofs only[aB,seval]
 refine⟨y3 _ j9 hb6,?_⟩
 refine(hcf _).to ?_
 simp -implicitDefEqProofs only[aE,aB,seval,lG]
 refine⟨y3 _ j9 hb6,?_⟩
 refine aT (fun hl0=>?_) (fun hl0=>?_)
 · have J3:d6 p (.mk 3 yn ys yts)= []:=by simpa using hl0
   rw[aH J3] at hT
   subst hT
   simp -implicitDefEqProofs only[aB,seval]
   refine⟨_,aM.refl _,?_⟩
   rw[aG h1']
   exact⟨rfl,_,_,_,_,_,_,hun h5⟩
 have J3:d6 p (.mk 3 yn ys yts)≠[]:=by simpa using hl0
 rw[aG J3] at hT
 have hfl:=aU8 p (.mk 3 yn ys yts)
 have h5':=h5
 rw[←hg] at h5'
 have CP:=fun(l:List Nat) (hl:∀i∈l,i<p.length) (h20:l.length≤p.length)=>WJ hp (M:=M+520) (by omega) h5' (.mk 3 yn ys yts) i.nn rest l hgd ho hyo hl (by omega) (by simp only;omega) (hX.up (Nat.le_add_right M 520)).node (by have:=hX.phi;simp only;omega) (by simp only;omega) (by simp only;omega)
 have eL:=fun st hT=>aQ2 hp hyo (d6 p (.mk 3 yn ys yts)) J3 (ON _ _) (by omega) st hT
 have hpW:=fun hi=>h5.aU sX _ (aI2 hi)
 have hds:=hd (.mk 3 yn ys yts) (d6 p (.mk 3 yn ys yts))
 simp only[bA] at CP eL
 obtain rfl:cnd=if idx=true then sK p else fun _ l=>l:=xD
 cases idx with
 | false=>
  simp only[jF,cS] at hT
  simp -implicitDefEqProofs only[j9,aB,seval,lG]
  have htr:=CP (d6 p (.mk 3 yn ys yts)) (ON _ _) (hfl)
  refine wX [(0,1),(1,1),(2,1),(3,1),(4,1),(5,1),(6,1),(7,1),(8,2)] [0,1,2,3,4,5,6,7] s1 mixed rfl (y3 _ j9 hb6) ?_
  simp -implicitDefEqProofs only[y2,l1,l2,aB,seval,lG]
  refine htr.mono ?_
  rintro _ s6 ⟨rfl,qt6,qc6,mx6,nd6,h6⟩
  simp -implicitDefEqProofs only[aB,seval]
  refine aT (fun ht0=>?_) (fun ht0=>?_)
  · simp only[ht0,dX] at hT
    subst hT
    simp -implicitDefEqProofs only[aB,seval]
    refine⟨_,aM.refl _,?_⟩
    rw[aG h1']
    exact⟨rfl,_,_,_,_,_,hun h6⟩
  simp only[ht0,jF,cS] at hT
  subst hT
  simp only at hst
  have hbk:=IF hp (M:=M+520) (by omega) _ _ _ _ _ _ (fE p (.mk 3 yn ys yts) i.nn rest (d6 p (.mk 3 yn ys yts)) { i with nn:=i.nn+1 }).2 s.chs (T:=gE p ((fE p (.mk 3 yn ys yts) i.nn rest (d6 p (.mk 3 yn ys yts)) { i with nn:=i.nn+1 }).2).chs.length (fE p (.mk 3 yn ys yts) i.nn rest (d6 p (.mk 3 yn ys yts)) { i with nn:=i.nn+1 }).2) ⟨h6,hst.1,hst.2.1,rfl,⟨by rw[hst.1.len];have:=hR.a.a.oI;omega,pH hst.2.2.1 (by omega)⟩⟩
  simp -implicitDefEqProofs only[aB,seval]
  refine hbk.mono ?_
  rintro r s7 hr
  simp -implicitDefEqProofs only[aB,seval]
  refine⟨s7,aM.refl _,?_⟩
  rw[aG h1']
  simp only[D8]
  cases hB2:gE p ((fE p (.mk 3 yn ys yts) i.nn rest (d6 p (.mk 3 yn ys yts)) { i with nn:=i.nn+1 }).2).chs.length (fE p (.mk 3 yn ys yts) i.nn rest (d6 p (.mk 3 yn ys yts)) { i with nn:=i.nn+1 }).2 with
  | none=>
   rw[hB2] at hr
   obtain⟨e1,qt7,qc7,qn7,mx7,nd7,i7,h7⟩:=hr
   exact⟨e1,_,_,_,_,_,_,hun h7⟩
  | some i7=>
   rw[hB2] at hr
   obtain⟨e1,qt7,qc7,qn7,mx7,nd7,h7⟩:=hr
   exact⟨e1,_,_,_,_,_,hun h7⟩
 | true=>
  simp only[eq_self,dX] at hT hds
  simp -implicitDefEqProofs only[j9,aB,seval,lG]
  refine wX [(0,1),(1,1),(2,1),(3,1),(4,1),(5,1),(6,0),(7,1)] [0,1,2,3,4,5,7] s1 mixed rfl (y3 _ j9 hb6) ?_
  simp -implicitDefEqProofs only[y1,y2,aB,seval,lG]
  refine(eL _ (hpW rfl)).to ?_
  simp -implicitDefEqProofs only[aB,seval]
  refine⟨y3 _ j9 hb6,?_⟩
  have htr:=CP (sK p (.mk 3 yn ys yts) (d6 p (.mk 3 yn ys yts))) ((fun x hx=>ON _ _ x (hds.1 x hx))) ((pH hds.2 hfl))
  refine wX [(0,1),(1,1),(2,1),(3,1),(4,1),(5,1),(6,1),(7,1),(8,2)] [0,1,2,3,4,5,6,7] s1 mixed rfl (y3 _ j9 hb6) ?_
  simp -implicitDefEqProofs only[y2,l1,l2,aB,seval,lG]
  refine htr.mono ?_
  rintro _ s6 ⟨rfl,qt6,qc6,mx6,nd6,h6⟩
  simp -implicitDefEqProofs only[aB,seval]
  refine aT (fun ht0=>?_) (fun ht0=>?_)
  · simp only[ht0,dX] at hT
    subst hT
    simp -implicitDefEqProofs only[aB,seval]
    refine⟨_,aM.refl _,?_⟩
    rw[aG h1']
    exact⟨rfl,_,_,_,_,_,hun h6⟩
  simp only[ht0,jF,cS] at hT
  subst hT
  simp only at hst
  have hbk:=IF hp (M:=M+520) (by omega) _ _ _ _ _ _ (fE p (.mk 3 yn ys yts) i.nn rest (sK p (.mk 3 yn ys yts) (d6 p (.mk 3 yn ys yts))) { i with nn:=i.nn+1 }).2 s.chs (T:=gE p ((fE p (.mk 3 yn ys yts) i.nn rest (sK p (.mk 3 yn ys yts) (d6 p (.mk 3 yn ys yts))) { i with nn:=i.nn+1 }).2).chs.length (fE p (.mk 3 yn ys yts) i.nn rest (sK p (.mk 3 yn ys yts) (d6 p (.mk 3 yn ys yts))) { i with nn:=i.nn+1 }).2) ⟨h6,hst.1,hst.2.1,rfl,⟨by rw[hst.1.len];have:=hR.a.a.oI;omega,pH hst.2.2.1 (by omega)⟩⟩
  simp -implicitDefEqProofs only[aB,seval]
  refine hbk.mono ?_
  rintro r s7 hr
  simp -implicitDefEqProofs only[aB,seval]
  refine⟨s7,aM.refl _,?_⟩
  rw[aG h1']
  simp only[D8]
  cases hB2:gE p ((fE p (.mk 3 yn ys yts) i.nn rest (sK p (.mk 3 yn ys yts) (d6 p (.mk 3 yn ys yts))) { i with nn:=i.nn+1 }).2).chs.length (fE p (.mk 3 yn ys yts) i.nn rest (sK p (.mk 3 yn ys yts) (d6 p (.mk 3 yn ys yts))) { i with nn:=i.nn+1 }).2 with
  | none=>
   rw[hB2] at hr
   obtain⟨e1,qt7,qc7,qn7,mx7,nd7,i7,h7⟩:=hr
   exact⟨e1,_,_,_,_,_,_,hun h7⟩
  | some i7=>
   rw[hB2] at hr
   obtain⟨e1,qt7,qc7,qn7,mx7,nd7,h7⟩:=hr
   exact⟨e1,_,_,_,_,_,hun h7⟩


abbrev aMK:=zi tI_3 (zi zI_3 (zi a7 (zi tI_46 (zi zI_46 (zi cW (zi eJ (zi eF (zi eY (zi tI_66 (zi zI_66 (zi b9 (zi cA (zi cB (zi cC bZ))))))))))))))
theorem aSM(vars:List Int)(n:Int)(st:aA):aD prog 219 [.int .i64 n,.pptr (.slice (vars.map iv))] st (fun r st'=>r=(vr (eQ n vars 0)).av∧st'=st):=by
 refine aD.done ?_
 refine wF [1000000] 2 func219 ntmps219 rfl rfl ?_
 intro _
 simp -implicitDefEqProofs only[aB,seval,aMK]
 intro b hb
 refine(U6 vars n _).to ?_
 simp -implicitDefEqProofs only[aB,seval]
 refine(N5 _ _).to ?_
 simp -implicitDefEqProofs only[aP,Tm.d5,Tm.fN,rO (Tm.fN _),qU (cE _),aB,seval,aMK]
 exact⟨Tm.soft _,(aM.refl _).aC hb⟩
abbrev R9:=zi tI_3 (zi zI_3 (zi a7 (zi tI_31 (zi zI_31 (zi aR (zi bO (zi bP (zi cF (zi tI_46 (zi zI_46 (zi cW (zi eJ (zi eF (zi eY (zi tI_66 (zi zI_66 (zi b9 (zi cA (zi cB (zi cC bZ))))))))))))))))))))
theorem aSL(l:List Tm)(hln:l.length≤1048576)(hsz:aL Tm.nodes l≤1099511627776)(hsm:∀t∈l,t.small=true)(st:aA):aD prog 148 [.slice (l.map Tm.av)] st (fun r st'=>r=.slice ((oZ l).map Tm.av)∧st'=st):=by
 refine aD.done ?_
 refine wF [1000000] 1 func148 ntmps148 rfl rfl ?_
 simp only[dK,AV.fits,dT,aE]
 intro ⟨hl,_⟩
 simp -implicitDefEqProofs only[aB,seval]
 refine(N6 l _ hsz).to ?_
 simp -implicitDefEqProofs only[aE,aB,↓aY,seval,R9]
 generalize hv:bX l []=vars
 have hR:oZ l=l.map fun t=>t.aK fun v=>vr (eQ v vars 0):=by rw[←hv];try rfl
 rw[hR]
 refine qJ (σ:=Unit) [1000000] [2,3,9,10] (l) 4 4 (fun i _=>(((l).take i).map (fun t=>t.aK fun v=>vr (eQ v vars 0))).map Tm.av) (fun _ _=>True) (fun i _=>[(11,.int .i64 i)]) (fun _ _=>st) (fun i _ _ e he=>by simp only[bY] at he;obtain⟨t,_,rfl⟩:=he;exact⟨Tm.eN t,aO t⟩) (by decide +kernel) ⟨(),0,trivial,fun h=>absurd rfl h,aN.mk (by simp -implicitDefEqProofs only[lJ,jJ,bQ,aB,↓aY,seval])⟩ (fun i x s b hx hlt bB hdr hinv hb=>?_) (fun s b hge hinv=>?_)
 case refine_1=>
  have hw:=bG (n:=(i:Int)+1)
  have c7:((((l).take i).map (fun t=>t.aK fun v=>vr (eQ v vars 0))).map Tm.av).length=i:=by simp only[aE,dI];omega
  have htk:((((l).take i).map (fun t=>t.aK fun v=>vr (eQ v vars 0))).map Tm.av)++ [Tm.av ((fun t=>t.aK fun v=>vr (eQ v vars 0)) x)]=(((l).take (i+1)).map (fun t=>t.aK fun v=>vr (eQ v vars 0))).map Tm.av:=by rw[eH,hx];simp
  have hat:=bH (av:=Tm.av) aR hx (aO x)
  simp -implicitDefEqProofs only[bB,hat,aB,↓aY,seval,R9]
  refine(NW (fun v=>vr (eQ v vars 0)) _ [.pptr (.slice (vars.map iv))] rfl x _ (hsm x (cG hx)) (fun n _ s=>aSM vars n s)).to ?_
  simp -implicitDefEqProofs only[aB,seval,R9]
  refine f9 aR bO bP rfl rfl (g9 (aO _) (Tm.d5 _)) (by intro e he;simp only[bY] at he;obtain⟨t,_,rfl⟩:=he;exact aO t) hb (by simp only[c7,a8,bL];omega) (by simp only[c7,a8,bL];omega) (fun b' hb'=>?_)
  rw[htk] at hb' ⊢
  simp -implicitDefEqProofs only[aB,seval]
  exact⟨(),b',hb',aN.mk (by simp -implicitDefEqProofs only[hw,aB,seval])⟩
 simp -implicitDefEqProofs only[hge,f7,iL,pR,CB,nN,dQ,aB,seval]
 exact⟨rfl,aM.refl _⟩
end Go.AW
