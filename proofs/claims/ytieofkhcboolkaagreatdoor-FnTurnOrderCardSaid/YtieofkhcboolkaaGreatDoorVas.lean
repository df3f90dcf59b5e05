import Derived.Test.YtieofkhcboolkaaGreatDoorVar
import Derived.Test.YtieofkhcboolkaaGreatDoorVaq
import Derived.Test.YtieofkhcboolkaaGreatDoorVaf
import Derived.Test.YtieofkhcboolkaaGreatDoorVah
import Derived.Test.YtieofkhcboolkaaGreatDoorVak
import Derived.Test.YtieofkhcboolkaaGreatDoorVan
import Derived.Lib.Join
import Derived.Test.YtieofkhcboolkaaGreatDoorVap
import Derived.Shelf.Strings.OnBuilder
import Derived.ProofKit
set_option linter.unusedSimpArgs false
set_option linter.unusedVariables false
set_option maxRecDepth 100000
namespace Go.AW
open Go.Proofs.Tryz
abbrev aQT:=zi aW (zi AR lG)
theorem aVL(l:List Ss)(g:FuncId)(dD:List AV)(p:Ss→Bool)(st:aB)(hc:∀x∈l,aD prog g ([aT x]++dD) st (fun r st'=>r=.bool (p x)∧st'=st)) :
 aD prog 118 [.slice (l.map aT),.func g dD] st (fun r st'=>∃j:Int,r=.int .i64 j∧decide (0≤j)=l.any p∧st'=st):=by
 refine wF [] 2 func118 ntmps118 rfl rfl ?_
 simp only[eM,AV.fits,eS,aF]
 intro ⟨hl,_⟩
 simp only[aF,aA,seval,aQT]
 refine dX (σ:=Unit) [] [0,1,7] l (fun i _=>(l.drop i).any p=l.any p) (fun i _=>[(8,.int .i64 i)]) (fun _ _=>st) (by decide +kernel) ⟨(),rfl,aO.mk (by simp only[aA,↓aS,seval])⟩ (fun i x _ hx hlt bL hdr hinv=>?_) (fun _ hge hinv=>?_)
 case refine_2=>
  simp only[hge,aA,seval]
  rw[kB] at hinv
  exact⟨-1,rfl,by rw[←hinv];try rfl⟩
 rw[hdr,A4] at hinv
 have hw:=bF (n:=(i:Int)+1)
 simp only[bL,bH (av:=aT) pC hx (n0 x),VI,n0,aA,seval,aQT]
 refine(hc x (cH hx)).to ?_
 simp only[aA,seval]
 refine aP (fun h=>?_) (fun h=>?_)
 · simp only[aA,seval]
   exact⟨i,rfl,by rw[←hinv,h];simp⟩
 · rw[h,oY] at hinv
   simp only[aA,seval]
   exact⟨(),hinv,aO.mk (by simp only[hw,aA,seval])⟩
theorem aVD(l:List Ss)(g:FuncId)(dD:List AV)(p:Ss→Bool)(st:aB)(hc:∀x∈l,aD prog g ([aT x]++dD) st (fun r st'=>r=.bool (p x)∧st'=st)) :
 aD prog 47 [.slice (l.map aT),.func g dD] st (fun r st'=>r=.bool (l.any p)∧st'=st):=by
 refine wF [] 2 func47 ntmps47 rfl rfl ?_
 intro _
 simp only[aA,seval]
 refine(aVL l g dD p st hc).mono ?_
 rintro _ _ ⟨j,rfl,hj,rfl⟩
 simp only[hj,aA,seval]
abbrev bBH:=zi cF lG
theorem aYI(s:Ss)(st:aB):aD prog 48 [aT s] st (fun r st'=>r=.bool (!fE s)∧st'=st):=by
 have hv:=aWI s
 simp only[aT] at hv ⊢
 refine wF [1000000] 1 func48 ntmps48 rfl rfl ?_
 intro _
 simp only[aA,seval,bBH]
 refine(hv _).to ?_
 simp only[aA,seval]
theorem aTY{st:aB}{l:List Ss}{K:AV→aB→Prop}(hb:l.length≤1048576)(hK:∀b,(l.map aT≠[]→st b=none)→K (bS 6 b (l.map aT)) (bE st b (l.map aT))) :
 jC prog 23 st (.fslice []) (.slice (l.map aT)) K:=by
 have hw:∀e∈l.map aT,e.width=6∧e.cells.all AV.storable=true:=by intro e h;simp only[cB] at h;obtain⟨t,_,rfl⟩:=h;exact⟨rfl,rfl⟩
 have:=eO (P:=prog) (st:=st) (b:=0) (l:=[]) (xs:=l.map aT) (x:=.slice (l.map aT)) (K:=K) pC EB ED rfl rfl hw (by simp) (by simp) (by simp only[aZ,aF];omega) (by simp only[aZ,aF];omega) (by simpa using hK)
 exact this
theorem a7W(l:List Ss)(st:aB)(hb:l.length≤1048576):aD prog 50 [.slice (l.map aT)] st (fun r st'=>∃b,(l.map aT≠[]→st b=none)∧r=bS 6 b (l.map aT)∧st'=bE st b (l.map aT)):=by
 refine aTN func50 ntmps50 rfl rfl (by kernel_rfl) (by show 1≤_;decide +kernel) ?_
 intro _
 refine QI (y7 [1000000] (by decide +kernel) ?_)
 simp only[aA,seval]
 refine QI (QI (aUA aR3 (by decide +kernel) (by decide +kernel) rfl fun c hc=>?_))
 refine y7 [1000000] (by decide +kernel) ?_
 simp only[aA,seval]
 refine aP (fun h=>?_) (fun h=>?_)
 · subst h
   have hn:l= []:=by
    rcases l with _ | ⟨x,l⟩
    · rfl
    · have:=hc (by simp);cases this
   subst hn
   simp only[aA,seval]
   exact⟨0,rfl,rfl⟩
 · refine y7 [1000000] (by decide +kernel) ?_
   simp only[aA,seval,AR]
   refine aTY hb fun b hb'=>?_
   simp only[aA,seval]
   exact⟨b,hb',rfl,rfl⟩
theorem aD.bAV{P:Program}{g:FuncId}{args:List AV}{st:aB}{s:Ss}{L M:List (List Tm)}{k:Nat}(hd:L.drop k=M)(x:aD P g args st (fun r st'=>∃o,r=.tup [aT s,o]∧XO st (L.map bU) k o st')) :
 aD P g args st (fun r st'=>∃os bs,r=.tup [aT s,.slice os]∧bs.Nodup∧(∀b∈bs,st b=none)∧bO st' (M.map bU) os bs∧∀b,b∉bs→st' b=st b):=by
 refine x.l7 fun r st' h=>?_
 obtain⟨o2,rfl,q,⟨b2,h1,h2,h6,h4⟩,hT⟩:=h
 have ha:=(aP6 hT).1
 have aMY:∀(bs':List Nat),(∀b∈bs',b∈b2)→aL st' (fun x=>if x∈bs' then st' x else st x):=fun bs' qC b=>by
  dsimp only
  by_cases hb:b∈bs'
  · rw[aG hb];exact⟨fun h=>h,fun o h=>h⟩
  · rw[aE hb]
    refine⟨fun e=>?_,fun o e=>?_⟩
    · by_cases hb2:b∈b2
      · exact h2 b hb2
      · rw[←h4 b hb2];exact e
    · by_cases hb2:b∈b2
      · rw[h2 b hb2] at e;cases e
      · rw[h4 b hb2];exact e
 have aMT:∀(bs':List Nat) (os':List AV),(∀b∈bs',b∈b2)→bs'.Nodup→bO st' (M.map bU) os' bs'→(∀h v,cS h st'→VC h st' o2 v→VC h (fun x=>if x∈bs' then st' x else st x) (.slice os') v)→∃r2 s2,PZ st' s2∧PY st' (.tup [aT s,o2]) s2 r2∧∃os bs,r2=.tup [aT s,.slice os]∧bs.Nodup∧(∀b∈bs,st b=none)∧bO s2 (M.map bU) os bs∧∀b,b∉bs→s2 b=st b:=fun bs' os' qC hnd hO hv=>by
  have D:=aMY bs' qC
  refine⟨.tup [aT s,.slice os'],_,D.u9,fun h v S y=>?_,os',bs',rfl,hnd,fun b hb=>h2 b (qC b hb),bO.aV _ _ _ (fun b hb=>aG hb) hO,fun b hb=>aE hb⟩
  obtain⟨y0,y1⟩:=y
  refine⟨y0,?_⟩
  unfold VC at y1 ⊢
  obtain⟨vs,e,y2⟩:=y1
  simp only[dP] at y2 ⊢
  obtain⟨v1,r1,rfl,ya,v2,r2,rfl,yb,rfl⟩:=y2
  have z2:aQ h (fun x=>if x∈bs' then st' x else st x) (.slice os') v2:=by
   have y:=aQ.UC yb
   have hy:VC h st' o2 v2.cells.toList∧o2.isAgg=j8 v2:=by rcases hT with ⟨_,b,w,_,rfl⟩ | ⟨_,rfl⟩<;>exact⟨y.2,y.1⟩
   exact⟨by rw[←hy.2,ha];try rfl,hv h _ S hy.1⟩
  exact⟨_,e,v1,_,rfl,⟨ya.1,VC.mono (D.step h) _ _ ya.2⟩,v2,[],rfl,z2,rfl⟩
 rcases hT with ⟨hk',b,w,rfl,rfl⟩ | ⟨hk',rfl⟩
 · simp only[cG] at h6
   rcases h6 with ⟨_,hq,_⟩ | ⟨b',bs',os,w',e1,rfl,e2,h7,e3⟩
   · cases hq
   cases e1
   obtain⟨bd,h8,h9⟩:=bO.drop k h7
   rw[←BA,hd] at h8
   have qC:∀x∈bd,x∈b::bs':=fun x hx=>PM _ (h9.subset hx)
   have hbd:b∉bd:=fun hx=>(GT.1 h1).1 (h9.subset hx)
   refine aMT bd (os.drop k) qC (h9.nodup (GT.1 h1).2) h8 fun h v S y=>?_
   have hj:=bO.U7 (h:=h) (s0:=st') h7
   have hw:=bO.W9 h7 e3
   obtain⟨f1,f2⟩:=frozen S e2 hj
   have hE:=dA.drop k hw f2
   rw[gZ] at hE
   have hlen:(os.drop k).length=(L.map bU).length - k:=by rw[mB,bO.length h7]
   have hb0:(fun x=>if x∈bd then st' x else st x) b=none:=by
    dsimp only
    rw[aE hbd]
    exact h2 b (by simp)
   have D2:aL (st'.erase b) (fun x=>if x∈bd then st' x else st x):=fun x=>by
    unfold aB.erase
    by_cases hx:x=b
    · subst hx;rw[aG rfl];exact⟨fun _=>hb0,fun o e=>by rw[hb0] at e;cases e⟩
    · rw[aE hx];exact aMY bd qC x
   simp only[VC] at y
   obtain⟨cap,e,l1,l2,_⟩:=y
   unfold VC
   exact .inr ⟨b,k*w,cap,by rw[hlen];exact e,by rw[hlen];exact l1,l2,hb0,f1,⟨w,fun e he=>hw e (KO he)⟩,dA.mono (D2.step h) b rfl _ _ hE⟩
 · have hL:M= []:=by rw[←hd];rw[aF] at hk';subst hk';exact kB
   refine aMT [] [] (by simp) oF (by rw[hL];simp only[aY,bO,and_self]) fun h v S y=>?_
   unfold VC at y ⊢
   rcases y with y | ⟨b,off,e,_⟩
   · exact .inl y
   · exact .inl ⟨⟨_,e⟩,rfl⟩
theorem a71(s:Ss)(n:Int)(h:fE s=true)(hn:0≤n)(st:aB):aD prog 51 [aT s,.int .i64 n] st (fun r st'=>∃os bs,r=.tup [aT (m6 s n),.slice os]∧bs.Nodup∧(∀b∈bs,st b=none)∧bO st' ((oS s n).map bU) os bs∧∀b,b∉bs→st' b=st b):=
 (aYL s n h hn st).bAV rfl
theorem a0H{P:Program}{t:TypeId}{ag:Bool}{w:Nat}{l:List AV}{i:Nat}{x:AV}(hI:eI P t=some (ag,w))(hx:l[i]?=some x)(hw:x.width=w):c8 P t (.slice l) (.int .i64 (i:Int))=some (.pptr x):=by
 have:=bH (av:=fun e:AV=>e) hI hx hw
 rwa [GR] at this
theorem aTP{st:aB}{b q:Nat}{l:List AV}{o:AO}(hb:l≠[]→st b=none)(h:st q=some o):bE st b l q=some o:=BI hb h
theorem aLO{α:Type}{av:α→AV}{w:Nat}(hw:∀a,(av a).width=w){L:List α}{i:Nat}{a:α}(h:L[i]?=some a):i*w+w≤((L.map av).flatMap AV.cells).length∧(((L.map av).flatMap AV.cells).drop (i*w)).take w=(av a).cells:=by
 obtain⟨hi,hei⟩:=fA.1 h
 have hwl:∀l:List α,((l.map av).flatMap AV.cells).length=l.length*w:=fun l=>by
  rw[mI (n:=w) (es:=l.map av) (fun e he=>by simp only[cB] at he;obtain⟨t,_,rfl⟩:=he;exact hw t),aF]
 have h1:(i+1)*w≤L.length*w:=tN w hi
 rw[tM,Nat.one_mul] at h1
 refine⟨by rw[hwl];exact h1,?_⟩
 have h2:L=L.take i++a::L.drop (i+1):=by rw[←hei,←qS hi,pT]
 have hA:(((L.take i).map av).flatMap AV.cells).length=i*w:=by rw[hwl,c7,kZ (by omega)]
 have hE:(av a).cells.length=w:=by rw[sJ,hw]
 conv=>lhs;rw[h2]
 rw[o7,tL,bA,qT,List.drop_left' hA,GW hE]
theorem aMK{T:aB}:∀ {L:List (List Tm)} {os:List AV} {bs:List Nat},bO T (L.map bU) os bs→∀e∈os,∃q,e=.agg [q]∧q.cells= [q]∧q.storable=true∧q.isAgg=false∧q.width=1∧q.cD=false
 | [],os,bs,h=>by simp only[aY,bO] at h;rw[h.1];intro e he;cases he
 | l::L,os,bs,h=>by
  simp only[bA,bO] at h
  obtain⟨o,os',b1,b2,rfl,rfl,h1,h2⟩:=h
  obtain⟨q,rfl,h3⟩:=aON.1 h1
  intro e he
  rcases cY.1 he with rfl | he
  · exact⟨q,rfl,cG.I5 h3⟩
  · exact aMK h2 e he
def KQ(st:aB)(W:List Nat)(A:List (List Tm))(E:List Int)(r:AV)(st':aB):Prop:=yQ st [.slice (W.map nv),.slice (A.map bU),.slice (E.map iv)] r st'
abbrev CV:=zi aW (zi AR (zi fJ (zi nH (zi lG tD))))
set_option maxHeartbeats 4000000 in
theorem aWH(L:List Ss)(n:Int)(hL:L.length≤1048576)(st:aB):aD prog 9 [.slice (L.map aT),.int .i64 n] st (KQ st (iB L n).1 (iB L n).2.1 (iB L n).2.2):=by
 have kL:qM L n=false→∀T:aB,aL T st→∃s2,aL T s2∧KQ st (iB L n).1 (iB L n).2.1 (iB L n).2.2 (.tup [.fslice [],.fslice [],.fslice []]) s2:=fun h T hD=>by
  unfold iB KQ
  rw[h,aE (by decide)]
  refine⟨st,hD,_,[],rfl,oF,by simp,?_,fun _ _=>rfl⟩
  simp only[aY,bO]
  exact⟨_,_,[],[],rfl,rfl,.inl ⟨rfl,rfl,rfl⟩,_,_,[],[],rfl,rfl,.inl ⟨rfl,rfl,rfl⟩,_,_,[],[],rfl,rfl,.inl ⟨rfl,rfl,rfl⟩,rfl,rfl⟩
 have a39:=fun st=>aVD L 48 [] (fun s=> !fE s) st fun s _=>aYI s st
 have a34:=fun st=>a7W L st hL
 refine aD.nR ?_
 refine wF [1000000] 2 func9 ntmps9 rfl rfl ?_
 intro _
 simp only[aA,seval]
 refine cT (fun h1=>?_) (fun h1=>?_)
 case refine_2=>
  simp only[h1,aA,seval]
  exact kL (by simp at h1;unfold qM;rw[d5 (by omega)];try rfl) _ (aL.refl _)
 have h1':1≤n:=by simp at h1;omega
 simp only[h1,aF,aA,seval,CV]
 refine cT (fun h2=>?_) (fun h2=>?_)
 case refine_2=>
  simp only[h2,aA,seval]
  exact kL (by simp at h2;unfold qM;rw[d5 (show ¬L.length≤8 by omega)];simp) _ (aL.refl _)
 have h2':L.length≤8:=by simp at h2;omega
 simp only[h2,aA,seval]
 refine(a39 _).to ?_
 simp only[aA,seval]
 refine aP (fun h3=>?_) (fun h3=>?_)
 · simp only[aA,seval]
   exact kL (by
    obtain⟨s,hs,hb⟩:=A5.1 h3
    unfold qM
    have:L.all fE=false:=by
     cases hA:L.all fE with
     | false=>rfl
     | true=>have:=dW.1 hA s hs;rw[this] at hb;cases hb
    rw[this];simp) _ (aL.refl _)
 have h3':∀s∈L,fE s=true:=fun s hs=>by
  cases hk:fE s with
  | true=>rfl
  | false=>
   have:(L.any fun s=> !fE s)=true:=A5.2 ⟨s,hs,by rw[hk];try rfl⟩
   rw[h3] at this;cases this
 have hok:qM L n=true:=JG.2 ⟨h1',h2',h3'⟩
 have hml:=ND h3'
 have hI0:=kC.start h3'
 simp only[aA,seval]
 refine(a34 _).mono ?_
 rintro _ _ ⟨ba,hba,rfl,rfl⟩
 have hB0:kR st (bE st ba (L.map aT)) (.fslice []) (.fslice []) ba [] [] [] [] [] (L.map aT):=by
  refine⟨.inl ⟨rfl,rfl⟩,.inl ⟨rfl,rfl⟩,⟨rfl,rfl⟩,fun h=>by rw[kS h,aB.aJ],by simp [aR],by simp [aR],by simp,oF,by simp [aR],by simp [aR],by simp,hba,fun b o hb=>aTP hba hb⟩
 generalize bE st ba (L.map aT)=T0 at *
 have hQ:∀x:iK,kC L x→x.l.map aT≠[]→bS 6 ba (L.map aT)=.mslice ba 0 L.length 6:=fun x hx hne=>by
  have hl:=hx.len
  rw[pW (by intro e;apply hne;have:=eA List.length e;simp at this;rw[this] at hl;rw[o0 hl];try rfl),aF]
 have hQl:lP prog 23 (bS 6 ba (L.map aT))=some (.int .i64 (L.length:Int)):=by
  have:=BJ (P:=prog) (w:=6) (b:=ba) (l:=L.map aT) aR3
  rw[aF] at this
  exact this
 have hQ1:(bS 6 ba (L.map aT)).isAgg=false∧(bS 6 ba (L.map aT)).cD=false:=⟨sD,mZ⟩
 generalize hq7:bS 6 ba (L.map aT)=q7 at *
 obtain⟨hQa,hQj⟩:=hQ1
 simp only[aA,seval]
 refine iJ (σ:=aB×AV×AV×List Nat×List AV×iK×Bool) [1000000] [1,4,5,6,7]
  (fun x=>kR st x.1 x.2.1 x.2.2.1 ba x.2.2.2.1 x.2.2.2.2.2.1.w x.2.2.2.2.1 (x.2.2.2.2.2.1.a.map bU) x.2.2.2.2.1 (x.2.2.2.2.2.1.l.map aT)∧kC L x.2.2.2.2.2.1∧rounds n (iA x.2.2.2.2.2.1.l) x.2.2.2.2.2.1=gK n L∧(x.2.2.2.2.2.2=false→runs x.2.2.2.2.2.1.l=false))
  (fun x=>[(8,x.2.1),(9,x.2.2.1),(10,.bool x.2.2.2.2.2.2)]) (fun x=>x.1) (fun x=>iA x.2.2.2.2.2.1.l+(if x.2.2.2.2.2.2=true then 1 else 0)) (by decide +kernel)
  ⟨(T0,.fslice [],.fslice [],[],[],⟨L,[],[]⟩,true),⟨hB0,hI0,rfl,fun h=>by cases h⟩,aO.mk (by simp only[aA,seval])⟩ ?_
 clear hB0 hI0
 rintro⟨T,qw,qa,bs,os,x,more⟩ ⟨i1,i4,i5,i6⟩
 simp only at i1 i4 i5 i6
 obtain⟨w1,w2,w3,w4,w5⟩:=i1.w.shape
 obtain⟨a1,a2,a3,a4,a5⟩:=i1.a.shape
 simp only
 simp only[aA,seval]
 cases more with
 | false=>
  simp only[hQl,aA,seval]
  have hx:x=gK n L:=by rw[←i5,JF (i6 rfl)]
  have hV:iB L n=((gK n L).w,(gK n L).a,(gK n L).l.map Ss.fin):=by unfold iB;rw[aG hok]
  rw[hV]
  subst hx
  have hE0:DO T T (.fslice []) []:=⟨.inl ⟨rfl,rfl⟩,by simp [aR],fun _ _ h=>h⟩
  refine dX (σ:=aB×AV) [1000000] [4,5,6,8,9,70,71] L (fun k y=>DO T y.1 y.2 ((((gK n L).l.take k).map Ss.fin).map iv)) (fun k y=>[(17,y.2),(72,.int .i64 k)]) (fun k y=>y.1) (by decide +kernel) ⟨(T,.fslice []),hE0,aO.mk (by simp only[aA,↓aS,seval])⟩ (fun k s0 y hx hlt bL hdr hinv=>?_) (fun y hge hinv=>?_)
  · obtain⟨T2,qe⟩:=y
    simp only at hinv
    obtain⟨s,hsk⟩:∃s,(gK n L).l[k]?=some s:=⟨_,d4 (by rw[i4.len];exact hlt)⟩
    have hne:(gK n L).l.map aT≠[]:=by intro e;have:=eA List.length e;simp at this;rw[this] at hsk;simp at hsk
    obtain rfl:=hQ _ i4 hne
    obtain⟨a1,a2,a3,a4,a5⟩:=hinv.a.shape
    have hw:=bF (n:=(k:Int)+1)
    have rH:=p8 (P:=prog) (b:=ba) (w:=6) (i:=k) (len:=L.length) pC hlt
    have hlb:=hinv.k _ _ (i1.l hne)
    obtain⟨hf1,hf2⟩:=aLO (av:=aT) n0 hsk
    rw[show(aT s).cells= [.slice (s.p.map bY),.slice (s.q.map Tm.av),.int .i64 s.dJ,.int .i64 s.used,.int .i64 s.sent,.int .i64 s.fin] from rfl] at hf2
    generalize hFL:((gK n L).l.map aT).flatMap AV.cells=FL at *
    simp only[bL,rH,hlb,hf1,hf2,aA,↓aS,seval,CV]
    refine j9.append (x:=iv s.fin) fO t7 sQ rfl (by decide) hinv.a rfl rfl (by simp only[aF,c7];omega) (fun q' T5 f9 S4 TD=>?_)
    have hP:=hinv.push f9 S4 TD
    obtain⟨y1,y2,y3,y4,y5⟩:=f9.shape
    simp only[hw,aA,seval]
    refine⟨(T5,q'),?_,aO.mk (by simp only[aA,seval])⟩
    rw[dY,hsk]
    simpa using hP
  · obtain⟨T2,qe⟩:=y
    simp only at hinv
    rw[show(gK n L).l.take L.length=(gK n L).l by rw[←i4.len,dS]] at hinv
    obtain⟨_,_,g1,_,_⟩:=i1.w.shape
    obtain⟨_,_,g2,_,_⟩:=i1.a.shape
    obtain⟨_,_,g3,_,_⟩:=hinv.a.shape
    simp only[hge,g1,g2,g3,aA,seval]
    exact i1.final hinv (QE _)
 | true=>
  simp only[hQl,aA,seval]
  refine dX (σ:=aB×AV×AV×List Nat×List AV) [1000000] [1,4,5,6,7,33,34,35] L
   (fun k y=>kR st y.1 y.2.1 y.2.2.1 ba y.2.2.2.1 (jY n x k).w y.2.2.2.2 ((jY n x k).a.map bU) y.2.2.2.2 ((jY n x k).l.map aT))
   (fun k y=>[(8,y.2.1),(9,y.2.2.1),(10,.bool (runs (x.l.take k))),(36,.int .i64 k)]) (fun k y=>y.1) (by decide +kernel) ⟨(T,qw,qa,bs,os),i1,aO.mk (by simp only[jA,runs,List.any_nil,aA,↓aS,seval])⟩ (fun k s0 y hx hlt bL hdr hinv=>?_) (fun y hge hinv=>?_)
  · obtain⟨T,qw,qa,bs,os⟩:=y
    simp only at hinv
    obtain⟨hIk,_,_⟩:=i4.turns h1' k
    have hlen:=OZ n x k
    rw[i4.len] at hlen
    obtain⟨s,hsk⟩:∃s,(jY n x k).l[k]?=some s:=⟨_,d4 (by rw[hlen];exact hlt)⟩
    have hxk:x.l[k]?=some s:=by rw[←OY n x k (cU _)];exact hsk
    have hH:runs (x.l.take (k+1))=(runs (x.l.take k)||nC s):=by unfold runs;rw[dY,hxk,List.any_append];simp
    have EU:=hIk.ok s (cH hsk)
    have hsu:=GF n x k
    have hbd:=hIk.bd
    have hwl:=hIk.wl
    have hne:(jY n x k).l.map aT≠[]:=by intro e;have:=eA List.length e;simp at this;rw[this] at hsk;simp at hsk
    obtain rfl:=hQ _ hIk hne
    generalize jY n x (k+1)=Y' at *
    generalize jY n x k=Y at *
    obtain⟨w1,w2,w3,w4,w5⟩:=hinv.w.shape
    obtain⟨a1,a2,a3,a4,a5⟩:=hinv.a.shape
    have a5K:=bO.length hinv.o
    rw[aF] at a5K
    have hw:=bF (n:=(k:Int)+1)
    have rH:=p8 (P:=prog) (b:=ba) (w:=6) (i:=k) (len:=L.length) pC hlt
    have hlb:=hinv.l hne
    obtain⟨hf1,hf2⟩:=aLO (av:=aT) n0 hsk
    have nU:=fun z=>U5 (av:=aT) (w:=6) n0 (L:=Y.l) (i:=k) z (by omega)
    rw[show(aT s).cells= [.slice (s.p.map bY),.slice (s.q.map Tm.av),.int .i64 s.dJ,.int .i64 s.used,.int .i64 s.sent,.int .i64 s.fin] from rfl] at hf2
    generalize hFL:(Y.l.map aT).flatMap AV.cells=FL at *
    simp only[bL,rH,hlb,hf1,hf2,aA,↓aS,seval,CV]
    refine aP (fun hf=>?_) (fun hf=>?_)
    · have hf':s.fin≠-1:=by simpa using hf
      have hr:nC s=false:=by unfold nC;simpa using hf'
      rw[hr,yK] at hH
      rw[GE hsk hf'] at hsu
      simp only[hw,aA,seval]
      exact⟨(T,qw,qa,bs,os),by rw[hsu];exact hinv,aO.mk (by simp only[hH,aA,seval])⟩
    have hf':s.fin= -1:=by simpa using hf
    have hr:nC s=true:=by unfold nC;simpa using hf'
    rw[hr,vB] at hH
    rw[KB hsk hf',FT (zB.2 ⟨EU,by omega,hf'⟩)] at hsu
    have sR:=fun st=>a71 s n EU (by omega) st
    have SK:(oS s n).length≤20:=by have:=(x9 EU (show 0≤n by omega)).l;unfold oS;rw[mB];omega
    simp only at hsu
    generalize oS s n=M at *
    have hsz:=nU (m6 s n)
    generalize m6 s n=z at *
    simp only[aT] at sR
    simp only[aA,seval,CV]
    refine(sR _).mono ?_
    rintro _ T2 ⟨os2,bs2,rfl,n1,n2,n3,n4⟩
    have hB2:=hinv.more n3 n1 n2 n4
    have hl2:=hB2.l hne
    rw[hFL] at hl2
    have aMV:(Y.l.set k z).map aT≠[]:=by intro e;apply hne;have:=eA List.length e;simp at this;rw[this];try rfl
    have hB3:=hB2.a9Y hne aMV
    rw[←hsz] at hB3
    simp only[rH,hl2,hf1,aK,aA,↓aS,seval,CV]
    have hB4:kR st (T2.aC ba (.cells (List.take (k*6) FL++ [.slice (z.p.map bY),.slice (z.q.map Tm.av),.int .i64 z.dJ,.int .i64 z.used,.int .i64 z.sent,.int .i64 z.fin]++List.drop (k*6+6) FL))) qw qa ba (bs++bs2) Y.w os (Y.a.map bU++M.map bU) (os++os2) ((Y.l.set k z).map aT):=hB3
    clear hB3 hB2
    generalize T2.aC ba (.cells (List.take (k*6) FL++ [.slice (z.p.map bY),.slice (z.q.map Tm.av),.int .i64 z.dJ,.int .i64 z.used,.int .i64 z.sent,.int .i64 z.fin]++List.drop (k*6+6) FL))=T3 at *
    have ho2:=bO.length n3
    rw[aF] at ho2
    have hhm:=aMK n3
    refine dX (σ:=aB×AV×AV) [1000000] [1,4,5,6,7,10,11,12,13,14,33,34,35,36,37,38,39,40,41,42,43,44,45,46,47,48,49,50,51,52,53,54,55] os2
     (fun j y=>kR st y.1 y.2.1 y.2.2 ba (bs++bs2) (Y.w++List.replicate j k) (os++os2.take j) (Y.a.map bU++M.map bU) (os++os2) ((Y.l.set k z).map aT))
     (fun j y=>[(8,y.2.1),(9,y.2.2),(56,.int .i64 j)]) (fun j y=>y.1) (by decide +kernel) ⟨(T3,qw,qa),by simpa using hB4,aO.mk (by simp only[aA,↓aS,seval])⟩ (fun j e y hxj bEZ a47 bEU xO=>?_) (fun y a4R xO=>?_)
    · obtain⟨T4,pw,pa⟩:=y
      simp only at xO
      obtain⟨q,rfl,e1,e2,e3,e4,e5⟩:=hhm e (cH hxj)
      obtain⟨w1,w2,w3,w4,w5⟩:=xO.w.shape
      obtain⟨a1,a2,a3,a4,a5⟩:=xO.a.shape
      have hwj:=bF (n:=(j:Int)+1)
      have IA:=a0H (P:=prog) oN hxj rfl
      simp only[a47,IA,e2,aA,↓aS,seval,CV]
      refine wX [(0,1),(1,1),(2,1),(4,1),(5,1),(6,1),(3,0),(7,0),(8,1),(9,1)] [0,1,2,4,5,6,8,9] d9 mixed rfl fH ?_
      simp only[aA,seval,CV]
      refine j9.append fO t7 sQ rfl (by decide) xO.w rfl rfl (by simp only[aF,dN,List.length_replicate];omega) (fun q' T5 f9 S4 TD=>?_)
      have hP:=xO.UQ (i:=k) f9 S4 TD
      obtain⟨y1,y2,y3,y4,y5⟩:=f9.shape
      simp only[aA,seval]
      refine⟨fH,?_⟩
      refine j9.append (x:=.agg [q]) oN HW H0 rfl (by decide) hP.a rfl (by simp only[AV.cells,kY,List.all_nil,e2,Bool.and_self]) (by simp only[dN,c7];omega) (fun q2 T6 H9 a4O a5A=>?_)
      have hP2:=hP.NP H9 a4O a5A
      obtain⟨x1,x2,x3,x4,x5⟩:=H9.shape
      simp only[aA,seval]
      refine⟨fH,⟨(T6,q',q2),?_,aO.mk (by simp only[hwj,aA,seval])⟩⟩
      have g1:Y.w++List.replicate j k++ [k]=Y.w++List.replicate (j+1) k:=by rw[lL,List.replicate_succ']
      have g2:os++os2.take j++ [.agg [q]]=os++os2.take (j+1):=by rw[dY,hxj];simp
      rw[g1,g2] at hP2
      exact hP2
    · obtain⟨T4,pw,pa⟩:=y
      simp only at xO
      rw[dS,ho2] at xO
      simp only[a4R,hw,aA,seval]
      refine⟨(T4,pw,pa,bs++bs2,os++os2),?_,aO.mk (by simp only[hH,aA,seval])⟩
      rw[hsu]
      simp only[o7]
      exact xO
  · obtain⟨T4,pw,pa,bs,os⟩:=y
    simp only at hinv
    rw[show jY n x L.length=oC n x by unfold oC;rw[i4.len]] at hinv
    rw[show x.l.take L.length=x.l by rw[←i4.len,dS]]
    obtain⟨r1,r2⟩:=i4.round h1'
    simp only[hge,aA,seval]
    refine⟨(T4,pw,pa,bs,os,oC n x,runs x.l),?_,⟨hinv,r1,?_,fun h=>?_⟩,aO.mk (by simp only[aA,seval])⟩
    · simp only
      cases hr:runs x.l with
      | true=>have:=r2 hr;simp only[eX];omega
      | false=>
       have:oC n x=x:=C5 hr _
       rw[this]
       simp
    · cases hr:runs x.l with
      | true=>exact(aO7 h1' i4 hr).trans i5
      | false=>rw[show oC n x=x from C5 hr _];exact i5
    · rw[show oC n x=x from C5 h _];exact h





theorem a7U(W:List Nat):W.map nv=(W.map fun i:Nat=>(i:Int)).map iv:=by rw[pR];try rfl
theorem TW{i:Nat}{a:List Tm}:∀ {W:List Nat} {A:List (List Tm)} (j:Nat),W[j]?=some i→A[j]?=some a→a∈nX i W A
 | w::W,b::A,0,h1,h2=>by
  simp only[A8,Option.some.injEq] at h1 h2
  subst h1;subst h2
  simp [nX]
 | w::W,b::A,j+1,h1,h2=>by
  simp only[A7] at h1 h2
  have:=TW j h1 h2
  simp only[nX]
  split
  · exact PM _ this
  · exact this
 | [],_,j,h1,_=>by simp at h1
 | _::_,[],j,_,h2=>by simp at h2
theorem a9O(L:List Ss)(n:Int):(iB L n).1.length=(iB L n).2.1.length∧(iB L n).2.1.length≤48160∧(iB L n).2.2.length≤8∧∀a∈(iB L n).2.1,a.length≤26∧a.all Tm.valid=true:=by
 unfold iB
 split
 · rename_i h
   obtain⟨h1,h2,h3⟩:=JG.1 h
   obtain⟨hI,_,hE,hm⟩:=U0 h
   have hb:=hI.bd
   have hl:=ND h3
   refine⟨hI.wl,by simp only;omega,by simp only;rw[hE,aF];exact h2,fun a ha=>?_⟩
   simp only at ha
   obtain⟨j,hj⟩:=A9 ha
   have hjl:=(fA.1 hj).1
   obtain⟨i,hi⟩:∃i,(gK n L).w[j]?=some i:=⟨_,d4 (by rw[hI.wl];exact hjl)⟩
   have hil:=hI.wr i (cH hi)
   obtain⟨s,hs⟩:∃s,L[i]?=some s:=⟨_,d4 hil⟩
   have eT:=TW j hi hj
   rw[hm i s hs,H4] at eT
   exact(aPS s.p (cnd:=fun _ l=>l) (fun _ l=>⟨fun _ h=>h,cU _⟩) s.q 20 s.dJ).2 a (KO eT)
 · simp
end Go.AW
namespace Go.AW
def qG(c:UInt8):List ByteArray→ByteArray
 | []=>⟨#[]⟩
 | x::xs=>xs.foldl (fun o y=>(o++⟨#[c]⟩)++y) x
theorem LB(a b:ByteArray):(a++b).data.toList=a.data.toList++b.data.toList:=by simp [GO]
theorem join_eq(c:UInt8)(l:List ByteArray):(⟨(Lib.join (l.map (·.data.toList)) [c]).toArray⟩:ByteArray)=qG c l:=by
 have hg:∀(xs:List ByteArray) (o:ByteArray),(xs.foldl (fun o y=>(o++⟨#[c]⟩)++y) o).data.toList=o.data.toList++Lib.joinTail [c] (xs.map (·.data.toList)):=by
  intro xs
  induction xs with
  | nil=>intro o;simp [Lib.joinTail]
  | cons y xs ih=>
   intro o
   rw[vD,ih,LB,LB]
   simp [Lib.joinTail]
 apply DE
 cases l with
 | nil=>rfl
 | cons x xs=>
  show(Lib.join (x.data.toList::xs.map (·.data.toList)) [c]).toArray=_
  rw[Lib.join_cons,←hg xs x]
  try rfl
theorem YZ(a:ByteArray):(⟨#[]⟩:ByteArray)++a=a:=by apply DE;simp [GO]
theorem YU(T:Tm→ByteArray)(l:List Tm):gX T l=qG 44 (l.map T):=by
 cases l with
 | nil=>rfl
 | cons x l=>
  show l.foldl (fun o y=>(o++⟨#[44]⟩)++T y) (⟨#[]⟩++T x)=(l.map T).foldl (fun o y=>(o++⟨#[44]⟩)++y) (T x)
  rw[YZ,List.foldl_map]
theorem a6V{c:UInt8}{l:List ByteArray}{B:Nat}(h:∀x∈l,x.size≤B):(qG c l).size≤l.length*(B+1):=by
 have hg:∀(xs:List ByteArray) (o:ByteArray),(∀x∈xs,x.size≤B)→(xs.foldl (fun o y=>(o++⟨#[c]⟩)++y) o).size≤o.size+xs.length*(B+1):=by
  intro xs
  induction xs with
  | nil=>intro o _;simp
  | cons x xs ih=>
   intro o hx
   rw[vD]
   refine kQ (ih _ fun y hy=>hx y (by simp [hy])) ?_
   rw[cK,cK]
   have:=hx x (by simp)
   rw[aU,qV]
   show o.size+1+_+_≤_
   omega
 cases l with
 | nil=>exact iU _
 | cons x l=>
  refine kQ (hg l x fun y hy=>h y (by simp [hy])) ?_
  have:=h x (by simp)
  rw[aU,qV]
  omega
theorem a6U{c:UInt8}{l:List ByteArray}(hl:l≠[])(h:∀x∈l,1≤x.size):1≤(qG c l).size:=by
 have hg:∀(xs:List ByteArray) (o:ByteArray),1≤o.size→1≤(xs.foldl (fun o y=>(o++⟨#[c]⟩)++y) o).size:=by
  intro xs
  induction xs with
  | nil=>exact fun o h=>h
  | cons x xs ih=>intro o ho;rw[vD];refine ih _ ?_;rw[cK,cK];omega
 cases l with
 | nil=>exact absurd rfl hl
 | cons x l=>exact hg l x (h x (by simp))
def nP(v:Int)(t:Tm):ByteArray:=(v6 v++⟨#[61]⟩)++tx 1000 t
def K7(vars:List Int)(a:List Tm):ByteArray:=if vars= [] then⟨#[121,101,115]⟩ else qG 59 ((vars.zip a).map fun p=>nP p.1 p.2)
def EF(q a:List Tm):ByteArray:=if uA q a=true then K7 (bT q []) a else⟨#[]⟩
end Go.AW
namespace Go.AW
open Go.Proofs.Tryz
abbrev VV:=zi aW (zi cF (zi cW (zi cA bR)))
theorem HL(t:Tm)(st:aB):aD prog 278 [t.av] st (fun r st'=>r=.bool (mP t)∧st'=st):=by
 obtain⟨k,n,s,ts⟩:=t
 rw[NL]
 refine wF [1000000] 1 func278 ntmps278 rfl rfl ?_
 intro _
 simp only[aX]
 by_cases h1:k=3
 case neg=>
  rw[d5 h1,fF]
  simp only[h1,bP,aA,seval,VV]
 rw[eE h1,dU]
 by_cases h2:s=⟨#[46]⟩
 case neg=>
  rw[d5 h2,fF]
  simp only[h1,h2,bM,bP,aA,seval,VV]
 rw[eE h2,dU]
 have h3:decide (((ts.length:Nat):Int)=2)=decide (ts.length=2):=by rw[sN];omega
 simp only[h1,h2,h3,bM,aF,aA,seval,VV]
abbrev aQC:=zi cF (zi cW bR)
theorem aWM(t:Tm)(st:aB):aD prog 279 [t.av] st (fun r st'=>r=.bool (CE t)∧st'=st):=by
 obtain⟨k,n,s,ts⟩:=t
 have hi:=BO k n s ts
 have hz:CE (.mk k n s ts)=((decide (k=3)&&decide ((ts.length:Int)=0))&&decide (s=⟨#[91,93]⟩)):=by
  have h3:decide (((ts.length:Nat):Int)=0)=decide (ts.length=0):=by rw[sN];omega
  rw[aN6,h3,Bool.and_assoc,Bool.and_comm (decide (s=_))]
 rw[hz]
 generalize (decide (k=3)&&decide ((ts.length:Int)=0))=b at *
 simp only[aX] at hi ⊢
 refine wF [1000000] 1 func279 ntmps279 rfl rfl ?_
 intro _
 simp only[aA,seval,aQC]
 refine(hi _).to ?_
 cases b with
 | false=>simp only[fF,aA,seval]
 | true=>simp only[dU,kG,aA,seval,aQC]
abbrev bA5:=zi aW (zi lH (zi cW C4))
theorem aAF(m:Nat)(hm:m≤25)(st:aB):aD prog 126 [.int .i64 (m:Int)] st (fun r st'=>r=.str (v6 m)∧st'=st):=by
 refine wF [1000000] 1 func126 ntmps126 rfl rfl ?_
 intro _
 obtain⟨y,hy⟩:∃y,y=65+m:=⟨_,rfl⟩
 have hw1:=nJ (x:=65+(m:Int)) (m:=y) (by omega) (by omega)
 have hw2:=KH (x:=(y:Int)) (m:=y) rfl (by omega)
 simp only[tQ,hw1,hw2,LG,aA,seval,bA5]
 subst hy
 rfl
theorem a8A{s:ByteArray}(h:0<cC s):s∈([⟨#[61]⟩,⟨#[92,61]⟩,⟨#[61,61]⟩,⟨#[60]⟩,⟨#[62]⟩,⟨#[61,60]⟩,⟨#[62,61]⟩,⟨#[61,58,61]⟩,⟨#[105,115]⟩,⟨#[43]⟩,⟨#[45]⟩,⟨#[42]⟩,⟨#[47,47]⟩,⟨#[109,111,100]⟩]:List ByteArray):=by
 apply yL
 intro hn
 simp only[cY,dK,dQ,not_or] at hn
 simp [cC,hn] at h
theorem UG{s:ByteArray}(h:0<cC s):sW s=iI s∧cC s≤3∧s.size≤3:=by
 have h2:=a8A h
 clear h
 revert h2
 revert s
 decide
theorem aYE(s:ByteArray)(hop:0<cC s)(st:aB):aD prog 212 [.str s] st (fun r st'=>r=.str (oU s)∧st'=st):=by
 obtain⟨h1,_,hs⟩:=UG hop
 have hl:=QT s
 rw[h1] at hl
 unfold oU
 have hm:maxLen=9223372036854775807:=by rfl
 have g1:(⟨#[32]⟩:ByteArray).size+s.size≤maxLen:=by show 1+s.size≤_;omega
 have g2:((⟨#[32]⟩:ByteArray)++s).size+(⟨#[32]⟩:ByteArray).size≤maxLen:=by rw[cK];show 1+s.size+1≤_;omega
 generalize iI s=b at *
 refine wF [1000000] 1 func212 ntmps212 rfl rfl ?_
 intro _
 simp only[aA,seval]
 refine(hl _).to ?_
 cases b with
 | false=>
  rw[aE (by decide)]
  simp only[aA,seval]
 | true=>
  rw[aG rfl]
  simp only[g1,g2,↓reduceIte,aA,seval]
theorem aX8(s:ByteArray)(hop:0<cC s)(st:aB):aD prog 211 [.str s] st (fun r st'=>r=.int .i64 (lvl (cC s):Int)∧st'=st):=by
 have h3:=(UG hop).2.1
 have hl:=LH s
 generalize cC s=l at *
 obtain rfl | rfl | rfl:l=1∨l=2∨l=3:=by omega
 all_goals
  refine wF [1000000] 1 func211 ntmps211 rfl rfl ?_
  intro _
  simp only[aA,seval]
  refine(hl _).to ?_
  simp only[aA,↓aS,seval]
  first | done | rfl
end Go.AW

namespace Go.AW
open Go.Proofs.Tryz
open Go.Shelf
set_option linter.unusedSimpArgs false
set_option linter.unusedVariables false
set_option maxRecDepth 100000
def aNL:Go.Shelf.Ren:=⟨fun | 156=>128 | 165=>214 | 166=>215 | 169=>216 | 240=>280 | 241=>281 | 276=>324 | 277=>325 | n=>n,fun | 31=>148 | 9=>9 | 3=>3 | 4=>4 | 0=>0 | 20=>20 | 72=>235 | 76=>239 | 70=>233 | 37=>22 | 75=>238 | 127=>292 | 164=>332 | 5=>5 | 80=>241 | n=>n,fun | n=>n⟩
theorem aNK:Go.Proofs.Lays.n156 prog aNL:={
 mixed:=by kernel_rfl
 f156:=Go.Proofs.Tryz.func128.trans (eA some (by kernel_rfl))
 f165:=Go.Proofs.Tryz.func214.trans (eA some (by kernel_rfl))
 f166:=Go.Proofs.Tryz.func215.trans (eA some (by kernel_rfl))
 f169:=Go.Proofs.Tryz.func216.trans (eA some (by kernel_rfl))
 f240:=Go.Proofs.Tryz.func280.trans (eA some (by kernel_rfl))
 f241:=Go.Proofs.Tryz.func281.trans (eA some (by kernel_rfl))
 f276:=Go.Proofs.Tryz.func324.trans (eA some (by kernel_rfl))
 f277:=Go.Proofs.Tryz.func325.trans (eA some (by kernel_rfl))
 t0:=Go.Proofs.Tryz.underlying0
 a0:=Go.Proofs.Tryz.isAgg0
 z0:=Go.Proofs.Tryz.sizeOf0
 v0:=Go.Proofs.Tryz.zeroValue0
 t3:=Go.Proofs.Tryz.underlying3
 a3:=Go.Proofs.Tryz.isAgg3
 z3:=Go.Proofs.Tryz.sizeOf3
 v3:=Go.Proofs.Tryz.zeroValue3
 t4:=Go.Proofs.Tryz.underlying4
 a4:=Go.Proofs.Tryz.isAgg4
 z4:=Go.Proofs.Tryz.sizeOf4
 v4:=Go.Proofs.Tryz.zeroValue4
 t9:=Go.Proofs.Tryz.underlying9
 a9:=Go.Proofs.Tryz.isAgg9
 z9:=Go.Proofs.Tryz.sizeOf9
 v9:=Go.Proofs.Tryz.zeroValue9
 t20:=Go.Proofs.Tryz.underlying20
 a20:=Go.Proofs.Tryz.isAgg20
 z20:=Go.Proofs.Tryz.sizeOf20
 v20:=Go.Proofs.Tryz.zeroValue20
 t31:=Go.Proofs.Tryz.underlying148
 a31:=Go.Proofs.Tryz.isAgg148
 z31:=Go.Proofs.Tryz.sizeOf148
 v31:=Go.Proofs.Tryz.zeroValue148
 t37:=Go.Proofs.Tryz.underlying22
 a37:=Go.Proofs.Tryz.isAgg22
 z37:=Go.Proofs.Tryz.sizeOf22
 v37:=Go.Proofs.Tryz.zeroValue22
 t70:=Go.Proofs.Tryz.underlying233
 a70:=Go.Proofs.Tryz.isAgg233
 z70:=Go.Proofs.Tryz.sizeOf233
 v70:=Go.Proofs.Tryz.zeroValue233
 t72:=Go.Proofs.Tryz.underlying235
 a72:=Go.Proofs.Tryz.isAgg235
 z72:=Go.Proofs.Tryz.sizeOf235
 v72:=Go.Proofs.Tryz.zeroValue235
 t75:=Go.Proofs.Tryz.underlying238
 a75:=Go.Proofs.Tryz.isAgg238
 z75:=Go.Proofs.Tryz.sizeOf238
 v75:=Go.Proofs.Tryz.zeroValue238
 t76:=Go.Proofs.Tryz.underlying239
 a76:=Go.Proofs.Tryz.isAgg239
 z76:=Go.Proofs.Tryz.sizeOf239
 v76:=Go.Proofs.Tryz.zeroValue239
 t127:=Go.Proofs.Tryz.underlying292
 a127:=Go.Proofs.Tryz.isAgg292
 z127:=Go.Proofs.Tryz.sizeOf292
 v127:=Go.Proofs.Tryz.zeroValue292
 t164:=Go.Proofs.Tryz.underlying332
 a164:=Go.Proofs.Tryz.isAgg332
 z164:=Go.Proofs.Tryz.sizeOf332
 v164:=Go.Proofs.Tryz.zeroValue332 }
theorem aNJ:Go.Proofs.Builder.Extra prog aNL:={
 sizeBuilder:=by kernel_rfl
 liesBuilder:=by kernel_rfl
 t5:=Go.Proofs.Tryz.underlying5
 a5:=Go.Proofs.Tryz.isAgg5
 z5:=Go.Proofs.Tryz.sizeOf5
 v5:=Go.Proofs.Tryz.zeroValue5
 infoByte:=by kernel_rfl
 cellsByte:=by kernel_rfl
 sizeByte:=by kernel_rfl
 neB5:=by decide }
-- joinEnd
theorem X0{h:bJ}{st:aB}{b:Nat}:∀ {l:List ByteArray} {off:Nat},dA h st b off (l.map .str)→∀(j:Nat) (x:ByteArray),l[j]?=some x→cellAt h b (off+j)=some (.string x)
 | [],_,_,j,x,e=>by simp at e
 | a::l,off,v,0,x,e=>by
  simp only[A8,Option.some.injEq] at e
  subst e
  obtain⟨⟨cs,c1,c2,c3⟩,_⟩:=v
  have c3:cs= [.string a]:=c3.1
  subst c3
  exact c1.1
 | a::l,off,v,j+1,x,e=>by
  rw[A7] at e
  have:=X0 v.2 j x e
  rwa [show(AV.str a).width=1 from rfl,yR,GX 1 j] at this
theorem aOB(l:List ByteArray)(c:UInt8)(hl:l.length≤1048576)(hs:(qG c l).size≤140737488355328)(st:aB):aD prog 128 [.slice (l.map .str),.str ⟨#[c]⟩] st (fun r st'=>r=.str (qG c l)∧st'=st):=by
 refine⟨⟨_,func128,rfl,by kernel_rfl⟩,fun w vs S V=>?_⟩
 obtain⟨v,_,rfl,v1,u,_,rfl,v2,rfl⟩:=V
 obtain⟨rfl,_⟩:=v2.CS
 have hE:∀(e:Ending) (w':World),e=.returned (.string (qG c l))∧RowKit.Below w.heap.size w w'→∃v r st',e=.returned v∧aQ w'.heap st' r v∧cS w'.heap st'∧bX w.heap st w'.heap st'∧fC w w'∧r=.str (qG c l)∧st'=st:=by
  rintro e w' ⟨rfl,hB⟩
  have X:Ext w.heap w'.heap:=⟨hB.size,hB.block⟩
  exact⟨_,.str (qG c l),st,rfl,⟨rfl,rfl,by show _≤(9223372036854775807:Nat);omega⟩,S.ext X,X.step st,⟨hB.os,hB.tape,hB.output⟩,rfl,rfl⟩
 have hj:=join_eq c l
 have hlen:(Lib.join (l.map (·.data.toList)) (⟨#[c]⟩:ByteArray).data.toList).length≤140737488355328:=by
  have e:(qG c l).size=(Lib.join (l.map (·.data.toList)) [c]).length:=by rw[←hj];show Array.size _=_;rw[KP]
  rw[e] at hs
  exact hs
 have hj':(⟨(Lib.join (l.map (·.data.toList)) (⟨#[c]⟩:ByteArray).data.toList).toArray⟩:ByteArray)=qG c l:=hj
 rcases v1.FU with ⟨⟨p,rfl⟩,h⟩ | ⟨b,off,cap,rfl,e2,e3,e4,e5,e6,e7⟩
 · obtain rfl:l= []:=by simpa using h
   refine(Go.Proofs.Any.strings_Join_none aNK aNJ p 0 ⟨#[c]⟩ w).mono fun e w' ⟨h1,h2⟩=>hE e w' ⟨h1,h2▸RowKit.Below.refl _ _⟩
 rw[aF] at e2 ⊢
 have gQ:∀(j:Nat) x,l[j]?=some x→w.cell? ⟨b,off+j,none⟩=some (.string x):=fun j x hx=>by
  have h1:=X0 e7 j x hx
  unfold cellAt at h1
  unfold World.cell?
  simp only
  split at h1
  · rename_i hb;rw[hb];exact h1
  · cases h1
 refine(Go.Proofs.Any.strings_Join aNK aNJ b off cap l ⟨#[c]⟩ w gQ e5 (by omega) e2 hlen).mono fun e w' h=>hE e w' ?_
 rw[hj'] at h
 exact h
end Go.AW

namespace Go.AW
open Go.Proofs.Tryz
def DN(T:Tm→ByteArray)(t:Tm):Prop:=(∀st:aB,st iE=some jG→aD prog 127 [t.av] st (fun r st'=>r=.str (T t)∧st'=st))∧(T t).size≤32*t.nodes∧1≤(T t).size∧t.nodes≤1000
def I6(T:Tm→ByteArray)(t:Tm)(lv:Nat)(right:Bool):ByteArray:=if right=true then sZ T t lv else sV T t lv
theorem a8N(u:ByteArray):v7 (sb ((⟨#[40]⟩++u)++⟨#[41]⟩))=true:=by
 have h:(sb ((⟨#[40]⟩++u)++⟨#[41]⟩))[0]?=some 40:=by
  show((⟨#[40]⟩++u)++⟨#[41]⟩:ByteArray).data.toList[0]?=_
  rw[LB,LB]
  try rfl
 unfold v7
 rw[rN (c:=40) h]
 simp
theorem XA{k n:Int}{s:ByteArray}{ts:List Tm}(h:Ws (.mk k n s ts))(h2:ts.length≠0∨0<cC s):k=3:=by
 rcases z7 h.own.1 with ⟨_,_,_,rfl,h4⟩ | ⟨_,_,_,rfl,h4⟩ | ⟨h3,_⟩
 · rcases h2 with h2 | h2
   · omega
   · exact absurd h2 (by decide)
 · rcases h2 with h2 | h2
   · omega
   · exact absurd h2 (by decide)
 · exact h3
theorem a8B{T:Tm→ByteArray}{k n:Int}{s:ByteArray}{ts:List Tm}(hw:Ws (.mk k n s ts))(lv:Nat)(right:Bool) :
 I6 T (.mk k n s ts) lv right=if(decide (ts.length=2)&&decide (lv<cC s))=true∨(decide (ts.length=0)&&decide (0<cC s))=true∨(right&& !v7 (sb (T (.mk k n s ts))))=true then(⟨#[40]⟩++T (.mk k n s ts))++⟨#[41]⟩ else T (.mk k n s ts):=by
 have hin:qE (.mk k n s ts)=(decide (ts.length=2)&&decide (0<cC s)):=by
  rw[TR]
  by_cases h:ts.length=2
  · rw[eE (XA hw (.inl (by omega))),dU]
  · rw[d5 h,fF,l8]
 have hso:CR (.mk k n s ts)=(decide (ts.length=0)&&decide (0<cC s)):=by
  rw[aPQ]
  by_cases h:0<cC s
  · rw[eE (XA hw (.inr h)),dU]
  · rw[d5 h,l8,l8]
 generalize hu:T (.mk k n s ts)=u
 have hpb:=a8N u
 generalize hW:(⟨#[40]⟩++u)++⟨#[41]⟩=W at *
 have hbr:sI T (.mk k n s ts) lv=if(decide (ts.length=2)&&decide (lv<cC s))=true then W else u:=by
  unfold sI
  rw[hin,hu,hW]
  have:(decide (ts.length=2)&&decide (0<cC s)&&decide (lv<cC (Tm.mk k n s ts).s))=(decide (ts.length=2)&&decide (lv<cC s)):=by
   show(decide (ts.length=2)&&decide (0<cC s)&&decide (lv<cC s))=_
   by_cases h:lv<cC s
   · rw[eE h,eE (show 0<cC s by omega),wJ]
   · rw[d5 h,l8,l8]
  rw[this]
 unfold I6 sZ sV
 rw[hso,hbr,hu,hW]
 by_cases h2:ts.length=2
 · rw[eE h2,d5 (show ¬ts.length=0 by omega),dU,fF]
   by_cases h:lv<cC s
   · rw[eE h]
     simp [hpb]
   · rw[d5 h]
     cases right<;>simp [hW]
 · rw[d5 h2,fF]
   cases hz:(decide (ts.length=0)&&decide (0<cC s))<;>cases right<;>simp [hW]
theorem aWL(x:UInt8)(st:aB):aD prog 277 [.int .u8 (x.toNat:Int)] st (fun r st'=>r=.bool (dL x)∧st'=st):=by
 refine wF [] 1 func277 ntmps277 rfl rfl ?_
 intro _
 unfold dL
 by_cases b1:48≤x.toNat
 case' pos=>have b1':((48:Int)≤(x.toNat:Int))=True:=cL (by omega)
 case' neg=>have b1':((48:Int)≤(x.toNat:Int))=False:=bZ (by omega)
 all_goals
  by_cases b2:x.toNat≤57
  case' pos=>have b2':((x.toNat:Int)≤57)=True:=cL (by omega)
  case' neg=>have b2':((x.toNat:Int)≤57)=False:=bZ (by omega)
 all_goals
  simp only[b1',b2',bM,bP,aA,seval]
  simp [b1,b2]
abbrev JQ:=zi aW (zi cF (zi lH (zi cW (zi cA bR))))
set_option maxHeartbeats 4000000 in
theorem aAU{T:Tm→ByteArray}(t:Tm)(hw:Ws t)(hT:DN T t)(lv:Nat)(hlv:lv≤10)(right:Bool)(st:aB)(hP:st iE=some jG):aD prog 210 [t.av,.int .i64 (lv:Int),.bool right] st (fun r st'=>r=.str (I6 T t lv right)∧st'=st):=by
 obtain⟨c1,c2,c3,c4⟩:=hT
 have hm:maxLen=9223372036854775807:=by rfl
 have hs1:(⟨#[40]⟩:ByteArray).size+(T t).size≤maxLen:=by show 1+_≤_;omega
 have hs2:((⟨#[40]⟩:ByteArray)++T t).size+(⟨#[41]⟩:ByteArray).size≤maxLen:=by rw[cK];show 1+_+1≤_;omega
 obtain⟨x,hx⟩:=vL (s:=T t) (n:=0) (by omega)
 have hix:=sU (P:=prog) (t:=9) rZ hx
 rw[show((0:Nat):Int)=0 from rfl] at hix
 have hpl:v7 (sb (T t))=(letter x||(dL x||(r0 x||(decide (x.toNat=91)||decide (x.toNat=40))))):=by
  unfold v7;simp only[vX hx,rN hx]
 obtain⟨k,n,s,ts⟩:=t
 rw[a8B hw]
 have hat:=BO k n s ts
 have IM:=LH s
 have hop:=LK s
 have hdg:=aWL x
 have hk3:=fun h=>XA hw h
 generalize T (.mk k n s ts)=u at *
 clear hx c2 c3 c4 hw
 simp only[aX] at c1 hat ⊢
 obtain⟨l,hl⟩:∃l,l=if ts.length=2 then cC s else 0:=⟨_,rfl⟩
 obtain⟨a,ha⟩:∃a,a=(decide (ts.length=0)&&decide (0<cC s)):=⟨_,rfl⟩
 have hlt:(decide (ts.length=2)&&decide (lv<cC s))=decide (lv<l):=by
  rw[hl]
  by_cases h:ts.length=2
  · rw[aG h,eE h,dU]
  · rw[aE h,d5 h,fF,d5 (Nat.not_lt_zero lv)]
 have hab:a=((decide (k=3)&&decide ((ts.length:Int)=0))&&decide ((0:Int)<(cC s:Int))):=by
  have e1:decide ((ts.length:Int)=0)=decide (ts.length=0):=by rw[sN];omega
  have e2:decide ((0:Int)<(cC s:Int))=decide (0<cC s):=by rw[sN];omega
  rw[ha,e1,e2]
  by_cases h:0<cC s
  · rw[eE (hk3 (.inr h)),dU]
  · rw[d5 h,l8,l8]
 rw[hlt,←ha]
 generalize (decide (k=3)&&decide ((ts.length:Int)=0))=b at *
 generalize decide ((0:Int)<(cC s:Int))=o at *
 generalize hpb:v7 (sb u)=pb at *
 generalize hWe:((⟨#[40]⟩:ByteArray)++u)++⟨#[41]⟩=W at *
 refine wF [1000000] 3 func210 ntmps210 rfl rfl ?_
 intro _
 simp only[aA,seval,JQ]
 refine(c1 _ hP).to ?_
 simp only[aF,aA,seval,JQ]
 by_cases h2:ts.length=2
 case' pos=>
  have h2':=cL (show(ts.length:Int)=2 by omega)
  rw[aG h2] at hl
  simp only[h2',fX,↓reduceIte,bM,aA,seval,JQ]
  refine(IM _).to ?_
  rw[←hl]
 case' neg=>
  have h2':=bZ (show ¬(ts.length:Int)=2 by omega)
  rw[aE h2] at hl
  simp only[h2',hix,↓reduceIte,bP,aA,seval]
  rw[show(0:Int)=(l:Int) by rw[hl];try rfl]
 all_goals
  clear hl h2 h2' IM hlt ha hk3
  by_cases b1:97≤x.toNat
  case' pos=>have b1':((97:Int)≤(x.toNat:Int))=True:=cL (by omega)
  case' neg=>have b1':((97:Int)≤(x.toNat:Int))=False:=bZ (by omega)
 all_goals
  by_cases b2:x.toNat≤122
  case' pos=>have b2':((x.toNat:Int)≤122)=True:=cL (by omega)
  case' neg=>have b2':((x.toNat:Int)≤122)=False:=bZ (by omega)
 all_goals
  by_cases b3:65≤x.toNat
  case' pos=>have b3':((65:Int)≤(x.toNat:Int))=True:=cL (by omega)
  case' neg=>have b3':((65:Int)≤(x.toNat:Int))=False:=bZ (by omega)
 all_goals
  by_cases b4:x.toNat≤90
  case' pos=>have b4':((x.toNat:Int)≤90)=True:=cL (by omega)
  case' neg=>have b4':((x.toNat:Int)≤90)=False:=bZ (by omega)
 all_goals
  by_cases b5:x.toNat=91
  case' pos=>have b5':((x.toNat:Int)=91)=True:=cL (by omega)
  case' neg=>have b5':((x.toNat:Int)=91)=False:=bZ (by omega)
 all_goals
  by_cases b6:x.toNat=40
  case' pos=>have b6':((x.toNat:Int)=40)=True:=cL (by omega)
  case' neg=>have b6':((x.toNat:Int)=40)=False:=bZ (by omega)
 all_goals try (exfalso;omega)
 all_goals
  simp only[letter,r0,b1,b2,b3,b4,b5,b6,bM,bP,wJ,l8,wL,vB,oY,yK] at hpl
  simp only[b1',b2',b3',b4',hix,fX,↓reduceIte,bM,bP,jZ,aA,seval]
 all_goals try (refine(hdg _).to ?_)
 all_goals cases hd:dL x
 all_goals try (exfalso;simp only[dL,bV,Bool.and_eq_false_iff,bK,dF] at hd;omega)
 all_goals
  try simp only[hd] at hpl
  try (simp only[b5',b6',fX,↓reduceIte,bM,bP,aA,seval])
 all_goals
  subst hpl
  clear b1 b2 b3 b4 b5 b6 b1' b2' b3' b4' b5' b6' hdg
  by_cases hll:lv<l
  case' pos=>have aMR:((lv:Int)<(l:Int))=True:=cL (by omega)
  case' neg=>have aMR:((lv:Int)<(l:Int))=False:=bZ (by omega)
 all_goals
  rw[show decide (lv<l)=decide ((lv:Int)<(l:Int)) by rw[sN];omega]
  simp only[aMR]
  simp only[hs1,hs2,hWe,true_or,false_or,dQ,wJ,l8,fX,↓reduceIte,bM,bP,jZ,l9,aA,seval,JQ]
 all_goals
  refine(hat _).to ?_
  cases b
  case' false=>obtain rfl:a=false:=by simpa using hab
  all_goals simp only[false_or,fX,↓reduceIte,jZ,aA,seval,JQ]
 all_goals try (refine(hop _).to ?_;cases o;(obtain rfl:a=false:=by simpa using hab);rotate_left;(obtain rfl:a=true:=by simpa using hab))
 all_goals try (simp only[hs1,hs2,hWe,true_or,false_or,fX,↓reduceIte,aA,seval])
 all_goals (cases right;simp only[fX,↓reduceIte,jZ,aA,seval])
 all_goals (simp only[hs1,hs2,hWe,fX,↓reduceIte,jZ,l9,aA,seval])
theorem BM(a b c:ByteArray):(a++b)++c=a++(b++c):=by apply DE;simp [GO]
def JO(T:Tm→ByteArray)(n:Nat)(t:Tm):ByteArray:=if mP t=true then zX T (spine n t) else if BK t=true then((t.s++⟨#[40]⟩)++gX T t.ts)++⟨#[41]⟩ else xT t
abbrev nF:=zi aW (zi cF (zi cW (zi cA (zi bR pP))))
set_option maxHeartbeats 2000000 in
theorem aYV{T:Tm→ByteArray}(n:Nat)(t:Tm)(hn:t.nodes≤n+1)(hws:Ws t)(xK:t.nodes≤1000)(hT:∀x,Ws x→x.nodes<t.nodes→DN T x)(hp:mP t=true)(st:aB)(hP:st iE=some jG):aD prog 213 [t.av,.func 127 []] st (fun r st'=>r=.str (zX T (spine n t))∧st'=st):=by
 obtain⟨q1,q2,q3⟩:=NY n t hws
 obtain⟨e1,e2⟩:=VH n t hn
 have dR:=VG n t
 have hnp:=nA (spine n t).2
 have hne:1≤(spine n t).1.length:=by
  cases n with
  | zero=>obtain⟨m,x,y,rfl⟩:=xX hp;simp only[Tm.gJ,bB] at hn;have:=nA x;omega
  | succ m=>unfold spine;rw[aG hp];simp
 generalize spine n t=p at *
 obtain⟨its,tl⟩:=p
 simp only at q1 q2 q3 e1 e2 dR hnp hne
 have hTi:∀x∈its,DN T x:=fun x hx=>hT x (q1 x hx) (by have:=NE hx;omega)
 obtain⟨c1,c2,c3,c4⟩:=hT tl q2 (by omega)
 have SL:=fun i=>DZ (T:=T) (l:=its.take i) fun x hx=>(hTi x (mC hx)).2.1
 have EW:=fun i=>VM its i
 have hm:maxLen=9223372036854775807:=by rfl
 cases its with
 | nil=>simp at hne
 | cons y its=>
 obtain⟨y1,y2,y3,y4⟩:=hTi y (by simp)
 obtain⟨m,y',z,rfl⟩:=xX hp
 have h0:=(dR 0 y rfl).2
 rw[show qO 0 (.mk 3 m ⟨#[46]⟩ [y',z])=.mk 3 m ⟨#[46]⟩ [y',z] from rfl,uJ.1] at h0
 subst h0
 have hz:qO 1 (.mk 3 m ⟨#[46]⟩ [y',z])=z:=rfl
 have ha1:gX T [y']=T y':=YZ _
 have hs0:(⟨#[91]⟩:ByteArray).size+(T y').size≤maxLen:=by show 1+_≤_;omega
 have hs1:∀i,(⟨#[91]⟩:ByteArray).size+(gX T ((y'::its).take i)).size≤100000:=fun i=>by
  have h1:=SL i
  have h2:=EW i
  have h3:((y'::its).take i).length≤(y'::its).length:=by rw[c7];omega
  show 1+_≤_
  omega
 have hs2:∀i,((⟨#[91]⟩:ByteArray)++gX T ((y'::its).take i)).size≤100000:=fun i=>by
  rw[cK]
  exact hs1 i
 refine aD.m8 ?_
 simp only[aX]
 have hi0:=bH (av:=Tm.av) (l:=[y',z]) (i:=0) bQ rfl (aN y')
 have hi1:=bH (av:=Tm.av) (l:=[y',z]) (i:=1) bQ rfl (aN z)
 rw[show((0:Nat):Int)=0 from rfl] at hi0
 rw[show((1:Nat):Int)=1 from rfl] at hi1
 simp only[bA,aY] at hi0 hi1 ⊢
 have hpt:=HL (.mk 3 m ⟨#[46]⟩ [y',z])
 rw[hp] at hpt
 simp only[aX,bA,aY] at hpt
 refine wF [1000000,6] 2 func213 ntmps213 rfl rfl ?_
 intro _
 simp only[↓reduceIte,bP,aA,seval,nF]
 refine(hpt _).to ?_
 simp only[a7,aN,↓reduceIte,hi0,aA,seval,nF]
 refine(y1 _ hP).to ?_
 simp only[hs0,aK,a7,aN,cI,cE,↓reduceIte,hi1,aA,↓aS,seval,nF]
 intro b1 hb1
 have hPb:∀o,(st.aC b1 o) iE=some jG:=fun o=>by rw[aB.aH _ _ (fun e=>by rw[←e,hP] at hb1;cases hb1)];exact hP
 have hD:=fun(o:AO)=>(aL.refl st).aC (o:=o) hb1
 refine dX (σ:=Unit) [1000000,6] [1,2,4,6] its (fun _ _=>True) (fun i _=>[(5,.str (⟨#[91]⟩++gX T ((y'::its).take (i+1))))]) (fun i _=>st.aC b1 (.cells (qO (i+1) (.mk 3 m ⟨#[46]⟩ [y',z])).av.cells)) (by decide +kernel) ⟨(),trivial,aO.mk (by simp only[gZ,ha1,↓reduceIte,aA,seval])⟩ (fun i x _ hx hlt bL hdr _=>?_) (fun _ hge _=>?_)
 case refine_1=>
  obtain⟨g1,g2⟩:=dR (i+1) x (by simpa using hx)
  have hst:=VF (i+1) (.mk 3 m ⟨#[46]⟩ [y',z])
  have g7:=YV (T:=T) (l:=y'::its) (i:=i+1) (x:=x) (by simpa using hx)
  rw[aG (by omega)] at g7
  obtain⟨x1,x2,x3,x4⟩:=hTi x (by simp [cH hx])
  have hsA:=hs2 (i+1)
  have hsB:=hs2 (i+1+1)
  generalize qO (i+1) (.mk 3 m ⟨#[46]⟩ [y',z])=u at *
  have hpu:=HL u
  rw[g1] at hpu
  obtain⟨m',w1,w2,rfl⟩:=xX g1
  rw[uJ.1] at g2
  rw[uJ.2] at hst
  subst g2
  have hcs:(Tm.mk 3 m' ⟨#[46]⟩ [w1,w2]).av.cells= [.int .i64 3,.int .i64 m',.str ⟨#[46]⟩,.slice [w1.av,w2.av]]:=by rw[aX];try rfl
  have hlk:=aB.aJ st b1 (.cells [.int .i64 3,.int .i64 m',.str ⟨#[46]⟩,.slice [w1.av,w2.av]])
  have hj0:=bH (av:=Tm.av) (l:=[w1,w2]) (i:=0) bQ rfl (aN w1)
  have hj1:=bH (av:=Tm.av) (l:=[w1,w2]) (i:=1) bQ rfl (aN w2)
  rw[show((0:Nat):Int)=0 from rfl] at hj0
  rw[show((1:Nat):Int)=1 from rfl] at hj1
  simp only[aX,bA,aY] at hpu hj0 hj1
  rw[hcs,hst]
  rw[g7,←BM,←BM,BM] at hsB
  rw[g7,←BM,←BM,BM (⟨#[91]⟩++_)]
  generalize (⟨#[91]⟩:ByteArray)++gX T ((y'::its).take (i+1))=A at *
  have hg1:(⟨#[44]⟩:ByteArray).size+(T w1).size≤maxLen:=by show 1+_≤_;omega
  have hg2:A.size+((⟨#[44]⟩:ByteArray)++T w1).size≤maxLen:=by rw[←cK];omega
  simp only[↓reduceIte,hlk,aA,seval,nF]
  refine(hpu _).to ?_
  simp only[a7,aN,↓reduceIte,hlk,hj0,aA,seval,nF]
  refine(x1 _ (hPb _)).to ?_
  simp only[aK,a7,aN,cI,cE,↓reduceIte,hlk,hj1,hg1,hg2,dO,aA,seval,nF]
  exact⟨(),aO.mk (by simp only[↓reduceIte,aA,seval])⟩
 have htk:(y'::its).take (its.length+1)=y'::its:=lM (by simp)
 have hsA:=hs2 (its.length+1)
 rw[htk] at hsA ⊢
 rw[show qO (its.length+1) (.mk 3 m ⟨#[46]⟩ [y',z])=tl from e1.symm]
 have hpu:=HL tl
 rw[e2] at hpu
 have hnt:=aWM tl
 unfold zX
 simp only
 obtain⟨A,hA⟩:∃A,A=(⟨#[91]⟩:ByteArray)++gX T (y'::its):=⟨_,rfl⟩
 rw[←hA] at hsA ⊢
 have hlk:=aB.aJ st b1 (.cells tl.av.cells)
 have hag:=fG (a7 tl)
 have hw1:A.size+(⟨#[93]⟩:ByteArray).size≤maxLen:=by show _+1≤_;omega
 simp only[cE,fN (cE _),fG (a7 _),↓reduceIte,hlk,aA,seval,nF]
 refine(hpu _).to ?_
 simp only[cE,fN (cE _),fG (a7 _),↓reduceIte,hlk,aA,seval,nF]
 refine(hnt _).to ?_
 cases hnk:CE tl with
 | true=>
  rw[aG rfl]
  simp only[hw1,jZ,↓reduceIte,aA,seval]
  exact hD _
 | false=>
  rw[aE (by decide),BM A]
  have hg1:(⟨#[124]⟩:ByteArray).size+(T tl).size≤maxLen:=by show 1+_≤_;omega
  have hg2:A.size+((⟨#[124]⟩:ByteArray)++T tl).size≤maxLen:=by rw[cK];show _+(1+_)≤_;omega
  have hg3:(A++((⟨#[124]⟩:ByteArray)++T tl)).size+(⟨#[93]⟩:ByteArray).size≤maxLen:=by rw[cK,cK];show _+(1+_)+1≤_;omega
  simp only[l9,cE,fN (cE _),fG (a7 _),↓reduceIte,hlk,aA,seval,nF]
  refine(c1 _ (hPb _)).to ?_
  simp only[hg1,hg2,hg3,↓reduceIte,aA,seval]
  exact hD _
set_option maxHeartbeats 2000000 in
theorem aYT{T:Tm→ByteArray}(t:Tm)(hws:Ws t)(xK:t.nodes≤1000)(hT:∀x,Ws x→x.nodes<t.nodes→DN T x)(hp:mP t=false)(ha:BK t=true)(st:aB)(hP:st iE=some jG):aD prog 213 [t.av,.func 127 []] st (fun r st'=>r=.str (((t.s++⟨#[40]⟩)++gX T t.ts)++⟨#[41]⟩)∧st'=st):=by
 obtain⟨k,m,s,ts⟩:=t
 have hpt:=HL (.mk k m s ts)
 rw[hp] at hpt
 rw[HH,bV,bK,bK] at ha
 obtain⟨rfl,h0⟩:=ha
 have h0':((ts.length:Int)=0)=False:=bZ (by omega)
 simp only[Tm.gJ] at xK hT
 have hk:=hws.own.2
 have h6:s.size≤6:=hws.size.1
 have h4:ts.length≤4:=by rcases z7 hws.own.1 with h | h | h<;>omega
 have hTi:∀x∈ts,DN T x:=fun x hx=>hT x (hk x hx) (by have:=NE hx;omega)
 have SL:=DZ (T:=T) (l:=ts) fun x hx=>(hTi x hx).2.1
 have hm:maxLen=9223372036854775807:=by rfl
 have hjn:=aOB (ts.map T) 44 (by rw[aF];omega) (by rw[←YU];omega)
 rw[←YU] at hjn
 show aD prog 213 _ st (fun r st'=>r=.str (((s++⟨#[40]⟩)++gX T ts)++⟨#[41]⟩)∧st'=st)
 have hs1:s.size+(⟨#[40]⟩:ByteArray).size≤maxLen:=by show _+1≤_;omega
 have hs2:(s++(⟨#[40]⟩:ByteArray)).size+(gX T ts).size≤maxLen:=by rw[cK];show _+1+_≤_;omega
 have hs3:((s++(⟨#[40]⟩:ByteArray))++gX T ts).size+(⟨#[41]⟩:ByteArray).size≤maxLen:=by rw[cK,cK];show _+1+_+1≤_;omega
 generalize gX T ts=A at *
 simp only[aX] at hpt ⊢
 refine wF [1000000,6] 2 func213 ntmps213 rfl rfl ?_
 intro _
 simp only[↓reduceIte,bP,aA,seval,nF]
 refine(hpt _).to ?_
 simp only[↓reduceIte,h0',aF,bP,aA,seval,nF]
 refine oW (σ:=Unit) [1000000,6] [1,2,4,72,73] ts 1 7 (fun i _=>(ts.take i).map fun x=>.str (T x)) (fun _ _=>True) (fun i _=>[(74,.int .i64 (i:Int))]) (fun i _=>st) (fun i _ _ e he=>by simp only[cB] at he;obtain⟨x,_,rfl⟩:=he;exact⟨rfl,rfl⟩) (by decide +kernel) ⟨(),0,trivial,fun h=>absurd rfl h,aO.mk (by simp only[iV,jA,aY,↓reduceIte,aA,↓aS,seval])⟩ (fun i x s' b hx hlt bL hdr hinv hb=>?_) (fun s' b hge hinv=>?_)
 case refine_1=>
  have hat:=bH (av:=Tm.av) bQ hx (aN x)
  have cM:((ts.take i).map fun x=>AV.str (T x)).length=i:=by simp only[aF,c7];omega
  have htk:(ts.take i).map (fun x=>AV.str (T x))++ [.str (T x)]=(ts.take (i+1)).map fun x=>AV.str (T x):=by rw[dY,hx];simp
  have hPa:(bE st b ((ts.take i).map fun x=>AV.str (T x))) iE=some jG:=HE hb hP
  have hwi:=bF (n:=(i:Int)+1)
  have hLw:∀e∈(ts.take i).map (fun x=>AV.str (T x)),e.width=1:=fun e he=>by simp only[cB] at he;obtain⟨x,_,rfl⟩:=he;rfl
  obtain⟨x1,x2,x3,x4⟩:=hTi x (cH hx)
  generalize (ts.take i).map (fun x=>AV.str (T x))=L at *
  simp only[bL,a7,aN,cI,cP,↓reduceIte,hat,aA,↓aS,seval,nF]
  refine(x1 _ hPa).to ?_
  simp only[↓reduceIte,aA,seval,nF]
  refine eO sO L4 L7 rfl rfl (fQ rfl rfl) (fun e he=>hLw e he) hb (by simp only[cM,aU,aZ];omega) (by simp only[cM,aU,aZ];omega) (fun b' hb'=>?_)
  rw[htk] at hb' ⊢
  simp only[hwi,↓reduceIte,aA,seval]
  exact⟨(),b',hb',aO.mk (by simp only[↓reduceIte,aA,seval])⟩
 rw[dS]
 rw[pR] at hjn
 simp only[hge,eW,m9,iO,zJ,R7,kJ,↓reduceIte,aA,seval]
 refine wP [(0,1),(3,1),(1,2),(2,1),(4,2),(5,1),(6,1),(7,1)] [0,3,1,2,4,5,6,7] mixed ?_
 simp only[hs1,↓reduceIte,aA,seval,nF]
 refine gP (hjn _) ?_
 simp only[hs2,hs3,↓reduceIte,aA,seval]
theorem aYU(t:Tm)(hws:Ws t)(ha:mP t=false)(hb:BK t=false)(st:aB)(hP:st iE=some jG):aD prog 213 [t.av,.func 127 []] st (fun r st'=>r=.str (xT t)∧st'=st):=by
 obtain⟨k,n,s,ts⟩:=t
 have hpt:=HL (.mk k n s ts)
 rw[ha] at hpt
 rw[HH] at hb
 rw[show xT (.mk k n s ts)=if k=1 then v6 n else if k=2 then m7 n else s from rfl]
 simp only[aX] at hpt ⊢
 refine wF [1000000,6] 2 func213 ntmps213 rfl rfl ?_
 intro _
 rcases z7 hws.own.1 with ⟨rfl,h1,h2,rfl,h4⟩ | ⟨rfl,h1,h2,rfl,h4⟩ | ⟨rfl,rfl,h2,h4⟩
 · obtain⟨m,rfl⟩:=qR h1
   simp only[↓reduceIte,bM,aA,seval,nF]
   refine(aAF m (by omega) _).to ?_
   simp only[↓reduceIte,aA,seval]
 · simp only[↓reduceIte,bM,bP,aA,seval,nF]
   refine(UA n h1 h2 _ hP).to ?_
   simp only[↓reduceIte,aA,seval]
 · simp only[bM,dU,dF] at hb
   have h0':((ts.length:Int)=0)=True:=cL (by omega)
   simp only[↓reduceIte,bP,aA,seval,nF]
   refine(hpt _).to ?_
   simp only[h0',aF,↓reduceIte,aF,bM,aA,seval,nF]
abbrev yC:=zi aW (zi cF (zi cW (zi cA bR)))
set_option maxHeartbeats 2000000 in
theorem aYZ:∀(n:Nat) (t:Tm) (st:aB),Ws t→t.nodes≤n→t.nodes≤1000→st iE=some jG→aD prog 127 [t.av] st (fun r st'=>r=.str (tx n t)∧st'=st):=by
 intro n
 induction n with
 | zero=>intro t st _ h;have:=nA t;omega
 | succ n IH=>
 intro t st hws hn xK hP
 have hsz:=C6 (n+1) t hws
 have hT:∀x,Ws x→x.nodes<t.nodes→DN (tx n) x:=fun x hx hlt=>⟨fun st hP=>IH x st hx (by omega) (by omega) hP,C6 n x hx,W3 hx (by have:=nA x;omega),by omega⟩
 have hm:maxLen=9223372036854775807:=by rfl
 have htx:tx (n+1) t=if qE t=true then(sV (tx n) (nW t 0) (lvl (cC t.s))++oU t.s)++sZ (tx n) (nW t 1) (cC t.s - 1) else JO (tx n) n t:=by
  unfold JO
  rw[tx]
  cases hi:qE t with
  | false=>simp
  | true=>
   obtain⟨m,s,x,y,rfl,hs⟩:=IW hi
   have:mP (.mk 3 m s [x,y])=false:=by
    rw[NL]
    have h:s≠⟨#[46]⟩:=by rintro rfl;exact absurd hs (by decide)
    simp [h]
   rw[this]
   simp
 rw[htx] at hsz ⊢
 have EZ:qE t=false→∀st,st iE=some jG→aD prog 213 [t.av,.func 127 []] st (fun r st'=>r=.str (JO (tx n) n t)∧st'=st):=fun _ st hP=>by
  unfold JO
  cases hp:mP t with
  | true=>rw[aG rfl];exact aYV n t hn hws xK hT hp st hP
  | false=>
   rw[aE (by decide)]
   cases ha:BK t with
   | true=>rw[aG rfl];exact aYT t hws xK hT hp ha st hP
   | false=>rw[aE (by decide)];exact aYU t hws hp ha st hP
 cases hi:qE t with
 | false=>
  have EZ:=EZ hi
  rw[aE (by decide)]
  generalize JO (tx n) n t=A at *
  obtain⟨k,m,s,ts⟩:=t
  rw[TR] at hi
  have hop:=LK s
  simp only[aX] at EZ ⊢
  refine wF [1000000] 1 func127 ntmps127 rfl rfl ?_
  intro _
  by_cases hk:k=3
  case neg=>
   have hk':=bZ hk
   simp only[↓reduceIte,hk',bP,aA,seval,yC]
   refine(EZ _ hP).to ?_
   simp only[↓reduceIte,aA,seval]
  have hk':=cL hk
  by_cases h2:ts.length=2
  case neg=>
   have h2':=bZ (show ¬((ts.length:Int)=2) by omega)
   simp only[↓reduceIte,hk',h2',aF,bM,bP,aA,seval,yC]
   refine(EZ _ hP).to ?_
   simp only[↓reduceIte,aA,seval]
  have h2':=cL (show(ts.length:Int)=2 by omega)
  have h3:¬ 0<cC s:=by simpa [hk,h2] using hi
  have h3':=bZ (show ¬((0:Int)<(cC s:Int)) by omega)
  simp only[↓reduceIte,hk',h2',aF,bM,aA,seval,yC]
  refine(hop _).to ?_
  simp only[bP,↓reduceIte,h3',bP,aA,seval,yC]
  refine(EZ _ hP).to ?_
  simp only[↓reduceIte,aA,seval]
 | true=>
  rw[aG rfl]
  rw[hi,aG rfl] at hsz
  obtain⟨m,s,x,y,rfl,hs⟩:=IW hi
  have hk:=hws.own.2
  have hxl:x.nodes<(Tm.mk 3 m s [x,y]).nodes:=by simp only[Tm.gJ,bB];have:=nA y;omega
  have hyl:y.nodes<(Tm.mk 3 m s [x,y]).nodes:=by simp only[Tm.gJ,bB];have:=nA x;omega
  have hx:=hT x (hk x (by simp)) hxl
  have hy:=hT y (hk y (by simp)) hyl
  rw[uJ.1,uJ.2,show(Tm.mk 3 m s [x,y]).s=s from rfl] at hsz ⊢
  have hl3:=(UG hs).2.1
  have hll:lvl (cC s)≤10:=by unfold lvl;split<;>omega
  have cl:=fun st hP=>aAU x (hk x (by simp)) hx (lvl (cC s)) hll false st hP
  have cr:=fun st hP=>aAU y (hk y (by simp)) hy (cC s - 1) (by omega) true st hP
  rw[show I6 (tx n) x (lvl (cC s)) false=sV (tx n) x (lvl (cC s)) from rfl] at cl
  rw[show I6 (tx n) y (cC s - 1) true=sZ (tx n) y (cC s - 1) from rfl] at cr
  have csp:=aYE s hs
  have clm:=aX8 s hs
  have clv:=LH s
  have hop:=LK s
  rw[cK,cK] at hsz
  generalize sV (tx n) x (lvl (cC s))=A at *
  generalize sZ (tx n) y (cC s - 1)=B at *
  generalize oU s=C at *
  have hs1:A.size+C.size≤maxLen:=by omega
  have hs2:(A++C).size+B.size≤maxLen:=by rw[cK];omega
  have hi0:=bH (av:=Tm.av) (l:=[x,y]) (i:=0) bQ rfl (aN x)
  have hi1:=bH (av:=Tm.av) (l:=[x,y]) (i:=1) bQ rfl (aN y)
  rw[show((0:Nat):Int)=0 from rfl] at hi0
  rw[show((1:Nat):Int)=1 from rfl] at hi1
  simp only[aX,bA,aY] at hi0 hi1 ⊢
  have a5J:((0:Int)<(cC s:Int))=True:=cL (by omega)
  generalize lvl (cC s)=L0 at *
  generalize cC s=L at *
  obtain⟨L1,hL1⟩:∃L1,L1=L - 1:=⟨_,rfl⟩
  have hw:=nJ (x:=(L:Int) - 1) (m:=L1) (by omega) (by omega)
  rw[←hL1] at cr
  refine wF [1000000] 1 func127 ntmps127 rfl rfl ?_
  intro _
  simp only[↓reduceIte,bM,aA,↓aS,seval,yC]
  refine(hop _).to ?_
  simp only[↓reduceIte,a5J,bM,aA,seval,yC]
  refine(clv _).to ?_
  simp only[↓reduceIte,aA,seval]
  refine wP [(0,1),(4,1),(8,1),(12,1),(16,1),(17,1),(1,2),(2,1),(3,2),(5,2),(6,2),(7,2),(9,2),(10,2),(11,1),(13,2),(14,1),(15,2),(18,2),(19,1),(20,1)] [0,4,8,12,16,17,1,2,3,5,6,7,9,10,11,13,14,15,18,19,20] mixed ?_
  simp only[a7,aN,↓reduceIte,hi0,hw,aA,seval,yC]
  refine gP (clm _) ?_
  simp only[↓reduceIte,aA,seval]
  refine gP (cl _ hP) ?_
  simp only[↓reduceIte,aA,seval,yC]
  refine gP (csp _) ?_
  simp only[a7,aN,↓reduceIte,hi1,hs1,aA,seval,yC]
  refine gP (cr _ hP) ?_
  simp only[↓reduceIte,hs2,aA,seval]
theorem aYY(t:Tm)(ht:t.valid=true)(st:aB)(hP:st iE=some jG):aD prog 127 [t.av] st (fun r st'=>r=.str (tx 1000 t)∧st'=st):=by
 have:=Tm.C8 ht
 exact aYZ 1000 t st ⟨30,by simp only[Tm.valid,bV] at ht;exact ht.1⟩ (by omega) (by omega) hP
theorem aSB{t:Tm}(ht:t.valid=true):(tx 1000 t).size≤3840∧1≤(tx 1000 t).size:=by
 have hn:=Tm.C8 ht
 have hw:Ws t:=⟨30,by simp only[Tm.valid,bV] at ht;exact ht.1⟩
 exact⟨by have:=C6 1000 t hw;omega,W3 hw (by decide)⟩
theorem Y5{v:Int}{t:Tm}(ht:t.valid=true):(nP v t).size≤3842∧1≤(nP v t).size:=by
 obtain⟨h1,h2⟩:=aSB ht
 unfold nP
 rw[cK,cK]
 show 1+1+_≤_∧1≤1+1+_
 omega
theorem aLM{q a:List Tm}(hf:uA q a=true):g8 q=true∧a.length=(bT q []).length∧(∀x∈a,x.valid=true)∧(∀v∈bT q [],0≤v∧v<26)∧(bT q []).length≤26:=by
 simp only[uA,bV,bK,dW] at hf
 obtain⟨⟨h1,h2⟩,h3⟩:=hf
 obtain⟨v1,v2⟩:=UR (FN h1).2
 exact⟨h1,h2,h3,v1,v2⟩
theorem a29{q a:List Tm}(hf:uA q a=true):1≤(EF q a).size:=by
 obtain⟨_,h2,h3,_,_⟩:=aLM hf
 unfold EF
 rw[aG hf]
 unfold K7
 split
 · exact by decide
 · rename_i hv
   refine a6U (fun e=>hv ?_) fun x hx=>?_
   · have:=eA List.length e
     rw[aF,List.length_zip,aZ,h2,Nat.min_self] at this
     exact PJ.1 this
   · obtain⟨p,hp,rfl⟩:=cB.1 hx
     exact(Y5 (h3 _ (List.of_mem_zip hp).2)).2
theorem a28{q a:List Tm}(hf:uA q a=true):¬EF q a=⟨#[]⟩:=fun e=>by
 have:=a29 hf
 rw[e] at this
 exact absurd this (by decide)
abbrev FZ:=zi aW (zi cW (zi fJ (zi cA (zi tD (zi bR pP)))))
set_option maxHeartbeats 1000000 in
theorem aVV(q a:List Tm)(hf:uA q a=true)(st:aB)(hP:st iE=some jG):aD prog 57 [.slice (q.map Tm.av),bU a] st (fun r st'=>r=.str (K7 (bT q []) a)∧st'=st):=by
 obtain⟨hq,hal,hva,a5W,hvl⟩:=aLM hf
 have hvo:=HP q
 have hnd:=aOT hq
 generalize bT q []=V at *
 have hzl:(V.zip a).length=V.length:=by rw[List.length_zip,hal,Nat.min_self]
 have hsz:(qG 59 ((V.zip a).map fun p=>nP p.1 p.2)).size≤140737488355328:=by
  have:=a6V (c:=59) (l:=(V.zip a).map fun p=>nP p.1 p.2) (B:=3842) fun x hx=>by
   obtain⟨p,hp,rfl⟩:=cB.1 hx
   exact(Y5 (hva _ (List.of_mem_zip hp).2)).1
  rw[aF,hzl] at this
  refine kQ this (kQ (tN _ hvl) (by decide))
 have hjn:=aOB ((V.zip a).map fun p=>nP p.1 p.2) 59 (by rw[aF,hzl];omega) (by generalize (qG 59 ((V.zip a).map fun p=>nP p.1 p.2)).size=z at *;omega)
 have hm:maxLen=9223372036854775807:=by rfl
 refine wF [1000000] 2 func57 ntmps57 rfl rfl ?_
 intro _
 simp only[aA,seval,FZ]
 refine(hvo _ hnd).to ?_
 simp only[aF,aA,seval,FZ]
 refine oW (σ:=Unit) [1000000] [3,4,9,10] (V.zip a) 1 5 (fun i _=>((V.zip a).take i).map fun p=>.str (nP p.1 p.2)) (fun _ _=>True) (fun i _=>[(11,.int .i64 (i:Int))]) (fun i _=>st) (fun i _ _ e he=>by simp only[cB] at he;obtain⟨x,_,rfl⟩:=he;exact⟨rfl,rfl⟩) (by decide +kernel) ⟨(),0,trivial,fun h=>absurd rfl h,aO.mk (by simp only[iV,jA,aY,aA,↓aS,seval])⟩ (fun i x s' b hx hlt bL hdr hinv hb=>?_) (fun s' b hge hinv=>?_)
 case refine_1=>
  obtain⟨v,x⟩:=x
  obtain⟨hv,hxa⟩:=List.getElem?_zip_eq_some.1 hx
  simp only at hv hxa
  have cM:(((V.zip a).take i).map fun p=>AV.str (nP p.1 p.2)).length=i:=by simp only[aF,c7];omega
  have htk:((V.zip a).take i).map (fun p=>AV.str (nP p.1 p.2))++ [.str (nP v x)]=((V.zip a).take (i+1)).map fun p=>AV.str (nP p.1 p.2):=by rw[dY,hx];simp
  have hPa:(bE st b (((V.zip a).take i).map fun p=>AV.str (nP p.1 p.2))) iE=some jG:=HE hb hP
  have hLw:∀e∈((V.zip a).take i).map (fun p=>AV.str (nP p.1 p.2)),e.width=1:=fun e he=>by simp only[cB] at he;obtain⟨x,_,rfl⟩:=he;rfl
  generalize ((V.zip a).take i).map (fun p=>AV.str (nP p.1 p.2))=L at *
  have hwi:=bF (n:=(i:Int)+1)
  have hi:=cL (show(i:Int)<(V.length:Int) by omega)
  have a3U:c8 prog 26 (.slice (V.map iv)) (.int .i64 (i:Int))=some (.pptr (iv v)):=bH (av:=iv) fO hv rfl
  have SN:c8 prog 34 (.slice (a.map Tm.av)) (.int .i64 (i:Int))=some (.pptr x.av):=bH (av:=Tm.av) bQ hxa (aN x)
  have hvv:=a5W v (cH hv)
  obtain⟨m,rfl⟩:=qR hvv.1
  have hxv:=hva x (cH hxa)
  have hxs:=(aSB hxv).1
  have hcw:=fun st (hs:eD (one iE jG) st)=>aYY x hxv st (hs iE jG uM)
  have hbt:nP m x=(v6 m++⟨#[61]⟩)++tx 1000 x:=rfl
  rw[hbt] at htk
  generalize tx 1000 x=X at *
  have hs1:(v6 m).size+(⟨#[61]⟩:ByteArray).size≤maxLen:=by show 1+1≤_;omega
  have hs2:(v6 m++(⟨#[61]⟩:ByteArray)).size+X.size≤maxLen:=by rw[cK];show 1+1+_≤_;omega
  simp only[hi,a3U,aA,seval,FZ]
  refine wX [(0,1),(1,1),(2,1),(3,1),(4,1),(5,1),(6,1),(7,1),(8,1),(9,1),(10,1),(11,1),(12,0),(13,1)] [0,1,2,3,4,5,6,7,8,9,10,11,13] (one iE jG) mixed rfl (fP hPa) ?_
  simp only[aA,seval]
  refine D5 (fun st _=>aAF m (by omega) st) ?_
  simp only[hs1,SN,a7,aN,aA,seval,FZ]
  refine D5 hcw ?_
  simp only[hs2,aA,seval,FZ]
  refine eO sO L4 L7 rfl rfl (fQ rfl rfl) (fun e he=>hLw e he) hb (by simp only[cM,aU,aZ];omega) (by simp only[cM,aU,aZ];omega) (fun b' hb'=>?_)
  rw[htk] at hb' ⊢
  simp only[hwi,aA,seval]
  exact⟨fP (HE hb' hP),(),b',hb',aO.mk (by simp only[aA,seval])⟩
 rw[dS]
 rw[pR] at hjn
 rw[hzl] at hge ⊢
 simp only[hge,eW,m9,iO,zJ,kJ,aF,hzl,aF,aA,seval,FZ]
 unfold K7
 by_cases hV:V= []
 · rw[aG hV]
   have h0:=cL (show(V.length:Int)=0 by rw[hV];try rfl)
   simp only[h0,aA,seval]
 · rw[aE hV]
   have h0:=bZ (show ¬(V.length:Int)=0 from fun e=>hV (PJ.1 (by omega)))
   simp only[h0,aA,seval]
   refine(hjn _).to ?_
   simp only[aA,seval]
abbrev aQD:=zi cF (zi cW (zi cA tD))
theorem aWD(q a:List Tm)(st:aB)(hP:st iE=some jG):aD prog 13 [.slice (q.map Tm.av),bU a] st (fun r st'=>r=.str (EF q a)∧st'=st):=by
 have hf:=aV5 a q
 have ht:=fun h=>aVV q a h
 unfold EF
 refine wF [1000000] 2 func13 ntmps13 rfl rfl ?_
 intro _
 simp only[aA,seval,aQD]
 refine(hf _).to ?_
 cases h:uA q a with
 | false=>
  rw[aE (by decide)]
  simp only[l9,aA,seval]
 | true=>
  rw[aG rfl]
  simp only[jZ,aA,seval,aQD]
  refine(ht h _ hP).to ?_
  simp only[aA,seval]
theorem a9Q{L:List Ss}{n:Int}{k w:Nat}{a:List Tm}(h1:(iB L n).1[k]?=some w)(h2:(iB L n).2.1[k]?=some a):∃s,L[w]?=some s∧uA s.q a=true:=by
 unfold iB at h1 h2
 split at h1
 case isFalse=>simp at h1
 rename_i h
 rw[aG h] at h2
 obtain⟨hI,_,_,hm⟩:=U0 h
 have hil:=hI.wr w (cH h1)
 obtain⟨s,hs⟩:∃s,L[w]?=some s:=⟨_,d4 hil⟩
 have eT:=TW k h1 h2
 rw[hm w s hs,H4] at eT
 obtain⟨hq,hal,hav,_⟩:=bAK s.p (cnd:=fun _ l=>l) (fun _ l=>⟨fun _ h=>h,cU _⟩) s.q 20 s.dJ a (KO eT)
 exact⟨s,hs,by simp only[uA,hq,hal,hav,bM,Bool.and_self]⟩
theorem a9P{L:List Ss}{n:Int}:∀e∈(iB L n).2.2,e≠-1∧e≠9:=by
 unfold iB
 split
 · rename_i h
   obtain⟨_,_,h3⟩:=JG.1 h
   obtain⟨_,_,hE,_⟩:=U0 h
   intro e he
   simp only[hE,cB] at he
   obtain⟨s,hs,rfl⟩:=he
   have hr:uQ s=true:=by have:=h3 s hs;simp only[fE,bV] at this;exact this.1
   have hok:=N1 hr
   have hr':=hr
   simp only[uQ,bV,bK] at hr'
   obtain⟨kp,kq,h1,h2,hu,hv⟩:=FV.1 hok
   have a5H:jK s.p s.q 20 s.dJ=true:=FV.2 ⟨kp,kq,h1,h2,by omega,by omega⟩
   rw[H4]
   have h0:=aPR (p:=s.p) (cnd:=fun _ l=>l) (q:=s.q) (most:=20) (fuel:=s.dJ)
   have h9:=bAM (p:=s.p) (cnd:=fun _ l=>l) (q:=s.q) (most:=20) (fuel:=s.dJ)
   rw[a5H] at h9
   exact⟨by omega,fun e=>by simp [e] at h9⟩
 · simp
abbrev F0:=zi aW (zi cF (zi cW (zi C4 (zi AR (zi fJ (zi nH (zi cA (zi lG tD))))))))
set_option maxHeartbeats 4000000 in
theorem aVJ(code:List Bt)(st:aB)(hP:st iE=some jG):aD prog 3 [.slice (code.map iM)] st (fun r st'=>r=.bool true∧st' iE=some jG):=by
 refine wF [1000000] 1 func3 ntmps3 rfl rfl ?_
 intro _
 simp only[aF,aA,seval,F0]
 refine aP (fun h1=>?_) (fun h1=>?_)
 · simp only[hP,aA,seval]
 simp only[aA,seval]
 refine(aVI code _).mono ?_
 rintro _ s1 ⟨⟨L,n,hL,hds,rfl⟩,rfl⟩
 have hsm:∀s∈L,VK s:=fun s hs=>(hds s hs).small
 have hsp:=aYP L n (by omega) hsm
 have him:=fun st=>aWH L n (by omega) st
 have hok:=a9O L n
 have hft:=fun(k w:Nat) (a:List Tm) h1 h2=>a9Q (L:=L) (n:=n) (k:=k) (w:=w) (a:=a) h1 h2
 have hen:=a9P (L:=L) (n:=n)
 generalize iB L n=V at *
 obtain⟨W,A,E⟩:=V
 simp only at hsp him hok hft hen
 obtain⟨ok1,ok2,ok3,ok4⟩:=hok
 unfold KQ at him
 have hpw:∀st,aD prog 11 [.slice (W.map nv),.slice (W.map nv)] st (fun r st'=>r=.bool true∧st'=st):=fun st=>by rw[a7U];exact aAG _ st
 have hpe:=aAG E
 have hpa:=aYF A
 have II:=fun st=>(him st).aNU
 clear him
 simp only[aA,seval]
 refine(II _).to ?_
 simp only[aA,seval]
 refine(hsp _).to ?_
 simp only[aA,seval]
 refine(hpw _).to ?_
 simp only[jZ,aA,seval]
 refine(hpa _).to ?_
 simp only[jZ,aA,seval]
 refine(hpe _).to ?_
 simp only[jZ,aA,seval]
 refine dX (σ:=Unit) [1000000] [3,5,6,7] W (fun _ _=>True) (fun i _=>[(2,.bool false),(11,.int .i64 i)]) (fun _ _=>s1) (by decide +kernel) ⟨(),trivial,aO.mk (by simp only[aA,↓aS,seval])⟩ (fun i w _ hw hlt bL a4I _=>?_) (fun _ hge _=>?_)
 case refine_2=>
  simp only[hge,aF,aA,seval,F0]
  refine dX (σ:=Unit) [1000000] [7] E (fun _ _=>True) (fun i _=>[(2,.bool false),(12,.int .i64 i)]) (fun _ _=>s1) (by decide +kernel) ⟨(),trivial,aO.mk (by simp only[aA,↓aS,seval])⟩ (fun i e _ he hlt bL a4I _=>?_) (fun _ hge _=>?_)
  case refine_2=>
   simp only[hge,hP,aF,aA,seval,F0]
  obtain⟨e1,e2⟩:=hen e (cH he)
  have e1':=bZ e1
  have e2':=bZ e2
  have IA:c8 prog 26 (.slice (E.map iv)) (.int .i64 (i:Int))=some (.pptr (iv e)):=bH (av:=iv) fO he rfl
  have hwi:=bF (n:=(i:Int)+1)
  simp only[bL,e1',e2',bM,bP,aF,IA,hwi,aA,seval,F0]
  exact⟨(),aO.mk (by simp only[aA,seval])⟩
 obtain⟨a,ha⟩:∃a,A[i]?=some a:=⟨_,d4 (by omega)⟩
 obtain⟨s,hs,hfm⟩:=hft i w a hw ha
 have hwl:=(fA.1 hs).1
 have hFm:=fun st hP=>aWD s.q a st hP
 have hne:=bZ (a28 hfm)
 generalize EF s.q a=tt at *
 obtain⟨sp,sq,i0,i1,i2,i3⟩:=s
 simp only at hFm hfm
 have a3V:c8 prog 26 (.slice (W.map nv)) (.int .i64 (i:Int))=some (.pptr (.int .i64 (w:Int))):=bH (av:=nv) fO hw rfl
 have SN:c8 prog 27 (.slice (A.map bU)) (.int .i64 (i:Int))=some (.pptr (bU a)):=bH (av:=bU) oN ha rfl
 have a3T:c8 prog 23 (.slice (L.map aT)) (.int .i64 (w:Int))=some (.pptr (aT ⟨sp,sq,i0,i1,i2,i3⟩)):=bH (av:=aT) pC hs rfl
 have hwi:=bF (n:=(i:Int)+1)
 have hw0:=bZ (show ¬((w:Int)<0) by omega)
 have hw1:=bZ (show ¬((L.length:Int)≤(w:Int)) by omega)
 simp only[bL,bM,aF,aA,seval,F0]
 refine wX [(0,1),(1,1),(2,1),(3,1),(4,1),(5,1),(6,1),(7,1),(8,1),(9,1),(10,1),(11,1),(12,1),(13,1),(14,1),(15,1),(16,1),(17,1),(18,1),(19,1),(20,1),(21,1),(22,1),(23,1),(24,1),(25,1),(26,1),(27,0),(28,1),(29,1)] [0,1,2,3,4,5,6,7,8,9,10,11,12,13,14,15,16,17,18,19,20,21,22,23,24,25,26,28,29] d9 mixed rfl fH ?_
 simp only[hw0,hw1,bP,aF,a3V,SN,a3T,aT,aA,seval,F0]
 refine(hFm _ hP).to ?_
 simp only[hne,bP,hwi,aA,seval]
 exact⟨fH,(),aO.mk (by simp only[aA,seval])⟩
end Go.AW
namespace Go.AW
open Go.ChangeShapes Go.WideShapes Go.ChangeAt Go.RowKit
abbrev aN8:aB:=fun _=>none
section
variable {H:Type} {enc:TypeId×Value→H} {P:Program} {w:World}
theorem XY{h:bJ}{st:aB}{b k:Nat}:∀ {es:List AV} {off:Nat},(∀e∈es,e.width=k)→(∀(i:Nat) e,es[i]?=some e→VE h st b (off+i*k) e)→dA h st b off es
 | [],_,_,_=>by simp [dA]
 | e::es,off,hw,h=>by
  simp only[dA]
  refine⟨by simpa [VE] using h 0 e rfl,XY (fun x hx=>hw x (by simp [hx])) fun i x hx=>?_⟩
  have:=h (i+1) x (by simpa using hx)
  rw[hw e (by simp),yR,←Nat.bAP k i] 
  exact this
where Nat.bAP (k i:Nat):(i+1)*k=k+i*k:=by rw[qV];omega
theorem aAV{a:Addr}{v:Value}(h:w.cell? a=some v):a.spot=none∧a.block<w.heap.size∧cellAt w.heap a.block a.off=some v:=by
 unfold World.cell? at h
 split at h
 · rename_i c t fr hb
   split at h
   · cases h
   · rename_i hs
     refine⟨by simpa using hs,(GN.1 hb).1,by simp [cellAt,hb,h]⟩
 · cases h
theorem aAY{a:Addr}{n:Nat}{cs:List Value}(hs:a.spot=none)(h:w.cells? 0 a n=some cs):eP w.heap a.block a.off cs∧cs.length=n:=by
 obtain⟨_,hl,hc⟩:=World.cells?_some h
 refine⟨?_,hl⟩
 have:∀(l:List Value) (k:Nat),(∀i,i<l.length→w.cell? (a.add (k+i))=l[i]?)→eP w.heap a.block (a.off+k) l:=by
  intro l
  induction l with
  | nil=>intro _ _;trivial
  | cons v l ih=>
   intro k hk
   refine⟨?_,?_⟩
   · have:=(aAV (hk 0 (by simp))).2.2
     obtain⟨b,off,sp⟩:=a
     simp only at hs
     subst hs
     simpa [Addr.oJ] using this
   · have:=ih (k+1) (fun i hi=>by have:=hk (i+1) (by simp;omega);rw[show k+1+i=k+(i+1) by omega];simpa using this)
     simpa [yR] using this
 simpa using this cs 0 (fun i hi=>by simpa using hc i (by omega))
theorem aRY(hl:laidOutB P=true){W W':World}{sp:Nat→Bool}:∀ {ts:List TypeId} {vs:List Value} {ds:List (DataW H)} {ps:List MemPlace},(ts.all fun t=>P.readableRec t&&decide (t<P.types.size))=true →
 DataW.TrodAll enc P W 0 (fun _=>true) true ts vs ds ps→(∀x∈ps,W.sameAt W' x)→(∀x∈ps,sp x.block=true)→DataW.TrodAll enc P W' 0 sp true ts vs ds ps
 | [],vs,ds,ps,_,h,_,_=>by
  cases vs<;>cases ds<;>simp [DataW.TrodAll] at h ⊢
  exact h
 | t::ts,vs,ds,ps,ht,h,h1,h2=>by
  obtain⟨v,vs',d,ds',p,q,rfl,rfl,rfl,hd,EX⟩:=trodAll_cons h
  simp only[kY,bV,bK] at ht
  refine⟨p,q,Go.WideElems.Trod_stays hl ht.1.1 ht.1.2 hd (fun x hx=>h1 x (by simp [hx])) (fun x hx=>h2 x (by simp [hx])),aRY hl ht.2 EX (fun x hx=>h1 x (by simp [hx])) (fun x hx=>h2 x (by simp [hx])),rfl⟩
end
end Go.AW

