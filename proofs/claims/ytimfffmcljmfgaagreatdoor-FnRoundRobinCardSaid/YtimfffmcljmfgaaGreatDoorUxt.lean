import Derived.Test.YtimfffmcljmfgaaGreatDoorUxs
import Derived.Test.YtimfffmcljmfgaaGreatDoorUxr
import Derived.Test.YtimfffmcljmfgaaGreatDoorUxf
import Derived.Test.YtimfffmcljmfgaaGreatDoorUxh
import Derived.Test.YtimfffmcljmfgaaGreatDoorUxm
import Derived.Test.YtimfffmcljmfgaaGreatDoorUxl
import Derived.ProofKit
set_option linter.unusedSimpArgs false
set_option linter.unusedVariables false
set_option maxRecDepth 100000
namespace Go.AW
open Go.Proofs.Tryz
abbrev aTK:=zi tI_3 (zi zI_3 (zi aY (zi tI_49 (zi zI_49 (zi lD (zi qQ (zi qS (zi vQ (zi tI_62 (zi zI_62 (zi lE (zi lF (zi lG (zi lH (zi lI (zi lJ lA))))))))))))))))
theorem aXM(l:List Ss)(g:FuncId)(dL:List AV)(p:Ss→Bool)(st:aA)(hc:∀x∈l,aD prog g ([aS x]++dL) st (fun r st'=>r=.bool (p x)∧st'=st)) :
 aD prog 169 [.slice (l.map aS),.func g dL] st (fun r st'=>∃j:Int,r=.int .i64 j∧decide (0≤j)=l.any p∧st'=st):=by
 refine wF [] 2 func169 ntmps169 rfl rfl ?_
 simp only[eW,AV.fits,fC,aF]
 intro ⟨hl,_⟩
 simp -implicitDefEqProofs only[aF,aB,seval,aTK]
 refine d8 (σ:=Unit) [] [0,1,7] l (fun i _=>(l.drop i).any p=l.any p) (fun i _=>[(8,.int .i64 i)]) (fun _ _=>st) (by decide +kernel) ⟨(),rfl,aM.mk (by simp -implicitDefEqProofs only[aB,↓aU,seval])⟩ (fun i x _ hx hlt bL hdr hinv=>?_) (fun _ hge hinv=>?_)
 case refine_2=>
  simp -implicitDefEqProofs only[hge,aB,seval]
  rw[kK] at hinv
  exact⟨-1,rfl,by rw[←hinv];try rfl⟩
 rw[hdr,B0] at hinv
 have hw:=bE (n:=(i:Int)+1)
 simp -implicitDefEqProofs only[bL,bP (av:=aS) lD hx (oA x),O8,oA,aB,seval,aTK]
 refine(hc x (cM hx)).to ?_
 simp -implicitDefEqProofs only[aB,seval]
 refine aP (fun h=>?_) (fun h=>?_)
 · simp -implicitDefEqProofs only[aB,seval]
   exact⟨i,rfl,by rw[←hinv,h];simp⟩
 · rw[h,qD] at hinv
   simp -implicitDefEqProofs only[aB,seval]
   exact⟨(),hinv,aM.mk (by simp -implicitDefEqProofs only[hw,aB,seval])⟩
theorem aXD(l:List Ss)(g:FuncId)(dL:List AV)(p:Ss→Bool)(st:aA)(hc:∀x∈l,aD prog g ([aS x]++dL) st (fun r st'=>r=.bool (p x)∧st'=st)) :
 aD prog 87 [.slice (l.map aS),.func g dL] st (fun r st'=>r=.bool (l.any p)∧st'=st):=by
 refine wF [] 2 func87 ntmps87 rfl rfl ?_
 intro _
 simp -implicitDefEqProofs only[aB,seval]
 refine(aXM l g dL p st hc).mono ?_
 rintro _ _ ⟨j,rfl,hj,rfl⟩
 simp -implicitDefEqProofs only[hj,aB,seval]
abbrev bAF:=zi tI_4 (zi zI_4 (zi cJ (zi tI_62 (zi zI_62 (zi lE (zi lF (zi lG (zi lH (zi lI (zi lJ lA))))))))))
theorem a0A(s:Ss)(st:aA):aD prog 88 [aS s] st (fun r st'=>r=.bool (!eM s)∧st'=st):=by
 have hv:=SE s
 simp only[aS] at hv ⊢
 refine wF [1000000] 1 func88 ntmps88 rfl rfl ?_
 intro _
 simp -implicitDefEqProofs only[aB,seval,bAF]
 refine(hv _).to ?_
 simp -implicitDefEqProofs only[aB,seval]
theorem aWE{st:aA}{l:List Ss}{K:AV→aA→Prop}(hb:l.length≤1048576)(hK:∀b,(l.map aS≠[]→st b=none)→K (bU 6 b (l.map aS)) (aZ st b (l.map aS))) :
 jT prog 49 st (.fslice []) (.slice (l.map aS)) K:=by
 have hw:∀e∈l.map aS,e.width=6∧e.cells.all AV.storable=true:=by intro e h;simp only[cH] at h;obtain⟨t,_,rfl⟩:=h;exact⟨rfl,rfl⟩
 have:=eQ (P:=prog) (st:=st) (b:=0) (l:=[]) (xs:=l.map aS) (x:=.slice (l.map aS)) (K:=K) lD qQ qS rfl rfl hw (by simp) (by simp) (by simp only[a8,aF];omega) (by simp only[a8,aF];omega) (by simpa using hK)
 exact this
abbrev bAG:=zi tI_49 (zi zI_49 (zi lD (zi qQ (zi qS vQ))))
theorem a68(l:List Ss)(st:aA)(hb:l.length≤1048576):aD prog 90 [.slice (l.map aS)] st (fun r st'=>∃b,(l.map aS≠[]→st b=none)∧r=bU 6 b (l.map aS)∧st'=aZ st b (l.map aS)):=by
 refine aV4 func90 ntmps90 rfl rfl (by kernel_rfl) (by show 1≤_;decide +kernel) ?_
 intro _
 refine RY (AC [1000000] (by decide +kernel) ?_)
 simp -implicitDefEqProofs only[aB,seval]
 refine RY (RY (aWR vQ (by decide +kernel) (by decide +kernel) rfl fun c hc=>?_))
 refine AC [1000000] (by decide +kernel) ?_
 simp -implicitDefEqProofs only[aB,seval]
 refine aP (fun h=>?_) (fun h=>?_)
 · subst h
   have hn:l= []:=by
    rcases l with _ | ⟨x,l⟩
    · rfl
    · have:=hc (by simp);cases this
   subst hn
   simp -implicitDefEqProofs only[aB,seval]
   exact⟨0,rfl,rfl⟩
 · refine AC [1000000] (by decide +kernel) ?_
   simp -implicitDefEqProofs only[aB,seval,bAG]
   refine aWE hb fun b hb'=>?_
   simp -implicitDefEqProofs only[aB,seval]
   exact⟨b,hb',rfl,rfl⟩
theorem aD.a9S{P:Program}{g:FuncId}{args:List AV}{st:aA}{s:Ss}{L M:List (List Tm)}{k:Nat}(hd:L.drop k=M)(x:aD P g args st (fun r st'=>∃o,r=.tup [aS s,o]∧B6 st (L.map bO) k o st')) :
 aD P g args st (fun r st'=>∃os bs,r=.tup [aS s,.slice os]∧bs.Nodup∧(∀b∈bs,st b=none)∧aW st' (M.map bO) os bs∧∀b,b∉bs→st' b=st b):=by
 refine x.mE fun r st' h=>?_
 obtain⟨o2,rfl,q,⟨b2,h1,h2,h6,h4⟩,hT⟩:=h
 have ha:=(PE hT).1
 have J2:∀(bs':List Nat),(∀b∈bs',b∈b2)→aL st' (fun x=>if x∈bs' then st' x else st x):=fun bs' kX b=>by
  dsimp only
  by_cases hb:b∈bs'
  · rw[aH hb];exact⟨fun h=>h,fun o h=>h⟩
  · rw[aE hb]
    refine⟨fun e=>?_,fun o e=>?_⟩
    · by_cases hb2:b∈b2
      · exact h2 b hb2
      · rw[←h4 b hb2];exact e
    · by_cases hb2:b∈b2
      · rw[h2 b hb2] at e;cases e
      · rw[h4 b hb2];exact e
 have J0:∀(bs':List Nat) (os':List AV),(∀b∈bs',b∈b2)→bs'.Nodup→aW st' (M.map bO) os' bs'→(∀h v,cS h st'→VC h st' o2 v→VC h (fun x=>if x∈bs' then st' x else st x) (.slice os') v)→∃r2 s2,H4 st' s2∧CA st' (.tup [aS s,o2]) s2 r2∧∃os bs,r2=.tup [aS s,.slice os]∧bs.Nodup∧(∀b∈bs,st b=none)∧aW s2 (M.map bO) os bs∧∀b,b∉bs→s2 b=st b:=fun bs' os' kX hnd hO hv=>by
  have D:=J2 bs' kX
  refine⟨.tup [aS s,.slice os'],_,D.rJ,fun h v S y=>?_,os',bs',rfl,hnd,fun b hb=>h2 b (kX b hb),aW.aV _ _ _ (fun b hb=>aH hb) hO,fun b hb=>aE hb⟩
  obtain⟨y0,y1⟩:=y
  refine⟨y0,?_⟩
  unfold VC at y1 ⊢
  obtain⟨vs,e,y2⟩:=y1
  simp only[dX] at y2 ⊢
  obtain⟨v1,r1,rfl,ya,v2,r2,rfl,yb,rfl⟩:=y2
  have z2:aR h (fun x=>if x∈bs' then st' x else st x) (.slice os') v2:=by
   have y:=aR.KG yb
   have hy:VC h st' o2 v2.cells.toList∧o2.isAgg=kI v2:=by rcases hT with ⟨_,b,w,_,rfl⟩ | ⟨_,rfl⟩<;>exact⟨y.2,y.1⟩
   exact⟨by rw[←hy.2,ha];try rfl,hv h _ S hy.1⟩
  exact⟨_,e,v1,_,rfl,⟨ya.1,VC.mono (D.step h) _ _ ya.2⟩,v2,[],rfl,z2,rfl⟩
 rcases hT with ⟨hk',b,w,rfl,rfl⟩ | ⟨hk',rfl⟩
 · simp only[bM] at h6
   rcases h6 with ⟨_,hq,_⟩ | ⟨b',bs',os,w',e1,rfl,e2,h7,e3⟩
   · cases hq
   cases e1
   obtain⟨bd,h8,h9⟩:=aW.drop k h7
   rw[←zS,hd] at h8
   have kX:∀x∈bd,x∈b::bs':=fun x hx=>LW _ (h9.subset hx)
   have hbd:b∉bd:=fun hx=>(B5.1 h1).1 (h9.subset hx)
   refine J0 bd (os.drop k) kX (h9.nodup (B5.1 h1).2) h8 fun h v S y=>?_
   have hj:=aW.O4 (h:=h) (s0:=st') h7
   have hw:=aW.BU h7 e3
   obtain⟨f1,f2⟩:=frozen S e2 hj
   have hE:=dI.drop k hw f2
   rw[iE] at hE
   have hlen:(os.drop k).length=(L.map bO).length - k:=by rw[mI,aW.length h7]
   have hb0:(fun x=>if x∈bd then st' x else st x) b=none:=by
    dsimp only
    rw[aE hbd]
    exact h2 b (by simp)
   have D2:aL (st'.erase b) (fun x=>if x∈bd then st' x else st x):=fun x=>by
    unfold aA.erase
    by_cases hx:x=b
    · subst hx;rw[aH rfl];exact⟨fun _=>hb0,fun o e=>by rw[hb0] at e;cases e⟩
    · rw[aE hx];exact J2 bd kX x
   simp only[VC] at y
   obtain⟨cap,e,l1,l2,_⟩:=y
   unfold VC
   exact .inr ⟨b,k*w,cap,by rw[hlen];exact e,by rw[hlen];exact l1,l2,hb0,f1,⟨w,fun e he=>hw e (LX he)⟩,dI.mono (D2.step h) b rfl _ _ hE⟩
 · have hL:M= []:=by rw[←hd];rw[aF] at hk';subst hk';exact kK
   refine J0 [] [] (by simp) lZ (by rw[hL];simp only[a7,aW,xU]) fun h v S y=>?_
   unfold VC at y ⊢
   rcases y with y | ⟨b,off,e,_⟩
   · exact .inl y
   · exact .inl ⟨⟨_,e⟩,rfl⟩
theorem a7E(s:Ss)(n:Int)(h:eM s=true)(hn:0≤n)(st:aA):aD prog 91 [aS s,.int .i64 n] st (fun r st'=>∃os bs,r=.tup [aS (k9 s n),.slice os]∧bs.Nodup∧(∀b∈bs,st b=none)∧aW st' ((oP s n).map bO) os bs∧∀b,b∉bs→st' b=st b):=
 (aCC s n h hn st).a9S rfl
theorem a1Q{P:Program}{t:TypeId}{ag:Bool}{w:Nat}{l:List AV}{i:Nat}{x:AV}(hI:eI P t=some (ag,w))(hx:l[i]?=some x)(hw:x.width=w):dG P t (.slice l) (.int .i64 (i:Int))=some (.pptr x):=by
 have:=bP (av:=fun e:AV=>e) hI hx hw
 rwa [HQ] at this
theorem aV6{st:aA}{b q:Nat}{l:List AV}{o:AO}(hb:l≠[]→st b=none)(h:st q=some o):aZ st b l q=some o:=CF hb h
theorem aOE{α:Type}{av:α→AV}{w:Nat}(hw:∀a,(av a).width=w){L:List α}{i:Nat}{a:α}(h:L[i]?=some a):i*w+w≤((L.map av).flatMap AV.cells).length∧(((L.map av).flatMap AV.cells).drop (i*w)).take w=(av a).cells:=by
 obtain⟨hi,hei⟩:=fL.1 h
 have hwl:∀l:List α,((l.map av).flatMap AV.cells).length=l.length*w:=fun l=>by
  rw[nI (n:=w) (es:=l.map av) (fun e he=>by simp only[cH] at he;obtain⟨t,_,rfl⟩:=he;exact hw t),aF]
 have h1:(i+1)*w≤L.length*w:=vZ w hi
 rw[uB,Nat.one_mul] at h1
 refine⟨by rw[hwl];exact h1,?_⟩
 have h2:L=L.take i++a::L.drop (i+1):=by rw[←hei,←qF hi,qG]
 have hA:(((L.take i).map av).flatMap AV.cells).length=i*w:=by rw[hwl,dE,lQ (by omega)]
 have hE:(av a).cells.length=w:=by rw[s8,hw]
 conv=>lhs;rw[h2]
 rw[nU,t8,bH,rN,List.drop_left' hA,HV hE]
theorem aPC{T:aA}:∀ {L:List (List Tm)} {os:List AV} {bs:List Nat},aW T (L.map bO) os bs→∀e∈os,∃q,e=.agg [q]∧q.cells= [q]∧q.storable=true∧q.isAgg=false∧q.width=1∧q.cE=false
 | [],os,bs,h=>by simp only[a7,aW] at h;rw[h.1];intro e he;cases he
 | l::L,os,bs,h=>by
  simp only[bH,aW] at h
  obtain⟨o,os',b1,b2,rfl,rfl,h1,h2⟩:=h
  obtain⟨q,rfl,h3⟩:=WB.1 h1
  intro e he
  rcases c7.1 he with rfl | he
  · exact⟨q,rfl,bM.oQ h3⟩
  · exact aPC h2 e he
def HW(st:aA)(W:List Nat)(A:List (List Tm))(E:List Int)(r:AV)(st':aA):Prop:=nB st [.slice (W.map nv),.slice (A.map bO),.slice (E.map iv)] r st'
abbrev DZ:=zi tI_3 (zi zI_3 (zi aY (zi tI_26 (zi zI_26 (zi fZ (zi jF (zi jG (zi mZ (zi tI_46 (zi zI_46 (zi cZ (zi eG (zi eE (zi eT (zi tI_49 (zi zI_49 (zi lD (zi qQ (zi qS (zi vQ (zi tI_59 (zi zI_59 (zi yE (zi xX (zi tI_62 (zi zI_62 (zi lE (zi lF (zi lG (zi lH (zi lI (zi lJ lA))))))))))))))))))))))))))))))))
set_option maxHeartbeats 4000000 in
theorem SD(L:List Ss)(n:Int)(hL:L.length≤1048576)(st:aA):aD prog 34 [.slice (L.map aS),.int .i64 n] st (HW st (fY L n).1 (fY L n).2.1 (fY L n).2.2):=by
 have jI:mU L n=false→∀T:aA,aL T st→∃s2,aL T s2∧HW st (fY L n).1 (fY L n).2.1 (fY L n).2.2 (.tup [.fslice [],.fslice [],.fslice []]) s2:=fun h T hD=>by
  unfold fY HW
  rw[h,aE (by decide)]
  refine⟨st,hD,_,[],rfl,lZ,by simp,?_,fun _ _=>rfl⟩
  simp only[a7,aW]
  exact⟨_,_,[],[],rfl,rfl,.inl ⟨rfl,rfl,rfl⟩,_,_,[],[],rfl,rfl,.inl ⟨rfl,rfl,rfl⟩,_,_,[],[],rfl,rfl,.inl ⟨rfl,rfl,rfl⟩,rfl,rfl⟩
 have a3N:=fun st=>aXD L 88 [] (fun s=> !eM s) st fun s _=>a0A s st
 have a3J:=fun st=>a68 L st hL
 refine aD.nG ?_
 refine wF [1000000] 2 func34 ntmps34 rfl rfl ?_
 intro _
 simp -implicitDefEqProofs only[aB,seval]
 refine cX (fun h1=>?_) (fun h1=>?_)
 case refine_2=>
  simp -implicitDefEqProofs only[h1,aB,seval]
  exact jI (by simp at h1;unfold mU;rw[fP (by omega)];try rfl) _ (aL.refl _)
 have h1':1≤n:=by simp at h1;omega
 simp -implicitDefEqProofs only[h1,aF,aB,seval,DZ]
 refine cX (fun h2=>?_) (fun h2=>?_)
 case refine_2=>
  simp -implicitDefEqProofs only[h2,aB,seval]
  exact jI (by simp at h2;unfold mU;rw[fP (show ¬L.length≤8 by omega)];simp) _ (aL.refl _)
 have h2':L.length≤8:=by simp at h2;omega
 simp -implicitDefEqProofs only[h2,aB,seval]
 refine(a3N _).to ?_
 simp -implicitDefEqProofs only[aB,seval]
 refine aP (fun h3=>?_) (fun h3=>?_)
 · simp -implicitDefEqProofs only[aB,seval]
   exact jI (by
    obtain⟨s,hs,hb⟩:=B1.1 h3
    unfold mU
    have:L.all eM=false:=by
     cases hA:L.all eM with
     | false=>rfl
     | true=>have:=eH.1 hA s hs;rw[this] at hb;cases hb
    rw[this];simp) _ (aL.refl _)
 have h3':∀s∈L,eM s=true:=fun s hs=>by
  cases hk:eM s with
  | true=>rfl
  | false=>
   have:(L.any fun s=> !eM s)=true:=B1.2 ⟨s,hs,by rw[hk];try rfl⟩
   rw[h3] at this;cases this
 have hok:mU L n=true:=KQ.2 ⟨h1',h2',h3'⟩
 have hml:=OI h3'
 have hI0:=kR.start h3'
 simp -implicitDefEqProofs only[aB,seval]
 refine(a3J _).mono ?_
 rintro _ _ ⟨ba,hba,rfl,rfl⟩
 have hB0:k8 st (aZ st ba (L.map aS)) (.fslice []) (.fslice []) ba [] [] [] [] [] (L.map aS):=by
  refine⟨.inl ⟨rfl,rfl⟩,.inl ⟨rfl,rfl⟩,⟨rfl,rfl⟩,fun h=>by rw[jU h,aA.aJ],by simp [aT],by simp [aT],by simp,lZ,by simp [aT],by simp [aT],by simp,hba,fun b o hb=>aV6 hba hb⟩
 generalize aZ st ba (L.map aS)=T0 at *
 have hQ:∀x:iW,kR L x→x.l.map aS≠[]→bU 6 ba (L.map aS)=.mslice ba 0 L.length 6:=fun x hx hne=>by
  have hl:=hx.len
  rw[qK (by intro e;apply hne;have:=gH List.length e;simp at this;rw[this] at hl;rw[pQ hl];try rfl),aF]
 have hQl:mN prog 49 (bU 6 ba (L.map aS))=some (.int .i64 (L.length:Int)):=by
  have:=CG (P:=prog) (w:=6) (b:=ba) (l:=L.map aS) vQ
  rw[aF] at this
  exact this
 have hQ1:(bU 6 ba (L.map aS)).isAgg=false∧(bU 6 ba (L.map aS)).cE=false:=⟨sV,nF⟩
 generalize hq7:bU 6 ba (L.map aS)=q7 at *
 obtain⟨hQa,hQj⟩:=hQ1
 simp -implicitDefEqProofs only[aB,seval]
 refine iP (σ:=aA×AV×AV×List Nat×List AV×iW×Bool) [1000000] [1,4,5,6,7]
  (fun x=>k8 st x.1 x.2.1 x.2.2.1 ba x.2.2.2.1 x.2.2.2.2.2.1.w x.2.2.2.2.1 (x.2.2.2.2.2.1.a.map bO) x.2.2.2.2.1 (x.2.2.2.2.2.1.l.map aS)∧kR L x.2.2.2.2.2.1∧rounds n (iN x.2.2.2.2.2.1.l) x.2.2.2.2.2.1=gW n L∧(x.2.2.2.2.2.2=false→runs x.2.2.2.2.2.1.l=false))
  (fun x=>[(8,x.2.1),(9,x.2.2.1),(10,.bool x.2.2.2.2.2.2)]) (fun x=>x.1) (fun x=>iN x.2.2.2.2.2.1.l+(if x.2.2.2.2.2.2=true then 1 else 0)) (by decide +kernel)
  ⟨(T0,.fslice [],.fslice [],[],[],⟨L,[],[]⟩,true),⟨hB0,hI0,rfl,fun h=>by cases h⟩,aM.mk (by simp -implicitDefEqProofs only[aB,seval])⟩ ?_
 clear hB0 hI0
 rintro⟨T,qw,qa,bs,os,x,more⟩ ⟨i1,i4,i5,i6⟩
 simp only at i1 i4 i5 i6
 obtain⟨w1,w2,w3,w4,w5⟩:=i1.w.shape
 obtain⟨a1,a2,a3,a4,a5⟩:=i1.a.shape
 simp only
 simp -implicitDefEqProofs only[aB,seval]
 cases more with
 | false=>
  simp -implicitDefEqProofs only[hQl,aB,seval]
  have hx:x=gW n L:=by rw[←i5,KP (i6 rfl)]
  have hV:fY L n=((gW n L).w,(gW n L).a,(gW n L).l.map Ss.fin):=by unfold fY;rw[aH hok]
  rw[hV]
  subst hx
  have hE0:EQ T T (.fslice []) []:=⟨.inl ⟨rfl,rfl⟩,by simp [aT],fun _ _ h=>h⟩
  refine d8 (σ:=aA×AV) [1000000] [4,5,6,8,9,70,71] L (fun k y=>EQ T y.1 y.2 ((((gW n L).l.take k).map Ss.fin).map iv)) (fun k y=>[(17,y.2),(72,.int .i64 k)]) (fun k y=>y.1) (by decide +kernel) ⟨(T,.fslice []),hE0,aM.mk (by simp -implicitDefEqProofs only[aB,↓aU,seval])⟩ (fun k s0 y hx hlt bL hdr hinv=>?_) (fun y hge hinv=>?_)
  · obtain⟨T2,qe⟩:=y
    simp only at hinv
    obtain⟨s,hsk⟩:∃s,(gW n L).l[k]?=some s:=⟨_,eA (by rw[i4.len];exact hlt)⟩
    have hne:(gW n L).l.map aS≠[]:=by intro e;have:=gH List.length e;simp at this;rw[this] at hsk;simp at hsk
    obtain rfl:=hQ _ i4 hne
    obtain⟨a1,a2,a3,a4,a5⟩:=hinv.a.shape
    have hw:=bE (n:=(k:Int)+1)
    have r0:=qV (P:=prog) (b:=ba) (w:=6) (i:=k) (len:=L.length) lD hlt
    have hlb:=hinv.k _ _ (i1.l hne)
    obtain⟨hf1,hf2⟩:=aOE (av:=aS) oA hsk
    rw[show(aS s).cells= [.slice (s.p.map bR),.slice (s.q.map Tm.av),.int .i64 s.dD,.int .i64 s.used,.int .i64 s.sent,.int .i64 s.fin] from rfl] at hf2
    generalize hFL:((gW n L).l.map aS).flatMap AV.cells=FL at *
    simp -implicitDefEqProofs only[bL,r0,hlb,hf1,hf2,aB,↓aU,seval,DZ]
    refine kO.append (x:=iv s.fin) cZ eG eE rfl (by decide) hinv.a rfl rfl (by simp only[aF,dE];omega) (fun q' T5 gM UP UZ=>?_)
    have hP:=hinv.push gM UP UZ
    obtain⟨y1,y2,y3,y4,y5⟩:=gM.shape
    simp -implicitDefEqProofs only[hw,aB,seval]
    refine⟨(T5,q'),?_,aM.mk (by simp -implicitDefEqProofs only[aB,seval])⟩
    rw[eD,hsk]
    simpa using hP
  · obtain⟨T2,qe⟩:=y
    simp only at hinv
    rw[show(gW n L).l.take L.length=(gW n L).l by rw[←i4.len,dZ]] at hinv
    obtain⟨_,_,g1,_,_⟩:=i1.w.shape
    obtain⟨_,_,g2,_,_⟩:=i1.a.shape
    obtain⟨_,_,g3,_,_⟩:=hinv.a.shape
    simp -implicitDefEqProofs only[hge,g1,g2,g3,aB,seval]
    exact i1.final hinv (xV _)
 | true=>
  simp -implicitDefEqProofs only[hQl,aB,seval]
  refine d8 (σ:=aA×AV×AV×List Nat×List AV) [1000000] [1,4,5,6,7,33,34,35] L
   (fun k y=>k8 st y.1 y.2.1 y.2.2.1 ba y.2.2.2.1 (kH n x k).w y.2.2.2.2 ((kH n x k).a.map bO) y.2.2.2.2 ((kH n x k).l.map aS))
   (fun k y=>[(8,y.2.1),(9,y.2.2.1),(10,.bool (runs (x.l.take k))),(36,.int .i64 k)]) (fun k y=>y.1) (by decide +kernel) ⟨(T,qw,qa,bs,os),i1,aM.mk (by simp -implicitDefEqProofs only[jR,runs,List.any_nil,aB,↓aU,seval])⟩ (fun k s0 y hx hlt bL hdr hinv=>?_) (fun y hge hinv=>?_)
  · obtain⟨T,qw,qa,bs,os⟩:=y
    simp only at hinv
    obtain⟨hIk,_,_⟩:=i4.turns h1' k
    have hlen:=QC n x k
    rw[i4.len] at hlen
    obtain⟨s,hsk⟩:∃s,(kH n x k).l[k]?=some s:=⟨_,eA (by rw[hlen];exact hlt)⟩
    have hxk:x.l[k]?=some s:=by rw[←QB n x k (cY _)];exact hsk
    have iM:runs (x.l.take (k+1))=(runs (x.l.take k)||n6 s):=by unfold runs;rw[eD,hxk,List.any_append];simp
    have F4:=hIk.ok s (cM hsk)
    have hsu:=HH n x k
    have hbd:=hIk.bd
    have hwl:=hIk.wl
    have hne:(kH n x k).l.map aS≠[]:=by intro e;have:=gH List.length e;simp at this;rw[this] at hsk;simp at hsk
    obtain rfl:=hQ _ hIk hne
    generalize kH n x (k+1)=Y' at *
    generalize kH n x k=Y at *
    obtain⟨w1,w2,w3,w4,w5⟩:=hinv.w.shape
    obtain⟨a1,a2,a3,a4,a5⟩:=hinv.a.shape
    have a4V:=aW.length hinv.o
    rw[aF] at a4V
    have hw:=bE (n:=(k:Int)+1)
    have r0:=qV (P:=prog) (b:=ba) (w:=6) (i:=k) (len:=L.length) lD hlt
    have hlb:=hinv.l hne
    obtain⟨hf1,hf2⟩:=aOE (av:=aS) oA hsk
    have nJ:=fun z=>WY (av:=aS) (w:=6) oA (L:=Y.l) (i:=k) z (by omega)
    rw[show(aS s).cells= [.slice (s.p.map bR),.slice (s.q.map Tm.av),.int .i64 s.dD,.int .i64 s.used,.int .i64 s.sent,.int .i64 s.fin] from rfl] at hf2
    generalize hFL:(Y.l.map aS).flatMap AV.cells=FL at *
    simp -implicitDefEqProofs only[bL,r0,hlb,hf1,hf2,aB,↓aU,seval,DZ]
    refine aP (fun hf=>?_) (fun hf=>?_)
    · have hf':s.fin≠-1:=by simpa using hf
      have hr:n6 s=false:=by unfold n6;simpa using hf'
      rw[hr,BY] at iM
      rw[HG hsk hf'] at hsu
      simp -implicitDefEqProofs only[hw,aB,seval]
      exact⟨(T,qw,qa,bs,os),by rw[hsu];exact hinv,aM.mk (by simp -implicitDefEqProofs only[iM,aB,seval])⟩
    have hf':s.fin= -1:=by simpa using hf
    have hr:n6 s=true:=by unfold n6;simpa using hf'
    rw[hr,xG] at iM
    rw[LG hsk hf',DV (pT.2 ⟨F4,by omega,hf'⟩)] at hsu
    have tF:=fun st=>a7E s n F4 (by omega) st
    have UB:(oP s n).length≤20:=by have:=(vH F4 (show 0≤n by omega)).l;unfold oP;rw[mI];omega
    simp only at hsu
    generalize oP s n=M at *
    have hsz:=nJ (k9 s n)
    generalize k9 s n=z at *
    simp only[aS] at tF
    simp -implicitDefEqProofs only[aB,seval,DZ]
    refine(tF _).mono ?_
    rintro _ T2 ⟨os2,bs2,rfl,n1,n2,n3,n4⟩
    have hB2:=hinv.more n3 n1 n2 n4
    have hl2:=hB2.l hne
    rw[hFL] at hl2
    have aPM:(Y.l.set k z).map aS≠[]:=by intro e;apply hne;have:=gH List.length e;simp at this;rw[this];try rfl
    have hB3:=hB2.a81 hne aPM
    rw[←hsz] at hB3
    simp -implicitDefEqProofs only[r0,hl2,hf1,aK,aB,↓aU,seval,DZ]
    have hB4:k8 st (T2.aC ba (.cells (List.take (k*6) FL++ [.slice (z.p.map bR),.slice (z.q.map Tm.av),.int .i64 z.dD,.int .i64 z.used,.int .i64 z.sent,.int .i64 z.fin]++List.drop (k*6+6) FL))) qw qa ba (bs++bs2) Y.w os (Y.a.map bO++M.map bO) (os++os2) ((Y.l.set k z).map aS):=hB3
    clear hB3 hB2
    generalize T2.aC ba (.cells (List.take (k*6) FL++ [.slice (z.p.map bR),.slice (z.q.map Tm.av),.int .i64 z.dD,.int .i64 z.used,.int .i64 z.sent,.int .i64 z.fin]++List.drop (k*6+6) FL))=T3 at *
    have ho2:=aW.length n3
    rw[aF] at ho2
    have hhm:=aPC n3
    refine d8 (σ:=aA×AV×AV) [1000000] [1,4,5,6,7,10,11,12,13,14,33,34,35,36,37,38,39,40,41,42,43,44,45,46,47,48,49,50,51,52,53,54,55] os2
     (fun j y=>k8 st y.1 y.2.1 y.2.2 ba (bs++bs2) (Y.w++List.replicate j k) (os++os2.take j) (Y.a.map bO++M.map bO) (os++os2) ((Y.l.set k z).map aS))
     (fun j y=>[(8,y.2.1),(9,y.2.2),(56,.int .i64 j)]) (fun j y=>y.1) (by decide +kernel) ⟨(T3,qw,qa),by simpa using hB4,aM.mk (by simp -implicitDefEqProofs only[aB,↓aU,seval])⟩ (fun j e y hxj bDI a4K bDD yO=>?_) (fun y a35 yO=>?_)
    · obtain⟨T4,pw,pa⟩:=y
      simp only at yO
      obtain⟨q,rfl,e1,e2,e3,e4,e5⟩:=hhm e (cM hxj)
      obtain⟨w1,w2,w3,w4,w5⟩:=yO.w.shape
      obtain⟨a1,a2,a3,a4,a5⟩:=yO.a.shape
      have hwj:=bE (n:=(j:Int)+1)
      have JQ:=a1Q (P:=prog) fZ hxj rfl
      simp -implicitDefEqProofs only[a4K,JQ,e2,aB,↓aU,seval,DZ]
      refine wX [(0,1),(1,1),(2,1),(4,1),(5,1),(6,1),(3,0),(7,0),(8,1),(9,1)] [0,1,2,4,5,6,8,9] d9 mixed rfl eK ?_
      simp -implicitDefEqProofs only[aB,seval,DZ]
      refine kO.append cZ eG eE rfl (by decide) yO.w rfl rfl (by simp only[aF,dQ,List.length_replicate];omega) (fun q' T5 gM UP UZ=>?_)
      have hP:=yO.WL (i:=k) gM UP UZ
      obtain⟨y1,y2,y3,y4,y5⟩:=gM.shape
      simp -implicitDefEqProofs only[aB,seval]
      refine⟨eK,?_⟩
      refine kO.append (x:=.agg [q]) fZ jF jG rfl (by decide) hP.a rfl (by simp only[AV.cells,kJ,HO,e2,Bool.and_self]) (by simp only[dQ,dE];omega) (fun q2 T6 JP a32 a4N=>?_)
      have hP2:=hP.OT JP a32 a4N
      obtain⟨x1,x2,x3,x4,x5⟩:=JP.shape
      simp -implicitDefEqProofs only[aB,seval]
      refine⟨eK,⟨(T6,q',q2),?_,aM.mk (by simp -implicitDefEqProofs only[hwj,aB,seval])⟩⟩
      have g1:Y.w++List.replicate j k++ [k]=Y.w++List.replicate (j+1) k:=by rw[lX,List.replicate_succ']
      have g2:os++os2.take j++ [.agg [q]]=os++os2.take (j+1):=by rw[eD,hxj];simp
      rw[g1,g2] at hP2
      exact hP2
    · obtain⟨T4,pw,pa⟩:=y
      simp only at yO
      rw[dZ,ho2] at yO
      simp -implicitDefEqProofs only[a35,hw,aB,seval]
      refine⟨(T4,pw,pa,bs++bs2,os++os2),?_,aM.mk (by simp -implicitDefEqProofs only[iM,aB,seval])⟩
      rw[hsu]
      simp only[nU]
      exact yO
  · obtain⟨T4,pw,pa,bs,os⟩:=y
    simp only at hinv
    rw[show kH n x L.length=oY n x by unfold oY;rw[i4.len]] at hinv
    rw[show x.l.take L.length=x.l by rw[←i4.len,dZ]]
    obtain⟨r1,r2⟩:=i4.round h1'
    simp -implicitDefEqProofs only[hge,aB,seval]
    refine⟨(T4,pw,pa,bs,os,oY n x,runs x.l),?_,⟨hinv,r1,?_,fun h=>?_⟩,aM.mk (by simp -implicitDefEqProofs only[aB,seval])⟩
    · simp only
      cases hr:runs x.l with
      | true=>have:=r2 hr;simp only[eX];omega
      | false=>
       have:oY n x=x:=D7 hr _
       rw[this]
       simp
    · cases hr:runs x.l with
      | true=>exact(aRY h1' i4 hr).trans i5
      | false=>rw[show oY n x=x from D7 hr _];exact i5
    · rw[show oY n x=x from D7 h _];exact h





theorem aQ1(W:List Nat):W.map nv=(W.map fun i:Nat=>(i:Int)).map iv:=by rw[uA];try rfl
theorem aQT{i:Nat}{a:List Tm}:∀ {W:List Nat} {A:List (List Tm)} (j:Nat),W[j]?=some i→A[j]?=some a→a∈jK i W A
 | w::W,b::A,0,h1,h2=>by
  simp only[EL,Option.some.injEq] at h1 h2
  subst h1;subst h2
  simp [jK]
 | w::W,b::A,j+1,h1,h2=>by
  simp only[EK] at h1 h2
  have:=aQT j h1 h2
  simp only[jK]
  split
  · exact LW _ this
  · exact this
 | [],_,j,h1,_=>by simp at h1
 | _::_,[],j,_,h2=>by simp at h2
theorem O0(L:List Ss)(n:Int):(fY L n).1.length=(fY L n).2.1.length∧(fY L n).2.1.length≤48160∧(fY L n).2.2.length≤8∧∀a∈(fY L n).2.1,a.length≤26∧a.all Tm.valid=true:=by
 unfold fY
 split
 · rename_i h
   obtain⟨h1,h2,h3⟩:=KQ.1 h
   obtain⟨hI,_,hE,hm⟩:=O1 h
   have hb:=hI.bd
   have hl:=OI h3
   refine⟨hI.wl,by simp only;omega,by simp only;rw[hE,aF];exact h2,fun a ha=>?_⟩
   simp only at ha
   obtain⟨j,hj⟩:=B4 ha
   have hjl:=(fL.1 hj).1
   obtain⟨i,hi⟩:∃i,(gW n L).w[j]?=some i:=⟨_,eA (by rw[hI.wl];exact hjl)⟩
   have hil:=hI.wr i (cM hi)
   obtain⟨s,hs⟩:∃s,L[i]?=some s:=⟨_,eA hil⟩
   have fT:=aQT j hi hj
   rw[hm i s hs,NM] at fT
   exact(W7 s.p (cnd:=fun _ l=>l) (fun _ l=>⟨fun _ h=>h,cY _⟩) s.q 20 s.dD).2 a (LX fT)
 · simp

theorem aDB{st:aA}{b:Nat}{l:List AV}(h:l≠[]→st b=none):aL (aZ st b l) st:=by
 by_cases hl:l= []
 · rw[hl,uJ];exact aL.refl _
 · rw[jU hl];exact(aL.refl _).aC (h hl)
theorem a80{st:aA}{b:Nat}{L:List (List Tm)}(hb:L.map bO≠[]→st b=none)(us:List AV):qH (aZ st b (L.map bO)) st (bU 1 b (L.map bO)::us) (.slice (L.map bO)::us):=by
 refine qH.cons (fun h v S y=>?_) (qH.mono (aDB hb) us)
 have:=(CA.fin (r:=bU 1 b (L.map bO)) hb (aAB L) ⟨1,xV L⟩).2 h v S y
 rwa [oH] at this
theorem aSZ{α:Type}{l:List α}{i:Nat}{x:α}(h:l[i]?=some x):l.take (i+1)=l.take i++ [x]:=by rw[eD,h];try rfl
def sD(i k:Nat)(W:List Nat)(A:List (List Tm)):List (List Tm):=jK i (W.take k) (A.take k)
theorem aQS(i:Nat)(W:List Nat)(A:List (List Tm)):sD i 0 W A= []:=rfl
theorem a62{i k w:Nat}{W:List Nat}{A:List (List Tm)}{a:List Tm}(hl:W.length=A.length)(h1:W[k]?=some w)(h2:A[k]?=some a):sD i (k+1) W A=sD i k W A++(if w=i then[a] else[]):=by
 unfold sD
 rw[aSZ h1,aSZ h2,VQ i (by rw[dE,dE,hl])]
 try rfl
theorem a60{i:Nat}{W:List Nat}{A:List (List Tm)}(hl:W.length=A.length):sD i W.length W A=jK i W A:=by
 unfold sD
 rw[dZ,hl,dZ]
theorem a61(i:Nat):∀(k:Nat) (W:List Nat) (A:List (List Tm)),(sD i k W A).length≤A.length:=fun k W A=>by
 have:∀(W:List Nat) (A:List (List Tm)),(jK i W A).length≤A.length:=fun W A=>by
  induction W generalizing A with
  | nil=>simp [jK]
  | cons w W ih=>
   cases A with
   | nil=>simp [jK]
   | cons a A=>
    have:=ih A
    simp only[jK]
    split<;>simp only[aX]<;>omega
 have h:=this (W.take k) (A.take k)
 rw[dE] at h
 unfold sD
 omega
theorem a8T{L:List Ss}{n:Int}(hE:(fY L n).2.2.length=L.length):(fY L n).1.length=(fY L n).2.1.length∧∀(i:Nat) s,L[i]?=some s→(fY L n).2.2[i]?=some (tC s []).2∧jK i (fY L n).1 (fY L n).2.1=(tC s []).1:=by
 refine⟨(O0 L n).1,fun i s hs=>?_⟩
 have hil:=(fL.1 hs).1
 unfold fY at hE ⊢
 by_cases h:mU L n=true
 case neg=>
  rw[aE h] at hE
  simp only[a8] at hE
  omega
 rw[aH h]
 obtain⟨h1,h2,h3,h4⟩:=O1 h
 have hok:=(KQ.1 h).2.2 s (cM hs)
 have hd:tC s []=((dU s s.dD).1.drop s.sent.toNat,(dU s s.dD).2):=by
  unfold tC
  rw[aH hok,aDA _ _ _ hok,fF]
 rw[hd]
 simp only
 rw[h3,lY,hs]
 exact⟨rfl,h4 i s hs⟩
abbrev BK:=zi tI_3 (zi zI_3 (zi aY (zi tI_4 (zi zI_4 (zi cJ (zi tI_26 (zi zI_26 (zi fZ (zi jF (zi jG (zi mZ (zi tI_40 (zi zI_40 (zi tD (zi AL (zi AP (zi zH (zi tI_46 (zi zI_46 (zi cZ (zi eG (zi eE (zi eT (zi tI_49 (zi zI_49 (zi lD (zi qQ (zi qS (zi vQ (zi tI_59 (zi zI_59 (zi yE (zi xX (zi tI_62 (zi zI_62 (zi lE (zi lF (zi lG (zi lH (zi lI (zi lJ lA)))))))))))))))))))))))))))))))))))))))))
set_option maxHeartbeats 4000000 in
theorem aXJ(code:List Bt)(st:aA):aD prog 6 [.slice (code.map iZ)] st (fun r _=>r=.bool true):=by
 refine wF [1000000] 1 func6 ntmps6 rfl rfl ?_
 intro _
 simp -implicitDefEqProofs only[aF,aB,seval,BK]
 refine aP (fun h1=>?_) (fun h1=>?_)
 · simp -implicitDefEqProofs only[aB,seval]
 simp -implicitDefEqProofs only[aB,seval]
 refine(aA2 code _).mono ?_
 rintro _ s1 ⟨⟨L,n,hL,hds,rfl⟩,rfl⟩
 have hsm:∀s∈L,PC s:=fun s hs=>(hds s hs).small
 have hsp:=aCG L n (by omega) hsm
 have him:=fun st=>SD L n (by omega) st
 have hok:=O0 L n
 have hwd:=a8T (L:=L) (n:=n)
 have hdr:=fun(s:Ss) (hs:s∈L) (st:aA)=>((aYB s [] (hds s hs).small.1 (hds s hs).small.2.1 (hds s hs).small.2.2.1 (hds s hs).small.2.2.2 st).mono fun _ _ ⟨o,h1,h2⟩=>by subst h1;exact nB.aQ6 h2).KB
 generalize fY L n=V at *
 obtain⟨W,A,E⟩:=V
 simp only at hsp him hok hwd
 obtain⟨ok1,ok2,ok3,ok4⟩:=hok
 unfold HW at him
 have hpw:∀st,aD prog 41 [.slice (W.map nv),.slice (W.map nv)] st (fun r st'=>r=.bool true∧st'=st):=fun st=>by rw[aQ1];exact MU _ st
 have hpe:=MU E
 have hpa:=SO A
 have C5:=fun st=>(him st).KB
 clear him
 simp -implicitDefEqProofs only[aB,seval]
 refine(C5 _).to ?_
 simp -implicitDefEqProofs only[aB,seval]
 refine(hsp _).to ?_
 simp -implicitDefEqProofs only[aB,seval]
 refine(hpw _).to ?_
 simp -implicitDefEqProofs only[kP,aB,seval]
 refine(hpa _).to ?_
 simp -implicitDefEqProofs only[kP,aB,seval]
 refine(hpe _).to ?_
 simp -implicitDefEqProofs only[kP,aF,aB,seval,BK]
 refine aP (fun hne=>?_) (fun hne=>?_)
 · simp -implicitDefEqProofs only[aB,seval]
   refine(hpw _).to ?_
   simp -implicitDefEqProofs only[aB,seval]
   refine(hpa _).to ?_
   simp -implicitDefEqProofs only[aB,seval]
   refine(hpe _).to ?_
   simp -implicitDefEqProofs only[aB,seval]
 obtain⟨hWA,a24⟩:=hwd (by simp only[rM,bK] at hne;omega)
 have hEL:E.length=L.length:=by simp only[rM,bK] at hne;omega
 simp -implicitDefEqProofs only[aB,seval]
 refine d8 (σ:=Unit) [1000000] [3,5,6,7] L (fun _ _=>True) (fun i _=>[(2,.bool false),(11,.int .i64 i)]) (fun _ _=>s1) (by decide +kernel) ⟨(),trivial,aM.mk (by simp -implicitDefEqProofs only[aB,↓aU,seval])⟩ (fun i s _ hx hlt bL a3W _=>?_) (fun _ hge _=>?_)
 case refine_2=>
  simp -implicitDefEqProofs only[hge,hWA,bV,aF,aB,seval,BK]
 simp -implicitDefEqProofs only[bL,aF,aB,seval,BK]
 obtain⟨l1,l2⟩:=a24 i s hx
 refine d8 (σ:=Nat) [1000000] [2,3,5,6,7,11,74,75,76,77,80] W (fun k b=>(sD i k W A).map bO≠[]→s1 b=none) (fun k b=>[(12,bU 1 b ((sD i k W A).map bO)),(13,.int .i64 k)]) (fun k b=>aZ s1 b ((sD i k W A).map bO)) (by decide +kernel) ⟨0,by simp [aQS],aM.mk (by simp -implicitDefEqProofs only[aQS,a7,iY,aB,↓aU,seval])⟩ (fun k w b hw hkl JW aPA hb=>?_) (fun b hge hb=>?_)
 case refine_2=>
  rw[a60 hWA] at hb ⊢
  have hj:∀e∈(jK i W A).map bO,e.cE=false:=fun e he=>by simp only[cH] at he;obtain⟨t,_,rfl⟩:=he;rfl
  have a3B:dG prog 49 (.slice (L.map aS)) (.int .i64 (i:Int))=some (.pptr (aS s)):=bP (av:=aS) lD hx rfl
  have JQ:dG prog 46 (.slice (E.map iv)) (.int .i64 (i:Int))=some (.pptr (iv (tC s []).2)):=bP (av:=iv) cZ l1 rfl
  simp -implicitDefEqProofs only[hge,aF,O8,oA,a3B,aB,seval,BK]
  refine(aD.rH (by simp only[iS,AV.soft];exact hdr s (cM hx) _)).to ?_
  rw[←l2]
  simp -implicitDefEqProofs only[bV,JQ,aB,seval,BK]
  refine(aD.a6B (aDB hb) (a80 hb _) (SO _ _)).mono ?_
  rintro _ _ ⟨rfl,rfl⟩
  simp -implicitDefEqProofs only[kP,aB,seval]
  have hw1:=bE (n:=(i:Int)+1)
  simp -implicitDefEqProofs only[hw1,seval]
  exact⟨(),aM.mk (by simp -implicitDefEqProofs only[aB,seval])⟩
 obtain⟨a,ha⟩:∃a,A[k]?=some a:=⟨_,eA (by omega)⟩
 have JR:dG prog 46 (.slice (W.map nv)) (.int .i64 (k:Int))=some (.pptr (.int .i64 (w:Int))):=bP (av:=nv) cZ hw rfl
 have a29:dG prog 26 (.slice (A.map bO)) (.int .i64 (k:Int))=some (.pptr (bO a)):=bP (av:=bO) fZ ha rfl
 have hnx:=a62 (i:=i) hWA hw ha
 have hw1:=bE (n:=(k:Int)+1)
 simp -implicitDefEqProofs only[JW,aF,JR,aB,seval,BK]
 refine aP (fun hwi=>?_) (fun hwi=>?_)
 case refine_2=>
  have uZ:w≠i:=by simp only[dJ] at hwi;omega
  rw[aE uZ,gF] at hnx
  simp -implicitDefEqProofs only[hw1,aB,seval]
  rw[←hnx] at hb ⊢
  exact⟨b,hb,aM.mk (by simp -implicitDefEqProofs only[aB,seval])⟩
 have uZ:w=i:=by simp only[bK] at hwi;omega
 rw[aH uZ] at hnx
 have hmk:=a61 i k W A
 simp -implicitDefEqProofs only[a29,aB,seval,BK]
 refine eQ (xs:=[bO a]) fZ jF jG rfl rfl (f9 rfl rfl) (xV _) hb (by simp only[aF,aX,a8];omega) (by simp only[aF,aX,a8];omega) (fun b2 hb2=>?_)
 rw[show(sD i k W A).map bO++ [bO a]=(sD i (k+1) W A).map bO by rw[hnx];simp] at hb2 ⊢
 simp -implicitDefEqProofs only[hw1,aB,seval]
 exact⟨b2,hb2,aM.mk (by simp -implicitDefEqProofs only[aB,seval])⟩
end Go.AW
namespace Go.AW
open Go.ChangeShapes Go.WideShapes Go.ChangeAt Go.RowKit
abbrev tL:aA:=fun _=>none
section
variable {H:Type} {enc:TypeId×Value→H} {P:Program} {w:World}
def Reads(enc:TypeId×Value→H)(P:Program)(w:World)(t n:Nat){α:Type}(av:α→AV):Prop:=
 ∀cs x,DataW.trod enc P w 0 (fun _=>true) true n t cs=some x→∃a:α,VC w.heap tL (av a) cs
theorem ZE{h:bQ}{st:aA}{b k:Nat}:∀ {es:List AV} {off:Nat},(∀e∈es,e.width=k)→(∀(i:Nat) e,es[i]?=some e→VE h st b (off+i*k) e)→dI h st b off es
 | [],_,_,_=>by simp [dI]
 | e::es,off,hw,h=>by
  simp only[dI]
  refine⟨by simpa [VE] using h 0 e rfl,ZE (fun x hx=>hw x (by simp [hx])) fun i x hx=>?_⟩
  have:=h (i+1) x (by simpa using hx)
  rw[hw e (by simp),B7,←Nat.a9P k i] 
  exact this
where Nat.a9P (k i:Nat):(i+1)*k=k+i*k:=by rw[uC];omega
theorem aCM{a:Addr}{v:Value}(h:w.cell? a=some v):a.spot=none∧a.block<w.heap.size∧cellAt w.heap a.block a.off=some v:=by
 unfold World.cell? at h
 split at h
 · rename_i c t fr hb
   split at h
   · cases h
   · rename_i hs
     refine⟨by simpa using hs,(LR.1 hb).1,by simp [cellAt,hb,h]⟩
 · cases h
theorem a0R{a:Addr}{n:Nat}{cs:List Value}(hs:a.spot=none)(h:w.cells? 0 a n=some cs):fD w.heap a.block a.off cs∧cs.length=n:=by
 obtain⟨_,hl,hc⟩:=World.cells?_some h
 refine⟨?_,hl⟩
 have:∀(l:List Value) (k:Nat),(∀i,i<l.length→w.cell? (a.add (k+i))=l[i]?)→fD w.heap a.block (a.off+k) l:=by
  intro l
  induction l with
  | nil=>intro _ _;trivial
  | cons v l ih=>
   intro k hk
   refine⟨?_,?_⟩
   · have:=(aCM (hk 0 (by simp))).2.2
     obtain⟨b,off,sp⟩:=a
     simp only at hs
     subst hs
     simpa [Addr.qL] using this
   · have:=ih (k+1) (fun i hi=>by have:=hk (i+1) (by simp;omega);rw[show k+1+i=k+(i+1) by omega];simpa using this)
     simpa [B7] using this
 simpa using this cs 0 (fun i hi=>by simpa using hc i (by omega))
theorem a8I{t e n k:Nat}{α:Type}{av:α→AV}(ht:P.underlying t=some (.slice e))(hk:P.cellsOf e=k)(F5:0<k)(hw:∀a,(av a).width=k)(hr:∀m,m<n→Reads enc P w e m av) :
 Reads enc P w t n (fun l:List α=>.slice (l.map av)):=by
 intro cs x h
 rcases DataW.trod_slice ht h with ⟨rfl,_⟩ | ⟨a,len,cap,elems,rest,m,hm,rfl,rfl,_,hl,FW,hlen,hel,hsp,_⟩
 · exact⟨[],by simp only[a7];unfold VC;exact .inl ⟨⟨_,rfl⟩,rfl⟩⟩
 obtain⟨hrl,F6⟩:=hsp rfl
 rw[hk] at hel F6
 have get:∀i,i<cap→∃ds y,w.cells? 0 (a.add (i*k)) k=some ds∧DataW.trod enc P w 0 (fun _=>true) true m e ds=some y:=by
  intro i hi
  have hb:∃y,(w.cells? 0 (a.add (i*k)) k).bind (DataW.trod enc P w 0 (fun _=>true) true m e)=some y:=by
   by_cases hi':i<len
   · exact⟨elems[i]'(by omega),by rw[hel i hi'];simp [show i<elems.length by omega]⟩
   · have:=F6 (i - len) (by omega)
     rw[show len+(i - len)=i by omega] at this
     exact⟨rest[i - len]'(by omega),by rw[this];simp [show i - len<rest.length by omega]⟩
  obtain⟨y,hy⟩:=hb
  obtain⟨ds,h1,h2⟩:=Option.bind_eq_some_iff.1 hy
  exact⟨ds,y,h1,h2⟩
 by_cases hc0:cap=0
 · subst hc0
   obtain rfl:len=0:=by omega
   exact⟨[],by simp only[a7];unfold VC;exact .inl ⟨⟨_,rfl⟩,rfl⟩⟩
 obtain⟨ds0,_,hd0,_⟩:=get 0 (by omega)
 have aPZ:a.spot=none∧a.block<w.heap.size:=by
  obtain⟨_,hl0,hc⟩:=World.cells?_some hd0
  have:=hc 0 F5
  have h0:ds0[0]?=some (ds0[0]'(by omega)):=by simp [hl0,F5]
  rw[h0] at this
  have:=aCM this
  obtain⟨b,off,sp⟩:=a
  simp only[Nat.zero_mul] at this
  cases sp with
  | none=>exact⟨rfl,by simpa [Addr.qL] using this.2.1⟩
  | some s=>exact absurd this.1 (by simp [Addr.add])
 obtain⟨b,off,sp⟩:=a
 simp only at aPZ
 obtain⟨rfl,hbl⟩:=aPZ
 have val:∀i,i<len→∃v:α,VE w.heap tL b (off+i*k) (av v):=by
  intro i hi
  obtain⟨ds,y,h1,h2⟩:=get i (by omega)
  obtain⟨v,hv⟩:=hr m (by omega) ds y h2
  obtain⟨c1,c2⟩:=a0R (a:=(⟨b,off,none⟩:Addr).add (i*k)) (by simp [Addr.qL]) h1
  exact⟨v,ds,by simpa [Addr.qL] using c1,by rw[hw];exact c2,hv⟩
 have build:∀j,j≤len→∃l:List α,l.length=j∧∀(i:Nat) v,l[i]?=some v→VE w.heap tL b (off+i*k) (av v):=by
  intro j
  induction j with
  | zero=>intro _;exact⟨[],rfl,by simp⟩
  | succ j ih=>
   intro hj
   obtain⟨l,h1,h2⟩:=ih (by omega)
   obtain⟨v,hv⟩:=val j (by omega)
   refine⟨l++ [v],by simp [h1],fun i u hi=>?_⟩
   rw[List.getElem?_append] at hi
   split at hi
   · exact h2 i u hi
   · rename_i hge
     have:i=j:=by
      have:=(fL.1 hi).1
      simp at this
      omega
     subst this
     simp [h1] at hi
     subst hi
     exact hv
 obtain⟨l,h1,h2⟩:=build len (cY _)
 refine⟨l,?_⟩
 unfold VC
 refine .inr ⟨b,off,cap,by simp [h1],by simp [h1];exact hl,FW,rfl,hbl,a13 hw l,ZE (k:=k) (by intro e he;simp only[cH] at he;obtain⟨v,_,rfl⟩:=he;exact hw v) fun i e he=>?_⟩
 rw[lY] at he
 obtain⟨v,hv,rfl⟩:=Option.map_eq_some_iff.1 he
 exact h2 i v hv
theorem WS{t:TypeId}{α:Type}{av:α→AV}{v:Value}{d:DataW H}{ps:List MemPlace}(hr:∀n,Reads enc P w t n av)(hag:∀a,(av a).isAgg=kI v)(h:DataW.Trod enc P w 0 (fun _=>true) true t v d ps) :
 ∃a:α,aR w.heap tL (av a) v:=by
 obtain⟨n,hn⟩:=h
 obtain⟨a,ha⟩:=hr n _ _ hn
 refine⟨a,?_⟩
 have:=hag a
 cases hq:av a<;>rw[hq] at ha this<;>first | trivial | exact⟨this,ha⟩
theorem aUI(hl:laidOutB P=true){W W':World}{sp:Nat→Bool}:∀ {ts:List TypeId} {vs:List Value} {ds:List (DataW H)} {ps:List MemPlace},(ts.all fun t=>P.readableRec t&&decide (t<P.types.size))=true →
 DataW.TrodAll enc P W 0 (fun _=>true) true ts vs ds ps→(∀x∈ps,W.sameAt W' x)→(∀x∈ps,sp x.block=true)→DataW.TrodAll enc P W' 0 sp true ts vs ds ps
 | [],vs,ds,ps,_,h,_,_=>by
  cases vs<;>cases ds<;>simp [DataW.TrodAll] at h ⊢
  exact h
 | t::ts,vs,ds,ps,ht,h,h1,h2=>by
  obtain⟨v,vs',d,ds',p,q,rfl,rfl,rfl,hd,F6⟩:=trodAll_cons h
  simp only[kJ,cF,bK] at ht
  refine⟨p,q,Go.WideElems.Trod_stays hl ht.1.1 ht.1.2 hd (fun x hx=>h1 x (by simp [hx])) (fun x hx=>h2 x (by simp [hx])),aUI hl ht.2 F6 (fun x hx=>h1 x (by simp [hx])) (fun x hx=>h2 x (by simp [hx])),rfl⟩
theorem aW0{W W':World}{st':aA}(T:cC W.heap tL W'.heap st')(s:fO W W'):Below W.heap.size W W':=
 ⟨s.1,s.2.1,s.2.2,T.size,fun k hk=>(T.aV k hk rfl).1⟩
theorem aQG{f:Func}{g:FuncId}{s:ChangeSpec}{W:World}{args:Array Value}{ds:List (DataW H)}{before:List MemPlace}{avs:List AV}{tb:TypeId}
 (hl:laidOutB P=true) (hts:(f.params.toList.all fun t=>P.readableRec t&&decide (t<P.types.size))=true) (hrt:f.resultTypes= #[tb]) (htb:P.underlying tb=some .bool) (hsv:s.vars= [])
 (hW:DataW.Whole enc P f.params.toList [] false W args.toList ds [] before) (hfn:s.fn H ds= { results:=[.lit (.bool true)],args:=ds }) (a40:dF W.heap tL avs args.toList)
 (hc:aD P g avs tL (fun r _=>r=.bool true)) :
 Calls P g args W fun e W'=>∃v,e=.returned v∧s.post enc P f false true false false W args v W':=by
 have hS:cS W.heap tL:=fun b o h=>by cases h
 have:=hc.2 W args.toList hS a40
 simp only[vV] at this
 refine this.mono ?_
 rintro e W' ⟨v,r,st',rfl,hv,_,T,sm,rfl⟩
 refine⟨v,rfl,?_⟩
 have hB:=aW0 T sm
 rw[hv.CI]
 have hW':DataW.Whole enc P f.params.toList s.vars false W args.toList ds [] before:=by rw[hsv];exact hW
 obtain⟨p,q,hA,hV,rfl,hz,_⟩:=hW
 obtain⟨_,rfl⟩:=trodVars_none hV
 have hlt:∀x∈p,x.block<W.heap.size:=fun x hx=>hW'.lt x (by simp [hx])
 have C9:∀(b:Nat) (sp:Nat→Bool) (hd:Bool),DataW.TrodAll enc P W' b sp hd f.resultTypes.toList ((Value.bool true).resultList f.resultTypes.size) (s.fn H (ds++ [])).results []:=fun _ _ _=>by
  rw[gF,hfn,hrt]
  exact trodAll_mk1 (shut_bool htb true)
 have rZ:∀sp:Nat→Bool,(∀x∈p,sp x.block=true)→DataW.TrodAll enc P W' 0 sp true f.params.toList args.toList (s.fn H (ds++ [])).args p:=fun sp hsp=>by
  rw[gF,hfn]
  exact aUI hl hts hA (fun x hx=>hB.same (hlt x hx)) hsp
 have aP1:∀sp:Nat→Bool,DataW.TrodVars enc P W' sp s.vars (s.fn H (ds++ [])).vars []:=fun sp=>by
  rw[gF,hfn,hsv]
  exact rfl
 refine⟨ds,[],p++ [],[],p,[],hW',C9 _ _ _,rZ _ (fun x hx=>by simpa using hlt x hx),aP1 _,World.keptBut_mono (fun x hx=>⟨hx,by simpa using hx⟩) (hB.frame (·∈p++ [])),fun _=>?_⟩
 refine⟨ok_one hrt rfl (okWide_bool_mk htb true),_,_,([]++p)++ [],⟨[]++p,[],trodAll_append (rZ _ (fun _ _=>rfl)) (C9 _ _ _),aP1 _,rfl,?_,?_⟩,?_⟩
 · intro b off hp
   have hp':MemPlace.cell b off∈p:=by simpa using hp
   rw[hB.frozen (p:=⟨b,off,none⟩) (hlt _ hp')]
   exact hz b off (by simpa using hp')
 · intro ha;cases ha
 · intro x hx _
   simpa using hx
end
end Go.AW

