import Derived.Test.YtieofkhcboolkaaGreatDoorWar
import Derived.Test.YtieofkhcboolkaaGreatDoorWao
import Derived.Test.YtieofkhcboolkaaGreatDoorWaf
import Derived.ProofKit
set_option linter.unusedSimpArgs false
set_option linter.unusedVariables false
set_option maxRecDepth 100000
namespace Go.AW
open Go.Proofs.Tryz
abbrev wW:=zi aX (zi bZ (zi cJ (zi bS bQ)))
set_option maxHeartbeats 2000000 in
theorem aVT:∀(n:Nat) (t:Tm) (st:aB),Ws t→t.nodes≤n→t.nodes≤1000→st g9=some iP→aD prog 127 [t.av] st (fun r st'=>r=.str (tx n t)∧st'=st):=by
 intro n
 induction n with
 | zero=>intro t st _ h;have:=mO t;omega
 | succ n IH=>
 intro t st hws hn wC hP
 have hsz:=BR (n+1) t hws
 have hT:∀x,Ws x→x.nodes<t.nodes→B9 (tx n) x:=fun x hx hlt=>⟨fun st hP=>IH x st hx (by omega) (by omega) hP,BR n x hx,UK hx (by have:=mO x;omega),by omega⟩
 have hm:maxLen=9223372036854775807:=by rfl
 have htx:tx (n+1) t=if pK t=true then(r0 (tx n) (nA t 0) (lvl (bY t.s))++n7 t.s)++r9 (tx n) (nA t 1) (bY t.s - 1) else HT (tx n) n t:=by
  unfold HT
  rw[tx]
  cases hi:pK t with
  | false=>simp
  | true=>
   obtain⟨m,s,x,y,rfl,hs⟩:=G4 hi
   have:l7 (.mk 3 m s [x,y])=false:=by
    rw[LW]
    have h:s≠⟨#[46]⟩:=by rintro rfl;exact absurd hs (by decide)
    simp [h]
   rw[this]
   simp
 rw[htx] at hsz ⊢
 have DP:pK t=false→∀st,st g9=some iP→aD prog 213 [t.av,.func 127 []] st (fun r st'=>r=.str (HT (tx n) n t)∧st'=st):=fun _ st hP=>by
  unfold HT
  cases hp:l7 t with
  | true=>rw[aJ rfl];exact aVP n t hn hws wC hT hp st hP
  | false=>
   rw[aF (by decide)]
   cases ha:zW t with
   | true=>rw[aJ rfl];exact aVN t hws wC hT hp ha st hP
   | false=>rw[aF (by decide)];exact aVO t hws hp ha st hP
 cases hi:pK t with
 | false=>
  have DP:=DP hi
  rw[aF (by decide)]
  generalize HT (tx n) n t=A at *
  obtain⟨k,m,s,ts⟩:=t
  rw[RL] at hi
  have hop:=JZ s
  simp only[aU] at DP ⊢
  refine wF [1000000] 1 func127 ntmps127 rfl rfl ?_
  intro _
  by_cases hk:k=3
  case neg=>
   have hk':=bU hk
   simp only[↓reduceIte,hk',bP,aA,seval,wW]
   refine(DP _ hP).to ?_
   simp only[↓reduceIte,aA,seval]
  have hk':=cK hk
  by_cases h2:ts.length=2
  case neg=>
   have h2':=bU (show ¬((ts.length:Int)=2) by omega)
   simp only[↓reduceIte,hk',h2',aE,bF,bP,aA,seval,wW]
   refine(DP _ hP).to ?_
   simp only[↓reduceIte,aA,seval]
  have h2':=cK (show(ts.length:Int)=2 by omega)
  have h3:¬ 0<bY s:=by simpa [hk,h2] using hi
  have h3':=bU (show ¬((0:Int)<(bY s:Int)) by omega)
  simp only[↓reduceIte,hk',h2',aE,bF,aA,seval,wW]
  refine(hop _).to ?_
  simp only[bP,↓reduceIte,h3',bP,aA,seval,wW]
  refine(DP _ hP).to ?_
  simp only[↓reduceIte,aA,seval]
 | true=>
  rw[aJ rfl]
  rw[hi,aJ rfl] at hsz
  obtain⟨m,s,x,y,rfl,hs⟩:=G4 hi
  have hk:=hws.own.2
  have hxl:x.nodes<(Tm.mk 3 m s [x,y]).nodes:=by simp only[Tm.gK,bK];have:=mO y;omega
  have hyl:y.nodes<(Tm.mk 3 m s [x,y]).nodes:=by simp only[Tm.gK,bK];have:=mO x;omega
  have hx:=hT x (hk x (by simp)) hxl
  have hy:=hT y (hk y (by simp)) hyl
  rw[tF.1,tF.2,show(Tm.mk 3 m s [x,y]).s=s from rfl] at hsz ⊢
  have hl3:=(R9 hs).2.1
  have hll:lvl (bY s)≤10:=by unfold lvl;split<;>omega
  have cl:=fun st hP=>YP x (hk x (by simp)) hx (lvl (bY s)) hll false st hP
  have cr:=fun st hP=>YP y (hk y (by simp)) hy (bY s - 1) (by omega) true st hP
  rw[show HC (tx n) x (lvl (bY s)) false=r0 (tx n) x (lvl (bY s)) from rfl] at cl
  rw[show HC (tx n) y (bY s - 1) true=r9 (tx n) y (bY s - 1) from rfl] at cr
  have csp:=aU9 s hs
  have clm:=aU2 s hs
  have clv:=JW s
  have hop:=JZ s
  rw[cL,cL] at hsz
  generalize r0 (tx n) x (lvl (bY s))=A at *
  generalize r9 (tx n) y (bY s - 1)=B at *
  generalize n7 s=C at *
  have hs1:A.size+C.size≤maxLen:=by omega
  have hs2:(A++C).size+B.size≤maxLen:=by rw[cL];omega
  have hi0:=bD (av:=Tm.av) (l:=[x,y]) (i:=0) a8 rfl (aH x)
  have hi1:=bD (av:=Tm.av) (l:=[x,y]) (i:=1) a8 rfl (aH y)
  rw[show((0:Nat):Int)=0 from rfl] at hi0
  rw[show((1:Nat):Int)=1 from rfl] at hi1
  simp only[aU,aZ,aV] at hi0 hi1 ⊢
  have a1B:((0:Int)<(bY s:Int))=True:=cK (by omega)
  generalize lvl (bY s)=L0 at *
  generalize bY s=L at *
  obtain⟨L1,hL1⟩:∃L1,L1=L - 1:=⟨_,rfl⟩
  have hw:=mW (x:=(L:Int) - 1) (m:=L1) (by omega) (by omega)
  rw[←hL1] at cr
  refine wF [1000000] 1 func127 ntmps127 rfl rfl ?_
  intro _
  simp only[↓reduceIte,bF,aA,↓aR,seval,wW]
  refine(hop _).to ?_
  simp only[↓reduceIte,a1B,bF,aA,seval,wW]
  refine(clv _).to ?_
  simp only[↓reduceIte,aA,seval]
  refine wP [(0,1),(4,1),(8,1),(12,1),(16,1),(17,1),(1,2),(2,1),(3,2),(5,2),(6,2),(7,2),(9,2),(10,2),(11,1),(13,2),(14,1),(15,2),(18,2),(19,1),(20,1)] [0,4,8,12,16,17,1,2,3,5,6,7,9,10,11,13,14,15,18,19,20] mixed ?_
  simp only[aT,aH,↓reduceIte,hi0,hw,aA,seval,wW]
  refine fK (clm _) ?_
  simp only[↓reduceIte,aA,seval]
  refine fK (cl _ hP) ?_
  simp only[↓reduceIte,aA,seval,wW]
  refine fK (csp _) ?_
  simp only[aT,aH,↓reduceIte,hi1,hs1,aA,seval,wW]
  refine fK (cr _ hP) ?_
  simp only[↓reduceIte,hs2,aA,seval]
theorem aVS(t:Tm)(ht:t.valid=true)(st:aB)(hP:st g9=some iP):aD prog 127 [t.av] st (fun r st'=>r=.str (tx 1000 t)∧st'=st):=by
 have:=Tm.w6 ht
 exact aVT 1000 t st ⟨30,by simp only[Tm.valid,cB] at ht;exact ht.1⟩ (by omega) (by omega) hP
theorem UO{t:Tm}(ht:t.valid=true):(tx 1000 t).size≤3840∧1≤(tx 1000 t).size:=by
 have hn:=Tm.w6 ht
 have hw:Ws t:=⟨30,by simp only[Tm.valid,cB] at ht;exact ht.1⟩
 exact⟨by have:=BR 1000 t hw;omega,UK hw (by decide)⟩
theorem OK{v:Int}{t:Tm}(ht:t.valid=true):(iZ v t).size≤3842∧1≤(iZ v t).size:=by
 obtain⟨h1,h2⟩:=UO ht
 unfold iZ
 rw[cL,cL]
 show 1+1+_≤_∧1≤1+1+_
 omega
theorem x7{q a:List Tm}(hf:jT q a=true):gX q=true∧a.length=(aY q []).length∧(∀x∈a,x.valid=true)∧(∀v∈aY q [],0≤v∧v<26)∧(aY q []).length≤26:=by
 simp only[jT,cB,bO,dQ] at hf
 obtain⟨⟨h1,h2⟩,h3⟩:=hf
 obtain⟨v1,v2⟩:=HF (A9 h1).2
 exact⟨h1,h2,h3,v1,v2⟩
theorem aZG{q a:List Tm}(hf:jT q a=true):1≤(v7 q a).size:=by
 obtain⟨_,h2,h3,_,_⟩:=x7 hf
 unfold v7
 rw[aJ hf]
 unfold CO
 split
 · exact by decide
 · rename_i hv
   refine a2J (fun e=>hv ?_) fun x hx=>?_
   · have:=fE List.length e
     rw[aE,List.length_zip,aW,h2,Nat.min_self] at this
     exact I6.1 this
   · obtain⟨p,hp,rfl⟩:=cI.1 hx
     exact(OK (h3 _ (List.of_mem_zip hp).2)).2
theorem aJT{q a:List Tm}(hf:jT q a=true):¬v7 q a=⟨#[]⟩:=fun e=>by
 have:=aZG hf
 rw[e] at this
 exact absurd this (by decide)
abbrev EG:=zi aX (zi cJ (zi fA (zi bS (zi nM (zi bQ mA)))))
set_option maxHeartbeats 1000000 in
theorem aSY(q a:List Tm)(hf:jT q a=true)(st:aB)(hP:st g9=some iP):aD prog 57 [.slice (q.map Tm.av),cG a] st (fun r st'=>r=.str (CO (aY q []) a)∧st'=st):=by
 obtain⟨hq,hal,hva,Q7,hvl⟩:=x7 hf
 have hvo:=z6 q
 have hnd:=D7 hq
 generalize aY q []=V at *
 have hzl:(V.zip a).length=V.length:=by rw[List.length_zip,hal,Nat.min_self]
 have hsz:(jV 59 ((V.zip a).map fun p=>iZ p.1 p.2)).size≤140737488355328:=by
  have:=aLG (c:=59) (l:=(V.zip a).map fun p=>iZ p.1 p.2) (B:=3842) fun x hx=>by
   obtain⟨p,hp,rfl⟩:=cI.1 hx
   exact(OK (hva _ (List.of_mem_zip hp).2)).1
  rw[aE,hzl] at this
  refine jP this (jP (pX _ hvl) (by decide))
 have hjn:=aL3 ((V.zip a).map fun p=>iZ p.1 p.2) 59 (by rw[aE,hzl];omega) (by generalize (jV 59 ((V.zip a).map fun p=>iZ p.1 p.2)).size=z at *;omega)
 have hm:maxLen=9223372036854775807:=by rfl
 refine wF [1000000] 2 func57 ntmps57 rfl rfl ?_
 intro _
 simp only[aA,seval,EG]
 refine(hvo _ hnd).to ?_
 simp only[aE,aA,seval,EG]
 refine oA (σ:=Unit) [1000000] [3,4,9,10] (V.zip a) 1 5 (fun i _=>((V.zip a).take i).map fun p=>.str (iZ p.1 p.2)) (fun _ _=>True) (fun i _=>[(11,.int .i64 (i:Int))]) (fun i _=>st) (fun i _ _ e he=>by simp only[cI] at he;obtain⟨x,_,rfl⟩:=he;exact⟨rfl,rfl⟩) (by decide +kernel) ⟨(),0,trivial,fun h=>absurd rfl h,aN.mk (by simp only[iK,jG,aV,aA,↓aR,seval])⟩ (fun i x s' b hx hlt bH hdr hinv hb=>?_) (fun s' b hge hinv=>?_)
 case refine_1=>
  obtain⟨v,x⟩:=x
  obtain⟨hv,hxa⟩:=U0.1 hx
  simp only at hv hxa
  have cF:(((V.zip a).take i).map fun p=>AV.str (iZ p.1 p.2)).length=i:=by simp only[aE,dC];omega
  have htk:((V.zip a).take i).map (fun p=>AV.str (iZ p.1 p.2))++ [.str (iZ v x)]=((V.zip a).take (i+1)).map fun p=>AV.str (iZ p.1 p.2):=by rw[eA,hx];simp
  have hPa:(a7 st b (((V.zip a).take i).map fun p=>AV.str (iZ p.1 p.2))) g9=some iP:=FP hb hP
  have hLw:∀e∈((V.zip a).take i).map (fun p=>AV.str (iZ p.1 p.2)),e.width=1:=fun e he=>by simp only[cI] at he;obtain⟨x,_,rfl⟩:=he;rfl
  generalize ((V.zip a).take i).map (fun p=>AV.str (iZ p.1 p.2))=L at *
  have hwi:=bL (n:=(i:Int)+1)
  have hi:=cK (show(i:Int)<(V.length:Int) by omega)
  have QC:c9 prog 26 (.slice (V.map iv)) (.int .i64 (i:Int))=some (.pptr (iv v)):=bD (av:=iv) g7 hv rfl
  have GK:c9 prog 34 (.slice (a.map Tm.av)) (.int .i64 (i:Int))=some (.pptr x.av):=bD (av:=Tm.av) a8 hxa (aH x)
  have hvv:=Q7 v (cD hv)
  obtain⟨m,rfl⟩:=pV hvv.1
  have hxv:=hva x (cD hxa)
  have hxs:=(UO hxv).1
  have hcw:=fun st (hs:fP (one g9 iP) st)=>aVS x hxv st (hs g9 iP qT)
  have hbt:iZ m x=(pM m++⟨#[61]⟩)++tx 1000 x:=rfl
  rw[hbt] at htk
  generalize tx 1000 x=X at *
  have hs1:(pM m).size+(⟨#[61]⟩:ByteArray).size≤maxLen:=by show 1+1≤_;omega
  have hs2:(pM m++(⟨#[61]⟩:ByteArray)).size+X.size≤maxLen:=by rw[cL];show 1+1+_≤_;omega
  simp only[hi,QC,aA,seval,EG]
  refine wX [(0,1),(1,1),(2,1),(3,1),(4,1),(5,1),(6,1),(7,1),(8,1),(9,1),(10,1),(11,1),(12,0),(13,1)] [0,1,2,3,4,5,6,7,8,9,10,11,13] (one g9 iP) mixed rfl (fY hPa) ?_
  simp only[aA,seval]
  refine J6 (fun st _=>YB m (by omega) st) ?_
  simp only[hs1,GK,aT,aH,aA,seval,EG]
  refine J6 hcw ?_
  simp only[hs2,aA,seval,EG]
  refine eD qC KH KL rfl rfl (eO rfl rfl) (fun e he=>hLw e he) hb (by simp only[cF,aS,aW];omega) (by simp only[cF,aS,aW];omega) (fun b' hb'=>?_)
  rw[htk] at hb' ⊢
  simp only[hwi,aA,seval]
  exact⟨fY (FP hb' hP),(),b',hb',aN.mk (by simp only[aA,seval])⟩
 rw[dW]
 rw[rI] at hjn
 rw[hzl] at hge ⊢
 simp only[hge,dZ,iD,gV,uJ,kF,aE,hzl,aE,aA,seval,EG]
 unfold CO
 by_cases hV:V= []
 · rw[aJ hV]
   have h0:=cK (show(V.length:Int)=0 by rw[hV];try rfl)
   simp only[h0,aA,seval]
 · rw[aF hV]
   have h0:=bU (show ¬(V.length:Int)=0 from fun e=>hV (I6.1 (by omega)))
   simp only[h0,aA,seval]
   refine(hjn _).to ?_
   simp only[aA,seval]
abbrev aNX:=zi bZ (zi cJ (zi bS nM))
theorem XD(q a:List Tm)(st:aB)(hP:st g9=some iP):aD prog 13 [.slice (q.map Tm.av),cG a] st (fun r st'=>r=.str (v7 q a)∧st'=st):=by
 have hf:=XB a q
 have ht:=fun h=>aSY q a h
 unfold v7
 refine wF [1000000] 2 func13 ntmps13 rfl rfl ?_
 intro _
 simp only[aA,seval,aNX]
 refine(hf _).to ?_
 cases h:jT q a with
 | false=>
  rw[aF (by decide)]
  simp only[iW,aA,seval]
 | true=>
  rw[aJ rfl]
  simp only[fU,aA,seval,aNX]
  refine(ht h _ hP).to ?_
  simp only[aA,seval]
theorem aTG(q:List Tm)(st:aB):aD prog 23 [.slice (q.map Tm.av)] st (fun r st'=>r=.slice ((if gX q=true then aY q [] else[]).map iv)∧st'=st):=by
 refine aD.done ?_
 refine wF [1000000] 1 func23 ntmps23 rfl rfl ?_
 intro _
 have hv:=z6 q
 simp only[aA,seval]
 refine(OS q _).to ?_
 cases h:gX q with
 | false=>
  rw[aF (by decide)]
  simp only[iW,aV,aA,seval]
  exact⟨rfl,aL.refl _⟩
 | true=>
  rw[aJ rfl]
  simp only[fU,aA,seval]
  refine(hv _ (D7 h)).to ?_
  simp only[aA,seval]
  exact⟨by simp only[nG,nG],aL.refl _⟩
abbrev HX:=zi aX (zi bZ (zi cJ (zi yZ (zi fA (zi BQ (zi k9 (zi bS nM)))))))
set_option maxHeartbeats 4000000 in
theorem aSO(code:List Bt)(st:aB)(hP:st g9=some iP):aD prog 5 [.slice (code.map iC)] st (fun r st'=>r=.bool true∧st' g9=some iP):=by
 refine wF [1000000] 1 func5 ntmps5 rfl rfl ?_
 intro _
 simp only[aE,aA,seval,HX]
 refine aP (fun h1=>?_) (fun h1=>?_)
 · simp only[hP,aA,seval]
 simp only[aA,seval]
 refine(aSM code _).mono ?_
 rintro _ s1 ⟨⟨p,q,most,fuel,⟨_,hf1,hf2⟩,rfl⟩,rfl⟩
 have hS1:=fun st=>(aTI p q most fuel st).aLS
 have hS2:=aVK p q most fuel
 have hF:=a5T p (cnd:=fun _ l=>l) (fun _ l=>⟨fun _ h=>h,cZ _⟩) q most fuel
 have hL:=(aNG p (cnd:=fun _ l=>l) (fun _ l=>⟨fun _ h=>h,cZ _⟩) q most fuel).1
 generalize kT p (fun _ l=>l) q most fuel=T at *
 obtain⟨L,e⟩:=T
 simp only at hS1 hS2 hF hL
 simp only[aA,seval]
 refine(hS1 _).to ?_
 simp only[aA,seval]
 refine(hS2 _).to ?_
 simp only[bF,eX,aA,seval]
 refine(aVA L _).to ?_
 simp only[eX,fU,aA,seval]
 refine(aTG q _).to ?_
 simp only[aA,seval]
 refine dV (σ:=Unit) [1000000] [4,7,11] L (fun _ _=>True) (fun i _=>[(2,.bool false),(12,.int .i64 i)]) (fun _ _=>s1) (by decide +kernel) ⟨(),trivial,aN.mk (by simp only[aA,↓aR,seval])⟩ (fun i a _ ha hlt bH a9S _=>?_) (fun _ hge _=>?_)
 case refine_2=>
  simp only[hge,hP,aE,aA,seval,HX]
 obtain⟨hq,hal,hav,har⟩:=hF a (cD ha)
 have hva:=dQ.1 hav
 have hfm:jT q a=true:=by simp only[jT,hq,hal,hav,bF,Bool.and_self]
 have h26:=(x7 hfm).2.2.2.2
 have hR:=aTH a (by omega) (by have:=aNN hva;omega) hva
 rw[har] at hR
 have hPg:=YC a a
 rw[eH rfl] at hPg
 have hFm:=fun st hP=>XD q a st hP
 have hne:=bU (aJT hfm)
 generalize v7 q a=tt at *
 have hat:c9 prog 27 (.slice (L.map cG)) (.int .i64 (i:Int))=some (.pptr (cG a)):=bD (av:=cG) AC ha rfl
 have hwi:=bL (n:=(i:Int)+1)
 rw[aJ hq]
 simp only[bH,bF,eX,aE,hat,aA,seval,HX]
 refine(hR _).to ?_
 have aZT:((a.length:Int)=((aY q []).length:Int))=True:=cK (by omega)
 simp only[aZT,bF,fU,eX,aE,hat,aA,seval,HX]
 refine(hPg _).to ?_
 simp only[fU,eX,hat,aA,seval,HX]
 refine(hFm _ hP).to ?_
 simp only[hne,bP,eX,hwi,aA,seval]
 exact⟨(),aN.mk (by simp only[aA,seval])⟩
end Go.AW
namespace Go.AW
open Go.ChangeShapes Go.WideShapes Go.ChangeAt Go.RowKit
abbrev aL1:aB:=fun _=>none
section
variable {H:Type} {enc:TypeId×Value→H} {P:Program} {w:World}
theorem VI{h:bM}{st:aB}{b k:Nat}:∀ {es:List AV} {off:Nat},(∀e∈es,e.width=k)→(∀(i:Nat) e,es[i]?=some e→VE h st b (off+i*k) e)→dH h st b off es
 | [],_,_,_=>by simp [dH]
 | e::es,off,hw,h=>by
  simp only[dH]
  refine⟨by simpa [VE] using h 0 e rfl,VI (fun x hx=>hw x (by simp [hx])) fun i x hx=>?_⟩
  have:=h (i+1) x (by simpa using hx)
  rw[hw e (by simp),xH,←Nat.a5X k i] 
  exact this
where Nat.a5X (k i:Nat):(i+1)*k=k+i*k:=by rw[oY];omega
theorem YQ{a:Addr}{v:Value}(h:w.cell? a=some v):a.spot=none∧a.block<w.heap.size∧cellAt w.heap a.block a.off=some v:=by
 unfold World.cell? at h
 split at h
 · rename_i c t fr hb
   split at h
   · cases h
   · rename_i hs
     refine⟨by simpa using hs,(EY.1 hb).1,by simp [cellAt,hb,h]⟩
 · cases h
theorem YT{a:Addr}{n:Nat}{cs:List Value}(hs:a.spot=none)(h:w.cells? 0 a n=some cs):eV w.heap a.block a.off cs∧cs.length=n:=by
 obtain⟨_,hl,hc⟩:=World.cells?_some h
 refine⟨?_,hl⟩
 have:∀(l:List Value) (k:Nat),(∀i,i<l.length→w.cell? (a.add (k+i))=l[i]?)→eV w.heap a.block (a.off+k) l:=by
  intro l
  induction l with
  | nil=>intro _ _;trivial
  | cons v l ih=>
   intro k hk
   refine⟨?_,?_⟩
   · have:=(YQ (hk 0 (by simp))).2.2
     obtain⟨b,off,sp⟩:=a
     simp only at hs
     subst hs
     simpa [Addr.nR] using this
   · have:=ih (k+1) (fun i hi=>by have:=hk (i+1) (by simp;omega);rw[show k+1+i=k+(i+1) by omega];simpa using this)
     simpa [xH] using this
 simpa using this cs 0 (fun i hi=>by simpa using hc i (by omega))
theorem aPD(hl:laidOutB P=true){W W':World}{sp:Nat→Bool}:∀ {ts:List TypeId} {vs:List Value} {ds:List (DataW H)} {ps:List MemPlace},(ts.all fun t=>P.readableRec t&&decide (t<P.types.size))=true →
 DataW.TrodAll enc P W 0 (fun _=>true) true ts vs ds ps→(∀x∈ps,W.sameAt W' x)→(∀x∈ps,sp x.block=true)→DataW.TrodAll enc P W' 0 sp true ts vs ds ps
 | [],vs,ds,ps,_,h,_,_=>by
  cases vs<;>cases ds<;>simp [DataW.TrodAll] at h ⊢
  exact h
 | t::ts,vs,ds,ps,ht,h,h1,h2=>by
  obtain⟨v,vs',d,ds',p,q,rfl,rfl,rfl,hd,DM⟩:=trodAll_cons h
  simp only[j3,cB,bO] at ht
  refine⟨p,q,Go.WideElems.Trod_stays hl ht.1.1 ht.1.2 hd (fun x hx=>h1 x (by simp [hx])) (fun x hx=>h2 x (by simp [hx])),aPD hl ht.2 DM (fun x hx=>h1 x (by simp [hx])) (fun x hx=>h2 x (by simp [hx])),rfl⟩
end
end Go.AW

