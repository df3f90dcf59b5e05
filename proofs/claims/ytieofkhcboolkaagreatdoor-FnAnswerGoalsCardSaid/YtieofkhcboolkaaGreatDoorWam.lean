import Derived.Test.YtieofkhcboolkaaGreatDoorWal
import Derived.Test.YtieofkhcboolkaaGreatDoorWai
import Derived.Test.YtieofkhcboolkaaGreatDoorWak
import Derived.Test.YtieofkhcboolkaaGreatDoorWaf
import Derived.Lib.SliceRun
set_option linter.unusedSimpArgs false
set_option linter.unusedVariables false
set_option maxRecDepth 100000
namespace Go.AW
open Go.Proofs.Tryz
theorem UB:∀(a b:List Tm) (l:List Int),aY (a++b) l=aY b (aY a l)
 | [],_,_=>rfl
 | t::a,b,l=>by simp only[fC,aY,UB a b]
abbrev S9:=zi aX (zi fA (zi bS bQ))
theorem O1(q:List Tm)(st:aB)(hwf:∀t∈q,t.wf=true)(hsz:bK Tm.nodes q≤1099511627776):aD prog 133 [.slice (q.map Tm.av)] st (fun r st'=>r=.slice ((aY q []).map iv)∧st'=st):=by
 refine aD.done ?_
 refine wF [1000000] 1 func133 ntmps133 rfl rfl ?_
 simp only[d7,AV.fits,d9,aE]
 intro ⟨hl,_⟩
 simp only[aA,seval,S9]
 refine oA (σ:=Unit) [1000000] [0,2] q 1 3 (fun i _=>(aY (q.take i) []).map iv) (fun _ _=>True) (fun i _=>[(4,.int .i64 i)]) (fun _ _=>st) (fun i _ _ e he=>by simp only[cI] at he;obtain⟨t,_,rfl⟩:=he;exact⟨rfl,rfl⟩) (by decide +kernel) ⟨(),0,trivial,fun h=>absurd rfl h,aN.mk (by simp only[iK,jG,aY,aV,aA,↓aR,seval])⟩ (fun i x s b hx hlt bH hdr hinv hb=>?_) (fun s b hge hinv=>?_)
 case refine_2=>
  simp only[hge,dZ,gV,nW,kF,dW,aE,aA,seval,S9]
  exact⟨rfl,aL.refl _⟩
 have hw:=bL (n:=(i:Int)+1)
 have hat:=bD (av:=Tm.av) a8 hx (aH x)
 have hst:=HR Tm.nodes hx
 have hvl:=wZ (q.take i) []
 simp only[aW,fZ] at hvl
 have htk:x.vars (aY (q.take i) [])=aY (q.take (i+1)) []:=by
  rw[eA,hx,UB]
  try rfl
 simp only[bH,aE,hat,aA,seval,S9]
 refine(F1 x (aY (q.take i) []) b st (hwf x (cD hx)) hb (by omega)).mono ?_
 rintro _ _ ⟨b',rfl,rfl,hb'⟩
 rw[htk] at hb' ⊢
 simp only[aA,seval]
 exact⟨(),b',hb',aN.mk (by simp only[hw,aA,seval])⟩
abbrev a57:=zi bZ (zi fA bS)
theorem W7(q:List Tm)(st:aB):aD prog 68 [.slice (q.map Tm.av)] st (fun r st'=>r=.slice ((if gX q=true then aY q [] else[]).map iv)∧st'=st):=by
 refine aD.done ?_
 refine wF [1000000] 1 func68 ntmps68 rfl rfl ?_
 intro _
 simp only[aA,seval]
 refine(F4 q _).to ?_
 simp only[aA,seval]
 refine aP (fun h=>?_) (fun h=>?_)
 · simp only[iV] at h
   simp only[aA,seval,a57]
   rw[aF (by simp [h])]
   exact⟨rfl,aL.refl _⟩
 simp only[lO] at h
 obtain⟨hqv,hq6⟩:=D8 h
 simp only[aA,seval]
 refine(O1 q _ (fun t ht=>Tm.rS t (Tm.IU (hqv t ht))) (D7 h)).to ?_
 simp only[aA,seval]
 rw[aJ h]
 exact⟨rfl,aL.refl _⟩
theorem aJO:∀(vars:List Int) (cH:List Tm) (n:Int) (i:Int),0≤i→cH.length=vars.length→n∈vars→qE (vars.zip cH) n=cH[(d4 n vars i - i).toNat]?
 | [],_,n,i,_,_,h=>by simp at h
 | v::vars,[],n,i,_,hl,_=>by simp at hl
 | v::vars,x::cH,n,i,hi,hl,h=>by
  simp only[List.zip_cons_cons,qE,d4]
  by_cases e:v=n
  · subst e;simp
  · have h':n∈vars:=by simpa [c7 e] using h
    rw[aF e,aF (c7 e),aJO vars cH n (i+1) (by omega) (by simpa using hl) h']
    obtain⟨j,h1,_⟩:=LK n vars (i+1) h'
    rw[h1,show(i+1+(j:Int) - (i+1)).toNat=j by omega,show(i+1+(j:Int) - i).toNat=j+1 by omega]
    simp
theorem a5W{vars:List Int}{cH:List Tm}{n:Int}(hl:cH.length=vars.length)(h:n∈vars):gM (vars.zip cH) n=valOf vars cH n:=by
 rw[gM,aJO vars cH n 0 (Int.le_refl 0) hl h,valOf,Int.sub_zero]
theorem aO8{q:List Tm}{cH:List Tm}(hq:∀t∈q,t.cv=true)(hl:cH.length=(aY q []).length):∀t∈q,t.aG (gM ((aY q []).zip cH))=t.aG (valOf (aY q []) cH):=fun t ht=>
 n6 t fun v hv=>a5W hl ((tP q [] hq).2 (.inr ⟨t,ht,hv⟩))
theorem aQX{q cH:List Tm}(hq:gX q=true)(hl:cH.length=(aY q []).length) :
 kN q cH=if ∀t∈q,(p8 t ((aY q []).zip cH)).isSome=true then some (q.map (Tm.aG (valOf (aY q []) cH))) else none:=by
 obtain⟨hqv,_⟩:=D8 hq
 have hcv:=fun t ht=>Tm.IU (hqv t ht)
 have hmv:=aO8 hcv hl
 have RE:((aY q []).zip cH).all (fun b=>b.2.valid)=cH.all Tm.valid:=by
  have:∀(vars:List Int) (cH:List Tm),cH.length=vars.length→(vars.zip cH).all (fun b=>b.2.valid)=cH.all Tm.valid:=by
   intro vars
   induction vars with
   | nil=>intro cH h;cases cH with
    | nil=>rfl
    | cons _ _=>simp at h
   | cons v vars ih=>intro cH h;cases cH with
    | nil=>rfl
    | cons x cH=>simp only[List.zip_cons_cons,j3,ih cH (by simpa using h)]
  exact this _ _ hl
 have x9:∀t∈q,(p8 t ((aY q []).zip cH)).isSome=(cH.all Tm.valid&&(t.aG (valOf (aY q []) cH)).valid):=fun t ht=>by
  rw[p8,RE,hmv t ht]
  cases h1:cH.all Tm.valid<;>cases h2:(t.aG (valOf (aY q []) cH)).valid<;>simp [hqv t ht]
 have aKO:(jT q cH=true∧(q.map (Tm.aG (valOf (aY q []) cH))).all Tm.valid=true)↔∀t∈q,(p8 t ((aY q []).zip cH)).isSome=true:=by
  constructor
  · rintro⟨h1,h2⟩ t ht
    rw[x9 t ht]
    simp only[jT,cB,bO] at h1
    simp only[dQ,cI] at h2
    simp [h1.2,h2 _ ⟨t,ht,rfl⟩]
  · intro h
    have hv:cH.all Tm.valid=true:=by
     cases q with
     | nil=>cases cH with
      | nil=>rfl
      | cons _ _=>simp [aY] at hl
     | cons t q=>
      have:=h t (by simp)
      rw[x9 t (by simp)] at this
      simp only[cB] at this
      exact this.1
    refine⟨by simp only[jT,hq,hl,hv,bF,Bool.and_self],?_⟩
    simp only[dQ,cI]
    rintro _ ⟨t,ht,rfl⟩
    have:=h t ht
    rw[x9 t ht] at this
    simp only[cB] at this
    exact this.2
 unfold kN
 by_cases h:∀t∈q,(p8 t ((aY q []).zip cH)).isSome=true
 · rw[aJ (aKO.2 h),aJ h]
 · rw[aF (fun h'=>h (aKO.1 h')),aF h]
abbrev sA:=zi aX (zi bZ (zi fA (zi bS (zi nM (zi bQ (zi IJ MS))))))
theorem aVF(q cH:List Tm)(st:aB):aD prog 16 [.slice (q.map Tm.av),cG cH] st (fun r st'=>r=.tup [.slice (((kN q cH).getD []).map Tm.av),.bool (kN q cH).isSome]∧st'=st):=by
 refine aD.done ?_
 refine wF [1000000] 2 func16 ntmps16 rfl rfl ?_
 simp only[d7,AV.fits,d9,aE]
 intro ⟨⟨hl2,_⟩,hl,_⟩
 simp only[cG,aA,seval,sA]
 refine(W7 q _).to ?_
 simp only[aA,seval]
 refine(F4 q _).to ?_
 simp only[aA,seval]
 have nY:kN q cH=none→(AV.tup [.fslice [],.bool false]).soft=.tup [.slice (((kN q cH).getD []).map Tm.av),.bool (kN q cH).isSome]:=fun h=>by
  rw[h];try rfl
 refine cU (fun h=>?_) (fun h=>?_)
 case refine_2=>
  simp only[iW,iV] at h
  simp only[h,aA,seval,sA]
  exact⟨nY (by rw[kN,aF (by simp [jT,h])]),aL.refl _⟩
 simp only[lO] at h
 simp only[aE,h,aA,seval,sA]
 refine aP (fun h2=>?_) (fun h2=>?_)
 · simp only[iV,dB] at h2
   simp only[aA,seval,sA]
   exact⟨nY (by rw[kN,aF (by simp [jT];omega)]),aL.refl _⟩
 simp only[lO,bO] at h2
 have hvl:cH.length=(aY q []).length:=by omega
 obtain⟨hqv,hq6⟩:=D8 h
 rw[aQX h hvl]
 generalize hF:valOf (aY q []) cH=F at *
 simp only[aA,seval,sA]
 have hzl:((aY q []).zip cH).length=(aY q []).length:=by rw[List.length_zip,hvl,Nat.min_self]
 have hvn:=wZ q []
 have hqn:=D7 h
 simp only[aW,fZ] at hvn
 generalize hbs:(aY q []).zip cH=bs at *
 refine oA (σ:=Unit) [1000000] [0,3,4,5,6] (bs) 5 7 (fun i _=>(((bs).take i).map (fun b=>b)).map m8) (fun _ _=>True) (fun i _=>[(8,.int .i64 i)]) (fun _ _=>st) (fun i _ _ e he=>by simp only[cI] at he;obtain⟨t,_,rfl⟩:=he;exact⟨aR1 t,FW t⟩) (by decide +kernel) ⟨(),0,trivial,fun h=>absurd rfl h,aN.mk (by simp only[iK,jG,aV,aA,↓aR,seval])⟩ (fun i x s b hx hlt bH hdr hinv hb=>?_) (fun s b hge hinv=>?_)
 case refine_1=>
  have hw:=bL (n:=(i:Int)+1)
  have cF:((((bs).take i).map (fun b=>b)).map m8).length=i:=by simp only[aE,dC];omega
  have htk:((((bs).take i).map (fun b=>b)).map m8)++ [m8 ((fun b=>b) x)]=(((bs).take (i+1)).map (fun b=>b)).map m8:=by rw[eA,hx];simp
  obtain⟨v,t⟩:=x
  have hz:=hx
  rw[←hbs,U0] at hz
  have fR:=bD (av:=iv) (t:=26) g7 hz.1 rfl
  have qJ:=bD (av:=Tm.av) (t:=34) a8 hz.2 (aH t)
  simp only[←hzl,bH,aE,aA,seval,sA]
  refine wP [(0,1),(1,1),(2,1),(3,1),(5,1),(7,1),(4,2),(6,2),(8,1),(9,2),(10,1),(11,1),(12,0),(13,1)] [0,1,2,3,5,7,4,6,8,9,10,11,13] mixed ?_
  simp only[fR,qJ,aA,seval,sA]
  rw[show AV.agg (.int .i64 v::t.av.cells)=m8 (v,t) from rfl]
  refine eD KK ZG ZK rfl rfl (eO (FW _) (aR2 _)) (by intro e he;simp only[cI] at he;obtain⟨t,_,rfl⟩:=he;exact FW t) hb (by simp only[cF,aS,aW];omega) (by simp only[cF,aS,aW];omega) (fun b' hb'=>?_)
  rw[htk] at hb' ⊢
  simp only[aA,seval]
  exact⟨(),b',hb',aN.mk (by simp only[hw,aA,seval])⟩
 simp only[←hzl,hge,dZ,nV,gV,nW,uJ,kF,dW,List.map_id',aE,aA,seval,sA]
 refine oA (σ:=Unit) [1000000] [0,7] (q) 4 9 (fun i _=>(((q).take i).map (Tm.aG F)).map Tm.av) (fun i _=>∀t∈q.take i,(p8 t bs).isSome=true) (fun i _=>[(4,.slice []),(5,.bool false),(10,.int .i64 i)]) (fun _ _=>st) (fun i _ _ e he=>by simp only[cI] at he;obtain⟨t,_,rfl⟩:=he;exact⟨cC t,aH t⟩) (by decide +kernel) ⟨(),0,by simp,fun h=>absurd rfl h,aN.mk (by simp only[iK,jG,aV,aA,↓aR,seval])⟩ (fun i x s b hx hlt bH hdr hinv hb=>?_) (fun s b hge hinv=>?_)
 case refine_1=>
  have hw:=bL (n:=(i:Int)+1)
  have cF:((((q).take i).map (Tm.aG F)).map Tm.av).length=i:=by simp only[aE,dC];omega
  have htk:((((q).take i).map (Tm.aG F)).map Tm.av)++ [Tm.av ((Tm.aG F) x)]=(((q).take (i+1)).map (Tm.aG F)).map Tm.av:=by rw[eA,hx];simp
  have hat:=bD (av:=Tm.av) (t:=34) a8 hx (aH x)
  simp only[bH,aE,hat,aA,seval,sA]
  refine(aVG x bs _).to ?_
  have hmv:x.aG (gM bs)=x.aG F:=by rw[←hbs,←hF];exact aO8 (fun t ht=>Tm.IU (hqv t ht)) hvl x (cD hx)
  cases ha:p8 x bs with
  | none=>
   simp only[qW,aA,↓aR,seval,sA]
   rw[aF (fun dJ=>by have:=dJ x (cD hx);rw[ha] at this;cases this)]
   exact⟨rfl,aL.a7 (aL.refl _) hb⟩
  | some y=>
   have hy:y=x.aG F:=by
    rw[←hmv]
    unfold p8 at ha
    split at ha<;>simp at ha
    exact ha.symm
   simp only[qW,aA,↓aR,seval,sA]
   rw[hy]
   refine eD a8 fW fX rfl rfl (eO (aH _) (bT _)) (by intro e he;simp only[cI] at he;obtain⟨t,_,rfl⟩:=he;exact aH t) hb (by simp only[cF,aS,aW];omega) (by simp only[cF,aS,aW];omega) (fun b' hb'=>?_)
   rw[htk] at hb' ⊢
   simp only[aA,seval]
   refine⟨(),b',⟨?_,hb',aN.mk (by simp only[hw,aA,seval])⟩⟩
   intro t ht
   rw[eA,hx] at ht
   rcases fQ.1 ht with ht | ht
   · exact hinv t ht
   · simp at ht;subst ht;rw[ha];try rfl
 rw[dW] at hinv
 rw[aJ hinv]
 simp only[hge,dZ,nV,gV,kF,dW,aE,aA,seval,sA]
 exact⟨rfl,aL.refl _⟩
end Go.AW
namespace Go.AW
theorem b7.of{h:bM}{st st':aB}(hk:∀x,st x=none→st' x=none):b7 h st h st':=⟨cZ _,fun x _ e=>⟨rfl,hk x e⟩,fun _ c _ _ e=>⟨c,e,rfl⟩⟩
theorem fV.aZJ{φ:AF}{st:aB}{b c:Nat}{es cs:List AV}(hbc:b≠c)(h1:st b=some (.cells (es.flatMap AV.cells)))(h2:∀e∈es,e.cE=false)(h3:iI es)(hc:st c=some (.cells cs)) :
 fV φ st φ ((st.erase b).aC c (.cells (lI b es cs))):=fun h tmps S F=>by
 have T2:b7 h (st.erase b) h ((st.erase b).aC c (.cells (lI b es cs))):=b7.of fun x hx=>by
  have:x≠c:=by rintro rfl;simp [aB.erase,c7 hbc,hc] at hx
  rw[aB.aM _ _ this];exact hx
 have T:b7 h st h ((st.erase b).aC c (.cells (lI b es cs))):=((jK st b).step h).trans T2
 refine⟨fun x o hx=>?_,T,fun d=>(F d).mono T⟩
 by_cases e:x=c
 · subst e
   rw[aB.aO] at hx
   cases hx
   obtain⟨hl,c0,t,e1,e2,vs,e3,e4⟩:=S x _ hc
   refine⟨hl,c0,t,e1,?_,vs,e3,bA.mono T2 _ _ (bA.fz S h1 h2 h3 cs vs e4)⟩
   rw[KY,aE];exact e2
 · rw[aB.aM _ _ e] at hx
   have hx':st x=some o:=by
    simp only[aB.erase] at hx
    split at hx
    · cases hx
    · exact hx
   obtain⟨hl,y⟩:=S x o hx'
   exact⟨hl,kY.mono T rfl y⟩
theorem fV.a5Q{φ:AF}{st:aB}{c:Nat}{cs:List AV}(hc:st c=some (.cells cs)):fV φ st φ (st.aC c (.cells (hH cs))):=fun h tmps S F=>by
 have T:b7 h st h (st.aC c (.cells (hH cs))):=b7.of fun x hx=>by
  have:x≠c:=by rintro rfl;rw[hc] at hx;cases hx
  rw[aB.aM _ _ this];exact hx
 refine⟨fun x o hx=>?_,T,fun d=>(F d).mono T⟩
 by_cases e:x=c
 · subst e
   rw[aB.aO] at hx
   cases hx
   obtain⟨hl,c0,t,e1,e2,vs,e3,e4⟩:=S x _ hc
   refine⟨hl,c0,t,e1,?_,vs,e3,bA.mono T _ _ (bA.soft cs vs e4)⟩
   rw[yQ,aE];exact e2
 · rw[aB.aM _ _ e] at hx
   obtain⟨hl,y⟩:=S x o hx
   exact⟨hl,kY.mono T rfl y⟩
theorem a2S{φ:AF}{S:aB}{c b:Nat}{k n:Int}{s:ByteArray}{l:List AV}(hb:l≠[]→(S.aC c (.cells ([.int .i64 k,.int .i64 n,.str s]++ [bE 4 b l]))) b=none)(hj:∀e∈l,e.cE=false)(hE:iI l) :
 fV φ (eY S c b [.int .i64 k,.int .i64 n,.str s] l) φ (S.aC c (.cells [.int .i64 k,.int .i64 n,.str s,.slice l])):=by
 have hcc:=eF hb
 cases l with
 | nil=>
  have:=fV.a5Q (φ:=φ) hcc
  unfold eY at this ⊢
  simp only[xR,cY] at this
  exact this
 | cons y l=>
  have h0:=hb (by simp)
  have hne:b≠c:=by rintro rfl;rw[aB.aO] at h0;cases h0
  have h1:eY S c b [.int .i64 k,.int .i64 n,.str s] (y::l) b=some (.cells ((y::l).flatMap AV.cells)):=by unfold eY;simp only[a7];exact aB.aO _ _ _
  have:=fV.aZJ (φ:=φ) hne h1 hj hE hcc
  have e:(eY S c b [.int .i64 k,.int .i64 n,.str s] (y::l)).erase b=S.aC c (.cells ([.int .i64 k,.int .i64 n,.str s]++ [bE 4 b (y::l)])):=by unfold eY;simp only[a7];exact aB.vX _ _ _ h0
  rw[e,cY] at this
  simpa [lI,AV.fz,bE] using this
theorem G5{S:aB}{c b:Nat}{hd hd' l:List AV}(hb:l≠[]→(S.aC c (.cells (hd++ [bE 4 b l]))) b=none) :
 (eY S c b hd l).aC c (.cells (hd'++ [bE 4 b l]))=eY S c b hd' l∧(l≠[]→(S.aC c (.cells (hd'++ [bE 4 b l]))) b=none):=by
 have hne:l≠[]→c≠b:=fun h e=>by have:=hb h;rw[←e,aB.aO] at this;cases this
 refine⟨by unfold eY;rw[o9 hne,cY],fun h=>?_⟩
 have:=hb h
 rw[aB.aM _ _ (c7 (hne h))] at this ⊢
 exact this
theorem PL{s0 st:aB}{b:Nat}{l:List AV}(D:aL s0 st):aL (a7 s0 b l) (a7 st b l):=by
 cases l with
 | nil=>exact D
 | cons y l=>
  intro x
  simp only[a7]
  by_cases e:x=b
  · subst e;simp [aB.aO]
  · rw[aB.aM _ _ e,aB.aM _ _ e];exact D x
end Go.AW
namespace Go.AW
open Go.Proofs.Tryz
abbrev aNV:=zi aX (zi fA (zi bQ oW))
theorem XR(bs:List Bt)(c p:Nat)(st:aB)(hp:p+5000≤1099511627776)(hR:dG st c bs p):aD prog 88 [.ptr c 0] st (Dr bs c p 5000 st NM):=by
 refine aD.mL ?_
 refine wF [1000000] 1 func88 ntmps88 rfl rfl ?_
 intro _
 simp only[aA,seval,aNV]
 intro b hb
 have hbc:=hR.ne hb
 refine(xU [3,2,4,1] (by simp) (by simp) bs c p (by omega) _ (hR.aC hbc)).mono ?_
 rintro _ _ ⟨y,hy,rfl,rfl⟩
 obtain⟨n,rfl,hn⟩:∃n:Nat,y=n∧n≤4:=by
  simp only[c8,dP,dX] at hy
  rcases hy with rfl | rfl | rfl | rfl
  · exact⟨3,rfl,by omega⟩
  · exact⟨2,rfl,by omega⟩
  · exact⟨4,rfl,by omega⟩
  · exact⟨1,rfl,by omega⟩
 have hpw:4 ^ (n+2)≤4096:=by
  have:=NW (n:=4) (by omega) (show n+2≤6 by omega)
  simpa using this
 simp only[aA,seval]
 refine(OV bs c n (p+1) _ (by omega) (by omega) dG.new).mono ?_
 rintro _ _ ⟨p1,hp1,a1D,rfl,t1,ht1,rfl⟩
 rw[cY]
 simp only[bR,bT,eJ (bR _),eE (aT _),aK,hbc,aA,seval,aNV]
 refine⟨st.aC c (cA bs p1),?_,p1,by omega,by omega,rfl,t1,ht1,rfl⟩
 intro x
 by_cases e4:x=b<;>by_cases ec:x=c<;>simp_all [aB.aC]
mutual
def Tm.sh(m:Int):Tm→Tm
 | .mk k n s ts=>.mk k (if k=1 then IntKind.i64.wrap (n+m) else n) s (M4 m ts)
def M4(m:Int):List Tm→List Tm
 | []=>[]
 | t::ts=>t.sh m::M4 m ts
end
theorem aO6(m:Int):∀ts:List Tm,M4 m ts=ts.map (Tm.sh m)
 | []=>rfl
 | t::ts=>by simp only[M4,aZ,aO6 m ts]
theorem Tm.SY(m k n:Int)(s:ByteArray)(ts:List Tm):(Tm.mk k n s ts).sh m=.mk k (if k=1 then IntKind.i64.wrap (n+m) else n) s (ts.map (Tm.sh m)):=by simp only[Tm.sh,aO6]
abbrev pS:=zi aX (zi cJ (zi bS bQ))
theorem OY(m:Int):∀(t:Tm) (st:aB),t.small=true→aD prog 285 [t.av,.int .i64 m] st (fun r st'=>r=(t.sh m).av∧st'=st)
 | .mk k n s ts,st,hsm=>by
  obtain⟨hlen,mN⟩:=Tm.nF hsm
  have IH:=fun(x:Tm) (hx:x∈ts) st=>OY m x st (mN x hx)
  refine aD.oH (aD.fin ?_)
  simp only[aU]
  refine wF [1000000,5] 2 func285 ntmps285 rfl rfl ?_
  simp only[d7,AV.fits,d9,aE]
  intro ⟨_,_,_,hl,_⟩
  simp only[aK,aA,↓aR,seval,pS]
  intro b2 hb2 c hc
  have hne:c≠b2:=by rintro rfl;rw[aB.aO] at hc;cases hc
  have hn2:st c=none:=by rw[aB.aM st _ hne] at hc;exact hc
  have kP:b2≠c:=c7 hne
  have hS:(st.aC b2 (.cells [AV.int .i64 0,AV.int .i64 0,AV.str ⟨#[]⟩,AV.fslice []])) b2≠none:=by rw[aB.aO];simp
  refine aP (fun h=>?_) (fun h=>?_)
  · simp only[bO] at h
    simp only[aK,cY,aA,seval,pS]
    refine dV (σ:=Nat) [1000000] [1,2,4,5] ts (fun i b=>(((ts.take i).map (Tm.sh m)).map Tm.av≠[]→(aB.aC (st.aC b2 (.cells [AV.int .i64 0,AV.int .i64 0,AV.str ⟨#[]⟩,AV.fslice []])) c (.cells ([AV.int .i64 k,AV.int .i64 (IntKind.i64.wrap (n+m)),AV.str s]++ [bE 4 b (((ts.take i).map (Tm.sh m)).map Tm.av)]))) b=none)) (fun i b=>[(6,.int .i64 i)]) (fun i b=>eY (st.aC b2 (.cells [AV.int .i64 0,AV.int .i64 0,AV.str ⟨#[]⟩,AV.fslice []])) c b [AV.int .i64 k,AV.int .i64 (IntKind.i64.wrap (n+m)),AV.str s] (((ts.take i).map (Tm.sh m)).map Tm.av)) (by decide +kernel)
     ⟨0,fun h=>absurd rfl h,aN.mk (by simp only[aA,↓aR,seval])⟩ (fun i x b hx hlt bH hdr hinv=>?_) (fun b hge hinv=>?_)
    case refine_1=>
     have hw:=bL (n:=(i:Int)+1)
     have cF:(((ts.take i).map (Tm.sh m)).map Tm.av).length=i:=by simp only[aE,dC];omega
     have htk:(ts.take (i+1)).map (Tm.sh m)=(ts.take i).map (Tm.sh m)++ [(Tm.sh m) x]:=by rw[eA,hx];simp
     have hbo:=eF hinv
     simp only[aE,bH,aA,seval,pS]
     refine wP [(0,1),(2,1),(4,1),(7,1),(1,2),(3,2),(5,1),(6,2),(8,2),(9,1),(10,0),(11,1),(12,0)] [0,2,4,7,1,3,5,6,8,9,11] mixed ?_
     simp only[bD (av:=Tm.av) a8 hx (aH x),aT,aH,hbo,lQ,fZ,aA,seval,pS]
     refine fK (IH x (cD hx) _) ?_
     simp only[aT,aH,cC,fZ,aA,seval,pS]
     refine eD a8 fW fX rfl rfl (eO (aH _) (bT _)) (dS _) hinv (by simp only[cF,aS,aW];omega) (by simp only[cF,aS,aW];omega) (fun b' hb'=>?_)
     rw[show(((ts.take i).map (Tm.sh m)).map Tm.av)++ [((Tm.sh m) x).av]=((ts.take (i+1)).map (Tm.sh m)).map Tm.av by rw[htk];simp] at hb' ⊢
     obtain⟨g1,g2,g3⟩:=nB hb'
     simp only[fC,eL] at g1 g3
     simp only[g3,lR,eT,aK,g1,hw,aK,aA,seval,pS]
     exact⟨b',g2,aN.mk (by simp only[aA,seval])⟩
    have hbo:=eF hinv
    rw[dW] at hinv hbo ⊢
    simp only[aE,hge,aA,seval,pS]
    simp only[hbo,aK,aA,seval,pS]
    have h1:=gJ hinv hS kP
    rw[aB.aO] at h1
    simp only[h1,eT,aA,seval]
    obtain⟨h2,h3⟩:=jW (o:=.cells [AV.int .i64 k,AV.int .i64 (IntKind.i64.wrap (n+m)),AV.str s,bE 4 b ((ts.map (Tm.sh m)).map Tm.av)]) hinv hS kP
    refine⟨b,_,_,h2,h3,iM _,⟨4,dS _⟩,?_,(((aL.refl _).aC hb2).aC hn2).aC hb2⟩
    simp only[fO,aZ,aV,dZ,iD,iJ,←aU]
    rw[Tm.SY,aJ h]
  · simp only[dB] at h
    simp only[aA,seval]
    refine dV (σ:=Nat) [1000000] [1,2,4,5] ts (fun i b=>(((ts.take i).map (Tm.sh m)).map Tm.av≠[]→(aB.aC (st.aC b2 (.cells [AV.int .i64 0,AV.int .i64 0,AV.str ⟨#[]⟩,AV.fslice []])) c (.cells ([AV.int .i64 k,AV.int .i64 (n),AV.str s]++ [bE 4 b (((ts.take i).map (Tm.sh m)).map Tm.av)]))) b=none)) (fun i b=>[(6,.int .i64 i)]) (fun i b=>eY (st.aC b2 (.cells [AV.int .i64 0,AV.int .i64 0,AV.str ⟨#[]⟩,AV.fslice []])) c b [AV.int .i64 k,AV.int .i64 (n),AV.str s] (((ts.take i).map (Tm.sh m)).map Tm.av)) (by decide +kernel)
     ⟨0,fun h=>absurd rfl h,aN.mk (by simp only[aA,↓aR,seval])⟩ (fun i x b hx hlt bH hdr hinv=>?_) (fun b hge hinv=>?_)
    case refine_1=>
     have hw:=bL (n:=(i:Int)+1)
     have cF:(((ts.take i).map (Tm.sh m)).map Tm.av).length=i:=by simp only[aE,dC];omega
     have htk:(ts.take (i+1)).map (Tm.sh m)=(ts.take i).map (Tm.sh m)++ [(Tm.sh m) x]:=by rw[eA,hx];simp
     have hbo:=eF hinv
     simp only[aE,bH,aA,seval,pS]
     refine wP [(0,1),(2,1),(4,1),(7,1),(1,2),(3,2),(5,1),(6,2),(8,2),(9,1),(10,0),(11,1),(12,0)] [0,2,4,7,1,3,5,6,8,9,11] mixed ?_
     simp only[bD (av:=Tm.av) a8 hx (aH x),aT,aH,hbo,lQ,fZ,aA,seval,pS]
     refine fK (IH x (cD hx) _) ?_
     simp only[aT,aH,cC,fZ,aA,seval,pS]
     refine eD a8 fW fX rfl rfl (eO (aH _) (bT _)) (dS _) hinv (by simp only[cF,aS,aW];omega) (by simp only[cF,aS,aW];omega) (fun b' hb'=>?_)
     rw[show(((ts.take i).map (Tm.sh m)).map Tm.av)++ [((Tm.sh m) x).av]=((ts.take (i+1)).map (Tm.sh m)).map Tm.av by rw[htk];simp] at hb' ⊢
     obtain⟨g1,g2,g3⟩:=nB hb'
     simp only[fC,eL] at g1 g3
     simp only[g3,lR,eT,aK,g1,hw,aK,aA,seval,pS]
     exact⟨b',g2,aN.mk (by simp only[aA,seval])⟩
    have hbo:=eF hinv
    rw[dW] at hinv hbo ⊢
    simp only[aE,hge,aA,seval,pS]
    simp only[hbo,aK,aA,seval,pS]
    have h1:=gJ hinv hS kP
    rw[aB.aO] at h1
    simp only[h1,eT,aA,seval]
    obtain⟨h2,h3⟩:=jW (o:=.cells [AV.int .i64 k,AV.int .i64 (n),AV.str s,bE 4 b ((ts.map (Tm.sh m)).map Tm.av)]) hinv hS kP
    refine⟨b,_,_,h2,h3,iM _,⟨4,dS _⟩,?_,(((aL.refl _).aC hb2).aC hn2).aC hb2⟩
    simp only[fO,aZ,aV,dZ,iD,iJ,←aU]
    rw[Tm.SY,aF h]
termination_by t=>SizeOf.sizeOf t
decreasing_by have:=List.sizeOf_lt_of_mem hx;simp only[Tm.mk.sizeOf_spec];omega
abbrev BJ:=zi aX (zi cJ (zi bS bQ))
theorem aTO(k n:Int)(s:ByteArray)(ts:List Tm)(st:aB)(hsm:(Tm.mk k n s ts).small=true):aD prog 84 [(Tm.mk k n s ts).av] st (fun r st'=>∃b,r=.agg [.int .i64 k,.int .i64 n,.str s,bE 4 b (ts.map Tm.av)]∧st'=a7 st b (ts.map Tm.av)∧(ts.map Tm.av≠[]→st b=none)):=by
 obtain⟨hlen,mN⟩:=Tm.nF hsm
 have IH:=fun(x:Tm) (hx:x∈ts) st=>xT x st (mN x hx)
 refine aD.mL ?_
 simp only[aU]
 refine wF [] 1 func84 ntmps84 rfl rfl ?_
 simp only[d7,AV.fits,d9,aE]
 intro ⟨_,_,_,hl,_⟩
 simp only[aA,seval,BJ]
 intro b2 hb2 c hc
 have hne:c≠b2:=by rintro rfl;rw[aB.aO] at hc;cases hc
 have hn2:st c=none:=by rw[aB.aM st _ hne] at hc;exact hc
 simp only[aK,aA,seval]
 refine dV (σ:=Nat) [] [1,2,3] ts (fun i b=>(((ts.take i).map (fun y=>y)).map Tm.av≠[]→(aB.aC (st.aC b2 (.cells [AV.int .i64 0,AV.int .i64 0,AV.str ⟨#[]⟩,AV.fslice []])) c (.cells ([AV.int .i64 k,AV.int .i64 n,AV.str s]++ [bE 4 b (((ts.take i).map (fun y=>y)).map Tm.av)]))) b=none)) (fun i b=>[(4,.int .i64 i)]) (fun i b=>eY (st.aC b2 (.cells [AV.int .i64 0,AV.int .i64 0,AV.str ⟨#[]⟩,AV.fslice []])) c b [AV.int .i64 k,AV.int .i64 n,AV.str s] (((ts.take i).map (fun y=>y)).map Tm.av)) (by decide +kernel)
  ⟨0,fun h=>absurd rfl h,aN.mk (by simp only[aA,↓aR,seval])⟩ (fun i x b hx hlt bH hdr hinv=>?_) (fun b hge hinv=>?_)
 case refine_1=>
  have hw:=bL (n:=(i:Int)+1)
  have cF:(((ts.take i).map (fun y=>y)).map Tm.av).length=i:=by simp only[aE,dC];omega
  have htk:(ts.take (i+1)).map (fun y=>y)=(ts.take i).map (fun y=>y)++ [(fun y=>y) x]:=by rw[eA,hx];simp
  have hbo:=eF hinv
  simp only[aE,bH,aA,seval,BJ]
  refine wP [(0,1),(2,1),(4,1),(1,2),(3,2),(5,1),(6,2),(7,2),(8,1),(9,0),(10,1),(11,0)] [0,2,4,1,3,5,6,7,8,10] mixed ?_
  simp only[bD (av:=Tm.av) a8 hx (aH x),aT,aH,hbo,lQ,fZ,aA,seval,BJ]
  refine fK (IH x (cD hx) _) ?_
  simp only[aT,aH,cC,fZ,aA,seval,BJ]
  refine eD a8 fW fX rfl rfl (eO (aH _) (bT _)) (dS _) hinv (by simp only[cF,aS,aW];omega) (by simp only[cF,aS,aW];omega) (fun b' hb'=>?_)
  rw[show(((ts.take i).map (fun y=>y)).map Tm.av)++ [((fun y=>y) x).av]=((ts.take (i+1)).map (fun y=>y)).map Tm.av by rw[htk];simp] at hb' ⊢
  obtain⟨g1,g2,g3⟩:=nB hb'
  simp only[fC,eL] at g1 g3
  simp only[g3,lR,eT,aK,g1,hw,aA,seval,BJ]
  exact⟨b',g2,aN.mk (by simp only[aA,seval])⟩
 have hbo:=eF hinv
 rw[dW] at hinv hbo ⊢
 simp only[aE,hge,aA,seval,BJ]
 simp only[hbo,aA,seval,BJ]
 have kP:b2≠c:=c7 hne
 have hS:(st.aC b2 (.cells [AV.int .i64 0,AV.int .i64 0,AV.str ⟨#[]⟩,AV.fslice []])) b2≠none:=by rw[aB.aO];simp
 have h1:=gJ hinv hS kP
 rw[aB.aO] at h1
 simp only[h1,eT,aK,aA,seval]
 obtain⟨h2,h3⟩:=jW (o:=.cells [AV.int .i64 k,AV.int .i64 n,AV.str s,bE 4 b ((ts.map fun y=>y).map Tm.av)]) hinv hS kP
 simp only[fC,eL] at h2 h3
 rw[h2]
 have D:∀o o' o'',aL (((st.aC b2 o).aC c o').aC b2 o'') st:=fun o o' o''=>(((aL.refl _).aC hb2).aC hn2).aC hb2
 simp only[List.map_id'] at h3 ⊢
 exact⟨_,PL (D _ _ _),b,rfl,rfl,fun h=>(D _ _ _ b).1 (h3 h)⟩
abbrev mQ:=zi aX (zi cJ (zi fA (zi bS (zi bQ (zi oW mA)))))
theorem OW(bs:List Bt)(c p:Nat)(t:Tm)(hsm:t.small=true)(st:aB)(hp:p+10≤1099511627776)(hR:dG st c bs p) :
 aD prog 87 [.ptr c 0,t.av] st (Dr bs c p 10 st (fun r=>∃t:Tm,r=t.av)):=by
 obtain⟨k,n,s,ts⟩:=t
 refine aD.mL (aD.fin ?_)
 refine wF [1000000,5] 2 func87 ntmps87 rfl rfl ?_
 intro _
 simp only[aA,seval,mQ]
 intro b4 h4
 have h4c:=hR.ne h4
 have hR':=fun o=>hR.aC (o:=o) h4c
 refine(aTO k n s ts _ hsm).mono ?_
 rintro _ _ ⟨b,rfl,rfl,hb⟩
 simp only[eT,aK,aA,↓aR,seval,mQ]
 intro b5 h5
 obtain⟨hn5,hb5⟩:=CM h5
 have h54:b5≠b4:=by rintro rfl;rw[aB.aO] at hn5;cases hn5
 have QZ:st b5=none:=by rw[aB.aM _ _ h54] at hn5;exact hn5
 have h5c:b5≠c:=hR.ne QZ
 have hW4:∀q,((st.aC b4 (.cells [.int .i64 0,.int .i64 0,.str ⟨#[]⟩,.fslice []])).aC c (cA bs q)) b4=some (.cells [.int .i64 0,.int .i64 0,.str ⟨#[]⟩,.fslice []]):=fun q=>by rw[aB.aM _ _ h4c,aB.aO]
 have hdr:∀q Z Y,aL ((((st.aC b4 (.cells [.int .i64 0,.int .i64 0,.str ⟨#[]⟩,.fslice []])).aC c (cA bs q)).aC b5 Z).aC b4 Y) (st.aC c (cA bs q)):=fun q Z Y x=>by
  by_cases e4:x=b4<;>by_cases ec:x=c<;>by_cases e5:x=b5<;>simp_all [aB.aC]
 have e0:(a7 (st.aC b4 (.cells [.int .i64 0,.int .i64 0,.str ⟨#[]⟩,.fslice []])) b (ts.map Tm.av)).aC b5 (.cells [.int .i64 k,.int .i64 n,.str s,bE 4 b (ts.map Tm.av)])=eY (st.aC b4 (.cells [.int .i64 0,.int .i64 0,.str ⟨#[]⟩,.fslice []])) b5 b [.int .i64 k,.int .i64 n,.str s] (ts.map Tm.av):=by
  rw[o9 hb5];try rfl
 have i0:ts.map Tm.av≠[]→((st.aC b4 (.cells [.int .i64 0,.int .i64 0,.str ⟨#[]⟩,.fslice []])).aC b5 (.cells ([.int .i64 k,.int .i64 n,.str s]++ [bE 4 b (ts.map Tm.av)]))) b=none:=fun h=>by
  rw[aB.aM _ _ (c7 (hb5 h))];exact hb h
 have hUc:(st.aC b4 (.cells [.int .i64 0,.int .i64 0,.str ⟨#[]⟩,.fslice []])) c≠none:=by rw[hR' _];simp
 rw[e0]
 have hRk:dG (eY (st.aC b4 (.cells [.int .i64 0,.int .i64 0,.str ⟨#[]⟩,.fslice []])) b5 b [.int .i64 k,.int .i64 n,.str s] (ts.map Tm.av)) c bs p:=by
  unfold dG
  rw[gJ i0 hUc h5c.symm]
  exact hR' _
 refine(mJ bs c p (by omega) 50 (by omega) (by omega) _ hRk).mono ?_
 rintro _ _ ⟨j,hj,rfl,rfl⟩
 obtain⟨e1,i1⟩:=qQ (o:=cA bs (p+1)) i0 hUc h5c.symm
 rw[e1]
 have hWc:∀q,((st.aC b4 (.cells [.int .i64 0,.int .i64 0,.str ⟨#[]⟩,.fslice []])).aC c (cA bs q)) c≠none:=fun q=>by rw[aB.aO];simp
 have hRq:∀q (hd l:List AV),(l≠[]→(((st.aC b4 (.cells [.int .i64 0,.int .i64 0,.str ⟨#[]⟩,.fslice []])).aC c (cA bs q)).aC b5 (.cells (hd++ [bE 4 b l]))) b=none)→dG (eY ((st.aC b4 (.cells [.int .i64 0,.int .i64 0,.str ⟨#[]⟩,.fslice []])).aC c (cA bs q)) b5 b hd l) c bs q:=fun q hd l hi=>by
  unfold dG
  rw[gJ hi (hWc q) h5c.symm,aB.aO]
  try rfl
 clear e0 i0 hRk e1
 simp only[aA,seval]
 refine aP (fun h0=>?_) (fun h0=>?_)
 · simp only[aA,seval,mQ]
   refine(xU [0,4,1,2,3] (by simp) (by simp) bs c (p+1) (by omega) _ (hRq _ _ _ i1)).mono ?_
   rintro _ _ ⟨y,_,rfl,rfl⟩
   obtain⟨e1,i1⟩:=qQ (o:=cA bs (p+1+1)) i1 (hWc _) h5c.symm
   rw[cY] at e1 i1
   rw[e1]
   have hbo:=eF i1
   obtain⟨e2,i1⟩:=G5 (hd':=[.int .i64 y,.int .i64 n,.str s]) i1
   simp only[fC,eL] at e2
   simp only[aK,hbo,aA,seval,mQ]
   rw[e2]
   have hbo:=eF i1
   have h4o:=gJ i1 (x:=b4) (by rw[hW4];simp) h54.symm
   rw[hW4] at h4o
   simp only[h4o,eT,aA,seval]
   obtain⟨g5,g6⟩:=jW (o:=.cells [.int .i64 (y),.int .i64 (n),.str (s),bE 4 b ((ts).map Tm.av)]) i1 (show((st.aC b4 (.cells [.int .i64 0,.int .i64 0,.str ⟨#[]⟩,.fslice []])).aC c (cA bs (p+1+1))) b4≠none by rw[hW4];simp) h54.symm
   refine⟨b,_,_,g5,g6,iM _,⟨4,dS _⟩,st.aC c (cA bs (p+1+1)),hdr _ _ _,p+1+1,by omega,by omega,rfl,.mk (y) (n) (s) (ts),?_⟩
   simp only[fO,aZ,aV,dZ,iD,iJ,aU]
 simp only[aA,seval]
 refine aP (fun h0=>?_) (fun h0=>?_)
 · simp only[aA,seval,mQ]
   refine(xU [26,1000,-1000,-1,1] (by simp) (by simp) bs c (p+1) (by omega) _ (hRq _ _ _ i1)).mono ?_
   rintro _ _ ⟨y,_,rfl,rfl⟩
   obtain⟨e1,i1⟩:=qQ (o:=cA bs (p+1+1)) i1 (hWc _) h5c.symm
   rw[cY] at e1 i1
   rw[e1]
   have hbo:=eF i1
   obtain⟨e2,i1⟩:=G5 (hd':=[.int .i64 k,.int .i64 y,.str s]) i1
   simp only[fC,eL] at e2
   simp only[aK,hbo,aA,seval,mQ]
   rw[e2]
   have hbo:=eF i1
   have h4o:=gJ i1 (x:=b4) (by rw[hW4];simp) h54.symm
   rw[hW4] at h4o
   simp only[h4o,eT,aA,seval]
   obtain⟨g5,g6⟩:=jW (o:=.cells [.int .i64 (k),.int .i64 (y),.str (s),bE 4 b ((ts).map Tm.av)]) i1 (show((st.aC b4 (.cells [.int .i64 0,.int .i64 0,.str ⟨#[]⟩,.fslice []])).aC c (cA bs (p+1+1))) b4≠none by rw[hW4];simp) h54.symm
   refine⟨b,_,_,g5,g6,iM _,⟨4,dS _⟩,st.aC c (cA bs (p+1+1)),hdr _ _ _,p+1+1,by omega,by omega,rfl,.mk (k) (y) (s) (ts),?_⟩
   simp only[fO,aZ,aV,dZ,iD,iJ,aU]
 simp only[aA,seval]
 refine aP (fun h0=>?_) (fun h0=>?_)
 · simp only[aA,seval,mQ]
   refine(F3 [⟨#[]⟩,⟨#[88]⟩,⟨#[116,111,111,108,111,110,103]⟩,⟨#[195,169]⟩,⟨#[97]⟩] (by simp) (by simp) bs c (p+1) (by omega) _ (hRq _ _ _ i1)).mono ?_
   rintro _ _ ⟨y,_,rfl,rfl⟩
   obtain⟨e1,i1⟩:=qQ (o:=cA bs (p+1+1)) i1 (hWc _) h5c.symm
   rw[cY] at e1 i1
   rw[e1]
   have hbo:=eF i1
   obtain⟨e2,i1⟩:=G5 (hd':=[.int .i64 k,.int .i64 n,.str y]) i1
   simp only[fC,eL] at e2
   simp only[aK,hbo,aA,seval,mQ]
   rw[e2]
   have hbo:=eF i1
   have h4o:=gJ i1 (x:=b4) (by rw[hW4];simp) h54.symm
   rw[hW4] at h4o
   simp only[h4o,eT,aA,seval]
   obtain⟨g5,g6⟩:=jW (o:=.cells [.int .i64 (k),.int .i64 (n),.str (y),bE 4 b ((ts).map Tm.av)]) i1 (show((st.aC b4 (.cells [.int .i64 0,.int .i64 0,.str ⟨#[]⟩,.fslice []])).aC c (cA bs (p+1+1))) b4≠none by rw[hW4];simp) h54.symm
   refine⟨b,_,_,g5,g6,iM _,⟨4,dS _⟩,st.aC c (cA bs (p+1+1)),hdr _ _ _,p+1+1,by omega,by omega,rfl,.mk (k) (n) (y) (ts),?_⟩
   simp only[fO,aZ,aV,dZ,iD,iJ,aU]
 simp only[aA,seval]
 refine aP (fun h0=>?_) (fun h0=>?_)
 · simp only[aA,seval]
   refine iG (σ:=Nat×List Tm) [1000000,5] [4,5,10] (fun x=>(x.2.map Tm.av≠[]→(aB.aC ((st.aC b4 (.cells [.int .i64 0,.int .i64 0,.str ⟨#[]⟩,.fslice []])).aC c (cA bs (p+1))) b5 (.cells ([.int .i64 k,.int .i64 n,.str s]++ [bE 4 x.1 (x.2.map Tm.av)]))) x.1=none)) (fun _=>[]) (fun x=>eY ((st.aC b4 (.cells [.int .i64 0,.int .i64 0,.str ⟨#[]⟩,.fslice []])).aC c (cA bs (p+1))) b5 x.1 [.int .i64 k,.int .i64 n,.str s] (x.2.map Tm.av)) (fun x=>5 - x.2.length) (by decide +kernel) ⟨(b,ts),i1,aN.mk (by simp only[aA,seval])⟩ ?_
   rintro⟨b,acc⟩ i1
   simp only at i1
   have hbo:=eF i1
   have haL:=t7 (w:=4) (b:=b) (l:=acc.map Tm.av) UL
   simp only[hbo,lQ,haL,aE,aA,seval,mQ]
   refine aP (fun h1=>?_) (fun h1=>?_)
   · simp only[bO] at h1
     have cF:(acc.map Tm.av).length≤4:=by rw[aE];omega
     simp only[aA,seval]
     refine w8 [(0,1),(1,1),(2,0),(3,1),(4,0),(5,1),(6,2)] [0,1,3,5] (eR.aC b5 (.cells [.int .i64 k,.int .i64 n,.str s,bE 4 b (acc.map Tm.av)])) mixed (by decide +kernel) (by decide +kernel) (by decide +kernel) rfl (fY hbo) ?_
     simp only[lQ,aA,seval,mQ]
     refine(CV 1 _).to ?_
     simp only[aT,aH,cC,aA,seval,mQ]
     refine⟨fY hbo,?_⟩
     refine eD a8 fW fX rfl rfl (eO (aH _) (bT _)) (dS _) i1 (by simp only[aS,aW];omega) (by simp only[aS,aW];omega) (fun b' hb'=>?_)
     rw[show acc.map Tm.av++ [(Tm.mk 2 1 ⟨#[]⟩ []).av]=(acc++ [Tm.mk 2 1 ⟨#[]⟩ []]).map Tm.av by simp] at hb' ⊢
     obtain⟨g1,g2,g3⟩:=nB hb'
     simp only[fC,eL] at g1 g3
     simp only[aK,eT,lR,aA,seval,mQ]
     refine⟨fY g3,?_⟩
     simp only[g3,g1,aA,seval]
     refine⟨(b',acc++ [Tm.mk 2 1 ⟨#[]⟩ []]),by simp only[dM,aS,aW];omega,g2,aN.mk (by simp only[aA,seval])⟩
   · simp only[aK,hbo,eT,aA,seval,mQ]
     have hbo:=eF i1
     have h4o:=gJ i1 (x:=b4) (by rw[hW4];simp) h54.symm
     rw[hW4] at h4o
     simp only[h4o,aA,seval]
     obtain⟨g5,g6⟩:=jW (o:=.cells [.int .i64 (k),.int .i64 (n),.str (s),bE 4 b ((acc).map Tm.av)]) i1 (show((st.aC b4 (.cells [.int .i64 0,.int .i64 0,.str ⟨#[]⟩,.fslice []])).aC c (cA bs (p+1))) b4≠none by rw[hW4];simp) h54.symm
     refine⟨b,_,_,g5,g6,iM _,⟨4,dS _⟩,st.aC c (cA bs (p+1)),hdr _ _ _,p+1,by omega,by omega,rfl,.mk (k) (n) (s) (acc),?_⟩
     simp only[fO,aZ,aV,dZ,iD,iJ,aU]
 simp only[aA,seval]
 refine aP (fun h0=>?_) (fun h0=>?_)
 · simp only[aA,seval]
   have hW5:∀Z,((st.aC b4 (.cells [.int .i64 0,.int .i64 0,.str ⟨#[]⟩,.fslice []])).aC c (cA bs (p+1))).aC b5 Z b4=some (.cells [.int .i64 0,.int .i64 0,.str ⟨#[]⟩,.fslice []]):=fun Z=>by rw[aB.aM _ _ h54.symm,hW4]
   refine dV (σ:=Tm) [1000000,5] [4,5] (List.range 30) (fun _ _=>True) (fun i _=>[(6,.int .i64 i)]) (fun _ u=>((st.aC b4 (.cells [.int .i64 0,.int .i64 0,.str ⟨#[]⟩,.fslice []])).aC c (cA bs (p+1))).aC b5 (.cells u.av.cells)) (by decide +kernel)
    ⟨.mk k n s ts,trivial,?_⟩ (fun i x u hx hlt bH AL _=>?_) (fun u hge _=>?_)
   · rw[aU]
     exact(a2S i1 (iM _) ⟨4,dS _⟩).trans (fV.kG (by simp only[aA,↓aR,seval]))
   · rw[I7] at hlt
     have a01:decide ((i:Int)<30)=true:=by simp;omega
     have hw:=bL (n:=(i:Int)+1)
     simp only[a01,bR,aT,aH,cC,eJ (bR _),eE (aT _),aA,seval,mQ]
     refine(sS ⟨#[115]⟩ [u] (by simp) _).to ?_
     simp only[cY,aK,hw,bR,bT,aA,seval,mQ]
     exact⟨.mk 3 0 ⟨#[115]⟩ [u],aN.mk (by simp only[aA,seval])⟩
   · have a0O:decide ((29:Int)+1<30)=false:=rfl
     have h4o:=hW5 (.cells u.av.cells)
     simp only[I7,aK,h4o,bR,bT,eJ (bR _),eE (aT _),aA,↓aR,seval,mQ]
     exact⟨0,[],_,rfl,by simp,by simp,⟨4,by simp⟩,st.aC c (cA bs (p+1)),hdr _ _ _,p+1,by omega,by omega,rfl,u,Tm.uI u 0⟩
 · simp only[aA,seval,mQ]
   have hbo:=eF i1
   have h4o:=gJ i1 (x:=b4) (by rw[hW4];simp) h54.symm
   rw[hW4] at h4o
   simp only[aK,hbo,h4o,eT,aA,seval,mQ]
   obtain⟨g5,g6⟩:=jW (o:=.cells [.int .i64 (k),.int .i64 (n),.str (s),bE 4 b ((ts).map Tm.av)]) i1 (show((st.aC b4 (.cells [.int .i64 0,.int .i64 0,.str ⟨#[]⟩,.fslice []])).aC c (cA bs (p+1))) b4≠none by rw[hW4];simp) h54.symm
   refine⟨b,_,_,g5,g6,iM _,⟨4,dS _⟩,st.aC c (cA bs (p+1)),hdr _ _ _,p+1,by omega,by omega,rfl,.mk (k) (n) (s) (ts),?_⟩
   simp only[fO,aZ,aV,dZ,iD,iJ,aU]
abbrev aNS:=zi aX (zi k9 mB)
theorem aSP(l:List Cl)(g:FuncId)(dN:List AV)(p:Cl→Bool)(st:aB)(hc:∀x∈l,aD prog g ([bX x]++dN) st (fun r st'=>r=.bool (p x)∧st'=st)) :
 aD prog 274 [.slice (l.map bX),.func g dN] st (fun r st'=>∃j:Int,r=.int .i64 j∧decide (0≤j)=l.any p∧st'=st):=by
 refine wF [] 2 func274 ntmps274 rfl rfl ?_
 simp only[d7,AV.fits,d9,aE]
 intro ⟨hl,_⟩
 simp only[aE,aA,seval,aNS]
 refine dV (σ:=Unit) [] [0,1,7] l (fun i _=>(l.drop i).any p=l.any p) (fun i _=>[(8,.int .i64 i)]) (fun _ _=>st) (by decide +kernel) ⟨(),rfl,aN.mk (by simp only[aA,↓aR,seval])⟩ (fun i x _ hx hlt bH hdr hinv=>?_) (fun _ hge hinv=>?_)
 case refine_2=>
  simp only[hge,aA,seval]
  rw[j4] at hinv
  exact⟨-1,rfl,by rw[←hinv];try rfl⟩
 rw[hdr,B1] at hinv
 have hw:=bL (n:=(i:Int)+1)
 simp only[bH,bD (av:=bX) qD hx (oG x),C4,oG,aA,seval,aNS]
 refine(hc x (cD hx)).to ?_
 simp only[aA,seval]
 refine aP (fun h=>?_) (fun h=>?_)
 · simp only[aA,seval]
   exact⟨i,rfl,by rw[←hinv,h];simp⟩
 · rw[h,pU] at hinv
   simp only[aA,seval]
   exact⟨(),hinv,aN.mk (by simp only[hw,aA,seval])⟩
theorem aSG(l:List Cl)(g:FuncId)(dN:List AV)(p:Cl→Bool)(st:aB)(hc:∀x∈l,aD prog g ([bX x]++dN) st (fun r st'=>r=.bool (p x)∧st'=st)) :
 aD prog 204 [.slice (l.map bX),.func g dN] st (fun r st'=>r=.bool (l.any p)∧st'=st):=by
 refine wF [] 2 func204 ntmps204 rfl rfl ?_
 intro _
 simp only[aA,seval]
 refine(aSP l g dN p st hc).mono ?_
 rintro _ _ ⟨j,rfl,hj,rfl⟩
 simp only[hj,aA,seval]
abbrev TD:=zi bZ (zi bS (zi bQ mB))
theorem aTA(c:Cl)(st:aB):aD prog 206 [bX c] st (fun r st'=>r=.bool (lT c)∧st'=st):=by
 obtain⟨⟨k,n,s,ts⟩,b⟩:=c
 have hv:=fun st=>FZ (.mk k n s ts) st
 have hp:=fun st=>XG k n s ts st
 simp only[aU] at hv hp
 have hg:=fun st=>XC b st
 simp only[gN,lT,SE]
 simp only[gX] at hg
 generalize (Tm.mk k n s ts).valid=v at *
 refine wF [1000000] 1 func206 ntmps206 rfl rfl ?_
 intro _
 simp only[aA,seval,TD]
 refine(hv _).to ?_
 cases v with
 | false=>simp only[fB,aA,seval]
 | true=>
  simp only[eX,dU,aA,seval,TD]
  refine(hp _).to ?_
  cases hpl:qX k s (ts.length:Int) with
  | false=>simp only[fB,aA,seval]
  | true=>
   simp only[eX,dU,aA,seval,TD]
   refine(hg _).to ?_
   simp only[aA,seval]
abbrev a6B:=zi bZ mB
theorem aSW(c:Cl)(st:aB):aD prog 205 [bX c] st (fun r st'=>r=.bool (!lT c)∧st'=st):=by
 refine wF [1000000] 1 func205 ntmps205 rfl rfl ?_
 intro _
 simp only[J9,C4,oG,aA,seval,a6B]
 refine(aTA c st).to ?_
 simp only[aA,seval]
abbrev a6A:=zi aX (zi bZ k9)
theorem aTF(p:List Cl)(st:aB):aD prog 119 [.slice (p.map bX)] st (fun r st'=>r=.bool (qY p)∧st'=st):=by
 refine wF [1000000] 1 func119 ntmps119 rfl rfl ?_
 simp only[d7,AV.fits,d9,aE]
 intro _
 unfold qY
 simp only[aE,aA,seval,a6A]
 refine cU (fun h=>?_) (fun h=>?_)
 · simp only[bO] at h
   rw[show decide (p.length≤20)=true by simp;omega]
   simp only[h,aA,seval]
   refine(aSG p _ [] (fun t=> !lT t) st fun x _=>aSW x st).to ?_
   simp only[JO,aA,seval]
 · simp only[fU,dB] at h
   rw[show decide (p.length≤20)=false by simp;omega]
   simp only[h,aA,seval]
   rfl
abbrev EF:=zi aX (zi bZ (zi bS (zi bQ mB)))
theorem YJ(c:Cl)(st:aB):aD prog 155 [bX c] st (fun r st'=>r=.bool (lT c)∧st'=st):=by
 obtain⟨⟨k,n,s,ts⟩,l⟩:=c
 have hv:=fun st=>CX (.mk k n s ts) st
 have hp:=fun st=>X2 k n s ts st
 simp only[aU] at hv hp
 simp only[gN,lT,SE]
 generalize (Tm.mk k n s ts).valid=v at *
 refine wF [1000000] 1 func155 ntmps155 rfl rfl ?_
 simp only[d7,AV.fits,d9,aE]
 intro ⟨_,_,_,_,hl,_⟩
 have iR:l.all Tm.goal=true∨l.length>6→(decide ((l.length:Int)≤6)&&v&&qX k s (ts.length:Int))=(v&&qX k s (ts.length:Int)&&(decide (l.length≤6)&&l.all Tm.goal)):=fun h=>by
  by_cases h6:l.length≤6
  · have hg:l.all Tm.goal=true:=h.resolve_right (by omega)
    rw[hg,show decide ((l.length:Int)≤6)=true from eH (by omega),show decide (l.length≤6)=true from eH h6]
    simp
  · rw[show decide ((l.length:Int)≤6)=false from d6 (by omega),show decide (l.length≤6)=false from d6 h6]
    simp
 simp only[aA,seval,EF]
 refine dV (σ:=Unit) [1000000] [1] l (fun i _=>i≤7∧(l.take i).all Tm.goal=true) (fun i _=>[(2,.bool false),(3,.int .i64 i)]) (fun _ _=>st) (by decide +kernel) ⟨(),⟨by omega,by simp⟩,aN.mk (by simp only[aA,↓aR,seval])⟩ (fun i x _ hx hlt bH hdr hinv=>?_) (fun _ hge hinv=>?_)
 · obtain⟨i1,i2⟩:=hinv
   have hw:=bL (n:=(i:Int)+1)
   by_cases h7:i≤6
   · have h7':decide ((i:Int)≤6)=true:=eH (by omega)
     have hat:=bD (av:=Tm.av) a8 hx (aH x)
     simp only[bH,bF,eX,aE,h7',hat,aT,aH,aA,seval,EF]
     refine(YK x st).to ?_
     simp only[aA,seval]
     refine aP (fun h2=>?_) (fun h2=>?_)
     · simp only[iV] at h2
       simp only[aA,seval]
       have:l.all Tm.goal=false:=vN hx h2
       rw[this];simp
     · simp only[lO] at h2
       simp only[aA,seval]
       refine⟨(),⟨by omega,?_⟩,aN.mk (by simp only[hw,aA,seval])⟩
       rw[eA,hx,B0,i2]
       simp [h2]
   · have h7':decide ((i:Int)≤6)=false:=d6 (by omega)
     have h8:decide ((l.length:Int)≤6)=false:=d6 (by omega)
     rw[←iR (.inr (by omega)),h8]
     simp only[bH,bF,eX,h8,fB,aE,h7',aA,seval,EF]
 · obtain⟨i1,i2⟩:=hinv
   rw[dW] at i2
   rw[←iR (.inl i2)]
   cases h8:decide ((l.length:Int)≤6) with
   | false=>
    simp only[hge,aE,h8,fB,aA,seval,EF]
   | true=>
    simp only[hge,eX,aE,h8,dU,aA,seval,EF]
    refine(hv _).to ?_
    cases v with
    | false=>simp only[fB,aA,seval]
    | true=>
     simp only[eX,dU,aA,seval,EF]
     refine(hp _).to ?_
     simp only[aA,seval]
abbrev TE:=zi aX (zi bZ (zi k9 mB))
theorem aVJ(l:List Cl)(st:aB):aD prog 80 [.slice (l.map bX)] st (fun r st'=>r=.bool (qY l)∧st'=st):=by
 refine wF [1000000] 1 func80 ntmps80 rfl rfl ?_
 simp only[d7,AV.fits,d9,aE]
 intro ⟨hl,_⟩
 simp only[aA,seval]
 refine dV (σ:=Unit) [1000000] [0] l (fun i _=>i≤21∧(l.take i).all lT=true) (fun i _=>[(2,.bool false),(3,.int .i64 i)]) (fun _ _=>st) (by decide +kernel) ⟨(),⟨by omega,by simp⟩,aN.mk (by simp only[aA,↓aR,seval])⟩ (fun i x _ hx hlt bH hdr hinv=>?_) (fun _ hge hinv=>?_)
 · obtain⟨i1,i2⟩:=hinv
   have hw:=bL (n:=(i:Int)+1)
   by_cases h7:i≤20
   · have h7':decide ((i:Int)≤20)=true:=eH (by omega)
     have hat:=bD (av:=bX) qD hx (oG x)
     simp only[bH,bF,eX,aE,h7',hat,C4,oG,aA,seval,TE]
     refine(YJ x st).to ?_
     simp only[aA,seval]
     refine aP (fun h2=>?_) (fun h2=>?_)
     · simp only[iV] at h2
       simp only[aA,seval]
       have:l.all lT=false:=vN hx h2
       simp only[qY,this,lN]
     · simp only[lO] at h2
       simp only[aA,seval]
       refine⟨(),⟨by omega,?_⟩,aN.mk (by simp only[hw,aA,seval])⟩
       rw[eA,hx,B0,i2]
       simp [h2]
   · have h7':decide ((i:Int)≤20)=false:=d6 (by omega)
     have h8:decide ((l.length:Int)≤20)=false:=d6 (by omega)
     have h9:decide (l.length≤20)=false:=d6 (by omega)
     simp only[bH,bF,eX,aE,h7',h8,qY,h9,fB,aA,seval,TE]
 · obtain⟨i1,i2⟩:=hinv
   rw[dW] at i2
   simp only[hge,aE,aA,seval,TE]
   simp only[qY,i2,u7,AV.bool.injEq,rT]
   omega
end Go.AW
namespace Go.AW

def dO:AV→List Nat
 | .mslice b _ _ _=>[b]
 | _=>[]
def jF(st:aB)(w:Nat)(q:AV)(l:List AV):Prop:=
 (q=.fslice []∧l= [])∨∃b cs,q=.mslice b 0 l.length w∧st b=Option.some (.cells cs)∧cs.take (l.length*w)=l.flatMap AV.cells∧l.length*w≤cs.length
theorem jF.shape{st:aB}{w:Nat}{q:AV}{l:List AV}(h:jF st w q l):q.isAgg=false∧q.width=1∧q.cE=false∧q.cells= [q]∧q.storable=true:=by
 rcases h with ⟨rfl,_⟩ | ⟨b',cs,rfl,_⟩<;>exact⟨rfl,rfl,rfl,rfl,rfl⟩
theorem jF.bB{st st':aB}{w:Nat}{q:AV}{l:List AV}(h:jF st w q l)(hk:∀b∈dO q,st' b=st b):jF st' w q l:=by
 rcases h with h | ⟨b,cs,rfl,hb,h2⟩
 · exact .inl h
 · exact .inr ⟨b,cs,rfl,by rw[hk b (by simp [dO])];exact hb,h2⟩
theorem jF.some{st:aB}{w:Nat}{q:AV}{l:List AV}(h:jF st w q l):∀b∈dO q,∃cs,st b=Option.some (.cells cs):=by
 intro b hb
 rcases h with ⟨rfl,_⟩ | ⟨b',cs,rfl,hb',_⟩
 · simp [dO] at hb
 · simp only[dO,c8,dP,dX] at hb;subst hb;exact⟨cs,hb'⟩
theorem jF.len{P:Program}{t e:TypeId}{st:aB}{w:Nat}{q:AV}{l:List AV}(h:jF st w q l)(hu:P.underlying t=Option.some (.slice e)):oE P t q=Option.some (.int .i64 (l.length:Int)):=by
 rcases h with ⟨rfl,rfl⟩ | ⟨b,cs,rfl,_⟩<;>simp only[oE,hu,aW]
theorem jF.append{P:Program}{t:TypeId}{ag:Bool}{bytes w:Nat}{zs:List AV}{st:aB}{q:AV}{l:List AV}{x:AV}{K:AV→aB→Prop}(hI:eI P t=Option.some (ag,w))(hB:eB P t=Option.some bytes)(hZ:eZ P t=Option.some zs)(hz:zs.length=w)(hb8:bytes≤4096)
 (h:jF st w q l) (hx:x.width=w) (hxs:x.cells.all AV.storable=true) (hl:l.length≤1073741824)
 (hK:∀q' st',jF st' w q' (l++ [x])→(∀y,y∉dO q→y∉dO q'→st' y=st y)→(∀y∈dO q',y∈dO q∨st y=none)→K q' st'):kD P t st q (.fslice [x]) K:=by
 have fF:vO w [x]:=by intro e he;simp only[c8,dP,dX] at he;subst he;exact⟨hx,hxs⟩
 have GN:(l.length+1)*bytes≤140737488355328:=by
  have:=Nat.mul_le_mul (show l.length+1≤1073741825 by omega) hb8
  omega
 have hxc:x.cells.length=w:=by rw[vT,hx]
 unfold kD
 simp only[hI,hB,hZ,zT]
 refine⟨hz,fF,?_⟩
 rcases h with ⟨rfl,rfl⟩ | ⟨b,cs,rfl,hb,hcs,hcl⟩
 · simp only[aW,aS,fZ] at GN ⊢
   refine⟨by omega,by omega,by simp,fun h=>by simp at h,fun _ b hb=>?_⟩
   refine hK _ _ (.inr ⟨b,x.cells,rfl,by rw[aB.aO];simp,?_,?_⟩) (fun y _ hy=>?_) (fun y hy=>?_)
   · simp only[eL,aS,aW,fZ,Nat.one_mul,sJ,List.flatMap_nil,iB]
     rw[←hxc,dW]
   · simp only[eL,aS,aW,fZ,Nat.one_mul]
     omega
   · simp only[dO,c8,dP,dX] at hy
     rw[aB.aM _ _ hy]
   · simp only[dO,c8,dP,dX] at hy
     subst hy;exact .inr hb
 · simp only[aS,aW,fZ,hb]
   have mM:cs.take (l.length*w)++ [x].flatMap AV.cells=(l++ [x]).flatMap AV.cells:=by rw[hcs];simp
   have hlen:((l++ [x]).flatMap AV.cells).length=(l++ [x]).length*w:=by
    rw[←mM,dM,dC,lP hcl]
    simp only[sJ,List.flatMap_nil,iB,hxc,dM,aS,aW]
    rw[xI];omega
   refine⟨trivial,GN,by omega,hcl,?_,fun b' hb'=>?_⟩
   · rw[mM]
     refine hK _ _ (.inr ⟨b,_,by simp,aB.aO _ _ _,by rw[lC (by rw[hlen];exact cZ _)],by rw[hlen];exact cZ _⟩) (fun y hy _=>?_) (fun y hy=>.inl hy)
     simp only[dO,c8,dP,dX] at hy
     rw[aB.aM _ _ hy]
   · rw[mM]
     refine hK _ _ (.inr ⟨b',_,by simp,aB.aO _ _ _,by rw[lC (by rw[hlen];exact cZ _)],by rw[hlen];exact cZ _⟩) (fun y hy hy'=>?_) (fun y hy=>?_)
     · simp only[dO,c8,dP,dX] at hy hy'
       rw[aB.aM _ _ hy']
       simp [aB.erase,hy]
     · simp only[dO,c8,dP,dX] at hy
       subst hy;exact .inr hb'
def xX(k:Nat):AV→AV
 | .mslice b o _ w=>.mslice b o k w
 | a=>a
theorem jF.take{st:aB}{w:Nat}{q:AV}{l:List AV}(h:jF st w q l){k:Nat}(hk:k≤l.length)(hw:∀e∈l,e.width=w):jF st w (xX k q) (l.take k):=by
 rcases h with ⟨rfl,rfl⟩ | ⟨b,cs,rfl,hb,hcs,hcl⟩
 · exact .inl ⟨rfl,by simp⟩
 · have hlk:(l.take k).length=k:=by rw[dC];omega
   have h1:k*w≤l.length*w:=pX w hk
   refine .inr ⟨b,cs,by rw[hlk];try rfl,hb,?_,by rw[hlk];omega⟩
   rw[hlk]
   have h2:cs.take (k*w)=(cs.take (l.length*w)).take (k*w):=by rw[xG,lP h1]
   rw[h2,hcs]
   have h3:l.flatMap AV.cells=(l.take k).flatMap AV.cells++(l.drop k).flatMap AV.cells:=by rw[←zH,sL]
   have h4:((l.take k).flatMap AV.cells).length=k*w:=by rw[pE (n:=w) (es:=l.take k) (fun e he=>hw e (lB he)),hlk]
   rw[h3,List.take_left' h4]
theorem D4(k:Nat)(q:AV):dO (xX k q)=dO q:=by cases q<;>rfl
theorem jF.at{st:aB}{w:Nat}{q:AV}{l:List AV}(h:jF st w q l)(hw:∀e∈l,e.width=w){i:Nat}{e:AV}(he:l[i]?=.some e) :
 ∃b cs,q=.mslice b 0 l.length w∧st b=.some (.cells cs)∧i*w+w≤cs.length∧(cs.drop (i*w)).take w=e.cells:=by
 obtain⟨hi,hei⟩:=gS.1 he
 rcases h with ⟨rfl,rfl⟩ | ⟨b,cs,rfl,hb,hcs,hcl⟩
 · simp at he
 · have h1:(i+1)*w≤l.length*w:=pX w hi
   rw[xI,Nat.one_mul] at h1
   refine⟨b,cs,rfl,hb,by omega,?_⟩
   have h2:l=l.take i++e::l.drop (i+1):=by rw[←hei,←rF hi,sL]
   have hA:((l.take i).flatMap AV.cells).length=i*w:=by
    rw[pE (n:=w) (es:=l.take i) (fun e he=>hw e (lB he)),dC,lP (by omega)]
   have hE:e.cells.length=w:=by rw[vT];exact hw e (cD he)
   have h3:(cs.drop (i*w)).take w=((cs.take (l.length*w)).drop (i*w)).take w:=by
    rw[List.drop_take,xG,lP (by omega)]
   rw[h3,hcs,h2]
   simp only[zH,sJ]
   rw[List.drop_left' hA,List.take_left' hE]
theorem dA.fz{h:bM}{st:aB}{b:Nat}{es:List AV}(S:cW h st)(hb:st b=some (.cells (es.flatMap AV.cells)))(hj:∀e∈es,e.cE=false)(hE:iI es):∀ {us:List AV} {vs:List Value},dA h st us vs→dA h (st.erase b) (lI b es us) vs
 | [],vs,x=>by simp only[dA] at x;simp [lI,dA,x]
 | a::us,vs,x=>by
  simp only[dA] at x
  obtain⟨v,r,rfl,x1,x2⟩:=x
  simp only[lI,dA]
  exact⟨v,r,rfl,x1.fz S hb hj hE,dA.fz S hb hj hE x2⟩
theorem b7.unerase{h h':bM}{st st':aB}{b:Nat}(x:b7 h (st.erase b) h' st'):b7 h st h' st':=
 ⟨x.size,fun c hc e=>x.bB c hc (aB.aWU st e),x.shape⟩
theorem aD.aZK{P:Program}{g:FuncId}{args:List AV}{st:aB}{Q:AV→aB→Prop}(b:Nat)(es:List AV)(hb:st b=some (.cells (es.flatMap AV.cells)))(hj:∀e∈es,e.cE=false)(hE:iI es)(x:aD P g (lI b es args) (st.erase b) Q):aD P g args st Q:=
 ⟨x.1,fun w vs S V=>(x.2 w vs ((jK st b).HO S) (V.fz S hb hj hE)).mono fun _ _ ⟨v,r,st',e,a,b',c,d,q⟩=>⟨v,r,st',e,a,b',c.unerase,d,q⟩⟩
def Lit(st:aB)(w:Nat)(l:List AV)(q:AV)(s:aB):Prop:=(q=.fslice l∧s=st)∨∃b,st b=none∧q=.mslice b 0 l.length w∧s=st.aC b (.cells (l.flatMap AV.cells))
theorem aQ2{P:Program}{t:TypeId}{ag:Bool}{w bytes:Nat}{zs:List AV}{st:aB}{es xs:List AV}{x:AV}{K:AV→aB→Prop}(hI:eI P t=some (ag,w))(hB:eB P t=some bytes)(hZ:eZ P t=some zs)(hz:zs.length=w)(hx:x=.slice xs∨x=.fslice xs)(hes:∀e∈es,e.width=w)(fF:vO w xs)(hl:(es.length+xs.length)*bytes≤140737488355328)(hl2:es.length+xs.length≤9223372036854775807)
 (hK:∀q s,Lit st w (es++xs) q s→K q s):kD P t st (.fslice es) x K:=by
 unfold kD
 have he:zT x=some xs:=by rcases hx with rfl | rfl<;>rfl
 simp only[hI,hB,hZ,he]
 refine⟨hz,fF,hl,hl2,hes,fun h=>?_,fun _ b hb=>?_⟩
 · subst h
   exact hK _ _ (.inl ⟨by rw[iB],rfl⟩)
 · exact hK _ _ (.inr ⟨b,hb,by rw[dM],rfl⟩)
theorem Lit.call{P:Program}{g:FuncId}{st s:aB}{w:Nat}{l:List AV}{q:AV}{post:List AV}{Q:AV→aB→Prop}(h:Lit st w l q s)(hj:∀e∈l,e.cE=false)(hw:∀e∈l,e.width=w)(hp:∀b,lI b l post=post)(x:aD P g (.slice l::post) st Q):aD P g (q::post) s Q:=by
 rcases h with ⟨rfl,rfl⟩ | ⟨b,hb,rfl,rfl⟩
 · refine aD.args x fun hp vs S V=>?_
   simp only[dA] at V ⊢
   obtain⟨v,r,rfl,V1,V2⟩:=V
   exact⟨v,r,rfl,V1.GH,V2⟩
 · refine aD.aZK b l (aB.aO _ _ _) hj ⟨w,hw⟩ ?_
   rw[aB.vX st b _ hb]
   have:lI b l (.mslice b 0 l.length w::post)=.slice l::post:=by
    show(AV.mslice b 0 l.length w).fz b l::lI b l post=_
    rw[hp]
    simp [AV.fz]
   rw[this]
   exact x
end Go.AW
namespace Go.AW
open Go.Proofs.Tryz
def nv(i:Nat):AV:=.int .i64 (i:Int)
def eU:RG→AV
 | ⟨.mk k n s ts,bB⟩=>.agg [.int .i64 k,.int .i64 n,.str s,.slice (ts.map Tm.av),.int .i64 (bB:Int)]
theorem BC(k n:Int)(s:ByteArray)(ts:List Tm)(bB:Nat):eU ⟨.mk k n s ts,bB⟩=.agg [.int .i64 k,.int .i64 n,.str s,.slice (ts.map Tm.av),.int .i64 (bB:Int)]:=rfl
theorem a4Y(g:RG):eU g=.agg (g.t.av.cells++ [.int .i64 (g.bB:Int)]):=by obtain⟨⟨k,n,s,ts⟩,bB⟩:=g;rw[aU];try rfl
theorem EB(g:RG):(eU g).width=5:=by obtain⟨⟨k,n,s,ts⟩,bB⟩:=g;rfl
theorem a4Z(g:RG):(eU g).cells.all AV.storable=true:=by obtain⟨⟨k,n,s,ts⟩,bB⟩:=g;rfl
theorem a4X(g:RG):(eU g).cE=false:=by obtain⟨⟨k,n,s,ts⟩,bB⟩:=g;rfl
def fT:RC→AV
 | ⟨.mk k n s ts,rest,left,σ,N⟩=>.agg [.int .i64 k,.int .i64 n,.str s,.slice (ts.map Tm.av),.slice (rest.map eU),.slice (left.map nv),.slice (cX N σ)]
theorem L3(g:RC):(fT g).width=7:=by obtain⟨⟨k,n,s,ts⟩,_,_,_,_⟩:=g;rfl
theorem a4K(g:RC):(fT g).cells.all AV.storable=true:=by obtain⟨⟨k,n,s,ts⟩,_,_,_,_⟩:=g;rfl
theorem a4J(g:RC):(fT g).cE=false:=by obtain⟨⟨k,n,s,ts⟩,_,_,_,_⟩:=g;rfl
def oS(s:RS):AV:=.agg [.slice (s.goals.map eU),.slice (cX s.N s.σ),.slice (s.chs.map fT)]
abbrev TK:=zi aX (zi bZ (zi bS bQ))
theorem X5:∀(t:Tm) (d:Nat) (st:aB),d≤1000→t.small=true→aD prog 287 [t.av,.int .i64 (d:Int)] st (fun r st'=>r=.bool (t.flat d)∧st'=st)
 | .mk k n s ts,d,st,hd,hsm=>by
  obtain⟨hlen,mN⟩:=Tm.nF hsm
  have IH:=fun(x:Tm) (hx:x∈ts) d st h=>X5 x d st h (mN x hx)
  simp only[aU]
  refine wF [1000000] 2 func287 ntmps287 rfl rfl ?_
  intro _
  simp only[aA,seval,TK]
  refine aP (fun h=>?_) (fun h=>?_)
  · simp only[bO] at h
    obtain rfl:d=0:=by omega
    simp only[aA,↓aR,seval]
    rw[Tm.GF]
  simp only[dB] at h
  obtain⟨e,rfl⟩:∃e,d=e+1:=⟨d - 1,by omega⟩
  rw[Tm.v6]
  have hw1:IntKind.i64.wrap ((e:Int)+1 - 1)=(e:Int):=by rw[wrap64 (by omega) (by omega)];omega
  simp only[aA,seval]
  refine dV (σ:=Unit) [1000000] [1,2] ts (fun i _=>((ts.drop i).all fun t=>t.flat e)=(ts.all fun t=>t.flat e)) (fun i _=>[(5,.int .i64 i)]) (fun _ _=>st) (by decide +kernel) ⟨(),rfl,aN.mk (by simp only[aA,↓aR,seval])⟩ (fun i x _ hx hlt bH hdr hinv=>?_) (fun _ hge hinv=>?_)
  case refine_2=>
   simp only[hge,aE,aA,seval,TK]
   rw[←hinv,j4]
   try rfl
  have hw:=bL (n:=(i:Int)+1)
  rw[hdr,j3] at hinv
  simp only[bH,aE,bD (av:=Tm.av) a8 hx (aH x),aT,aH,hw1,aA,seval,TK]
  refine(IH x (cD hx) e _ (by omega)).to ?_
  simp only[aA,seval]
  refine aP (fun h2=>?_) (fun h2=>?_)
  · simp only[aA,seval]
    simp only[iV] at h2
    rw[←hinv,h2]
    try rfl
  · simp only[lO] at h2
    rw[h2,dU] at hinv
    simp only[aA,seval]
    exact⟨(),hinv,aN.mk (by simp only[hw,aA,seval])⟩
termination_by t=>SizeOf.sizeOf t
decreasing_by have:=List.sizeOf_lt_of_mem hx;simp only[Tm.mk.sizeOf_spec];omega
abbrev HZ:=zi aX (zi bZ (zi bS bQ))
theorem X9{N:Nat}{σ:Sub}(hg:cS σ)(ho:cV (bG N) σ)(t:Tm)(ht:bG N t)(st:aB) :
 aD prog 223 [t.av,.slice (cX N σ)] st (fun r st'=>st'=st∧∃x:Tm,r=.tup [x.av,.bool (eW (t.aG (rs σ)))]∧(eW (t.aG (rs σ))=true→x=t.aG (rs σ))):=by
 obtain⟨rk,B,G⟩:=hg.rs
 have QR:=fun st=>WZ G ho 120 t st (cZ _) ht
 have hV:=G.R6 ho.lY ht.1
 refine aD.mL (aD.soft ?_)
 refine wF [1000000] 2 func223 ntmps223 rfl rfl ?_
 intro _
 simp only[aT,aH,cC,aA,seval,HZ]
 intro b4 h4
 refine(QR _).mono ?_
 rintro _ _ ⟨rfl,x,left,rfl,h1,h2⟩
 simp only[aH,bT,cC,aA,↓aR,seval,HZ]
 refine wP [(1,1),(2,1),(3,1),(4,2),(0,1),(5,0),(6,1),(7,0),(8,1)] [1,2,3,4,0,6,8] mixed ?_
 simp only[aA,seval]
 refine cU (fun h=>?_) (fun h=>?_)
 · have h3:0≤left:=by simpa using h
   have h4:(t.aG (rs σ)).nodes≤120:=xB fun h5=>by rw[aF h5] at h2;omega
   rw[aJ h4] at h2
   obtain⟨rfl,_⟩:=h2
   have h5:eW (t.aG (rs σ))=(t.aG (rs σ)).flat 30:=by unfold eW;simp [h4]
   simp only[h,aT,aH,aA,seval,HZ]
   refine(X5 _ 30 _ (by omega) hV.small).to ?_
   simp only[aK,bT,cC,bR,aA,seval,HZ]
   refine⟨st,(aL.refl _).aC ‹_›,rfl,_,by simp only[iT,oT,Tm.soft,aZ,aV];rw[h5],fun _=>rfl⟩
 · have hx0:=trivial
   have h3:left<0:=by simpa using h
   have h4:¬(t.aG (rs σ)).nodes≤120:=fun h5=>by rw[aJ h5] at h2;omega
   have h5:eW (t.aG (rs σ))=false:=by unfold eW;simp [h4]
   simp only[h,aK,aT,aH,bT,cC,bR,eJ (bR x),eE (aT x),aA,seval,HZ]
   refine⟨st,(aL.refl _).aC ‹_›,rfl,x,by simp only[iT,oT,Tm.soft,aZ,aV];rw[h5],fun h6=>?_⟩
   rw[h5] at h6;cases h6
theorem aZH(c:Cl):GG c=(aY (c.1::c.2) []).foldl (fun n v=>if n≤v then v+1 else n) 0:=rfl
abbrev MI:=zi aX (zi fA (zi bS (zi bQ mB)))
theorem aUT(c:Cl)(hc:gF c)(h6:c.2.length≤6)(st:aB):aD prog 297 [bX c] st (fun r st'=>r=.int .i64 (oI c:Int)∧st'=st):=by
 have hvr:=fun v=>hc.vars (v:=v)
 have hok:=hc.D1
 have hfr:(oI c:Int)=GG c:=by
  have:=(aJU (aY (c.1::c.2) []) 0).1
  unfold oI GG
  omega
 rw[hfr,aZH]
 have hnd:bK Tm.nodes (c.1::c.2)≤1099511627776:=by
  have:∀l:List Tm,(∀t∈l,bG 26 t)→bK Tm.nodes l≤l.length*120:=by
   intro l
   induction l with
   | nil=>intro _;simp [bK]
   | cons x l ih=>intro h;simp only[bK,aS];have:=ih fun y hy=>h y (by simp [hy]);have:=(h x (by simp)).2;omega
  have:=this _ hok
  simp only[aS] at this
  omega
 have hvl:=wZ (c.1::c.2) []
 obtain⟨⟨k,n,s,ts⟩,bd⟩:=c
 simp only at h6 hnd hvl hvr hok
 rw[gN]
 refine aD.done ?_
 refine wF [1000000] 1 func297 ntmps297 rfl rfl ?_
 intro _
 simp only[aA,seval,MI]
 refine aQ2 a8 fW fX rfl (.inl rfl) (by intro e he;simp only[c8,dP,dX] at he;subst he;rfl) (fun e he=>by simp only[cI] at he;obtain⟨t,_,rfl⟩:=he;exact⟨aH _,bT _⟩) (by simp only[aS,aW,aE];omega) (by simp only[aS,aW,aE];omega) (fun q s2 hq=>?_)
 rw[←aU] at hq
 rw[show[(Tm.mk k n s ts).av]++bd.map Tm.av=((Tm.mk k n s ts)::bd).map Tm.av from rfl] at hq
 simp only[aA,seval]
 refine Lit.call hq (iM _) (dS _) (fun _=>rfl) ?_
 refine(O1 _ _ (fun t ht=>Tm.rS t (hok t ht).1.2.1) hnd).to ?_
 generalize aY ((Tm.mk k n s ts)::bd) []=vs at *
 simp only[aW] at hvl
 simp only[aA,seval]
 refine dV (σ:=Int) [1000000] [2,3] vs (fun i n=>(vs.drop i).foldl (fun n v=>if n≤v then v+1 else n) n=vs.foldl (fun n v=>if n≤v then v+1 else n) 0) (fun i n=>[(4,.int .i64 n),(5,.int .i64 i)]) (fun _ _=>st) (by decide +kernel) ⟨0,rfl,aN.mk (by simp only[aA,↓aR,seval])⟩ (fun i x n hx hlt bH hdr hinv=>?_) (fun n hge hinv=>?_)
 case refine_2=>
  rw[j4] at hinv
  simp only[aE,hge,aA,seval,MI]
  refine⟨?_,aL.refl _⟩
  rw[←hinv]
  try rfl
 rw[hdr,tX] at hinv
 have hw:=bL (n:=(i:Int)+1)
 obtain⟨t,ht,hv⟩:=(hvr x).1 (cD hx)
 have a93:=(hok t ht).1.2.2 x hv
 have hw2:=bL (n:=x+1)
 have hat:c9 prog 26 (.slice (vs.map iv)) (.int .i64 (i:Int))=some (.pptr (.int .i64 x)):=bD (av:=iv) g7 hx rfl
 simp only[aE,bH,hat,aA,seval,MI]
 refine aP (fun h=>?_) (fun h=>?_)
 · rw[aJ (by simpa using h)] at hinv
   simp only[hat,hw2,hw,aA,seval,MI]
   exact⟨x+1,hinv,aN.mk (by simp only[aA,seval])⟩
 · rw[aF (by simpa using h)] at hinv
   simp only[hw,aA,seval]
   exact⟨n,hinv,aN.mk (by simp only[aA,seval])⟩
theorem aM5{M:Int}(m:Nat)(hm:M+m≤1073741824):∀t:Tm,cM M t→t.sh (m:Int)=dE m t:=by
 intro t
 induction t using Tm.ind with
 | h k n s ts ih=>
  intro h
  rw[Tm.SY]
  by_cases hk:k=1
  · subst hk
    obtain⟨h0,h1,rfl,rfl⟩:=h.var
    unfold dE
    rw[aJ rfl,yN _ (t:=.mk 1 n ⟨#[]⟩ []) rfl,wrap64 (by omega) (by omega)]
    try rfl
  · obtain⟨_,h2⟩:=h.own hk
    unfold dE at ih ⊢
    rw[aF hk,wR _ hk]
    congr 1
    exact pW fun x hx=>ih x hx (h2 x hx)
abbrev MJ:=zi aX (zi bS (zi bQ (zi IB aOS)))
theorem X6(bd:List Tm)(N bB:Nat)(rest:List RG)(hb:∀t∈bd,bG 26 t)(h6:bd.length≤6)(hN:N≤1048576)(hr:rest.length≤1048576)(st:aB) :
 aD prog 222 [.slice (bd.map Tm.av),.int .i64 (N:Int),.int .i64 (bB:Int),.slice (rest.map eU)] st (fun r st'=>r=.slice ((bd.map (fun t=>(⟨dE N t,bB⟩:RG))++rest).map eU)∧st'=st):=by
 refine aD.oH (aD.fin ?_)
 refine wF [1000000] 4 func222 ntmps222 rfl rfl ?_
 intro _
 simp only[aA,seval,MJ]
 refine dV (σ:=Nat) [1000000] [0,1,2,3,8] bd (fun i b=>((bd.take i).map (fun t=>(⟨dE N t,bB⟩:RG))).map eU≠[]→st b=none) (fun i b=>[(9,bE 5 b (((bd.take i).map (fun t=>(⟨dE N t,bB⟩:RG))).map eU)),(10,.int .i64 i)]) (fun i b=>a7 st b (((bd.take i).map (fun t=>(⟨dE N t,bB⟩:RG))).map eU)) (by decide +kernel) ⟨0,fun h=>absurd rfl h,aN.mk (by simp only[jG,aV,iK,aA,↓aR,seval])⟩ (fun i x b hx hlt bH hdr hinv=>?_) (fun b hge hinv=>?_)
 case refine_1=>
  have hw:=bL (n:=(i:Int)+1)
  have cF:(((bd.take i).map (fun t=>(⟨dE N t,bB⟩:RG))).map eU).length=i:=by simp only[aE,dC];omega
  have htk:(((bd.take i).map (fun t=>(⟨dE N t,bB⟩:RG))).map eU)++ [eU ⟨dE N x,bB⟩]=(((bd.take (i+1)).map (fun t=>(⟨dE N t,bB⟩:RG))).map eU):=by rw[eA,hx];simp
  have hxo:=hb x (cD hx)
  have hsh:=aM5 N (by omega) x hxo.1
  have hcs:=OY (N:Int) x
  rw[hsh] at hcs
  have hgo:eU ⟨dE N x,bB⟩=.agg ((dE N x).av.cells++ [.int .i64 (bB:Int)]):=a4Y _
  simp only[bH,aE,bD (av:=Tm.av) a8 hx (aH x),aT,aH,aA,seval,MJ]
  refine(hcs _ hxo.1.small).to ?_
  generalize dE N x=y at *
  obtain⟨yk,yn,ys,yt⟩:=y
  simp only[aU,BC] at htk hgo ⊢
  simp only[aA,seval,MJ]
  refine eD GA PM PP rfl rfl (eO rfl rfl) (by intro e he;simp only[cI] at he;obtain⟨t,_,rfl⟩:=he;exact EB t) hinv (by simp only[cF,aS,aW];omega) (by simp only[cF,aS,aW];omega) (fun b' hb'=>?_)
  rw[htk] at hb' ⊢
  simp only[hw,aA,seval]
  exact⟨b',hb',aN.mk (by simp only[aA,seval])⟩
 rw[dW] at hinv ⊢
 simp only[aE,hge,aA,seval,MJ]
 refine eD (xs:=rest.map eU) GA PM PP rfl rfl (by intro e he;simp only[cI] at he;obtain⟨t,_,rfl⟩:=he;exact⟨EB t,a4Z t⟩) (by intro e he;simp only[cI] at he;obtain⟨t,_,rfl⟩:=he;exact EB t) hinv (by simp only[aE];omega) (by simp only[aE];omega) (fun b' hb'=>?_)
 rw[←sK] at hb' ⊢
 simp only[aA,seval]
 exact⟨b',_,st,rfl,hb',by intro e he;simp only[cI] at he;obtain⟨t,_,rfl⟩:=he;exact a4X t,⟨5,by intro e he;simp only[cI] at he;obtain⟨t,_,rfl⟩:=he;exact EB t⟩,by rw[iJ],aL.refl _⟩
def qG(p:List Cl)(t:Tm)(i:Nat):Bool:=match p[i]? with
 | some c=>GQ c t
 | none=>false
theorem KW(p:List Cl)(t:Tm):eP p t=(List.range p.length).filter (qG p t):=rfl
theorem aJS(p:List Cl)(t:Tm)(i:Nat):(List.range (i+1)).filter (qG p t)=(List.range i).filter (qG p t)++(if qG p t i=true then[i] else[]):=by
 rw[List.range_succ,List.filter_append]
 congr 1
 by_cases h:qG p t i=true<;>simp [h]
theorem KX(p:List Cl)(t:Tm)(i:Nat):((List.range i).filter (qG p t)).length≤i:=by
 have:=List.length_filter_le (qG p t) (List.range i)
 rw[I7] at this
 exact this
theorem RW(l:List Nat):∀e∈l.map nv,e.width=1:=by intro e h;simp only[cI] at h;obtain⟨t,_,rfl⟩:=h;rfl
abbrev EK:=zi aX (zi cJ (zi fA (zi k9 (zi bS (zi bQ mB)))))
theorem aUE(p:List Cl)(t:Tm)(hp:p.length≤1048576)(st:aB):aD prog 171 [.slice (p.map bX),t.av] st (fun r st'=>r=.slice ((eP p t).map nv)∧st'=st):=by
 rw[KW]
 refine aD.done ?_
 obtain⟨tk,tn,ts',tts⟩:=t
 simp only[aU]
 refine wF [1000000] 2 func171 ntmps171 rfl rfl ?_
 intro _
 simp only[aA,seval,EK]
 refine oA (σ:=Unit) [1000000] [0,3,4] p 1 5 (fun i _=>((List.range i).filter (qG p (.mk tk tn ts' tts))).map nv) (fun _ _=>True) (fun i _=>[(6,.int .i64 i)]) (fun _ _=>st) (fun i _ _ e he=>by simp only[cI] at he;obtain⟨t,_,rfl⟩:=he;exact⟨rfl,rfl⟩) (by decide +kernel) ⟨(),0,trivial,fun h=>absurd rfl h,aN.mk (by simp only[iK,List.range_zero,List.filter_nil,aV,aA,↓aR,seval])⟩ (fun i x s b hx hlt bH hdr hinv hb=>?_) (fun s b hge hinv=>?_)
 case refine_2=>
  simp only[hge,dZ,gV,nW,uJ,kF,aE,aA,seval,EK]
  exact⟨rfl,aL.refl _⟩
 have hw:=bL (n:=(i:Int)+1)
 have hst:=aJS p (.mk tk tn ts' tts) i
 have hln:=KX p (.mk tk tn ts' tts) i
 have hat:=bD (av:=bX) (P:=prog) qD hx (oG x)
 obtain⟨⟨k,n,s',ts⟩,bd⟩:=x
 rw[gN] at hat
 have hP:qG p (.mk tk tn ts' tts) i=(decide (s'=ts')&&decide ((ts.length:Int)=(tts.length:Int))):=by unfold qG;rw[hx];try rfl
 rw[hP] at hst
 simp only[bH,aE,aA,seval,EK]
 refine wP [(0,1),(1,1),(2,1),(3,1),(4,1),(6,1),(5,2),(7,2),(8,1),(9,1),(10,1),(11,1),(12,1),(13,1),(14,1),(17,1),(15,2),(16,1),(18,2),(19,1),(20,1),(21,1)] [0,1,2,3,4,6,5,7,8,9,10,11,12,13,14,17,15,16,18,19,20,21] mixed ?_
 simp only[hat,aA,seval,EK]
 refine cU (fun h=>?_) (fun h=>?_)
 case refine_2=>
  have h':(decide (s'=ts')&&decide ((ts.length:Int)=(tts.length:Int)))=false:=by simp at h;simp [h]
  rw[h',aF (by simp),iB] at hst
  rw[←hst] at hb ⊢
  simp only[h,hw,aA,seval]
  exact⟨(),b,hb,aN.mk (by simp only[aA,seval])⟩
 have h1:decide (s'=ts')=true:=by simpa using h
 rw[h1,dU] at hst
 simp only[h,aE,hat,aA,seval,EK]
 refine aP (fun h2=>?_) (fun h2=>?_)
 · rw[aJ h2] at hst
   simp only[aA,seval,EK]
   refine eD g7 C7 AD rfl rfl (eO rfl rfl) (RW _) hb (by simp only[aE,aS,aW];omega) (by simp only[aE,aS,aW];omega) (fun b' hb'=>?_)
   rw[show ∀l:List Nat,l.map nv++ [AV.int .i64 (i:Int)]=(l++ [i]).map nv from fun l=>by simp [nv],←hst] at hb' ⊢
   simp only[hw,aA,seval]
   exact⟨(),b',hb',aN.mk (by simp only[aA,seval])⟩
 · rw[aF (by simp [h2]),iB] at hst
   rw[←hst] at hb ⊢
   simp only[hw,aA,seval]
   exact⟨(),b,hb,aN.mk (by simp only[aA,seval])⟩
theorem RH{n:Int}:∀ {l:List Int},l.Nodup→∀ {i:Nat},l[i]?=some n→∀j:Int,d4 n l j=j+i
 | [],_,i,h,j=>by simp at h
 | x::l,hd,0,h,j=>by
  simp only[E5,Option.some.injEq] at h
  subst h
  simp [d4]
 | x::l,hd,i+1,h,j=>by
  rw[List.nodup_cons] at hd
  rw[E4] at h
  have hm:=cD h
  simp only[d4]
  rw[aF (fun e:n=x=>hd.1 (e▸hm)),RH hd.2 h (j+1)]
  omega
abbrev nJ:=zi aX (zi cJ (zi fA (zi bS bQ)))
theorem XO(vars:List Int)(hnd:vars.Nodup)(hvl:vars.length≤1048576):∀(t:Tm) (st:aB),t.small=true→t.cv=true→(∀v∈t.vl,v∈vars)→aD prog 288 [t.av,.slice (vars.map iv)] st (fun r st'=>r=(t.aG fun v=>vr (d4 v vars 0)).av∧st'=st)
 | .mk k n s ts,st,hsm,hcv,hin=>by
  obtain⟨hlen,mN⟩:=Tm.nF hsm
  obtain⟨hc1,hcs⟩:=Tm.lU.1 hcv
  have IH:=fun(x:Tm) (hx:x∈ts) st=>XO vars hnd hvl x st (mN x hx) (hcs x hx) (fun v hv=>by
   by_cases hk:k=1
   · rw[(hc1 hk).2] at hx;cases hx
   · exact hin v ((Tm.kV hk).2 ⟨x,hx,hv⟩))
  generalize hg:(Tm.aG fun v=>vr (d4 v vars 0))=g at IH
  refine aD.oH (aD.fin ?_)
  simp only[aU]
  refine wF [1000000,5] 2 func288 ntmps288 rfl rfl ?_
  intro _
  simp only[aK,aA,↓aR,seval,nJ]
  intro b4 h4 c hc
  have hne:c≠b4:=by rintro rfl;rw[aB.aO] at hc;cases hc
  have hnc:st c=none:=by rw[aB.aM st _ hne] at hc;exact hc
  have QT:∀i:Nat,vars[i]?=some n→d4 n vars 0=(i:Int):=fun i hi=>by
   have:=RH hnd hi 0
   omega
  generalize hW:st.aC b4 (.cells [AV.int .i64 0,AV.int .i64 0,AV.str ⟨#[]⟩,AV.fslice []])=W
  have hWc:W c=none:=by rw[←hW];exact hc
  have hW4:W b4=some (.cells [AV.int .i64 0,AV.int .i64 0,AV.str ⟨#[]⟩,AV.fslice []]):=by rw[←hW];exact aB.aO _ _ _
  have hS:W b4≠none:=by rw[hW4];simp
  have K7:b4≠c:=c7 hne
  refine iG (σ:=Nat×Int) [1000000,5] [1,2,4,5] (fun p=>p.1≤vars.length∧(k≠1→p.2=n)∧(k=1→(n∈vars.take p.1→p.2=d4 n vars 0))) (fun p=>[(6,.int .i64 p.1)]) (fun p=>W.aC c (.cells [.int .i64 k,.int .i64 p.2,.str s,.fslice []])) (fun p=>vars.length - p.1) (by decide +kernel) ⟨(0,n),⟨jH _,fun _=>rfl,fun _ h=>by simp at h⟩,aN.mk (by simp only[aA,↓aR,seval])⟩ ?_
  rintro⟨i,n'⟩ ⟨h1,h2,h3⟩
  simp only at h1 h2 h3
  have rest:(k=1→n'=d4 n vars 0)→True:=fun _=>trivial
  simp only[aE,aA,seval,nJ]
  have fin:(k=1→n'=d4 n vars 0)→g (.mk k n s ts)=.mk k n' s (ts.map g):=fun h4=>by
   rw[←hg]
   by_cases hk:k=1
   · obtain⟨rfl,rfl⟩:=hc1 hk
     rw[Tm.kI _ hk,h4 hk,hk];try rfl
   · rw[Tm.i8 _ hk,h2 hk]
  refine cU (fun h=>?_) (fun h=>?_)
  case refine_2=>
   have h4:(k=1→n'=d4 n vars 0):=fun hk=>h3 hk (by
    have:i=vars.length:=by simp at h;omega
    rw[this,dW]
    exact hin n (by rw[Tm.mU hk];simp))
   simp only[h,aA,seval]
   refine dV (σ:=Nat) [1000000,5] [1,2,4,5] ts (fun i b=>(((ts.take i).map g).map Tm.av≠[]→(aB.aC W c (.cells ([AV.int .i64 k,AV.int .i64 (n'),AV.str s]++ [bE 4 b (((ts.take i).map g).map Tm.av)]))) b=none)) (fun i b=>[(7,.int .i64 i)]) (fun i b=>eY W c b [AV.int .i64 k,AV.int .i64 (n'),AV.str s] (((ts.take i).map g).map Tm.av)) (by decide +kernel)
    ⟨0,fun h=>absurd rfl h,aN.mk (by simp only[aA,↓aR,seval])⟩ (fun i x b hx hlt bH hdr hinv=>?_) (fun b hge hinv=>?_)
   case refine_1=>
    have hw:=bL (n:=(i:Int)+1)
    have cF:(((ts.take i).map g).map Tm.av).length=i:=by simp only[aE,dC];omega
    have htk:(ts.take (i+1)).map g=(ts.take i).map g++ [g x]:=by rw[eA,hx];simp
    have hbo:=eF hinv
    simp only[aE,bH,aE,aA,seval,nJ]
    refine wP [(0,1),(2,1),(4,1),(7,1),(1,2),(3,2),(5,1),(6,2),(8,2),(9,1),(10,0),(11,1),(12,0)] [0,2,4,7,1,3,5,6,8,9,11] mixed ?_
    simp only[bD (av:=Tm.av) a8 hx (aH x),aT,aH,hbo,lQ,aA,seval,nJ]
    refine fK (IH x (cD hx) _) ?_
    simp only[aT,aH,cC,aA,seval,nJ]
    refine eD a8 fW fX rfl rfl (eO (aH _) (bT _)) (dS _) hinv (by simp only[cF,aS,aW];omega) (by simp only[cF,aS,aW];omega) (fun b' hb'=>?_)
    rw[show(((ts.take i).map g).map Tm.av)++ [(g x).av]=((ts.take (i+1)).map g).map Tm.av by rw[htk];simp] at hb' ⊢
    obtain⟨g1,g2,g3⟩:=nB hb'
    simp only[fC,eL] at g1 g3
    simp only[g3,lR,eT,aK,g1,hw,aK,aA,seval,nJ]
    exact⟨b',g2,aN.mk (by simp only[aA,seval])⟩
   have hbo:=eF hinv
   rw[dW] at hinv hbo ⊢
   simp only[aE,hge,aE,aA,seval,nJ]
   simp only[hbo,aK,aA,seval,nJ]
   have g1:=gJ hinv hS K7
   rw[hW4] at g1
   simp only[g1,eT,aA,seval]
   obtain⟨g2,g3⟩:=jW (o:=.cells [AV.int .i64 k,AV.int .i64 (n'),AV.str s,bE 4 b ((ts.map g).map Tm.av)]) hinv hS K7
   refine⟨b,_,_,g2,g3,iM _,⟨4,dS _⟩,?_,fun x=>?_⟩
   · simp only[fO,aZ,aV,dZ,iD,iJ,←aU]
     rw[fin h4]
   · subst hW
     by_cases e3:x=b4<;>by_cases e4:x=c<;>simp_all [aB.aC]
  have hlt:i<vars.length:=by simpa using h
  simp only[h,aA,seval,nJ]
  refine aP (fun h5=>?_) (fun h5=>?_)
  case refine_2=>
   have h5':k≠1:=by simpa using h5
   have h4:(k=1→n'=d4 n vars 0):=fun hk=>absurd hk h5'
   simp only[aA,seval]
   refine dV (σ:=Nat) [1000000,5] [1,2,4,5] ts (fun i b=>(((ts.take i).map g).map Tm.av≠[]→(aB.aC W c (.cells ([AV.int .i64 k,AV.int .i64 (n'),AV.str s]++ [bE 4 b (((ts.take i).map g).map Tm.av)]))) b=none)) (fun i b=>[(7,.int .i64 i)]) (fun i b=>eY W c b [AV.int .i64 k,AV.int .i64 (n'),AV.str s] (((ts.take i).map g).map Tm.av)) (by decide +kernel)
    ⟨0,fun h=>absurd rfl h,aN.mk (by simp only[aA,↓aR,seval])⟩ (fun i x b hx hlt bH hdr hinv=>?_) (fun b hge hinv=>?_)
   case refine_1=>
    have hw:=bL (n:=(i:Int)+1)
    have cF:(((ts.take i).map g).map Tm.av).length=i:=by simp only[aE,dC];omega
    have htk:(ts.take (i+1)).map g=(ts.take i).map g++ [g x]:=by rw[eA,hx];simp
    have hbo:=eF hinv
    simp only[aE,bH,aE,aA,seval,nJ]
    refine wP [(0,1),(2,1),(4,1),(7,1),(1,2),(3,2),(5,1),(6,2),(8,2),(9,1),(10,0),(11,1),(12,0)] [0,2,4,7,1,3,5,6,8,9,11] mixed ?_
    simp only[bD (av:=Tm.av) a8 hx (aH x),aT,aH,hbo,lQ,aA,seval,nJ]
    refine fK (IH x (cD hx) _) ?_
    simp only[aT,aH,cC,aA,seval,nJ]
    refine eD a8 fW fX rfl rfl (eO (aH _) (bT _)) (dS _) hinv (by simp only[cF,aS,aW];omega) (by simp only[cF,aS,aW];omega) (fun b' hb'=>?_)
    rw[show(((ts.take i).map g).map Tm.av)++ [(g x).av]=((ts.take (i+1)).map g).map Tm.av by rw[htk];simp] at hb' ⊢
    obtain⟨g1,g2,g3⟩:=nB hb'
    simp only[fC,eL] at g1 g3
    simp only[g3,lR,eT,aK,g1,hw,aK,aA,seval,nJ]
    exact⟨b',g2,aN.mk (by simp only[aA,seval])⟩
   have hbo:=eF hinv
   rw[dW] at hinv hbo ⊢
   simp only[aE,hge,aE,aA,seval,nJ]
   simp only[hbo,aK,aA,seval,nJ]
   have g1:=gJ hinv hS K7
   rw[hW4] at g1
   simp only[g1,eT,aA,seval]
   obtain⟨g2,g3⟩:=jW (o:=.cells [AV.int .i64 k,AV.int .i64 (n'),AV.str s,bE 4 b ((ts.map g).map Tm.av)]) hinv hS K7
   refine⟨b,_,_,g2,g3,iM _,⟨4,dS _⟩,?_,fun x=>?_⟩
   · simp only[fO,aZ,aV,dZ,iD,iJ,←aU]
     rw[fin h4]
   · subst hW
     by_cases e3:x=b4<;>by_cases e4:x=c<;>simp_all [aB.aC]
  have hk:k=1:=by simpa using h5
  obtain⟨x,hx⟩:∃x,vars[i]?=some x:=⟨_,eN hlt⟩
  have hat:c9 prog 26 (.slice (vars.map iv)) (.int .i64 (i:Int))=some (.pptr (.int .i64 x)):=bD (av:=iv) g7 hx rfl
  have hw:=bL (n:=(i:Int)+1)
  have htk:vars.take (i+1)=vars.take i++ [x]:=by rw[eA,hx];try rfl
  simp only[aA,seval]
  refine wP [(0,1),(1,1),(2,1),(4,1),(3,2),(5,2),(6,1)] [0,1,2,4,3,5,6] mixed ?_
  simp only[hat,aA,seval,nJ]
  refine aP (fun h6=>?_) (fun h6=>?_)
  · have h6':x=n:=by simpa using h6
    subst h6'
    simp only[aK,hw,aA,seval,nJ]
    refine⟨(i+1,(i:Int)),by simp only;omega,⟨hlt,fun h=>absurd hk h,fun _ _=>(QT i hx).symm⟩,aN.mk (by simp only[aA,seval])⟩
  · have h6':x≠n:=by simpa using h6
    simp only[hw,aA,seval]
    refine⟨(i+1,n'),by simp only;omega,⟨hlt,h2,fun hk hm=>h3 hk ?_⟩,aN.mk (by simp only[aA,seval])⟩
    rw[htk,fQ] at hm
    rcases hm with hm | hm
    · exact hm
    · simp only[c8,dP,dX] at hm
      exact absurd hm.symm h6'
termination_by t=>SizeOf.sizeOf t
decreasing_by have:=List.sizeOf_lt_of_mem hx;simp only[Tm.mk.sizeOf_spec];omega
theorem M6:∀(ts:List Tm) (l:List Int),(∀t∈ts,t.wf=true)→l.Nodup→(aY ts l).Nodup
 | [],l,_,h=>h
 | t::ts,l,hw,h=>M6 ts _ (fun x hx=>hw x (by simp [hx])) ((UP t (hw t (by simp)) l).2.1 h)
theorem DX:∀l:List Tm,(∀t∈l,t.nodes≤120)→bK Tm.nodes l≤l.length*120
 | [],_=>by simp [bK]
 | x::l,h=>by
  simp only[bK,aS]
  have:=DX l fun y hy=>h y (by simp [hy])
  have:=h x (by simp)
  omega
abbrev EL:=zi aX (zi fA (zi bS bQ))
theorem aTW{N:Int}(l:List Tm)(hok:∀t∈l,bG N t)(hl:l.length≤1000)(st:aB):aD prog 224 [.slice (l.map Tm.av)] st (fun r st'=>r=.slice ((kJ l).map Tm.av)∧st'=st):=by
 have hnd:=DX l fun t ht=>(hok t ht).2
 have QN:=M6 l [] (fun t ht=>Tm.rS t (hok t ht).1.2.1) oX
 have gO:=fun v=>tP (v:=v) l [] fun t ht=>(hok t ht).1.2.1
 have hvl:=wZ l []
 simp only[aW] at hvl
 refine aD.done ?_
 refine wF [1000000] 1 func224 ntmps224 rfl rfl ?_
 intro _
 simp only[aA,seval,EL]
 refine oA (σ:=Unit) [1000000] [0,2] l 1 3 (fun i _=>(aY (l.take i) []).map iv) (fun _ _=>True) (fun i _=>[(4,.int .i64 i)]) (fun _ _=>st) (fun i _ _ e he=>by simp only[cI] at he;obtain⟨t,_,rfl⟩:=he;exact⟨rfl,rfl⟩) (by decide +kernel) ⟨(),0,trivial,fun h=>absurd rfl h,aN.mk (by simp only[iK,jG,aY,aV,aA,↓aR,seval])⟩ (fun i x s b hx hlt bH hdr hinv hb=>?_) (fun s b hge hinv=>?_)
 case refine_1=>
  have hw:=bL (n:=(i:Int)+1)
  have hat:=bD (av:=Tm.av) a8 hx (aH x)
  have hst:=HR Tm.nodes hx
  have hvl:=wZ (l.take i) []
  simp only[aW,fZ] at hvl
  have htk:x.vars (aY (l.take i) [])=aY (l.take (i+1)) []:=by
   rw[eA,hx,UB]
   try rfl
  simp only[bH,aE,hat,aT,aH,aA,seval,EL]
  refine(F1 x (aY (l.take i) []) b st (Tm.rS x (hok x (cD hx)).1.2.1) hb (by omega)).mono ?_
  rintro _ _ ⟨b',rfl,rfl,hb'⟩
  rw[htk] at hb' ⊢
  simp only[aA,seval]
  exact⟨(),b',hb',aN.mk (by simp only[hw,aA,seval])⟩
 simp only[hge,dZ,gV,nW,kF,dW,aE,aA,seval,EL]
 have hR:kJ l=l.map fun t=>t.aG fun v=>vr (d4 v (aY l []) 0):=rfl
 rw[hR]
 generalize aY l []=vars at *
 refine oA (σ:=Unit) [1000000] [0,2,3] l 4 5 (fun i _=>((l.take i).map fun t=>t.aG fun v=>vr (d4 v vars 0)).map Tm.av) (fun _ _=>True) (fun i _=>[(6,.int .i64 i)]) (fun _ _=>st) (fun i _ _ e he=>by simp only[cI] at he;obtain⟨t,_,rfl⟩:=he;exact⟨cC _,aH _⟩) (by decide +kernel) ⟨(),0,trivial,fun h=>absurd rfl h,aN.mk (by simp only[iK,jG,aV,aA,↓aR,seval])⟩ (fun i x s b hx hlt bH hdr hinv hb=>?_) (fun s b hge hinv=>?_)
 case refine_2=>
  simp only[hge,dZ,gV,kF,dW,aE,aA,seval,EL]
  exact⟨rfl,aL.refl _⟩
 have hw:=bL (n:=(i:Int)+1)
 have hat:=bD (av:=Tm.av) a8 hx (aH x)
 have hxm:=cD hx
 have cF:(((l.take i).map fun t=>t.aG fun v=>vr (d4 v vars 0)).map Tm.av).length=i:=by simp only[aE,dC];omega
 simp only[bH,aE,hat,aT,aH,aA,seval,EL]
 refine(XO vars QN (by omega) x _ (hok x hxm).1.small (hok x hxm).1.2.1 (fun v hv=>(gO v).2 (.inr ⟨x,hxm,hv⟩))).to ?_
 simp only[aT,aH,cC,aA,seval,EL]
 refine eD a8 fW fX rfl rfl (eO (aH _) (bT _)) (dS _) hb (by simp only[cF,aS,aW];omega) (by simp only[cF,aS,aW];omega) (fun b' hb'=>?_)
 rw[show(((l.take i).map fun t=>t.aG fun v=>vr (d4 v vars 0)).map Tm.av)++ [(x.aG fun v=>vr (d4 v vars 0)).av]=((l.take (i+1)).map fun t=>t.aG fun v=>vr (d4 v vars 0)).map Tm.av by rw[eA,hx];simp] at hb' ⊢
 simp only[aA,seval]
 exact⟨(),b',hb',aN.mk (by simp only[hw,aA,seval])⟩
abbrev aOB:=zi aX (zi bZ (zi bS bQ))
theorem XK(l:List Tm)(st:aB):aD prog 72 [.slice (l.map Tm.av)] st (fun r st'=>r=.bool (l.all Tm.valid)∧st'=st):=by
 refine wF [1000000] 1 func72 ntmps72 rfl rfl ?_
 simp only[d7,AV.fits,d9,aE]
 intro ⟨hl,_⟩
 simp only[aA,seval]
 refine dV (σ:=Unit) [1000000] [0] l (fun i _=>((l.drop i).all Tm.valid)=(l.all Tm.valid)) (fun i _=>[(3,.int .i64 i)]) (fun _ _=>st) (by decide +kernel) ⟨(),rfl,aN.mk (by simp only[aA,↓aR,seval])⟩ (fun i x _ hx hlt bH hdr hinv=>?_) (fun _ hge hinv=>?_)
 case refine_2=>
  simp only[hge,aE,aA,seval,aOB]
  rw[←hinv,j4]
  try rfl
 have hw:=bL (n:=(i:Int)+1)
 rw[hdr,j3] at hinv
 simp only[bH,aE,bD (av:=Tm.av) a8 hx (aH x),aT,aH,aA,seval,aOB]
 refine(CX x _).to ?_
 simp only[aA,seval]
 refine aP (fun h2=>?_) (fun h2=>?_)
 · simp only[aA,seval]
   simp only[iV] at h2
   rw[←hinv,h2]
   try rfl
 · simp only[lO] at h2
   rw[h2,dU] at hinv
   simp only[aA,seval]
   exact⟨(),hinv,aN.mk (by simp only[hw,aA,seval])⟩
theorem aLB(v:Int):∀(l:List Int) (i:Int),v∈l→i≤d4 v l i∧d4 v l i<i+l.length
 | [],i,h=>by cases h
 | x::l,i,h=>by
  simp only[d4,aS]
  split
  · omega
  · rename_i e
    have h':v∈l:=by
     rcases c8.1 h with h | h
     · exact absurd h e
     · exact h
    have:=aLB v l (i+1) h'
    omega
theorem aMR{N:Int}{l:List Tm}(hok:∀t∈l,bG N t)(hf:l.all eW=true):(kJ l).all Tm.valid=decide ((aY l []).length≤26):=by
 have gO:=fun v=>tP (v:=v) l [] fun t ht=>(hok t ht).1.2.1
 have QN:=M6 l [] (fun t ht=>Tm.rS t (hok t ht).1.2.1) oX
 have hro:∀t∈l,cM (aY l []).length (t.aG fun v=>vr (d4 v (aY l []) 0)):=fun t ht=>
  (hok t ht).1.aG fun v hv=>by
   have:=aLB v (aY l []) 0 ((gO v).2 (.inr ⟨t,ht,hv⟩))
   exact HB (by omega) (by omega)
 have fF:∀t∈l,eW (t.aG fun v=>vr (d4 v (aY l []) 0))=true:=fun t ht=>by
  have:=dQ.1 hf t ht
  unfold eW at this ⊢
  rw[show(t.aG fun v=>vr (d4 v (aY l []) 0))=bV (fun v=>d4 v (aY l []) 0) t from rfl,SU _ (hok t ht).1.2.1,L4 _ (hok t ht).1.2.1]
  exact this
 rw[u9,dQ,bO]
 constructor
 · intro h
   refine xB fun hn=>?_
   obtain⟨w,hw⟩:∃w,(aY l [])[26]?=some w:=⟨_,eN (by omega)⟩
   rcases (gO w).1 (cD hw) with h1 | ⟨t,ht,hv⟩
   · cases h1
   · have tE:=h _ (cI.2 ⟨t,ht,rfl⟩)
     have hin:=(Tm.IV tE).2.2 26 ((y9 t).2 ⟨w,hv,by rw[RH QN hw 0,zA];simp⟩)
     omega
 · intro h x hx
   obtain⟨t,ht,rfl⟩:=cI.1 hx
   have h1:=aMA.2 ((hro t ht).mono (show((aY l []).length:Int)≤26 by omega))
   rw[Tm.aPP h1]
   exact fF t ht
theorem a4U{N:Int}{l:List Tm}(hok:∀t∈l,bG N t):(kJ l).length=l.length:=by unfold kJ;rw[aE]
abbrev wY:=zi aX (zi bZ (zi fA (zi bS (zi nM bQ))))
theorem aUR{N:Nat}{σ:Sub}(hg:cS σ)(ho:cV (bG N) σ)(vars:List Int)(hv:∀v∈vars,0≤v∧v<(N:Int))(hl:vars.length≤1000)(st:aB) :
 aD prog 135 [.slice (vars.map iv),.slice (cX N σ)] st (fun r st'=>st'=st∧∃a,r=.tup [cG a,.bool (j8 σ vars).isSome]∧∀x,j8 σ vars=some x→a=x):=by
 obtain⟨rk,B,G⟩:=hg.rs
 refine aD.mL (aD.soft ?_)
 refine wF [1000000] 2 func135 ntmps135 rfl rfl ?_
 intro _
 simp only[aA,seval,wY]
 intro b4 h4
 refine oA (σ:=Unit) [1000000] [0,1,4] vars 4 6 (fun i _=>((vars.take i).map (rs σ)).map Tm.av) (fun i _=>((vars.take i).map (rs σ)).all eW=true) (fun i _=>[(5,.bool false),(7,.int .i64 i)]) (fun _ _=>st.aC b4 (.cells [.fslice []])) (fun i _ _ e he=>by simp only[cI] at he;obtain⟨t,_,rfl⟩:=he;exact⟨cC _,aH _⟩) (by decide +kernel) ⟨(),0,rfl,fun h=>absurd rfl h,aN.mk (by simp only[iK,jG,aV,aA,↓aR,seval])⟩ (fun i x s b hx hlt bH hdr hinv hb=>?_) (fun s b hge hinv=>?_)
 · have hw:=bL (n:=(i:Int)+1)
   have hxm:=cD hx
   obtain⟨hx0,hx1⟩:=hv x hxm
   have hvr:bG N (vr x):=⟨HB hx0 hx1,by rw[vr,Tm.gK];simp [bK]⟩
   have hat:c9 prog 26 (.slice (vars.map iv)) (.int .i64 (i:Int))=some (.pptr (.int .i64 x)):=bD (av:=iv) g7 hx rfl
   have cF:(((vars.take i).map (rs σ)).map Tm.av).length=i:=by simp only[aE,dC];omega
   have dJ:((vars.take (i+1)).map (rs σ)).all eW=eW (rs σ x):=by
    rw[eA,hx]
    simp only[B7,sK,aZ,aV,B0,hinv,j3,List.all_nil,u7,dU]
   simp only[bH,aE,hat,aA,seval,wY]
   refine(J1 x _).to ?_
   simp only[aA,seval]
   refine(X9 hg ho (vr x) hvr _).mono ?_
   rintro _ _ ⟨rfl,y,rfl,hy⟩
   rw[tH] at hy ⊢
   simp only[aH,bT,cC,aA,↓aR,seval,wY]
   refine aP (fun h=>?_) (fun h=>?_)
   · have h':eW (rs σ x)=false:=by simpa using h
     have qI:j8 σ vars=none:=by
      unfold j8
      rw[aF]
      rintro⟨h1,_⟩
      have:=dQ.1 h1 _ (cI.2 ⟨x,hxm,rfl⟩)
      rw[h'] at this;cases this
     have hbo:∀l,(l≠[]→st b=none)→(l≠[]→b≠b4)→(a7 (st.aC b4 (.cells [.fslice []])) b l) b4=some (.cells [.fslice []]):=fun l _ h2=>by
      cases l with
      | nil=>exact aB.aO _ _ _
      | cons e l=>simp only[a7];rw[aB.aM _ _ (c7 (h2 (by simp)))];exact aB.aO _ _ _
     have hnb:((vars.take i).map (rs σ)).map Tm.av≠[]→b≠b4:=fun h=>by rintro rfl;have:=hb h;rw[aB.aO] at this;cases this
     have a07:((vars.take i).map (rs σ)).map Tm.av≠[]→st b=none:=fun h=>by have:=hb h;rw[aB.aM _ _ (hnb h)] at this;exact this
     have e1:=hbo _ a07 hnb
     simp only[aK,e1,aA,seval,wY]
     rw[qI]
     refine⟨st,?_,rfl,[],rfl,fun x h=>by cases h⟩
     intro z
     by_cases hz:z=b4
     · subst hz;simp [aB.aC,h4]
     · rw[aB.aM _ _ hz]
       exact((aL.a7 (aL.refl _) hb).trans ((aL.refl st).aC h4)) z
   · have h':eW (rs σ x)=true:=by simpa using h
     obtain rfl:=hy h'
     simp only[aT,aH,cC,aA,seval,wY]
     refine eD a8 fW fX rfl rfl (eO (aH _) (bT _)) (dS _) hb (by simp only[cF,aS,aW];omega) (by simp only[cF,aS,aW];omega) (fun b' hb'=>?_)
     rw[show(((vars.take i).map (rs σ)).map Tm.av)++ [(rs σ x).av]=((vars.take (i+1)).map (rs σ)).map Tm.av by rw[eA,hx];simp] at hb' ⊢
     simp only[hw,aA,seval]
     exact⟨(),b',by rw[dJ];exact h',hb',aN.mk (by simp only[aA,seval])⟩
 · rw[dW] at hinv
   have hok:∀t∈vars.map (rs σ),bG N t:=fun t ht=>by
    obtain⟨v,h,rfl⟩:=cI.1 ht
    obtain⟨h0,h1⟩:=hv v h
    have hf:=dQ.1 hinv _ ht
    unfold eW at hf
    simp only[cB,bO] at hf
    exact⟨G.lY ho.lY v h0 h1,hf.2⟩
   have tE:=aMR hok hinv
   have qI:j8 σ vars=if(aY (vars.map (rs σ)) []).length≤26 then some (kJ (vars.map (rs σ))) else none:=by
    unfold j8
    simp only[hinv,tQ]
   have a1I:=fun st=>aTW _ hok (by rw[aE];exact hl) st
   have dJ:=fun st=>XK (kJ (vars.map (rs σ))) st
   rw[tE] at dJ
   generalize kJ (vars.map (rs σ))=R at *
   generalize (aY (vars.map (rs σ)) []).length=m at *
   simp only[hge,dZ,nV,gV,GD,kF,dW,vZ,aE,aA,seval,wY]
   refine(a1I _).to ?_
   simp only[aA,↓aR,seval,wY]
   refine wP [(1,1),(0,2),(2,2),(3,2),(4,0),(5,1)] [1,0,2,3,5] mixed ?_
   simp only[aA,seval,wY]
   refine fK (dJ _) ?_
   simp only[aK,aA,seval,wY]
   refine⟨st,(aL.refl _).aC h4,rfl,R,?_,fun x h=>?_⟩
   · rw[qI]
     simp only[jC,iT,oT,nG,aZ,aV]
     by_cases h:m≤26
     · simp [h]
     · simp [h]
   · rw[qI] at h
     split at h
     · cases h;rfl
     · cases h
end Go.AW
