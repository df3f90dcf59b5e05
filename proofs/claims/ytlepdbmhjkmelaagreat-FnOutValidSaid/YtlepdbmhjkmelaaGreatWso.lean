import Derived.Test.YtlepdbmhjkmelaaGreatWsn
import Derived.Test.YtlepdbmhjkmelaaGreatWsk
import Derived.Test.YtlepdbmhjkmelaaGreatWsl
import Derived.Test.YtlepdbmhjkmelaaGreatWsm
set_option linter.unusedSimpArgs false
set_option linter.unusedVariables false
set_option maxRecDepth 100000
namespace Go.AW
open Go.Proofs.Tryz
theorem OA(b:List Bt):(eS b).2.1.length≤b.length:=by
 unfold eS
 split
 · rename_i h
   have h1:=BH h
   have:=OA (b.drop (2+dJ b))
   rw[jZ] at this
   simp only
   omega
 · split<;>simp
termination_by b.length
decreasing_by
 have:=BH (by assumption)
 rw[jZ]
 omega
def oM(r:List Bt)(k:Bool):Bool:=if k then r.isEmpty else decide (gD r=0)
abbrev OI:=zi aX (zi cD (zi f0 (zi lZ uV)))
theorem SJ(r:List Bt)(k:Bool)(st:aA):aD prog 215 [jO r k] st (fun x st'=>x=.bool (oM r k)∧st'=st):=by
 unfold jO
 refine aD.kK ?_
 refine wF [1000000,3] 1 func215 ntmps215 rfl rfl ?_
 intro _
 unfold oM
 cases k with
 | true=>
  have hz:decide ((r.length:Int)=0)=r.isEmpty:=by cases r with
   | nil=>rfl
   | cons x l=>simp;omega
  simp only[hz,aE,aB,seval,OI]
  exact aJ.refl _
 | false=>
  have hn:=RA r st
  generalize gD r=N at *
  generalize uI r=F at *
  obtain⟨y,s⟩:=F
  simp only[bC] at hn
  simp only[aB,seval,OI]
  refine hn.to ?_
  simp only[aG,aA.aK,aB,↓a9,seval,OI]
  intro b1 hb1
  have hD:=fun o=>(aJ.refl st).aC (o:=o) hb1
  exact hD _
theorem aKO{st:aA}{w b:Nat}{l:List AV}(h:l≠[]→st b=none):Lit st w l (bQ w b l) (aU st b l):=by
 cases l with
 | nil=>exact .inl ⟨rfl,rfl⟩
 | cons x l=>exact .inr ⟨b,h (by simp),rfl,rfl⟩
theorem oL(l:List Bt):∀e∈l.map a7,e.bO=false:=fun e he=>by simp only[cL] at he;obtain⟨t,_,rfl⟩:=he;rfl
theorem l7(l:List Bt):∀e∈l.map a7,e.width=1:=fun e he=>by simp only[cL] at he;obtain⟨t,_,rfl⟩:=he;rfl
theorem pL(l:List Bt):tJ 1 (l.map a7):=fun e he=>by simp only[cL] at he;obtain⟨t,_,rfl⟩:=he;exact⟨rfl,rfl⟩
def iE(r:List Bt)(k:Bool)(x:List Bt):(List Bt×Bool)×List Fr:=if oM r k=false∨k=true then((r,k),[]) else(((eS (r++x)).2.1,(eS (r++x)).2.2),(eS (r++x)).1)
def mH(T:(List Bt×Bool)×List Fr)(v:AV):Prop:=v=.tup [jO T.1.1 T.1.2,bA T.2]
abbrev uQ:=zi cD (zi f0 (zi kU uV))
set_option maxHeartbeats 1000000 in
theorem aOK(r:List Bt)(k:Bool)(x:List Bt)(st:aA)(hr:r.length+x.length≤4000000):aD prog 183 [jO r k,bT x] st (fun v st'=>mH (iE r k x) v∧st'=st):=by
 have hv:=fun s=>SJ r k s
 unfold jO at hv ⊢
 refine aD.drop (Q:=mH _) (aD.fin ?_)
 refine wF [1000000,4] 2 func183 ntmps183 rfl rfl ?_
 intro _
 simp only[aB,seval,uQ]
 intro b4 h4
 refine(hv _).to ?_
 have hno:oM r k=false∨k=true→iE r k x=((r,k),[]):=fun h=>by unfold iE;rw[aN h]
 have A0:oM r k=true→k=false→iE r k x=(((eS (r++x)).2.1,(eS (r++x)).2.2),(eS (r++x)).1):=fun h h'=>by unfold iE;rw[aH (by rintro(e | e)<;>first | (rw[h] at e;cases e) | (rw[h'] at e;cases e))]
 generalize oM r k=d at *
 generalize iE r k x=T at *
 simp only[aB,seval]
 cases d with
 | false=>
  cases hno (.inl rfl)
  simp only[fM,aB,seval]
  refine wX [(0,1),(1,1),(2,1),(4,1),(5,1),(7,1),(3,0),(6,1),(8,0),(9,1)] [0,1,2,4,5,7,6,9] dW mixed rfl cY ?_
  simp only[aB,seval,uQ]
  refine eE (P:=prog) (st:=aA.aC st b4 (.cells [.fslice [],.bool false])) (b:=0) (l:=[]) (xs:=(r.map a7)) eV l9 mA rfl rfl (pL _) (by simp) (by simp) (by simp only[aW,aE];omega) (by simp only[aW,aE];omega) (fun b hb=>?_)
  rw[dI] at hb ⊢
  have hne:r.map a7≠[]→b4≠b:=fun h e=>by have:=hb h;rw[←e,aA.aK] at this;cases this
  have e1:∀o:AO,(aU (aA.aC st b4 o) b (r.map a7)) b4=some o:=fun o=>by rw[wY hne,aA.aK]
  have e2:∀o o':AO,(aU (aA.aC st b4 o) b (r.map a7)).aC b4 o'=aU (aA.aC st b4 o') b (r.map a7):=fun o o'=>by rw[nF hne,d3]
  have e3:∀o:AO,r.map a7≠[]→(aA.aC st b4 o) b=none:=fun o h=>by have:=hb h;rw[aA.aO _ _ (dM (hne h))] at this ⊢;exact this
  refine⟨cY,?_⟩
  simp only[aG,e1,e2,jL,nG,iM,aB,seval,uQ]
  exact⟨cY,b,_,_,rfl,e3 _,oL _,⟨1,l7 _⟩,(aJ.refl _).aC h4,by simp only[mH,jO,fE,eW,kN,lD,jD,bF,bD];rfl⟩
 | true=>
  cases k with
  | true=>
   cases hno (.inr rfl)
   simp only[fA,aB,seval,uQ]
   refine wX [(0,1),(1,1),(2,1),(4,1),(5,1),(7,1),(3,0),(6,1),(8,0),(9,1)] [0,1,2,4,5,7,6,9] dW mixed rfl cY ?_
   simp only[aB,seval,uQ]
   refine eE (P:=prog) (st:=aA.aC st b4 (.cells [.fslice [],.bool false])) (b:=0) (l:=[]) (xs:=(r.map a7)) eV l9 mA rfl rfl (pL _) (by simp) (by simp) (by simp only[aW,aE];omega) (by simp only[aW,aE];omega) (fun b hb=>?_)
   rw[dI] at hb ⊢
   have hne:r.map a7≠[]→b4≠b:=fun h e=>by have:=hb h;rw[←e,aA.aK] at this;cases this
   have e1:∀o:AO,(aU (aA.aC st b4 o) b (r.map a7)) b4=some o:=fun o=>by rw[wY hne,aA.aK]
   have e2:∀o o':AO,(aU (aA.aC st b4 o) b (r.map a7)).aC b4 o'=aU (aA.aC st b4 o') b (r.map a7):=fun o o'=>by rw[nF hne,d3]
   have e3:∀o:AO,r.map a7≠[]→(aA.aC st b4 o) b=none:=fun o h=>by have:=hb h;rw[aA.aO _ _ (dM (hne h))] at this ⊢;exact this
   refine⟨cY,?_⟩
   simp only[aG,e1,e2,jL,nG,iM,aB,seval,uQ]
   exact⟨cY,b,_,_,rfl,e3 _,oL _,⟨1,l7 _⟩,(aJ.refl _).aC h4,by simp only[mH,jO,fE,eW,kN,lD,jD,bF,bD];rfl⟩
  | false=>
   cases A0 rfl rfl
   simp only[fA,aB,seval,uQ]
   refine eE (P:=prog) (st:=aA.aC st b4 (.cells [.fslice [],.bool false])) (b:=0) (l:=[]) (xs:=(r.map a7)) eV l9 mA rfl rfl (pL _) (by simp) (by simp) (by simp only[aW,aE];omega) (by simp only[aW,aE];omega) (fun b hb=>?_)
   rw[dI] at hb ⊢
   simp only[aB,seval]
   refine eE eV l9 mA rfl rfl (pL x) (l7 _) hb (by simp only[aE];omega) (by simp only[aE];omega) (fun b' hb'=>?_)
   rw[←pA] at hb' ⊢
   have MY:=((aKO (w:=1) hb').call (post:=[]) (oL _) (l7 _) (fun _=>rfl) (aMX (r++x) _ (by rw[cX];omega)))
   have hlen:=OA (r++x)
   rw[cX] at hlen
   generalize eS (r++x)=T at *
   obtain⟨fs,rest,bk⟩:=T
   simp only at hlen
   simp only[aB,seval]
   refine MY.mono ?_
   rintro _ _ ⟨rfl,rfl⟩
   simp only[aB,seval,uQ]
   refine eE (P:=prog) (st:=aA.aC st b4 (.cells [.fslice [],.bool false])) (b:=0) (l:=[]) (xs:=(rest.map a7)) eV l9 mA rfl rfl (pL _) (by simp) (by simp) (by simp only[aW,aE];omega) (by simp only[aW,aE];omega) (fun c hc=>?_)
   rw[dI] at hc ⊢
   have hne:rest.map a7≠[]→b4≠c:=fun h e=>by have:=hc h;rw[←e,aA.aK] at this;cases this
   have e1:∀o:AO,(aU (aA.aC st b4 o) c (rest.map a7)) b4=some o:=fun o=>by rw[wY hne,aA.aK]
   have e2:∀o o':AO,(aU (aA.aC st b4 o) c (rest.map a7)).aC b4 o'=aU (aA.aC st b4 o') c (rest.map a7):=fun o o'=>by rw[nF hne,d3]
   have e3:∀o:AO,rest.map a7≠[]→(aA.aC st b4 o) c=none:=fun o h=>by have:=hc h;rw[aA.aO _ _ (dM (hne h))] at this ⊢;exact this
   simp only[aG,e1,e2,jL,nG,iM,aB,seval,uQ]
   exact⟨c,_,_,rfl,e3 _,oL _,⟨1,l7 _⟩,(aJ.refl _).aC h4,by simp only[mH,jO,fE,eW,kN,gY,jD,bF,bD]⟩

theorem aFK{st:aA}{b:Nat}{l:List Fr}(hb:l.map bC≠[]→st b=none):Made st (bA l) (bQ 2 b (l.map bC)) (aU st b (l.map bC)):=by
 have hO:∀(s:aA) (l:List Fr),eG s (l.map bC) (l.map bC) []:=fun s l=>by
  induction l with
  | nil=>exact⟨rfl,rfl⟩
  | cons x l ih=>
   simp only[bF,eG]
   exact⟨_,_,[],[],rfl,rfl,aVK.2 ⟨[],rfl,rfl,rfl⟩,ih⟩
 have hw:∀e∈l.map bC,e.width=2:=by intro e h;simp only[cL] at h;obtain⟨t,_,rfl⟩:=h;rfl
 have:=aVJ (hO (aU st b (l.map bC)) l) hw
 rw[gI] at this
 refine⟨_,?_,?_,this,?_⟩
 · cases l.map bC<;>simp [wW]
 · intro x hx
   cases hl:l.map bC with
   | nil=>rw[hl] at hx;simp [wW] at hx
   | cons y ys=>
    rw[hl] at hx
    simp only[wW,cT,dF,dS] at hx
    subst hx
    exact hb (by rw[hl];simp)
 · intro x hx
   cases hl:l.map bC with
   | nil=>rfl
   | cons y ys=>
    rw[hl] at hx
    simp only[wW,cT,dF,dS] at hx
    simp only[aU]
    exact aA.aO _ _ hx
theorem QO{st:aA}{l:List Fr}{K:AV→aA→Prop}(hb:l.length≤4194304)(hK:∀b,(l.map bC≠[]→st b=none)→K (bQ 2 b (l.map bC)) (aU st b (l.map bC))) :
 i8 prog 39 st (.fslice []) (bA l) K:=by
 have hw:∀e∈l.map bC,e.width=2∧e.cells.all AV.storable=true:=by intro e h;simp only[cL] at h;obtain⟨t,_,rfl⟩:=h;exact⟨rfl,rfl⟩
 have:=eE (P:=prog) (st:=st) (b:=0) (l:=[]) (xs:=l.map bC) (x:=bA l) (K:=K) jQ nJ nK rfl rfl hw (by simp) (by simp) (by simp only[aW,aE];omega) (by simp only[aW,aE];omega) (by simpa using hK)
 exact this
theorem aU4(l:List Fr)(st:aA)(hb:l.length≤4194304):aD prog 48 [bA l] st (Made st (bA l)):=by
 refine QF func48 ntmps48 rfl rfl (by kernel_rfl) (by show 1≤_;decide +kernel) ?_
 intro _
 refine zX (qL [1000000] (by decide +kernel) ?_)
 simp only[aB,seval]
 refine zX (zX (QU aYG (by decide +kernel) (by decide +kernel) rfl fun c hc=>?_))
 refine qL [1000000] (by decide +kernel) ?_
 simp only[aB,seval]
 refine bE (fun h=>?_) (fun h=>?_)
 · subst h
   have hn:l= []:=by
    rcases l with _ | ⟨x,l⟩
    · rfl
    · have:=hc (by simp);cases this
   subst hn
   simp only[aB,seval]
   exact⟨[],qF,by simp,by simp [fB],fun _ _=>rfl⟩
 · refine qL [1000000] (by decide +kernel) ?_
   simp only[aB,seval,kU]
   refine QO hb fun b hb'=>?_
   simp only[aB,seval]
   exact aFK hb'
def cout(s:Sv)(k:Int):List Fr:=if 0≤k then(s.cs[k.toNat]?.map dT.out).getD [] else[]
abbrev aHW:=zi aX (zi cD (zi uT p7))
theorem RF(s:Sv)(k:Int)(st:aA):aD prog 49 [fZ s,.int .i64 k] st (fun r st'=>r=.bool (decide (0≤k)&&decide (k<s.cs.length))∧st'=st):=by
 obtain⟨cs,q⟩:=s
 simp only[fZ]
 refine wF [1000000] 2 func49 ntmps49 rfl rfl ?_
 intro _
 simp only[aB,seval,aHW]
 refine c5 (fun h=>?_) (fun h=>?_)
 · have h':0≤k:=by simpa using h
   simp only[h,aE,aB,seval,aHW]
   all_goals (try simp [h'])
 · have h':¬ 0≤k:=by simpa using h
   simp only[h,aB,seval]
   all_goals (try simp [])
abbrev OK:=zi aX (zi cD (zi uT (zi p7 (zi kU p8))))
theorem aU6(s:Sv)(k:Int)(st:aA)(hlen:(cout s k).length≤4194304):aD prog 15 [fZ s,.int .i64 k] st (Made st (bA (cout s k))):=by
 have hIs:=RF s k
 obtain⟨cs,q⟩:=s
 simp only[fZ] at hIs ⊢
 unfold cout at *
 simp only at *
 refine wF [1000000] 2 func15 ntmps15 rfl rfl ?_
 intro _
 simp only[aB,seval,OK]
 refine(hIs _).to ?_
 simp only[aB,seval]
 refine bE (fun h=>?_) (fun h=>?_)
 · simp only[aB,seval,OK]
   have:(if 0≤k then(cs[k.toNat]?.map dT.out).getD [] else[])= []:=by
    split
    · rename_i h0
      rw[rN (by simp [h0] at h;omega)]
      try rfl
    · rfl
   rw[this]
   exact⟨[],qF,by simp,by simp [fB],fun _ _=>rfl⟩
 have h':0≤k∧k<cs.length:=by simpa using h
 rw[aN h'.1] at hlen ⊢
 obtain⟨n,rfl⟩:∃n:Nat,k=n:=⟨k.toNat,by omega⟩
 obtain⟨x,hx⟩:∃x,cs[n]?=some x:=⟨_,d4 (by omega)⟩
 rw[fV,hx] at hlen ⊢
 simp only[nC,zA] at hlen ⊢
 have hat:=bR (av:=bV) (P:=prog) vK hx (vI x)
 obtain⟨r,bk,wt,pr,ac,ss,td,ou⟩:=x
 simp only[bV,eU] at hat hlen ⊢
 simp only[hat,aB,seval,OK]
 refine QO (by omega) fun b hb'=>?_
 simp only[aB,seval]
 exact aFK hb'
abbrev aHV:=zi aX (zi cD (zi uT (zi p7 (zi kU p8))))
theorem aU5(s:Sv)(k:Int)(st:aA)(hb:s.cs.length≤1048576)(hlen:(cout s k).length≤4194304):aD prog 13 [fZ s,.int .i64 k] st (Made st (bA (cout s k))):=by
 obtain⟨cs,q⟩:=s
 simp only[fZ]
 unfold cout at *
 simp only at *
 refine wF [1000000] 2 func13 ntmps13 rfl rfl ?_
 intro _
 have hw:=bH (n:=(cs.length:Int) - 1)
 simp only[aE,hw,aB,seval,aHV]
 refine(G5 k 0 _ _).to ?_
 simp only[aB,seval]
 refine bE (fun h=>?_) (fun h=>?_)
 · simp only[aB,seval]
   have:(if 0≤k then(cs[k.toNat]?.map dT.out).getD [] else[])= []:=by
    split
    · rename_i h0
      rw[rN (by simp [h0] at h;omega)]
      try rfl
    · rfl
   rw[this]
   exact⟨[],qF,by simp,by simp [fB],fun _ _=>rfl⟩
 have h':0≤k∧k<cs.length:=by simp at h;omega
 rw[aN h'.1] at hlen ⊢
 obtain⟨n,rfl⟩:∃n:Nat,k=n:=⟨k.toNat,by omega⟩
 obtain⟨x,hx⟩:∃x,cs[n]?=some x:=⟨_,d4 (by omega)⟩
 rw[fV,hx] at hlen ⊢
 simp only[nC,zA] at hlen ⊢
 have hat:=bR (av:=bV) (P:=prog) vK hx (vI x)
 obtain⟨r,bk,wt,pr,ac,ss,td,ou⟩:=x
 simp only[bV,eU] at hat hlen ⊢
 simp only[hat,aB,seval,aHV]
 refine(aU4 ou _ (by omega)).mono ?_
 rintro r s' hm
 simp only[aB,seval]
 exact hm
noncomputable def rZ(c:dT):Bool:=c.wait.all gB&&((!c.act||(o0 c.ses&&decide (c.ses.fin= -1)))&&(oM c.rest c.brk&&gK c.prog))
noncomputable def q7(s:Sv):Bool:=s.cs.all rZ&&(decide (s.cs.length≤4)&&(decide (0≤s.quota)&&decide (s.quota≤300)))
theorem aHM(b:List Bt):(eS b).1.length≤b.length:=by
 unfold eS
 split
 · rename_i h
   have h1:=BH h
   have:=aHM (b.drop (2+dJ b))
   rw[jZ] at this
   simp only[aY]
   omega
 · split<;>simp
termination_by b.length
decreasing_by
 have:=BH (by assumption)
 rw[jZ]
 omega
def xD(c:dT)(x:List Bt):dT:={ c with rest:=(iE c.rest c.brk x).1.1,brk:=(iE c.rest c.brk x).1.2,wait:=c.wait++(iE c.rest c.brk x).2 }
noncomputable def tV(s:Sv)(k:Int)(x:List Bt):Sv:=if(decide (0≤k)&&decide (k<s.cs.length))=true∧q7 s=true then(match s.cs[k.toNat]? with
 | some c=>{ s with cs:=s.cs.set k.toNat (xD c x) }
 | none=>s) else s
theorem aR4{s:Sv}{k:Int}{x:List Bt}(h:¬((decide (0≤k)&&decide (k<s.cs.length))=true∧q7 s=true)):tV s k x=s:=by
 unfold tV
 rw[aH h]
theorem aR5{s:Sv}{k:Nat}{x:List Bt}{c:dT}(hc:s.cs[k]?=some c)(h:q7 s=true):tV s (k:Int) x= { s with cs:=s.cs.set k (xD c x) }:=by
 have hk:=(gJ.1 hc).1
 unfold tV
 rw[aN ⟨by rw[d6 (show(0:Int)≤(k:Int) by omega),d6 (show(k:Int)<(s.cs.length:Int) by omega)];try rfl,h⟩]
 simp only[fV,hc]
theorem aDV(r:List Bt)(k:Bool)(x:List Bt):(iE r k x).1.1.length≤r.length+x.length∧(iE r k x).2.length≤r.length+x.length:=by
 unfold iE
 split
 · simp
 · have h1:=OA (r++x)
   have h2:=aHM (r++x)
   rw[cX] at h1 h2
   exact⟨h1,h2⟩
abbrev I7:=zi aX (zi cD (zi lK (zi kU (zi lZ (zi uV (zi uW p8))))))
theorem aM2(c:dT)(st:aA):aD prog 214 [bV c] st (fun r st'=>r=.bool (rZ c)∧st'=st):=by
 obtain⟨r,bk,wt,pr,ac,ss,td,ou⟩:=c
 have hs:=fun s=>aOR ss s
 have hd:=fun s=>SJ r bk s
 have hp:=fun s=>G4 pr s
 simp only[bV,eU,rZ]
 unfold kG at hs
 unfold jO at hd
 generalize o0 ss=sv at *
 generalize oM r bk=dv at *
 generalize gK pr=pv at *
 refine aD.kK ?_
 refine wF [1000000] 1 func214 ntmps214 rfl rfl ?_
 simp only[eF,AV.fits,eN,aE]
 intro fF
 have hwl:=fF.2.2.1.1
 have hm:maxLen=9223372036854775807:=by rfl
 simp only[aB,seval,I7]
 refine d7 (σ:=Unit) [1000000] [1] wt (fun i _=>(wt.take i).all gB=true) (fun i _=>[(2,.bool false),(3,.int .i64 i)]) (fun _ _=>st) (by decide +kernel) ⟨(),by simp,aP.mk (by simp only[aB,↓a9,seval])⟩ (fun i x _ hx hlt bN hdr hinv=>?_) (fun _ hge hinv=>?_)
 · have hw:=bH (n:=(i:Int)+1)
   have hat:=bR (av:=bC) jQ hx (nL x)
   have hfv:=fun s=>LM x s
   obtain⟨xk,xs⟩:=x
   simp only[bC] at hat hfv
   simp only[bN,aE,hat,aB,seval,I7]
   refine(hfv _).to ?_
   cases hx2:gB (xk,xs) with
   | false=>
    have:=vD hx hx2
    rw[this,eT]
    simp only[fM,aB,seval]
    first | exact aJ.refl _ | exact⟨rfl,aJ.refl _⟩
   | true=>
    simp only[fA,hw,aB,seval]
    refine⟨(),?_,aP.mk (by simp only[aB,seval])⟩
    rw[eD,hx,yY,hinv]
    simp [hx2]
 · rw[dR] at hinv
   rw[hinv,dH]
   simp only[aE,hge,aB,seval,I7]
   repeat' (first
    | (simp only[*,aB,seval,I7])
    | (refine c5 (fun h=>?_) (fun h=>?_))
    | (refine(hs _).to ?_) | (refine(hd _).to ?_) | (refine(hp _).to ?_)
    | (refine bE (fun h=>?_) (fun h=>?_)))
   all_goals first | exact aJ.refl _ | (refine⟨?_,aJ.refl _⟩;first | (simp_all;done))
abbrev B0:=zi aX (zi cD (zi uT (zi p7 p8)))
theorem RH(s:Sv)(st:aA):aD prog 182 [fZ s] st (fun r st'=>r=.bool (q7 s)∧st'=st):=by
 obtain⟨cs,qu⟩:=s
 simp only[fZ,q7]
 refine wF [1000000] 1 func182 ntmps182 rfl rfl ?_
 simp only[eF,AV.fits,eN,aE]
 intro ⟨hl,_⟩
 simp only[aB,seval,B0]
 refine d7 (σ:=Unit) [1000000] [1] (cs.take 5) (fun i _=>(cs.take i).all rZ=true∧i≤5) (fun i _=>[(2,.bool false),(3,.int .i64 i)]) (fun _ _=>st) (by decide +kernel) ⟨(),by simp,aP.mk (by simp only[aB,↓a9,seval])⟩ (fun i x _ hx hlt bN hdr hinv=>?_) (fun _ hge hinv=>?_)
 · have hw:=bH (n:=(i:Int)+1)
   rw[dE] at hlt
   have hx':cs[i]?=some x:=by rw[List.getElem?_take] at hx;split at hx<;>first | exact hx | cases hx
   have g1:((i:Int)<(cs.length:Int))=True:=bP (by omega)
   have g2:((i:Int)≤4)=True:=bP (by omega)
   have hat:=bR (av:=bV) (P:=prog) vK hx' (vI x)
   have hf:=fun s=>aM2 x s
   simp only[g1,g2,aV,eO,aE,hat,LV,vI,aB,seval,B0]
   refine(hf _).to ?_
   cases hx2:rZ x with
   | false=>
    have:=vD hx' hx2
    rw[this,eT]
    simp only[fM,aB,seval]
   | true=>
    simp only[fA,hw,aB,seval]
    refine⟨(),⟨?_,by omega⟩,aP.mk (by simp only[aB,seval])⟩
    rw[eD,hx',yY,hinv.1]
    simp [hx2]
 · rw[dE] at hge hinv
   by_cases h5:cs.length≤4
   · have e1:(min 5 cs.length)=cs.length:=by omega
     rw[e1] at hinv
     rw[dR] at hinv
     have g1:(((min 5 cs.length:Nat):Int)<(cs.length:Int))=False:=bB (by omega)
     have g2:((cs.length:Int)≤4)=True:=bP (by omega)
     have g3:(cs.length≤4)=True:=bP h5
     rw[hinv.1,dH]
     simp only[aE,g1,g2,g3,aV,dH,dE,aB,seval,B0]
     repeat' (first
      | (simp only[*,dH,aB,seval,B0])
      | (refine c5 (fun h=>?_) (fun h=>?_))
      | (refine bE (fun h=>?_) (fun h=>?_)))
     all_goals first | (simp_all;done) | skip
   · have g1:(((min 5 cs.length:Nat):Int)≤4)=False:=bB (by omega)
     have g2:((cs.length:Int)≤4)=False:=bB (by omega)
     have g3:(cs.length≤4)=False:=bB h5
     have g4:decide (((min 5 cs.length:Nat):Int)<(cs.length:Int))=decide (5<cs.length):=by rw[r5];omega
     simp only[aE,g3,g4,a8,eT,sS,dE,aB,seval,B0]
     repeat' (first
      | (simp only[*,aE,a8,aB,seval,B0])
      | (refine c5 (fun h=>?_) (fun h=>?_))
      | (refine bE (fun h=>?_) (fun h=>?_)))
     all_goals first | (simp_all;done) | skip
end Go.AW
namespace Go.AW
section
variable {h:aZ} {st s0:aA}
end
def Told(st s0:aA)(a o:AV):Prop:=o.isAgg=a.isAgg∧o.width=a.width∧o.bO=false∧∀(h:aZ) (cs:List Value),bZ h st→VC h st o cs→VC h s0 a cs
def dA(st s0:aA):List AV→List AV→Prop
 | [],os=>os= []
 | a::xs,os=>∃o os',os=o::os'∧Told st s0 a o∧dA st s0 xs os'
theorem Told.same{st s0:aA}(T:∀h,bL h st h s0){a:AV}(h:a.bO=false):Told st s0 a a:=⟨rfl,rfl,h,fun h cs _ y=>VC.mono (T h) _ _ y⟩
theorem Told.acc{st s0:aA}(D:aJ st s0){w:Nat}{q:AV}{l:List AV}(hA:dK st w q l)(hs:∀b∈cP q,s0 b=none)(hj:∀e∈l,e.bO=false)(hw:∀e∈l,e.width=w):Told st s0 (.slice l) q:=by
 have hsh:=hA.shape
 refine⟨hsh.1,hsh.2.1,hsh.2.2.1,fun h cs S y=>?_⟩
 have hc:∃c,cs= [c]:=by
  rcases hA with ⟨rfl,_⟩ | ⟨b,ds,rfl,_⟩
  · unfold VC at y
    rcases y with ⟨⟨p,e⟩,_⟩ | ⟨b,off,e,_⟩<;>exact⟨_,e⟩
  · unfold VC at y
    obtain⟨cap,e,_⟩:=y
    exact⟨_,e⟩
 obtain⟨c,rfl⟩:=hc
 exact hA.seen S D hs hj hw y
theorem dA.nil{st s0:aA}:dA st s0 [] []:=rfl
theorem dA.cons{st s0:aA}{a o:AV}{xs os:List AV}(x:Told st s0 a o)(y:dA st s0 xs os):dA st s0 (a::xs) (o::os):=⟨o,os,rfl,x,y⟩
theorem dA.append{st s0:aA}:∀ {xs os xs' os':List AV},dA st s0 xs os→dA st s0 xs' os'→dA st s0 (xs++xs') (os++os')
 | [],os,xs',os',x,y=>by simp only[dA] at x;subst x;exact y
 | a::xs,os,xs',os',x,y=>by
  obtain⟨o,os1,rfl,x1,x2⟩:=x
  exact⟨o,os1++os',rfl,x1,dA.append x2 y⟩
theorem dA.length{st s0:aA}:∀ {xs os:List AV},dA st s0 xs os→os.length=xs.length
 | [],os,x=>by simp only[dA] at x;simp [x]
 | a::xs,os,x=>by
  obtain⟨o,os1,rfl,x1,x2⟩:=x
  simp [dA.length x2]
theorem dA.same{st s0:aA}(T:∀h,bL h st h s0):∀ {xs:List AV},(∀a∈xs,a.bO=false)→dA st s0 xs xs
 | [],_=>rfl
 | a::xs,h=>⟨a,xs,rfl,Told.same T (h a (by simp)),dA.same T fun x hx=>h x (by simp [hx])⟩
theorem dA.view{h:aZ}{st s0:aA}(S:bZ h st):∀ {xs os:List AV} {cs:List Value},dA st s0 xs os→aR h st os cs→aR h s0 xs cs
 | [],os,cs,x,y=>by simp only[dA] at x;subst x;exact y
 | a::xs,os,cs,x,y=>by
  obtain⟨o,os',rfl,x1,x2⟩:=x
  simp only[aR] at y ⊢
  obtain⟨c,r,e,y1,y2⟩:=y
  exact⟨c,r,e,x1.2.2.2 h _ S y1,dA.view S x2 y2⟩
theorem dA.CH{h:aZ}{st s0:aA}(S:bZ h st)(b:Nat):∀ {xs os:List AV} {off:Nat},dA st s0 xs os→cM h st b off os→cM h s0 b off xs
 | [],os,off,x,y=>by simp only[cM]
 | a::xs,os,off,x,y=>by
  obtain⟨o,os',rfl,x1,x2⟩:=x
  simp only[cM] at y ⊢
  obtain⟨⟨cs,y1,y2,y3⟩,y4⟩:=y
  rw[x1.2.1] at y2 y4
  exact⟨⟨cs,y1,y2,x1.2.2.2 h _ S y3⟩,dA.CH S b x2 y4⟩
theorem dA.BV{st s0:aA}:∀ {xs os:List AV},dA st s0 xs os→∀o∈os,o.bO=false
 | [],os,x=>by simp only[dA] at x;rw[x];simp
 | a::xs,os,x=>by
  obtain⟨o,os',rfl,x1,x2⟩:=x
  intro q hq
  rcases cT.1 hq with rfl | hq
  · exact x1.2.2.1
  · exact dA.BV x2 q hq
theorem Told.agg{st s0:aA}{xs os:List AV}(x:dA st s0 xs os):Told st s0 (.agg xs) (.agg os):=
 ⟨rfl,by simp only[AV.width];exact x.length,rfl,fun h cs S y=>by simp only[VC] at y ⊢;exact x.view S y⟩
theorem Told.block{st s0:aA}{b w n:Nat}{es os:List AV}(hb:st b=some (.cells (os.flatMap AV.cells)))(hs:s0 b=none)(x:dA st s0 es os)(hw:∀e∈es,e.width=w)(hn:es.length=n):Told st s0 (.slice es) (.mslice b 0 n w):=by
 subst hn
 refine⟨rfl,rfl,rfl,fun h cs S y=>?_⟩
 simp only[VC] at y
 obtain⟨cap,e,l1,l2,_⟩:=y
 obtain⟨hlt,c,t,q1,q2,vs,q3,q4⟩:=S b _ hb
 have hsh:=x.BV
 unfold VC
 exact .inr ⟨b,0,cap,e,l1,l2,hs,hlt,⟨w,hw⟩,x.CH S b (zD hsh q3 q4)⟩
theorem Told.CJ{h:aZ}{st s0:aA}{a o:AV}{v:Value}(x:Told st s0 a o)(S:bZ h st)(y:aL h st o v):aL h s0 a v:=by
 have key:o.isAgg=iW v∧VC h st o v.cells.toList:=by
  have:=x.2.2.1
  cases o<;>first | exact y | simp [AV.bO] at this
 have z:a.isAgg=iW v∧VC h s0 a v.cells.toList:=⟨x.1.symm.trans key.1,x.2.2.2 h _ S key.2⟩
 cases ha:a<;>rw[ha] at z<;>first | trivial | exact z
theorem dA.rel{st s0:aA}:∀ {xs os:List AV},dA st s0 xs os→∀h vs,bZ h st→cJ h st os vs→cJ h s0 xs vs
 | [],os,x,h,vs,_,y=>by simp only[dA] at x;rw[x] at y;exact y
 | a::xs,os,x,h,vs,S,y=>by
  obtain⟨o,os',rfl,x1,x2⟩:=x
  simp only[cJ] at y ⊢
  obtain⟨v,r,rfl,y1,y2⟩:=y
  exact⟨v,r,rfl,x1.CJ S y1,dA.rel x2 h r S y2⟩
theorem aD.told{P:Program}{g:FuncId}{args:List AV}{st:aA}{Q:AV→aA→Prop}(x:aD P g args st (fun r st'=>∃a s2,aJ st' s2∧Told st' s2 a r∧Q a s2)):aD P g args st Q:=
 x.mF fun r st' ⟨a,s2,D,t,q⟩=>⟨a,s2,D.o5,fun _ _ S y=>t.CJ S y,q⟩
theorem Told.QZ{st s0:aA}{b w n:Nat}{es os X:List AV}(hb:st b=some (.cells (os.flatMap AV.cells++X)))(hs:s0 b=none)(x:dA st s0 es os)(hw:∀e∈es,e.width=w)(hn:es.length=n):Told st s0 (.slice es) (.mslice b 0 n w):=by
 subst hn
 refine⟨rfl,rfl,rfl,fun h cs S y=>?_⟩
 simp only[VC] at y
 obtain⟨cap,e,l1,l2,_⟩:=y
 obtain⟨hlt,c,t,q1,q2,vs,q3,q4⟩:=S b _ hb
 have hsh:=x.BV
 have q5:=q4.take (os.flatMap AV.cells).length
 rw[List.take_left] at q5
 unfold VC
 exact .inr ⟨b,0,cap,e,l1,l2,hs,hlt,⟨w,hw⟩,x.CH S b (zD hsh (LQ _ q3) q5)⟩
theorem dK.split{st:aA}{w:Nat}{q:AV}{l:List AV}(h:dK st w q l)(hw:∀e∈l,e.width=w){k:Nat}{e:AV}(he:l[k]?=Option.some e) :
 ∃b X,q=.mslice b 0 l.length w∧cP q= [b]∧st b=Option.some (.cells ((l.take k).flatMap AV.cells++e.cells++((l.drop (k+1)).flatMap AV.cells++X)))∧((l.take k).flatMap AV.cells).length=k*w:=by
 obtain⟨hi,hei⟩:=gJ.1 he
 rcases h with ⟨rfl,rfl⟩ | ⟨b,cs,rfl,hb,hcs,hcl⟩
 · simp at he
 · refine⟨b,cs.drop (l.length*w),rfl,rfl,?_,?_⟩
   · rw[hb,←qE]
     congr 2
     have h2:l=l.take k++e::l.drop (k+1):=by rw[←hei,←sT hi,y7]
     have h3:(l.take k).flatMap AV.cells++e.cells++(l.drop (k+1)).flatMap AV.cells=l.flatMap AV.cells:=by
      conv=>rhs;rw[h2]
      simp
     rw[h3,←hcs,y7]
   · rw[lQ (n:=w) (es:=l.take k) (fun e he=>hw e (mJ he)),dE,oE (by omega)]
structure c9 (st s:aA) (ds:List Nat) (ps:List (Nat×AV×List AV)):Prop where
 acc:∀p∈ps,dK s p.1 p.2.1 p.2.2
 apart:ps.Pairwise fun p p'=>∀y∈cP p.2.1,y∉cP p'.2.1
 fresh:∀p∈ps,∀y∈cP p.2.1,st y=none∧y∉ds
 left:∀d∈ds,st d=none∧s d≠none
 bJ:∀x o,st x=some o→s x=some o
theorem c9.j7{st s:aA}{ds:List Nat}{ps:List (Nat×AV×List AV)}(C:c9 st s ds ps):aJ s st:=fun b=>by
 refine⟨fun h=>?_,fun o h=>C.bJ b o h⟩
 cases hb:st b with
 | none=>rfl
 | some o=>rw[C.bJ b o hb] at h;cases h
theorem c9.aC{st s:aA}{ds:List Nat}{ps:List (Nat×AV×List AV)}(C:c9 st s ds ps){d:Nat}(hd:d∈ds)(o:AO):c9 st (s.aC d o) ds ps:=by
 refine⟨fun p hp=>(C.acc p hp).bJ fun b hb=>aA.aO _ _ fun e=>(C.fresh p hp b hb).2 (e▸hd),C.apart,C.fresh,fun x hx=>⟨(C.left x hx).1,?_⟩,fun x o' h=>?_⟩
 · by_cases e:x=d
   · subst e;rw[aA.aK];simp
   · rw[aA.aO _ _ e];exact(C.left x hx).2
 · have:x≠d:=by rintro rfl;rw[(C.left x hd).1] at h;cases h
   rw[aA.aO _ _ this]
   exact C.bJ x o' h
theorem c9.new{st s:aA}{ds:List Nat}{ps:List (Nat×AV×List AV)}(C:c9 st s ds ps)(w:Nat):c9 st s ds ((w,.fslice [],[])::ps):=by
 refine⟨fun p hp=>?_,CS.2 ⟨fun p _ y hy=>by simp [cP] at hy,C.apart⟩,fun p hp=>?_,C.left,C.bJ⟩
 · rcases cT.1 hp with rfl | hp
   · exact .inl ⟨rfl,rfl⟩
   · exact C.acc p hp
 · rcases cT.1 hp with rfl | hp
   · intro y hy;simp [cP] at hy
   · exact C.fresh p hp
theorem c9.grow{st s s':aA}{ds:List Nat}{ps:List (Nat×AV×List AV)}{w:Nat}{q q':AV}{l l':List AV}(C:c9 st s ds ((w,q,l)::ps))(A:dK s' w q' l')(K:∀y,y∉cP q→y∉cP q'→s' y=s y)(F:∀y∈cP q',y∈cP q∨s y=none) :
 c9 st s' ds ((w,q',l')::ps)∧(∀d∈ds,s' d=s d)∧∀p∈ps,∀y∈cP p.2.1,s' y=s y:=by
 have hap:=CS.1 C.apart
 have hf0:=C.fresh _ (iZ ..)
 have hd':∀d∈ds,d∉cP q':=fun d hd h=>by
  rcases F d h with h | h
  · exact(hf0 d h).2 hd
  · exact(C.left d hd).2 h
 have hd:∀d∈ds,s' d=s d:=fun d hd=>K d (fun h=>(hf0 d h).2 hd) (hd' d hd)
 have hp':∀p∈ps,∀y∈cP p.2.1,y∉cP q':=fun p hp y hy h=>by
  rcases F y h with h | h
  · exact hap.1 p hp y h hy
  · obtain⟨cs,e⟩:=(C.acc p (y6 _ hp)).some y hy
    rw[h] at e;cases e
 have hp:∀p∈ps,∀y∈cP p.2.1,s' y=s y:=fun p hp y hy=>K y (fun h=>hap.1 p hp y h hy) (hp' p hp y hy)
 refine⟨⟨fun p h=>?_,CS.2 ⟨fun p h y hy hy'=>hp' p h y hy' hy,hap.2⟩,fun p h=>?_,fun d h=>⟨(C.left d h).1,by rw[hd d h];exact(C.left d h).2⟩,fun x o h=>?_⟩,hd,hp⟩
 · rcases cT.1 h with rfl | h
   · exact A
   · exact(C.acc p (y6 _ h)).bJ (hp p h)
 · rcases cT.1 h with rfl | h
   · intro y hy
     rcases F y hy with h | h
     · exact hf0 y h
     · refine⟨C.j7 y |>.1 h,fun hyd=>(C.left y hyd).2 h⟩
   · exact C.fresh p (y6 _ h)
 · have h1:x∉cP q:=fun hx=>by rw[(hf0 x hx).1] at h;cases h
   have h2:x∉cP q':=fun hx=>by
    rcases F x hx with h' | h'
    · exact h1 h'
    · rw[C.bJ x o h] at h';cases h'
   rw[K x h1 h2]
   exact C.bJ x o h
theorem c9.start{st s:aA}{ds:List Nat}(h1:∀d∈ds,st d=none∧s d≠none)(h2:∀x o,st x=some o→s x=some o):c9 st s ds []:=⟨by simp,List.Pairwise.nil,by simp,h1,h2⟩
theorem c9.told{st s:aA}{ds:List Nat}{ps:List (Nat×AV×List AV)}(C:c9 st s ds ps){p:Nat×AV×List AV}(hp:p∈ps)(hj:∀e∈p.2.2,e.bO=false)(hw:∀e∈p.2.2,e.width=p.1):Told s st (.slice p.2.2) p.2.1:=
 Told.acc C.j7 (C.acc p hp) (fun b hb=>(C.fresh p hp b hb).1) hj hw
def J6(st:aA)(w:Nat)(q:AV)(l:List AV)(s:aA):Prop:=dK s w q l∧(∀y∈cP q,st y=none)∧∀y,y∉cP q→s y=st y
theorem c9.aSQ{st s:aA}{ds:List Nat}{w:Nat}{q:AV}{l:List AV}(C:c9 st s ds [(w,q,l)]):∃s2,aJ s s2∧J6 st w q l s2:=by
 have hf:=C.fresh _ (iZ ..)
 have hA:=C.acc _ (iZ ..)
 refine⟨fun y=>if y∈cP q then s y else st y,fun y=>⟨fun h=>?_,fun o h=>?_⟩,hA.bJ fun b hb=>aN hb,fun y hy=>(hf y hy).1,fun y hy=>aH hy⟩
 · by_cases hy:y∈cP q
   · simp only[hy,fQ];exact h
   · simp only[hy,eA];exact(C.j7 y).1 h
 · by_cases hy:y∈cP q
   · simp only[hy,fQ] at h;exact h
   · simp only[hy,eA] at h;exact C.bJ y o h
theorem c9.more{st s:aA}{ds:List Nat}{ps:List (Nat×AV×List AV)}(C:c9 st s ds ps){b:Nat}(hb:s b=none)(o:AO):c9 st (s.aC b o) (b::ds) ps:=by
 have hst:st b=none:=(C.j7 b).1 hb
 have hne:∀p∈ps,∀y∈cP p.2.1,y≠b:=fun p hp y hy e=>by
  obtain⟨cs,h⟩:=(C.acc p hp).some y hy
  rw[e,hb] at h;cases h
 refine⟨fun p hp=>(C.acc p hp).bJ fun y hy=>aA.aO _ _ (hne p hp y hy),C.apart,fun p hp y hy=>⟨(C.fresh p hp y hy).1,fun h=>?_⟩,fun d hd=>?_,fun x o' h=>?_⟩
 · rcases cT.1 h with h | h
   · exact hne p hp y hy h
   · exact(C.fresh p hp y hy).2 h
 · rcases cT.1 hd with rfl | hd'
   · exact⟨hst,by rw[aA.aK];simp⟩
   · have:d≠b:=by rintro rfl;exact(C.left d hd').2 hb
     exact⟨(C.left d hd').1,by rw[aA.aO _ _ this];exact(C.left d hd').2⟩
 · have:x≠b:=by rintro rfl;rw[hst] at h;cases h
   rw[aA.aO _ _ this];exact C.bJ x o' h
theorem c9.one{st:aA}{b:Nat}(hb:st b=none)(o:AO):c9 st (st.aC b o) [b] []:=by
 refine c9.start (fun d hd=>?_) (fun x o' h=>?_)
 · simp only[cT,dF,dS] at hd
   subst hd
   exact⟨hb,by rw[aA.aK];simp⟩
 · have:x≠b:=by rintro rfl;rw[hb] at h;cases h
   rw[aA.aO _ _ this];exact h
theorem c9.aFY{st s s':aA}{ds:List Nat}{ps:List (Nat×AV×List AV)}{w:Nat}{q:AV}{l:List AV}(C:c9 st s ds ps)(G:J6 s w q l s'):c9 st s' ds ((w,q,l)::ps)∧(∀d∈ds,s' d=s d)∧∀p∈ps,∀y∈cP p.2.1,s' y=s y:=
 (C.new w).grow G.1 (fun y _ h=>G.2.2 y h) fun y h=>.inr (G.2.1 y h)
end Go.AW
namespace Go.AW
open Go.Proofs.Tryz
theorem t5(l:List Fr):tJ 2 (l.map bC):=fun e he=>by simp only[cL] at he;obtain⟨t,_,rfl⟩:=he;exact⟨rfl,rfl⟩
theorem AA(l:List dT):∀e∈l.map bV,e.width=13:=by intro e h;simp only[cL] at h;obtain⟨t,_,rfl⟩:=h;rfl
theorem HC(l:List dT):∀e∈l.map bV,e.bO=false:=by intro e h;simp only[cL] at h;obtain⟨t,_,rfl⟩:=h;rfl
abbrev xA (c:dT):Prop:=c.rest.length≤4194304∧c.wait.length≤4194304∧c.out.length≤1048576∧(c.prog.length≤1048576∧∀x∈c.prog,LT x)∧(c.ses.p.length≤1048576∧∀x∈c.ses.p,LT x)∧c.ses.q.length≤1048576∧∀x∈c.ses.q,x.small=true
theorem EW{st:aA}{b2 c:Nat}{o o':AO}(hb2:st b2=none)(hc:(st.aC b2 o) c=none):c9 st ((st.aC b2 o).aC c o') [b2,c] []:=by
 have hne:c≠b2:=by rintro rfl;rw[aA.aK] at hc;cases hc
 have hcn:st c=none:=by rw[aA.aO st _ hne] at hc;exact hc
 refine c9.start (fun d hd=>?_) (fun x o h=>?_)
 · simp only[cT,dF,dS] at hd
   rcases hd with rfl | rfl
   · exact⟨hb2,by rw[aA.aO _ _ (dM hne),aA.aK];simp⟩
   · exact⟨hcn,by rw[aA.aK];simp⟩
 · have h1:x≠b2:=by rintro rfl;rw[hb2] at h;cases h
   have h2:x≠c:=by rintro rfl;rw[hcn] at h;cases h
   rw[aA.aO _ _ h2,aA.aO _ _ h1];exact h
abbrev jH:=zi aX (zi cD (zi f0 (zi lK (zi kU (zi m9 (zi uV (zi uW p8)))))))
set_option maxHeartbeats 1000000 in
theorem aM0(c:dT)(hb:xA c)(st:aA):aD prog 213 [bV c] st (fun r st'=>r=bV c∧st'=st):=by
 obtain⟨k1,k2,k3,⟨k4,k5⟩,⟨k6,k7⟩,k8,k9⟩:=hb
 obtain⟨r,bk,wt,pr,ac,ss,td,ou⟩:=c
 simp only at k1 k2 k3 k4 k5 k6 k7 k8 k9
 have h10:=fun s=>LC ss k6 k7 k8 k9 s
 simp only[bV,eU]
 unfold kG at h10
 refine aD.told ?_
 refine wF [1000000,3] 1 func213 ntmps213 rfl rfl ?_
 intro _
 simp only[aB,seval,jH]
 intro b2 hb2
 refine aLC (.br [(0,1),(1,1),(2,1),(3,1),(4,1),(5,1)] 6 8 (.fin [(7,1),(8,0),(9,0)]) (.fin [(6,0),(7,1),(9,0)])) [0,1,2,3,4,5,7] dW mixed (by decide +kernel) rfl (by decide +kernel) cY ?_
 simp only[KG,PS,aJT,aJU,PU,aB,seval,jH]
 refine⟨?_,fun c hc=>⟨cY,?_⟩⟩
 · refine(h10 _).to ?_
   simp only[aG,KG,PU,aB,seval,jH]
   refine⟨cY,fun c hc=>⟨cY,cY,?_⟩⟩
   have hne:c≠b2:=by rintro rfl;rw[aA.aK] at hc;cases hc
   have C0:c9 st ((st.aC b2 (.cells [.fslice [],.bool false,.fslice [],.fslice [],.bool false,.fslice [],.fslice [],.int .i64 0,.int .i64 0,.int .i64 0,.int .i64 0,.bool false,.fslice []])).aC c (.cells [.fslice [],.bool false,.fslice [],.fslice [],.bool ac,.slice (ss.p.map aF),.slice (ss.q.map Tm.av),.int .i64 ss.quota,.int .i64 ss.used,.int .i64 ss.sent,.int .i64 ss.fin,.bool td,.fslice []])) [b2,c] []:=EW hb2 hc
   have e0:((st.aC b2 (.cells [.fslice [],.bool false,.fslice [],.fslice [],.bool false,.fslice [],.fslice [],.int .i64 0,.int .i64 0,.int .i64 0,.int .i64 0,.bool false,.fslice []])).aC c (.cells [.fslice [],.bool false,.fslice [],.fslice [],.bool ac,.slice (ss.p.map aF),.slice (ss.q.map Tm.av),.int .i64 ss.quota,.int .i64 ss.used,.int .i64 ss.sent,.int .i64 ss.fin,.bool td,.fslice []])) c=some (.cells [.fslice [],.bool false,.fslice [],.fslice [],.bool ac,.slice (ss.p.map aF),.slice (ss.q.map Tm.av),.int .i64 ss.quota,.int .i64 ss.used,.int .i64 ss.sent,.int .i64 ss.fin,.bool td,.fslice []]):=aA.aK _ _ _
   have g0:((st.aC b2 (.cells [.fslice [],.bool false,.fslice [],.fslice [],.bool false,.fslice [],.fslice [],.int .i64 0,.int .i64 0,.int .i64 0,.int .i64 0,.bool false,.fslice []])).aC c (.cells [.fslice [],.bool false,.fslice [],.fslice [],.bool ac,.slice (ss.p.map aF),.slice (ss.q.map Tm.av),.int .i64 ss.quota,.int .i64 ss.used,.int .i64 ss.sent,.int .i64 ss.fin,.bool td,.fslice []])) b2=some (.cells [.fslice [],.bool false,.fslice [],.fslice [],.bool false,.fslice [],.fslice [],.int .i64 0,.int .i64 0,.int .i64 0,.int .i64 0,.bool false,.fslice []]):=by rw[aA.aO _ _ hne.symm,aA.aK]
   generalize (st.aC b2 (.cells [.fslice [],.bool false,.fslice [],.fslice [],.bool false,.fslice [],.fslice [],.int .i64 0,.int .i64 0,.int .i64 0,.int .i64 0,.bool false,.fslice []])).aC c (.cells [.fslice [],.bool false,.fslice [],.fslice [],.bool ac,.slice (ss.p.map aF),.slice (ss.q.map Tm.av),.int .i64 ss.quota,.int .i64 ss.used,.int .i64 ss.sent,.int .i64 ss.fin,.bool td,.fslice []])=s0 at *
   refine wX [(0,1),(1,1),(2,1),(3,1),(5,1),(6,1),(7,1),(4,0),(8,1),(9,1),(10,2)] [0,1,2,3,5,6,7,8,9] dW mixed rfl cY ?_
   simp only[aB,seval,jH]
   refine dK.pH (w:=1) (l:=[]) (xs:=r.map a7) eV l9 mA rfl (by decide) (.inl ⟨rfl,rfl⟩) rfl (pL r) (by simp only[aW,aE];omega) (fun q1 s1 A1 K1 F1=>?_)
   rw[dI] at A1
   obtain⟨C1,f1,-⟩:=(C0.new 1).grow A1 K1 F1
   have e1:s1 c=some (.cells [.fslice [],.bool false,.fslice [],.fslice [],.bool ac,.slice (ss.p.map aF),.slice (ss.q.map Tm.av),.int .i64 ss.quota,.int .i64 ss.used,.int .i64 ss.sent,.int .i64 ss.fin,.bool td,.fslice []]):=(f1 c (by simp)).trans e0
   have g1:=(f1 b2 (by simp)).trans g0
   obtain⟨z11,z12,z13,z14,z15⟩:=A1.shape
   simp only[aG,e1,z13,z14,z15,aB,seval,jH]
   refine⟨cY,?_⟩
   have C1:=C1.aC (d:=c) (by simp) (.cells [q1,.bool bk,.fslice [],.fslice [],.bool ac,.slice (ss.p.map aF),.slice (ss.q.map Tm.av),.int .i64 ss.quota,.int .i64 ss.used,.int .i64 ss.sent,.int .i64 ss.fin,.bool td,.fslice []])
   have e1:(s1.aC c (.cells [q1,.bool bk,.fslice [],.fslice [],.bool ac,.slice (ss.p.map aF),.slice (ss.q.map Tm.av),.int .i64 ss.quota,.int .i64 ss.used,.int .i64 ss.sent,.int .i64 ss.fin,.bool td,.fslice []])) c=some (.cells [q1,.bool bk,.fslice [],.fslice [],.bool ac,.slice (ss.p.map aF),.slice (ss.q.map Tm.av),.int .i64 ss.quota,.int .i64 ss.used,.int .i64 ss.sent,.int .i64 ss.fin,.bool td,.fslice []]):=aA.aK _ _ _
   have g1:=(aA.aO s1 (.cells [q1,.bool bk,.fslice [],.fslice [],.bool ac,.slice (ss.p.map aF),.slice (ss.q.map Tm.av),.int .i64 ss.quota,.int .i64 ss.used,.int .i64 ss.sent,.int .i64 ss.fin,.bool td,.fslice []]) hne.symm).trans g1
   generalize s1.aC c (.cells [q1,.bool bk,.fslice [],.fslice [],.bool ac,.slice (ss.p.map aF),.slice (ss.q.map Tm.av),.int .i64 ss.quota,.int .i64 ss.used,.int .i64 ss.sent,.int .i64 ss.fin,.bool td,.fslice []])=t1 at *
   refine dK.pH (w:=2) (l:=[]) (xs:=wt.map bC) jQ nJ nK rfl (by decide) (.inl ⟨rfl,rfl⟩) rfl (t5 wt) (by simp only[aW,aE];omega) (fun q2 s2 A2 K2 F2=>?_)
   rw[dI] at A2
   obtain⟨C2,f2,-⟩:=(C1.new 2).grow A2 K2 F2
   have e2:s2 c=some (.cells [q1,.bool bk,.fslice [],.fslice [],.bool ac,.slice (ss.p.map aF),.slice (ss.q.map Tm.av),.int .i64 ss.quota,.int .i64 ss.used,.int .i64 ss.sent,.int .i64 ss.fin,.bool td,.fslice []]):=(f2 c (by simp)).trans e1
   have g2:=(f2 b2 (by simp)).trans g1
   obtain⟨z21,z22,z23,z24,z25⟩:=A2.shape
   simp only[aG,e2,z24,z25,aB,seval,jH]
   have C2:=C2.aC (d:=c) (by simp) (.cells [q1,.bool bk,q2,.fslice [],.bool ac,.slice (ss.p.map aF),.slice (ss.q.map Tm.av),.int .i64 ss.quota,.int .i64 ss.used,.int .i64 ss.sent,.int .i64 ss.fin,.bool td,.fslice []])
   have e2:(s2.aC c (.cells [q1,.bool bk,q2,.fslice [],.bool ac,.slice (ss.p.map aF),.slice (ss.q.map Tm.av),.int .i64 ss.quota,.int .i64 ss.used,.int .i64 ss.sent,.int .i64 ss.fin,.bool td,.fslice []])) c=some (.cells [q1,.bool bk,q2,.fslice [],.bool ac,.slice (ss.p.map aF),.slice (ss.q.map Tm.av),.int .i64 ss.quota,.int .i64 ss.used,.int .i64 ss.sent,.int .i64 ss.fin,.bool td,.fslice []]):=aA.aK _ _ _
   have g2:=(aA.aO s2 (.cells [q1,.bool bk,q2,.fslice [],.bool ac,.slice (ss.p.map aF),.slice (ss.q.map Tm.av),.int .i64 ss.quota,.int .i64 ss.used,.int .i64 ss.sent,.int .i64 ss.fin,.bool td,.fslice []]) hne.symm).trans g2
   generalize s2.aC c (.cells [q1,.bool bk,q2,.fslice [],.bool ac,.slice (ss.p.map aF),.slice (ss.q.map Tm.av),.int .i64 ss.quota,.int .i64 ss.used,.int .i64 ss.sent,.int .i64 ss.fin,.bool td,.fslice []])=t2 at *
   refine dK.pH (w:=2) (l:=[]) (xs:=ou.map bC) jQ nJ nK rfl (by decide) (.inl ⟨rfl,rfl⟩) rfl (t5 ou) (by simp only[aW,aE];omega) (fun q3 s3 A3 K3 F3=>?_)
   rw[dI] at A3
   obtain⟨C3,f3,-⟩:=(C2.new 2).grow A3 K3 F3
   have e3:s3 c=some (.cells [q1,.bool bk,q2,.fslice [],.bool ac,.slice (ss.p.map aF),.slice (ss.q.map Tm.av),.int .i64 ss.quota,.int .i64 ss.used,.int .i64 ss.sent,.int .i64 ss.fin,.bool td,.fslice []]):=(f3 c (by simp)).trans e2
   have g3:=(f3 b2 (by simp)).trans g2
   obtain⟨z31,z32,z33,z34,z35⟩:=A3.shape
   simp only[aG,e3,z34,z35,aB,seval,jH]
   have C3:=C3.aC (d:=c) (by simp) (.cells [q1,.bool bk,q2,.fslice [],.bool ac,.slice (ss.p.map aF),.slice (ss.q.map Tm.av),.int .i64 ss.quota,.int .i64 ss.used,.int .i64 ss.sent,.int .i64 ss.fin,.bool td,q3])
   have e3:(s3.aC c (.cells [q1,.bool bk,q2,.fslice [],.bool ac,.slice (ss.p.map aF),.slice (ss.q.map Tm.av),.int .i64 ss.quota,.int .i64 ss.used,.int .i64 ss.sent,.int .i64 ss.fin,.bool td,q3])) c=some (.cells [q1,.bool bk,q2,.fslice [],.bool ac,.slice (ss.p.map aF),.slice (ss.q.map Tm.av),.int .i64 ss.quota,.int .i64 ss.used,.int .i64 ss.sent,.int .i64 ss.fin,.bool td,q3]):=aA.aK _ _ _
   have g3:=(aA.aO s3 (.cells [q1,.bool bk,q2,.fslice [],.bool ac,.slice (ss.p.map aF),.slice (ss.q.map Tm.av),.int .i64 ss.quota,.int .i64 ss.used,.int .i64 ss.sent,.int .i64 ss.fin,.bool td,q3]) hne.symm).trans g3
   generalize s3.aC c (.cells [q1,.bool bk,q2,.fslice [],.bool ac,.slice (ss.p.map aF),.slice (ss.q.map Tm.av),.int .i64 ss.quota,.int .i64 ss.used,.int .i64 ss.sent,.int .i64 ss.fin,.bool td,q3])=t3 at *
   refine d7 (σ:=AV×aA) [1000000,3] [1,2,3] pr (fun i p=>c9 st p.2 [b2,c] ((5,p.1,(pr.take i).map aF):: [(2,q3,ou.map bC),(2,q2,wt.map bC),(1,q1,r.map a7)])∧p.2 c=some (.cells [q1,.bool bk,q2,p.1,.bool ac,.slice (ss.p.map aF),.slice (ss.q.map Tm.av),.int .i64 ss.quota,.int .i64 ss.used,.int .i64 ss.sent,.int .i64 ss.fin,.bool td,q3])∧p.2 b2=some (.cells [.fslice [],.bool false,.fslice [],.fslice [],.bool false,.fslice [],.fslice [],.int .i64 0,.int .i64 0,.int .i64 0,.int .i64 0,.bool false,.fslice []])) (fun i _=>[(4,.int .i64 i)]) (fun _ p=>p.2) (by decide +kernel)
    ⟨(.fslice [],t3),⟨C3.new 5,e3,g3⟩,aP.mk (by simp only[aB,↓a9,seval])⟩ (fun i x p hx hlt bN hdr hinv=>?_) (fun p hge hinv=>?_)
   case refine_2=>
    obtain⟨q4,s4⟩:=p
    obtain⟨C4,e4,g4⟩:=hinv
    simp only at C4 e4 g4
    rw[dR] at C4
    obtain⟨z41,z42,z43,z44,z45⟩:=(C4.acc _ (iZ ..)).shape
    have lF:∀s5:aA,c9 st s5 [b2,c] [(5,q4,pr.map aF),(2,q3,ou.map bC),(2,q2,wt.map bC),(1,q1,r.map a7)]→Told s5 st (.agg [bT r,.bool bk,bA wt,.slice (pr.map aF),.bool ac,.slice (ss.p.map aF),.slice (ss.q.map Tm.av),.int .i64 ss.quota,.int .i64 ss.used,.int .i64 ss.sent,.int .i64 ss.fin,.bool td,bA ou]) (.agg [q1,.bool bk,q2,q4,.bool ac,.slice (ss.p.map aF),.slice (ss.q.map Tm.av),.int .i64 ss.quota,.int .i64 ss.used,.int .i64 ss.sent,.int .i64 ss.fin,.bool td,q3]):=fun s5 D=>by
     have T:∀h,bL h s5 h st:=fun h=>D.j7.step h
     have S:∀ {a:AV},a.bO=false→Told s5 st a a:=fun h=>Told.same T h
     have t1:=D.told (p:=(1,q1,r.map a7)) (by simp) (oL r) (l7 r)
     have t2:=D.told (p:=(2,q2,wt.map bC)) (by simp) (mC wt) (kP wt)
     have t3:=D.told (p:=(2,q3,ou.map bC)) (by simp) (mC ou) (kP ou)
     have t4:=D.told (p:=(5,q4,pr.map aF)) (by simp) (G9 pr) (z9 pr)
     exact Told.agg (.cons t1 (.cons (S rfl) (.cons t2 (.cons t4 (.cons (S rfl) (.cons (S rfl) (.cons (S rfl) (.cons (S rfl) (.cons (S rfl) (.cons (S rfl) (.cons (S rfl) (.cons (S rfl) (.cons t3 .nil)))))))))))))
    simp only[hge,aG,aE,e4,g4,z15,z25,z35,z45,aB,seval,jH]
    exact⟨_,st,(C4.aC (by simp) _).j7,lF _ (C4.aC (by simp) _),rfl,rfl⟩
   obtain⟨q4,s4⟩:=p
   obtain⟨C4,e4,g4⟩:=hinv
   simp only at C4 e4 g4
   have A4:=C4.acc _ (iZ ..)
   obtain⟨z41,z42,z43,z44,z45⟩:=A4.shape
   have hw:=bH (n:=(i:Int)+1)
   have cS:((pr.take i).map aF).length=i:=by simp only[aE,dE];omega
   have htk:(pr.take (i+1)).map aF=(pr.take i).map aF++ [aF x]:=by rw[eD,hx];simp
   obtain⟨x1,x2,x3⟩:=k5 x (cQ hx)
   have hat:=bR (av:=aF) oN hx (jC x)
   simp only[bN,aE,aB,seval,jH]
   refine wP [(0,1),(2,1),(4,1),(1,2),(3,2),(5,1),(6,2),(7,2),(8,1),(9,0),(10,1),(11,0)] [0,2,4,1,3,5,6,7,8,10] mixed ?_
   simp only[e4,z41,hat,rY,jC,aB,seval,jH]
   refine iK (z4 x x1 x2 x3 _) ?_
   simp only[rY,jC,D0,aB,seval,jH]
   refine dK.append (w:=5) oN D1 D5 rfl (by decide) A4 (jC x) (G8 x) (by rw[cS];omega) (fun q5 s5 A5 K5 F5=>?_)
   rw[←htk] at A5
   obtain⟨C5,f5,-⟩:=C4.grow A5 K5 F5
   have e5:=(f5 c (by simp)).trans e4
   have g5:=(f5 b2 (by simp)).trans g4
   obtain⟨z51,z52,z53,z54,z55⟩:=A5.shape
   simp only[aG,e5,z54,z55,hw,aB,seval,jH]
   exact⟨(q5,s5.aC c (.cells [q1,.bool bk,q2,q5,.bool ac,.slice (ss.p.map aF),.slice (ss.q.map Tm.av),.int .i64 ss.quota,.int .i64 ss.used,.int .i64 ss.sent,.int .i64 ss.fin,.bool td,q3])),⟨C5.aC (by simp) _,aA.aK _ _ _,(aA.aO _ _ hne.symm).trans g5⟩,aP.mk (by simp only[aB,seval])⟩
 · refine(h10 _).to ?_
   simp only[aG,aB,seval,jH]
   refine⟨cY,cY,?_⟩
   have hne:c≠b2:=by rintro rfl;rw[aA.aK] at hc;cases hc
   have C0:c9 st ((st.aC b2 (.cells [.fslice [],.bool false,.fslice [],.fslice [],.bool false,.fslice [],.fslice [],.int .i64 0,.int .i64 0,.int .i64 0,.int .i64 0,.bool false,.fslice []])).aC c (.cells [.fslice [],.bool false,.fslice [],.fslice [],.bool ac,.slice (ss.p.map aF),.slice (ss.q.map Tm.av),.int .i64 ss.quota,.int .i64 ss.used,.int .i64 ss.sent,.int .i64 ss.fin,.bool td,.fslice []])) [b2,c] []:=EW hb2 hc
   have e0:((st.aC b2 (.cells [.fslice [],.bool false,.fslice [],.fslice [],.bool false,.fslice [],.fslice [],.int .i64 0,.int .i64 0,.int .i64 0,.int .i64 0,.bool false,.fslice []])).aC c (.cells [.fslice [],.bool false,.fslice [],.fslice [],.bool ac,.slice (ss.p.map aF),.slice (ss.q.map Tm.av),.int .i64 ss.quota,.int .i64 ss.used,.int .i64 ss.sent,.int .i64 ss.fin,.bool td,.fslice []])) c=some (.cells [.fslice [],.bool false,.fslice [],.fslice [],.bool ac,.slice (ss.p.map aF),.slice (ss.q.map Tm.av),.int .i64 ss.quota,.int .i64 ss.used,.int .i64 ss.sent,.int .i64 ss.fin,.bool td,.fslice []]):=aA.aK _ _ _
   have g0:((st.aC b2 (.cells [.fslice [],.bool false,.fslice [],.fslice [],.bool false,.fslice [],.fslice [],.int .i64 0,.int .i64 0,.int .i64 0,.int .i64 0,.bool false,.fslice []])).aC c (.cells [.fslice [],.bool false,.fslice [],.fslice [],.bool ac,.slice (ss.p.map aF),.slice (ss.q.map Tm.av),.int .i64 ss.quota,.int .i64 ss.used,.int .i64 ss.sent,.int .i64 ss.fin,.bool td,.fslice []])) b2=some (.cells [.fslice [],.bool false,.fslice [],.fslice [],.bool false,.fslice [],.fslice [],.int .i64 0,.int .i64 0,.int .i64 0,.int .i64 0,.bool false,.fslice []]):=by rw[aA.aO _ _ hne.symm,aA.aK]
   generalize (st.aC b2 (.cells [.fslice [],.bool false,.fslice [],.fslice [],.bool false,.fslice [],.fslice [],.int .i64 0,.int .i64 0,.int .i64 0,.int .i64 0,.bool false,.fslice []])).aC c (.cells [.fslice [],.bool false,.fslice [],.fslice [],.bool ac,.slice (ss.p.map aF),.slice (ss.q.map Tm.av),.int .i64 ss.quota,.int .i64 ss.used,.int .i64 ss.sent,.int .i64 ss.fin,.bool td,.fslice []])=s0 at *
   refine wX [(0,1),(1,1),(2,1),(3,1),(5,1),(6,1),(7,1),(4,0),(8,1),(9,1),(10,2)] [0,1,2,3,5,6,7,8,9] dW mixed rfl cY ?_
   simp only[aB,seval,jH]
   refine dK.pH (w:=1) (l:=[]) (xs:=r.map a7) eV l9 mA rfl (by decide) (.inl ⟨rfl,rfl⟩) rfl (pL r) (by simp only[aW,aE];omega) (fun q1 s1 A1 K1 F1=>?_)
   rw[dI] at A1
   obtain⟨C1,f1,-⟩:=(C0.new 1).grow A1 K1 F1
   have e1:s1 c=some (.cells [.fslice [],.bool false,.fslice [],.fslice [],.bool ac,.slice (ss.p.map aF),.slice (ss.q.map Tm.av),.int .i64 ss.quota,.int .i64 ss.used,.int .i64 ss.sent,.int .i64 ss.fin,.bool td,.fslice []]):=(f1 c (by simp)).trans e0
   have g1:=(f1 b2 (by simp)).trans g0
   obtain⟨z11,z12,z13,z14,z15⟩:=A1.shape
   simp only[aG,e1,z13,z14,z15,aB,seval,jH]
   refine⟨cY,?_⟩
   have C1:=C1.aC (d:=c) (by simp) (.cells [q1,.bool bk,.fslice [],.fslice [],.bool ac,.slice (ss.p.map aF),.slice (ss.q.map Tm.av),.int .i64 ss.quota,.int .i64 ss.used,.int .i64 ss.sent,.int .i64 ss.fin,.bool td,.fslice []])
   have e1:(s1.aC c (.cells [q1,.bool bk,.fslice [],.fslice [],.bool ac,.slice (ss.p.map aF),.slice (ss.q.map Tm.av),.int .i64 ss.quota,.int .i64 ss.used,.int .i64 ss.sent,.int .i64 ss.fin,.bool td,.fslice []])) c=some (.cells [q1,.bool bk,.fslice [],.fslice [],.bool ac,.slice (ss.p.map aF),.slice (ss.q.map Tm.av),.int .i64 ss.quota,.int .i64 ss.used,.int .i64 ss.sent,.int .i64 ss.fin,.bool td,.fslice []]):=aA.aK _ _ _
   have g1:=(aA.aO s1 (.cells [q1,.bool bk,.fslice [],.fslice [],.bool ac,.slice (ss.p.map aF),.slice (ss.q.map Tm.av),.int .i64 ss.quota,.int .i64 ss.used,.int .i64 ss.sent,.int .i64 ss.fin,.bool td,.fslice []]) hne.symm).trans g1
   generalize s1.aC c (.cells [q1,.bool bk,.fslice [],.fslice [],.bool ac,.slice (ss.p.map aF),.slice (ss.q.map Tm.av),.int .i64 ss.quota,.int .i64 ss.used,.int .i64 ss.sent,.int .i64 ss.fin,.bool td,.fslice []])=t1 at *
   refine dK.pH (w:=2) (l:=[]) (xs:=wt.map bC) jQ nJ nK rfl (by decide) (.inl ⟨rfl,rfl⟩) rfl (t5 wt) (by simp only[aW,aE];omega) (fun q2 s2 A2 K2 F2=>?_)
   rw[dI] at A2
   obtain⟨C2,f2,-⟩:=(C1.new 2).grow A2 K2 F2
   have e2:s2 c=some (.cells [q1,.bool bk,.fslice [],.fslice [],.bool ac,.slice (ss.p.map aF),.slice (ss.q.map Tm.av),.int .i64 ss.quota,.int .i64 ss.used,.int .i64 ss.sent,.int .i64 ss.fin,.bool td,.fslice []]):=(f2 c (by simp)).trans e1
   have g2:=(f2 b2 (by simp)).trans g1
   obtain⟨z21,z22,z23,z24,z25⟩:=A2.shape
   simp only[aG,e2,z24,z25,aB,seval,jH]
   have C2:=C2.aC (d:=c) (by simp) (.cells [q1,.bool bk,q2,.fslice [],.bool ac,.slice (ss.p.map aF),.slice (ss.q.map Tm.av),.int .i64 ss.quota,.int .i64 ss.used,.int .i64 ss.sent,.int .i64 ss.fin,.bool td,.fslice []])
   have e2:(s2.aC c (.cells [q1,.bool bk,q2,.fslice [],.bool ac,.slice (ss.p.map aF),.slice (ss.q.map Tm.av),.int .i64 ss.quota,.int .i64 ss.used,.int .i64 ss.sent,.int .i64 ss.fin,.bool td,.fslice []])) c=some (.cells [q1,.bool bk,q2,.fslice [],.bool ac,.slice (ss.p.map aF),.slice (ss.q.map Tm.av),.int .i64 ss.quota,.int .i64 ss.used,.int .i64 ss.sent,.int .i64 ss.fin,.bool td,.fslice []]):=aA.aK _ _ _
   have g2:=(aA.aO s2 (.cells [q1,.bool bk,q2,.fslice [],.bool ac,.slice (ss.p.map aF),.slice (ss.q.map Tm.av),.int .i64 ss.quota,.int .i64 ss.used,.int .i64 ss.sent,.int .i64 ss.fin,.bool td,.fslice []]) hne.symm).trans g2
   generalize s2.aC c (.cells [q1,.bool bk,q2,.fslice [],.bool ac,.slice (ss.p.map aF),.slice (ss.q.map Tm.av),.int .i64 ss.quota,.int .i64 ss.used,.int .i64 ss.sent,.int .i64 ss.fin,.bool td,.fslice []])=t2 at *
   refine dK.pH (w:=2) (l:=[]) (xs:=ou.map bC) jQ nJ nK rfl (by decide) (.inl ⟨rfl,rfl⟩) rfl (t5 ou) (by simp only[aW,aE];omega) (fun q3 s3 A3 K3 F3=>?_)
   rw[dI] at A3
   obtain⟨C3,f3,-⟩:=(C2.new 2).grow A3 K3 F3
   have e3:s3 c=some (.cells [q1,.bool bk,q2,.fslice [],.bool ac,.slice (ss.p.map aF),.slice (ss.q.map Tm.av),.int .i64 ss.quota,.int .i64 ss.used,.int .i64 ss.sent,.int .i64 ss.fin,.bool td,.fslice []]):=(f3 c (by simp)).trans e2
   have g3:=(f3 b2 (by simp)).trans g2
   obtain⟨z31,z32,z33,z34,z35⟩:=A3.shape
   simp only[aG,e3,z34,z35,aB,seval,jH]
   have C3:=C3.aC (d:=c) (by simp) (.cells [q1,.bool bk,q2,.fslice [],.bool ac,.slice (ss.p.map aF),.slice (ss.q.map Tm.av),.int .i64 ss.quota,.int .i64 ss.used,.int .i64 ss.sent,.int .i64 ss.fin,.bool td,q3])
   have e3:(s3.aC c (.cells [q1,.bool bk,q2,.fslice [],.bool ac,.slice (ss.p.map aF),.slice (ss.q.map Tm.av),.int .i64 ss.quota,.int .i64 ss.used,.int .i64 ss.sent,.int .i64 ss.fin,.bool td,q3])) c=some (.cells [q1,.bool bk,q2,.fslice [],.bool ac,.slice (ss.p.map aF),.slice (ss.q.map Tm.av),.int .i64 ss.quota,.int .i64 ss.used,.int .i64 ss.sent,.int .i64 ss.fin,.bool td,q3]):=aA.aK _ _ _
   have g3:=(aA.aO s3 (.cells [q1,.bool bk,q2,.fslice [],.bool ac,.slice (ss.p.map aF),.slice (ss.q.map Tm.av),.int .i64 ss.quota,.int .i64 ss.used,.int .i64 ss.sent,.int .i64 ss.fin,.bool td,q3]) hne.symm).trans g3
   generalize s3.aC c (.cells [q1,.bool bk,q2,.fslice [],.bool ac,.slice (ss.p.map aF),.slice (ss.q.map Tm.av),.int .i64 ss.quota,.int .i64 ss.used,.int .i64 ss.sent,.int .i64 ss.fin,.bool td,q3])=t3 at *
   refine d7 (σ:=AV×aA) [1000000,3] [1,2,3] pr (fun i p=>c9 st p.2 [b2,c] ((5,p.1,(pr.take i).map aF):: [(2,q3,ou.map bC),(2,q2,wt.map bC),(1,q1,r.map a7)])∧p.2 c=some (.cells [q1,.bool bk,q2,p.1,.bool ac,.slice (ss.p.map aF),.slice (ss.q.map Tm.av),.int .i64 ss.quota,.int .i64 ss.used,.int .i64 ss.sent,.int .i64 ss.fin,.bool td,q3])∧p.2 b2=some (.cells [.fslice [],.bool false,.fslice [],.fslice [],.bool false,.fslice [],.fslice [],.int .i64 0,.int .i64 0,.int .i64 0,.int .i64 0,.bool false,.fslice []])) (fun i _=>[(4,.int .i64 i)]) (fun _ p=>p.2) (by decide +kernel)
    ⟨(.fslice [],t3),⟨C3.new 5,e3,g3⟩,aP.mk (by simp only[aB,↓a9,seval])⟩ (fun i x p hx hlt bN hdr hinv=>?_) (fun p hge hinv=>?_)
   case refine_2=>
    obtain⟨q4,s4⟩:=p
    obtain⟨C4,e4,g4⟩:=hinv
    simp only at C4 e4 g4
    rw[dR] at C4
    obtain⟨z41,z42,z43,z44,z45⟩:=(C4.acc _ (iZ ..)).shape
    have lF:∀s5:aA,c9 st s5 [b2,c] [(5,q4,pr.map aF),(2,q3,ou.map bC),(2,q2,wt.map bC),(1,q1,r.map a7)]→Told s5 st (.agg [bT r,.bool bk,bA wt,.slice (pr.map aF),.bool ac,.slice (ss.p.map aF),.slice (ss.q.map Tm.av),.int .i64 ss.quota,.int .i64 ss.used,.int .i64 ss.sent,.int .i64 ss.fin,.bool td,bA ou]) (.agg [q1,.bool bk,q2,q4,.bool ac,.slice (ss.p.map aF),.slice (ss.q.map Tm.av),.int .i64 ss.quota,.int .i64 ss.used,.int .i64 ss.sent,.int .i64 ss.fin,.bool td,q3]):=fun s5 D=>by
     have T:∀h,bL h s5 h st:=fun h=>D.j7.step h
     have S:∀ {a:AV},a.bO=false→Told s5 st a a:=fun h=>Told.same T h
     have t1:=D.told (p:=(1,q1,r.map a7)) (by simp) (oL r) (l7 r)
     have t2:=D.told (p:=(2,q2,wt.map bC)) (by simp) (mC wt) (kP wt)
     have t3:=D.told (p:=(2,q3,ou.map bC)) (by simp) (mC ou) (kP ou)
     have t4:=D.told (p:=(5,q4,pr.map aF)) (by simp) (G9 pr) (z9 pr)
     exact Told.agg (.cons t1 (.cons (S rfl) (.cons t2 (.cons t4 (.cons (S rfl) (.cons (S rfl) (.cons (S rfl) (.cons (S rfl) (.cons (S rfl) (.cons (S rfl) (.cons (S rfl) (.cons (S rfl) (.cons t3 .nil)))))))))))))
    simp only[hge,aG,aE,e4,g4,z15,z25,z35,z45,aB,seval,jH]
    exact⟨_,st,(C4.aC (by simp) _).j7,lF _ (C4.aC (by simp) _),rfl,rfl⟩
   obtain⟨q4,s4⟩:=p
   obtain⟨C4,e4,g4⟩:=hinv
   simp only at C4 e4 g4
   have A4:=C4.acc _ (iZ ..)
   obtain⟨z41,z42,z43,z44,z45⟩:=A4.shape
   have hw:=bH (n:=(i:Int)+1)
   have cS:((pr.take i).map aF).length=i:=by simp only[aE,dE];omega
   have htk:(pr.take (i+1)).map aF=(pr.take i).map aF++ [aF x]:=by rw[eD,hx];simp
   obtain⟨x1,x2,x3⟩:=k5 x (cQ hx)
   have hat:=bR (av:=aF) oN hx (jC x)
   simp only[bN,aE,aB,seval,jH]
   refine wP [(0,1),(2,1),(4,1),(1,2),(3,2),(5,1),(6,2),(7,2),(8,1),(9,0),(10,1),(11,0)] [0,2,4,1,3,5,6,7,8,10] mixed ?_
   simp only[e4,z41,hat,rY,jC,aB,seval,jH]
   refine iK (z4 x x1 x2 x3 _) ?_
   simp only[rY,jC,D0,aB,seval,jH]
   refine dK.append (w:=5) oN D1 D5 rfl (by decide) A4 (jC x) (G8 x) (by rw[cS];omega) (fun q5 s5 A5 K5 F5=>?_)
   rw[←htk] at A5
   obtain⟨C5,f5,-⟩:=C4.grow A5 K5 F5
   have e5:=(f5 c (by simp)).trans e4
   have g5:=(f5 b2 (by simp)).trans g4
   obtain⟨z51,z52,z53,z54,z55⟩:=A5.shape
   simp only[aG,e5,z54,z55,hw,aB,seval,jH]
   exact⟨(q5,s5.aC c (.cells [q1,.bool bk,q2,q5,.bool ac,.slice (ss.p.map aF),.slice (ss.q.map Tm.av),.int .i64 ss.quota,.int .i64 ss.used,.int .i64 ss.sent,.int .i64 ss.fin,.bool td,q3])),⟨C5.aC (by simp) _,aA.aK _ _ _,(aA.aO _ _ hne.symm).trans g5⟩,aP.mk (by simp only[aB,seval])⟩
abbrev B1:=zi aX (zi uT (zi p7 p8))
theorem RD(s:Sv)(hlen:s.cs.length≤1048576)(hb:∀c∈s.cs,xA c)(st:aA):aD prog 181 [fZ s] st (fun r st'=>∃q,r=.agg [q,.int .i64 s.quota]∧J6 st 13 q (s.cs.map bV) st'):=by
 obtain⟨cs,qu⟩:=s
 simp only at hb hlen
 simp only[fZ]
 refine aD.pN ?_
 refine wF [1000000,3] 1 func181 ntmps181 rfl rfl ?_
 intro _
 simp only[aG,aB,↓a9,seval,B1]
 intro b2 hb2 c hc
 have hne:c≠b2:=by rintro rfl;rw[aA.aK] at hc;cases hc
 have C0:c9 st ((st.aC b2 (.cells [.fslice [],.int .i64 0])).aC c (.cells [.fslice [],.int .i64 qu])) [b2,c] []:=EW hb2 hc
 have e0:((st.aC b2 (.cells [.fslice [],.int .i64 0])).aC c (.cells [.fslice [],.int .i64 qu])) c=some (.cells [.fslice [],.int .i64 qu]):=aA.aK _ _ _
 have g0:((st.aC b2 (.cells [.fslice [],.int .i64 0])).aC c (.cells [.fslice [],.int .i64 qu])) b2=some (.cells [.fslice [],.int .i64 0]):=by rw[aA.aO _ _ hne.symm,aA.aK]
 generalize (st.aC b2 (.cells [.fslice [],.int .i64 0])).aC c (.cells [.fslice [],.int .i64 qu])=s0 at *
 refine d7 (σ:=AV×aA) [1000000,3] [1,2,3] cs (fun i p=>c9 st p.2 [b2,c] [(13,p.1,(cs.take i).map bV)]∧p.2 c=some (.cells [p.1,.int .i64 qu])∧p.2 b2=some (.cells [.fslice [],.int .i64 0])) (fun i _=>[(4,.int .i64 i)]) (fun _ p=>p.2) (by decide +kernel)
  ⟨(.fslice [],s0),⟨C0.new 13,e0,g0⟩,aP.mk (by simp only[aB,↓a9,seval])⟩ (fun i x p hx hlt bN hdr hinv=>?_) (fun p hge hinv=>?_)
 case refine_2=>
  obtain⟨q4,s4⟩:=p
  obtain⟨C4,e4,g4⟩:=hinv
  simp only at C4 e4 g4
  rw[dR] at C4
  obtain⟨z41,z42,z43,z44,z45⟩:=(C4.acc _ (iZ ..)).shape
  simp only[hge,aG,aE,e4,g4,z45,aB,seval,B1]
  obtain⟨s2,d2,G⟩:=(C4.aC (d:=b2) (by simp) (.cells [q4,.int .i64 qu])).aSQ
  exact⟨s2,d2,q4,rfl,G⟩
 obtain⟨q4,s4⟩:=p
 obtain⟨C4,e4,g4⟩:=hinv
 simp only at C4 e4 g4
 have A4:=C4.acc _ (iZ ..)
 obtain⟨z41,z42,z43,z44,z45⟩:=A4.shape
 have hw:=bH (n:=(i:Int)+1)
 have cS:((cs.take i).map bV).length=i:=by simp only[aE,dE];omega
 have htk:(cs.take (i+1)).map bV=(cs.take i).map bV++ [bV x]:=by rw[eD,hx];simp
 have hxs:=hb x (cQ hx)
 have hat:=bR (av:=bV) vK hx (vI x)
 simp only[bN,aE,aB,seval,B1]
 refine wP [(0,1),(2,1),(4,1),(1,2),(3,2),(5,1),(6,2),(7,2),(8,1),(9,0),(10,1),(11,0)] [0,2,4,1,3,5,6,7,8,10] mixed ?_
 simp only[e4,z41,hat,LV,vI,aB,seval,B1]
 refine iK (aM0 x hxs _) ?_
 simp only[LV,vI,aO9,aB,seval,B1]
 refine dK.append (w:=13) vK S4 S8 rfl (by decide) A4 (vI x) (SR x) (by rw[cS];omega) (fun q5 s5 A5 K5 F5=>?_)
 rw[←htk] at A5
 obtain⟨C5,f5,-⟩:=C4.grow A5 K5 F5
 have e5:=(f5 c (by simp)).trans e4
 have g5:=(f5 b2 (by simp)).trans g4
 obtain⟨z51,z52,z53,z54,z55⟩:=A5.shape
 simp only[aG,e5,z54,z55,hw,aB,seval,B1]
 exact⟨(q5,s5.aC c (.cells [q5,.int .i64 qu])),⟨C5.aC (by simp) _,aA.aK _ _ _,(aA.aO _ _ hne.symm).trans g5⟩,aP.mk (by simp only[aB,seval])⟩
abbrev sL:=zi aX (zi cD (zi f0 (zi uT (zi p7 (zi kU (zi uV p8))))))
set_option maxHeartbeats 1000000 in
theorem aOL(s:Sv)(k:Int)(x:List Bt)(st:aA)(h0:s.cs.length≤1048576)(hb:∀c∈s.cs,c.rest.length≤2000000∧xA c)(hx:x.length≤1048576):aD prog 144 [fZ s,.int .i64 k,bT x] st (fun r st'=>r=fZ (tV s k x)∧st'=st):=by
 have hcp:=fun st=>RD s h0 (fun c hc=>(hb c hc).2) st
 have his:=fun st=>RF s k st
 have hri:=fun st=>RH s st
 have hno:=fun h=>aR4 (s:=s) (k:=k) (x:=x) h
 have A0:=fun n c hc h=>aR5 (s:=s) (k:=n) (x:=x) (c:=c) hc h
 obtain⟨cs,qu⟩:=s
 simp only at hb A0 h0
 simp only[fZ] at hcp his hri
 generalize hok:q7 ⟨cs,qu⟩=ok at *
 simp only[] at hno
 unfold fZ
 refine aD.told ?_
 refine wF [1000000,7,8] 3 func144 ntmps144 rfl rfl ?_
 intro _
 simp only[aB,seval,sL]
 intro b6 h6
 refine(hcp _).mono ?_
 rintro _ s1 ⟨q,rfl,G⟩
 obtain⟨C1,f1,-⟩:=(c9.one h6 _).aFY G
 have e6:=(f1 b6 (by simp)).trans (aA.aK _ _ _)
 have A1:dK s1 13 q (cs.map bV):=C1.acc _ (iZ ..)
 obtain⟨z11,z12,z13,z14,z15⟩:=A1.shape
 simp only[aG,z15,aB,↓a9,seval,sL]
 intro b7 h7
 have C2:=C1.more h7 (.cells [q,.int .i64 qu])
 have e7:(s1.aC b7 (.cells [q,.int .i64 qu])) b7=some (.cells [q,.int .i64 qu]):=aA.aK _ _ _
 have n76:b6≠b7:=by rintro rfl;rw[e6] at h7;cases h7
 have e6':=(aA.aO s1 (.cells [q,.int .i64 qu]) n76).trans e6
 generalize s1.aC b7 (.cells [q,.int .i64 qu])=s2 at *
 have aEQ:∀s5:aA,c9 st s5 [b7,b6] [(13,q,cs.map bV)]→Told s5 st (.agg [.slice (cs.map bV),.int .i64 qu]) (.agg [q,.int .i64 qu]):=fun s5 D=>
  Told.agg (.cons (D.told (p:=(13,q,cs.map bV)) (by simp) (HC cs) (AA cs)) (.cons (Told.same (fun h=>D.j7.step h) rfl) .nil))
 refine(his _).to ?_
 cases hI:(decide (0≤k)&&decide (k<(cs.length:Int))) with
 | false=>
  simp only[fM,aG,e6',e7,z15,aB,seval,sL]
  rw[hno (by rw[hI];simp)]
  exact⟨_,st,(C2.aC (by simp) _).j7,aEQ _ (C2.aC (by simp) _),rfl,rfl⟩
 | true=>
  simp only[fA,aB,seval,sL]
  refine(hri _).to ?_
  cases ok with
  | false=>
   simp only[fM,aG,e6',e7,z15,aB,seval,sL]
   rw[hno (by simp)]
   exact⟨_,st,(C2.aC (by simp) _).j7,aEQ _ (C2.aC (by simp) _),rfl,rfl⟩
  | true=>
   simp only[bG,bK] at hI
   obtain⟨n,rfl⟩:∃n:Nat,k=n:=⟨k.toNat,by omega⟩
   obtain⟨c,hc⟩:∃c,cs[n]?=some c:=⟨_,d4 (by omega)⟩
   rw[A0 n c hc rfl]
   obtain⟨hrl,hcz⟩:=hb c (cQ hc)
   obtain⟨b,X,hq,hqb,eb,hA⟩:=dK.split (w:=13) (q:=q) (l:=cs.map bV) (C2.acc _ (iZ ..)) (AA cs) (k:=n) (e:=bV c) (by rw[mI,hc];try rfl)
   subst hq
   rw[aE] at *
   have hat:=AT (P:=prog) (b:=b) (len:=cs.length) (w:=13) (i:=n) vK (by omega)
   have hfb:=aDV c.rest c.brk x
   have hfd:=fun st=>aOK c.rest c.brk x st (by omega)
   have hfc:xD c x= { c with rest:=(iE c.rest c.brk x).1.1,brk:=(iE c.rest c.brk x).1.2,wait:=c.wait++(iE c.rest c.brk x).2 }:=rfl
   rw[hfc]
   have hwl:=hcz.2.1
   generalize iE c.rest c.brk x=T at *
   obtain⟨⟨r',bk'⟩,l'⟩:=T
   simp only[mH] at hfd hfb ⊢
   have vO:∀y:dT,(cs.set n y).map bV=(cs.map bV).take n++bV y::(cs.map bV).drop (n+1):=fun y=>by
    rw[List.map_set,GC,aN (by rw[aE];omega)]
   have jA:∀e∈(cs.map bV).take n,e.bO=false:=fun e he=>HC cs e (mJ he)
   have jB:∀e∈(cs.map bV).drop (n+1),e.bO=false:=fun e he=>HC cs e (List.mem_of_mem_drop he)
   have aET:∀y:dT,((cs.set n y).map bV).length=cs.length:=fun y=>by rw[aE,List.length_set]
   obtain⟨r,bk,wt,pr,ac,ss,td,ou⟩:=c
   simp only[jO] at hfd hfb hwl hrl vO aET ⊢
   replace eb:s2 b=some (.cells (((cs.map bV).take n).flatMap AV.cells++ [bT r,.bool bk,bA wt,.slice (pr.map aF),.bool ac,.slice (ss.p.map aF),.slice (ss.q.map Tm.av),.int .i64 ss.quota,.int .i64 ss.used,.int .i64 ss.sent,.int .i64 ss.fin,.bool td,bA ou]++(((cs.map bV).drop (n+1)).flatMap AV.cells++X))):=eb
   have hAB:∀C':List AV,(((cs.map bV).take n)++ .agg C'::((cs.map bV).drop (n+1))).flatMap AV.cells++X=((cs.map bV).take n).flatMap AV.cells++C'++(((cs.map bV).drop (n+1)).flatMap AV.cells++X):=fun C'=>by simp [AV.cells]
   generalize hLA:((cs.map bV).take n).flatMap AV.cells=A at *
   generalize hLB:((cs.map bV).drop (n+1)).flatMap AV.cells++X=B at *
   have p3:∀C':List AV,C'.length=13→(aG (A++ [bT r,.bool bk,bA wt,.slice (pr.map aF),.bool ac,.slice (ss.p.map aF),.slice (ss.q.map Tm.av),.int .i64 ss.quota,.int .i64 ss.used,.int .i64 ss.sent,.int .i64 ss.fin,.bool td,bA ou]++B) (n*13) C'=A++C'++B∧n*13+13≤(A++ [bT r,.bool bk,bA wt,.slice (pr.map aF),.bool ac,.slice (ss.p.map aF),.slice (ss.q.map Tm.av),.int .i64 ss.quota,.int .i64 ss.used,.int .i64 ss.sent,.int .i64 ss.fin,.bool td,bA ou]++B).length):=fun C' h=>NO hA rfl h
   have p2:=(p3 [bT r,.bool bk,bA wt,.slice (pr.map aF),.bool ac,.slice (ss.p.map aF),.slice (ss.q.map Tm.av),.int .i64 ss.quota,.int .i64 ss.used,.int .i64 ss.sent,.int .i64 ss.fin,.bool td,bA ou] rfl).2
   have p4:((A++ [bT r,.bool bk,bA wt,.slice (pr.map aF),.bool ac,.slice (ss.p.map aF),.slice (ss.q.map Tm.av),.int .i64 ss.quota,.int .i64 ss.used,.int .i64 ss.sent,.int .i64 ss.fin,.bool td,bA ou]++B).drop (n*13)).take 13= [bT r,.bool bk,bA wt,.slice (pr.map aF),.bool ac,.slice (ss.p.map aF),.slice (ss.q.map Tm.av),.int .i64 ss.quota,.int .i64 ss.used,.int .i64 ss.sent,.int .i64 ss.fin,.bool td,bA ou]:=by rw[qE,List.drop_left' hA];try rfl
   have nb7:b≠b7:=fun e=>(C2.fresh _ (iZ ..) b (by simp [cP])).2 (by simp [e])
   have nb6:b≠b6:=fun e=>(C2.fresh _ (iZ ..) b (by simp [cP])).2 (by simp [e])
   have H6:st b=none:=(C2.fresh _ (iZ ..) b (by simp [cP])).1
   simp only[fA,aG,e7,z11,hat,eb,p2,p4,aB,↓a9,seval,sL]
   intro b8 h8
   have C3:=C2.more h8 (.cells [bT r,.bool bk,bA wt,.slice (pr.map aF),.bool ac,.slice (ss.p.map aF),.slice (ss.q.map Tm.av),.int .i64 ss.quota,.int .i64 ss.used,.int .i64 ss.sent,.int .i64 ss.fin,.bool td,bA ou])
   have m6:b6≠b8:=by rintro rfl;rw[e6'] at h8;cases h8
   have m7:b7≠b8:=by rintro rfl;rw[e7] at h8;cases h8
   have mb:b≠b8:=by rintro rfl;rw[eb] at h8;cases h8
   have e63:=(aA.aO s2 (.cells [bT r,.bool bk,bA wt,.slice (pr.map aF),.bool ac,.slice (ss.p.map aF),.slice (ss.q.map Tm.av),.int .i64 ss.quota,.int .i64 ss.used,.int .i64 ss.sent,.int .i64 ss.fin,.bool td,bA ou]) m6).trans e6'
   have e73:=(aA.aO s2 (.cells [bT r,.bool bk,bA wt,.slice (pr.map aF),.bool ac,.slice (ss.p.map aF),.slice (ss.q.map Tm.av),.int .i64 ss.quota,.int .i64 ss.used,.int .i64 ss.sent,.int .i64 ss.fin,.bool td,bA ou]) m7).trans e7
   have eb3:=(aA.aO s2 (.cells [bT r,.bool bk,bA wt,.slice (pr.map aF),.bool ac,.slice (ss.p.map aF),.slice (ss.q.map Tm.av),.int .i64 ss.quota,.int .i64 ss.used,.int .i64 ss.sent,.int .i64 ss.fin,.bool td,bA ou]) mb).trans eb
   have e83:(s2.aC b8 (.cells [bT r,.bool bk,bA wt,.slice (pr.map aF),.bool ac,.slice (ss.p.map aF),.slice (ss.q.map Tm.av),.int .i64 ss.quota,.int .i64 ss.used,.int .i64 ss.sent,.int .i64 ss.fin,.bool td,bA ou])) b8=some (.cells [bT r,.bool bk,bA wt,.slice (pr.map aF),.bool ac,.slice (ss.p.map aF),.slice (ss.q.map Tm.av),.int .i64 ss.quota,.int .i64 ss.used,.int .i64 ss.sent,.int .i64 ss.fin,.bool td,bA ou]):=aA.aK _ _ _
   generalize s2.aC b8 (.cells [bT r,.bool bk,bA wt,.slice (pr.map aF),.bool ac,.slice (ss.p.map aF),.slice (ss.q.map Tm.av),.int .i64 ss.quota,.int .i64 ss.used,.int .i64 ss.sent,.int .i64 ss.fin,.bool td,bA ou])=s3 at *
   refine(hfd _).to ?_
   simp only[aG,e83,aB,↓a9,seval,sL]
   have C4:=C3.aC (d:=b8) (by simp) (.cells [bT r',.bool bk',bA wt,.slice (pr.map aF),.bool ac,.slice (ss.p.map aF),.slice (ss.q.map Tm.av),.int .i64 ss.quota,.int .i64 ss.used,.int .i64 ss.sent,.int .i64 ss.fin,.bool td,bA ou])
   have e64:=(aA.aO s3 (.cells [bT r',.bool bk',bA wt,.slice (pr.map aF),.bool ac,.slice (ss.p.map aF),.slice (ss.q.map Tm.av),.int .i64 ss.quota,.int .i64 ss.used,.int .i64 ss.sent,.int .i64 ss.fin,.bool td,bA ou]) m6).trans e63
   have e74:=(aA.aO s3 (.cells [bT r',.bool bk',bA wt,.slice (pr.map aF),.bool ac,.slice (ss.p.map aF),.slice (ss.q.map Tm.av),.int .i64 ss.quota,.int .i64 ss.used,.int .i64 ss.sent,.int .i64 ss.fin,.bool td,bA ou]) m7).trans e73
   have eb4:=(aA.aO s3 (.cells [bT r',.bool bk',bA wt,.slice (pr.map aF),.bool ac,.slice (ss.p.map aF),.slice (ss.q.map Tm.av),.int .i64 ss.quota,.int .i64 ss.used,.int .i64 ss.sent,.int .i64 ss.fin,.bool td,bA ou]) mb).trans eb3
   have e84:(s3.aC b8 (.cells [bT r',.bool bk',bA wt,.slice (pr.map aF),.bool ac,.slice (ss.p.map aF),.slice (ss.q.map Tm.av),.int .i64 ss.quota,.int .i64 ss.used,.int .i64 ss.sent,.int .i64 ss.fin,.bool td,bA ou])) b8=some (.cells [bT r',.bool bk',bA wt,.slice (pr.map aF),.bool ac,.slice (ss.p.map aF),.slice (ss.q.map Tm.av),.int .i64 ss.quota,.int .i64 ss.used,.int .i64 ss.sent,.int .i64 ss.fin,.bool td,bA ou]):=aA.aK _ _ _
   generalize s3.aC b8 (.cells [bT r',.bool bk',bA wt,.slice (pr.map aF),.bool ac,.slice (ss.p.map aF),.slice (ss.q.map Tm.av),.int .i64 ss.quota,.int .i64 ss.used,.int .i64 ss.sent,.int .i64 ss.fin,.bool td,bA ou])=s4 at *
   refine dK.pH (w:=2) (l:=[]) (xs:=wt.map bC) jQ nJ nK rfl (by decide) (.inl ⟨rfl,rfl⟩) rfl (t5 wt) (by simp only[aW,aE];omega) (fun q5 s5 A5 K5 F5=>?_)
   rw[dI] at A5
   obtain⟨C5,f5,k5⟩:=(C4.new 2).grow A5 K5 F5
   have e65:=(f5 b6 (by simp)).trans e64
   have e75:=(f5 b7 (by simp)).trans e74
   have e85:=(f5 b8 (by simp)).trans e84
   have eb5:=(k5 _ (iZ ..) b (by simp [cP])).trans eb4
   obtain⟨z51,z52,z53,z54,z55⟩:=A5.shape
   simp only[aB,seval]
   refine dK.pH (w:=2) (l:=wt.map bC) (xs:=l'.map bC) jQ nJ nK rfl (by decide) A5 rfl (t5 l') (by simp only[aE];omega) (fun q6 s6 A6 K6 F6=>?_)
   rw[←pA] at A6
   obtain⟨C6,f6,k6⟩:=C5.grow A6 K6 F6
   have e66:=(f6 b6 (by simp)).trans e65
   have e76:=(f6 b7 (by simp)).trans e75
   have e86:=(f6 b8 (by simp)).trans e85
   have eb6:=(k6 _ (iZ ..) b (by simp [cP])).trans eb5
   obtain⟨z61,z62,z63,z64,z65⟩:=A6.shape
   simp only[aG,e86,z64,z65,aB,seval,sL]
   have C7:=C6.aC (d:=b8) (by simp) (.cells [bT r',.bool bk',q6,.slice (pr.map aF),.bool ac,.slice (ss.p.map aF),.slice (ss.q.map Tm.av),.int .i64 ss.quota,.int .i64 ss.used,.int .i64 ss.sent,.int .i64 ss.fin,.bool td,bA ou])
   have e67:=(aA.aO s6 (.cells [bT r',.bool bk',q6,.slice (pr.map aF),.bool ac,.slice (ss.p.map aF),.slice (ss.q.map Tm.av),.int .i64 ss.quota,.int .i64 ss.used,.int .i64 ss.sent,.int .i64 ss.fin,.bool td,bA ou]) m6).trans e66
   have e77:=(aA.aO s6 (.cells [bT r',.bool bk',q6,.slice (pr.map aF),.bool ac,.slice (ss.p.map aF),.slice (ss.q.map Tm.av),.int .i64 ss.quota,.int .i64 ss.used,.int .i64 ss.sent,.int .i64 ss.fin,.bool td,bA ou]) m7).trans e76
   have eb7:=(aA.aO s6 (.cells [bT r',.bool bk',q6,.slice (pr.map aF),.bool ac,.slice (ss.p.map aF),.slice (ss.q.map Tm.av),.int .i64 ss.quota,.int .i64 ss.used,.int .i64 ss.sent,.int .i64 ss.fin,.bool td,bA ou]) mb).trans eb6
   have e87:(s6.aC b8 (.cells [bT r',.bool bk',q6,.slice (pr.map aF),.bool ac,.slice (ss.p.map aF),.slice (ss.q.map Tm.av),.int .i64 ss.quota,.int .i64 ss.used,.int .i64 ss.sent,.int .i64 ss.fin,.bool td,bA ou])) b8=some (.cells [bT r',.bool bk',q6,.slice (pr.map aF),.bool ac,.slice (ss.p.map aF),.slice (ss.q.map Tm.av),.int .i64 ss.quota,.int .i64 ss.used,.int .i64 ss.sent,.int .i64 ss.fin,.bool td,bA ou]):=aA.aK _ _ _
   generalize s6.aC b8 (.cells [bT r',.bool bk',q6,.slice (pr.map aF),.bool ac,.slice (ss.p.map aF),.slice (ss.q.map Tm.av),.int .i64 ss.quota,.int .i64 ss.used,.int .i64 ss.sent,.int .i64 ss.fin,.bool td,bA ou])=s7 at *
   have p5:=(p3 [bT r',.bool bk',q6,.slice (pr.map aF),.bool ac,.slice (ss.p.map aF),.slice (ss.q.map Tm.av),.int .i64 ss.quota,.int .i64 ss.used,.int .i64 ss.sent,.int .i64 ss.fin,.bool td,bA ou] rfl).1
   have p6:=(p3 [bT r',.bool bk',q6,.slice (pr.map aF),.bool ac,.slice (ss.p.map aF),.slice (ss.q.map Tm.av),.int .i64 ss.quota,.int .i64 ss.used,.int .i64 ss.sent,.int .i64 ss.fin,.bool td,bA ou] rfl).2
   simp only[e77,eb7,e87,z65,hat,p5,p6,aB,seval,sL]
   have D7:aJ (s7.aC b (.cells (A++ [bT r',.bool bk',q6,.slice (pr.map aF),.bool ac,.slice (ss.p.map aF),.slice (ss.q.map Tm.av),.int .i64 ss.quota,.int .i64 ss.used,.int .i64 ss.sent,.int .i64 ss.fin,.bool td,bA ou]++B))) st:=C7.j7.aC H6
   have e68:=(aA.aO s7 (.cells (A++ [bT r',.bool bk',q6,.slice (pr.map aF),.bool ac,.slice (ss.p.map aF),.slice (ss.q.map Tm.av),.int .i64 ss.quota,.int .i64 ss.used,.int .i64 ss.sent,.int .i64 ss.fin,.bool td,bA ou]++B)) nb6.symm).trans e67
   have e78:=(aA.aO s7 (.cells (A++ [bT r',.bool bk',q6,.slice (pr.map aF),.bool ac,.slice (ss.p.map aF),.slice (ss.q.map Tm.av),.int .i64 ss.quota,.int .i64 ss.used,.int .i64 ss.sent,.int .i64 ss.fin,.bool td,bA ou]++B)) nb7.symm).trans e77
   generalize hs8:s7.aC b (.cells (A++ [bT r',.bool bk',q6,.slice (pr.map aF),.bool ac,.slice (ss.p.map aF),.slice (ss.q.map Tm.av),.int .i64 ss.quota,.int .i64 ss.used,.int .i64 ss.sent,.int .i64 ss.fin,.bool td,bA ou]++B))=s8 at *
   have eb8:s8 b=some (.cells (A++ [bT r',.bool bk',q6,.slice (pr.map aF),.bool ac,.slice (ss.p.map aF),.slice (ss.q.map Tm.av),.int .i64 ss.quota,.int .i64 ss.used,.int .i64 ss.sent,.int .i64 ss.fin,.bool td,bA ou]++B)):=by rw[←hs8];exact aA.aK _ _ _
   have k8:∀y,y≠b→s8 y=s7 y:=fun y hy=>by rw[←hs8];exact aA.aO _ _ hy
   simp only[e68,e78,aG,aB,seval,sL]
   have D9:∀o,aJ (s8.aC b6 o) st:=fun o=>D7.aC h6
   refine⟨_,st,D9 _,?_,rfl,rfl⟩
   have T:=fun h=>(D9 (.cells [.mslice b 0 cs.length 13,.int .i64 qu])).step h
   have hq6:∀y∈cP q6,st y=none∧y≠b∧y≠b6:=fun y hy=>by
    obtain⟨h1,h2⟩:=C7.fresh (2,q6,(wt++l').map bC) (by simp) y hy
    have h3:=(CS.1 C7.apart).1 _ (iZ ..) y hy
    simp only[cP,cT,dF,dS,not_or] at h2 h3
    exact⟨h1,h3,h2.2.2⟩
   have A9:dK (s8.aC b6 (.cells [.mslice b 0 cs.length 13,.int .i64 qu])) 2 q6 ((wt++l').map bC):=(C7.acc (2,q6,(wt++l').map bC) (by simp)).bJ fun y hy=>by
    obtain⟨h1,h2,h3⟩:=hq6 y hy
    rw[aA.aO _ _ h3,k8 y h2]
   have S:∀ {a:AV},a.bO=false→Told (s8.aC b6 (.cells [.mslice b 0 cs.length 13,.int .i64 qu])) st a a:=fun h=>Told.same T h
   have tq:=Told.acc (D9 _) A9 (fun y hy=>(hq6 y hy).1) (mC _) (kP _)
   refine Told.agg (.cons (Told.QZ (os:=((cs.map bV).take n)++ .agg [bT r',.bool bk',q6,.slice (pr.map aF),.bool ac,.slice (ss.p.map aF),.slice (ss.q.map Tm.av),.int .i64 ss.quota,.int .i64 ss.used,.int .i64 ss.sent,.int .i64 ss.fin,.bool td,bA ou]::((cs.map bV).drop (n+1))) (X:=X) ?_ H6 ?_ (AA _) (aET _)) (.cons (S rfl) .nil))
   · rw[aA.aO _ _ nb6,eb8,hAB]
   · rw[vO]
     refine dA.append (dA.same T jA) (.cons ?_ (dA.same T jB))
     exact Told.agg (.cons (S rfl) (.cons (S rfl) (.cons tq (.cons (S rfl) (.cons (S rfl) (.cons (S rfl) (.cons (S rfl) (.cons (S rfl) (.cons (S rfl) (.cons (S rfl) (.cons (S rfl) (.cons (S rfl) (.cons (S rfl) .nil)))))))))))))

abbrev yJ:=zi aX (zi cG (zi cI (zi kT (zi cK CB))))
set_option maxHeartbeats 1000000 in
theorem aOF(V:List Int)(a:List Tm)(hal:a.length=V.length)(hva:∀x∈a,x.valid=true)(aTQ:∀v∈V,0≤v∧v<26)(hvl:V.length≤26)(st:aA):aD prog 256 [.slice (V.map iv),eQ a] st (fun r st'=>r=.str (GS V a)∧st'=st):=by
 have hzl:(V.zip a).length=V.length:=by rw[List.length_zip,hal,Nat.min_self]
 have hsz:∀i,(nQ 59 (((V.zip a).take i).map fun p=>mN p.1 p.2)).size≤100000:=fun i=>by
  have:=aT8 (c:=59) (l:=((V.zip a).take i).map fun p=>mN p.1 p.2) (B:=3842) fun x hx=>by
   obtain⟨p,hp,rfl⟩:=cL.1 hx
   exact(aL1 (hva _ (List.of_mem_zip (mJ hp)).2)).1
  refine lL this (lL (u9 _ (show _≤26 by rw[aE,dE];omega)) (by decide))
 have hm:maxLen=9223372036854775807:=by rfl
 refine wF [1000000] 2 func256 ntmps256 rfl rfl ?_
 intro _
 unfold GS
 by_cases hV:V= []
 · rw[aN hV]
   have h0:=bP (show(V.length:Int)=0 by rw[hV];try rfl)
   simp only[h0,aV,aE,aB,seval,yJ]
 rw[aH hV]
 have h0:=bB (show ¬(V.length:Int)=0 from fun e=>hV (List.length_eq_zero_iff.1 (by omega)))
 simp only[h0,a8,aE,aB,seval,yJ]
 refine d7 (σ:=Unit) [1000000] [0,3,4] (V.zip a) (fun _ _=>True) (fun i _=>[(5,.str (nQ 59 (((V.zip a).take i).map fun p=>mN p.1 p.2))),(6,.int .i64 (i:Int))]) (fun _ _=>st) (by decide +kernel) ⟨(),trivial,aP.mk (by simp only[mK,bD,nQ,aB,↓a9,seval])⟩ (fun i x _ hx hlt bN hdr _=>?_) (fun _ hge _=>?_)
 case refine_2=>
  rw[dR,hzl]
  have hg:=bB (Int.lt_irrefl (V.length:Int))
  simp only[hg,a8,aE,aB,seval,yJ]
 obtain⟨v,x⟩:=x
 obtain⟨hv,hxa⟩:=List.getElem?_zip_eq_some.1 hx
 simp only at hv hxa
 have gC:nQ 59 (((V.zip a).take (i+1)).map fun p=>mN p.1 p.2)=(if 0<i then nQ 59 (((V.zip a).take i).map fun p=>mN p.1 p.2)++⟨#[59]⟩ else nQ 59 (((V.zip a).take i).map fun p=>mN p.1 p.2))++mN v x:=by
  rw[eD,hx]
  by_cases hi:0<i
  · rw[aN hi,pA]
    exact aT9 fun e=>by
     have:=qP List.length e
     rw[aE,dE,aW] at this
     omega
  · obtain rfl:i=0:=by omega
    rw[aH hi]
    exact(aLX _).symm
 have hs:=hsz i
 have hvv:=aTQ v (cQ hv)
 obtain⟨m,rfl⟩:=uY hvv.1
 have hxv:=hva x (cQ hxa)
 have hxs:=(aJE hxv).1
 have hcw:=fun st=>LH 1000 x st ⟨30,by simp only[Tm.valid,bG] at hxv;exact hxv.1⟩ (by have:=Tm.qA hxv;omega) (by have:=Tm.qA hxv;omega)
 rw[show mN m x=(sF m++⟨#[61]⟩)++tx 1000 x from rfl,←QV,←QV] at gC
 have hwi:=bH (n:=(i:Int)+1)
 have hi:=bP (show(i:Int)<(V.length:Int) by omega)
 have aSX:dP prog 28 (.slice (V.map iv)) (.int .i64 (i:Int))=some (.pptr (iv m)):=bR (av:=iv) pO hv rfl
 have aSV:dP prog 25 (.slice (a.map Tm.av)) (.int .i64 (i:Int))=some (.pptr x.av):=bR (av:=Tm.av) cF hxa (aQ x)
 generalize tx 1000 x=X at *
 generalize nQ 59 (((V.zip a).take (i+1)).map fun p=>mN p.1 p.2)=J' at *
 generalize nQ 59 (((V.zip a).take i).map fun p=>mN p.1 p.2)=J at *
 have hs0:J.size+(⟨#[59]⟩:ByteArray).size≤maxLen:=by show _+1≤_;omega
 have key:∀O:ByteArray,O.size≤100001→O.size+(sF m).size≤maxLen∧(O++sF m).size+(⟨#[61]⟩:ByteArray).size≤maxLen∧((O++sF m)++(⟨#[61]⟩:ByteArray)).size+X.size≤maxLen:=fun O hO=>by
  refine⟨?_,?_,?_⟩
  · show _+1≤_;omega
  · rw[cC];show _+1+1≤_;omega
  · rw[cC,cC];show _+1+1+_≤_;omega
 by_cases h0i:0<i
 case' pos=>
  have h0':=bP (show(0:Int)<(i:Int) by omega)
  rw[aN h0i] at gC
  obtain⟨k1,k2,k3⟩:=key (J++⟨#[59]⟩) (by rw[cC];show _+1≤_;omega)
  simp only[hi,h0',hs0,↓reduceIte,aV,aE,aB,seval,yJ]
 case' neg=>
  have h0':=bB (show ¬(0:Int)<(i:Int) by omega)
  rw[aH h0i] at gC
  obtain⟨k1,k2,k3⟩:=key J (by omega)
  simp only[hi,h0',aV,a8,aE,aB,seval,yJ]
 all_goals
  refine wP [(0,1),(1,1),(2,1),(3,1),(8,1),(10,1),(4,2),(5,2),(6,1),(7,1),(9,2),(11,1),(12,2),(13,2),(14,1),(15,1)] [0,1,2,3,8,10,4,5,6,7,9,11,12,13,14,15] mixed ?_
  simp only[aSX,aB,seval,yJ]
  refine iK (RM m (by omega) _) ?_
  simp only[k1,k2,↓reduceIte,aSV,bM,aQ,aB,seval,yJ]
  refine iK (hcw _) ?_
  simp only[k3,↓reduceIte,hwi,aB,seval]
  exact⟨(),aP.mk (by rw[gC];simp only[aB,seval])⟩
abbrev I8:=zi aX (zi cD (zi cG (zi cI (zi kT CB))))
theorem aOM(q a:List Tm)(st:aA):aD prog 253 [.slice (q.map Tm.av),eQ a] st (fun r st'=>r=.str (xF q a)∧st'=st):=by
 have hqv:=aMM q
 have vQ:=DW q
 have cZ:=RJ a
 have htx:=fun(hf:xE q a=true)=>aOF (cB q []) a (EA hf).2.1 (EA hf).2.2.1 (EA hf).2.2.2.1 (EA hf).2.2.2.2
 have hfq:xE q a=(eR q&&(decide (a.length=(cB q []).length)&&a.all Tm.valid)):=by unfold xE;rw[Bool.and_assoc]
 unfold xF
 generalize xE q a=f at *
 refine wF [1000000] 2 func253 ntmps253 rfl rfl ?_
 intro _
 simp only[aB,seval,I8]
 refine(hqv _).to ?_
 simp only[aB,seval]
 refine(vQ _).to ?_
 cases hq:eR q with
 | false=>
  rw[hq,eT] at hfq
  subst hfq
  rw[aH (by decide)]
  simp only[fM,aB,seval]
 | true=>
  rw[hq,dH] at hfq
  rw[aN rfl]
  by_cases hl:a.length=(cB q []).length
  case neg=>
   rw[eH hl,eT] at hfq
   subst hfq
   have hl':=bB (show ¬((cB q []).length:Int)=(a.length:Int) by omega)
   rw[aH (by decide)]
   simp only[hl',fM,fA,a8,eO,aE,aB,seval,I8]
  rw[d6 hl,dH] at hfq
  have hl':=bP (show((cB q []).length:Int)=(a.length:Int) by omega)
  simp only[hl',fA,aV,eO,aE,aB,seval,I8]
  refine(cZ _).to ?_
  rw[←hfq]
  cases f with
  | false=>
   rw[aH (by decide)]
   simp only[fM,eO,aB,seval]
  | true=>
   rw[aN rfl]
   simp only[fA,eO,aB,seval,I8]
   refine(htx rfl _).to ?_
   simp only[aB,seval]
theorem aV3{p:List Cl}{cnd:Tm→List Nat→List Nat}{s:RS}{g:RG}{rest:List RG}{e:Int}(h:iU p cnd s g rest=.stop e):e≤9:=by
 unfold iU at h
 repeat' split at h
 all_goals first | (cases h;done) | (injection h with h;subst h;unfold tU;repeat' split;all_goals omega) | (injection h with h;omega)
theorem aV1(p:List Cl)(cnd:Tm→List Nat→List Nat)(vars:List Int):∀(n most f:Nat) (s:RS),most+f≤n→(iI p cnd vars most f s).2≤9:=by
 intro n
 induction n with
 | zero=>
  intro most f s hn
  obtain rfl:most=0:=by omega
  obtain rfl:f=0:=by omega
  cases hg:s.goals with
  | nil=>rw[qZ hg];simp
  | cons g rest=>rw[nX (fuel:=0) hg];simp
 | succ n ih=>
  intro most f s hn
  cases hg:s.goals with
  | nil=>
   rw[qZ hg]
   by_cases hm:most=0
   · rw[aN hm];simp
   rw[aH hm]
   cases ha:oJ s.σ vars with
   | none=>simp
   | some a=>
    simp only
    cases hb:fG p s.chs.length s.chs with
    | none=>simp
    | some s'=>exact ih (most - 1) f s' (by omega)
  | cons g rest=>
   by_cases hf:f=0
   · subst hf
     rw[nX (fuel:=0) hg];simp
   rw[nX hg,aH hf]
   cases hst:iU p cnd s g rest with
   | stop e=>exact aV3 hst
   | go s'=>exact ih most (f - 1) s' (by omega)
   | fail=>
    simp only
    cases hb:fG p s.chs.length s.chs with
    | none=>simp
    | some s'=>exact ih most (f - 1) s' (by omega)
theorem aXC{p:List Cl}{cnd:Tm→List Nat→List Nat}{q:List Tm}{most fuel:Int}:(lI p cnd q most fuel).2≤9:=by
 unfold lI
 split
 · exact aV1 p cnd _ _ _ _ _ (c6 _)
 · simp
abbrev aXU:=zi aX (zi cG lZ)
theorem tN(k:Int)(t:ByteArray)(st:aA):aD prog 188 [.int .i64 k,.str t] st (fun r st'=>r=bC (k,t)∧st'=st):=by
 refine aD.kK ?_
 refine wF [1000000] 2 func188 ntmps188 rfl rfl ?_
 intro _
 simp only[aG,aB,seval,aXU]
 intro b hb
 exact⟨rfl,(aJ.refl _).aC hb⟩
def sent(c:dT)(k:Int)(t:ByteArray):dT:={ c with out:=c.out++ [(k,t)] }
abbrev OM:=zi aX (zi cG (zi kU p8))
set_option maxHeartbeats 1000000 in
theorem DS(c:dT)(k:Int)(t:ByteArray)(ho:c.out.length≤1048576)(st:aA):aD prog 219 [bV c,.int .i64 k,.str t] st (fun r st'=>r=bV (sent c k t)∧st'=st):=by
 obtain⟨r,bk,wt,pr,ac,ss,td,ou⟩:=c
 simp only at ho
 have hfr:=fun s=>tN k t s
 simp only[bC] at hfr
 simp only[bV,eU,sent]
 refine aD.told ?_
 refine wF [1000000,3] 3 func219 ntmps219 rfl rfl ?_
 intro _
 simp only[aB,seval,OM]
 intro b3 h3 b6 h6
 have hne:b6≠b3:=by rintro rfl;rw[aA.aK] at h6;cases h6
 have C0:c9 st ((st.aC b3 (.cells [bT r,.bool bk,bA wt,.slice (pr.map aF),.bool ac,.slice (ss.p.map aF),.slice (ss.q.map Tm.av),.int .i64 ss.quota,.int .i64 ss.used,.int .i64 ss.sent,.int .i64 ss.fin,.bool td,bA ou])).aC b6 (.cells [.fslice [],.bool false,.fslice [],.fslice [],.bool false,.fslice [],.fslice [],.int .i64 0,.int .i64 0,.int .i64 0,.int .i64 0,.bool false,.fslice []])) [b3,b6] []:=EW h3 h6
 have e0:((st.aC b3 (.cells [bT r,.bool bk,bA wt,.slice (pr.map aF),.bool ac,.slice (ss.p.map aF),.slice (ss.q.map Tm.av),.int .i64 ss.quota,.int .i64 ss.used,.int .i64 ss.sent,.int .i64 ss.fin,.bool td,bA ou])).aC b6 (.cells [.fslice [],.bool false,.fslice [],.fslice [],.bool false,.fslice [],.fslice [],.int .i64 0,.int .i64 0,.int .i64 0,.int .i64 0,.bool false,.fslice []])) b3=some (.cells [bT r,.bool bk,bA wt,.slice (pr.map aF),.bool ac,.slice (ss.p.map aF),.slice (ss.q.map Tm.av),.int .i64 ss.quota,.int .i64 ss.used,.int .i64 ss.sent,.int .i64 ss.fin,.bool td,bA ou]):=by rw[aA.aO _ _ hne.symm,aA.aK]
 have g0:((st.aC b3 (.cells [bT r,.bool bk,bA wt,.slice (pr.map aF),.bool ac,.slice (ss.p.map aF),.slice (ss.q.map Tm.av),.int .i64 ss.quota,.int .i64 ss.used,.int .i64 ss.sent,.int .i64 ss.fin,.bool td,bA ou])).aC b6 (.cells [.fslice [],.bool false,.fslice [],.fslice [],.bool false,.fslice [],.fslice [],.int .i64 0,.int .i64 0,.int .i64 0,.int .i64 0,.bool false,.fslice []])) b6=some (.cells [.fslice [],.bool false,.fslice [],.fslice [],.bool false,.fslice [],.fslice [],.int .i64 0,.int .i64 0,.int .i64 0,.int .i64 0,.bool false,.fslice []]):=aA.aK _ _ _
 generalize (st.aC b3 (.cells [bT r,.bool bk,bA wt,.slice (pr.map aF),.bool ac,.slice (ss.p.map aF),.slice (ss.q.map Tm.av),.int .i64 ss.quota,.int .i64 ss.used,.int .i64 ss.sent,.int .i64 ss.fin,.bool td,bA ou])).aC b6 (.cells [.fslice [],.bool false,.fslice [],.fslice [],.bool false,.fslice [],.fslice [],.int .i64 0,.int .i64 0,.int .i64 0,.int .i64 0,.bool false,.fslice []])=s0 at *
 simp only[e0,aB,seval]
 refine dK.pH (w:=2) (l:=[]) (xs:=ou.map bC) jQ nJ nK rfl (by decide) (.inl ⟨rfl,rfl⟩) rfl (t5 ou) (by simp only[aW,aE];omega) (fun q5 s5 A5 K5 F5=>?_)
 rw[dI] at A5
 obtain⟨C5,f5,-⟩:=(C0.new 2).grow A5 K5 F5
 have e5:=(f5 b3 (by simp)).trans e0
 have g5:=(f5 b6 (by simp)).trans g0
 obtain⟨z51,z52,z53,z54,z55⟩:=A5.shape
 simp only[aB,seval]
 refine(hfr _).to ?_
 simp only[aB,seval,OM]
 refine dK.append (w:=2) (l:=ou.map bC) jQ nJ nK rfl (by decide) A5 rfl rfl (by simp only[aE];omega) (fun q6 s6 A6 K6 F6=>?_)
 rw[show ou.map bC++ [.agg [.int .i64 k,.str t]]=(ou++ [(k,t)]).map bC by simp [bC]] at A6
 obtain⟨C6,f6,-⟩:=C5.grow A6 K6 F6
 have e6:=(f6 b3 (by simp)).trans e5
 have g6:=(f6 b6 (by simp)).trans g5
 obtain⟨z61,z62,z63,z64,z65⟩:=A6.shape
 simp only[aG,e6,z64,z65,aB,seval,OM]
 have C7:=C6.aC (d:=b3) (by simp) (.cells [bT r,.bool bk,bA wt,.slice (pr.map aF),.bool ac,.slice (ss.p.map aF),.slice (ss.q.map Tm.av),.int .i64 ss.quota,.int .i64 ss.used,.int .i64 ss.sent,.int .i64 ss.fin,.bool td,q6])
 have e7:(s6.aC b3 (.cells [bT r,.bool bk,bA wt,.slice (pr.map aF),.bool ac,.slice (ss.p.map aF),.slice (ss.q.map Tm.av),.int .i64 ss.quota,.int .i64 ss.used,.int .i64 ss.sent,.int .i64 ss.fin,.bool td,q6])) b3=some (.cells [bT r,.bool bk,bA wt,.slice (pr.map aF),.bool ac,.slice (ss.p.map aF),.slice (ss.q.map Tm.av),.int .i64 ss.quota,.int .i64 ss.used,.int .i64 ss.sent,.int .i64 ss.fin,.bool td,q6]):=aA.aK _ _ _
 have g7:=(aA.aO s6 (.cells [bT r,.bool bk,bA wt,.slice (pr.map aF),.bool ac,.slice (ss.p.map aF),.slice (ss.q.map Tm.av),.int .i64 ss.quota,.int .i64 ss.used,.int .i64 ss.sent,.int .i64 ss.fin,.bool td,q6]) hne).trans g6
 generalize s6.aC b3 (.cells [bT r,.bool bk,bA wt,.slice (pr.map aF),.bool ac,.slice (ss.p.map aF),.slice (ss.q.map Tm.av),.int .i64 ss.quota,.int .i64 ss.used,.int .i64 ss.sent,.int .i64 ss.fin,.bool td,q6])=s7 at *
 simp only[g7,aB,seval]
 have lF:∀s5:aA,c9 st s5 [b3,b6] [(2,q6,(ou++ [(k,t)]).map bC)]→Told s5 st (.agg [bT r,.bool bk,bA wt,.slice (pr.map aF),.bool ac,.slice (ss.p.map aF),.slice (ss.q.map Tm.av),.int .i64 ss.quota,.int .i64 ss.used,.int .i64 ss.sent,.int .i64 ss.fin,.bool td,bA (ou++ [(k,t)])]) (.agg [bT r,.bool bk,bA wt,.slice (pr.map aF),.bool ac,.slice (ss.p.map aF),.slice (ss.q.map Tm.av),.int .i64 ss.quota,.int .i64 ss.used,.int .i64 ss.sent,.int .i64 ss.fin,.bool td,q6]):=fun s5 D=>by
  have T:∀h,bL h s5 h st:=fun h=>D.j7.step h
  have S:∀ {a:AV},a.bO=false→Told s5 st a a:=fun h=>Told.same T h
  have t6:=D.told (p:=(2,q6,(ou++ [(k,t)]).map bC)) (by simp) (mC _) (kP _)
  exact Told.agg (.cons (S rfl) (.cons (S rfl) (.cons (S rfl) (.cons (S rfl) (.cons (S rfl) (.cons (S rfl) (.cons (S rfl) (.cons (S rfl) (.cons (S rfl) (.cons (S rfl) (.cons (S rfl) (.cons (S rfl) (.cons t6 .nil)))))))))))))
 exact⟨_,st,(C7.aC (by simp) _).j7,lF _ (C7.aC (by simp) _),rfl,rfl⟩
def w4(q a:List Tm):ByteArray:=if 2000<(xF q a).size then⟨#[108,111,110,103]⟩ else xF q a
theorem aKQ(q a:List Tm):gB (6,w4 q a)=true:=by
 unfold w4
 split
 · decide
 · rename_i h
   have:=aVA q a
   simp only[gB,yP,this,dH,bG,bK]
   omega
abbrev aH2:=zi aX (zi cG (zi cI CB))
theorem aMZ(q a:List Tm)(st:aA):aD prog 240 [.slice (q.map Tm.av),eQ a] st (fun r st'=>r=.str (w4 q a)∧st'=st):=by
 have hf:=fun s=>aOM q a s
 unfold w4
 generalize xF q a=T at *
 simp only[eQ] at hf ⊢
 refine wF [1000000] 2 func240 ntmps240 rfl rfl ?_
 intro _
 simp only[aB,seval,aH2]
 refine(hf _).to ?_
 simp only[aB,seval,aH2]
 refine bE (fun h=>?_) (fun h=>?_)
 · have h':2000<T.size:=by
    simp only[bK] at h
    omega
   rw[aN h']
   simp only[aB,seval]
 · have h':¬ 2000<T.size:=by
    simp only[d5] at h
    omega
   rw[aH h']
   simp only[aB,seval]
abbrev EV (l:List Fr):Prop:=∀f∈l,gB f=true∧4≤f.1
theorem aD2(s:Ss)(u:Int): -1≤(mB s u).2∧(mB s u).2≤9:=by
 have h0:=aXB (p:=s.p) (cnd:=fun _ l=>l) (q:=s.q) (most:=20) (fuel:=u)
 have h9:=aXC (p:=s.p) (cnd:=fun _ l=>l) (q:=s.q) (most:=20) (fuel:=u)
 simp only[mB]
 split<;>omega
def IY:Ss:=⟨[],[],0,0,0,0⟩
def kZ(q:List Tm)(l:List (List Tm)):List Fr:=l.map fun a=>(6,w4 q a)
theorem aKP(q:List Tm)(l:List (List Tm)):EV (kZ q l):=fun f hf=>by
 obtain⟨a,_,rfl⟩:=cL.1 hf
 exact⟨aKQ q a,by show(4:Int)≤6;decide⟩
theorem aPD:∀n:Nat,n≤9→gB (7,jP 20 n ⟨#[]⟩)=true:=by decide
noncomputable def IV(c:dT)(n:Int):dT:=if(nH c.ses n).fin= -1 then { c with ses:=nH c.ses n,out:=c.out++kZ c.ses.q (qW c.ses n) } else { c with act:=false,ses:=IY,out:=(c.out++kZ c.ses.q (qW c.ses n))++ [(7,jP 20 (nH c.ses n).fin.toNat ⟨#[]⟩)] }
abbrev sN:=zi aX (zi cD (zi aX5 (zi O5 (zi cG (zi cI (zi uW (zi p8 (zi FM CB))))))))
set_option maxHeartbeats 1000000 in
theorem aM6(c:dT)(n:Int)(h:o0 c.ses=true)(hn:0≤n)(ho:c.out.length≤1000000)(st:aA):aD prog 217 [bV c,.int .i64 n] st (fun r st'=>r=bV (IV c n)∧st'=st):=by
 have hsl:=fun s=>aMU c.ses n h hn s
 have a0C:(qW c.ses n).length≤20:=by
  have:=(N8 h hn).l
  unfold qW
  rw[jZ];omega
 have hrg: -1≤(nH c.ses n).fin∧(nH c.ses n).fin≤9:=aD2 c.ses _
 have hsq:(nH c.ses n).q=c.ses.q:=rfl
 have hsp:(nH c.ses n).p=c.ses.p:=rfl
 have hsu:(nH c.ses n).quota=c.ses.quota:=rfl
 unfold IV
 generalize qW c.ses n=L at *
 generalize nH c.ses n=S at *
 obtain⟨r,bk,wt,pr,ac,ss,td,ou⟩:=c
 obtain⟨Sp,Sq,Sn,Su,Ss',Sf⟩:=S
 simp only at hsq hsp hsu hrg ho hsl
 subst hsq
 simp only[bV,eU]
 unfold kG at hsl
 refine aD.kK ?_
 refine wF [1000000,2] 2 func217 ntmps217 rfl rfl ?_
 intro _
 simp only[aB,seval,sN]
 intro b2 h2 b4 h4
 have hne:b4≠b2:=by rintro rfl;rw[aA.aK] at h4;cases h4
 have h4n:st b4=none:=by rw[aA.aO _ _ hne] at h4;exact h4
 have hcm:∀A B Z,((st.aC b2 A).aC b4 Z).aC b2 B=(st.aC b2 B).aC b4 Z:=fun A B Z=>by
  funext y
  by_cases e1:y=b2<;>by_cases e2:y=b4<;>simp_all [aA.aC]
 simp only[n6,hne.symm,aB,seval]
 refine(hsl _).to ?_
 simp only[aB,↓a9,seval,sN]
 refine d7 (σ:=Unit) [1000000,2] [2,4,5,6] L (fun i _=>True) (fun i _=>[(7,.int .i64 i)]) (fun i _=>(st.aC b2 (.cells [bT r,.bool bk,bA wt,.slice (pr.map aF),.bool ac,.slice (ss.p.map aF),.slice (ss.q.map Tm.av),.int .i64 ss.quota,.int .i64 ss.used,.int .i64 ss.sent,.int .i64 ss.fin,.bool td,bA (ou++kZ ss.q (L.take i))])).aC b4 (.cells [.fslice [],.bool false,.fslice [],.fslice [],.bool false,.fslice [],.fslice [],.int .i64 0,.int .i64 0,.int .i64 0,.int .i64 0,.bool false,.fslice []])) (by decide +kernel) ⟨(),trivial,by rw[show ou++kZ ss.q (L.take 0)=ou by simp [kZ]];exact aP.mk (by simp only[aB,↓a9,seval])⟩ (fun i x _ hx hlt bN hdr hinv=>?_) (fun _ hge hinv=>?_)
 case refine_2=>
  rw[dR]
  have hOl:(ou++kZ ss.q L).length≤1000100:=by simp only[kZ,cX,aE];omega
  generalize ou++kZ ss.q L=O at *
  simp only[hge,aG,aE,n6,hne.symm,aB,seval,sN]
  by_cases hf:Sf= -1
  · rw[aN hf]
    have hf':=bP hf
    simp only[hf',aV,fA,aG,n6,hne,aB,seval,sN]
    intro y
    by_cases e1:y=b2<;>by_cases e2:y=b4<;>simp_all [aA.aC]
  · rw[aH hf]
    have hf':=bB hf
    obtain⟨m,hm⟩:∃m:Nat,Sf=m:=⟨Sf.toNat,by omega⟩
    have hdc:=fun s=>LD m (by omega) s
    rw[←hm] at hdc
    have hmt:Sf.toNat=m:=by omega
    rw[hmt]
    have hse:=fun s=>DS ⟨r,bk,wt,pr,false,IY,td,O⟩ 7 (jP 20 m ⟨#[]⟩) (by simp only;omega) s
    simp only[bV,eU,sent,IY,bD] at hse
    simp only[hf',a8,fM,aG,n6,aB,seval,sN]
    rw[hcm]
    have eb9:((st.aC b2 (.cells [bT r,.bool bk,bA wt,.slice (pr.map aF),.bool false,.fslice [],.fslice [],.int .i64 0,.int .i64 0,.int .i64 0,.int .i64 0,.bool td,bA O])).aC b4 (.cells [.fslice [],.bool false,.fslice [],.fslice [],.bool false,.fslice [],.fslice [],.int .i64 0,.int .i64 0,.int .i64 0,.int .i64 0,.bool false,.fslice []])) b2=some (.cells [bT r,.bool bk,bA wt,.slice (pr.map aF),.bool false,.fslice [],.fslice [],.int .i64 0,.int .i64 0,.int .i64 0,.int .i64 0,.bool td,bA O]):=by rw[aA.aO _ _ hne.symm,aA.aK]
    refine wX [(0,1),(1,1),(2,1),(3,0),(4,2),(5,2)] [0,1,2] (one b2 (.cells [bT r,.bool bk,bA wt,.slice (pr.map aF),.bool false,.fslice [],.fslice [],.int .i64 0,.int .i64 0,.int .i64 0,.int .i64 0,.bool td,bA O])) mixed rfl (lP eb9) ?_
    simp only[NK,aB,seval,sN]
    refine(hdc _).to ?_
    simp only[aB,seval]
    refine⟨lP eb9,?_⟩
    refine aD.to (aD.nY (by simp only[fT,AV.soft];exact hse _)) ?_
    simp only[aG,n6,hne,hne.symm,aB,seval,sN]
    refine⟨rfl,?_⟩
    intro y
    by_cases e1:y=b2<;>by_cases e2:y=b4<;>simp_all [aA.aC]
 have htk:ou++kZ ss.q (L.take (i+1))=(ou++kZ ss.q (L.take i))++ [(6,w4 ss.q x)]:=by
  rw[eD,hx];simp [kZ]
 have hOl:(ou++kZ ss.q (L.take i)).length≤1000100:=by simp only[kZ,cX,aE,dE];omega
 rw[htk]
 generalize ou++kZ ss.q (L.take i)=O at *
 have hw:=bH (n:=(i:Int)+1)
 have hat:=bR (av:=eQ) (P:=prog) HH hx rfl
 have han:=fun s=>aMZ ss.q x s
 have hse:=fun s=>DS ⟨r,bk,wt,pr,ac,ss,td,O⟩ 6 (w4 ss.q x) (by simp only;omega) s
 simp only[bV,eU,sent] at hse
 simp only[eQ] at hat han
 have eb2:((st.aC b2 (.cells [bT r,.bool bk,bA wt,.slice (pr.map aF),.bool ac,.slice (ss.p.map aF),.slice (ss.q.map Tm.av),.int .i64 ss.quota,.int .i64 ss.used,.int .i64 ss.sent,.int .i64 ss.fin,.bool td,bA O])).aC b4 (.cells [.fslice [],.bool false,.fslice [],.fslice [],.bool false,.fslice [],.fslice [],.int .i64 0,.int .i64 0,.int .i64 0,.int .i64 0,.bool false,.fslice []])) b2=some (.cells [bT r,.bool bk,bA wt,.slice (pr.map aF),.bool ac,.slice (ss.p.map aF),.slice (ss.q.map Tm.av),.int .i64 ss.quota,.int .i64 ss.used,.int .i64 ss.sent,.int .i64 ss.fin,.bool td,bA O]):=by rw[aA.aO _ _ hne.symm,aA.aK]
 simp only[bN,aE,aB,seval,sN]
 refine wX [(0,1),(1,1),(2,1),(3,1),(4,1),(5,1),(6,1),(7,0),(8,2),(9,2)] [0,1,2,3,4,5,6] (one b2 (.cells [bT r,.bool bk,bA wt,.slice (pr.map aF),.bool ac,.slice (ss.p.map aF),.slice (ss.q.map Tm.av),.int .i64 ss.quota,.int .i64 ss.used,.int .i64 ss.sent,.int .i64 ss.fin,.bool td,bA O])) mixed rfl (lP eb2) ?_
 simp only[hat,NK,aB,seval,sN]
 refine(han _).to ?_
 simp only[aB,seval]
 refine⟨lP eb2,?_⟩
 refine(hse _).to ?_
 simp only[aG,n6,hne.symm,hw,aB,seval,sN]
 rw[hcm]
 exact⟨(),aP.mk (by simp only[aB,seval])⟩
end Go.AW
