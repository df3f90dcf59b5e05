import Derived.Test.YtieofkhcboolkaaGreatDoorKqj
import Derived.Test.YtieofkhcboolkaaGreatDoorKqi
set_option linter.unusedSimpArgs false
set_option linter.unusedVariables false
set_option maxRecDepth 100000
namespace Go.AW
open Go.Proofs.Tryz
def gI(a:Int):AV:=.tup [vT.av,.int .i64 (-1 - a)]
abbrev aF0:=zi aZ bH
theorem rV(a:Nat)(ha:a≤1048576)(st:aA):aD prog 351 [.int .i64 (a:Int)] st (fun r st'=>r=gI a∧st'=st):=by
 refine aD.done ?_
 refine wF [1000000] 1 func351 ntmps351 rfl rfl ?_
 intro _
 have hw:=bO (n:= -1 - (a:Int))
 simp only[aF,hw,aB,seval,aF0]
 intro b hb
 exact⟨by simp only[gI,a6,iJ,kU,gR,iK,jJ,bT,bF,bF],(aH.refl _).aC hb⟩
def CR(a:Nat)(o:Option (ByteArray×Nat)):AV:=match o with | some (b,e)=>.tup [.str b,.int .i64 (e:Int)] | none=>.tup [.str ⟨#[]⟩,.int .i64 (a:Int)]
abbrev tB:=zi aZ (zi cB (zi hY (zi pF b7)))
set_option maxHeartbeats 1000000 in
theorem X3(s:ByteArray)(hs:s.size≤1000)(a:Nat)(ha:a≤s.size)(st:aA):aD prog 327 [.str s,.int .i64 (a:Int)] st (fun r st'=>r=CR a (kC (sb s) a)∧st'=st):=by
 refine wF [1000000] 2 func327 ntmps327 rfl rfl ?_
 intro _
 simp only[aB,seval]
 refine(f0 s a 32 _).to ?_
 obtain⟨f1,hf1⟩:∃f,f=a+1:=⟨_,rfl⟩
 have hw1:=iW (x:=(a:Int)+1) (m:=f1) (by omega) (by omega)
 simp only[aB,seval]
 refine aW (fun h1=>?_) (fun h1=>?_)
 · have hf:=jE h1
   rw[bL] at hf
   simp only[hw1,aB,seval,tB]
   obtain⟨f,rfl⟩:∃f,f=f1:=⟨_,rfl⟩
   replace hf:f≤s.size:=by omega
   by_cases hlen:s.size≤f
   case pos=>
    have hrd:kC (sb s) a=none:=by
     unfold kC
     simp only[h1,↓reduceIte,←hf1]
     rw[aU (by rw[bL];exact hlen)]
    rw[hrd]
    have cO:((s.size:Int)≤(f:Int))=True:=bR (by omega)
    simp only[cO,a8,aB,seval]
    rfl
   have cO:((s.size:Int)≤(f:Int))=False:=bC (by omega)
   have hrd:kC (sb s) a=match jI (sb s) f with
    | none=>none
    | some (nm,e)=>if cG nm=0 then none else if d9 nm≠decide (a<f)∨(d9 nm=true∧bJ (sb s) e 32=false) then none else some (nm,if d9 nm then e+1 else e):=by
    unfold kC
    simp only[h1,↓reduceIte,←hf1]
    rw[aS (by rw[bL];exact hlen)]
    try rfl
   rw[hrd]
   clear hrd
   have hfa:((a:Int)<(f:Int))=True:=bR (by omega)
   have hfn:(a<f)=True:=bR (by omega)
   simp only[cO,bB,aB,seval]
   refine(BB s hs f (by omega) _).to ?_
   cases hn:jI (sb s) f with
   | none=>
    simp only[qH]
    simp only[a8,aB,seval]
    rfl
   | some p=>
    obtain⟨nm,e⟩:=p
    have he:=vF (by rw[bL];omega) hn
    rw[bL] at he
    simp only[qH]
    have he0:((e:Int)<0)=False:=bC (by omega)
    simp only[he0,bB,aB,seval]
    refine(oJ nm _).to ?_
    by_cases hl0:cG nm=0
    case pos=>
     rw[aU hl0]
     have nW:((cG nm:Int)=0)=True:=bR (by omega)
     simp only[nW,a8,aB,seval]
     rfl
    rw[aS hl0]
    have nW:((cG nm:Int)=0)=False:=bC (by omega)
    simp only[hfn,a8]
    have hw1:=bO (n:=(e:Int)+1)
    by_cases hi:nm=⟨#[105,115]⟩
    case' pos=>
     have hi':=bR hi
     have hm':(nm=⟨#[109,111,100]⟩)=False:=bC (by rw[hi];decide)
     have hW:d9 nm=true:=by unfold d9;rw[dK hi];try rfl
    case' neg=>
     have hi':=bC hi
     by_cases hm:nm=⟨#[109,111,100]⟩
     case' pos=>
      have hm':=bR hm
      have hW:d9 nm=true:=by unfold d9;rw[dK hm];exact pJ _
     case' neg=>
      have hm':=bC hm
      have hW:d9 nm=false:=by unfold d9;rw[dP hm,dP hi];try rfl
    all_goals
     rw[hW]
     simp only[nW,hfa,hi',hm',a8,bB,aB,seval,tB]
     first
      | (rw[aU (Or.inl trivial)];rfl)
      | (rw[aS fun h=>h.1];rfl)
      | skip
     try
      refine(f0 s e 32 _).to ?_
      cases hb:bJ (sb s) e 32 with
      | false=>
       simp only[aB,seval]
       rfl
      | true=>
       simp only[hw1,aB,seval]
       rfl
 · skip
   simp only[aB,seval,tB]
   obtain⟨f,rfl⟩:∃f,f=a:=⟨_,rfl⟩
   have hf:=ha
   by_cases hlen:s.size≤f
   case pos=>
    have hrd:kC (sb s) f=none:=by
     unfold kC
     simp only[h1,↓reduceIte,fJ]
     rw[aU (by rw[bL];exact hlen)]
    rw[hrd]
    have cO:((s.size:Int)≤(f:Int))=True:=bR (by omega)
    simp only[cO,a8,aB,seval]
    rfl
   have cO:((s.size:Int)≤(f:Int))=False:=bC (by omega)
   have hrd:kC (sb s) f=match jI (sb s) f with
    | none=>none
    | some (nm,e)=>if cG nm=0 then none else if d9 nm≠decide (f<f)∨(d9 nm=true∧bJ (sb s) e 32=false) then none else some (nm,if d9 nm then e+1 else e):=by
    unfold kC
    simp only[h1,↓reduceIte,fJ]
    rw[aS (by rw[bL];exact hlen)]
    try rfl
   rw[hrd]
   clear hrd
   have hfa:((f:Int)<(f:Int))=False:=bC (by omega)
   have hfn:(f<f)=False:=bC (by omega)
   simp only[cO,bB,aB,seval]
   refine(BB s hs f (by omega) _).to ?_
   cases hn:jI (sb s) f with
   | none=>
    simp only[qH]
    simp only[a8,aB,seval]
    rfl
   | some p=>
    obtain⟨nm,e⟩:=p
    have he:=vF (by rw[bL];omega) hn
    rw[bL] at he
    simp only[qH]
    have he0:((e:Int)<0)=False:=bC (by omega)
    simp only[he0,bB,aB,seval]
    refine(oJ nm _).to ?_
    by_cases hl0:cG nm=0
    case pos=>
     rw[aU hl0]
     have nW:((cG nm:Int)=0)=True:=bR (by omega)
     simp only[nW,a8,aB,seval]
     rfl
    rw[aS hl0]
    have nW:((cG nm:Int)=0)=False:=bC (by omega)
    simp only[hfn,bB]
    have hw1:=bO (n:=(e:Int)+1)
    by_cases hi:nm=⟨#[105,115]⟩
    case' pos=>
     have hi':=bR hi
     have hm':(nm=⟨#[109,111,100]⟩)=False:=bC (by rw[hi];decide)
     have hW:d9 nm=true:=by unfold d9;rw[dK hi];try rfl
    case' neg=>
     have hi':=bC hi
     by_cases hm:nm=⟨#[109,111,100]⟩
     case' pos=>
      have hm':=bR hm
      have hW:d9 nm=true:=by unfold d9;rw[dK hm];exact pJ _
     case' neg=>
      have hm':=bC hm
      have hW:d9 nm=false:=by unfold d9;rw[dP hm,dP hi];try rfl
    all_goals
     rw[hW]
     simp only[nW,hfa,hi',hm',a8,bB,aB,seval,tB]
     first
      | (rw[aU (Or.inl trivial)];rfl)
      | (rw[aS fun h=>h.1];rfl)
      | skip
     try
      refine(f0 s e 32 _).to ?_
      cases hb:bJ (sb s) e 32 with
      | false=>
       simp only[nW,hfa,hi',hm',hw1,a8,bB,aB,↓bG,seval,tB]
       rfl
      | true=>
       simp only[nW,hfa,hi',hm',hw1,a8,bB,aB,↓bG,seval,tB]
       rfl
theorem Y4{ts:List Tm}{i:Nat}{x t:Tm}(hx:ts[i]?=some x):nK (ts.drop i) t=jF ⟨#[46]⟩ [x,nK (ts.drop (i+1)) t]:=by
 obtain⟨h1,h2⟩:=fY.1 hx
 rw[q7 h1,h2]
 try rfl
abbrev y8:=zi aZ (zi b7 (zi cE (zi zA bH)))
set_option maxHeartbeats 1000000 in
theorem E1(ts:List Tm)(tl:Tm)(hl:ts.length≤1048576)(st:aA):aD prog 365 [.slice (ts.map Tm.av),tl.av] st (fun r st'=>r=(nK ts tl).av∧st'=st):=by
 refine aD.done ?_
 refine wF [1000000,5] 2 func365 ntmps365 rfl rfl ?_
 intro _
 have hw0:=bO (n:=(ts.length:Int) - 1)
 simp only[aF,aQ,aR,bA,bW,aO,aG,hw0,aB,↓bG,seval,y8]
 intro b hb b5 hb5
 have hbb:b5≠b:=fun h=>by rw[h,aA.aP] at hb5;cases hb5
 refine fH (σ:=Nat) [1000000] [0,4,5] (fun i=>i≤ts.length) (fun i=>[(6,.int .i64 ((i:Int) - 1))]) (fun i=>(st.aC b (.cells [.int .i64 0,.int .i64 0,.str ⟨#[]⟩,.fslice []])).aC b5 (.cells (nK (ts.drop i) tl).av.cells)) (fun i=>i) (by decide +kernel) ⟨ts.length,by omega,by rw[wE];exact aL.mk (by simp only[aB,seval])⟩ ?_
 intro i hi
 simp only[aB,seval]
 refine aW (fun h1=>?_) (fun h1=>?_)
 · simp only[bK] at h1
   obtain⟨k,rfl⟩:∃k,i=k+1:=⟨i - 1,by omega⟩
   obtain⟨x,hx⟩:∃x,ts[k]?=some x:=⟨_,eA (by omega)⟩
   have hk:((k+1:Nat):Int) - 1=(k:Int):=by omega
   have hw:=bO (n:=(k:Int) - 1)
   have hst:=Y4 (t:=tl) hx
   have hat:=cJ (av:=Tm.av) cS hx (aR x)
   rw[hk]
   generalize nK (ts.drop (k+1)) tl=y at *
   have hax:=aO x
   have hay:=aO y
   simp only[aB,seval]
   refine wP [(0,1),(1,1),(2,1),(3,2),(4,2),(5,1),(6,2),(7,0)] [0,1,2,3,4,5,6] mixed ?_
   simp only[aQ,aR,bW,aO,cD (aO _),cC (aQ _),hat,aB,seval,y8]
   refine eV (jP ⟨#[46]⟩ [x,y] (by simp) _) ?_
   simp only[aF,bA,aO,hw,aB,seval,y8]
   refine⟨k,by omega,by omega,?_⟩
   rw[hst]
   exact aL.mk (by simp only[aB,seval])
 · simp only[dF] at h1
   obtain rfl:i=0:=by omega
   rw[lZ]
   simp only[aF,bA,aO,cD (aO _),cC (aQ _),hbb.symm,aB,↓bG,seval,y8]
   exact⟨Tm.soft _,(((aH.refl _).aC hb).aC (by rwa [aA.aV _ _ hbb] at hb5)).aC hb⟩
def gX(o:Option (Tm×Nat))(r:AV):Prop:=match o with | some (t,e)=>r=.tup [t.av,.int .i64 (e:Int)] | none=>∃k:Nat,k≤1048576∧r=gI k
def m9(o:Option (List Tm×Nat))(r:AV):Prop:=match o with | some (ts,e)=>r=.tup [.slice (ts.map Tm.av),.int .i64 (e:Int)] | none=>∃k:Nat,k≤1048576∧r=.tup [.slice [],.int .i64 (-1 - (k:Int))]
abbrev AE (s:ByteArray) (R:gC) (d lv lo:Nat):Prop:=∀(a:Nat) (st:aA),lo≤a→a≤s.size→aD prog 282 [.str s,.int .i64 (a:Int),.int .i64 (d:Int),.int .i64 (lv:Int)] st (fun r st'=>gX (R a) r∧st'=st)
abbrev DJ:=zi aZ (zi cB (zi hY (zi pF (zi b7 (zi cE bH)))))
set_option maxHeartbeats 1000000 in
theorem FD{s:ByteArray}{R:gC}{d lo c1 c2:Nat}(hR:AE s R d 3 lo)(hok:oA R (sb s))(hs:s.size≤1000)(a:Nat)(ha:lo≤a)(ha':a≤s.size)(st:aA) :
 aD prog 355 [.str s,.int .i64 (a:Int),.int .i64 (d:Int),.int .u8 (c1:Int),.int .u8 (c2:Int)] st (fun r st'=>m9 (kY R (sb s) c1 c2 ((sb s).length+1) a []) r∧st'=st):=by
 generalize hT:kY R (sb s) c1 c2 ((sb s).length+1) a []=T
 rw[bL] at hT
 refine aD.drop (Q:=m9 T) (aD.fin ?_)
 refine wF [1000000] 5 func355 ntmps355 rfl rfl ?_
 intro _
 simp only[aB,seval,DJ]
 refine fH (σ:=Nat×List Tm×Nat×Nat) [1000000] [0,2,3,4] (fun x=>kY R (sb s) c1 c2 x.2.2.1 x.1 x.2.1=T∧lo≤x.1∧x.1≤s.size∧s.size<x.2.2.1+x.1∧x.2.1.length+x.2.2.1≤1001∧(x.2.1.map Tm.av≠[]→st x.2.2.2=none)) (fun x=>[(1,.int .i64 (x.1:Int)),(10,.fslice []),(11,.int .i64 0),(12,aT 4 x.2.2.2 (x.2.1.map Tm.av))]) (fun x=>aY st x.2.2.2 (x.2.1.map Tm.av)) (fun x=>x.2.2.1) (by decide +kernel) ⟨(a,[],s.size+1,0),⟨hT,ha,ha',by simp only;omega,by simp only[bN];omega,by simp⟩,aL.mk (by simp only[bF,kJ,aB,seval])⟩ ?_
 rintro⟨i,acc,m,b⟩ ⟨ht,hlo,hi,hm,hlen,hb⟩
 simp only at ht hlo hi hm hlen hb ⊢
 obtain⟨m,rfl⟩:∃m',m=m'+1:=⟨m - 1,by omega⟩
 simp only[kY] at ht
 simp only[aB,seval]
 refine(hR i _ hlo hi).mono ?_
 rintro r _ ⟨hr,rfl⟩
 have fin:∀(l:List Tm) (b':Nat) (r':AV),(l.map Tm.av≠[]→st b'=none)→m9 T (r'.fin b' (l.map Tm.av))→∃b2 l2 s0,aY st b' (l.map Tm.av)=aY s0 b2 l2∧(l2≠[]→s0 b2=none)∧(∀e∈l2,e.bP=false)∧eW l2∧aH s0 st∧m9 T (r'.fin b2 l2):=fun l b' r' h1 h2=>⟨b',_,st,rfl,h1,d8 _,⟨4,cT _⟩,aH.refl _,h2⟩
 have hTn:T=none→∀k:Nat,k≤1048576→∀(b':Nat) (l:List AV),m9 T ((AV.tup [.fslice [],.int .i64 (-1 - (k:Int))]).fin b' l):=by
  rintro rfl k hk b' l
  exact⟨k,hk,by simp only[mI,dQ,r7,bT,bF]⟩
 cases hRi:R i with
 | none=>
  rw[hRi] at ht hr
  obtain⟨k,hk,rfl⟩:=hr
  have hk0:((-1 - (k:Int))<0)=True:=bR (by omega)
  simp only[aR,bA,bW,hk0,gI,a8,aB,↓bG,seval,DJ]
  exact fin _ _ _ hb (hTn ht.symm k hk _ _)
 | some p=>
  obtain⟨t,e⟩:=p
  rw[hRi] at ht hr
  simp only at ht
  obtain⟨g1,g2,g3⟩:=hok i t e (by rw[bL];exact hi) hRi
  rw[bL] at g2
  simp only[gX] at hr
  subst hr
  have he0:((e:Int)<0)=False:=bC (by omega)
  simp only[aQ,aR,bA,bW,he0,fM,true_and,bB,aB,↓bG,seval,DJ]
  refine eH cS gG gH rfl rfl (eR (aR _) (bA _)) (cT _) hb (by simp only[aG,bD,bN];omega) (by simp only[aG,bD,bN];omega) (fun b' hb'=>?_)
  rw[show acc.map Tm.av++ [t.av]=(acc++ [t]).map Tm.av by simp] at hb' ⊢
  simp only[aB,seval]
  have sE:T=some (acc++ [t],e)→m9 T ((AV.tup [aT 4 b' ((acc++ [t]).map Tm.av),.int .i64 (e:Int)]).fin b' ((acc++ [t]).map Tm.av)):=by
   rintro rfl
   simp only[m9,mI,dQ,nO,bT,bF]
  have hw1:=bO (n:=(e:Int)+1)
  have hw2:=bO (n:= -1 - (e:Int))
  refine(f0 s e c1 _).to ?_
  cases h1:bJ (sb s) e c1 with
  | true=>
   rw[h1,pK,aU rfl] at ht
   simp only[rP,fM,true_and,aB,seval]
   exact fin _ _ _ hb' (sE ht.symm)
  | false=>
  simp only[aB,seval]
  refine(f0 s e c2 _).to ?_
  cases h2:bJ (sb s) e c2 with
  | true=>
   rw[h2,pJ,aU rfl] at ht
   simp only[rP,fM,true_and,aB,seval]
   exact fin _ _ _ hb' (sE ht.symm)
  | false=>
  rw[h1,h2,Bool.or_false,aS (by decide)] at ht
  simp only[aB,seval]
  refine(f0 s e 44 _).to ?_
  cases h3:bJ (sb s) e 44 with
  | true=>
   have h4:=jE h3
   rw[bL] at h4
   rw[h3,aU rfl] at ht
   simp only[hw1,aB,seval]
   refine⟨(e+1,acc++ [t],m,b'),by simp only;omega,⟨ht,by simp only;omega,by simp only;omega,by simp only;omega,by simp only[dI,bD,bN];omega,hb'⟩,aL.mk (by simp only[aB,seval]<;>rfl)⟩
  | false=>
   rw[h3,aS (by decide)] at ht
   simp only[hw2,aB,seval]
   exact fin _ _ _ hb' (hTn ht.symm e (by omega) _ _)
theorem aD.BQ{P:Program}{g:FuncId}{args:List AV}{st:aA}{Q:AV→Prop}(x:aD P g args st (fun r' st'=>Q r'.soft∧aH st' st)):aD P g args st (fun r' st'=>Q r'∧st'=st):=
 aD.drop (aD.soft (x.mono fun _ _ h=>⟨h.2,h.1⟩))
theorem sW{k:Nat}(hk:k≤1048576):gX none (AV.tup [.agg [.int .i64 0,.int .i64 0,.str ⟨#[]⟩,.fslice []],.int .i64 (-1 - (k:Int))]).soft:=
 ⟨k,hk,by simp only[gI,a6,iJ,kU,gR,iK,jJ,bT,bF]⟩
theorem kS{t:Tm}{e:Nat}{x:Int}(h:x=(e:Int)):gX (some (t,e)) (AV.tup [t.av,.int .i64 x]).soft:=by
 subst h
 simp only[gX,kU,gR,Tm.soft,bT,bF]
theorem oZ{k:Nat}(hk:k≤1048576):gX none (AV.tup [vT.av,.int .i64 (-1 - (k:Int))]).soft:=
 ⟨k,hk,by simp only[gI,kU,gR,Tm.soft,bT,bF]⟩
abbrev pC:=zi aZ (zi cB (zi hY (zi pF (zi b7 (zi cE (zi bH (zi aF8 aF2)))))))
set_option maxHeartbeats 1000000 in
theorem X0{s:ByteArray}{R:gC}{d lo:Nat}(hR:AE s R d 3 lo)(hok:oA R (sb s))(hs:s.size≤1000)(a:Nat)(ha:lo≤a)(ha':a≤s.size)(st:aA) :
 aD prog 352 [.str s,.int .i64 (a:Int),.int .i64 (d:Int)] st (fun r st'=>gX (qC R (sb s) a) r∧st'=st):=by
 refine aD.BQ ?_
 refine wF [1000000] 3 func352 ntmps352 rfl rfl ?_
 intro _
 simp only[aB,seval,pC]
 intro b hb
 unfold qC
 refine(FD hR hok hs a ha ha' _ (c1:=93) (c2:=124)).mono ?_
 rintro r _ ⟨hr,rfl⟩
 have hD:=fun(o:AO)=>(aH.refl st).aC (o:=o) hb
 cases hT:kY R (sb s) 93 124 ((sb s).length+1) a [] with
 | none=>
  rw[hT] at hr
  obtain⟨k,hk,rfl⟩:=hr
  have hk0:((-1 - (k:Int))<0)=True:=bR (by omega)
  simp only[aF,hk0,a8,aB,seval,pC]
  exact⟨sW hk,hD _⟩
 | some p=>
  obtain⟨ts,e⟩:=p
  rw[hT] at hr
  simp only[m9] at hr
  subst hr
  obtain⟨g1,g2,g3,g4,g5⟩:=zL hok _ _ _ _ _ (by rw[bL];exact ha') (by simp) hT
  rw[bL] at g2 g4
  rw[bN] at g4
  have he0:((e:Int)<0)=False:=bC (by omega)
  obtain⟨f,hf⟩:∃f,f=e+1:=⟨_,rfl⟩
  have hw:=iW (x:=(e:Int)+1) (m:=f) (by omega) (by omega)
  simp only[he0,bB,aB,seval]
  refine(f0 s e 93 _).to ?_
  cases h1:bJ (sb s) e 93 with
  | true=>
   simp only[aB,seval]
   refine(jP ⟨#[91,93]⟩ [] (by simp) _).to ?_
   simp only[aB,seval]
   refine(E1 ts (jF ⟨#[91,93]⟩ []) (by omega) _).to ?_
   simp only[aF,bA,bW,aO,cD (aO _),cC (aQ _),hw,aB,seval,pC]
   exact⟨kS (by omega),hD _⟩
  | false=>
   simp only[hw,aB,seval]
   refine(hR f _ (by omega) (by omega)).mono ?_
   rintro r _ ⟨hr,rfl⟩
   rw[←hf]
   cases hRi:R f with
   | none=>
    rw[hRi] at hr
    obtain⟨k,hk,rfl⟩:=hr
    have hk0:((-1 - (k:Int))<0)=True:=bR (by omega)
    simp only[aF,aR,bA,bW,hk0,gI,a8,aB,↓bG,seval,pC]
    exact⟨sW hk,hD _⟩
   | some p=>
    obtain⟨t,e2⟩:=p
    rw[hRi] at hr
    simp only[gX] at hr
    subst hr
    obtain⟨k1,k2,k3⟩:=hok f t e2 (by rw[bL];omega) hRi
    rw[bL] at k2
    have he2:((e2:Int)<0)=False:=bC (by omega)
    have hw2:=bO (n:=(e2:Int)+1)
    simp only[aR,bA,bW,he2,bB,aB,↓bG,seval,pC]
    refine(f0 s e2 93 _).to ?_
    cases h2:bJ (sb s) e2 93 with
    | true=>
     simp only[aQ,aR,aB,seval,pC]
     refine(E1 ts t (by omega) _).to ?_
     simp only[aF,bA,bW,aO,cD (aO _),cC (aQ _),hw2,aB,seval,pC]
     exact⟨kS rfl,hD _⟩
    | false=>
     simp only[aB,seval]
     refine(rV e2 (by omega) _).to ?_
     simp only[aF,bA,bW,aO,cD (aO _),cC (aQ _),gI,aB,seval,pC]
     exact⟨oZ (by omega),hD _⟩
theorem aEH{R:Nat→gC}{l:List UInt8}{d a:Nat}(h:d<1∨l.length≤a):iI R l d a=none:=by unfold iI;rw[aU h]
theorem aEI{R:Nat→gC}{l:List UInt8}{d a:Nat}(h:¬(d<1∨l.length≤a))(h1:bJ l a 40=true):iI R l d a=match R d (a+1) with
 | none=>none
 | some (t,e)=>if bJ l e 41 then some (t,e+1) else none:=by unfold iI;rw[aS h,aU h1];try rfl
theorem aEE{R:Nat→gC}{l:List UInt8}{d a:Nat}(h:¬(d<1∨l.length≤a))(h1:bJ l a 40=false)(h2:bJ l a 91=true)(h3:bJ l (a+1) 93=false):iI R l d a=qC (R (d - 1)) l (a+1):=by
 unfold iI;rw[aS h,aS (by simp [h1]),aU (by simp [h2,h3])]
theorem aEJ{R:Nat→gC}{l:List UInt8}{d a:Nat}(h:¬(d<1∨l.length≤a))(h1:bJ l a 40=false)(h2:(bJ l a 91&& !bJ l (a+1) 93)=false)(h3:dC l a lW=true):iI R l d a=some (vr ((xB l a - 65:Nat):Int),a+1):=by
 unfold iI;rw[aS h,aS (by simp [h1]),aS (by simp [h2]),aU h3]
theorem aEG{R:Nat→gC}{l:List UInt8}{d a:Nat}(h:¬(d<1∨l.length≤a))(h1:bJ l a 40=false)(h2:(bJ l a 91&& !bJ l (a+1) 93)=false)(h3:dC l a lW=false)(h4:(dC l a cA||(bJ l a 45&&dC l (a+1) cA))=true):iI R l d a=match mO l a with
 | none=>none
 | some (n,e)=>some (.mk 2 n ⟨#[]⟩ [],e):=by
 unfold iI;rw[aS h,aS (by simp [h1]),aS (by simp [h2]),aS (by simp [h3]),aU h4];try rfl
theorem aEF{R:Nat→gC}{l:List UInt8}{d a:Nat}(h:¬(d<1∨l.length≤a))(h1:bJ l a 40=false)(h2:(bJ l a 91&& !bJ l (a+1) 93)=false)(h3:dC l a lW=false)(h4:(dC l a cA||(bJ l a 45&&dC l (a+1) cA))=false):iI R l d a=match jI l a with
 | none=>none
 | some (nm,e)=>if bJ l e 40=false then some (jF nm [],e) else match kY (R (d - 1)) l 41 41 (l.length+1) (e+1) [] with
  | none=>none
  | some (ts,e')=>some (jF nm ts,e'+1):=by
 unfold iI;rw[aS h,aS (by simp [h1]),aS (by simp [h2]),aS (by simp [h3]),aS (by simp [h4])];try rfl
abbrev fL:=zi aZ (zi cB (zi hY (zi pF (zi b7 (zi cE bH)))))
set_option maxHeartbeats 2000000 in
theorem X5{s:ByteArray}{R:Nat→gC}{a:Nat}(hR:∀d,d≤1048576→AE s (R d) d 3 (a+1))(hok:∀d,oA (R d) (sb s))(hs:s.size≤1000)(ha:a≤s.size)(d:Nat)(hd:d≤1048576)(st:aA) :
 aD prog 326 [.str s,.int .i64 (a:Int),.int .i64 (d:Int)] st (fun r st'=>gX (iI R (sb s) d a) r∧st'=st):=by
 refine aD.BQ ?_
 refine wF [1000000] 3 func326 ntmps326 rfl rfl ?_
 intro _
 generalize hP:iI R (sb s) d a=o
 simp only[aB,seval,fL]
 intro b hb
 have hD:=fun(o:AO)=>(aH.refl st).aC (o:=o) hb
 by_cases h0:d<1∨s.size≤a
 case pos=>
  rw[aEH (by rw[bL];exact h0)] at hP
  subst hP
  by_cases h01:d<1
  case pos=>
   have nT:((d:Int)<1)=True:=bR (by omega)
   simp only[nT,a8,aB,seval]
   refine(rV a (by omega) _).to ?_
   simp only[aF,bA,bW,aO,cD (aO _),cC (aQ _),gI,aB,seval,fL]
   exact⟨oZ (by omega),hD _⟩
  case neg=>
   have nT:((d:Int)<1)=False:=bC (by omega)
   have pX:((s.size:Int)≤(a:Int))=True:=bR (by omega)
   simp only[nT,pX,a8,bB,aB,seval,fL]
   refine(rV a (by omega) _).to ?_
   simp only[aF,bA,bW,aO,cD (aO _),cC (aQ _),gI,aB,seval,fL]
   exact⟨oZ (by omega),hD _⟩
 have h0':¬(d<1∨(sb s).length≤a):=by rw[bL];exact h0
 have nT:((d:Int)<1)=False:=bC (by omega)
 have pX:((s.size:Int)≤(a:Int))=False:=bC (by omega)
 obtain⟨x,hx⟩:=nI (s:=s) (n:=a) (by omega)
 have hix:=lN (P:=prog) (t:=9) kZ hx
 obtain⟨f,hf⟩:∃f,f=a+1:=⟨_,rfl⟩
 have hw:=iW (x:=(a:Int)+1) (m:=f) (by omega) (by omega)
 obtain⟨d1,hd1⟩:∃d1,d1=d - 1:=⟨_,rfl⟩
 have hwd:=iW (x:=(d:Int) - 1) (m:=d1) (by omega) (by omega)
 by_cases h40:x.toNat=40
 case pos=>
  rw[aEI h0' (by rw[lO hx,h40];try rfl),←hf] at hP
  have r9:((x.toNat:Int)=40)=True:=bR (by omega)
  simp only[nT,pX,hix,r9,hw,a8,bB,aB,seval,fL]
  refine(hR d hd f _ (by omega) (by omega)).mono ?_
  rintro r _ ⟨hr,rfl⟩
  cases hRi:R d f with
  | none=>
   rw[hRi] at hr hP
   subst hP
   obtain⟨k,hk,rfl⟩:=hr
   have hk0:((-1 - (k:Int))<0)=True:=bR (by omega)
   simp only[aF,aR,bA,bW,hk0,gI,a8,aB,↓bG,seval,fL]
   exact⟨sW hk,hD _⟩
  | some p=>
   obtain⟨t,e2⟩:=p
   rw[hRi] at hr hP
   simp only[gX] at hr
   subst hr
   obtain⟨k1,k2,k3⟩:=hok d f t e2 (by rw[bL];omega) hRi
   rw[bL] at k2
   have he2:((e2:Int)<0)=False:=bC (by omega)
   have hw2:=bO (n:=(e2:Int)+1)
   simp only[aR,bA,bW,he2,bB,aB,↓bG,seval,fL]
   refine(f0 s e2 41 _).to ?_
   cases h2:bJ (sb s) e2 41 with
   | true=>
    simp only[h2,↓reduceIte] at hP
    subst hP
    simp only[aF,aQ,aR,bA,bW,aO,cD (aO _),cC (aQ _),hw2,aB,seval,fL]
    exact⟨kS rfl,hD _⟩
   | false=>
    simp only[h2,↓reduceIte,fJ] at hP
    subst hP
    simp only[aB,seval]
    refine(rV e2 (by omega) _).to ?_
    simp only[aF,bA,bW,aO,cD (aO _),cC (aQ _),gI,aB,seval,fL]
    exact⟨oZ (by omega),hD _⟩
 have g40:bJ (sb s) a 40=false:=by rw[lO hx];exact dP h40
 have r9:((x.toNat:Int)=40)=False:=bC (by omega)
 -- a list
 by_cases hL:x.toNat=91∧bJ (sb s) f 93=false
 case pos=>
  obtain⟨h91,h93⟩:=hL
  rw[aEE h0' g40 (by rw[lO hx,h91];try rfl) (by rw[←hf];exact h93),←hf,←hd1] at hP
  subst hP
  have lJ:((x.toNat:Int)=91)=True:=bR (by omega)
  simp only[nT,pX,hix,r9,lJ,hw,a8,bB,aB,seval,fL]
  refine(f0 s f 93 _).to ?_
  rw[h93]
  simp only[hw,hwd,aB,seval]
  refine(X0 (hR d1 (by omega)) (hok d1) hs f (by omega) (by omega) _).mono ?_
  rintro r _ ⟨hr,rfl⟩
  cases hI:qC (R d1) (sb s) f with
  | none=>
   rw[hI] at hr
   obtain⟨k,hk,rfl⟩:=hr
   simp only[aF,bA,bW,aO,cD (aO _),cC (aQ _),gI,aB,seval,fL]
   exact⟨oZ hk,hD _⟩
  | some p=>
   obtain⟨t,e2⟩:=p
   rw[hI] at hr
   simp only[gX] at hr
   subst hr
   simp only[aF,bA,bW,aO,cD (aO _),cC (aQ _),aB,seval,fL]
   exact⟨kS rfl,hD _⟩
 have gL:(bJ (sb s) a 91&& !bJ (sb s) (a+1) 93)=false:=by
  rw[←hf,lO hx]
  rcases Nat.decEq x.toNat 91 with h | h
  · rw[dP h,dL]
  · rw[dK h,dH]
    cases h93:bJ (sb s) f 93 with
    | true=>rfl
    | false=>exact absurd ⟨h,h93⟩ hL
 by_cases hU:lW x=true
 case pos=>
  have hP':=aEJ (R:=R) h0' g40 gL (by rw[n0 hx];exact hU)
  rw[hP'] at hP
  subst hP
  have hbn:xB (sb s) a=x.toNat:=by unfold xB;rw[hx]
  simp only[lW,bV,bK] at hU
  have lJ:((x.toNat:Int)=91)=False:=bC (by omega)
  have h65:((65:Int)≤(x.toNat:Int))=True:=bR (by omega)
  have h90:((x.toNat:Int)≤90)=True:=bR (by omega)
  obtain⟨y,hy⟩:∃y,y=x.toNat - 65:=⟨_,rfl⟩
  have hw2:IntKind.wrap .u8 ((x.toNat:Int) - 65)=(y:Int):=by rw[IntKind.wrap_u8];omega
  have hw3:=bO (n:=(y:Int))
  simp only[nT,pX,hix,r9,lJ,h65,h90,hw2,hw3,l8,a8,bB,aB,seval,fL]
  refine(uH (y:Int) _).to ?_
  simp only[aF,bA,bW,aO,cD (aO _),cC (aQ _),hw,aB,seval,fL]
  rw[hbn,←hy,←hf]
  exact⟨kS rfl,hD _⟩
 have gU:dC (sb s) a lW=false:=by rw[n0 hx];simpa using hU
 cases hdg:(dC (sb s) a cA||(bJ (sb s) a 45&&dC (sb s) (a+1) cA)) with
 | true=>
  have hP':=aEG (R:=R) h0' g40 gL gU hdg
  rw[hP'] at hP
  by_cases hdx:cA x=true
  case' pos=>have sA:=hdx
  case' neg=>
   have hdx:cA x=false:=by simpa using hdx
   rw[n0 hx,hdx,k7,bV,lO hx,bK] at hdg
   have sA:((x.toNat:Int)=45)=True:=bR (by omega)
  all_goals
   by_cases h91:x.toNat=91
   case' pos=>
    have lJ:((x.toNat:Int)=91)=True:=bR (by omega)
    have h93:bJ (sb s) f 93=true:=by rw[lO hx,dK h91,dH,←hf] at gL;simpa using gL
   case' neg=>
    have lJ:((x.toNat:Int)=91)=False:=bC (by omega)
    have h93:=lJ
   all_goals
    by_cases h65:65≤x.toNat
    case' pos=>
     have nU:((65:Int)≤(x.toNat:Int))=True:=bR (by omega)
     have pY:((x.toNat:Int)≤90)=False:=bC (by intro h;exact hU (by simp only[lW,bV,bK];omega))
    case' neg=>
     have nU:((65:Int)≤(x.toNat:Int))=False:=bC (by omega)
     have pY:=nU
   all_goals
    simp only[nT,pX,hix,r9,lJ,nU,pY,hw,a8,bB,aB,seval,fL]
    try
     refine(f0 s f 93 _).to ?_
     rw[h93]
     simp only[hix,nU,pY,a8,bB,aB,seval]
    refine(qG s a _).to ?_
    rw[n0 hx]
   all_goals
    simp only[hix,hdx,sA,hw,a8,aB,seval]
    try
     refine(qG s f _).to ?_
     rw[hf,hdg.2]
     simp only[aB,seval]
    refine(XS s hs a ha _).to ?_
    cases hn:mO (sb s) a with
    | none=>
     rw[hn] at hP
     subst hP
     simp only[aR,bA,bW,qI,a8,aB,↓bG,seval,fL]
     refine(rV a (by omega) _).to ?_
     simp only[aF,bA,bW,aO,cD (aO _),cC (aQ _),gI,aB,seval,fL]
     exact⟨oZ (by omega),hD _⟩
    | some p=>
     obtain⟨n,e⟩:=p
     rw[hn] at hP
     subst hP
     have he0:((e:Int)<0)=False:=bC (by omega)
     simp only[aF,aQ,aR,bA,bW,aO,cD (aO _),cC (aQ _),qI,he0,bB,aB,↓bG,seval,fL]
     exact⟨kS rfl,hD _⟩
 | false=>
  have hP':=aEF (R:=R) h0' g40 gL gU hdg
  rw[hP',←hd1] at hP
  rw[n0 hx,Bool.or_eq_false_iff,lO hx,←hf] at hdg
  have hdx:=hdg.1
  by_cases h45:x.toNat=45
  case' pos=>
   have sA:((x.toNat:Int)=45)=True:=bR (by omega)
   have hfd:dC (sb s) f cA=false:=by have:=hdg.2;rwa [dK h45,dH] at this
  case' neg=>
   have sA:((x.toNat:Int)=45)=False:=bC (by omega)
   have hfd:=sA
  all_goals
   by_cases h91:x.toNat=91
   case' pos=>
    have lJ:((x.toNat:Int)=91)=True:=bR (by omega)
    have h93:bJ (sb s) f 93=true:=by rw[lO hx,dK h91,dH,←hf] at gL;simpa using gL
   case' neg=>
    have lJ:((x.toNat:Int)=91)=False:=bC (by omega)
    have h93:=lJ
   all_goals
    by_cases h65:65≤x.toNat
    case' pos=>
     have nU:((65:Int)≤(x.toNat:Int))=True:=bR (by omega)
     have pY:((x.toNat:Int)≤90)=False:=bC (by intro h;exact hU (by simp only[lW,bV,bK];omega))
    case' neg=>
     have nU:((65:Int)≤(x.toNat:Int))=False:=bC (by omega)
     have pY:=nU
   all_goals
    simp only[nT,pX,hix,r9,lJ,nU,pY,hw,a8,bB,aB,seval,fL]
    try
     refine(f0 s f 93 _).to ?_
     rw[h93]
     simp only[hix,nU,pY,a8,bB,aB,seval]
    refine(qG s a _).to ?_
    rw[n0 hx]
   all_goals
    simp only[hix,hdx,sA,hw,a8,bB,aB,seval]
    try
     refine(qG s f _).to ?_
     rw[hfd]
     simp only[aB,seval]
    refine(BB s hs a ha _).to ?_
    cases hn:jI (sb s) a with
    | none=>
     rw[hn] at hP
     subst hP
     simp only[qH,a8,aB,seval]
     refine(rV a (by omega) _).to ?_
     simp only[aF,bA,bW,aO,cD (aO _),cC (aQ _),gI,aB,seval,fL]
     exact⟨oZ (by omega),hD _⟩
    | some p=>
     obtain⟨nm,e⟩:=p
     rw[hn] at hP
     simp only at hP
     have hel:=vF (by rw[bL];exact ha) hn
     rw[bL] at hel
     have he0:((e:Int)<0)=False:=bC (by omega)
     obtain⟨f2,hf2⟩:∃f2,f2=e+1:=⟨_,rfl⟩
     have hwe:=iW (x:=(e:Int)+1) (m:=f2) (by omega) (by omega)
     simp only[qH,he0,bB,aB,seval]
     refine(f0 s e 40 _).to ?_
     cases h4:bJ (sb s) e 40 with
     | false=>
      rw[aU h4] at hP
      subst hP
      simp only[aB,seval]
      refine(jP nm [] (by simp) _).to ?_
      simp only[aF,bA,bW,aO,cD (aO _),cC (aQ _),aB,seval,fL]
      exact⟨kS rfl,hD _⟩
     | true=>
      rw[aS (by simp [h4]),←hf2] at hP
      have h5:=jE h4
      rw[bL] at h5
      simp only[hwd,hwe,aB,seval]
      refine(FD (hR d1 (by omega)) (hok d1) hs f2 (by omega) (by omega) _ (c1:=41) (c2:=41)).mono ?_
      rintro r _ ⟨hr,rfl⟩
      cases hT:kY (R d1) (sb s) 41 41 ((sb s).length+1) f2 [] with
      | none=>
       rw[hT] at hr hP
       subst hP
       obtain⟨k,hk,rfl⟩:=hr
       have hk0:((-1 - (k:Int))<0)=True:=bR (by omega)
       simp only[aF,hk0,a8,aB,seval,fL]
       exact⟨sW hk,hD _⟩
      | some p=>
       obtain⟨ts,e3⟩:=p
       rw[hT] at hr hP
       simp only[m9] at hr hP
       subst hr hP
       obtain⟨g1,g2,g3,g4,g5⟩:=zL (hok d1) _ _ _ _ _ (by rw[bL];omega) (by simp) hT
       rw[bL] at g2
       have he3:((e3:Int)<0)=False:=bC (by omega)
       have hw3:=bO (n:=(e3:Int)+1)
       simp only[aF,he3,hw3,bB,aB,seval,fL]
       exact⟨by rw[show(AV.agg [.int .i64 3,.int .i64 0,.str nm,.slice (ts.map Tm.av)])=(jF nm ts).av from (a6 ..).symm];exact kS rfl,hD _⟩
theorem aDB{nm:ByteArray}(h:cG nm≠0):nm≠⟨#[]⟩:=by rintro rfl;exact h (by decide)
abbrev kX:=zi aZ (zi b7 (zi cE bH))
set_option maxHeartbeats 2000000 in
theorem X6{s:ByteArray}(hs:s.size≤1000):∀(n d a lv:Nat) (st:aA),a≤s.size→lv≤3→d≤1048576→(s.size - a)*4+lv<n →
 aD prog 282 [.str s,.int .i64 (a:Int),.int .i64 (d:Int),.int .i64 (lv:Int)] st (fun r st'=>gX (rd (sb s) n d a lv) r∧st'=st):=by
 intro n
 induction n with
 | zero=>intro d a lv st _ _ _ h;omega
 | succ n IH=>
 intro d a lv st ha hlv hd hn
 have hl1:(sb s).length≤1000:=by rw[bL];exact hs
 refine aD.BQ ?_
 refine wF [1000000,10] 4 func282 ntmps282 rfl rfl ?_
 intro _
 generalize hP:rd (sb s) (n+1) d a lv=o
 simp only[aB,seval,kX]
 intro b hb
 have hD:=fun(o:AO)=>(aH.refl st).aC (o:=o) hb
 cases lv with
 | zero=>
  simp only[rd] at hP
  have h0:(((0:Nat):Int)=0)=True:=bR rfl
  simp only[a8,aB,↓bG,seval]
  refine(X5 (R:=fun d a=>rd (sb s) n d a 3) (a:=a) (fun d hd a' st' h1 h2=>IH d a' 3 st' h2 (by omega) hd (by omega)) (fun d=>qM hl1 n d 3) hs ha d hd _).mono ?_
  rintro r _ ⟨hr,rfl⟩
  rw[hP] at hr
  cases o with
  | none=>
   obtain⟨k,hk,rfl⟩:=hr
   simp only[aF,bA,bW,aO,cD (aO _),cC (aQ _),gI,aB,seval,kX]
   exact⟨oZ hk,hD _⟩
  | some p=>
   obtain⟨t,e⟩:=p
   simp only[gX] at hr
   subst hr
   simp only[aF,bA,bW,aO,cD (aO _),cC (aQ _),aB,seval,kX]
   exact⟨kS rfl,hD _⟩
 | succ lv=>
  simp only[rd] at hP
  have h0:(((lv+1:Nat):Int)=0)=False:=bC (by omega)
  obtain⟨lw,hlw⟩:∃lw,lw=lv+1:=⟨_,rfl⟩
  rw[←hlw] at hP h0 ⊢
  have hwl:=iW (x:=(lw:Int) - 1) (m:=lv) (by omega) (by omega)
  simp only[h0,hwl,bB,aB,seval]
  refine(IH d a lv _ ha (by omega) hd (by omega)).mono ?_
  rintro r _ ⟨hr,rfl⟩
  cases hRi:rd (sb s) n d a lv with
  | none=>
   rw[hRi] at hr hP
   simp only at hP
   subst hP
   obtain⟨k,hk,rfl⟩:=hr
   have hk0:((0:Int)≤(-1 - (k:Int)))=False:=bC (by omega)
   simp only[aF,bA,aO,gI,aB,↓bG,seval,kX]
   intro b10 h10
   have hbb:b10≠b:=fun h=>by rw[h,aA.aP] at h10;cases h10
   have BW:st b10=none:=by rwa [aA.aV _ _ hbb] at h10
   refine fH (σ:=Unit) [1000000,10] [0,2,3,8,10] (fun _=>True) (fun _=>[(9,.int .i64 0),(11,.int .i64 (-1 - (k:Int)))]) (fun _=>(st.aC b (.cells [.int .i64 0,.int .i64 0,.str ⟨#[]⟩,.fslice []])).aC b10 (.cells vT.av.cells)) (fun _=>0) (by decide +kernel) ⟨(),trivial,aL.mk (by simp only[aB,seval])⟩ ?_
   rintro _ _
   simp only[aF,hk0,hbb.symm,bB,aB,seval,kX]
   exact⟨sW hk,((hD _).aC BW).aC hb⟩
  | some p=>
   obtain⟨t,e⟩:=p
   rw[hRi] at hr hP
   simp only[gX] at hr hP
   subst hr
   obtain⟨g1,g2,g3⟩:=qM hl1 n d lv a t e (by rw[bL];exact ha) hRi
   rw[bL] at g2 hP
   simp only[aF,bA,aO,aB,↓bG,seval,kX]
   intro b10 h10
   have hbb:b10≠b:=fun h=>by rw[h,aA.aP] at h10;cases h10
   have BW:st b10=none:=by rwa [aA.aV _ _ hbb] at h10
   have hE:∀o1 o2 o3,aH (((st.aC b o1).aC b10 o2).aC b o3) st:=fun o1 o2 o3=>((hD _).aC BW).aC hb
   refine fH (σ:=Tm×Nat×Nat) [1000000,10] [0,2,3,8,10] (fun x=>sQ (fun a=>rd (sb s) n d a lv) (sb s) lw x.2.2 x.1 x.2.1=o∧a<x.2.1∧x.2.1≤s.size∧s.size<x.2.2+x.2.1) (fun x=>[(9,.int .i64 0),(11,.int .i64 (x.2.1:Int))]) (fun x=>(st.aC b (.cells [.int .i64 0,.int .i64 0,.str ⟨#[]⟩,.fslice []])).aC b10 (.cells x.1.av.cells)) (fun x=>x.2.2) (by decide +kernel) ⟨(t,e,s.size+1),⟨hP,g1,g2,by simp only;omega⟩,aL.mk (by simp only[aB,seval])⟩ ?_
   rintro⟨t,e,m⟩ ⟨ht,hae,hes,hm⟩
   simp only at ht hae hes hm ⊢
   obtain⟨m,rfl⟩:∃m',m=m'+1:=⟨m - 1,by omega⟩
   simp only[sQ] at ht
   have he0:((0:Int)≤(e:Int))=True:=bR (by omega)
   simp only[he0,a8,aB,seval]
   refine(X3 s hs e hes _).to ?_
   cases hop:kC (sb s) e with
   | none=>
    rw[hop] at ht
    simp only at ht
    subst ht
    simp only[aF,bA,bW,aO,cD (aO _),cC (aQ _),CR,hbb.symm,a8,aB,seval,kX]
    exact⟨kS rfl,hE _ _ _⟩
   | some p=>
    obtain⟨nm,e1⟩:=p
    rw[hop] at ht
    simp only at ht
    obtain⟨k1,k2,k3⟩:=R7 hop
    rw[bL] at k2
    have hnm:=bC (aDB k3)
    simp only[CR,hnm,bB,aB,seval]
    refine(oJ nm _).to ?_
    by_cases Q1:cG nm=lw
    case neg=>
     rw[aU Q1] at ht
     subst ht
     have hne:((cG nm:Int)=(lw:Int))=False:=bC (by omega)
     simp only[aF,bA,bW,aO,cD (aO _),cC (aQ _),hne,hbb.symm,bB,aB,seval,kX]
     exact⟨kS rfl,hE _ _ _⟩
    rw[aS (by simpa using Q1)] at ht
    have hne:((cG nm:Int)=(lw:Int))=True:=bR (by omega)
    simp only[hne,hwl,a8,aB,seval]
    refine(IH d e1 lv _ k2 (by omega) hd (by omega)).mono ?_
    rintro r _ ⟨hr,rfl⟩
    cases hRj:rd (sb s) n d e1 lv with
    | none=>
     rw[hRj] at hr ht
     simp only at ht
     subst ht
     obtain⟨k,hk,rfl⟩:=hr
     have hk0:((-1 - (k:Int))<0)=True:=bR (by omega)
     simp only[aF,aR,bA,bW,hk0,gI,hbb.symm,a8,aB,↓bG,seval,kX]
     exact⟨sW hk,hE _ _ _⟩
    | some p=>
     obtain⟨t2,e2⟩:=p
     rw[hRj] at hr ht
     simp only[gX] at hr ht
     subst hr
     obtain⟨q1,q2,q3⟩:=qM hl1 n d lv e1 t2 e2 (by rw[bL];exact k2) hRj
     rw[bL] at q2
     have he2:((e2:Int)<0)=False:=bC (by omega)
     simp only[aQ,aR,bA,bW,aO,cD (aO _),cC (aQ _),he2,bB,aB,↓bG,seval,kX]
     refine(jP nm [t,t2] (by simp) _).to ?_
     by_cases h3:lw=3
     · rw[aU h3] at ht
       subst ht
       have h3':((lw:Int)=3)=True:=bR (by omega)
       simp only[aF,bA,bW,aO,cD (aO _),cC (aQ _),h3',hbb.symm,a8,aB,seval,kX]
       exact⟨kS rfl,hE _ _ _⟩
     · rw[aS h3] at ht
       have h3':((lw:Int)=3)=False:=bC (by omega)
       simp only[aF,bA,aO,h3',bB,aB,seval,kX]
       exact⟨(jF nm [t,t2],e2,m),by simp only;omega,⟨ht,by simp only;omega,q2,by simp only;omega⟩,aL.mk (by simp only[aB,seval])⟩
end Go.AW
namespace Go.AW
def eO:Nat→Nat→ByteArray→ByteArray
 | 0,_,acc=>acc
 | f+1,n,acc=>if 9<n then eO f (n / 10) (⟨#[UInt8.ofNat (48+n % 10)]⟩++acc) else⟨#[UInt8.ofNat (48+n)]⟩++acc
def gN(n:Int):ByteArray:=if n<0 then⟨#[45]⟩++eO 20 (-n).toNat ⟨#[]⟩ else eO 20 n.toNat ⟨#[]⟩
def yD(n:Int):ByteArray:=⟨#[UInt8.ofNat (65+n.toNat)]⟩
def kQ(t:Tm):Bool:=decide (t.k=3)&&(decide (t.s=⟨#[46]⟩)&&decide (t.ts.length=2))
def yF(t:Tm):Bool:=decide (t.k=3)&&(decide (t.s=⟨#[91,93]⟩)&&decide (t.ts.length=0))
def nZ(t:Tm):Bool:=decide (t.k=3)&&(decide (t.ts.length=2)&&decide (0<cG t.s))
def sZ(t:Tm):Bool:=decide (t.k=3)&&(decide (t.ts.length=0)&&decide (0<cG t.s))
def AY(t:Tm):Bool:=decide (t.k=3)&&decide (0<t.ts.length)
def mL(t:Tm)(i:Nat):Tm:=t.ts.getD i aF9
 where aF9:Tm:=.mk 0 0 ⟨#[]⟩ []
def gE(T:Tm→ByteArray):List Tm→ByteArray
 | []=>⟨#[]⟩
 | x::xs=>xs.foldl (fun o y=>(o++⟨#[44]⟩)++T y) (⟨#[]⟩++T x)
def spine:Nat→Tm→List Tm×Tm
 | 0,t=>([],t)
 | n+1,t=>if kQ t then(mL t 0::(spine n (mL t 1)).1,(spine n (mL t 1)).2) else([],t)
def kV(nm:ByteArray):ByteArray:=if d9 nm then(⟨#[32]⟩++nm)++⟨#[32]⟩ else nm
def yM(l:List UInt8):Bool:=dC l 0 letter||(dC l 0 cA||(dC l 0 lW||(bJ l 0 91||bJ l 0 40)))
def mE(T:Tm→ByteArray)(t:Tm)(lv:Nat):ByteArray:=if nZ t&&decide (lv<cG t.s) then(⟨#[40]⟩++T t)++⟨#[41]⟩ else T t
def qD(T:Tm→ByteArray)(t:Tm)(lv:Nat):ByteArray:=if sZ t then(⟨#[40]⟩++T t)++⟨#[41]⟩ else mE T t lv
def qN(T:Tm→ByteArray)(t:Tm)(lv:Nat):ByteArray:=if sZ t|| !yM (sb (mE T t lv)) then(⟨#[40]⟩++mE T t lv)++⟨#[41]⟩ else mE T t lv
def u6(T:Tm→ByteArray)(p:List Tm×Tm):ByteArray:=if yF p.2 then(⟨#[91]⟩++gE T p.1)++⟨#[93]⟩ else(((⟨#[91]⟩++gE T p.1)++⟨#[124]⟩)++T p.2)++⟨#[93]⟩
def sI(t:Tm):ByteArray:=if t.k=1 then yD t.n else if t.k=2 then gN t.n else t.s
def lvl(n:Nat):Nat:=if n=3 then 2 else n
def tx:Nat→Tm→ByteArray
 | 0,_=>⟨#[]⟩
 | n+1,t=>if kQ t then u6 (tx n) (spine n t) else if nZ t then(qD (tx n) (mL t 0) (lvl (cG t.s))++kV t.s)++qN (tx n) (mL t 1) (cG t.s - 1)
  else if AY t then((t.s++⟨#[40]⟩)++gE (tx n) t.ts)++⟨#[41]⟩ else sI t
theorem VU{T:Tm→ByteArray}{l:List Tm}{i:Nat}{x:Tm}(hx:l[i]?=some x):gE T (l.take (i+1))=(if 0<i then gE T (l.take i)++⟨#[44]⟩ else gE T (l.take i))++T x:=by
 rw[gW,hx]
 cases l with
 | nil=>simp at hx
 | cons y l=>
  cases i with
  | zero=>simp at hx;subst hx;rfl
  | succ i=>
   rw[aU (by omega),m5]
   simp only[gE,Option.toList_some,dM,List.foldl_append,tJ,List.foldl_nil]
theorem bU(a b:ByteArray):(a++b).size=a.size+b.size:=ByteArray.size_append
theorem oL:∀(f n:Nat) (acc:ByteArray),(eO f n acc).size≤f+acc.size
 | 0,n,acc=>by simp [eO]
 | f+1,n,acc=>by
  unfold eO
  split
  · refine jM (oL f _ _) ?_
    rw[bU]
    show f+(1+acc.size)≤_
    omega
  · rw[bU]
    show 1+acc.size≤_
    omega
abbrev Ws (t:Tm):Prop:=∃d,t.shape d=true
theorem Ws.own{k n:Int}{s:ByteArray}{ts:List Tm}(h:Ws (.mk k n s ts)):cR k n s ts.length=true∧∀x∈ts,Ws x:=by
 obtain⟨d,h⟩:=h
 rw[Tm.sX,bV,bV,dY] at h
 exact⟨h.1.2,fun x hx=>⟨_,h.2 x hx⟩⟩
theorem sR{k n:Int}{s:ByteArray}{len:Int}(h:cR k n s len=true):(k=1∧0≤n∧n≤25∧s=⟨#[]⟩∧len=0)∨(k=2∧-999≤n∧n≤999∧s=⟨#[]⟩∧len=0)∨(k=3∧n=0∧oW s=true∧len≤4):=by
 unfold cR at h
 by_cases h1:k=1
 · rw[dK h1] at h
   simp only[cond_true,bV,bK] at h
   exact Or.inl ⟨h1,h.1.1.1,h.1.1.2,h.1.2,h.2⟩
 rw[dP h1] at h
 by_cases h2:k=2
 · rw[dK h2] at h
   simp only[cond_true,cond_false,bV,bK] at h
   exact Or.inr (Or.inl ⟨h2,h.1.1.1,h.1.1.2,h.1.2,h.2⟩)
 rw[dP h2] at h
 by_cases h3:k=3
 · rw[dK h3] at h
   simp only[cond_true,cond_false,bV,bK] at h
   exact Or.inr (Or.inr ⟨h3,h.1.1,h.1.2,h.2⟩)
 · rw[dP h3] at h
   cases h
theorem CO{s:ByteArray}(h:oW s=true):1≤s.size∧s.size≤6:=by
 unfold oW at h
 rw[pI] at h
 rcases h with h | h
 · simp only[lP,bV,bK] at h
   omega
 · rw[List.any_eq_true] at h
   obtain⟨x,hx,h⟩:=h
   rw[bK] at h
   subst h
   revert hx
   revert s
   decide
theorem Ws.size{t:Tm}(h:Ws t):t.s.size≤6∧(t.k=3→1≤t.s.size):=by
 obtain⟨k,n,s,ts⟩:=t
 rcases sR h.own.1 with h | h | h
 · rw[show(Tm.mk k n s ts).s=s from rfl,h.2.2.2.1];exact⟨by decide,fun h3=>by have:k=3:=h3;omega⟩
 · rw[show(Tm.mk k n s ts).s=s from rfl,h.2.2.2.1];exact⟨by decide,fun h3=>by have:k=3:=h3;omega⟩
 · have:=CO h.2.2.1;exact⟨this.2,fun _=>this.1⟩
theorem kP(t:Tm):1≤t.nodes:=by obtain⟨k,n,s,ts⟩:=t;rw[Tm.jU];omega
theorem RL{x:Tm}{l:List Tm}(h:x∈l):x.nodes≤bS Tm.nodes l:=by
 induction l with
 | nil=>cases h
 | cons y l ih=>
  simp only[bS]
  rcases dS.1 h with rfl | h
  · omega
  · have:=ih h;omega
theorem SZ:∀(l:List Tm) (i:Nat),bS Tm.nodes (l.take i)≤bS Tm.nodes l
 | [],i=>by simp
 | x::l,0=>by simp [bS]
 | x::l,i+1=>by simp only[m5,bS];have:=SZ l i;omega
theorem w7{T:Tm→ByteArray}{l:List Tm}(h:∀x∈l,(T x).size≤32*x.nodes):(gE T l).size≤32*bS Tm.nodes l+l.length:=by
 have hg:∀(xs:List Tm) (o:ByteArray),(∀x∈xs,(T x).size≤32*x.nodes)→(xs.foldl (fun o y=>(o++⟨#[44]⟩)++T y) o).size≤o.size+32*bS Tm.nodes xs+xs.length:=by
  intro xs
  induction xs with
  | nil=>intro o _;simp [bS]
  | cons x xs ih=>
   intro o hx
   refine jM (ih _ fun y hy=>hx y (by simp [hy])) ?_
   rw[bU,bU]
   have:=hx x (by simp)
   simp only[bS,bD]
   show o.size+1+_+_+_≤_
   omega
 cases l with
 | nil=>exact i7 _
 | cons x l=>
  refine jM (hg l _ fun y hy=>h y (by simp [hy])) ?_
  rw[bU]
  have:=h x (by simp)
  simp only[bS,bD]
  show 0+_+_+_≤_
  omega
theorem sS{t:Tm}(h:kQ t=true):∃n x y,t=.mk 3 n ⟨#[46]⟩ [x,y]:=by
 obtain⟨k,n,s,ts⟩:=t
 simp only[kQ,bV,bK] at h
 simp only[Tm.k,Tm.s,Tm.ts] at h
 obtain⟨rfl,rfl,h3⟩:=h
 match ts,h3 with
 | [x,y],_=>exact⟨n,x,y,rfl⟩
theorem sH{k n:Int}{s:ByteArray}{x y:Tm}:mL (.mk k n s [x,y]) 0=x∧mL (.mk k n s [x,y]) 1=y:=⟨rfl,rfl⟩
theorem C5:∀(n:Nat) (t:Tm),Ws t→(∀x∈(spine n t).1,Ws x)∧Ws (spine n t).2∧bS Tm.nodes (spine n t).1+(spine n t).1.length+(spine n t).2.nodes=t.nodes
 | 0,t,h=>⟨by simp [spine],h,by simp [spine,bS]⟩
 | n+1,t,h=>by
  unfold spine
  split
  · rename_i hp
    obtain⟨m,x,y,rfl⟩:=sS hp
    have hk:=h.own.2
    obtain⟨h1,h2,h3⟩:=C5 n y (hk y (by simp))
    simp only[sH]
    refine⟨fun z hz=>?_,h2,?_⟩
    · rcases dS.1 hz with rfl | hz
      · exact hk z (by simp)
      · exact h1 z hz
    · simp only[bS,bD,Tm.jU]
      omega
  · exact⟨by simp,h,by simp [bS]⟩
theorem CJ{t:Tm}(h:nZ t=true):∃n s x y,t=.mk 3 n s [x,y]∧0<cG s:=by
 obtain⟨k,n,s,ts⟩:=t
 simp only[nZ,bV,bK] at h
 simp only[Tm.k,Tm.s,Tm.ts] at h
 obtain⟨rfl,h2,h3⟩:=h
 match ts,h2 with
 | [x,y],_=>exact⟨n,s,x,y,rfl,h3⟩
theorem A1{T:Tm→ByteArray}{t:Tm}(lv:Nat):(T t).size≤(mE T t lv).size∧(mE T t lv).size≤(T t).size+2:=by
 unfold mE
 split
 · rw[bU,bU];show _≤1+_+1∧1+_+1≤_;omega
 · omega
theorem aC8{T:Tm→ByteArray}{t:Tm}(lv:Nat):(T t).size≤(qD T t lv).size∧(qD T t lv).size≤(T t).size+2:=by
 unfold qD
 split
 · rw[bU,bU];show _≤1+_+1∧1+_+1≤_;omega
 · exact A1 lv
theorem aEP{T:Tm→ByteArray}{t:Tm}(lv:Nat):(T t).size≤(qN T t lv).size∧(qN T t lv).size≤(T t).size+4:=by
 have:=A1 (T:=T) (t:=t) lv
 unfold qN
 split
 · rw[bU,bU];show _≤1+_+1∧1+_+1≤_;omega
 · omega
theorem zP:∀(n:Nat) (t:Tm),Ws t→(tx n t).size≤32*t.nodes
 | 0,t,_=>i7 _
 | n+1,t,h=>by
  have hT:=zP n
  unfold tx
  split
  · rename_i hp
    obtain⟨h1,h2,h3⟩:=C5 n t h
    have ha:=w7 (T:=tx n) (l:=(spine n t).1) fun x hx=>hT x (h1 x hx)
    have hb:=hT _ h2
    have hq:=kP (spine n t).2
    have hl:1≤(spine n t).1.length∨n=0:=by
     cases n with
     | zero=>exact Or.inr rfl
     | succ m=>left;unfold spine;rw[aU hp];simp
    have h4:3≤t.nodes:=by obtain⟨m,x,y,rfl⟩:=sS hp;simp only[Tm.jU,bS];have:=kP x;have:=kP y;omega
    have hb2:1≤(spine n t).1.length∨((tx n (spine n t).2).size=0∧(gE (tx n) (spine n t).1).size=0):=by
     rcases hl with hl | rfl
     · left;omega
     · right;exact⟨rfl,rfl⟩
    unfold u6
    split
    · rw[bU,bU];show 1+_+1≤_;omega
    · rw[bU,bU,bU,bU];show 1+_+1+_+1≤_;omega
  split
  · rename_i hp
    obtain⟨m,s,x,y,rfl,hs⟩:=CJ hp
    have hk:=h.own.2
    have h6:=h.size.1
    simp only[sH,Tm.jU,bS,Tm.s]
    have hx:=hT x (hk x (by simp))
    have hy:=hT y (hk y (by simp))
    have hl:=(aC8 (T:=tx n) (t:=x) (lvl (cG s))).2
    have hr:=(aEP (T:=tx n) (t:=y) (cG s - 1)).2
    rw[bU,bU]
    have hsp:(kV s).size≤8:=by
     have h6:s.size≤6:=h6
     unfold kV
     split
     · rw[bU,bU];show 1+_+1≤_;omega
     · omega
    show _+(kV s).size+_≤_
    omega
  split
  · obtain⟨k,m,s,ts⟩:=t
    have ha:=w7 (T:=tx n) (l:=ts) fun x hx=>hT x (h.own.2 x hx)
    have h6:s.size≤6:=h.size.1
    have h4:ts.length≤4:=by rcases sR h.own.1 with h | h | h<;>omega
    rw[bU,bU,bU,Tm.jU]
    simp only[Tm.s,Tm.ts]
    show s.size+1+_+1≤_
    omega
  · have h6:=h.size.1
    have hp:=kP t
    unfold sI
    split
    · show 1≤_;omega
    · split
      · unfold gN
        split
        · rw[bU];have:=oL 20 (-t.n).toNat ⟨#[]⟩;have h0:(⟨#[]⟩:ByteArray).size=0:=rfl;show 1+_≤_;omega
        · have:=oL 20 t.n.toNat ⟨#[]⟩;have h0:(⟨#[]⟩:ByteArray).size=0:=rfl;omega
      · omega
def n6:Nat→Tm→Tm
 | 0,t=>t
 | i+1,t=>n6 i (mL t 1)
theorem SR:∀(i:Nat) (t:Tm),n6 (i+1) t=mL (n6 i t) 1
 | 0,t=>rfl
 | i+1,t=>by rw[n6,SR i];try rfl
theorem SS:∀(n:Nat) (t:Tm) (i:Nat) (x:Tm),(spine n t).1[i]?=some x→kQ (n6 i t)=true∧mL (n6 i t) 0=x
 | 0,t,i,x,h=>by simp [spine] at h
 | n+1,t,i,x,h=>by
  unfold spine at h
  split at h
  · rename_i hp
    cases i with
    | zero=>simp at h;exact⟨hp,h⟩
    | succ i=>exact SS n _ i x (by simpa using h)
  · simp at h
theorem ST:∀(n:Nat) (t:Tm),t.nodes≤n+1→(spine n t).2=n6 (spine n t).1.length t∧kQ (spine n t).2=false
 | 0,t,h=>by
  refine⟨rfl,?_⟩
  cases hp:kQ t with
  | false=>exact hp
  | true=>obtain⟨m,x,y,rfl⟩:=sS hp;simp only[Tm.jU,bS] at h;have:=kP x;omega
 | n+1,t,h=>by
  unfold spine
  split
  · rename_i hp
    obtain⟨m,x,y,rfl⟩:=sS hp
    simp only[Tm.jU,bS] at h
    have:=kP x
    have:=ST n y (by omega)
    exact⟨this.1,this.2⟩
  · rename_i hp
    exact⟨rfl,by simpa using hp⟩
theorem aGE{n:Nat}{t:Tm}(h:Ws t)(hn:1≤n):1≤(tx n t).size:=by
 obtain⟨n,rfl⟩:∃m,n=m+1:=⟨n - 1,by omega⟩
 unfold tx
 split
 · unfold u6
   split
   · rw[bU,bU];show 1≤1+_+1;omega
   · rw[bU];show 1≤_+1;omega
 split
 · rename_i hp
   obtain⟨m,s,x,y,rfl,hs⟩:=CJ hp
   have h6:1≤s.size:=h.size.2 rfl
   rw[bU,bU]
   have:1≤(kV s).size:=by
    unfold kV
    split
    · rw[bU,bU];omega
    · exact h6
   show 1≤_+(kV s).size+_
   omega
 split
 · rw[bU];show 1≤_+1;omega
 · obtain⟨k,m,s,ts⟩:=t
   rw[show sI (.mk k m s ts)=if k=1 then yD m else if k=2 then gN m else s from rfl]
   rcases sR h.own.1 with h1 | h1 | h1
   · rw[aU h1.1];exact dJ _
   · rw[aS (by omega),aU h1.1]
     unfold gN
     split
     · rw[bU];show 1≤1+_;omega
     · have hf:∀f n acc,1≤(eO (f+1) n acc).size:=by
        intro f
        induction f with
        | zero=>
         intro n acc;unfold eO;split
         · simp only[eO];rw[bU];show 1≤1+_;omega
         · rw[bU];show 1≤1+_;omega
        | succ f ih=>
         intro n acc;unfold eO;split
         · exact ih _ _
         · rw[bU];show 1≤1+_;omega
       exact hf 19 _ _
   · rw[aS (by omega),aS (by omega)];exact(CO h1.2.2.1).1
end Go.AW
namespace Go.AW
open Go.Proofs.Tryz
theorem R9{k n:Int}{s:ByteArray}{ts:List Tm}:kQ (.mk k n s ts)=(decide (k=3)&&(decide (s=⟨#[46]⟩)&&decide (ts.length=2))):=rfl
theorem aDR{k n:Int}{s:ByteArray}{ts:List Tm}:yF (.mk k n s ts)=(decide (k=3)&&(decide (s=⟨#[91,93]⟩)&&decide (ts.length=0))):=rfl
theorem aCY{k n:Int}{s:ByteArray}{ts:List Tm}:nZ (.mk k n s ts)=(decide (k=3)&&(decide (ts.length=2)&&decide (0<cG s))):=rfl
theorem AX{k n:Int}{s:ByteArray}{ts:List Tm}:AY (.mk k n s ts)=(decide (k=3)&&decide (0<ts.length)):=rfl
theorem aE7{k n:Int}{s:ByteArray}{ts:List Tm}:sZ (.mk k n s ts)=(decide (k=3)&&(decide (ts.length=0)&&decide (0<cG s))):=rfl
abbrev DD:=zi aZ (zi cB (zi b7 (zi cE bH)))
theorem xC(t:Tm)(st:aA):aD prog 233 [t.av] st (fun r st'=>r=.bool (kQ t)∧st'=st):=by
 obtain⟨k,n,s,ts⟩:=t
 rw[R9]
 refine wF [1000000] 1 func233 ntmps233 rfl rfl ?_
 intro _
 simp only[a6]
 by_cases h1:k=3
 case neg=>
  rw[dP h1,dL]
  simp only[h1,bB,aB,seval,DD]
 rw[dK h1,dH]
 by_cases h2:s=⟨#[46]⟩
 case neg=>
  rw[dP h2,dL]
  simp only[h1,h2,a8,bB,aB,seval,DD]
 rw[dK h2,dH]
 have h3:decide (((ts.length:Nat):Int)=2)=decide (ts.length=2):=by rw[r0];omega
 simp only[h1,h2,h3,a8,aG,aB,seval,DD]
abbrev DF:=zi aZ (zi cB (zi b7 (zi cE bH)))
theorem XR(t:Tm)(st:aA):aD prog 298 [t.av] st (fun r st'=>r=.bool (yF t)∧st'=st):=by
 obtain⟨k,n,s,ts⟩:=t
 rw[aDR]
 refine wF [1000000] 1 func298 ntmps298 rfl rfl ?_
 intro _
 simp only[a6]
 by_cases h1:k=3
 case neg=>
  rw[dP h1,dL]
  simp only[h1,bB,aB,seval,DF]
 rw[dK h1,dH]
 by_cases h2:s=⟨#[91,93]⟩
 case neg=>
  rw[dP h2,dL]
  simp only[h1,h2,a8,bB,aB,seval,DF]
 rw[dK h2,dH]
 have h3:decide (((ts.length:Nat):Int)=0)=decide (ts.length=0):=by rw[r0];omega
 simp only[h1,h2,h3,a8,aG,aB,seval,DF]
abbrev DE:=zi aZ (zi cB (zi b7 (zi cE bH)))
theorem FB(t:Tm)(st:aA):aD prog 235 [t.av] st (fun r st'=>r=.bool (nZ t)∧st'=st):=by
 obtain⟨k,n,s,ts⟩:=t
 rw[aCY]
 refine wF [1000000] 1 func235 ntmps235 rfl rfl ?_
 intro _
 simp only[a6]
 by_cases h1:k=3
 case neg=>
  rw[dP h1,dL]
  simp only[h1,bB,aB,seval,DE]
 rw[dK h1,dH]
 by_cases h2:ts.length=2
 case neg=>
  rw[dP h2,dL]
  have h2':(((ts.length:Nat):Int)=2)=False:=bC (by omega)
  simp only[h1,h2',a8,bB,aG,aB,seval,DE]
 rw[dK h2,dH]
 have h2':(((ts.length:Nat):Int)=2)=True:=bR (by omega)
 simp only[h1,h2',a8,aG,aB,seval,DE]
 refine(oJ s _).to ?_
 have h3:decide ((0:Int)<(cG s:Int))=decide (0<cG s):=by rw[r0];omega
 simp only[h3,aB,seval]
abbrev DG:=zi aZ (zi cB (zi b7 (zi cE bH)))
theorem FC(t:Tm)(st:aA):aD prog 299 [t.av] st (fun r st'=>r=.bool (sZ t)∧st'=st):=by
 obtain⟨k,n,s,ts⟩:=t
 rw[aE7]
 refine wF [1000000] 1 func299 ntmps299 rfl rfl ?_
 intro _
 simp only[a6]
 by_cases h1:k=3
 case neg=>
  rw[dP h1,dL]
  simp only[h1,bB,aB,seval,DG]
 rw[dK h1,dH]
 by_cases h2:ts.length=0
 case neg=>
  rw[dP h2,dL]
  have h2':(((ts.length:Nat):Int)=0)=False:=bC (by omega)
  simp only[h1,h2',a8,bB,aG,aB,seval,DG]
 rw[dK h2,dH]
 have h2':(((ts.length:Nat):Int)=0)=True:=bR (by omega)
 simp only[h1,h2',a8,aG,aB,seval,DG]
 refine(oJ s _).to ?_
 have h3:decide ((0:Int)<(cG s:Int))=decide (0<cG s):=by rw[r0];omega
 simp only[h3,aB,seval]
theorem X8(s:ByteArray)(hs:s.size≤1000)(st:aA):aD prog 237 [.str s] st (fun r st'=>r=.str (kV s)∧st'=st):=by
 refine wF [1000000] 1 func237 ntmps237 rfl rfl ?_
 intro _
 have hm:maxLen=9223372036854775807:=by rfl
 have g1:(⟨#[32]⟩:ByteArray).size+s.size≤maxLen:=by show 1+s.size≤_;omega
 have g2:((⟨#[32]⟩:ByteArray)++s).size+(⟨#[32]⟩:ByteArray).size≤maxLen:=by rw[bU];show 1+s.size+1≤_;omega
 by_cases h1:s=⟨#[105,115]⟩
 · have hW:d9 s=true:=by unfold d9;rw[dK h1];try rfl
   unfold kV
   rw[aU hW]
   have h1':=bR h1
   simp only[h1',g1,g2,↓reduceIte,a8,aB,seval]
 · have h1':=bC h1
   by_cases h2:s=⟨#[109,111,100]⟩
   · have hW:d9 s=true:=by unfold d9;rw[dK h2];exact pJ _
     unfold kV
     rw[aU hW]
     have h2':=bR h2
     simp only[h1',h2',g1,g2,↓reduceIte,a8,bB,aB,seval]
   · have hW:d9 s=false:=by unfold d9;rw[dP h1,dP h2];try rfl
     unfold kV
     rw[aS (by rw[hW];decide)]
     have h2':=bC h2
     simp only[h1',h2',bB,aB,seval]
theorem X4(s:ByteArray)(hs:1≤s.size)(st:aA):aD prog 301 [.str s] st (fun r st'=>r=.bool (yM (sb s))∧st'=st):=by
 refine wF [1000000] 1 func301 ntmps301 rfl rfl ?_
 intro _
 obtain⟨x,hx⟩:=nI (s:=s) (n:=0) (by omega)
 have hix:=lN (P:=prog) (t:=9) kZ hx
 rw[show((0:Nat):Int)=0 from rfl] at hix
 unfold yM
 simp only[n0 hx,lO hx]
 simp only[aB,seval]
 refine(RN s 0 _).to ?_
 rw[n0 hx]
 cases h1:letter x with
 | true=>
  simp only[aB,seval]
  simp
 | false=>
  simp only[aB,seval]
  refine(qG s 0 _).to ?_
  rw[n0 hx]
  cases h2:cA x with
  | true=>
   simp only[aB,seval]
   simp
  | false=>
   by_cases h3:65≤x.toNat
   case' pos=>have h3':((65:Int)≤(x.toNat:Int))=True:=bR (by omega)
   case' neg=>have h3':((65:Int)≤(x.toNat:Int))=False:=bC (by omega)
   all_goals
    by_cases h4:x.toNat≤90
    case' pos=>have h4':((x.toNat:Int)≤90)=True:=bR (by omega)
    case' neg=>have h4':((x.toNat:Int)≤90)=False:=bC (by omega)
   all_goals
    by_cases h5:x.toNat=91
    case' pos=>have h5':((x.toNat:Int)=91)=True:=bR (by omega)
    case' neg=>have h5':((x.toNat:Int)=91)=False:=bC (by omega)
   all_goals
    by_cases h6:x.toNat=40
    case' pos=>have h6':((x.toNat:Int)=40)=True:=bR (by omega)
    case' neg=>have h6':((x.toNat:Int)=40)=False:=bC (by omega)
   all_goals try (exfalso;omega)
   all_goals
    simp only[hix,h3',h4',h5',h6',a8,bB,aB,seval]
    simp [lW,h3,h4,h5,h6]
theorem A3(n:Nat):bytesOf [AV.int .u8 ((n:Nat):Int)]=some [UInt8.ofNat n]:=by simp only[bytesOf,jZ,l6]
theorem zX{x:Int}{m:Nat}(h:x=(m:Int))(hm:m≤255):IntKind.wrap .u8 x=(m:Int):=by rw[IntKind.wrap_u8];omega
abbrev aFZ:=zi aZ (zi hY (zi b7 pE))
theorem XQ(m:Nat)(hm:m≤25)(st:aA):aD prog 147 [.int .i64 (m:Int)] st (fun r st'=>r=.str (yD m)∧st'=st):=by
 refine wF [1000000] 1 func147 ntmps147 rfl rfl ?_
 intro _
 have hw:=zX (x:=(m:Int)) rfl (by omega)
 obtain⟨y,hy⟩:∃y,y=65+m:=⟨_,rfl⟩
 have hw2:=zX (x:=65+(m:Int)) (m:=y) (by omega) (by omega)
 simp only[l8,hw,hw2,A3,aB,seval,aFZ]
 subst hy
 rfl
abbrev TR:=zi aZ (zi hY (zi b7 pE))
theorem A6(n:Nat)(hn:n≤1000000)(st:aA):aD prog 253 [.int .i64 (n:Int)] st (fun r st'=>r=.str (eO 20 n ⟨#[]⟩)∧st'=st):=by
 refine wF [1000000] 1 func253 ntmps253 rfl rfl ?_
 intro _
 have h1:((n:Int)< -9223372036854775807)=False:=bC (by omega)
 have h2:((n:Int)<0)=False:=bC (by omega)
 simp only[h1,h2,bB,aB,seval]
 generalize hT:eO 20 n ⟨#[]⟩=T
 refine fH (σ:=Nat×ByteArray×Nat) [1000000] [2] (fun x=>eO x.2.2 x.1 x.2.1=T∧x.1<10 ^ x.2.2∧x.1≤1000000∧1≤x.2.2∧x.2.1.size+x.2.2≤20) (fun x=>[(0,.int .i64 (x.1:Int)),(3,.str x.2.1)]) (fun _=>st) (fun x=>x.2.2) (by decide +kernel) ⟨(n,⟨#[]⟩,20),⟨hT,by simp only;omega,hn,by simp only;omega,by show 0+20≤20;omega⟩,aL.mk (by simp only[aB,seval])⟩ ?_
 rintro⟨k,acc,f⟩ ⟨hd,hk,hk6,hf,hb⟩
 simp only at hd hk hk6 hf hb ⊢
 obtain⟨f,rfl⟩:∃f',f=f'+1:=⟨f - 1,by omega⟩
 have hm:maxLen=9223372036854775807:=by rfl
 have hsz:∀u:UInt8,(⟨#[u]⟩:ByteArray).size+acc.size≤maxLen:=fun u=>by show 1+acc.size≤_;omega
 have hr:((k:Int)).tmod 10=((k % 10:Nat):Int):=by rw[Int.tmod_eq_emod_of_nonneg (by omega)];omega
 have hq:((k:Int)).tdiv 10=((k / 10:Nat):Int):=by rw[Int.tdiv_eq_ediv_of_nonneg (by omega)];omega
 simp only[aB,seval]
 refine aW (fun h3=>?_) (fun h3=>?_)
 · simp only[bK] at h3
   unfold eO at hd
   rw[aU (by omega)] at hd
   rw[Nat.pow_succ] at hk
   obtain⟨y,hy⟩:∃y,y=48+k % 10:=⟨_,rfl⟩
   obtain⟨q,hq'⟩:∃q,q=k / 10:=⟨_,rfl⟩
   obtain⟨r,hr'⟩:∃r,r=k % 10:=⟨_,rfl⟩
   rw[←hr'] at hr
   rw[←hq'] at hq
   have hwr:=bO (n:=(r:Int))
   have hw:=iW (x:=48+(r:Int)) (m:=y) (by omega) (by omega)
   have hw8:=zX (x:=(y:Int)) (m:=y) rfl (by omega)
   have hw2:=bO (n:=(q:Int))
   simp only[l8,hr,hq,hw,hw8,hw2,A3,hsz,aB,seval,TR]
   refine⟨(q,⟨#[UInt8.ofNat y]⟩++acc,f),by simp only;omega,⟨by rw[hq',hy];exact hd,by simp only;omega,by simp only;omega,?_,?_⟩,aL.mk (by simp only[aB,seval]<;>rfl)⟩
   · show 1≤f
     rcases AD f with rfl | h
     · simp only[Nat.pow_zero] at hk;omega
     · exact h
   · show(⟨#[UInt8.ofNat y]⟩++acc:ByteArray).size+f≤20
     rw[bU]
     show 1+acc.size+f≤20
     omega
 · simp only[dF] at h3
   unfold eO at hd
   rw[aS (by omega)] at hd
   obtain⟨y,hy⟩:∃y,y=48+k:=⟨_,rfl⟩
   have hw:=iW (x:=48+(k:Int)) (m:=y) (by omega) (by omega)
   have hw8:=zX (x:=(y:Int)) (m:=y) rfl (by omega)
   simp only[l8,hw,hw8,A3,hsz,aB,seval,TR]
   rw[←hd,hy]
theorem E3(n:Int)(h1: -999≤n)(h2:n≤999)(st:aA):aD prog 252 [.int .i64 n] st (fun r st'=>r=.str (gN n)∧st'=st):=by
 refine wF [1000000] 1 func252 ntmps252 rfl rfl ?_
 intro _
 unfold gN
 have hm:maxLen=9223372036854775807:=by rfl
 by_cases h:n<0
 · rw[aU h]
   obtain⟨m,hm'⟩:∃m:Nat,m=(-n).toNat:=⟨_,rfl⟩
   rw[←hm']
   have h':=bR h
   have hw:=iW (x:=0 - n) (m:=m) (by omega) (by omega)
   have hw':=iW (x:= -n) (m:=m) (by omega) (by omega)
   have hs:(⟨#[45]⟩:ByteArray).size+(eO 20 m ⟨#[]⟩).size≤maxLen:=by have:=oL 20 m ⟨#[]⟩;have h0:(⟨#[]⟩:ByteArray).size=0:=rfl;show 1+_≤_;omega
   simp only[h',hw,↓reduceIte,a8,aB,seval]
   refine(A6 m (by omega) _).to ?_
   simp only[hs,↓reduceIte,aB,seval]
 · rw[aS h]
   obtain⟨m,rfl⟩:=q5 (show 0≤n by omega)
   have h':=bC h
   rw[jZ]
   simp only[h',bB,aB,seval]
   refine(A6 m (by omega) _).to ?_
   simp only[aB,seval]
abbrev vP:=zi aZ (zi b7 (zi cE bH))
theorem XZ(t:Tm)(ht:Ws t)(h0:t.k=3→t.ts= [])(st:aA):aD prog 240 [t.av] st (fun r st'=>r=.str (sI t)∧st'=st):=by
 obtain⟨k,n,s,ts⟩:=t
 have hp:=xC (.mk k n s ts)
 simp only[a6] at hp ⊢
 rw[show sI (.mk k n s ts)=if k=1 then yD n else if k=2 then gN n else s from rfl]
 have h0:k=3→ts= []:=h0
 refine wF [1000000] 1 func240 ntmps240 rfl rfl ?_
 intro _
 rcases sR ht.own.1 with ⟨rfl,h1,h2,rfl,h4⟩ | ⟨rfl,h1,h2,rfl,h4⟩ | ⟨rfl,rfl,h2,h4⟩
 · obtain⟨m,rfl⟩:=q5 h1
   simp only[aB,seval,vP]
   refine(XQ m (by omega) _).to ?_
   simp only[aB,seval]
 · skip
   simp only[aB,seval,vP]
   refine(E3 n h1 h2 _).to ?_
   simp only[aB,seval]
 · obtain rfl:=h0 rfl
   simp only[bF,aB,seval,vP]
   refine(hp _).to ?_
   rw[show kQ (.mk 3 0 s [])=false by rw[R9];simp]
   simp only[aB,seval,vP]
   refine fH (σ:=Unit) [1000000] [1,2] (fun _=>True) (fun _=>[(3,.str s),(4,.int .i64 0)]) (fun _=>st) (fun _=>0) (by decide +kernel) ⟨(),trivial,aL.mk (by simp only[aB,seval])⟩ ?_
   rintro _ _
   simp only[bN,aB,seval,vP]
def oB(T:Tm→ByteArray)(t:Tm):Prop:=(∀st:aA,aD prog 148 [t.av] st (fun r st'=>r=.str (T t)∧st'=st))∧(T t).size≤32*t.nodes∧1≤(T t).size∧t.nodes≤1000
abbrev DI:=zi aZ (zi b7 (zi cE bH))
theorem E9{T:Tm→ByteArray}(l:List Tm)(hT:∀t∈l,oB T t)(hn:bS Tm.nodes l≤10000)(hl:l.length≤10000)(st:aA):aD prog 239 [.slice (l.map Tm.av)] st (fun r st'=>r=.str (gE T l)∧st'=st):=by
 refine wF [1000000] 1 func239 ntmps239 rfl rfl ?_
 intro _
 simp only[aB,seval]
 refine fW (σ:=Unit) [1000000] [0,2] l (fun i _=>True) (fun i _=>[(3,.str (gE T (l.take i))),(4,.int .i64 i)]) (fun _ _=>st) (by decide +kernel) ⟨(),trivial,aL.mk (by simp only[k9,aB,↓bG,seval]<;>rfl)⟩ (fun i x _ hx hlt b9 hdr hinv=>?_) (fun _ hge hinv=>?_)
 case refine_2=>
  rw[fZ]
  simp only[hge,aG,aB,seval,DI]
 have hxm:=c8 hx
 obtain⟨c1,c2,c3,c4⟩:=hT x hxm
 have hw:=bO (n:=(i:Int)+1)
 have hat:=cJ (av:=Tm.av) cS hx (aR x)
 have gJ:=VU (T:=T) hx
 have hsz:=w7 (T:=T) (l:=l.take i) fun y hy=>(hT y (mZ hy)).2.1
 have hsl:bS Tm.nodes (l.take i)≤bS Tm.nodes l:=SZ l i
 have hln:(l.take i).length≤10000:=by rw[dZ];omega
 have hm:maxLen=9223372036854775807:=by rfl
 have hs1:(gE T (l.take i)).size+(⟨#[44]⟩:ByteArray).size≤maxLen:=by show _+1≤_;omega
 have hs2:(gE T (l.take i)++(⟨#[44]⟩:ByteArray)).size+(T x).size≤maxLen:=by rw[bU];show _+1+_≤_;omega
 have hs3:(gE T (l.take i)).size+(T x).size≤maxLen:=by omega
 by_cases h0:0<i
 · rw[aU h0] at gJ
   have h0':((0:Int)<(i:Int))=True:=bR (by omega)
   simp only[aG,hat,aQ,aR,b9,h0',hs1,↓reduceIte,a8,aB,seval,DI]
   refine(c1 _).to ?_
   simp only[hs2,↓reduceIte,aB,seval]
   exact⟨(),aL.mk (by simp only[hw,gJ,↓reduceIte,aB,seval])⟩
 · rw[aS h0] at gJ
   have h0':((0:Int)<(i:Int))=False:=bC (by omega)
   simp only[aG,hat,aQ,aR,b9,h0',↓reduceIte,a8,bB,aB,seval,DI]
   refine(c1 _).to ?_
   simp only[hs3,↓reduceIte,aB,seval]
   exact⟨(),aL.mk (by simp only[hw,gJ,↓reduceIte,aB,seval])⟩
abbrev vQ:=zi aZ (zi b7 bH)
theorem FA{T:Tm→ByteArray}(t:Tm)(hT:oB T t)(lv:Nat)(hlv:lv≤10)(st:aA):aD prog 300 [t.av,.int .i64 (lv:Int)] st (fun r st'=>r=.str (mE T t lv)∧st'=st):=by
 obtain⟨c1,c2,c3,c4⟩:=hT
 have hm:maxLen=9223372036854775807:=by rfl
 have hs1:(⟨#[40]⟩:ByteArray).size+(T t).size≤maxLen:=by show 1+_≤_;omega
 have hs2:((⟨#[40]⟩:ByteArray)++T t).size+(⟨#[41]⟩:ByteArray).size≤maxLen:=by rw[bU];show 1+_+1≤_;omega
 have hi:=FB t
 obtain⟨k,n,s,ts⟩:=t
 rw[show mE T (.mk k n s ts) lv=if(nZ (.mk k n s ts)&&decide (lv<cG s))=true then(⟨#[40]⟩++T (.mk k n s ts))++⟨#[41]⟩ else T (.mk k n s ts) from rfl]
 generalize hTT:T (.mk k n s ts)=u at *
 simp only[a6] at hi c1 ⊢
 refine wF [1000000] 2 func300 ntmps300 rfl rfl ?_
 intro _
 simp only[aB,seval,vQ]
 refine(hi _).to ?_
 cases hk:nZ (.mk k n s ts) with
 | false=>
  rw[dL,aS (by decide)]
  simp only[aB,seval,vQ]
  refine(c1 _).to ?_
  simp only[aB,seval]
 | true=>
  rw[dH]
  simp only[aB,seval,vQ]
  refine(oJ s _).to ?_
  by_cases h:lv<cG s
  · rw[dK h,aU rfl]
    have h':((lv:Int)<(cG s:Int))=True:=bR (by omega)
    simp only[h',↓reduceIte,a8,aB,seval,vQ]
    refine(c1 _).to ?_
    simp only[hs1,hs2,↓reduceIte,aB,seval]
  · rw[dP h,aS (by decide)]
    have h':((lv:Int)<(cG s:Int))=False:=bC (by omega)
    simp only[h',↓reduceIte,bB,aB,seval,vQ]
    refine(c1 _).to ?_
    simp only[↓reduceIte,aB,seval]
abbrev DH:=zi aZ (zi b7 bH)
theorem X1{T:Tm→ByteArray}(t:Tm)(hT:oB T t)(lv:Nat)(hlv:lv≤10)(st:aA):aD prog 236 [t.av,.int .i64 (lv:Int)] st (fun r st'=>r=.str (qD T t lv)∧st'=st):=by
 have hb:=FA t hT lv hlv
 obtain⟨c1,c2,c3,c4⟩:=hT
 have hm:maxLen=9223372036854775807:=by rfl
 have hs1:(⟨#[40]⟩:ByteArray).size+(T t).size≤maxLen:=by show 1+_≤_;omega
 have hs2:((⟨#[40]⟩:ByteArray)++T t).size+(⟨#[41]⟩:ByteArray).size≤maxLen:=by rw[bU];show 1+_+1≤_;omega
 have hi:=FC t
 unfold qD
 refine wF [1000000] 2 func236 ntmps236 rfl rfl ?_
 intro _
 simp only[aQ,aR,bW,↓reduceIte,aB,seval,DH]
 refine(hi _).to ?_
 cases hk:sZ t with
 | false=>
  rw[aS (by decide)]
  simp only[aQ,aR,↓reduceIte,aB,seval,DH]
  refine(hb _).to ?_
  simp only[↓reduceIte,aB,seval]
 | true=>
  rw[aU rfl]
  simp only[aQ,aR,↓reduceIte,aB,seval,DH]
  refine(c1 _).to ?_
  simp only[↓reduceIte,hs1,hs2,aB,seval]
abbrev TS:=zi aZ (zi cB (zi b7 bH))
theorem X7{T:Tm→ByteArray}(t:Tm)(hT:oB T t)(lv:Nat)(hlv:lv≤10)(st:aA):aD prog 238 [t.av,.int .i64 (lv:Int)] st (fun r st'=>r=.str (qN T t lv)∧st'=st):=by
 have hb:=FA t hT lv hlv
 have hbs:=A1 (T:=T) (t:=t) lv
 obtain⟨c1,c2,c3,c4⟩:=hT
 have hm:maxLen=9223372036854775807:=by rfl
 unfold qN
 generalize mE T t lv=u at *
 have hs1:(⟨#[40]⟩:ByteArray).size+u.size≤maxLen:=by show 1+_≤_;omega
 have hs2:((⟨#[40]⟩:ByteArray)++u).size+(⟨#[41]⟩:ByteArray).size≤maxLen:=by rw[bU];show 1+_+1≤_;omega
 have hi:=FC t
 have hpl:=X4 u (by omega)
 refine wF [1000000] 2 func238 ntmps238 rfl rfl ?_
 intro _
 simp only[aQ,aR,bW,↓reduceIte,aB,seval,TS]
 refine(hb _).to ?_
 simp only[aQ,aR,↓reduceIte,aB,seval,TS]
 refine(hi _).to ?_
 cases hk:sZ t with
 | true=>
  rw[pK,aU rfl]
  simp only[↓reduceIte,hs1,hs2,aB,seval]
 | false=>
  rw[k7]
  simp only[↓reduceIte,aB,seval]
  refine(hpl _).to ?_
  cases hq:yM (sb u) with
  | true=>
   rw[aS (by decide)]
   simp only[↓reduceIte,aB,seval]
  | false=>
   rw[aU (by decide)]
   simp only[↓reduceIte,hs1,hs2,aB,seval]
theorem EH{st:aA}{b q:Nat}{l:List AV}{o:AO}(hb:l≠[]→st b=none)(h:st q=some o):aY st b l q=some o:=by
 cases l with
 | nil=>exact h
 | cons x l=>exact(aA.aV _ _ (by rintro rfl;have:=hb (by simp);rw[h] at this;cases this)).trans h
abbrev qS:=zi b7 (zi cE bH)
set_option maxHeartbeats 1000000 in
theorem X2{T:Tm→ByteArray}(n:Nat)(t:Tm)(hn:t.nodes≤n+1)(hws:Ws t)(BX:t.nodes≤1000)(hT:∀x,Ws x→x.nodes<t.nodes→oB T x)(hp:kQ t=true)(st:aA):aD prog 234 [t.av] st (fun r st'=>r=.str (u6 T (spine n t))∧st'=st):=by
 obtain⟨q1,q2,q3⟩:=C5 n t hws
 obtain⟨e1,e2⟩:=ST n t hn
 have QQ:=SS n t
 have hnp:=kP (spine n t).2
 have hne:1≤(spine n t).1.length:=by
  cases n with
  | zero=>obtain⟨m,x,y,rfl⟩:=sS hp;simp only[Tm.jU,bS] at hn;have:=kP x;omega
  | succ m=>unfold spine;rw[aU hp];simp
 generalize spine n t=p at *
 obtain⟨its,tl⟩:=p
 simp only at q1 q2 q3 e1 e2 QQ hnp hne
 have hTi:∀x∈its,oB T x:=fun x hx=>hT x (q1 x hx) (by have:=RL hx;omega)
 have hTt:oB T tl:=hT tl q2 (by omega)
 have kO:=E9 its hTi (by omega) (by omega)
 have aH0:=w7 (T:=T) (l:=its) fun x hx=>(hTi x hx).2.1
 obtain⟨c1,c2,c3,c4⟩:=hTt
 have hm:maxLen=9223372036854775807:=by rfl
 have hs1:(⟨#[91]⟩:ByteArray).size+(gE T its).size≤maxLen:=by show 1+_≤_;omega
 have hs2:((⟨#[91]⟩:ByteArray)++gE T its).size+(⟨#[93]⟩:ByteArray).size≤maxLen:=by rw[bU];show 1+_+1≤_;omega
 have hs3:((⟨#[91]⟩:ByteArray)++gE T its).size+(⟨#[124]⟩:ByteArray).size≤maxLen:=by rw[bU];show 1+_+1≤_;omega
 have hs4:(((⟨#[91]⟩:ByteArray)++gE T its)++(⟨#[124]⟩:ByteArray)).size+(T tl).size≤maxLen:=by rw[bU,bU];show 1+_+1+_≤_;omega
 have hs5:((((⟨#[91]⟩:ByteArray)++gE T its)++(⟨#[124]⟩:ByteArray))++T tl).size+(⟨#[93]⟩:ByteArray).size≤maxLen:=by rw[bU,bU,bU];show 1+_+1+_+1≤_;omega
 refine aD.oN ?_
 refine wF [1000000,1] 1 func234 ntmps234 rfl rfl ?_
 intro _
 simp only[bW,↓reduceIte,aB,seval,qS]
 intro b1 hb1
 have hD:=fun(o:AO)=>(aH.refl st).aC (o:=o) hb1
 refine zY (σ:=Unit) [1000000,1] [1,2] its 4 3 (fun i _=>(its.take i).map Tm.av) (fun _ _=>True) (fun i _=>[]) (fun i _=>st.aC b1 (.cells (n6 i t).av.cells)) (fun i _ _ e he=>by simp only[fN] at he;obtain⟨x,_,rfl⟩:=he;exact⟨bW _,aR _⟩) (by decide +kernel) ⟨(),0,trivial,fun h=>absurd rfl h,aL.mk (by simp only[kJ,k9,bF,↓reduceIte,aB,seval])⟩ (fun i x s b hx hlt b9 hdr hinv hb=>?_) (fun s b hge hinv=>?_)
 case refine_1=>
  obtain⟨g1,g2⟩:=QQ i x hx
  have hst:=SR i t
  generalize n6 i t=u at *
  have hpu:=xC u
  rw[g1] at hpu
  obtain⟨m,y,z,rfl⟩:=sS g1
  rw[sH.1] at g2
  rw[sH.2] at hst
  subst g2
  have hcs:(Tm.mk 3 m ⟨#[46]⟩ [y,z]).av.cells= [.int .i64 3,.int .i64 m,.str ⟨#[46]⟩,.slice [y.av,z.av]]:=by rw[a6];try rfl
  rw[hcs] at hb ⊢
  have hlk:aY (st.aC b1 (.cells [.int .i64 3,.int .i64 m,.str ⟨#[46]⟩,.slice [y.av,z.av]])) b ((its.take i).map Tm.av) b1=some (.cells [.int .i64 3,.int .i64 m,.str ⟨#[46]⟩,.slice [y.av,z.av]]):=EH hb (aA.aP _ _ _)
  have hi0:=cJ (av:=Tm.av) (l:=[y,z]) (i:=0) cS rfl (aR y)
  have hi1:=cJ (av:=Tm.av) (l:=[y,z]) (i:=1) cS rfl (aR z)
  rw[show((0:Nat):Int)=0 from rfl] at hi0
  rw[show((1:Nat):Int)=1 from rfl] at hi1
  have cO:((its.take i).map Tm.av).length=i:=by simp only[aG,dZ];omega
  have htk:(its.take i).map Tm.av++ [y.av]=(its.take (i+1)).map Tm.av:=by rw[gW,hx];simp
  rw[hst]
  simp only[a6,bT,bF] at hlk hpu hi0 hi1 hb ⊢
  have hLw:∀e∈(its.take i).map Tm.av,e.width=4:=cT _
  generalize (its.take i).map Tm.av=L at *
  simp only[↓reduceIte,hlk,aB,seval,qS]
  refine(hpu _).to ?_
  simp only[aQ,aR,bW,↓reduceIte,hlk,hi0,aB,seval,qS]
  refine eH cS gG gH rfl rfl (eR (aR _) (bA _)) (fun e he=>hLw e he) hb (by simp only[cO,bD,bN];omega) (by simp only[cO,bD,bN];omega) (fun b' hb'=>?_)
  rw[htk] at hb' ⊢
  have aCB:=EH (l:=(its.take (i+1)).map Tm.av) hb' (aA.aP st b1 (.cells [.int .i64 3,.int .i64 m,.str ⟨#[46]⟩,.slice [y.av,z.av]]))
  have hnb:(its.take (i+1)).map Tm.av≠[]→b1≠b':=fun h=>by rintro rfl;have:=hb' h;rw[aA.aP] at this;cases this
  have hup:=fun o=>jA (st:=st.aC b1 (.cells [.int .i64 3,.int .i64 m,.str ⟨#[46]⟩,.slice [y.av,z.av]])) (o:=o) hnb
  simp only[aF,aQ,aR,bA,aO,↓reduceIte,aCB,hi1,hup,bM,aB,seval,qS]
  exact⟨(),b',fun h=>by have:=hb' h;rw[aA.aV _ _ (cV (hnb h))] at this ⊢;exact this,aL.mk (by simp only[↓reduceIte,aB,seval])⟩
 rw[fZ,←e1]
 have hpt:=xC tl
 rw[e2] at hpt
 have hnt:=XR tl
 simp only[d7,aBD,nO,bF,aO,cD (aO _),cC (aQ _),↓reduceIte,aB,seval,qS]
 refine(hpt _).to ?_
 simp only[aO,cD (aO _),cC (aQ _),↓reduceIte,aB,seval,qS]
 refine(hnt _).to ?_
 unfold u6
 cases hnk:yF tl with
 | true=>
  rw[aU rfl]
  simp only[↓reduceIte,aB,seval]
  refine(kO _).to ?_
  simp only[↓reduceIte,hs1,hs2,aB,seval]
  exact hD _
 | false=>
  rw[aS (by decide)]
  simp only[↓reduceIte,aB,seval]
  refine wP [(0,1),(1,2),(2,1),(3,1),(4,2),(5,2),(6,1),(7,1),(8,1)] [0,1,2,3,4,5,6,7,8] mixed ?_
  simp only[↓reduceIte,aB,seval]
  refine eV (kO _) ?_
  simp only[aO,cD (aO _),cC (aQ _),↓reduceIte,hs1,hs3,aB,seval,qS]
  refine eV (c1 _) ?_
  simp only[↓reduceIte,hs4,hs5,aB,seval]
  exact hD _
abbrev lV:=zi aZ (zi b7 (zi cE bH))
set_option maxHeartbeats 1000000 in
theorem X9:∀(n:Nat) (t:Tm) (st:aA),Ws t→t.nodes≤n→t.nodes≤1000→aD prog 148 [t.av] st (fun r st'=>r=.str (tx n t)∧st'=st):=by
 intro n
 induction n with
 | zero=>intro t st _ h;have:=kP t;omega
 | succ n IH=>
 intro t st hws hn BX
 have hsz:=zP (n+1) t hws
 have hT:∀x,Ws x→x.nodes<t.nodes→oB (tx n) x:=fun x hx hlt=>⟨fun st=>IH x st hx (by omega) (by omega),zP n x hx,aGE hx (by have:=kP x;omega),by omega⟩
 have hpt:=xC t
 have hit:=FB t
 have aCA:=X2 (T:=tx n) n t hn hws BX hT
 have hm:maxLen=9223372036854775807:=by rfl
 unfold tx at hsz ⊢
 refine wF [1000000] 1 func148 ntmps148 rfl rfl ?_
 intro _
 simp only[aQ,aR,bW,↓reduceIte,aB,seval,lV]
 refine(hpt _).to ?_
 cases hp:kQ t with
 | true=>
  rw[aU rfl]
  simp only[aQ,aR,↓reduceIte,aB,seval,lV]
  refine(aCA hp _).to ?_
  simp only[↓reduceIte,aB,seval]
 | false=>
  rw[hp] at hsz
  rw[aS (by decide)] at hsz ⊢
  simp only[aQ,aR,↓reduceIte,aB,seval,lV]
  refine(hit _).to ?_
  cases hi:nZ t with
  | true=>
   rw[hi] at hsz
   rw[aU rfl] at hsz ⊢
   obtain⟨m,s,x,y,rfl,hs⟩:=CJ hi
   have hk:=hws.own.2
   have hxl:x.nodes<(Tm.mk 3 m s [x,y]).nodes:=by simp only[Tm.jU,bS];have:=kP y;omega
   have hyl:y.nodes<(Tm.mk 3 m s [x,y]).nodes:=by simp only[Tm.jU,bS];have:=kP x;omega
   have hx:=hT x (hk x (by simp)) hxl
   have hy:=hT y (hk y (by simp)) hyl
   rw[sH.1,sH.2,show(Tm.mk 3 m s [x,y]).s=s from rfl] at hsz ⊢
   have h6:s.size≤6:=hws.size.1
   have hl3:cG s≤3:=by unfold cG;cases (decide (s=⟨#[61]⟩)||decide (s=⟨#[92,61]⟩)||decide (s=⟨#[61,61]⟩)||decide (s=⟨#[60]⟩)||decide (s=⟨#[62]⟩)||decide (s=⟨#[61,60]⟩)||decide (s=⟨#[62,61]⟩)||decide (s=⟨#[61,58,61]⟩)||decide (s=⟨#[105,115]⟩))<;>cases (decide (s=⟨#[43]⟩)||decide (s=⟨#[45]⟩))<;>cases (decide (s=⟨#[42]⟩)||decide (s=⟨#[47,47]⟩)||decide (s=⟨#[109,111,100]⟩))<;>decide
   have hll:lvl (cG s)≤10:=by unfold lvl;split<;>omega
   have cl:=X1 x hx (lvl (cG s)) hll
   have cr:=X7 y hy (cG s - 1) (by omega)
   have csp:=X8 s (by omega)
   have clv:=oJ s
   rw[bU,bU] at hsz
   generalize hA:qD (tx n) x (lvl (cG s))=A at *
   generalize hB:qN (tx n) y (cG s - 1)=B at *
   generalize kV s=C at *
   have hs1:A.size+C.size≤maxLen:=by omega
   have hs2:(A++C).size+B.size≤maxLen:=by rw[bU];omega
   have hi0:=cJ (av:=Tm.av) (l:=[x,y]) (i:=0) cS rfl (aR x)
   have hi1:=cJ (av:=Tm.av) (l:=[x,y]) (i:=1) cS rfl (aR y)
   rw[show((0:Nat):Int)=0 from rfl] at hi0
   rw[show((1:Nat):Int)=1 from rfl] at hi1
   simp only[a6,bT,bF] at hi0 hi1 ⊢
   generalize hL:cG s=L at *
   obtain⟨L1,hL1⟩:∃L1,L1=L - 1:=⟨_,rfl⟩
   have hw:=iW (x:=(L:Int) - 1) (m:=L1) (by omega) (by omega)
   rw[←hL1] at cr
   by_cases h3:L=3
   case' pos=>
    have h3':((L:Int)=3)=True:=bR (by omega)
    have hlv:lvl L=2:=by unfold lvl;rw[aU h3]
   case' neg=>
    have h3':((L:Int)=3)=False:=bC (by omega)
    have hlv:lvl L=L:=by unfold lvl;rw[aS h3]
   all_goals
    rw[hlv] at cl
    simp only[↓reduceIte,aB,seval,lV]
    refine(clv _).to ?_
    simp only[↓reduceIte,h3',a8,bB,aB,seval]
    refine wP [(0,1),(4,1),(6,1),(10,1),(14,1),(15,1),(1,2),(2,1),(3,2),(5,2),(7,2),(8,2),(9,1),(11,2),(12,1),(13,2),(16,2),(17,1),(18,1)] [0,4,6,10,14,15,1,2,3,5,7,8,9,11,12,13,16,17,18] mixed ?_
    simp only[aQ,aR,↓reduceIte,hi0,hw,aB,seval,lV]
    refine eV (cl _) ?_
    simp only[↓reduceIte,aB,seval,lV]
    refine eV (csp _) ?_
    simp only[aQ,aR,↓reduceIte,hi1,hs1,aB,seval,lV]
    refine eV (cr _) ?_
    simp only[↓reduceIte,hs2,aB,seval]
  | false=>
   rw[hi] at hsz
   rw[aS (by decide)] at hsz ⊢
   cases ha:AY t with
   | true=>
    rw[ha] at hsz
    rw[aU rfl] at hsz ⊢
    obtain⟨k,m,s,ts⟩:=t
    rw[AX,bV,bK,bK] at ha
    obtain⟨rfl,h0⟩:=ha
    have h0':((0:Int)<(ts.length:Int))=True:=bR (by omega)
    simp only[Tm.s,Tm.ts] at hsz ⊢
    simp only[Tm.jU] at hn BX hT hsz
    have hk:=hws.own.2
    have h4:ts.length≤4:=by rcases sR hws.own.1 with h | h | h<;>omega
    have kO:=E9 (T:=tx n) ts (fun x hx=>hT x (hk x hx) (by have:=RL hx;omega)) (by omega) (by omega)
    rw[bU,bU,bU] at hsz
    generalize gE (tx n) ts=A at *
    have aH6:s.size+A.size≤100000:=by omega
    have hs1:s.size+(⟨#[40]⟩:ByteArray).size≤maxLen:=by show _+1≤_;omega
    have hs2:(s++(⟨#[40]⟩:ByteArray)).size+A.size≤maxLen:=by rw[bU];show _+1+_≤_;omega
    have hs3:((s++(⟨#[40]⟩:ByteArray))++A).size+(⟨#[41]⟩:ByteArray).size≤maxLen:=by rw[bU,bU];show _+1+_+1≤_;omega
    simp only[a6]
    simp only[↓reduceIte,h0',aG,a8,aB,seval,lV]
    refine wP [(0,1),(3,1),(1,2),(2,1),(4,2),(5,2),(6,1),(7,1),(8,1)] [0,3,1,2,4,5,6,7,8] mixed ?_
    simp only[↓reduceIte,hs1,aB,seval,lV]
    refine eV (kO _) ?_
    simp only[↓reduceIte,hs2,hs3,aB,seval]
   | false=>
    rw[aS (by decide)]
    have hl:=XZ t hws (fun h=>by
     obtain⟨k,m,s,ts⟩:=t
     rw[AX,show k=3 from h] at ha
     simp only[a8,dH,dF] at ha
     exact List.length_eq_zero_iff.1 (by show ts.length=0;omega))
    generalize sI t=A at *
    obtain⟨k,m,s,ts⟩:=t
    rw[AX] at ha
    simp only[a6] at hl ⊢
    by_cases hk:k=3
    case pos=>
     rw[hk] at ha hl ⊢
     simp only[a8,dH,dF] at ha
     have h0':((0:Int)<(ts.length:Int))=False:=bC (by omega)
     simp only[↓reduceIte,h0',aG,a8,bB,aB,seval,lV]
     refine(hl _).to ?_
     simp only[↓reduceIte,aB,seval]
    case neg=>
     have hk':=bC hk
     simp only[↓reduceIte,hk',bB,aB,seval,lV]
     refine(hl _).to ?_
     simp only[↓reduceIte,aB,seval]
end Go.AW
namespace Go.AW
def kD(t:Tm):ByteArray:=tx 130 t
def mD(T:Tm→ByteArray)(h:ByteArray):List Tm→ByteArray
 | []=>h
 | x::xs=>xs.foldl (fun o y=>(o++⟨#[44]⟩)++T y) ((h++⟨#[58,45]⟩)++T x)
def BI(c:Cl):ByteArray:=mD kD (kD c.1) c.2++⟨#[46]⟩
def fmtC(c:Cl):ByteArray:=if gF c then BI c else⟨#[]⟩
def vG(l:List UInt8):gC:=fun a=>rd l (4*l.length+4) 30 a 3
def nS(l:List UInt8):Nat→Nat→List Tm→Option (List Tm×Nat)
 | 0,_,_=>none
 | m+1,a,acc=>match vG l a with
  | none=>none
  | some (t,e)=>if bJ l e 44 then nS l m (e+1) (acc++ [t]) else some (acc++ [t],e)
def lH(l:List UInt8):Option (Cl×Nat):=
 match vG l 0 with
 | none=>none
 | some (h,e)=>if(bJ l e 58&&bJ l (e+1) 45)=true then match nS l 7 (e+2) [] with
  | none=>none
  | some (b,e2)=>some ((h,b),e2)
  else some ((h,[]),e)
def jH(l:List UInt8):Option Cl:=match lH l with
 | none=>none
 | some (c,e)=>if l.length≤1000∧e+1=l.length∧bJ l e 46=true∧sb (fmtC c)=l then some c else none
def iO(c:Nat):List UInt8→List UInt8→List (List UInt8)
 | [],acc=>[acc]
 | x::l,acc=>if x.toNat=c then acc::iO c l [] else iO c l (acc++ [x])
def qE:List (List UInt8)→List Cl→Option (List Cl)
 | [],acc=>some acc
 | l::ls,acc=>match jH l with
  | none=>none
  | some c=>qE ls (acc++ [c])
def oY(l:List UInt8):Option (List Cl):=
 let ls:=iO 10 l []
 if 21<ls.length∨ls.getLast?≠some [] then none else qE ls.dropLast []
theorem WG{T:Tm→ByteArray}{h:ByteArray}{l:List Tm}{i:Nat}{x:Tm}(hx:l[i]?=some x):mD T h (l.take (i+1))=(if i=0 then mD T h (l.take i)++⟨#[58,45]⟩ else mD T h (l.take i)++⟨#[44]⟩)++T x:=by
 rw[gW,hx]
 cases l with
 | nil=>simp at hx
 | cons y l=>
  cases i with
  | zero=>simp at hx;subst hx;rfl
  | succ i=>
   rw[aS (by omega),m5]
   simp only[mD,Option.toList_some,dM,List.foldl_append,tJ,List.foldl_nil]
theorem ER{T:Tm→ByteArray}{h:ByteArray}{l:List Tm}{m:Nat}(hT:∀x∈l,(T x).size≤m):(mD T h l).size≤h.size+l.length*(m+2):=by
 have hg:∀(xs:List Tm) (o:ByteArray),(∀x∈xs,(T x).size≤m)→(xs.foldl (fun o y=>(o++⟨#[44]⟩)++T y) o).size≤o.size+xs.length*(m+2):=by
  intro xs
  induction xs with
  | nil=>intro o _;simp
  | cons x xs ih=>
   intro o hx
   refine jM (ih _ fun y hy=>hx y (by simp [hy])) ?_
   rw[bU,bU]
   have:=hx x (by simp)
   simp only[bD,m7]
   show o.size+1+_+_≤_
   omega
 cases l with
 | nil=>simp [mD]
 | cons x l=>
  refine jM (hg l _ fun y hy=>hT y (by simp [hy])) ?_
  rw[bU,bU]
  have:=hT x (by simp)
  simp only[bD,m7]
  show h.size+2+_+_≤_
  omega
theorem UM{t:Tm}(h:t.valid=true):Ws t∧t.nodes≤120:=by
 simp only[Tm.valid,bV,bK] at h
 exact⟨⟨_,h.1⟩,h.2⟩
theorem aBL{t:Tm}(h:t.goal=true):t.valid=true:=by
 obtain⟨k,n,s,ts⟩:=t
 simp only[Tm.goal,bV] at h
 exact h.1
theorem ZE{c:Cl}(h:gF c=true):(Ws c.1∧c.1.nodes≤120)∧c.2.length≤6∧∀x∈c.2,Ws x∧x.nodes≤120:=by
 simp only[gF,bV,bK,dY] at h
 exact⟨UM h.1.1,h.2.1,fun x hx=>UM (aBL (h.2.2 x hx))⟩
theorem QN{l:List UInt8}(hl:l.length≤1000):∀(m a:Nat) (acc ts:List Tm) (e:Nat),a≤l.length→(∀x∈acc,Dn x)→nS l m a acc=some (ts,e)→a<e∧e≤l.length∧(∀x∈ts,Dn x)∧ts.length≤acc.length+m:=by
 intro m
 induction m with
 | zero=>intro a acc ts e _ _ h;cases h
 | succ m ih=>
  intro a acc ts e ha uR h
  unfold nS at h
  split at h
  · cases h
  rename_i t e1 h1
  obtain⟨h2,h3,h4⟩:=qM hl _ _ _ a t e1 ha h1
  have uS:∀x∈acc++ [t],Dn x:=by intro x hx;rw[iY] at hx;rcases hx with hx | hx;exact uR x hx;rw[wK] at hx;subst hx;exact h4
  split at h
  · rename_i h5
    have h6:=jE h5
    obtain⟨g1,g2,g3,g4⟩:=ih (e1+1) _ ts e (by omega) uS h
    rw[dI,AC] at g4
    exact⟨by omega,g2,g3,by omega⟩
  · cases h
    exact⟨h2,h3,uS,by rw[dI,AC];omega⟩
abbrev nL (c:Cl):Prop:=Dn c.1∧c.2.length≤7∧∀x∈c.2,Dn x
theorem xH{l:List UInt8}(hl:l.length≤1000){c:Cl}{e:Nat}(h:lH l=some (c,e)):0<e∧e≤l.length∧nL c:=by
 unfold lH at h
 split at h
 · cases h
 rename_i t e1 h1
 obtain⟨h2,h3,h4⟩:=qM hl _ _ _ 0 t e1 (i7 _) h1
 split at h
 · rename_i h5
   rw[bV] at h5
   have h6:=jE h5.2
   split at h
   · cases h
   rename_i b e2 h7
   obtain⟨g1,g2,g3,g4⟩:=QN hl _ _ _ _ _ (by omega) (by simp) h7
   cases h
   exact⟨by omega,g2,h4,by rw[bN] at g4;show b.length≤7;omega,g3⟩
 · cases h
   exact⟨h2,h3,h4,by show 0≤7;omega,by intro x hx;cases hx⟩
theorem SA{l:List UInt8}{c:Cl}(h:jH l=some c):nL c∧gF c=true:=by
 unfold jH at h
 split at h
 · cases h
 rename_i c' e h1
 split at h
 · rename_i h2
   cases h
   refine⟨(xH h2.1 h1).2.2,?_⟩
   have h3:=h2.2.2.2
   unfold fmtC at h3
   split at h3
   · assumption
   · have:=fR List.length h3
     simp at this
     omega
 · cases h
theorem FX(c:Nat):∀(l acc:List UInt8),iO c l acc≠[]
 | [],acc=>by simp [iO]
 | x::l,acc=>by unfold iO;split<;>simp [FX c l]
theorem BK(c:Nat):∀(l acc:List UInt8),(iO c l acc).length≤l.length+1
 | [],acc=>by simp [iO]
 | x::l,acc=>by unfold iO;split;have:=BK c l [];simp only[bD];omega;have:=BK c l (acc++ [x]);simp only[bD];omega
end Go.AW
namespace Go.AW
open Go.Proofs.Tryz
abbrev S4:=zi aZ (zi hQ hO)
theorem WW(l:List Cl)(g:FuncId)(bX:List AV)(p:Cl→Bool)(st:aA)(hc:∀x∈l,aD prog g ([a7 x]++bX) st (fun r st'=>r=.bool (p x)∧st'=st)) :
 aD prog 274 [.slice (l.map a7),.func g bX] st (fun r st'=>∃j:Int,r=.int .i64 j∧decide (0≤j)=l.any p∧st'=st):=by
 refine wF [] 2 func274 ntmps274 rfl rfl ?_
 simp only[dG,AV.fits,eJ,aG]
 intro ⟨hl,_⟩
 simp only[aG,aB,seval,S4]
 refine fW (σ:=Unit) [] [0,1,7] l (fun i _=>(l.drop i).any p=l.any p) (fun i _=>[(8,.int .i64 i)]) (fun _ _=>st) (by decide +kernel) ⟨(),rfl,aL.mk (by simp only[aB,↓bG,seval])⟩ (fun i x _ hx hlt b9 hdr hinv=>?_) (fun _ hge hinv=>?_)
 case refine_2=>
  simp only[hge,aB,seval]
  rw[wE] at hinv
  exact⟨-1,rfl,by rw[←hinv];try rfl⟩
 rw[hdr,List.any_cons] at hinv
 have hw:=bO (n:=(i:Int)+1)
 simp only[b9,cJ (av:=a7) j4 hx (jC x),rZ,jC,aB,seval,S4]
 refine(hc x (c8 hx)).to ?_
 simp only[aB,seval]
 refine aW (fun h=>?_) (fun h=>?_)
 · simp only[aB,seval]
   exact⟨i,rfl,by rw[←hinv,h];simp⟩
 · rw[h,k7] at hinv
   simp only[aB,seval]
   exact⟨(),hinv,aL.mk (by simp only[hw,aB,seval])⟩
theorem WN(l:List Cl)(g:FuncId)(bX:List AV)(p:Cl→Bool)(st:aA)(hc:∀x∈l,aD prog g ([a7 x]++bX) st (fun r st'=>r=.bool (p x)∧st'=st)) :
 aD prog 204 [.slice (l.map a7),.func g bX] st (fun r st'=>r=.bool (l.any p)∧st'=st):=by
 refine wF [] 2 func204 ntmps204 rfl rfl ?_
 intro _
 simp only[aB,seval]
 refine(WW l g bX p st hc).mono ?_
 rintro _ _ ⟨j,rfl,hj,rfl⟩
 simp only[hj,aB,seval]
abbrev C8:=zi cB (zi cE (zi bH hO))
theorem XE(c:Cl)(st:aA):aD prog 206 [a7 c] st (fun r st'=>r=.bool (gF c)∧st'=st):=by
 obtain⟨⟨k,n,s,ts⟩,b⟩:=c
 have hv:=fun st=>rT (.mk k n s ts) st
 have hp:=fun st=>A5 k n s ts st
 simp only[a6] at hv hp
 have hg:=fun st=>XA b st
 simp only[dO,gF,CU]
 simp only[qL] at hg
 generalize (Tm.mk k n s ts).valid=v at *
 refine wF [1000000] 1 func206 ntmps206 rfl rfl ?_
 intro _
 simp only[aB,seval,C8]
 refine(hv _).to ?_
 cases v with
 | false=>simp only[dL,aB,seval]
 | true=>
  simp only[fB,dH,aB,seval,C8]
  refine(hp _).to ?_
  cases hpl:g9 k s (ts.length:Int) with
  | false=>simp only[dL,aB,seval]
  | true=>
   simp only[fB,dH,aB,seval,C8]
   refine(hg _).to ?_
   simp only[aB,seval]
abbrev aFF:=zi cB hO
theorem W4(c:Cl)(st:aA):aD prog 205 [a7 c] st (fun r st'=>r=.bool (!gF c)∧st'=st):=by
 refine wF [1000000] 1 func205 ntmps205 rfl rfl ?_
 intro _
 simp only[xF,rZ,jC,aB,seval,aFF]
 refine(XE c st).to ?_
 simp only[aB,seval]
abbrev aFE:=zi aZ (zi cB hQ)
theorem XI(p:List Cl)(st:aA):aD prog 119 [.slice (p.map a7)] st (fun r st'=>r=.bool (gQ p)∧st'=st):=by
 refine wF [1000000] 1 func119 ntmps119 rfl rfl ?_
 simp only[dG,AV.fits,eJ,aG]
 intro _
 unfold gQ
 simp only[aG,aB,seval,aFE]
 refine cU (fun h=>?_) (fun h=>?_)
 · simp only[bK] at h
   rw[show decide (p.length≤20)=true by simp;omega]
   simp only[h,aB,seval]
   refine(WN p _ [] (fun t=> !gF t) st fun x _=>W4 x st).to ?_
   simp only[uB,aB,seval]
 · simp only[fX,dF] at h
   rw[show decide (p.length≤20)=false by simp;omega]
   simp only[h,aB,seval]
   rfl
abbrev s6:=zi aZ (zi cB (zi cE (zi bH hO)))
theorem FJ(c:Cl)(st:aA):aD prog 155 [a7 c] st (fun r st'=>r=.bool (gF c)∧st'=st):=by
 obtain⟨⟨k,n,s,ts⟩,l⟩:=c
 have hv:=fun st=>BE (.mk k n s ts) st
 have hp:=fun st=>BD k n s ts st
 simp only[a6] at hv hp
 simp only[dO,gF,CU]
 generalize (Tm.mk k n s ts).valid=v at *
 refine wF [1000000] 1 func155 ntmps155 rfl rfl ?_
 simp only[dG,AV.fits,eJ,aG]
 intro ⟨_,_,_,_,hl,_⟩
 have eS:l.all Tm.goal=true∨l.length>6→(decide ((l.length:Int)≤6)&&v&&g9 k s (ts.length:Int))=(v&&g9 k s (ts.length:Int)&&(decide (l.length≤6)&&l.all Tm.goal)):=fun h=>by
  by_cases h6:l.length≤6
  · have hg:l.all Tm.goal=true:=h.resolve_right (by omega)
    rw[hg,show decide ((l.length:Int)≤6)=true from dK (by omega),show decide (l.length≤6)=true from dK h6]
    simp
  · rw[show decide ((l.length:Int)≤6)=false from dP (by omega),show decide (l.length≤6)=false from dP h6]
    simp
 simp only[aB,seval,s6]
 refine fW (σ:=Unit) [1000000] [1] l (fun i _=>i≤7∧(l.take i).all Tm.goal=true) (fun i _=>[(2,.bool false),(3,.int .i64 i)]) (fun _ _=>st) (by decide +kernel) ⟨(),⟨by omega,by simp⟩,aL.mk (by simp only[aB,↓bG,seval])⟩ (fun i x _ hx hlt b9 hdr hinv=>?_) (fun _ hge hinv=>?_)
 · obtain⟨i1,i2⟩:=hinv
   have hw:=bO (n:=(i:Int)+1)
   by_cases h7:i≤6
   · have h7':decide ((i:Int)≤6)=true:=dK (by omega)
     have hat:=cJ (av:=Tm.av) cS hx (aR x)
     simp only[b9,a8,fB,aG,h7',hat,aQ,aR,aB,seval,s6]
     refine(YS x st).to ?_
     simp only[aB,seval]
     refine aW (fun h2=>?_) (fun h2=>?_)
     · simp only[k8] at h2
       simp only[aB,seval]
       have:l.all Tm.goal=false:=oG hx h2
       rw[this];simp
     · simp only[q0] at h2
       simp only[aB,seval]
       refine⟨(),⟨by omega,?_⟩,aL.mk (by simp only[hw,aB,seval])⟩
       rw[gW,hx,List.all_append,i2]
       simp [h2]
   · have h7':decide ((i:Int)≤6)=false:=dP (by omega)
     have h8:decide ((l.length:Int)≤6)=false:=dP (by omega)
     rw[←eS (.inr (by omega)),h8]
     simp only[b9,a8,fB,h8,dL,aG,h7',aB,seval,s6]
 · obtain⟨i1,i2⟩:=hinv
   rw[fZ] at i2
   rw[←eS (.inl i2)]
   cases h8:decide ((l.length:Int)≤6) with
   | false=>
    simp only[hge,aG,h8,dL,aB,seval,s6]
   | true=>
    simp only[hge,fB,aG,h8,dH,aB,seval,s6]
    refine(hv _).to ?_
    cases v with
    | false=>simp only[dL,aB,seval]
    | true=>
     simp only[fB,dH,aB,seval,s6]
     refine(hp _).to ?_
     simp only[aB,seval]
abbrev C9:=zi aZ (zi cB (zi hQ hO))
theorem YU(l:List Cl)(st:aA):aD prog 80 [.slice (l.map a7)] st (fun r st'=>r=.bool (gQ l)∧st'=st):=by
 refine wF [1000000] 1 func80 ntmps80 rfl rfl ?_
 simp only[dG,AV.fits,eJ,aG]
 intro ⟨hl,_⟩
 simp only[aB,seval]
 refine fW (σ:=Unit) [1000000] [0] l (fun i _=>i≤21∧(l.take i).all gF=true) (fun i _=>[(2,.bool false),(3,.int .i64 i)]) (fun _ _=>st) (by decide +kernel) ⟨(),⟨by omega,by simp⟩,aL.mk (by simp only[aB,↓bG,seval])⟩ (fun i x _ hx hlt b9 hdr hinv=>?_) (fun _ hge hinv=>?_)
 · obtain⟨i1,i2⟩:=hinv
   have hw:=bO (n:=(i:Int)+1)
   by_cases h7:i≤20
   · have h7':decide ((i:Int)≤20)=true:=dK (by omega)
     have hat:=cJ (av:=a7) j4 hx (jC x)
     simp only[b9,a8,fB,aG,h7',hat,rZ,jC,aB,seval,C9]
     refine(FJ x st).to ?_
     simp only[aB,seval]
     refine aW (fun h2=>?_) (fun h2=>?_)
     · simp only[k8] at h2
       simp only[aB,seval]
       have:l.all gF=false:=oG hx h2
       simp only[gQ,this,pH]
     · simp only[q0] at h2
       simp only[aB,seval]
       refine⟨(),⟨by omega,?_⟩,aL.mk (by simp only[hw,aB,seval])⟩
       rw[gW,hx,List.all_append,i2]
       simp [h2]
   · have h7':decide ((i:Int)≤20)=false:=dP (by omega)
     have h8:decide ((l.length:Int)≤20)=false:=dP (by omega)
     have h9:decide (l.length≤20)=false:=dP (by omega)
     simp only[b9,a8,fB,aG,h7',h8,gQ,h9,dL,aB,seval,C9]
 · obtain⟨i1,i2⟩:=hinv
   rw[fZ] at i2
   simp only[hge,aG,aB,seval,C9]
   simp only[gQ,i2,Bool.and_true,AV.bool.injEq,r0]
   omega
end Go.AW
