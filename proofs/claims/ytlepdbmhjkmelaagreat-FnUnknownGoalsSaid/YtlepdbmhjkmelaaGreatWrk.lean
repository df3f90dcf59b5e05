import Derived.Test.YtlepdbmhjkmelaaGreatWrj
import Derived.Test.YtlepdbmhjkmelaaGreatWri
set_option linter.unusedSimpArgs false
set_option linter.unusedVariables false
set_option maxRecDepth 100000
namespace Go.AW
open Go.Proofs.Tryz
def fL(a:Int):AV:=.tup [tD.av,.int .i64 (-1 - a)]
abbrev Z9:=zi a7 bN
theorem pZ(a:Nat)(ha:a≤1048576)(st:aA):aD prog 204 [.int .i64 (a:Int)] st (fun r st'=>r=fL a∧st'=st):=by
 refine aD.done ?_
 refine wF [1000000] 1 func204 ntmps204 rfl rfl ?_
 intro _
 have hw:=bB (n:= -1 - (a:Int))
 simp only[aH,hw,aB,seval,Z9]
 intro b hb
 exact⟨by simp only[fL,bG,iE,lI,gP,iF,jH,b9,bJ,bJ],(aN.refl _).aC hb⟩
def zE(a:Nat)(o:Option (ByteArray×Nat)):AV:=match o with | some (b,e)=>.tup [.str b,.int .i64 (e:Int)] | none=>.tup [.str ⟨#[]⟩,.int .i64 (a:Int)]
abbrev q7:=zi a7 (zi cC (zi gE (zi nU bW)))
set_option maxHeartbeats 1000000 in
theorem TO(s:ByteArray)(hs:s.size≤1000)(a:Nat)(ha:a≤s.size)(st:aA):aD prog 172 [.str s,.int .i64 (a:Int)] st (fun r st'=>r=zE a (jF (sb s) a)∧st'=st):=by
 refine wF [1000000] 2 func172 ntmps172 rfl rfl ?_
 intro _
 simp only[aB,seval]
 refine(fB s a 32 _).to ?_
 obtain⟨f1,hf1⟩:∃f,f=a+1:=⟨_,rfl⟩
 have hw1:=hO (x:=(a:Int)+1) (m:=f1) (by omega) (by omega)
 simp only[aB,seval]
 refine bC (fun h1=>?_) (fun h1=>?_)
 · have hf:=hY h1
   rw[a8] at hf
   simp only[hw1,aB,seval,q7]
   obtain⟨f,rfl⟩:∃f,f=f1:=⟨_,rfl⟩
   replace hf:f≤s.size:=by omega
   by_cases hlen:s.size≤f
   case pos=>
    have hrd:jF (sb s) a=none:=by
     unfold jF
     simp only[h1,↓reduceIte,←hf1]
     rw[a4 (by rw[a8];exact hlen)]
    rw[hrd]
    have cO:((s.size:Int)≤(f:Int))=True:=bM (by omega)
    simp only[cO,aT,aB,seval]
    rfl
   have cO:((s.size:Int)≤(f:Int))=False:=a5 (by omega)
   have hrd:jF (sb s) a=match iD (sb s) f with
    | none=>none
    | some (nm,e)=>if b7 nm=0 then none else if dT nm≠decide (a<f)∨(dT nm=true∧a6 (sb s) e 32=false) then none else some (nm,if dT nm then e+1 else e):=by
    unfold jF
    simp only[h1,↓reduceIte,←hf1]
    rw[aQ (by rw[a8];exact hlen)]
    try rfl
   rw[hrd]
   clear hrd
   have hfa:((a:Int)<(f:Int))=True:=bM (by omega)
   have hfn:(a<f)=True:=bM (by omega)
   simp only[cO,aZ,aB,seval]
   refine(xN s hs f (by omega) _).to ?_
   cases hn:iD (sb s) f with
   | none=>
    simp only[oP]
    simp only[aT,aB,seval]
    rfl
   | some p=>
    obtain⟨nm,e⟩:=p
    have he:=sU (by rw[a8];omega) hn
    rw[a8] at he
    simp only[oP]
    have he0:((e:Int)<0)=False:=a5 (by omega)
    simp only[he0,aZ,aB,seval]
    refine(m8 nm _).to ?_
    by_cases hl0:b7 nm=0
    case pos=>
     rw[a4 hl0]
     have mG:((b7 nm:Int)=0)=True:=bM (by omega)
     simp only[mG,aT,aB,seval]
     rfl
    rw[aQ hl0]
    have mG:((b7 nm:Int)=0)=False:=a5 (by omega)
    simp only[hfn,aT]
    have hw1:=bB (n:=(e:Int)+1)
    by_cases hi:nm=⟨#[105,115]⟩
    case' pos=>
     have hi':=bM hi
     have hm':(nm=⟨#[109,111,100]⟩)=False:=a5 (by rw[hi];decide)
     have hW:dT nm=true:=by unfold dT;rw[dA hi];try rfl
    case' neg=>
     have hi':=a5 hi
     by_cases hm:nm=⟨#[109,111,100]⟩
     case' pos=>
      have hm':=bM hm
      have hW:dT nm=true:=by unfold dT;rw[dA hm];exact nX _
     case' neg=>
      have hm':=a5 hm
      have hW:dT nm=false:=by unfold dT;rw[cZ hm,cZ hi];try rfl
    all_goals
     rw[hW]
     simp only[mG,hfa,hi',hm',aT,aZ,aB,seval,q7]
     first
      | (rw[a4 (Or.inl trivial)];rfl)
      | (rw[aQ fun h=>h.1];rfl)
      | skip
     try
      refine(fB s e 32 _).to ?_
      cases hb:a6 (sb s) e 32 with
      | false=>
       simp only[aB,seval]
       rfl
      | true=>
       simp only[hw1,aB,seval]
       rfl
 · skip
   simp only[aB,seval,q7]
   obtain⟨f,rfl⟩:∃f,f=a:=⟨_,rfl⟩
   have hf:=ha
   by_cases hlen:s.size≤f
   case pos=>
    have hrd:jF (sb s) f=none:=by
     unfold jF
     simp only[h1,↓reduceIte,fR]
     rw[a4 (by rw[a8];exact hlen)]
    rw[hrd]
    have cO:((s.size:Int)≤(f:Int))=True:=bM (by omega)
    simp only[cO,aT,aB,seval]
    rfl
   have cO:((s.size:Int)≤(f:Int))=False:=a5 (by omega)
   have hrd:jF (sb s) f=match iD (sb s) f with
    | none=>none
    | some (nm,e)=>if b7 nm=0 then none else if dT nm≠decide (f<f)∨(dT nm=true∧a6 (sb s) e 32=false) then none else some (nm,if dT nm then e+1 else e):=by
    unfold jF
    simp only[h1,↓reduceIte,fR]
    rw[aQ (by rw[a8];exact hlen)]
    try rfl
   rw[hrd]
   clear hrd
   have hfa:((f:Int)<(f:Int))=False:=a5 (by omega)
   have hfn:(f<f)=False:=a5 (by omega)
   simp only[cO,aZ,aB,seval]
   refine(xN s hs f (by omega) _).to ?_
   cases hn:iD (sb s) f with
   | none=>
    simp only[oP]
    simp only[aT,aB,seval]
    rfl
   | some p=>
    obtain⟨nm,e⟩:=p
    have he:=sU (by rw[a8];omega) hn
    rw[a8] at he
    simp only[oP]
    have he0:((e:Int)<0)=False:=a5 (by omega)
    simp only[he0,aZ,aB,seval]
    refine(m8 nm _).to ?_
    by_cases hl0:b7 nm=0
    case pos=>
     rw[a4 hl0]
     have mG:((b7 nm:Int)=0)=True:=bM (by omega)
     simp only[mG,aT,aB,seval]
     rfl
    rw[aQ hl0]
    have mG:((b7 nm:Int)=0)=False:=a5 (by omega)
    simp only[hfn,aZ]
    have hw1:=bB (n:=(e:Int)+1)
    by_cases hi:nm=⟨#[105,115]⟩
    case' pos=>
     have hi':=bM hi
     have hm':(nm=⟨#[109,111,100]⟩)=False:=a5 (by rw[hi];decide)
     have hW:dT nm=true:=by unfold dT;rw[dA hi];try rfl
    case' neg=>
     have hi':=a5 hi
     by_cases hm:nm=⟨#[109,111,100]⟩
     case' pos=>
      have hm':=bM hm
      have hW:dT nm=true:=by unfold dT;rw[dA hm];exact nX _
     case' neg=>
      have hm':=a5 hm
      have hW:dT nm=false:=by unfold dT;rw[cZ hm,cZ hi];try rfl
    all_goals
     rw[hW]
     simp only[mG,hfa,hi',hm',aT,aZ,aB,seval,q7]
     first
      | (rw[a4 (Or.inl trivial)];rfl)
      | (rw[aQ fun h=>h.1];rfl)
      | skip
     try
      refine(fB s e 32 _).to ?_
      cases hb:a6 (sb s) e 32 with
      | false=>
       simp only[mG,hfa,hi',hm',hw1,aT,aZ,aB,↓bD,seval,q7]
       rfl
      | true=>
       simp only[mG,hfa,hi',hm',hw1,aT,aZ,aB,↓bD,seval,q7]
       rfl
theorem UP{ts:List Tm}{i:Nat}{x t:Tm}(hx:ts[i]?=some x):l7 (ts.drop i) t=iA ⟨#[46]⟩ [x,l7 (ts.drop (i+1)) t]:=by
 obtain⟨h1,h2⟩:=eX.1 hx
 rw[pC h1,h2]
 try rfl
abbrev vU:=zi a7 (zi bW (zi b8 bN))
set_option maxHeartbeats 1000000 in
theorem BX(ts:List Tm)(tl:Tm)(hl:ts.length≤1048576)(st:aA):aD prog 226 [.slice (ts.map Tm.av),tl.av] st (fun r st'=>r=(l7 ts tl).av∧st'=st):=by
 refine aD.done ?_
 refine wF [1000000,5] 2 func226 ntmps226 rfl rfl ?_
 intro _
 have hw0:=bB (n:=(ts.length:Int) - 1)
 simp only[aH,aR,aO,bL,bV,aW,aF,hw0,aB,↓bD,seval,vU]
 intro b hb b5 hb5
 have hbb:b5≠b:=fun h=>by rw[h,aA.aY] at hb5;cases hb5
 refine fY (σ:=Nat) [1000000] [0,4,5] (fun i=>i≤ts.length) (fun i=>[(6,.int .i64 ((i:Int) - 1))]) (fun i=>(st.aC b (.cells [.int .i64 0,.int .i64 0,.str ⟨#[]⟩,.fslice []])).aC b5 (.cells (l7 (ts.drop i) tl).av.cells)) (fun i=>i) (by decide +kernel) ⟨ts.length,by omega,by rw[List.drop_length];exact aL.mk (by simp only[aB,seval])⟩ ?_
 intro i hi
 simp only[aB,seval]
 refine bC (fun h1=>?_) (fun h1=>?_)
 · simp only[a9] at h1
   obtain⟨k,rfl⟩:∃k,i=k+1:=⟨i - 1,by omega⟩
   obtain⟨x,hx⟩:∃x,ts[k]?=some x:=⟨_,eD (by omega)⟩
   have hk:((k+1:Nat):Int) - 1=(k:Int):=by omega
   have hw:=bB (n:=(k:Int) - 1)
   have hst:=UP (t:=tl) hx
   have hat:=cI (av:=Tm.av) cH hx (aO x)
   rw[hk]
   generalize l7 (ts.drop (k+1)) tl=y at *
   have hax:=aW x
   have hay:=aW y
   simp only[aB,seval]
   refine wP [(0,1),(1,1),(2,1),(3,2),(4,2),(5,1),(6,2),(7,0)] [0,1,2,3,4,5,6] mixed ?_
   simp only[aR,aO,bV,aW,cW (aW _),cR (aR _),hat,aB,seval,vU]
   refine iU (k8 ⟨#[46]⟩ [x,y] (by simp) _) ?_
   simp only[aH,bL,aW,hw,aB,seval,vU]
   refine⟨k,by omega,by omega,?_⟩
   rw[hst]
   exact aL.mk (by simp only[aB,seval])
 · simp only[c5] at h1
   obtain rfl:i=0:=by omega
   rw[lS]
   simp only[aH,bL,aW,cW (aW _),cR (aR _),hbb.symm,aB,↓bD,seval,vU]
   exact⟨Tm.soft _,(((aN.refl _).aC hb).aC (by rwa [aA.bK _ _ hbb] at hb5)).aC hb⟩
def f0(o:Option (Tm×Nat))(r:AV):Prop:=match o with | some (t,e)=>r=.tup [t.av,.int .i64 (e:Int)] | none=>∃k:Nat,k≤1048576∧r=fL k
def lV(o:Option (List Tm×Nat))(r:AV):Prop:=match o with | some (ts,e)=>r=.tup [.slice (ts.map Tm.av),.int .i64 (e:Int)] | none=>∃k:Nat,k≤1048576∧r=.tup [.slice [],.int .i64 (-1 - (k:Int))]
abbrev wT (s:ByteArray) (R:fG) (d lv lo:Nat):Prop:=∀(a:Nat) (st:aA),lo≤a→a≤s.size→aD prog 129 [.str s,.int .i64 (a:Int),.int .i64 (d:Int),.int .i64 (lv:Int)] st (fun r st'=>f0 (R a) r∧st'=st)
abbrev AC:=zi a7 (zi cC (zi gE (zi nU (zi bW (zi b8 (zi bN P4))))))
set_option maxHeartbeats 1000000 in
theorem B9{s:ByteArray}{R:fG}{d lo c1 c2:Nat}(hR:wT s R d 3 lo)(hok:mW R (sb s))(hs:s.size≤1000)(a:Nat)(ha:lo≤a)(ha':a≤s.size)(st:aA) :
 aD prog 209 [.str s,.int .i64 (a:Int),.int .i64 (d:Int),.int .u8 (c1:Int),.int .u8 (c2:Int)] st (fun r st'=>lV (jW R (sb s) c1 c2 ((sb s).length+1) a []) r∧st'=st):=by
 generalize hT:jW R (sb s) c1 c2 ((sb s).length+1) a []=T
 rw[a8] at hT
 refine aD.drop (Q:=lV T) (aD.fin ?_)
 refine wF [1000000] 5 func209 ntmps209 rfl rfl ?_
 intro _
 simp only[aB,seval,AC]
 refine fY (σ:=Nat×List Tm×Nat×Nat) [1000000] [0,2,3,4] (fun x=>jW R (sb s) c1 c2 x.2.2.1 x.1 x.2.1=T∧lo≤x.1∧x.1≤s.size∧s.size<x.2.2.1+x.1∧x.2.1.length+x.2.2.1≤1001∧(x.2.1.map Tm.av≠[]→st x.2.2.2=none)) (fun x=>[(1,.int .i64 (x.1:Int)),(10,.fslice []),(11,.int .i64 0),(12,aP 4 x.2.2.2 (x.2.1.map Tm.av))]) (fun x=>aU st x.2.2.2 (x.2.1.map Tm.av)) (fun x=>x.2.2.1) (by decide +kernel) ⟨(a,[],s.size+1,0),⟨hT,ha,ha',by simp only;omega,by simp only[bO];omega,by simp⟩,aL.mk (by simp only[bJ,i7,aB,seval])⟩ ?_
 rintro⟨i,acc,m,b⟩ ⟨ht,hlo,hi,hm,hlen,hb⟩
 simp only at ht hlo hi hm hlen hb ⊢
 obtain⟨m,rfl⟩:∃m',m=m'+1:=⟨m - 1,by omega⟩
 simp only[jW] at ht
 simp only[aB,seval]
 refine(hR i _ hlo hi).mono ?_
 rintro r _ ⟨hr,rfl⟩
 have fin:∀(l:List Tm) (b':Nat) (r':AV),(l.map Tm.av≠[]→st b'=none)→lV T (r'.fin b' (l.map Tm.av))→∃b2 l2 s0,aU st b' (l.map Tm.av)=aU s0 b2 l2∧(l2≠[]→s0 b2=none)∧(∀e∈l2,e.bA=false)∧eL l2∧aN s0 st∧lV T (r'.fin b2 l2):=fun l b' r' h1 h2=>⟨b',_,st,rfl,h1,fC _,⟨4,c7 _⟩,aN.refl _,h2⟩
 have hTn:T=none→∀k:Nat,k≤1048576→∀(b':Nat) (l:List AV),lV T ((AV.tup [.fslice [],.int .i64 (-1 - (k:Int))]).fin b' l):=by
  rintro rfl k hk b' l
  exact⟨k,hk,by simp only[qC,eR,r7,b9,bJ]⟩
 cases hRi:R i with
 | none=>
  rw[hRi] at ht hr
  obtain⟨k,hk,rfl⟩:=hr
  have hk0:((-1 - (k:Int))<0)=True:=bM (by omega)
  simp only[aO,bL,bV,hk0,fL,aT,aB,↓bD,seval,AC]
  exact fin _ _ _ hb (hTn ht.symm k hk _ _)
 | some p=>
  obtain⟨t,e⟩:=p
  rw[hRi] at ht hr
  simp only at ht
  obtain⟨g1,g2,g3⟩:=hok i t e (by rw[a8];exact hi) hRi
  rw[a8] at g2
  simp only[f0] at hr
  subst hr
  have he0:((e:Int)<0)=False:=a5 (by omega)
  simp only[aR,aO,bL,bV,he0,fZ,true_and,aZ,aB,↓bD,seval,AC]
  refine eJ cH fT fU rfl rfl (eS (aO _) (bL _)) (c7 _) hb (by simp only[aF,bE,bO];omega) (by simp only[aF,bE,bO];omega) (fun b' hb'=>?_)
  rw[show acc.map Tm.av++ [t.av]=(acc++ [t]).map Tm.av by simp] at hb' ⊢
  simp only[aB,seval]
  have qK:T=some (acc++ [t],e)→lV T ((AV.tup [aP 4 b' ((acc++ [t]).map Tm.av),.int .i64 (e:Int)]).fin b' ((acc++ [t]).map Tm.av)):=by
   rintro rfl
   simp only[lV,qC,eR,oG,b9,bJ]
  have hw1:=bB (n:=(e:Int)+1)
  have hw2:=bB (n:= -1 - (e:Int))
  refine(fB s e c1 _).to ?_
  cases h1:a6 (sb s) e c1 with
  | true=>
   rw[h1,nY,a4 rfl] at ht
   simp only[rP,fZ,true_and,aB,seval]
   exact fin _ _ _ hb' (qK ht.symm)
  | false=>
  simp only[aB,seval]
  refine(fB s e c2 _).to ?_
  cases h2:a6 (sb s) e c2 with
  | true=>
   rw[h2,nX,a4 rfl] at ht
   simp only[rP,fZ,true_and,aB,seval]
   exact fin _ _ _ hb' (qK ht.symm)
  | false=>
  rw[h1,h2,Bool.or_false,aQ (by decide)] at ht
  simp only[aB,seval]
  refine(fB s e 44 _).to ?_
  cases h3:a6 (sb s) e 44 with
  | true=>
   have h4:=hY h3
   rw[a8] at h4
   rw[h3,a4 rfl] at ht
   simp only[hw1,aB,seval]
   refine⟨(e+1,acc++ [t],m,b'),by simp only;omega,⟨ht,by simp only;omega,by simp only;omega,by simp only;omega,by simp only[dM,bE,bO];omega,hb'⟩,aL.mk (by simp only[aB,seval]<;>rfl)⟩
  | false=>
   rw[h3,aQ (by decide)] at ht
   simp only[hw2,aB,seval]
   exact fin _ _ _ hb' (hTn ht.symm e (by omega) _ _)
theorem aD.yA{P:Program}{g:FuncId}{args:List AV}{st:aA}{Q:AV→Prop}(x:aD P g args st (fun r' st'=>Q r'.soft∧aN st' st)):aD P g args st (fun r' st'=>Q r'∧st'=st):=
 aD.drop (aD.soft (x.mono fun _ _ h=>⟨h.2,h.1⟩))
theorem qX{k:Nat}(hk:k≤1048576):f0 none (AV.tup [.agg [.int .i64 0,.int .i64 0,.str ⟨#[]⟩,.fslice []],.int .i64 (-1 - (k:Int))]).soft:=
 ⟨k,hk,by simp only[fL,bG,iE,lI,gP,iF,jH,b9,bJ]⟩
theorem jT{t:Tm}{e:Nat}{x:Int}(h:x=(e:Int)):f0 (some (t,e)) (AV.tup [t.av,.int .i64 x]).soft:=by
 subst h
 simp only[f0,lI,gP,Tm.soft,b9,bJ]
theorem nL{k:Nat}(hk:k≤1048576):f0 none (AV.tup [tD.av,.int .i64 (-1 - (k:Int))]).soft:=
 ⟨k,hk,by simp only[fL,lI,gP,Tm.soft,b9,bJ]⟩
abbrev nS:=zi a7 (zi cC (zi gE (zi nU (zi bW (zi b8 (zi bN P5))))))
set_option maxHeartbeats 1000000 in
theorem TL{s:ByteArray}{R:fG}{d lo:Nat}(hR:wT s R d 3 lo)(hok:mW R (sb s))(hs:s.size≤1000)(a:Nat)(ha:lo≤a)(ha':a≤s.size)(st:aA) :
 aD prog 205 [.str s,.int .i64 (a:Int),.int .i64 (d:Int)] st (fun r st'=>f0 (oK R (sb s) a) r∧st'=st):=by
 refine aD.yA ?_
 refine wF [1000000] 3 func205 ntmps205 rfl rfl ?_
 intro _
 simp only[aB,seval,nS]
 intro b hb
 unfold oK
 refine(B9 hR hok hs a ha ha' _ (c1:=93) (c2:=124)).mono ?_
 rintro r _ ⟨hr,rfl⟩
 have hD:=fun(o:AO)=>(aN.refl st).aC (o:=o) hb
 cases hT:jW R (sb s) 93 124 ((sb s).length+1) a [] with
 | none=>
  rw[hT] at hr
  obtain⟨k,hk,rfl⟩:=hr
  have hk0:((-1 - (k:Int))<0)=True:=bM (by omega)
  simp only[aH,hk0,aT,aB,seval,nS]
  exact⟨qX hk,hD _⟩
 | some p=>
  obtain⟨ts,e⟩:=p
  rw[hT] at hr
  simp only[lV] at hr
  subst hr
  obtain⟨g1,g2,g3,g4,g5⟩:=v5 hok _ _ _ _ _ (by rw[a8];exact ha') (by simp) hT
  rw[a8] at g2 g4
  rw[bO] at g4
  have he0:((e:Int)<0)=False:=a5 (by omega)
  obtain⟨f,hf⟩:∃f,f=e+1:=⟨_,rfl⟩
  have hw:=hO (x:=(e:Int)+1) (m:=f) (by omega) (by omega)
  simp only[he0,aZ,aB,seval]
  refine(fB s e 93 _).to ?_
  cases h1:a6 (sb s) e 93 with
  | true=>
   simp only[aB,seval]
   refine(k8 ⟨#[91,93]⟩ [] (by simp) _).to ?_
   simp only[aB,seval]
   refine(BX ts (iA ⟨#[91,93]⟩ []) (by omega) _).to ?_
   simp only[aH,bL,bV,aW,cW (aW _),cR (aR _),hw,aB,seval,nS]
   exact⟨jT (by omega),hD _⟩
  | false=>
   simp only[hw,aB,seval]
   refine(hR f _ (by omega) (by omega)).mono ?_
   rintro r _ ⟨hr,rfl⟩
   rw[←hf]
   cases hRi:R f with
   | none=>
    rw[hRi] at hr
    obtain⟨k,hk,rfl⟩:=hr
    have hk0:((-1 - (k:Int))<0)=True:=bM (by omega)
    simp only[aH,aO,bL,bV,hk0,fL,aT,aB,↓bD,seval,nS]
    exact⟨qX hk,hD _⟩
   | some p=>
    obtain⟨t,e2⟩:=p
    rw[hRi] at hr
    simp only[f0] at hr
    subst hr
    obtain⟨k1,k2,k3⟩:=hok f t e2 (by rw[a8];omega) hRi
    rw[a8] at k2
    have he2:((e2:Int)<0)=False:=a5 (by omega)
    have hw2:=bB (n:=(e2:Int)+1)
    simp only[aO,bL,bV,he2,aZ,aB,↓bD,seval,nS]
    refine(fB s e2 93 _).to ?_
    cases h2:a6 (sb s) e2 93 with
    | true=>
     simp only[aR,aO,aB,seval,nS]
     refine(BX ts t (by omega) _).to ?_
     simp only[aH,bL,bV,aW,cW (aW _),cR (aR _),hw2,aB,seval,nS]
     exact⟨jT rfl,hD _⟩
    | false=>
     simp only[aB,seval]
     refine(pZ e2 (by omega) _).to ?_
     simp only[aH,bL,bV,aW,cW (aW _),cR (aR _),fL,aB,seval,nS]
     exact⟨nL (by omega),hD _⟩
theorem Y3{R:Nat→fG}{l:List UInt8}{d a:Nat}(h:d<1∨l.length≤a):gO R l d a=none:=by unfold gO;rw[a4 h]
theorem Y4{R:Nat→fG}{l:List UInt8}{d a:Nat}(h:¬(d<1∨l.length≤a))(h1:a6 l a 40=true):gO R l d a=match R d (a+1) with
 | none=>none
 | some (t,e)=>if a6 l e 41 then some (t,e+1) else none:=by unfold gO;rw[aQ h,a4 h1];try rfl
theorem Y0{R:Nat→fG}{l:List UInt8}{d a:Nat}(h:¬(d<1∨l.length≤a))(h1:a6 l a 40=false)(h2:a6 l a 91=true)(h3:a6 l (a+1) 93=false):gO R l d a=oK (R (d - 1)) l (a+1):=by
 unfold gO;rw[aQ h,aQ (by simp [h1]),a4 (by simp [h2,h3])]
theorem Y5{R:Nat→fG}{l:List UInt8}{d a:Nat}(h:¬(d<1∨l.length≤a))(h1:a6 l a 40=false)(h2:(a6 l a 91&& !a6 l (a+1) 93)=false)(h3:cV l a kQ=true):gO R l d a=some (vr ((uA l a - 65:Nat):Int),a+1):=by
 unfold gO;rw[aQ h,aQ (by simp [h1]),aQ (by simp [h2]),a4 h3]
theorem Y2{R:Nat→fG}{l:List UInt8}{d a:Nat}(h:¬(d<1∨l.length≤a))(h1:a6 l a 40=false)(h2:(a6 l a 91&& !a6 l (a+1) 93)=false)(h3:cV l a kQ=false)(h4:(cV l a bU||(a6 l a 45&&cV l (a+1) bU))=true):gO R l d a=match lH l a with
 | none=>none
 | some (n,e)=>some (.mk 2 n ⟨#[]⟩ [],e):=by
 unfold gO;rw[aQ h,aQ (by simp [h1]),aQ (by simp [h2]),aQ (by simp [h3]),a4 h4];try rfl
theorem Y1{R:Nat→fG}{l:List UInt8}{d a:Nat}(h:¬(d<1∨l.length≤a))(h1:a6 l a 40=false)(h2:(a6 l a 91&& !a6 l (a+1) 93)=false)(h3:cV l a kQ=false)(h4:(cV l a bU||(a6 l a 45&&cV l (a+1) bU))=false):gO R l d a=match iD l a with
 | none=>none
 | some (nm,e)=>if a6 l e 40=false then some (iA nm [],e) else match jW (R (d - 1)) l 41 41 (l.length+1) (e+1) [] with
  | none=>none
  | some (ts,e')=>some (iA nm ts,e'+1):=by
 unfold gO;rw[aQ h,aQ (by simp [h1]),aQ (by simp [h2]),aQ (by simp [h3]),aQ (by simp [h4])];try rfl
abbrev eQ:=zi a7 (zi cC (zi gE (zi nU (zi bW (zi b8 (zi bN P5))))))
set_option maxHeartbeats 2000000 in
theorem TQ{s:ByteArray}{R:Nat→fG}{a:Nat}(hR:∀d,d≤1048576→wT s (R d) d 3 (a+1))(hok:∀d,mW (R d) (sb s))(hs:s.size≤1000)(ha:a≤s.size)(d:Nat)(hd:d≤1048576)(st:aA) :
 aD prog 171 [.str s,.int .i64 (a:Int),.int .i64 (d:Int)] st (fun r st'=>f0 (gO R (sb s) d a) r∧st'=st):=by
 refine aD.yA ?_
 refine wF [1000000] 3 func171 ntmps171 rfl rfl ?_
 intro _
 generalize hP:gO R (sb s) d a=o
 simp only[aB,seval,eQ]
 intro b hb
 have hD:=fun(o:AO)=>(aN.refl st).aC (o:=o) hb
 by_cases h0:d<1∨s.size≤a
 case pos=>
  rw[Y3 (by rw[a8];exact h0)] at hP
  subst hP
  by_cases h01:d<1
  case pos=>
   have mC:((d:Int)<1)=True:=bM (by omega)
   simp only[mC,aT,aB,seval]
   refine(pZ a (by omega) _).to ?_
   simp only[aH,bL,bV,aW,cW (aW _),cR (aR _),fL,aB,seval,eQ]
   exact⟨nL (by omega),hD _⟩
  case neg=>
   have mC:((d:Int)<1)=False:=a5 (by omega)
   have oH:((s.size:Int)≤(a:Int))=True:=bM (by omega)
   simp only[mC,oH,aT,aZ,aB,seval,eQ]
   refine(pZ a (by omega) _).to ?_
   simp only[aH,bL,bV,aW,cW (aW _),cR (aR _),fL,aB,seval,eQ]
   exact⟨nL (by omega),hD _⟩
 have h0':¬(d<1∨(sb s).length≤a):=by rw[a8];exact h0
 have mC:((d:Int)<1)=False:=a5 (by omega)
 have oH:((s.size:Int)≤(a:Int))=False:=a5 (by omega)
 obtain⟨x,hx⟩:=l6 (s:=s) (n:=a) (by omega)
 have hix:=kG (P:=prog) (t:=9) jX hx
 obtain⟨f,hf⟩:∃f,f=a+1:=⟨_,rfl⟩
 have hw:=hO (x:=(a:Int)+1) (m:=f) (by omega) (by omega)
 obtain⟨d1,hd1⟩:∃d1,d1=d - 1:=⟨_,rfl⟩
 have hwd:=hO (x:=(d:Int) - 1) (m:=d1) (by omega) (by omega)
 by_cases h40:x.toNat=40
 case pos=>
  rw[Y4 h0' (by rw[kH hx,h40];try rfl),←hf] at hP
  have qF:((x.toNat:Int)=40)=True:=bM (by omega)
  simp only[mC,oH,hix,qF,hw,aT,aZ,aB,seval,eQ]
  refine(hR d hd f _ (by omega) (by omega)).mono ?_
  rintro r _ ⟨hr,rfl⟩
  cases hRi:R d f with
  | none=>
   rw[hRi] at hr hP
   subst hP
   obtain⟨k,hk,rfl⟩:=hr
   have hk0:((-1 - (k:Int))<0)=True:=bM (by omega)
   simp only[aH,aO,bL,bV,hk0,fL,aT,aB,↓bD,seval,eQ]
   exact⟨qX hk,hD _⟩
  | some p=>
   obtain⟨t,e2⟩:=p
   rw[hRi] at hr hP
   simp only[f0] at hr
   subst hr
   obtain⟨k1,k2,k3⟩:=hok d f t e2 (by rw[a8];omega) hRi
   rw[a8] at k2
   have he2:((e2:Int)<0)=False:=a5 (by omega)
   have hw2:=bB (n:=(e2:Int)+1)
   simp only[aO,bL,bV,he2,aZ,aB,↓bD,seval,eQ]
   refine(fB s e2 41 _).to ?_
   cases h2:a6 (sb s) e2 41 with
   | true=>
    simp only[h2,↓reduceIte] at hP
    subst hP
    simp only[aH,aR,aO,bL,bV,aW,cW (aW _),cR (aR _),hw2,aB,seval,eQ]
    exact⟨jT rfl,hD _⟩
   | false=>
    simp only[h2,↓reduceIte,fR] at hP
    subst hP
    simp only[aB,seval]
    refine(pZ e2 (by omega) _).to ?_
    simp only[aH,bL,bV,aW,cW (aW _),cR (aR _),fL,aB,seval,eQ]
    exact⟨nL (by omega),hD _⟩
 have g40:a6 (sb s) a 40=false:=by rw[kH hx];exact cZ h40
 have qF:((x.toNat:Int)=40)=False:=a5 (by omega)
 -- a list
 by_cases hL:x.toNat=91∧a6 (sb s) f 93=false
 case pos=>
  obtain⟨h91,h93⟩:=hL
  rw[Y0 h0' g40 (by rw[kH hx,h91];try rfl) (by rw[←hf];exact h93),←hf,←hd1] at hP
  subst hP
  have kD:((x.toNat:Int)=91)=True:=bM (by omega)
  simp only[mC,oH,hix,qF,kD,hw,aT,aZ,aB,seval,eQ]
  refine(fB s f 93 _).to ?_
  rw[h93]
  simp only[hw,hwd,aB,seval]
  refine(TL (hR d1 (by omega)) (hok d1) hs f (by omega) (by omega) _).mono ?_
  rintro r _ ⟨hr,rfl⟩
  cases hI:oK (R d1) (sb s) f with
  | none=>
   rw[hI] at hr
   obtain⟨k,hk,rfl⟩:=hr
   simp only[aH,bL,bV,aW,cW (aW _),cR (aR _),fL,aB,seval,eQ]
   exact⟨nL hk,hD _⟩
  | some p=>
   obtain⟨t,e2⟩:=p
   rw[hI] at hr
   simp only[f0] at hr
   subst hr
   simp only[aH,bL,bV,aW,cW (aW _),cR (aR _),aB,seval,eQ]
   exact⟨jT rfl,hD _⟩
 have gL:(a6 (sb s) a 91&& !a6 (sb s) (a+1) 93)=false:=by
  rw[←hf,kH hx]
  rcases Nat.decEq x.toNat 91 with h | h
  · rw[cZ h,c8]
  · rw[dA h,dC]
    cases h93:a6 (sb s) f 93 with
    | true=>rfl
    | false=>exact absurd ⟨h,h93⟩ hL
 by_cases hU:kQ x=true
 case pos=>
  have hP':=Y5 (R:=R) h0' g40 gL (by rw[mJ hx];exact hU)
  rw[hP'] at hP
  subst hP
  have hbn:uA (sb s) a=x.toNat:=by unfold uA;rw[hx]
  simp only[kQ,bX,a9] at hU
  have kD:((x.toNat:Int)=91)=False:=a5 (by omega)
  have h65:((65:Int)≤(x.toNat:Int))=True:=bM (by omega)
  have h90:((x.toNat:Int)≤90)=True:=bM (by omega)
  obtain⟨y,hy⟩:∃y,y=x.toNat - 65:=⟨_,rfl⟩
  have hw2:IntKind.wrap .u8 ((x.toNat:Int) - 65)=(y:Int):=by rw[IntKind.wrap_u8];omega
  have hw3:=bB (n:=(y:Int))
  simp only[mC,oH,hix,qF,kD,h65,h90,hw2,hw3,kW,aT,aZ,aB,seval,eQ]
  refine(xO (y:Int) _).to ?_
  simp only[aH,bL,bV,aW,cW (aW _),cR (aR _),hw,aB,seval,eQ]
  rw[hbn,←hy,←hf]
  exact⟨jT rfl,hD _⟩
 have gU:cV (sb s) a kQ=false:=by rw[mJ hx];simpa using hU
 cases hdg:(cV (sb s) a bU||(a6 (sb s) a 45&&cV (sb s) (a+1) bU)) with
 | true=>
  have hP':=Y2 (R:=R) h0' g40 gL gU hdg
  rw[hP'] at hP
  by_cases hdx:bU x=true
  case' pos=>have qG:=hdx
  case' neg=>
   have hdx:bU x=false:=by simpa using hdx
   rw[mJ hx,hdx,jZ,bX,kH hx,a9] at hdg
   have qG:((x.toNat:Int)=45)=True:=bM (by omega)
  all_goals
   by_cases h91:x.toNat=91
   case' pos=>
    have kD:((x.toNat:Int)=91)=True:=bM (by omega)
    have h93:a6 (sb s) f 93=true:=by rw[kH hx,dA h91,dC,←hf] at gL;simpa using gL
   case' neg=>
    have kD:((x.toNat:Int)=91)=False:=a5 (by omega)
    have h93:=kD
   all_goals
    by_cases h65:65≤x.toNat
    case' pos=>
     have mD:((65:Int)≤(x.toNat:Int))=True:=bM (by omega)
     have oI:((x.toNat:Int)≤90)=False:=a5 (by intro h;exact hU (by simp only[kQ,bX,a9];omega))
    case' neg=>
     have mD:((65:Int)≤(x.toNat:Int))=False:=a5 (by omega)
     have oI:=mD
   all_goals
    simp only[mC,oH,hix,qF,kD,mD,oI,hw,aT,aZ,aB,seval,eQ]
    try
     refine(fB s f 93 _).to ?_
     rw[h93]
     simp only[hix,mD,oI,aT,aZ,aB,seval]
    refine(oO s a _).to ?_
    rw[mJ hx]
   all_goals
    simp only[hix,hdx,qG,hw,aT,aB,seval]
    try
     refine(oO s f _).to ?_
     rw[hf,hdg.2]
     simp only[aB,seval]
    refine(TD s hs a ha _).to ?_
    cases hn:lH (sb s) a with
    | none=>
     rw[hn] at hP
     subst hP
     simp only[aO,bL,bV,oQ,aT,aB,↓bD,seval,eQ]
     refine(pZ a (by omega) _).to ?_
     simp only[aH,bL,bV,aW,cW (aW _),cR (aR _),fL,aB,seval,eQ]
     exact⟨nL (by omega),hD _⟩
    | some p=>
     obtain⟨n,e⟩:=p
     rw[hn] at hP
     subst hP
     have he0:((e:Int)<0)=False:=a5 (by omega)
     simp only[aH,aR,aO,bL,bV,aW,cW (aW _),cR (aR _),oQ,he0,aZ,aB,↓bD,seval,eQ]
     exact⟨jT rfl,hD _⟩
 | false=>
  have hP':=Y1 (R:=R) h0' g40 gL gU hdg
  rw[hP',←hd1] at hP
  rw[mJ hx,Bool.or_eq_false_iff,kH hx,←hf] at hdg
  have hdx:=hdg.1
  by_cases h45:x.toNat=45
  case' pos=>
   have qG:((x.toNat:Int)=45)=True:=bM (by omega)
   have hfd:cV (sb s) f bU=false:=by have:=hdg.2;rwa [dA h45,dC] at this
  case' neg=>
   have qG:((x.toNat:Int)=45)=False:=a5 (by omega)
   have hfd:=qG
  all_goals
   by_cases h91:x.toNat=91
   case' pos=>
    have kD:((x.toNat:Int)=91)=True:=bM (by omega)
    have h93:a6 (sb s) f 93=true:=by rw[kH hx,dA h91,dC,←hf] at gL;simpa using gL
   case' neg=>
    have kD:((x.toNat:Int)=91)=False:=a5 (by omega)
    have h93:=kD
   all_goals
    by_cases h65:65≤x.toNat
    case' pos=>
     have mD:((65:Int)≤(x.toNat:Int))=True:=bM (by omega)
     have oI:((x.toNat:Int)≤90)=False:=a5 (by intro h;exact hU (by simp only[kQ,bX,a9];omega))
    case' neg=>
     have mD:((65:Int)≤(x.toNat:Int))=False:=a5 (by omega)
     have oI:=mD
   all_goals
    simp only[mC,oH,hix,qF,kD,mD,oI,hw,aT,aZ,aB,seval,eQ]
    try
     refine(fB s f 93 _).to ?_
     rw[h93]
     simp only[hix,mD,oI,aT,aZ,aB,seval]
    refine(oO s a _).to ?_
    rw[mJ hx]
   all_goals
    simp only[hix,hdx,qG,hw,aT,aZ,aB,seval]
    try
     refine(oO s f _).to ?_
     rw[hfd]
     simp only[aB,seval]
    refine(xN s hs a ha _).to ?_
    cases hn:iD (sb s) a with
    | none=>
     rw[hn] at hP
     subst hP
     simp only[oP,aT,aB,seval]
     refine(pZ a (by omega) _).to ?_
     simp only[aH,bL,bV,aW,cW (aW _),cR (aR _),fL,aB,seval,eQ]
     exact⟨nL (by omega),hD _⟩
    | some p=>
     obtain⟨nm,e⟩:=p
     rw[hn] at hP
     simp only at hP
     have hel:=sU (by rw[a8];exact ha) hn
     rw[a8] at hel
     have he0:((e:Int)<0)=False:=a5 (by omega)
     obtain⟨f2,hf2⟩:∃f2,f2=e+1:=⟨_,rfl⟩
     have hwe:=hO (x:=(e:Int)+1) (m:=f2) (by omega) (by omega)
     simp only[oP,he0,aZ,aB,seval]
     refine(fB s e 40 _).to ?_
     cases h4:a6 (sb s) e 40 with
     | false=>
      rw[a4 h4] at hP
      subst hP
      simp only[aB,seval]
      refine(k8 nm [] (by simp) _).to ?_
      simp only[aH,bL,bV,aW,cW (aW _),cR (aR _),aB,seval,eQ]
      exact⟨jT rfl,hD _⟩
     | true=>
      rw[aQ (by simp [h4]),←hf2] at hP
      have h5:=hY h4
      rw[a8] at h5
      simp only[hwd,hwe,aB,seval]
      refine(B9 (hR d1 (by omega)) (hok d1) hs f2 (by omega) (by omega) _ (c1:=41) (c2:=41)).mono ?_
      rintro r _ ⟨hr,rfl⟩
      cases hT:jW (R d1) (sb s) 41 41 ((sb s).length+1) f2 [] with
      | none=>
       rw[hT] at hr hP
       subst hP
       obtain⟨k,hk,rfl⟩:=hr
       have hk0:((-1 - (k:Int))<0)=True:=bM (by omega)
       simp only[aH,hk0,aT,aB,seval,eQ]
       exact⟨qX hk,hD _⟩
      | some p=>
       obtain⟨ts,e3⟩:=p
       rw[hT] at hr hP
       simp only[lV] at hr hP
       subst hr hP
       obtain⟨g1,g2,g3,g4,g5⟩:=v5 (hok d1) _ _ _ _ _ (by rw[a8];omega) (by simp) hT
       rw[a8] at g2
       have he3:((e3:Int)<0)=False:=a5 (by omega)
       have hw3:=bB (n:=(e3:Int)+1)
       simp only[aH,he3,hw3,aZ,aB,seval,eQ]
       exact⟨by rw[show(AV.agg [.int .i64 3,.int .i64 0,.str nm,.slice (ts.map Tm.av)])=(iA nm ts).av from (bG ..).symm];exact jT rfl,hD _⟩
theorem YD{nm:ByteArray}(h:b7 nm≠0):nm≠⟨#[]⟩:=by rintro rfl;exact h (by decide)
abbrev jV:=zi a7 (zi bW (zi b8 bN))
set_option maxHeartbeats 2000000 in
theorem TR{s:ByteArray}(hs:s.size≤1000):∀(n d a lv:Nat) (st:aA),a≤s.size→lv≤3→d≤1048576→(s.size - a)*4+lv<n →
 aD prog 129 [.str s,.int .i64 (a:Int),.int .i64 (d:Int),.int .i64 (lv:Int)] st (fun r st'=>f0 (rd (sb s) n d a lv) r∧st'=st):=by
 intro n
 induction n with
 | zero=>intro d a lv st _ _ _ h;omega
 | succ n IH=>
 intro d a lv st ha hlv hd hn
 have hl1:(sb s).length≤1000:=by rw[a8];exact hs
 refine aD.yA ?_
 refine wF [1000000,10] 4 func129 ntmps129 rfl rfl ?_
 intro _
 generalize hP:rd (sb s) (n+1) d a lv=o
 simp only[aB,seval,jV]
 intro b hb
 have hD:=fun(o:AO)=>(aN.refl st).aC (o:=o) hb
 cases lv with
 | zero=>
  simp only[rd] at hP
  have h0:(((0:Nat):Int)=0)=True:=bM rfl
  simp only[aT,aB,↓bD,seval]
  refine(TQ (R:=fun d a=>rd (sb s) n d a 3) (a:=a) (fun d hd a' st' h1 h2=>IH d a' 3 st' h2 (by omega) hd (by omega)) (fun d=>oT hl1 n d 3) hs ha d hd _).mono ?_
  rintro r _ ⟨hr,rfl⟩
  rw[hP] at hr
  cases o with
  | none=>
   obtain⟨k,hk,rfl⟩:=hr
   simp only[aH,bL,bV,aW,cW (aW _),cR (aR _),fL,aB,seval,jV]
   exact⟨nL hk,hD _⟩
  | some p=>
   obtain⟨t,e⟩:=p
   simp only[f0] at hr
   subst hr
   simp only[aH,bL,bV,aW,cW (aW _),cR (aR _),aB,seval,jV]
   exact⟨jT rfl,hD _⟩
 | succ lv=>
  simp only[rd] at hP
  have h0:(((lv+1:Nat):Int)=0)=False:=a5 (by omega)
  obtain⟨lw,hlw⟩:∃lw,lw=lv+1:=⟨_,rfl⟩
  rw[←hlw] at hP h0 ⊢
  have hwl:=hO (x:=(lw:Int) - 1) (m:=lv) (by omega) (by omega)
  simp only[h0,hwl,aZ,aB,seval]
  refine(IH d a lv _ ha (by omega) hd (by omega)).mono ?_
  rintro r _ ⟨hr,rfl⟩
  cases hRi:rd (sb s) n d a lv with
  | none=>
   rw[hRi] at hr hP
   simp only at hP
   subst hP
   obtain⟨k,hk,rfl⟩:=hr
   have hk0:((0:Int)≤(-1 - (k:Int)))=False:=a5 (by omega)
   simp only[aH,bL,aW,fL,aB,↓bD,seval,jV]
   intro b10 h10
   have hbb:b10≠b:=fun h=>by rw[h,aA.aY] at h10;cases h10
   have yI:st b10=none:=by rwa [aA.bK _ _ hbb] at h10
   refine fY (σ:=Unit) [1000000,10] [0,2,3,8,10] (fun _=>True) (fun _=>[(9,.int .i64 0),(11,.int .i64 (-1 - (k:Int)))]) (fun _=>(st.aC b (.cells [.int .i64 0,.int .i64 0,.str ⟨#[]⟩,.fslice []])).aC b10 (.cells tD.av.cells)) (fun _=>0) (by decide +kernel) ⟨(),trivial,aL.mk (by simp only[aB,seval])⟩ ?_
   rintro _ _
   simp only[aH,hk0,hbb.symm,aZ,aB,seval,jV]
   exact⟨qX hk,((hD _).aC yI).aC hb⟩
  | some p=>
   obtain⟨t,e⟩:=p
   rw[hRi] at hr hP
   simp only[f0] at hr hP
   subst hr
   obtain⟨g1,g2,g3⟩:=oT hl1 n d lv a t e (by rw[a8];exact ha) hRi
   rw[a8] at g2 hP
   simp only[aH,bL,aW,aB,↓bD,seval,jV]
   intro b10 h10
   have hbb:b10≠b:=fun h=>by rw[h,aA.aY] at h10;cases h10
   have yI:st b10=none:=by rwa [aA.bK _ _ hbb] at h10
   have hE:∀o1 o2 o3,aN (((st.aC b o1).aC b10 o2).aC b o3) st:=fun o1 o2 o3=>((hD _).aC yI).aC hb
   refine fY (σ:=Tm×Nat×Nat) [1000000,10] [0,2,3,8,10] (fun x=>qT (fun a=>rd (sb s) n d a lv) (sb s) lw x.2.2 x.1 x.2.1=o∧a<x.2.1∧x.2.1≤s.size∧s.size<x.2.2+x.2.1) (fun x=>[(9,.int .i64 0),(11,.int .i64 (x.2.1:Int))]) (fun x=>(st.aC b (.cells [.int .i64 0,.int .i64 0,.str ⟨#[]⟩,.fslice []])).aC b10 (.cells x.1.av.cells)) (fun x=>x.2.2) (by decide +kernel) ⟨(t,e,s.size+1),⟨hP,g1,g2,by simp only;omega⟩,aL.mk (by simp only[aB,seval])⟩ ?_
   rintro⟨t,e,m⟩ ⟨ht,hae,hes,hm⟩
   simp only at ht hae hes hm ⊢
   obtain⟨m,rfl⟩:∃m',m=m'+1:=⟨m - 1,by omega⟩
   simp only[qT] at ht
   have he0:((0:Int)≤(e:Int))=True:=bM (by omega)
   simp only[he0,aT,aB,seval]
   refine(TO s hs e hes _).to ?_
   cases hop:jF (sb s) e with
   | none=>
    rw[hop] at ht
    simp only at ht
    subst ht
    simp only[aH,bL,bV,aW,cW (aW _),cR (aR _),zE,hbb.symm,aT,aB,seval,jV]
    exact⟨jT rfl,hE _ _ _⟩
   | some p=>
    obtain⟨nm,e1⟩:=p
    rw[hop] at ht
    simp only at ht
    obtain⟨k1,k2,k3⟩:=OM hop
    rw[a8] at k2
    have hnm:=a5 (YD k3)
    simp only[zE,hnm,aZ,aB,seval]
    refine(m8 nm _).to ?_
    by_cases NR:b7 nm=lw
    case neg=>
     rw[a4 NR] at ht
     subst ht
     have hne:((b7 nm:Int)=(lw:Int))=False:=a5 (by omega)
     simp only[aH,bL,bV,aW,cW (aW _),cR (aR _),hne,hbb.symm,aZ,aB,seval,jV]
     exact⟨jT rfl,hE _ _ _⟩
    rw[aQ (by simpa using NR)] at ht
    have hne:((b7 nm:Int)=(lw:Int))=True:=bM (by omega)
    simp only[hne,hwl,aT,aB,seval]
    refine(IH d e1 lv _ k2 (by omega) hd (by omega)).mono ?_
    rintro r _ ⟨hr,rfl⟩
    cases hRj:rd (sb s) n d e1 lv with
    | none=>
     rw[hRj] at hr ht
     simp only at ht
     subst ht
     obtain⟨k,hk,rfl⟩:=hr
     have hk0:((-1 - (k:Int))<0)=True:=bM (by omega)
     simp only[aH,aO,bL,bV,hk0,fL,hbb.symm,aT,aB,↓bD,seval,jV]
     exact⟨qX hk,hE _ _ _⟩
    | some p=>
     obtain⟨t2,e2⟩:=p
     rw[hRj] at hr ht
     simp only[f0] at hr ht
     subst hr
     obtain⟨q1,q2,q3⟩:=oT hl1 n d lv e1 t2 e2 (by rw[a8];exact k2) hRj
     rw[a8] at q2
     have he2:((e2:Int)<0)=False:=a5 (by omega)
     simp only[aR,aO,bL,bV,aW,cW (aW _),cR (aR _),he2,aZ,aB,↓bD,seval,jV]
     refine(k8 nm [t,t2] (by simp) _).to ?_
     by_cases h3:lw=3
     · rw[a4 h3] at ht
       subst ht
       have h3':((lw:Int)=3)=True:=bM (by omega)
       simp only[aH,bL,bV,aW,cW (aW _),cR (aR _),h3',hbb.symm,aT,aB,seval,jV]
       exact⟨jT rfl,hE _ _ _⟩
     · rw[aQ h3] at ht
       have h3':((lw:Int)=3)=False:=a5 (by omega)
       simp only[aH,bL,aW,h3',aZ,aB,seval,jV]
       exact⟨(iA nm [t,t2],e2,m),by simp only;omega,⟨ht,by simp only;omega,q2,by simp only;omega⟩,aL.mk (by simp only[aB,seval])⟩
end Go.AW
namespace Go.AW
def gX:Nat→Nat→ByteArray→ByteArray
 | 0,_,acc=>acc
 | f+1,n,acc=>if 9<n then gX f (n / 10) (⟨#[UInt8.ofNat (48+n % 10)]⟩++acc) else⟨#[UInt8.ofNat (48+n)]⟩++acc
def oC(n:Int):ByteArray:=if n<0 then⟨#[45]⟩++gX 20 (-n).toNat ⟨#[]⟩ else gX 20 n.toNat ⟨#[]⟩
def u7(n:Int):ByteArray:=⟨#[UInt8.ofNat (65+n.toNat)]⟩
def jS(t:Tm):Bool:=decide (t.k=3)&&(decide (t.s=⟨#[46]⟩)&&decide (t.ts.length=2))
def vA(t:Tm):Bool:=decide (t.k=3)&&(decide (t.s=⟨#[91,93]⟩)&&decide (t.ts.length=0))
def mI(t:Tm):Bool:=decide (t.k=3)&&(decide (t.ts.length=2)&&decide (0<b7 t.s))
def qY(t:Tm):Bool:=decide (t.k=3)&&(decide (t.ts.length=0)&&decide (0<b7 t.s))
def xF(t:Tm):Bool:=decide (t.k=3)&&decide (0<t.ts.length)
def lE(t:Tm)(i:Nat):Tm:=t.ts.getD i aAH
 where aAH:Tm:=.mk 0 0 ⟨#[]⟩ []
def fK(T:Tm→ByteArray):List Tm→ByteArray
 | []=>⟨#[]⟩
 | x::xs=>xs.foldl (fun o y=>(o++⟨#[44]⟩)++T y) (⟨#[]⟩++T x)
def spine:Nat→Tm→List Tm×Tm
 | 0,t=>([],t)
 | n+1,t=>if jS t then(lE t 0::(spine n (lE t 1)).1,(spine n (lE t 1)).2) else([],t)
def jU(nm:ByteArray):ByteArray:=if dT nm then(⟨#[32]⟩++nm)++⟨#[32]⟩ else nm
def vE(l:List UInt8):Bool:=cV l 0 d5||(cV l 0 bU||(cV l 0 kQ||(a6 l 0 91||a6 l 0 40)))
def k7(T:Tm→ByteArray)(t:Tm)(lv:Nat):ByteArray:=if mI t&&decide (lv<b7 t.s) then(⟨#[40]⟩++T t)++⟨#[41]⟩ else T t
def oL(T:Tm→ByteArray)(t:Tm)(lv:Nat):ByteArray:=if qY t then(⟨#[40]⟩++T t)++⟨#[41]⟩ else k7 T t lv
def oU(T:Tm→ByteArray)(t:Tm)(lv:Nat):ByteArray:=if qY t|| !vE (sb (k7 T t lv)) then(⟨#[40]⟩++k7 T t lv)++⟨#[41]⟩ else k7 T t lv
def sO(T:Tm→ByteArray)(p:List Tm×Tm):ByteArray:=if vA p.2 then(⟨#[91]⟩++fK T p.1)++⟨#[93]⟩ else(((⟨#[91]⟩++fK T p.1)++⟨#[124]⟩)++T p.2)++⟨#[93]⟩
def qN(t:Tm):ByteArray:=if t.k=1 then u7 t.n else if t.k=2 then oC t.n else t.s
def lvl(n:Nat):Nat:=if n=3 then 2 else n
def tx:Nat→Tm→ByteArray
 | 0,_=>⟨#[]⟩
 | n+1,t=>if jS t then sO (tx n) (spine n t) else if mI t then(oL (tx n) (lE t 0) (lvl (b7 t.s))++jU t.s)++oU (tx n) (lE t 1) (b7 t.s - 1)
  else if xF t then((t.s++⟨#[40]⟩)++fK (tx n) t.ts)++⟨#[41]⟩ else qN t
theorem RP{T:Tm→ByteArray}{l:List Tm}{i:Nat}{x:Tm}(hx:l[i]?=some x):fK T (l.take (i+1))=(if 0<i then fK T (l.take i)++⟨#[44]⟩ else fK T (l.take i))++T x:=by
 rw[fE,hx]
 cases l with
 | nil=>simp at hx
 | cons y l=>
  cases i with
  | zero=>simp at hx;subst hx;rfl
  | succ i=>
   rw[a4 (by omega),lT]
   simp only[fK,Option.toList_some,dZ,List.foldl_append,rC,List.foldl_nil]
theorem bP(a b:ByteArray):(a++b).size=a.size+b.size:=ByteArray.size_append
theorem uH:∀(f n:Nat) (acc:ByteArray),(gX f n acc).size≤f+acc.size
 | 0,n,acc=>by simp [gX]
 | f+1,n,acc=>by
  unfold gX
  split
  · refine j4 (uH f _ _) ?_
    rw[bP]
    show f+(1+acc.size)≤_
    omega
  · rw[bP]
    show 1+acc.size≤_
    omega
abbrev Ws (t:Tm):Prop:=∃d,t.shape d=true
theorem Ws.own{k n:Int}{s:ByteArray}{ts:List Tm}(h:Ws (.mk k n s ts)):dF k n s ts.length=true∧∀x∈ts,Ws x:=by
 obtain⟨d,h⟩:=h
 rw[Tm.vJ,bX,bX,fD] at h
 exact⟨h.1.2,fun x hx=>⟨_,h.2 x hx⟩⟩
theorem sR{k n:Int}{s:ByteArray}{len:Int}(h:dF k n s len=true):(k=1∧0≤n∧n≤25∧s=⟨#[]⟩∧len=0)∨(k=2∧-999≤n∧n≤999∧s=⟨#[]⟩∧len=0)∨(k=3∧n=0∧nJ s=true∧len≤4):=by
 unfold dF at h
 by_cases h1:k=1
 · rw[dA h1] at h
   simp only[cond_true,bX,a9] at h
   exact Or.inl ⟨h1,h.1.1.1,h.1.1.2,h.1.2,h.2⟩
 rw[cZ h1] at h
 by_cases h2:k=2
 · rw[dA h2] at h
   simp only[cond_true,cond_false,bX,a9] at h
   exact Or.inr (Or.inl ⟨h2,h.1.1.1,h.1.1.2,h.1.2,h.2⟩)
 rw[cZ h2] at h
 by_cases h3:k=3
 · rw[dA h3] at h
   simp only[cond_true,cond_false,bX,a9] at h
   exact Or.inr (Or.inr ⟨h3,h.1.1,h.1.2,h.2⟩)
 · rw[cZ h3] at h
   cases h
theorem OA{s:ByteArray}(h:nJ s=true):1≤s.size∧s.size≤6:=by
 unfold nJ at h
 rw[rA] at h
 rcases h with h | h
 · simp only[kJ,bX,a9] at h
   omega
 · rw[List.any_eq_true] at h
   obtain⟨x,hx,h⟩:=h
   rw[a9] at h
   subst h
   revert hx
   revert s
   decide
theorem Ws.size{t:Tm}(h:Ws t):t.s.size≤6∧(t.k=3→1≤t.s.size):=by
 obtain⟨k,n,s,ts⟩:=t
 rcases sR h.own.1 with h | h | h
 · rw[show(Tm.mk k n s ts).s=s from rfl,h.2.2.2.1];exact⟨by decide,fun h3=>by have:k=3:=h3;omega⟩
 · rw[show(Tm.mk k n s ts).s=s from rfl,h.2.2.2.1];exact⟨by decide,fun h3=>by have:k=3:=h3;omega⟩
 · have:=OA h.2.2.1;exact⟨this.2,fun _=>this.1⟩
theorem jR(t:Tm):1≤t.nodes:=by obtain⟨k,n,s,ts⟩:=t;rw[Tm.jE];omega
theorem N7{x:Tm}{l:List Tm}(h:x∈l):x.nodes≤bH Tm.nodes l:=by
 induction l with
 | nil=>cases h
 | cons y l ih=>
  simp only[bH]
  rcases iG.1 h with rfl | h
  · omega
  · have:=ih h;omega
theorem PE:∀(l:List Tm) (i:Nat),bH Tm.nodes (l.take i)≤bH Tm.nodes l
 | [],i=>by simp
 | x::l,0=>by simp [bH]
 | x::l,i+1=>by simp only[lT,bH];have:=PE l i;omega
theorem t7{T:Tm→ByteArray}{l:List Tm}(h:∀x∈l,(T x).size≤32*x.nodes):(fK T l).size≤32*bH Tm.nodes l+l.length:=by
 have hg:∀(xs:List Tm) (o:ByteArray),(∀x∈xs,(T x).size≤32*x.nodes)→(xs.foldl (fun o y=>(o++⟨#[44]⟩)++T y) o).size≤o.size+32*bH Tm.nodes xs+xs.length:=by
  intro xs
  induction xs with
  | nil=>intro o _;simp [bH]
  | cons x xs ih=>
   intro o hx
   refine j4 (ih _ fun y hy=>hx y (by simp [hy])) ?_
   rw[bP,bP]
   have:=hx x (by simp)
   simp only[bH,bE]
   show o.size+1+_+_+_≤_
   omega
 cases l with
 | nil=>exact iI _
 | cons x l=>
  refine j4 (hg l _ fun y hy=>h y (by simp [hy])) ?_
  rw[bP]
  have:=h x (by simp)
  simp only[bH,bE]
  show 0+_+_+_≤_
  omega
theorem qU{t:Tm}(h:jS t=true):∃n x y,t=.mk 3 n ⟨#[46]⟩ [x,y]:=by
 obtain⟨k,n,s,ts⟩:=t
 simp only[jS,bX,a9] at h
 simp only[Tm.k,Tm.s,Tm.ts] at h
 obtain⟨rfl,rfl,h3⟩:=h
 match ts,h3 with
 | [x,y],_=>exact⟨n,x,y,rfl⟩
theorem qM{k n:Int}{s:ByteArray}{x y:Tm}:lE (.mk k n s [x,y]) 0=x∧lE (.mk k n s [x,y]) 1=y:=⟨rfl,rfl⟩
theorem zU:∀(n:Nat) (t:Tm),Ws t→(∀x∈(spine n t).1,Ws x)∧Ws (spine n t).2∧bH Tm.nodes (spine n t).1+(spine n t).1.length+(spine n t).2.nodes=t.nodes
 | 0,t,h=>⟨by simp [spine],h,by simp [spine,bH]⟩
 | n+1,t,h=>by
  unfold spine
  split
  · rename_i hp
    obtain⟨m,x,y,rfl⟩:=qU hp
    have hk:=h.own.2
    obtain⟨h1,h2,h3⟩:=zU n y (hk y (by simp))
    simp only[qM]
    refine⟨fun z hz=>?_,h2,?_⟩
    · rcases iG.1 hz with rfl | hz
      · exact hk z (by simp)
      · exact h1 z hz
    · simp only[bH,bE,Tm.jE]
      omega
  · exact⟨by simp,h,by simp [bH]⟩
theorem y9{t:Tm}(h:mI t=true):∃n s x y,t=.mk 3 n s [x,y]∧0<b7 s:=by
 obtain⟨k,n,s,ts⟩:=t
 simp only[mI,bX,a9] at h
 simp only[Tm.k,Tm.s,Tm.ts] at h
 obtain⟨rfl,h2,h3⟩:=h
 match ts,h2 with
 | [x,y],_=>exact⟨n,s,x,y,rfl,h3⟩
theorem xI{T:Tm→ByteArray}{t:Tm}(lv:Nat):(T t).size≤(k7 T t lv).size∧(k7 T t lv).size≤(T t).size+2:=by
 unfold k7
 split
 · rw[bP,bP];show _≤1+_+1∧1+_+1≤_;omega
 · omega
theorem X9{T:Tm→ByteArray}{t:Tm}(lv:Nat):(T t).size≤(oL T t lv).size∧(oL T t lv).size≤(T t).size+2:=by
 unfold oL
 split
 · rw[bP,bP];show _≤1+_+1∧1+_+1≤_;omega
 · exact xI lv
theorem ZC{T:Tm→ByteArray}{t:Tm}(lv:Nat):(T t).size≤(oU T t lv).size∧(oU T t lv).size≤(T t).size+4:=by
 have:=xI (T:=T) (t:=t) lv
 unfold oU
 split
 · rw[bP,bP];show _≤1+_+1∧1+_+1≤_;omega
 · omega
theorem wB:∀(n:Nat) (t:Tm),Ws t→(tx n t).size≤32*t.nodes
 | 0,t,_=>iI _
 | n+1,t,h=>by
  have hT:=wB n
  unfold tx
  split
  · rename_i hp
    obtain⟨h1,h2,h3⟩:=zU n t h
    have ha:=t7 (T:=tx n) (l:=(spine n t).1) fun x hx=>hT x (h1 x hx)
    have hb:=hT _ h2
    have hq:=jR (spine n t).2
    have hl:1≤(spine n t).1.length∨n=0:=by
     cases n with
     | zero=>exact Or.inr rfl
     | succ m=>left;unfold spine;rw[a4 hp];simp
    have h4:3≤t.nodes:=by obtain⟨m,x,y,rfl⟩:=qU hp;simp only[Tm.jE,bH];have:=jR x;have:=jR y;omega
    have hb2:1≤(spine n t).1.length∨((tx n (spine n t).2).size=0∧(fK (tx n) (spine n t).1).size=0):=by
     rcases hl with hl | rfl
     · left;omega
     · right;exact⟨rfl,rfl⟩
    unfold sO
    split
    · rw[bP,bP];show 1+_+1≤_;omega
    · rw[bP,bP,bP,bP];show 1+_+1+_+1≤_;omega
  split
  · rename_i hp
    obtain⟨m,s,x,y,rfl,hs⟩:=y9 hp
    have hk:=h.own.2
    have h6:=h.size.1
    simp only[qM,Tm.jE,bH,Tm.s]
    have hx:=hT x (hk x (by simp))
    have hy:=hT y (hk y (by simp))
    have hl:=(X9 (T:=tx n) (t:=x) (lvl (b7 s))).2
    have hr:=(ZC (T:=tx n) (t:=y) (b7 s - 1)).2
    rw[bP,bP]
    have hsp:(jU s).size≤8:=by
     have h6:s.size≤6:=h6
     unfold jU
     split
     · rw[bP,bP];show 1+_+1≤_;omega
     · omega
    show _+(jU s).size+_≤_
    omega
  split
  · obtain⟨k,m,s,ts⟩:=t
    have ha:=t7 (T:=tx n) (l:=ts) fun x hx=>hT x (h.own.2 x hx)
    have h6:s.size≤6:=h.size.1
    have h4:ts.length≤4:=by rcases sR h.own.1 with h | h | h<;>omega
    rw[bP,bP,bP,Tm.jE]
    simp only[Tm.s,Tm.ts]
    show s.size+1+_+1≤_
    omega
  · have h6:=h.size.1
    have hp:=jR t
    unfold qN
    split
    · show 1≤_;omega
    · split
      · unfold oC
        split
        · rw[bP];have:=uH 20 (-t.n).toNat ⟨#[]⟩;have h0:(⟨#[]⟩:ByteArray).size=0:=rfl;show 1+_≤_;omega
        · have:=uH 20 t.n.toNat ⟨#[]⟩;have h0:(⟨#[]⟩:ByteArray).size=0:=rfl;omega
      · omega
def mP:Nat→Tm→Tm
 | 0,t=>t
 | i+1,t=>mP i (lE t 1)
theorem O6:∀(i:Nat) (t:Tm),mP (i+1) t=lE (mP i t) 1
 | 0,t=>rfl
 | i+1,t=>by rw[mP,O6 i];try rfl
theorem O7:∀(n:Nat) (t:Tm) (i:Nat) (x:Tm),(spine n t).1[i]?=some x→jS (mP i t)=true∧lE (mP i t) 0=x
 | 0,t,i,x,h=>by simp [spine] at h
 | n+1,t,i,x,h=>by
  unfold spine at h
  split at h
  · rename_i hp
    cases i with
    | zero=>simp at h;exact⟨hp,h⟩
    | succ i=>exact O7 n _ i x (by simpa using h)
  · simp at h
theorem O8:∀(n:Nat) (t:Tm),t.nodes≤n+1→(spine n t).2=mP (spine n t).1.length t∧jS (spine n t).2=false
 | 0,t,h=>by
  refine⟨rfl,?_⟩
  cases hp:jS t with
  | false=>exact hp
  | true=>obtain⟨m,x,y,rfl⟩:=qU hp;simp only[Tm.jE,bH] at h;have:=jR x;omega
 | n+1,t,h=>by
  unfold spine
  split
  · rename_i hp
    obtain⟨m,x,y,rfl⟩:=qU hp
    simp only[Tm.jE,bH] at h
    have:=jR x
    have:=O8 n y (by omega)
    exact⟨this.1,this.2⟩
  · rename_i hp
    exact⟨rfl,by simpa using hp⟩
theorem aAM{n:Nat}{t:Tm}(h:Ws t)(hn:1≤n):1≤(tx n t).size:=by
 obtain⟨n,rfl⟩:∃m,n=m+1:=⟨n - 1,by omega⟩
 unfold tx
 split
 · unfold sO
   split
   · rw[bP,bP];show 1≤1+_+1;omega
   · rw[bP];show 1≤_+1;omega
 split
 · rename_i hp
   obtain⟨m,s,x,y,rfl,hs⟩:=y9 hp
   have h6:1≤s.size:=h.size.2 rfl
   rw[bP,bP]
   have:1≤(jU s).size:=by
    unfold jU
    split
    · rw[bP,bP];omega
    · exact h6
   show 1≤_+(jU s).size+_
   omega
 split
 · rw[bP];show 1≤_+1;omega
 · obtain⟨k,m,s,ts⟩:=t
   rw[show qN (.mk k m s ts)=if k=1 then u7 m else if k=2 then oC m else s from rfl]
   rcases sR h.own.1 with h1 | h1 | h1
   · rw[a4 h1.1];exact c9 _
   · rw[aQ (by omega),a4 h1.1]
     unfold oC
     split
     · rw[bP];show 1≤1+_;omega
     · have hf:∀f n acc,1≤(gX (f+1) n acc).size:=by
        intro f
        induction f with
        | zero=>
         intro n acc;unfold gX;split
         · simp only[gX];rw[bP];show 1≤1+_;omega
         · rw[bP];show 1≤1+_;omega
        | succ f ih=>
         intro n acc;unfold gX;split
         · exact ih _ _
         · rw[bP];show 1≤1+_;omega
       exact hf 19 _ _
   · rw[aQ (by omega),aQ (by omega)];exact(OA h1.2.2.1).1
end Go.AW
namespace Go.AW
open Go.Proofs.Tryz
theorem ON{k n:Int}{s:ByteArray}{ts:List Tm}:jS (.mk k n s ts)=(decide (k=3)&&(decide (s=⟨#[46]⟩)&&decide (ts.length=2))):=rfl
theorem YR{k n:Int}{s:ByteArray}{ts:List Tm}:vA (.mk k n s ts)=(decide (k=3)&&(decide (s=⟨#[91,93]⟩)&&decide (ts.length=0))):=rfl
theorem X5{k n:Int}{s:ByteArray}{ts:List Tm}:mI (.mk k n s ts)=(decide (k=3)&&(decide (ts.length=2)&&decide (0<b7 s))):=rfl
theorem xE{k n:Int}{s:ByteArray}{ts:List Tm}:xF (.mk k n s ts)=(decide (k=3)&&decide (0<ts.length)):=rfl
theorem ZO{k n:Int}{s:ByteArray}{ts:List Tm}:qY (.mk k n s ts)=(decide (k=3)&&(decide (ts.length=0)&&decide (0<b7 s))):=rfl
abbrev z6:=zi a7 (zi cC (zi bW (zi b8 bN)))
theorem uC(t:Tm)(st:aA):aD prog 229 [t.av] st (fun r st'=>r=.bool (jS t)∧st'=st):=by
 obtain⟨k,n,s,ts⟩:=t
 rw[ON]
 refine wF [1000000] 1 func229 ntmps229 rfl rfl ?_
 intro _
 simp only[bG]
 by_cases h1:k=3
 case neg=>
  rw[cZ h1,c8]
  simp only[h1,aZ,aB,seval,z6]
 rw[dA h1,dC]
 by_cases h2:s=⟨#[46]⟩
 case neg=>
  rw[cZ h2,c8]
  simp only[h1,h2,aT,aZ,aB,seval,z6]
 rw[dA h2,dC]
 have h3:decide (((ts.length:Nat):Int)=2)=decide (ts.length=2):=by rw[qA];omega
 simp only[h1,h2,h3,aT,aF,aB,seval,z6]
abbrev z8:=zi a7 (zi cC (zi bW (zi b8 bN)))
theorem TC(t:Tm)(st:aA):aD prog 246 [t.av] st (fun r st'=>r=.bool (vA t)∧st'=st):=by
 obtain⟨k,n,s,ts⟩:=t
 rw[YR]
 refine wF [1000000] 1 func246 ntmps246 rfl rfl ?_
 intro _
 simp only[bG]
 by_cases h1:k=3
 case neg=>
  rw[cZ h1,c8]
  simp only[h1,aZ,aB,seval,z8]
 rw[dA h1,dC]
 by_cases h2:s=⟨#[91,93]⟩
 case neg=>
  rw[cZ h2,c8]
  simp only[h1,h2,aT,aZ,aB,seval,z8]
 rw[dA h2,dC]
 have h3:decide (((ts.length:Nat):Int)=0)=decide (ts.length=0):=by rw[qA];omega
 simp only[h1,h2,h3,aT,aF,aB,seval,z8]
abbrev z7:=zi a7 (zi cC (zi bW (zi b8 bN)))
theorem B7(t:Tm)(st:aA):aD prog 231 [t.av] st (fun r st'=>r=.bool (mI t)∧st'=st):=by
 obtain⟨k,n,s,ts⟩:=t
 rw[X5]
 refine wF [1000000] 1 func231 ntmps231 rfl rfl ?_
 intro _
 simp only[bG]
 by_cases h1:k=3
 case neg=>
  rw[cZ h1,c8]
  simp only[h1,aZ,aB,seval,z7]
 rw[dA h1,dC]
 by_cases h2:ts.length=2
 case neg=>
  rw[cZ h2,c8]
  have h2':(((ts.length:Nat):Int)=2)=False:=a5 (by omega)
  simp only[h1,h2',aT,aZ,aF,aB,seval,z7]
 rw[dA h2,dC]
 have h2':(((ts.length:Nat):Int)=2)=True:=bM (by omega)
 simp only[h1,h2',aT,aF,aB,seval,z7]
 refine(m8 s _).to ?_
 have h3:decide ((0:Int)<(b7 s:Int))=decide (0<b7 s):=by rw[qA];omega
 simp only[h3,aB,seval]
abbrev z9:=zi a7 (zi cC (zi bW (zi b8 bN)))
theorem B8(t:Tm)(st:aA):aD prog 247 [t.av] st (fun r st'=>r=.bool (qY t)∧st'=st):=by
 obtain⟨k,n,s,ts⟩:=t
 rw[ZO]
 refine wF [1000000] 1 func247 ntmps247 rfl rfl ?_
 intro _
 simp only[bG]
 by_cases h1:k=3
 case neg=>
  rw[cZ h1,c8]
  simp only[h1,aZ,aB,seval,z9]
 rw[dA h1,dC]
 by_cases h2:ts.length=0
 case neg=>
  rw[cZ h2,c8]
  have h2':(((ts.length:Nat):Int)=0)=False:=a5 (by omega)
  simp only[h1,h2',aT,aZ,aF,aB,seval,z9]
 rw[dA h2,dC]
 have h2':(((ts.length:Nat):Int)=0)=True:=bM (by omega)
 simp only[h1,h2',aT,aF,aB,seval,z9]
 refine(m8 s _).to ?_
 have h3:decide ((0:Int)<(b7 s:Int))=decide (0<b7 s):=by rw[qA];omega
 simp only[h3,aB,seval]
theorem TT(s:ByteArray)(hs:s.size≤1000)(st:aA):aD prog 233 [.str s] st (fun r st'=>r=.str (jU s)∧st'=st):=by
 refine wF [1000000] 1 func233 ntmps233 rfl rfl ?_
 intro _
 have hm:maxLen=9223372036854775807:=by rfl
 have g1:(⟨#[32]⟩:ByteArray).size+s.size≤maxLen:=by show 1+s.size≤_;omega
 have g2:((⟨#[32]⟩:ByteArray)++s).size+(⟨#[32]⟩:ByteArray).size≤maxLen:=by rw[bP];show 1+s.size+1≤_;omega
 by_cases h1:s=⟨#[105,115]⟩
 · have hW:dT s=true:=by unfold dT;rw[dA h1];try rfl
   unfold jU
   rw[a4 hW]
   have h1':=bM h1
   simp only[h1',g1,g2,↓reduceIte,aT,aB,seval]
 · have h1':=a5 h1
   by_cases h2:s=⟨#[109,111,100]⟩
   · have hW:dT s=true:=by unfold dT;rw[dA h2];exact nX _
     unfold jU
     rw[a4 hW]
     have h2':=bM h2
     simp only[h1',h2',g1,g2,↓reduceIte,aT,aZ,aB,seval]
   · have hW:dT s=false:=by unfold dT;rw[cZ h1,cZ h2];try rfl
     unfold jU
     rw[aQ (by rw[hW];decide)]
     have h2':=a5 h2
     simp only[h1',h2',aZ,aB,seval]
theorem TP(s:ByteArray)(hs:1≤s.size)(st:aA):aD prog 249 [.str s] st (fun r st'=>r=.bool (vE (sb s))∧st'=st):=by
 refine wF [1000000] 1 func249 ntmps249 rfl rfl ?_
 intro _
 obtain⟨x,hx⟩:=l6 (s:=s) (n:=0) (by omega)
 have hix:=kG (P:=prog) (t:=9) jX hx
 rw[show((0:Nat):Int)=0 from rfl] at hix
 unfold vE
 simp only[mJ hx,kH hx]
 simp only[aB,seval]
 refine(N9 s 0 _).to ?_
 rw[mJ hx]
 cases h1:d5 x with
 | true=>
  simp only[aB,seval]
  simp
 | false=>
  simp only[aB,seval]
  refine(oO s 0 _).to ?_
  rw[mJ hx]
  cases h2:bU x with
  | true=>
   simp only[aB,seval]
   simp
  | false=>
   by_cases h3:65≤x.toNat
   case' pos=>have h3':((65:Int)≤(x.toNat:Int))=True:=bM (by omega)
   case' neg=>have h3':((65:Int)≤(x.toNat:Int))=False:=a5 (by omega)
   all_goals
    by_cases h4:x.toNat≤90
    case' pos=>have h4':((x.toNat:Int)≤90)=True:=bM (by omega)
    case' neg=>have h4':((x.toNat:Int)≤90)=False:=a5 (by omega)
   all_goals
    by_cases h5:x.toNat=91
    case' pos=>have h5':((x.toNat:Int)=91)=True:=bM (by omega)
    case' neg=>have h5':((x.toNat:Int)=91)=False:=a5 (by omega)
   all_goals
    by_cases h6:x.toNat=40
    case' pos=>have h6':((x.toNat:Int)=40)=True:=bM (by omega)
    case' neg=>have h6':((x.toNat:Int)=40)=False:=a5 (by omega)
   all_goals try (exfalso;omega)
   all_goals
    simp only[hix,h3',h4',h5',h6',aT,aZ,aB,seval]
    simp [kQ,h3,h4,h5,h6]
theorem xK(n:Nat):bytesOf [AV.int .u8 ((n:Nat):Int)]=some [UInt8.ofNat n]:=by simp only[bytesOf,j1,kU]
theorem wG{x:Int}{m:Nat}(h:x=(m:Int))(hm:m≤255):IntKind.wrap .u8 x=(m:Int):=by rw[IntKind.wrap_u8];omega
abbrev Z8:=zi a7 (zi gE (zi bW q8))
theorem TB(m:Nat)(hm:m≤25)(st:aA):aD prog 250 [.int .i64 (m:Int)] st (fun r st'=>r=.str (u7 m)∧st'=st):=by
 refine wF [1000000] 1 func250 ntmps250 rfl rfl ?_
 intro _
 have hw:=wG (x:=(m:Int)) rfl (by omega)
 obtain⟨y,hy⟩:∃y,y=65+m:=⟨_,rfl⟩
 have hw2:=wG (x:=65+(m:Int)) (m:=y) (by omega) (by omega)
 simp only[kW,hw,hw2,xK,aB,seval,Z8]
 subst hy
 rfl
abbrev PY:=zi a7 (zi gE (zi bW q8))
theorem BV(n:Nat)(hn:n≤1000000)(st:aA):aD prog 193 [.int .i64 (n:Int)] st (fun r st'=>r=.str (gX 20 n ⟨#[]⟩)∧st'=st):=by
 refine wF [1000000] 1 func193 ntmps193 rfl rfl ?_
 intro _
 have h1:((n:Int)< -9223372036854775807)=False:=a5 (by omega)
 have h2:((n:Int)<0)=False:=a5 (by omega)
 simp only[h1,h2,aZ,aB,seval]
 generalize hT:gX 20 n ⟨#[]⟩=T
 refine fY (σ:=Nat×ByteArray×Nat) [1000000] [2] (fun x=>gX x.2.2 x.1 x.2.1=T∧x.1<10 ^ x.2.2∧x.1≤1000000∧1≤x.2.2∧x.2.1.size+x.2.2≤20) (fun x=>[(0,.int .i64 (x.1:Int)),(3,.str x.2.1)]) (fun _=>st) (fun x=>x.2.2) (by decide +kernel) ⟨(n,⟨#[]⟩,20),⟨hT,by simp only;omega,hn,by simp only;omega,by show 0+20≤20;omega⟩,aL.mk (by simp only[aB,seval])⟩ ?_
 rintro⟨k,acc,f⟩ ⟨hd,hk,hk6,hf,hb⟩
 simp only at hd hk hk6 hf hb ⊢
 obtain⟨f,rfl⟩:∃f',f=f'+1:=⟨f - 1,by omega⟩
 have hm:maxLen=9223372036854775807:=by rfl
 have hsz:∀u:UInt8,(⟨#[u]⟩:ByteArray).size+acc.size≤maxLen:=fun u=>by show 1+acc.size≤_;omega
 have hr:((k:Int)).tmod 10=((k % 10:Nat):Int):=by rw[Int.tmod_eq_emod_of_nonneg (by omega)];omega
 have hq:((k:Int)).tdiv 10=((k / 10:Nat):Int):=by rw[Int.tdiv_eq_ediv_of_nonneg (by omega)];omega
 simp only[aB,seval]
 refine bC (fun h3=>?_) (fun h3=>?_)
 · simp only[a9] at h3
   unfold gX at hd
   rw[a4 (by omega)] at hd
   rw[Nat.pow_succ] at hk
   obtain⟨y,hy⟩:∃y,y=48+k % 10:=⟨_,rfl⟩
   obtain⟨q,hq'⟩:∃q,q=k / 10:=⟨_,rfl⟩
   obtain⟨r,hr'⟩:∃r,r=k % 10:=⟨_,rfl⟩
   rw[←hr'] at hr
   rw[←hq'] at hq
   have hwr:=bB (n:=(r:Int))
   have hw:=hO (x:=48+(r:Int)) (m:=y) (by omega) (by omega)
   have hw8:=wG (x:=(y:Int)) (m:=y) rfl (by omega)
   have hw2:=bB (n:=(q:Int))
   simp only[kW,hr,hq,hw,hw8,hw2,xK,hsz,aB,seval,PY]
   refine⟨(q,⟨#[UInt8.ofNat y]⟩++acc,f),by simp only;omega,⟨by rw[hq',hy];exact hd,by simp only;omega,by simp only;omega,?_,?_⟩,aL.mk (by simp only[aB,seval]<;>rfl)⟩
   · show 1≤f
     rcases Nat.eq_zero_or_pos f with rfl | h
     · simp only[Nat.pow_zero] at hk;omega
     · exact h
   · show(⟨#[UInt8.ofNat y]⟩++acc:ByteArray).size+f≤20
     rw[bP]
     show 1+acc.size+f≤20
     omega
 · simp only[c5] at h3
   unfold gX at hd
   rw[aQ (by omega)] at hd
   obtain⟨y,hy⟩:∃y,y=48+k:=⟨_,rfl⟩
   have hw:=hO (x:=48+(k:Int)) (m:=y) (by omega) (by omega)
   have hw8:=wG (x:=(y:Int)) (m:=y) rfl (by omega)
   simp only[kW,hw,hw8,xK,hsz,aB,seval,PY]
   rw[←hd,hy]
theorem S7(n:Int)(h1: -999≤n)(h2:n≤999)(st:aA):aD prog 152 [.int .i64 n] st (fun r st'=>r=.str (oC n)∧st'=st):=by
 refine wF [1000000] 1 func152 ntmps152 rfl rfl ?_
 intro _
 unfold oC
 have hm:maxLen=9223372036854775807:=by rfl
 by_cases h:n<0
 · rw[a4 h]
   obtain⟨m,hm'⟩:∃m:Nat,m=(-n).toNat:=⟨_,rfl⟩
   rw[←hm']
   have h':=bM h
   have hw:=hO (x:=0 - n) (m:=m) (by omega) (by omega)
   have hw':=hO (x:= -n) (m:=m) (by omega) (by omega)
   have hs:(⟨#[45]⟩:ByteArray).size+(gX 20 m ⟨#[]⟩).size≤maxLen:=by have:=uH 20 m ⟨#[]⟩;have h0:(⟨#[]⟩:ByteArray).size=0:=rfl;show 1+_≤_;omega
   simp only[h',hw,↓reduceIte,aT,aB,seval]
   refine(BV m (by omega) _).to ?_
   simp only[hs,↓reduceIte,aB,seval]
 · rw[aQ h]
   obtain⟨m,rfl⟩:=pB (show 0≤n by omega)
   have h':=a5 h
   rw[j1]
   simp only[h',aZ,aB,seval]
   refine(BV m (by omega) _).to ?_
   simp only[aB,seval]
abbrev s8:=zi a7 (zi bW (zi b8 bN))
theorem TK(t:Tm)(ht:Ws t)(h0:t.k=3→t.ts= [])(st:aA):aD prog 235 [t.av] st (fun r st'=>r=.str (qN t)∧st'=st):=by
 obtain⟨k,n,s,ts⟩:=t
 have hp:=uC (.mk k n s ts)
 simp only[bG] at hp ⊢
 rw[show qN (.mk k n s ts)=if k=1 then u7 n else if k=2 then oC n else s from rfl]
 have h0:k=3→ts= []:=h0
 refine wF [1000000] 1 func235 ntmps235 rfl rfl ?_
 intro _
 rcases sR ht.own.1 with ⟨rfl,h1,h2,rfl,h4⟩ | ⟨rfl,h1,h2,rfl,h4⟩ | ⟨rfl,rfl,h2,h4⟩
 · obtain⟨m,rfl⟩:=pB h1
   simp only[aB,seval,s8]
   refine(TB m (by omega) _).to ?_
   simp only[aB,seval]
 · skip
   simp only[aB,seval,s8]
   refine(S7 n h1 h2 _).to ?_
   simp only[aB,seval]
 · obtain rfl:=h0 rfl
   simp only[bJ,aB,seval,s8]
   refine(hp _).to ?_
   rw[show jS (.mk 3 0 s [])=false by rw[ON];simp]
   simp only[aB,seval,s8]
   refine fY (σ:=Unit) [1000000] [1,2] (fun _=>True) (fun _=>[(3,.str s),(4,.int .i64 0)]) (fun _=>st) (fun _=>0) (by decide +kernel) ⟨(),trivial,aL.mk (by simp only[aB,seval])⟩ ?_
   rintro _ _
   simp only[bO,aB,seval,s8]
def mX(T:Tm→ByteArray)(t:Tm):Prop:=(∀st:aA,aD prog 210 [t.av] st (fun r st'=>r=.str (T t)∧st'=st))∧(T t).size≤32*t.nodes∧1≤(T t).size∧t.nodes≤1000
abbrev AA:=zi a7 (zi bW (zi b8 bN))
theorem B5{T:Tm→ByteArray}(l:List Tm)(hT:∀t∈l,mX T t)(hn:bH Tm.nodes l≤10000)(hl:l.length≤10000)(st:aA):aD prog 223 [.slice (l.map Tm.av)] st (fun r st'=>r=.str (fK T l)∧st'=st):=by
 refine wF [1000000] 1 func223 ntmps223 rfl rfl ?_
 intro _
 simp only[aB,seval]
 refine eV (σ:=Unit) [1000000] [0,2] l (fun i _=>True) (fun i _=>[(3,.str (fK T (l.take i))),(4,.int .i64 i)]) (fun _ _=>st) (by decide +kernel) ⟨(),trivial,aL.mk (by simp only[iY,aB,↓bD,seval]<;>rfl)⟩ (fun i x _ hx hlt bY hdr hinv=>?_) (fun _ hge hinv=>?_)
 case refine_2=>
  rw[eE]
  simp only[hge,aF,aB,seval,AA]
 have hxm:=dD hx
 obtain⟨c1,c2,c3,c4⟩:=hT x hxm
 have hw:=bB (n:=(i:Int)+1)
 have hat:=cI (av:=Tm.av) cH hx (aO x)
 have fM:=RP (T:=T) hx
 have hsz:=t7 (T:=T) (l:=l.take i) fun y hy=>(hT y (j3 hy)).2.1
 have hsl:bH Tm.nodes (l.take i)≤bH Tm.nodes l:=PE l i
 have hln:(l.take i).length≤10000:=by rw[d7];omega
 have hm:maxLen=9223372036854775807:=by rfl
 have hs1:(fK T (l.take i)).size+(⟨#[44]⟩:ByteArray).size≤maxLen:=by show _+1≤_;omega
 have hs2:(fK T (l.take i)++(⟨#[44]⟩:ByteArray)).size+(T x).size≤maxLen:=by rw[bP];show _+1+_≤_;omega
 have hs3:(fK T (l.take i)).size+(T x).size≤maxLen:=by omega
 by_cases h0:0<i
 · rw[a4 h0] at fM
   have h0':((0:Int)<(i:Int))=True:=bM (by omega)
   simp only[aF,hat,aR,aO,bY,h0',hs1,↓reduceIte,aT,aB,seval,AA]
   refine(c1 _).to ?_
   simp only[hs2,↓reduceIte,aB,seval]
   exact⟨(),aL.mk (by simp only[hw,fM,↓reduceIte,aB,seval])⟩
 · rw[aQ h0] at fM
   have h0':((0:Int)<(i:Int))=False:=a5 (by omega)
   simp only[aF,hat,aR,aO,bY,h0',↓reduceIte,aT,aZ,aB,seval,AA]
   refine(c1 _).to ?_
   simp only[hs3,↓reduceIte,aB,seval]
   exact⟨(),aL.mk (by simp only[hw,fM,↓reduceIte,aB,seval])⟩
abbrev s9:=zi a7 (zi bW bN)
theorem B6{T:Tm→ByteArray}(t:Tm)(hT:mX T t)(lv:Nat)(hlv:lv≤10)(st:aA):aD prog 248 [t.av,.int .i64 (lv:Int)] st (fun r st'=>r=.str (k7 T t lv)∧st'=st):=by
 obtain⟨c1,c2,c3,c4⟩:=hT
 have hm:maxLen=9223372036854775807:=by rfl
 have hs1:(⟨#[40]⟩:ByteArray).size+(T t).size≤maxLen:=by show 1+_≤_;omega
 have hs2:((⟨#[40]⟩:ByteArray)++T t).size+(⟨#[41]⟩:ByteArray).size≤maxLen:=by rw[bP];show 1+_+1≤_;omega
 have hi:=B7 t
 obtain⟨k,n,s,ts⟩:=t
 rw[show k7 T (.mk k n s ts) lv=if(mI (.mk k n s ts)&&decide (lv<b7 s))=true then(⟨#[40]⟩++T (.mk k n s ts))++⟨#[41]⟩ else T (.mk k n s ts) from rfl]
 generalize hTT:T (.mk k n s ts)=u at *
 simp only[bG] at hi c1 ⊢
 refine wF [1000000] 2 func248 ntmps248 rfl rfl ?_
 intro _
 simp only[aB,seval,s9]
 refine(hi _).to ?_
 cases hk:mI (.mk k n s ts) with
 | false=>
  rw[c8,aQ (by decide)]
  simp only[aB,seval,s9]
  refine(c1 _).to ?_
  simp only[aB,seval]
 | true=>
  rw[dC]
  simp only[aB,seval,s9]
  refine(m8 s _).to ?_
  by_cases h:lv<b7 s
  · rw[dA h,a4 rfl]
    have h':((lv:Int)<(b7 s:Int))=True:=bM (by omega)
    simp only[h',↓reduceIte,aT,aB,seval,s9]
    refine(c1 _).to ?_
    simp only[hs1,hs2,↓reduceIte,aB,seval]
  · rw[cZ h,aQ (by decide)]
    have h':((lv:Int)<(b7 s:Int))=False:=a5 (by omega)
    simp only[h',↓reduceIte,aZ,aB,seval,s9]
    refine(c1 _).to ?_
    simp only[↓reduceIte,aB,seval]
abbrev AB:=zi a7 (zi bW bN)
theorem TM{T:Tm→ByteArray}(t:Tm)(hT:mX T t)(lv:Nat)(hlv:lv≤10)(st:aA):aD prog 232 [t.av,.int .i64 (lv:Int)] st (fun r st'=>r=.str (oL T t lv)∧st'=st):=by
 have hb:=B6 t hT lv hlv
 obtain⟨c1,c2,c3,c4⟩:=hT
 have hm:maxLen=9223372036854775807:=by rfl
 have hs1:(⟨#[40]⟩:ByteArray).size+(T t).size≤maxLen:=by show 1+_≤_;omega
 have hs2:((⟨#[40]⟩:ByteArray)++T t).size+(⟨#[41]⟩:ByteArray).size≤maxLen:=by rw[bP];show 1+_+1≤_;omega
 have hi:=B8 t
 unfold oL
 refine wF [1000000] 2 func232 ntmps232 rfl rfl ?_
 intro _
 simp only[aR,aO,bV,↓reduceIte,aB,seval,AB]
 refine(hi _).to ?_
 cases hk:qY t with
 | false=>
  rw[aQ (by decide)]
  simp only[aR,aO,↓reduceIte,aB,seval,AB]
  refine(hb _).to ?_
  simp only[↓reduceIte,aB,seval]
 | true=>
  rw[a4 rfl]
  simp only[aR,aO,↓reduceIte,aB,seval,AB]
  refine(c1 _).to ?_
  simp only[↓reduceIte,hs1,hs2,aB,seval]
abbrev PZ:=zi a7 (zi cC (zi bW bN))
theorem TS{T:Tm→ByteArray}(t:Tm)(hT:mX T t)(lv:Nat)(hlv:lv≤10)(st:aA):aD prog 234 [t.av,.int .i64 (lv:Int)] st (fun r st'=>r=.str (oU T t lv)∧st'=st):=by
 have hb:=B6 t hT lv hlv
 have hbs:=xI (T:=T) (t:=t) lv
 obtain⟨c1,c2,c3,c4⟩:=hT
 have hm:maxLen=9223372036854775807:=by rfl
 unfold oU
 generalize k7 T t lv=u at *
 have hs1:(⟨#[40]⟩:ByteArray).size+u.size≤maxLen:=by show 1+_≤_;omega
 have hs2:((⟨#[40]⟩:ByteArray)++u).size+(⟨#[41]⟩:ByteArray).size≤maxLen:=by rw[bP];show 1+_+1≤_;omega
 have hi:=B8 t
 have hpl:=TP u (by omega)
 refine wF [1000000] 2 func234 ntmps234 rfl rfl ?_
 intro _
 simp only[aR,aO,bV,↓reduceIte,aB,seval,PZ]
 refine(hb _).to ?_
 simp only[aR,aO,↓reduceIte,aB,seval,PZ]
 refine(hi _).to ?_
 cases hk:qY t with
 | true=>
  rw[nY,a4 rfl]
  simp only[↓reduceIte,hs1,hs2,aB,seval]
 | false=>
  rw[jZ]
  simp only[↓reduceIte,aB,seval]
  refine(hpl _).to ?_
  cases hq:vE (sb u) with
  | true=>
   rw[aQ (by decide)]
   simp only[↓reduceIte,aB,seval]
  | false=>
   rw[a4 (by decide)]
   simp only[↓reduceIte,hs1,hs2,aB,seval]
theorem BD{st:aA}{b q:Nat}{l:List AV}{o:AO}(hb:l≠[]→st b=none)(h:st q=some o):aU st b l q=some o:=by
 cases l with
 | nil=>exact h
 | cons x l=>exact(aA.bK _ _ (by rintro rfl;have:=hb (by simp);rw[h] at this;cases this)).trans h
abbrev oZ:=zi bW (zi b8 bN)
set_option maxHeartbeats 1000000 in
theorem TN{T:Tm→ByteArray}(n:Nat)(t:Tm)(hn:t.nodes≤n+1)(hws:Ws t)(yJ:t.nodes≤1000)(hT:∀x,Ws x→x.nodes<t.nodes→mX T x)(hp:jS t=true)(st:aA):aD prog 230 [t.av] st (fun r st'=>r=.str (sO T (spine n t))∧st'=st):=by
 obtain⟨q1,q2,q3⟩:=zU n t hws
 obtain⟨e1,e2⟩:=O8 n t hn
 have NH:=O7 n t
 have hnp:=jR (spine n t).2
 have hne:1≤(spine n t).1.length:=by
  cases n with
  | zero=>obtain⟨m,x,y,rfl⟩:=qU hp;simp only[Tm.jE,bH] at hn;have:=jR x;omega
  | succ m=>unfold spine;rw[a4 hp];simp
 generalize spine n t=p at *
 obtain⟨its,tl⟩:=p
 simp only at q1 q2 q3 e1 e2 NH hnp hne
 have hTi:∀x∈its,mX T x:=fun x hx=>hT x (q1 x hx) (by have:=N7 hx;omega)
 have hTt:mX T tl:=hT tl q2 (by omega)
 have jQ:=B5 its hTi (by omega) (by omega)
 have aB0:=t7 (T:=T) (l:=its) fun x hx=>(hTi x hx).2.1
 obtain⟨c1,c2,c3,c4⟩:=hTt
 have hm:maxLen=9223372036854775807:=by rfl
 have hs1:(⟨#[91]⟩:ByteArray).size+(fK T its).size≤maxLen:=by show 1+_≤_;omega
 have hs2:((⟨#[91]⟩:ByteArray)++fK T its).size+(⟨#[93]⟩:ByteArray).size≤maxLen:=by rw[bP];show 1+_+1≤_;omega
 have hs3:((⟨#[91]⟩:ByteArray)++fK T its).size+(⟨#[124]⟩:ByteArray).size≤maxLen:=by rw[bP];show 1+_+1≤_;omega
 have hs4:(((⟨#[91]⟩:ByteArray)++fK T its)++(⟨#[124]⟩:ByteArray)).size+(T tl).size≤maxLen:=by rw[bP,bP];show 1+_+1+_≤_;omega
 have hs5:((((⟨#[91]⟩:ByteArray)++fK T its)++(⟨#[124]⟩:ByteArray))++T tl).size+(⟨#[93]⟩:ByteArray).size≤maxLen:=by rw[bP,bP,bP];show 1+_+1+_+1≤_;omega
 refine aD.oD ?_
 refine wF [1000000,1] 1 func230 ntmps230 rfl rfl ?_
 intro _
 simp only[bV,↓reduceIte,aB,seval,oZ]
 intro b1 hb1
 have hD:=fun(o:AO)=>(aN.refl st).aC (o:=o) hb1
 refine AQ (σ:=Unit) [1000000,1] [1,2] its 4 3 (fun i _=>(its.take i).map Tm.av) (fun _ _=>True) (fun i _=>[]) (fun i _=>st.aC b1 (.cells (mP i t).av.cells)) (fun i _ _ e he=>by simp only[gR] at he;obtain⟨x,_,rfl⟩:=he;exact⟨bV _,aO _⟩) (by decide +kernel) ⟨(),0,trivial,fun h=>absurd rfl h,aL.mk (by simp only[i7,iY,bJ,↓reduceIte,aB,seval])⟩ (fun i x s b hx hlt bY hdr hinv hb=>?_) (fun s b hge hinv=>?_)
 case refine_1=>
  obtain⟨g1,g2⟩:=NH i x hx
  have hst:=O6 i t
  generalize mP i t=u at *
  have hpu:=uC u
  rw[g1] at hpu
  obtain⟨m,y,z,rfl⟩:=qU g1
  rw[qM.1] at g2
  rw[qM.2] at hst
  subst g2
  have hcs:(Tm.mk 3 m ⟨#[46]⟩ [y,z]).av.cells= [.int .i64 3,.int .i64 m,.str ⟨#[46]⟩,.slice [y.av,z.av]]:=by rw[bG];try rfl
  rw[hcs] at hb ⊢
  have hlk:aU (st.aC b1 (.cells [.int .i64 3,.int .i64 m,.str ⟨#[46]⟩,.slice [y.av,z.av]])) b ((its.take i).map Tm.av) b1=some (.cells [.int .i64 3,.int .i64 m,.str ⟨#[46]⟩,.slice [y.av,z.av]]):=BD hb (aA.aY _ _ _)
  have hi0:=cI (av:=Tm.av) (l:=[y,z]) (i:=0) cH rfl (aO y)
  have hi1:=cI (av:=Tm.av) (l:=[y,z]) (i:=1) cH rfl (aO z)
  rw[show((0:Nat):Int)=0 from rfl] at hi0
  rw[show((1:Nat):Int)=1 from rfl] at hi1
  have cO:((its.take i).map Tm.av).length=i:=by simp only[aF,d7];omega
  have htk:(its.take i).map Tm.av++ [y.av]=(its.take (i+1)).map Tm.av:=by rw[fE,hx];simp
  rw[hst]
  simp only[bG,b9,bJ] at hlk hpu hi0 hi1 hb ⊢
  have hLw:∀e∈(its.take i).map Tm.av,e.width=4:=c7 _
  generalize (its.take i).map Tm.av=L at *
  simp only[↓reduceIte,hlk,aB,seval,oZ]
  refine(hpu _).to ?_
  simp only[aR,aO,bV,↓reduceIte,hlk,hi0,aB,seval,oZ]
  refine eJ cH fT fU rfl rfl (eS (aO _) (bL _)) (fun e he=>hLw e he) hb (by simp only[cO,bE,bO];omega) (by simp only[cO,bE,bO];omega) (fun b' hb'=>?_)
  rw[htk] at hb' ⊢
  have XJ:=BD (l:=(its.take (i+1)).map Tm.av) hb' (aA.aY st b1 (.cells [.int .i64 3,.int .i64 m,.str ⟨#[46]⟩,.slice [y.av,z.av]]))
  have hnb:(its.take (i+1)).map Tm.av≠[]→b1≠b':=fun h=>by rintro rfl;have:=hb' h;rw[aA.aY] at this;cases this
  have hup:=fun o=>lZ (st:=st.aC b1 (.cells [.int .i64 3,.int .i64 m,.str ⟨#[46]⟩,.slice [y.av,z.av]])) (o:=o) hnb
  simp only[aH,aR,aO,bL,aW,↓reduceIte,XJ,hi1,hup,cF,aB,seval,oZ]
  exact⟨(),b',fun h=>by have:=hb' h;rw[aA.bK _ _ (dQ (hnb h))] at this ⊢;exact this,aL.mk (by simp only[↓reduceIte,aB,seval])⟩
 rw[eE,←e1]
 have hpt:=uC tl
 rw[e2] at hpt
 have hnt:=TC tl
 simp only[gK,WV,oG,bJ,aW,cW (aW _),cR (aR _),↓reduceIte,aB,seval,oZ]
 refine(hpt _).to ?_
 simp only[aW,cW (aW _),cR (aR _),↓reduceIte,aB,seval,oZ]
 refine(hnt _).to ?_
 unfold sO
 cases hnk:vA tl with
 | true=>
  rw[a4 rfl]
  simp only[↓reduceIte,aB,seval]
  refine(jQ _).to ?_
  simp only[↓reduceIte,hs1,hs2,aB,seval]
  exact hD _
 | false=>
  rw[aQ (by decide)]
  simp only[↓reduceIte,aB,seval]
  refine wP [(0,1),(1,2),(2,1),(3,1),(4,2),(5,2),(6,1),(7,1),(8,1)] [0,1,2,3,4,5,6,7,8] mixed ?_
  simp only[↓reduceIte,aB,seval]
  refine iU (jQ _) ?_
  simp only[aW,cW (aW _),cR (aR _),↓reduceIte,hs1,hs3,aB,seval,oZ]
  refine iU (c1 _) ?_
  simp only[↓reduceIte,hs4,hs5,aB,seval]
  exact hD _
abbrev kO:=zi a7 (zi bW (zi b8 bN))
set_option maxHeartbeats 1000000 in
theorem TU:∀(n:Nat) (t:Tm) (st:aA),Ws t→t.nodes≤n→t.nodes≤1000→aD prog 210 [t.av] st (fun r st'=>r=.str (tx n t)∧st'=st):=by
 intro n
 induction n with
 | zero=>intro t st _ h;have:=jR t;omega
 | succ n IH=>
 intro t st hws hn yJ
 have hsz:=wB (n+1) t hws
 have hT:∀x,Ws x→x.nodes<t.nodes→mX (tx n) x:=fun x hx hlt=>⟨fun st=>IH x st hx (by omega) (by omega),wB n x hx,aAM hx (by have:=jR x;omega),by omega⟩
 have hpt:=uC t
 have hit:=B7 t
 have XI:=TN (T:=tx n) n t hn hws yJ hT
 have hm:maxLen=9223372036854775807:=by rfl
 unfold tx at hsz ⊢
 refine wF [1000000] 1 func210 ntmps210 rfl rfl ?_
 intro _
 simp only[aR,aO,bV,↓reduceIte,aB,seval,kO]
 refine(hpt _).to ?_
 cases hp:jS t with
 | true=>
  rw[a4 rfl]
  simp only[aR,aO,↓reduceIte,aB,seval,kO]
  refine(XI hp _).to ?_
  simp only[↓reduceIte,aB,seval]
 | false=>
  rw[hp] at hsz
  rw[aQ (by decide)] at hsz ⊢
  simp only[aR,aO,↓reduceIte,aB,seval,kO]
  refine(hit _).to ?_
  cases hi:mI t with
  | true=>
   rw[hi] at hsz
   rw[a4 rfl] at hsz ⊢
   obtain⟨m,s,x,y,rfl,hs⟩:=y9 hi
   have hk:=hws.own.2
   have hxl:x.nodes<(Tm.mk 3 m s [x,y]).nodes:=by simp only[Tm.jE,bH];have:=jR y;omega
   have hyl:y.nodes<(Tm.mk 3 m s [x,y]).nodes:=by simp only[Tm.jE,bH];have:=jR x;omega
   have hx:=hT x (hk x (by simp)) hxl
   have hy:=hT y (hk y (by simp)) hyl
   rw[qM.1,qM.2,show(Tm.mk 3 m s [x,y]).s=s from rfl] at hsz ⊢
   have h6:s.size≤6:=hws.size.1
   have hl3:b7 s≤3:=by unfold b7;cases (decide (s=⟨#[61]⟩)||decide (s=⟨#[92,61]⟩)||decide (s=⟨#[61,61]⟩)||decide (s=⟨#[60]⟩)||decide (s=⟨#[62]⟩)||decide (s=⟨#[61,60]⟩)||decide (s=⟨#[62,61]⟩)||decide (s=⟨#[61,58,61]⟩)||decide (s=⟨#[105,115]⟩))<;>cases (decide (s=⟨#[43]⟩)||decide (s=⟨#[45]⟩))<;>cases (decide (s=⟨#[42]⟩)||decide (s=⟨#[47,47]⟩)||decide (s=⟨#[109,111,100]⟩))<;>decide
   have hll:lvl (b7 s)≤10:=by unfold lvl;split<;>omega
   have cl:=TM x hx (lvl (b7 s)) hll
   have cr:=TS y hy (b7 s - 1) (by omega)
   have csp:=TT s (by omega)
   have clv:=m8 s
   rw[bP,bP] at hsz
   generalize hA:oL (tx n) x (lvl (b7 s))=A at *
   generalize hB:oU (tx n) y (b7 s - 1)=B at *
   generalize jU s=C at *
   have hs1:A.size+C.size≤maxLen:=by omega
   have hs2:(A++C).size+B.size≤maxLen:=by rw[bP];omega
   have hi0:=cI (av:=Tm.av) (l:=[x,y]) (i:=0) cH rfl (aO x)
   have hi1:=cI (av:=Tm.av) (l:=[x,y]) (i:=1) cH rfl (aO y)
   rw[show((0:Nat):Int)=0 from rfl] at hi0
   rw[show((1:Nat):Int)=1 from rfl] at hi1
   simp only[bG,b9,bJ] at hi0 hi1 ⊢
   generalize hL:b7 s=L at *
   obtain⟨L1,hL1⟩:∃L1,L1=L - 1:=⟨_,rfl⟩
   have hw:=hO (x:=(L:Int) - 1) (m:=L1) (by omega) (by omega)
   rw[←hL1] at cr
   by_cases h3:L=3
   case' pos=>
    have h3':((L:Int)=3)=True:=bM (by omega)
    have hlv:lvl L=2:=by unfold lvl;rw[a4 h3]
   case' neg=>
    have h3':((L:Int)=3)=False:=a5 (by omega)
    have hlv:lvl L=L:=by unfold lvl;rw[aQ h3]
   all_goals
    rw[hlv] at cl
    simp only[↓reduceIte,aB,seval,kO]
    refine(clv _).to ?_
    simp only[↓reduceIte,h3',aT,aZ,aB,seval]
    refine wP [(0,1),(4,1),(6,1),(10,1),(14,1),(15,1),(1,2),(2,1),(3,2),(5,2),(7,2),(8,2),(9,1),(11,2),(12,1),(13,2),(16,2),(17,1),(18,1)] [0,4,6,10,14,15,1,2,3,5,7,8,9,11,12,13,16,17,18] mixed ?_
    simp only[aR,aO,↓reduceIte,hi0,hw,aB,seval,kO]
    refine iU (cl _) ?_
    simp only[↓reduceIte,aB,seval,kO]
    refine iU (csp _) ?_
    simp only[aR,aO,↓reduceIte,hi1,hs1,aB,seval,kO]
    refine iU (cr _) ?_
    simp only[↓reduceIte,hs2,aB,seval]
  | false=>
   rw[hi] at hsz
   rw[aQ (by decide)] at hsz ⊢
   cases ha:xF t with
   | true=>
    rw[ha] at hsz
    rw[a4 rfl] at hsz ⊢
    obtain⟨k,m,s,ts⟩:=t
    rw[xE,bX,a9,a9] at ha
    obtain⟨rfl,h0⟩:=ha
    have h0':((0:Int)<(ts.length:Int))=True:=bM (by omega)
    simp only[Tm.s,Tm.ts] at hsz ⊢
    simp only[Tm.jE] at hn yJ hT hsz
    have hk:=hws.own.2
    have h4:ts.length≤4:=by rcases sR hws.own.1 with h | h | h<;>omega
    have jQ:=B5 (T:=tx n) ts (fun x hx=>hT x (hk x hx) (by have:=N7 hx;omega)) (by omega) (by omega)
    rw[bP,bP,bP] at hsz
    generalize fK (tx n) ts=A at *
    have aB7:s.size+A.size≤100000:=by omega
    have hs1:s.size+(⟨#[40]⟩:ByteArray).size≤maxLen:=by show _+1≤_;omega
    have hs2:(s++(⟨#[40]⟩:ByteArray)).size+A.size≤maxLen:=by rw[bP];show _+1+_≤_;omega
    have hs3:((s++(⟨#[40]⟩:ByteArray))++A).size+(⟨#[41]⟩:ByteArray).size≤maxLen:=by rw[bP,bP];show _+1+_+1≤_;omega
    simp only[bG]
    simp only[↓reduceIte,h0',aF,aT,aB,seval,kO]
    refine wP [(0,1),(3,1),(1,2),(2,1),(4,2),(5,2),(6,1),(7,1),(8,1)] [0,3,1,2,4,5,6,7,8] mixed ?_
    simp only[↓reduceIte,hs1,aB,seval,kO]
    refine iU (jQ _) ?_
    simp only[↓reduceIte,hs2,hs3,aB,seval]
   | false=>
    rw[aQ (by decide)]
    have hl:=TK t hws (fun h=>by
     obtain⟨k,m,s,ts⟩:=t
     rw[xE,show k=3 from h] at ha
     simp only[aT,dC,c5] at ha
     exact List.length_eq_zero_iff.1 (by show ts.length=0;omega))
    generalize qN t=A at *
    obtain⟨k,m,s,ts⟩:=t
    rw[xE] at ha
    simp only[bG] at hl ⊢
    by_cases hk:k=3
    case pos=>
     rw[hk] at ha hl ⊢
     simp only[aT,dC,c5] at ha
     have h0':((0:Int)<(ts.length:Int))=False:=a5 (by omega)
     simp only[↓reduceIte,h0',aF,aT,aZ,aB,seval,kO]
     refine(hl _).to ?_
     simp only[↓reduceIte,aB,seval]
    case neg=>
     have hk':=a5 hk
     simp only[↓reduceIte,hk',aZ,aB,seval,kO]
     refine(hl _).to ?_
     simp only[↓reduceIte,aB,seval]
end Go.AW
namespace Go.AW
def jJ(t:Tm):ByteArray:=tx 130 t
def k6(T:Tm→ByteArray)(h:ByteArray):List Tm→ByteArray
 | []=>h
 | x::xs=>xs.foldl (fun o y=>(o++⟨#[44]⟩)++T y) ((h++⟨#[58,45]⟩)++T x)
def xW(c:Cl):ByteArray:=k6 jJ (jJ c.1) c.2++⟨#[46]⟩
def l8(c:Cl):ByteArray:=if gI c then xW c else⟨#[]⟩
def sV(l:List UInt8):fG:=fun a=>rd l (4*l.length+4) 30 a 3
def mB(l:List UInt8):Nat→Nat→List Tm→Option (List Tm×Nat)
 | 0,_,_=>none
 | m+1,a,acc=>match sV l a with
  | none=>none
  | some (t,e)=>if a6 l e 44 then mB l m (e+1) (acc++ [t]) else some (acc++ [t],e)
def kB(l:List UInt8):Option (Cl×Nat):=
 match sV l 0 with
 | none=>none
 | some (h,e)=>if(a6 l e 58&&a6 l (e+1) 45)=true then match mB l 7 (e+2) [] with
  | none=>none
  | some (b,e2)=>some ((h,b),e2)
  else some ((h,[]),e)
def iC(l:List UInt8):Option Cl:=match kB l with
 | none=>none
 | some (c,e)=>if l.length≤1000∧e+1=l.length∧a6 l e 46=true∧sb (l8 c)=l then some c else none
def gW(c:Nat):List UInt8→List UInt8→List (List UInt8)
 | [],acc=>[acc]
 | x::l,acc=>if x.toNat=c then acc::gW c l [] else gW c l (acc++ [x])
def oM:List (List UInt8)→List Cl→Option (List Cl)
 | [],acc=>some acc
 | l::ls,acc=>match iC l with
  | none=>none
  | some c=>oM ls (acc++ [c])
def jG(l:List UInt8):Option (List Cl):=
 let ls:=gW 10 l []
 if 21<ls.length∨ls.getLast?≠some [] then none else oM ls.dropLast []
theorem SB{T:Tm→ByteArray}{h:ByteArray}{l:List Tm}{i:Nat}{x:Tm}(hx:l[i]?=some x):k6 T h (l.take (i+1))=(if i=0 then k6 T h (l.take i)++⟨#[58,45]⟩ else k6 T h (l.take i)++⟨#[44]⟩)++T x:=by
 rw[fE,hx]
 cases l with
 | nil=>simp at hx
 | cons y l=>
  cases i with
  | zero=>simp at hx;subst hx;rfl
  | succ i=>
   rw[aQ (by omega),lT]
   simp only[k6,Option.toList_some,dZ,List.foldl_append,rC,List.foldl_nil]
theorem BL{T:Tm→ByteArray}{h:ByteArray}{l:List Tm}{m:Nat}(hT:∀x∈l,(T x).size≤m):(k6 T h l).size≤h.size+l.length*(m+2):=by
 have hg:∀(xs:List Tm) (o:ByteArray),(∀x∈xs,(T x).size≤m)→(xs.foldl (fun o y=>(o++⟨#[44]⟩)++T y) o).size≤o.size+xs.length*(m+2):=by
  intro xs
  induction xs with
  | nil=>intro o _;simp
  | cons x xs ih=>
   intro o hx
   refine j4 (ih _ fun y hy=>hx y (by simp [hy])) ?_
   rw[bP,bP]
   have:=hx x (by simp)
   simp only[bE,mV]
   show o.size+1+_+_≤_
   omega
 cases l with
 | nil=>simp [k6]
 | cons x l=>
  refine j4 (hg l _ fun y hy=>hT y (by simp [hy])) ?_
  rw[bP,bP]
  have:=hT x (by simp)
  simp only[bE,mV]
  show h.size+2+_+_≤_
  omega
theorem QT{t:Tm}(h:t.valid=true):Ws t∧t.nodes≤120:=by
 simp only[Tm.valid,bX,a9] at h
 exact⟨⟨_,h.1⟩,h.2⟩
theorem uP{t:Tm}(h:t.goal=true):t.valid=true:=by
 obtain⟨k,n,s,ts⟩:=t
 simp only[Tm.goal,bX] at h
 exact h.1
theorem US{c:Cl}(h:gI c=true):(Ws c.1∧c.1.nodes≤120)∧c.2.length≤6∧∀x∈c.2,Ws x∧x.nodes≤120:=by
 simp only[gI,bX,a9,fD] at h
 exact⟨QT h.1.1,h.2.1,fun x hx=>QT (uP (h.2.2 x hx))⟩
theorem NF{l:List UInt8}(hl:l.length≤1000):∀(m a:Nat) (acc ts:List Tm) (e:Nat),a≤l.length→(∀x∈acc,Dn x)→mB l m a acc=some (ts,e)→a<e∧e≤l.length∧(∀x∈ts,Dn x)∧ts.length≤acc.length+m:=by
 intro m
 induction m with
 | zero=>intro a acc ts e _ _ h;cases h
 | succ m ih=>
  intro a acc ts e ha yL h
  unfold mB at h
  split at h
  · cases h
  rename_i t e1 h1
  obtain⟨h2,h3,h4⟩:=oT hl _ _ _ a t e1 ha h1
  have sA:∀x∈acc++ [t],Dn x:=by intro x hx;rw[j2] at hx;rcases hx with hx | hx;exact yL x hx;rw[wR] at hx;subst hx;exact h4
  split at h
  · rename_i h5
    have h6:=hY h5
    obtain⟨g1,g2,g3,g4⟩:=ih (e1+1) _ ts e (by omega) sA h
    rw[dM,wQ] at g4
    exact⟨by omega,g2,g3,by omega⟩
  · cases h
    exact⟨h2,h3,sA,by rw[dM,wQ];omega⟩
abbrev k9 (c:Cl):Prop:=Dn c.1∧c.2.length≤7∧∀x∈c.2,Dn x
theorem uF{l:List UInt8}(hl:l.length≤1000){c:Cl}{e:Nat}(h:kB l=some (c,e)):0<e∧e≤l.length∧k9 c:=by
 unfold kB at h
 split at h
 · cases h
 rename_i t e1 h1
 obtain⟨h2,h3,h4⟩:=oT hl _ _ _ 0 t e1 (iI _) h1
 split at h
 · rename_i h5
   rw[bX] at h5
   have h6:=hY h5.2
   split at h
   · cases h
   rename_i b e2 h7
   obtain⟨g1,g2,g3,g4⟩:=NF hl _ _ _ _ _ (by omega) (by simp) h7
   cases h
   exact⟨by omega,g2,h4,by rw[bO] at g4;show b.length≤7;omega,g3⟩
 · cases h
   exact⟨h2,h3,h4,by show 0≤7;omega,by intro x hx;cases hx⟩
theorem OO{l:List UInt8}{c:Cl}(h:iC l=some c):k9 c∧gI c=true:=by
 unfold iC at h
 split at h
 · cases h
 rename_i c' e h1
 split at h
 · rename_i h2
   cases h
   refine⟨(uF h2.1 h1).2.2,?_⟩
   have h3:=h2.2.2.2
   unfold l8 at h3
   split at h3
   · assumption
   · have:=congrArg List.length h3
     simp at this
     omega
 · cases h
theorem CM(c:Nat):∀(l acc:List UInt8),gW c l acc≠[]
 | [],acc=>by simp [gW]
 | x::l,acc=>by unfold gW;split<;>simp [CM c l]
theorem xY(c:Nat):∀(l acc:List UInt8),(gW c l acc).length≤l.length+1
 | [],acc=>by simp [gW]
 | x::l,acc=>by unfold gW;split;have:=xY c l [];simp only[bE];omega;have:=xY c l (acc++ [x]);simp only[bE];omega
end Go.AW
namespace Go.AW
open Go.Proofs.Tryz
theorem CG{t:Tm}(h:Ws t∧t.nodes≤120)(st:aA):aD prog 210 [t.av] st (fun r st'=>r=.str (jJ t)∧st'=st):=TU 130 t st h.1 (by omega) (by omega)
theorem wC{t:Tm}(h:Ws t∧t.nodes≤120):(jJ t).size≤3840:=by have:=wB 130 t h.1;unfold jJ;omega
abbrev vV:=zi a7 (zi bW (zi b8 (zi bN gQ)))
set_option maxHeartbeats 1000000 in
theorem T8(c:Cl)(hc:(Ws c.1∧c.1.nodes≤120)∧c.2.length≤6∧∀x∈c.2,Ws x∧x.nodes≤120)(st:aA):aD prog 173 [aX c] st (fun r st'=>r=.str (xW c)∧st'=st):=by
 obtain⟨⟨k,n,s,ks⟩,ts⟩:=c
 obtain⟨hh,hl,hb⟩:=hc
 simp only at hh hl hb
 have hhd:=fun st=>CG hh st
 have hhs:=wC hh
 unfold xW
 simp only
 generalize jJ (.mk k n s ks)=H at *
 simp only[bG] at hhd
 simp only[dH]
 have hm:maxLen=9223372036854775807:=by rfl
 refine wF [1000000] 1 func173 ntmps173 rfl rfl ?_
 intro _
 simp only[aB,seval,vV]
 refine(hhd _).to ?_
 simp only[aB,seval]
 refine eV (σ:=Unit) [1000000] [1,2] ts (fun i _=>True) (fun i _=>[(3,.str (k6 jJ H (ts.take i))),(4,.int .i64 i)]) (fun _ _=>st) (by decide +kernel) ⟨(),trivial,aL.mk (by simp only[iY,aB,↓bD,seval]<;>rfl)⟩ (fun i x _ hx hlt bY hdr hinv=>?_) (fun _ hge hinv=>?_)
 case refine_2=>
  rw[eE]
  have hsz:=BL (T:=jJ) (h:=H) (l:=ts) (m:=3840) fun x hx=>wC (hb x hx)
  have hs:(k6 jJ H ts).size+(⟨#[46]⟩:ByteArray).size≤maxLen:=by
   have:ts.length*(3840+2)≤6*3842:=lU _ hl
   show _+1≤_;omega
  simp only[aF,hge,hs,↓reduceIte,aB,seval,vV]
 have hxm:=dD hx
 have c1:=fun st=>CG (hb x hxm) st
 have c2:=wC (hb x hxm)
 have hw:=bB (n:=(i:Int)+1)
 have hat:=cI (av:=Tm.av) cH hx (aO x)
 have fM:=SB (T:=jJ) (h:=H) hx
 have hsz:=BL (T:=jJ) (h:=H) (l:=ts.take i) (m:=3840) fun y hy=>wC (hb y (j3 hy))
 have hln:(ts.take i).length*(3840+2)≤6*3842:=lU _ (by rw[d7];omega)
 generalize k6 jJ H (ts.take i)=B at *
 generalize jJ x=X at *
 have hs1:B.size+(⟨#[44]⟩:ByteArray).size≤maxLen:=by show _+1≤_;omega
 have hs2:(B++(⟨#[44]⟩:ByteArray)).size+X.size≤maxLen:=by rw[bP];show _+1+_≤_;omega
 have hs3:B.size+(⟨#[58,45]⟩:ByteArray).size≤maxLen:=by show _+2≤_;omega
 have hs4:(B++(⟨#[58,45]⟩:ByteArray)).size+X.size≤maxLen:=by rw[bP];show _+2+_≤_;omega
 by_cases h0:i=0
 · rw[a4 h0] at fM
   have h0':((i:Int)=0)=True:=bM (by omega)
   simp only[aF,hat,aR,aO,bY,h0',hs3,↓reduceIte,aT,aB,seval,vV]
   refine(c1 _).to ?_
   simp only[hs4,↓reduceIte,aB,seval]
   exact⟨(),aL.mk (by simp only[hw,fM,↓reduceIte,aB,seval])⟩
 · rw[aQ h0] at fM
   have h0':((i:Int)=0)=False:=a5 (by omega)
   simp only[aF,hat,aR,aO,bY,h0',hs1,↓reduceIte,aT,aZ,aB,seval,vV]
   refine(c1 _).to ?_
   simp only[hs2,↓reduceIte,aB,seval]
   exact⟨(),aL.mk (by simp only[hw,fM,↓reduceIte,aB,seval])⟩
abbrev AE:=zi cC (zi bW gQ)
theorem xL(c:Cl)(st:aA):aD prog 132 [aX c] st (fun r st'=>r=.str (l8 c)∧st'=st):=by
 have hv:=CD c
 unfold l8
 cases h:gI c with
 | true=>
  rw[h] at hv
  have ht:=T8 c (US h)
  rw[a4 rfl]
  obtain⟨⟨k,n,s,ks⟩,ts⟩:=c
  simp only[dH] at hv ht ⊢
  refine wF [1000000] 1 func132 ntmps132 rfl rfl ?_
  intro _
  simp only[aB,seval,AE]
  refine(hv _).to ?_
  simp only[aB,seval,AE]
  refine(ht _).to ?_
  simp only[aB,seval]
 | false=>
  rw[h] at hv
  rw[aQ (by decide)]
  obtain⟨⟨k,n,s,ks⟩,ts⟩:=c
  simp only[dH] at hv ⊢
  refine wF [1000000] 1 func132 ntmps132 rfl rfl ?_
  intro _
  simp only[aB,seval,AE]
  refine(hv _).to ?_
  simp only[aB,seval]
theorem CB{s:ByteArray}(hs:s.size≤1000)(a:Nat)(ha:a≤s.size)(st:aA):aD prog 129 [.str s,.int .i64 (a:Int),.int .i64 30,.int .i64 3] st (fun r st'=>f0 (sV (sb s) a) r∧st'=st):=
 TR hs (4*(sb s).length+4) 30 a 3 st ha (by omega) (by omega) (by rw[a8];omega)
def lQ(o:Option (List Tm×Nat))(r:AV):Prop:=match o with | some (ts,e)=>r=.tup [.slice (ts.map Tm.av),.int .i64 (e:Int)] | none=>r=.tup [.slice [],.int .i64 (-1)]
abbrev AD:=zi a7 (zi cC (zi gE (zi nU (zi bW (zi b8 (zi vW (zi bN P4)))))))
set_option maxHeartbeats 1000000 in
theorem T0{s:ByteArray}(hs:s.size≤1000)(a:Nat)(ha:a≤s.size)(st:aA):aD prog 131 [.str s,.int .i64 (a:Int)] st (fun r st'=>lQ (mB (sb s) 7 a []) r∧st'=st):=by
 generalize hT:mB (sb s) 7 a []=T
 refine aD.drop (Q:=lQ T) (aD.fin ?_)
 refine wF [1000000] 2 func131 ntmps131 rfl rfl ?_
 intro _
 simp only[aB,seval,AD]
 refine fY (σ:=Nat×List Tm×Nat×Nat) [1000000] [0] (fun x=>mB (sb s) x.2.2.1 x.1 x.2.1=T∧x.1≤s.size∧x.2.1.length+x.2.2.1=7∧(x.2.1.map Tm.av≠[]→st x.2.2.2=none)) (fun x=>[(1,.int .i64 (x.1:Int)),(4,.fslice []),(5,.int .i64 0),(6,aP 4 x.2.2.2 (x.2.1.map Tm.av))]) (fun x=>aU st x.2.2.2 (x.2.1.map Tm.av)) (fun x=>x.2.2.1) (by decide +kernel) ⟨(a,[],7,0),⟨hT,ha,rfl,by simp⟩,aL.mk (by simp only[bJ,i7,aB,seval])⟩ ?_
 rintro⟨i,acc,m,b⟩ ⟨ht,hi,hlen,hb⟩
 simp only at ht hi hlen hb ⊢
 have fin:∀(l:List Tm) (b':Nat) (r':AV),(l.map Tm.av≠[]→st b'=none)→lQ T (r'.fin b' (l.map Tm.av))→∃b2 l2 s0,aU st b' (l.map Tm.av)=aU s0 b2 l2∧(l2≠[]→s0 b2=none)∧(∀e∈l2,e.bA=false)∧eL l2∧aN s0 st∧lQ T (r'.fin b2 l2):=fun l b' r' h1 h2=>⟨b',_,st,rfl,h1,fC _,⟨4,c7 _⟩,aN.refl _,h2⟩
 have hTn:T=none→∀(b':Nat) (l:List AV),lQ T ((AV.tup [.fslice [],.int .i64 (-1)]).fin b' l):=by
  rintro rfl b' l
  simp only[lQ,qC,eR,r7,b9,bJ]
 have hln:(acc.map Tm.av).length=acc.length:=aF _
 have hal:=tZ (P:=prog) (b:=b) (w:=4) (l:=acc.map Tm.av) AN
 rw[hln] at hal
 by_cases h6:acc.length≤6
 case neg=>
  have h6':((acc.length:Int)≤6)=False:=a5 (by omega)
  obtain rfl:m=0:=by omega
  simp only[hal,h6',aZ,aB,seval]
  exact fin _ _ _ hb (hTn ht.symm _ _)
 have h6':((acc.length:Int)≤6)=True:=bM (by omega)
 obtain⟨m,rfl⟩:∃m',m=m'+1:=⟨m - 1,by omega⟩
 simp only[mB] at ht
 simp only[hal,h6',aT,aB,seval]
 refine(CB hs i hi _).mono ?_
 rintro r _ ⟨hr,rfl⟩
 cases hRi:sV (sb s) i with
 | none=>
  rw[hRi] at ht hr
  obtain⟨k,hk,rfl⟩:=hr
  have hk0:((-1 - (k:Int))<0)=True:=bM (by omega)
  simp only[aO,bL,bV,hk0,fL,aT,aB,↓bD,seval,AD]
  exact fin _ _ _ hb (hTn ht.symm _ _)
 | some p=>
  obtain⟨t,e⟩:=p
  rw[hRi] at ht hr
  simp only at ht
  obtain⟨g1,g2,g3⟩:=oT (by rw[a8];exact hs) _ _ _ i t e (by rw[a8];exact hi) hRi
  rw[a8] at g2
  simp only[f0] at hr
  subst hr
  have he0:((e:Int)<0)=False:=a5 (by omega)
  simp only[aR,aO,bL,bV,he0,fZ,true_and,aZ,aB,↓bD,seval,AD]
  refine eJ cH fT fU rfl rfl (eS (aO _) (bL _)) (c7 _) hb (by simp only[aF,bE,bO];omega) (by simp only[aF,bE,bO];omega) (fun b' hb'=>?_)
  rw[show acc.map Tm.av++ [t.av]=(acc++ [t]).map Tm.av by simp] at hb' ⊢
  have hw1:=bB (n:=(e:Int)+1)
  simp only[aB,seval]
  refine(fB s e 44 _).to ?_
  cases h3:a6 (sb s) e 44 with
  | true=>
   have h4:=hY h3
   rw[a8] at h4
   rw[h3,a4 rfl] at ht
   simp only[hw1,aB,seval]
   refine⟨(e+1,acc++ [t],m,b'),by simp only;omega,⟨ht,by simp only;omega,by simp only[dM,bE,bO];omega,hb'⟩,aL.mk (by simp only[aB,seval]<;>rfl)⟩
  | false=>
   rw[h3,aQ (by decide)] at ht
   simp only[rP,fZ,true_and,aB,seval]
   refine fin _ _ _ hb' ?_
   subst ht
   simp only[lQ,qC,eR,oG,b9,bJ]
end Go.AW
