import Derived.Test.YtlepdbmhjkmelaaGreatWsi
import Derived.Test.YtlepdbmhjkmelaaGreatWsh
import Derived.Lib.Join
set_option linter.unusedSimpArgs false
set_option linter.unusedVariables false
set_option maxRecDepth 100000
namespace Go.AW
open Go.Proofs.Tryz
def kA(a:Int):AV:=.tup [FP.av,.int .i64 (-1 - a)]
abbrev aX0:=zi aX cK
theorem z0(a:Nat)(ha:a≤1048576)(st:aA):aD prog 204 [.int .i64 (a:Int)] st (fun r st'=>r=kA a∧st'=st):=by
 refine aD.done ?_
 refine wF [1000000] 1 func204 ntmps204 rfl rfl ?_
 intro _
 have hw:=bH (n:= -1 - (a:Int))
 simp only[aG,hw,aB,seval,aX0]
 intro b hb
 exact⟨by simp only[kA,bY,jF,jW,jG,mZ,mY,bF,bD,bD],(aJ.refl _).aC hb⟩
def NL(a:Nat)(o:Option (ByteArray×Nat)):AV:=match o with | some (b,e)=>.tup [.str b,.int .i64 (e:Int)] | none=>.tup [.str ⟨#[]⟩,.int .i64 (a:Int)]
abbrev B9:=zi aX (zi cD (zi gE (zi uU cG)))
set_option maxHeartbeats 1000000 in
theorem aNQ(s:ByteArray)(hs:s.size≤1000)(a:Nat)(ha:a≤s.size)(st:aA):aD prog 172 [.str s,.int .i64 (a:Int)] st (fun r st'=>r=NL a (oW (sb s) a)∧st'=st):=by
 refine wF [1000000] 2 func172 ntmps172 rfl rfl ?_
 intro _
 simp only[aB,seval]
 refine(jU s a 32 _).to ?_
 obtain⟨f1,hf1⟩:∃f,f=a+1:=⟨_,rfl⟩
 have hw1:=iX (x:=(a:Int)+1) (m:=f1) (by omega) (by omega)
 simp only[aB,seval]
 refine bE (fun h1=>?_) (fun h1=>?_)
 · have hf:=mR h1
   rw[bX] at hf
   simp only[hw1,aB,seval,B9]
   obtain⟨f,rfl⟩:∃f,f=f1:=⟨_,rfl⟩
   replace hf:f≤s.size:=by omega
   by_cases hlen:s.size≤f
   case pos=>
    have hrd:oW (sb s) a=none:=by
     unfold oW
     simp only[h1,↓reduceIte,←hf1]
     rw[aN (by rw[bX];exact hlen)]
    rw[hrd]
    have cS:((s.size:Int)≤(f:Int))=True:=bP (by omega)
    simp only[cS,aV,aB,seval]
    rfl
   have cS:((s.size:Int)≤(f:Int))=False:=bB (by omega)
   have hrd:oW (sb s) a=match mW (sb s) f with
    | none=>none
    | some (nm,e)=>if dB nm=0 then none else if gG nm≠decide (a<f)∨(gG nm=true∧cA (sb s) e 32=false) then none else some (nm,if gG nm then e+1 else e):=by
    unfold oW
    simp only[h1,↓reduceIte,←hf1]
    rw[aH (by rw[bX];exact hlen)]
    try rfl
   rw[hrd]
   clear hrd
   have hfa:((a:Int)<(f:Int))=True:=bP (by omega)
   have hfn:(a<f)=True:=bP (by omega)
   simp only[cS,a8,aB,seval]
   refine(LF s hs f (by omega) _).to ?_
   cases hn:mW (sb s) f with
   | none=>
    simp only[xX]
    simp only[aV,aB,seval]
    rfl
   | some p=>
    obtain⟨nm,e⟩:=p
    have he:=E0 (by rw[bX];omega) hn
    rw[bX] at he
    simp only[xX]
    have he0:((e:Int)<0)=False:=bB (by omega)
    simp only[he0,a8,aB,seval]
    refine(tO nm _).to ?_
    by_cases hl0:dB nm=0
    case pos=>
     rw[aN hl0]
     have uC:((dB nm:Int)=0)=True:=bP (by omega)
     simp only[uC,aV,aB,seval]
     rfl
    rw[aH hl0]
    have uC:((dB nm:Int)=0)=False:=bB (by omega)
    simp only[hfn,aV]
    have hw1:=bH (n:=(e:Int)+1)
    by_cases hi:nm=⟨#[105,115]⟩
    case' pos=>
     have hi':=bP hi
     have hm':(nm=⟨#[109,111,100]⟩)=False:=bB (by rw[hi];decide)
     have hW:gG nm=true:=by unfold gG;rw[d6 hi];try rfl
    case' neg=>
     have hi':=bB hi
     by_cases hm:nm=⟨#[109,111,100]⟩
     case' pos=>
      have hm':=bP hm
      have hW:gG nm=true:=by unfold gG;rw[d6 hm];exact CQ _
     case' neg=>
      have hm':=bB hm
      have hW:gG nm=false:=by unfold gG;rw[eH hm,eH hi];try rfl
    all_goals
     rw[hW]
     simp only[uC,hfa,hi',hm',aV,a8,aB,seval,B9]
     first
      | (rw[aN (Or.inl trivial)];rfl)
      | (rw[aH fun h=>h.1];rfl)
      | skip
     try
      refine(jU s e 32 _).to ?_
      cases hb:cA (sb s) e 32 with
      | false=>
       simp only[aB,seval]
       rfl
      | true=>
       simp only[hw1,aB,seval]
       rfl
 · skip
   simp only[aB,seval,B9]
   obtain⟨f,rfl⟩:∃f,f=a:=⟨_,rfl⟩
   have hf:=ha
   by_cases hlen:s.size≤f
   case pos=>
    have hrd:oW (sb s) f=none:=by
     unfold oW
     simp only[h1,↓reduceIte,iA]
     rw[aN (by rw[bX];exact hlen)]
    rw[hrd]
    have cS:((s.size:Int)≤(f:Int))=True:=bP (by omega)
    simp only[cS,aV,aB,seval]
    rfl
   have cS:((s.size:Int)≤(f:Int))=False:=bB (by omega)
   have hrd:oW (sb s) f=match mW (sb s) f with
    | none=>none
    | some (nm,e)=>if dB nm=0 then none else if gG nm≠decide (f<f)∨(gG nm=true∧cA (sb s) e 32=false) then none else some (nm,if gG nm then e+1 else e):=by
    unfold oW
    simp only[h1,↓reduceIte,iA]
    rw[aH (by rw[bX];exact hlen)]
    try rfl
   rw[hrd]
   clear hrd
   have hfa:((f:Int)<(f:Int))=False:=bB (by omega)
   have hfn:(f<f)=False:=bB (by omega)
   simp only[cS,a8,aB,seval]
   refine(LF s hs f (by omega) _).to ?_
   cases hn:mW (sb s) f with
   | none=>
    simp only[xX]
    simp only[aV,aB,seval]
    rfl
   | some p=>
    obtain⟨nm,e⟩:=p
    have he:=E0 (by rw[bX];omega) hn
    rw[bX] at he
    simp only[xX]
    have he0:((e:Int)<0)=False:=bB (by omega)
    simp only[he0,a8,aB,seval]
    refine(tO nm _).to ?_
    by_cases hl0:dB nm=0
    case pos=>
     rw[aN hl0]
     have uC:((dB nm:Int)=0)=True:=bP (by omega)
     simp only[uC,aV,aB,seval]
     rfl
    rw[aH hl0]
    have uC:((dB nm:Int)=0)=False:=bB (by omega)
    simp only[hfn,a8]
    have hw1:=bH (n:=(e:Int)+1)
    by_cases hi:nm=⟨#[105,115]⟩
    case' pos=>
     have hi':=bP hi
     have hm':(nm=⟨#[109,111,100]⟩)=False:=bB (by rw[hi];decide)
     have hW:gG nm=true:=by unfold gG;rw[d6 hi];try rfl
    case' neg=>
     have hi':=bB hi
     by_cases hm:nm=⟨#[109,111,100]⟩
     case' pos=>
      have hm':=bP hm
      have hW:gG nm=true:=by unfold gG;rw[d6 hm];exact CQ _
     case' neg=>
      have hm':=bB hm
      have hW:gG nm=false:=by unfold gG;rw[eH hm,eH hi];try rfl
    all_goals
     rw[hW]
     simp only[uC,hfa,hi',hm',aV,a8,aB,seval,B9]
     first
      | (rw[aN (Or.inl trivial)];rfl)
      | (rw[aH fun h=>h.1];rfl)
      | skip
     try
      refine(jU s e 32 _).to ?_
      cases hb:cA (sb s) e 32 with
      | false=>
       simp only[uC,hfa,hi',hm',hw1,aV,a8,aB,↓a9,seval,B9]
       rfl
      | true=>
       simp only[uC,hfa,hi',hm',hw1,aV,a8,aB,↓a9,seval,B9]
       rfl
theorem aO0{ts:List Tm}{i:Nat}{x t:Tm}(hx:ts[i]?=some x):tQ (ts.drop i) t=mT ⟨#[46]⟩ [x,tQ (ts.drop (i+1)) t]:=by
 obtain⟨h1,h2⟩:=gJ.1 hx
 rw[sT h1,h2]
 try rfl
abbrev JF:=zi aX (zi cG (zi cI cK))
set_option maxHeartbeats 1000000 in
theorem RK(ts:List Tm)(tl:Tm)(hl:ts.length≤1048576)(st:aA):aD prog 226 [.slice (ts.map Tm.av),tl.av] st (fun r st'=>r=(tQ ts tl).av∧st'=st):=by
 refine aD.done ?_
 refine wF [1000000,5] 2 func226 ntmps226 rfl rfl ?_
 intro _
 have hw0:=bH (n:=(ts.length:Int) - 1)
 simp only[aG,bM,aQ,cO,cR,cH,aE,hw0,aB,↓a9,seval,JF]
 intro b hb b5 hb5
 have hbb:b5≠b:=fun h=>by rw[h,aA.aK] at hb5;cases hb5
 refine gW (σ:=Nat) [1000000] [0,4,5] (fun i=>i≤ts.length) (fun i=>[(6,.int .i64 ((i:Int) - 1))]) (fun i=>(st.aC b (.cells [.int .i64 0,.int .i64 0,.str ⟨#[]⟩,.fslice []])).aC b5 (.cells (tQ (ts.drop i) tl).av.cells)) (fun i=>i) (by decide +kernel) ⟨ts.length,by omega,by rw[o9];exact aP.mk (by simp only[aB,seval])⟩ ?_
 intro i hi
 simp only[aB,seval]
 refine bE (fun h1=>?_) (fun h1=>?_)
 · simp only[bK] at h1
   obtain⟨k,rfl⟩:∃k,i=k+1:=⟨i - 1,by omega⟩
   obtain⟨x,hx⟩:∃x,ts[k]?=some x:=⟨_,d4 (by omega)⟩
   have hk:((k+1:Nat):Int) - 1=(k:Int):=by omega
   have hw:=bH (n:=(k:Int) - 1)
   have hst:=aO0 (t:=tl) hx
   have hat:=bR (av:=Tm.av) cF hx (aQ x)
   rw[hk]
   generalize tQ (ts.drop (k+1)) tl=y at *
   have hax:=cH x
   have hay:=cH y
   simp only[aB,seval]
   refine wP [(0,1),(1,1),(2,1),(3,2),(4,2),(5,1),(6,2),(7,0)] [0,1,2,3,4,5,6] mixed ?_
   simp only[bM,aQ,cR,cH,fU (cH _),fN (bM _),hat,aB,seval,JF]
   refine iK (G2 ⟨#[46]⟩ [x,y] (by simp) _) ?_
   simp only[aG,cO,cH,hw,aB,seval,JF]
   refine⟨k,by omega,by omega,?_⟩
   rw[hst]
   exact aP.mk (by simp only[aB,seval])
 · simp only[d5] at h1
   obtain rfl:i=0:=by omega
   rw[rL]
   simp only[aG,cO,cH,fU (cH _),fN (bM _),hbb.symm,aB,↓a9,seval,JF]
   exact⟨Tm.soft _,(((aJ.refl _).aC hb).aC (by rwa [aA.aO _ _ hbb] at hb5)).aC hb⟩
def kX(o:Option (Tm×Nat))(r:AV):Prop:=match o with | some (t,e)=>r=.tup [t.av,.int .i64 (e:Int)] | none=>∃k:Nat,k≤1048576∧r=kA k
def sY(o:Option (List Tm×Nat))(r:AV):Prop:=match o with | some (ts,e)=>r=.tup [.slice (ts.map Tm.av),.int .i64 (e:Int)] | none=>∃k:Nat,k≤1048576∧r=.tup [.slice [],.int .i64 (-1 - (k:Int))]
abbrev KH (s:ByteArray) (R:j0) (d lv lo:Nat):Prop:=∀(a:Nat) (st:aA),lo≤a→a≤s.size→aD prog 129 [.str s,.int .i64 (a:Int),.int .i64 (d:Int),.int .i64 (lv:Int)] st (fun r st'=>kX (R a) r∧st'=st)
abbrev OY:=zi aX (zi cD (zi gE (zi uU (zi cG (zi cI (zi cK lZ))))))
set_option maxHeartbeats 1000000 in
theorem RX{s:ByteArray}{R:j0}{d lo c1 c2:Nat}(hR:KH s R d 3 lo)(hok:vB R (sb s))(hs:s.size≤1000)(a:Nat)(ha:lo≤a)(ha':a≤s.size)(st:aA) :
 aD prog 209 [.str s,.int .i64 (a:Int),.int .i64 (d:Int),.int .u8 (c1:Int),.int .u8 (c2:Int)] st (fun r st'=>sY (p9 R (sb s) c1 c2 ((sb s).length+1) a []) r∧st'=st):=by
 generalize hT:p9 R (sb s) c1 c2 ((sb s).length+1) a []=T
 rw[bX] at hT
 refine aD.drop (Q:=sY T) (aD.fin ?_)
 refine wF [1000000] 5 func209 ntmps209 rfl rfl ?_
 intro _
 simp only[aB,seval,OY]
 refine gW (σ:=Nat×List Tm×Nat×Nat) [1000000] [0,2,3,4] (fun x=>p9 R (sb s) c1 c2 x.2.2.1 x.1 x.2.1=T∧lo≤x.1∧x.1≤s.size∧s.size<x.2.2.1+x.1∧x.2.1.length+x.2.2.1≤1001∧(x.2.1.map Tm.av≠[]→st x.2.2.2=none)) (fun x=>[(1,.int .i64 (x.1:Int)),(10,.fslice []),(11,.int .i64 0),(12,bQ 4 x.2.2.2 (x.2.1.map Tm.av))]) (fun x=>aU st x.2.2.2 (x.2.1.map Tm.av)) (fun x=>x.2.2.1) (by decide +kernel) ⟨(a,[],s.size+1,0),⟨hT,ha,ha',by simp only;omega,by simp only[aW];omega,by simp⟩,aP.mk (by simp only[bD,jM,aB,seval])⟩ ?_
 rintro⟨i,acc,m,b⟩ ⟨ht,hlo,hi,hm,hlen,hb⟩
 simp only at ht hlo hi hm hlen hb ⊢
 obtain⟨m,rfl⟩:∃m',m=m'+1:=⟨m - 1,by omega⟩
 simp only[p9] at ht
 simp only[aB,seval]
 refine(hR i _ hlo hi).mono ?_
 rintro r _ ⟨hr,rfl⟩
 have fin:∀(l:List Tm) (b':Nat) (r':AV),(l.map Tm.av≠[]→st b'=none)→sY T (r'.fin b' (l.map Tm.av))→∃b2 l2 s0,aU st b' (l.map Tm.av)=aU s0 b2 l2∧(l2≠[]→s0 b2=none)∧(∀e∈l2,e.bO=false)∧gN l2∧aJ s0 st∧sY T (r'.fin b2 l2):=fun l b' r' h1 h2=>⟨b',_,st,rfl,h1,n8 _,⟨4,gF _⟩,aJ.refl _,h2⟩
 have hTn:T=none→∀k:Nat,k≤1048576→∀(b':Nat) (l:List AV),sY T ((AV.tup [.fslice [],.int .i64 (-1 - (k:Int))]).fin b' l):=by
  rintro rfl k hk b' l
  exact⟨k,hk,by simp only[eW,fX,lD,bF,bD]⟩
 cases hRi:R i with
 | none=>
  rw[hRi] at ht hr
  obtain⟨k,hk,rfl⟩:=hr
  have hk0:((-1 - (k:Int))<0)=True:=bP (by omega)
  simp only[aQ,cO,cR,hk0,kA,aV,aB,↓a9,seval,OY]
  exact fin _ _ _ hb (hTn ht.symm k hk _ _)
 | some p=>
  obtain⟨t,e⟩:=p
  rw[hRi] at ht hr
  simp only at ht
  obtain⟨g1,g2,g3⟩:=hok i t e (by rw[bX];exact hi) hRi
  rw[bX] at g2
  simp only[kX] at hr
  subst hr
  have he0:((e:Int)<0)=False:=bB (by omega)
  simp only[bM,aQ,cO,cR,he0,fM,rE,a8,aB,↓a9,seval,OY]
  refine eE cF kL kM rfl rfl (gZ (aQ _) (cO _)) (gF _) hb (by simp only[aE,aY,aW];omega) (by simp only[aE,aY,aW];omega) (fun b' hb'=>?_)
  rw[show acc.map Tm.av++ [t.av]=(acc++ [t]).map Tm.av by simp] at hb' ⊢
  simp only[aB,seval]
  have aE5:T=some (acc++ [t],e)→sY T ((AV.tup [bQ 4 b' ((acc++ [t]).map Tm.av),.int .i64 (e:Int)]).fin b' ((acc++ [t]).map Tm.av)):=by
   rintro rfl
   simp only[sY,eW,fX,jD,bF,bD]
  have hw1:=bH (n:=(e:Int)+1)
  have hw2:=bH (n:= -1 - (e:Int))
  refine(jU s e c1 _).to ?_
  cases h1:cA (sb s) e c1 with
  | true=>
   rw[h1,Bool.true_or,aN rfl] at ht
   simp only[jL,fM,rE,aB,seval]
   exact fin _ _ _ hb' (aE5 ht.symm)
  | false=>
  simp only[aB,seval]
  refine(jU s e c2 _).to ?_
  cases h2:cA (sb s) e c2 with
  | true=>
   rw[h2,CQ,aN rfl] at ht
   simp only[jL,fM,rE,aB,seval]
   exact fin _ _ _ hb' (aE5 ht.symm)
  | false=>
  rw[h1,h2,CP,aH (by decide)] at ht
  simp only[aB,seval]
  refine(jU s e 44 _).to ?_
  cases h3:cA (sb s) e 44 with
  | true=>
   have h4:=mR h3
   rw[bX] at h4
   rw[h3,aN rfl] at ht
   simp only[hw1,aB,seval]
   refine⟨(e+1,acc++ [t],m,b'),by simp only;omega,⟨ht,by simp only;omega,by simp only;omega,by simp only;omega,by simp only[cX,aY,aW];omega,hb'⟩,aP.mk (by simp only[aB,seval]<;>rfl)⟩
  | false=>
   rw[h3,aH (by decide)] at ht
   simp only[hw2,aB,seval]
   exact fin _ _ _ hb' (hTn ht.symm e (by omega) _ _)
theorem aD.L3{P:Program}{g:FuncId}{args:List AV}{st:aA}{Q:AV→Prop}(x:aD P g args st (fun r' st'=>Q r'.soft∧aJ st' st)):aD P g args st (fun r' st'=>Q r'∧st'=st):=
 aD.drop (aD.soft (x.mono fun _ _ h=>⟨h.2,h.1⟩))
theorem BR{k:Nat}(hk:k≤1048576):kX none (AV.tup [.agg [.int .i64 0,.int .i64 0,.str ⟨#[]⟩,.fslice []],.int .i64 (-1 - (k:Int))]).soft:=
 ⟨k,hk,by simp only[kA,bY,jF,jW,jG,mZ,mY,bF,bD]⟩
theorem pW{t:Tm}{e:Nat}{x:Int}(h:x=(e:Int)):kX (some (t,e)) (AV.tup [t.av,.int .i64 x]).soft:=by
 subst h
 simp only[kX,jW,jG,Tm.soft,bF,bD]
theorem v5{k:Nat}(hk:k≤1048576):kX none (AV.tup [FP.av,.int .i64 (-1 - (k:Int))]).soft:=
 ⟨k,hk,by simp only[kA,jW,jG,Tm.soft,bF,bD]⟩
abbrev wH:=zi aX (zi cD (zi gE (zi uU (zi cG (zi cI (zi cK aIK))))))
set_option maxHeartbeats 1000000 in
theorem aNN{s:ByteArray}{R:j0}{d lo:Nat}(hR:KH s R d 3 lo)(hok:vB R (sb s))(hs:s.size≤1000)(a:Nat)(ha:lo≤a)(ha':a≤s.size)(st:aA) :
 aD prog 205 [.str s,.int .i64 (a:Int),.int .i64 (d:Int)] st (fun r st'=>kX (xR R (sb s) a) r∧st'=st):=by
 refine aD.L3 ?_
 refine wF [1000000] 3 func205 ntmps205 rfl rfl ?_
 intro _
 simp only[aB,seval,wH]
 intro b hb
 unfold xR
 refine(RX hR hok hs a ha ha' _ (c1:=93) (c2:=124)).mono ?_
 rintro r _ ⟨hr,rfl⟩
 have hD:=fun(o:AO)=>(aJ.refl st).aC (o:=o) hb
 cases hT:p9 R (sb s) 93 124 ((sb s).length+1) a [] with
 | none=>
  rw[hT] at hr
  obtain⟨k,hk,rfl⟩:=hr
  have hk0:((-1 - (k:Int))<0)=True:=bP (by omega)
  simp only[aG,hk0,aV,aB,seval,wH]
  exact⟨BR hk,hD _⟩
 | some p=>
  obtain⟨ts,e⟩:=p
  rw[hT] at hr
  simp only[sY] at hr
  subst hr
  obtain⟨g1,g2,g3,g4,g5⟩:=JP hok _ _ _ _ _ (by rw[bX];exact ha') (by simp) hT
  rw[bX] at g2 g4
  rw[aW] at g4
  have he0:((e:Int)<0)=False:=bB (by omega)
  obtain⟨f,hf⟩:∃f,f=e+1:=⟨_,rfl⟩
  have hw:=iX (x:=(e:Int)+1) (m:=f) (by omega) (by omega)
  simp only[he0,a8,aB,seval]
  refine(jU s e 93 _).to ?_
  cases h1:cA (sb s) e 93 with
  | true=>
   simp only[aB,seval]
   refine(G2 ⟨#[91,93]⟩ [] (by simp) _).to ?_
   simp only[aB,seval]
   refine(RK ts (mT ⟨#[91,93]⟩ []) (by omega) _).to ?_
   simp only[aG,cO,cR,cH,fU (cH _),fN (bM _),hw,aB,seval,wH]
   exact⟨pW (by omega),hD _⟩
  | false=>
   simp only[hw,aB,seval]
   refine(hR f _ (by omega) (by omega)).mono ?_
   rintro r _ ⟨hr,rfl⟩
   rw[←hf]
   cases hRi:R f with
   | none=>
    rw[hRi] at hr
    obtain⟨k,hk,rfl⟩:=hr
    have hk0:((-1 - (k:Int))<0)=True:=bP (by omega)
    simp only[aG,aQ,cO,cR,hk0,kA,aV,aB,↓a9,seval,wH]
    exact⟨BR hk,hD _⟩
   | some p=>
    obtain⟨t,e2⟩:=p
    rw[hRi] at hr
    simp only[kX] at hr
    subst hr
    obtain⟨k1,k2,k3⟩:=hok f t e2 (by rw[bX];omega) hRi
    rw[bX] at k2
    have he2:((e2:Int)<0)=False:=bB (by omega)
    have hw2:=bH (n:=(e2:Int)+1)
    simp only[aQ,cO,cR,he2,a8,aB,↓a9,seval,wH]
    refine(jU s e2 93 _).to ?_
    cases h2:cA (sb s) e2 93 with
    | true=>
     simp only[bM,aQ,aB,seval,wH]
     refine(RK ts t (by omega) _).to ?_
     simp only[aG,cO,cR,cH,fU (cH _),fN (bM _),hw2,aB,seval,wH]
     exact⟨pW rfl,hD _⟩
    | false=>
     simp only[aB,seval]
     refine(z0 e2 (by omega) _).to ?_
     simp only[aG,cO,cR,cH,fU (cH _),fN (bM _),kA,aB,seval,wH]
     exact⟨v5 (by omega),hD _⟩
theorem aVS{R:Nat→j0}{l:List UInt8}{d a:Nat}(h:d<1∨l.length≤a):lU R l d a=none:=by unfold lU;rw[aN h]
theorem aVT{R:Nat→j0}{l:List UInt8}{d a:Nat}(h:¬(d<1∨l.length≤a))(h1:cA l a 40=true):lU R l d a=match R d (a+1) with
 | none=>none
 | some (t,e)=>if cA l e 41 then some (t,e+1) else none:=by unfold lU;rw[aH h,aN h1];try rfl
theorem aVP{R:Nat→j0}{l:List UInt8}{d a:Nat}(h:¬(d<1∨l.length≤a))(h1:cA l a 40=false)(h2:cA l a 91=true)(h3:cA l (a+1) 93=false):lU R l d a=xR (R (d - 1)) l (a+1):=by
 unfold lU;rw[aH h,aH (by simp [h1]),aN (by simp [h2,h3])]
theorem aVU{R:Nat→j0}{l:List UInt8}{d a:Nat}(h:¬(d<1∨l.length≤a))(h1:cA l a 40=false)(h2:(cA l a 91&& !cA l (a+1) 93)=false)(h3:eK l a rH=true):lU R l d a=some (vr ((GZ l a - 65:Nat):Int),a+1):=by
 unfold lU;rw[aH h,aH (by simp [h1]),aH (by simp [h2]),aN h3]
theorem aVR{R:Nat→j0}{l:List UInt8}{d a:Nat}(h:¬(d<1∨l.length≤a))(h1:cA l a 40=false)(h2:(cA l a 91&& !cA l (a+1) 93)=false)(h3:eK l a rH=false)(h4:(eK l a cV||(cA l a 45&&eK l (a+1) cV))=true):lU R l d a=match sI l a with
 | none=>none
 | some (n,e)=>some (.mk 2 n ⟨#[]⟩ [],e):=by
 unfold lU;rw[aH h,aH (by simp [h1]),aH (by simp [h2]),aH (by simp [h3]),aN h4];try rfl
theorem aVQ{R:Nat→j0}{l:List UInt8}{d a:Nat}(h:¬(d<1∨l.length≤a))(h1:cA l a 40=false)(h2:(cA l a 91&& !cA l (a+1) 93)=false)(h3:eK l a rH=false)(h4:(eK l a cV||(cA l a 45&&eK l (a+1) cV))=false):lU R l d a=match mW l a with
 | none=>none
 | some (nm,e)=>if cA l e 40=false then some (mT nm [],e) else match p9 (R (d - 1)) l 41 41 (l.length+1) (e+1) [] with
  | none=>none
  | some (ts,e')=>some (mT nm ts,e'+1):=by
 unfold lU;rw[aH h,aH (by simp [h1]),aH (by simp [h2]),aH (by simp [h3]),aH (by simp [h4])];try rfl
abbrev iV:=zi aX (zi cD (zi gE (zi uU (zi cG (zi cI (zi cK aIK))))))
set_option maxHeartbeats 2000000 in
theorem aNS{s:ByteArray}{R:Nat→j0}{a:Nat}(hR:∀d,d≤1048576→KH s (R d) d 3 (a+1))(hok:∀d,vB (R d) (sb s))(hs:s.size≤1000)(ha:a≤s.size)(d:Nat)(hd:d≤1048576)(st:aA) :
 aD prog 171 [.str s,.int .i64 (a:Int),.int .i64 (d:Int)] st (fun r st'=>kX (lU R (sb s) d a) r∧st'=st):=by
 refine aD.L3 ?_
 refine wF [1000000] 3 func171 ntmps171 rfl rfl ?_
 intro _
 generalize hP:lU R (sb s) d a=o
 simp only[aB,seval,iV]
 intro b hb
 have hD:=fun(o:AO)=>(aJ.refl st).aC (o:=o) hb
 by_cases h0:d<1∨s.size≤a
 case pos=>
  rw[aVS (by rw[bX];exact h0)] at hP
  subst hP
  by_cases h01:d<1
  case pos=>
   have t9:((d:Int)<1)=True:=bP (by omega)
   simp only[t9,aV,aB,seval]
   refine(z0 a (by omega) _).to ?_
   simp only[aG,cO,cR,cH,fU (cH _),fN (bM _),kA,aB,seval,iV]
   exact⟨v5 (by omega),hD _⟩
  case neg=>
   have t9:((d:Int)<1)=False:=bB (by omega)
   have xI:((s.size:Int)≤(a:Int))=True:=bP (by omega)
   simp only[t9,xI,aV,a8,aB,seval,iV]
   refine(z0 a (by omega) _).to ?_
   simp only[aG,cO,cR,cH,fU (cH _),fN (bM _),kA,aB,seval,iV]
   exact⟨v5 (by omega),hD _⟩
 have h0':¬(d<1∨(sb s).length≤a):=by rw[bX];exact h0
 have t9:((d:Int)<1)=False:=bB (by omega)
 have xI:((s.size:Int)≤(a:Int))=False:=bB (by omega)
 obtain⟨x,hx⟩:=tM (s:=s) (n:=a) (by omega)
 have hix:=pS (P:=prog) (t:=9) oA hx
 obtain⟨f,hf⟩:∃f,f=a+1:=⟨_,rfl⟩
 have hw:=iX (x:=(a:Int)+1) (m:=f) (by omega) (by omega)
 obtain⟨d1,hd1⟩:∃d1,d1=d - 1:=⟨_,rfl⟩
 have hwd:=iX (x:=(d:Int) - 1) (m:=d1) (by omega) (by omega)
 by_cases h40:x.toNat=40
 case pos=>
  rw[aVT h0' (by rw[qV hx,h40];try rfl),←hf] at hP
  have AP:((x.toNat:Int)=40)=True:=bP (by omega)
  simp only[t9,xI,hix,AP,hw,aV,a8,aB,seval,iV]
  refine(hR d hd f _ (by omega) (by omega)).mono ?_
  rintro r _ ⟨hr,rfl⟩
  cases hRi:R d f with
  | none=>
   rw[hRi] at hr hP
   subst hP
   obtain⟨k,hk,rfl⟩:=hr
   have hk0:((-1 - (k:Int))<0)=True:=bP (by omega)
   simp only[aG,aQ,cO,cR,hk0,kA,aV,aB,↓a9,seval,iV]
   exact⟨BR hk,hD _⟩
  | some p=>
   obtain⟨t,e2⟩:=p
   rw[hRi] at hr hP
   simp only[kX] at hr
   subst hr
   obtain⟨k1,k2,k3⟩:=hok d f t e2 (by rw[bX];omega) hRi
   rw[bX] at k2
   have he2:((e2:Int)<0)=False:=bB (by omega)
   have hw2:=bH (n:=(e2:Int)+1)
   simp only[aQ,cO,cR,he2,a8,aB,↓a9,seval,iV]
   refine(jU s e2 41 _).to ?_
   cases h2:cA (sb s) e2 41 with
   | true=>
    simp only[h2,↓reduceIte] at hP
    subst hP
    simp only[aG,bM,aQ,cO,cR,cH,fU (cH _),fN (bM _),hw2,aB,seval,iV]
    exact⟨pW rfl,hD _⟩
   | false=>
    simp only[h2,↓reduceIte,iA] at hP
    subst hP
    simp only[aB,seval]
    refine(z0 e2 (by omega) _).to ?_
    simp only[aG,cO,cR,cH,fU (cH _),fN (bM _),kA,aB,seval,iV]
    exact⟨v5 (by omega),hD _⟩
 have g40:cA (sb s) a 40=false:=by rw[qV hx];exact eH h40
 have AP:((x.toNat:Int)=40)=False:=bB (by omega)
 -- a list
 by_cases hL:x.toNat=91∧cA (sb s) f 93=false
 case pos=>
  obtain⟨h91,h93⟩:=hL
  rw[aVP h0' g40 (by rw[qV hx,h91];try rfl) (by rw[←hf];exact h93),←hf,←hd1] at hP
  subst hP
  have qS:((x.toNat:Int)=91)=True:=bP (by omega)
  simp only[t9,xI,hix,AP,qS,hw,aV,a8,aB,seval,iV]
  refine(jU s f 93 _).to ?_
  rw[h93]
  simp only[hw,hwd,aB,seval]
  refine(aNN (hR d1 (by omega)) (hok d1) hs f (by omega) (by omega) _).mono ?_
  rintro r _ ⟨hr,rfl⟩
  cases hI:xR (R d1) (sb s) f with
  | none=>
   rw[hI] at hr
   obtain⟨k,hk,rfl⟩:=hr
   simp only[aG,cO,cR,cH,fU (cH _),fN (bM _),kA,aB,seval,iV]
   exact⟨v5 hk,hD _⟩
  | some p=>
   obtain⟨t,e2⟩:=p
   rw[hI] at hr
   simp only[kX] at hr
   subst hr
   simp only[aG,cO,cR,cH,fU (cH _),fN (bM _),aB,seval,iV]
   exact⟨pW rfl,hD _⟩
 have gL:(cA (sb s) a 91&& !cA (sb s) (a+1) 93)=false:=by
  rw[←hf,qV hx]
  rcases Nat.decEq x.toNat 91 with h | h
  · rw[eH h,eT]
  · rw[d6 h,dH]
    cases h93:cA (sb s) f 93 with
    | true=>rfl
    | false=>exact absurd ⟨h,h93⟩ hL
 by_cases hU:rH x=true
 case pos=>
  have hP':=aVU (R:=R) h0' g40 gL (by rw[uG hx];exact hU)
  rw[hP'] at hP
  subst hP
  have hbn:GZ (sb s) a=x.toNat:=by unfold GZ;rw[hx]
  simp only[rH,bG,bK] at hU
  have qS:((x.toNat:Int)=91)=False:=bB (by omega)
  have h65:((65:Int)≤(x.toNat:Int))=True:=bP (by omega)
  have h90:((x.toNat:Int)≤90)=True:=bP (by omega)
  obtain⟨y,hy⟩:∃y,y=x.toNat - 65:=⟨_,rfl⟩
  have hw2:IntKind.wrap .u8 ((x.toNat:Int) - 65)=(y:Int):=by rw[IntKind.wrap_u8];omega
  have hw3:=bH (n:=(y:Int))
  simp only[t9,xI,hix,AP,qS,h65,h90,hw2,hw3,kJ,aV,a8,aB,seval,iV]
  refine(RR (y:Int) _).to ?_
  simp only[aG,cO,cR,cH,fU (cH _),fN (bM _),hw,aB,seval,iV]
  rw[hbn,←hy,←hf]
  exact⟨pW rfl,hD _⟩
 have gU:eK (sb s) a rH=false:=by rw[uG hx];simpa using hU
 cases hdg:(eK (sb s) a cV||(cA (sb s) a 45&&eK (sb s) (a+1) cV)) with
 | true=>
  have hP':=aVR (R:=R) h0' g40 gL gU hdg
  rw[hP'] at hP
  by_cases hdx:cV x=true
  case' pos=>have AQ:=hdx
  case' neg=>
   have hdx:cV x=false:=by simpa using hdx
   rw[uG hx,hdx,rJ,bG,qV hx,bK] at hdg
   have AQ:((x.toNat:Int)=45)=True:=bP (by omega)
  all_goals
   by_cases h91:x.toNat=91
   case' pos=>
    have qS:((x.toNat:Int)=91)=True:=bP (by omega)
    have h93:cA (sb s) f 93=true:=by rw[qV hx,d6 h91,dH,←hf] at gL;simpa using gL
   case' neg=>
    have qS:((x.toNat:Int)=91)=False:=bB (by omega)
    have h93:=qS
   all_goals
    by_cases h65:65≤x.toNat
    case' pos=>
     have uA:((65:Int)≤(x.toNat:Int))=True:=bP (by omega)
     have xJ:((x.toNat:Int)≤90)=False:=bB (by intro h;exact hU (by simp only[rH,bG,bK];omega))
    case' neg=>
     have uA:((65:Int)≤(x.toNat:Int))=False:=bB (by omega)
     have xJ:=uA
   all_goals
    simp only[t9,xI,hix,AP,qS,uA,xJ,hw,aV,a8,aB,seval,iV]
    try
     refine(jU s f 93 _).to ?_
     rw[h93]
     simp only[hix,uA,xJ,aV,a8,aB,seval]
    refine(xW s a _).to ?_
    rw[uG hx]
   all_goals
    simp only[hix,hdx,AQ,hw,aV,aB,seval]
    try
     refine(xW s f _).to ?_
     rw[hf,hdg.2]
     simp only[aB,seval]
    refine(aNF s hs a ha _).to ?_
    cases hn:sI (sb s) a with
    | none=>
     rw[hn] at hP
     subst hP
     simp only[aQ,cO,cR,xZ,aV,aB,↓a9,seval,iV]
     refine(z0 a (by omega) _).to ?_
     simp only[aG,cO,cR,cH,fU (cH _),fN (bM _),kA,aB,seval,iV]
     exact⟨v5 (by omega),hD _⟩
    | some p=>
     obtain⟨n,e⟩:=p
     rw[hn] at hP
     subst hP
     have he0:((e:Int)<0)=False:=bB (by omega)
     simp only[aG,bM,aQ,cO,cR,cH,fU (cH _),fN (bM _),xZ,he0,a8,aB,↓a9,seval,iV]
     exact⟨pW rfl,hD _⟩
 | false=>
  have hP':=aVQ (R:=R) h0' g40 gL gU hdg
  rw[hP',←hd1] at hP
  rw[uG hx,Bool.or_eq_false_iff,qV hx,←hf] at hdg
  have hdx:=hdg.1
  by_cases h45:x.toNat=45
  case' pos=>
   have AQ:((x.toNat:Int)=45)=True:=bP (by omega)
   have hfd:eK (sb s) f cV=false:=by have:=hdg.2;rwa [d6 h45,dH] at this
  case' neg=>
   have AQ:((x.toNat:Int)=45)=False:=bB (by omega)
   have hfd:=AQ
  all_goals
   by_cases h91:x.toNat=91
   case' pos=>
    have qS:((x.toNat:Int)=91)=True:=bP (by omega)
    have h93:cA (sb s) f 93=true:=by rw[qV hx,d6 h91,dH,←hf] at gL;simpa using gL
   case' neg=>
    have qS:((x.toNat:Int)=91)=False:=bB (by omega)
    have h93:=qS
   all_goals
    by_cases h65:65≤x.toNat
    case' pos=>
     have uA:((65:Int)≤(x.toNat:Int))=True:=bP (by omega)
     have xJ:((x.toNat:Int)≤90)=False:=bB (by intro h;exact hU (by simp only[rH,bG,bK];omega))
    case' neg=>
     have uA:((65:Int)≤(x.toNat:Int))=False:=bB (by omega)
     have xJ:=uA
   all_goals
    simp only[t9,xI,hix,AP,qS,uA,xJ,hw,aV,a8,aB,seval,iV]
    try
     refine(jU s f 93 _).to ?_
     rw[h93]
     simp only[hix,uA,xJ,aV,a8,aB,seval]
    refine(xW s a _).to ?_
    rw[uG hx]
   all_goals
    simp only[hix,hdx,AQ,hw,aV,a8,aB,seval]
    try
     refine(xW s f _).to ?_
     rw[hfd]
     simp only[aB,seval]
    refine(LF s hs a ha _).to ?_
    cases hn:mW (sb s) a with
    | none=>
     rw[hn] at hP
     subst hP
     simp only[xX,aV,aB,seval]
     refine(z0 a (by omega) _).to ?_
     simp only[aG,cO,cR,cH,fU (cH _),fN (bM _),kA,aB,seval,iV]
     exact⟨v5 (by omega),hD _⟩
    | some p=>
     obtain⟨nm,e⟩:=p
     rw[hn] at hP
     simp only at hP
     have hel:=E0 (by rw[bX];exact ha) hn
     rw[bX] at hel
     have he0:((e:Int)<0)=False:=bB (by omega)
     obtain⟨f2,hf2⟩:∃f2,f2=e+1:=⟨_,rfl⟩
     have hwe:=iX (x:=(e:Int)+1) (m:=f2) (by omega) (by omega)
     simp only[xX,he0,a8,aB,seval]
     refine(jU s e 40 _).to ?_
     cases h4:cA (sb s) e 40 with
     | false=>
      rw[aN h4] at hP
      subst hP
      simp only[aB,seval]
      refine(G2 nm [] (by simp) _).to ?_
      simp only[aG,cO,cR,cH,fU (cH _),fN (bM _),aB,seval,iV]
      exact⟨pW rfl,hD _⟩
     | true=>
      rw[aH (by simp [h4]),←hf2] at hP
      have h5:=mR h4
      rw[bX] at h5
      simp only[hwd,hwe,aB,seval]
      refine(RX (hR d1 (by omega)) (hok d1) hs f2 (by omega) (by omega) _ (c1:=41) (c2:=41)).mono ?_
      rintro r _ ⟨hr,rfl⟩
      cases hT:p9 (R d1) (sb s) 41 41 ((sb s).length+1) f2 [] with
      | none=>
       rw[hT] at hr hP
       subst hP
       obtain⟨k,hk,rfl⟩:=hr
       have hk0:((-1 - (k:Int))<0)=True:=bP (by omega)
       simp only[aG,hk0,aV,aB,seval,iV]
       exact⟨BR hk,hD _⟩
      | some p=>
       obtain⟨ts,e3⟩:=p
       rw[hT] at hr hP
       simp only[sY] at hr hP
       subst hr hP
       obtain⟨g1,g2,g3,g4,g5⟩:=JP (hok d1) _ _ _ _ _ (by rw[bX];omega) (by simp) hT
       rw[bX] at g2
       have he3:((e3:Int)<0)=False:=bB (by omega)
       have hw3:=bH (n:=(e3:Int)+1)
       simp only[aG,he3,hw3,a8,aB,seval,iV]
       exact⟨by rw[show(AV.agg [.int .i64 3,.int .i64 0,.str nm,.slice (ts.map Tm.av)])=(mT nm ts).av from (bY ..).symm];exact pW rfl,hD _⟩
theorem aUI{nm:ByteArray}(h:dB nm≠0):nm≠⟨#[]⟩:=by rintro rfl;exact h (by decide)
abbrev pZ:=zi aX (zi cG (zi cI cK))
set_option maxHeartbeats 2000000 in
theorem aNT{s:ByteArray}(hs:s.size≤1000):∀(n d a lv:Nat) (st:aA),a≤s.size→lv≤3→d≤1048576→(s.size - a)*4+lv<n →
 aD prog 129 [.str s,.int .i64 (a:Int),.int .i64 (d:Int),.int .i64 (lv:Int)] st (fun r st'=>kX (rd (sb s) n d a lv) r∧st'=st):=by
 intro n
 induction n with
 | zero=>intro d a lv st _ _ _ h;omega
 | succ n IH=>
 intro d a lv st ha hlv hd hn
 have hl1:(sb s).length≤1000:=by rw[bX];exact hs
 refine aD.L3 ?_
 refine wF [1000000,10] 4 func129 ntmps129 rfl rfl ?_
 intro _
 generalize hP:rd (sb s) (n+1) d a lv=o
 simp only[aB,seval,pZ]
 intro b hb
 have hD:=fun(o:AO)=>(aJ.refl st).aC (o:=o) hb
 cases lv with
 | zero=>
  simp only[rd] at hP
  have h0:(((0:Nat):Int)=0)=True:=bP rfl
  simp only[aV,aB,↓a9,seval]
  refine(aNS (R:=fun d a=>rd (sb s) n d a 3) (a:=a) (fun d hd a' st' h1 h2=>IH d a' 3 st' h2 (by omega) hd (by omega)) (fun d=>yC hl1 n d 3) hs ha d hd _).mono ?_
  rintro r _ ⟨hr,rfl⟩
  rw[hP] at hr
  cases o with
  | none=>
   obtain⟨k,hk,rfl⟩:=hr
   simp only[aG,cO,cR,cH,fU (cH _),fN (bM _),kA,aB,seval,pZ]
   exact⟨v5 hk,hD _⟩
  | some p=>
   obtain⟨t,e⟩:=p
   simp only[kX] at hr
   subst hr
   simp only[aG,cO,cR,cH,fU (cH _),fN (bM _),aB,seval,pZ]
   exact⟨pW rfl,hD _⟩
 | succ lv=>
  simp only[rd] at hP
  have h0:(((lv+1:Nat):Int)=0)=False:=bB (by omega)
  obtain⟨lw,hlw⟩:∃lw,lw=lv+1:=⟨_,rfl⟩
  rw[←hlw] at hP h0 ⊢
  have hwl:=iX (x:=(lw:Int) - 1) (m:=lv) (by omega) (by omega)
  simp only[h0,hwl,a8,aB,seval]
  refine(IH d a lv _ ha (by omega) hd (by omega)).mono ?_
  rintro r _ ⟨hr,rfl⟩
  cases hRi:rd (sb s) n d a lv with
  | none=>
   rw[hRi] at hr hP
   simp only at hP
   subst hP
   obtain⟨k,hk,rfl⟩:=hr
   have hk0:((0:Int)≤(-1 - (k:Int)))=False:=bB (by omega)
   simp only[aG,cO,cH,kA,aB,↓a9,seval,pZ]
   intro b10 h10
   have hbb:b10≠b:=fun h=>by rw[h,aA.aK] at h10;cases h10
   have MP:st b10=none:=by rwa [aA.aO _ _ hbb] at h10
   refine gW (σ:=Unit) [1000000,10] [0,2,3,8,10] (fun _=>True) (fun _=>[(9,.int .i64 0),(11,.int .i64 (-1 - (k:Int)))]) (fun _=>(st.aC b (.cells [.int .i64 0,.int .i64 0,.str ⟨#[]⟩,.fslice []])).aC b10 (.cells FP.av.cells)) (fun _=>0) (by decide +kernel) ⟨(),trivial,aP.mk (by simp only[aB,seval])⟩ ?_
   rintro _ _
   simp only[aG,hk0,hbb.symm,a8,aB,seval,pZ]
   exact⟨BR hk,((hD _).aC MP).aC hb⟩
  | some p=>
   obtain⟨t,e⟩:=p
   rw[hRi] at hr hP
   simp only[kX] at hr hP
   subst hr
   obtain⟨g1,g2,g3⟩:=yC hl1 n d lv a t e (by rw[bX];exact ha) hRi
   rw[bX] at g2 hP
   simp only[aG,cO,cH,aB,↓a9,seval,pZ]
   intro b10 h10
   have hbb:b10≠b:=fun h=>by rw[h,aA.aK] at h10;cases h10
   have MP:st b10=none:=by rwa [aA.aO _ _ hbb] at h10
   have hE:∀o1 o2 o3,aJ (((st.aC b o1).aC b10 o2).aC b o3) st:=fun o1 o2 o3=>((hD _).aC MP).aC hb
   refine gW (σ:=Tm×Nat×Nat) [1000000,10] [0,2,3,8,10] (fun x=>BL (fun a=>rd (sb s) n d a lv) (sb s) lw x.2.2 x.1 x.2.1=o∧a<x.2.1∧x.2.1≤s.size∧s.size<x.2.2+x.2.1) (fun x=>[(9,.int .i64 0),(11,.int .i64 (x.2.1:Int))]) (fun x=>(st.aC b (.cells [.int .i64 0,.int .i64 0,.str ⟨#[]⟩,.fslice []])).aC b10 (.cells x.1.av.cells)) (fun x=>x.2.2) (by decide +kernel) ⟨(t,e,s.size+1),⟨hP,g1,g2,by simp only;omega⟩,aP.mk (by simp only[aB,seval])⟩ ?_
   rintro⟨t,e,m⟩ ⟨ht,hae,hes,hm⟩
   simp only at ht hae hes hm ⊢
   obtain⟨m,rfl⟩:∃m',m=m'+1:=⟨m - 1,by omega⟩
   simp only[BL] at ht
   have he0:((0:Int)≤(e:Int))=True:=bP (by omega)
   simp only[he0,aV,aB,seval]
   refine(aNQ s hs e hes _).to ?_
   cases hop:oW (sb s) e with
   | none=>
    rw[hop] at ht
    simp only at ht
    subst ht
    simp only[aG,cO,cR,cH,fU (cH _),fN (bM _),NL,hbb.symm,aV,aB,seval,pZ]
    exact⟨pW rfl,hE _ _ _⟩
   | some p=>
    obtain⟨nm,e1⟩:=p
    rw[hop] at ht
    simp only at ht
    obtain⟨k1,k2,k3⟩:=aF9 hop
    rw[bX] at k2
    have hnm:=bB (aUI k3)
    simp only[NL,hnm,a8,aB,seval]
    refine(tO nm _).to ?_
    by_cases aEW:dB nm=lw
    case neg=>
     rw[aN aEW] at ht
     subst ht
     have hne:((dB nm:Int)=(lw:Int))=False:=bB (by omega)
     simp only[aG,cO,cR,cH,fU (cH _),fN (bM _),hne,hbb.symm,a8,aB,seval,pZ]
     exact⟨pW rfl,hE _ _ _⟩
    rw[aH (by simpa using aEW)] at ht
    have hne:((dB nm:Int)=(lw:Int))=True:=bP (by omega)
    simp only[hne,hwl,aV,aB,seval]
    refine(IH d e1 lv _ k2 (by omega) hd (by omega)).mono ?_
    rintro r _ ⟨hr,rfl⟩
    cases hRj:rd (sb s) n d e1 lv with
    | none=>
     rw[hRj] at hr ht
     simp only at ht
     subst ht
     obtain⟨k,hk,rfl⟩:=hr
     have hk0:((-1 - (k:Int))<0)=True:=bP (by omega)
     simp only[aG,aQ,cO,cR,hk0,kA,hbb.symm,aV,aB,↓a9,seval,pZ]
     exact⟨BR hk,hE _ _ _⟩
    | some p=>
     obtain⟨t2,e2⟩:=p
     rw[hRj] at hr ht
     simp only[kX] at hr ht
     subst hr
     obtain⟨q1,q2,q3⟩:=yC hl1 n d lv e1 t2 e2 (by rw[bX];exact k2) hRj
     rw[bX] at q2
     have he2:((e2:Int)<0)=False:=bB (by omega)
     simp only[bM,aQ,cO,cR,cH,fU (cH _),fN (bM _),he2,a8,aB,↓a9,seval,pZ]
     refine(G2 nm [t,t2] (by simp) _).to ?_
     by_cases h3:lw=3
     · rw[aN h3] at ht
       subst ht
       have h3':((lw:Int)=3)=True:=bP (by omega)
       simp only[aG,cO,cR,cH,fU (cH _),fN (bM _),h3',hbb.symm,aV,aB,seval,pZ]
       exact⟨pW rfl,hE _ _ _⟩
     · rw[aH h3] at ht
       have h3':((lw:Int)=3)=False:=bB (by omega)
       simp only[aG,cO,cH,h3',a8,aB,seval,pZ]
       exact⟨(mT nm [t,t2],e2,m),by simp only;omega,⟨ht,by simp only;omega,q2,by simp only;omega⟩,aP.mk (by simp only[aB,seval])⟩
end Go.AW
namespace Go.AW
def jP:Nat→Nat→ByteArray→ByteArray
 | 0,_,acc=>acc
 | f+1,n,acc=>if 9<n then jP f (n / 10) (⟨#[UInt8.ofNat (48+n % 10)]⟩++acc) else⟨#[UInt8.ofNat (48+n)]⟩++acc
def tR(n:Int):ByteArray:=if n<0 then⟨#[45]⟩++jP 20 (-n).toNat ⟨#[]⟩ else jP 20 n.toNat ⟨#[]⟩
def sF(n:Int):ByteArray:=⟨#[UInt8.ofNat (65+n.toNat)]⟩
def pU(t:Tm):Bool:=decide (t.k=3)&&(decide (t.s=⟨#[46]⟩)&&decide (t.ts.length=2))
def IB(t:Tm):Bool:=decide (t.k=3)&&(decide (t.s=⟨#[91,93]⟩)&&decide (t.ts.length=0))
def sC(t:Tm):Bool:=decide (t.k=3)&&(decide (t.ts.length=2)&&decide (0<dB t.s))
def BW(t:Tm):Bool:=decide (t.k=3)&&(decide (t.ts.length=0)&&decide (0<dB t.s))
def GT(t:Tm):Bool:=decide (t.k=3)&&decide (0<t.ts.length)
def lT(t:Tm)(i:Nat):Tm:=t.ts.getD i aX6
 where aX6:Tm:=.mk 0 0 ⟨#[]⟩ []
def jN(T:Tm→ByteArray):List Tm→ByteArray
 | []=>⟨#[]⟩
 | x::xs=>xs.foldl (fun o y=>(o++⟨#[44]⟩)++T y) (⟨#[]⟩++T x)
def spine:Nat→Tm→List Tm×Tm
 | 0,t=>([],t)
 | n+1,t=>if pU t then(lT t 0::(spine n (lT t 1)).1,(spine n (lT t 1)).2) else([],t)
def n5(nm:ByteArray):ByteArray:=if gG nm then(⟨#[32]⟩++nm)++⟨#[32]⟩ else nm
def IK(l:List UInt8):Bool:=eK l 0 kC||(eK l 0 cV||(eK l 0 rH||(cA l 0 91||cA l 0 40)))
def pK(T:Tm→ByteArray)(t:Tm)(lv:Nat):ByteArray:=if sC t&&decide (lv<dB t.s) then(⟨#[40]⟩++T t)++⟨#[41]⟩ else T t
def vT(T:Tm→ByteArray)(t:Tm)(lv:Nat):ByteArray:=if BW t then(⟨#[40]⟩++T t)++⟨#[41]⟩ else pK T t lv
def v6(T:Tm→ByteArray)(t:Tm)(lv:Nat):ByteArray:=if BW t|| !IK (sb (pK T t lv)) then(⟨#[40]⟩++pK T t lv)++⟨#[41]⟩ else pK T t lv
def BA(T:Tm→ByteArray)(p:List Tm×Tm):ByteArray:=if IB p.2 then(⟨#[91]⟩++jN T p.1)++⟨#[93]⟩ else(((⟨#[91]⟩++jN T p.1)++⟨#[124]⟩)++T p.2)++⟨#[93]⟩
def xT(t:Tm):ByteArray:=if t.k=1 then sF t.n else if t.k=2 then tR t.n else t.s
def lvl(n:Nat):Nat:=if n=3 then 2 else n
def tx:Nat→Tm→ByteArray
 | 0,_=>⟨#[]⟩
 | n+1,t=>if pU t then BA (tx n) (spine n t) else if sC t then(vT (tx n) (lT t 0) (lvl (dB t.s))++n5 t.s)++v6 (tx n) (lT t 1) (dB t.s - 1)
  else if GT t then((t.s++⟨#[40]⟩)++jN (tx n) t.ts)++⟨#[41]⟩ else xT t
theorem aK4{T:Tm→ByteArray}{l:List Tm}{i:Nat}{x:Tm}(hx:l[i]?=some x):jN T (l.take (i+1))=(if 0<i then jN T (l.take i)++⟨#[44]⟩ else jN T (l.take i))++T x:=by
 rw[eD,hx]
 cases l with
 | nil=>simp at hx
 | cons y l=>
  cases i with
  | zero=>simp at hx;subst hx;rfl
  | succ i=>
   rw[aN (by omega),sV]
   simp only[jN,KF,gO,GA,sU,List.foldl_nil]
theorem cC(a b:ByteArray):(a++b).size=a.size+b.size:=ByteArray.size_append
theorem HF:∀(f n:Nat) (acc:ByteArray),(jP f n acc).size≤f+acc.size
 | 0,n,acc=>by simp [jP]
 | f+1,n,acc=>by
  unfold jP
  split
  · refine lL (HF f _ _) ?_
    rw[cC]
    show f+(1+acc.size)≤_
    omega
  · rw[cC]
    show 1+acc.size≤_
    omega
abbrev Ws (t:Tm):Prop:=∃d,t.shape d=true
theorem Ws.own{k n:Int}{s:ByteArray}{ts:List Tm}(h:Ws (.mk k n s ts)):iT k n s ts.length=true∧∀x∈ts,Ws x:=by
 obtain⟨d,h⟩:=h
 rw[Tm.BU,bG,bG,dD] at h
 exact⟨h.1.2,fun x hx=>⟨_,h.2 x hx⟩⟩
theorem yA{k n:Int}{s:ByteArray}{len:Int}(h:iT k n s len=true):(k=1∧0≤n∧n≤25∧s=⟨#[]⟩∧len=0)∨(k=2∧-999≤n∧n≤999∧s=⟨#[]⟩∧len=0)∨(k=3∧n=0∧vV s=true∧len≤4):=by
 unfold iT at h
 by_cases h1:k=1
 · rw[d6 h1] at h
   simp only[cond_true,bG,bK] at h
   exact Or.inl ⟨h1,h.1.1.1,h.1.1.2,h.1.2,h.2⟩
 rw[eH h1] at h
 by_cases h2:k=2
 · rw[d6 h2] at h
   simp only[cond_true,cond_false,bG,bK] at h
   exact Or.inr (Or.inl ⟨h2,h.1.1.1,h.1.1.2,h.1.2,h.2⟩)
 rw[eH h2] at h
 by_cases h3:k=3
 · rw[d6 h3] at h
   simp only[cond_true,cond_false,bG,bK] at h
   exact Or.inr (Or.inr ⟨h3,h.1.1,h.1.2,h.2⟩)
 · rw[eH h3] at h
   cases h
theorem aFR{s:ByteArray}(h:vV s=true):1≤s.size∧s.size≤6:=by
 unfold vV at h
 rw[kV] at h
 rcases h with h | h
 · simp only[vU,bG,bK] at h
   omega
 · rw[List.any_eq_true] at h
   obtain⟨x,hx,h⟩:=h
   rw[bK] at h
   subst h
   revert hx
   revert s
   decide
theorem Ws.size{t:Tm}(h:Ws t):t.s.size≤6∧(t.k=3→1≤t.s.size):=by
 obtain⟨k,n,s,ts⟩:=t
 rcases yA h.own.1 with h | h | h
 · rw[show(Tm.mk k n s ts).s=s from rfl,h.2.2.2.1];exact⟨by decide,fun h3=>by have:k=3:=h3;omega⟩
 · rw[show(Tm.mk k n s ts).s=s from rfl,h.2.2.2.1];exact⟨by decide,fun h3=>by have:k=3:=h3;omega⟩
 · have:=aFR h.2.2.1;exact⟨this.2,fun _=>this.1⟩
theorem pT(t:Tm):1≤t.nodes:=by obtain⟨k,n,s,ts⟩:=t;rw[Tm.gT];omega
theorem aFN{x:Tm}{l:List Tm}(h:x∈l):x.nodes≤bU Tm.nodes l:=by
 induction l with
 | nil=>cases h
 | cons y l ih=>
  simp only[bU]
  rcases cT.1 h with rfl | h
  · omega
  · have:=ih h;omega
theorem aHK:∀(l:List Tm) (i:Nat),bU Tm.nodes (l.take i)≤bU Tm.nodes l
 | [],i=>by simp
 | x::l,0=>by simp [bU]
 | x::l,i+1=>by simp only[sV,bU];have:=aHK l i;omega
theorem DO{T:Tm→ByteArray}{l:List Tm}(h:∀x∈l,(T x).size≤32*x.nodes):(jN T l).size≤32*bU Tm.nodes l+l.length:=by
 have hg:∀(xs:List Tm) (o:ByteArray),(∀x∈xs,(T x).size≤32*x.nodes)→(xs.foldl (fun o y=>(o++⟨#[44]⟩)++T y) o).size≤o.size+32*bU Tm.nodes xs+xs.length:=by
  intro xs
  induction xs with
  | nil=>intro o _;simp [bU]
  | cons x xs ih=>
   intro o hx
   refine lL (ih _ fun y hy=>hx y (by simp [hy])) ?_
   rw[cC,cC]
   have:=hx x (by simp)
   simp only[bU,aY]
   show o.size+1+_+_+_≤_
   omega
 cases l with
 | nil=>exact f9 _
 | cons x l=>
  refine lL (hg l _ fun y hy=>h y (by simp [hy])) ?_
  rw[cC]
  have:=h x (by simp)
  simp only[bU,aY]
  show 0+_+_+_≤_
  omega
theorem BN{t:Tm}(h:pU t=true):∃n x y,t=.mk 3 n ⟨#[46]⟩ [x,y]:=by
 obtain⟨k,n,s,ts⟩:=t
 simp only[pU,bG,bK] at h
 simp only[Tm.k,Tm.s,Tm.ts] at h
 obtain⟨rfl,rfl,h3⟩:=h
 match ts,h3 with
 | [x,y],_=>exact⟨n,x,y,rfl⟩
theorem A8{k n:Int}{s:ByteArray}{x y:Tm}:lT (.mk k n s [x,y]) 0=x∧lT (.mk k n s [x,y]) 1=y:=⟨rfl,rfl⟩
theorem IX:∀(n:Nat) (t:Tm),Ws t→(∀x∈(spine n t).1,Ws x)∧Ws (spine n t).2∧bU Tm.nodes (spine n t).1+(spine n t).1.length+(spine n t).2.nodes=t.nodes
 | 0,t,h=>⟨by simp [spine],h,by simp [spine,bU]⟩
 | n+1,t,h=>by
  unfold spine
  split
  · rename_i hp
    obtain⟨m,x,y,rfl⟩:=BN hp
    have hk:=h.own.2
    obtain⟨h1,h2,h3⟩:=IX n y (hk y (by simp))
    simp only[A8]
    refine⟨fun z hz=>?_,h2,?_⟩
    · rcases cT.1 hz with rfl | hz
      · exact hk z (by simp)
      · exact h1 z hz
    · simp only[bU,aY,Tm.gT]
      omega
  · exact⟨by simp,h,by simp [bU]⟩
theorem ND{t:Tm}(h:sC t=true):∃n s x y,t=.mk 3 n s [x,y]∧0<dB s:=by
 obtain⟨k,n,s,ts⟩:=t
 simp only[sC,bG,bK] at h
 simp only[Tm.k,Tm.s,Tm.ts] at h
 obtain⟨rfl,h2,h3⟩:=h
 match ts,h2 with
 | [x,y],_=>exact⟨n,s,x,y,rfl,h3⟩
theorem K0{T:Tm→ByteArray}{t:Tm}(lv:Nat):(T t).size≤(pK T t lv).size∧(pK T t lv).size≤(T t).size+2:=by
 unfold pK
 split
 · rw[cC,cC];show _≤1+_+1∧1+_+1≤_;omega
 · omega
theorem aUE{T:Tm→ByteArray}{t:Tm}(lv:Nat):(T t).size≤(vT T t lv).size∧(vT T t lv).size≤(T t).size+2:=by
 unfold vT
 split
 · rw[cC,cC];show _≤1+_+1∧1+_+1≤_;omega
 · exact K0 lv
theorem aWN{T:Tm→ByteArray}{t:Tm}(lv:Nat):(T t).size≤(v6 T t lv).size∧(v6 T t lv).size≤(T t).size+4:=by
 have:=K0 (T:=T) (t:=t) lv
 unfold v6
 split
 · rw[cC,cC];show _≤1+_+1∧1+_+1≤_;omega
 · omega
theorem wI:∀(n:Nat) (t:Tm),Ws t→(tx n t).size≤32*t.nodes
 | 0,t,_=>f9 _
 | n+1,t,h=>by
  have hT:=wI n
  unfold tx
  split
  · rename_i hp
    obtain⟨h1,h2,h3⟩:=IX n t h
    have ha:=DO (T:=tx n) (l:=(spine n t).1) fun x hx=>hT x (h1 x hx)
    have hb:=hT _ h2
    have hq:=pT (spine n t).2
    have hl:1≤(spine n t).1.length∨n=0:=by
     cases n with
     | zero=>exact Or.inr rfl
     | succ m=>left;unfold spine;rw[aN hp];simp
    have h4:3≤t.nodes:=by obtain⟨m,x,y,rfl⟩:=BN hp;simp only[Tm.gT,bU];have:=pT x;have:=pT y;omega
    have hb2:1≤(spine n t).1.length∨((tx n (spine n t).2).size=0∧(jN (tx n) (spine n t).1).size=0):=by
     rcases hl with hl | rfl
     · left;omega
     · right;exact⟨rfl,rfl⟩
    unfold BA
    split
    · rw[cC,cC];show 1+_+1≤_;omega
    · rw[cC,cC,cC,cC];show 1+_+1+_+1≤_;omega
  split
  · rename_i hp
    obtain⟨m,s,x,y,rfl,hs⟩:=ND hp
    have hk:=h.own.2
    have h6:=h.size.1
    simp only[A8,Tm.gT,bU,Tm.s]
    have hx:=hT x (hk x (by simp))
    have hy:=hT y (hk y (by simp))
    have hl:=(aUE (T:=tx n) (t:=x) (lvl (dB s))).2
    have hr:=(aWN (T:=tx n) (t:=y) (dB s - 1)).2
    rw[cC,cC]
    have hsp:(n5 s).size≤8:=by
     have h6:s.size≤6:=h6
     unfold n5
     split
     · rw[cC,cC];show 1+_+1≤_;omega
     · omega
    show _+(n5 s).size+_≤_
    omega
  split
  · obtain⟨k,m,s,ts⟩:=t
    have ha:=DO (T:=tx n) (l:=ts) fun x hx=>hT x (h.own.2 x hx)
    have h6:s.size≤6:=h.size.1
    have h4:ts.length≤4:=by rcases yA h.own.1 with h | h | h<;>omega
    rw[cC,cC,cC,Tm.gT]
    simp only[Tm.s,Tm.ts]
    show s.size+1+_+1≤_
    omega
  · have h6:=h.size.1
    have hp:=pT t
    unfold xT
    split
    · show 1≤_;omega
    · split
      · unfold tR
        split
        · rw[cC];have:=HF 20 (-t.n).toNat ⟨#[]⟩;have h0:(⟨#[]⟩:ByteArray).size=0:=rfl;show 1+_≤_;omega
        · have:=HF 20 t.n.toNat ⟨#[]⟩;have h0:(⟨#[]⟩:ByteArray).size=0:=rfl;omega
      · omega
def uP:Nat→Tm→Tm
 | 0,t=>t
 | i+1,t=>uP i (lT t 1)
theorem aHA:∀(i:Nat) (t:Tm),uP (i+1) t=lT (uP i t) 1
 | 0,t=>rfl
 | i+1,t=>by rw[uP,aHA i];try rfl
theorem aHB:∀(n:Nat) (t:Tm) (i:Nat) (x:Tm),(spine n t).1[i]?=some x→pU (uP i t)=true∧lT (uP i t) 0=x
 | 0,t,i,x,h=>by simp [spine] at h
 | n+1,t,i,x,h=>by
  unfold spine at h
  split at h
  · rename_i hp
    cases i with
    | zero=>simp at h;exact⟨hp,h⟩
    | succ i=>exact aHB n _ i x (by simpa using h)
  · simp at h
theorem aHC:∀(n:Nat) (t:Tm),t.nodes≤n+1→(spine n t).2=uP (spine n t).1.length t∧pU (spine n t).2=false
 | 0,t,h=>by
  refine⟨rfl,?_⟩
  cases hp:pU t with
  | false=>exact hp
  | true=>obtain⟨m,x,y,rfl⟩:=BN hp;simp only[Tm.gT,bU] at h;have:=pT x;omega
 | n+1,t,h=>by
  unfold spine
  split
  · rename_i hp
    obtain⟨m,x,y,rfl⟩:=BN hp
    simp only[Tm.gT,bU] at h
    have:=pT x
    have:=aHC n y (by omega)
    exact⟨this.1,this.2⟩
  · rename_i hp
    exact⟨rfl,by simpa using hp⟩
theorem PE{n:Nat}{t:Tm}(h:Ws t)(hn:1≤n):1≤(tx n t).size:=by
 obtain⟨n,rfl⟩:∃m,n=m+1:=⟨n - 1,by omega⟩
 unfold tx
 split
 · unfold BA
   split
   · rw[cC,cC];show 1≤1+_+1;omega
   · rw[cC];show 1≤_+1;omega
 split
 · rename_i hp
   obtain⟨m,s,x,y,rfl,hs⟩:=ND hp
   have h6:1≤s.size:=h.size.2 rfl
   rw[cC,cC]
   have:1≤(n5 s).size:=by
    unfold n5
    split
    · rw[cC,cC];omega
    · exact h6
   show 1≤_+(n5 s).size+_
   omega
 split
 · rw[cC];show 1≤_+1;omega
 · obtain⟨k,m,s,ts⟩:=t
   rw[show xT (.mk k m s ts)=if k=1 then sF m else if k=2 then tR m else s from rfl]
   rcases yA h.own.1 with h1 | h1 | h1
   · rw[aN h1.1];exact c6 _
   · rw[aH (by omega),aN h1.1]
     unfold tR
     split
     · rw[cC];show 1≤1+_;omega
     · have hf:∀f n acc,1≤(jP (f+1) n acc).size:=by
        intro f
        induction f with
        | zero=>
         intro n acc;unfold jP;split
         · simp only[jP];rw[cC];show 1≤1+_;omega
         · rw[cC];show 1≤1+_;omega
        | succ f ih=>
         intro n acc;unfold jP;split
         · exact ih _ _
         · rw[cC];show 1≤1+_;omega
       exact hf 19 _ _
   · rw[aH (by omega),aH (by omega)];exact(aFR h1.2.2.1).1
end Go.AW
namespace Go.AW
open Go.Proofs.Tryz
theorem aGC{k n:Int}{s:ByteArray}{ts:List Tm}:pU (.mk k n s ts)=(decide (k=3)&&(decide (s=⟨#[46]⟩)&&decide (ts.length=2))):=rfl
theorem aU1{k n:Int}{s:ByteArray}{ts:List Tm}:IB (.mk k n s ts)=(decide (k=3)&&(decide (s=⟨#[91,93]⟩)&&decide (ts.length=0))):=rfl
theorem aT1{k n:Int}{s:ByteArray}{ts:List Tm}:sC (.mk k n s ts)=(decide (k=3)&&(decide (ts.length=2)&&decide (0<dB s))):=rfl
theorem KU{k n:Int}{s:ByteArray}{ts:List Tm}:GT (.mk k n s ts)=(decide (k=3)&&decide (0<ts.length)):=rfl
theorem aW8{k n:Int}{s:ByteArray}{ts:List Tm}:BW (.mk k n s ts)=(decide (k=3)&&(decide (ts.length=0)&&decide (0<dB s))):=rfl
abbrev OS:=zi aX (zi cD (zi cG (zi cI cK)))
theorem G1(t:Tm)(st:aA):aD prog 229 [t.av] st (fun r st'=>r=.bool (pU t)∧st'=st):=by
 obtain⟨k,n,s,ts⟩:=t
 rw[aGC]
 refine wF [1000000] 1 func229 ntmps229 rfl rfl ?_
 intro _
 simp only[bY]
 by_cases h1:k=3
 case neg=>
  rw[eH h1,eT]
  simp only[h1,a8,aB,seval,OS]
 rw[d6 h1,dH]
 by_cases h2:s=⟨#[46]⟩
 case neg=>
  rw[eH h2,eT]
  simp only[h1,h2,aV,a8,aB,seval,OS]
 rw[d6 h2,dH]
 have h3:decide (((ts.length:Nat):Int)=2)=decide (ts.length=2):=by rw[r5];omega
 simp only[h1,h2,h3,aV,aE,aB,seval,OS]
abbrev OU:=zi aX (zi cD (zi cG (zi cI cK)))
theorem aNE(t:Tm)(st:aA):aD prog 246 [t.av] st (fun r st'=>r=.bool (IB t)∧st'=st):=by
 obtain⟨k,n,s,ts⟩:=t
 rw[aU1]
 refine wF [1000000] 1 func246 ntmps246 rfl rfl ?_
 intro _
 simp only[bY]
 by_cases h1:k=3
 case neg=>
  rw[eH h1,eT]
  simp only[h1,a8,aB,seval,OU]
 rw[d6 h1,dH]
 by_cases h2:s=⟨#[91,93]⟩
 case neg=>
  rw[eH h2,eT]
  simp only[h1,h2,aV,a8,aB,seval,OU]
 rw[d6 h2,dH]
 have h3:decide (((ts.length:Nat):Int)=0)=decide (ts.length=0):=by rw[r5];omega
 simp only[h1,h2,h3,aV,aE,aB,seval,OU]
abbrev OT:=zi aX (zi cD (zi cG (zi cI cK)))
theorem RV(t:Tm)(st:aA):aD prog 231 [t.av] st (fun r st'=>r=.bool (sC t)∧st'=st):=by
 obtain⟨k,n,s,ts⟩:=t
 rw[aT1]
 refine wF [1000000] 1 func231 ntmps231 rfl rfl ?_
 intro _
 simp only[bY]
 by_cases h1:k=3
 case neg=>
  rw[eH h1,eT]
  simp only[h1,a8,aB,seval,OT]
 rw[d6 h1,dH]
 by_cases h2:ts.length=2
 case neg=>
  rw[eH h2,eT]
  have h2':(((ts.length:Nat):Int)=2)=False:=bB (by omega)
  simp only[h1,h2',aV,a8,aE,aB,seval,OT]
 rw[d6 h2,dH]
 have h2':(((ts.length:Nat):Int)=2)=True:=bP (by omega)
 simp only[h1,h2',aV,aE,aB,seval,OT]
 refine(tO s _).to ?_
 have h3:decide ((0:Int)<(dB s:Int))=decide (0<dB s):=by rw[r5];omega
 simp only[h3,aB,seval]
abbrev OV:=zi aX (zi cD (zi cG (zi cI cK)))
theorem RW(t:Tm)(st:aA):aD prog 247 [t.av] st (fun r st'=>r=.bool (BW t)∧st'=st):=by
 obtain⟨k,n,s,ts⟩:=t
 rw[aW8]
 refine wF [1000000] 1 func247 ntmps247 rfl rfl ?_
 intro _
 simp only[bY]
 by_cases h1:k=3
 case neg=>
  rw[eH h1,eT]
  simp only[h1,a8,aB,seval,OV]
 rw[d6 h1,dH]
 by_cases h2:ts.length=0
 case neg=>
  rw[eH h2,eT]
  have h2':(((ts.length:Nat):Int)=0)=False:=bB (by omega)
  simp only[h1,h2',aV,a8,aE,aB,seval,OV]
 rw[d6 h2,dH]
 have h2':(((ts.length:Nat):Int)=0)=True:=bP (by omega)
 simp only[h1,h2',aV,aE,aB,seval,OV]
 refine(tO s _).to ?_
 have h3:decide ((0:Int)<(dB s:Int))=decide (0<dB s):=by rw[r5];omega
 simp only[h3,aB,seval]
theorem aNV(s:ByteArray)(hs:s.size≤1000)(st:aA):aD prog 233 [.str s] st (fun r st'=>r=.str (n5 s)∧st'=st):=by
 refine wF [1000000] 1 func233 ntmps233 rfl rfl ?_
 intro _
 have hm:maxLen=9223372036854775807:=by rfl
 have g1:(⟨#[32]⟩:ByteArray).size+s.size≤maxLen:=by show 1+s.size≤_;omega
 have g2:((⟨#[32]⟩:ByteArray)++s).size+(⟨#[32]⟩:ByteArray).size≤maxLen:=by rw[cC];show 1+s.size+1≤_;omega
 by_cases h1:s=⟨#[105,115]⟩
 · have hW:gG s=true:=by unfold gG;rw[d6 h1];try rfl
   unfold n5
   rw[aN hW]
   have h1':=bP h1
   simp only[h1',g1,g2,↓reduceIte,aV,aB,seval]
 · have h1':=bB h1
   by_cases h2:s=⟨#[109,111,100]⟩
   · have hW:gG s=true:=by unfold gG;rw[d6 h2];exact CQ _
     unfold n5
     rw[aN hW]
     have h2':=bP h2
     simp only[h1',h2',g1,g2,↓reduceIte,aV,a8,aB,seval]
   · have hW:gG s=false:=by unfold gG;rw[eH h1,eH h2];try rfl
     unfold n5
     rw[aH (by rw[hW];decide)]
     have h2':=bB h2
     simp only[h1',h2',a8,aB,seval]
theorem aNR(s:ByteArray)(hs:1≤s.size)(st:aA):aD prog 249 [.str s] st (fun r st'=>r=.bool (IK (sb s))∧st'=st):=by
 refine wF [1000000] 1 func249 ntmps249 rfl rfl ?_
 intro _
 obtain⟨x,hx⟩:=tM (s:=s) (n:=0) (by omega)
 have hix:=pS (P:=prog) (t:=9) oA hx
 rw[show((0:Nat):Int)=0 from rfl] at hix
 unfold IK
 simp only[uG hx,qV hx]
 simp only[aB,seval]
 refine(aFQ s 0 _).to ?_
 rw[uG hx]
 cases h1:kC x with
 | true=>
  simp only[aB,seval]
  simp
 | false=>
  simp only[aB,seval]
  refine(xW s 0 _).to ?_
  rw[uG hx]
  cases h2:cV x with
  | true=>
   simp only[aB,seval]
   simp
  | false=>
   by_cases h3:65≤x.toNat
   case' pos=>have h3':((65:Int)≤(x.toNat:Int))=True:=bP (by omega)
   case' neg=>have h3':((65:Int)≤(x.toNat:Int))=False:=bB (by omega)
   all_goals
    by_cases h4:x.toNat≤90
    case' pos=>have h4':((x.toNat:Int)≤90)=True:=bP (by omega)
    case' neg=>have h4':((x.toNat:Int)≤90)=False:=bB (by omega)
   all_goals
    by_cases h5:x.toNat=91
    case' pos=>have h5':((x.toNat:Int)=91)=True:=bP (by omega)
    case' neg=>have h5':((x.toNat:Int)=91)=False:=bB (by omega)
   all_goals
    by_cases h6:x.toNat=40
    case' pos=>have h6':((x.toNat:Int)=40)=True:=bP (by omega)
    case' neg=>have h6':((x.toNat:Int)=40)=False:=bB (by omega)
   all_goals try (exfalso;omega)
   all_goals
    simp only[hix,h3',h4',h5',h6',aV,a8,aB,seval]
    simp [rH,h3,h4,h5,h6]
theorem K7(n:Nat):bytesOf [AV.int .u8 ((n:Nat):Int)]=some [UInt8.ofNat n]:=by simp only[bytesOf,fV,nC]
theorem JZ{x:Int}{m:Nat}(h:x=(m:Int))(hm:m≤255):IntKind.wrap .u8 x=(m:Int):=by rw[IntKind.wrap_u8];omega
abbrev aXZ:=zi aX (zi gE (zi cG f0))
theorem RM(m:Nat)(hm:m≤25)(st:aA):aD prog 250 [.int .i64 (m:Int)] st (fun r st'=>r=.str (sF m)∧st'=st):=by
 refine wF [1000000] 1 func250 ntmps250 rfl rfl ?_
 intro _
 have hw:=JZ (x:=(m:Int)) rfl (by omega)
 obtain⟨y,hy⟩:∃y,y=65+m:=⟨_,rfl⟩
 have hw2:=JZ (x:=65+(m:Int)) (m:=y) (by omega) (by omega)
 simp only[kJ,hw,hw2,K7,aB,seval,aXZ]
 subst hy
 rfl
abbrev aH9:=zi aX (zi gE (zi cG f0))
theorem LD(n:Nat)(hn:n≤1000000)(st:aA):aD prog 193 [.int .i64 (n:Int)] st (fun r st'=>r=.str (jP 20 n ⟨#[]⟩)∧st'=st):=by
 refine wF [1000000] 1 func193 ntmps193 rfl rfl ?_
 intro _
 have h1:((n:Int)< -9223372036854775807)=False:=bB (by omega)
 have h2:((n:Int)<0)=False:=bB (by omega)
 simp only[h1,h2,a8,aB,seval]
 generalize hT:jP 20 n ⟨#[]⟩=T
 refine gW (σ:=Nat×ByteArray×Nat) [1000000] [2] (fun x=>jP x.2.2 x.1 x.2.1=T∧x.1<10 ^ x.2.2∧x.1≤1000000∧1≤x.2.2∧x.2.1.size+x.2.2≤20) (fun x=>[(0,.int .i64 (x.1:Int)),(3,.str x.2.1)]) (fun _=>st) (fun x=>x.2.2) (by decide +kernel) ⟨(n,⟨#[]⟩,20),⟨hT,by simp only;omega,hn,by simp only;omega,by show 0+20≤20;omega⟩,aP.mk (by simp only[aB,seval])⟩ ?_
 rintro⟨k,acc,f⟩ ⟨hd,hk,hk6,hf,hb⟩
 simp only at hd hk hk6 hf hb ⊢
 obtain⟨f,rfl⟩:∃f',f=f'+1:=⟨f - 1,by omega⟩
 have hm:maxLen=9223372036854775807:=by rfl
 have hsz:∀u:UInt8,(⟨#[u]⟩:ByteArray).size+acc.size≤maxLen:=fun u=>by show 1+acc.size≤_;omega
 have hr:((k:Int)).tmod 10=((k % 10:Nat):Int):=by rw[Int.tmod_eq_emod_of_nonneg (by omega)];omega
 have hq:((k:Int)).tdiv 10=((k / 10:Nat):Int):=by rw[Int.tdiv_eq_ediv_of_nonneg (by omega)];omega
 simp only[aB,seval]
 refine bE (fun h3=>?_) (fun h3=>?_)
 · simp only[bK] at h3
   unfold jP at hd
   rw[aN (by omega)] at hd
   rw[Nat.pow_succ] at hk
   obtain⟨y,hy⟩:∃y,y=48+k % 10:=⟨_,rfl⟩
   obtain⟨q,hq'⟩:∃q,q=k / 10:=⟨_,rfl⟩
   obtain⟨r,hr'⟩:∃r,r=k % 10:=⟨_,rfl⟩
   rw[←hr'] at hr
   rw[←hq'] at hq
   have hwr:=bH (n:=(r:Int))
   have hw:=iX (x:=48+(r:Int)) (m:=y) (by omega) (by omega)
   have hw8:=JZ (x:=(y:Int)) (m:=y) rfl (by omega)
   have hw2:=bH (n:=(q:Int))
   simp only[kJ,hr,hq,hw,hw8,hw2,K7,hsz,aB,seval,aH9]
   refine⟨(q,⟨#[UInt8.ofNat y]⟩++acc,f),by simp only;omega,⟨by rw[hq',hy];exact hd,by simp only;omega,by simp only;omega,?_,?_⟩,aP.mk (by simp only[aB,seval]<;>rfl)⟩
   · show 1≤f
     rcases Nat.eq_zero_or_pos f with rfl | h
     · simp only[Nat.pow_zero] at hk;omega
     · exact h
   · show(⟨#[UInt8.ofNat y]⟩++acc:ByteArray).size+f≤20
     rw[cC]
     show 1+acc.size+f≤20
     omega
 · simp only[d5] at h3
   unfold jP at hd
   rw[aH (by omega)] at hd
   obtain⟨y,hy⟩:∃y,y=48+k:=⟨_,rfl⟩
   have hw:=iX (x:=48+(k:Int)) (m:=y) (by omega) (by omega)
   have hw8:=JZ (x:=(y:Int)) (m:=y) rfl (by omega)
   simp only[kJ,hw,hw8,K7,hsz,aB,seval,aH9]
   rw[←hd,hy]
theorem aNA(n:Int)(h1: -999≤n)(h2:n≤999)(st:aA):aD prog 152 [.int .i64 n] st (fun r st'=>r=.str (tR n)∧st'=st):=by
 refine wF [1000000] 1 func152 ntmps152 rfl rfl ?_
 intro _
 unfold tR
 have hm:maxLen=9223372036854775807:=by rfl
 by_cases h:n<0
 · rw[aN h]
   obtain⟨m,hm'⟩:∃m:Nat,m=(-n).toNat:=⟨_,rfl⟩
   rw[←hm']
   have h':=bP h
   have hw:=iX (x:=0 - n) (m:=m) (by omega) (by omega)
   have hw':=iX (x:= -n) (m:=m) (by omega) (by omega)
   have hs:(⟨#[45]⟩:ByteArray).size+(jP 20 m ⟨#[]⟩).size≤maxLen:=by have:=HF 20 m ⟨#[]⟩;have h0:(⟨#[]⟩:ByteArray).size=0:=rfl;show 1+_≤_;omega
   simp only[h',hw,↓reduceIte,aV,aB,seval]
   refine(LD m (by omega) _).to ?_
   simp only[hs,↓reduceIte,aB,seval]
 · rw[aH h]
   obtain⟨m,rfl⟩:=uY (show 0≤n by omega)
   have h':=bB h
   rw[fV]
   simp only[h',a8,aB,seval]
   refine(LD m (by omega) _).to ?_
   simp only[aB,seval]
abbrev FH:=zi aX (zi cG (zi cI cK))
theorem aNM(t:Tm)(ht:Ws t)(h0:t.k=3→t.ts= [])(st:aA):aD prog 235 [t.av] st (fun r st'=>r=.str (xT t)∧st'=st):=by
 obtain⟨k,n,s,ts⟩:=t
 have hp:=G1 (.mk k n s ts)
 simp only[bY] at hp ⊢
 rw[show xT (.mk k n s ts)=if k=1 then sF n else if k=2 then tR n else s from rfl]
 have h0:k=3→ts= []:=h0
 refine wF [1000000] 1 func235 ntmps235 rfl rfl ?_
 intro _
 rcases yA ht.own.1 with ⟨rfl,h1,h2,rfl,h4⟩ | ⟨rfl,h1,h2,rfl,h4⟩ | ⟨rfl,rfl,h2,h4⟩
 · obtain⟨m,rfl⟩:=uY h1
   simp only[aB,seval,FH]
   refine(RM m (by omega) _).to ?_
   simp only[aB,seval]
 · skip
   simp only[aB,seval,FH]
   refine(aNA n h1 h2 _).to ?_
   simp only[aB,seval]
 · obtain rfl:=h0 rfl
   simp only[bD,aB,seval,FH]
   refine(hp _).to ?_
   rw[show pU (.mk 3 0 s [])=false by rw[aGC];simp]
   simp only[aB,seval,FH]
   refine gW (σ:=Unit) [1000000] [1,2] (fun _=>True) (fun _=>[(3,.str s),(4,.int .i64 0)]) (fun _=>st) (fun _=>0) (by decide +kernel) ⟨(),trivial,aP.mk (by simp only[aB,seval])⟩ ?_
   rintro _ _
   simp only[aW,aB,seval,FH]
def Grown(st:aA)(l:List Int)(r:AV)(st':aA):Prop:=∃b',r=bQ 1 b' (l.map iv)∧st'=aU st b' (l.map iv)∧(l.map iv≠[]→st b'=none)
abbrev a0W:=zi aX (zi cI (zi kT cK))
abbrev FG:=zi aX (zi cI (zi kT cK))
theorem DU:∀(t:Tm) (l:List Int) (b:Nat) (st:aA),t.wf=true→(l.map iv≠[]→st b=none)→l.length+t.nodes≤1099511627776→aD prog 156 [bQ 1 b (l.map iv),t.av] (aU st b (l.map iv)) (Grown st (t.vars l))
 | .mk k n s ts,l,b,st,hwf,hb,hsz=>by
  obtain⟨hk,aTT⟩:=Tm.aJM hwf
  have IH:=fun(x:Tm) (hx:x∈ts) l b st=>DU x l b st (aTT x hx)
  have haL:=DM (w:=1) (b:=b) (l:=l.map iv) aI6
  simp only[Tm.vars]
  rw[Tm.gT] at hsz
  refine wF [] 2 func156 ntmps156 rfl rfl ?_
  simp only[bY,eF,AV.fits,eN,aE]
  intro ⟨_,⟨_,_,_,hl,_⟩⟩
  simp only[aB,seval,FG]
  refine bE (fun h=>?_) (fun h=>?_)
  · simp only[bK] at h
    obtain rfl:=hk h
    subst h
    simp only[aB,seval]
    have hnn:l.length≤1099511627776:=by omega
    refine d7 (σ:=Unit) [] [0,3] l (fun i _=>∀y∈l.take i,y≠n) (fun i _=>[(5,.int .i64 i)]) (fun _ _=>aU st b (l.map iv)) (by decide +kernel) ⟨(),by simp,aP.mk (by simp only[aB,↓a9,seval])⟩ (fun i x _ hx hlt bN hdr hinv=>?_) (fun _ hge hinv=>?_)
    case refine_2=>
     rw[dR] at hinv
     have fP:n∉l:=fun h=>hinv n h rfl
     simp only[haL,aE,hge,aB,seval,FG]
     refine eE pO L6 MA rfl rfl (gZ rfl rfl) (aT7 l) hb (by simp;omega) (by simp;omega) (fun b' hb'=>?_)
     rw[show l.map iv++ [AV.int .i64 n]=(l++ [n]).map iv by simp] at hb' ⊢
     simp only[aB,seval]
     exact⟨b',by simp [cB,fP],by simp [cB,fP],by simp only[cB,fP,IE,fQ];exact hb'⟩
    have hat:=QI (b:=b) (l:=l.map iv) (i:=i) (x:=iv x) pO (by rw[mI,hx];try rfl)
    obtain⟨eJ,AU⟩:=QJ (st:=st) (b:=b) hx
    have hw:=bH (n:=(i:Int)+1)
    simp only[haL,aE,bN,aB,seval]
    refine KX mixed (by decide +kernel) (by decide +kernel) ?_
    simp only[hat,eJ,AU,y9,aB,seval,FG]
    refine bE (fun h=>?_) (fun h=>?_)
    · simp only[bK] at h
      subst h
      have fP:=cQ hx
      simp only[aB,seval]
      exact⟨b,by simp [cB,fP],by simp [cB,fP],by simp only[cB,fP,IF,eA];exact hb⟩
    · simp only[d5] at h
      simp only[aB,seval]
      refine⟨(),?_,aP.mk (by simp only[hw,aB,seval])⟩
      intro y hy
      rw[eD,hx] at hy
      rcases kW.1 hy with hy | hy
      · exact hinv y hy
      · simp at hy;subst hy;exact h
  · simp only[d5] at h
    rw[aH (by simp [h])]
    simp only[aB,seval]
    refine d7 (σ:=List Int×Nat) [] [3,4] ts (fun i p=>cB (ts.drop i) p.1=cB ts l∧p.1.length+bU Tm.nodes (ts.drop i)≤1099511627776∧(p.1.map iv≠[]→st p.2=none)) (fun i p=>[(0,bQ 1 p.2 (p.1.map iv)),(6,.int .i64 i)]) (fun _ p=>aU st p.2 (p.1.map iv)) (by decide +kernel)
     ⟨(l,b),⟨rfl,by simp;omega,hb⟩,aP.mk (by simp only[aB,↓a9,seval])⟩ (fun i x p hx hlt bN hdr hinv=>?_) (fun p hge hinv=>?_)
    case refine_2=>
     simp only[aE,hge,aB,seval,FG]
     rw[←hinv.1,o9]
     exact⟨p.2,rfl,rfl,hinv.2.2⟩
    obtain⟨acc,b⟩:=p
    rw[hdr] at hinv
    obtain⟨i1,i2,i3⟩:=hinv
    simp only[bU] at i2
    have hw:=bH (n:=(i:Int)+1)
    simp only[aE,bN,bR (av:=Tm.av) cF hx (aQ x),bM,aQ,aB,seval,FG]
    refine(IH x (cQ hx) acc b st i3 (by omega)).mono ?_
    rintro _ _ ⟨b',rfl,rfl,hb'⟩
    have hvl:=Tm.aJH x acc
    simp only[hw,aB,seval]
    exact⟨(x.vars acc,b'),⟨i1,by simp only;omega,hb'⟩,aP.mk (by simp only[aB,seval])⟩
termination_by t=>SizeOf.sizeOf t
decreasing_by have:=List.sizeOf_lt_of_mem hx;simp only[Tm.mk.sizeOf_spec];omega
end Go.AW
namespace Go.AW
abbrev dL (σ:Sub):Prop:=∃R rk B,Good σ R rk B
theorem dL.rs{σ:Sub}(h:dL σ):∃rk B,Good σ (rs σ) rk B:=by
 obtain⟨R,rk,B,G⟩:=h
 exact⟨rk,B,by rw[G.rs];exact G⟩
theorem dL.none:dL Sub.none:=⟨_,_,_,Good.none⟩
structure nE (σ:Sub) (a b:List Tm) (r:Bool) (σ':Sub) (tr:List Int):Prop where
 g8:dL σ'
 bJ:∀m,m∉tr→σ' m=σ m
 new:∀m∈tr,σ m=none∧σ' m≠none
 nodup:tr.Nodup
 eq:r=true→a.map (Tm.aS (rs σ'))=b.map (Tm.aS (rs σ'))
 gen:∀θ,pC θ σ→a.map (Tm.aS θ)=b.map (Tm.aS θ)→r=true∧pC θ σ'
 same:tr= []→σ'=σ
theorem pC.sub{σ σ':Sub}{θ:Int→Tm}{tr:List Int}(S:pC θ σ')(bJ:∀m,m∉tr→σ' m=σ m)(new:∀m∈tr,σ m=none∧σ' m≠none):pC θ σ:=fun n u h=>by
 by_cases hn:n∈tr
 · rw[(new n hn).1] at h;cases h
 · exact S n u (by rw[bJ n hn];exact h)
theorem nE.vR{σ σ':Sub}{a b:List Tm}{r:Bool}{tr:List Int}(h:nE σ a b r σ' tr):pC (rs σ') σ:=by
 obtain⟨rk,B,G⟩:=h.g8.rs
 exact G.vR.sub h.bJ h.new
theorem nE.stays{σ σ':Sub}{a b:List Tm}{r:Bool}{tr:List Int}(h:nE σ a b r σ' tr)(hg:dL σ){x y:Tm}(e:x.aS (rs σ)=y.aS (rs σ)):x.aS (rs σ')=y.aS (rs σ'):=by
 obtain⟨rk,B,G⟩:=hg.rs
 rw[←G.MJ h.vR x,←G.MJ h.vR y,e]
theorem Q0{σ:Sub}(hg:dL σ){a b:Tm}{n:Int}(ha:a.k=1)(han:a.n=n)(hn:σ n=none)(hb:b.k=1→σ b.n=none∧b.n≠n){r:Bool}{σ':Sub}{tr:List Int}(h:l6 σ n b=(r,σ',tr)):nE σ [a] [b] r σ' tr:=by
 obtain⟨rk,B,G⟩:=hg.rs
 have hav:∀θ,a.aS θ=θ n:=fun θ=>by rw[Tm.BD θ ha,han]
 unfold l6 at h
 split at h
 · rename_i fP
   cases h
   refine⟨hg,fun _ _=>rfl,fun _ h=>absurd h (dF),qF,fun h=>(by cases h),fun θ S e=>?_,fun _=>rfl⟩
   exfalso
   simp only[bF,bD,List.cons.injEq,eN] at e
   rw[hav] at e
   by_cases hbk:b.k=1
   · rw[Tm.BD _ hbk,G.free (hb hbk).1,CK] at fP
     simp only[cT,dF,dS] at fP
     exact(hb hbk).2 fP.symm
   · rw[←G.MJ S b] at e
     have h1:((b.aS (rs σ)).aS θ)=(b.aS (rs σ)).aS θ:=rfl
     have hk:(b.aS (rs σ)).k≠1:=by rw[Tm.sH _ hbk];exact hbk
     have:=(aU2 (f:=θ) (b.aS (rs σ)) fP).2 hk
     rw[e] at this
     exact absurd this (Nat.lt_irrefl _)
 · rename_i fP
   cases h
   obtain⟨rk',B',G'⟩:=G.bind hn fP
   have hR:=G'.rs
   refine⟨⟨_,_,_,G'⟩,fun m hm=>?_,fun m hm=>?_,by simp,fun _=>?_,fun θ S e=>⟨rfl,fun m u hu=>?_⟩,fun h=>(by cases h)⟩
   · simp only[cT,dF,dS] at hm
     simp only[Sub.set,hm,eA]
   · simp only[cT,dF,dS] at hm
     subst hm
     exact⟨hn,by simp [Sub.set]⟩
   · simp only[bF,bD,List.cons.injEq,eN]
     rw[hav,hR]
     exact G'.bound (by simp [Sub.set])
   · simp only[bF,bD,List.cons.injEq,eN] at e
     rw[hav] at e
     simp only[Sub.set] at hu
     split at hu
     · rename_i hmn
       cases hu
       rw[hmn,e]
     · exact S m u hu
theorem xO{a b:Tm}:xN a b=true↔a.k=b.k∧a.n=b.n∧a.s=b.s∧a.ts.length=b.ts.length:=by
 simp only[xN,bG,bK,and_assoc]
theorem aJA(g:Nat)(aTY:∀σ a b r σ' tr,dL σ→c7 g σ a b=some (r,σ',tr)→nE σ [a] [b] r σ' tr):∀xs ys σ r σ' tr,dL σ→xs.length=ys.length→eY g σ xs ys=some (r,σ',tr)→nE σ xs ys r σ' tr:=by
 intro xs
 have ihU:=aTY
 induction xs with
 | nil=>
  intro ys σ r σ' tr hg hl h
  cases ys with
  | cons _ _=>simp at hl
  | nil=>
   simp only[eY,Option.some.injEq,Prod.mk.injEq] at h
   obtain⟨rfl,rfl,rfl⟩:=h
   exact⟨hg,fun _ _=>rfl,fun _ h=>absurd h (dF),qF,fun _=>rfl,fun θ S _=>⟨rfl,S⟩,fun _=>rfl⟩
 | cons a xs ih=>
  intro ys σ r σ' tr hg hl h
  cases ys with
  | nil=>simp at hl
  | cons b ys=>
   rw[eY] at h
   cases h1:c7 g σ a b with
   | none=>rw[h1] at h;cases h
   | some p=>
    obtain⟨r1,σ1,tr1⟩:=p
    have U1:=ihU σ a b r1 σ1 tr1 hg h1
    rw[h1] at h
    cases r1 with
    | false=>
     simp only[Option.some.injEq,Prod.mk.injEq] at h
     obtain⟨rfl,rfl,rfl⟩:=h
     refine⟨U1.g8,U1.bJ,U1.new,U1.nodup,fun h=>(by cases h),fun θ S e=>?_,U1.same⟩
     simp only[bF,List.cons.injEq] at e
     exact U1.gen θ S (by simp [e.1])
    | true=>
     simp only at h
     cases h2:eY g σ1 xs ys with
     | none=>rw[h2] at h;cases h
     | some p2=>
      obtain⟨r2,σ2,tr2⟩:=p2
      rw[h2] at h
      simp only[Option.some.injEq,Prod.mk.injEq] at h
      obtain⟨rfl,rfl,rfl⟩:=h
      have U2:=ih ys σ1 r2 σ2 tr2 U1.g8 (by simpa using hl) h2
      refine⟨U2.g8,fun m hm=>?_,fun m hm=>?_,?_,fun hr=>?_,fun θ S e=>?_,fun h=>?_⟩
      · simp only[kW,not_or] at hm
        rw[U2.bJ m hm.2,U1.bJ m hm.1]
      · rcases kW.1 hm with hm | hm
        · refine⟨(U1.new m hm).1,fun h=>(U1.new m hm).2 ?_⟩
          by_cases h3:m∈tr2
          · exact(U2.new m h3).1
          · rw[←U2.bJ m h3];exact h
        · refine⟨?_,(U2.new m hm).2⟩
          by_cases h3:m∈tr1
          · exact(U1.new m h3).1
          · rw[←U1.bJ m h3];exact(U2.new m hm).1
      · rw[List.nodup_append]
        refine⟨U1.nodup,U2.nodup,fun x hx y hy e=>?_⟩
        subst e
        exact(U1.new x hx).2 (U2.new x hy).1
      · have e1:=U1.eq rfl
        simp only[bF,bD,List.cons.injEq,eN] at e1
        simp only[bF]
        rw[U2.stays U1.g8 e1,U2.eq hr]
      · simp only[bF,List.cons.injEq] at e
        obtain⟨_,S1⟩:=U1.gen θ S (by simp [e.1])
        exact U2.gen θ S1 e.2
      · simp only[List.append_eq_nil_iff] at h
        rw[U2.same h.2,U1.same h.1]
theorem aYJ:∀(g:Nat),(∀σ a b r σ' tr,dL σ→c7 g σ a b=some (r,σ',tr)→nE σ [a] [b] r σ' tr) ∧
 ∀xs ys σ r σ' tr,dL σ→xs.length=ys.length→eY g σ xs ys=some (r,σ',tr)→nE σ xs ys r σ' tr:=by
 intro g
 induction g with
 | zero=>
  have h0:∀σ a b r σ' tr,dL σ→c7 0 σ a b=some (r,σ',tr)→nE σ [a] [b] r σ' tr:=fun σ a b r σ' tr hg h=>by simp only[c7] at h;cases h
  exact⟨h0,aJA _ h0⟩
 | succ g ih=>
  suffices hU:∀σ a b r σ' tr,dL σ→c7 (g+1) σ a b=some (r,σ',tr)→nE σ [a] [b] r σ' tr from ⟨hU,aJA _ hU⟩
  intro σ a b r σ' tr hg h
  obtain⟨ihU,ihL⟩:=ih
  have aTX:=fun xs ys σ r σ' tr hg hl h=>ihL xs ys σ r σ' tr hg hl h
  obtain⟨rk,B,G⟩:=hg.rs
  obtain⟨fa,wa⟩:=G.wk a
  obtain⟨fb,wb⟩:=G.wk b
  have hma:∀θ,pC θ σ→(wk σ a).aS θ=a.aS θ:=fun θ S=>wa.aS S
  have hmb:∀θ,pC θ σ→(wk σ b).aS θ=b.aS θ:=fun θ S=>wb.aS S
  -- it suffices to speak of the walked terms
  suffices hw:nE σ [wk σ a] [wk σ b] r σ' tr by
   refine⟨hw.g8,hw.bJ,hw.new,hw.nodup,fun hr=>?_,fun θ S e=>?_,hw.same⟩
   · have:=hw.eq hr
     simp only[bF,bD,List.cons.injEq,eN] at this ⊢
     rw[←hma _ hw.vR,←hmb _ hw.vR];exact this
   · refine hw.gen θ S ?_
     simp only[bF,bD,List.cons.injEq,eN] at e ⊢
     rw[hma θ S,hmb θ S];exact e
  have ea:=wa.end
  have eb:=wb.end
  rw[c7] at h
  generalize wk σ a=a at *
  generalize wk σ b=b at *
  split at h
  · rename_i hc
    simp only[Option.some.injEq,Prod.mk.injEq] at h
    obtain⟨rfl,rfl,rfl⟩:=h
    have he:∀θ,a.aS θ=b.aS θ:=fun θ=>by rw[Tm.BD θ hc.1,Tm.BD θ hc.2.1,hc.2.2]
    exact⟨hg,fun _ _=>rfl,fun _ h=>absurd h (dF),qF,fun _=>by simp [he],fun θ S _=>⟨rfl,S⟩,fun _=>rfl⟩
  · rename_i hc
    split at h
    · rename_i ha
      exact Q0 hg ha rfl (ea ha) (fun hb=>⟨eb hb,fun e=>hc ⟨ha,hb,e.symm⟩⟩) (nD h)
    · rename_i ha
      split at h
      · rename_i hb
        have U:=Q0 hg hb rfl (eb hb) (fun ha'=>absurd ha' ha) (nD h)
        exact⟨U.g8,U.bJ,U.new,U.nodup,fun hr=>(U.eq hr).symm,fun θ S e=>U.gen θ S e.symm,U.same⟩
      · rename_i hb
        split at h
        · rename_i hh
          rw[xO] at hh
          have U:=aTX a.ts b.ts σ r σ' tr hg hh.2.2.2 h
          refine⟨U.g8,U.bJ,U.new,U.nodup,fun hr=>?_,fun θ S e=>?_,U.same⟩
          · simp only[bF,bD,List.cons.injEq,eN]
            rw[Tm.sH _ ha,Tm.sH _ hb,hh.1,hh.2.1,hh.2.2.1,U.eq hr]
          · simp only[bF,bD,List.cons.injEq,eN] at e
            rw[Tm.sH _ ha,Tm.sH _ hb] at e
            exact U.gen θ S (by injection e)
        · rename_i hh
          simp only[Option.some.injEq,Prod.mk.injEq] at h
          obtain⟨rfl,rfl,rfl⟩:=h
          refine⟨hg,fun _ _=>rfl,fun _ h=>absurd h (dF),qF,fun h=>(by cases h),fun θ S e=>?_,fun _=>rfl⟩
          exfalso
          simp only[bF,bD,List.cons.injEq,eN] at e
          rw[Tm.sH _ ha,Tm.sH _ hb] at e
          injection e with e1 e2 e3 e4
          exact hh (xO.2 ⟨e1,e2,e3,by simpa using qP List.length e4⟩)
theorem FV{g:Nat}{σ:Sub}{a b:Tm}{r:Bool}{σ':Sub}{tr:List Int}(hg:dL σ)(h:c7 g σ a b=some (r,σ',tr)):nE σ [a] [b] r σ' tr:=(aYJ g).1 σ a b r σ' tr hg h
theorem aJB(g g':Nat)(ih:∀σ a b x,c7 g σ a b=some x→c7 g' σ a b=some x):∀xs ys σ x,eY g σ xs ys=some x→eY g' σ xs ys=some x:=by
 intro xs
 induction xs with
 | nil=>intro ys σ x h;cases ys<;>simpa only[eY] using h
 | cons a xs ihx=>
  intro ys σ x h
  cases ys with
  | nil=>simpa only[eY] using h
  | cons b ys=>
   rw[eY] at h ⊢
   cases h1:c7 g σ a b with
   | none=>rw[h1] at h;cases h
   | some p=>
    rw[h1] at h
    rw[ih _ _ _ _ h1]
    obtain⟨r1,σ1,tr1⟩:=p
    cases r1 with
    | false=>exact h
    | true=>
     simp only at h ⊢
     cases h2:eY g σ1 xs ys with
     | none=>rw[h2] at h;cases h
     | some p2=>rw[h2] at h;rw[ihx ys σ1 p2 h2];exact h
theorem aYL:∀(g:Nat) σ a b x,c7 g σ a b=some x→c7 (g+1) σ a b=some x:=by
 intro g
 induction g with
 | zero=>intro σ a b x h;simp only[c7] at h;cases h
 | succ g ih=>
  intro σ a b x h
  rw[c7] at h ⊢
  split
  · rename_i hc;rw[aN hc] at h;exact h
  · rename_i hc
    rw[aH hc] at h
    split
    · rename_i hc;rw[aN hc] at h;exact h
    · rename_i hc
      rw[aH hc] at h
      split
      · rename_i hc;rw[aN hc] at h;exact h
      · rename_i hc
        rw[aH hc] at h
        split
        · rename_i hc;rw[aN hc] at h;exact aJB g (g+1) ih _ _ _ _ h
        · rename_i hc;rw[aH hc] at h;exact h
theorem JW{g g':Nat}(hle:g≤g'){σ:Sub}{a b:Tm}{x:Bool×Sub×List Int}(h:c7 g σ a b=some x):c7 g' σ a b=some x:=by
 induction hle with
 | refl=>exact h
 | step _ ih=>exact aYL _ _ _ _ _ ih
theorem aYO{g g':Nat}(hle:g≤g'){σ:Sub}{xs ys:List Tm}{x:Bool×Sub×List Int}(h:eY g σ xs ys=some x):eY g' σ xs ys=some x:=
 aJB g g' (fun _ _ _ _ h=>JW hle h) xs ys σ x h
def rF(σ:Sub)(V:List Int):Nat:=V.countP fun v=>(σ v).isNone
def gH(V:List Int)(t:Tm):Prop:=∀v∈t.vl,v∈V
def lN(V:List Int)(σ:Sub):Prop:=∀n u,σ n=some u→gH V u
theorem aYH{σ σ':Sub}{tr:List Int}{V:List Int}(bJ:∀m,m∉tr→σ' m=σ m)(new:∀m∈tr,σ m=none∧σ' m≠none){m:Int}(hm:m∈tr)(hV:m∈V):rF σ' V<rF σ V:=by
 have mono:∀v,(σ' v).isNone=true→(σ v).isNone=true:=fun v h=>by
  by_cases hv:v∈tr
  · rw[(new v hv).1];try rfl
  · rw[←bJ v hv];exact h
 have le:∀W:List Int,rF σ' W≤rF σ W:=fun W=>List.countP_mono_left fun v _ h=>mono v h
 unfold rF at *
 induction V with
 | nil=>cases hV
 | cons v V ih=>
  simp only[List.countP_cons]
  have hle:=le V
  rcases cT.1 hV with rfl | hV
  · have h1:(σ m).isNone=true:=by rw[(new m hm).1];try rfl
    have h2:(σ' m).isNone=false:=by
     cases h:σ' m with
     | none=>exact absurd h (new m hm).2
     | some _=>rfl
    simp only[h1,h2,fQ,iA,eA]
    omega
  · have:=ih hV
    have h3:=mono v
    by_cases h4:(σ' v).isNone=true
    · rw[aN h4,aN (h3 h4)];omega
    · rw[aH h4];split<;>omega
theorem fH.H7{σ:Sub}{V:List Int}(hr:lN V σ){f:Nat}{t u:Tm}(h:fH σ f t u)(ht:gH V t):gH V u:=h.all (p:=gH V) (fun n u hu=>hr n u hu) ht
theorem gH.lT{V:List Int}{t x:Tm}(h:gH V t)(hk:t.k≠1)(hx:x∈t.ts):gH V x:=fun v hv=>h v (by cases t;exact(Tm.nB hk).2 ⟨x,hx,hv⟩)
theorem aI9:∀(g:Nat),(∀σ a b r σ' tr V,dL σ→c7 g σ a b=some (r,σ',tr)→lN V σ→gH V a→gH V b→lN V σ'∧∀m∈tr,m∈V) ∧
 ∀xs ys σ r σ' tr V,dL σ→xs.length=ys.length→eY g σ xs ys=some (r,σ',tr)→lN V σ→(∀x∈xs,gH V x)→(∀y∈ys,gH V y)→lN V σ'∧∀m∈tr,m∈V:=by
 intro g
 have list:∀g,(∀σ a b r σ' tr V,dL σ→c7 g σ a b=some (r,σ',tr)→lN V σ→gH V a→gH V b→lN V σ'∧∀m∈tr,m∈V) →
  ∀xs ys σ r σ' tr V,dL σ→xs.length=ys.length→eY g σ xs ys=some (r,σ',tr)→lN V σ→(∀x∈xs,gH V x)→(∀y∈ys,gH V y)→lN V σ'∧∀m∈tr,m∈V:=by
  intro g ihU xs
  induction xs with
  | nil=>
   intro ys σ r σ' tr V hg hl h hr _ _
   cases ys with
   | cons _ _=>simp at hl
   | nil=>
    simp only[eY,Option.some.injEq,Prod.mk.injEq] at h
    obtain⟨rfl,rfl,rfl⟩:=h
    exact⟨hr,fun _ h=>absurd h (dF)⟩
  | cons a xs ih=>
   intro ys σ r σ' tr V hg hl h hr hx hy
   cases ys with
   | nil=>simp at hl
   | cons b ys=>
    rw[eY] at h
    cases h1:c7 g σ a b with
    | none=>rw[h1] at h;cases h
    | some p=>
     obtain⟨r1,σ1,tr1⟩:=p
     have U1:=FV hg h1
     obtain⟨i1,i2⟩:=ihU σ a b r1 σ1 tr1 V hg h1 hr (hx a (by simp)) (hy b (by simp))
     rw[h1] at h
     cases r1 with
     | false=>
      simp only[Option.some.injEq,Prod.mk.injEq] at h
      obtain⟨rfl,rfl,rfl⟩:=h
      exact⟨i1,i2⟩
     | true=>
      simp only at h
      cases h2:eY g σ1 xs ys with
      | none=>rw[h2] at h;cases h
      | some p2=>
       obtain⟨r2,σ2,tr2⟩:=p2
       rw[h2] at h
       simp only[Option.some.injEq,Prod.mk.injEq] at h
       obtain⟨rfl,rfl,rfl⟩:=h
       obtain⟨j1,j2⟩:=ih ys σ1 r2 σ2 tr2 V U1.g8 (by simpa using hl) h2 i1 (fun x h=>hx x (by simp [h])) (fun y h=>hy y (by simp [h]))
       exact⟨j1,fun m hm=>(kW.1 hm).elim (i2 m) (j2 m)⟩
 induction g with
 | zero=>
  have h0:∀σ a b r σ' tr V,dL σ→c7 0 σ a b=some (r,σ',tr)→lN V σ→gH V a→gH V b→lN V σ'∧∀m∈tr,m∈V:=fun σ a b r σ' tr V hg h=>by simp only[c7] at h;cases h
  exact⟨h0,list 0 h0⟩
 | succ g ih=>
  suffices hU:∀σ a b r σ' tr V,dL σ→c7 (g+1) σ a b=some (r,σ',tr)→lN V σ→gH V a→gH V b→lN V σ'∧∀m∈tr,m∈V from ⟨hU,list _ hU⟩
  intro σ a b r σ' tr V hg h hr ha hb
  obtain⟨_,ihL⟩:=ih
  obtain⟨rk,B,G⟩:=hg.rs
  obtain⟨fa,wa⟩:=G.wk a
  obtain⟨fb,wb⟩:=G.wk b
  have va:=wa.H7 hr ha
  have vb:=wb.H7 hr hb
  have bn:∀n (t:Tm) r σ' tr,n∈V→gH V t→l6 σ n t=(r,σ',tr)→lN V σ'∧∀m∈tr,m∈V:=by
   intro n t r σ' tr hn ht h
   unfold l6 at h
   split at h<;>cases h
   · exact⟨hr,fun _ h=>absurd h (dF)⟩
   · refine⟨fun m u hu=>?_,fun m hm=>by simp only[cT,dF,dS] at hm;rw[hm];exact hn⟩
     simp only[Sub.set] at hu
     split at hu
     · cases hu;exact ht
     · exact hr m u hu
  rw[c7] at h
  generalize wk σ a=a at *
  generalize wk σ b=b at *
  split at h
  · simp only[Option.some.injEq,Prod.mk.injEq] at h
    obtain⟨rfl,rfl,rfl⟩:=h
    exact⟨hr,fun _ h=>absurd h (dF)⟩
  · split at h
    · rename_i hk
      exact bn _ _ _ _ _ (va _ (by rw[Tm.aJK hk];simp)) vb (nD h)
    · rename_i hka
      split at h
      · rename_i hk
        exact bn _ _ _ _ _ (vb _ (by rw[Tm.aJK hk];simp)) va (nD h)
      · rename_i hkb
        split at h
        · rename_i hh
          exact ihL a.ts b.ts σ r σ' tr V hg (xO.1 hh).2.2.2 h hr (fun x hx=>va.lT hka hx) (fun y hy=>vb.lT hkb hy)
        · simp only[Option.some.injEq,Prod.mk.injEq] at h
          obtain⟨rfl,rfl,rfl⟩:=h
          exact⟨hr,fun _ h=>absurd h (dF)⟩
def dC(p:Tm→Prop)(σ:Sub):Prop:=∀n u,σ n=some u→p u
theorem aI8{p:Tm→Prop}(hp:∀t:Tm,t.k≠1→p t→∀x∈t.ts,p x):∀(g:Nat),(∀σ a b r σ' tr,dL σ→c7 g σ a b=some (r,σ',tr)→dC p σ→p a→p b→dC p σ') ∧
 ∀xs ys σ r σ' tr,dL σ→xs.length=ys.length→eY g σ xs ys=some (r,σ',tr)→dC p σ→(∀x∈xs,p x)→(∀y∈ys,p y)→dC p σ':=by
 intro g
 have list:∀g,(∀σ a b r σ' tr,dL σ→c7 g σ a b=some (r,σ',tr)→dC p σ→p a→p b→dC p σ') →
  ∀xs ys σ r σ' tr,dL σ→xs.length=ys.length→eY g σ xs ys=some (r,σ',tr)→dC p σ→(∀x∈xs,p x)→(∀y∈ys,p y)→dC p σ':=by
  intro g ihU xs
  induction xs with
  | nil=>
   intro ys σ r σ' tr hg hl h hr _ _
   cases ys with
   | cons _ _=>simp at hl
   | nil=>
    simp only[eY,Option.some.injEq,Prod.mk.injEq] at h
    obtain⟨rfl,rfl,rfl⟩:=h
    exact hr
  | cons a xs ih=>
   intro ys σ r σ' tr hg hl h hr hx hy
   cases ys with
   | nil=>simp at hl
   | cons b ys=>
    rw[eY] at h
    cases h1:c7 g σ a b with
    | none=>rw[h1] at h;cases h
    | some p=>
     obtain⟨r1,σ1,tr1⟩:=p
     have U1:=FV hg h1
     have i1:=ihU σ a b r1 σ1 tr1 hg h1 hr (hx a (by simp)) (hy b (by simp))
     rw[h1] at h
     cases r1 with
     | false=>
      simp only[Option.some.injEq,Prod.mk.injEq] at h
      obtain⟨rfl,rfl,rfl⟩:=h
      exact i1
     | true=>
      simp only at h
      cases h2:eY g σ1 xs ys with
      | none=>rw[h2] at h;cases h
      | some p2=>
       obtain⟨r2,σ2,tr2⟩:=p2
       rw[h2] at h
       simp only[Option.some.injEq,Prod.mk.injEq] at h
       obtain⟨rfl,rfl,rfl⟩:=h
       have j1:=ih ys σ1 r2 σ2 tr2 U1.g8 (by simpa using hl) h2 i1 (fun x h=>hx x (by simp [h])) (fun y h=>hy y (by simp [h]))
       exact j1
 induction g with
 | zero=>
  have h0:∀σ a b r σ' tr,dL σ→c7 0 σ a b=some (r,σ',tr)→dC p σ→p a→p b→dC p σ':=fun σ a b r σ' tr hg h=>by simp only[c7] at h;cases h
  exact⟨h0,list 0 h0⟩
 | succ g ih=>
  suffices hU:∀σ a b r σ' tr,dL σ→c7 (g+1) σ a b=some (r,σ',tr)→dC p σ→p a→p b→dC p σ' from ⟨hU,list _ hU⟩
  intro σ a b r σ' tr hg h hr ha hb
  obtain⟨_,ihL⟩:=ih
  obtain⟨rk,B,G⟩:=hg.rs
  obtain⟨fa,wa⟩:=G.wk a
  obtain⟨fb,wb⟩:=G.wk b
  have va:=wa.all hr ha
  have vb:=wb.all hr hb
  have bn:∀n (t:Tm) r σ' tr,p t→l6 σ n t=(r,σ',tr)→dC p σ':=by
   intro n t r σ' tr ht h
   unfold l6 at h
   split at h<;>cases h
   · exact hr
   · intro m u hu
     simp only[Sub.set] at hu
     split at hu
     · cases hu;exact ht
     · exact hr m u hu
  rw[c7] at h
  generalize wk σ a=a at *
  generalize wk σ b=b at *
  split at h
  · simp only[Option.some.injEq,Prod.mk.injEq] at h
    obtain⟨rfl,rfl,rfl⟩:=h
    exact hr
  · split at h
    · rename_i hk
      exact bn _ _ _ _ _ vb (nD h)
    · rename_i hka
      split at h
      · rename_i hk
        exact bn _ _ _ _ _ va (nD h)
      · rename_i hkb
        split at h
        · rename_i hh
          exact ihL a.ts b.ts σ r σ' tr hg (xO.1 hh).2.2.2 h hr (fun x hx=>hp _ hka va x hx) (fun y hy=>hp _ hkb vb y hy)
        · simp only[Option.some.injEq,Prod.mk.injEq] at h
          obtain⟨rfl,rfl,rfl⟩:=h
          exact hr
theorem aYM(V:List Int):∀(N M:Nat) (σ:Sub) (a b:Tm),dL σ→lN V σ→gH V a→gH V b→rF σ V≤N→(a.aS (rs σ)).nodes≤M→∃g x,c7 g σ a b=some x:=by
 intro N
 induction N using Nat.strongRecOn with
 | _ N ihN=>
 intro M
 induction M using Nat.strongRecOn with
 | _ M ihM=>
 intro σ a b hg hr ha hb hN hM
 have list:∀(xs ys:List Tm) (σ1:Sub),xs.length=ys.length→dL σ1→lN V σ1→(σ1=σ∨rF σ1 V<rF σ V)→(∀x∈xs,gH V x∧(x.aS (rs σ)).nodes<M)→(∀y∈ys,gH V y)→∃g x,eY g σ1 xs ys=some x:=by
  intro xs
  induction xs with
  | nil=>
   intro ys σ1 hl _ _ _ _ _
   cases ys with
   | cons _ _=>simp at hl
   | nil=>exact⟨0,(true,σ1,[]),by simp only[eY]⟩
  | cons x xs ih=>
   intro ys σ1 hl hg1 hr1 hc hx hy
   cases ys with
   | nil=>simp at hl
   | cons y ys=>
    have h1:∃g p,c7 g σ1 x y=some p:=by
     rcases hc with rfl | hlt
     · exact ihM _ (hx x (by simp)).2 σ1 x y hg1 hr1 (hx x (by simp)).1 (hy y (by simp)) hN (c6 _)
     · exact ihN (rF σ1 V) (by omega) _ σ1 x y hg1 hr1 (hx x (by simp)).1 (hy y (by simp)) (c6 _) (c6 _)
    obtain⟨g1,⟨r1,σ2,tr1⟩,h1⟩:=h1
    have U1:=FV hg1 h1
    obtain⟨i1,i2⟩:=(aI9 g1).1 σ1 x y r1 σ2 tr1 V hg1 h1 hr1 (hx x (by simp)).1 (hy y (by simp))
    cases r1 with
    | false=>exact⟨g1,(false,σ2,tr1),by rw[eY,h1]⟩
    | true=>
     have hc2:σ2=σ∨rF σ2 V<rF σ V:=by
      cases htr:tr1 with
      | nil=>rw[U1.same htr];exact hc
      | cons m _=>
       have:=aYH (V:=V) U1.bJ U1.new (m:=m) (by rw[htr];simp) (i2 m (by rw[htr];simp))
       rcases hc with rfl | hlt
       · exact .inr this
       · exact .inr (Nat.lt_trans this hlt)
     obtain⟨g2,p2,h2⟩:=ih ys σ2 (by simpa using hl) U1.g8 i1 hc2 (fun z hz=>hx z (by simp [hz])) (fun z hz=>hy z (by simp [hz]))
     obtain⟨r2,σ3,tr2⟩:=p2
     refine⟨max g1 g2,(r2,σ3,tr1++tr2),?_⟩
     rw[eY,JW (Nat.le_max_left g1 g2) h1]
     simp only
     rw[aYO (Nat.le_max_right g1 g2) h2]
 obtain⟨rk,B,G⟩:=hg.rs
 obtain⟨fa,wa⟩:=G.wk a
 obtain⟨fb,wb⟩:=G.wk b
 have va:=wa.H7 hr ha
 have vb:=wb.H7 hr hb
 have hma:=wa.aS G.vR
 rw[←hma] at hM
 by_cases h1:(wk σ a).k=1∧(wk σ b).k=1∧(wk σ a).n=(wk σ b).n
 · exact⟨1,_,by rw[c7,aN h1]⟩
 by_cases h2:(wk σ a).k=1
 · exact⟨1,_,by rw[c7,aH h1,aN h2]⟩
 by_cases h3:(wk σ b).k=1
 · exact⟨1,_,by rw[c7,aH h1,aH h2,aN h3]⟩
 by_cases h4:xN (wk σ a) (wk σ b)=true
 · have aTB:∀x∈(wk σ a).ts,gH V x∧(x.aS (rs σ)).nodes<M:=fun x hx=>by
    refine⟨va.lT h2 hx,?_⟩
    rw[Tm.sH _ h2,Tm.gT] at hM
    have:=E9 (f:=Tm.nodes) (cL.2 ⟨x,hx,rfl⟩:x.aS (rs σ)∈(wk σ a).ts.map (Tm.aS (rs σ)))
    omega
   obtain⟨g,x,h⟩:=list (wk σ a).ts (wk σ b).ts σ (xO.1 h4).2.2.2 hg hr (.inl rfl) aTB (fun y hy=>vb.lT h3 hy)
   exact⟨g+1,x,by rw[c7,aH h1,aH h2,aH h3,aN h4];exact h⟩
 · exact⟨1,_,by rw[c7,aH h1,aH h2,aH h3,aH h4]⟩
mutual
def Tm.flat:Tm→Nat→Bool
 | .mk _ _ _ _,0=>false
 | .mk _ _ _ ts,d+1=>JL ts d
def JL:List Tm→Nat→Bool
 | [],_=>true
 | t::ts,d=>t.flat d&&JL ts d
end
theorem aIQ:∀(ts:List Tm) (d:Nat),JL ts d=ts.all fun t=>t.flat d
 | [],_=>rfl
 | t::ts,d=>by simp only[JL,kH,aIQ ts d]
theorem Tm.HO(t:Tm):t.flat 0=false:=by cases t;simp only[Tm.flat]
theorem Tm.r7(k n:Int)(s:ByteArray)(ts:List Tm)(d:Nat):(Tm.mk k n s ts).flat (d+1)=ts.all fun t=>t.flat d:=by simp only[Tm.flat,aIQ]
mutual
def Tm.kE:Tm→Bool
 | .mk k n s ts=>iT k n s ts.length&&JO ts
def JO:List Tm→Bool
 | []=>true
 | t::ts=>t.kE&&JO ts
end
theorem aIT:∀(ts:List Tm),JO ts=ts.all Tm.kE
 | []=>rfl
 | t::ts=>by simp only[JO,kH,aIT ts]
theorem Tm.x6(k n:Int)(s:ByteArray)(ts:List Tm):(Tm.mk k n s ts).kE=(iT k n s ts.length&&ts.all Tm.kE):=by simp only[Tm.kE,aIT]
theorem QM{α:Type}(p q:α→Bool):∀l:List α,(l.all fun x=>p x&&q x)=(l.all p&&l.all q)
 | []=>rfl
 | x::l=>by simp only[kH,QM p q l];cases p x<;>cases q x<;>cases l.all p<;>simp
theorem Tm.aG3:∀(t:Tm) (d:Nat),t.shape (d:Int)=(t.kE&&t.flat d):=by
 intro t
 induction t using Tm.ind with
 | h k n s ts ih=>
  intro d
  cases d with
  | zero=>rw[Tm.HO,sS,Tm.BU];try rfl
  | succ d=>
   rw[Tm.BU,Tm.x6,Tm.r7,show decide ((1:Int)≤((d+1:Nat):Int))=true by simp;omega,dH,Bool.and_assoc,←QM]
   congr 1
   rw[show(((d+1:Nat):Int) - 1)=(d:Int) by omega]
   have:∀l:List Tm,(∀x∈l,x∈ts)→(l.all fun t=>t.shape (d:Int))=l.all fun x=>x.kE&&x.flat d:=by
    intro l
    induction l with
    | nil=>intro _;rfl
    | cons x l ihl=>intro h;rw[kH,kH,ih x (h x (by simp)),ihl fun y hy=>h y (by simp [hy])]
   exact this ts fun _ h=>h
theorem Tm.aYR{t:Tm}(h:t.valid=true):t.kE=true:=by
 simp only[Tm.valid,bG] at h
 have:=h.1
 rw[show(30:Int)=((30:Nat):Int) from rfl,Tm.aG3,bG] at this
 exact this.1
theorem Tm.aJD{t:Tm}(h:t.kE=true):t.valid=(t.flat 30&&decide (t.nodes≤120)):=by
 unfold Tm.valid
 rw[show(30:Int)=((30:Nat):Int) from rfl,Tm.aG3,h,dH]
theorem Tm.II{k n:Int}{s:ByteArray}{ts:List Tm}(h:(Tm.mk k n s ts).kE=true):iT k n s ts.length=true∧∀x∈ts,x.kE=true:=by
 rw[Tm.x6,bG] at h
 exact⟨h.1,dD.1 h.2⟩
theorem aGA{n:Int}{s:ByteArray}{len:Int}(h:iT 1 n s len=true):0≤n∧n≤25∧s=⟨#[]⟩∧len=0:=by
 simp [iT] at h
 exact⟨h.1.1.1,h.1.1.2,h.1.2,h.2⟩
theorem aVI{k n:Int}{s:ByteArray}{len:Int}(h:iT k n s len=true):(k=1∨k=2∨k=3)∧len≤4:=by
 unfold iT at h
 by_cases h1:k=1
 · simp [h1] at h;omega
 · by_cases h2:k=2
   · simp [h2] at h;omega
   · by_cases h3:k=3
     · simp [h3] at h;omega
     · simp [h1,h2,h3] at h
theorem Tm.aU7:∀(t:Tm),t.kE=true→t.cv=true:=by
 intro t
 induction t using Tm.ind with
 | h k n s ts ih=>
  intro h
  obtain⟨h1,h2⟩:=Tm.II h
  refine Tm.mO.2 ⟨fun hk=>?_,fun x hx=>ih x hx (h2 x hx)⟩
  subst hk
  obtain⟨_,_,h3,h4⟩:=aGA h1
  exact⟨h3,rM (by omega)⟩
def GH:List Int:=(List.range 26).map fun i:Nat=>(i:Int)
theorem EP{n:Int}:n∈GH↔0≤n∧n≤25:=by
 simp only[GH,cL,wN]
 constructor
 · rintro⟨i,h,rfl⟩;omega
 · intro h;exact⟨n.toNat,by omega,by omega⟩
theorem Tm.aU8:∀(t:Tm),t.kE=true→gH GH t:=by
 intro t
 induction t using Tm.ind with
 | h k n s ts ih=>
  intro h v hv
  obtain⟨h1,h2⟩:=Tm.II h
  by_cases hk:k=1
  · rw[Tm.oB hk] at hv
    simp only[cT,dF,dS] at hv
    subst hv hk
    obtain⟨h3,h4,_⟩:=aGA h1
    exact EP.2 ⟨h3,h4⟩
  · obtain⟨x,hx,hvx⟩:=(Tm.nB hk).1 hv
    exact ih x hx (h2 x hx) v hvx
theorem aUV{f:Int→Tm}:∀(t:Tm),t.kE=true→(∀v∈t.vl,(f v).kE=true)→(t.aS f).kE=true:=by
 intro t
 induction t using Tm.ind with
 | h k n s ts ih=>
  intro h hf
  obtain⟨h1,h2⟩:=Tm.II h
  by_cases hk:k=1
  · rw[Tm.oV f hk];exact hf n (by rw[Tm.oB hk];simp)
  · rw[Tm.mE f hk,Tm.x6,aE,h1,dH,List.all_map,dD]
    exact fun x hx=>ih x hx (h2 x hx) fun v hv=>hf v ((Tm.nB hk).2 ⟨x,hx,hv⟩)
theorem aJL{n:Int}(h:n∈GH):(vr n).kE=true:=by
 rw[EP] at h
 rw[vr,Tm.x6]
 simp [iT,h]
theorem aYK{g g':Nat}{σ:Sub}{a b:Tm}{x y:Bool×Sub×List Int}(h:c7 g σ a b=some x)(h':c7 g' σ a b=some y):x=y:=by
 have h1:=JW (Nat.le_max_left g g') h
 rw[JW (Nat.le_max_right g g') h'] at h1
 exact(nD h1).symm
theorem aFV:∀ {l V:List Int},l.Nodup→(∀x∈l,x∈V)→l.length≤V.length
 | [],_,_,_=>f9 _
 | x::l,V,h,hV=>by
  rw[List.nodup_cons] at h
  have hx:=hV x (by simp)
  have:=aFV (V:=V.erase x) h.2 fun y hy=>(List.mem_erase_of_ne (by rintro rfl;exact h.1 hy)).2 (hV y (by simp [hy]))
  rw[List.length_erase_of_mem hx] at this
  have:=List.length_pos_of_mem hx
  simp only[aY]
  omega
abbrev zt:AV:=.agg [.int .i64 0,.int .i64 0,.str ⟨#[]⟩,.fslice []]
theorem PK(t:Tm):t.wf=true→∀l:List Int,(∀v,v∈t.vars l↔v∈l∨v∈t.vl)∧(l.Nodup→(t.vars l).Nodup)∧∃m,t.vars l=l++m:=by
 induction t using Tm.ind with
 | h k n s ts ih=>
  intro h l
  obtain⟨hk,hw⟩:=Tm.aJM h
  have list:∀xs:List Tm,(∀x∈xs,x∈ts)→∀l:List Int,(∀v,v∈cB xs l↔v∈l∨∃x∈xs,v∈x.vl)∧(l.Nodup→(cB xs l).Nodup)∧∃m,cB xs l=l++m:=by
   intro xs
   induction xs with
   | nil=>intro _ l;exact⟨by simp [cB],fun h=>h,[],by simp [cB]⟩
   | cons x xs ihx=>
    intro hs l
    obtain⟨a1,a2,m1,a3⟩:=ih x (hs x (by simp)) (hw x (hs x (by simp))) l
    obtain⟨b1,b2,m2,b3⟩:=ihx (fun y hy=>hs y (by simp [hy])) (x.vars l)
    simp only[cB]
    refine⟨fun v=>?_,fun hn=>b2 (a2 hn),m1++m2,by rw[b3,a3,qE]⟩
    rw[b1,a1]
    simp [or_assoc]
  rw[Tm.vars]
  by_cases hk1:k=1
  · obtain rfl:=hk hk1
    rw[Tm.oB hk1]
    simp only[cB]
    split
    · rename_i hc
      refine⟨fun v=>by simp,fun hn=>?_,[n],rfl⟩
      rw[List.nodup_append]
      refine⟨hn,by simp,fun x hx y hy e=>?_⟩
      simp only[cT,dF,dS] at hy
      subst hy e
      exact hc.2 hx
    · rename_i hc
      refine⟨fun v=>?_,fun hn=>hn,[],by simp⟩
      have hm:n∈l:=F7 fun h=>hc ⟨hk1,h⟩
      simp only[cT,dF,dS]
      exact⟨.inl,fun h=>h.elim id fun e=>e▸hm⟩
  · rw[aH (by simp [hk1])]
    obtain⟨c1,c2,c3⟩:=list ts (fun _ h=>h) l
    exact⟨fun v=>by rw[c1,Tm.nB hk1],c2,c3⟩
theorem Tm.aYS{v:Int}:∀(t:Tm) (l:List Int),t.cv=true→(v∈t.vars l↔v∈l∨v∈t.vl):=by
 intro t
 induction t using Tm.ind with
 | h k n s ts ih=>
  intro l hcv
  obtain⟨h1,h2⟩:=Tm.mO.1 hcv
  have key:∀(ts:List Tm) (l:List Int),(∀t∈ts,∀l,v∈t.vars l↔v∈l∨v∈t.vl)→(v∈cB ts l↔v∈l∨∃t∈ts,v∈t.vl):=by
   intro ts
   induction ts with
   | nil=>intro l _;simp [cB]
   | cons t ts iht=>
    intro l h
    simp only[cB]
    rw[iht _ (fun x hx=>h x (by simp [hx])),h t (by simp)]
    simp [or_assoc]
  simp only[Tm.vars]
  rw[key ts _ (fun t ht l=>ih t ht l (h2 t ht))]
  by_cases hk:k=1
  · obtain⟨rfl,rfl⟩:=h1 hk
    rw[Tm.oB hk]
    by_cases hn:n∈l
    · simp [hk,hn];exact fun e=>e▸hn
    · simp [hk,hn]
  · rw[Tm.nB hk];simp [hk]
theorem CC{v:Int}:∀(ts:List Tm) (l:List Int),(∀t∈ts,t.cv=true)→(v∈cB ts l↔v∈l∨∃t∈ts,v∈t.vl)
 | [],l,_=>by simp [cB]
 | t::ts,l,h=>by
  simp only[cB]
  rw[CC ts _ (fun x hx=>h x (by simp [hx])),Tm.aYS t l (h t (by simp))]
  simp [or_assoc]
theorem aYU{σ:Sub}{R:Int→Tm}{rk:Int→Nat}{B:Nat}(G:Good σ R rk B){n:Int}{W:List Int}(hW:∀w∈W,w≠n∧∀u,σ w=some u→∀v∈u.vl,v∈W):∀w∈W,n∉(R w).vl:=by
 refine fun w=>G.ind (p:=fun w=>w∈W→n∉(R w).vl) (fun w h hw hm=>?_) (fun w u h ih hw hm=>?_) w
 · rw[G.free h,CK] at hm
   simp only[cT,dF,dS] at hm
   exact(hW w hw).1 hm.symm
 · rw[G.bound h] at hm
   obtain⟨v,hv,hnv⟩:=(yQ u).1 hm
   exact ih v hv ((hW w hw).2 u h v hv) hnv
theorem aSB{w:Nat}{l:List AV}{i:Nat}{e:AV}(hw:∀e∈l,e.width=w)(h:l[i]?=some e) :
 ∃A B,l.flatMap AV.cells=A++e.cells++B∧A.length=i*w∧∀e',(l.set i e').flatMap AV.cells=A++e'.cells++B:=by
 obtain⟨hi,he⟩:=gJ.1 h
 refine⟨(l.take i).flatMap AV.cells,(l.drop (i+1)).flatMap AV.cells,?_,?_,fun e'=>?_⟩
 · have:l=l.take i++e::l.drop (i+1):=by rw[←he,←sT hi,y7]
   conv=>lhs;rw[this]
   simp
 · rw[lQ (fun e he=>hw e (mJ he)),dE,oE (by omega)]
 · rw[GC,aN hi]
   simp
def cellOf:Option Tm→AV
 | some u=>u.av
 | none=>zt
theorem G6(o:Option Tm):(cellOf o).width=4:=by cases o<;>first | rfl | exact aQ _
theorem aOX(o:Option Tm):(cellOf o).cells.length=4:=by rw[DZ,G6]
end Go.AW
namespace Go.AW
open Go.Proofs.Tryz
abbrev eQ (l:List Tm):AV:=.agg [.slice (l.map Tm.av)]
theorem Tm.EC{t:Tm}(h:t.goal=true):t.valid=true:=by
 cases t;simp only[Tm.goal,bG] at h;exact h.1
theorem aGK{q:List Tm}(h:eR q=true):(∀t∈q,t.valid=true)∧q.length≤6:=by
 simp only[eR,bG,bK,dD] at h
 exact⟨fun t ht=>Tm.EC (h.2 t ht),h.1⟩
theorem aVW{q:List Tm}(h:eR q=true):bU Tm.nodes q≤1099511627776:=by
 obtain⟨h1,h2⟩:=aGK h
 have:=aXK h1
 omega
def xE(q aJG:List Tm):Bool:=eR q&&decide (aJG.length=(cB q []).length)&&aJG.all Tm.valid
end Go.AW
namespace Go.AW
def nQ(c:UInt8):List ByteArray→ByteArray
 | []=>⟨#[]⟩
 | x::xs=>xs.foldl (fun o y=>(o++⟨#[c]⟩)++y) x
theorem aT9{c:UInt8}{l:List ByteArray}{x:ByteArray}(h:l≠[]):nQ c (l++ [x])=(nQ c l++⟨#[c]⟩)++x:=by
 cases l with
 | nil=>exact absurd rfl h
 | cons y l=>simp [nQ,GA]
theorem aLX(a:ByteArray):(⟨#[]⟩:ByteArray)++a=a:=by apply ByteArray.ext;simp [ByteArray.data_append]
theorem aT8{c:UInt8}{l:List ByteArray}{B:Nat}(h:∀x∈l,x.size≤B):(nQ c l).size≤l.length*(B+1):=by
 have hg:∀(xs:List ByteArray) (o:ByteArray),(∀x∈xs,x.size≤B)→(xs.foldl (fun o y=>(o++⟨#[c]⟩)++y) o).size≤o.size+xs.length*(B+1):=by
  intro xs
  induction xs with
  | nil=>intro o _;simp
  | cons x xs ih=>
   intro o hx
   rw[sU]
   refine lL (ih _ fun y hy=>hx y (by simp [hy])) ?_
   rw[cC,cC]
   have:=hx x (by simp)
   rw[aY,pB]
   show o.size+1+_+_≤_
   omega
 cases l with
 | nil=>exact f9 _
 | cons x l=>
  refine lL (hg l x fun y hy=>h y (by simp [hy])) ?_
  have:=h x (by simp)
  rw[aY,pB]
  omega
def mN(v:Int)(t:Tm):ByteArray:=(sF v++⟨#[61]⟩)++tx 1000 t
def GS(vars:List Int)(a:List Tm):ByteArray:=if vars= [] then⟨#[121,101,115]⟩ else nQ 59 ((vars.zip a).map fun p=>mN p.1 p.2)
def xF(q a:List Tm):ByteArray:=if xE q a=true then GS (cB q []) a else⟨#[]⟩

end Go.AW
