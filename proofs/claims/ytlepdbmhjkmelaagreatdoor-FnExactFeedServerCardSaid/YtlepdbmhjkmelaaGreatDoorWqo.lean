import Derived.Test.YtlepdbmhjkmelaaGreatDoorWqn
import Derived.Test.YtlepdbmhjkmelaaGreatDoorWqk
import Derived.Test.YtlepdbmhjkmelaaGreatDoorWql
set_option linter.unusedSimpArgs false
set_option linter.unusedVariables false
set_option maxRecDepth 100000
namespace Go.AW
open Go.Proofs.Tryz
theorem aNW{M:Int}(m:Nat)(hm:M+m≤1073741824):∀t:Tm,cJ M t→t.sh (m:Int)=dH m t:=by
 intro t
 induction t using Tm.ind with
 | h k n s ts ih=>
  intro h
  rw[Tm.TQ]
  by_cases hk:k=1
  · subst hk
    obtain⟨h0,h1,rfl,rfl⟩:=h.var
    unfold dH
    rw[aN rfl,yZ _ (t:=.mk 1 n ⟨#[]⟩ []) rfl,wrap64 (by omega) (by omega)]
    try rfl
  · obtain⟨_,h2⟩:=h.own hk
    unfold dH at ih ⊢
    rw[aK hk,xJ _ hk]
    congr 1
    exact qK fun x hx=>ih x hx (h2 x hx)
abbrev NA:=zi aX (zi cI (zi cC (zi IT aPZ)))
theorem YO(bd:List Tm)(N aU:Nat)(rest:List RG)(hb:∀t∈bd,bF 26 t)(h6:bd.length≤6)(hN:N≤1048576)(hr:rest.length≤1048576)(st:aA) :
 aD prog 135 [.slice (bd.map Tm.av),.int .i64 (N:Int),.int .i64 (aU:Int),.slice (rest.map eX)] st (fun r st'=>r=.slice ((bd.map (fun t=>(⟨dH N t,aU⟩:RG))++rest).map eX)∧st'=st):=by
 refine aD.oS (aD.fin ?_)
 refine wF [1000000] 4 func135 ntmps135 rfl rfl ?_
 intro _
 simp only[aB,seval,NA]
 refine dI (σ:=Nat) [1000000] [0,1,2,3,8] bd (fun i b=>((bd.take i).map (fun t=>(⟨dH N t,aU⟩:RG))).map eX≠[]→st b=none) (fun i b=>[(9,bQ 5 b (((bd.take i).map (fun t=>(⟨dH N t,aU⟩:RG))).map eX)),(10,.int .i64 i)]) (fun i b=>bK st b (((bd.take i).map (fun t=>(⟨dH N t,aU⟩:RG))).map eX)) (by decide +kernel) ⟨0,fun h=>absurd rfl h,aP.mk (by simp only[kE,bS,lT,aB,↓aW,seval])⟩ (fun i x b hx hlt a7 hdr hinv=>?_) (fun b hge hinv=>?_)
 case refine_1=>
  have hw:=aZ (n:=(i:Int)+1)
  have dO:(((bd.take i).map (fun t=>(⟨dH N t,aU⟩:RG))).map eX).length=i:=by simp only[aE,dZ];omega
  have htk:(((bd.take i).map (fun t=>(⟨dH N t,aU⟩:RG))).map eX)++ [eX ⟨dH N x,aU⟩]=(((bd.take (i+1)).map (fun t=>(⟨dH N t,aU⟩:RG))).map eX):=by rw[fN,hx];simp
  have hxo:=hb x (cH hx)
  have hsh:=aNW N (by omega) x hxo.1
  have hcs:=PY (N:Int) x
  rw[hsh] at hcs
  have hgo:eX ⟨dH N x,aU⟩=.agg ((dH N x).av.cells++ [.int .i64 (aU:Int)]):=a7T _
  simp only[a7,aE,bH (av:=Tm.av) bY hx (aT x),cD,aT,aB,seval,NA]
  refine(hcs _ hxo.1.small).to ?_
  generalize dH N x=y at *
  obtain⟨yk,yn,ys,yt⟩:=y
  simp only[bD,BO] at htk hgo ⊢
  simp only[aB,seval,NA]
  refine gA G1 QP QZ rfl rfl (g8 rfl rfl) (by intro e he;simp only[cF] at he;obtain⟨t,_,rfl⟩:=he;exact ES t) hinv (by simp only[dO,a8,bG];omega) (by simp only[dO,a8,bG];omega) (fun b' hb'=>?_)
  rw[htk] at hb' ⊢
  simp only[hw,aB,seval]
  exact⟨b',hb',aP.mk (by simp only[aB,seval])⟩
 rw[eD] at hinv ⊢
 simp only[aE,hge,aB,seval,NA]
 refine gA (xs:=rest.map eX) G1 QP QZ rfl rfl (by intro e he;simp only[cF] at he;obtain⟨t,_,rfl⟩:=he;exact⟨ES t,a7U t⟩) (by intro e he;simp only[cF] at he;obtain⟨t,_,rfl⟩:=he;exact ES t) hinv (by simp only[aE];omega) (by simp only[aE];omega) (fun b' hb'=>?_)
 rw[←oN] at hb' ⊢
 simp only[aB,seval]
 exact⟨b',_,st,rfl,hb',by intro e he;simp only[cF] at he;obtain⟨t,_,rfl⟩:=he;exact a7S t,⟨5,by intro e he;simp only[cF] at he;obtain⟨t,_,rfl⟩:=he;exact ES t⟩,by rw[nT],aO.refl _⟩
def qW(p:List Cl)(t:Tm)(i:Nat):Bool:=match p[i]? with
 | some c=>HD c t
 | none=>false
theorem LA(p:List Cl)(t:Tm):eS p t=(List.range p.length).filter (qW p t):=rfl
theorem aKF(p:List Cl)(t:Tm)(i:Nat):(List.range (i+1)).filter (qW p t)=(List.range i).filter (qW p t)++(if qW p t i=true then[i] else[]):=by
 rw[List.range_succ,List.filter_append]
 congr 1
 by_cases h:qW p t i=true<;>simp [h]
theorem LB(p:List Cl)(t:Tm)(i:Nat):((List.range i).filter (qW p t)).length≤i:=by
 have:=List.length_filter_le (qW p t) (List.range i)
 rw[List.length_range] at this
 exact this
theorem SS(l:List Nat):∀e∈l.map nv,e.width=1:=by intro e h;simp only[cF] at h;obtain⟨t,_,rfl⟩:=h;rfl
abbrev E8:=zi aX (zi d9 (zi gL (zi cI (zi cC (zi kX iP)))))
theorem aVK(p:List Cl)(t:Tm)(hp:p.length≤1048576)(st:aA):aD prog 142 [.slice (p.map aG),t.av] st (fun r st'=>r=.slice ((eS p t).map nv)∧st'=st):=by
 rw[LA]
 refine aD.done ?_
 obtain⟨tk,tn,ts',tts⟩:=t
 simp only[bD]
 refine wF [1000000] 2 func142 ntmps142 rfl rfl ?_
 intro _
 simp only[aB,seval,E8]
 refine vY (σ:=Unit) [1000000] [0,3,4] p 1 5 (fun i _=>((List.range i).filter (qW p (.mk tk tn ts' tts))).map nv) (fun _ _=>True) (fun i _=>[(6,.int .i64 i)]) (fun _ _=>st) (fun i _ _ e he=>by simp only[cF] at he;obtain⟨t,_,rfl⟩:=he;exact⟨rfl,rfl⟩) (by decide +kernel) ⟨(),0,trivial,fun h=>absurd rfl h,aP.mk (by simp only[lT,List.range_zero,List.filter_nil,bS,aB,↓aW,seval])⟩ (fun i x s b hx hlt a7 hdr hinv hb=>?_) (fun s b hge hinv=>?_)
 case refine_2=>
  simp only[hge,gW,iC,nE,DJ,lF,aE,aB,seval,E8]
  exact⟨rfl,aO.refl _⟩
 have hw:=aZ (n:=(i:Int)+1)
 have hst:=aKF p (.mk tk tn ts' tts) i
 have hln:=LB p (.mk tk tn ts' tts) i
 have hat:=bH (av:=aG) (P:=prog) lD hx (fQ x)
 obtain⟨⟨k,n,s',ts⟩,bd⟩:=x
 rw[mQ] at hat
 have hP:qW p (.mk tk tn ts' tts) i=(decide (s'=ts')&&decide ((ts.length:Int)=(tts.length:Int))):=by unfold qW;rw[hx];try rfl
 rw[hP] at hst
 simp only[a7,aE,aB,seval,E8]
 refine wP [(0,1),(1,1),(2,1),(3,1),(4,1),(6,1),(5,2),(7,2),(8,1),(9,1),(10,1),(11,1),(12,1),(13,1),(14,1),(17,1),(15,2),(16,1),(18,2),(19,1),(20,1),(21,1)] [0,1,2,3,4,6,5,7,8,9,10,11,12,13,14,17,15,16,18,19,20,21] mixed ?_
 simp only[hat,aB,seval,E8]
 refine cP (fun h=>?_) (fun h=>?_)
 case refine_2=>
  have h':(decide (s'=ts')&&decide ((ts.length:Int)=(tts.length:Int)))=false:=by simp at h;simp [h]
  rw[h',aK (by simp),eU] at hst
  rw[←hst] at hb ⊢
  simp only[h,hw,aB,seval]
  exact⟨(),b,hb,aP.mk (by simp only[aB,seval])⟩
 have h1:decide (s'=ts')=true:=by simpa using h
 rw[h1,gM] at hst
 simp only[h,aE,hat,aB,seval,E8]
 refine aQ (fun h2=>?_) (fun h2=>?_)
 · rw[aN h2] at hst
   simp only[aB,seval,E8]
   refine gA iL DE AK rfl rfl (g8 rfl rfl) (SS _) hb (by simp only[aE,a8,bG];omega) (by simp only[aE,a8,bG];omega) (fun b' hb'=>?_)
   rw[show ∀l:List Nat,l.map nv++ [AV.int .i64 (i:Int)]=(l++ [i]).map nv from fun l=>by simp [nv],←hst] at hb' ⊢
   simp only[hw,aB,seval]
   exact⟨(),b',hb',aP.mk (by simp only[aB,seval])⟩
 · rw[aK (by simp [h2]),eU] at hst
   rw[←hst] at hb ⊢
   simp only[hw,aB,seval]
   exact⟨(),b,hb,aP.mk (by simp only[aB,seval])⟩
theorem SI{n:Int}:∀ {l:List Int},l.Nodup→∀ {i:Nat},l[i]?=some n→∀j:Int,eN n l j=j+i
 | [],_,i,h,j=>by simp at h
 | x::l,hd,0,h,j=>by
  simp only[JF,Option.some.injEq] at h
  subst h
  simp [eN]
 | x::l,hd,i+1,h,j=>by
  rw[FS] at hd
  rw[JE] at h
  have hm:=cH h
  simp only[eN]
  rw[aK (fun e:n=x=>hd.1 (e▸hm)),SI hd.2 h (j+1)]
  omega
abbrev nJ:=zi aX (zi d9 (zi cI (zi cC iP)))
theorem YF(vars:List Int)(hnd:vars.Nodup)(hvl:vars.length≤1048576):∀(t:Tm) (st:aA),t.small=true→t.cv=true→(∀v∈t.vl,v∈vars)→aD prog 158 [t.av,.slice (vars.map iv)] st (fun r st'=>r=(t.aL fun v=>vr (eN v vars 0)).av∧st'=st)
 | .mk k n s ts,st,hsm,hcv,hin=>by
  obtain⟨hlen,sP⟩:=Tm.rJ hsm
  obtain⟨hc1,hcs⟩:=Tm.oR.1 hcv
  have IH:=fun(x:Tm) (hx:x∈ts) st=>YF vars hnd hvl x st (sP x hx) (hcs x hx) (fun v hv=>by
   by_cases hk:k=1
   · rw[(hc1 hk).2] at hx;cases hx
   · exact hin v ((Tm.kY hk).2 ⟨x,hx,hv⟩))
  generalize hg:(Tm.aL fun v=>vr (eN v vars 0))=g at IH
  refine aD.oS (aD.fin ?_)
  simp only[bD]
  refine wF [1000000,5] 2 func158 ntmps158 rfl rfl ?_
  intro _
  simp only[aM,aB,↓aW,seval,nJ]
  intro b4 h4 c hc
  have hne:c≠b4:=by rintro rfl;rw[aA.aJ] at hc;cases hc
  have hnc:st c=none:=by rw[aA.aF st _ hne] at hc;exact hc
  have R5:∀i:Nat,vars[i]?=some n→eN n vars 0=(i:Int):=fun i hi=>by
   have:=SI hnd hi 0
   omega
  generalize hW:st.aC b4 (.cells [AV.int .i64 0,AV.int .i64 0,AV.str ⟨#[]⟩,AV.fslice []])=W
  have hWc:W c=none:=by rw[←hW];exact hc
  have hW4:W b4=some (.cells [AV.int .i64 0,AV.int .i64 0,AV.str ⟨#[]⟩,AV.fslice []]):=by rw[←hW];exact aA.aJ _ _ _
  have hS:W b4≠none:=by rw[hW4];simp
  have LI:b4≠c:=dA hne
  refine oI (σ:=Nat×Int) [1000000,5] [1,2,4,5] (fun p=>p.1≤vars.length∧(k≠1→p.2=n)∧(k=1→(n∈vars.take p.1→p.2=eN n vars 0))) (fun p=>[(6,.int .i64 p.1)]) (fun p=>W.aC c (.cells [.int .i64 k,.int .i64 p.2,.str s,.fslice []])) (fun p=>vars.length - p.1) (by decide +kernel) ⟨(0,n),⟨nO _,fun _=>rfl,fun _ h=>by simp at h⟩,aP.mk (by simp only[aB,↓aW,seval])⟩ ?_
  rintro⟨i,n'⟩ ⟨h1,h2,h3⟩
  simp only at h1 h2 h3
  have rest:(k=1→n'=eN n vars 0)→True:=fun _=>trivial
  simp only[aE,aB,seval,nJ]
  have fin:(k=1→n'=eN n vars 0)→g (.mk k n s ts)=.mk k n' s (ts.map g):=fun h4=>by
   rw[←hg]
   by_cases hk:k=1
   · obtain⟨rfl,rfl⟩:=hc1 hk
     rw[Tm.mG _ hk,h4 hk,hk];try rfl
   · rw[Tm.kA _ hk,h2 hk]
  refine cP (fun h=>?_) (fun h=>?_)
  case refine_2=>
   have h4:(k=1→n'=eN n vars 0):=fun hk=>h3 hk (by
    have:i=vars.length:=by simp at h;omega
    rw[this,eD]
    exact hin n (by rw[Tm.mZ hk];simp))
   simp only[h,aB,seval]
   refine dI (σ:=Nat) [1000000,5] [1,2,4,5] ts (fun i b=>(((ts.take i).map g).map Tm.av≠[]→(aA.aC W c (.cells ([AV.int .i64 k,AV.int .i64 (n'),AV.str s]++ [bQ 4 b (((ts.take i).map g).map Tm.av)]))) b=none)) (fun i b=>[(7,.int .i64 i)]) (fun i b=>lH W c b [AV.int .i64 k,AV.int .i64 (n'),AV.str s] (((ts.take i).map g).map Tm.av)) (by decide +kernel)
    ⟨0,fun h=>absurd rfl h,aP.mk (by simp only[aB,↓aW,seval])⟩ (fun i x b hx hlt a7 hdr hinv=>?_) (fun b hge hinv=>?_)
   case refine_1=>
    have hw:=aZ (n:=(i:Int)+1)
    have dO:(((ts.take i).map g).map Tm.av).length=i:=by simp only[aE,dZ];omega
    have htk:(ts.take (i+1)).map g=(ts.take i).map g++ [g x]:=by rw[fN,hx];simp
    have hbo:=mF hinv
    simp only[aE,a7,aE,aB,seval,nJ]
    refine wP [(0,1),(2,1),(4,1),(7,1),(1,2),(3,2),(5,1),(6,2),(8,2),(9,1),(10,0),(11,1),(12,0)] [0,2,4,7,1,3,5,6,8,9,11] mixed ?_
    simp only[bH (av:=Tm.av) bY hx (aT x),cD,aT,hbo,rZ,aB,seval,nJ]
    refine iD (IH x (cH hx) _) ?_
    simp only[cD,aT,Tm.fP,aB,seval,nJ]
    refine gA bY lC lE rfl rfl (g8 (aT _) (Tm.e9 _)) (iX _) hinv (by simp only[dO,a8,bG];omega) (by simp only[dO,a8,bG];omega) (fun b' hb'=>?_)
    rw[show(((ts.take i).map g).map Tm.av)++ [(g x).av]=((ts.take (i+1)).map g).map Tm.av by rw[htk];simp] at hb' ⊢
    obtain⟨g1,g2,g3⟩:=xB hb'
    simp only[gR,eE] at g1 g3
    simp only[g3,nS,iK,aM,g1,hw,aM,aB,seval,nJ]
    exact⟨b',g2,aP.mk (by simp only[aB,seval])⟩
   have hbo:=mF hinv
   rw[eD] at hinv hbo ⊢
   simp only[aE,hge,aE,aB,seval,nJ]
   simp only[hbo,aM,aB,seval,nJ]
   have g1:=oA hinv hS LI
   rw[hW4] at g1
   simp only[g1,iK,aB,seval]
   obtain⟨g2,g3⟩:=vL (o:=.cells [AV.int .i64 k,AV.int .i64 (n'),AV.str s,bQ 4 b ((ts.map g).map Tm.av)]) hinv hS LI
   refine⟨b,_,_,g2,g3,tC _,⟨4,iX _⟩,?_,fun x=>?_⟩
   · simp only[gJ,bR,bS,gW,pV,nT,←bD]
     rw[fin h4]
   · subst hW
     by_cases e3:x=b4<;>by_cases e4:x=c<;>simp_all [aA.aC]
  have hlt:i<vars.length:=by simpa using h
  simp only[h,aB,seval,nJ]
  refine aQ (fun h5=>?_) (fun h5=>?_)
  case refine_2=>
   have h5':k≠1:=by simpa using h5
   have h4:(k=1→n'=eN n vars 0):=fun hk=>absurd hk h5'
   simp only[aB,seval]
   refine dI (σ:=Nat) [1000000,5] [1,2,4,5] ts (fun i b=>(((ts.take i).map g).map Tm.av≠[]→(aA.aC W c (.cells ([AV.int .i64 k,AV.int .i64 (n'),AV.str s]++ [bQ 4 b (((ts.take i).map g).map Tm.av)]))) b=none)) (fun i b=>[(7,.int .i64 i)]) (fun i b=>lH W c b [AV.int .i64 k,AV.int .i64 (n'),AV.str s] (((ts.take i).map g).map Tm.av)) (by decide +kernel)
    ⟨0,fun h=>absurd rfl h,aP.mk (by simp only[aB,↓aW,seval])⟩ (fun i x b hx hlt a7 hdr hinv=>?_) (fun b hge hinv=>?_)
   case refine_1=>
    have hw:=aZ (n:=(i:Int)+1)
    have dO:(((ts.take i).map g).map Tm.av).length=i:=by simp only[aE,dZ];omega
    have htk:(ts.take (i+1)).map g=(ts.take i).map g++ [g x]:=by rw[fN,hx];simp
    have hbo:=mF hinv
    simp only[aE,a7,aE,aB,seval,nJ]
    refine wP [(0,1),(2,1),(4,1),(7,1),(1,2),(3,2),(5,1),(6,2),(8,2),(9,1),(10,0),(11,1),(12,0)] [0,2,4,7,1,3,5,6,8,9,11] mixed ?_
    simp only[bH (av:=Tm.av) bY hx (aT x),cD,aT,hbo,rZ,aB,seval,nJ]
    refine iD (IH x (cH hx) _) ?_
    simp only[cD,aT,Tm.fP,aB,seval,nJ]
    refine gA bY lC lE rfl rfl (g8 (aT _) (Tm.e9 _)) (iX _) hinv (by simp only[dO,a8,bG];omega) (by simp only[dO,a8,bG];omega) (fun b' hb'=>?_)
    rw[show(((ts.take i).map g).map Tm.av)++ [(g x).av]=((ts.take (i+1)).map g).map Tm.av by rw[htk];simp] at hb' ⊢
    obtain⟨g1,g2,g3⟩:=xB hb'
    simp only[gR,eE] at g1 g3
    simp only[g3,nS,iK,aM,g1,hw,aM,aB,seval,nJ]
    exact⟨b',g2,aP.mk (by simp only[aB,seval])⟩
   have hbo:=mF hinv
   rw[eD] at hinv hbo ⊢
   simp only[aE,hge,aE,aB,seval,nJ]
   simp only[hbo,aM,aB,seval,nJ]
   have g1:=oA hinv hS LI
   rw[hW4] at g1
   simp only[g1,iK,aB,seval]
   obtain⟨g2,g3⟩:=vL (o:=.cells [AV.int .i64 k,AV.int .i64 (n'),AV.str s,bQ 4 b ((ts.map g).map Tm.av)]) hinv hS LI
   refine⟨b,_,_,g2,g3,tC _,⟨4,iX _⟩,?_,fun x=>?_⟩
   · simp only[gJ,bR,bS,gW,pV,nT,←bD]
     rw[fin h4]
   · subst hW
     by_cases e3:x=b4<;>by_cases e4:x=c<;>simp_all [aA.aC]
  have hk:k=1:=by simpa using h5
  obtain⟨x,hx⟩:∃x,vars[i]?=some x:=⟨_,eK hlt⟩
  have hat:dP prog 148 (.slice (vars.map iv)) (.int .i64 (i:Int))=some (.pptr (.int .i64 x)):=bH (av:=iv) iL hx rfl
  have hw:=aZ (n:=(i:Int)+1)
  have htk:vars.take (i+1)=vars.take i++ [x]:=by rw[fN,hx];try rfl
  simp only[aB,seval]
  refine wP [(0,1),(1,1),(2,1),(4,1),(3,2),(5,2),(6,1)] [0,1,2,4,3,5,6] mixed ?_
  simp only[hat,aB,seval,nJ]
  refine aQ (fun h6=>?_) (fun h6=>?_)
  · have h6':x=n:=by simpa using h6
    subst h6'
    simp only[aM,hw,aB,seval,nJ]
    refine⟨(i+1,(i:Int)),by simp only;omega,⟨hlt,fun h=>absurd hk h,fun _ _=>(R5 i hx).symm⟩,aP.mk (by simp only[aB,seval])⟩
  · have h6':x≠n:=by simpa using h6
    simp only[hw,aB,seval]
    refine⟨(i+1,n'),by simp only;omega,⟨hlt,h2,fun hk hm=>h3 hk ?_⟩,aP.mk (by simp only[aB,seval])⟩
    rw[htk,eL] at hm
    rcases hm with hm | hm
    · exact hm
    · simp only[cG,cX,dG] at hm
      exact absurd hm.symm h6'
termination_by t=>SizeOf.sizeOf t
decreasing_by have:=List.sizeOf_lt_of_mem hx;simp only[Tm.mk.sizeOf_spec];omega
theorem N7:∀(ts:List Tm) (l:List Int),(∀t∈ts,t.wf=true)→l.Nodup→(cA ts l).Nodup
 | [],l,_,h=>h
 | t::ts,l,hw,h=>N7 ts _ (fun x hx=>hw x (by simp [hx])) ((VP t (hw t (by simp)) l).2.1 h)
theorem EA:∀l:List Tm,(∀t∈l,t.nodes≤120)→aH Tm.nodes l≤l.length*120
 | [],_=>by simp [aH]
 | x::l,h=>by
  simp only[aH,a8]
  have:=EA l fun y hy=>h y (by simp [hy])
  have:=h x (by simp)
  omega
abbrev E9:=zi aX (zi cI (zi cC iP))
theorem aVH{N:Int}(l:List Tm)(hok:∀t∈l,bF N t)(hl:l.length≤1000)(st:aA):aD prog 138 [.slice (l.map Tm.av)] st (fun r st'=>r=.slice ((kV l).map Tm.av)∧st'=st):=by
 have hnd:=EA l fun t ht=>(hok t ht).2
 have RV:=N7 l [] (fun t ht=>Tm.tT t (hok t ht).1.2.1) mJ
 have fZ:=fun v=>xR (v:=v) l [] fun t ht=>(hok t ht).1.2.1
 have hvl:=zH l []
 simp only[bG] at hvl
 refine aD.done ?_
 refine wF [1000000] 1 func138 ntmps138 rfl rfl ?_
 intro _
 simp only[aB,seval,E9]
 refine vY (σ:=Unit) [1000000] [0,2] l 1 3 (fun i _=>(cA (l.take i) []).map iv) (fun _ _=>True) (fun i _=>[(4,.int .i64 i)]) (fun _ _=>st) (fun i _ _ e he=>by simp only[cF] at he;obtain⟨t,_,rfl⟩:=he;exact⟨rfl,rfl⟩) (by decide +kernel) ⟨(),0,trivial,fun h=>absurd rfl h,aP.mk (by simp only[lT,kE,cA,bS,aB,↓aW,seval])⟩ (fun i x s b hx hlt a7 hdr hinv hb=>?_) (fun s b hge hinv=>?_)
 case refine_1=>
  have hw:=aZ (n:=(i:Int)+1)
  have hat:=bH (av:=Tm.av) bY hx (aT x)
  have hst:=rK Tm.nodes hx
  have hvl:=zH (l.take i) []
  simp only[bG,jW] at hvl
  have htk:x.vars (cA (l.take i) [])=cA (l.take (i+1)) []:=by
   rw[fN,hx,VD]
   try rfl
  simp only[a7,aE,hat,cD,aT,aB,seval,E9]
  refine(GR x (cA (l.take i) []) b st (Tm.tT x (hok x (cH hx)).1.2.1) hb (by omega)).mono ?_
  rintro _ _ ⟨b',rfl,rfl,hb'⟩
  rw[htk] at hb' ⊢
  simp only[aB,seval]
  exact⟨(),b',hb',aP.mk (by simp only[hw,aB,seval])⟩
 simp only[hge,gW,iC,nE,lF,eD,aE,aB,seval,E9]
 have hR:kV l=l.map fun t=>t.aL fun v=>vr (eN v (cA l []) 0):=rfl
 rw[hR]
 generalize cA l []=vars at *
 refine vY (σ:=Unit) [1000000] [0,2,3] l 4 5 (fun i _=>((l.take i).map fun t=>t.aL fun v=>vr (eN v vars 0)).map Tm.av) (fun _ _=>True) (fun i _=>[(6,.int .i64 i)]) (fun _ _=>st) (fun i _ _ e he=>by simp only[cF] at he;obtain⟨t,_,rfl⟩:=he;exact⟨Tm.fP _,aT _⟩) (by decide +kernel) ⟨(),0,trivial,fun h=>absurd rfl h,aP.mk (by simp only[lT,kE,bS,aB,↓aW,seval])⟩ (fun i x s b hx hlt a7 hdr hinv hb=>?_) (fun s b hge hinv=>?_)
 case refine_2=>
  simp only[hge,gW,iC,lF,eD,aE,aB,seval,E9]
  exact⟨rfl,aO.refl _⟩
 have hw:=aZ (n:=(i:Int)+1)
 have hat:=bH (av:=Tm.av) bY hx (aT x)
 have hxm:=cH hx
 have dO:(((l.take i).map fun t=>t.aL fun v=>vr (eN v vars 0)).map Tm.av).length=i:=by simp only[aE,dZ];omega
 simp only[a7,aE,hat,cD,aT,aB,seval,E9]
 refine(YF vars RV (by omega) x _ (hok x hxm).1.small (hok x hxm).1.2.1 (fun v hv=>(fZ v).2 (.inr ⟨x,hxm,hv⟩))).to ?_
 simp only[cD,aT,Tm.fP,aB,seval,E9]
 refine gA bY lC lE rfl rfl (g8 (aT _) (Tm.e9 _)) (iX _) hb (by simp only[dO,a8,bG];omega) (by simp only[dO,a8,bG];omega) (fun b' hb'=>?_)
 rw[show(((l.take i).map fun t=>t.aL fun v=>vr (eN v vars 0)).map Tm.av)++ [(x.aL fun v=>vr (eN v vars 0)).av]=((l.take (i+1)).map fun t=>t.aL fun v=>vr (eN v vars 0)).map Tm.av by rw[fN,hx];simp] at hb' ⊢
 simp only[aB,seval]
 exact⟨(),b',hb',aP.mk (by simp only[hw,aB,seval])⟩
abbrev aPI:=zi aX (zi cB (zi cI cC))
theorem aVC(l:List Tm)(st:aA):aD prog 139 [.slice (l.map Tm.av)] st (fun r st'=>r=.bool (l.all Tm.valid)∧st'=st):=by
 refine wF [1000000] 1 func139 ntmps139 rfl rfl ?_
 simp only[cV,AV.fits,dE,aE]
 intro ⟨hl,_⟩
 simp only[aB,seval]
 refine dI (σ:=Unit) [1000000] [0] l (fun i _=>((l.drop i).all Tm.valid)=(l.all Tm.valid)) (fun i _=>[(3,.int .i64 i)]) (fun _ _=>st) (by decide +kernel) ⟨(),rfl,aP.mk (by simp only[aB,↓aW,seval])⟩ (fun i x _ hx hlt a7 hdr hinv=>?_) (fun _ hge hinv=>?_)
 case refine_2=>
  simp only[hge,aE,aB,seval,aPI]
  rw[←hinv,iA]
  try rfl
 have hw:=aZ (n:=(i:Int)+1)
 rw[hdr,jK] at hinv
 simp only[a7,aE,bH (av:=Tm.av) bY hx (aT x),cD,aT,aB,seval,aPI]
 refine(P6 x _).to ?_
 simp only[aB,seval]
 refine aQ (fun h2=>?_) (fun h2=>?_)
 · simp only[aB,seval]
   simp only[gZ] at h2
   rw[←hinv,h2]
   try rfl
 · simp only[kZ] at h2
   rw[h2,gM] at hinv
   simp only[aB,seval]
   exact⟨(),hinv,aP.mk (by simp only[hw,aB,seval])⟩
theorem aLS(v:Int):∀(l:List Int) (i:Int),v∈l→i≤eN v l i∧eN v l i<i+l.length
 | [],i,h=>by cases h
 | x::l,i,h=>by
  simp only[eN,a8]
  split
  · omega
  · rename_i e
    have h':v∈l:=by
     rcases cG.1 h with h | h
     · exact absurd h e
     · exact h
    have:=aLS v l (i+1) h'
    omega
theorem aNL{N:Int}{l:List Tm}(hok:∀t∈l,bF N t)(hf:l.all fA=true):(kV l).all Tm.valid=decide ((cA l []).length≤26):=by
 have fZ:=fun v=>xR (v:=v) l [] fun t ht=>(hok t ht).1.2.1
 have RV:=N7 l [] (fun t ht=>Tm.tT t (hok t ht).1.2.1) mJ
 have hro:∀t∈l,cJ (cA l []).length (t.aL fun v=>vr (eN v (cA l []) 0)):=fun t ht=>
  (hok t ht).1.aL fun v hv=>by
   have:=aLS v (cA l []) 0 ((fZ v).2 (.inr ⟨t,ht,hv⟩))
   exact H0 (by omega) (by omega)
 have eW:∀t∈l,fA (t.aL fun v=>vr (eN v (cA l []) 0))=true:=fun t ht=>by
  have:=fU.1 hf t ht
  unfold fA at this ⊢
  rw[show(t.aL fun v=>vr (eN v (cA l []) 0))=bZ (fun v=>eN v (cA l []) 0) t from rfl,TM _ (hok t ht).1.2.1,MK _ (hok t ht).1.2.1]
  exact this
 rw[zR,fU,bM]
 constructor
 · intro h
   refine zS fun hn=>?_
   obtain⟨w,hw⟩:∃w,(cA l [])[26]?=some w:=⟨_,eK (by omega)⟩
   rcases (fZ w).1 (cH hw) with h1 | ⟨t,ht,hv⟩
   · cases h1
   · have yT:=h _ (cF.2 ⟨t,ht,rfl⟩)
     have hin:=(Tm.I2 yT).2.2 26 ((zL t).2 ⟨w,hv,by rw[SI RV hw 0,zN];simp⟩)
     omega
 · intro h x hx
   obtain⟨t,ht,rfl⟩:=cF.1 hx
   have h1:=aM0.2 ((hro t ht).mono (show((cA l []).length:Int)≤26 by omega))
   rw[Tm.aQS h1]
   exact eW t ht
theorem a7Q{N:Int}{l:List Tm}(hok:∀t∈l,bF N t):(kV l).length=l.length:=by unfold kV;rw[aE]
abbrev xQ:=zi aX (zi cB (zi cI (zi cC (zi iP NL))))
theorem aVT{N:Nat}{σ:Sub}(hg:cO σ)(ho:cQ (bF N) σ)(vars:List Int)(hv:∀v∈vars,0≤v∧v<(N:Int))(hl:vars.length≤1000)(st:aA) :
 aD prog 117 [.slice (vars.map iv),.slice (cS N σ)] st (fun r st'=>st'=st∧∃a,r=.tup [dM a,.bool (jZ σ vars).isSome]∧∀x,jZ σ vars=some x→a=x):=by
 obtain⟨rk,B,G⟩:=hg.rs
 refine aD.oT (aD.soft ?_)
 refine wF [1000000] 2 func117 ntmps117 rfl rfl ?_
 intro _
 simp only[aB,seval,xQ]
 intro b4 h4
 refine vY (σ:=Unit) [1000000] [0,1,4] vars 4 6 (fun i _=>((vars.take i).map (rs σ)).map Tm.av) (fun i _=>((vars.take i).map (rs σ)).all fA=true) (fun i _=>[(5,.bool false),(7,.int .i64 i)]) (fun _ _=>st.aC b4 (.cells [.fslice []])) (fun i _ _ e he=>by simp only[cF] at he;obtain⟨t,_,rfl⟩:=he;exact⟨Tm.fP _,aT _⟩) (by decide +kernel) ⟨(),0,rfl,fun h=>absurd rfl h,aP.mk (by simp only[lT,kE,bS,aB,↓aW,seval])⟩ (fun i x s b hx hlt a7 hdr hinv hb=>?_) (fun s b hge hinv=>?_)
 · have hw:=aZ (n:=(i:Int)+1)
   have hxm:=cH hx
   obtain⟨hx0,hx1⟩:=hv x hxm
   have hvr:bF N (vr x):=⟨H0 hx0 hx1,by rw[vr,Tm.lJ];simp [aH]⟩
   have hat:dP prog 148 (.slice (vars.map iv)) (.int .i64 (i:Int))=some (.pptr (.int .i64 x)):=bH (av:=iv) iL hx rfl
   have dO:(((vars.take i).map (rs σ)).map Tm.av).length=i:=by simp only[aE,dZ];omega
   have dN:((vars.take (i+1)).map (rs σ)).all fA=fA (rs σ x):=by
    rw[fN,hx]
    simp only[JJ,oN,bR,bS,xZ,hinv,jK,B9,zQ,gM]
   simp only[a7,aE,hat,aB,seval,xQ]
   refine(aVJ x _).to ?_
   simp only[aB,seval]
   refine(YP hg ho (vr x) hvr _).mono ?_
   rintro _ _ ⟨rfl,y,rfl,hy⟩
   rw[uJ] at hy ⊢
   simp only[aT,Tm.e9,Tm.fP,aB,↓aW,seval,xQ]
   refine aQ (fun h=>?_) (fun h=>?_)
   · have h':fA (rs σ x)=false:=by simpa using h
     have qZ:jZ σ vars=none:=by
      unfold jZ
      rw[aK]
      rintro⟨h1,_⟩
      have:=fU.1 h1 _ (cF.2 ⟨x,hxm,rfl⟩)
      rw[h'] at this;cases this
     have hbo:∀l,(l≠[]→st b=none)→(l≠[]→b≠b4)→(bK (st.aC b4 (.cells [.fslice []])) b l) b4=some (.cells [.fslice []]):=fun l _ h2=>by
      cases l with
      | nil=>exact aA.aJ _ _ _
      | cons e l=>simp only[bK];rw[aA.aF _ _ (dA (h2 (by simp)))];exact aA.aJ _ _ _
     have hnb:((vars.take i).map (rs σ)).map Tm.av≠[]→b≠b4:=fun h=>by rintro rfl;have:=hb h;rw[aA.aJ] at this;cases this
     have a3L:((vars.take i).map (rs σ)).map Tm.av≠[]→st b=none:=fun h=>by have:=hb h;rw[aA.aF _ _ (hnb h)] at this;exact this
     have e1:=hbo _ a3L hnb
     simp only[aM,e1,aB,seval,xQ]
     rw[qZ]
     refine⟨st,?_,rfl,[],rfl,fun x h=>by cases h⟩
     intro z
     by_cases hz:z=b4
     · subst hz;simp [aA.aC,h4]
     · rw[aA.aF _ _ hz]
       exact((aO.bK (aO.refl _) hb).trans ((aO.refl st).aC h4)) z
   · have h':fA (rs σ x)=true:=by simpa using h
     obtain rfl:=hy h'
     simp only[cD,aT,Tm.fP,aB,seval,xQ]
     refine gA bY lC lE rfl rfl (g8 (aT _) (Tm.e9 _)) (iX _) hb (by simp only[dO,a8,bG];omega) (by simp only[dO,a8,bG];omega) (fun b' hb'=>?_)
     rw[show(((vars.take i).map (rs σ)).map Tm.av)++ [(rs σ x).av]=((vars.take (i+1)).map (rs σ)).map Tm.av by rw[fN,hx];simp] at hb' ⊢
     simp only[hw,aB,seval]
     exact⟨(),b',by rw[dN];exact h',hb',aP.mk (by simp only[aB,seval])⟩
 · rw[eD] at hinv
   have hok:∀t∈vars.map (rs σ),bF N t:=fun t ht=>by
    obtain⟨v,h,rfl⟩:=cF.1 ht
    obtain⟨h0,h1⟩:=hv v h
    have hf:=fU.1 hinv _ ht
    unfold fA at hf
    simp only[cY,bM] at hf
    exact⟨G.mI ho.mI v h0 h1,hf.2⟩
   have yT:=aNL hok hinv
   have qZ:jZ σ vars=if(cA (vars.map (rs σ)) []).length≤26 then some (kV (vars.map (rs σ))) else none:=by
    unfold jZ
    simp only[hinv,true_and]
   have a3Y:=fun st=>aVH _ hok (by rw[aE];exact hl) st
   have dN:=fun st=>aVC (kV (vars.map (rs σ))) st
   rw[yT] at dN
   generalize kV (vars.map (rs σ))=R at *
   generalize (cA (vars.map (rs σ)) []).length=m at *
   simp only[hge,gW,lV,iC,K4,lF,eD,wT,aE,aB,seval,xQ]
   refine(a3Y _).to ?_
   simp only[aB,↓aW,seval,xQ]
   refine wP [(1,1),(0,2),(2,2),(3,2),(4,0),(5,1)] [1,0,2,3,5] mixed ?_
   simp only[aB,seval,xQ]
   refine iD (dN _) ?_
   simp only[aM,aB,seval,xQ]
   refine⟨st,(aO.refl _).aC h4,rfl,R,?_,fun x h=>?_⟩
   · rw[qZ]
     simp only[vP,xM,xL,MP,bR,bS]
     by_cases h:m≤26
     · simp [h]
     · simp [h]
   · rw[qZ] at h
     split at h
     · cases h;rfl
     · cases h
theorem TI(k n:Int)(s:ByteArray)(ts:List Tm)(rest:List RG)(left:List Nat)(σ:Sub)(N:Nat):f8 ⟨.mk k n s ts,rest,left,σ,N⟩=.agg [.int .i64 k,.int .i64 n,.str s,.slice (ts.map Tm.av),.slice (rest.map eX),.slice (left.map nv),.slice (cS N σ)]:=rfl
structure yA (p:List Cl) (c:RC):Prop where
 gX:cO c.σ
 ok:cQ (bF c.N) c.σ
 wQ:∀n,¬(0≤n∧n<(c.N:Int))→c.σ n=none
 goal:bF c.N c.goal
 rest:∀g∈c.rest,bF c.N g.t∧g.t.k=3
 left:∀i∈c.left,i<p.length
 len:c.rest.length≤524288
 a5D:c.left.length≤1048576
structure qN (p:List Cl) (B:Nat) (s:RS):Prop where
 gX:cO s.σ
 ok:cQ (bF s.N) s.σ
 wQ:∀n,¬(0≤n∧n<(s.N:Int))→s.σ n=none
 goals:∀g∈s.goals,bF s.N g.t∧g.t.k=3
 pos:0<s.N
 hN:s.N≤B
 gl:s.goals.length≤B
 pT:s.chs.length≤B
 chs:∀c∈s.chs,yA p c∧c.N+26≤B∧c.rest.length+26≤B∧0<c.N
theorem cQ.upN{N M:Nat}{σ:Sub}(h:cQ (bF N) σ)(hm:N≤M):cQ (bF M) σ:=h.imp fun t ht=>ht.mono (by omega)
theorem aR9{N k:Nat}{σ:Sub}(hd:∀n,¬(0≤n∧n<(N:Int))→σ n=none):cS N σ++List.replicate k zt=cS (N+k) σ:=by
 apply JC
 intro i
 have hl:=vA N σ
 by_cases hi:i<N
 · rw[VY (by omega),AD N σ hi,AD (N+k) σ (by omega)]
 · rw[VZ (by omega),hl]
   by_cases h2:i<N+k
   · rw[AD (N+k) σ h2,hd (i:Int) (fun h=>hi (by omega)),List.getElem?_replicate,aN (by omega)]
     try rfl
   · rw[FQ (by simp;omega),FQ (by rw[vA];omega)]
theorem aR3{N k b:Nat}{σ:Sub}(hd:∀n,¬(0≤n∧n<(N:Int))→σ n=none)(hN:N+k≤1048576){st:aA}{K:AV→aA→Prop}(hb:st b=none)
 (hK:∀b',st b'=none→K (.mslice b' 0 (N+k) 4) (st.aC b' (.cells ((cS (N+k) σ).flatMap AV.cells)))) :
 qO prog 46 3 (st.aC b (.cells ((cS N σ).flatMap AV.cells))) (.mslice b 0 N 4) (.int .i64 (k:Int)) K:=by
 have hu:prog.underlying 3=some (.int .i64):=by kernel_rfl
 have hl:((cS N σ).flatMap AV.cells).length=N*4:=by rw[mD (fun e he=>(W9 N σ e he).1),vA]
 have kM:((cS N σ).flatMap AV.cells).take (N*4)++jH [AV.int .i64 0,.int .i64 0,.str ⟨#[]⟩,.fslice []] k=(cS (N+k) σ).flatMap AV.cells:=by
  rw[←hl,eD,BF _ (by simp),←aR9 hd,vZ,List.flatMap_replicate]
  try rfl
 unfold qO
 simp only[bY,lC,lE,hu,aA.aJ,kB]
 refine⟨rfl,by omega,rfl,by omega,trivial,by omega,by omega,by omega,?_,fun b' hb'=>?_⟩
 · rw[kM,dR]
   exact hK b hb
 · rw[kM,aA.AL st b _ hb]
   refine hK b' ?_
   by_cases h:b'=b
   · subst h;exact hb
   · rwa [aA.aF _ _ h] at hb'
theorem aQJ{st s2 V:aA}{o' o6:AO}{b6 b11 b13 b14 b:Nat}{L A:List AV}(hD:aO s2 st)(hA:s2 b11=some (.cells (A.flatMap AV.cells)))(h11:st b11=none)(h6:st b6=none)(h62:s2 b6≠none)(aKO:b6≠b11)(h13:s2 b13=none)(h14:s2 b14=none)
 (hV:∀q,q≠b13→q≠b14→V q=s2 q) (LE:V b13≠none) (DO:V b14≠none) (hb:L≠[]→V b=none) (hne:A≠[]) :
 aO (((bK V b L).aC b13 o').aC b6 o6) (bK (bK st b11 A) b L)∧(L≠[]→(bK st b11 A) b=none):=by
 have aKX:b13≠b11:=by rintro rfl;rw[h13] at hA;cases hA
 have a2G:b14≠b11:=by rintro rfl;rw[h14] at hA;cases hA
 have LC:b13≠b6:=by rintro rfl;exact h62 h13
 have n13:st b13=none:=(hD b13).1 h13
 have n14:st b14=none:=(hD b14).1 h14
 rw[lS hne]
 have hbb:L≠[]→b≠b13∧b≠b11∧b≠b6∧b≠b14∧s2 b=none:=fun h=>by
  have h0:=hb h
  have e13:b≠b13:=by rintro rfl;exact LE h0
  have e14:b≠b14:=by rintro rfl;exact DO h0
  rw[hV b e13 e14] at h0
  exact⟨e13,(by rintro rfl;rw[h0] at hA;cases hA),(by rintro rfl;exact h62 h0),e14,h0⟩
 refine⟨fun q=>?_,fun h=>?_⟩
 · by_cases q6:q=b6
   · subst q6
     have:bK (st.aC b11 (.cells (A.flatMap AV.cells))) b L q=none:=by
      by_cases hL:L= []
      · subst hL;simp only[bK];rw[aA.aF _ _ aKO,h6]
      · obtain⟨_,_,e6,_⟩:=hbb hL
        rw[lS hL,aA.aF _ _ (dA e6),aA.aF _ _ aKO,h6]
     rw[this];simp
   rw[aA.aF _ _ q6]
   by_cases q13:q=b13
   · subst q13
     have:bK (st.aC b11 (.cells (A.flatMap AV.cells))) b L q=none:=by
      by_cases hL:L= []
      · subst hL;simp only[bK];rw[aA.aF _ _ aKX,n13]
      · obtain⟨e13,_⟩:=hbb hL
        rw[lS hL,aA.aF _ _ (dA e13),aA.aF _ _ aKX,n13]
     rw[this];simp
   rw[aA.aF _ _ q13]
   have rest:q≠b∨L= []→(V q=none→st.aC b11 (.cells (A.flatMap AV.cells)) q=none)∧∀o,st.aC b11 (.cells (A.flatMap AV.cells)) q=some o→V q=some o:=fun _=>by
    by_cases q14:q=b14
    · subst q14
      rw[aA.aF _ _ a2G,n14]
      simp
    rw[hV q q13 q14]
    by_cases q11:q=b11
    · subst q11;rw[aA.aJ,hA];simp
    rw[aA.aF _ _ q11]
    exact hD q
   by_cases hL:L= []
   · subst hL
     exact rest (.inr rfl)
   · rw[lS hL,lS hL]
     by_cases qb:q=b
     · subst qb;rw[aA.aJ,aA.aJ];simp
     rw[aA.aF _ _ qb,aA.aF _ _ qb]
     exact rest (.inl qb)
 · obtain⟨e13,e11,e6,e14,h0⟩:=hbb h
   rw[aA.aF _ _ e11]
   exact(hD b).1 h0
theorem CT{st:aA}{b q:Nat}{l:List AV}{o:AO}(hb:l≠[]→st b=none)(h:st q=some o):bK st b l q=some o:=by
 cases l with
 | nil=>exact h
 | cons x l=>
  rw[lS (by simp),aA.aF _ _ (by rintro rfl;rw[hb (by simp)] at h;cases h)]
  exact h
theorem aKB{b b' o n w:Nat}{l:List AV}(h:l≠[]→b'≠b):(AV.mslice b' o n w).fin b l=.mslice b' o n w:=by
 unfold AV.fin
 cases l with
 | nil=>rfl
 | cons x l=>
  simp only[List.isEmpty_cons,iE,cM]
  cases o with
  | zero=>simp only[AV.fz];rw[aK (fun e=>h (by simp) e.1)];try rfl
  | succ o=>rfl
theorem K0{b N:Nat}{σ:Sub}(h0:0<N):(AV.mslice b 0 N 4).fin b (cS N σ)=.slice (cS N σ):=by
 have hl:=vA N σ
 have h:cS N σ≠[]:=by intro e;rw[e] at hl;simp at hl;omega
 have:bQ 4 b (cS N σ)=.mslice b 0 N 4:=by rw[r7 h,hl]
 rw[←this,nT]
theorem a7D(l:List RC):∀e∈l.map f8,e.bV=false:=by intro e he;simp only[cF] at he;obtain⟨t,_,rfl⟩:=he;exact a7B t
theorem a7E(l:List RC):∀e∈l.map f8,e.width=7:=by intro e he;simp only[cF] at he;obtain⟨t,_,rfl⟩:=he;exact MJ t
theorem aN5{φ:AF}{d i:Nat}{l:List Nat}(hi:i+1<l.length)(h:φ d=.int .i64 ((i:Int)+1)):iB prog φ 148 (.slice (l.map nv)) (some (.tmp d)) none none=some (.slice ((l.drop (i+1)).map nv)):=by
 have he:φ.eval (.tmp d)=.int .i64 ((i:Int)+1):=h
 have hb:eA φ (some (.tmp d)) 0 l.length=some (i+1):=by
  simp only[eA,he]
  rw[aN (by omega)]
  congr 1
 have hwo:xT (l.map nv) (i+1) 1=true:=by
  unfold xT
  rw[kD,eK hi]
  try rfl
 unfold iB
 rw[aK (by simp [sR])]
 simp only[pP,iL]
 rw[aK (by simp)]
 simp only[eA] at hb ⊢
 have ht:List.take l.length (l.map nv)=l.map nv:=m9 (by simp)
 simp only[aE,hb,hwo,or_true,dV,ht]
 simp [List.map_drop]
abbrev sZ:=zi aX (zi cB (zi gL (zi cI (zi cC (zi kX (zi iP (zi IT (zi UZ (zi IU U0)))))))))
theorem YQ(p:List Cl)(hp:∀c∈p,gF c∧c.2.length≤6)(gs0:List RG)(σ0:List AV)(cs:List RC)(c:RC)(hc:yA p c)(h0:0<c.N)(hN:c.N≤524288)(hcl:cs.length≤524288)(st:aA) :
 aD prog 143 [.slice (p.map aG),.agg [.slice (gs0.map eX),.slice σ0,.slice (cs.map f8)],f8 c] st (fun r st'=>st'=st∧r=match iO p cs c.goal c.rest c.σ c.N c.left with
  | some s=>.tup [pA s,.bool true]
  | none=>.tup [.agg [.slice (gs0.map eX),.slice σ0,.slice (cs.map f8)],.bool false]):=by
 obtain⟨goal,rest,left,σ,N⟩:=c
 obtain⟨hg,ho,hd,hgo,hr,hle,hrl,hll⟩:=hc
 simp only at hg ho hd hgo hr hle hrl hll h0 hN
 obtain⟨gk,gn,gs',gts⟩:=goal
 rw[TI]
 refine aD.fin (aD.fin (aD.oT ?_))
 refine wF [1000000,13] 3 func143 ntmps143 rfl rfl ?_
 intro _
 simp only[aB,seval,sZ]
 intro b6 h6
 generalize hW:st.aC b6 (.cells [.fslice [],.fslice [],.fslice []])=W
 have hW6:W b6=some (.cells [.fslice [],.fslice [],.fslice []]):=by rw[←hW];exact aA.aJ _ _ _
 have hDW:aO W st:=by rw[←hW];exact(aO.refl _).aC h6
 refine dI (σ:=Unit) [1000000] [0,4,5,6] left (fun i _=>iO p cs (.mk gk gn gs' gts) rest σ N (left.drop i)=iO p cs (.mk gk gn gs' gts) rest σ N left) (fun i _=>[(7,.bool false),(8,.int .i64 i)]) (fun _ _=>W) (by decide +kernel) ⟨(),rfl,aP.mk (by simp only[aB,↓aW,seval])⟩ (fun i x _ hx hlt a7 hdr hinv=>?_) (fun _ hge hinv=>?_)
 case refine_2=>
  simp only[hge,aM,hW6,aE,aB,seval,sZ]
  refine⟨st,?_,0,[],st,rfl,by simp,by simp,⟨0,by simp⟩,0,[],st,rfl,by simp,by simp,⟨0,by simp⟩,rfl,?_⟩
  · intro z
    have:=hDW z
    by_cases hz:z=b6
    · subst hz;simp [aA.aC,h6]
    · rw[aA.aF _ _ hz];exact this
  · rw[←hinv,iA]
    simp only[gJ,iM,lV,iC,bR,bS,iO]
 have hw:=aZ (n:=(i:Int)+1)
 have hxl:=hle x (cH hx)
 obtain⟨cl,hcx⟩:∃cl,p[x]?=some cl:=⟨_,eK hxl⟩
 obtain⟨uC,q9⟩:=hp cl (cH hcx)
 rw[hdr,iO.eq_def] at hinv
 simp only[hcx] at hinv
 have hat:dP prog 148 (.slice (left.map nv)) (.int .i64 (i:Int))=some (.pptr (.int .i64 (x:Int))):=bH (av:=nv) iL hx rfl
 have AT:=bH (av:=aG) (P:=prog) lD hcx (fQ cl)
 have hcf:=aVV cl uC q9
 obtain⟨⟨k,n,s',ts⟩,bd⟩:=cl
 rw[mQ] at AT hcf
 simp only at hinv
 simp only[a7,aE,vA,hat,AT,aB,↓aW,seval,sZ]
 refine wX [(0,1),(1,1),(2,1),(4,1),(3,0),(5,0),(6,0),(7,1)] [0,1,2,4,7] dJ mixed rfl dF ?_
 simp only[aB,seval,sZ]
 have hfr:=uC.fr.1
 have hHd:=uC.dH N (.mk k n s' ts) (by simp)
 have hBd:=fun t ht=>(uC.EF t (JG _ ht))
 refine PL h0 (by omega) σ fun b hb hA0=>?_
 simp only[aB,seval]
 refine⟨dF,?_⟩
 refine(hcf _).to ?_
 simp only[aB,seval]
 refine⟨dF,?_⟩
 refine aR3 hd (by omega) hb fun b11 h11=>?_
 simp only[aB,seval]
 refine⟨dF,?_⟩
 have hA:=(show fS (N+oV (.mk k n s' ts,bd)) (W.aC b11 (.cells ((cS (N+oV (.mk k n s' ts,bd)) σ).flatMap AV.cells))) b11 σ from aA.aJ _ _ _)
 have hDT:aO (W.aC b11 (.cells ((cS (N+oV (.mk k n s' ts,bd)) σ).flatMap AV.cells))) W:=(aO.refl _).aC h11
 have hh:=uC.head
 generalize oV (.mk k n s' ts,bd)=fr at *
 generalize W.aC b11 (.cells ((cS (N+fr) σ).flatMap AV.cells))=T at *
 have hsh:Tm.sh (N:Int) (.mk k n s' ts)=dH N (.mk k n s' ts):=aNW N (by omega) _ hh.1
 have hcs:=PY (N:Int) (.mk k n s' ts)
 rw[hsh] at hcs
 have hun:=GP (N:=N+fr) (by omega) hg (ho.upN (by omega)) (.mk gk gn gs' gts) (dH N (.mk k n s' ts)) (hgo.mono (by omega)) hHd b11
 generalize dH N (.mk k n s' ts)=y at *
 obtain⟨yk,yn,ys,yt⟩:=y
 refine wX [(0,1),(1,1),(2,1),(3,1),(4,1),(6,1),(5,0),(7,0),(8,1)] [0,1,2,3,4,6,8] dJ mixed rfl dF ?_
 simp only[aB,seval,sZ]
 have hsm:=hh.1.small
 simp only[bD] at hun hcs ⊢
 refine(hcs _ hsm).to ?_
 simp only[aB,seval]
 refine⟨dF,?_⟩
 refine(hun _ hA).mono ?_
 rintro _ s2 ⟨rfl,hA2,hk2⟩
 simp only[aB,seval]
 refine⟨dF,?_⟩
 generalize iY σ (.mk gk gn gs' gts) (.mk yk yn ys yt)=u at *
 obtain⟨r,σ',tr⟩:=u
 simp only at hinv hA2 ⊢
 have LF:W b11=none:=h11
 have hDs:aO s2 W:=by
  intro q
  have key:∀o,W q=some o→s2 q=some o:=fun o h=>hk2 q o ((hDT q).2 o h) (by rintro rfl;rw[LF] at h;cases h)
  refine⟨fun h=>?_,key⟩
  cases hq:W q with
  | none=>rfl
  | some o=>rw[key o hq] at h;cases h
 refine aQ (fun h=>?_) (fun h=>?_)
 · have hr:r=false:=by simpa using h
   rw[aK (by rw[hr];simp)] at hinv
   simp only[hw,aB,seval]
   exact⟨(),hinv,aP.drop hDs (by simp only[aB,seval])⟩
 have hr':r=true:=by simpa using h
 rw[aN hr'] at hinv
 have hg9:=YO bd N cs.length rest hBd q9 (by omega) (by omega)
 generalize hgs:bd.map (fun t=>(⟨dH N t,cs.length⟩:RG))++rest=gs2 at *
 simp only[aE,aB,seval,sZ]
 refine wP [(0,1),(1,1),(3,1),(5,1),(6,1),(7,1),(2,2),(4,2),(8,2),(9,1),(10,1),(11,0),(12,0)] [0,1,3,5,6,7,2,4,8,9,10] mixed ?_
 simp only[aB,seval,sZ]
 refine QB hg9 ?_
 simp only[aM,aE,hw,aB,seval,sZ]
 intro b13 h13
 have a14:b13≠b11:=by rintro rfl;rw[fS,h13] at hA2;cases hA2
 have h62:s2 b6≠none:=by rw[(hDs b6).2 _ hW6];simp
 have LC:b6≠b13:=by rintro rfl;exact h62 h13
 have aKN:b6≠b11:=by rintro rfl;rw[hW6] at LF;cases LF
 have LS:st b11=none:=(hDW b11).1 LF
 have aKR:=(hDs b6).2 _ hW6
 have hNf:0<N+fr:=by omega
 have oX:cS (N+fr) σ'≠[]:=by intro e;have:=vA (N+fr) σ';rw[e] at this;simp at this;omega
 refine aQ (fun h=>?_) (fun h=>?_)
 · have h':i+1<left.length:=by simp at h;omega
   have hsl:=fun(φ:AF) (d:Nat) (h:φ d=.int .i64 ((i:Int)+1))=>aN5 h' h
   simp only[aB,seval]
   refine wP [(0,1),(2,1),(4,1),(6,1),(7,1),(9,1),(1,2),(3,2),(5,2),(8,1),(10,2),(11,1),(12,0),(13,0)] [0,2,4,6,7,9,1,3,5,8,10,11] mixed ?_
   simp only[aM,hsl,hw,aB,seval,sZ]
   intro b14 h14
   have aLF:b14≠b13:=by rintro rfl;rw[aA.aJ] at h14;cases h14
   have RD:s2 b14=none:=by rw[aA.aF _ _ aLF] at h14;exact h14
   have a16:b6≠b14:=by rintro rfl;exact h62 RD
   generalize hV:(s2.aC b13 (AO.cells [AV.slice (gs2.map eX),AV.mslice b11 0 (N+fr) 4,AV.slice (cs.map f8)])).aC b14 (.cells [.int .i64 gk,.int .i64 gn,.str gs',.slice (gts.map Tm.av),.slice (rest.map eX),.slice ((left.drop (i+1)).map nv),.slice (cS N σ)])=V
   have DO:V b14=some (.cells [.int .i64 gk,.int .i64 gn,.str gs',.slice (gts.map Tm.av),.slice (rest.map eX),.slice ((left.drop (i+1)).map nv),.slice (cS N σ)]):=by rw[←hV];exact aA.aJ _ _ _
   have LE:V b13=some (AO.cells [AV.slice (gs2.map eX),AV.mslice b11 0 (N+fr) 4,AV.slice (cs.map f8)]):=by rw[←hV,aA.aF _ _ (dA aLF)];exact aA.aJ _ _ _
   have hV6:V b6=some (.cells [.fslice [],.fslice [],.fslice []]):=by rw[←hV,aA.aF _ _ a16,aA.aF _ _ LC];exact aKR
   have hVq:∀q,q≠b13→q≠b14→V q=s2 q:=fun q e1 e2=>by rw[←hV,aA.aF _ _ e2,aA.aF _ _ e1]
   refine wX [(0,1),(1,1),(2,1),(4,1),(5,1),(3,0),(6,0),(7,1),(8,2)] [0,1,2,4,5,7] (one b14 (.cells [.int .i64 gk,.int .i64 gn,.str gs',.slice (gts.map Tm.av),.slice (rest.map eX),.slice ((left.drop (i+1)).map nv),.slice (cS N σ)])) mixed rfl (jM DO) ?_
   simp only[uK,aB,seval,sZ]
   have hlc:(cs.map f8).length=cs.length:=aE _
   refine gA (P:=prog) (b:=0) (l:=[]) (xs:=cs.map f8) DF QQ Q0 rfl rfl (by intro e he;simp only[cF] at he;obtain⟨t,_,rfl⟩:=he;exact⟨MJ t,a7C t⟩) (by simp) (by simp) (by simp only[bG,hlc];omega) (by simp only[bG,hlc];omega) (fun b15 h15=>?_)
   rw[eE] at h15 ⊢
   simp only[aB,seval]
   refine⟨jM (CT h15 DO),?_⟩
   refine gA (P:=prog) (b:=b15) (l:=cs.map f8) (xs:=[f8 ⟨.mk gk gn gs' gts,rest,left.drop (i+1),σ,N⟩]) DF QQ Q0 rfl rfl (g8 rfl rfl) (by intro e he;simp only[cF] at he;obtain⟨t,_,rfl⟩:=he;exact MJ t) h15 (by simp only[a8,bG,hlc];omega) (by simp only[a8,bG,hlc];omega) (fun b16 h16=>?_)
   rw[show(cs.map f8)++ [f8 ⟨.mk gk gn gs' gts,rest,left.drop (i+1),σ,N⟩]=(cs++ [(⟨.mk gk gn gs' gts,rest,left.drop (i+1),σ,N⟩:RC)]).map f8 by simp] at h16 ⊢
   have g13:=CT h16 LE
   have g14:=CT h16 DO
   have g6:=CT h16 hV6
   have hdn:left.drop (i+1)≠[]:=by intro e;have:=iT List.length e;simp at this;omega
   rw[aK hdn] at hinv
   generalize hLL:cs++ [(⟨.mk gk gn gs' gts,rest,left.drop (i+1),σ,N⟩:RC)]=LL at *
   have E:=aQJ (o':=.cells [AV.slice (gs2.map eX),AV.mslice b11 0 (N+fr) 4,bQ 7 b16 (LL.map f8)]) (o6:=.cells [AV.slice (gs2.map eX),AV.mslice b11 0 (N+fr) 4,bQ 7 b16 (LL.map f8)]) (hDs.trans hDW) hA2 LS h6 h62 aKN h13 RD hVq (by rw[LE];simp) (by rw[DO];simp) h16 oX
   simp only[aM,LC,g13,g6,iK,nS,aB,seval,sZ]
   have hms:LL.map f8≠[]→b11≠b16:=by rintro h rfl;have:=h16 h;rw[hVq b11 (dA a14) (by rintro rfl;rw[fS,RD] at hA2;cases hA2),hA2] at this;cases this
   refine⟨jM g14,_,E.1,b16,LL.map f8,_,rfl,fun h=>E.2 (by simpa using h),a7D LL,⟨7,a7E LL⟩,b11,cS (N+fr) σ',st,rfl,fun _=>LS,GN _ _,⟨4,CW _ _⟩,rfl,?_⟩
   rw[←hinv]
   simp only[gJ,iM,lV,iC,lF,bR,bS,aKB hms,K0 hNf]
   rfl
 · have h':left.drop (i+1)= []:=JB (by simp at h;omega)
   have E:=aQJ (o6:=.cells [AV.slice (gs2.map eX),AV.mslice b11 0 (N+fr) 4,AV.slice (cs.map f8)]) (o':=.cells [AV.slice (gs2.map eX),AV.mslice b11 0 (N+fr) 4,AV.slice (cs.map f8)]) (b:=0) (L:=[]) (hDs.trans hDW) hA2 LS h6 h62 aKN h13 h13 (fun q h _=>aA.aF s2 (.cells [AV.slice (gs2.map eX),AV.mslice b11 0 (N+fr) 4,AV.slice (cs.map f8)]) h) (by rw[aA.aJ];simp) (by rw[aA.aJ];simp) (by simp) oX
   simp only[aM,LC,aKR,aA.aJ,aB,seval,sZ]
   rw[aN h'] at hinv
   have E1:=E.1
   simp only[bK,dR] at E1
   refine⟨_,E1,0,[],_,rfl,by simp,by simp,⟨0,by simp⟩,b11,cS (N+fr) σ',st,rfl,fun _=>LS,GN _ _,⟨4,CW _ _⟩,rfl,?_⟩
   rw[←hinv]
   simp only[gJ,iM,lV,iC,bR,bS,aKB (l:=[]) (fun h=>absurd rfl h),K0 hNf]
   rfl
theorem TG{p:List Cl}(hp:∀c∈p,gF c∧c.2.length≤6){B:Nat}(hB:B≤524288){cs:List RC}{goal:Tm}{rest:List RG}{σ:Sub}{N:Nat}(hg:cO σ)(ho:cQ (bF N) σ)(hd:∀n,¬(0≤n∧n<(N:Int))→σ n=none)
 (hgo:bF N goal) (hr:∀g∈rest,bF N g.t∧g.t.k=3) (h0:0<N) (hN:N+26≤B) (hrl:rest.length+26≤B) (hcl:cs.length+1≤B) (hcs:∀c∈cs,yA p c∧c.N+26≤B∧c.rest.length+26≤B∧0<c.N) :
 ∀(left:List Nat),(∀i∈left,i<p.length)→left.length≤1048576→∀s,iO p cs goal rest σ N left=some s→qN p B s
 | [],_,_,s,h=>by simp [iO] at h
 | i::l,hle,hll,s,h=>by
  have hil:=hle i (by simp)
  obtain⟨x,hx⟩:∃x,p[i]?=some x:=⟨_,eK hil⟩
  obtain⟨hX,h6⟩:=hp x (cH hx)
  have hl':∀j∈l,j<p.length:=fun j hj=>hle j (by simp [hj])
  rw[iO.eq_def] at h
  simp only[hx] at h
  split at h
  case isFalse=>exact TG hp hB hg ho hd hgo hr h0 hN hrl hcl hcs l hl' (by simp at hll;omega) s h
  cases h
  have hfr:=hX.fr.1
  have hsh:=hX.dH N
  obtain⟨r,σ',tr,U⟩:=uU (N:=N+oV x) hg (ho.upN (by omega)) (hgo.mono (by omega)) (hsh x.1 (by simp))
  rw[U.eq]
  have S:=U.xN
  refine⟨S.gX,S.ok,fun n hn=>?_,?_,by simp only;omega,by simp only;omega,?_,?_,?_⟩
  · simp only at hn ⊢
    rw[S.aU n (fun h=>hn (S.gE n h))]
    exact hd n (fun h=>hn (by omega))
  · intro g hg'
    simp only[eL,cF] at hg'
    rcases hg' with ⟨t,ht,rfl⟩ | hg'
    · exact⟨hsh t (JG _ ht),by rw[aNY];exact(hX.body t ht).2⟩
    · exact⟨(hr g hg').1.mono (by simp only;omega),(hr g hg').2⟩
  · simp only[dS,aE];omega
  · simp only
    split
    · omega
    · simp only[dS,a8,bG];omega
  · simp only
    split
    · exact hcs
    · intro c hc
      rcases eL.1 hc with hc | hc
      · exact hcs c hc
      · simp only[cG,cX,dG] at hc
        subst hc
        exact⟨⟨hg,ho,hd,hgo,hr,hl',by simp only;omega,by simp only;simp at hll;omega⟩,hN,hrl,h0⟩
theorem a69(p:List Cl)(chs:List RC):gT p chs.length chs=match chs.getLast? with
 | none=>none
 | some c=>match iO p chs.dropLast c.goal c.rest c.σ c.N c.left with
  | some s=>some s
  | none=>gT p chs.dropLast.length chs.dropLast:=by
 cases chs with
 | nil=>rfl
 | cons c l=>
  rw[a8,gT]
  have:(c::l).dropLast.length=l.length:=by simp
  rw[this]
  try rfl
theorem aNE{p:List Cl}(hp:∀c∈p,gF c∧c.2.length≤6){B:Nat}(hB:B≤524288):∀(n:Nat) (chs:List RC),chs.length≤B→(∀c∈chs,yA p c∧c.N+26≤B∧c.rest.length+26≤B∧0<c.N)→∀s,gT p n chs=some s→qN p B s
 | 0,_,_,_,s,h=>by simp [gT] at h
 | n+1,chs,hl,hc,s,h=>by
  rw[gT] at h
  split at h
  · cases h
  · rename_i c vI
    have hm:=OU vI
    have hne:chs≠[]:=by rintro rfl;simp at hm
    have hdl:chs.dropLast.length+1=chs.length:=by
     have:=List.length_pos_iff.2 hne
     simp;omega
    have hcd:∀c∈chs.dropLast,yA p c∧c.N+26≤B∧c.rest.length+26≤B∧0<c.N:=fun c h=>hc c (OR _ h)
    obtain⟨k,h1,h2,h3⟩:=hc c hm
    split at h
    · rename_i s' hs
      cases h
      exact TG hp hB k.gX k.ok k.wQ k.goal k.rest h3 h1 h2 (by omega) hcd c.left k.left k.a5D s hs
    · exact aNE hp hB n _ (by omega) hcd s h
theorem qN.up{p:List Cl}{B C:Nat}{s:RS}(h:qN p B s)(hC:B≤C):qN p C s:=
 ⟨h.gX,h.ok,h.wQ,h.goals,h.pos,by have:=h.hN;omega,by have:=h.gl;omega,by have:=h.pT;omega,fun c hc=>by
  obtain⟨h1,h2,h3,h4⟩:=h.chs c hc
  exact⟨h1,by omega,by omega,h4⟩⟩
theorem qN.back{p:List Cl}(hp:∀c∈p,gF c∧c.2.length≤6){B:Nat}(hB:B≤524288){s s':RS}(h:qN p B s)(e:gT p s.chs.length s.chs=some s'):qN p B s':=
 aNE hp hB _ _ h.pT h.chs s' e
theorem K8{N:Nat}{σ:Sub}(hg:cO σ)(ho:cQ (bF N) σ){t:Tm}(ht:bF N t)(hf:fA (t.aL (rs σ))=true):bF N (t.aL (rs σ)):=by
 obtain⟨rk,B,G⟩:=hg.rs
 unfold fA at hf
 simp only[cY,bM] at hf
 exact⟨ht.1.aL fun v hv=>G.mI ho.mI v (ht.1.2.2 v hv).1 (ht.1.2.2 v hv).2,hf.2⟩
theorem qN.step{p:List Cl}(hp:∀c∈p,gF c∧c.2.length≤6)(hpl:p.length≤1048576){B:Nat}(hB:B+26≤524288){cnd:Tm→List Nat→List Nat}(hc:∀t l,(∀i∈cnd t l,i∈l)∧(cnd t l).length≤l.length){s s':RS}{g:RG}{rest:List RG}(hgs:s.goals=g::rest)(h:qN p B s)
 (e:lL p cnd s g rest=.go s'):qN p (B+26) s':=by
 have hgm:g∈s.goals:=by rw[hgs];simp
 have hrm:∀x∈rest,x∈s.goals:=fun x hx=>by rw[hgs];simp [hx]
 have hgl:=h.gl
 rw[hgs,a8] at hgl
 have hU:=h.up (C:=B+26) (by omega)
 unfold lL at e
 split at e
 · cases e
 rename_i eW
 have RX:fA (g.t.aL (rs s.σ))=true:=by simpa using eW
 have hok:=K8 h.gX h.ok (h.goals g hgm).1 RX
 generalize g.t.aL (rs s.σ)=t at *
 split at e
 · cases e
   exact⟨hU.gX,hU.ok,hU.wQ,fun x hx=>hU.goals x (hrm x hx),hU.pos,hU.hN,by simp only;omega,by simp only[dZ];have:=hU.pT;omega,fun c hc=>hU.chs c (l9 hc)⟩
 split at e
 · split at e
   · cases e
     have S:=MQ h.gX h.ok t.s t.ts fun x hx=>by
      obtain⟨k,n,s',ts⟩:=t
      by_cases hk:k=1
      · obtain⟨_,_,_,h2⟩:=(show cJ s.N (.mk 1 n s' ts) from hk▸hok.1).var
        simp only[Tm.ts] at hx
        rw[h2] at hx;cases hx
      · exact rG _ (.mk k n s' ts) hk hok x hx
     exact⟨S.gX,S.ok,fun n hn=>by simp only at hn ⊢;rw[S.aU n (fun h=>hn (S.gE n h))];exact hU.wQ n hn,fun x hx=>hU.goals x (hrm x hx),hU.pos,hU.hN,by simp only;omega,hU.pT,hU.chs⟩
   · split at e<;>cases e
 split at e
 · cases e
 split at e
 case h_2=>cases e
 rename_i s2 hs
 cases e
 obtain⟨c1,c2⟩:=hc t (eS p t)
 have hfl:(eS p t).length≤p.length:=by rw[LA];exact LB p t p.length
 refine TG hp (by omega) h.gX h.ok h.wQ hok (fun x hx=>h.goals x (hrm x hx)) h.pos (by have:=h.hN;omega) (by omega) (by have:=h.pT;omega) hU.chs _ (fun i hi=>?_) (by omega) s' hs
 have:=c1 i hi
 unfold eS at this
 have:=(List.mem_filter.1 this).1
 exact v6.1 this
def nM(n:Nat)(l:List RG):Prop:=l.Pairwise (fun a b=>b.aU≤a.aU)∧∀g∈l,g.aU≤n
theorem nM.up{n m:Nat}{l:List RG}(h:nM n l)(hm:n≤m):nM m l:=⟨h.1,fun g hg=>nN (h.2 g hg) hm⟩
theorem nM.tail{n:Nat}{g:RG}{l:List RG}(h:nM n (g::l)):nM n l∧nM g.aU l:=by
 obtain⟨h1,h2⟩:=h
 rw[JH] at h1
 exact⟨⟨h1.2,fun x hx=>h2 x (by simp [hx])⟩,h1.2,h1.1⟩
theorem nM.body{n:Nat}{l:List RG}(h:nM n l)(f:Tm→Tm)(bd:List Tm):nM n (bd.map (fun t=>(⟨f t,n⟩:RG))++l):=by
 refine⟨List.pairwise_append.2 ⟨?_,h.1,fun a ha b hb=>?_⟩,fun g hg=>?_⟩
 · rw[List.pairwise_map]
   exact List.pairwise_of_forall fun _ _=>cZ _
 · obtain⟨t,_,rfl⟩:=cF.1 ha
   exact h.2 b hb
 · rcases eL.1 hg with hg | hg
   · obtain⟨t,_,rfl⟩:=cF.1 hg
     exact cZ _
   · exact h.2 g hg
structure zX (s:RS):Prop where
 goals:nM s.chs.length s.goals
 chs:∀i c,s.chs[i]?=some c→nM i c.rest
theorem TE{p:List Cl}{cs:List RC}{goal:Tm}{rest:List RG}{σ:Sub}{N:Nat}(hr:nM cs.length rest)(hc:∀i c,cs[i]?=some c→nM i c.rest) :
 ∀(left:List Nat) s,iO p cs goal rest σ N left=some s→zX s
 | [],s,h=>by simp [iO] at h
 | i::l,s,h=>by
  rw[iO.eq_def] at h
  simp only at h
  split at h
  · cases h
  rename_i x hx
  split at h
  case isFalse=>exact TE hr hc l s h
  cases h
  have hb:=hr.body (dH N) x.2
  refine⟨?_,?_⟩
  · simp only
    split
    · exact hb
    · exact hb.up (by simp)
  · simp only
    intro j c hj
    split at hj
    · exact hc j c hj
    · rw[List.getElem?_append] at hj
      split at hj
      · exact hc j c hj
      · rename_i hlt
        have hj0:j - cs.length=0:=by
         have:=(fC.1 hj).1
         simp at this;omega
        rw[hj0] at hj
        simp only[JF,Option.some.injEq] at hj
        subst hj
        exact hr.up (by omega)
theorem aNC{p:List Cl}:∀(n:Nat) (chs:List RC),(∀i c,chs[i]?=some c→nM i c.rest)→∀s,gT p n chs=some s→zX s
 | 0,_,_,s,h=>by simp [gT] at h
 | n+1,chs,hc,s,h=>by
  rw[gT] at h
  split at h
  · cases h
  · rename_i c vI
    have hd:∀i c,chs.dropLast[i]?=some c→nM i c.rest:=fun i c hi=>hc i c (by
     rw[List.dropLast_eq_take,OS] at hi
     split at hi
     · exact hi
     · cases hi)
    rw[List.getLast?_eq_getElem?] at vI
    have hk:=hc _ _ vI
    split at h
    · rename_i s' hs
      cases h
      exact TE (by rw[List.length_dropLast];exact hk) hd _ s hs
    · exact aNC n _ hd s h
theorem zX.step{p:List Cl}{cnd:Tm→List Nat→List Nat}{s s':RS}{g:RG}{rest:List RG}(hgs:s.goals=g::rest)(h:zX s)(e:lL p cnd s g rest=.go s'):zX s':=by
 have hg:=h.goals
 rw[hgs] at hg
 obtain⟨h1,h2⟩:=hg.tail
 have h3:=hg.2 g (by simp)
 unfold lL at e
 split at e
 · cases e
 split at e
 · cases e
   refine⟨?_,fun i c hi=>?_⟩
   · simp only[dZ]
     exact h2.up (by omega)
   · simp only[OS] at hi
     split at hi
     · exact h.chs i c hi
     · cases hi
 split at e
 · split at e
   · cases e
     exact⟨h1,h.chs⟩
   · split at e<;>cases e
 split at e
 · cases e
 split at e
 case h_2=>cases e
 rename_i s2 hs
 cases e
 exact TE h1 h.chs _ s' hs
def CG(s:RS):Prop:=26≤s.N∧∀c∈s.chs,26≤c.N
theorem TF{p:List Cl}{cs:List RC}{goal:Tm}{rest:List RG}{σ:Sub}{N:Nat}(hN:26≤N)(hc:∀c∈cs,26≤c.N) :
 ∀(left:List Nat) s,iO p cs goal rest σ N left=some s→CG s
 | [],s,h=>by simp [iO] at h
 | i::l,s,h=>by
  rw[iO.eq_def] at h
  simp only at h
  split at h
  · cases h
  rename_i x hx
  split at h
  case isFalse=>exact TF hN hc l s h
  cases h
  refine⟨by simp only;omega,?_⟩
  simp only
  split
  · exact hc
  · intro c h
    rcases eL.1 h with h | h
    · exact hc c h
    · simp only[cG,cX,dG] at h
      subst h;exact hN
theorem aND{p:List Cl}:∀(n:Nat) (chs:List RC),(∀c∈chs,26≤c.N)→∀s,gT p n chs=some s→CG s
 | 0,_,_,s,h=>by simp [gT] at h
 | n+1,chs,hc,s,h=>by
  rw[gT] at h
  split at h
  · cases h
  · rename_i c vI
    have hd:∀c∈chs.dropLast,26≤c.N:=fun c h=>hc c (OR _ h)
    split at h
    · rename_i s' hs
      cases h
      exact TF (hc c (OU vI)) hd _ s hs
    · exact aND n _ hd s h
theorem CG.step{p:List Cl}{cnd:Tm→List Nat→List Nat}{s s':RS}{g:RG}{rest:List RG}(h:CG s)(e:lL p cnd s g rest=.go s'):CG s':=by
 unfold lL at e
 split at e
 · cases e
 split at e
 · cases e
   exact⟨h.1,fun c hc=>h.2 c (l9 hc)⟩
 split at e
 · split at e
   · cases e
     exact h
   · split at e<;>cases e
 split at e
 · cases e
 split at e
 case h_2=>cases e
 rename_i s2 hs
 cases e
 exact TF h.1 h.2 _ s' hs
structure mK (p:List Cl) (B:Nat) (s:RS):Prop where
 a:qN p B s
 k:zX s
 l:CG s
theorem mK.step{p:List Cl}(hp:∀c∈p,gF c∧c.2.length≤6)(hpl:p.length≤1048576){B:Nat}(hB:B+26≤524288){cnd:Tm→List Nat→List Nat}(hc:∀t l,(∀i∈cnd t l,i∈l)∧(cnd t l).length≤l.length){s s':RS}{g:RG}{rest:List RG}(hgs:s.goals=g::rest)(h:mK p B s)
 (e:lL p cnd s g rest=.go s'):mK p (B+26) s':=⟨h.a.step hp hpl hB hc hgs e,h.k.step hgs e,h.l.step e⟩
theorem mK.back{p:List Cl}(hp:∀c∈p,gF c∧c.2.length≤6){B:Nat}(hB:B≤524288){s s':RS}(h:mK p B s)(e:gT p s.chs.length s.chs=some s'):mK p B s':=
 ⟨h.a.back hp hB e,aNC _ _ h.k.chs s' e,aND _ _ h.l.2 s' e⟩
theorem mK.up{p:List Cl}{B C:Nat}{s:RS}(h:mK p B s)(hC:B≤C):mK p C s:=⟨h.a.up hC,h.k,h.l⟩
theorem mK.start{p:List Cl}{q:List Tm}(hq:∀t∈q,bF 26 t∧t.k=3)(h6:q.length≤6):mK p 26 (nH q):=by
 refine⟨⟨cO.none,fun n u h=>(by cases h),fun n _=>rfl,?_,(by show 0<26;omega),cZ _,?_,nO _,fun c hc=>(by cases hc)⟩,⟨⟨?_,?_⟩,fun i c hi=>(by cases hi)⟩,⟨cZ _,fun c hc=>(by cases hc)⟩⟩
 · intro g hg
   simp only[nH,cF] at hg
   obtain⟨t,ht,rfl⟩:=hg
   exact hq t ht
 · simp only[nH,aE];omega
 · simp only[nH,List.pairwise_map]
   exact List.pairwise_of_forall fun _ _=>cZ _
 · intro g hg
   simp only[nH,cF] at hg
   obtain⟨t,ht,rfl⟩:=hg
   exact nO _
theorem aN4{φ:AF}{t:TypeId}{ag:Bool}{w d k:Nat}{es:List AV}(hI:eI prog t=some (ag,w))(h:φ d=.int .i64 (k:Int))(hk:k≤es.length):iB prog φ t (.slice es) none (some (.tmp d)) none=some (.slice (es.take k)):=by
 have he:φ.eval (.tmp d)=.int .i64 (k:Int):=h
 unfold iB
 rw[aK (by simp [sR])]
 simp only[pP,hI]
 rw[aK (by simp)]
 simp only[eA,he]
 rw[aN (by omega)]
 simp
def JK(a:AV):Prop:=(∃l,a=.slice l)∨a=.fslice []
theorem JK.facts{a:AV}(h:JK a):a.isAgg=false∧a.width=1∧a.bV=false∧a.cells= [a]∧a.storable=true∧∃l,a.soft=.slice l:=by
 rcases h with ⟨l,rfl⟩ | rfl
 · exact⟨rfl,rfl,rfl,rfl,rfl,l,rfl⟩
 · exact⟨rfl,rfl,rfl,rfl,rfl,[],rfl⟩
abbrev vV:=zi aX (zi cB (zi gL (zi UZ (zi IU U0))))
theorem YM{p:List Cl}(hp:∀c∈p,gF c∧c.2.length≤6){B:Nat}(hB:B≤524288)(gs0:List RG)(σ0:List AV)(chs:List RC)(hl:chs.length≤B)(hc:∀c∈chs,yA p c∧c.N+26≤B∧c.rest.length+26≤B∧0<c.N)(st:aA) :
 aD prog 119 [.slice (p.map aG),.agg [.slice (gs0.map eX),.slice σ0,.slice (chs.map f8)]] st (fun r st'=>st'=st∧match gT p chs.length chs with
  | some s=>r=.tup [pA s,.bool true]
  | none=>∃l1 l2 l3,r=.tup [.agg [.slice l1,.slice l2,.slice l3],.bool false]):=by
 refine aD.oT (aD.soft ?_)
 refine wF [1000000,3] 2 func119 ntmps119 rfl rfl ?_
 intro _
 simp only[aB,seval,vV]
 intro b3 h3 b4 h4
 have hne:b4≠b3:=by rintro rfl;rw[aA.aJ] at h4;cases h4
 have SD:st b4=none:=by rw[aA.aF _ _ hne] at h4;exact h4
 rw[aA.pJ _ _ _ (dA hne)]
 generalize hW:st.aC b4 (.cells [.fslice [],.fslice [],.fslice []])=W
 have hW4:W b4=some (.cells [.fslice [],.fslice [],.fslice []]):=by rw[←hW];exact aA.aJ _ _ _
 have hW3:W b3=none:=by rw[←hW,aA.aF _ _ (dA hne)];exact h3
 have hDW:∀o o',aO ((W.aC b3 o).aC b4 o') st:=fun o o' q=>by
  by_cases q4:q=b4
  · subst q4;rw[aA.aJ,SD];simp
  rw[aA.aF _ _ q4]
  by_cases q3:q=b3
  · subst q3;rw[aA.aJ,h3];simp
  rw[aA.aF _ _ q3,←hW,aA.aF _ _ q4]
  simp
 have bC1:b3≠b4:=dA hne
 refine oI (σ:=List RC×AV×AV) [1000000,3] [0,3,4] (fun s=>s.1.length≤B∧(∀c∈s.1,yA p c∧c.N+26≤B∧c.rest.length+26≤B∧0<c.N)∧JK s.2.1∧JK s.2.2∧gT p s.1.length s.1=gT p chs.length chs) (fun s=>[(5,.bool false)]) (fun s=>W.aC b3 (.cells [s.2.1,s.2.2,.slice (s.1.map f8)])) (fun s=>s.1.length) (by decide +kernel) ⟨(chs,.slice (gs0.map eX),.slice σ0),⟨hl,hc,.inl ⟨_,rfl⟩,.inl ⟨_,rfl⟩,rfl⟩,aP.mk (by simp only[aB,seval])⟩ ?_
 rintro⟨l,a,b⟩ ⟨hl1,hlc,ha,hb,hinv⟩
 simp only at hl1 hlc ha hb hinv
 obtain⟨a1,a2,a3,a4,a5,la,a6⟩:=ha.facts
 obtain⟨b1,b2,b3',b4',b5,lb,b6⟩:=hb.facts
 simp only
 rw[a69] at hinv
 by_cases A7:l= []
 · subst A7
   simp only[List.getLast?_nil] at hinv
   simp only[aA.aJ,wR,List.contains,List.elem,tE,gY,sub,↓reduceIte,reduceCtorEq,Nat.reduceEqDiff,vV]
   refine aQ (fun h=>absurd h (by decide)) (fun h=>?_)
   simp only[aM,hne,aA.aJ,hW4,a5,b5,aB,seval,vV]
   rw[←hinv]
   exact⟨st,hDW _ _,rfl,la,lb,[],by simp only[vP,xM,xL,MP,bR,bS,a6,b6]⟩
 obtain⟨c,vI⟩:∃c,l.getLast?=some c:=by
  cases h:l.getLast? with
  | none=>exact absurd (List.getLast?_eq_none_iff.1 h) A7
  | some c=>exact⟨c,rfl⟩
 have hlp:=List.length_pos_iff.2 A7
 have hcm:=OU vI
 obtain⟨a2O,hcN,hcr,hc0⟩:=hlc c hcm
 rw[vI] at hinv
 simp only at hinv
 have hat:=bH (av:=f8) (P:=prog) (l:=l) (i:=l.length - 1) (x:=c) DF (by rw[←List.getLast?_eq_getElem?];exact vI) (MJ c)
 rw[show(((l.length - 1:Nat):Int))=(l.length:Int) - 1 by omega] at hat
 have hw:=aZ (n:=(l.length:Int) - 1)
 have hdl:l.dropLast=l.take (l.length - 1):=List.dropLast_eq_take
 have bCT:l.dropLast.length+1=l.length:=by simp;omega
 have hct:=YQ p hp [] [] l.dropLast c a2O hc0 (by omega) (by omega)
 have hcs:=fun(φ:AF) (d:Nat) (h:φ d=.int .i64 ((l.length:Int) - 1))=>aN4 (es:=l.map f8) (k:=l.length - 1) DF (h.trans (by congr 1;omega)) (by simp)
 rw[←FR,←hdl] at hcs
 generalize hx:iO p l.dropLast c.goal c.rest c.σ c.N c.left=x at hinv hct
 obtain⟨⟨ck,cn,cs',cts⟩,ZW,ZQ,cσ,cN⟩:=c
 rw[TI] at hct hat
 simp only[bS] at hct
 simp only[aE,aA.aJ,aB,seval,vV]
 refine aQ (fun h=>?_) (fun h=>absurd hlp (by simpa using h))
 simp only[aE,aA.aJ,hw,hat,aB,↓aW,seval,vV]
 cases x with
 | none=>
  have LM:∀st,aD prog 143 [.slice (p.map aG),.agg [.fslice [],.fslice [],.slice (l.dropLast.map f8)],.agg [.int .i64 ck,.int .i64 cn,.str cs',.slice (cts.map Tm.av),.slice (ZW.map eX),.slice (ZQ.map nv),.slice (cS cN cσ)]] st (fun r st'=>r=.tup [.agg [.slice [],.slice [],.slice (l.dropLast.map f8)],.bool false]∧st'=st):=fun st=>
   aD.IB ((hct st).mono fun _ _ h=>⟨h.2,h.1⟩)
  simp only at hinv
  refine wP [(0,1),(1,1),(3,1),(2,2),(4,1),(5,1),(6,2),(7,1),(8,1),(9,1),(10,1),(11,0),(12,0),(13,1)] [0,1,3,2,4,5,6,7,8,9,10,13] mixed ?_
  simp only[aA.aJ,hcs,aB,seval,vV]
  refine QB LM ?_
  simp only[aM,aA.aJ,aB,seval,vV]
  intro b8 h8
  have h83:b8≠b3:=by rintro rfl;rw[aA.aJ] at h8;cases h8
  rw[aA.aF _ _ h83] at h8
  have h84:b8≠b4:=by rintro rfl;rw[hW4] at h8;cases h8
  have hs8:st b8=none:=by rw[←hW,aA.aF _ _ h84] at h8;exact h8
  have h38:=dA h83
  have h48:=dA h84
  simp only[aM,h38,aA.aJ,hcs,aB,seval,vV]
  refine⟨(l.dropLast,.fslice [],.fslice []),by simp only;omega,⟨by simp only;omega,fun c h=>hlc c (OR _ h),.inr rfl,.inr rfl,hinv⟩,aP.drop (fun q=>?_) (by simp only[aB,seval])⟩
  by_cases q3:q=b3
  · subst q3;rw[aA.aJ,aA.aJ];simp
  rw[aA.aF _ _ q3,aA.aF _ _ q3]
  by_cases q8:q=b8
  · subst q8;rw[aA.aJ,h8];simp
  rw[aA.aF _ _ q8,aA.aF _ _ q3]
  simp
 | some s=>
  have LM:∀st,aD prog 143 [.slice (p.map aG),.agg [.fslice [],.fslice [],.slice (l.dropLast.map f8)],.agg [.int .i64 ck,.int .i64 cn,.str cs',.slice (cts.map Tm.av),.slice (ZW.map eX),.slice (ZQ.map nv),.slice (cS cN cσ)]] st (fun r st'=>r=.tup [pA s,.bool true]∧st'=st):=fun st=>
   aD.IB ((hct st).mono fun _ _ h=>⟨h.2,h.1⟩)
  simp only at hinv
  simp only[pA] at LM
  refine wP [(0,1),(1,1),(3,1),(2,2),(4,1),(5,1),(6,2),(7,1),(8,1),(9,1),(10,1),(11,0),(12,0),(13,1)] [0,1,3,2,4,5,6,7,8,9,10,13] mixed ?_
  simp only[aA.aJ,hcs,aB,seval,vV]
  refine QB LM ?_
  simp only[aM,aA.aJ,aB,seval,vV]
  intro b8 h8
  have h83:b8≠b3:=by rintro rfl;rw[aA.aJ] at h8;cases h8
  rw[aA.aF _ _ h83] at h8
  have h84:b8≠b4:=by rintro rfl;rw[hW4] at h8;cases h8
  have hs8:st b8=none:=by rw[←hW,aA.aF _ _ h84] at h8;exact h8
  have h38:=dA h83
  have h48:=dA h84
  simp only[hne,h48,hW4,aB,seval]
  refine⟨st,?_,rfl,?_⟩
  · have d1:aO W st:=by rw[←hW];exact(aO.refl _).aC SD
    exact((d1.aC h3).aC hs8).aC SD
  · rw[←hinv]
    simp only[vP,xM,xL,MP,bR,bS]
    rfl
theorem a8B{φ:AF}{t:TypeId}{ag:Bool}{w:Nat}{y:Operand}{e:AV}{es:List AV}(hI:eI prog t=some (ag,w))(h:φ.eval y=.int .i64 1)(hw:∀x∈es,x.width=w):iB prog φ t (.slice (e::es)) (some y) none none=some (.slice es):=by
 have hwo:xT (e::es) 1 w=true:=by
  unfold xT
  rw[JE]
  split
  · rename_i x hx
    simp [hw x (cH hx)]
  · rfl
 unfold iB
 rw[aK (by simp [sR])]
 simp only[pP,hI]
 rw[aK (by simp)]
 simp only[eA,h]
 rw[aN (by constructor<;>simp<;>omega)]
 simp [hwo]
theorem aVU(c:Int)(st:aA):aD prog 141 [.int .i64 c] st (fun r st'=>r=.int .i64 (sL c)∧st'=st):=by
 refine aD.done ?_
 refine wF [1000000] 1 func141 ntmps141 rfl rfl ?_
 intro _
 simp only[aB,seval]
 unfold sL
 refine aQ (fun h=>?_) (fun h=>?_)
 · simp only[aB,seval]
   have h':c=2:=by simpa using h
   exact⟨by rw[aN h'];try rfl,aO.refl _⟩
 rw[aK (show ¬c=2 by simpa using h)]
 simp only[aB,seval]
 refine aQ (fun h=>?_) (fun h=>?_)
 · simp only[aB,seval]
   have h':c=3:=by simpa using h
   exact⟨by rw[aN h'];try rfl,aO.refl _⟩
 rw[aK (show ¬c=3 by simpa using h)]
 simp only[aB,seval]
 refine aQ (fun h=>?_) (fun h=>?_)
 · simp only[aB,seval]
   have h':c=4:=by simpa using h
   exact⟨by rw[aN h'];try rfl,aO.refl _⟩
 rw[aK (show ¬c=4 by simpa using h)]
 simp only[aB,seval]
 exact⟨rfl,aO.refl _⟩
def u0(s0:RS)(x:RO)(r:AV):Prop:=match x with
 | .go s=>r=.tup [pA s,.int .i64 (-1)]
 | .fail=>r=.tup [pA s0,.int .i64 (-2)]
 | .stop e=>0≤e∧∃l1 l2 l3,r=.tup [.agg [.slice l1,.slice l2,.slice l3],.int .i64 e]
abbrev nK:=zi NM (zi aX (zi cB (zi d9 (zi gL (zi cI (zi dD (zi cC (zi iP (zi IT (zi UZ (zi IU (zi aPZ U0))))))))))))
theorem aVY{p:List Cl}(hp:∀c∈p,gF c∧c.2.length≤6)(hpl:p.length≤1048576){B:Nat}(hB:B+26≤524288)(goals:List RG)(σ:Sub)(N:Nat)(chs:List RC)(g:RG)(rest:List RG)(hgs:goals=g::rest)(h:qN p B ⟨goals,σ,N,chs⟩)(hK:zX ⟨goals,σ,N,chs⟩)(st:aA) :
 aD prog 118 [.slice (p.map aG),.agg [.slice (goals.map eX),.slice (cS N σ),.slice (chs.map f8)]] st (fun r st'=>st'=st∧u0 ⟨goals,σ,N,chs⟩ (lL p (fun _ l=>l) ⟨goals,σ,N,chs⟩ g rest) r):=by
 subst hgs
 obtain⟨hg,ho,hd,hgo,h0,hN,hgl,hcl,hch⟩:=h
 simp only at hg ho hd hgo h0 hN hgl hcl hch
 obtain⟨hgx,hg3⟩:=hgo g (by simp)
 have DY:∀x∈rest,bF N x.t∧x.t.k=3:=fun x hx=>hgo x (by simp [hx])
 have hkp:=hK.goals.2 g (by simp)
 simp only at hkp
 have hsm:=YP hg ho g.t hgx
 have hyk:(g.t.aL (rs σ)).k=3:=by rw[Tm.rF _ (by omega)];exact hg3
 have hfo:=K8 hg ho hgx
 generalize hR:lL p (fun _ l=>l) ⟨g::rest,σ,N,chs⟩ g rest=R
 unfold lL at hR
 dsimp only at hR
 obtain⟨⟨gk,gn,gs',gts⟩,aU⟩:=g
 simp only at hgx hg3 hkp hsm hyk hfo
 dsimp only at hR
 generalize (Tm.mk gk gn gs' gts).aL (rs σ)=y at *
 obtain⟨yk,yn,ys,yts⟩:=y
 obtain rfl:yk=3:=hyk
 have hat:dP prog 150 (.slice ((⟨.mk gk gn gs' gts,aU⟩::rest).map eX)) (.int .i64 0)=some (.pptr (eX ⟨.mk gk gn gs' gts,aU⟩)):=bH (av:=eX) (l:=⟨.mk gk gn gs' gts,aU⟩::rest) (i:=0) G1 rfl (ES _)
 have hs1:=fun(φ:AF) (y:Operand) (h:φ.eval y=.int .i64 1)=>a8B (e:=eX ⟨.mk gk gn gs' gts,aU⟩) (es:=rest.map eX) G1 h (by intro e he;simp only[cF] at he;obtain⟨t,_,rfl⟩:=he;exact ES t)
 rw[bR,BO] at hat
 rw[BO] at hs1
 rw[bR,BO]
 simp only[bD] at hsm
 refine aD.fin (aD.oT ?_)
 refine wF [1000000] 2 func118 ntmps118 rfl rfl ?_
 intro _
 simp only[a8,hat,hs1,aB,↓aW,seval,nK]
 intro b4 h4
 refine(hsm _).mono ?_
 rintro _ _ ⟨rfl,x,rfl,hx⟩
 generalize eW:fA (.mk 3 yn ys yts)=fit at *
 have AM:∀(o:AO) (r:AV) (x:RO),u0 ⟨⟨.mk gk gn gs' gts,aU⟩::rest,σ,N,chs⟩ x (r.fin 0 [])→∃s2,aO (st.aC b4 o) s2∧∃b l s0,s2=bK s0 b l∧(l≠[]→s0 b=none)∧(∀e∈l,e.bV=false)∧jU l∧s0=st∧u0 ⟨⟨.mk gk gn gs' gts,aU⟩::rest,σ,N,chs⟩ x (r.fin b l):=fun o r x hr=>
  ⟨st,(aO.refl _).aC h4,0,[],st,rfl,by simp,by simp,⟨0,by simp⟩,rfl,hr⟩
 simp only[a8,aT,Tm.e9,Tm.fP,aB,↓aW,seval,nK]
 refine aQ (fun h=>?_) (fun h=>?_)
 · have h':fit=false:=by simpa using h
   subst h'
   rw[aN rfl] at hR
   subst hR
   simp only[aM,a8,aB,seval,nK]
   exact AM _ _ _ ⟨by decide,_,_,_,by simp only[gJ,iM,gW,iC,bR,bS];rfl⟩
 obtain rfl:fit=true:=by simpa using h
 obtain rfl:=hx rfl
 simp only[bD]
 have hyo:=hfo rfl
 rw[aK (by simp)] at hR
 have HC:∀st,aD prog 133 [.agg [.int .i64 3,.int .i64 yn,.str ys,.slice (yts.map Tm.av)]] st (fun r st'=>r=.bool (sI (.mk 3 yn ys yts))∧st'=st):=fun st=>by
  have:=YJ 3 yn ys yts st
  rw[bD] at this
  exact this
 have hbi:=fun st=>P5 ys (yts.length:Int) st
 have aK8:=fun st=>aVK p (.mk 3 yn ys yts) hpl st
 have aLK:=fun hb=>aTE (N:=N) h0 (by omega) hg ho yn ys yts hb (rG N (.mk 3 yn ys yts) (by show(3:Int)≠1;decide) hyo)
 have htr:=YQ p hp
 simp only[bD] at aK8 aLK
 replace hR:(if sI (.mk 3 yn ys yts)=true then RO.go ⟨rest,σ,N,chs.take aU⟩ else if isBuiltin ys (yts.length:Int)=true then(if(dC σ ys yts).1=0 then RO.go ⟨rest,(dC σ ys yts).2.1,N,chs⟩ else if(dC σ ys yts).1=1 then RO.fail else RO.stop (sL (dC σ ys yts).1)) else if eS p (.mk 3 yn ys yts)= [] then RO.stop 8 else match iO p chs (.mk 3 yn ys yts) rest σ N (eS p (.mk 3 yn ys yts)) with | some s'=>RO.go s' | none=>RO.fail)=R:=hR
 generalize hcu:sI (.mk 3 yn ys yts)=cu at *
 have hs2:=fun(φ:AF) (d:Nat) (h:φ d=.int .i64 (aU:Int))=>aN4 (es:=chs.map f8) (k:=aU) DF h (by simpa using hkp)
 rw[←FR] at hs2
 refine(HC _).to ?_
 simp only[aB,seval]
 refine aQ (fun h=>?_) (fun h=>?_)
 · rw[aN h] at hR
   subst h hR
   simp only[aB,seval]
   refine wP [(0,1),(1,1),(3,1),(5,1),(2,2),(4,2),(6,2),(7,1),(8,1),(9,0),(10,1)] [0,1,3,5,2,4,6,7,8,10] mixed ?_
   simp only[aM,a8,hs2,aB,seval,nK]
   exact AM _ _ _ (by simp only[gJ,iM,gW,iC,bR,bS];rfl)
 rw[aK (by rw[h];simp)] at hR
 subst h
 simp only[aE,aB,seval,nK]
 refine(hbi _).to ?_
 simp only[aB,seval]
 refine aQ (fun h=>?_) (fun h=>?_)
 · have yR:=aLK h
   rw[aN h] at hR
   simp only[aB,seval,nK]
   refine PL h0 (by omega) σ fun b hb hA0=>?_
   have hst:=aO.aC (aO.refl st) (o:=.cells [.fslice [],.fslice [],.fslice []]) h4
   generalize hW:st.aC b4 (.cells [.fslice [],.fslice [],.fslice []])=W at *
   have hW4:W b4=some (.cells [.fslice [],.fslice [],.fslice []]):=by rw[←hW];exact aA.aJ _ _ _
   have hT:aO (W.aC b (.cells ((cS N σ).flatMap AV.cells))) W:=(aO.refl _).aC hb
   generalize W.aC b (.cells ((cS N σ).flatMap AV.cells))=T at *
   have hb4:b≠b4:=by rintro rfl;rw[hW4] at hb;cases hb
   simp only[a8,aB,seval,nK]
   refine(yR b _ hA0).mono ?_
   rintro _ s2 ⟨rfl,hA,hk2⟩
   have a2N:=a8I σ ys yts
   generalize dC σ ys yts=S at *
   obtain⟨c,σ',tr⟩:=S
   simp only at hA a2N ⊢
   dsimp only at hR
   have hDs:aO s2 W:=by
    intro q
    have key:∀o,W q=some o→s2 q=some o:=fun o h=>hk2 q o ((hT q).2 o h) (by rintro rfl;rw[hb] at h;cases h)
    refine⟨fun h=>?_,key⟩
    cases hq:W q with
    | none=>rfl
    | some o=>rw[key o hq] at h;cases h
   have SC:=(hDs b4).2 _ hW4
   have BC:st b=none:=by rw[←hW,aA.aF _ _ hb4] at hb;exact hb
   have aJ9:∀(o:AO) (r:AV) (x:RO),u0 ⟨⟨.mk gk gn gs' gts,aU⟩::rest,σ,N,chs⟩ x (r.fin 0 [])→∃s3,aO (s2.aC b4 o) s3∧∃b l s0,s3=bK s0 b l∧(l≠[]→s0 b=none)∧(∀e∈l,e.bV=false)∧jU l∧s0=st∧u0 ⟨⟨.mk gk gn gs' gts,aU⟩::rest,σ,N,chs⟩ x (r.fin b l):=fun o r x hr=>
    ⟨st,(hDs.trans hst).aC h4,0,[],st,rfl,by simp,by simp,⟨0,by simp⟩,rfl,hr⟩
   simp only[aB,seval]
   refine aQ (fun h=>?_) (fun h=>?_)
   · have hc0:c=0:=by simpa using h
     subst hc0
     rw[aN rfl] at hR
     subst hR
     simp only[aM,a8,SC,aB,seval,nK]
     have oX:cS N σ'≠[]:=by intro e;have:=vA N σ';rw[e] at this;simp at this;omega
     refine⟨st.aC b (.cells ((cS N σ').flatMap AV.cells)),fun q=>?_,b,cS N σ',st,by rw[lS oX],fun _=>BC,GN _ _,⟨4,CW _ _⟩,rfl,?_⟩
     · by_cases q4:q=b4
       · subst q4;rw[aA.aJ,aA.aF _ _ (dA hb4),h4];simp
       rw[aA.aF _ _ q4]
       by_cases qb:q=b
       · subst qb;rw[aA.aJ,show s2 q=_ from hA];simp
       rw[aA.aF _ _ qb]
       exact(hDs.trans hst) q
     · simp only[gJ,iM,gW,iC,bR,bS,K0 h0]
       rfl
   have hc0:c≠0:=by simpa using h
   rw[aK hc0] at hR
   simp only[aB,seval]
   refine aQ (fun h=>?_) (fun h=>?_)
   · have hc1:c=1:=by simpa using h
     subst hc1
     rw[aN rfl] at hR
     subst hR
     simp only[aM,a8,SC,aB,seval,nK]
     exact aJ9 _ _ _ (by simp only[u0,pA,bR,BO];simp only[gJ,iM,gW,iC,bR,bS])
   have hc1:c≠1:=by simpa using h
   rw[aK hc1] at hR
   subst hR
   have rA:0≤sL c:=by unfold sL;split;omega;split;omega;split;omega;omega
   simp only[aB,seval]
   refine wP [(1,1),(0,2),(2,2),(3,0),(4,1)] [1,0,2,4] mixed ?_
   simp only[a8,aB,seval,nK]
   refine iD (aVU c _) ?_
   simp only[aM,a8,SC,aB,seval,nK]
   exact aJ9 _ _ _ ⟨rA,_,_,_,by simp only[gJ,iM,gW,iC,bR,bS];rfl⟩
 rw[aK (by rw[h];simp)] at hR
 simp only[a8,aB,seval,nK]
 refine(aK8 _).to ?_
 have hcx:yA p ⟨.mk 3 yn ys yts,rest,eS p (.mk 3 yn ys yts),σ,N⟩:=⟨hg,ho,hd,hyo,DY,fun i hi=>by
  unfold eS at hi
  exact v6.1 (List.mem_filter.1 hi).1,by simp only;simp only[a8] at hgl;omega,by
  have:=LB p (.mk 3 yn ys yts) p.length
  rw[←LA] at this
  simp only;omega⟩
 have DZ:=fun st=>htr (⟨.mk gk gn gs' gts,aU⟩::rest) (cS N σ) chs _ hcx h0 (by simp only;omega) (by omega) st
 rw[bR,BO,TI] at DZ
 simp only at DZ
 generalize eS p (.mk 3 yn ys yts)=left at *
 simp only[aE,aB,seval,nK]
 refine aQ (fun h=>?_) (fun h=>?_)
 · have h':left= []:=by
    have:(left.length:Int)=0:=by simpa using h
    exact rT (by omega)
   rw[aN h'] at hR
   subst hR
   simp only[aM,a8,aB,seval,nK]
   exact AM _ _ _ ⟨by decide,_,_,_,by simp only[gJ,iM,gW,iC,bR,bS];rfl⟩
 have h':left≠[]:=by
  rintro rfl
  simp at h
 rw[aK h'] at hR
 generalize iO p chs (.mk 3 yn ys yts) rest σ N left=x at *
 simp only[a8,aB,seval,nK]
 cases x with
 | none=>
  simp only at hR DZ
  subst hR
  refine(DZ _).mono ?_
  rintro _ _ ⟨rfl,rfl⟩
  simp only[aM,a8,aB,↓aW,seval,nK]
  exact AM _ _ _ (by simp only[u0,pA,bR,BO];simp only[gJ,iM,gW,iC,bR,bS])
 | some s=>
  simp only[pA] at hR DZ
  subst hR
  refine(DZ _).mono ?_
  rintro _ _ ⟨rfl,rfl⟩
  simp only[aM,a8,aB,↓aW,seval,nK]
  exact AM _ _ _ (by simp only[gJ,iM,gW,iC,bR,bS];rfl)
theorem a76{N:Int}{t:Tm}(h:cJ N t):dH 0 t=t:=by
 have h1:dH 0 t=t.aL vr:=by
  unfold dH bZ
  congr 1
  funext v
  congr 1
  simp
 rw[h1,HR t h.2.1]
theorem XA(N:Nat):cS N Sub.none=List.replicate N zt:=by
 apply JC
 intro i
 by_cases h:i<N
 · rw[AD N _ h,List.getElem?_replicate,aN h];try rfl
 · rw[FQ (by rw[vA];omega),FQ (by simp;omega)]
abbrev UT:=zi aX (zi cI (zi dD (zi IT IU)))
theorem aVX(q:List Tm)(hq:∀t∈q,bF 26 t)(h6:q.length≤6)(st:aA):aD prog 116 [.slice (q.map Tm.av)] st (fun r st'=>r=pA (nH q)∧st'=st):=by
 have hgo:∀st,aD prog 135 [.slice (q.map Tm.av),.int .i64 0,.int .i64 0,.fslice []] st (fun r st'=>r=.slice ((nH q).goals.map eX)∧st'=st):=fun st=>
  aD.IB ((YO q 0 0 [] hq h6 (by omega) (by simp) st).mono fun _ _ h=>⟨by
   rw[h.1]
   unfold nH
   rw[eU]
   congr 2
   exact qK fun t ht=>by rw[a76 (hq t ht).1],h.2⟩)
 refine aD.oS (aD.fin (aD.oT ?_))
 refine wF [1000000,3] 1 func116 ntmps116 rfl rfl ?_
 intro _
 simp only[aB,seval,UT]
 intro b2 h2
 simp only[qQ,aM,wR,↓KU,↓I9,List.contains,List.elem,zO,qJ,rQ,↓reduceIte,reduceCtorEq,Nat.reduceEqDiff,Nat.reduceAdd,Nat.reduceLT,Nat.reduceBEq,UT]
 refine⟨by omega,by omega,by omega,fun bb hbb=>?_⟩
 rw[show Int.toNat 26=26 from rfl,BF _ (by simp)]
 have hb2:bb≠b2:=by rintro rfl;rw[aA.aJ] at hbb;cases hbb
 have LK:(List.replicate 26 [AV.int .i64 0,.int .i64 0,.str ⟨#[]⟩,.fslice []]).flatten=(cS 26 Sub.none).flatMap AV.cells:=by
  rw[XA];try rfl
 rw[LK]
 have h22:(st.aC b2 (AO.cells [AV.fslice [],AV.fslice [],AV.fslice []])) b2=some (AO.cells [AV.fslice [],AV.fslice [],AV.fslice []]):=aA.aJ _ _ _
 have hD2:aO (st.aC b2 (AO.cells [AV.fslice [],AV.fslice [],AV.fslice []])) st:=(aO.refl _).aC h2
 intro b3 h3
 have h3b:b3≠bb:=by rintro rfl;rw[aA.aJ] at h3;cases h3
 rw[aA.aF _ _ h3b] at h3
 have h32:b3≠b2:=by rintro rfl;rw[aA.aJ] at h3;cases h3
 have hs3:st b3=none:=by rw[aA.aF _ _ h32] at h3;exact h3
 have hsb:st bb=none:=by rw[aA.aF _ _ hb2] at hbb;exact hbb
 refine(hgo _).to ?_
 have e1:=dA h3b
 have e2:=dA h32
 have e3:=dA hb2
 simp only[aM,e2,e3,aA.aJ,aB,seval,UT]
 have oX:cS 26 Sub.none≠[]:=by rw[XA];simp
 refine⟨st.aC bb (.cells ((cS 26 Sub.none).flatMap AV.cells)),fun q'=>?_,bb,cS 26 Sub.none,st,by rw[lS oX],fun _=>hsb,GN _ _,⟨4,CW _ _⟩,?_,aO.refl _⟩
 · by_cases q2:q'=b2
   · subst q2;rw[aA.aJ,aA.aF _ _ e3,h2];simp
   rw[aA.aF _ _ q2]
   by_cases q3:q'=b3
   · subst q3;rw[aA.aJ,aA.aF _ _ h3b,hs3];simp
   simp only[aA.aF _ _ q3]
   by_cases qb:q'=bb
   · subst qb;rw[aA.aJ,aA.aJ];simp
   rw[aA.aF _ _ qb,aA.aF _ _ qb,aA.aF _ _ q2]
   simp
 · simp only[gJ,iC,nE,bR,bS,K0 (show 0<26 by omega)]
   rfl
theorem PG{S:aA}{b c:Nat}{l:List AV}{o:AO}(h:l≠[]→b≠c):(bK S b l).aC c o=bK (S.aC c o) b l:=by
 cases l with
 | nil=>rfl
 | cons x l=>rw[lS (by simp),lS (by simp),aA.pJ _ _ _ (h (by simp))]
theorem TD{p:List Cl}{cnd:Tm→List Nat→List Nat}{vars:List Int}{most fuel:Nat}{s:RS}(hg:s.goals= []):lK p cnd vars most fuel s=if most=0 then([],1) else match jZ s.σ vars with
 | none=>([],3)
 | some a=>match gT p s.chs.length s.chs with
  | none=>([a],0)
  | some s'=>(a::(lK p cnd vars (most - 1) fuel s').1,(lK p cnd vars (most - 1) fuel s').2):=by
 rw[lK.eq_def,hg]
 simp only
 split<;>rfl
theorem TC{p:List Cl}{cnd:Tm→List Nat→List Nat}{vars:List Int}{most fuel:Nat}{s:RS}{g:RG}{rest:List RG}(hg:s.goals=g::rest):lK p cnd vars most fuel s=if fuel=0 then([],2) else match lL p cnd s g rest with
 | .stop e=>([],e)
 | .go s'=>lK p cnd vars most (fuel - 1) s'
 | .fail=>match gT p s.chs.length s.chs with
  | none=>([],0)
  | some s'=>lK p cnd vars most (fuel - 1) s':=by
 rw[lK.eq_def,hg]
 simp only
 split<;>rfl
structure WA (p:List Cl) (vars:List Int) (most fuel:Nat) (T:List (List Tm)×Int) (s:RS) (out:List (List Tm)) (f B:Nat):Prop where
 tot:T=(out++(lK p (fun _ l=>l) vars (most - out.length) f s).1,(lK p (fun _ l=>l) vars (most - out.length) f s).2)
 len:out.length≤most
 ok:mK p B s
 bd:B+26*f≤8000
abbrev mY:=zi NM (zi aX (zi cB (zi gL (zi cI (zi dD (zi BY (zi iP (zi IT (zi IU NL)))))))))
theorem aVW{p:List Cl}(hp:∀c∈p,gF c∧c.2.length≤6)(hpl:p.length≤20){q:List Tm}(hq:∀t∈q,bF 26 t∧t.k=3)(h6:q.length≤6){most fuel:Nat}(hm:most≤20)(hf:fuel≤300)(st:aA) :
 aD prog 104 [.slice (p.map aG),.slice (q.map Tm.av),.int .i64 (most:Int),.int .i64 (fuel:Int)] st (fun r st'=>r=.tup [.slice ((y9 p (fun _ l=>l) q most fuel).1.map dM),.int .i64 (y9 p (fun _ l=>l) q most fuel).2]∧st'=st):=by
 have hnd:aH Tm.nodes q≤1099511627776:=by
  have:=EA q fun t ht=>(hq t ht).1.2
  omega
 have hva:=fun st=>YR q st (fun t ht=>Tm.tT t (hq t ht).1.1.2.1) hnd
 have HL:=fun st=>aVX q (fun t ht=>(hq t ht).1) h6 st
 have hv:∀v∈cA q [],0≤v∧v<26:=fun v hv=>by
  rcases (xR q [] fun t ht=>(hq t ht).1.1.2.1).1 hv with h | ⟨t,ht,h⟩
  · cases h
  · exact(hq t ht).1.1.2.2 v h
 have hvl:(cA q []).length≤1000:=by
  have h1:=zH q []
  have h2:=EA q fun t ht=>(hq t ht).1.2
  simp only[bG] at h1
  omega
 have LT:=mK.start (p:=p) hq h6
 generalize hT:y9 p (fun _ l=>l) q most fuel=T
 unfold y9 at hT
 generalize cA q []=vars at *
 have hI0:WA p vars most fuel T (nH q) [] fuel 26:=⟨by rw[←hT];try rfl,nO _,LT,by omega⟩
 generalize nH q=s0 at *
 simp only[pA] at HL
 refine aD.oS (aD.fin (aD.oT ?_))
 refine wF [1000000,12] 4 func104 ntmps104 rfl rfl ?_
 intro _
 simp only[aB,seval,mY]
 refine(hva _).to ?_
 simp only[aB,seval]
 refine(HL _).to ?_
 simp only[aM,aB,↓aW,seval,mY]
 intro b12 h12
 refine oI (σ:=RS×List (List Tm)×Nat×Nat×Nat) [1000000,12] [0,2,11,12] (fun x=>WA p vars most fuel T x.1 x.2.1 x.2.2.1 x.2.2.2.1∧(x.2.1.map dM≠[]→(st.aC b12 (.cells [.slice (x.1.goals.map eX),.slice (cS x.1.N x.1.σ),.slice (x.1.chs.map f8)])) x.2.2.2.2=none))
  (fun x=>[(3,.int .i64 (x.2.2.1:Int)),(8,.fslice []),(9,.int .i64 0),(10,bQ 1 x.2.2.2.2 (x.2.1.map dM))])
  (fun x=>bK (st.aC b12 (.cells [.slice (x.1.goals.map eX),.slice (cS x.1.N x.1.σ),.slice (x.1.chs.map f8)])) x.2.2.2.2 (x.2.1.map dM))
  (fun x=>(most - x.2.1.length)+x.2.2.1) (by decide +kernel) ⟨(s0,[],fuel,26,0),⟨hI0,by simp⟩,aP.mk (by simp only[lT,bS,aB,seval])⟩ ?_
 rintro⟨s,out,f,B,b⟩ ⟨⟨tot,hlen,hok,hbd⟩,hb⟩
 simp only at tot hlen hok hbd hb
 simp only
 have hbc:out.map dM≠[]→b≠b12:=fun h=>by rintro rfl;have:=hb h;rw[aA.aJ] at this;cases this
 have qY:=CT hb (aA.aJ st b12 (.cells [.slice (s.goals.map eX),.slice (cS s.N s.σ),.slice (s.chs.map f8)]))
 have hlo:(out.map dM).length=out.length:=aE _
 have a29:∀l:List (List Tm),∀e∈l.map dM,e.bV=false:=fun l e he=>by simp only[cF] at he;obtain⟨t,_,rfl⟩:=he;rfl
 have LU:∀l:List (List Tm),∀e∈l.map dM,e.width=1:=fun l e he=>by simp only[cF] at he;obtain⟨t,_,rfl⟩:=he;rfl
 have fin:∀(S:aA) (b:Nat) (l:List (List Tm)) (e:Int),(l.map dM≠[]→S b=none)→aO S st→T=(l,e)→∃s2,aO (bK S b (l.map dM)) s2∧∃b' l' s0,s2=bK s0 b' l'∧(l'≠[]→s0 b'=none)∧(∀e∈l',e.bV=false)∧jU l'∧(AV.tup [bQ 1 b (l.map dM),.int .i64 e]).fin b' l'=.tup [.slice (T.1.map dM),.int .i64 T.2]∧aO s0 st:=fun S b l e h1 h2 h3=>
  ⟨_,aO.refl _,b,l.map dM,S,rfl,h1,a29 l,⟨1,LU l⟩,by subst h3;simp only[iM,gW,lF,bR,bS],h2⟩
 have hSD:∀o,aO (st.aC b12 o) st:=fun o=>(aO.refl _).aC h12
 generalize hX:(AO.cells [.slice (s.goals.map eX),.slice (cS s.N s.σ),.slice (s.chs.map f8)])=X at qY hb
 have qY:=qY.trans (iT some hX.symm)
 have hun:prog.underlying 128=some (.slice 156):=by kernel_rfl
 have vJ:=GI (w:=1) (b:=b) (l:=out.map dM) hun
 rw[hlo] at vJ
 cases hgs:s.goals with
 | nil=>
  rw[hgs] at hX qY
  simp only[bS] at hX qY
  rw[TD hgs] at tot
  simp only[bG,vJ,qY,aB,seval,mY]
  refine aQ (fun h=>?_) (fun h=>?_)
  · have h':out.length=most:=by simp at h;omega
    rw[aN (by omega)] at tot
    simp only[mC,aB,seval]
    exact fin _ b out 1 hb (hSD _) (by rw[tot,eU])
  have h':out.length<most:=by simp at h;omega
  rw[aK (by omega)] at tot
  simp only[qY,aB,seval,mY]
  refine(aVT (N:=s.N) hok.a.gX hok.a.ok vars (fun v h=>⟨(hv v h).1,by have:=(hv v h).2;have:=hok.l.1;omega⟩) hvl _).mono ?_
  rintro _ _ ⟨rfl,a,rfl,ha⟩
  cases qZ:jZ s.σ vars with
  | none=>
   rw[qZ] at tot
   simp only[Option.isSome_none,dM]
   simp only[bG,a8,mC,aB,↓aW,seval,mY]
   exact fin _ b out 3 hb (hSD _) (by rw[tot,eU])
  | some x=>
   obtain rfl:=ha x qZ
   rw[qZ] at tot
   simp only[Option.isSome_some,dM] at tot ⊢
   simp only[bG,a8,aB,↓aW,seval,mY]
   refine gA (P:=prog) (b:=b) (l:=out.map dM) (xs:=[dM a]) KQ QO QY rfl rfl (g8 rfl rfl) (LU out) hb (by simp only[a8,bG,hlo];omega) (by simp only[a8,bG,hlo];omega) (fun b' hb'=>?_)
   rw[show(out.map dM)++ [dM a]=(out++ [a]).map dM by simp] at hb' ⊢
   have aKQ:=(CT hb' (aA.aJ st b12 X)).trans (iT some hX.symm)
   simp only[bG,a8,aKQ,aB,seval,mY]
   have LJ:(f:Int)=(f:Int):=rfl
   refine(YM hp (B:=B) (by omega) [] (cS s.N s.σ) s.chs hok.a.pT hok.a.chs _).mono ?_
   rintro r _ ⟨rfl,hr⟩
   cases hbk:gT p s.chs.length s.chs with
   | none=>
    rw[hbk] at hr tot
    simp only at hr tot
    obtain⟨l1,l2,l3,rfl⟩:=hr
    simp only[bG,a8,mC,aB,↓aW,seval,mY]
    exact fin _ b' (out++ [a]) 0 hb' (hSD _) (by rw[tot];try rw[eU])
   | some s'=>
    rw[hbk] at hr tot
    simp only[pA] at hr tot
    subst hr
    simp only[aM,bG,a8,aKQ,aB,↓aW,seval,mY]
    rw[PG (fun h=>by rintro rfl;have:=hb' h;rw[aA.aJ] at this;cases this),dR]
    have hne:(out++ [a]).map dM≠[]→b'≠b12:=fun h=>by rintro rfl;have:=hb' h;rw[aA.aJ] at this;cases this
    refine⟨(s',out++ [a],f,B,b'),by simp only[dS,a8,bG];omega,⟨⟨by rw[tot];try simp only[kC,gR,eE,dS,a8,bG,Nat.sub_sub];try rfl,by simp only[dS,a8,bG];omega,hok.back hp (by omega) hbk,by simp only;omega⟩,fun h=>by rw[aA.aF _ _ (hne h)];have:=hb' h;rwa [aA.aF _ _ (hne h)] at this⟩,aP.mk (by simp only[aB,seval])⟩
 | cons g rest=>
  rw[hgs] at hX qY
  rw[TC hgs] at tot
  simp only[aE,a8,qY,aB,seval,mY]
  refine aQ (fun h=>absurd h (by simp;omega)) (fun h=>?_)
  simp only[aB,seval]
  refine aQ (fun h=>?_) (fun h=>?_)
  · have h':f=0:=by simp at h;omega
    rw[aN h'] at tot
    simp only[mC,aB,seval]
    exact fin _ b out 2 hb (hSD _) (by rw[tot,eU])
  have h':f≠0:=by simp at h;omega
  rw[aK h'] at tot
  have hw:=aZ (n:=(f:Int) - 1)
  simp only[hw,bG,a8,qY,aB,seval,mY]
  have hst:=aVY hp (by omega) (B:=B) (by omega) s.goals s.σ s.N s.chs g rest hgs hok.a hok.k
  rw[hgs,bR] at hst
  refine(hst _).mono ?_
  rintro r _ ⟨rfl,hr⟩
  have hse:(⟨g::rest,s.σ,s.N,s.chs⟩:RS)=s:=by rw[←hgs]
  rw[hse] at hr
  cases rD:lL p (fun _ l=>l) s g rest with
  | go s'=>
   rw[rD] at hr tot
   simp only[u0,pA] at hr tot
   subst hr
   simp only[bG,a8,wR,↓KU,List.contains,List.elem,B4,↓reduceIte,Nat.reduceEqDiff,Nat.reduceAdd,Nat.reduceBEq,mY]
   refine aQ (fun h=>absurd h (by decide)) (fun h=>?_)
   simp only[aM,bG,a8,qY,aB,seval,mY]
   rw[PG hbc,dR]
   have LJ:((f - 1:Nat):Int)=(f:Int) - 1:=by omega
   refine⟨(s',out,f - 1,B+26,b),by simp only;omega,⟨⟨tot,hlen,hok.step hp (by omega) (by omega) (cnd:=fun _ l=>l) (fun _ _=>⟨fun _ h=>h,cZ _⟩) hgs rD,by simp only;omega⟩,fun h=>by rw[aA.aF _ _ (hbc h)];have:=hb h;rwa [aA.aF _ _ (hbc h)] at this⟩,aP.mk (by simp only[LJ,aB,seval])⟩
  | fail=>
   rw[rD] at hr tot
   simp only[u0,pA] at hr tot
   subst hr
   simp only[bG,a8,wR,↓KU,List.contains,List.elem,B4,↓reduceIte,Nat.reduceEqDiff,Nat.reduceAdd,Nat.reduceBEq,mY]
   refine aQ (fun h=>absurd h (by decide)) (fun h=>?_)
   simp only[bG,a8,qY,aB,seval,mY]
   have LJ:((f - 1:Nat):Int)=(f:Int) - 1:=by omega
   refine(YM hp (B:=B) (by omega) (g::rest) (cS s.N s.σ) s.chs hok.a.pT hok.a.chs _).mono ?_
   rintro r _ ⟨rfl,hr⟩
   cases hbk:gT p s.chs.length s.chs with
   | none=>
    rw[hbk] at hr tot
    simp only at hr tot
    obtain⟨l1,l2,l3,rfl⟩:=hr
    simp only[bG,a8,mC,aB,↓aW,seval,mY]
    exact fin _ b (out) 0 hb (hSD _) (by rw[tot];try rw[eU])
   | some s'=>
    rw[hbk] at hr tot
    simp only[pA] at hr tot
    subst hr
    simp only[aM,bG,a8,qY,aB,↓aW,seval,mY]
    rw[PG (fun h=>by rintro rfl;have:=hb h;rw[aA.aJ] at this;cases this),dR]
    have hne:(out).map dM≠[]→b≠b12:=fun h=>by rintro rfl;have:=hb h;rw[aA.aJ] at this;cases this
    refine⟨(s',out,f - 1,B,b),by simp only[];omega,⟨⟨by rw[tot];try simp only[kC,gR,eE,dS,a8,bG,Nat.sub_sub];try rfl,by simp only[];omega,hok.back hp (by omega) hbk,by simp only;omega⟩,fun h=>by rw[aA.aF _ _ (hne h)];have:=hb h;rwa [aA.aF _ _ (hne h)] at this⟩,aP.mk (by simp only[LJ,aB,seval])⟩
  | stop e=>
   rw[rD] at hr tot
   simp only[u0] at hr tot
   obtain⟨he0,l1,l2,l3,rfl⟩:=hr
   simp only[bG,a8,aB,↓aW,seval,mY]
   refine aQ (fun h=>?_) (fun h=>absurd he0 (by simpa using h))
   simp only[mC,aB,seval]
   exact fin _ b out e hb (hSD _) (by rw[tot,eU])
def uN(p:List Cl)(q:List Tm)(most fuel:Int):Bool:=qG p&&(rI q&&(decide (0≤most)&&(decide (most≤20)&&(decide (0≤fuel)&&decide (fuel≤300)))))
noncomputable def mX(p:List Cl)(cnd:Tm→List Nat→List Nat)(q:List Tm)(most fuel:Int):List (List Tm)×Int:=if uN p q most fuel=true then y9 p cnd q most.toNat fuel.toNat else([],9)
theorem TA{p:List Cl}(h:qG p=true):p.length≤20∧∀c∈p,gF c∧c.2.length≤6:=by
 simp only[qG,cY,bM,fU] at h
 refine⟨h.1,fun c hc=>⟨aW9 (h.2 c hc),?_⟩⟩
 have:=h.2 c hc
 simp only[sE,cY,bM,fU] at this
 exact this.2.1
theorem TB{q:List Tm}(h:rI q=true):q.length≤6∧∀t∈q,bF 26 t∧t.k=3:=by
 simp only[rI,cY,bM,fU] at h
 refine⟨h.1,fun t ht=>?_⟩
 have hg:=h.2 t ht
 have hk:t.valid=true∧t.k=3:=by
  obtain⟨k,n,s,ts⟩:=t
  simp only[Tm.goal,cY] at hg
  refine⟨hg.1,?_⟩
  have:=hg.2
  simp only[yN,rH,tF,cY,bM] at this
  simp only[Tm.k]
  rcases this with (h | h) | h<;>first | exact h.1 | exact h.1.1 | exact h.1.1.1
 exact⟨⟨Tm.I2 hk.1,Tm.OG hk.1⟩,hk.2⟩

end Go.AW
namespace Go.AW
def qB(l:List IC):Nat:=(l.map fun c=>c.list.length).sum
theorem SN(l m:List IC):qB (l++m)=qB l+qB m:=by simp [qB]
theorem aL6(c:IC):qB [c]=c.list.length:=by simp [qB]
theorem aL7(l:List IC)(k:Nat):qB (l.take k)≤qB l:=by
 have:=SN (l.take k) (l.drop k)
 rw[oO] at this
 omega
structure IX (p:List Cl) (M:Nat) (i:IS):Prop where
 tnd:i.tr.Nodup
 tin:∀n∈i.tr,(0≤n∧n<(i.fresh:Int))∧i.σ n≠none
 phi:i.fresh+26*qB i.chs≤M
 ch:∀c∈i.chs,c.node<c.taken∧c.taken≤i.nn∧c.fK≤i.tr.length∧∀x∈c.list,x<p.length
 mono:i.chs.Pairwise (fun c d=>c.taken≤d.taken∧c.fK≤d.fK)
theorem IX.up{p:List Cl}{M M':Nat}{i:IS}(h:IX p M i)(hM:M≤M'):IX p M' i:=⟨h.tnd,h.tin,nN h.phi hM,h.ch,h.mono⟩
theorem IX.VH{p:List Cl}{M:Nat}{i:IS}(h:IX p M i):i.tr.length≤i.fresh:=EB h.tnd fun n hn=>(h.tin n hn).1
theorem LV{p:List Cl}(hp:∀c∈p,gF c){M:Nat}{goal:Tm}{at':Nat}{rest:List IG}:∀(l:List Nat) (s:IS),(∀x∈l,x<p.length)→at'<s.nn→s.fresh+26*qB s.chs+26*l.length≤M→IX p M s→cO s.σ→cQ (bF s.fresh) s.σ→bF s.fresh goal →
 IX p M (f7 p goal at' rest l s).2
 | [],s,_,_,_,h,_,_,_=>by unfold f7;exact h
 | j::l,s,hl,ha,hM,h,hg,ho,hgo=>by
  obtain⟨x,hx⟩:∃x,p[j]?=some x:=⟨_,eK (hl j (by simp))⟩
  have hX:=hp x (cH hx)
  have hl':∀x∈l,x<p.length:=fun x h=>hl x (by simp [h])
  simp only[a8] at hM
  unfold f7
  simp only[hx]
  split
  · have hhd:bF ((s.fresh+26:Nat):Int) (dH s.fresh x.1):=(hX.dH s.fresh x.1 (by simp)).mono (by have:=hX.fr.1;omega)
    obtain⟨r,σ',add,U⟩:=uU (N:=s.fresh+26) hg (fun n u e=>(ho n u e).mono (by omega)) (hgo.mono (by omega)) hhd
    rw[U.eq]
    have S:=U.xN
    refine⟨?_,?_,?_,?_,?_⟩
    · simp only
      refine mA.2 ⟨h.tnd,S.nodup,fun a ha b hb e=>?_⟩
      subst e
      exact(h.tin a ha).2 (S.new a hb).1
    · intro n hn
      simp only[eL] at hn ⊢
      rcases hn with hn | hn
      · have h1:=h.tin n hn
        have hna:n∉add:=fun ha=>h1.2 (S.new n ha).1
        exact⟨⟨h1.1.1,by have:=h1.1.2;omega⟩,by rw[S.aU n hna];exact h1.2⟩
      · have:=S.gE n hn
        exact⟨⟨this.1,by omega⟩,(S.new n hn).2⟩
    · simp only
      split
      · omega
      · rw[SN,aL6];simp only;omega
    · intro c hc
      have key:∀c∈s.chs,c.node<c.taken∧c.taken≤s.nn∧c.fK≤(s.tr++add).length∧∀x∈c.list,x<p.length:=fun c hc=>by
       obtain⟨h1,h2,h3,h4⟩:=h.ch c hc
       exact⟨h1,h2,by rw[dS];omega,h4⟩
      simp only at hc ⊢
      split at hc
      · exact key c hc
      · rcases eL.1 hc with hc | hc
        · exact key c hc
        · simp only[cG,cX,dG] at hc
          subst hc
          exact⟨ha,cZ _,by rw[dS];simp only;omega,hl'⟩
    · simp only
      split
      · exact h.mono
      · refine List.pairwise_append.2 ⟨h.mono,List.pairwise_singleton _ _,fun a ha b hb=>?_⟩
        simp only[cG,cX,dG] at hb
        subst hb
        obtain⟨h1,h2,h3,h4⟩:=h.ch a ha
        exact⟨h2,h3⟩
  · refine LV hp l { s with fresh:=s.fresh+26 } hl' ha (by simp only;omega) ⟨h.tnd,fun n hn=>?_,by simp only;omega,h.ch,h.mono⟩ hg (fun n u e=>(ho n u e).mono (by simp only;omega)) (hgo.mono (by simp only;omega))
    have:=h.tin n hn
    exact⟨⟨this.1.1,by simp only;omega⟩,this.2⟩
theorem IX.pop{p:List Cl}{M:Nat}{gl:List IG}{τ:Sub}{tr:List Int}{ds:List IC}{d:IC}{F nn:Nat}(h:IX p M ⟨gl,τ,tr,ds++ [d],F,nn⟩) :
 IX p M ⟨gl,τ.out (tr.drop d.fK),tr.take d.fK,ds,F,d.taken⟩∧F+26*qB ds+26*d.list.length≤M∧d.node<d.taken∧d.taken≤nn∧d.fK≤tr.length∧∀x∈d.list,x<p.length:=by
 obtain⟨h1,h2,h3,h4⟩:=h.ch d (by simp)
 have a3S:=h.phi
 simp only[SN,aL6] at a3S
 have hm:=List.pairwise_append.1 h.mono
 have hnd:=h.tnd
 simp only at hnd h2 h3
 have hsp:tr.take d.fK++tr.drop d.fK=tr:=oO _ _
 rw[←hsp,mA] at hnd
 refine⟨⟨hnd.1,fun n hn=>?_,by simp only;omega,fun c hc=>?_,hm.1⟩,by omega,h1,h2,h3,h4⟩
 · have:=h.tin n (l9 hn)
   refine⟨this.1,?_⟩
   simp only
   unfold Sub.out
   rw[aK (fun hd=>hnd.2.2 n hn n hd rfl)]
   exact this.2
 · obtain⟨g1,g2,g3,g4⟩:=h.ch c (by simp [hc])
   have:=hm.2.2 c hc d (by simp)
   exact⟨g1,this.1,by simp only[dZ];simp only at g3;omega,g4⟩
theorem aLO{p:List Cl}(hp:∀c∈p,gF c){M:Nat}:∀(n:Nat) (cs:List RC) (i:IS),iI i.fresh cs i.chs i.σ i.tr→IX p M i→∀i',gP p n i=some i'→IX p M i'
 | 0,_,_,_,_,i',h=>by simp [gP] at h
 | n+1,cs,i,C,h,i',e=>by
  obtain⟨gl,τ,tr,ds,F,nn⟩:=i
  simp only at C
  cases C with
  | nil=>simp only[gP,List.getLast?_nil] at e;cases e
  | @snoc cs ds c d _ _ C h1 h2=>
   obtain⟨hP,hM,hnt,htn,htr,hli⟩:=h.pop
   have e3:(IS.pop ⟨gl,τ,tr,ds++ [d],F,nn⟩ d)=⟨gl,τ.out (tr.drop d.fK),tr.take d.fK,ds,F,d.taken⟩:=by simp only[IS.pop,OQ]
   simp only[gP,List.getLast?_append,List.getLast?_singleton,Option.some_or,e3] at e
   obtain⟨ρ,S,e1,hok,hG,e2⟩:=h1
   have hX:=LV hp (rest:=d.rest) d.list _ hli (at':=d.node) (by simp only;exact hnt) (by simp only;exact hM) hP S.g2 S.o2 (e1▸S.BN hok)
   split at e
   · cases e
     exact hX
   · rename_i hf
     have key:=N9 hp (cs:=cs) (nn:=d.taken) (at':=d.node) (tr:=tr.take d.fK) hok hG c.left F gl S C
     rw[←e1,←e2] at key
     cases ht:iO p cs c.goal c.rest c.σ c.N c.left with
     | some s=>
      rw[e2,ht] at key
      obtain⟨i2,k1,_⟩:=key
      rw[←e2] at k1
      rw[k1] at hf
      simp at hf
     | none=>
      rw[e2,ht] at key
      obtain⟨F',hF,k1⟩:=key
      rw[←e2] at k1
      rw[k1] at e hX
      exact aLO hp n cs _ (C.mono hF) hX i' e
end Go.AW
