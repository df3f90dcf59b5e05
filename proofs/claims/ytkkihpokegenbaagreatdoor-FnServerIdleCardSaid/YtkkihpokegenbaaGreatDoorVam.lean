import Derived.Test.YtkkihpokegenbaaGreatDoorVal
import Derived.Test.YtkkihpokegenbaaGreatDoorVaf
import Derived.Test.YtkkihpokegenbaaGreatDoorVai
set_option linter.unusedSimpArgs false
set_option linter.unusedVariables false
set_option maxRecDepth 100000
namespace Go.AW
open Go.Proofs.Tryz
theorem aIW{M:Int}(m:Nat)(hm:M+m≤1073741824):∀t:Tm,dD M t→t.sh (m:Int)=fS m t:=by
 intro t
 induction t using Tm.ind with
 | h k n s ts ih=>
  intro h
  rw[Tm.PV]
  by_cases hk:k=1
  · subst hk
    obtain⟨h0,h1,rfl,rfl⟩:=h.var
    unfold fS
    rw[aN rfl,JZ _ (t:=.mk 1 n ⟨#[]⟩ []) rfl,wrap64 (by omega) (by omega)]
    try rfl
  · obtain⟨_,h2⟩:=h.own hk
    unfold fS at ih ⊢
    rw[aK hk,PS _ hk]
    congr 1
    exact AG fun x hx=>ih x hx (h2 x hx)
abbrev KH:=zi aS (zi cB (zi cC (zi GR aKK)))
theorem T9(bd:List Tm)(N aY:Nat)(rest:List RG)(hb:∀t∈bd,bY 26 t)(h6:bd.length≤6)(hN:N≤1048576)(hr:rest.length≤1048576)(st:aA) :
 aD prog 189 [.slice (bd.map Tm.av),.int .i64 (N:Int),.int .i64 (aY:Int),.slice (rest.map d5)] st (fun r st'=>r=.slice ((bd.map (fun t=>(⟨fS N t,aY⟩:RG))++rest).map d5)∧st'=st):=by
 refine aD.jT (aD.fin ?_)
 refine wF [1000000] 4 func189 ntmps189 rfl rfl ?_
 intro _
 simp only[aB,seval,KH]
 refine dX (σ:=Nat) [1000000] [0,1,2,3,8] bd (fun i b=>((bd.take i).map (fun t=>(⟨fS N t,aY⟩:RG))).map d5≠[]→st b=none) (fun i b=>[(9,bK 5 b (((bd.take i).map (fun t=>(⟨fS N t,aY⟩:RG))).map d5)),(10,.int .i64 i)]) (fun i b=>a9 st b (((bd.take i).map (fun t=>(⟨fS N t,aY⟩:RG))).map d5)) (by decide +kernel) ⟨0,fun h=>absurd rfl h,aO.mk (by simp only[mK,bE,j8,aB,↓aU,seval])⟩ (fun i x b hx hlt bP hdr hinv=>?_) (fun b hge hinv=>?_)
 case refine_1=>
  have hw:=bC (n:=(i:Int)+1)
  have cU:(((bd.take i).map (fun t=>(⟨fS N t,aY⟩:RG))).map d5).length=i:=by simp only[aE,dK];omega
  have htk:(((bd.take i).map (fun t=>(⟨fS N t,aY⟩:RG))).map d5)++ [d5 ⟨fS N x,aY⟩]=(((bd.take (i+1)).map (fun t=>(⟨fS N t,aY⟩:RG))).map d5):=by rw[eS,hx];simp
  have hxo:=hb x (cQ hx)
  have hsh:=aIW N (by omega) x hxo.1
  have hcs:=M1 (N:Int) x
  rw[hsh] at hcs
  have hgo:d5 ⟨fS N x,aY⟩=.agg ((fS N x).av.cells++ [.int .i64 (aY:Int)]):=a0X _
  simp only[bP,aE,bS (av:=Tm.av) cF hx (aP x),bM,aP,aB,seval,KH]
  refine(hcs _ hxo.1.small).to ?_
  generalize fS N x=y at *
  obtain⟨yk,yn,ys,yt⟩:=y
  simp only[bU,zJ] at htk hgo ⊢
  simp only[aB,seval,KH]
  refine eY E3 NJ NN rfl rfl (gN rfl rfl) (by intro e he;simp only[cM] at he;obtain⟨t,_,rfl⟩:=he;exact CV t) hinv (by simp only[cU,aX,a8];omega) (by simp only[cU,aX,a8];omega) (fun b' hb'=>?_)
  rw[htk] at hb' ⊢
  simp only[hw,aB,seval]
  exact⟨b',hb',aO.mk (by simp only[aB,seval])⟩
 rw[d6] at hinv ⊢
 simp only[aE,hge,aB,seval,KH]
 refine eY (xs:=rest.map d5) E3 NJ NN rfl rfl (by intro e he;simp only[cM] at he;obtain⟨t,_,rfl⟩:=he;exact⟨CV t,a0Y t⟩) (by intro e he;simp only[cM] at he;obtain⟨t,_,rfl⟩:=he;exact CV t) hinv (by simp only[aE];omega) (by simp only[aE];omega) (fun b' hb'=>?_)
 rw[←rM] at hb' ⊢
 simp only[aB,seval]
 exact⟨b',_,st,rfl,hb',by intro e he;simp only[cM] at he;obtain⟨t,_,rfl⟩:=he;exact a0W t,⟨5,by intro e he;simp only[cM] at he;obtain⟨t,_,rfl⟩:=he;exact CV t⟩,by rw[mV],aL.refl _⟩
def tE(p:List Cl)(t:Tm)(i:Nat):Bool:=match p[i]? with
 | some c=>aGB c t
 | none=>false
theorem N1(p:List Cl)(t:Tm):qR p t=(List.range p.length).filter (tE p t):=rfl
theorem aWB(p:List Cl)(t:Tm)(i:Nat):(List.range (i+1)).filter (tE p t)=(List.range i).filter (tE p t)++(if tE p t i=true then[i] else[]):=by
 rw[List.range_succ,List.filter_append]
 congr 1
 by_cases h:tE p t i=true<;>simp [h]
theorem N2(p:List Cl)(t:Tm)(i:Nat):((List.range i).filter (tE p t)).length≤i:=by
 have:=List.length_filter_le (tE p t) (List.range i)
 rw[List.length_range] at this
 exact this
theorem aZF(l:List Nat):∀e∈l.map nv,e.width=1:=by intro e h;simp only[cM] at h;obtain⟨t,_,rfl⟩:=h;rfl
abbrev DE:=zi aS (zi cH (zi jK (zi cB (zi mG (zi cC lV)))))
theorem aQ0(p:List Cl)(t:Tm)(hp:p.length≤1048576)(st:aA):aD prog 198 [.slice (p.map aF),t.av] st (fun r st'=>r=.slice ((qR p t).map nv)∧st'=st):=by
 rw[N1]
 refine aD.done ?_
 obtain⟨tk,tn,ts',tts⟩:=t
 simp only[bU]
 refine wF [1000000] 2 func198 ntmps198 rfl rfl ?_
 intro _
 simp only[aB,seval,DE]
 refine DU (σ:=Unit) [1000000] [0,3,4] p 1 5 (fun i _=>((List.range i).filter (tE p (.mk tk tn ts' tts))).map nv) (fun _ _=>True) (fun i _=>[(6,.int .i64 i)]) (fun _ _=>st) (fun i _ _ e he=>by simp only[cM] at he;obtain⟨t,_,rfl⟩:=he;exact⟨rfl,rfl⟩) (by decide +kernel) ⟨(),0,trivial,fun h=>absurd rfl h,aO.mk (by simp only[j8,List.range_zero,List.filter_nil,bE,aB,↓aU,seval])⟩ (fun i x s b hx hlt bP hdr hinv hb=>?_) (fun s b hge hinv=>?_)
 case refine_2=>
  simp only[hge,fW,kC,pF,aV8,lP,aE,aB,seval,DE]
  exact⟨rfl,aL.refl _⟩
 have hw:=bC (n:=(i:Int)+1)
 have hst:=aWB p (.mk tk tn ts' tts) i
 have hln:=N2 p (.mk tk tn ts' tts) i
 have hat:=bS (av:=aF) (P:=prog) m9 hx (gM x)
 obtain⟨⟨k,n,s',ts⟩,bd⟩:=x
 rw[gK] at hat
 have hP:tE p (.mk tk tn ts' tts) i=(decide (s'=ts')&&decide ((ts.length:Int)=(tts.length:Int))):=by unfold tE;rw[hx];try rfl
 rw[hP] at hst
 simp only[bP,aE,aB,seval,DE]
 refine wP [(0,1),(1,1),(2,1),(3,1),(4,1),(6,1),(5,2),(7,2),(8,1),(9,1),(10,1),(11,1),(12,1),(13,1),(14,1),(17,1),(15,2),(16,1),(18,2),(19,1),(20,1),(21,1)] [0,1,2,3,4,6,5,7,8,9,10,11,12,13,14,17,15,16,18,19,20,21] mixed ?_
 simp only[hat,aB,seval,DE]
 refine cK (fun h=>?_) (fun h=>?_)
 case refine_2=>
  have h':(decide (s'=ts')&&decide ((ts.length:Int)=(tts.length:Int)))=false:=by simp at h;simp [h]
  rw[h',aK (by simp),jO] at hst
  rw[←hst] at hb ⊢
  simp only[h,hw,aB,seval]
  exact⟨(),b,hb,aO.mk (by simp only[aB,seval])⟩
 have h1:decide (s'=ts')=true:=by simpa using h
 rw[h1,cZ] at hst
 simp only[h,aE,hat,aB,seval,DE]
 refine aQ (fun h2=>?_) (fun h2=>?_)
 · rw[aN h2] at hst
   simp only[aB,seval,DE]
   refine eY qO NM NQ rfl rfl (gN rfl rfl) (aZF _) hb (by simp only[aE,aX,a8];omega) (by simp only[aE,aX,a8];omega) (fun b' hb'=>?_)
   rw[show ∀l:List Nat,l.map nv++ [AV.int .i64 (i:Int)]=(l++ [i]).map nv from fun l=>by simp [nv],←hst] at hb' ⊢
   simp only[hw,aB,seval]
   exact⟨(),b',hb',aO.mk (by simp only[aB,seval])⟩
 · rw[aK (by simp [h2]),jO] at hst
   rw[←hst] at hb ⊢
   simp only[hw,aB,seval]
   exact⟨(),b,hb,aO.mk (by simp only[aB,seval])⟩
theorem OY{n:Int}:∀ {l:List Int},l.Nodup→∀ {i:Nat},l[i]?=some n→∀j:Int,iB n l j=j+i
 | [],_,i,h,j=>by simp at h
 | x::l,hd,0,h,j=>by
  simp only[LS,Option.some.injEq] at h
  subst h
  simp [iB]
 | x::l,hd,i+1,h,j=>by
  rw[List.nodup_cons] at hd
  rw[LR] at h
  have hm:=cQ h
  simp only[iB]
  rw[aK (fun e:n=x=>hd.1 (e▸hm)),OY hd.2 h (j+1)]
  omega
abbrev mD:=zi aS (zi cH (zi cB (zi mG cC)))
theorem TO(vars:List Int)(hnd:vars.Nodup)(hvl:vars.length≤1048576):∀(t:Tm) (st:aA),t.small=true→t.cv=true→(∀v∈t.vl,v∈vars)→aD prog 251 [t.av,.slice (vars.map iv)] st (fun r st'=>r=(t.aV fun v=>vr (iB v vars 0)).av∧st'=st)
 | .mk k n s ts,st,hsm,hcv,hin=>by
  obtain⟨hlen,wS⟩:=Tm.xD hsm
  obtain⟨hc1,hcs⟩:=Tm.mZ.1 hcv
  have IH:=fun(x:Tm) (hx:x∈ts) st=>TO vars hnd hvl x st (wS x hx) (hcs x hx) (fun v hv=>by
   by_cases hk:k=1
   · rw[(hc1 hk).2] at hx;cases hx
   · exact hin v ((Tm.nQ hk).2 ⟨x,hx,hv⟩))
  generalize hg:(Tm.aV fun v=>vr (iB v vars 0))=g at IH
  refine aD.jT (aD.fin ?_)
  simp only[bU]
  refine wF [1000000,5] 2 func251 ntmps251 rfl rfl ?_
  intro _
  simp only[aG,aB,↓aU,seval,mD]
  intro b4 h4 c hc
  have hne:c≠b4:=by rintro rfl;rw[aA.aH] at hc;cases hc
  have hnc:st c=none:=by rw[aA.aJ st _ hne] at hc;exact hc
  have aXA:∀i:Nat,vars[i]?=some n→iB n vars 0=(i:Int):=fun i hi=>by
   have:=OY hnd hi 0
   omega
  generalize hW:st.aC b4 (.cells [AV.int .i64 0,AV.int .i64 0,AV.str ⟨#[]⟩,AV.fslice []])=W
  have hWc:W c=none:=by rw[←hW];exact hc
  have hW4:W b4=some (.cells [AV.int .i64 0,AV.int .i64 0,AV.str ⟨#[]⟩,AV.fslice []]):=by rw[←hW];exact aA.aH _ _ _
  have hS:W b4≠none:=by rw[hW4];simp
  have I2:b4≠c:=dM hne
  refine i8 (σ:=Nat×Int) [1000000,5] [1,2,4,5] (fun p=>p.1≤vars.length∧(k≠1→p.2=n)∧(k=1→(n∈vars.take p.1→p.2=iB n vars 0))) (fun p=>[(6,.int .i64 p.1)]) (fun p=>W.aC c (.cells [.int .i64 k,.int .i64 p.2,.str s,.fslice []])) (fun p=>vars.length - p.1) (by decide +kernel) ⟨(0,n),⟨iI _,fun _=>rfl,fun _ h=>by simp at h⟩,aO.mk (by simp only[aB,↓aU,seval])⟩ ?_
  rintro⟨i,n'⟩ ⟨h1,h2,h3⟩
  simp only at h1 h2 h3
  have rest:(k=1→n'=iB n vars 0)→True:=fun _=>trivial
  simp only[aE,aB,seval,mD]
  have fin:(k=1→n'=iB n vars 0)→g (.mk k n s ts)=.mk k n' s (ts.map g):=fun h4=>by
   rw[←hg]
   by_cases hk:k=1
   · obtain⟨rfl,rfl⟩:=hc1 hk
     rw[Tm.pR _ hk,h4 hk,hk];try rfl
   · rw[Tm.mQ _ hk,h2 hk]
  refine cK (fun h=>?_) (fun h=>?_)
  case refine_2=>
   have h4:(k=1→n'=iB n vars 0):=fun hk=>h3 hk (by
    have:i=vars.length:=by simp at h;omega
    rw[this,d6]
    exact hin n (by rw[Tm.oN hk];simp))
   simp only[h,aB,seval]
   refine dX (σ:=Nat) [1000000,5] [1,2,4,5] ts (fun i b=>(((ts.take i).map g).map Tm.av≠[]→(aA.aC W c (.cells ([AV.int .i64 k,AV.int .i64 (n'),AV.str s]++ [bK 4 b (((ts.take i).map g).map Tm.av)]))) b=none)) (fun i b=>[(7,.int .i64 i)]) (fun i b=>n9 W c b [AV.int .i64 k,AV.int .i64 (n'),AV.str s] (((ts.take i).map g).map Tm.av)) (by decide +kernel)
    ⟨0,fun h=>absurd rfl h,aO.mk (by simp only[aB,↓aU,seval])⟩ (fun i x b hx hlt bP hdr hinv=>?_) (fun b hge hinv=>?_)
   case refine_1=>
    have hw:=bC (n:=(i:Int)+1)
    have cU:(((ts.take i).map g).map Tm.av).length=i:=by simp only[aE,dK];omega
    have htk:(ts.take (i+1)).map g=(ts.take i).map g++ [g x]:=by rw[eS,hx];simp
    have hbo:=nC hinv
    simp only[aE,bP,aE,aB,seval,mD]
    refine wP [(0,1),(2,1),(4,1),(7,1),(1,2),(3,2),(5,1),(6,2),(8,2),(9,1),(10,0),(11,1),(12,0)] [0,2,4,7,1,3,5,6,8,9,11] mixed ?_
    simp only[bS (av:=Tm.av) cF hx (aP x),bM,aP,hbo,sV,aB,seval,mD]
    refine gG (IH x (cQ hx) _) ?_
    simp only[bM,aP,cT,aB,seval,mD]
    refine eY cF kP kQ rfl rfl (gN (aP _) (cR _)) (gE _) hinv (by simp only[cU,aX,a8];omega) (by simp only[cU,aX,a8];omega) (fun b' hb'=>?_)
    rw[show(((ts.take i).map g).map Tm.av)++ [(g x).av]=((ts.take (i+1)).map g).map Tm.av by rw[htk];simp] at hb' ⊢
    obtain⟨g1,g2,g3⟩:=yX hb'
    simp only[fU,dL] at g1 g3
    simp only[g3,mU,iJ,aG,g1,hw,aG,aB,seval,mD]
    exact⟨b',g2,aO.mk (by simp only[aB,seval])⟩
   have hbo:=nC hinv
   rw[d6] at hinv hbo ⊢
   simp only[aE,hge,aE,aB,seval,mD]
   simp only[hbo,aG,aB,seval,mD]
   have g1:=tN hinv hS I2
   rw[hW4] at g1
   simp only[g1,iJ,aB,seval]
   obtain⟨g2,g3⟩:=wV (o:=.cells [AV.int .i64 k,AV.int .i64 (n'),AV.str s,bK 4 b ((ts.map g).map Tm.av)]) hinv hS I2
   refine⟨b,_,_,g2,g3,oM _,⟨4,gE _⟩,?_,fun x=>?_⟩
   · simp only[hY,bL,bE,fW,rZ,mV,←bU]
     rw[fin h4]
   · subst hW
     by_cases e3:x=b4<;>by_cases e4:x=c<;>simp_all [aA.aC]
  have hlt:i<vars.length:=by simpa using h
  simp only[h,aB,seval,mD]
  refine aQ (fun h5=>?_) (fun h5=>?_)
  case refine_2=>
   have h5':k≠1:=by simpa using h5
   have h4:(k=1→n'=iB n vars 0):=fun hk=>absurd hk h5'
   simp only[aB,seval]
   refine dX (σ:=Nat) [1000000,5] [1,2,4,5] ts (fun i b=>(((ts.take i).map g).map Tm.av≠[]→(aA.aC W c (.cells ([AV.int .i64 k,AV.int .i64 (n'),AV.str s]++ [bK 4 b (((ts.take i).map g).map Tm.av)]))) b=none)) (fun i b=>[(7,.int .i64 i)]) (fun i b=>n9 W c b [AV.int .i64 k,AV.int .i64 (n'),AV.str s] (((ts.take i).map g).map Tm.av)) (by decide +kernel)
    ⟨0,fun h=>absurd rfl h,aO.mk (by simp only[aB,↓aU,seval])⟩ (fun i x b hx hlt bP hdr hinv=>?_) (fun b hge hinv=>?_)
   case refine_1=>
    have hw:=bC (n:=(i:Int)+1)
    have cU:(((ts.take i).map g).map Tm.av).length=i:=by simp only[aE,dK];omega
    have htk:(ts.take (i+1)).map g=(ts.take i).map g++ [g x]:=by rw[eS,hx];simp
    have hbo:=nC hinv
    simp only[aE,bP,aE,aB,seval,mD]
    refine wP [(0,1),(2,1),(4,1),(7,1),(1,2),(3,2),(5,1),(6,2),(8,2),(9,1),(10,0),(11,1),(12,0)] [0,2,4,7,1,3,5,6,8,9,11] mixed ?_
    simp only[bS (av:=Tm.av) cF hx (aP x),bM,aP,hbo,sV,aB,seval,mD]
    refine gG (IH x (cQ hx) _) ?_
    simp only[bM,aP,cT,aB,seval,mD]
    refine eY cF kP kQ rfl rfl (gN (aP _) (cR _)) (gE _) hinv (by simp only[cU,aX,a8];omega) (by simp only[cU,aX,a8];omega) (fun b' hb'=>?_)
    rw[show(((ts.take i).map g).map Tm.av)++ [(g x).av]=((ts.take (i+1)).map g).map Tm.av by rw[htk];simp] at hb' ⊢
    obtain⟨g1,g2,g3⟩:=yX hb'
    simp only[fU,dL] at g1 g3
    simp only[g3,mU,iJ,aG,g1,hw,aG,aB,seval,mD]
    exact⟨b',g2,aO.mk (by simp only[aB,seval])⟩
   have hbo:=nC hinv
   rw[d6] at hinv hbo ⊢
   simp only[aE,hge,aE,aB,seval,mD]
   simp only[hbo,aG,aB,seval,mD]
   have g1:=tN hinv hS I2
   rw[hW4] at g1
   simp only[g1,iJ,aB,seval]
   obtain⟨g2,g3⟩:=wV (o:=.cells [AV.int .i64 k,AV.int .i64 (n'),AV.str s,bK 4 b ((ts.map g).map Tm.av)]) hinv hS I2
   refine⟨b,_,_,g2,g3,oM _,⟨4,gE _⟩,?_,fun x=>?_⟩
   · simp only[hY,bL,bE,fW,rZ,mV,←bU]
     rw[fin h4]
   · subst hW
     by_cases e3:x=b4<;>by_cases e4:x=c<;>simp_all [aA.aC]
  have hk:k=1:=by simpa using h5
  obtain⟨x,hx⟩:∃x,vars[i]?=some x:=⟨_,eL hlt⟩
  have hat:dT prog 98 (.slice (vars.map iv)) (.int .i64 (i:Int))=some (.pptr (.int .i64 x)):=bS (av:=iv) qO hx rfl
  have hw:=bC (n:=(i:Int)+1)
  have htk:vars.take (i+1)=vars.take i++ [x]:=by rw[eS,hx];try rfl
  simp only[aB,seval]
  refine wP [(0,1),(1,1),(2,1),(4,1),(3,2),(5,2),(6,1)] [0,1,2,4,3,5,6] mixed ?_
  simp only[hat,aB,seval,mD]
  refine aQ (fun h6=>?_) (fun h6=>?_)
  · have h6':x=n:=by simpa using h6
    subst h6'
    simp only[aG,hw,aB,seval,mD]
    refine⟨(i+1,(i:Int)),by simp only;omega,⟨hlt,fun h=>absurd hk h,fun _ _=>(aXA i hx).symm⟩,aO.mk (by simp only[aB,seval])⟩
  · have h6':x≠n:=by simpa using h6
    simp only[hw,aB,seval]
    refine⟨(i+1,n'),by simp only;omega,⟨hlt,h2,fun hk hm=>h3 hk ?_⟩,aO.mk (by simp only[aB,seval])⟩
    rw[htk,fG] at hm
    rcases hm with hm | hm
    · exact hm
    · simp only[cL,c8,dP] at hm
      exact absurd hm.symm h6'
termination_by t=>SizeOf.sizeOf t
decreasing_by have:=List.sizeOf_lt_of_mem hx;simp only[Tm.mk.sizeOf_spec];omega
theorem K7:∀(ts:List Tm) (l:List Int),(∀t∈ts,t.wf=true)→l.Nodup→(cE ts l).Nodup
 | [],l,_,h=>h
 | t::ts,l,hw,h=>K7 ts _ (fun x hx=>hw x (by simp [hx])) ((RA t (hw t (by simp)) l).2.1 h)
theorem JM:∀l:List Tm,(∀t∈l,t.nodes≤120)→bH Tm.nodes l≤l.length*120
 | [],_=>by simp [bH]
 | x::l,h=>by
  simp only[bH,aX]
  have:=JM l fun y hy=>h y (by simp [hy])
  have:=h x (by simp)
  omega
abbrev DF:=zi aS (zi cB (zi mG cC))
theorem aQL{N:Int}(l:List Tm)(hok:∀t∈l,bY N t)(hl:l.length≤1000)(st:aA):aD prog 192 [.slice (l.map Tm.av)] st (fun r st'=>r=.slice ((zH l).map Tm.av)∧st'=st):=by
 have hnd:=JM l fun t ht=>(hok t ht).2
 have OI:=K7 l [] (fun t ht=>Tm.tA t (hok t ht).1.2.1) nR
 have fQ:=fun v=>DN (v:=v) l [] fun t ht=>(hok t ht).1.2.1
 have hvl:=zX l []
 simp only[a8] at hvl
 refine aD.done ?_
 refine wF [1000000] 1 func192 ntmps192 rfl rfl ?_
 intro _
 simp only[aB,seval,DF]
 refine DU (σ:=Unit) [1000000] [0,2] l 1 3 (fun i _=>(cE (l.take i) []).map iv) (fun _ _=>True) (fun i _=>[(4,.int .i64 i)]) (fun _ _=>st) (fun i _ _ e he=>by simp only[cM] at he;obtain⟨t,_,rfl⟩:=he;exact⟨rfl,rfl⟩) (by decide +kernel) ⟨(),0,trivial,fun h=>absurd rfl h,aO.mk (by simp only[j8,mK,cE,bE,aB,↓aU,seval])⟩ (fun i x s b hx hlt bP hdr hinv hb=>?_) (fun s b hge hinv=>?_)
 case refine_1=>
  have hw:=bC (n:=(i:Int)+1)
  have hat:=bS (av:=Tm.av) cF hx (aP x)
  have hst:=GE Tm.nodes hx
  have hvl:=zX (l.take i) []
  simp only[a8,j7] at hvl
  have htk:x.vars (cE (l.take i) [])=cE (l.take (i+1)) []:=by
   rw[eS,hx,QX]
   try rfl
  simp only[bP,aE,hat,bM,aP,aB,seval,DF]
  refine(EW x (cE (l.take i) []) b st (Tm.tA x (hok x (cQ hx)).1.2.1) hb (by omega)).mono ?_
  rintro _ _ ⟨b',rfl,rfl,hb'⟩
  rw[htk] at hb' ⊢
  simp only[aB,seval]
  exact⟨(),b',hb',aO.mk (by simp only[hw,aB,seval])⟩
 simp only[hge,fW,kC,pF,lP,d6,aE,aB,seval,DF]
 have hR:zH l=l.map fun t=>t.aV fun v=>vr (iB v (cE l []) 0):=rfl
 rw[hR]
 generalize cE l []=vars at *
 refine DU (σ:=Unit) [1000000] [0,2,3] l 4 5 (fun i _=>((l.take i).map fun t=>t.aV fun v=>vr (iB v vars 0)).map Tm.av) (fun _ _=>True) (fun i _=>[(6,.int .i64 i)]) (fun _ _=>st) (fun i _ _ e he=>by simp only[cM] at he;obtain⟨t,_,rfl⟩:=he;exact⟨cT _,aP _⟩) (by decide +kernel) ⟨(),0,trivial,fun h=>absurd rfl h,aO.mk (by simp only[j8,mK,bE,aB,↓aU,seval])⟩ (fun i x s b hx hlt bP hdr hinv hb=>?_) (fun s b hge hinv=>?_)
 case refine_2=>
  simp only[hge,fW,kC,lP,d6,aE,aB,seval,DF]
  exact⟨rfl,aL.refl _⟩
 have hw:=bC (n:=(i:Int)+1)
 have hat:=bS (av:=Tm.av) cF hx (aP x)
 have hxm:=cQ hx
 have cU:(((l.take i).map fun t=>t.aV fun v=>vr (iB v vars 0)).map Tm.av).length=i:=by simp only[aE,dK];omega
 simp only[bP,aE,hat,bM,aP,aB,seval,DF]
 refine(TO vars OI (by omega) x _ (hok x hxm).1.small (hok x hxm).1.2.1 (fun v hv=>(fQ v).2 (.inr ⟨x,hxm,hv⟩))).to ?_
 simp only[bM,aP,cT,aB,seval,DF]
 refine eY cF kP kQ rfl rfl (gN (aP _) (cR _)) (gE _) hb (by simp only[cU,aX,a8];omega) (by simp only[cU,aX,a8];omega) (fun b' hb'=>?_)
 rw[show(((l.take i).map fun t=>t.aV fun v=>vr (iB v vars 0)).map Tm.av)++ [(x.aV fun v=>vr (iB v vars 0)).av]=((l.take (i+1)).map fun t=>t.aV fun v=>vr (iB v vars 0)).map Tm.av by rw[eS,hx];simp] at hb' ⊢
 simp only[aB,seval]
 exact⟨(),b',hb',aO.mk (by simp only[hw,aB,seval])⟩
abbrev aJ6:=zi aS (zi bV (zi cB cC))
theorem TK(l:List Tm)(st:aA):aD prog 193 [.slice (l.map Tm.av)] st (fun r st'=>r=.bool (l.all Tm.valid)∧st'=st):=by
 refine wF [1000000] 1 func193 ntmps193 rfl rfl ?_
 simp only[dS,AV.fits,dU,aE]
 intro ⟨hl,_⟩
 simp only[aB,seval]
 refine dX (σ:=Unit) [1000000] [0] l (fun i _=>((l.drop i).all Tm.valid)=(l.all Tm.valid)) (fun i _=>[(3,.int .i64 i)]) (fun _ _=>st) (by decide +kernel) ⟨(),rfl,aO.mk (by simp only[aB,↓aU,seval])⟩ (fun i x _ hx hlt bP hdr hinv=>?_) (fun _ hge hinv=>?_)
 case refine_2=>
  simp only[hge,aE,aB,seval,aJ6]
  rw[←hinv,mJ]
  try rfl
 have hw:=bC (n:=(i:Int)+1)
 rw[hdr,iS] at hinv
 simp only[bP,aE,bS (av:=Tm.av) cF hx (aP x),bM,aP,aB,seval,aJ6]
 refine(M6 x _).to ?_
 simp only[aB,seval]
 refine aQ (fun h2=>?_) (fun h2=>?_)
 · simp only[aB,seval]
   simp only[i9] at h2
   rw[←hinv,h2]
   try rfl
 · simp only[rJ] at h2
   rw[h2,cZ] at hinv
   simp only[aB,seval]
   exact⟨(),hinv,aO.mk (by simp only[hw,aB,seval])⟩
theorem aGZ(v:Int):∀(l:List Int) (i:Int),v∈l→i≤iB v l i∧iB v l i<i+l.length
 | [],i,h=>by cases h
 | x::l,i,h=>by
  simp only[iB,aX]
  split
  · omega
  · rename_i e
    have h':v∈l:=by
     rcases cL.1 h with h | h
     · exact absurd h e
     · exact h
    have:=aGZ v l (i+1) h'
    omega
theorem a0V{N:Int}{l:List Tm}(hok:∀t∈l,bY N t)(hf:l.all kD=true):(zH l).all Tm.valid=decide ((cE l []).length≤26):=by
 have fQ:=fun v=>DN (v:=v) l [] fun t ht=>(hok t ht).1.2.1
 have OI:=K7 l [] (fun t ht=>Tm.tA t (hok t ht).1.2.1) nR
 have hro:∀t∈l,dD (cE l []).length (t.aV fun v=>vr (iB v (cE l []) 0)):=fun t ht=>
  (hok t ht).1.aV fun v hv=>by
   have:=aGZ v (cE l []) 0 ((fQ v).2 (.inr ⟨t,ht,hv⟩))
   exact JQ (by omega) (by omega)
 have eU:∀t∈l,kD (t.aV fun v=>vr (iB v (cE l []) 0))=true:=fun t ht=>by
  have:=c6.1 hf t ht
  unfold kD at this ⊢
  rw[show(t.aV fun v=>vr (iB v (cE l []) 0))=iQ (fun v=>iB v (cE l []) 0) t from rfl,a0S _ (hok t ht).1.2.1,aIL _ (hok t ht).1.2.1]
  exact this
 rw[G5,c6,bA]
 constructor
 · intro h
   refine G6 fun hn=>?_
   obtain⟨w,hw⟩:∃w,(cE l [])[26]?=some w:=⟨_,eL (by omega)⟩
   rcases (fQ w).1 (cQ hw) with h1 | ⟨t,ht,hv⟩
   · cases h1
   · have vK:=h _ (cM.2 ⟨t,ht,rfl⟩)
     have hin:=(Tm.G0 vK).2.2 26 ((zZ t).2 ⟨w,hv,by rw[OY OI hw 0,DT];simp⟩)
     omega
 · intro h x hx
   obtain⟨t,ht,rfl⟩:=cM.1 hx
   have h1:=aH0.2 ((hro t ht).mono (show((cE l []).length:Int)≤26 by omega))
   rw[Tm.aLG h1]
   exact eU t ht
abbrev vX:=zi aS (zi bV (zi cB (zi mG (zi cC DK))))
theorem aRA{N:Nat}{σ:Sub}(hg:dN σ)(ho:dI (bY N) σ)(vars:List Int)(hv:∀v∈vars,0≤v∧v<(N:Int))(hl:vars.length≤1000)(st:aA) :
 aD prog 141 [.slice (vars.map iv),.slice (cJ N σ)] st (fun r st'=>st'=st∧∃a,r=.tup [fB a,.bool (oY σ vars).isSome]∧∀x,oY σ vars=some x→a=x):=by
 obtain⟨rk,B,G⟩:=hg.rs
 refine aD.o9 (aD.soft ?_)
 refine wF [1000000] 2 func141 ntmps141 rfl rfl ?_
 intro _
 simp only[aB,seval,vX]
 intro b4 h4
 refine DU (σ:=Unit) [1000000] [0,1,4] vars 4 6 (fun i _=>((vars.take i).map (rs σ)).map Tm.av) (fun i _=>((vars.take i).map (rs σ)).all kD=true) (fun i _=>[(5,.bool false),(7,.int .i64 i)]) (fun _ _=>st.aC b4 (.cells [.fslice []])) (fun i _ _ e he=>by simp only[cM] at he;obtain⟨t,_,rfl⟩:=he;exact⟨cT _,aP _⟩) (by decide +kernel) ⟨(),0,rfl,fun h=>absurd rfl h,aO.mk (by simp only[j8,mK,bE,aB,↓aU,seval])⟩ (fun i x s b hx hlt bP hdr hinv hb=>?_) (fun s b hge hinv=>?_)
 · have hw:=bC (n:=(i:Int)+1)
   have hxm:=cQ hx
   obtain⟨hx0,hx1⟩:=hv x hxm
   have hvr:bY N (vr x):=⟨JQ hx0 hx1,by rw[vr,Tm.gR];simp [bH]⟩
   have hat:dT prog 98 (.slice (vars.map iv)) (.int .i64 (i:Int))=some (.pptr (.int .i64 x)):=bS (av:=iv) qO hx rfl
   have cU:(((vars.take i).map (rs σ)).map Tm.av).length=i:=by simp only[aE,dK];omega
   have c9:((vars.take (i+1)).map (rs σ)).all kD=kD (rs σ x):=by
    rw[eS,hx]
    simp only[LY,rM,bL,bE,AC,hinv,iS,AD,xS,cZ]
   simp only[bP,aE,hat,aB,seval,vX]
   refine(TR x _).to ?_
   simp only[aB,seval]
   refine(UA hg ho (vr x) hvr _).mono ?_
   rintro _ _ ⟨rfl,y,rfl,hy⟩
   rw[CF] at hy ⊢
   simp only[aP,cR,cT,aB,↓aU,seval,vX]
   refine aQ (fun h=>?_) (fun h=>?_)
   · have h':kD (rs σ x)=false:=by simpa using h
     have wO:oY σ vars=none:=by
      unfold oY
      rw[aK]
      rintro⟨h1,_⟩
      have:=c6.1 h1 _ (cM.2 ⟨x,hxm,rfl⟩)
      rw[h'] at this;cases this
     have hbo:∀l,(l≠[]→st b=none)→(l≠[]→b≠b4)→(a9 (st.aC b4 (.cells [.fslice []])) b l) b4=some (.cells [.fslice []]):=fun l _ h2=>by
      cases l with
      | nil=>exact aA.aH _ _ _
      | cons e l=>simp only[a9];rw[aA.aJ _ _ (dM (h2 (by simp)))];exact aA.aH _ _ _
     have hnb:((vars.take i).map (rs σ)).map Tm.av≠[]→b≠b4:=fun h=>by rintro rfl;have:=hb h;rw[aA.aH] at this;cases this
     have aXL:((vars.take i).map (rs σ)).map Tm.av≠[]→st b=none:=fun h=>by have:=hb h;rw[aA.aJ _ _ (hnb h)] at this;exact this
     have e1:=hbo _ aXL hnb
     simp only[aG,e1,aB,seval,vX]
     rw[wO]
     refine⟨st,?_,rfl,[],rfl,fun x h=>by cases h⟩
     intro z
     by_cases hz:z=b4
     · subst hz;simp [aA.aC,h4]
     · rw[aA.aJ _ _ hz]
       exact((aL.a9 (aL.refl _) hb).trans ((aL.refl st).aC h4)) z
   · have h':kD (rs σ x)=true:=by simpa using h
     obtain rfl:=hy h'
     simp only[bM,aP,cT,aB,seval,vX]
     refine eY cF kP kQ rfl rfl (gN (aP _) (cR _)) (gE _) hb (by simp only[cU,aX,a8];omega) (by simp only[cU,aX,a8];omega) (fun b' hb'=>?_)
     rw[show(((vars.take i).map (rs σ)).map Tm.av)++ [(rs σ x).av]=((vars.take (i+1)).map (rs σ)).map Tm.av by rw[eS,hx];simp] at hb' ⊢
     simp only[hw,aB,seval]
     exact⟨(),b',by rw[c9];exact h',hb',aO.mk (by simp only[aB,seval])⟩
 · rw[d6] at hinv
   have hok:∀t∈vars.map (rs σ),bY N t:=fun t ht=>by
    obtain⟨v,h,rfl⟩:=cM.1 ht
    obtain⟨h0,h1⟩:=hv v h
    have hf:=c6.1 hinv _ ht
    unfold kD at hf
    simp only[bD,bA] at hf
    exact⟨G.zB ho.zB v h0 h1,hf.2⟩
   have vK:=a0V hok hinv
   have wO:oY σ vars=if(cE (vars.map (rs σ)) []).length≤26 then some (zH (vars.map (rs σ))) else none:=by
    unfold oY
    simp only[hinv,sI]
   have aXQ:=fun st=>aQL _ hok (by rw[aE];exact hl) st
   have c9:=fun st=>TK (zH (vars.map (rs σ))) st
   rw[vK] at c9
   generalize zH (vars.map (rs σ))=R at *
   generalize (cE (vars.map (rs σ)) []).length=m at *
   simp only[hge,fW,pE,kC,aFM,lP,d6,u6,aE,aB,seval,vX]
   refine(aXQ _).to ?_
   simp only[aB,↓aU,seval,vX]
   refine wP [(1,1),(0,2),(2,2),(3,2),(4,0),(5,1)] [1,0,2,3,5] mixed ?_
   simp only[aB,seval,vX]
   refine gG (c9 _) ?_
   simp only[aG,aB,seval,vX]
   refine⟨st,(aL.refl _).aC h4,rfl,R,?_,fun x h=>?_⟩
   · rw[wO]
     simp only[jV,kG,sD,pV,bL,bE]
     by_cases h:m≤26
     · simp [h]
     · simp [h]
   · rw[wO] at h
     split at h
     · cases h;rfl
     · cases h
theorem PR(k n:Int)(s:ByteArray)(ts:List Tm)(rest:List RG)(left:List Nat)(σ:Sub)(N:Nat):eQ ⟨.mk k n s ts,rest,left,σ,N⟩=.agg [.int .i64 k,.int .i64 n,.str s,.slice (ts.map Tm.av),.slice (rest.map d5),.slice (left.map nv),.slice (cJ N σ)]:=rfl
structure wB (p:List Cl) (c:RC):Prop where
 iL:dN c.σ
 ok:dI (bY c.N) c.σ
 dom:∀n,¬(0≤n∧n<(c.N:Int))→c.σ n=none
 goal:bY c.N c.goal
 rest:∀g∈c.rest,bY c.N g.t∧g.t.k=3
 left:∀i∈c.left,i<p.length
 len:c.rest.length≤524288
 aYS:c.left.length≤1048576
structure oU (p:List Cl) (B:Nat) (s:RS):Prop where
 iL:dN s.σ
 ok:dI (bY s.N) s.σ
 dom:∀n,¬(0≤n∧n<(s.N:Int))→s.σ n=none
 goals:∀g∈s.goals,bY s.N g.t∧g.t.k=3
 pos:0<s.N
 hN:s.N≤B
 gl:s.goals.length≤B
 chl:s.chs.length≤B
 chs:∀c∈s.chs,wB p c∧c.N+26≤B∧c.rest.length+26≤B∧0<c.N
theorem dI.upN{N M:Nat}{σ:Sub}(h:dI (bY N) σ)(hm:N≤M):dI (bY M) σ:=h.imp fun t ht=>ht.mono (by omega)
theorem aNF{N k:Nat}{σ:Sub}(hd:∀n,¬(0≤n∧n<(N:Int))→σ n=none):cJ N σ++List.replicate k zt=cJ (N+k) σ:=by
 apply G9
 intro i
 have hl:=sY N σ
 by_cases hi:i<N
 · rw[RH (by omega),yC N σ hi,yC (N+k) σ (by omega)]
 · rw[LQ (by omega),hl]
   by_cases h2:i<N+k
   · rw[yC (N+k) σ h2,hd (i:Int) (fun h=>hi (by omega)),List.getElem?_replicate,aN (by omega)]
     try rfl
   · rw[uD (by simp;omega),uD (by rw[sY];omega)]
theorem aM6{N k b:Nat}{σ:Sub}(hd:∀n,¬(0≤n∧n<(N:Int))→σ n=none)(hN:N+k≤1048576){st:aA}{K:AV→aA→Prop}(hb:st b=none)
 (hK:∀b',st b'=none→K (.mslice b' 0 (N+k) 4) (st.aC b' (.cells ((cJ (N+k) σ).flatMap AV.cells)))) :
 sR prog 56 3 (st.aC b (.cells ((cJ N σ).flatMap AV.cells))) (.mslice b 0 N 4) (.int .i64 (k:Int)) K:=by
 have hu:prog.underlying 3=some (.int .i64):=by kernel_rfl
 have hl:((cJ N σ).flatMap AV.cells).length=N*4:=by rw[lQ (fun e he=>(SS N σ e he).1),sY]
 have wQ:((cJ N σ).flatMap AV.cells).take (N*4)++jG [AV.int .i64 0,.int .i64 0,.str ⟨#[]⟩,.fslice []] k=(cJ (N+k) σ).flatMap AV.cells:=by
  rw[←hl,d6,O0 _ (by simp),←aNF hd,uB,List.flatMap_replicate]
  try rfl
 refine Or.inr ?_
 unfold EC
 simp only[cF,kP,kQ,hu,aA.aH,gI]
 refine⟨rfl,by omega,rfl,by omega,trivial,by omega,by omega,by omega,?_,fun b' hb'=>?_⟩
 · rw[wQ,dW]
   exact hK b hb
 · rw[wQ,aA.yI st b _ hb]
   refine hK b' ?_
   by_cases h:b'=b
   · subst h;exact hb
   · rwa [aA.aJ _ _ h] at hb'
theorem aK1{st s2 V:aA}{o' o6:AO}{b6 b11 b13 b14 b:Nat}{L A:List AV}(hD:aL s2 st)(hA:s2 b11=some (.cells (A.flatMap AV.cells)))(h11:st b11=none)(h6:st b6=none)(h62:s2 b6≠none)(aFV:b6≠b11)(h13:s2 b13=none)(h14:s2 b14=none)
 (hV:∀q,q≠b13→q≠b14→V q=s2 q) (IX:V b13≠none) (B1:V b14≠none) (hb:L≠[]→V b=none) (hne:A≠[]) :
 aL (((a9 V b L).aC b13 o').aC b6 o6) (a9 (a9 st b11 A) b L)∧(L≠[]→(a9 st b11 A) b=none):=by
 have aF4:b13≠b11:=by rintro rfl;rw[h13] at hA;cases hA
 have aWX:b14≠b11:=by rintro rfl;rw[h14] at hA;cases hA
 have IV:b13≠b6:=by rintro rfl;exact h62 h13
 have n13:st b13=none:=(hD b13).1 h13
 have n14:st b14=none:=(hD b14).1 h14
 rw[l5 hne]
 have hbb:L≠[]→b≠b13∧b≠b11∧b≠b6∧b≠b14∧s2 b=none:=fun h=>by
  have h0:=hb h
  have e13:b≠b13:=by rintro rfl;exact IX h0
  have e14:b≠b14:=by rintro rfl;exact B1 h0
  rw[hV b e13 e14] at h0
  exact⟨e13,(by rintro rfl;rw[h0] at hA;cases hA),(by rintro rfl;exact h62 h0),e14,h0⟩
 refine⟨fun q=>?_,fun h=>?_⟩
 · by_cases q6:q=b6
   · subst q6
     have:a9 (st.aC b11 (.cells (A.flatMap AV.cells))) b L q=none:=by
      by_cases hL:L= []
      · subst hL;simp only[a9];rw[aA.aJ _ _ aFV,h6]
      · obtain⟨_,_,e6,_⟩:=hbb hL
        rw[l5 hL,aA.aJ _ _ (dM e6),aA.aJ _ _ aFV,h6]
     rw[this];simp
   rw[aA.aJ _ _ q6]
   by_cases q13:q=b13
   · subst q13
     have:a9 (st.aC b11 (.cells (A.flatMap AV.cells))) b L q=none:=by
      by_cases hL:L= []
      · subst hL;simp only[a9];rw[aA.aJ _ _ aF4,n13]
      · obtain⟨e13,_⟩:=hbb hL
        rw[l5 hL,aA.aJ _ _ (dM e13),aA.aJ _ _ aF4,n13]
     rw[this];simp
   rw[aA.aJ _ _ q13]
   have rest:q≠b∨L= []→(V q=none→st.aC b11 (.cells (A.flatMap AV.cells)) q=none)∧∀o,st.aC b11 (.cells (A.flatMap AV.cells)) q=some o→V q=some o:=fun _=>by
    by_cases q14:q=b14
    · subst q14
      rw[aA.aJ _ _ aWX,n14]
      simp
    rw[hV q q13 q14]
    by_cases q11:q=b11
    · subst q11;rw[aA.aH,hA];simp
    rw[aA.aJ _ _ q11]
    exact hD q
   by_cases hL:L= []
   · subst hL
     exact rest (.inr rfl)
   · rw[l5 hL,l5 hL]
     by_cases qb:q=b
     · subst qb;rw[aA.aH,aA.aH];simp
     rw[aA.aJ _ _ qb,aA.aJ _ _ qb]
     exact rest (.inl qb)
 · obtain⟨e13,e11,e6,e14,h0⟩:=hbb h
   rw[aA.aJ _ _ e11]
   exact(hD b).1 h0
theorem A8{st:aA}{b q:Nat}{l:List AV}{o:AO}(hb:l≠[]→st b=none)(h:st q=some o):a9 st b l q=some o:=by
 cases l with
 | nil=>exact h
 | cons x l=>
  rw[l5 (by simp),aA.aJ _ _ (by rintro rfl;rw[hb (by simp)] at h;cases h)]
  exact h
theorem aFL{b b' o n w:Nat}{l:List AV}(h:l≠[]→b'≠b):(AV.mslice b' o n w).fin b l=.mslice b' o n w:=by
 unfold AV.fin
 cases l with
 | nil=>rfl
 | cons x l=>
  simp only[List.isEmpty_cons,iF,dA]
  cases o with
  | zero=>simp only[AV.fz];rw[aK (fun e=>h (by simp) e.1)];try rfl
  | succ o=>rfl
theorem IR{b N:Nat}{σ:Sub}(h0:0<N):(AV.mslice b 0 N 4).fin b (cJ N σ)=.slice (cJ N σ):=by
 have hl:=sY N σ
 have h:cJ N σ≠[]:=by intro e;rw[e] at hl;simp at hl;omega
 have:bK 4 b (cJ N σ)=.mslice b 0 N 4:=by rw[rR h,hl]
 rw[←this,mV]
theorem a0N(l:List RC):∀e∈l.map eQ,e.bR=false:=by intro e he;simp only[cM] at he;obtain⟨t,_,rfl⟩:=he;exact a0L t
theorem a0O(l:List RC):∀e∈l.map eQ,e.width=7:=by intro e he;simp only[cM] at he;obtain⟨t,_,rfl⟩:=he;exact JY t
theorem a1K{φ:AF}{d i:Nat}{l:List Nat}(hi:i+1<l.length)(h:φ d=.int .i64 ((i:Int)+1)):gJ prog φ 98 (.slice (l.map nv)) (some (.tmp d)) none none=some (.slice ((l.drop (i+1)).map nv)):=by
 have he:φ.eval (.tmp d)=.int .i64 ((i:Int)+1):=h
 have hb:dE φ (some (.tmp d)) 0 l.length=some (i+1):=by
  simp only[dE,he]
  rw[aN (by omega)]
  congr 1
 have hwo:pZ (l.map nv) (i+1) 1=true:=by
  unfold pZ
  rw[lK,eL hi]
  try rfl
 unfold gJ
 rw[aK (by simp [qV])]
 simp only[nU,qO]
 rw[aK (by simp)]
 simp only[dE] at hb ⊢
 have ht:List.take l.length (l.map nv)=l.map nv:=oR (by simp)
 simp only[aE,hb,hwo,or_true,eN,ht]
 simp [List.map_drop]
abbrev rB:=zi aS (zi bV (zi jK (zi cB (zi mG (zi cC (zi lV (zi GR (zi QS (zi GS QT)))))))))
theorem UB(p:List Cl)(hp:∀c∈p,iG c∧c.2.length≤6)(gs0:List RG)(σ0:List AV)(cs:List RC)(c:RC)(hc:wB p c)(h0:0<c.N)(hN:c.N≤524288)(hcl:cs.length≤524288)(st:aA) :
 aD prog 199 [.slice (p.map aF),.agg [.slice (gs0.map d5),.slice σ0,.slice (cs.map eQ)],eQ c] st (fun r st'=>st'=st∧r=match kF p cs c.goal c.rest c.σ c.N c.left with
  | some s=>.tup [nH s,.bool true]
  | none=>.tup [.agg [.slice (gs0.map d5),.slice σ0,.slice (cs.map eQ)],.bool false]):=by
 obtain⟨goal,rest,left,σ,N⟩:=c
 obtain⟨hg,ho,hd,hgo,hr,hle,hrl,hll⟩:=hc
 simp only at hg ho hd hgo hr hle hrl hll h0 hN
 obtain⟨gk,gn,gs',gts⟩:=goal
 rw[PR]
 refine aD.fin (aD.fin (aD.o9 ?_))
 refine wF [1000000,13] 3 func199 ntmps199 rfl rfl ?_
 intro _
 simp only[aB,seval,rB]
 intro b6 h6
 generalize hW:st.aC b6 (.cells [.fslice [],.fslice [],.fslice []])=W
 have hW6:W b6=some (.cells [.fslice [],.fslice [],.fslice []]):=by rw[←hW];exact aA.aH _ _ _
 have hDW:aL W st:=by rw[←hW];exact(aL.refl _).aC h6
 refine dX (σ:=Unit) [1000000] [0,4,5,6] left (fun i _=>kF p cs (.mk gk gn gs' gts) rest σ N (left.drop i)=kF p cs (.mk gk gn gs' gts) rest σ N left) (fun i _=>[(7,.bool false),(8,.int .i64 i)]) (fun _ _=>W) (by decide +kernel) ⟨(),rfl,aO.mk (by simp only[aB,↓aU,seval])⟩ (fun i x _ hx hlt bP hdr hinv=>?_) (fun _ hge hinv=>?_)
 case refine_2=>
  simp only[hge,aG,hW6,aE,aB,seval,rB]
  refine⟨st,?_,0,[],st,rfl,by simp,by simp,⟨0,by simp⟩,0,[],st,rfl,by simp,by simp,⟨0,by simp⟩,rfl,?_⟩
  · intro z
    have:=hDW z
    by_cases hz:z=b6
    · subst hz;simp [aA.aC,h6]
    · rw[aA.aJ _ _ hz];exact this
  · rw[←hinv,mJ]
    simp only[hY,gB,pE,kC,bL,bE,kF]
 have hw:=bC (n:=(i:Int)+1)
 have hxl:=hle x (cQ hx)
 obtain⟨cl,hcx⟩:∃cl,p[x]?=some cl:=⟨_,eL hxl⟩
 obtain⟨FD,aF8⟩:=hp cl (cQ hcx)
 rw[hdr,kF.eq_def] at hinv
 simp only[hcx] at hinv
 have hat:dT prog 98 (.slice (left.map nv)) (.int .i64 (i:Int))=some (.pptr (.int .i64 (x:Int))):=bS (av:=nv) qO hx rfl
 have aF2:=bS (av:=aF) (P:=prog) m9 hcx (gM cl)
 have hcf:=aRC cl FD aF8
 obtain⟨⟨k,n,s',ts⟩,bd⟩:=cl
 rw[gK] at aF2 hcf
 simp only at hinv
 simp only[bP,aE,sY,hat,aF2,aB,↓aU,seval,rB]
 refine wX [(0,1),(1,1),(2,1),(4,1),(3,0),(5,0),(6,0),(7,1)] [0,1,2,4,7] eF mixed rfl d4 ?_
 simp only[aB,seval,rB]
 have hfr:=FD.fr.1
 have hHd:=FD.fS N (.mk k n s' ts) (by simp)
 have hBd:=fun t ht=>(FD.FS t (AH _ ht))
 refine MH h0 (by omega) σ fun b hb hA0=>?_
 simp only[aB,seval]
 refine⟨d4,?_⟩
 refine(hcf _).to ?_
 simp only[aB,seval]
 refine⟨d4,?_⟩
 refine aM6 hd (by omega) hb fun b11 h11=>?_
 simp only[aB,seval]
 refine⟨d4,?_⟩
 have hA:=(show eH (N+pH (.mk k n s' ts,bd)) (W.aC b11 (.cells ((cJ (N+pH (.mk k n s' ts,bd)) σ).flatMap AV.cells))) b11 σ from aA.aH _ _ _)
 have hDT:aL (W.aC b11 (.cells ((cJ (N+pH (.mk k n s' ts,bd)) σ).flatMap AV.cells))) W:=(aL.refl _).aC h11
 have hh:=FD.head
 generalize pH (.mk k n s' ts,bd)=fr at *
 generalize W.aC b11 (.cells ((cJ (N+fr) σ).flatMap AV.cells))=T at *
 have hsh:Tm.sh (N:Int) (.mk k n s' ts)=fS N (.mk k n s' ts):=aIW N (by omega) _ hh.1
 have hcs:=M1 (N:Int) (.mk k n s' ts)
 rw[hsh] at hcs
 have hun:=ET (N:=N+fr) (by omega) hg (ho.upN (by omega)) (.mk gk gn gs' gts) (fS N (.mk k n s' ts)) (hgo.mono (by omega)) hHd b11
 generalize fS N (.mk k n s' ts)=y at *
 obtain⟨yk,yn,ys,yt⟩:=y
 refine wX [(0,1),(1,1),(2,1),(3,1),(4,1),(6,1),(5,0),(7,0),(8,1)] [0,1,2,3,4,6,8] eF mixed rfl d4 ?_
 simp only[aB,seval,rB]
 have hsm:=hh.1.small
 simp only[bU] at hun hcs ⊢
 refine(hcs _ hsm).to ?_
 simp only[aB,seval]
 refine⟨d4,?_⟩
 refine(hun _ hA).mono ?_
 rintro _ s2 ⟨rfl,hA2,hk2⟩
 simp only[aB,seval]
 refine⟨d4,?_⟩
 generalize nP σ (.mk gk gn gs' gts) (.mk yk yn ys yt)=u at *
 obtain⟨r,σ',tr⟩:=u
 simp only at hinv hA2 ⊢
 have IY:W b11=none:=h11
 have hDs:aL s2 W:=by
  intro q
  have key:∀o,W q=some o→s2 q=some o:=fun o h=>hk2 q o ((hDT q).2 o h) (by rintro rfl;rw[IY] at h;cases h)
  refine⟨fun h=>?_,key⟩
  cases hq:W q with
  | none=>rfl
  | some o=>rw[key o hq] at h;cases h
 refine aQ (fun h=>?_) (fun h=>?_)
 · have hr:r=false:=by simpa using h
   rw[aK (by rw[hr];simp)] at hinv
   simp only[hw,aB,seval]
   exact⟨(),hinv,aO.drop hDs (by simp only[aB,seval])⟩
 have hr':r=true:=by simpa using h
 rw[aN hr'] at hinv
 have hg9:=T9 bd N cs.length rest hBd aF8 (by omega) (by omega)
 generalize hgs:bd.map (fun t=>(⟨fS N t,cs.length⟩:RG))++rest=gs2 at *
 simp only[aE,aB,seval,rB]
 refine wP [(0,1),(1,1),(3,1),(5,1),(6,1),(7,1),(2,2),(4,2),(8,2),(9,1),(10,1),(11,0),(12,0)] [0,1,3,5,6,7,2,4,8,9,10] mixed ?_
 simp only[aB,seval,rB]
 refine M7 hg9 ?_
 simp only[aG,aE,hw,aB,seval,rB]
 intro b13 h13
 have aWO:b13≠b11:=by rintro rfl;rw[eH,h13] at hA2;cases hA2
 have h62:s2 b6≠none:=by rw[(hDs b6).2 _ hW6];simp
 have IV:b6≠b13:=by rintro rfl;exact h62 h13
 have aFU:b6≠b11:=by rintro rfl;rw[hW6] at IY;cases IY
 have JD:st b11=none:=(hDW b11).1 IY
 have aFY:=(hDs b6).2 _ hW6
 have hNf:0<N+fr:=by omega
 have nA:cJ (N+fr) σ'≠[]:=by intro e;have:=sY (N+fr) σ';rw[e] at this;simp at this;omega
 refine aQ (fun h=>?_) (fun h=>?_)
 · have h':i+1<left.length:=by simp at h;omega
   have hsl:=fun(φ:AF) (d:Nat) (h:φ d=.int .i64 ((i:Int)+1))=>a1K h' h
   simp only[aB,seval]
   refine wP [(0,1),(2,1),(4,1),(6,1),(7,1),(9,1),(1,2),(3,2),(5,2),(8,1),(10,2),(11,1),(12,0),(13,0)] [0,2,4,6,7,9,1,3,5,8,10,11] mixed ?_
   simp only[aG,hsl,hw,aB,seval,rB]
   intro b14 h14
   have aGN:b14≠b13:=by rintro rfl;rw[aA.aH] at h14;cases h14
   have N7:s2 b14=none:=by rw[aA.aJ _ _ aGN] at h14;exact h14
   have aWP:b6≠b14:=by rintro rfl;exact h62 N7
   generalize hV:(s2.aC b13 (AO.cells [AV.slice (gs2.map d5),AV.mslice b11 0 (N+fr) 4,AV.slice (cs.map eQ)])).aC b14 (.cells [.int .i64 gk,.int .i64 gn,.str gs',.slice (gts.map Tm.av),.slice (rest.map d5),.slice ((left.drop (i+1)).map nv),.slice (cJ N σ)])=V
   have B1:V b14=some (.cells [.int .i64 gk,.int .i64 gn,.str gs',.slice (gts.map Tm.av),.slice (rest.map d5),.slice ((left.drop (i+1)).map nv),.slice (cJ N σ)]):=by rw[←hV];exact aA.aH _ _ _
   have IX:V b13=some (AO.cells [AV.slice (gs2.map d5),AV.mslice b11 0 (N+fr) 4,AV.slice (cs.map eQ)]):=by rw[←hV,aA.aJ _ _ (dM aGN)];exact aA.aH _ _ _
   have hV6:V b6=some (.cells [.fslice [],.fslice [],.fslice []]):=by rw[←hV,aA.aJ _ _ aWP,aA.aJ _ _ IV];exact aFY
   have hVq:∀q,q≠b13→q≠b14→V q=s2 q:=fun q e1 e2=>by rw[←hV,aA.aJ _ _ e2,aA.aJ _ _ e1]
   refine wX [(0,1),(1,1),(2,1),(4,1),(5,1),(3,0),(6,0),(7,1),(8,2)] [0,1,2,4,5,7] (one b14 (.cells [.int .i64 gk,.int .i64 gn,.str gs',.slice (gts.map Tm.av),.slice (rest.map d5),.slice ((left.drop (i+1)).map nv),.slice (cJ N σ)])) mixed rfl (hJ B1) ?_
   simp only[FT,aB,seval,rB]
   have hlc:(cs.map eQ).length=cs.length:=aE _
   refine eY (P:=prog) (b:=0) (l:=[]) (xs:=cs.map eQ) BT NK NO rfl rfl (by intro e he;simp only[cM] at he;obtain⟨t,_,rfl⟩:=he;exact⟨JY t,a0M t⟩) (by simp) (by simp) (by simp only[a8,hlc];omega) (by simp only[a8,hlc];omega) (fun b15 h15=>?_)
   rw[dL] at h15 ⊢
   simp only[aB,seval]
   refine⟨hJ (A8 h15 B1),?_⟩
   refine eY (P:=prog) (b:=b15) (l:=cs.map eQ) (xs:=[eQ ⟨.mk gk gn gs' gts,rest,left.drop (i+1),σ,N⟩]) BT NK NO rfl rfl (gN rfl rfl) (by intro e he;simp only[cM] at he;obtain⟨t,_,rfl⟩:=he;exact JY t) h15 (by simp only[aX,a8,hlc];omega) (by simp only[aX,a8,hlc];omega) (fun b16 h16=>?_)
   rw[show(cs.map eQ)++ [eQ ⟨.mk gk gn gs' gts,rest,left.drop (i+1),σ,N⟩]=(cs++ [(⟨.mk gk gn gs' gts,rest,left.drop (i+1),σ,N⟩:RC)]).map eQ by simp] at h16 ⊢
   have g13:=A8 h16 IX
   have g14:=A8 h16 B1
   have g6:=A8 h16 hV6
   have hdn:left.drop (i+1)≠[]:=by intro e;have:=rX List.length e;simp at this;omega
   rw[aK hdn] at hinv
   generalize hLL:cs++ [(⟨.mk gk gn gs' gts,rest,left.drop (i+1),σ,N⟩:RC)]=LL at *
   have E:=aK1 (o':=.cells [AV.slice (gs2.map d5),AV.mslice b11 0 (N+fr) 4,bK 7 b16 (LL.map eQ)]) (o6:=.cells [AV.slice (gs2.map d5),AV.mslice b11 0 (N+fr) 4,bK 7 b16 (LL.map eQ)]) (hDs.trans hDW) hA2 JD h6 h62 aFU h13 N7 hVq (by rw[IX];simp) (by rw[B1];simp) h16 nA
   simp only[aG,IV,g13,g6,iJ,mU,aB,seval,rB]
   have hms:LL.map eQ≠[]→b11≠b16:=by rintro h rfl;have:=h16 h;rw[hVq b11 (dM aWO) (by rintro rfl;rw[eH,N7] at hA2;cases hA2),hA2] at this;cases this
   refine⟨hJ g14,_,E.1,b16,LL.map eQ,_,rfl,fun h=>E.2 (by simpa using h),a0N LL,⟨7,a0O LL⟩,b11,cJ (N+fr) σ',st,rfl,fun _=>JD,ER _ _,⟨4,BD _ _⟩,rfl,?_⟩
   rw[←hinv]
   simp only[hY,gB,pE,kC,lP,bL,bE,aFL hms,IR hNf]
   rfl
 · have h':left.drop (i+1)= []:=G8 (by simp at h;omega)
   have E:=aK1 (o6:=.cells [AV.slice (gs2.map d5),AV.mslice b11 0 (N+fr) 4,AV.slice (cs.map eQ)]) (o':=.cells [AV.slice (gs2.map d5),AV.mslice b11 0 (N+fr) 4,AV.slice (cs.map eQ)]) (b:=0) (L:=[]) (hDs.trans hDW) hA2 JD h6 h62 aFU h13 h13 (fun q h _=>aA.aJ s2 (.cells [AV.slice (gs2.map d5),AV.mslice b11 0 (N+fr) 4,AV.slice (cs.map eQ)]) h) (by rw[aA.aH];simp) (by rw[aA.aH];simp) (by simp) nA
   simp only[aG,IV,aFY,aA.aH,aB,seval,rB]
   rw[aN h'] at hinv
   have E1:=E.1
   simp only[a9,dW] at E1
   refine⟨_,E1,0,[],_,rfl,by simp,by simp,⟨0,by simp⟩,b11,cJ (N+fr) σ',st,rfl,fun _=>JD,ER _ _,⟨4,BD _ _⟩,rfl,?_⟩
   rw[←hinv]
   simp only[hY,gB,pE,kC,bL,bE,aFL (l:=[]) (fun h=>absurd rfl h),IR hNf]
   rfl
theorem PP{p:List Cl}(hp:∀c∈p,iG c∧c.2.length≤6){B:Nat}(hB:B≤524288){cs:List RC}{goal:Tm}{rest:List RG}{σ:Sub}{N:Nat}(hg:dN σ)(ho:dI (bY N) σ)(hd:∀n,¬(0≤n∧n<(N:Int))→σ n=none)
 (hgo:bY N goal) (hr:∀g∈rest,bY N g.t∧g.t.k=3) (h0:0<N) (hN:N+26≤B) (hrl:rest.length+26≤B) (hcl:cs.length+1≤B) (hcs:∀c∈cs,wB p c∧c.N+26≤B∧c.rest.length+26≤B∧0<c.N) :
 ∀(left:List Nat),(∀i∈left,i<p.length)→left.length≤1048576→∀s,kF p cs goal rest σ N left=some s→oU p B s
 | [],_,_,s,h=>by simp [kF] at h
 | i::l,hle,hll,s,h=>by
  have hil:=hle i (by simp)
  obtain⟨x,hx⟩:∃x,p[i]?=some x:=⟨_,eL hil⟩
  obtain⟨hX,h6⟩:=hp x (cQ hx)
  have hl':∀j∈l,j<p.length:=fun j hj=>hle j (by simp [hj])
  rw[kF.eq_def] at h
  simp only[hx] at h
  split at h
  case isFalse=>exact PP hp hB hg ho hd hgo hr h0 hN hrl hcl hcs l hl' (by simp at hll;omega) s h
  cases h
  have hfr:=hX.fr.1
  have hsh:=hX.fS N
  obtain⟨r,σ',tr,U⟩:=Q8 (N:=N+pH x) hg (ho.upN (by omega)) (hgo.mono (by omega)) (hsh x.1 (by simp))
  rw[U.eq]
  have S:=U.F9
  refine⟨S.iL,S.ok,fun n hn=>?_,?_,by simp only;omega,by simp only;omega,?_,?_,?_⟩
  · simp only at hn ⊢
    rw[S.aY n (fun h=>hn (S.iM n h))]
    exact hd n (fun h=>hn (by omega))
  · intro g hg'
    simp only[fG,cM] at hg'
    rcases hg' with ⟨t,ht,rfl⟩ | hg'
    · exact⟨hsh t (AH _ ht),by rw[a05];exact(hX.body t ht).2⟩
    · exact⟨(hr g hg').1.mono (by simp only;omega),(hr g hg').2⟩
  · simp only[dO,aE];omega
  · simp only
    split
    · omega
    · simp only[dO,aX,a8];omega
  · simp only
    split
    · exact hcs
    · intro c hc
      rcases fG.1 hc with hc | hc
      · exact hcs c hc
      · simp only[cL,c8,dP] at hc
        subst hc
        exact⟨⟨hg,ho,hd,hgo,hr,hl',by simp only;omega,by simp only;simp at hll;omega⟩,hN,hrl,h0⟩
theorem a0D(p:List Cl)(chs:List RC):fK p chs.length chs=match chs.getLast? with
 | none=>none
 | some c=>match kF p chs.dropLast c.goal c.rest c.σ c.N c.left with
  | some s=>some s
  | none=>fK p chs.dropLast.length chs.dropLast:=by
 cases chs with
 | nil=>rfl
 | cons c l=>
  rw[aX,fK]
  have:(c::l).dropLast.length=l.length:=by simp
  rw[this]
  try rfl
theorem aIH{p:List Cl}(hp:∀c∈p,iG c∧c.2.length≤6){B:Nat}(hB:B≤524288):∀(n:Nat) (chs:List RC),chs.length≤B→(∀c∈chs,wB p c∧c.N+26≤B∧c.rest.length+26≤B∧0<c.N)→∀s,fK p n chs=some s→oU p B s
 | 0,_,_,_,s,h=>by simp [fK] at h
 | n+1,chs,hl,hc,s,h=>by
  rw[fK] at h
  split at h
  · cases h
  · rename_i c tH
    have hm:=List.mem_of_getLast? tH
    have hne:chs≠[]:=by rintro rfl;simp at hm
    have hdl:chs.dropLast.length+1=chs.length:=by
     have:=List.length_pos_iff.2 hne
     simp;omega
    have hcd:∀c∈chs.dropLast,wB p c∧c.N+26≤B∧c.rest.length+26≤B∧0<c.N:=fun c h=>hc c (List.dropLast_subset _ h)
    obtain⟨k,h1,h2,h3⟩:=hc c hm
    split at h
    · rename_i s' hs
      cases h
      exact PP hp hB k.iL k.ok k.dom k.goal k.rest h3 h1 h2 (by omega) hcd c.left k.left k.aYS s hs
    · exact aIH hp hB n _ (by omega) hcd s h
theorem oU.up{p:List Cl}{B C:Nat}{s:RS}(h:oU p B s)(hC:B≤C):oU p C s:=
 ⟨h.iL,h.ok,h.dom,h.goals,h.pos,by have:=h.hN;omega,by have:=h.gl;omega,by have:=h.chl;omega,fun c hc=>by
  obtain⟨h1,h2,h3,h4⟩:=h.chs c hc
  exact⟨h1,by omega,by omega,h4⟩⟩
theorem oU.back{p:List Cl}(hp:∀c∈p,iG c∧c.2.length≤6){B:Nat}(hB:B≤524288){s s':RS}(h:oU p B s)(e:fK p s.chs.length s.chs=some s'):oU p B s':=
 aIH hp hB _ _ h.chl h.chs s' e
theorem aFN{N:Nat}{σ:Sub}(hg:dN σ)(ho:dI (bY N) σ){t:Tm}(ht:bY N t)(hf:kD (t.aV (rs σ))=true):bY N (t.aV (rs σ)):=by
 obtain⟨rk,B,G⟩:=hg.rs
 unfold kD at hf
 simp only[bD,bA] at hf
 exact⟨ht.1.aV fun v hv=>G.zB ho.zB v (ht.1.2.2 v hv).1 (ht.1.2.2 v hv).2,hf.2⟩
theorem oU.step{p:List Cl}(hp:∀c∈p,iG c∧c.2.length≤6)(hpl:p.length≤1048576){B:Nat}(hB:B+26≤524288){cnd:Tm→List Nat→List Nat}(hc:∀t l,(∀i∈cnd t l,i∈l)∧(cnd t l).length≤l.length){s s':RS}{g:RG}{rest:List RG}(hgs:s.goals=g::rest)(h:oU p B s)
 (e:jI p cnd s g rest=.go s'):oU p (B+26) s':=by
 have hgm:g∈s.goals:=by rw[hgs];simp
 have hrm:∀x∈rest,x∈s.goals:=fun x hx=>by rw[hgs];simp [hx]
 have hgl:=h.gl
 rw[hgs,aX] at hgl
 have hU:=h.up (C:=B+26) (by omega)
 unfold jI at e
 split at e
 · cases e
 rename_i eU
 have aW6:kD (g.t.aV (rs s.σ))=true:=by simpa using eU
 have hok:=aFN h.iL h.ok (h.goals g hgm).1 aW6
 generalize g.t.aV (rs s.σ)=t at *
 split at e
 · cases e
   exact⟨hU.iL,hU.ok,hU.dom,fun x hx=>hU.goals x (hrm x hx),hU.pos,hU.hN,by simp only;omega,by simp only[dK];have:=hU.chl;omega,fun c hc=>hU.chs c (lY hc)⟩
 split at e
 · split at e
   · cases e
     have S:=a1Q h.iL h.ok t.s t.ts fun x hx=>by
      obtain⟨k,n,s',ts⟩:=t
      by_cases hk:k=1
      · obtain⟨_,_,_,h2⟩:=(show dD s.N (.mk 1 n s' ts) from hk▸hok.1).var
        simp only[Tm.ts] at hx
        rw[h2] at hx;cases hx
      · exact wZ _ (.mk k n s' ts) hk hok x hx
     exact⟨S.iL,S.ok,fun n hn=>by simp only at hn ⊢;rw[S.aY n (fun h=>hn (S.iM n h))];exact hU.dom n hn,fun x hx=>hU.goals x (hrm x hx),hU.pos,hU.hN,by simp only;omega,hU.chl,hU.chs⟩
   · split at e<;>cases e
 split at e
 · cases e
 split at e
 case h_2=>cases e
 rename_i s2 hs
 cases e
 obtain⟨c1,c2⟩:=hc t (qR p t)
 have hfl:(qR p t).length≤p.length:=by rw[N1];exact N2 p t p.length
 refine PP hp (by omega) h.iL h.ok h.dom hok (fun x hx=>h.goals x (hrm x hx)) h.pos (by have:=h.hN;omega) (by omega) (by have:=h.chl;omega) hU.chs _ (fun i hi=>?_) (by omega) s' hs
 have:=c1 i hi
 unfold qR at this
 have:=(List.mem_filter.1 this).1
 exact xU.1 this
def mI(n:Nat)(l:List RG):Prop:=l.Pairwise (fun a b=>b.aY≤a.aY)∧∀g∈l,g.aY≤n
theorem mI.up{n m:Nat}{l:List RG}(h:mI n l)(hm:n≤m):mI m l:=⟨h.1,fun g hg=>lZ (h.2 g hg) hm⟩
theorem mI.tail{n:Nat}{g:RG}{l:List RG}(h:mI n (g::l)):mI n l∧mI g.aY l:=by
 obtain⟨h1,h2⟩:=h
 rw[DX] at h1
 exact⟨⟨h1.2,fun x hx=>h2 x (by simp [hx])⟩,h1.2,h1.1⟩
theorem mI.body{n:Nat}{l:List RG}(h:mI n l)(f:Tm→Tm)(bd:List Tm):mI n (bd.map (fun t=>(⟨f t,n⟩:RG))++l):=by
 refine⟨List.pairwise_append.2 ⟨?_,h.1,fun a ha b hb=>?_⟩,fun g hg=>?_⟩
 · rw[List.pairwise_map]
   exact List.pairwise_of_forall fun _ _=>cX _
 · obtain⟨t,_,rfl⟩:=cM.1 ha
   exact h.2 b hb
 · rcases fG.1 hg with hg | hg
   · obtain⟨t,_,rfl⟩:=cM.1 hg
     exact cX _
   · exact h.2 g hg
structure xX (s:RS):Prop where
 goals:mI s.chs.length s.goals
 chs:∀i c,s.chs[i]?=some c→mI i c.rest
theorem PN{p:List Cl}{cs:List RC}{goal:Tm}{rest:List RG}{σ:Sub}{N:Nat}(hr:mI cs.length rest)(hc:∀i c,cs[i]?=some c→mI i c.rest) :
 ∀(left:List Nat) s,kF p cs goal rest σ N left=some s→xX s
 | [],s,h=>by simp [kF] at h
 | i::l,s,h=>by
  rw[kF.eq_def] at h
  simp only at h
  split at h
  · cases h
  rename_i x hx
  split at h
  case isFalse=>exact PN hr hc l s h
  cases h
  have hb:=hr.body (fS N) x.2
  refine⟨?_,?_⟩
  · simp only
    split
    · exact hb
    · exact hb.up (by simp)
  · simp only
    intro j c hj
    split at hj
    · exact hc j c hj
    · rw[List.getElem?_append] at hj
      split at hj
      · exact hc j c hj
      · rename_i hlt
        have hj0:j - cs.length=0:=by
         have:=(fM.1 hj).1
         simp at this;omega
        rw[hj0] at hj
        simp only[LS,Option.some.injEq] at hj
        subst hj
        exact hr.up (by omega)
theorem aIF{p:List Cl}:∀(n:Nat) (chs:List RC),(∀i c,chs[i]?=some c→mI i c.rest)→∀s,fK p n chs=some s→xX s
 | 0,_,_,s,h=>by simp [fK] at h
 | n+1,chs,hc,s,h=>by
  rw[fK] at h
  split at h
  · cases h
  · rename_i c tH
    have hd:∀i c,chs.dropLast[i]?=some c→mI i c.rest:=fun i c hi=>hc i c (by
     rw[List.dropLast_eq_take,List.getElem?_take] at hi
     split at hi
     · exact hi
     · cases hi)
    rw[RI] at tH
    have hk:=hc _ _ tH
    split at h
    · rename_i s' hs
      cases h
      exact PN (by rw[List.length_dropLast];exact hk) hd _ s hs
    · exact aIF n _ hd s h
theorem xX.step{p:List Cl}{cnd:Tm→List Nat→List Nat}{s s':RS}{g:RG}{rest:List RG}(hgs:s.goals=g::rest)(h:xX s)(e:jI p cnd s g rest=.go s'):xX s':=by
 have hg:=h.goals
 rw[hgs] at hg
 obtain⟨h1,h2⟩:=hg.tail
 have h3:=hg.2 g (by simp)
 unfold jI at e
 split at e
 · cases e
 split at e
 · cases e
   refine⟨?_,fun i c hi=>?_⟩
   · simp only[dK]
     exact h2.up (by omega)
   · simp only[List.getElem?_take] at hi
     split at hi
     · exact h.chs i c hi
     · cases hi
 split at e
 · split at e
   · cases e
     exact⟨h1,h.chs⟩
   · split at e<;>cases e
 split at e
 · cases e
 split at e
 case h_2=>cases e
 rename_i s2 hs
 cases e
 exact PN h1 h.chs _ s' hs
def AL(s:RS):Prop:=26≤s.N∧∀c∈s.chs,26≤c.N
theorem PO{p:List Cl}{cs:List RC}{goal:Tm}{rest:List RG}{σ:Sub}{N:Nat}(hN:26≤N)(hc:∀c∈cs,26≤c.N) :
 ∀(left:List Nat) s,kF p cs goal rest σ N left=some s→AL s
 | [],s,h=>by simp [kF] at h
 | i::l,s,h=>by
  rw[kF.eq_def] at h
  simp only at h
  split at h
  · cases h
  rename_i x hx
  split at h
  case isFalse=>exact PO hN hc l s h
  cases h
  refine⟨by simp only;omega,?_⟩
  simp only
  split
  · exact hc
  · intro c h
    rcases fG.1 h with h | h
    · exact hc c h
    · simp only[cL,c8,dP] at h
      subst h;exact hN
theorem aIG{p:List Cl}:∀(n:Nat) (chs:List RC),(∀c∈chs,26≤c.N)→∀s,fK p n chs=some s→AL s
 | 0,_,_,s,h=>by simp [fK] at h
 | n+1,chs,hc,s,h=>by
  rw[fK] at h
  split at h
  · cases h
  · rename_i c tH
    have hd:∀c∈chs.dropLast,26≤c.N:=fun c h=>hc c (List.dropLast_subset _ h)
    split at h
    · rename_i s' hs
      cases h
      exact PO (hc c (List.mem_of_getLast? tH)) hd _ s hs
    · exact aIG n _ hd s h
theorem AL.step{p:List Cl}{cnd:Tm→List Nat→List Nat}{s s':RS}{g:RG}{rest:List RG}(h:AL s)(e:jI p cnd s g rest=.go s'):AL s':=by
 unfold jI at e
 split at e
 · cases e
 split at e
 · cases e
   exact⟨h.1,fun c hc=>h.2 c (lY hc)⟩
 split at e
 · split at e
   · cases e
     exact h
   · split at e<;>cases e
 split at e
 · cases e
 split at e
 case h_2=>cases e
 rename_i s2 hs
 cases e
 exact PO h.1 h.2 _ s' hs
structure sO (p:List Cl) (B:Nat) (s:RS):Prop where
 a:oU p B s
 k:xX s
 l:AL s
theorem sO.step{p:List Cl}(hp:∀c∈p,iG c∧c.2.length≤6)(hpl:p.length≤1048576){B:Nat}(hB:B+26≤524288){cnd:Tm→List Nat→List Nat}(hc:∀t l,(∀i∈cnd t l,i∈l)∧(cnd t l).length≤l.length){s s':RS}{g:RG}{rest:List RG}(hgs:s.goals=g::rest)(h:sO p B s)
 (e:jI p cnd s g rest=.go s'):sO p (B+26) s':=⟨h.a.step hp hpl hB hc hgs e,h.k.step hgs e,h.l.step e⟩
theorem sO.back{p:List Cl}(hp:∀c∈p,iG c∧c.2.length≤6){B:Nat}(hB:B≤524288){s s':RS}(h:sO p B s)(e:fK p s.chs.length s.chs=some s'):sO p B s':=
 ⟨h.a.back hp hB e,aIF _ _ h.k.chs s' e,aIG _ _ h.l.2 s' e⟩
theorem sO.start{p:List Cl}{q:List Tm}(hq:∀t∈q,bY 26 t∧t.k=3)(h6:q.length≤6):sO p 26 (pU q):=by
 refine⟨⟨dN.none,fun n u h=>(by cases h),fun n _=>rfl,?_,(by show 0<26;omega),cX _,?_,iI _,fun c hc=>(by cases hc)⟩,⟨⟨?_,?_⟩,fun i c hi=>(by cases hi)⟩,⟨cX _,fun c hc=>(by cases hc)⟩⟩
 · intro g hg
   simp only[pU,cM] at hg
   obtain⟨t,ht,rfl⟩:=hg
   exact hq t ht
 · simp only[pU,aE];omega
 · simp only[pU,List.pairwise_map]
   exact List.pairwise_of_forall fun _ _=>cX _
 · intro g hg
   simp only[pU,cM] at hg
   obtain⟨t,ht,rfl⟩:=hg
   exact iI _
theorem aIZ{φ:AF}{t:TypeId}{ag:Bool}{w d k:Nat}{es:List AV}(hI:eI prog t=some (ag,w))(h:φ d=.int .i64 (k:Int))(hk:k≤es.length):gJ prog φ t (.slice es) none (some (.tmp d)) none=some (.slice (es.take k)):=by
 have he:φ.eval (.tmp d)=.int .i64 (k:Int):=h
 unfold gJ
 rw[aK (by simp [qV])]
 simp only[nU,hI]
 rw[aK (by simp)]
 simp only[dE,he]
 rw[aN (by omega)]
 simp
def HE(a:AV):Prop:=(∃l,a=.slice l)∨a=.fslice []
theorem HE.facts{a:AV}(h:HE a):a.isAgg=false∧a.width=1∧a.bR=false∧a.cells= [a]∧a.storable=true∧∃l,a.soft=.slice l:=by
 rcases h with ⟨l,rfl⟩ | rfl
 · exact⟨rfl,rfl,rfl,rfl,rfl,l,rfl⟩
 · exact⟨rfl,rfl,rfl,rfl,rfl,[],rfl⟩
abbrev tX:=zi aS (zi bV (zi jK (zi QS (zi GS QT))))
theorem T7{p:List Cl}(hp:∀c∈p,iG c∧c.2.length≤6){B:Nat}(hB:B≤524288)(gs0:List RG)(σ0:List AV)(chs:List RC)(hl:chs.length≤B)(hc:∀c∈chs,wB p c∧c.N+26≤B∧c.rest.length+26≤B∧0<c.N)(st:aA) :
 aD prog 143 [.slice (p.map aF),.agg [.slice (gs0.map d5),.slice σ0,.slice (chs.map eQ)]] st (fun r st'=>st'=st∧match fK p chs.length chs with
  | some s=>r=.tup [nH s,.bool true]
  | none=>∃l1 l2 l3,r=.tup [.agg [.slice l1,.slice l2,.slice l3],.bool false]):=by
 refine aD.o9 (aD.soft ?_)
 refine wF [1000000,3] 2 func143 ntmps143 rfl rfl ?_
 intro _
 simp only[aB,seval,tX]
 intro b3 h3 b4 h4
 have hne:b4≠b3:=by rintro rfl;rw[aA.aH] at h4;cases h4
 have OT:st b4=none:=by rw[aA.aJ _ _ hne] at h4;exact h4
 rw[aA.sK _ _ _ (dM hne)]
 generalize hW:st.aC b4 (.cells [.fslice [],.fslice [],.fslice []])=W
 have hW4:W b4=some (.cells [.fslice [],.fslice [],.fslice []]):=by rw[←hW];exact aA.aH _ _ _
 have hW3:W b3=none:=by rw[←hW,aA.aJ _ _ (dM hne)];exact h3
 have hDW:∀o o',aL ((W.aC b3 o).aC b4 o') st:=fun o o' q=>by
  by_cases q4:q=b4
  · subst q4;rw[aA.aH,OT];simp
  rw[aA.aJ _ _ q4]
  by_cases q3:q=b3
  · subst q3;rw[aA.aH,h3];simp
  rw[aA.aJ _ _ q3,←hW,aA.aJ _ _ q4]
  simp
 have a40:b3≠b4:=dM hne
 refine i8 (σ:=List RC×AV×AV) [1000000,3] [0,3,4] (fun s=>s.1.length≤B∧(∀c∈s.1,wB p c∧c.N+26≤B∧c.rest.length+26≤B∧0<c.N)∧HE s.2.1∧HE s.2.2∧fK p s.1.length s.1=fK p chs.length chs) (fun s=>[(5,.bool false)]) (fun s=>W.aC b3 (.cells [s.2.1,s.2.2,.slice (s.1.map eQ)])) (fun s=>s.1.length) (by decide +kernel) ⟨(chs,.slice (gs0.map d5),.slice σ0),⟨hl,hc,.inl ⟨_,rfl⟩,.inl ⟨_,rfl⟩,rfl⟩,aO.mk (by simp only[aB,seval])⟩ ?_
 rintro⟨l,a,b⟩ ⟨hl1,hlc,ha,hb,hinv⟩
 simp only at hl1 hlc ha hb hinv
 obtain⟨a1,a2,a3,a4,a5,la,a6⟩:=ha.facts
 obtain⟨b1,b2,b3',b4',b5,lb,b6⟩:=hb.facts
 simp only
 rw[a0D] at hinv
 by_cases vH:l= []
 · subst vH
   simp only[List.getLast?_nil] at hinv
   simp only[aA.aH,yJ,List.contains,List.elem,sM,f0,sub,↓reduceIte,reduceCtorEq,Nat.reduceEqDiff,tX]
   refine aQ (fun h=>absurd h (by decide)) (fun h=>?_)
   simp only[aG,hne,aA.aH,hW4,a5,b5,aB,seval,tX]
   rw[←hinv]
   exact⟨st,hDW _ _,rfl,la,lb,[],by simp only[jV,kG,sD,pV,bL,bE,a6,b6]⟩
 obtain⟨c,tH⟩:∃c,l.getLast?=some c:=by
  cases h:l.getLast? with
  | none=>exact absurd (List.getLast?_eq_none_iff.1 h) vH
  | some c=>exact⟨c,rfl⟩
 have hlp:=List.length_pos_iff.2 vH
 have hcm:=List.mem_of_getLast? tH
 obtain⟨aW1,hcN,hcr,hc0⟩:=hlc c hcm
 rw[tH] at hinv
 simp only at hinv
 have hat:=bS (av:=eQ) (P:=prog) (l:=l) (i:=l.length - 1) (x:=c) BT (by rw[←RI];exact tH) (JY c)
 rw[show(((l.length - 1:Nat):Int))=(l.length:Int) - 1 by omega] at hat
 have hw:=bC (n:=(l.length:Int) - 1)
 have hdl:l.dropLast=l.take (l.length - 1):=List.dropLast_eq_take
 have a4U:l.dropLast.length+1=l.length:=by simp;omega
 have hct:=UB p hp [] [] l.dropLast c aW1 hc0 (by omega) (by omega)
 have hcs:=fun(φ:AF) (d:Nat) (h:φ d=.int .i64 ((l.length:Int) - 1))=>aIZ (es:=l.map eQ) (k:=l.length - 1) BT (h.trans (by congr 1;omega)) (by simp)
 rw[←List.map_take,←hdl] at hcs
 generalize hx:kF p l.dropLast c.goal c.rest c.σ c.N c.left=x at hinv hct
 obtain⟨⟨ck,cn,cs',cts⟩,UU,UQ,cσ,cN⟩:=c
 rw[PR] at hct hat
 simp only[bE] at hct
 simp only[aE,aA.aH,aB,seval,tX]
 refine aQ (fun h=>?_) (fun h=>absurd hlp (by simpa using h))
 simp only[aE,aA.aH,hw,hat,aB,↓aU,seval,tX]
 cases x with
 | none=>
  have I7:∀st,aD prog 199 [.slice (p.map aF),.agg [.fslice [],.fslice [],.slice (l.dropLast.map eQ)],.agg [.int .i64 ck,.int .i64 cn,.str cs',.slice (cts.map Tm.av),.slice (UU.map d5),.slice (UQ.map nv),.slice (cJ cN cσ)]] st (fun r st'=>r=.tup [.agg [.slice [],.slice [],.slice (l.dropLast.map eQ)],.bool false]∧st'=st):=fun st=>
   aD.oG ((hct st).mono fun _ _ h=>⟨h.2,h.1⟩)
  simp only at hinv
  refine wP [(0,1),(1,1),(3,1),(2,2),(4,1),(5,1),(6,2),(7,1),(8,1),(9,1),(10,1),(11,0),(12,0),(13,1)] [0,1,3,2,4,5,6,7,8,9,10,13] mixed ?_
  simp only[aA.aH,hcs,aB,seval,tX]
  refine M7 I7 ?_
  simp only[aG,aA.aH,aB,seval,tX]
  intro b8 h8
  have h83:b8≠b3:=by rintro rfl;rw[aA.aH] at h8;cases h8
  rw[aA.aJ _ _ h83] at h8
  have h84:b8≠b4:=by rintro rfl;rw[hW4] at h8;cases h8
  have hs8:st b8=none:=by rw[←hW,aA.aJ _ _ h84] at h8;exact h8
  have h38:=dM h83
  have h48:=dM h84
  simp only[aG,h38,aA.aH,hcs,aB,seval,tX]
  refine⟨(l.dropLast,.fslice [],.fslice []),by simp only;omega,⟨by simp only;omega,fun c h=>hlc c (List.dropLast_subset _ h),.inr rfl,.inr rfl,hinv⟩,aO.drop (fun q=>?_) (by simp only[aB,seval])⟩
  by_cases q3:q=b3
  · subst q3;rw[aA.aH,aA.aH];simp
  rw[aA.aJ _ _ q3,aA.aJ _ _ q3]
  by_cases q8:q=b8
  · subst q8;rw[aA.aH,h8];simp
  rw[aA.aJ _ _ q8,aA.aJ _ _ q3]
  simp
 | some s=>
  have I7:∀st,aD prog 199 [.slice (p.map aF),.agg [.fslice [],.fslice [],.slice (l.dropLast.map eQ)],.agg [.int .i64 ck,.int .i64 cn,.str cs',.slice (cts.map Tm.av),.slice (UU.map d5),.slice (UQ.map nv),.slice (cJ cN cσ)]] st (fun r st'=>r=.tup [nH s,.bool true]∧st'=st):=fun st=>
   aD.oG ((hct st).mono fun _ _ h=>⟨h.2,h.1⟩)
  simp only at hinv
  simp only[nH] at I7
  refine wP [(0,1),(1,1),(3,1),(2,2),(4,1),(5,1),(6,2),(7,1),(8,1),(9,1),(10,1),(11,0),(12,0),(13,1)] [0,1,3,2,4,5,6,7,8,9,10,13] mixed ?_
  simp only[aA.aH,hcs,aB,seval,tX]
  refine M7 I7 ?_
  simp only[aG,aA.aH,aB,seval,tX]
  intro b8 h8
  have h83:b8≠b3:=by rintro rfl;rw[aA.aH] at h8;cases h8
  rw[aA.aJ _ _ h83] at h8
  have h84:b8≠b4:=by rintro rfl;rw[hW4] at h8;cases h8
  have hs8:st b8=none:=by rw[←hW,aA.aJ _ _ h84] at h8;exact h8
  have h38:=dM h83
  have h48:=dM h84
  simp only[hne,h48,hW4,aB,seval]
  refine⟨st,?_,rfl,?_⟩
  · have d1:aL W st:=by rw[←hW];exact(aL.refl _).aC OT
    exact((d1.aC h3).aC hs8).aC OT
  · rw[←hinv]
    simp only[jV,kG,sD,pV,bL,bE]
    rfl
theorem a1I{φ:AF}{t:TypeId}{ag:Bool}{w:Nat}{y:Operand}{e:AV}{es:List AV}(hI:eI prog t=some (ag,w))(h:φ.eval y=.int .i64 1)(hw:∀x∈es,x.width=w):gJ prog φ t (.slice (e::es)) (some y) none none=some (.slice es):=by
 have hwo:pZ (e::es) 1 w=true:=by
  unfold pZ
  rw[LR]
  split
  · rename_i x hx
    simp [hw x (cQ hx)]
  · rfl
 unfold gJ
 rw[aK (by simp [qV])]
 simp only[nU,hI]
 rw[aK (by simp)]
 simp only[dE,h]
 rw[aN (by constructor<;>simp<;>omega)]
 simp [hwo]
theorem aRB(c:Int)(st:aA):aD prog 197 [.int .i64 c] st (fun r st'=>r=.int .i64 (uY c)∧st'=st):=by
 refine aD.done ?_
 refine wF [1000000] 1 func197 ntmps197 rfl rfl ?_
 intro _
 simp only[aB,seval]
 unfold uY
 refine aQ (fun h=>?_) (fun h=>?_)
 · simp only[aB,seval]
   have h':c=2:=by simpa using h
   exact⟨by rw[aN h'];try rfl,aL.refl _⟩
 rw[aK (show ¬c=2 by simpa using h)]
 simp only[aB,seval]
 refine aQ (fun h=>?_) (fun h=>?_)
 · simp only[aB,seval]
   have h':c=3:=by simpa using h
   exact⟨by rw[aN h'];try rfl,aL.refl _⟩
 rw[aK (show ¬c=3 by simpa using h)]
 simp only[aB,seval]
 refine aQ (fun h=>?_) (fun h=>?_)
 · simp only[aB,seval]
   have h':c=4:=by simpa using h
   exact⟨by rw[aN h'];try rfl,aL.refl _⟩
 rw[aK (show ¬c=4 by simpa using h)]
 simp only[aB,seval]
 exact⟨rfl,aL.refl _⟩
def sQ(s0:RS)(x:RO)(r:AV):Prop:=match x with
 | .go s=>r=.tup [nH s,.int .i64 (-1)]
 | .fail=>r=.tup [nH s0,.int .i64 (-2)]
 | .stop e=>0≤e∧∃l1 l2 l3,r=.tup [.agg [.slice l1,.slice l2,.slice l3],.int .i64 e]
abbrev mE:=zi DL (zi aS (zi bV (zi cH (zi jK (zi cB (zi mG (zi cC (zi GR (zi QS (zi GS (zi aKK QT)))))))))))
theorem aRI{p:List Cl}(hp:∀c∈p,iG c∧c.2.length≤6)(hpl:p.length≤1048576){B:Nat}(hB:B+26≤524288)(goals:List RG)(σ:Sub)(N:Nat)(chs:List RC)(g:RG)(rest:List RG)(hgs:goals=g::rest)(h:oU p B ⟨goals,σ,N,chs⟩)(hK:xX ⟨goals,σ,N,chs⟩)(st:aA) :
 aD prog 142 [.slice (p.map aF),.agg [.slice (goals.map d5),.slice (cJ N σ),.slice (chs.map eQ)]] st (fun r st'=>st'=st∧sQ ⟨goals,σ,N,chs⟩ (jI p (fun _ l=>l) ⟨goals,σ,N,chs⟩ g rest) r):=by
 subst hgs
 obtain⟨hg,ho,hd,hgo,h0,hN,hgl,hcl,hch⟩:=h
 simp only at hg ho hd hgo h0 hN hgl hcl hch
 obtain⟨hgx,hg3⟩:=hgo g (by simp)
 have B5:∀x∈rest,bY N x.t∧x.t.k=3:=fun x hx=>hgo x (by simp [hx])
 have hkp:=hK.goals.2 g (by simp)
 simp only at hkp
 have hsm:=UA hg ho g.t hgx
 have hyk:(g.t.aV (rs σ)).k=3:=by rw[Tm.tQ _ (by omega)];exact hg3
 have hfo:=aFN hg ho hgx
 generalize hR:jI p (fun _ l=>l) ⟨g::rest,σ,N,chs⟩ g rest=R
 unfold jI at hR
 dsimp only at hR
 obtain⟨⟨gk,gn,gs',gts⟩,aY⟩:=g
 simp only at hgx hg3 hkp hsm hyk hfo
 dsimp only at hR
 generalize (Tm.mk gk gn gs' gts).aV (rs σ)=y at *
 obtain⟨yk,yn,ys,yts⟩:=y
 obtain rfl:yk=3:=hyk
 have hat:dT prog 172 (.slice ((⟨.mk gk gn gs' gts,aY⟩::rest).map d5)) (.int .i64 0)=some (.pptr (d5 ⟨.mk gk gn gs' gts,aY⟩)):=bS (av:=d5) (l:=⟨.mk gk gn gs' gts,aY⟩::rest) (i:=0) E3 rfl (CV _)
 have hs1:=fun(φ:AF) (y:Operand) (h:φ.eval y=.int .i64 1)=>a1I (e:=d5 ⟨.mk gk gn gs' gts,aY⟩) (es:=rest.map d5) E3 h (by intro e he;simp only[cM] at he;obtain⟨t,_,rfl⟩:=he;exact CV t)
 rw[bL,zJ] at hat
 rw[zJ] at hs1
 rw[bL,zJ]
 simp only[bU] at hsm
 refine aD.fin (aD.o9 ?_)
 refine wF [1000000] 2 func142 ntmps142 rfl rfl ?_
 intro _
 simp only[aX,hat,hs1,aB,↓aU,seval,mE]
 intro b4 h4
 refine(hsm _).mono ?_
 rintro _ _ ⟨rfl,x,rfl,hx⟩
 generalize eU:kD (.mk 3 yn ys yts)=fit at *
 have E4:∀(o:AO) (r:AV) (x:RO),sQ ⟨⟨.mk gk gn gs' gts,aY⟩::rest,σ,N,chs⟩ x (r.fin 0 [])→∃s2,aL (st.aC b4 o) s2∧∃b l s0,s2=a9 s0 b l∧(l≠[]→s0 b=none)∧(∀e∈l,e.bR=false)∧gW l∧s0=st∧sQ ⟨⟨.mk gk gn gs' gts,aY⟩::rest,σ,N,chs⟩ x (r.fin b l):=fun o r x hr=>
  ⟨st,(aL.refl _).aC h4,0,[],st,rfl,by simp,by simp,⟨0,by simp⟩,rfl,hr⟩
 simp only[aX,aP,cR,cT,aB,↓aU,seval,mE]
 refine aQ (fun h=>?_) (fun h=>?_)
 · have h':fit=false:=by simpa using h
   subst h'
   rw[aN rfl] at hR
   subst hR
   simp only[aG,aX,aB,seval,mE]
   exact E4 _ _ _ ⟨by decide,_,_,_,by simp only[hY,gB,fW,kC,bL,bE];rfl⟩
 obtain rfl:fit=true:=by simpa using h
 obtain rfl:=hx rfl
 simp only[bU]
 have hyo:=hfo rfl
 rw[aK (by simp)] at hR
 have I8:∀st,aD prog 194 [.agg [.int .i64 3,.int .i64 yn,.str ys,.slice (yts.map Tm.av)]] st (fun r st'=>r=.bool (IE (.mk 3 yn ys yts))∧st'=st):=fun st=>by
  have:=TX 3 yn ys yts st
  rw[bU] at this
  exact this
 have hbi:=fun st=>M5 ys (yts.length:Int) st
 have aGF:=fun st=>aQ0 p (.mk 3 yn ys yts) hpl st
 have aGT:=fun hb=>aOM (N:=N) h0 (by omega) hg ho yn ys yts hb (wZ N (.mk 3 yn ys yts) (by show(3:Int)≠1;decide) hyo)
 have htr:=UB p hp
 simp only[bU] at aGF aGT
 replace hR:(if IE (.mk 3 yn ys yts)=true then RO.go ⟨rest,σ,N,chs.take aY⟩ else if isBuiltin ys (yts.length:Int)=true then(if(gV σ ys yts).1=0 then RO.go ⟨rest,(gV σ ys yts).2.1,N,chs⟩ else if(gV σ ys yts).1=1 then RO.fail else RO.stop (uY (gV σ ys yts).1)) else if qR p (.mk 3 yn ys yts)= [] then RO.stop 8 else match kF p chs (.mk 3 yn ys yts) rest σ N (qR p (.mk 3 yn ys yts)) with | some s'=>RO.go s' | none=>RO.fail)=R:=hR
 generalize hcu:IE (.mk 3 yn ys yts)=cu at *
 have hs2:=fun(φ:AF) (d:Nat) (h:φ d=.int .i64 (aY:Int))=>aIZ (es:=chs.map eQ) (k:=aY) BT h (by simpa using hkp)
 rw[←List.map_take] at hs2
 refine(I8 _).to ?_
 simp only[aB,seval]
 refine aQ (fun h=>?_) (fun h=>?_)
 · rw[aN h] at hR
   subst h hR
   simp only[aB,seval]
   refine wP [(0,1),(1,1),(3,1),(5,1),(2,2),(4,2),(6,2),(7,1),(8,1),(9,0),(10,1)] [0,1,3,5,2,4,6,7,8,10] mixed ?_
   simp only[aG,aX,hs2,aB,seval,mE]
   exact E4 _ _ _ (by simp only[hY,gB,fW,kC,bL,bE];rfl)
 rw[aK (by rw[h];simp)] at hR
 subst h
 simp only[aE,aB,seval,mE]
 refine(hbi _).to ?_
 simp only[aB,seval]
 refine aQ (fun h=>?_) (fun h=>?_)
 · have OS:=aGT h
   rw[aN h] at hR
   simp only[aB,seval,mE]
   refine MH h0 (by omega) σ fun b hb hA0=>?_
   have hst:=aL.aC (aL.refl st) (o:=.cells [.fslice [],.fslice [],.fslice []]) h4
   generalize hW:st.aC b4 (.cells [.fslice [],.fslice [],.fslice []])=W at *
   have hW4:W b4=some (.cells [.fslice [],.fslice [],.fslice []]):=by rw[←hW];exact aA.aH _ _ _
   have hT:aL (W.aC b (.cells ((cJ N σ).flatMap AV.cells))) W:=(aL.refl _).aC hb
   generalize W.aC b (.cells ((cJ N σ).flatMap AV.cells))=T at *
   have hb4:b≠b4:=by rintro rfl;rw[hW4] at hb;cases hb
   simp only[aX,aB,seval,mE]
   refine(OS b _ hA0).mono ?_
   rintro _ s2 ⟨rfl,hA,hk2⟩
   have aW0:=a1P σ ys yts
   generalize gV σ ys yts=S at *
   obtain⟨c,σ',tr⟩:=S
   simp only at hA aW0 ⊢
   dsimp only at hR
   have hDs:aL s2 W:=by
    intro q
    have key:∀o,W q=some o→s2 q=some o:=fun o h=>hk2 q o ((hT q).2 o h) (by rintro rfl;rw[hb] at h;cases h)
    refine⟨fun h=>?_,key⟩
    cases hq:W q with
    | none=>rfl
    | some o=>rw[key o hq] at h;cases h
   have OR:=(hDs b4).2 _ hW4
   have JE:st b=none:=by rw[←hW,aA.aJ _ _ hb4] at hb;exact hb
   have aFJ:∀(o:AO) (r:AV) (x:RO),sQ ⟨⟨.mk gk gn gs' gts,aY⟩::rest,σ,N,chs⟩ x (r.fin 0 [])→∃s3,aL (s2.aC b4 o) s3∧∃b l s0,s3=a9 s0 b l∧(l≠[]→s0 b=none)∧(∀e∈l,e.bR=false)∧gW l∧s0=st∧sQ ⟨⟨.mk gk gn gs' gts,aY⟩::rest,σ,N,chs⟩ x (r.fin b l):=fun o r x hr=>
    ⟨st,(hDs.trans hst).aC h4,0,[],st,rfl,by simp,by simp,⟨0,by simp⟩,rfl,hr⟩
   simp only[aB,seval]
   refine aQ (fun h=>?_) (fun h=>?_)
   · have hc0:c=0:=by simpa using h
     subst hc0
     rw[aN rfl] at hR
     subst hR
     simp only[aG,aX,OR,aB,seval,mE]
     have nA:cJ N σ'≠[]:=by intro e;have:=sY N σ';rw[e] at this;simp at this;omega
     refine⟨st.aC b (.cells ((cJ N σ').flatMap AV.cells)),fun q=>?_,b,cJ N σ',st,by rw[l5 nA],fun _=>JE,ER _ _,⟨4,BD _ _⟩,rfl,?_⟩
     · by_cases q4:q=b4
       · subst q4;rw[aA.aH,aA.aJ _ _ (dM hb4),h4];simp
       rw[aA.aJ _ _ q4]
       by_cases qb:q=b
       · subst qb;rw[aA.aH,show s2 q=_ from hA];simp
       rw[aA.aJ _ _ qb]
       exact(hDs.trans hst) q
     · simp only[hY,gB,fW,kC,bL,bE,IR h0]
       rfl
   have hc0:c≠0:=by simpa using h
   rw[aK hc0] at hR
   simp only[aB,seval]
   refine aQ (fun h=>?_) (fun h=>?_)
   · have hc1:c=1:=by simpa using h
     subst hc1
     rw[aN rfl] at hR
     subst hR
     simp only[aG,aX,OR,aB,seval,mE]
     exact aFJ _ _ _ (by simp only[sQ,nH,bL,zJ];simp only[hY,gB,fW,kC,bL,bE])
   have hc1:c≠1:=by simpa using h
   rw[aK hc1] at hR
   subst hR
   have fX:0≤uY c:=by unfold uY;split;omega;split;omega;split;omega;omega
   simp only[aB,seval]
   refine wP [(1,1),(0,2),(2,2),(3,0),(4,1)] [1,0,2,4] mixed ?_
   simp only[aX,aB,seval,mE]
   refine gG (aRB c _) ?_
   simp only[aG,aX,OR,aB,seval,mE]
   exact aFJ _ _ _ ⟨fX,_,_,_,by simp only[hY,gB,fW,kC,bL,bE];rfl⟩
 rw[aK (by rw[h];simp)] at hR
 simp only[aX,aB,seval,mE]
 refine(aGF _).to ?_
 have hcx:wB p ⟨.mk 3 yn ys yts,rest,qR p (.mk 3 yn ys yts),σ,N⟩:=⟨hg,ho,hd,hyo,B5,fun i hi=>by
  unfold qR at hi
  exact xU.1 (List.mem_filter.1 hi).1,by simp only;simp only[aX] at hgl;omega,by
  have:=N2 p (.mk 3 yn ys yts) p.length
  rw[←N1] at this
  simp only;omega⟩
 have B7:=fun st=>htr (⟨.mk gk gn gs' gts,aY⟩::rest) (cJ N σ) chs _ hcx h0 (by simp only;omega) (by omega) st
 rw[bL,zJ,PR] at B7
 simp only at B7
 generalize qR p (.mk 3 yn ys yts)=left at *
 simp only[aE,aB,seval,mE]
 refine aQ (fun h=>?_) (fun h=>?_)
 · have h':left= []:=by
    have:(left.length:Int)=0:=by simpa using h
    exact oQ (by omega)
   rw[aN h'] at hR
   subst hR
   simp only[aG,aX,aB,seval,mE]
   exact E4 _ _ _ ⟨by decide,_,_,_,by simp only[hY,gB,fW,kC,bL,bE];rfl⟩
 have h':left≠[]:=by
  rintro rfl
  simp at h
 rw[aK h'] at hR
 generalize kF p chs (.mk 3 yn ys yts) rest σ N left=x at *
 simp only[aX,aB,seval,mE]
 cases x with
 | none=>
  simp only at hR B7
  subst hR
  refine(B7 _).mono ?_
  rintro _ _ ⟨rfl,rfl⟩
  simp only[aG,aX,aB,↓aU,seval,mE]
  exact E4 _ _ _ (by simp only[sQ,nH,bL,zJ];simp only[hY,gB,fW,kC,bL,bE])
 | some s=>
  simp only[nH] at hR B7
  subst hR
  refine(B7 _).mono ?_
  rintro _ _ ⟨rfl,rfl⟩
  simp only[aG,aX,aB,↓aU,seval,mE]
  exact E4 _ _ _ (by simp only[hY,gB,fW,kC,bL,bE];rfl)
theorem a06{N:Int}{t:Tm}(h:dD N t):fS 0 t=t:=by
 have h1:fS 0 t=t.aV vr:=by
  unfold fS iQ
  congr 1
  funext v
  congr 1
  simp
 rw[h1,aY6 t h.2.1]
theorem ST(N:Nat):cJ N Sub.none=List.replicate N zt:=by
 apply G9
 intro i
 by_cases h:i<N
 · rw[yC N _ h,List.getElem?_replicate,aN h];try rfl
 · rw[uD (by rw[sY];omega),uD (by simp;omega)]
abbrev QG:=zi aS (zi cB (zi GR GS))
theorem aRH(q:List Tm)(hq:∀t∈q,bY 26 t)(h6:q.length≤6)(st:aA):aD prog 140 [.slice (q.map Tm.av)] st (fun r st'=>r=nH (pU q)∧st'=st):=by
 have hgo:∀st,aD prog 189 [.slice (q.map Tm.av),.int .i64 0,.int .i64 0,.fslice []] st (fun r st'=>r=.slice ((pU q).goals.map d5)∧st'=st):=fun st=>
  aD.oG ((T9 q 0 0 [] hq h6 (by omega) (by simp) st).mono fun _ _ h=>⟨by
   rw[h.1]
   unfold pU
   rw[jO]
   congr 2
   exact AG fun t ht=>by rw[a06 (hq t ht).1],h.2⟩)
 refine aD.jT (aD.fin (aD.o9 ?_))
 refine wF [1000000,3] 1 func140 ntmps140 rfl rfl ?_
 intro _
 simp only[aB,seval,QG]
 intro b2 h2
 simp only[uM,aG,yJ,↓IL,↓Int.cast_ofNat_Int,List.contains,List.elem,xR,oO,p7,↓reduceIte,reduceCtorEq,Nat.reduceEqDiff,Nat.reduceAdd,Nat.reduceLT,Nat.reduceBEq,QG]
 refine⟨by omega,by omega,by omega,fun bb hbb=>?_⟩
 rw[show Int.toNat 26=26 from rfl,O0 _ (by simp)]
 have hb2:bb≠b2:=by rintro rfl;rw[aA.aH] at hbb;cases hbb
 have I6:(List.replicate 26 [AV.int .i64 0,.int .i64 0,.str ⟨#[]⟩,.fslice []]).flatten=(cJ 26 Sub.none).flatMap AV.cells:=by
  rw[ST];try rfl
 rw[I6]
 have h22:(st.aC b2 (AO.cells [AV.fslice [],AV.fslice [],AV.fslice []])) b2=some (AO.cells [AV.fslice [],AV.fslice [],AV.fslice []]):=aA.aH _ _ _
 have hD2:aL (st.aC b2 (AO.cells [AV.fslice [],AV.fslice [],AV.fslice []])) st:=(aL.refl _).aC h2
 intro b3 h3
 have h3b:b3≠bb:=by rintro rfl;rw[aA.aH] at h3;cases h3
 rw[aA.aJ _ _ h3b] at h3
 have h32:b3≠b2:=by rintro rfl;rw[aA.aH] at h3;cases h3
 have hs3:st b3=none:=by rw[aA.aJ _ _ h32] at h3;exact h3
 have hsb:st bb=none:=by rw[aA.aJ _ _ hb2] at hbb;exact hbb
 refine(hgo _).to ?_
 have e1:=dM h3b
 have e2:=dM h32
 have e3:=dM hb2
 simp only[aG,e2,e3,aA.aH,aB,seval,QG]
 have nA:cJ 26 Sub.none≠[]:=by rw[ST];simp
 refine⟨st.aC bb (.cells ((cJ 26 Sub.none).flatMap AV.cells)),fun q'=>?_,bb,cJ 26 Sub.none,st,by rw[l5 nA],fun _=>hsb,ER _ _,⟨4,BD _ _⟩,?_,aL.refl _⟩
 · by_cases q2:q'=b2
   · subst q2;rw[aA.aH,aA.aJ _ _ e3,h2];simp
   rw[aA.aJ _ _ q2]
   by_cases q3:q'=b3
   · subst q3;rw[aA.aH,aA.aJ _ _ h3b,hs3];simp
   simp only[aA.aJ _ _ q3]
   by_cases qb:q'=bb
   · subst qb;rw[aA.aH,aA.aH];simp
   rw[aA.aJ _ _ qb,aA.aJ _ _ qb,aA.aJ _ _ q2]
   simp
 · simp only[hY,kC,pF,bL,bE,IR (show 0<26 by omega)]
   rfl
theorem MC{S:aA}{b c:Nat}{l:List AV}{o:AO}(h:l≠[]→b≠c):(a9 S b l).aC c o=a9 (S.aC c o) b l:=by
 cases l with
 | nil=>rfl
 | cons x l=>rw[l5 (by simp),l5 (by simp),aA.sK _ _ _ (h (by simp))]
theorem sC{p:List Cl}{cnd:Tm→List Nat→List Nat}{vars:List Int}{most fuel:Nat}{s:RS}(hg:s.goals= []):iY p cnd vars most fuel s=if most=0 then([],1) else match oY s.σ vars with
 | none=>([],3)
 | some a=>match fK p s.chs.length s.chs with
  | none=>([a],0)
  | some s'=>(a::(iY p cnd vars (most - 1) fuel s').1,(iY p cnd vars (most - 1) fuel s').2):=by
 rw[iY.eq_def,hg]
 simp only
 split<;>rfl
theorem oF{p:List Cl}{cnd:Tm→List Nat→List Nat}{vars:List Int}{most fuel:Nat}{s:RS}{g:RG}{rest:List RG}(hg:s.goals=g::rest):iY p cnd vars most fuel s=if fuel=0 then([],2) else match jI p cnd s g rest with
 | .stop e=>([],e)
 | .go s'=>iY p cnd vars most (fuel - 1) s'
 | .fail=>match fK p s.chs.length s.chs with
  | none=>([],0)
  | some s'=>iY p cnd vars most (fuel - 1) s':=by
 rw[iY.eq_def,hg]
 simp only
 split<;>rfl
structure RP (p:List Cl) (vars:List Int) (most fuel:Nat) (T:List (List Tm)×Int) (s:RS) (out:List (List Tm)) (f B:Nat):Prop where
 tot:T=(out++(iY p (fun _ l=>l) vars (most - out.length) f s).1,(iY p (fun _ l=>l) vars (most - out.length) f s).2)
 len:out.length≤most
 ok:sO p B s
 bd:B+26*f≤8000
abbrev lU:=zi DL (zi aS (zi bV (zi jK (zi cB (zi DM (zi mG (zi DK (zi GR GS))))))))
theorem aRG{p:List Cl}(hp:∀c∈p,iG c∧c.2.length≤6)(hpl:p.length≤20){q:List Tm}(hq:∀t∈q,bY 26 t∧t.k=3)(h6:q.length≤6){most fuel:Nat}(hm:most≤20)(hf:fuel≤300)(st:aA) :
 aD prog 91 [.slice (p.map aF),.slice (q.map Tm.av),.int .i64 (most:Int),.int .i64 (fuel:Int)] st (fun r st'=>r=.tup [.slice ((xF p (fun _ l=>l) q most fuel).1.map fB),.int .i64 (xF p (fun _ l=>l) q most fuel).2]∧st'=st):=by
 have hnd:bH Tm.nodes q≤1099511627776:=by
  have:=JM q fun t ht=>(hq t ht).1.2
  omega
 have hva:=fun st=>M3 q st (fun t ht=>Tm.tA t (hq t ht).1.1.2.1) hnd
 have FI:=fun st=>aRH q (fun t ht=>(hq t ht).1) h6 st
 have hv:∀v∈cE q [],0≤v∧v<26:=fun v hv=>by
  rcases (DN q [] fun t ht=>(hq t ht).1.1.2.1).1 hv with h | ⟨t,ht,h⟩
  · cases h
  · exact(hq t ht).1.1.2.2 v h
 have hvl:(cE q []).length≤1000:=by
  have h1:=zX q []
  have h2:=JM q fun t ht=>(hq t ht).1.2
  simp only[a8] at h1
  omega
 have aXV:=sO.start (p:=p) hq h6
 generalize hT:xF p (fun _ l=>l) q most fuel=T
 unfold xF at hT
 generalize cE q []=vars at *
 have hI0:RP p vars most fuel T (pU q) [] fuel 26:=⟨by rw[←hT];try rfl,iI _,aXV,by omega⟩
 generalize pU q=s0 at *
 simp only[nH] at FI
 refine aD.jT (aD.fin (aD.o9 ?_))
 refine wF [1000000,12] 4 func91 ntmps91 rfl rfl ?_
 intro _
 simp only[aB,seval,lU]
 refine(hva _).to ?_
 simp only[aB,seval]
 refine(FI _).to ?_
 simp only[aG,aB,↓aU,seval,lU]
 intro b12 h12
 refine i8 (σ:=RS×List (List Tm)×Nat×Nat×Nat) [1000000,12] [0,2,11,12] (fun x=>RP p vars most fuel T x.1 x.2.1 x.2.2.1 x.2.2.2.1∧(x.2.1.map fB≠[]→(st.aC b12 (.cells [.slice (x.1.goals.map d5),.slice (cJ x.1.N x.1.σ),.slice (x.1.chs.map eQ)])) x.2.2.2.2=none))
  (fun x=>[(3,.int .i64 (x.2.2.1:Int)),(8,.fslice []),(9,.int .i64 0),(10,bK 1 x.2.2.2.2 (x.2.1.map fB))])
  (fun x=>a9 (st.aC b12 (.cells [.slice (x.1.goals.map d5),.slice (cJ x.1.N x.1.σ),.slice (x.1.chs.map eQ)])) x.2.2.2.2 (x.2.1.map fB))
  (fun x=>(most - x.2.1.length)+x.2.2.1) (by decide +kernel) ⟨(s0,[],fuel,26,0),⟨hI0,by simp⟩,aO.mk (by simp only[j8,bE,aB,seval])⟩ ?_
 rintro⟨s,out,f,B,b⟩ ⟨⟨tot,hlen,hok,hbd⟩,hb⟩
 simp only at tot hlen hok hbd hb
 simp only
 have hbc:out.map fB≠[]→b≠b12:=fun h=>by rintro rfl;have:=hb h;rw[aA.aH] at this;cases this
 have pJ:=A8 hb (aA.aH st b12 (.cells [.slice (s.goals.map d5),.slice (cJ s.N s.σ),.slice (s.chs.map eQ)]))
 have hlo:(out.map fB).length=out.length:=aE _
 have aXD:∀l:List (List Tm),∀e∈l.map fB,e.bR=false:=fun l e he=>by simp only[cM] at he;obtain⟨t,_,rfl⟩:=he;rfl
 have aGY:∀l:List (List Tm),∀e∈l.map fB,e.width=1:=fun l e he=>by simp only[cM] at he;obtain⟨t,_,rfl⟩:=he;rfl
 have fin:∀(S:aA) (b:Nat) (l:List (List Tm)) (e:Int),(l.map fB≠[]→S b=none)→aL S st→T=(l,e)→∃s2,aL (a9 S b (l.map fB)) s2∧∃b' l' s0,s2=a9 s0 b' l'∧(l'≠[]→s0 b'=none)∧(∀e∈l',e.bR=false)∧gW l'∧(AV.tup [bK 1 b (l.map fB),.int .i64 e]).fin b' l'=.tup [.slice (T.1.map fB),.int .i64 T.2]∧aL s0 st:=fun S b l e h1 h2 h3=>
  ⟨_,aL.refl _,b,l.map fB,S,rfl,h1,aXD l,⟨1,aGY l⟩,by subst h3;simp only[gB,fW,lP,bL,bE],h2⟩
 have hSD:∀o,aL (st.aC b12 o) st:=fun o=>(aL.refl _).aC h12
 generalize hX:(AO.cells [.slice (s.goals.map d5),.slice (cJ s.N s.σ),.slice (s.chs.map eQ)])=X at pJ hb
 have pJ:=pJ.trans (rX some hX.symm)
 have hun:prog.underlying 86=some (.slice 131):=by kernel_rfl
 have aGJ:=EN (w:=1) (b:=b) (l:=out.map fB) hun
 rw[hlo] at aGJ
 cases hgs:s.goals with
 | nil=>
  rw[hgs] at hX pJ
  simp only[bE] at hX pJ
  rw[sC hgs] at tot
  simp only[a8,aGJ,pJ,aB,seval,lU]
  refine aQ (fun h=>?_) (fun h=>?_)
  · have h':out.length=most:=by simp at h;omega
    rw[aN (by omega)] at tot
    simp only[l6,aB,seval]
    exact fin _ b out 1 hb (hSD _) (by rw[tot,jO])
  have h':out.length<most:=by simp at h;omega
  rw[aK (by omega)] at tot
  simp only[pJ,aB,seval,lU]
  refine(aRA (N:=s.N) hok.a.iL hok.a.ok vars (fun v h=>⟨(hv v h).1,by have:=(hv v h).2;have:=hok.l.1;omega⟩) hvl _).mono ?_
  rintro _ _ ⟨rfl,a,rfl,ha⟩
  cases wO:oY s.σ vars with
  | none=>
   rw[wO] at tot
   simp only[Option.isSome_none,fB]
   simp only[a8,aX,l6,aB,↓aU,seval,lU]
   exact fin _ b out 3 hb (hSD _) (by rw[tot,jO])
  | some x=>
   obtain rfl:=ha x wO
   rw[wO] at tot
   simp only[Option.isSome_some,fB] at tot ⊢
   simp only[a8,aX,aB,↓aU,seval,lU]
   refine eY (P:=prog) (b:=b) (l:=out.map fB) (xs:=[fB a]) IJ U5 U8 rfl rfl (gN rfl rfl) (aGY out) hb (by simp only[aX,a8,hlo];omega) (by simp only[aX,a8,hlo];omega) (fun b' hb'=>?_)
   rw[show(out.map fB)++ [fB a]=(out++ [a]).map fB by simp] at hb' ⊢
   have aFX:=(A8 hb' (aA.aH st b12 X)).trans (rX some hX.symm)
   simp only[a8,aX,aFX,aB,seval,lU]
   have I5:(f:Int)=(f:Int):=rfl
   refine(T7 hp (B:=B) (by omega) [] (cJ s.N s.σ) s.chs hok.a.chl hok.a.chs _).mono ?_
   rintro r _ ⟨rfl,hr⟩
   cases hbk:fK p s.chs.length s.chs with
   | none=>
    rw[hbk] at hr tot
    simp only at hr tot
    obtain⟨l1,l2,l3,rfl⟩:=hr
    simp only[a8,aX,l6,aB,↓aU,seval,lU]
    exact fin _ b' (out++ [a]) 0 hb' (hSD _) (by rw[tot];try rw[jO])
   | some s'=>
    rw[hbk] at hr tot
    simp only[nH] at hr tot
    subst hr
    simp only[aG,a8,aX,aFX,aB,↓aU,seval,lU]
    rw[MC (fun h=>by rintro rfl;have:=hb' h;rw[aA.aH] at this;cases this),dW]
    have hne:(out++ [a]).map fB≠[]→b'≠b12:=fun h=>by rintro rfl;have:=hb' h;rw[aA.aH] at this;cases this
    refine⟨(s',out++ [a],f,B,b'),by simp only[dO,aX,a8];omega,⟨⟨by rw[tot];try simp only[p9,fU,dL,dO,aX,a8,Nat.sub_sub];try rfl,by simp only[dO,aX,a8];omega,hok.back hp (by omega) hbk,by simp only;omega⟩,fun h=>by rw[aA.aJ _ _ (hne h)];have:=hb' h;rwa [aA.aJ _ _ (hne h)] at this⟩,aO.mk (by simp only[aB,seval])⟩
 | cons g rest=>
  rw[hgs] at hX pJ
  rw[oF hgs] at tot
  simp only[aE,aX,pJ,aB,seval,lU]
  refine aQ (fun h=>absurd h (by simp;omega)) (fun h=>?_)
  simp only[aB,seval]
  refine aQ (fun h=>?_) (fun h=>?_)
  · have h':f=0:=by simp at h;omega
    rw[aN h'] at tot
    simp only[l6,aB,seval]
    exact fin _ b out 2 hb (hSD _) (by rw[tot,jO])
  have h':f≠0:=by simp at h;omega
  rw[aK h'] at tot
  have hw:=bC (n:=(f:Int) - 1)
  simp only[hw,a8,aX,pJ,aB,seval,lU]
  have hst:=aRI hp (by omega) (B:=B) (by omega) s.goals s.σ s.N s.chs g rest hgs hok.a hok.k
  rw[hgs,bL] at hst
  refine(hst _).mono ?_
  rintro r _ ⟨rfl,hr⟩
  have hse:(⟨g::rest,s.σ,s.N,s.chs⟩:RS)=s:=by rw[←hgs]
  rw[hse] at hr
  cases fC:jI p (fun _ l=>l) s g rest with
  | go s'=>
   rw[fC] at hr tot
   simp only[sQ,nH] at hr tot
   subst hr
   simp only[a8,aX,yJ,↓IL,List.contains,List.elem,z6,↓reduceIte,Nat.reduceEqDiff,Nat.reduceAdd,Nat.reduceBEq,lU]
   refine aQ (fun h=>absurd h (by decide)) (fun h=>?_)
   simp only[aG,a8,aX,pJ,aB,seval,lU]
   rw[MC hbc,dW]
   have I5:((f - 1:Nat):Int)=(f:Int) - 1:=by omega
   refine⟨(s',out,f - 1,B+26,b),by simp only;omega,⟨⟨tot,hlen,hok.step hp (by omega) (by omega) (cnd:=fun _ l=>l) (fun _ _=>⟨fun _ h=>h,cX _⟩) hgs fC,by simp only;omega⟩,fun h=>by rw[aA.aJ _ _ (hbc h)];have:=hb h;rwa [aA.aJ _ _ (hbc h)] at this⟩,aO.mk (by simp only[I5,aB,seval])⟩
  | fail=>
   rw[fC] at hr tot
   simp only[sQ,nH] at hr tot
   subst hr
   simp only[a8,aX,yJ,↓IL,List.contains,List.elem,z6,↓reduceIte,Nat.reduceEqDiff,Nat.reduceAdd,Nat.reduceBEq,lU]
   refine aQ (fun h=>absurd h (by decide)) (fun h=>?_)
   simp only[a8,aX,pJ,aB,seval,lU]
   have I5:((f - 1:Nat):Int)=(f:Int) - 1:=by omega
   refine(T7 hp (B:=B) (by omega) (g::rest) (cJ s.N s.σ) s.chs hok.a.chl hok.a.chs _).mono ?_
   rintro r _ ⟨rfl,hr⟩
   cases hbk:fK p s.chs.length s.chs with
   | none=>
    rw[hbk] at hr tot
    simp only at hr tot
    obtain⟨l1,l2,l3,rfl⟩:=hr
    simp only[a8,aX,l6,aB,↓aU,seval,lU]
    exact fin _ b (out) 0 hb (hSD _) (by rw[tot];try rw[jO])
   | some s'=>
    rw[hbk] at hr tot
    simp only[nH] at hr tot
    subst hr
    simp only[aG,a8,aX,pJ,aB,↓aU,seval,lU]
    rw[MC (fun h=>by rintro rfl;have:=hb h;rw[aA.aH] at this;cases this),dW]
    have hne:(out).map fB≠[]→b≠b12:=fun h=>by rintro rfl;have:=hb h;rw[aA.aH] at this;cases this
    refine⟨(s',out,f - 1,B,b),by simp only[];omega,⟨⟨by rw[tot];try simp only[p9,fU,dL,dO,aX,a8,Nat.sub_sub];try rfl,by simp only[];omega,hok.back hp (by omega) hbk,by simp only;omega⟩,fun h=>by rw[aA.aJ _ _ (hne h)];have:=hb h;rwa [aA.aJ _ _ (hne h)] at this⟩,aO.mk (by simp only[I5,aB,seval])⟩
  | stop e=>
   rw[fC] at hr tot
   simp only[sQ] at hr tot
   obtain⟨he0,l1,l2,l3,rfl⟩:=hr
   simp only[a8,aX,aB,↓aU,seval,lU]
   refine aQ (fun h=>?_) (fun h=>absurd he0 (by simpa using h))
   simp only[l6,aB,seval]
   exact fin _ b out e hb (hSD _) (by rw[tot,jO])
end Go.AW
namespace Go.AW
theorem bX.O9{st:aA}{es:List AV}{q:AV}{bs:List Nat}(h:bX st (.slice es) q bs):q.cells= [q]∧q.storable=true∧q.isAgg=false∧q.width=1∧q.bR=false:=by
 simp only[bX] at h
 rcases h with ⟨_,rfl,_⟩ | ⟨_,_,_,_,rfl,_⟩<;>exact⟨rfl,rfl,rfl,rfl,rfl⟩
end Go.AW
namespace Go.AW
open Go.Proofs.Tryz
abbrev E0 (c:Cl):Prop:=c.1.small=true∧c.2.length≤1048576∧∀x∈c.2,x.small=true
abbrev P6:=zi aS (zi jK lV)
theorem aHO(l:List Cl)(st:aA)(hb:l.length≤1048576)(hc:∀x∈l,∀(st:aA),aD prog 109 [aF x] st (Made st (aF x))) :
 aD prog 69 [.slice (l.map aF)] st (Made st (.slice (l.map aF))):=by
 have hws:∀e∈l.map aF,e.width=5:=fun e he=>by simp only[cM] at he;obtain⟨t,_,rfl⟩:=he;exact gM t
 refine wF [] 1 func69 ntmps69 rfl rfl ?_
 intro _
 simp only[aE,aB,seval,P6]
 refine dX (σ:=List AV×List Nat×Nat×aA) [] [2,6,7] l (fun i p=>jN (l.map aF) st i p.1 p.2.1 p.2.2.1 p.2.2.2) (fun i p=>[(3,bK 5 p.2.2.1 p.1),(8,.int .i64 i)]) (fun _ p=>p.2.2.2) (by decide +kernel)
  ⟨([],[],0,st),jN.start,aO.mk (by simp only[j8,aB,↓aU,seval])⟩ (fun i x p hx hlt bP hdr hinv=>?_) (fun p hge hinv=>?_)
 case refine_2=>
  obtain⟨os,bs,b,s⟩:=p
  simp only[hge,aB,seval]
  exact hinv.done (aE _) hws
 obtain⟨os,bs,b,s⟩:=p
 simp only at hinv
 have hw:=bC (n:=(i:Int)+1)
 have pO:∀zs:List AV,zs.length=5→aG zs 0 (aF x).cells=(aF x).cells:=fun zs h=>J2 (H8 x) h
 simp only[bP,bS (av:=aF) m9 hx (gM x),nY,gM,H8,BM,dW,pO,aB,seval,P6]
 intro b2 hb2
 try simp only[fL (H8 x),fJ (nY x),seval]
 refine(hc x (cQ hx) _).mono ?_
 rintro r s2 ⟨bx,m1,m2,m3,m4⟩
 obtain⟨f1,f2,f3⟩:=m3.UO (gM x) (BM x)
 have hra:r.isAgg=true:=by rw[(bX.shape m3).1,nY]
 have hrj:r.bR=false:=(bX.shape m3).2.2.1
 simp only[f1,hra,hrj,aB,seval,P6]
 have hlen:os.length=i:=hinv.1
 have FG:∀e∈os,e.width=5:=fun e he=>by
  obtain⟨k,hk,rfl⟩:=LU he
  exact hinv.2.1.LE (fun q hq=>hws q (lY hq)) _ he
 have hkb:os≠[]→s2 b=some (.cells (os.flatMap AV.cells)):=fun hne=>by
  have h:=(hinv.2.2.2.2.1 hne).2.2
  have hbx:b∉bx:=fun hq=>by
   have:=m2 b hq
   have vG:b≠b2:=fun e=>by rw[e,hb2] at h;cases h
   rw[aA.aJ _ _ vG,h] at this;cases this
  have vG:b≠b2:=fun e=>by rw[e,hb2] at h;cases h
  rw[m4 b hbx,aA.aJ _ _ vG,h]
 refine MD m9 BS BU rfl rfl (gN f1 f3) FG hkb (by simp only[aX,a8,hlen];omega) (by simp only[aX,a8,hlen];omega) (fun b' s' k1 k2 k3 k4=>?_)
 have fC:=hinv.step hb2 (show(l.map aF)[i]?=some (aF x) by rw[lK,hx];try rfl) m1 m2 m3 m4 (k1 (by simp)) (k2 (by simp)) (fun q h1 h2=>k3 q (fun _=>h1) h2) k4
 simp only[hw,aB,seval]
 exact⟨(os++ [r],bs++bx,b',s'.erase b2),fC,aO.drop (hH _ _) (by simp only[aB,seval])⟩
abbrev P5:=zi cB (zi cC lV)
theorem aHN(c:Cl)(st:aA)(hsm:E0 c):aD prog 109 [aF c] st (Made st (aF c)):=by
 obtain⟨⟨k,n,s,ts⟩,bd⟩:=c
 obtain⟨h1,h2,h3⟩:=hsm
 have hg:=fun st=>JO (.mk k n s ts) st h1
 have hc:=fun st=>O5 bd st h2 fun x hx st=>JO x st (h3 x hx)
 simp only[bU] at hg
 simp only[gK]
 refine aD.O1 ?_
 refine wF [1000000] 1 func109 ntmps109 rfl rfl ?_
 intro _
 simp only[aB,seval,P5]
 intro b hb1
 refine wX [(0,1),(1,1),(3,1),(4,1),(2,0),(5,0),(6,1),(7,2)] [0,1,3,4,6] eF mixed rfl d4 ?_
 simp only[aB,seval,P5]
 refine(hg _).mono ?_
 rintro q0 s2 ⟨bs,m1,m2,m3,m4⟩
 rw[←bU] at m3
 obtain⟨q,rfl,m3'⟩:=aH3.1 m3
 have hbb:b∉bs:=fun h=>by have:=m2 b h;simp [gC] at this
 have e1:=m4 b hbb
 rw[aA.aH] at e1
 obtain⟨hqc,hqs,hqa,hqw,hqj⟩:=bX.O9 m3'
 simp only[aB,seval]
 refine⟨d4,?_⟩
 refine(hc _).mono ?_
 rintro r s3 ⟨cs,n1,n2,n3,n4⟩
 have hcb:b∉cs:=fun h=>by have:=n2 b h;rw[e1] at this;cases this
 have f1:=n4 b hcb
 rw[e1] at f1
 obtain⟨hrc,hrs,hra,hrw,hrj⟩:=bX.O9 n3
 simp only[aG,f1,hqs,hrc,hrs,hrj,aB,seval,P5]
 have wT:=(bX.fZ _ _ _ m3').2.2
 have B2:∀x∈bs,x∉cs:=fun x hx hx'=>by
  obtain⟨u,e,_⟩:=wT x hx
  have:=n2 x hx'
  rw[e] at this;cases this
 have hcs:∀x∈cs,x≠b:=fun x hx e=>hcb (e▸hx)
 have hbs:∀x∈bs,x≠b:=fun x hx e=>hbb (e▸hx)
 refine⟨d4,[b],bs++cs,xV.2 ⟨m1,n1,fun x hx y hy e=>B2 x hx (e▸hy)⟩,fun x hx=>?_,?_,?_,?_⟩
 · rcases fG.1 hx with hx | hx
   · have:=m2 x hx
     rwa [aA.aJ _ _ (hbs x hx)] at this
   · have:=n2 x hx
     rw[m4 x (fun h=>B2 x h hx),aA.aJ _ _ (hcs x hx)] at this
     exact this
 · simp [hb1,hbb,hcb]
 · rw[←gK]
   refine aZX.2 ⟨q,bs,r,cs,rfl,rfl,bX.aY _ _ _ (fun x hx=>?_) m3',bX.aY _ _ _ (fun x hx=>?_) n3⟩
   · rw[aA.aJ _ _ (hbs x hx),n4 x (B2 x hx)]
   · rw[aA.aJ _ _ (hcs x hx)]
 · intro x hx hd
   simp only[cL,c8,dP] at hd
   simp only[fG,not_or] at hx
   rw[aA.aJ _ _ hd,n4 x hx.2,m4 x hx.1,aA.aJ _ _ hd]
end Go.AW
