import Derived.Test.YtkkihpokegenbaaGreatDoorVal
import Derived.Test.YtkkihpokegenbaaGreatDoorVai
import Derived.Test.YtkkihpokegenbaaGreatDoorVaf
import Derived.Test.YtkkihpokegenbaaGreatDoorVam
import Derived.Test.YtkkihpokegenbaaGreatDoorVak
import Derived.Test.YtkkihpokegenbaaGreatDoorVaj
import Derived.Shelf.LaysM
import Derived.Shelf.Strconv.Itoa3
import Derived.Shelf.Strings.OnBuilder
import Derived.Test.YtkkihpokegenbaaGreatDoorVah
set_option linter.unusedSimpArgs false
set_option linter.unusedVariables false
set_option maxRecDepth 100000
namespace Go.AW
open Go.Proofs.Tryz
def oB(S:aA)(c b w:Nat)(hd tl:List AV)(l:List AV):aA:=a9 (S.aC c (.cells (hd++bK w b l::tl))) b l
section
variable {S:aA} {c b w:Nat} {hd tl l:List AV}
theorem FP(hb:l≠[]→(S.aC c (.cells (hd++bK w b l::tl))) b=none):oB S c b w hd tl l c=some (.cells (hd++bK w b l::tl)):=by
 unfold oB
 by_cases h:l= []
 · rw[h,rQ,aA.aH]
 · have h0:=hb h
   have hne:c≠b:=fun e=>by rw[←e,aA.aH] at h0;cases h0
   rw[sU hne,aA.aH]
theorem aHD{b':Nat}{l':List AV}(hb:l'≠[]→(S.aC c (.cells (hd++bK w b l::tl))) b'=none) :
 (a9 (S.aC c (.cells (hd++bK w b l::tl))) b' l').aC c (.cells (hd++bK w b' l'::tl))=oB S c b' w hd tl l'∧(l'≠[]→(S.aC c (.cells (hd++bK w b' l'::tl))) b'=none)∧a9 (S.aC c (.cells (hd++bK w b l::tl))) b' l' c=some (.cells (hd++bK w b l::tl)):=by
 have hne:l'≠[]→c≠b':=fun h e=>by have:=hb h;rw[←e,aA.aH] at this;cases this
 refine⟨?_,fun h=>?_,?_⟩
 · rw[qF hne,dW];try rfl
 · have:=hb h
   rw[aA.aJ _ _ (dM (hne h))] at this ⊢
   exact this
 · by_cases h:l'= []
   · rw[h,rQ,aA.aH]
   · rw[sU (hne h),aA.aH]
theorem aZA{x:Nat}(hb:l≠[]→(S.aC c (.cells (hd++bK w b l::tl))) b=none)(hx:S x≠none)(hxc:x≠c):oB S c b w hd tl l x=S x:=by
 unfold oB
 by_cases h:l= []
 · rw[h,rQ,aA.aJ _ _ hxc]
 · have h0:=hb h
   have hne:x≠b:=fun e=>by rw[←e,aA.aJ _ _ hxc] at h0;exact hx h0
   rw[sU hne,aA.aJ _ _ hxc]
theorem RQ{h:a7}{st:aA}{a a':AV}(hv:∀v,VC h st a [v]→VC h st a' [v]):∀(hd:List AV) {tl:List AV} {vs:List Value},aR h st (hd++a::tl) vs→aR h st (hd++a'::tl) vs
 | [],tl,vs,x=>by
  simp only[dL,aR] at x ⊢
  obtain⟨c,r,e,x1,x2⟩:=x
  exact⟨c,r,e,hv c x1,x2⟩
 | y::hd,tl,vs,x=>by
  simp only[fU,aR] at x ⊢
  obtain⟨c,r,e,x1,x2⟩:=x
  exact⟨c,r,e,x1,RQ hv hd x2⟩
theorem fA.a1M{φ:AF}{st:aA}{c:Nat}{hd tl:List AV}{a:AV}(hc:st c=some (.cells (hd++a::tl))):fA φ st φ (st.aC c (.cells (hd++a.soft::tl))):=fun h tmps S F=>by
 have T:bQ h st h (st.aC c (.cells (hd++a.soft::tl))):=bQ.of fun x hx=>by
  have:x≠c:=by rintro rfl;rw[hc] at hx;cases hx
  rw[aA.aJ _ _ this];exact hx
 refine⟨fun x o hx=>?_,T,fun d=>(F d).mono T⟩
 by_cases e:x=c
 · subst e
   rw[aA.aH] at hx
   cases hx
   obtain⟨hl,c0,t,e1,e2,vs,e3,e4⟩:=S x _ hc
   refine⟨hl,c0,t,e1,?_,vs,e3,aR.mono T _ _ (RQ (fun v hv=>VC.soft a [v] hv) hd e4)⟩
   simpa using e2
 · rw[aA.aJ _ _ e] at hx
   obtain⟨hl,y⟩:=S x o hx
   exact⟨hl,lA.mono T rfl y⟩
theorem N3{es:List AV}:∀ {l:List AV},(∀a∈l,a.fz b es=a)→jE b es l=l
 | [],_=>rfl
 | a::l,h=>by rw[jE,h a (by simp),N3 fun x hx=>h x (by simp [hx])]
theorem aYQ{φ:AF}(hb:l≠[]→(S.aC c (.cells (hd++bK w b l::tl))) b=none)(hj:∀e∈l,e.bR=false)(hE:gW l)
 (hh:∀a∈hd++tl,∀b es,a.fz b es=a) :
 fA φ (oB S c b w hd tl l) φ (S.aC c (.cells (hd++ .slice l::tl))):=by
 have hcc:=FP hb
 cases l with
 | nil=>
  have:=fA.a1M (φ:=φ) hcc
  unfold oB at this ⊢
  simp only[rQ,dW] at this
  exact this
 | cons y l=>
  have h0:=hb (by simp)
  have hne:b≠c:=by rintro rfl;rw[aA.aH] at h0;cases h0
  have h1:oB S c b w hd tl (y::l) b=some (.cells ((y::l).flatMap AV.cells)):=by unfold oB;simp only[a9];exact aA.aH _ _ _
  have:=fA.aWH (φ:=φ) hne h1 hj hE hcc
  have e:(oB S c b w hd tl (y::l)).erase b=S.aC c (.cells (hd++bK w b (y::l)::tl)):=by unfold oB;simp only[a9];exact aA.yI _ _ _ h0
  have f1:jE b (y::l) hd=hd:=N3 fun a ha=>hh a (by simp [ha]) _ _
  have f2:jE b (y::l) tl=tl:=N3 fun a ha=>hh a (by simp [ha]) _ _
  have f3:(bK w b (y::l)).fz b (y::l)=.slice (y::l):=by simp [bK,AV.fz]
  rw[e,dW,yO,rM,bL,←yO,←yO,f1,f2,f3] at this
  exact this
end
abbrev xH:=zi aS (zi cB (zi cC lV))
theorem BG(cl:Cl)(h1:cl.1.small=true)(h2:cl.2.length≤1048576)(h3:∀x∈cl.2,x.small=true)(st:aA):aD prog 123 [aF cl] st (fun r st'=>r=aF cl∧st'=st):=by
 obtain⟨⟨k,n,s,ks⟩,ts⟩:=cl
 have hhd:=fun st=>EV (.mk k n s ks) st h1
 simp only[bU] at hhd
 have IH:=fun(x:Tm) (hx:x∈ts) st=>EV x st (h3 x hx)
 have hlen:ts.length≤1048576:=h2
 refine aD.jT (aD.fin ?_)
 simp only[gK]
 refine wF [] 1 func123 ntmps123 rfl rfl ?_
 simp only[dS,AV.fits,dU,aE]
 intro ⟨_,_,_,_,hl,_⟩
 simp only[aB,seval,xH]
 intro b2 hb2
 refine(hhd _).to ?_
 simp only[aG,aB,seval,xH]
 intro c hc
 have hne:c≠b2:=by rintro rfl;rw[aA.aH] at hc;cases hc
 have hn2:st c=none:=by rw[aA.aJ st _ hne] at hc;exact hc
 have pL:b2≠c:=dM hne
 refine dX (σ:=Nat) [] [1,2,3] ts (fun i b=>(((ts.take i).map (fun y=>y)).map Tm.av≠[]→(aA.aC (st.aC b2 (.cells [AV.int .i64 0,AV.int .i64 0,AV.str ⟨#[]⟩,AV.fslice [],AV.fslice []])) c (.cells ([AV.int .i64 k,AV.int .i64 n,AV.str s,AV.slice (ks.map Tm.av)]++ [bK 4 b (((ts.take i).map (fun y=>y)).map Tm.av)]))) b=none)) (fun i b=>[(4,.int .i64 i)]) (fun i b=>n9 (st.aC b2 (.cells [AV.int .i64 0,AV.int .i64 0,AV.str ⟨#[]⟩,AV.fslice [],AV.fslice []])) c b [AV.int .i64 k,AV.int .i64 n,AV.str s,AV.slice (ks.map Tm.av)] (((ts.take i).map (fun y=>y)).map Tm.av)) (by decide +kernel)
  ⟨0,fun h=>absurd rfl h,aO.mk (by simp only[aB,↓aU,seval])⟩ (fun i x b hx hlt bP hdr hinv=>?_) (fun b hge hinv=>?_)
 case refine_1=>
  have hw:=bC (n:=(i:Int)+1)
  have cU:(((ts.take i).map (fun y=>y)).map Tm.av).length=i:=by simp only[aE,dK];omega
  have htk:(ts.take (i+1)).map (fun y=>y)=(ts.take i).map (fun y=>y)++ [(fun y=>y) x]:=by rw[eS,hx];simp
  have hbo:=nC hinv
  simp only[aE,bP,aB,seval,xH]
  refine wP [(0,1),(2,1),(4,1),(1,2),(3,2),(5,1),(6,2),(7,2),(8,1),(9,0),(10,1),(11,0)] [0,2,4,1,3,5,6,7,8,10] mixed ?_
  simp only[bS (av:=Tm.av) cF hx (aP x),bM,aP,hbo,sV,j7,aB,seval,xH]
  refine gG (IH x (cQ hx) _) ?_
  simp only[bM,aP,cT,j7,aB,seval,xH]
  refine eY cF kP kQ rfl rfl (gN (aP _) (cR _)) (gE _) hinv (by simp only[cU,aX,a8];omega) (by simp only[cU,aX,a8];omega) (fun b' hb'=>?_)
  rw[show(((ts.take i).map (fun y=>y)).map Tm.av)++ [((fun y=>y) x).av]=((ts.take (i+1)).map (fun y=>y)).map Tm.av by rw[htk];simp] at hb' ⊢
  obtain⟨g1,g2,g3⟩:=yX hb'
  simp only[fU,dL] at g1 g3
  simp only[g3,mU,iJ,aG,g1,hw,aG,aB,seval,xH]
  exact⟨b',g2,aO.mk (by simp only[aB,seval])⟩
 have hbo:=nC hinv
 rw[d6] at hinv hbo ⊢
 simp only[aE,hge,aB,seval,xH]
 simp only[hbo,aG,aB,seval,xH]
 have hS:(st.aC b2 (.cells [AV.int .i64 0,AV.int .i64 0,AV.str ⟨#[]⟩,AV.fslice [],AV.fslice []])) b2≠none:=by rw[aA.aH];simp
 have h1:=tN hinv hS pL
 rw[aA.aH] at h1
 simp only[h1,iJ,aB,seval]
 obtain⟨h2,h3⟩:=wV (o:=.cells [AV.int .i64 k,AV.int .i64 n,AV.str s,AV.slice (ks.map Tm.av),bK 4 b ((ts.map fun y=>y).map Tm.av)]) hinv hS pL
 refine⟨b,_,_,h2,h3,oM _,⟨4,gE _⟩,?_,?_⟩
 · simp only[hY,bL,bE,fW,rZ,kC,mV,List.map_id']
 · exact(((aL.refl _).aC hb2).aC hn2).aC hb2
structure Ss where
 p:List Cl
 q:List Tm
 quota:Int
 used:Int
 sent:Int
 fin:Int
def iZ(s:Ss):AV:=.agg [.slice (s.p.map aF),.slice (s.q.map Tm.av),.int .i64 s.quota,.int .i64 s.used,.int .i64 s.sent,.int .i64 s.fin]
abbrev aSM (c:Cl):Prop:=c.1.small=true∧c.2.length≤1048576∧∀x∈c.2,x.small=true
theorem BO(l:List Cl):∀e∈l.map aF,e.width=5:=by intro e h;simp only[cM] at h;obtain⟨t,_,rfl⟩:=h;exact gM t
theorem H9(l:List Cl):∀e∈l.map aF,e.bR=false:=by intro e h;simp only[cM] at h;obtain⟨t,_,rfl⟩:=h;exact BL t
abbrev sE:=zi aS (zi jK (zi cB (zi oK (zi cC lV))))
theorem MT(s:Ss)(hp:s.p.length≤1048576)(hps:∀c∈s.p,aSM c)(hq:s.q.length≤1048576)(hqs:∀t∈s.q,t.small=true)(st:aA):aD prog 122 [iZ s] st (fun r st'=>r=iZ s∧st'=st):=by
 obtain⟨ps,qs,i0,i1,i2,i3⟩:=s
 simp only at hp hps hq hqs
 refine aD.jT (aD.fin ?_)
 simp only[iZ]
 refine wF [1000000,3] 1 func122 ntmps122 rfl rfl ?_
 intro _
 simp only[aG,aB,↓aU,seval,sE]
 intro b2 hb2 c hc
 have hne:c≠b2:=by rintro rfl;rw[aA.aH] at hc;cases hc
 have hn2:st c=none:=by rw[aA.aJ st _ hne] at hc;exact hc
 have pL:b2≠c:=dM hne
 refine dX (σ:=Nat) [1000000,3] [1,2,3] ps
  (fun i b=>((ps.take i).map aF≠[]→((st.aC b2 (.cells [.fslice [],.fslice [],.int .i64 0,.int .i64 0,.int .i64 0,.int .i64 0])).aC c (.cells ([]++bK 5 b ((ps.take i).map aF):: [.fslice [],.int .i64 i0,.int .i64 i1,.int .i64 i2,.int .i64 i3]))) b=none))
  (fun i _=>[(4,.int .i64 i)]) (fun i b=>oB (st.aC b2 (.cells [.fslice [],.fslice [],.int .i64 0,.int .i64 0,.int .i64 0,.int .i64 0])) c b 5 [] [.fslice [],.int .i64 i0,.int .i64 i1,.int .i64 i2,.int .i64 i3] ((ps.take i).map aF)) (by decide +kernel)
  ⟨0,fun h=>absurd rfl h,aO.mk (by simp only[aB,↓aU,seval])⟩ (fun i x b hx hlt bP hdr hinv=>?_) (fun b hge hinv=>?_)
 · have hw:=bC (n:=(i:Int)+1)
   have cU:((ps.take i).map aF).length=i:=by simp only[aE,dK];omega
   have htk:(ps.take (i+1)).map aF=(ps.take i).map aF++ [aF x]:=by rw[eS,hx];simp
   have hbo:=FP hinv
   simp only[dL] at hbo
   have fQ:=cQ hx
   obtain⟨s1,s2,s3⟩:=hps x fQ
   have hat:=bS (av:=aF) m9 hx (gM x)
   simp only[bP,aE,aB,seval,sE]
   refine wP [(0,1),(2,1),(4,1),(1,2),(3,2),(5,1),(6,2),(7,2),(8,1),(9,0),(10,1),(11,0)] [0,2,4,1,3,5,6,7,8,10] mixed ?_
   simp only[hat,nY,gM,hbo,sV,aB,seval,sE]
   refine gG (BG x s1 s2 s3 _) ?_
   simp only[nY,gM,BL,aB,seval,sE]
   refine eY m9 BS BU rfl rfl (gN (gM _) (BM _)) (BO _) hinv (by simp only[cU,aX,a8];omega) (by simp only[cU,aX,a8];omega) (fun b' hb'=>?_)
   rw[←htk] at hb' ⊢
   obtain⟨g1,g2,g3⟩:=aHD hb'
   simp only[dL] at g1 g3
   simp only[g3,mU,iJ,g1,hw,aG,aB,seval,sE]
   exact⟨b',g2,aO.mk (by simp only[aB,seval])⟩
 · rw[d6] at hinv ⊢
   have hbo:=FP hinv
   simp only[dL] at hbo
   simp only[hge,aE,aB,seval,sE]
   refine dX (σ:=Nat) [1000000,3] [1,2,3] qs
    (fun i b=>((qs.take i).map Tm.av≠[]→((st.aC b2 (.cells [.fslice [],.fslice [],.int .i64 0,.int .i64 0,.int .i64 0,.int .i64 0])).aC c (.cells ([.slice (ps.map aF)]++bK 4 b ((qs.take i).map Tm.av):: [.int .i64 i0,.int .i64 i1,.int .i64 i2,.int .i64 i3]))) b=none))
    (fun i _=>[(5,.int .i64 i)]) (fun i b=>oB (st.aC b2 (.cells [.fslice [],.fslice [],.int .i64 0,.int .i64 0,.int .i64 0,.int .i64 0])) c b 4 [.slice (ps.map aF)] [.int .i64 i0,.int .i64 i1,.int .i64 i2,.int .i64 i3] ((qs.take i).map Tm.av)) (by decide +kernel)
    ⟨0,fun h=>absurd rfl h,?_⟩ (fun i x b hx hlt bP hdr hinv=>?_) (fun b hge hinv=>?_)
   · exact(aYQ hinv (H9 _) ⟨5,BO _⟩ (by intro a ha;simp only[dL,cL,c8,dP] at ha;rcases ha with rfl | rfl | rfl | rfl | rfl<;>intro _ _<;>rfl)).trans (fA.jD (by simp only[aB,↓aU,seval]))
   · have hw:=bC (n:=(i:Int)+1)
     have cU:((qs.take i).map Tm.av).length=i:=by simp only[aE,dK];omega
     have htk:(qs.take (i+1)).map Tm.av=(qs.take i).map Tm.av++ [x.av]:=by rw[eS,hx];simp
     have hbo:=FP hinv
     simp only[fU,dL] at hbo
     have hat:=bS (av:=Tm.av) cF hx (aP x)
     simp only[bP,aE,aB,seval,sE]
     refine wP [(0,1),(2,1),(4,1),(1,2),(3,2),(5,1),(6,2),(7,2),(8,1),(9,0),(10,1),(11,0)] [0,2,4,1,3,5,6,7,8,10] mixed ?_
     simp only[hat,bM,aP,hbo,sV,aB,seval,sE]
     refine gG (EV x _ (hqs x (cQ hx))) ?_
     simp only[bM,aP,cT,aB,seval,sE]
     refine eY cF kP kQ rfl rfl (gN (aP _) (cR _)) (gE _) hinv (by simp only[cU,aX,a8];omega) (by simp only[cU,aX,a8];omega) (fun b' hb'=>?_)
     rw[←htk] at hb' ⊢
     obtain⟨g1,g2,g3⟩:=aHD hb'
     simp only[fU,dL] at g1 g3
     simp only[g3,mU,iJ,g1,hw,aG,aB,seval,sE]
     exact⟨b',g2,aO.mk (by simp only[aB,seval])⟩
   · rw[d6] at hinv ⊢
     have hbo:=FP hinv
     simp only[fU,dL] at hbo
     have h2o:=aZA (x:=b2) hinv (by rw[aA.aH];simp) pL
     rw[aA.aH] at h2o
     simp only[hge,aE,hbo,h2o,iJ,aG,aB,seval,sE]
     have aF5:qs.map Tm.av≠[]→b2≠b:=fun h e=>by
      have:=hinv h
      rw[←e,aA.aJ _ _ pL,aA.aH] at this
      cases this
     refine⟨b,qs.map Tm.av,_,by unfold oB;rw[qF aF5],fun h=>by rw[aA.aJ _ _ (dM (aF5 h))];exact hinv h,oM _,⟨4,gE _⟩,by simp only[hY,bL,bE,fW,kC,mV],?_⟩
     exact(((aL.refl _).aC hb2).aC hn2).aC hb2
def opens(p:List Cl)(q:List Tm)(k:Int):Bool:=fD p&&eP q&&(decide (0≤k)&&decide (k≤300))
def mA(p:List Cl)(q:List Tm)(k:Int):Ss:=if opens p q k=true then⟨p,q,k,0,0,-1⟩ else⟨[],[],0,0,0,0⟩
theorem CR{p:List Cl}(h:fD p=true):p.length≤20∧∀c∈p,E0 c:=by
 simp only[fD,bD,bA,c6] at h
 refine⟨h.1,fun c hc=>?_⟩
 have:=h.2 c hc
 simp only[jS,bD,bA,c6] at this
 refine⟨Tm.Q9 this.1.1,by omega,fun x hx=>?_⟩
 have hg:=this.2.2 x hx
 cases x
 simp only[Tm.goal,bD] at hg
 exact Tm.Q9 hg.1
theorem JX{q:List Tm}(h:eP q=true):q.length≤6∧∀t∈q,t.small=true:=by
 simp only[eP,bD,bA,c6] at h
 refine⟨h.1,fun x hx=>?_⟩
 have hg:=h.2 x hx
 cases x
 simp only[Tm.goal,bD] at hg
 exact Tm.Q9 hg.1
abbrev zQ:=zi aS (zi bV (zi jK (zi cB oK)))
theorem aRY(p:List Cl)(q:List Tm)(k:Int)(st:aA):aD prog 95 [.slice (p.map aF),.slice (q.map Tm.av),.int .i64 k] st (fun r st'=>r=.tup [iZ (mA p q k),.bool (opens p q k)]∧st'=st):=by
 refine aD.done ?_
 refine wF [1000000] 3 func95 ntmps95 rfl rfl ?_
 intro _
 simp only[aB,seval,zQ]
 intro b hb
 have qU:opens p q k=false→∀o,(AV.tup [.agg [.fslice [],.fslice [],.int .i64 0,.int .i64 0,.int .i64 0,.int .i64 0],.bool false]).soft=.tup [iZ (mA p q k),.bool (opens p q k)]∧aL (st.aC b o) st:=fun h o=>by
  refine⟨?_,(aL.refl _).aC hb⟩
  unfold mA
  rw[h]
  simp only[iZ,jV,kG,jW,sD,nI,bL,bE,iF,dA]
 refine(H5 p _).to ?_
 simp only[aB,seval]
 refine cK (fun h=>?_) (fun h=>?_)
 case refine_2=>
  simp only[h,aG,aB,seval,zQ]
  exact qU (by simp at h;simp [opens,h]) _
 simp only[rJ] at h
 simp only[h,aB,seval]
 refine(EX q _).to ?_
 simp only[aB,seval]
 refine cK (fun h2=>?_) (fun h2=>?_)
 case refine_2=>
  simp only[h2,aG,aB,seval,zQ]
  exact qU (by simp at h2;simp [opens,h2]) _
 have hq:eP q=true:=by simpa using h2
 simp only[h2,aB,seval]
 refine cK (fun h3=>?_) (fun h3=>?_)
 case refine_2=>
  simp only[h3,aG,aB,seval,zQ]
  exact qU (by simp at h3;simp only[opens,h,hq,cZ];rw[show decide (0≤k)=false from eM (by omega)];try rfl) _
 simp only[h3,aB,seval]
 refine aQ (fun h4=>?_) (fun h4=>?_)
 · simp only[aG,aB,seval,zQ]
   exact qU (by simp at h4;simp only[opens,h,hq,cZ];rw[show decide (k≤300)=false from eM (by omega)];simp) _
 simp only[aB,seval,zQ]
 have hok:opens p q k=true:=by
  have h3':0≤k:=by simp at h3;omega
  have h4':k≤300:=by simp at h4;omega
  simp [opens,h,hq,h3',h4']
 have hss:mA p q k=⟨p,q,k,0,0,-1⟩:=by unfold mA;rw[aN hok]
 obtain⟨p1,p2⟩:=CR h
 obtain⟨q1,q2⟩:=JX hq
 have hc:=fun st=>MT ⟨p,q,k,0,0,-1⟩ (by simp only;omega) p2 (by simp only;omega) q2 st
 simp only[iZ] at hc
 refine(hc _).to ?_
 simp only[aG,aB,seval,zQ]
 rw[hss,hok]
 exact⟨by simp only[iZ,jV,kG,jW,sD,pV,bL,bE],(aL.refl _).aC hb⟩
def oH(p:List Cl)(q:List Tm)(most fuel:Int):Bool:=fD p&&(eP q&&(decide (0≤most)&&(decide (most≤20)&&(decide (0≤fuel)&&decide (fuel≤300)))))
noncomputable def lS(p:List Cl)(cnd:Tm→List Nat→List Nat)(q:List Tm)(most fuel:Int):List (List Tm)×Int:=if oH p q most fuel=true then xF p cnd q most.toNat fuel.toNat else([],9)
theorem a0A{p:List Cl}(h:fD p=true):p.length≤20∧∀c∈p,iG c∧c.2.length≤6:=by
 simp only[fD,bD,bA,c6] at h
 refine⟨h.1,fun c hc=>⟨aSK (h.2 c hc),?_⟩⟩
 have:=h.2 c hc
 simp only[jS,bD,bA,c6] at this
 exact this.2.1
theorem JW{q:List Tm}(h:eP q=true):q.length≤6∧∀t∈q,bY 26 t∧t.k=3:=by
 simp only[eP,bD,bA,c6] at h
 refine⟨h.1,fun t ht=>?_⟩
 have hg:=h.2 t ht
 have hk:t.valid=true∧t.k=3:=by
  obtain⟨k,n,s,ts⟩:=t
  simp only[Tm.goal,bD] at hg
  refine⟨hg.1,?_⟩
  have:=hg.2
  simp only[wN,pT,kZ,bD,bA] at this
  simp only[Tm.k]
  rcases this with (h | h) | h<;>first | exact h.1 | exact h.1.1 | exact h.1.1.1
 exact⟨⟨Tm.G0 hk.1,Tm.rH hk.1⟩,hk.2⟩
end Go.AW
namespace Go.AW
theorem a0H(p:List Cl)(cnd:Tm→List Nat→List Nat)(vars:List Int)(k:Nat):∀(n most f:Nat) (s:RS),most+f≤n →
 ((iY p cnd vars most f s).2≠2→iY p cnd vars most (f+k) s=iY p cnd vars most f s)∧(iY p cnd vars most f s).1 <+: (iY p cnd vars most (f+k) s).1:=by
 intro n
 induction n with
 | zero=>
  intro most f s hn
  obtain rfl:most=0:=by omega
  obtain rfl:f=0:=by omega
  cases hg:s.goals with
  | nil=>rw[sC hg,sC hg];simp
  | cons g rest=>rw[oF (fuel:=0) hg];simp
 | succ n ih=>
  intro most f s hn
  cases hg:s.goals with
  | nil=>
   rw[sC hg,sC hg]
   by_cases hm:most=0
   · rw[aN hm,aN hm];simp
   rw[aK hm,aK hm]
   cases ha:oY s.σ vars with
   | none=>simp
   | some a=>
    simp only
    cases hb:fK p s.chs.length s.chs with
    | none=>simp
    | some s'=>
     obtain⟨h1,h2⟩:=ih (most - 1) f s' (by omega)
     simp only
     refine⟨fun h=>by rw[h1 h],?_⟩
     rw[List.cons_prefix_cons]
     exact⟨rfl,h2⟩
  | cons g rest=>
   by_cases hf:f=0
   · subst hf
     rw[oF (fuel:=0) hg];simp
   rw[oF hg,oF hg,aK hf,aK (by omega)]
   cases hst:jI p cnd s g rest with
   | stop e=>simp
   | go s'=>
    have:=ih most (f - 1) s' (by omega)
    rw[show f - 1+k=f+k - 1 by omega] at this
    exact this
   | fail=>
    simp only
    cases hb:fK p s.chs.length s.chs with
    | none=>simp
    | some s'=>
     have:=ih most (f - 1) s' (by omega)
     rw[show f - 1+k=f+k - 1 by omega] at this
     exact this
theorem PW{p:List Cl}{cnd:Tm→List Nat→List Nat}{q:List Tm}{most fuel:Int}(h:oH p q most fuel=true):lS p cnd q most fuel=xF p cnd q most.toNat fuel.toNat:=by
 unfold lS
 rw[aN h]
theorem J3{p:List Cl}{q:List Tm}{most fuel:Int}:oH p q most fuel=true↔(fD p=true∧eP q=true∧0≤most∧most≤20∧0≤fuel∧fuel≤300):=by
 simp only[oH,bD,bA]
theorem a0J{p:List Cl}{cnd:Tm→List Nat→List Nat}{s:RS}{g:RG}{rest:List RG}{e:Int}(h:jI p cnd s g rest=.stop e):e≠9:=by
 unfold jI at h
 intro he
 subst he
 repeat' split at h
 all_goals first | (cases h;done) | (injection h with h;unfold uY at h;repeat' split at h;all_goals omega) | (injection h with h;omega)
theorem a0E(p:List Cl)(cnd:Tm→List Nat→List Nat)(vars:List Int):∀(n most f:Nat) (s:RS),most+f≤n→(iY p cnd vars most f s).2≠9∧(iY p cnd vars most f s).1.length≤most:=by
 intro n
 induction n with
 | zero=>
  intro most f s hn
  obtain rfl:most=0:=by omega
  obtain rfl:f=0:=by omega
  cases hg:s.goals with
  | nil=>rw[sC hg];simp
  | cons g rest=>rw[oF (fuel:=0) hg];simp
 | succ n ih=>
  intro most f s hn
  cases hg:s.goals with
  | nil=>
   rw[sC hg]
   by_cases hm:most=0
   · rw[aN hm];simp
   rw[aK hm]
   cases ha:oY s.σ vars with
   | none=>simp
   | some a=>
    simp only
    cases hb:fK p s.chs.length s.chs with
    | none=>simp;omega
    | some s'=>
     obtain⟨h1,h2⟩:=ih (most - 1) f s' (by omega)
     simp only[aX]
     exact⟨h1,by omega⟩
  | cons g rest=>
   by_cases hf:f=0
   · subst hf
     rw[oF (fuel:=0) hg];simp
   rw[oF hg,aK hf]
   cases hst:jI p cnd s g rest with
   | stop e=>exact⟨a0J hst,iI _⟩
   | go s'=>exact ih most (f - 1) s' (by omega)
   | fail=>
    simp only
    cases hb:fK p s.chs.length s.chs with
    | none=>simp
    | some s'=>exact ih most (f - 1) s' (by omega)
theorem a1S{p:List Cl}{cnd:Tm→List Nat→List Nat}{q:List Tm}{most fuel:Int}(h:oH p q most fuel=true):((lS p cnd q most fuel).1.length:Int)≤most:=by
 rw[PW h]
 have h1:=(a0E p cnd (cE q []) _ most.toNat fuel.toNat (pU q) (cX _)).2
 have h2:=(J3.1 h).2.2.1
 unfold xF
 omega
theorem aWJ{p:List Cl}{cnd:Tm→List Nat→List Nat}{q:List Tm}{most fuel yN:Int}(h:oH p q most fuel=true)(hf:fuel≤yN)(hf':yN≤300) :
 ((lS p cnd q most fuel).2≠2→lS p cnd q most yN=lS p cnd q most fuel)∧(lS p cnd q most fuel).1 <+: (lS p cnd q most yN).1:=by
 obtain⟨h1,h2,h3,h4,h5,h6⟩:=J3.1 h
 have h':oH p q most yN=true:=J3.2 ⟨h1,h2,h3,h4,by omega,by omega⟩
 rw[PW h,PW h']
 obtain⟨k,hk⟩:∃k:Nat,yN.toNat=fuel.toNat+k:=⟨yN.toNat - fuel.toNat,by omega⟩
 rw[hk]
 exact a0H p cnd (cE q []) k _ most.toNat fuel.toNat (pU q) (cX _)
theorem a0C{q:List Tm}(hq:∀t∈q,bY 26 t∧t.k=3):(∀v∈cE q [],0≤v∧v<26)∧(cE q []).length≤26:=by
 have hv:∀v∈cE q [],0≤v∧v<26:=fun v hv=>by
  rcases (DN q [] fun t ht=>(hq t ht).1.1.2.1).1 hv with h | ⟨t,ht,h⟩
  · cases h
  · exact(hq t ht).1.1.2.2 v h
 refine⟨hv,?_⟩
 have hnd:=K7 q [] (fun t ht=>Tm.tA t (hq t ht).1.1.2.1) nR
 exact aHI (N:=26) hnd fun n hn=>hv n hn
def pr(x y:Tm):Tm:=.mk 3 0 ⟨#[46]⟩ [x,y]
section
variable (p:List Cl)
variable {p}
end
end Go.AW

namespace Go.AW
open Go.Proofs.Tryz
open Go.Shelf
set_option linter.unusedSimpArgs false
set_option linter.unusedVariables false
set_option maxRecDepth 100000
end Go.AW

namespace Go.AW
open Go.Proofs.Tryz

def uI(T:Tm→ByteArray)(t:Tm):Prop:=(∀st:aA,aD prog 263 [t.av] st (fun r st'=>r=.str (T t)∧st'=st))∧(T t).size≤32*t.nodes∧1≤(T t).size∧t.nodes≤1000
abbrev QM:=zi aS (zi cH (zi cB cC))
theorem MZ{T:Tm→ByteArray}(l:List Tm)(hT:∀t∈l,uI T t)(hn:bH Tm.nodes l≤10000)(hl:l.length≤10000)(st:aA):aD prog 231 [.slice (l.map Tm.av)] st (fun r st'=>r=.str (kA T l)∧st'=st):=by
 refine wF [1000000] 1 func231 ntmps231 rfl rfl ?_
 intro _
 simp only[aB,seval]
 refine dX (σ:=Unit) [1000000] [0,2] l (fun i _=>True) (fun i _=>[(3,.str (kA T (l.take i))),(4,.int .i64 i)]) (fun _ _=>st) (by decide +kernel) ⟨(),trivial,aO.mk (by simp only[mK,aB,↓aU,seval]<;>rfl)⟩ (fun i x _ hx hlt bP hdr hinv=>?_) (fun _ hge hinv=>?_)
 case refine_2=>
  rw[d6]
  simp only[hge,aE,aB,seval,QM]
 have hxm:=cQ hx
 obtain⟨c1,c2,c3,c4⟩:=hT x hxm
 have hw:=bC (n:=(i:Int)+1)
 have hat:=bS (av:=Tm.av) cF hx (aP x)
 have fC:=aNE (T:=T) hx
 have hsz:=EQ (T:=T) (l:=l.take i) fun y hy=>(hT y (lY hy)).2.1
 have hsl:bH Tm.nodes (l.take i)≤bH Tm.nodes l:=aJC l i
 have hln:(l.take i).length≤10000:=by rw[dK];omega
 have hm:maxLen=9223372036854775807:=by rfl
 have hs1:(kA T (l.take i)).size+(⟨#[44]⟩:ByteArray).size≤maxLen:=by show _+1≤_;omega
 have hs2:(kA T (l.take i)++(⟨#[44]⟩:ByteArray)).size+(T x).size≤maxLen:=by rw[cG];show _+1+_≤_;omega
 have hs3:(kA T (l.take i)).size+(T x).size≤maxLen:=by omega
 by_cases h0:0<i
 · rw[aN h0] at fC
   have h0':((0:Int)<(i:Int))=True:=bT (by omega)
   simp only[aE,hat,bM,aP,bP,h0',hs1,↓reduceIte,aZ,aB,seval,QM]
   refine(c1 _).to ?_
   simp only[hs2,↓reduceIte,aB,seval]
   exact⟨(),aO.mk (by simp only[hw,fC,↓reduceIte,aB,seval])⟩
 · rw[aK h0] at fC
   have h0':((0:Int)<(i:Int))=False:=bG (by omega)
   simp only[aE,hat,bM,aP,bP,h0',↓reduceIte,aZ,bB,aB,seval,QM]
   refine(c1 _).to ?_
   simp only[hs3,↓reduceIte,aB,seval]
   exact⟨(),aO.mk (by simp only[hw,fC,↓reduceIte,aB,seval])⟩
abbrev GO:=zi aS (zi cH cC)
theorem TT{T:Tm→ByteArray}(t:Tm)(hT:uI T t)(lv:Nat)(hlv:lv≤10)(st:aA):aD prog 361 [t.av,.int .i64 (lv:Int)] st (fun r st'=>r=.str (qK T t lv)∧st'=st):=by
 obtain⟨c1,c2,c3,c4⟩:=hT
 have hm:maxLen=9223372036854775807:=by rfl
 have hs1:(⟨#[40]⟩:ByteArray).size+(T t).size≤maxLen:=by show 1+_≤_;omega
 have hs2:((⟨#[40]⟩:ByteArray)++T t).size+(⟨#[41]⟩:ByteArray).size≤maxLen:=by rw[cG];show 1+_+1≤_;omega
 have hi:=TU t
 obtain⟨k,n,s,ts⟩:=t
 rw[show qK T (.mk k n s ts) lv=if(tK (.mk k n s ts)&&decide (lv<cV s))=true then(⟨#[40]⟩++T (.mk k n s ts))++⟨#[41]⟩ else T (.mk k n s ts) from rfl]
 generalize hTT:T (.mk k n s ts)=u at *
 simp only[bU] at hi c1 ⊢
 refine wF [1000000] 2 func361 ntmps361 rfl rfl ?_
 intro _
 simp only[aB,seval,GO]
 refine(hi _).to ?_
 cases hk:tK (.mk k n s ts) with
 | false=>
  rw[eJ,aK (by decide)]
  simp only[aB,seval,GO]
  refine(c1 _).to ?_
  simp only[aB,seval]
 | true=>
  rw[cZ]
  simp only[aB,seval,GO]
  refine(uU s _).to ?_
  by_cases h:lv<cV s
  · rw[d9 h,aN rfl]
    have h':((lv:Int)<(cV s:Int))=True:=bT (by omega)
    simp only[h',↓reduceIte,aZ,aB,seval,GO]
    refine(c1 _).to ?_
    simp only[hs1,hs2,↓reduceIte,aB,seval]
  · rw[eM h,aK (by decide)]
    have h':((lv:Int)<(cV s:Int))=False:=bG (by omega)
    simp only[h',↓reduceIte,bB,aB,seval,GO]
    refine(c1 _).to ?_
    simp only[↓reduceIte,aB,seval]
abbrev QN:=zi aS (zi cH cC)
theorem aQS{T:Tm→ByteArray}(t:Tm)(hT:uI T t)(lv:Nat)(hlv:lv≤10)(st:aA):aD prog 314 [t.av,.int .i64 (lv:Int)] st (fun r st'=>r=.str (wW T t lv)∧st'=st):=by
 have hb:=TT t hT lv hlv
 obtain⟨c1,c2,c3,c4⟩:=hT
 have hm:maxLen=9223372036854775807:=by rfl
 have hs1:(⟨#[40]⟩:ByteArray).size+(T t).size≤maxLen:=by show 1+_≤_;omega
 have hs2:((⟨#[40]⟩:ByteArray)++T t).size+(⟨#[41]⟩:ByteArray).size≤maxLen:=by rw[cG];show 1+_+1≤_;omega
 have hi:=TV t
 unfold wW
 refine wF [1000000] 2 func314 ntmps314 rfl rfl ?_
 intro _
 simp only[bM,aP,cT,↓reduceIte,aB,seval,QN]
 refine(hi _).to ?_
 cases hk:CX t with
 | false=>
  rw[aK (by decide)]
  simp only[bM,aP,↓reduceIte,aB,seval,QN]
  refine(hb _).to ?_
  simp only[↓reduceIte,aB,seval]
 | true=>
  rw[aN rfl]
  simp only[bM,aP,↓reduceIte,aB,seval,QN]
  refine(c1 _).to ?_
  simp only[↓reduceIte,hs1,hs2,aB,seval]
abbrev aKC:=zi aS (zi bV (zi cH cC))
theorem aQY{T:Tm→ByteArray}(t:Tm)(hT:uI T t)(lv:Nat)(hlv:lv≤10)(st:aA):aD prog 316 [t.av,.int .i64 (lv:Int)] st (fun r st'=>r=.str (xB T t lv)∧st'=st):=by
 have hb:=TT t hT lv hlv
 have hbs:=MN (T:=T) (t:=t) lv
 obtain⟨c1,c2,c3,c4⟩:=hT
 have hm:maxLen=9223372036854775807:=by rfl
 unfold xB
 generalize qK T t lv=u at *
 have hs1:(⟨#[40]⟩:ByteArray).size+u.size≤maxLen:=by show 1+_≤_;omega
 have hs2:((⟨#[40]⟩:ByteArray)++u).size+(⟨#[41]⟩:ByteArray).size≤maxLen:=by rw[cG];show 1+_+1≤_;omega
 have hi:=TV t
 have hpl:=aQV u (by omega)
 refine wF [1000000] 2 func316 ntmps316 rfl rfl ?_
 intro _
 simp only[bM,aP,cT,↓reduceIte,aB,seval,aKC]
 refine(hb _).to ?_
 simp only[bM,aP,↓reduceIte,aB,seval,aKC]
 refine(hi _).to ?_
 cases hk:CX t with
 | true=>
  rw[t8,aN rfl]
  simp only[↓reduceIte,hs1,hs2,aB,seval]
 | false=>
  rw[mT]
  simp only[↓reduceIte,aB,seval]
  refine(hpl _).to ?_
  cases hq:JT (sb u) with
  | true=>
   rw[aK (by decide)]
   simp only[↓reduceIte,aB,seval]
  | false=>
   rw[aN (by decide)]
   simp only[↓reduceIte,hs1,hs2,aB,seval]
theorem SG{st:aA}{b q:Nat}{l:List AV}{o:AO}(hb:l≠[]→st b=none)(h:st q=some o):a9 st b l q=some o:=by
 cases l with
 | nil=>exact h
 | cons x l=>exact(aA.aJ _ _ (by rintro rfl;have:=hb (by simp);rw[h] at this;cases this)).trans h
abbrev zT:=zi cH (zi cB cC)
set_option maxHeartbeats 1000000 in
theorem aQT{T:Tm→ByteArray}(n:Nat)(t:Tm)(hn:t.nodes≤n+1)(hws:Ws t)(N6:t.nodes≤1000)(hT:∀x,Ws x→x.nodes<t.nodes→uI T x)(hp:qY t=true)(st:aA):aD prog 312 [t.av] st (fun r st'=>r=.str (CA T (spine n t))∧st'=st):=by
 obtain⟨q1,q2,q3⟩:=J4 n t hws
 obtain⟨e1,e2⟩:=aI3 n t hn
 have gO:=aI2 n t
 have hnp:=qX (spine n t).2
 have hne:1≤(spine n t).1.length:=by
  cases n with
  | zero=>obtain⟨m,x,y,rfl⟩:=CO hp;simp only[Tm.gR,bH] at hn;have:=qX x;omega
  | succ m=>unfold spine;rw[aN hp];simp
 generalize spine n t=p at *
 obtain⟨its,tl⟩:=p
 simp only at q1 q2 q3 e1 e2 gO hnp hne
 have hTi:∀x∈its,uI T x:=fun x hx=>hT x (q1 x hx) (by have:=aHC hx;omega)
 have hTt:uI T tl:=hT tl q2 (by omega)
 have pK:=MZ its hTi (by omega) (by omega)
 have a4Q:=EQ (T:=T) (l:=its) fun x hx=>(hTi x hx).2.1
 obtain⟨c1,c2,c3,c4⟩:=hTt
 have hm:maxLen=9223372036854775807:=by rfl
 have hs1:(⟨#[91]⟩:ByteArray).size+(kA T its).size≤maxLen:=by show 1+_≤_;omega
 have hs2:((⟨#[91]⟩:ByteArray)++kA T its).size+(⟨#[93]⟩:ByteArray).size≤maxLen:=by rw[cG];show 1+_+1≤_;omega
 have hs3:((⟨#[91]⟩:ByteArray)++kA T its).size+(⟨#[124]⟩:ByteArray).size≤maxLen:=by rw[cG];show 1+_+1≤_;omega
 have hs4:(((⟨#[91]⟩:ByteArray)++kA T its)++(⟨#[124]⟩:ByteArray)).size+(T tl).size≤maxLen:=by rw[cG,cG];show 1+_+1+_≤_;omega
 have hs5:((((⟨#[91]⟩:ByteArray)++kA T its)++(⟨#[124]⟩:ByteArray))++T tl).size+(⟨#[93]⟩:ByteArray).size≤maxLen:=by rw[cG,cG,cG];show 1+_+1+_+1≤_;omega
 refine aD.jT ?_
 refine wF [1000000,1] 1 func312 ntmps312 rfl rfl ?_
 intro _
 simp only[cT,↓reduceIte,aB,seval,zT]
 intro b1 hb1
 have hD:=fun(o:AO)=>(aL.refl st).aC (o:=o) hb1
 refine DU (σ:=Unit) [1000000,1] [1,2] its 4 3 (fun i _=>(its.take i).map Tm.av) (fun _ _=>True) (fun i _=>[]) (fun i _=>st.aC b1 (.cells (vT i t).av.cells)) (fun i _ _ e he=>by simp only[cM] at he;obtain⟨x,_,rfl⟩:=he;exact⟨cT _,aP _⟩) (by decide +kernel) ⟨(),0,trivial,fun h=>absurd rfl h,aO.mk (by simp only[j8,mK,bE,↓reduceIte,aB,seval])⟩ (fun i x s b hx hlt bP hdr hinv hb=>?_) (fun s b hge hinv=>?_)
 case refine_1=>
  obtain⟨g1,g2⟩:=gO i x hx
  have hst:=aI1 i t
  generalize vT i t=u at *
  have hpu:=H1 u
  rw[g1] at hpu
  obtain⟨m,y,z,rfl⟩:=CO g1
  rw[B9.1] at g2
  rw[B9.2] at hst
  subst g2
  have hcs:(Tm.mk 3 m ⟨#[46]⟩ [y,z]).av.cells= [.int .i64 3,.int .i64 m,.str ⟨#[46]⟩,.slice [y.av,z.av]]:=by rw[bU];try rfl
  rw[hcs] at hb ⊢
  have hlk:a9 (st.aC b1 (.cells [.int .i64 3,.int .i64 m,.str ⟨#[46]⟩,.slice [y.av,z.av]])) b ((its.take i).map Tm.av) b1=some (.cells [.int .i64 3,.int .i64 m,.str ⟨#[46]⟩,.slice [y.av,z.av]]):=SG hb (aA.aH _ _ _)
  have hi0:=bS (av:=Tm.av) (l:=[y,z]) (i:=0) cF rfl (aP y)
  have hi1:=bS (av:=Tm.av) (l:=[y,z]) (i:=1) cF rfl (aP z)
  rw[show((0:Nat):Int)=0 from rfl] at hi0
  rw[show((1:Nat):Int)=1 from rfl] at hi1
  have cU:((its.take i).map Tm.av).length=i:=by simp only[aE,dK];omega
  have htk:(its.take i).map Tm.av++ [y.av]=(its.take (i+1)).map Tm.av:=by rw[eS,hx];simp
  rw[hst]
  simp only[bU,bL,bE] at hlk hpu hi0 hi1 hb ⊢
  have hLw:∀e∈(its.take i).map Tm.av,e.width=4:=gE _
  generalize (its.take i).map Tm.av=L at *
  simp only[↓reduceIte,hlk,aB,seval,zT]
  refine(hpu _).to ?_
  simp only[bM,aP,cT,↓reduceIte,hlk,hi0,aB,seval,zT]
  refine eY cF kP kQ rfl rfl (gN (aP _) (cR _)) (fun e he=>hLw e he) hb (by simp only[cU,aX,a8];omega) (by simp only[cU,aX,a8];omega) (fun b' hb'=>?_)
  rw[htk] at hb' ⊢
  have aXK:=SG (l:=(its.take (i+1)).map Tm.av) hb' (aA.aH st b1 (.cells [.int .i64 3,.int .i64 m,.str ⟨#[46]⟩,.slice [y.av,z.av]]))
  have hnb:(its.take (i+1)).map Tm.av≠[]→b1≠b':=fun h=>by rintro rfl;have:=hb' h;rw[aA.aH] at this;cases this
  have hup:=fun o=>qF (st:=st.aC b1 (.cells [.int .i64 3,.int .i64 m,.str ⟨#[46]⟩,.slice [y.av,z.av]])) (o:=o) hnb
  simp only[aG,bM,aP,cR,cI,↓reduceIte,aXK,hi1,hup,dW,aB,seval,zT]
  exact⟨(),b',fun h=>by have:=hb' h;rw[aA.aJ _ _ (dM (hnb h))] at this ⊢;exact this,aO.mk (by simp only[↓reduceIte,aB,seval])⟩
 rw[d6,←e1]
 have hpt:=H1 tl
 rw[e2] at hpt
 have hnt:=aQI tl
 simp only[rZ,aFM,lP,bE,cI,fL (cI _),fJ (bM _),↓reduceIte,aB,seval,zT]
 refine(hpt _).to ?_
 simp only[cI,fL (cI _),fJ (bM _),↓reduceIte,aB,seval,zT]
 refine(hnt _).to ?_
 unfold CA
 cases hnk:JL tl with
 | true=>
  rw[aN rfl]
  simp only[↓reduceIte,aB,seval]
  refine(pK _).to ?_
  simp only[↓reduceIte,hs1,hs2,aB,seval]
  exact hD _
 | false=>
  rw[aK (by decide)]
  simp only[↓reduceIte,aB,seval]
  refine wP [(0,1),(1,2),(2,1),(3,1),(4,2),(5,2),(6,1),(7,1),(8,1)] [0,1,2,3,4,5,6,7,8] mixed ?_
  simp only[↓reduceIte,aB,seval]
  refine gG (pK _) ?_
  simp only[cI,fL (cI _),fJ (bM _),↓reduceIte,hs1,hs3,aB,seval,zT]
  refine gG (c1 _) ?_
  simp only[↓reduceIte,hs4,hs5,aB,seval]
  exact hD _
abbrev sH:=zi aS (zi cH (zi cB cC))
set_option maxHeartbeats 1000000 in
theorem M0:∀(n:Nat) (t:Tm) (st:aA),Ws t→t.nodes≤n→t.nodes≤1000→aD prog 263 [t.av] st (fun r st'=>r=.str (tx n t)∧st'=st):=by
 intro n
 induction n with
 | zero=>intro t st _ h;have:=qX t;omega
 | succ n IH=>
 intro t st hws hn N6
 have hsz:=xP (n+1) t hws
 have hT:∀x,Ws x→x.nodes<t.nodes→uI (tx n) x:=fun x hx hlt=>⟨fun st=>IH x st hx (by omega) (by omega),xP n x hx,Q5 hx (by have:=qX x;omega),by omega⟩
 have hpt:=H1 t
 have hit:=TU t
 have aXJ:=aQT (T:=tx n) n t hn hws N6 hT
 have hm:maxLen=9223372036854775807:=by rfl
 unfold tx at hsz ⊢
 refine wF [1000000] 1 func263 ntmps263 rfl rfl ?_
 intro _
 simp only[bM,aP,cT,↓reduceIte,aB,seval,sH]
 refine(hpt _).to ?_
 cases hp:qY t with
 | true=>
  rw[aN rfl]
  simp only[bM,aP,↓reduceIte,aB,seval,sH]
  refine(aXJ hp _).to ?_
  simp only[↓reduceIte,aB,seval]
 | false=>
  rw[hp] at hsz
  rw[aK (by decide)] at hsz ⊢
  simp only[bM,aP,↓reduceIte,aB,seval,sH]
  refine(hit _).to ?_
  cases hi:tK t with
  | true=>
   rw[hi] at hsz
   rw[aN rfl] at hsz ⊢
   obtain⟨m,s,x,y,rfl,hs⟩:=OZ hi
   have hk:=hws.own.2
   have hxl:x.nodes<(Tm.mk 3 m s [x,y]).nodes:=by simp only[Tm.gR,bH];have:=qX y;omega
   have hyl:y.nodes<(Tm.mk 3 m s [x,y]).nodes:=by simp only[Tm.gR,bH];have:=qX x;omega
   have hx:=hT x (hk x (by simp)) hxl
   have hy:=hT y (hk y (by simp)) hyl
   rw[B9.1,B9.2,show(Tm.mk 3 m s [x,y]).s=s from rfl] at hsz ⊢
   have h6:s.size≤6:=hws.size.1
   have hl3:cV s≤3:=by unfold cV;cases (decide (s=⟨#[61]⟩)||decide (s=⟨#[92,61]⟩)||decide (s=⟨#[61,61]⟩)||decide (s=⟨#[60]⟩)||decide (s=⟨#[62]⟩)||decide (s=⟨#[61,60]⟩)||decide (s=⟨#[62,61]⟩)||decide (s=⟨#[61,58,61]⟩)||decide (s=⟨#[105,115]⟩))<;>cases (decide (s=⟨#[43]⟩)||decide (s=⟨#[45]⟩))<;>cases (decide (s=⟨#[42]⟩)||decide (s=⟨#[47,47]⟩)||decide (s=⟨#[109,111,100]⟩))<;>decide
   have hll:lvl (cV s)≤10:=by unfold lvl;split<;>omega
   have cl:=aQS x hx (lvl (cV s)) hll
   have cr:=aQY y hy (cV s - 1) (by omega)
   have csp:=aQZ s (by omega)
   have clv:=uU s
   rw[cG,cG] at hsz
   generalize hA:wW (tx n) x (lvl (cV s))=A at *
   generalize hB:xB (tx n) y (cV s - 1)=B at *
   generalize oI s=C at *
   have hs1:A.size+C.size≤maxLen:=by omega
   have hs2:(A++C).size+B.size≤maxLen:=by rw[cG];omega
   have hi0:=bS (av:=Tm.av) (l:=[x,y]) (i:=0) cF rfl (aP x)
   have hi1:=bS (av:=Tm.av) (l:=[x,y]) (i:=1) cF rfl (aP y)
   rw[show((0:Nat):Int)=0 from rfl] at hi0
   rw[show((1:Nat):Int)=1 from rfl] at hi1
   simp only[bU,bL,bE] at hi0 hi1 ⊢
   generalize hL:cV s=L at *
   obtain⟨L1,hL1⟩:∃L1,L1=L - 1:=⟨_,rfl⟩
   have hw:=jL (x:=(L:Int) - 1) (m:=L1) (by omega) (by omega)
   rw[←hL1] at cr
   by_cases h3:L=3
   case' pos=>
    have h3':((L:Int)=3)=True:=bT (by omega)
    have hlv:lvl L=2:=by unfold lvl;rw[aN h3]
   case' neg=>
    have h3':((L:Int)=3)=False:=bG (by omega)
    have hlv:lvl L=L:=by unfold lvl;rw[aK h3]
   all_goals
    rw[hlv] at cl
    simp only[↓reduceIte,aB,seval,sH]
    refine(clv _).to ?_
    simp only[↓reduceIte,h3',aZ,bB,aB,seval]
    refine wP [(0,1),(4,1),(6,1),(10,1),(14,1),(15,1),(1,2),(2,1),(3,2),(5,2),(7,2),(8,2),(9,1),(11,2),(12,1),(13,2),(16,2),(17,1),(18,1)] [0,4,6,10,14,15,1,2,3,5,7,8,9,11,12,13,16,17,18] mixed ?_
    simp only[bM,aP,↓reduceIte,hi0,hw,aB,seval,sH]
    refine gG (cl _) ?_
    simp only[↓reduceIte,aB,seval,sH]
    refine gG (csp _) ?_
    simp only[bM,aP,↓reduceIte,hi1,hs1,aB,seval,sH]
    refine gG (cr _) ?_
    simp only[↓reduceIte,hs2,aB,seval]
  | false=>
   rw[hi] at hsz
   rw[aK (by decide)] at hsz ⊢
   cases ha:HS t with
   | true=>
    rw[ha] at hsz
    rw[aN rfl] at hsz ⊢
    obtain⟨k,m,s,ts⟩:=t
    rw[MG,bD,bA,bA] at ha
    obtain⟨rfl,h0⟩:=ha
    have h0':((0:Int)<(ts.length:Int))=True:=bT (by omega)
    simp only[Tm.s,Tm.ts] at hsz ⊢
    simp only[Tm.gR] at hn N6 hT hsz
    have hk:=hws.own.2
    have h4:ts.length≤4:=by rcases zD hws.own.1 with h | h | h<;>omega
    have pK:=MZ (T:=tx n) ts (fun x hx=>hT x (hk x hx) (by have:=aHC hx;omega)) (by omega) (by omega)
    rw[cG,cG,cG] at hsz
    generalize kA (tx n) ts=A at *
    have a43:s.size+A.size≤100000:=by omega
    have hs1:s.size+(⟨#[40]⟩:ByteArray).size≤maxLen:=by show _+1≤_;omega
    have hs2:(s++(⟨#[40]⟩:ByteArray)).size+A.size≤maxLen:=by rw[cG];show _+1+_≤_;omega
    have hs3:((s++(⟨#[40]⟩:ByteArray))++A).size+(⟨#[41]⟩:ByteArray).size≤maxLen:=by rw[cG,cG];show _+1+_+1≤_;omega
    simp only[bU]
    simp only[↓reduceIte,h0',aE,aZ,aB,seval,sH]
    refine wP [(0,1),(3,1),(1,2),(2,1),(4,2),(5,2),(6,1),(7,1),(8,1)] [0,3,1,2,4,5,6,7,8] mixed ?_
    simp only[↓reduceIte,hs1,aB,seval,sH]
    refine gG (pK _) ?_
    simp only[↓reduceIte,hs2,hs3,aB,seval]
   | false=>
    rw[aK (by decide)]
    have hl:=aQQ t hws (fun h=>by
     obtain⟨k,m,s,ts⟩:=t
     rw[MG,show k=3 from h] at ha
     simp only[aZ,cZ,dC] at ha
     exact List.length_eq_zero_iff.1 (by show ts.length=0;omega))
    generalize yY t=A at *
    obtain⟨k,m,s,ts⟩:=t
    rw[MG] at ha
    simp only[bU] at hl ⊢
    by_cases hk:k=3
    case pos=>
     rw[hk] at ha hl ⊢
     simp only[aZ,cZ,dC] at ha
     have h0':((0:Int)<(ts.length:Int))=False:=bG (by omega)
     simp only[↓reduceIte,h0',aE,aZ,bB,aB,seval,sH]
     refine(hl _).to ?_
     simp only[↓reduceIte,aB,seval]
    case neg=>
     have hk':=bG hk
     simp only[↓reduceIte,hk',bB,aB,seval,sH]
     refine(hl _).to ?_
     simp only[↓reduceIte,aB,seval]
end Go.AW

namespace Go.AW
open Go.Proofs.Tryz
open Go.Shelf
set_option linter.unusedSimpArgs false
set_option linter.unusedVariables false
set_option maxRecDepth 100000
end Go.AW

namespace Go.AW
open Go.Proofs.Tryz

theorem SV(a b c:ByteArray):(a++b)++c=a++(b++c):=by apply ByteArray.ext;simp [ByteArray.data_append]
theorem aLH{t:Tm}(ht:t.valid=true):(tx 1000 t).size≤3840∧1≤(tx 1000 t).size:=by
 have hn:=Tm.rH ht
 have hw:Ws t:=⟨30,by simp only[Tm.valid,bD] at ht;exact ht.1⟩
 exact⟨by have:=xP 1000 t hw;omega,Q5 hw (by decide)⟩
theorem aOD{v:Int}{t:Tm}(ht:t.valid=true):(mX v t).size≤3842∧1≤(mX v t).size:=by
 obtain⟨h1,h2⟩:=aLH ht
 unfold mX
 rw[cG,cG]
 show 1+1+_≤_∧1≤1+1+_
 omega
theorem E6{q a:List Tm}(hf:yK q a=true):eP q=true∧a.length=(cE q []).length∧(∀x∈a,x.valid=true)∧(∀v∈cE q [],0≤v∧v<26)∧(cE q []).length≤26:=by
 simp only[yK,bD,bA,c6] at hf
 obtain⟨⟨h1,h2⟩,h3⟩:=hf
 obtain⟨v1,v2⟩:=a0C (JW h1).2
 exact⟨h1,h2,h3,v1,v2⟩








end Go.AW
namespace Go.AW
def tL:AV→Bool
 | .int _ _ | .bool _ | .str _=>true
 | _=>false
theorem aH5{st:aA}{a o:AV}{bs:List Nat}(h:tL a=true):bX st a o bs↔o=a∧bs= []:=by
 cases a<;>simp [tL] at h<;>simp [bX]
theorem aZU{st:aA}{a:AV}{es os:List AV}{bs:List Nat}(h:tL a=true):bN st (a::es) os bs↔∃os',os=a::os'∧bN st es os' bs:=by
 simp only[bN]
 constructor
 · rintro⟨o,os',b1,b2,rfl,rfl,x1,x2⟩
   obtain⟨rfl,rfl⟩:=(aH5 h).1 x1
   exact⟨os',rfl,x2⟩
 · rintro⟨os',rfl,x⟩
   exact⟨a,os',[],bs,rfl,rfl,(aH5 h).2 ⟨rfl,rfl⟩,x⟩
def vZ:List AV→List AV→List AV
 | [],_=>[]
 | a::es,qs=>if tL a then a::vZ es qs else match qs with
  | q::qs=>q::vZ es qs
  | []=>[]
theorem CN{st:aA}:∀ {es os:List AV} {bs:List Nat},bN st es os bs↔∃qs,os=vZ es qs∧bN st (es.filter fun a=> !tL a) qs bs
 | [],os,bs=>by
  simp only[bN,vZ,List.filter_nil]
  constructor
  · rintro⟨rfl,rfl⟩;exact⟨[],rfl,rfl,rfl⟩
  · rintro⟨qs,rfl,rfl,rfl⟩;exact⟨rfl,rfl⟩
 | a::es,os,bs=>by
  cases h:tL a with
  | true=>
   rw[aZU h]
   simp only[vZ,h,List.filter_cons,eA,iF,dA,eN]
   constructor
   · rintro⟨os',rfl,x⟩
     obtain⟨qs,rfl,y⟩:=CN.1 x
     exact⟨qs,rfl,y⟩
   · rintro⟨qs,rfl,y⟩
     exact⟨_,rfl,CN.2 ⟨qs,rfl,y⟩⟩
  | false=>
   simp only[vZ,h,List.filter_cons,eK,iF,dA,eN,bN]
   constructor
   · rintro⟨o,os',b1,b2,rfl,rfl,x1,x2⟩
     obtain⟨qs,rfl,y⟩:=CN.1 x2
     exact⟨o::qs,rfl,o,qs,b1,b2,rfl,rfl,x1,y⟩
   · rintro⟨qs,rfl,o,os',b1,b2,rfl,rfl,x1,y⟩
     exact⟨o,_,b1,b2,rfl,rfl,x1,CN.2 ⟨os',rfl,y⟩⟩
theorem FU{st:aA}{cs:List AV}{o:AV}{bs:List Nat}:bX st (.agg cs) o bs↔∃qs,o=.agg (vZ cs qs)∧bN st (cs.filter fun a=> !tL a) qs bs:=by
 simp only[bX]
 constructor
 · rintro⟨os,rfl,x⟩
   obtain⟨qs,rfl,y⟩:=CN.1 x
   exact⟨qs,rfl,y⟩
 · rintro⟨qs,rfl,y⟩
   exact⟨_,rfl,CN.2 ⟨qs,rfl,y⟩⟩
def aG0:AV→Bool
 | .slice _=>true
 | _=>false
def One(q:AV):Prop:=q.cells= [q]∧q.storable=true∧q.isAgg=false∧q.width=1∧q.bR=false
theorem bN.vO{st:aA}:∀ {es os:List AV} {bs:List Nat},bN st es os bs→es.all aG0=true→∀q∈os,One q
 | [],os,bs,x,_=>by simp only[bN] at x;rw[x.1];simp
 | a::es,os,bs,x,h=>by
  simp only[bN] at x
  obtain⟨o,os',b1,b2,rfl,rfl,x1,x2⟩:=x
  simp only[iS,bD] at h
  intro q hq
  rcases cL.1 hq with rfl | hq
  · cases a<;>simp [aG0] at h
    exact bX.O9 x1
  · exact bN.vO x2 h.2 q hq
structure f9 (st:aA) (ds:List Nat) (es os:List AV) (bs:List Nat) (s:aA):Prop where
 nd:bs.Nodup
 fresh:∀b∈bs,st b=none
 apart:∀d∈ds,st d=none∧d∉bs∧s d≠none
 own:bN s es os bs
 aY:∀x,x∉bs→x∉ds→s x=st x
theorem f9.start{st:aA}{ds:List Nat}{s:aA}(h1:∀d∈ds,st d=none∧s d≠none)(h2:∀x,x∉ds→s x=st x):f9 st ds [] [] [] s:=
 ⟨nR,by simp,fun d hd=>⟨(h1 d hd).1,by simp,(h1 d hd).2⟩,⟨rfl,rfl⟩,fun x _ h=>h2 x h⟩
theorem f9.aC{st:aA}{ds:List Nat}{es os:List AV}{bs:List Nat}{s:aA}(c:f9 st ds es os bs s){d:Nat}(hd:d∈ds)(o:AO):f9 st ds es os bs (s.aC d o):=by
 refine⟨c.nd,c.fresh,fun e he=>⟨(c.apart e he).1,(c.apart e he).2.1,?_⟩,bN.aY _ _ _ (fun b hb=>aA.aJ _ _ (fun e=>(c.apart d hd).2.1 (e▸hb))) c.own,fun x h1 h2=>?_⟩
 · by_cases h:e=d
   · subst h;rw[aA.aH];simp
   · rw[aA.aJ _ _ h];exact(c.apart e he).2.2
 · have hx:x≠d:=by rintro rfl;exact h2 hd
   rw[aA.aJ _ _ hx];exact c.aY x h1 h2
theorem f9.made{st:aA}{ds:List Nat}{es os:List AV}{bs:List Nat}{s s':aA}{a r:AV}(c:f9 st ds es os bs s)(m:Made s a r s'):(∀d∈ds,s' d=s d)∧∃bs',f9 st ds (es++ [a]) (os++ [r]) bs' s':=by
 obtain⟨b2,m1,m2,m3,m4⟩:=m
 have hb:∀b∈bs,b∉b2:=fun b hb hb'=>by
  obtain⟨cs,e,_⟩:=(bN.fZ _ _ _ c.own).2 b hb
  rw[m2 b hb'] at e;cases e
 have hd:∀d∈ds,d∉b2:=fun d hd hd'=>(c.apart d hd).2.2 (m2 d hd')
 have hf:∀b∈b2,st b=none:=fun b h2=>by
  have h1:b∉bs:=fun h=>hb b h h2
  have h3:b∉ds:=fun h=>hd b h h2
  rw[←c.aY b h1 h3];exact m2 b h2
 refine⟨fun d h=>m4 d (hd d h),bs++b2,xV.2 ⟨c.nd,m1,fun x hx y hy e=>hb x hx (e▸hy)⟩,fun b h=>?_,fun d h=>⟨(c.apart d h).1,?_,?_⟩,?_,fun x h1 h2=>?_⟩
 · rcases fG.1 h with h | h
   · exact c.fresh b h
   · exact hf b h
 · simp only[fG,not_or];exact⟨(c.apart d h).2.1,hd d h⟩
 · rw[m4 d (hd d h)];exact(c.apart d h).2.2
 · exact bN.snoc c.own (fun b h=>m4 b (hb b h)) m3
 · simp only[fG,not_or] at h1
   rw[m4 x h1.2,c.aY x h1.1 h2]
theorem bN.append{st:aA}{a2 o2:List AV}{b2:List Nat}(y:bN st a2 o2 b2):∀ {a1 o1:List AV} {b1:List Nat},bN st a1 o1 b1→bN st (a1++a2) (o1++o2) (b1++b2)
 | [],o1,b1,x=>by
  simp only[bN] at x
  obtain⟨rfl,rfl⟩:=x
  exact y
 | a::a1,o1,b1,x=>by
  simp only[bN] at x
  obtain⟨o,os',c1,c2,rfl,rfl,x1,x2⟩:=x
  simp only[fU,bN]
  exact⟨o,os'++o2,c1,c2++b2,rfl,by simp,x1,bN.append y x2⟩
theorem f9.aY0{st:aA}{ds:List Nat}{es os:List AV}{bs:List Nat}{s s':aA}{a2 o2:List AV}{b2:List Nat}(c:f9 st ds es os bs s)(m1:b2.Nodup)(m2:∀b∈b2,s b=none)(m3:bN s' a2 o2 b2)(m4:∀b,b∉b2→s' b=s b) :
 (∀d∈ds,s' d=s d)∧f9 st ds (es++a2) (os++o2) (bs++b2) s':=by
 have hb:∀b∈bs,b∉b2:=fun b hb hb'=>by
  obtain⟨cs,e,_⟩:=(bN.fZ _ _ _ c.own).2 b hb
  rw[m2 b hb'] at e;cases e
 have hd:∀d∈ds,d∉b2:=fun d hd hd'=>(c.apart d hd).2.2 (m2 d hd')
 have hf:∀b∈b2,st b=none:=fun b h2=>by
  have h1:b∉bs:=fun h=>hb b h h2
  have h3:b∉ds:=fun h=>hd b h h2
  rw[←c.aY b h1 h3];exact m2 b h2
 refine⟨fun d h=>m4 d (hd d h),xV.2 ⟨c.nd,m1,fun x hx y hy e=>hb x hx (e▸hy)⟩,fun b h=>?_,fun d h=>⟨(c.apart d h).1,?_,?_⟩,?_,fun x h1 h2=>?_⟩
 · rcases fG.1 h with h | h
   · exact c.fresh b h
   · exact hf b h
 · simp only[fG,not_or];exact⟨(c.apart d h).2.1,hd d h⟩
 · rw[m4 d (hd d h)];exact(c.apart d h).2.2
 · exact bN.append m3 (bN.aY _ _ _ (fun b h=>m4 b (hb b h)) c.own)
 · simp only[fG,not_or] at h1
   rw[m4 x h1.2,c.aY x h1.1 h2]
theorem f9.aYZ{st:aA}{ds:List Nat}{es os:List AV}{bs:List Nat}{s s':aA}{cs:List AV}{r:AV}(c:f9 st ds es os bs s)(m:Made s (.agg cs) r s') :
 (∀d∈ds,s' d=s d)∧∃qs bs',r=.agg (vZ cs qs)∧f9 st ds (es++cs.filter fun a=> !tL a) (os++qs) bs' s':=by
 obtain⟨b2,m1,m2,m3,m4⟩:=m
 obtain⟨qs,rfl,y⟩:=FU.1 m3
 obtain⟨h1,h2⟩:=c.aY0 m1 m2 y m4
 exact⟨h1,qs,_,rfl,h2⟩
theorem f9.done{st:aA}{ds:List Nat}{es os:List AV}{bs:List Nat}{s:aA}(c:f9 st ds es os bs s){a r:AV}(h:bN s es os bs→bX s a r bs):∃ds,RK st ds a r s:=
 ⟨ds,bs,c.nd,c.fresh,fun d hd=>⟨(c.apart d hd).1,(c.apart d hd).2.1⟩,h c.own,fun b h1 h2=>c.aY b h1 h2⟩
theorem f9.two{st:aA}{b b2:Nat}{o o2:AO}(hb:st b=none)(hb2:(st.aC b o) b2=none):b2≠b∧f9 st [b,b2] [] [] [] ((st.aC b o).aC b2 o2):=by
 have hne:b2≠b:=by rintro rfl;rw[aA.aH] at hb2;cases hb2
 have hn2:st b2=none:=by rw[aA.aJ st _ hne] at hb2;exact hb2
 refine⟨hne,f9.start (fun d hd=>?_) (fun x hx=>?_)⟩
 · simp only[cL,c8,dP] at hd
   rcases hd with rfl | rfl
   · exact⟨hb,by rw[aA.aJ _ _ (dM hne),aA.aH];simp⟩
   · exact⟨hn2,by rw[aA.aH];simp⟩
 · simp only[cL,c8,dP,not_or] at hx
   rw[aA.aJ _ _ hx.2,aA.aJ _ _ hx.1]
abbrev Fr:=Int×ByteArray
def bO(f:Fr):AV:=.agg [.int .i64 f.1,.str f.2]
theorem qS(f:Fr):(bO f).width=2:=rfl
theorem wM(f:Fr):(bO f).isAgg=true:=rfl
theorem E7(f:Fr):(bO f).bR=false:=rfl
abbrev aT (l:List Fr):AV:=.slice (l.map bO)
abbrev bZ (l:List Bt):AV:=.slice (l.map bJ)
def o8(r:List Bt)(b:Bool):AV:=.agg [bZ r,.bool b]
structure cP where
 rest:List Bt
 brk:Bool
 wait:List Fr
 prog:List Cl
 act:Bool
 ses:Ss
 told:Bool
 out:List Fr
def eR(c:cP):List AV:=[bZ c.rest,.bool c.brk,aT c.wait,.slice (c.prog.map aF),.bool c.act,.slice (c.ses.p.map aF),.slice (c.ses.q.map Tm.av),.int .i64 c.ses.quota,.int .i64 c.ses.used,.int .i64 c.ses.sent,.int .i64 c.ses.fin,.bool c.told,aT c.out]
def bF(c:cP):AV:=.agg (eR c)
theorem mY(c:cP):(bF c).width=13:=rfl
theorem BP(c:cP):(bF c).isAgg=true:=rfl
theorem US(c:cP):(bF c).cells.all AV.storable=true:=rfl
theorem UR(c:cP):(bF c).bR=false:=rfl
structure Sv where
 cs:List cP
 quota:Int
def dZ(s:Sv):AV:=.agg [.slice (s.cs.map bF),.int .i64 s.quota]
def UT(c:cP):List AV:=[bZ c.rest,aT c.wait,.slice (c.prog.map aF),.slice (c.ses.p.map aF),.slice (c.ses.q.map Tm.av),aT c.out]
theorem aZY{st:aA}{c:cP}{o:AV}{bs:List Nat} :
 bX st (bF c) o bs↔∃q0 q1 q2 q3 q4 q5,o=.agg [q0,.bool c.brk,q1,q2,.bool c.act,q3,q4,.int .i64 c.ses.quota,.int .i64 c.ses.used,.int .i64 c.ses.sent,.int .i64 c.ses.fin,.bool c.told,q5]∧bN st (UT c) [q0,q1,q2,q3,q4,q5] bs:=by
 unfold bF
 rw[FU]
 constructor
 · rintro⟨qs,rfl,x⟩
   have hl:=x.length
   replace x:bN st (UT c) qs bs:=x
   match qs,hl with
   | [q0,q1,q2,q3,q4,q5],_=>exact⟨q0,q1,q2,q3,q4,q5,rfl,x⟩
 · rintro⟨q0,q1,q2,q3,q4,q5,rfl,x⟩
   exact⟨[q0,q1,q2,q3,q4,q5],rfl,x⟩
theorem aZZ{st:aA}{s:Sv}{o:AV}{bs:List Nat}:bX st (dZ s) o bs↔∃q,o=.agg [q,.int .i64 s.quota]∧bX st (.slice (s.cs.map bF)) q bs:=by
 unfold dZ
 rw[FU]
 constructor
 · rintro⟨qs,rfl,x⟩
   have hl:=x.length
   replace x:bN st [.slice (s.cs.map bF)] qs bs:=x
   match qs,hl with
   | [q],_=>
    refine⟨q,rfl,?_⟩
    generalize AV.slice (s.cs.map bF)=y at x ⊢
    simp only[bN] at x
    obtain⟨o,os',b1,b2,e,rfl,h,rfl,rfl⟩:=x
    obtain⟨rfl,_⟩:=List.cons.inj e
    simpa using h
 · rintro⟨q,rfl,x⟩
   refine⟨[q],rfl,?_⟩
   show bN st [.slice (s.cs.map bF)] [q] bs
   generalize AV.slice (s.cs.map bF)=y at x ⊢
   simp only[bN]
   exact⟨q,[],bs,[],rfl,by simp,x,rfl,rfl⟩
end Go.AW
namespace Go.AW
open Go.Proofs.Tryz
def lF(x:UInt8):Bool:=decide (x.toNat=10)||(decide (32≤x.toNat)&&decide (x.toNat≤126))
def zY(s:ByteArray):Bool:=(sb s).all lF&&decide (s.size≤2000)
def iA(f:Fr):Bool:=(decide (1≤f.1)&&decide (f.1≤7))&&zY f.2
theorem aPV(x:UInt8)(st:aA):aD prog 236 [.int .u8 (x.toNat:Int)] st (fun r st'=>r=.bool (lF x)∧st'=st):=by
 refine wF [1000000] 1 func236 ntmps236 rfl rfl ?_
 intro _
 unfold lF
 by_cases b1:x.toNat=10
 case' pos=>have b1':((x.toNat:Int)=10)=True:=bT (by omega)
 case' neg=>have b1':((x.toNat:Int)=10)=False:=bG (by omega)
 all_goals
  by_cases b2:32≤x.toNat
  case' pos=>have b2':((32:Int)≤(x.toNat:Int))=True:=bT (by omega)
  case' neg=>have b2':((32:Int)≤(x.toNat:Int))=False:=bG (by omega)
 all_goals
  by_cases b3:x.toNat≤126
  case' pos=>have b3':((x.toNat:Int)≤126)=True:=bT (by omega)
  case' neg=>have b3':((x.toNat:Int)≤126)=False:=bG (by omega)
 all_goals try (exfalso;omega)
 all_goals
  simp only[b1',b2',b3',aZ,bB,aB,seval]
  simp [b1,b2,b3]
abbrev aJK:=zi aS (zi bV (zi gD cH))
theorem aPY(s:ByteArray)(st:aA):aD prog 174 [.str s] st (fun r st'=>r=.bool (zY s)∧st'=st):=by
 have hsz:=b9 s
 unfold zY
 refine wF [1000000] 1 func174 ntmps174 rfl rfl ?_
 simp only[dS,AV.fits,dU]
 intro hs
 have hm:maxLen=9223372036854775807:=by rfl
 simp only[aB,seval]
 refine dX (σ:=Unit) [1000000] [0] (sb s) (fun i _=>((sb s).drop i).all lF=(sb s).all lF) (fun i _=>[(2,.bool false),(3,.int .i64 i)]) (fun _ _=>st) (by decide +kernel) ⟨(),rfl,aO.mk (by simp only[aB,↓aU,seval])⟩ (fun i x _ hx hlt bP hdr hinv=>?_) (fun _ hge hinv=>?_)
 case refine_2=>
  rw[mJ,AD] at hinv
  rw[←hinv,cZ,hsz]
  have hg:=bG (Int.lt_irrefl (s.size:Int))
  have h2:decide ((s.size:Int)≤2000)=decide (s.size≤2000):=by rw[qM];omega
  simp only[hg,h2,bB,aB,seval,aJK]
 rw[hdr,iS] at hinv
 have hix:=pP (P:=prog) (t:=9) nO hx
 have hi:=bT (show(i:Int)<(s.size:Int) by omega)
 have hw:=bC (n:=(i:Int)+1)
 simp only[hi,aZ,hix,aB,seval,aJK]
 refine(aPV x _).to ?_
 cases hb:lF x with
 | false=>
  rw[hb,eJ] at hinv
  rw[←hinv,eJ]
  simp only[eK,aB,seval]
 | true=>
  rw[hb,cZ] at hinv
  simp only[eA,hw,aB,seval]
  exact⟨(),hinv,aO.mk (by simp only[aB,seval])⟩
abbrev P8:=zi aS (zi bV (zi cH oL))
theorem M4(f:Fr)(st:aA):aD prog 124 [bO f] st (fun r st'=>r=.bool (iA f)∧st'=st):=by
 obtain⟨y,s⟩:=f
 have ht:=aPY s
 rw[show iA (y,s)=((decide (1≤y)&&decide (y≤7))&&zY s) from rfl]
 simp only[bO]
 refine wF [1000000] 1 func124 ntmps124 rfl rfl ?_
 intro _
 simp only[aB,seval,P8]
 refine cK (fun h1=>?_) (fun h1=>?_)
 case refine_2=>
  simp only[h1,aB,seval]
  simp at h1
  simp []
 simp only[h1,aB,seval,P8]
 refine cK (fun h2=>?_) (fun h2=>?_)
 case refine_2=>
  simp only[h2,aB,seval]
  simp at h1 h2
  simp []
 simp only[h2,aB,seval,P8]
 refine(ht _).to ?_
 simp only[aB,seval]
 try (simp at h1 h2;simp [h1,h2])
abbrev J9:=zi aS (zi bV (zi gD (zi KP (zi cH oL))))
theorem aPH(f:Fr)(st:aA):aD prog 99 [bO f] st (fun r st'=>r=.bool (iA f)∧st'=st):=by
 obtain⟨y,s⟩:=f
 have hsz:=b9 s
 have hwi:=wI y 1 7
 rw[show iA (y,s)=((decide (1≤y)&&decide (y≤7))&&((sb s).all lF&&decide (s.size≤2000))) from rfl]
 simp only[bO]
 refine wF [1000000] 1 func99 ntmps99 rfl rfl ?_
 simp only[dS,AV.fits,dU,sI]
 intro hs
 have hm:maxLen=9223372036854775807:=by rfl
 simp only[aB,seval,J9]
 refine dX (σ:=Unit) [1000000] [1,7] (sb s) (fun i _=>((sb s).drop i).all lF=(sb s).all lF) (fun i _=>[(2,.bool false),(8,.int .i64 i)]) (fun _ _=>st) (by decide +kernel) ⟨(),rfl,aO.mk (by simp only[aB,↓aU,seval])⟩ (fun i x _ hx hlt bP hdr hinv=>?_) (fun _ hge hinv=>?_)
 case refine_2=>
  rw[mJ,AD] at hinv
  rw[←hinv,cZ,hsz]
  have hg:=bG (Int.lt_irrefl (s.size:Int))
  have h2:decide ((s.size:Int)≤2000)=decide (s.size≤2000):=by rw[qM];omega
  simp only[hg,bB,aB,seval,J9]
  refine(hwi _).to ?_
  cases hb:(decide (1≤y)&&decide (y≤7)) with
  | false=>simp only[eJ,aB,seval]
  | true=>simp only[cZ,h2,aB,seval,J9]
 rw[hdr,iS] at hinv
 have hix:=pP (P:=prog) (t:=9) nO hx
 have hi:=bT (show(i:Int)<(s.size:Int) by omega)
 have hw:=bC (n:=(i:Int)+1)
 simp only[hi,aZ,hix,aB,seval,J9]
 by_cases b1:x.toNat=10
 case' pos=>have b1':((x.toNat:Int)=10)=True:=bT (by omega)
 case' neg=>have b1':((x.toNat:Int)=10)=False:=bG (by omega)
 all_goals
  by_cases b2:x.toNat<32
  case' pos=>have b2':((x.toNat:Int)<32)=True:=bT (by omega)
  case' neg=>have b2':((x.toNat:Int)<32)=False:=bG (by omega)
 all_goals
  by_cases b3:126<x.toNat
  case' pos=>have b3':((126:Int)<(x.toNat:Int))=True:=bT (by omega)
  case' neg=>have b3':((126:Int)<(x.toNat:Int))=False:=bG (by omega)
 all_goals try (exfalso;omega)
 all_goals
  simp only[b1',b2',b3',aZ,bB,eA,eK,dV,hw,aB,seval]
  first
   | (rw[show lF x=true by unfold lF;simp;omega,cZ] at hinv;exact⟨(),hinv,aO.mk (by simp only[aB,seval])⟩)
   | (rw[show lF x=false by unfold lF;simp;omega,eJ] at hinv;rw[←hinv];simp)
end Go.AW
namespace Go.AW
abbrev okB (s:ByteArray):Prop:=(sb s).all lF=true
theorem fY{a b:ByteArray}(ha:okB a)(hb:okB b):okB (a++b):=by
 have:sb (a++b)=sb a++sb b:=by simp [sb,ByteArray.data_append]
 unfold okB
 rw[this,AC,ha,hb]
 try rfl
theorem O8{n:Nat}(h1:32≤n)(h2:n≤126):okB ⟨#[UInt8.ofNat n]⟩:=by
 have hn:(UInt8.ofNat n).toNat=n:=by simp [UInt8.toNat_ofNat'];omega
 show([UInt8.ofNat n]:List UInt8).all lF=true
 simp only[iS,AD,xS,lF,hn]
 simp [h1,h2]
theorem O7:∀(f n:Nat) (acc:ByteArray),okB acc→okB (kB f n acc)
 | 0,n,acc,h=>h
 | f+1,n,acc,h=>by
  unfold kB
  split
  · exact O7 f _ _ (fY (O8 (by omega) (by omega)) h)
  · exact fY (O8 (by omega) (by omega)) h
theorem zA:okB ⟨#[]⟩:=rfl
theorem aZN(n:Int):okB (uX n):=by
 unfold uX
 split
 · exact fY (by decide) (O7 _ _ _ zA)
 · exact O7 _ _ _ zA
theorem aHX{n:Int}(h0:0≤n)(h1:n<26):okB (tO n):=O8 (by omega) (by omega)
theorem aHY{s:ByteArray}(h:tR s=true):okB s:=by
 unfold tR at h
 rw[kZ] at h
 rcases h with h | h
 · simp only[qW,bD,c6] at h
   refine c6.2 fun x hx=>?_
   have:=h.1 x hx
   simp only[letter,bD,bA] at this
   simp only[lF,kZ,bD,bA]
   omega
 · rw[G7] at h
   obtain⟨x,hx,h⟩:=h
   rw[bA] at h
   subst h
   revert hx
   revert s
   decide
theorem aHW{T:Tm→ByteArray}:∀l:List Tm,(∀x∈l,okB (T x))→okB (kA T l)
 | [],_=>zA
 | x::xs,h=>by
  have hg:∀(xs:List Tm) (o:ByteArray),okB o→(∀x∈xs,okB (T x))→okB (xs.foldl (fun o y=>(o++⟨#[44]⟩)++T y) o):=by
   intro xs
   induction xs with
   | nil=>intro o ho _;exact ho
   | cons y ys ih=>intro o ho hy;exact ih _ (fY (fY ho (by decide)) (hy y (by simp))) fun z hz=>hy z (by simp [hz])
  exact hg xs _ (fY zA (h x (by simp))) fun y hy=>h y (by simp [hy])
theorem aLU{t:Tm}(h:Ws t):t.k=3→okB t.s:=by
 obtain⟨k,n,s,ts⟩:=t
 intro h3
 rcases zD h.own.1 with h | h | h
 · have:k=3:=h3;omega
 · have:k=3:=h3;omega
 · exact aHY h.2.2.1
theorem aLT{t:Tm}(h:Ws t){i:Nat}(hi:i<t.ts.length):Ws (l8 t i):=by
 obtain⟨k,n,s,ts⟩:=t
 have hi':i<ts.length:=hi
 have:l8 (.mk k n s ts) i=ts[i]:=by
  show ts.getD i _=_
  rw[RF,eL hi']
  try rfl
 rw[this]
 exact h.own.2 _ (List.getElem_mem hi')
theorem aHZ:∀(n:Nat) (t:Tm),Ws t→okB (tx n t)
 | 0,t,_=>zA
 | n+1,t,h=>by
  have ih:=aHZ n
  unfold tx
  split
  · obtain⟨h1,h2,_⟩:=J4 n t h
    have ha:=aHW (T:=tx n) (spine n t).1 fun x hx=>ih x (h1 x hx)
    unfold CA
    split
    · exact fY (fY (by decide) ha) (by decide)
    · exact fY (fY (fY (fY (by decide) ha) (by decide)) (ih _ h2)) (by decide)
  split
  · rename_i hi
    simp only[tK,bD,bA] at hi
    have h0:=ih _ (aLT h (i:=0) (by omega))
    have h1:=ih _ (aLT h (i:=1) (by omega))
    have hb:∀(u:Tm) (lv:Nat),okB (tx n u)→okB (qK (tx n) u lv):=fun u lv hu=>by
     unfold qK
     split
     · exact fY (fY (by decide) hu) (by decide)
     · exact hu
    have hs:okB (oI t.s):=by
     unfold oI
     have:=aLU h hi.1
     split
     · exact fY (fY (by decide) this) (by decide)
     · exact this
    refine fY (fY ?_ hs) ?_
    · unfold wW
      split
      · exact fY (fY (by decide) h0) (by decide)
      · exact hb _ _ h0
    · unfold xB
      split
      · exact fY (fY (by decide) (hb _ _ h1)) (by decide)
      · exact hb _ _ h1
  split
  · rename_i hi
    simp only[HS,bD,bA] at hi
    refine fY (fY (fY (aLU h hi.1) (by decide)) (aHW _ fun x hx=>ih x ?_)) (by decide)
    obtain⟨k,m,s,ts⟩:=t
    exact h.own.2 x hx
  · obtain⟨k,m,s,ts⟩:=t
    unfold yY
    rcases zD h.own.1 with h | h | h
    · rw[aN (show(Tm.mk k m s ts).k=1 from h.1)]
      exact aHX h.2.1 (by have:m≤25:=h.2.2.1;show m<26;omega)
    · have h1:¬(Tm.mk k m s ts).k=1:=by show ¬k=1;omega
      rw[aK h1,aN (show(Tm.mk k m s ts).k=2 from h.1)]
      exact aZN m
    · have h1:¬(Tm.mk k m s ts).k=1:=by show ¬k=1;omega
      have h2:¬(Tm.mk k m s ts).k=2:=by show ¬k=2;omega
      rw[aK h1,aK h2]
      exact aHY h.2.2.1
theorem aZP{c:UInt8}(hc:lF c=true):∀l:List ByteArray,(∀x∈l,okB x)→okB (n8 c l):=by
 intro l h
 have hcb:okB ⟨#[c]⟩:=by
  show([c]:List UInt8).all lF=true
  simp [hc]
 have hg:∀(xs:List ByteArray) (o:ByteArray),okB o→(∀x∈xs,okB x)→okB (xs.foldl (fun o y=>(o++⟨#[c]⟩)++y) o):=by
  intro xs
  induction xs with
  | nil=>intro o ho _;exact ho
  | cons y ys ih=>intro o ho hy;exact ih _ (fY (fY ho hcb) (hy y (by simp))) fun z hz=>hy z (by simp [hz])
 cases l with
 | nil=>exact zA
 | cons x xs=>exact hg xs x (h x (by simp)) fun y hy=>h y (by simp [hy])
theorem aZO(q a:List Tm):okB (yM q a):=by
 unfold yM
 split
 · rename_i hf
   obtain⟨_,_,h3,h4,_⟩:=E6 hf
   unfold HR
   split
   · decide
   · refine aZP (by decide) _ fun x hx=>?_
     obtain⟨⟨v,t⟩,hp,rfl⟩:=cM.1 hx
     have hm:=List.of_mem_zip hp
     have hv:=h4 v hm.1
     have ht:=h3 t hm.2
     unfold mX
     exact fY (fY (aHX hv.1 hv.2) (by decide)) (aHZ 1000 t ⟨30,by simp only[Tm.valid,bD] at ht;exact ht.1⟩)
 · exact zA
end Go.AW
namespace Go.AW
open Go.Proofs.Tryz
def HZ(l:List Bt):ByteArray:=⟨(l.map fun x=>UInt8.ofNat x.val).toArray⟩
def eO:List Bt→Nat
 | x::y::_=>x.val*256+y.val
 | _=>0
def pI(b:List Bt):Fr:=((((b[2]?).map fun x=>(x.val:Int)).getD 0),HZ ((b.take (2+eO b)).drop 3))
def jH(b:List Bt):Int:=if b.length<2 then 0 else if eO b<1∨2001<eO b then -1 else if b.length<2+eO b then 0 else if iA (pI b)=true then((2+eO b:Nat):Int) else -1
def vN(b:List Bt):Fr:=if 0<jH b then pI b else(0,⟨#[]⟩)
theorem FQ{b:List Bt}{n:Int}(h:jH b=n)(h':n≤0):vN b=(0,⟨#[]⟩):=by
 unfold vN
 rw[aK (by omega)]
theorem JJ{b:List Bt}(h:b.length<2):jH b=0:=by
 unfold jH
 rw[aN h]
theorem CH{b:List Bt}(h:¬b.length<2)(h1:eO b<1∨2001<eO b):jH b= -1:=by
 unfold jH
 rw[aK h,aN h1]
theorem JK{b:List Bt}(h:¬b.length<2)(h1:¬(eO b<1∨2001<eO b))(h2:b.length<2+eO b):jH b=0:=by
 unfold jH
 rw[aK h,aK h1,aN h2]
theorem O3{b:List Bt}(h:¬b.length<2)(h1:¬(eO b<1∨2001<eO b))(h2:¬b.length<2+eO b):jH b=if iA (pI b)=true then((2+eO b:Nat):Int) else -1:=by
 unfold jH
 rw[aK h,aK h1,aK h2]
theorem aSR(x:Bt):lM prog 5 3 (.int .u8 (x.val:Int))=some (.int .i64 (x.val:Int)):=by
 have h:=x.isLt
 have hw:=jL (x:=(x.val:Int)) (m:=x.val) rfl (by omega)
 unfold lM
 simp only[Q7,uU3,hw]
theorem S5:∀l:List Bt,bytesOf (l.map bJ)=some (l.map fun x=>UInt8.ofNat x.val)
 | []=>rfl
 | x::l=>by
  simp only[bL,bJ,bytesOf]
  rw[S5 l]
  try rfl
theorem aSP(l:List Bt):lM prog 22 9 (.slice (l.map bJ))=some (.str (HZ l)):=by
 unfold lM
 simp only[Q6,nO,S5]
 rfl
theorem aLR(l:List Bt)(k:Nat):pZ (l.map bJ) k 1=true:=by
 unfold pZ
 rw[lK]
 cases l[k]?<;>rfl
theorem a1B{φ:AF}{x y:Operand}{l:List Bt}{k m:Nat}(hx:φ.eval x=.int .i64 (k:Int))(hy:φ.eval y=.int .i64 (m:Int))(h1:k≤m)(h2:m≤l.length):gJ prog φ 22 (.slice (l.map bJ)) (some x) (some y) none=some (.slice (((l.take m).drop k).map bJ)):=by
 have b1:dE φ none (l.map bJ).length (l.map bJ).length=some (l.map bJ).length:=rfl
 have b2:dE φ (some y) (l.map bJ).length (l.map bJ).length=some m:=by
  simp only[dE,hy,aE]
  rw[aN ⟨by omega,by omega⟩,gI]
 have b3:dE φ (some x) 0 m=some k:=by
  simp only[dE,hx]
  rw[aN ⟨by omega,by omega⟩,gI]
 unfold gJ nU
 rw[aK (by simp [qV])]
 simp only[iK,b1,b2,b3,aLR]
 simp
theorem a1C{φ:AF}{x:Operand}{l:List Bt}{k:Nat}(hx:φ.eval x=.int .i64 (k:Int))(h1:k≤l.length):gJ prog φ 22 (.slice (l.map bJ)) (some x) none none=some (.slice ((l.drop k).map bJ)):=by
 have b1:dE φ none (l.map bJ).length (l.map bJ).length=some (l.map bJ).length:=rfl
 have b3:dE φ (some x) 0 (l.map bJ).length=some k:=by
  simp only[dE,hx,aE]
  rw[aN ⟨by omega,by omega⟩,gI]
 unfold gJ nU
 rw[aK (by simp [qV])]
 simp only[iK,b1,b3,aLR]
 rw[d6]
 simp
abbrev sF:=zi aS (zi bV (zi gD (zi cH (zi kH oL))))
theorem TH(b:List Bt)(st:aA):aD prog 87 [.slice (b.map bJ)] st (fun r st'=>r=.tup [bO (vN b),.int .i64 (jH b)]∧st'=st):=by
 refine aD.jT ?_
 refine wF [1000000,2] 1 func87 ntmps87 rfl rfl ?_
 simp only[dS,AV.fits,dU,aE]
 intro ⟨hl,_⟩
 simp only[aE,aB,seval,sF]
 intro b2 hb2
 have hD:=fun o=>(aL.refl st).aC (o:=o) hb2
 by_cases h0:b.length<2
 case pos=>
  have h0':=bT (show(b.length:Int)<2 by omega)
  rw[FQ (JJ h0) (by omega),JJ h0]
  simp only[h0',aA.aH,bO,aG,aB,seval,sF]
  exact hD _
 have h0':=bG (show ¬(b.length:Int)<2 by omega)
 obtain⟨x,hx⟩:∃x,b[0]?=some x:=⟨_,eL (by omega)⟩
 obtain⟨y,hy⟩:∃y,b[1]?=some y:=⟨_,eL (by omega)⟩
 have hlf:eO b=x.val*256+y.val:=by
  match b,hx,hy with
  | x'::y'::_,hx,hy=>cases hx;cases hy;rfl
 have a44:=x.isLt
 have a46:=y.isLt
 have FC:dT prog 22 (.slice (b.map bJ)) (.int .i64 0)=some (.pptr (bJ x)):=bS (av:=bJ) (i:=0) iK hx rfl
 have OC:dT prog 22 (.slice (b.map bJ)) (.int .i64 1)=some (.pptr (bJ y)):=bS (av:=bJ) (i:=1) iK hy rfl
 have hw1:=jL (x:=(x.val:Int)) (m:=x.val) rfl (by omega)
 have hw2:=jL (x:=(x.val:Int)*256) (m:=x.val*256) (by omega) (by omega)
 have hw3:=jL (x:=(y.val:Int)) (m:=y.val) rfl (by omega)
 have hw4:=jL (x:=((x.val*256:Nat):Int)+(y.val:Int)) (m:=eO b) (by rw[hlf];omega) (by omega)
 have a4Z:eO b<65536:=by omega
 generalize hL:eO b=L at *
 have hw5:=jL (x:=2+(L:Int)) (m:=2+L) (by omega) (by omega)
 simp only[h0',bO,aB,seval]
 refine wP [(0,1),(1,1),(5,1),(6,1),(2,2),(3,1),(4,1),(7,2),(8,1),(9,1),(10,1)] [0,1,5,6,2,3,4,7,8,9,10] mixed ?_
 simp only[FC,OC,lM,bJ,hw1,hw2,hw3,hw4,aB,seval,sF]
 by_cases h1:L<1
 case pos=>
  have h1':=bT (show(L:Int)<1 by omega)
  rw[FQ (CH h0 (by omega)) (by omega),CH h0 (by omega)]
  simp only[h1',aZ,aG,aA.aH,aB,seval,sF]
  exact hD _
 have h1':=bG (show ¬(L:Int)<1 by omega)
 by_cases h2:2001<L
 case pos=>
  have h2':=bT (show(2001:Int)<(L:Int) by omega)
  rw[FQ (CH h0 (by omega)) (by omega),CH h0 (by omega)]
  simp only[h1',h2',aZ,bB,dV,aG,aA.aH,aB,seval,sF]
  exact hD _
 have h2':=bG (show ¬(2001:Int)<(L:Int) by omega)
 by_cases h3:b.length<2+L
 case pos=>
  have h3':=bT (show(b.length:Int)<((2+L:Nat):Int) by omega)
  rw[FQ (JK h0 (by omega) (by omega)) (by omega),JK h0 (by omega) (by omega)]
  simp only[h1',h2',h3',aZ,bB,dV,aE,aG,hw5,aA.aH,aB,seval,sF]
  exact hD _
 have h3':=bG (show ¬(b.length:Int)<((2+L:Nat):Int) by omega)
 have hN:=O3 h0 (by omega) (by omega)
 obtain⟨z,hz⟩:∃z,b[2]?=some z:=⟨_,eL (by omega)⟩
 have OD:dT prog 22 (.slice (b.map bJ)) (.int .i64 2)=some (.pptr (bJ z)):=bS (av:=bJ) (i:=2) iK hz rfl
 have a47:=z.isLt
 have hw6:=jL (x:=(z.val:Int)) (m:=z.val) rfl (by omega)
 have hff:pI b=((z.val:Int),HZ ((b.take (2+L)).drop 3)):=by unfold pI;rw[hz,hL];try rfl
 have hv:=fun st=>M4 (pI b) st
 have hsl:=fun φ h1 h2=>a1B (φ:=φ) (x:=.const (.int .i64 3)) (y:=.tmp 39) (l:=b) (k:=3) (m:=2+L) h1 h2 (by omega) (by omega)
 have hcv:=aSP ((b.take (2+L)).drop 3)
 simp only[h1',h2',bB,dV,aE,hw5,aB,seval,sF]
 simp only[h3',aB,seval]
 refine wX [(0,1),(1,1),(2,1),(3,1),(4,1),(5,1),(6,1),(7,1),(8,1),(9,1),(10,0),(11,2)] [0,1,2,3,4,5,6,7,8,9] eF mixed rfl d4 ?_
 simp only[OD,aSR,bJ,hw5,aB,seval,sF]
 rw[hsl _ (by rfl) (by simp only[aB,seval])]
 simp only[aG,hcv,aA.aH,dW,aB,seval,sF]
 intro b5 hb5
 refine⟨d4,?_⟩
 have hne:b2≠b5:=fun h=>by rw[h,aA.aH] at hb5;cases hb5
 have h5:st b5=none:=by rw[aA.aJ _ _ hne.symm] at hb5;exact hb5
 have hDD:=fun o o'=>((aL.refl st).aC (o:=o) hb2).aC (o:=o') h5
 have e2:∀o o',((st.aC b2 o).aC b5 o') b2=some o:=fun o o'=>by rw[aA.aJ _ _ hne,aA.aH]
 have e3:∀o o' o'',((st.aC b2 o).aC b5 o').aC b2 o''=(st.aC b2 o'').aC b5 o':=fun o o' o''=>by rw[aA.sK _ _ _ hne.symm,dW]
 rw[hff] at hN hv
 rw[hL] at hN
 simp only[bO] at hv
 refine(hv _).to ?_
 cases hfo:iA ((z.val:Int),HZ ((b.take (2+L)).drop 3)) with
 | false=>
  rw[hfo,aK (by simp)] at hN
  rw[FQ hN (by omega),hN]
  simp only[eK,aG,e2,e3,aB,seval,sF]
  exact hDD _ _
 | true=>
  rw[hfo,aN rfl] at hN
  rw[show vN b=pI b by unfold vN;rw[aN (by omega)],hN,hff]
  simp only[eA,aG,hw5,e2,e3,aB,seval,sF]
  exact hDD _ _

end Go.AW
namespace Go.AW
def kJ(t:Tm):ByteArray:=tx 130 t
def o0(T:Tm→ByteArray)(h:ByteArray):List Tm→ByteArray
 | []=>h
 | x::xs=>xs.foldl (fun o y=>(o++⟨#[44]⟩)++T y) ((h++⟨#[58,45]⟩)++T x)
def BN(c:Cl):ByteArray:=o0 kJ (kJ c.1) c.2++⟨#[46]⟩
def fmtC(c:Cl):ByteArray:=if jS c then BN c else⟨#[]⟩
def F0(l:List UInt8):kL:=fun a=>rd l (4*l.length+4) 30 a 3
def r0(l:List UInt8):Nat→Nat→List Tm→Option (List Tm×Nat)
 | 0,_,_=>none
 | m+1,a,acc=>match F0 l a with
  | none=>none
  | some (t,e)=>if cD l e 44 then r0 l m (e+1) (acc++ [t]) else some (acc++ [t],e)
def rW(l:List UInt8):Option (Cl×Nat):=
 match F0 l 0 with
 | none=>none
 | some (h,e)=>if(cD l e 58&&cD l (e+1) 45)=true then match r0 l 7 (e+2) [] with
  | none=>none
  | some (b,e2)=>some ((h,b),e2)
  else some ((h,[]),e)
def nF(l:List UInt8):Option Cl:=match rW l with
 | none=>none
 | some (c,e)=>if l.length≤1000∧e+1=l.length∧cD l e 46=true∧sb (fmtC c)=l then some c else none
def lO(c:Nat):List UInt8→List UInt8→List (List UInt8)
 | [],acc=>[acc]
 | x::l,acc=>if x.toNat=c then acc::lO c l [] else lO c l (acc++ [x])
def yZ:List (List UInt8)→List Cl→Option (List Cl)
 | [],acc=>some acc
 | l::ls,acc=>match nF l with
  | none=>none
  | some c=>yZ ls (acc++ [c])
def oE(l:List UInt8):Option (List Cl):=
 let ls:=lO 10 l []
 if 21<ls.length∨ls.getLast?≠some [] then none else yZ ls.dropLast []
def lH(l:List UInt8):Option (List Tm):=match r0 l 7 0 [] with
 | none=>none
 | some (g,e)=>if l.length≤1000∧e=l.length∧eP g=true then some g else none
theorem aOF{T:Tm→ByteArray}{h:ByteArray}{l:List Tm}{i:Nat}{x:Tm}(hx:l[i]?=some x):o0 T h (l.take (i+1))=(if i=0 then o0 T h (l.take i)++⟨#[58,45]⟩ else o0 T h (l.take i)++⟨#[44]⟩)++T x:=by
 rw[eS,hx]
 cases l with
 | nil=>simp at hx
 | cons y l=>
  cases i with
  | zero=>simp at hx;subst hx;rfl
  | succ i=>
   rw[aK (by omega),uE]
   simp only[o0,LY,fU,HA,uC,List.foldl_nil]
theorem S3{T:Tm→ByteArray}{h:ByteArray}{l:List Tm}{m:Nat}(hT:∀x∈l,(T x).size≤m):(o0 T h l).size≤h.size+l.length*(m+2):=by
 have hg:∀(xs:List Tm) (o:ByteArray),(∀x∈xs,(T x).size≤m)→(xs.foldl (fun o y=>(o++⟨#[44]⟩)++T y) o).size≤o.size+xs.length*(m+2):=by
  intro xs
  induction xs with
  | nil=>intro o _;simp
  | cons x xs ih=>
   intro o hx
   refine lZ (ih _ fun y hy=>hx y (by simp [hy])) ?_
   rw[cG,cG]
   have:=hx x (by simp)
   simp only[aX,qA]
   show o.size+1+_+_≤_
   omega
 cases l with
 | nil=>simp [o0]
 | cons x l=>
  refine lZ (hg l _ fun y hy=>hT y (by simp [hy])) ?_
  rw[cG,cG]
  have:=hT x (by simp)
  simp only[aX,qA]
  show h.size+2+_+_≤_
  omega
theorem aLI{t:Tm}(h:t.valid=true):Ws t∧t.nodes≤120:=by
 simp only[Tm.valid,bD,bA] at h
 exact⟨⟨_,h.1⟩,h.2⟩
theorem FA{t:Tm}(h:t.goal=true):t.valid=true:=by
 obtain⟨k,n,s,ts⟩:=t
 simp only[Tm.goal,bD] at h
 exact h.1
theorem aSL{c:Cl}(h:jS c=true):(Ws c.1∧c.1.nodes≤120)∧c.2.length≤6∧∀x∈c.2,Ws x∧x.nodes≤120:=by
 simp only[jS,bD,bA,c6] at h
 exact⟨aLI h.1.1,h.2.1,fun x hx=>aLI (FA (h.2.2 x hx))⟩
theorem IU{l:List UInt8}(hl:l.length≤1000):∀(m a:Nat) (acc ts:List Tm) (e:Nat),a≤l.length→(∀x∈acc,Dn x)→r0 l m a acc=some (ts,e)→a<e∧e≤l.length∧(∀x∈ts,Dn x)∧ts.length≤acc.length+m:=by
 intro m
 induction m with
 | zero=>intro a acc ts e _ _ h;cases h
 | succ m ih=>
  intro a acc ts e ha OA h
  unfold r0 at h
  split at h
  · cases h
  rename_i t e1 h1
  obtain⟨h2,h3,h4⟩:=zG hl _ _ _ a t e1 ha h1
  have FB:∀x∈acc++ [t],Dn x:=by intro x hx;rw[fG] at hx;rcases hx with hx | hx;exact OA x hx;rw[LW] at hx;subst hx;exact h4
  split at h
  · rename_i h5
    have h6:=nB h5
    obtain⟨g1,g2,g3,g4⟩:=ih (e1+1) _ ts e (by omega) FB h
    rw[dO,LV] at g4
    exact⟨by omega,g2,g3,by omega⟩
  · cases h
    exact⟨h2,h3,FB,by rw[dO,LV];omega⟩
abbrev yF (c:Cl):Prop:=Dn c.1∧c.2.length≤7∧∀x∈c.2,Dn x
theorem IA{l:List UInt8}(hl:l.length≤1000){c:Cl}{e:Nat}(h:rW l=some (c,e)):0<e∧e≤l.length∧yF c:=by
 unfold rW at h
 split at h
 · cases h
 rename_i t e1 h1
 obtain⟨h2,h3,h4⟩:=zG hl _ _ _ 0 t e1 (iI _) h1
 split at h
 · rename_i h5
   rw[bD] at h5
   have h6:=nB h5.2
   split at h
   · cases h
   rename_i b e2 h7
   obtain⟨g1,g2,g3,g4⟩:=IU hl _ _ _ _ _ (by omega) (by simp) h7
   cases h
   exact⟨by omega,g2,h4,by rw[a8] at g4;show b.length≤7;omega,g3⟩
 · cases h
   exact⟨h2,h3,h4,by show 0≤7;omega,by intro x hx;cases hx⟩
theorem aH7{l:List UInt8}{c:Cl}(h:nF l=some c):yF c∧jS c=true:=by
 unfold nF at h
 split at h
 · cases h
 rename_i c' e h1
 split at h
 · rename_i h2
   cases h
   refine⟨(IA h2.1 h1).2.2,?_⟩
   have h3:=h2.2.2.2
   unfold fmtC at h3
   split at h3
   · assumption
   · have:=rX List.length h3
     simp at this
     omega
 · cases h
theorem UV(c:Nat):∀(l acc:List UInt8),lO c l acc≠[]
 | [],acc=>by simp [lO]
 | x::l,acc=>by unfold lO;split<;>simp [UV c l]
theorem ND(c:Nat):∀(l acc:List UInt8),(lO c l acc).length≤l.length+1
 | [],acc=>by simp [lO]
 | x::l,acc=>by unfold lO;split;have:=ND c l [];simp only[aX];omega;have:=ND c l (acc++ [x]);simp only[aX];omega
end Go.AW
namespace Go.AW
open Go.Proofs.Tryz
theorem UL{t:Tm}(h:Ws t∧t.nodes≤120)(st:aA):aD prog 263 [t.av] st (fun r st'=>r=.str (kJ t)∧st'=st):=M0 130 t st h.1 (by omega) (by omega)
theorem LA{t:Tm}(h:Ws t∧t.nodes≤120):(kJ t).size≤3840:=by have:=xP 130 t h.1;unfold kJ;omega
abbrev KN:=zi aS (zi cH (zi cB (zi cC lV)))
set_option maxHeartbeats 1000000 in
theorem T0(c:Cl)(hc:(Ws c.1∧c.1.nodes≤120)∧c.2.length≤6∧∀x∈c.2,Ws x∧x.nodes≤120)(st:aA):aD prog 230 [aF c] st (fun r st'=>r=.str (BN c)∧st'=st):=by
 obtain⟨⟨k,n,s,ks⟩,ts⟩:=c
 obtain⟨hh,hl,hb⟩:=hc
 simp only at hh hl hb
 have hhd:=fun st=>UL hh st
 have hhs:=LA hh
 unfold BN
 simp only
 generalize kJ (.mk k n s ks)=H at *
 simp only[bU] at hhd
 simp only[gK]
 have hm:maxLen=9223372036854775807:=by rfl
 refine wF [1000000] 1 func230 ntmps230 rfl rfl ?_
 intro _
 simp only[aB,seval,KN]
 refine(hhd _).to ?_
 simp only[aB,seval]
 refine dX (σ:=Unit) [1000000] [1,2] ts (fun i _=>True) (fun i _=>[(3,.str (o0 kJ H (ts.take i))),(4,.int .i64 i)]) (fun _ _=>st) (by decide +kernel) ⟨(),trivial,aO.mk (by simp only[mK,aB,↓aU,seval]<;>rfl)⟩ (fun i x _ hx hlt bP hdr hinv=>?_) (fun _ hge hinv=>?_)
 case refine_2=>
  rw[d6]
  have hsz:=S3 (T:=kJ) (h:=H) (l:=ts) (m:=3840) fun x hx=>LA (hb x hx)
  have hs:(o0 kJ H ts).size+(⟨#[46]⟩:ByteArray).size≤maxLen:=by
   have:ts.length*(3840+2)≤6*3842:=wA _ hl
   show _+1≤_;omega
  simp only[aE,hge,hs,↓reduceIte,aB,seval,KN]
 have hxm:=cQ hx
 have c1:=fun st=>UL (hb x hxm) st
 have c2:=LA (hb x hxm)
 have hw:=bC (n:=(i:Int)+1)
 have hat:=bS (av:=Tm.av) cF hx (aP x)
 have fC:=aOF (T:=kJ) (h:=H) hx
 have hsz:=S3 (T:=kJ) (h:=H) (l:=ts.take i) (m:=3840) fun y hy=>LA (hb y (lY hy))
 have hln:(ts.take i).length*(3840+2)≤6*3842:=wA _ (by rw[dK];omega)
 generalize o0 kJ H (ts.take i)=B at *
 generalize kJ x=X at *
 have hs1:B.size+(⟨#[44]⟩:ByteArray).size≤maxLen:=by show _+1≤_;omega
 have hs2:(B++(⟨#[44]⟩:ByteArray)).size+X.size≤maxLen:=by rw[cG];show _+1+_≤_;omega
 have hs3:B.size+(⟨#[58,45]⟩:ByteArray).size≤maxLen:=by show _+2≤_;omega
 have hs4:(B++(⟨#[58,45]⟩:ByteArray)).size+X.size≤maxLen:=by rw[cG];show _+2+_≤_;omega
 by_cases h0:i=0
 · rw[aN h0] at fC
   have h0':((i:Int)=0)=True:=bT (by omega)
   simp only[aE,hat,bM,aP,bP,h0',hs3,↓reduceIte,aZ,aB,seval,KN]
   refine(c1 _).to ?_
   simp only[hs4,↓reduceIte,aB,seval]
   exact⟨(),aO.mk (by simp only[hw,fC,↓reduceIte,aB,seval])⟩
 · rw[aK h0] at fC
   have h0':((i:Int)=0)=False:=bG (by omega)
   simp only[aE,hat,bM,aP,bP,h0',hs1,↓reduceIte,aZ,bB,aB,seval,KN]
   refine(c1 _).to ?_
   simp only[hs2,↓reduceIte,aB,seval]
   exact⟨(),aO.mk (by simp only[hw,fC,↓reduceIte,aB,seval])⟩
abbrev QP:=zi bV (zi cH lV)
theorem MR(c:Cl)(st:aA):aD prog 202 [aF c] st (fun r st'=>r=.str (fmtC c)∧st'=st):=by
 have hv:=UF c
 unfold fmtC
 cases h:jS c with
 | true=>
  rw[h] at hv
  have ht:=T0 c (aSL h)
  rw[aN rfl]
  obtain⟨⟨k,n,s,ks⟩,ts⟩:=c
  simp only[gK] at hv ht ⊢
  refine wF [1000000] 1 func202 ntmps202 rfl rfl ?_
  intro _
  simp only[aB,seval,QP]
  refine(hv _).to ?_
  simp only[aB,seval,QP]
  refine(ht _).to ?_
  simp only[aB,seval]
 | false=>
  rw[h] at hv
  rw[aK (by decide)]
  obtain⟨⟨k,n,s,ks⟩,ts⟩:=c
  simp only[gK] at hv ⊢
  refine wF [1000000] 1 func202 ntmps202 rfl rfl ?_
  intro _
  simp only[aB,seval,QP]
  refine(hv _).to ?_
  simp only[aB,seval]
theorem UD{s:ByteArray}(hs:s.size≤1000)(a:Nat)(ha:a≤s.size)(st:aA):aD prog 136 [.str s,.int .i64 (a:Int),.int .i64 30,.int .i64 3] st (fun r st'=>lL (F0 (sb s) a) r∧st'=st):=
 aQX hs (4*(sb s).length+4) 30 a 3 st ha (by omega) (by omega) (by rw[b9];omega)
def rL(o:Option (List Tm×Nat))(r:AV):Prop:=match o with | some (ts,e)=>r=.tup [.slice (ts.map Tm.av),.int .i64 (e:Int)] | none=>r=.tup [.slice [],.int .i64 (-1)]
abbrev QQ:=zi aS (zi bV (zi gD (zi vY (zi cH (zi iE (zi cB cC))))))
set_option maxHeartbeats 1000000 in
theorem TY{s:ByteArray}(hs:s.size≤1000)(a:Nat)(ha:a≤s.size)(st:aA):aD prog 88 [.str s,.int .i64 (a:Int)] st (fun r st'=>rL (r0 (sb s) 7 a []) r∧st'=st):=by
 generalize hT:r0 (sb s) 7 a []=T
 refine aD.drop (Q:=rL T) (aD.fin ?_)
 refine wF [1000000] 2 func88 ntmps88 rfl rfl ?_
 intro _
 simp only[aB,seval,QQ]
 refine i8 (σ:=Nat×List Tm×Nat×Nat) [1000000] [0] (fun x=>r0 (sb s) x.2.2.1 x.1 x.2.1=T∧x.1≤s.size∧x.2.1.length+x.2.2.1=7∧(x.2.1.map Tm.av≠[]→st x.2.2.2=none)) (fun x=>[(1,.int .i64 (x.1:Int)),(4,.fslice []),(5,.int .i64 0),(6,bK 4 x.2.2.2 (x.2.1.map Tm.av))]) (fun x=>a9 st x.2.2.2 (x.2.1.map Tm.av)) (fun x=>x.2.2.1) (by decide +kernel) ⟨(a,[],7,0),⟨hT,ha,rfl,by simp⟩,aO.mk (by simp only[bE,j8,aB,seval])⟩ ?_
 rintro⟨i,acc,m,b⟩ ⟨ht,hi,hlen,hb⟩
 simp only at ht hi hlen hb ⊢
 have fin:∀(l:List Tm) (b':Nat) (r':AV),(l.map Tm.av≠[]→st b'=none)→rL T (r'.fin b' (l.map Tm.av))→∃b2 l2 s0,a9 st b' (l.map Tm.av)=a9 s0 b2 l2∧(l2≠[]→s0 b2=none)∧(∀e∈l2,e.bR=false)∧gW l2∧aL s0 st∧rL T (r'.fin b2 l2):=fun l b' r' h1 h2=>⟨b',_,st,rfl,h1,oM _,⟨4,gE _⟩,aL.refl _,h2⟩
 have hTn:T=none→∀(b':Nat) (l:List AV),rL T ((AV.tup [.fslice [],.int .i64 (-1)]).fin b' l):=by
  rintro rfl b' l
  simp only[rL,gB,fW,pF,bL,bE]
 have hln:(acc.map Tm.av).length=acc.length:=aE _
 have hal:=EN (P:=prog) (b:=b) (w:=4) (l:=acc.map Tm.av) a22
 rw[hln] at hal
 by_cases h6:acc.length≤6
 case neg=>
  have h6':((acc.length:Int)≤6)=False:=bG (by omega)
  obtain rfl:m=0:=by omega
  simp only[hal,h6',bB,aB,seval]
  exact fin _ _ _ hb (hTn ht.symm _ _)
 have h6':((acc.length:Int)≤6)=True:=bT (by omega)
 obtain⟨m,rfl⟩:∃m',m=m'+1:=⟨m - 1,by omega⟩
 simp only[r0] at ht
 simp only[hal,h6',aZ,aB,seval]
 refine(UD hs i hi _).mono ?_
 rintro r _ ⟨hr,rfl⟩
 cases hRi:F0 (sb s) i with
 | none=>
  rw[hRi] at ht hr
  obtain⟨k,hk,rfl⟩:=hr
  have hk0:((-1 - (k:Int))<0)=True:=bT (by omega)
  simp only[aP,cR,cT,hk0,kR,aZ,aB,↓aU,seval,QQ]
  exact fin _ _ _ hb (hTn ht.symm _ _)
 | some p=>
  obtain⟨t,e⟩:=p
  rw[hRi] at ht hr
  simp only at ht
  obtain⟨g1,g2,g3⟩:=zG (by rw[b9];exact hs) _ _ _ i t e (by rw[b9];exact hi) hRi
  rw[b9] at g2
  simp only[lL] at hr
  subst hr
  have he0:((e:Int)<0)=False:=bG (by omega)
  simp only[bM,aP,cR,cT,he0,eK,sI,bB,aB,↓aU,seval,QQ]
  refine eY cF kP kQ rfl rfl (gN (aP _) (cR _)) (gE _) hb (by simp only[aE,aX,a8];omega) (by simp only[aE,aX,a8];omega) (fun b' hb'=>?_)
  rw[show acc.map Tm.av++ [t.av]=(acc++ [t]).map Tm.av by simp] at hb' ⊢
  have hw1:=bC (n:=(e:Int)+1)
  simp only[aB,seval]
  refine(kE s e 44 _).to ?_
  cases h3:cD (sb s) e 44 with
  | true=>
   have h4:=nB h3
   rw[b9] at h4
   rw[h3,aN rfl] at ht
   simp only[hw1,aB,seval]
   refine⟨(e+1,acc++ [t],m,b'),by simp only;omega,⟨ht,by simp only;omega,by simp only[dO,aX,a8];omega,hb'⟩,aO.mk (by simp only[aB,seval]<;>rfl)⟩
  | false=>
   rw[h3,aK (by decide)] at ht
   simp only[l6,eK,sI,aB,seval]
   refine fin _ _ _ hb' ?_
   subst ht
   simp only[rL,gB,fW,lP,bL,bE]
abbrev cl0:Cl:=(GT,[])
def xT(o:Option Cl):AV:=match o with | some c=>.tup [aF c,.bool true] | none=>.tup [aF cl0,.bool false]
theorem qL:(AV.tup [.agg [.int .i64 0,.int .i64 0,.str ⟨#[]⟩,.fslice [],.fslice []],.bool false]).soft=xT none:=by simp only[xT,gK,jV,kG,jW,sD,nJ,nI,bL,bE]
theorem NB(c:Cl):(AV.tup [aF c,.bool true]).soft=xT (some c):=by
 obtain⟨⟨k,n,s,ks⟩,ts⟩:=c
 simp only[xT,gK,jV,kG,jW,sD,nJ,pV,bL,bE]
theorem vR{l:List UInt8}{c:Cl}{e:Nat}(h:rW l=some (c,e))(h1:¬(l.length≤1000∧e+1=l.length∧cD l e 46=true∧sb (fmtC c)=l)):nF l=none:=by
 unfold nF
 rw[h]
 simp only
 rw[aK h1]
theorem PE{l:List UInt8}{c:Cl}{e:Nat}(h:rW l=some (c,e))(h1:l.length≤1000∧e+1=l.length∧cD l e 46=true∧sb (fmtC c)=l):nF l=some c:=by
 unfold nF
 rw[h]
 simp only
 rw[aN h1]
theorem PU{a b:ByteArray}(h:sb a=sb b):a=b:=by rw[←SW a,←SW b,h]
abbrev iD:=zi aS (zi bV (zi gD (zi vY (zi cH (zi iE (zi cB (zi oK (zi cC lV))))))))
set_option maxHeartbeats 2000000 in
theorem aO4(s:ByteArray)(st:aA):aD prog 146 [.str s] st (fun r st'=>r=xT (nF (sb s))∧st'=st):=by
 refine aD.done ?_
 refine wF [1000000,6] 1 func146 ntmps146 rfl rfl ?_
 intro _
 simp only[aB,seval,iD]
 intro b2 hb2
 have hD:=fun(o:AO)=>(aL.refl st).aC (o:=o) hb2
 by_cases hs:s.size≤1000
 case neg=>
  have hs':((1000:Int)<(s.size:Int))=True:=bT (by omega)
  have hP:nF (sb s)=none:=by
   unfold nF
   split
   · rfl
   · rw[aK fun h=>hs (by rw[←b9];exact h.1)]
  rw[hP]
  simp only[aG,hs',aZ,aB,seval,iD]
  exact⟨qL,hD _⟩
 have hs':((1000:Int)<(s.size:Int))=False:=bG (by omega)
 have h0:=fun st=>UD hs 0 (iI _) st
 rw[show((0:Nat):Int)=0 from rfl] at h0
 simp only[hs',bB,aB,seval]
 refine(h0 _).mono ?_
 rintro r _ ⟨hr,rfl⟩
 cases hRi:F0 (sb s) 0 with
 | none=>
  have hP:nF (sb s)=none:=by unfold nF rW;rw[hRi]
  rw[hP]
  rw[hRi] at hr
  obtain⟨k,hk,rfl⟩:=hr
  have hk0:((-1 - (k:Int))<0)=True:=bT (by omega)
  simp only[aG,aP,cR,cT,hk0,kR,aZ,aB,↓aU,seval,iD]
  exact⟨qL,hD _⟩
 | some p=>
  obtain⟨⟨hk,hn,hsn,hts⟩,e⟩:=p
  rw[hRi] at hr
  simp only[lL,bU] at hr
  subst hr
  obtain⟨g1,g2,g3⟩:=zG (by rw[b9];exact hs) _ _ _ 0 _ e (iI _) hRi
  rw[b9] at g2
  have he0:((e:Int)<0)=False:=bG (by omega)
  obtain⟨f1,hf1⟩:∃f1,f1=e+1:=⟨_,rfl⟩
  obtain⟨f2,hf2⟩:∃f2,f2=e+2:=⟨_,rfl⟩
  have hw1:=jL (x:=(e:Int)+1) (m:=f1) (by omega) (by omega)
  have hw2:=jL (x:=(e:Int)+2) (m:=f2) (by omega) (by omega)
  simp only[aG,he0,bB,aB,↓aU,seval,iD]
  intro b6 h6
  have hbb:b6≠b2:=fun h=>by rw[h,aA.aH] at h6;cases h6
  have h6':st b6=none:=by rwa [aA.aJ _ _ hbb] at h6
  have hE:∀o1 o2 o3,aL (((st.aC b2 o1).aC b6 o2).aC b2 o3) st:=fun o1 o2 o3=>((hD _).aC h6').aC hb2
  refine(kE s e 58 _).to ?_
  by_cases hbd:(cD (sb s) e 58&&cD (sb s) (e+1) 45)=true
  case neg=>
   obtain⟨b,hb⟩:∃b:List Tm,b= []:=⟨_,rfl⟩
   have hcl:rW (sb s)=some ((.mk hk hn hsn hts,b),e):=by
    unfold rW
    rw[hRi,hb]
    simp only
    rw[aK hbd]
   obtain⟨e2,he2⟩:∃e2,e2=e:=⟨_,rfl⟩
   rw[←he2] at hcl
   cases h58:cD (sb s) e 58 with
   | false=>
    simp only[aB,seval,iD]
    rw[←he2]
    have hdn:=(IA (by rw[b9];exact hs) hcl).2.2
    have hwl:=bC (n:=(s.size:Int) - 1)
    by_cases he:e2+1=s.size
    case neg=>
     rw[vR hcl (fun h=>he (by rw[b9] at h;exact h.2.1))]
     have he':((e2:Int)=(s.size:Int) - 1)=False:=bG (by omega)
     simp only[aG,hwl,he',hbb.symm,bB,aB,seval,iD]
     exact⟨qL,hE _ _ _⟩
    have he':((e2:Int)=(s.size:Int) - 1)=True:=bT (by omega)
    simp only[hwl,he',aZ,aB,seval]
    refine(kE s e2 46 _).to ?_
    cases hd:cD (sb s) e2 46 with
    | false=>
     rw[vR hcl (fun h=>by rw[hd] at h;exact absurd h.2.2.1 (by decide))]
     simp only[aG,hbb.symm,aB,seval,iD]
     exact⟨qL,hE _ _ _⟩
    | true=>
     simp only[aB,seval,iD]
     refine(aD.oG (by rw[show fT [AV.agg [.int .i64 hk,.int .i64 hn,.str hsn,.slice (hts.map Tm.av),.fslice []]]= [aF (.mk hk hn hsn hts,b)] by simp only[fT,gK,hb,jV,jW,nJ,pV,nI,bL,bE]];exact MR (.mk hk hn hsn hts,b) _):aD prog 202 _ _ _).to ?_
     by_cases hf:fmtC (.mk hk hn hsn hts,b)=s
     case neg=>
      rw[vR hcl (fun h=>hf (PU h.2.2.2))]
      have hf':=bG hf
      simp only[aG,hf',hbb.symm,bB,aB,seval,iD]
      exact⟨qL,hE _ _ _⟩
     rw[PE hcl ⟨by rw[b9];exact hs,by rw[b9];exact he,hd,by rw[hf]⟩]
     have hf':=bT hf
     simp only[hf',aZ,aB,seval,iD]
     refine(aD.oG (by rw[show fT [AV.agg [.int .i64 hk,.int .i64 hn,.str hsn,.slice (hts.map Tm.av),.fslice []]]= [aF (.mk hk hn hsn hts,b)] by simp only[fT,gK,hb,jV,jW,nJ,pV,nI,bL,bE]];exact BG (.mk hk hn hsn hts,b) hdn.1.2 (by have:=hdn.2.1;omega) (fun x hx=>(hdn.2.2 x hx).2) _):aD prog 123 _ _ _).to ?_
     rw[gK]
     simp only[aG,hbb.symm,aB,seval,iD]
     rw[←gK]
     exact⟨NB _,hE _ _ _⟩
   | true=>
    simp only[hw1,aB,seval]
    refine(kE s f1 45 _).to ?_
    rw[h58,cZ,←hf1] at hbd
    rw[show cD (sb s) f1 45=false by simpa using hbd]
    simp only[aB,seval,iD]
    rw[←he2]
    have hdn:=(IA (by rw[b9];exact hs) hcl).2.2
    have hwl:=bC (n:=(s.size:Int) - 1)
    by_cases he:e2+1=s.size
    case neg=>
     rw[vR hcl (fun h=>he (by rw[b9] at h;exact h.2.1))]
     have he':((e2:Int)=(s.size:Int) - 1)=False:=bG (by omega)
     simp only[aG,hwl,he',hbb.symm,bB,aB,seval,iD]
     exact⟨qL,hE _ _ _⟩
    have he':((e2:Int)=(s.size:Int) - 1)=True:=bT (by omega)
    simp only[hwl,he',aZ,aB,seval]
    refine(kE s e2 46 _).to ?_
    cases hd:cD (sb s) e2 46 with
    | false=>
     rw[vR hcl (fun h=>by rw[hd] at h;exact absurd h.2.2.1 (by decide))]
     simp only[aG,hbb.symm,aB,seval,iD]
     exact⟨qL,hE _ _ _⟩
    | true=>
     simp only[aB,seval,iD]
     refine(aD.oG (by rw[show fT [AV.agg [.int .i64 hk,.int .i64 hn,.str hsn,.slice (hts.map Tm.av),.fslice []]]= [aF (.mk hk hn hsn hts,b)] by simp only[fT,gK,hb,jV,jW,nJ,pV,nI,bL,bE]];exact MR (.mk hk hn hsn hts,b) _):aD prog 202 _ _ _).to ?_
     by_cases hf:fmtC (.mk hk hn hsn hts,b)=s
     case neg=>
      rw[vR hcl (fun h=>hf (PU h.2.2.2))]
      have hf':=bG hf
      simp only[aG,hf',hbb.symm,bB,aB,seval,iD]
      exact⟨qL,hE _ _ _⟩
     rw[PE hcl ⟨by rw[b9];exact hs,by rw[b9];exact he,hd,by rw[hf]⟩]
     have hf':=bT hf
     simp only[hf',aZ,aB,seval,iD]
     refine(aD.oG (by rw[show fT [AV.agg [.int .i64 hk,.int .i64 hn,.str hsn,.slice (hts.map Tm.av),.fslice []]]= [aF (.mk hk hn hsn hts,b)] by simp only[fT,gK,hb,jV,jW,nJ,pV,nI,bL,bE]];exact BG (.mk hk hn hsn hts,b) hdn.1.2 (by have:=hdn.2.1;omega) (fun x hx=>(hdn.2.2 x hx).2) _):aD prog 123 _ _ _).to ?_
     rw[gK]
     simp only[aG,hbb.symm,aB,seval,iD]
     rw[←gK]
     exact⟨NB _,hE _ _ _⟩
  rw[bD,←hf1] at hbd
  have aW5:=nB hbd.2
  rw[b9] at aW5
  rw[hbd.1]
  simp only[hw1,aB,seval]
  refine(kE s f1 45 _).to ?_
  rw[hbd.2]
  simp only[hw2,aB,seval]
  refine(TY hs f2 (by omega) _).mono ?_
  rintro r _ ⟨hr,rfl⟩
  cases hG:r0 (sb s) 7 f2 [] with
  | none=>
   have hP:nF (sb s)=none:=by
    unfold nF rW
    rw[hRi]
    simp only
    rw[aN (by rw[←hf1,hbd.1,hbd.2];try rfl),←hf2,hG]
   rw[hP]
   rw[hG] at hr
   simp only[rL] at hr
   subst hr
   have hwl:=bC (n:=(s.size:Int) - 1)
   have he':((-1:Int)=(s.size:Int) - 1)=False:=bG (by omega)
   simp only[aG,hwl,he',hbb.symm,bB,aB,seval,iD]
   exact⟨qL,hE _ _ _⟩
  | some p=>
   obtain⟨b,e2⟩:=p
   rw[hG] at hr
   simp only[rL] at hr
   subst hr
   have hcl:rW (sb s)=some ((.mk hk hn hsn hts,b),e2):=by
    unfold rW
    rw[hRi]
    simp only
    rw[aN (by rw[←hf1,hbd.1,hbd.2];try rfl),←hf2,hG]
   have hg2:=IU (by rw[b9];exact hs) _ _ _ _ _ (by rw[b9];omega) (by simp) hG
   rw[b9] at hg2
   simp only[aG,aB,seval,iD]
   have hdn:=(IA (by rw[b9];exact hs) hcl).2.2
   have hwl:=bC (n:=(s.size:Int) - 1)
   by_cases he:e2+1=s.size
   case neg=>
    rw[vR hcl (fun h=>he (by rw[b9] at h;exact h.2.1))]
    have he':((e2:Int)=(s.size:Int) - 1)=False:=bG (by omega)
    simp only[aG,hwl,he',hbb.symm,bB,aB,seval,iD]
    exact⟨qL,hE _ _ _⟩
   have he':((e2:Int)=(s.size:Int) - 1)=True:=bT (by omega)
   simp only[hwl,he',aZ,aB,seval]
   refine(kE s e2 46 _).to ?_
   cases hd:cD (sb s) e2 46 with
   | false=>
    rw[vR hcl (fun h=>by rw[hd] at h;exact absurd h.2.2.1 (by decide))]
    simp only[aG,hbb.symm,aB,seval,iD]
    exact⟨qL,hE _ _ _⟩
   | true=>
    simp only[aB,seval,iD]
    refine(aD.oG (by rw[show fT [AV.agg [.int .i64 hk,.int .i64 hn,.str hsn,.slice (hts.map Tm.av),.slice (b.map Tm.av)]]= [aF (.mk hk hn hsn hts,b)] by simp only[fT,gK,AV.soft]];exact MR (.mk hk hn hsn hts,b) _):aD prog 202 _ _ _).to ?_
    by_cases hf:fmtC (.mk hk hn hsn hts,b)=s
    case neg=>
     rw[vR hcl (fun h=>hf (PU h.2.2.2))]
     have hf':=bG hf
     simp only[aG,hf',hbb.symm,bB,aB,seval,iD]
     exact⟨qL,hE _ _ _⟩
    rw[PE hcl ⟨by rw[b9];exact hs,by rw[b9];exact he,hd,by rw[hf]⟩]
    have hf':=bT hf
    simp only[hf',aZ,aB,seval,iD]
    refine(aD.oG (by rw[show fT [AV.agg [.int .i64 hk,.int .i64 hn,.str hsn,.slice (hts.map Tm.av),.slice (b.map Tm.av)]]= [aF (.mk hk hn hsn hts,b)] by simp only[fT,gK,AV.soft]];exact BG (.mk hk hn hsn hts,b) hdn.1.2 (by have:=hdn.2.1;omega) (fun x hx=>(hdn.2.2 x hx).2) _):aD prog 123 _ _ _).to ?_
    rw[gK]
    simp only[aG,hbb.symm,aB,seval,iD]
    rw[←gK]
    exact⟨NB _,hE _ _ _⟩

end Go.AW
