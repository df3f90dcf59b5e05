/- Clauses, as data. -/
import Derived.Test.YtieofkhcboolkaaGreatDoorVaf
import Derived.Test.YtieofkhcboolkaaGreatDoorVai
set_option linter.unusedSimpArgs false
set_option linter.unusedVariables false
set_option maxRecDepth 100000
namespace Go.AW
abbrev Cl:=Tm×List Tm
def bY:Cl→AV
 | (.mk k n s ts,b)=>.agg [.int .i64 k,.int .i64 n,.str s,.slice (ts.map Tm.av),.slice (b.map Tm.av)]
theorem iW(k n:Int)(s:ByteArray)(ts b:List Tm):bY (.mk k n s ts,b)=.agg [.int .i64 k,.int .i64 n,.str s,.slice (ts.map Tm.av),.slice (b.map Tm.av)]:=rfl
theorem zC(c:Cl):(bY c).isAgg=true:=by obtain⟨⟨k,n,s,ts⟩,b⟩:=c;rfl
theorem k8(c:Cl):(bY c).width=5:=by obtain⟨⟨k,n,s,ts⟩,b⟩:=c;rfl
theorem aZA(c:Cl):(bY c).cells.length=5:=by obtain⟨⟨k,n,s,ts⟩,b⟩:=c;rfl
theorem LW(c:Cl):(bY c).cells.all AV.storable=true:=by obtain⟨⟨k,n,s,ts⟩,b⟩:=c;rfl
theorem BR(c:Cl):(bY c).cD=false:=by obtain⟨⟨k,n,s,ts⟩,b⟩:=c;rfl
def UK:Tm→Bool | .mk k _ s ts=>rR k s (ts.length:Int)
def lS(c:Cl):Bool:=c.1.valid&&UK c.1&&(decide (c.2.length≤6)&&c.2.all Tm.goal)
def nB(p:List Cl):Bool:=decide (p.length≤20)&&p.all lS
end Go.AW
namespace Go.AW
open Go.Proofs.Tryz
def qJ(S:aB)(c b w:Nat)(hd tl:List AV)(l:List AV):aB:=bE (S.aC c (.cells (hd++bS w b l::tl))) b l
section
variable {S:aB} {c b w:Nat} {hd tl l:List AV}
theorem I2(hb:l≠[]→(S.aC c (.cells (hd++bS w b l::tl))) b=none):qJ S c b w hd tl l c=some (.cells (hd++bS w b l::tl)):=by
 unfold qJ
 by_cases h:l= []
 · rw[h,y6,aB.aJ]
 · have h0:=hb h
   have hne:c≠b:=fun e=>by rw[←e,aB.aJ] at h0;cases h0
   rw[nN hne,aB.aJ]
theorem aNZ{b':Nat}{l':List AV}(hb:l'≠[]→(S.aC c (.cells (hd++bS w b l::tl))) b'=none) :
 (bE (S.aC c (.cells (hd++bS w b l::tl))) b' l').aC c (.cells (hd++bS w b' l'::tl))=qJ S c b' w hd tl l'∧(l'≠[]→(S.aC c (.cells (hd++bS w b' l'::tl))) b'=none)∧bE (S.aC c (.cells (hd++bS w b l::tl))) b' l' c=some (.cells (hd++bS w b l::tl)):=by
 have hne:l'≠[]→c≠b':=fun h e=>by have:=hb h;rw[←e,aB.aJ] at this;cases this
 refine⟨?_,fun h=>?_,?_⟩
 · rw[oH hne,dO];try rfl
 · have:=hb h
   rw[aB.aH _ _ (c9 (hne h))] at this ⊢
   exact this
 · by_cases h:l'= []
   · rw[h,y6,aB.aJ]
   · rw[nN (hne h),aB.aJ]
theorem a7Q{x:Nat}(hb:l≠[]→(S.aC c (.cells (hd++bS w b l::tl))) b=none)(hx:S x≠none)(hxc:x≠c):qJ S c b w hd tl l x=S x:=by
 unfold qJ
 by_cases h:l= []
 · rw[h,y6,aB.aH _ _ hxc]
 · have h0:=hb h
   have hne:x≠b:=fun e=>by rw[←e,aB.aH _ _ hxc] at h0;exact hx h0
   rw[nN hne,aB.aH _ _ hxc]
theorem XW{h:bJ}{st:aB}{a a':AV}(hv:∀v,VC h st a [v]→VC h st a' [v]):∀(hd:List AV) {tl:List AV} {vs:List Value},a8 h st (hd++a::tl) vs→a8 h st (hd++a'::tl) vs
 | [],tl,vs,x=>by
  simp only[fB,a8] at x ⊢
  obtain⟨c,r,e,x1,x2⟩:=x
  exact⟨c,r,e,hv c x1,x2⟩
 | y::hd,tl,vs,x=>by
  simp only[gV,a8] at x ⊢
  obtain⟨c,r,e,x1,x2⟩:=x
  exact⟨c,r,e,x1,XW hv hd x2⟩
theorem fY.bAG{φ:AF}{st:aB}{c:Nat}{hd tl:List AV}{a:AV}(hc:st c=some (.cells (hd++a::tl))):fY φ st φ (st.aC c (.cells (hd++a.soft::tl))):=fun h tmps S F=>by
 have T:bX h st h (st.aC c (.cells (hd++a.soft::tl))):=bX.of fun x hx=>by
  have:x≠c:=by rintro rfl;rw[hc] at hx;cases hx
  rw[aB.aH _ _ this];exact hx
 refine⟨fun x o hx=>?_,T,fun d=>(F d).mono T⟩
 by_cases e:x=c
 · subst e
   rw[aB.aJ] at hx
   cases hx
   obtain⟨hl,c0,t,e1,e2,vs,e3,e4⟩:=S x _ hc
   refine⟨hl,c0,t,e1,?_,vs,e3,a8.mono T _ _ (XW (fun v hv=>VC.soft a [v] hv) hd e4)⟩
   simpa using e2
 · rw[aB.aH _ _ e] at hx
   obtain⟨hl,y⟩:=S x o hx
   exact⟨hl,lD.mono T rfl y⟩
theorem SA{es:List AV}:∀ {l:List AV},(∀a∈l,a.fz b es=a)→kU b es l=l
 | [],_=>rfl
 | a::l,h=>by rw[kU,h a (by simp),SA fun x hx=>h x (by simp [hx])]
theorem a64{φ:AF}(hb:l≠[]→(S.aC c (.cells (hd++bS w b l::tl))) b=none)(hj:∀e∈l,e.cD=false)(hE:iT l)
 (hh:∀a∈hd++tl,∀b es,a.fz b es=a) :
 fY φ (qJ S c b w hd tl l) φ (S.aC c (.cells (hd++ .slice l::tl))):=by
 have hcc:=I2 hb
 cases l with
 | nil=>
  have:=fY.bAG (φ:=φ) hcc
  unfold qJ at this ⊢
  simp only[y6,dO] at this
  exact this
 | cons y l=>
  have h0:=hb (by simp)
  have hne:b≠c:=by rintro rfl;rw[aB.aJ] at h0;cases h0
  have h1:qJ S c b w hd tl (y::l) b=some (.cells ((y::l).flatMap AV.cells)):=by unfold qJ;simp only[bE];exact aB.aJ _ _ _
  have:=fY.a3E (φ:=φ) hne h1 hj hE hcc
  have e:(qJ S c b w hd tl (y::l)).erase b=S.aC c (.cells (hd++bS w b (y::l)::tl)):=by unfold qJ;simp only[bE];exact aB.BU _ _ _ h0
  have f1:kU b (y::l) hd=hd:=SA fun a ha=>hh a (by simp [ha]) _ _
  have f2:kU b (y::l) tl=tl:=SA fun a ha=>hh a (by simp [ha]) _ _
  have f3:(bS w b (y::l)).fz b (y::l)=.slice (y::l):=by simp [bS,AV.fz]
  rw[e,dO,BX,o7,bA,←BX,←BX,f1,f2,f3] at this
  exact this
end
abbrev AJ:=zi aW (zi cA (zi bR mT))
theorem LQ(cl:Cl)(h1:cl.1.small=true)(h2:cl.2.length≤1048576)(h3:∀x∈cl.2,x.small=true)(st:aB):aD prog 203 [bY cl] st (fun r st'=>r=bY cl∧st'=st):=by
 obtain⟨⟨k,n,s,ks⟩,ts⟩:=cl
 have hhd:=fun st=>HM (.mk k n s ks) st h1
 simp only[aX] at hhd
 have IH:=fun(x:Tm) (hx:x∈ts) st=>HM x st (h3 x hx)
 have hlen:ts.length≤1048576:=h2
 refine aD.m8 (aD.fin ?_)
 simp only[iW]
 refine wF [] 1 func203 ntmps203 rfl rfl ?_
 simp only[eM,AV.fits,eS,aF]
 intro ⟨_,_,_,_,hl,_⟩
 simp only[aA,seval,AJ]
 intro b2 hb2
 refine(hhd _).to ?_
 simp only[aK,aA,seval,AJ]
 intro c hc
 have hne:c≠b2:=by rintro rfl;rw[aB.aJ] at hc;cases hc
 have hn2:st c=none:=by rw[aB.aH st _ hne] at hc;exact hc
 have rI:b2≠c:=c9 hne
 refine dX (σ:=Nat) [] [1,2,3] ts (fun i b=>(((ts.take i).map (fun y=>y)).map Tm.av≠[]→(aB.aC (st.aC b2 (.cells [AV.int .i64 0,AV.int .i64 0,AV.str ⟨#[]⟩,AV.fslice [],AV.fslice []])) c (.cells ([AV.int .i64 k,AV.int .i64 n,AV.str s,AV.slice (ks.map Tm.av)]++ [bS 4 b (((ts.take i).map (fun y=>y)).map Tm.av)]))) b=none)) (fun i b=>[(4,.int .i64 i)]) (fun i b=>lE (st.aC b2 (.cells [AV.int .i64 0,AV.int .i64 0,AV.str ⟨#[]⟩,AV.fslice [],AV.fslice []])) c b [AV.int .i64 k,AV.int .i64 n,AV.str s,AV.slice (ks.map Tm.av)] (((ts.take i).map (fun y=>y)).map Tm.av)) (by decide +kernel)
  ⟨0,fun h=>absurd rfl h,aO.mk (by simp only[aA,↓aS,seval])⟩ (fun i x b hx hlt bL hdr hinv=>?_) (fun b hge hinv=>?_)
 case refine_1=>
  have hw:=bF (n:=(i:Int)+1)
  have cM:(((ts.take i).map (fun y=>y)).map Tm.av).length=i:=by simp only[aF,c7];omega
  have htk:(ts.take (i+1)).map (fun y=>y)=(ts.take i).map (fun y=>y)++ [(fun y=>y) x]:=by rw[dY,hx];simp
  have hbo:=mK hinv
  simp only[aF,bL,aA,seval,AJ]
  refine wP [(0,1),(2,1),(4,1),(1,2),(3,2),(5,1),(6,2),(7,2),(8,1),(9,0),(10,1),(11,0)] [0,2,4,1,3,5,6,7,8,10] mixed ?_
  simp only[bH (av:=Tm.av) bQ hx (aN x),a7,aN,hbo,sD,gZ,aA,seval,AJ]
  refine gP (IH x (cH hx) _) ?_
  simp only[a7,aN,cP,gZ,aA,seval,AJ]
  refine eO bQ jE jF rfl rfl (fQ (aN _) (cI _)) (gO _) hinv (by simp only[cM,aU,aZ];omega) (by simp only[cM,aU,aZ];omega) (fun b' hb'=>?_)
  rw[show(((ts.take i).map (fun y=>y)).map Tm.av)++ [((fun y=>y) x).av]=((ts.take (i+1)).map (fun y=>y)).map Tm.av by rw[htk];simp] at hb' ⊢
  obtain⟨g1,g2,g3⟩:=xS hb'
  simp only[gV,fB] at g1 g3
  simp only[g3,qZ,kF,aK,g1,hw,aK,aA,seval,AJ]
  exact⟨b',g2,aO.mk (by simp only[aA,seval])⟩
 have hbo:=mK hinv
 rw[dS] at hinv hbo ⊢
 simp only[aF,hge,aA,seval,AJ]
 simp only[hbo,aK,aA,seval,AJ]
 have hS:(st.aC b2 (.cells [AV.int .i64 0,AV.int .i64 0,AV.str ⟨#[]⟩,AV.fslice [],AV.fslice []])) b2≠none:=by rw[aB.aJ];simp
 have h1:=oQ hinv hS rI
 rw[aB.aJ] at h1
 simp only[h1,kF,aA,seval]
 obtain⟨h2,h3⟩:=vY (o:=.cells [AV.int .i64 k,AV.int .i64 n,AV.str s,AV.slice (ks.map Tm.av),bS 4 b ((ts.map fun y=>y).map Tm.av)]) hinv hS rI
 refine⟨b,_,_,h2,h3,oV _,⟨4,gO _⟩,?_,?_⟩
 · simp only[iX,bA,aY,eW,m9,iO,oI,GR]
 · exact(((aL.refl _).aC hb2).aC hn2).aC hb2
structure Ss where
 p:List Cl
 q:List Tm
 dJ:Int
 used:Int
 sent:Int
 fin:Int
def aT(s:Ss):AV:=.agg [.slice (s.p.map bY),.slice (s.q.map Tm.av),.int .i64 s.dJ,.int .i64 s.used,.int .i64 s.sent,.int .i64 s.fin]
abbrev HT (c:Cl):Prop:=c.1.small=true∧c.2.length≤1048576∧∀x∈c.2,x.small=true
theorem HU(l:List Cl):∀e∈l.map bY,e.width=5:=by intro e h;simp only[cB] at h;obtain⟨t,_,rfl⟩:=h;exact k8 t
theorem RB(l:List Cl):∀e∈l.map bY,e.cD=false:=by intro e h;simp only[cB] at h;obtain⟨t,_,rfl⟩:=h;exact BR t
abbrev uS:=zi aW (zi jM (zi cA (zi lG (zi bR mT))))
theorem LM(s:Ss)(hp:s.p.length≤1048576)(hps:∀c∈s.p,HT c)(hq:s.q.length≤1048576)(hqs:∀t∈s.q,t.small=true)(st:aB):aD prog 117 [aT s] st (fun r st'=>r=aT s∧st'=st):=by
 obtain⟨ps,qs,i0,i1,i2,i3⟩:=s
 simp only at hp hps hq hqs
 refine aD.m8 (aD.fin ?_)
 simp only[aT]
 refine wF [1000000,3] 1 func117 ntmps117 rfl rfl ?_
 intro _
 simp only[aK,aA,↓aS,seval,uS]
 intro b2 hb2 c hc
 have hne:c≠b2:=by rintro rfl;rw[aB.aJ] at hc;cases hc
 have hn2:st c=none:=by rw[aB.aH st _ hne] at hc;exact hc
 have rI:b2≠c:=c9 hne
 refine dX (σ:=Nat) [1000000,3] [1,2,3] ps
  (fun i b=>((ps.take i).map bY≠[]→((st.aC b2 (.cells [.fslice [],.fslice [],.int .i64 0,.int .i64 0,.int .i64 0,.int .i64 0])).aC c (.cells ([]++bS 5 b ((ps.take i).map bY):: [.fslice [],.int .i64 i0,.int .i64 i1,.int .i64 i2,.int .i64 i3]))) b=none))
  (fun i _=>[(4,.int .i64 i)]) (fun i b=>qJ (st.aC b2 (.cells [.fslice [],.fslice [],.int .i64 0,.int .i64 0,.int .i64 0,.int .i64 0])) c b 5 [] [.fslice [],.int .i64 i0,.int .i64 i1,.int .i64 i2,.int .i64 i3] ((ps.take i).map bY)) (by decide +kernel)
  ⟨0,fun h=>absurd rfl h,aO.mk (by simp only[aA,↓aS,seval])⟩ (fun i x b hx hlt bL hdr hinv=>?_) (fun b hge hinv=>?_)
 · have hw:=bF (n:=(i:Int)+1)
   have cM:((ps.take i).map bY).length=i:=by simp only[aF,c7];omega
   have htk:(ps.take (i+1)).map bY=(ps.take i).map bY++ [bY x]:=by rw[dY,hx];simp
   have hbo:=I2 hinv
   simp only[fB] at hbo
   have eT:=cH hx
   obtain⟨s1,s2,s3⟩:=hps x eT
   have hat:=bH (av:=bY) rA hx (k8 x)
   simp only[bL,aF,aA,seval,uS]
   refine wP [(0,1),(2,1),(4,1),(1,2),(3,2),(5,1),(6,2),(7,2),(8,1),(9,0),(10,1),(11,0)] [0,2,4,1,3,5,6,7,8,10] mixed ?_
   simp only[hat,zC,k8,hbo,sD,aA,seval,uS]
   refine gP (LQ x s1 s2 s3 _) ?_
   simp only[zC,k8,BR,aA,seval,uS]
   refine eO rA L5 L8 rfl rfl (fQ (k8 _) (LW _)) (HU _) hinv (by simp only[cM,aU,aZ];omega) (by simp only[cM,aU,aZ];omega) (fun b' hb'=>?_)
   rw[←htk] at hb' ⊢
   obtain⟨g1,g2,g3⟩:=aNZ hb'
   simp only[fB] at g1 g3
   simp only[g3,qZ,kF,g1,hw,aK,aA,seval,uS]
   exact⟨b',g2,aO.mk (by simp only[aA,seval])⟩
 · rw[dS] at hinv ⊢
   have hbo:=I2 hinv
   simp only[fB] at hbo
   simp only[hge,aF,aA,seval,uS]
   refine dX (σ:=Nat) [1000000,3] [1,2,3] qs
    (fun i b=>((qs.take i).map Tm.av≠[]→((st.aC b2 (.cells [.fslice [],.fslice [],.int .i64 0,.int .i64 0,.int .i64 0,.int .i64 0])).aC c (.cells ([.slice (ps.map bY)]++bS 4 b ((qs.take i).map Tm.av):: [.int .i64 i0,.int .i64 i1,.int .i64 i2,.int .i64 i3]))) b=none))
    (fun i _=>[(5,.int .i64 i)]) (fun i b=>qJ (st.aC b2 (.cells [.fslice [],.fslice [],.int .i64 0,.int .i64 0,.int .i64 0,.int .i64 0])) c b 4 [.slice (ps.map bY)] [.int .i64 i0,.int .i64 i1,.int .i64 i2,.int .i64 i3] ((qs.take i).map Tm.av)) (by decide +kernel)
    ⟨0,fun h=>absurd rfl h,?_⟩ (fun i x b hx hlt bL hdr hinv=>?_) (fun b hge hinv=>?_)
   · exact(a64 hinv (RB _) ⟨5,HU _⟩ (by intro a ha;simp only[fB,cY,dK,dQ] at ha;rcases ha with rfl | rfl | rfl | rfl | rfl<;>intro _ _<;>rfl)).trans (fY.kK (by simp only[aA,↓aS,seval]))
   · have hw:=bF (n:=(i:Int)+1)
     have cM:((qs.take i).map Tm.av).length=i:=by simp only[aF,c7];omega
     have htk:(qs.take (i+1)).map Tm.av=(qs.take i).map Tm.av++ [x.av]:=by rw[dY,hx];simp
     have hbo:=I2 hinv
     simp only[gV,fB] at hbo
     have hat:=bH (av:=Tm.av) bQ hx (aN x)
     simp only[bL,aF,aA,seval,uS]
     refine wP [(0,1),(2,1),(4,1),(1,2),(3,2),(5,1),(6,2),(7,2),(8,1),(9,0),(10,1),(11,0)] [0,2,4,1,3,5,6,7,8,10] mixed ?_
     simp only[hat,a7,aN,hbo,sD,aA,seval,uS]
     refine gP (HM x _ (hqs x (cH hx))) ?_
     simp only[a7,aN,cP,aA,seval,uS]
     refine eO bQ jE jF rfl rfl (fQ (aN _) (cI _)) (gO _) hinv (by simp only[cM,aU,aZ];omega) (by simp only[cM,aU,aZ];omega) (fun b' hb'=>?_)
     rw[←htk] at hb' ⊢
     obtain⟨g1,g2,g3⟩:=aNZ hb'
     simp only[gV,fB] at g1 g3
     simp only[g3,qZ,kF,g1,hw,aK,aA,seval,uS]
     exact⟨b',g2,aO.mk (by simp only[aA,seval])⟩
   · rw[dS] at hinv ⊢
     have hbo:=I2 hinv
     simp only[gV,fB] at hbo
     have h2o:=a7Q (x:=b2) hinv (by rw[aB.aJ];simp) rI
     rw[aB.aJ] at h2o
     simp only[hge,aF,hbo,h2o,kF,aK,aA,seval,uS]
     have aMC:qs.map Tm.av≠[]→b2≠b:=fun h e=>by
      have:=hinv h
      rw[←e,aB.aH _ _ rI,aB.aJ] at this
      cases this
     refine⟨b,qs.map Tm.av,_,by unfold qJ;rw[oH aMC],fun h=>by rw[aB.aH _ _ (c9 (aMC h))];exact hinv h,oV _,⟨4,gO _⟩,by simp only[iX,bA,aY,eW,iO,oI],?_⟩
     exact(((aL.refl _).aC hb2).aC hn2).aC hb2
def pX(s:ByteArray)(a:Int)(p:UInt8→Bool):Bool:=decide (0≤a)&&(decide (a<(s.size:Int))&&(match (sb s)[a.toNat]? with | some x=>p x | none=>false))
def AE(s:ByteArray)(a:Int)(c:Nat):Bool:=pX s a fun x=>decide (x.toNat=c)
def zG(s:ByteArray)(a:Int):Bool:=pX s a fun x=>decide (48≤x.toNat)&&decide (x.toNat≤57)
def AG(s:ByteArray)(a:Int):Bool:=pX s a letter
theorem vL{s:ByteArray}{n:Nat}(h:n<s.size):∃x,(sb s)[n]?=some x:=⟨_,d4 (by rw[cO];exact h)⟩
abbrev aQ8:=zi aW (zi cF (zi lH cW))
theorem aW8(s:ByteArray)(a:Int)(c:Nat)(st:aB):aD prog 283 [.str s,.int .i64 a,.int .u8 (c:Int)] st (fun r st'=>r=.bool (AE s a c)∧st'=st):=by
 by_cases h:0≤a∧a<(s.size:Int)
 · obtain⟨n,rfl⟩:=qR h.1
   obtain⟨x,hx⟩:=vL (s:=s) (n:=n) (by omega)
   have hix:=sU (P:=prog) (t:=9) rZ hx
   have hv:AE s (n:Int) c=decide (x.toNat=c):=by simp only[AE,pX,jO,hx,eE h.1,eE h.2,dU]
   rw[hv]
   refine wF [1000000] 3 func283 ntmps283 rfl rfl ?_
   intro _
   repeat' (first
    | (simp only[*,aA,seval,aQ8])
    | (refine cT (fun h=>?_) (fun h=>?_))
    | (refine aP (fun h=>?_) (fun h=>?_)))
   all_goals simp_all
   omega
 · by_cases h1:0≤a
   · have h2:¬a<(s.size:Int):=fun h2=>h ⟨h1,h2⟩
     have hv:AE s a c=false:=by simp only[AE,pX,d5 h2,fF,l8]
     rw[hv]
     clear hv h
     refine wF [1000000] 3 func283 ntmps283 rfl rfl ?_
     intro _
     simp only[h1,h2,bM,bP,aA,seval,aQ8]
   · have hv:AE s a c=false:=by simp only[AE,pX,d5 h1,fF]
     rw[hv]
     clear hv h
     refine wF [1000000] 3 func283 ntmps283 rfl rfl ?_
     intro _
     simp only[h1,bP,aA,seval]
abbrev aRA:=zi aW (zi cF (zi lH cW))
theorem aW0(s:ByteArray)(a:Int)(st:aB):aD prog 334 [.str s,.int .i64 a] st (fun r st'=>r=.bool (zG s a)∧st'=st):=by
 by_cases h:0≤a∧a<(s.size:Int)
 · obtain⟨n,rfl⟩:=qR h.1
   obtain⟨x,hx⟩:=vL (s:=s) (n:=n) (by omega)
   have hix:=sU (P:=prog) (t:=9) rZ hx
   have hv:zG s (n:Int)=(decide (48≤x.toNat)&&decide (x.toNat≤57)):=by simp only[zG,pX,jO,hx,eE h.1,eE h.2,dU]
   rw[hv]
   refine wF [1000000] 2 func334 ntmps334 rfl rfl ?_
   intro _
   repeat' (first
    | (simp only[*,aA,seval,aRA])
    | (refine cT (fun h=>?_) (fun h=>?_))
    | (refine aP (fun h=>?_) (fun h=>?_)))
   all_goals clear hix hv hx
   all_goals (congr 1;rw[wK];simp only[bV,bK,dF,jZ,fX,false_iff,not_and] at *;omega)
 · by_cases h1:0≤a
   · have h2:¬a<(s.size:Int):=fun h2=>h ⟨h1,h2⟩
     have hv:zG s a=false:=by simp only[zG,pX,d5 h2,fF,l8]
     rw[hv]
     clear hv h
     refine wF [1000000] 2 func334 ntmps334 rfl rfl ?_
     intro _
     simp only[h1,h2,bM,bP,aA,seval,aRA]
   · have hv:zG s a=false:=by simp only[zG,pX,d5 h1,fF]
     rw[hv]
     clear hv h
     refine wF [1000000] 2 func334 ntmps334 rfl rfl ?_
     intro _
     simp only[h1,bP,aA,seval]
abbrev aQ9:=zi aW (zi cF (zi lH cW))
theorem aXA(s:ByteArray)(a:Int)(st:aB):aD prog 333 [.str s,.int .i64 a] st (fun r st'=>r=.bool (AG s a)∧st'=st):=by
 by_cases h:0≤a∧a<(s.size:Int)
 · obtain⟨n,rfl⟩:=qR h.1
   obtain⟨x,hx⟩:=vL (s:=s) (n:=n) (by omega)
   have hix:=sU (P:=prog) (t:=9) rZ hx
   have hv:AG s (n:Int)=(decide (97≤x.toNat)&&decide (x.toNat≤122)):=by simp only[AG,pX,letter,jO,hx,eE h.1,eE h.2,dU]
   rw[hv]
   refine wF [1000000] 2 func333 ntmps333 rfl rfl ?_
   intro _
   repeat' (first
    | (simp only[*,aA,seval,aQ9])
    | (refine cT (fun h=>?_) (fun h=>?_))
    | (refine aP (fun h=>?_) (fun h=>?_)))
   all_goals clear hix hv hx
   all_goals (congr 1;rw[wK];simp only[bV,bK,dF,jZ,fX,false_iff,not_and] at *;omega)
 · by_cases h1:0≤a
   · have h2:¬a<(s.size:Int):=fun h2=>h ⟨h1,h2⟩
     have hv:AG s a=false:=by simp only[AG,pX,d5 h2,fF,l8]
     rw[hv]
     clear hv h
     refine wF [1000000] 2 func333 ntmps333 rfl rfl ?_
     intro _
     simp only[h1,h2,bM,bP,aA,seval,aQ9]
   · have hv:AG s a=false:=by simp only[AG,pX,d5 h1,fF]
     rw[hv]
     clear hv h
     refine wF [1000000] 2 func333 ntmps333 rfl rfl ?_
     intro _
     simp only[h1,bP,aA,seval]
end Go.AW
namespace Go.AW
abbrev ba (l:List UInt8):ByteArray:=⟨⟨l⟩⟩
def dL(x:UInt8):Bool:=decide (48≤x.toNat)&&decide (x.toNat≤57)
def r0(x:UInt8):Bool:=decide (65≤x.toNat)&&decide (x.toNat≤90)
def cV(l:List UInt8)(n c:Nat):Bool:=match l[n]? with | some x=>decide (x.toNat=c) | none=>false
def gC(l:List UInt8)(n:Nat)(p:UInt8→Bool):Bool:=match l[n]? with | some x=>p x | none=>false
def oM(l:List UInt8):Nat:=l.foldl (fun n x=>n*10+(x.toNat - 48)) 0
def iD(l:List UInt8):Nat×Bool:=if l.length=0∨(cV l 0 48=true∧1<l.length) then(0,false) else(oM l,true)
def v8(l:List UInt8)(a:Nat):Option (Int×Nat):=
 let f:=if cV l a 45 then a+1 else a
 let t:=((l.drop f).takeWhile dL).take 4
 if(iD t).2=false∨(a<f∧(iD t).1=0)∨999<(iD t).1 then none else some (if a<f then -((iD t).1:Int) else((iD t).1:Int),f+t.length)
def kT(l:List UInt8)(b g:ByteArray):ByteArray:=if l.take g.size=sb g∧b.size<g.size then g else b
def pM(l:List UInt8)(a:Nat):Option (ByteArray×Nat):=
 let t:=(l.drop a).takeWhile letter
 if 6<t.length then none else if 0<t.length then some (ba t,a+t.length)
 else let b:=jI.foldl (kT (l.drop a)) ⟨#[]⟩
  if b.size=0 then none else some (b,a+b.size)
theorem aA9{l:List UInt8}{i:Nat}{x:UInt8}(h:l[i]?=some x):oM (l.take (i+1))=oM (l.take i)*10+(x.toNat - 48):=by
 simp [oM,dY,h,KN]
theorem aA8:∀(l:List UInt8) (n:Nat),(∀x∈l,dL x=true)→l.foldl (fun n x=>n*10+(x.toNat - 48)) n+1≤(n+1)*10 ^ l.length
 | [],n,_=>by simp
 | x::l,n,h=>by
  have hx:=h x (by simp)
  simp only[dL,bV,bK] at hx
  have:=aA8 l (n*10+(x.toNat - 48)) (fun y hy=>h y (by simp [hy]))
  simp only[vD,aU,Nat.pow_succ]
  refine kQ this ?_
  rw[Nat.mul_comm (10 ^ l.length) 10,←Nat.mul_assoc]
  exact tN _ (by omega)
theorem RH{l:List UInt8}(h:∀x∈l,dL x=true):oM l<10 ^ l.length:=Nat.lt_of_succ_le (by have:=aA8 l 0 h;simpa [oM] using this)
theorem a9U(s:ByteArray)(a b:Nat):sb (s.extract a b)=((sb s).drop a).take (b - a):=by
 simp only[sb,ByteArray.data_extract,Array.toList_extract,List.extract_eq_take_drop]
theorem aUZ{g:ByteArray}(h:g.size=0):g=⟨#[]⟩:=by
 obtain⟨⟨l⟩⟩:=g
 have:l.length=0:=h
 rw[PJ.1 this]
theorem Y0(s:ByteArray):ba (sb s)=s:=rfl
theorem HJ(s:ByteArray)(a b:Nat):s.extract a b=ba (((sb s).drop a).take (b - a)):=by rw[←a9U]
theorem pH{l:List UInt8}{n c:Nat}(h:cV l n c=true):n<l.length:=by
 unfold cV at h
 rcases lN n l.length with h1 | h1
 · exact h1
 · rw[wN h1] at h;cases h
theorem a6N{l:List UInt8}{n:Nat}{p:UInt8→Bool}(h:gC l n p=true):n<l.length:=by
 unfold gC at h
 rcases lN n l.length with h1 | h1
 · exact h1
 · rw[wN h1] at h;cases h
theorem rN{l:List UInt8}{n c:Nat}{x:UInt8}(h:l[n]?=some x):cV l n c=decide (x.toNat=c):=by simp only[cV,h]
theorem vX{l:List UInt8}{n:Nat}{p:UInt8→Bool}{x:UInt8}(h:l[n]?=some x):gC l n p=p x:=by simp only[gC,h]
theorem aN9{l:List UInt8}(h:∀x∈l,dL x=true)(hl:l.length≤4):(iD l).1<10000:=by
 unfold iD
 split
 · simp
 · exact vE (RH h) (kQ (Nat.pow_le_pow_right (by omega) hl) (by decide))
theorem WZ{p:UInt8→Bool}{l:List UInt8}{i:Nat}(hi:i≤(l.takeWhile p).length)(h:gC l i p=true):i<(l.takeWhile p).length:=by
 induction l generalizing i with
 | nil=>simp [gC] at h
 | cons x l ih=>
  cases i with
  | zero=>simp [gC] at h;simp [GU,h]
  | succ i=>
   rw[GU] at hi ⊢
   split at hi
   · rename_i hx
     rw[aG hx]
     simp only[aU] at hi ⊢
     have:=ih (i:=i) (by omega) (by simpa [gC] using h)
     omega
   · simp at hi
theorem WY{p:UInt8→Bool}{l:List UInt8}{i:Nat}(hi:i≤(l.takeWhile p).length)(h:gC l i p=false):i=(l.takeWhile p).length:=by
 induction l generalizing i with
 | nil=>simp at hi;simp [hi]
 | cons x l ih=>
  cases i with
  | zero=>simp [gC] at h;simp [GU,h]
  | succ i=>
   rw[GU] at hi ⊢
   split at hi
   · rename_i hx
     rw[aG hx]
     simp only[aU] at hi ⊢
     have:=ih (i:=i) (by omega) (by simpa [gC] using h)
     omega
   · simp at hi
theorem aR2(p:UInt8→Bool)(l:List UInt8):l.take (l.takeWhile p).length=l.takeWhile p:=by
 induction l with
 | nil=>rfl
 | cons x l ih=>
  rw[GU]
  split
  · simp [ih]
  · rfl
theorem E4(l:List UInt8)(a i:Nat)(p:UInt8→Bool):gC (l.drop a) i p=gC l (a+i) p:=by simp only[gC,PI]
theorem aR0{p:UInt8→Bool}{l:List UInt8}:∀x∈l.takeWhile p,p x=true:=by
 induction l with
 | nil=>simp
 | cons y l ih=>
  rw[GU]
  split
  · rename_i h;intro x hx;simp only[cY] at hx;rcases hx with rfl | hx;exact h;exact ih x hx
  · simp
theorem aR1{p:UInt8→Bool}{l:List UInt8}{k:Nat}(hk:k≤(l.takeWhile p).length):l.take k=(l.takeWhile p).take k:=by
 rw[←aR2 p l,yP,kZ hk]
theorem KD(p:UInt8→Bool)(l:List UInt8):(l.takeWhile p).length≤l.length:=(List.takeWhile_sublist p).length_le
theorem Y2(L:List UInt8):∀(gs:List ByteArray) (b:ByteArray),b.size≤3→(∀g∈gs,g.size≤3)→(gs.foldl (kT L) b).size≤3
 | [],b,h,_=>h
 | g::gs,b,h,hg=>by
  rw[vD]
  refine Y2 L gs _ ?_ fun x hx=>hg x (by simp [hx])
  unfold kT
  split
  · exact hg g (by simp)
  · exact h
theorem aPK:∀g∈jI,g.size≤3:=by decide
theorem aU1(L:List UInt8)(i:Nat):((jI.take i).foldl (kT L) ⟨#[]⟩).size≤3:=Y2 L _ _ (by decide) fun g hg=>aPK g (mC hg)
end Go.AW
namespace Go.AW
open Go.Proofs.Tryz
theorem JK{φ:AF}{y z:Operand}{s:ByteArray}{k m:Nat}(h:φ.eval y=.int .i64 (k:Int))(h':φ.eval z=.int .i64 (m:Int))(hk:k≤m)(hm:m≤s.size):eV prog φ 9 (.str s) (some y) (some z) none=some (.str (s.extract k m)):=by
 unfold eV mG
 rw[aE (by simp [nV])]
 simp only[show prog.underlying 9=some .string from rZ,dC,h,h']
 rw[aG (by omega)]
 simp only[jO]
 rw[aG (by omega)]
 try simp
theorem QM(s:ByteArray)(n:Nat)(p:UInt8→Bool):pX s (n:Int) p=gC (sb s) n p:=by
 unfold pX gC
 rw[jO]
 by_cases h:n<s.size
 · rw[eE (by omega:(0:Int)≤(n:Int)),eE (by omega:(n:Int)<(s.size:Int))];try rfl
 · rw[d5 (by omega:¬(n:Int)<(s.size:Int)),wN (by rw[cO];omega)];simp
theorem lF(s:ByteArray)(n c:Nat)(st:aB):aD prog 283 [.str s,.int .i64 (n:Int),.int .u8 (c:Int)] st (fun r st'=>r=.bool (cV (sb s) n c)∧st'=st):=by
 have h:=aW8 s n c st
 rwa [show AE s n c=cV (sb s) n c from QM s n _] at h
theorem CC(s:ByteArray)(n:Nat)(st:aB):aD prog 334 [.str s,.int .i64 (n:Int)] st (fun r st'=>r=.bool (gC (sb s) n dL)∧st'=st):=by
 have h:=aW0 s n st
 rwa [show zG s n=gC (sb s) n dL from QM s n _] at h
theorem aN4(s:ByteArray)(n:Nat)(st:aB):aD prog 333 [.str s,.int .i64 (n:Int)] st (fun r st'=>r=.bool (gC (sb s) n letter)∧st'=st):=by
 have h:=aXA s n st
 rwa [show AG s n=gC (sb s) n letter from QM s n _] at h
theorem YN{n k:Nat}(h:n≤1048576)(hk:k≤1048576):IntKind.wrap .i64 ((n:Int)+(k:Int))=((n+k:Nat):Int):=by
 rw[wrap64 (by omega) (by omega)];try rfl
abbrev F7:=zi aW (zi cF (zi lH cW))
theorem ZS(s:ByteArray)(hd:∀x∈sb s,dL x=true)(hl:s.size≤4)(st:aB):aD prog 366 [.str s] st (fun r st'=>r=.tup [.int .i64 ((iD (sb s)).1:Int),.bool (iD (sb s)).2]∧st'=st):=by
 refine wF [1000000] 1 func366 ntmps366 rfl rfl ?_
 intro _
 by_cases hs:s.size=0
 · have e:iD (sb s)=(0,false):=by unfold iD;rw[aG (Or.inl (by rw[cO];exact hs))]
   rw[e]
   simp only[hs,aA,↓aS,seval,F7]
 have zR:(0:Int)<(s.size:Int):=by omega
 obtain⟨x0,hx0⟩:=vL (s:=s) (n:=0) (by omega)
 have hix:=sU (P:=prog) (t:=9) rZ hx0
 rw[show((0:Nat):Int)=0 from rfl] at hix
 have hdx:=hd x0 (cH hx0)
 simp only[dL,bV,bK] at hdx
 have h45:((x0.toNat:Int)=45)=False:=bZ (by omega)
 have h0:((s.size:Int)=0)=False:=bZ (by omega)
 have h17:((17:Int)<(s.size:Int))=False:=bZ (by omega)
 simp only[zR,hix,h45,h0,h17,bM,bP,aA,seval,F7]
 by_cases h48:x0.toNat=48
 case pos=>
  have EK:((x0.toNat:Int)=48)=True:=cL (by omega)
  by_cases h1:1<s.size
  case pos=>
   have h1':((1:Int)<(s.size:Int))=True:=cL (by omega)
   have e:iD (sb s)=(0,false):=by unfold iD;rw[aG (Or.inr ⟨by rw[rN hx0,h48];try rfl,by rw[cO];exact h1⟩)]
   rw[e]
   simp only[EK,h1',bM,aA,↓aS,seval,F7]
  have h1':((1:Int)<(s.size:Int))=False:=bZ (by omega)
  have hnd:iD (sb s)=(oM (sb s),true):=by unfold iD;rw[aE (by rw[cO];rintro(h | ⟨_,h⟩)<;>omega)]
  simp only[EK,h1',bM,bP,aA,seval,F7]
  rw[hnd]
  refine iJ (σ:=Nat) [1000000] [0,4] (fun i=>i≤s.size) (fun i=>[(5,.int .i64 (oM ((sb s).take i):Int)),(6,.int .i64 (i:Int))]) (fun _=>st) (fun i=>s.size - i) (by decide +kernel) ⟨0,by omega,aO.mk (by simp only[jA,aA,↓aS,seval];rfl)⟩ ?_
  intro i hi
  have hb:oM ((sb s).take i)<10000:=vE (RH fun x hx=>hd x (mC hx)) (kQ (Nat.pow_le_pow_right (by omega) (by rw[c7];omega:((sb s).take i).length≤4)) (by decide))
  simp only[aA,seval,F7]
  refine aP (fun h5=>?_) (fun h5=>?_)
  case refine_2=>
   simp only[dF] at h5
   obtain rfl:i=s.size:=by omega
   rw[lM (by rw[cO];omega)]
   simp only[aA,seval]
  simp only[bK] at h5
  obtain⟨c,hc⟩:=vL (s:=s) (n:=i) (by omega)
  have hic:=sU (P:=prog) (t:=9) rZ hc
  have hdc:=hd c (cH hc)
  simp only[dL,bV,bK] at hdc
  have c48:((c.toNat:Int)<48)=False:=bZ (by omega)
  have c57:((57:Int)<(c.toNat:Int))=False:=bZ (by omega)
  have hw0:=YN (n:=i) (k:=1) (by omega) (by omega)
  rw[show((1:Nat):Int)=1 from rfl] at hw0
  have hw1:=bF (n:=(oM ((sb s).take i):Int)*10)
  have hw2:IntKind.wrap .u8 ((c.toNat:Int) - 48)=((c.toNat - 48:Nat):Int):=by rw[IntKind.wrap_u8];omega
  have hw3:=bF (n:=((c.toNat - 48:Nat):Int))
  have hw4:=bF (n:=(oM ((sb s).take i):Int)*10+((c.toNat - 48:Nat):Int))
  have g7:=aA9 hc
  simp only[hic,c48,c57,hw1,hw2,bP,aA,seval]
  refine⟨i+1,by omega,by omega,aO.mk ?_⟩
  rw[g7]
  simp only[hw0,hw3,hw4,aA,seval]
  rfl
 have EK:((x0.toNat:Int)=48)=False:=bZ (by omega)
 have hnd:iD (sb s)=(oM (sb s),true):=by unfold iD;rw[aE (by rw[cO,rN hx0];rintro(h | ⟨h,_⟩);omega;exact h48 (of_decide_eq_true h))]
 simp only[EK,bP,aA,seval]
 rw[hnd]
 refine iJ (σ:=Nat) [1000000] [0,4] (fun i=>i≤s.size) (fun i=>[(5,.int .i64 (oM ((sb s).take i):Int)),(6,.int .i64 (i:Int))]) (fun _=>st) (fun i=>s.size - i) (by decide +kernel) ⟨0,by omega,aO.mk (by simp only[jA,aA,↓aS,seval];rfl)⟩ ?_
 intro i hi
 have hb:oM ((sb s).take i)<10000:=vE (RH fun x hx=>hd x (mC hx)) (kQ (Nat.pow_le_pow_right (by omega) (by rw[c7];omega:((sb s).take i).length≤4)) (by decide))
 simp only[aA,seval,F7]
 refine aP (fun h5=>?_) (fun h5=>?_)
 case refine_2=>
  simp only[dF] at h5
  obtain rfl:i=s.size:=by omega
  rw[lM (by rw[cO];omega)]
  simp only[aA,seval]
 simp only[bK] at h5
 obtain⟨c,hc⟩:=vL (s:=s) (n:=i) (by omega)
 have hic:=sU (P:=prog) (t:=9) rZ hc
 have hdc:=hd c (cH hc)
 simp only[dL,bV,bK] at hdc
 have c48:((c.toNat:Int)<48)=False:=bZ (by omega)
 have c57:((57:Int)<(c.toNat:Int))=False:=bZ (by omega)
 have hw0:=YN (n:=i) (k:=1) (by omega) (by omega)
 rw[show((1:Nat):Int)=1 from rfl] at hw0
 have hw1:=bF (n:=(oM ((sb s).take i):Int)*10)
 have hw2:IntKind.wrap .u8 ((c.toNat:Int) - 48)=((c.toNat - 48:Nat):Int):=by rw[IntKind.wrap_u8];omega
 have hw3:=bF (n:=((c.toNat - 48:Nat):Int))
 have hw4:=bF (n:=(oM ((sb s).take i):Int)*10+((c.toNat - 48:Nat):Int))
 have g7:=aA9 hc
 simp only[hic,c48,c57,hw1,hw2,bP,aA,seval]
 refine⟨i+1,by omega,by omega,aO.mk ?_⟩
 rw[g7]
 simp only[hw0,hw3,hw4,aA,seval]
 rfl
theorem nJ{x:Int}{m:Nat}(h:x=(m:Int))(hm:m≤1099511627776):IntKind.wrap .i64 x=(m:Int):=by rw[wrap64 (by omega) (by omega)];exact h
abbrev J7:Tm:=.mk 0 0 ⟨#[]⟩ []
def CG(o:Option (Int×Nat)):AV:=match o with | some (n,e)=>.tup [(Tm.mk 2 n ⟨#[]⟩ []).av,.int .i64 (e:Int)] | none=>.tup [J7.av,.int .i64 (-1)]
abbrev CZ:=zi aW (zi cF (zi lH (zi AS (zi cW bR))))
set_option maxHeartbeats 1000000 in
theorem aW5(s:ByteArray)(hs:s.size≤1000)(a:Nat)(ha:a≤s.size)(st:aB):aD prog 353 [.str s,.int .i64 (a:Int)] st (fun r st'=>r=CG (v8 (sb s) a)∧st'=st):=by
 refine aD.done ?_
 refine wF [1000000] 2 func353 ntmps353 rfl rfl ?_
 intro _
 simp only[aA,seval,CZ]
 intro b hb
 refine(lF s a 45 _).to ?_
 obtain⟨f1,hf1⟩:∃f,f=a+1:=⟨_,rfl⟩
 have hw1:=nJ (x:=(a:Int)+1) (m:=f1) (by omega) (by omega)
 simp only[aA,seval]
 refine aP (fun h1=>?_) (fun h1=>?_)
 · have hf:=pH h1
   rw[cO] at hf
   simp only[hw1,aA,seval]
   obtain⟨f,rfl⟩:∃f,f=f1:=⟨_,rfl⟩
   replace hf:f≤s.size:=by omega
   refine iJ (σ:=Nat) [1000000] [0,1,4,5,7] (fun j=>f≤j∧j≤f+4∧j - f≤(((sb s).drop f).takeWhile dL).length) (fun j=>[(6,.int .i64 (j:Int))]) (fun _=>st.aC b (.cells [.int .i64 0,.int .i64 0,.str ⟨#[]⟩,.fslice []])) (fun j=>f+4 - j) (by decide +kernel) ⟨f,⟨by omega,by omega,by omega⟩,aO.mk (by simp only[aA,seval])⟩ ?_
   rintro j ⟨hj1,hj4,hj⟩
   have hfi:j≤s.size:=by have:=KD dL ((sb s).drop f);rw[mB,cO] at this;omega
   simp only[aA,seval]
   refine(CC s j _).to ?_
   have hw4:=bF (n:=(f:Int)+4)
   have IU:=bF (n:=(j:Int)+1)
   simp only[aA,seval]
   refine cT (fun h5=>?_) (fun h5=>?_)
   simp only[h5,hw4,aA,seval]
   refine aP (fun h6=>?_) (fun h6=>?_)
   case' refine_1.refine_1=>
    rw[show j=f+(j - f) by omega,←E4] at h5
    simp only[bK] at h6
    simp only[IU,aA,seval]
    exact⟨j+1,by omega,⟨by omega,by omega,by have:=WZ hj h5;omega⟩,aO.mk (by simp only[aA,seval]<;>rfl)⟩
   all_goals
    have ht:(((sb s).drop f).takeWhile dL).take 4=((sb s).drop f).take (j - f):=by
     rw[aR1 hj]
     rcases lN (j - f) 4 with h7 | h7
     · have h8:j - f=(((sb s).drop f).takeWhile dL).length:=by
        refine WY hj ?_
        rw[E4,show f+(j - f)=j by omega]
        first | exact h5 | (simp only[dF] at h6;omega)
       rw[h8,dS,lM (by omega)]
     · rw[show j - f=4 by omega]
    have hex:s.extract f j=ba ((((sb s).drop f).takeWhile dL).take 4):=by rw[HJ,ht]
    have hln:((((sb s).drop f).takeWhile dL).take 4).length=j - f:=by rw[ht,c7,mB,cO];omega
    have hdg:∀x∈(((sb s).drop f).takeWhile dL).take 4,dL x=true:=fun x hx=>aR0 x (mC hx)
    have hsl:=fun(φ:AF) (y z:Operand) (h:φ.eval y=.int .i64 (f:Int)) (h':φ.eval z=.int .i64 (j:Int))=>JK (s:=s) h h' hj1 hfi
    rw[hex] at hsl
    have hrd:v8 (sb s) a=if(iD ((((sb s).drop f).takeWhile dL).take 4)).2=false∨(a<f∧(iD ((((sb s).drop f).takeWhile dL).take 4)).1=0)∨999<(iD ((((sb s).drop f).takeWhile dL).take 4)).1 then none else some (if a<f then -((iD ((((sb s).drop f).takeWhile dL).take 4)).1:Int) else((iD ((((sb s).drop f).takeWhile dL).take 4)).1:Int),f+((((sb s).drop f).takeWhile dL).take 4).length):=by
     unfold v8
     simp only[h1,↓reduceIte,←hf1]
    rw[hrd]
    clear hrd
    generalize (((sb s).drop f).takeWhile dL).take 4=t at *
    simp only[hsl,h5,aA,seval]
    refine(ZS (ba t) hdg (by show t.length≤4;omega) _).to ?_
    have hn:=aN9 hdg (by omega)
    rw[show sb (ba t)=t from rfl]
    generalize iD t=nd at *
    obtain⟨n,ok⟩:=nd
    simp only at hn ⊢
    have hw5:=bF (n:=0 - (n:Int))
    have hw6:=bF (n:= -(n:Int))
    have hfa:((a:Int)<(f:Int))=True:=cL (by omega)
    have hfn:(a<f)=True:=cL (by omega)
    cases ok
    case false=>
     simp only[aK,aA,seval,CZ]
     refine⟨?_,(aL.refl _).aC hb⟩
     rw[aG (Or.inl trivial)]
     simp only[CG,aX,iF,jJ,iG,mR,lV,bA,aY,aY]
    by_cases hz:(n:Int)=0
    case' pos=>have hz':n=0:=by omega
    case' neg=>have hz':n≠0:=by omega
    all_goals
     by_cases h9:(999:Int)<(n:Int)
     case' pos=>have h9':999<n:=by omega
     case' neg=>have h9':¬ 999<n:=by omega
     all_goals try (exfalso;omega)
     all_goals
      simp only[aK,hw5,hz,h9,hfa,aA,seval,CZ]
      try
       refine(QV _ _).to ?_
       simp only[aK,aA,seval,CZ]
      refine⟨?_,(aL.refl _).aC hb⟩
      first
       | rw[aG (by omega)]
       | rw[aE (by omega),aG (by omega),show f+t.length=j by omega]
       | rw[aE (by omega),aE (by omega),show f+t.length=j by omega]
      simp only[CG,aX,iF,jJ,iG,mR,nE,lV,bA,aY,aY,Int.zero_sub]
 · skip
   simp only[aA,seval]
   obtain⟨f,rfl⟩:∃f,f=a:=⟨_,rfl⟩
   have hf:=ha
   refine iJ (σ:=Nat) [1000000] [0,1,4,5,7] (fun j=>f≤j∧j≤f+4∧j - f≤(((sb s).drop f).takeWhile dL).length) (fun j=>[(6,.int .i64 (j:Int))]) (fun _=>st.aC b (.cells [.int .i64 0,.int .i64 0,.str ⟨#[]⟩,.fslice []])) (fun j=>f+4 - j) (by decide +kernel) ⟨f,⟨by omega,by omega,by omega⟩,aO.mk (by simp only[aA,seval])⟩ ?_
   rintro j ⟨hj1,hj4,hj⟩
   have hfi:j≤s.size:=by have:=KD dL ((sb s).drop f);rw[mB,cO] at this;omega
   simp only[aA,seval]
   refine(CC s j _).to ?_
   have hw4:=bF (n:=(f:Int)+4)
   have IU:=bF (n:=(j:Int)+1)
   simp only[aA,seval]
   refine cT (fun h5=>?_) (fun h5=>?_)
   simp only[h5,hw4,aA,seval]
   refine aP (fun h6=>?_) (fun h6=>?_)
   case' refine_1.refine_1=>
    rw[show j=f+(j - f) by omega,←E4] at h5
    simp only[bK] at h6
    simp only[IU,aA,seval]
    exact⟨j+1,by omega,⟨by omega,by omega,by have:=WZ hj h5;omega⟩,aO.mk (by simp only[aA,seval]<;>rfl)⟩
   all_goals
    have ht:(((sb s).drop f).takeWhile dL).take 4=((sb s).drop f).take (j - f):=by
     rw[aR1 hj]
     rcases lN (j - f) 4 with h7 | h7
     · have h8:j - f=(((sb s).drop f).takeWhile dL).length:=by
        refine WY hj ?_
        rw[E4,show f+(j - f)=j by omega]
        first | exact h5 | (simp only[dF] at h6;omega)
       rw[h8,dS,lM (by omega)]
     · rw[show j - f=4 by omega]
    have hex:s.extract f j=ba ((((sb s).drop f).takeWhile dL).take 4):=by rw[HJ,ht]
    have hln:((((sb s).drop f).takeWhile dL).take 4).length=j - f:=by rw[ht,c7,mB,cO];omega
    have hdg:∀x∈(((sb s).drop f).takeWhile dL).take 4,dL x=true:=fun x hx=>aR0 x (mC hx)
    have hsl:=fun(φ:AF) (y z:Operand) (h:φ.eval y=.int .i64 (f:Int)) (h':φ.eval z=.int .i64 (j:Int))=>JK (s:=s) h h' hj1 hfi
    rw[hex] at hsl
    have hrd:v8 (sb s) f=if(iD ((((sb s).drop f).takeWhile dL).take 4)).2=false∨(f<f∧(iD ((((sb s).drop f).takeWhile dL).take 4)).1=0)∨999<(iD ((((sb s).drop f).takeWhile dL).take 4)).1 then none else some (if f<f then -((iD ((((sb s).drop f).takeWhile dL).take 4)).1:Int) else((iD ((((sb s).drop f).takeWhile dL).take 4)).1:Int),f+((((sb s).drop f).takeWhile dL).take 4).length):=by
     unfold v8
     simp only[h1,↓reduceIte,fX]
    rw[hrd]
    clear hrd
    generalize (((sb s).drop f).takeWhile dL).take 4=t at *
    simp only[hsl,h5,aA,seval]
    refine(ZS (ba t) hdg (by show t.length≤4;omega) _).to ?_
    have hn:=aN9 hdg (by omega)
    rw[show sb (ba t)=t from rfl]
    generalize iD t=nd at *
    obtain⟨n,ok⟩:=nd
    simp only at hn ⊢
    have hw5:=bF (n:=0 - (n:Int))
    have hw6:=bF (n:= -(n:Int))
    have hfa:((f:Int)<(f:Int))=False:=bZ (by omega)
    have hfn:(f<f)=False:=bZ (by omega)
    cases ok
    case false=>
     simp only[aK,aA,seval,CZ]
     refine⟨?_,(aL.refl _).aC hb⟩
     rw[aG (Or.inl trivial)]
     simp only[CG,aX,iF,jJ,iG,mR,lV,bA,aY,aY]
    by_cases hz:(n:Int)=0
    case' pos=>have hz':n=0:=by omega
    case' neg=>have hz':n≠0:=by omega
    all_goals
     by_cases h9:(999:Int)<(n:Int)
     case' pos=>have h9':999<n:=by omega
     case' neg=>have h9':¬ 999<n:=by omega
     all_goals try (exfalso;omega)
     all_goals
      simp only[aK,hz,h9,hfa,aA,seval,CZ]
      try
       refine(QV _ _).to ?_
       simp only[aK,aA,seval,CZ]
      refine⟨?_,(aL.refl _).aC hb⟩
      first
       | rw[aG (by omega)]
       | rw[aE (by omega),aG (by omega),show f+t.length=j by omega]
       | rw[aE (by omega),aE (by omega),show f+t.length=j by omega]
      simp only[CG,aX,iF,jJ,iG,mR,nE,lV,bA,aY,aY]
def CD(o:Option (ByteArray×Nat)):AV:=match o with | some (b,e)=>.tup [.str b,.int .i64 (e:Int)] | none=>.tup [.str ⟨#[]⟩,.int .i64 (-1)]
theorem aW9(st:aB):aD prog 346 [] st (fun r st'=>r=.slice (jI.map .str)∧st'=st):=aD.done ((ZX st).mono (by rintro _ _ ⟨rfl,rfl⟩;exact⟨rfl,aL.refl _⟩))
abbrev C0:=zi aW (zi cW pP)
set_option maxHeartbeats 1000000 in
theorem QW(s:ByteArray)(hs:s.size≤1000)(a:Nat)(ha:a≤s.size)(st:aB):aD prog 354 [.str s,.int .i64 (a:Int)] st (fun r st'=>r=CD (pM (sb s) a)∧st'=st):=by
 refine wF [1000000] 2 func354 ntmps354 rfl rfl ?_
 intro _
 simp only[aA,seval]
 refine iJ (σ:=Nat) [1000000] [0,1,4,5] (fun j=>a≤j∧j - a≤(((sb s).drop a).takeWhile letter).length) (fun j=>[(6,.int .i64 (j:Int))]) (fun _=>st) (fun j=>s.size - j) (by decide +kernel) ⟨a,⟨by omega,by omega⟩,aO.mk (by simp only[aA,seval])⟩ ?_
 rintro j ⟨hj1,hj⟩
 have hfi:j≤s.size:=by have:=KD letter ((sb s).drop a);rw[mB,cO] at this;omega
 simp only[aA,seval]
 refine(aN4 s j _).to ?_
 have hw6:=bF (n:=(a:Int)+6)
 have IU:=bF (n:=(j:Int)+1)
 simp only[aA,seval]
 refine aP (fun h5=>?_) (fun h5=>?_)
 · have hlt:=a6N h5
   rw[show j=a+(j - a) by omega,←E4] at h5
   simp only[IU,aA,seval]
   exact⟨j+1,by rw[cO] at hlt;omega,⟨by omega,by have:=WZ hj h5;omega⟩,aO.mk (by simp only[aA,seval]<;>rfl)⟩
 rw[show j=a+(j - a) by omega,←E4] at h5
 have he:=WY hj h5
 have hex:s.extract a j=ba (((sb s).drop a).takeWhile letter):=by rw[HJ,he,aR2]
 have hsl:=fun(φ:AF) (y z:Operand) (h:φ.eval y=.int .i64 (a:Int)) (h':φ.eval z=.int .i64 (j:Int))=>JK (s:=s) h h' hj1 hfi
 rw[hex] at hsl
 simp only[hw6,aA,seval]
 refine aP (fun h6=>?_) (fun h6=>?_)
 · simp only[bK] at h6
   simp only[aA,seval]
   unfold pM
   rw[aG (by omega)]
   try rfl
 simp only[dF] at h6
 simp only[aA,seval]
 refine aP (fun h7=>?_) (fun h7=>?_)
 · simp only[bK] at h7
   simp only[hsl,aA,seval]
   unfold pM
   rw[aE (by omega),aG (by omega),←he,show a+(j - a)=j by omega]
   try rfl
 simp only[dF] at h7
 obtain rfl:j=a:=by omega
 have hrd:pM (sb s) j=if(jI.foldl (kT ((sb s).drop j)) ⟨#[]⟩).size=0 then none else some (jI.foldl (kT ((sb s).drop j)) ⟨#[]⟩,j+(jI.foldl (kT ((sb s).drop j)) ⟨#[]⟩).size):=by
  unfold pM
  rw[aE (by omega),aE (by omega)]
 rw[hrd]
 clear hrd
 simp only[aA,seval]
 refine(aW9 _).to ?_
 simp only[aA,seval]
 refine iJ (σ:=Nat) [1000000] [0,1,4,5,8] (fun i=>i≤jI.length) (fun i=>[(7,.str ((jI.take i).foldl (kT ((sb s).drop j)) ⟨#[]⟩)),(9,.int .i64 (i:Int))]) (fun _=>st) (fun i=>jI.length - i) (by decide +kernel) ⟨0,by omega,aO.mk (by simp only[jA,List.foldl_nil,aA,↓aS,seval])⟩ ?_
 intro i hi
 have hbl:=aU1 ((sb s).drop j) i
 simp only[aF,aA,seval,C0]
 refine aP (fun h8=>?_) (fun h8=>?_)
 case refine_2=>
  simp only[dF] at h8
  rw[show i=jI.length by omega,dS] at hbl ⊢
  generalize jI.foldl (kT ((sb s).drop j)) ⟨#[]⟩=g at *
  have hw7:=bF (n:=(j:Int)+(g.size:Int))
  simp only[aA,seval]
  refine aP (fun h9=>?_) (fun h9=>?_)
  · simp only[bK] at h9
    subst h9
    simp only[aA,seval]
    rfl
  · simp only[dF] at h9
    simp only[hw7,aA,seval,C0]
    rw[aE fun h=>h9 (aUZ h)]
    try rfl
 simp only[bK] at h8
 obtain⟨g,hg⟩:∃g,jI[i]?=some g:=⟨_,d4 (by omega)⟩
 have hat:=bH (av:=AV.str) sO hg rfl
 have hgl:=aPK g (cH hg)
 have h15:jI.length=15:=rfl
 obtain⟨m,hm⟩:∃m,m=j+g.size:=⟨_,rfl⟩
 have hwn:=nJ (x:=(j:Int)+(g.size:Int)) (m:=m) (by omega) (by omega)
 have hw1:=bF (n:=(i:Int)+1)
 have g7:(jI.take (i+1)).foldl (kT ((sb s).drop j)) ⟨#[]⟩=kT ((sb s).drop j) ((jI.take i).foldl (kT ((sb s).drop j)) ⟨#[]⟩) g:=by
  rw[dY,hg,KN];try rfl
 generalize hB:(jI.take i).foldl (kT ((sb s).drop j)) ⟨#[]⟩=B at *
 simp only[hat,aA,seval,C0]
 refine wP [(0,1),(1,1),(2,1),(3,1),(4,1),(5,1),(6,1),(7,1),(8,1),(9,1),(10,1),(11,1),(12,1),(13,1),(14,1),(15,1),(16,2),(17,1),(18,1),(19,1),(20,1),(21,1),(22,1),(23,1),(24,1)] [0,1,2,3,4,5,6,7,8,9,10,11,12,13,14,15,16,17,18,19,20,21,22,23,24] mixed ?_
 by_cases hle:m≤s.size
 · have hex:s.extract j m=ba (((sb s).drop j).take g.size):=by rw[HJ,hm,Nat.add_sub_cancel_left]
   have hsl:=fun(φ:AF) (y z:Operand) (h:φ.eval y=.int .i64 (j:Int)) (h':φ.eval z=.int .i64 (m:Int))=>JK (s:=s) h h' (by omega) hle
   rw[hex] at hsl
   have IK:((m:Int)≤(s.size:Int))=True:=cL (by omega)
   by_cases heq:ba (((sb s).drop j).take g.size)=g
   · by_cases hlt:B.size<g.size
     · have bL:((B.size:Int)<(g.size:Int))=True:=cL (by omega)
       have hb:kT ((sb s).drop j) B g=g:=by unfold kT;rw[aG ⟨eA sb heq,hlt⟩]
       simp only[hat,hwn,hw1,IK,hsl,heq,bL,bM,aA,seval,C0]
       exact⟨i+1,by omega,by omega,aO.mk (by simp only[g7,hb,aA,seval])⟩
     · have bL:((B.size:Int)<(g.size:Int))=False:=bZ (by omega)
       have hb:kT ((sb s).drop j) B g=B:=by unfold kT;rw[aE fun h=>hlt h.2]
       simp only[hat,hwn,hw1,IK,hsl,heq,bL,bM,bP,aA,seval,C0]
       exact⟨i+1,by omega,by omega,aO.mk (by simp only[g7,hb,aA,seval])⟩
   · have hb:kT ((sb s).drop j) B g=B:=by unfold kT;rw[aE fun h=>heq (by rw[h.1])]
     simp only[hat,hwn,hw1,IK,hsl,heq,bM,bP,aA,seval,C0]
     exact⟨i+1,by omega,by omega,aO.mk (by simp only[g7,hb,aA,seval])⟩
 · have IK:((m:Int)≤(s.size:Int))=False:=bZ (by omega)
   have hb:kT ((sb s).drop j) B g=B:=by
    unfold kT
    rw[aE]
    rintro⟨h,_⟩
    have:=eA List.length h
    rw[c7,mB,cO,cO] at this
    omega
   simp only[hwn,hw1,IK,bP,aA,seval,C0]
   exact⟨i+1,by omega,by omega,aO.mk (by simp only[g7,hb,aA,seval])⟩
end Go.AW
namespace Go.AW
def iI(nm:ByteArray):Bool:=decide (nm=⟨#[105,115]⟩)||decide (nm=⟨#[109,111,100]⟩)
def rQ(l:List UInt8)(a:Nat):Option (ByteArray×Nat):=
 let f:=if cV l a 32 then a+1 else a
 if l.length≤f then none else match pM l f with
 | none=>none
 | some (nm,e)=>if cC nm=0 then none else if iI nm≠decide (a<f)∨(iI nm=true∧cV l e 32=false) then none else some (nm,if iI nm then e+1 else e)
abbrev lO:=Nat→Option (Tm×Nat)
def tE(R:lO)(l:List UInt8)(c1 c2:Nat):Nat→Nat→List Tm→Option (List Tm×Nat)
 | 0,_,_=>none
 | n+1,a,acc=>match R a with
  | none=>none
  | some (t,e)=>if(cV l e c1||cV l e c2)=true then some (acc++ [t],e) else if cV l e 44 then tE R l c1 c2 n (e+1) (acc++ [t]) else none
abbrev pJ (nm:ByteArray) (ts:List Tm):Tm:=.mk 3 0 nm ts
def xC:List Tm→Tm→Tm
 | [],t=>t
 | x::xs,t=>pJ ⟨#[46]⟩ [x,xC xs t]
def B8(R:lO)(l:List UInt8)(a:Nat):Option (Tm×Nat):=
 match tE R l 93 124 (l.length+1) a [] with
 | none=>none
 | some (ts,e)=>if cV l e 93 then some (xC ts (pJ ⟨#[91,93]⟩ []),e+1) else match R (e+1) with
  | none=>none
  | some (t,e')=>if cV l e' 93 then some (xC ts t,e'+1) else none
def LF(l:List UInt8)(a:Nat):Nat:=match l[a]? with | some x=>x.toNat | none=>0
def nZ(R:Nat→lO)(l:List UInt8)(d a:Nat):Option (Tm×Nat):=
 if d<1∨l.length≤a then none
 else if cV l a 40 then match R d (a+1) with
  | none=>none
  | some (t,e)=>if cV l e 41 then some (t,e+1) else none
 else if(cV l a 91&& !cV l (a+1) 93)=true then B8 (R (d - 1)) l (a+1)
 else if gC l a r0 then some (vr ((LF l a - 65:Nat):Int),a+1)
 else if(gC l a dL||(cV l a 45&&gC l (a+1) dL))=true then match v8 l a with
  | none=>none
  | some (n,e)=>some (.mk 2 n ⟨#[]⟩ [],e)
 else match pM l a with
  | none=>none
  | some (nm,e)=>if cV l e 40=false then some (pJ nm [],e) else match tE (R (d - 1)) l 41 41 (l.length+1) (e+1) [] with
   | none=>none
   | some (ts,e')=>some (pJ nm ts,e'+1)
def FG(R:lO)(l:List UInt8)(lev:Nat):Nat→Tm→Nat→Option (Tm×Nat)
 | 0,_,_=>none
 | n+1,left,e=>match rQ l e with
  | none=>some (left,e)
  | some (nm,e1)=>if cC nm≠lev then some (left,e) else match R e1 with
   | none=>none
   | some (rt,e2)=>if lev=3 then some (pJ nm [left,rt],e2) else FG R l lev n (pJ nm [left,rt]) e2
def rd(l:List UInt8):Nat→Nat→Nat→Nat→Option (Tm×Nat)
 | 0,_,_,_=>none
 | n+1,d,a,0=>nZ (fun d a=>rd l n d a 3) l d a
 | n+1,d,a,lv+1=>match rd l n d a lv with
  | none=>none
  | some (t,e)=>FG (fun a=>rd l n d a lv) l (lv+1) (l.length+1) t e
theorem a94{l:List UInt8}{a c:Nat}(ha:a≤l.length):a≤(if cV l a c=true then a+1 else a)∧(if cV l a c=true then a+1 else a)≤l.length:=by
 split
 · have:=pH ‹_›;omega
 · omega
theorem a89{l:List UInt8}{a:Nat}{x:Int}{e:Nat}(ha:a≤l.length)(h:v8 l a=some (x,e)):a<e∧e≤l.length:=by
 unfold v8 at h
 have hf:=a94 (c:=45) ha
 simp only at h
 generalize (if cV l a 45=true then a+1 else a)=f at h hf
 split at h
 · cases h
 rename_i h1
 simp only[Option.some.injEq,Prod.mk.injEq] at h
 obtain⟨_,rfl⟩:=h
 have h2:(((l.drop f).takeWhile dL).take 4).length≠0:=by
  intro h0
  refine h1 (Or.inl ?_)
  unfold iD
  rw[aG (Or.inl h0)]
 have h3:=KD dL (l.drop f)
 rw[mB] at h3
 have h4:(((l.drop f).takeWhile dL).take 4).length≤((l.drop f).takeWhile dL).length:=by rw[c7];omega
 omega
theorem Y3(L:List UInt8):∀(gs:List ByteArray) (b:ByteArray),b.size≤L.length→(gs.foldl (kT L) b).size≤L.length
 | [],b,h=>h
 | g::gs,b,h=>by
  rw[vD]
  refine Y3 L gs _ ?_
  unfold kT
  split
  · rename_i h1
    have:=eA List.length h1.1
    rw[c7,cO] at this
    omega
  · exact h
theorem JA{l:List UInt8}{a:Nat}{x:ByteArray}{e:Nat}(ha:a≤l.length)(h:pM l a=some (x,e)):a<e∧e≤l.length:=by
 unfold pM at h
 simp only at h
 have h3:=KD letter (l.drop a)
 rw[mB] at h3
 split at h
 · cases h
 split at h
 · cases h;omega
 split at h
 · cases h
 · have:=Y3 (l.drop a) jI ⟨#[]⟩ (iU _)
   rw[mB] at this
   cases h;omega
theorem aOL{l:List UInt8}{a:Nat}{x:ByteArray}{e:Nat}(h:rQ l a=some (x,e)):a<e∧e≤l.length∧cC x≠0:=by
 unfold rQ at h
 have h6:a≤(if cV l a 32=true then a+1 else a):=by split<;>omega
 simp only at h
 generalize (if cV l a 32=true then a+1 else a)=f at h h6
 split at h
 · cases h
 rename_i h1
 split at h
 · cases h
 rename_i nm e0 h2
 have h3:=JA (by omega) h2
 split at h
 · cases h
 rename_i h7
 split at h
 · cases h
 rename_i h4
 simp only[Option.some.injEq,Prod.mk.injEq] at h
 obtain⟨rfl,rfl⟩:=h
 split
 · rename_i h5
   have:cV l e0 32=true:=by
    cases hb:cV l e0 32 with
    | true=>rfl
    | false=>exact absurd (Or.inr ⟨h5,hb⟩) h4
   have:=pH this
   exact⟨by omega,by omega,h7⟩
 · exact⟨by omega,by omega,h7⟩
def yT(R:lO)(l:List UInt8):Prop:=∀a t e,a≤l.length→R a=some (t,e)→a<e∧e≤l.length∧Dn t
theorem OR{R:lO}{l:List UInt8}{c1 c2:Nat}(hR:yT R l):∀(n a:Nat) (acc:List Tm) (ts:List Tm) (e:Nat),a≤l.length→(∀x∈acc,Dn x)→tE R l c1 c2 n a acc=some (ts,e)→a<e∧e<l.length∧(∀x∈ts,Dn x)∧ts.length≤acc.length+n∧(cV l e c1=true∨cV l e c2=true):=by
 intro n
 induction n with
 | zero=>intro a acc ts e _ _ h;cases h
 | succ n ih=>
  intro a acc ts e ha f9 h
  unfold tE at h
  split at h
  · cases h
  rename_i t e1 h1
  obtain⟨h2,h3,h4⟩:=hR a t e1 ha h1
  have H8:∀x∈acc++ [t],Dn x:=by intro x hx;rw[eH] at hx;rcases hx with hx | hx;exact f9 x hx;rw[DI] at hx;subst hx;exact h4
  split at h
  · rename_i h5
    cases h
    rw[oZ] at h5
    refine⟨h2,?_,H8,by rw[dN,PL];omega,h5⟩
    rcases h5 with h5 | h5<;>exact pH h5
  split at h
  · rename_i h5
    have h6:=pH h5
    obtain⟨g1,g2,g3,g4,g5⟩:=ih (e1+1) _ ts e (by omega) H8 h
    rw[dN,PL] at g4
    exact⟨by omega,g2,g3,by omega,g5⟩
  · cases h
theorem RL{nm:ByteArray}{ts:List Tm}(hl:ts.length≤1048576)(h:∀x∈ts,Dn x):Dn (pJ nm ts):=aBA (by decide) hl h
theorem RM{nm:ByteArray}{x y:Tm}(hx:Dn x)(hy:Dn y):Dn (pJ nm [x,y]):=RL (by simp) (by intro z hz;simp only[cY,dK,dQ] at hz;rcases hz with rfl | rfl;exact hx;exact hy)
theorem aBB{nm:ByteArray}:Dn (pJ nm []):=RL (by simp) (by simp)
theorem Q9{t:Tm}(ht:Dn t):∀ts:List Tm,(∀x∈ts,Dn x)→Dn (xC ts t)
 | [],_=>ht
 | x::xs,h=>RM (h x (by simp)) (Q9 ht xs fun y hy=>h y (by simp [hy]))
theorem a6O{R:lO}{l:List UInt8}(hR:yT R l)(hl:l.length≤1000){a:Nat}{t:Tm}{e:Nat}(ha:a≤l.length)(h:B8 R l a=some (t,e)):a<e∧e≤l.length∧Dn t:=by
 unfold B8 at h
 split at h
 · cases h
 rename_i ts e1 h1
 obtain⟨g1,g2,g3,g4,g5⟩:=OR hR _ _ _ _ _ ha (by simp) h1
 split at h
 · cases h
   exact⟨by omega,by omega,Q9 aBB _ g3⟩
 split at h
 · cases h
 rename_i t2 e2 h2
 obtain⟨k1,k2,k3⟩:=hR _ _ _ (by omega) h2
 split at h
 · rename_i h5
   cases h
   have:=pH h5
   exact⟨by omega,by omega,Q9 k3 _ g3⟩
 · cases h
theorem a8Q{R:Nat→lO}{l:List UInt8}(hR:∀d,yT (R d) l)(hl:l.length≤1000){d a:Nat}{t:Tm}{e:Nat}(h:nZ R l d a=some (t,e)):a<e∧e≤l.length∧Dn t:=by
 unfold nZ at h
 split at h
 · cases h
 rename_i h0
 have ha:a<l.length:=by omega
 split at h
 · split at h
   · cases h
   rename_i t1 e1 h1
   obtain⟨k1,k2,k3⟩:=hR _ _ _ _ (by omega) h1
   split at h
   · rename_i h5
     cases h
     have:=pH h5
     exact⟨by omega,by omega,k3⟩
   · cases h
 split at h
 · obtain⟨k1,k2,k3⟩:=a6O (hR _) hl (by omega) h
   exact⟨by omega,k2,k3⟩
 split at h
 · cases h
   exact⟨by omega,by omega,aZV _⟩
 split at h
 · split at h
   · cases h
   rename_i n e1 h1
   cases h
   have:=a89 (by omega) h1
   exact⟨this.1,this.2,aBA (by decide) (by simp) (by simp)⟩
 split at h
 · cases h
 rename_i nm e1 h1
 have g:=JA (by omega) h1
 split at h
 · cases h
   exact⟨g.1,g.2,aBB⟩
 split at h
 · cases h
 rename_i h6 _ ts e2 h2
 have h7:cV l e1 40=true:=by simpa using h6
 have h8:=pH h7
 obtain⟨k1,k2,k3,k4,k5⟩:=OR (hR _) _ _ _ _ _ (by omega) (by simp) h2
 cases h
 refine⟨by omega,by omega,RL ?_ k3⟩
 rw[aZ] at k4
 omega
theorem a8C{R:lO}{l:List UInt8}(hR:yT R l)(lev:Nat):∀(n:Nat) (t0:Tm) (e0:Nat) (t:Tm) (e:Nat),e0≤l.length→Dn t0→FG R l lev n t0 e0=some (t,e)→e0≤e∧e≤l.length∧Dn t:=by
 intro n
 induction n with
 | zero=>intro t0 e0 t e _ _ h;cases h
 | succ n ih=>
  intro t0 e0 t e h0 ht h
  unfold FG at h
  split at h
  · cases h;exact⟨by omega,h0,ht⟩
  rename_i nm e1 h1
  have g:=aOL h1
  split at h
  · cases h;exact⟨by omega,h0,ht⟩
  split at h
  · cases h
  rename_i rt e2 h2
  obtain⟨k1,k2,k3⟩:=hR _ _ _ g.2.1 h2
  split at h
  · cases h;exact⟨by omega,k2,RM ht k3⟩
  · obtain⟨q1,q2,q3⟩:=ih _ _ _ _ k2 (RM ht k3) h
    exact⟨by omega,q2,q3⟩
theorem CM{l:List UInt8}(hl:l.length≤1000):∀(n d lv:Nat),yT (fun a=>rd l n d a lv) l:=by
 intro n
 induction n with
 | zero=>intro d lv a t e _ h;cases h
 | succ n ih=>
  intro d lv a t e ha h
  cases lv with
  | zero=>
   simp only[rd] at h
   exact a8Q (fun d=>ih d 3) hl h
  | succ lv=>
   simp only[rd] at h
   split at h
   · cases h
   rename_i t1 e1 h1
   obtain⟨k1,k2,k3⟩:=ih d lv a t1 e1 ha h1
   obtain⟨q1,q2,q3⟩:=a8C (ih d lv) _ _ _ _ _ _ k2 k3 h
   exact⟨by omega,q2,q3⟩
end Go.AW
namespace Go.AW
open Go.Proofs.Tryz
def lT(a:Int):AV:=.tup [J7.av,.int .i64 (-1 - a)]
abbrev bBQ:=zi aW bR
theorem D4(a:Nat)(ha:a≤1048576)(st:aB):aD prog 351 [.int .i64 (a:Int)] st (fun r st'=>r=lT a∧st'=st):=by
 refine aD.done ?_
 refine wF [1000000] 1 func351 ntmps351 rfl rfl ?_
 intro _
 have hw:=bF (n:= -1 - (a:Int))
 simp only[aK,hw,aA,seval,bBQ]
 intro b hb
 exact⟨by simp only[lT,aX,iF,jJ,iG,mR,lV,bA,aY,aY],(aL.refl _).aC hb⟩
def UF(a:Nat)(o:Option (ByteArray×Nat)):AV:=match o with | some (b,e)=>.tup [.str b,.int .i64 (e:Int)] | none=>.tup [.str ⟨#[]⟩,.int .i64 (a:Int)]
abbrev F8:=zi aW (zi cF (zi lH (zi AS cW)))
set_option maxHeartbeats 1000000 in
theorem aXG(s:ByteArray)(hs:s.size≤1000)(a:Nat)(ha:a≤s.size)(st:aB):aD prog 327 [.str s,.int .i64 (a:Int)] st (fun r st'=>r=UF a (rQ (sb s) a)∧st'=st):=by
 refine wF [1000000] 2 func327 ntmps327 rfl rfl ?_
 intro _
 simp only[aA,seval]
 refine(lF s a 32 _).to ?_
 obtain⟨f1,hf1⟩:∃f,f=a+1:=⟨_,rfl⟩
 have hw1:=nJ (x:=(a:Int)+1) (m:=f1) (by omega) (by omega)
 simp only[aA,seval]
 refine aP (fun h1=>?_) (fun h1=>?_)
 · have hf:=pH h1
   rw[cO] at hf
   simp only[hw1,aA,seval,F8]
   obtain⟨f,rfl⟩:∃f,f=f1:=⟨_,rfl⟩
   replace hf:f≤s.size:=by omega
   by_cases hlen:s.size≤f
   case pos=>
    have hrd:rQ (sb s) a=none:=by
     unfold rQ
     simp only[h1,↓reduceIte,←hf1]
     rw[aG (by rw[cO];exact hlen)]
    rw[hrd]
    have cM:((s.size:Int)≤(f:Int))=True:=cL (by omega)
    simp only[cM,bM,aA,seval]
    rfl
   have cM:((s.size:Int)≤(f:Int))=False:=bZ (by omega)
   have hrd:rQ (sb s) a=match pM (sb s) f with
    | none=>none
    | some (nm,e)=>if cC nm=0 then none else if iI nm≠decide (a<f)∨(iI nm=true∧cV (sb s) e 32=false) then none else some (nm,if iI nm then e+1 else e):=by
    unfold rQ
    simp only[h1,↓reduceIte,←hf1]
    rw[aE (by rw[cO];exact hlen)]
    try rfl
   rw[hrd]
   clear hrd
   have hfa:((a:Int)<(f:Int))=True:=cL (by omega)
   have hfn:(a<f)=True:=cL (by omega)
   simp only[cM,bP,aA,seval]
   refine(QW s hs f (by omega) _).to ?_
   cases hn:pM (sb s) f with
   | none=>
    simp only[CD]
    simp only[bM,aA,seval]
    rfl
   | some p=>
    obtain⟨nm,e⟩:=p
    have he:=JA (by rw[cO];omega) hn
    rw[cO] at he
    simp only[CD]
    have he0:((e:Int)<0)=False:=bZ (by omega)
    simp only[he0,bP,aA,seval]
    refine(xA nm _).to ?_
    by_cases hl0:cC nm=0
    case pos=>
     rw[aG hl0]
     have qA:((cC nm:Int)=0)=True:=cL (by omega)
     simp only[qA,bM,aA,seval]
     rfl
    rw[aE hl0]
    have qA:((cC nm:Int)=0)=False:=bZ (by omega)
    simp only[hfn,bM]
    have hw1:=bF (n:=(e:Int)+1)
    by_cases hi:nm=⟨#[105,115]⟩
    case' pos=>
     have hi':=cL hi
     have hm':(nm=⟨#[109,111,100]⟩)=False:=bZ (by rw[hi];decide)
     have hW:iI nm=true:=by unfold iI;rw[eE hi];try rfl
    case' neg=>
     have hi':=bZ hi
     by_cases hm:nm=⟨#[109,111,100]⟩
     case' pos=>
      have hm':=cL hm
      have hW:iI nm=true:=by unfold iI;rw[eE hm];exact vB _
     case' neg=>
      have hm':=bZ hm
      have hW:iI nm=false:=by unfold iI;rw[d5 hm,d5 hi];try rfl
    all_goals
     rw[hW]
     simp only[qA,hfa,hi',hm',bM,bP,aA,seval,F8]
     first
      | (rw[aG (Or.inl trivial)];rfl)
      | (rw[aE fun h=>h.1];rfl)
      | skip
     try
      refine(lF s e 32 _).to ?_
      cases hb:cV (sb s) e 32 with
      | false=>
       simp only[aA,seval]
       rfl
      | true=>
       simp only[hw1,aA,seval]
       rfl
 · skip
   simp only[aA,seval,F8]
   obtain⟨f,rfl⟩:∃f,f=a:=⟨_,rfl⟩
   have hf:=ha
   by_cases hlen:s.size≤f
   case pos=>
    have hrd:rQ (sb s) f=none:=by
     unfold rQ
     simp only[h1,↓reduceIte,fX]
     rw[aG (by rw[cO];exact hlen)]
    rw[hrd]
    have cM:((s.size:Int)≤(f:Int))=True:=cL (by omega)
    simp only[cM,bM,aA,seval]
    rfl
   have cM:((s.size:Int)≤(f:Int))=False:=bZ (by omega)
   have hrd:rQ (sb s) f=match pM (sb s) f with
    | none=>none
    | some (nm,e)=>if cC nm=0 then none else if iI nm≠decide (f<f)∨(iI nm=true∧cV (sb s) e 32=false) then none else some (nm,if iI nm then e+1 else e):=by
    unfold rQ
    simp only[h1,↓reduceIte,fX]
    rw[aE (by rw[cO];exact hlen)]
    try rfl
   rw[hrd]
   clear hrd
   have hfa:((f:Int)<(f:Int))=False:=bZ (by omega)
   have hfn:(f<f)=False:=bZ (by omega)
   simp only[cM,bP,aA,seval]
   refine(QW s hs f (by omega) _).to ?_
   cases hn:pM (sb s) f with
   | none=>
    simp only[CD]
    simp only[bM,aA,seval]
    rfl
   | some p=>
    obtain⟨nm,e⟩:=p
    have he:=JA (by rw[cO];omega) hn
    rw[cO] at he
    simp only[CD]
    have he0:((e:Int)<0)=False:=bZ (by omega)
    simp only[he0,bP,aA,seval]
    refine(xA nm _).to ?_
    by_cases hl0:cC nm=0
    case pos=>
     rw[aG hl0]
     have qA:((cC nm:Int)=0)=True:=cL (by omega)
     simp only[qA,bM,aA,seval]
     rfl
    rw[aE hl0]
    have qA:((cC nm:Int)=0)=False:=bZ (by omega)
    simp only[hfn,bP]
    have hw1:=bF (n:=(e:Int)+1)
    by_cases hi:nm=⟨#[105,115]⟩
    case' pos=>
     have hi':=cL hi
     have hm':(nm=⟨#[109,111,100]⟩)=False:=bZ (by rw[hi];decide)
     have hW:iI nm=true:=by unfold iI;rw[eE hi];try rfl
    case' neg=>
     have hi':=bZ hi
     by_cases hm:nm=⟨#[109,111,100]⟩
     case' pos=>
      have hm':=cL hm
      have hW:iI nm=true:=by unfold iI;rw[eE hm];exact vB _
     case' neg=>
      have hm':=bZ hm
      have hW:iI nm=false:=by unfold iI;rw[d5 hm,d5 hi];try rfl
    all_goals
     rw[hW]
     simp only[qA,hfa,hi',hm',bM,bP,aA,seval,F8]
     first
      | (rw[aG (Or.inl trivial)];rfl)
      | (rw[aE fun h=>h.1];rfl)
      | skip
     try
      refine(lF s e 32 _).to ?_
      cases hb:cV (sb s) e 32 with
      | false=>
       simp only[qA,hfa,hi',hm',hw1,bM,bP,aA,↓aS,seval,F8]
       rfl
      | true=>
       simp only[qA,hfa,hi',hm',hw1,bM,bP,aA,↓aS,seval,F8]
       rfl
theorem aY7{ts:List Tm}{i:Nat}{x t:Tm}(hx:ts[i]?=some x):xC (ts.drop i) t=pJ ⟨#[46]⟩ [x,xC (ts.drop (i+1)) t]:=by
 obtain⟨h1,h2⟩:=fA.1 hx
 rw[qS h1,h2]
 try rfl
abbrev OF:=zi aW (zi cW (zi cA (zi aRJ bR)))
set_option maxHeartbeats 1000000 in
theorem ZT(ts:List Tm)(tl:Tm)(hl:ts.length≤1048576)(st:aB):aD prog 365 [.slice (ts.map Tm.av),tl.av] st (fun r st'=>r=(xC ts tl).av∧st'=st):=by
 refine aD.done ?_
 refine wF [1000000,5] 2 func365 ntmps365 rfl rfl ?_
 intro _
 have hw0:=bF (n:=(ts.length:Int) - 1)
 simp only[aK,a7,aN,cI,cP,cE,aF,hw0,aA,↓aS,seval,OF]
 intro b hb b5 hb5
 have hbb:b5≠b:=fun h=>by rw[h,aB.aJ] at hb5;cases hb5
 refine iJ (σ:=Nat) [1000000] [0,4,5] (fun i=>i≤ts.length) (fun i=>[(6,.int .i64 ((i:Int) - 1))]) (fun i=>(st.aC b (.cells [.int .i64 0,.int .i64 0,.str ⟨#[]⟩,.fslice []])).aC b5 (.cells (xC (ts.drop i) tl).av.cells)) (fun i=>i) (by decide +kernel) ⟨ts.length,by omega,by rw[kB];exact aO.mk (by simp only[aA,seval])⟩ ?_
 intro i hi
 simp only[aA,seval]
 refine aP (fun h1=>?_) (fun h1=>?_)
 · simp only[bK] at h1
   obtain⟨k,rfl⟩:∃k,i=k+1:=⟨i - 1,by omega⟩
   obtain⟨x,hx⟩:∃x,ts[k]?=some x:=⟨_,d4 (by omega)⟩
   have hk:((k+1:Nat):Int) - 1=(k:Int):=by omega
   have hw:=bF (n:=(k:Int) - 1)
   have hst:=aY7 (t:=tl) hx
   have hat:=bH (av:=Tm.av) bQ hx (aN x)
   rw[hk]
   generalize xC (ts.drop (k+1)) tl=y at *
   have hax:=cE x
   have hay:=cE y
   simp only[aA,seval]
   refine wP [(0,1),(1,1),(2,1),(3,2),(4,2),(5,1),(6,2),(7,0)] [0,1,2,3,4,5,6] mixed ?_
   simp only[a7,aN,cP,cE,fN (cE _),fG (a7 _),hat,aA,seval,OF]
   refine gP (LP ⟨#[46]⟩ [x,y] (by simp) _) ?_
   simp only[aK,cI,cE,hw,aA,seval,OF]
   refine⟨k,by omega,by omega,?_⟩
   rw[hst]
   exact aO.mk (by simp only[aA,seval])
 · simp only[dF] at h1
   obtain rfl:i=0:=by omega
   rw[r8]
   simp only[aK,cI,cE,fN (cE _),fG (a7 _),hbb.symm,aA,↓aS,seval,OF]
   exact⟨Tm.soft _,(((aL.refl _).aC hb).aC (by rwa [aB.aH _ _ hbb] at hb5)).aC hb⟩
def mV(o:Option (Tm×Nat))(r:AV):Prop:=match o with | some (t,e)=>r=.tup [t.av,.int .i64 (e:Int)] | none=>∃k:Nat,k≤1048576∧r=lT k
def wT(o:Option (List Tm×Nat))(r:AV):Prop:=match o with | some (ts,e)=>r=.tup [.slice (ts.map Tm.av),.int .i64 (e:Int)] | none=>∃k:Nat,k≤1048576∧r=.tup [.slice [],.int .i64 (-1 - (k:Int))]
abbrev PS (s:ByteArray) (R:lO) (d lv lo:Nat):Prop:=∀(a:Nat) (st:aB),lo≤a→a≤s.size→aD prog 282 [.str s,.int .i64 (a:Int),.int .i64 (d:Int),.int .i64 (lv:Int)] st (fun r st'=>mV (R a) r∧st'=st)
abbrev WJ:=zi aW (zi cF (zi lH (zi AS (zi cW (zi cA bR)))))
set_option maxHeartbeats 1000000 in
theorem Z4{s:ByteArray}{R:lO}{d lo c1 c2:Nat}(hR:PS s R d 3 lo)(hok:yT R (sb s))(hs:s.size≤1000)(a:Nat)(ha:lo≤a)(ha':a≤s.size)(st:aB) :
 aD prog 355 [.str s,.int .i64 (a:Int),.int .i64 (d:Int),.int .u8 (c1:Int),.int .u8 (c2:Int)] st (fun r st'=>wT (tE R (sb s) c1 c2 ((sb s).length+1) a []) r∧st'=st):=by
 generalize hT:tE R (sb s) c1 c2 ((sb s).length+1) a []=T
 rw[cO] at hT
 refine aD.drop (Q:=wT T) (aD.fin ?_)
 refine wF [1000000] 5 func355 ntmps355 rfl rfl ?_
 intro _
 simp only[aA,seval,WJ]
 refine iJ (σ:=Nat×List Tm×Nat×Nat) [1000000] [0,2,3,4] (fun x=>tE R (sb s) c1 c2 x.2.2.1 x.1 x.2.1=T∧lo≤x.1∧x.1≤s.size∧s.size<x.2.2.1+x.1∧x.2.1.length+x.2.2.1≤1001∧(x.2.1.map Tm.av≠[]→st x.2.2.2=none)) (fun x=>[(1,.int .i64 (x.1:Int)),(10,.fslice []),(11,.int .i64 0),(12,bS 4 x.2.2.2 (x.2.1.map Tm.av))]) (fun x=>bE st x.2.2.2 (x.2.1.map Tm.av)) (fun x=>x.2.2.1) (by decide +kernel) ⟨(a,[],s.size+1,0),⟨hT,ha,ha',by simp only;omega,by simp only[aZ];omega,by simp⟩,aO.mk (by simp only[aY,iV,aA,seval])⟩ ?_
 rintro⟨i,acc,m,b⟩ ⟨ht,hlo,hi,hm,hlen,hb⟩
 simp only at ht hlo hi hm hlen hb ⊢
 obtain⟨m,rfl⟩:∃m',m=m'+1:=⟨m - 1,by omega⟩
 simp only[tE] at ht
 simp only[aA,seval]
 refine(hR i _ hlo hi).mono ?_
 rintro r _ ⟨hr,rfl⟩
 have fin:∀(l:List Tm) (b':Nat) (r':AV),(l.map Tm.av≠[]→st b'=none)→wT T (r'.fin b' (l.map Tm.av))→∃b2 l2 s0,bE st b' (l.map Tm.av)=bE s0 b2 l2∧(l2≠[]→s0 b2=none)∧(∀e∈l2,e.cD=false)∧iT l2∧aL s0 st∧wT T (r'.fin b2 l2):=fun l b' r' h1 h2=>⟨b',_,st,rfl,h1,oV _,⟨4,gO _⟩,aL.refl _,h2⟩
 have hTn:T=none→∀k:Nat,k≤1048576→∀(b':Nat) (l:List AV),wT T ((AV.tup [.fslice [],.int .i64 (-1 - (k:Int))]).fin b' l):=by
  rintro rfl k hk b' l
  exact⟨k,hk,by simp only[jS,eW,nS,bA,aY]⟩
 cases hRi:R i with
 | none=>
  rw[hRi] at ht hr
  obtain⟨k,hk,rfl⟩:=hr
  have hk0:((-1 - (k:Int))<0)=True:=cL (by omega)
  simp only[aN,cI,cP,hk0,lT,bM,aA,↓aS,seval,WJ]
  exact fin _ _ _ hb (hTn ht.symm k hk _ _)
 | some p=>
  obtain⟨t,e⟩:=p
  rw[hRi] at ht hr
  simp only at ht
  obtain⟨g1,g2,g3⟩:=hok i t e (by rw[cO];exact hi) hRi
  rw[cO] at g2
  simp only[mV] at hr
  subst hr
  have he0:((e:Int)<0)=False:=bZ (by omega)
  simp only[a7,aN,cI,cP,he0,l9,uX,bP,aA,↓aS,seval,WJ]
  refine eO bQ jE jF rfl rfl (fQ (aN _) (cI _)) (gO _) hb (by simp only[aF,aU,aZ];omega) (by simp only[aF,aU,aZ];omega) (fun b' hb'=>?_)
  rw[show acc.map Tm.av++ [t.av]=(acc++ [t]).map Tm.av by simp] at hb' ⊢
  simp only[aA,seval]
  have zT:T=some (acc++ [t],e)→wT T ((AV.tup [bS 4 b' ((acc++ [t]).map Tm.av),.int .i64 (e:Int)]).fin b' ((acc++ [t]).map Tm.av)):=by
   rintro rfl
   simp only[wT,jS,eW,kJ,bA,aY]
  have hw1:=bF (n:=(e:Int)+1)
  have hw2:=bF (n:= -1 - (e:Int))
  refine(lF s e c1 _).to ?_
  cases h1:cV (sb s) e c1 with
  | true=>
   rw[h1,wL,aG rfl] at ht
   simp only[mZ,l9,uX,aA,seval]
   exact fin _ _ _ hb' (zT ht.symm)
  | false=>
  simp only[aA,seval]
  refine(lF s e c2 _).to ?_
  cases h2:cV (sb s) e c2 with
  | true=>
   rw[h2,vB,aG rfl] at ht
   simp only[mZ,l9,uX,aA,seval]
   exact fin _ _ _ hb' (zT ht.symm)
  | false=>
  rw[h1,h2,yK,aE (by decide)] at ht
  simp only[aA,seval]
  refine(lF s e 44 _).to ?_
  cases h3:cV (sb s) e 44 with
  | true=>
   have h4:=pH h3
   rw[cO] at h4
   rw[h3,aG rfl] at ht
   simp only[hw1,aA,seval]
   refine⟨(e+1,acc++ [t],m,b'),by simp only;omega,⟨ht,by simp only;omega,by simp only;omega,by simp only;omega,by simp only[dN,aU,aZ];omega,hb'⟩,aO.mk (by simp only[aA,seval]<;>rfl)⟩
  | false=>
   rw[h3,aE (by decide)] at ht
   simp only[hw2,aA,seval]
   exact fin _ _ _ hb' (hTn ht.symm e (by omega) _ _)
theorem aD.RN{P:Program}{g:FuncId}{args:List AV}{st:aB}{Q:AV→Prop}(x:aD P g args st (fun r' st'=>Q r'.soft∧aL st' st)):aD P g args st (fun r' st'=>Q r'∧st'=st):=
 aD.drop (aD.soft (x.mono fun _ _ h=>⟨h.2,h.1⟩))
theorem FO{k:Nat}(hk:k≤1048576):mV none (AV.tup [.agg [.int .i64 0,.int .i64 0,.str ⟨#[]⟩,.fslice []],.int .i64 (-1 - (k:Int))]).soft:=
 ⟨k,hk,by simp only[lT,aX,iF,jJ,iG,mR,lV,bA,aY]⟩
theorem sY{t:Tm}{e:Nat}{x:Int}(h:x=(e:Int)):mV (some (t,e)) (AV.tup [t.av,.int .i64 x]).soft:=by
 subst h
 simp only[mV,jJ,iG,Tm.soft,bA,aY]
theorem AB{k:Nat}(hk:k≤1048576):mV none (AV.tup [J7.av,.int .i64 (-1 - (k:Int))]).soft:=
 ⟨k,hk,by simp only[lT,jJ,iG,Tm.soft,bA,aY]⟩
abbrev AQ:=zi aW (zi cF (zi lH (zi AS (zi cW (zi cA (zi bR (zi WS bBT)))))))
set_option maxHeartbeats 1000000 in
theorem aXD{s:ByteArray}{R:lO}{d lo:Nat}(hR:PS s R d 3 lo)(hok:yT R (sb s))(hs:s.size≤1000)(a:Nat)(ha:lo≤a)(ha':a≤s.size)(st:aB) :
 aD prog 352 [.str s,.int .i64 (a:Int),.int .i64 (d:Int)] st (fun r st'=>mV (B8 R (sb s) a) r∧st'=st):=by
 refine aD.RN ?_
 refine wF [1000000] 3 func352 ntmps352 rfl rfl ?_
 intro _
 simp only[aA,seval,AQ]
 intro b hb
 unfold B8
 refine(Z4 hR hok hs a ha ha' _ (c1:=93) (c2:=124)).mono ?_
 rintro r _ ⟨hr,rfl⟩
 have hD:=fun(o:AO)=>(aL.refl st).aC (o:=o) hb
 cases hT:tE R (sb s) 93 124 ((sb s).length+1) a [] with
 | none=>
  rw[hT] at hr
  obtain⟨k,hk,rfl⟩:=hr
  have hk0:((-1 - (k:Int))<0)=True:=cL (by omega)
  simp only[aK,hk0,bM,aA,seval,AQ]
  exact⟨FO hk,hD _⟩
 | some p=>
  obtain⟨ts,e⟩:=p
  rw[hT] at hr
  simp only[wT] at hr
  subst hr
  obtain⟨g1,g2,g3,g4,g5⟩:=OR hok _ _ _ _ _ (by rw[cO];exact ha') (by simp) hT
  rw[cO] at g2 g4
  rw[aZ] at g4
  have he0:((e:Int)<0)=False:=bZ (by omega)
  obtain⟨f,hf⟩:∃f,f=e+1:=⟨_,rfl⟩
  have hw:=nJ (x:=(e:Int)+1) (m:=f) (by omega) (by omega)
  simp only[he0,bP,aA,seval]
  refine(lF s e 93 _).to ?_
  cases h1:cV (sb s) e 93 with
  | true=>
   simp only[aA,seval]
   refine(LP ⟨#[91,93]⟩ [] (by simp) _).to ?_
   simp only[aA,seval]
   refine(ZT ts (pJ ⟨#[91,93]⟩ []) (by omega) _).to ?_
   simp only[aK,cI,cP,cE,fN (cE _),fG (a7 _),hw,aA,seval,AQ]
   exact⟨sY (by omega),hD _⟩
  | false=>
   simp only[hw,aA,seval]
   refine(hR f _ (by omega) (by omega)).mono ?_
   rintro r _ ⟨hr,rfl⟩
   rw[←hf]
   cases hRi:R f with
   | none=>
    rw[hRi] at hr
    obtain⟨k,hk,rfl⟩:=hr
    have hk0:((-1 - (k:Int))<0)=True:=cL (by omega)
    simp only[aK,aN,cI,cP,hk0,lT,bM,aA,↓aS,seval,AQ]
    exact⟨FO hk,hD _⟩
   | some p=>
    obtain⟨t,e2⟩:=p
    rw[hRi] at hr
    simp only[mV] at hr
    subst hr
    obtain⟨k1,k2,k3⟩:=hok f t e2 (by rw[cO];omega) hRi
    rw[cO] at k2
    have he2:((e2:Int)<0)=False:=bZ (by omega)
    have hw2:=bF (n:=(e2:Int)+1)
    simp only[aN,cI,cP,he2,bP,aA,↓aS,seval,AQ]
    refine(lF s e2 93 _).to ?_
    cases h2:cV (sb s) e2 93 with
    | true=>
     simp only[a7,aN,aA,seval,AQ]
     refine(ZT ts t (by omega) _).to ?_
     simp only[aK,cI,cP,cE,fN (cE _),fG (a7 _),hw2,aA,seval,AQ]
     exact⟨sY rfl,hD _⟩
    | false=>
     simp only[aA,seval]
     refine(D4 e2 (by omega) _).to ?_
     simp only[aK,cI,cP,cE,fN (cE _),fG (a7 _),lT,aA,seval,AQ]
     exact⟨AB (by omega),hD _⟩
theorem a8U{R:Nat→lO}{l:List UInt8}{d a:Nat}(h:d<1∨l.length≤a):nZ R l d a=none:=by unfold nZ;rw[aG h]
theorem a8V{R:Nat→lO}{l:List UInt8}{d a:Nat}(h:¬(d<1∨l.length≤a))(h1:cV l a 40=true):nZ R l d a=match R d (a+1) with
 | none=>none
 | some (t,e)=>if cV l e 41 then some (t,e+1) else none:=by unfold nZ;rw[aE h,aG h1];try rfl
theorem a8R{R:Nat→lO}{l:List UInt8}{d a:Nat}(h:¬(d<1∨l.length≤a))(h1:cV l a 40=false)(h2:cV l a 91=true)(h3:cV l (a+1) 93=false):nZ R l d a=B8 (R (d - 1)) l (a+1):=by
 unfold nZ;rw[aE h,aE (by simp [h1]),aG (by simp [h2,h3])]
theorem a8W{R:Nat→lO}{l:List UInt8}{d a:Nat}(h:¬(d<1∨l.length≤a))(h1:cV l a 40=false)(h2:(cV l a 91&& !cV l (a+1) 93)=false)(h3:gC l a r0=true):nZ R l d a=some (vr ((LF l a - 65:Nat):Int),a+1):=by
 unfold nZ;rw[aE h,aE (by simp [h1]),aE (by simp [h2]),aG h3]
theorem a8T{R:Nat→lO}{l:List UInt8}{d a:Nat}(h:¬(d<1∨l.length≤a))(h1:cV l a 40=false)(h2:(cV l a 91&& !cV l (a+1) 93)=false)(h3:gC l a r0=false)(h4:(gC l a dL||(cV l a 45&&gC l (a+1) dL))=true):nZ R l d a=match v8 l a with
 | none=>none
 | some (n,e)=>some (.mk 2 n ⟨#[]⟩ [],e):=by
 unfold nZ;rw[aE h,aE (by simp [h1]),aE (by simp [h2]),aE (by simp [h3]),aG h4];try rfl
theorem a8S{R:Nat→lO}{l:List UInt8}{d a:Nat}(h:¬(d<1∨l.length≤a))(h1:cV l a 40=false)(h2:(cV l a 91&& !cV l (a+1) 93)=false)(h3:gC l a r0=false)(h4:(gC l a dL||(cV l a 45&&gC l (a+1) dL))=false):nZ R l d a=match pM l a with
 | none=>none
 | some (nm,e)=>if cV l e 40=false then some (pJ nm [],e) else match tE (R (d - 1)) l 41 41 (l.length+1) (e+1) [] with
  | none=>none
  | some (ts,e')=>some (pJ nm ts,e'+1):=by
 unfold nZ;rw[aE h,aE (by simp [h1]),aE (by simp [h2]),aE (by simp [h3]),aE (by simp [h4])];try rfl
abbrev kW:=zi aW (zi cF (zi lH (zi AS (zi cW (zi cA bR)))))
set_option maxHeartbeats 2000000 in
theorem aXI{s:ByteArray}{R:Nat→lO}{a:Nat}(hR:∀d,d≤1048576→PS s (R d) d 3 (a+1))(hok:∀d,yT (R d) (sb s))(hs:s.size≤1000)(ha:a≤s.size)(d:Nat)(hd:d≤1048576)(st:aB) :
 aD prog 326 [.str s,.int .i64 (a:Int),.int .i64 (d:Int)] st (fun r st'=>mV (nZ R (sb s) d a) r∧st'=st):=by
 refine aD.RN ?_
 refine wF [1000000] 3 func326 ntmps326 rfl rfl ?_
 intro _
 generalize hP:nZ R (sb s) d a=o
 simp only[aA,seval,kW]
 intro b hb
 have hD:=fun(o:AO)=>(aL.refl st).aC (o:=o) hb
 by_cases h0:d<1∨s.size≤a
 case pos=>
  rw[a8U (by rw[cO];exact h0)] at hP
  subst hP
  by_cases h01:d<1
  case pos=>
   have xJ:((d:Int)<1)=True:=cL (by omega)
   simp only[xJ,bM,aA,seval]
   refine(D4 a (by omega) _).to ?_
   simp only[aK,cI,cP,cE,fN (cE _),fG (a7 _),lT,aA,seval,kW]
   exact⟨AB (by omega),hD _⟩
  case neg=>
   have xJ:((d:Int)<1)=False:=bZ (by omega)
   have BY:((s.size:Int)≤(a:Int))=True:=cL (by omega)
   simp only[xJ,BY,bM,bP,aA,seval,kW]
   refine(D4 a (by omega) _).to ?_
   simp only[aK,cI,cP,cE,fN (cE _),fG (a7 _),lT,aA,seval,kW]
   exact⟨AB (by omega),hD _⟩
 have h0':¬(d<1∨(sb s).length≤a):=by rw[cO];exact h0
 have xJ:((d:Int)<1)=False:=bZ (by omega)
 have BY:((s.size:Int)≤(a:Int))=False:=bZ (by omega)
 obtain⟨x,hx⟩:=vL (s:=s) (n:=a) (by omega)
 have hix:=sU (P:=prog) (t:=9) rZ hx
 obtain⟨f,hf⟩:∃f,f=a+1:=⟨_,rfl⟩
 have hw:=nJ (x:=(a:Int)+1) (m:=f) (by omega) (by omega)
 obtain⟨d1,hd1⟩:∃d1,d1=d - 1:=⟨_,rfl⟩
 have hwd:=nJ (x:=(d:Int) - 1) (m:=d1) (by omega) (by omega)
 by_cases h40:x.toNat=40
 case pos=>
  rw[a8V h0' (by rw[rN hx,h40];try rfl),←hf] at hP
  have EI:((x.toNat:Int)=40)=True:=cL (by omega)
  simp only[xJ,BY,hix,EI,hw,bM,bP,aA,seval,kW]
  refine(hR d hd f _ (by omega) (by omega)).mono ?_
  rintro r _ ⟨hr,rfl⟩
  cases hRi:R d f with
  | none=>
   rw[hRi] at hr hP
   subst hP
   obtain⟨k,hk,rfl⟩:=hr
   have hk0:((-1 - (k:Int))<0)=True:=cL (by omega)
   simp only[aK,aN,cI,cP,hk0,lT,bM,aA,↓aS,seval,kW]
   exact⟨FO hk,hD _⟩
  | some p=>
   obtain⟨t,e2⟩:=p
   rw[hRi] at hr hP
   simp only[mV] at hr
   subst hr
   obtain⟨k1,k2,k3⟩:=hok d f t e2 (by rw[cO];omega) hRi
   rw[cO] at k2
   have he2:((e2:Int)<0)=False:=bZ (by omega)
   have hw2:=bF (n:=(e2:Int)+1)
   simp only[aN,cI,cP,he2,bP,aA,↓aS,seval,kW]
   refine(lF s e2 41 _).to ?_
   cases h2:cV (sb s) e2 41 with
   | true=>
    simp only[h2,↓reduceIte] at hP
    subst hP
    simp only[aK,a7,aN,cI,cP,cE,fN (cE _),fG (a7 _),hw2,aA,seval,kW]
    exact⟨sY rfl,hD _⟩
   | false=>
    simp only[h2,↓reduceIte,fX] at hP
    subst hP
    simp only[aA,seval]
    refine(D4 e2 (by omega) _).to ?_
    simp only[aK,cI,cP,cE,fN (cE _),fG (a7 _),lT,aA,seval,kW]
    exact⟨AB (by omega),hD _⟩
 have g40:cV (sb s) a 40=false:=by rw[rN hx];exact d5 h40
 have EI:((x.toNat:Int)=40)=False:=bZ (by omega)
 -- a list
 by_cases hL:x.toNat=91∧cV (sb s) f 93=false
 case pos=>
  obtain⟨h91,h93⟩:=hL
  rw[a8R h0' g40 (by rw[rN hx,h91];try rfl) (by rw[←hf];exact h93),←hf,←hd1] at hP
  subst hP
  have uD:((x.toNat:Int)=91)=True:=cL (by omega)
  simp only[xJ,BY,hix,EI,uD,hw,bM,bP,aA,seval,kW]
  refine(lF s f 93 _).to ?_
  rw[h93]
  simp only[hw,hwd,aA,seval]
  refine(aXD (hR d1 (by omega)) (hok d1) hs f (by omega) (by omega) _).mono ?_
  rintro r _ ⟨hr,rfl⟩
  cases hI:B8 (R d1) (sb s) f with
  | none=>
   rw[hI] at hr
   obtain⟨k,hk,rfl⟩:=hr
   simp only[aK,cI,cP,cE,fN (cE _),fG (a7 _),lT,aA,seval,kW]
   exact⟨AB hk,hD _⟩
  | some p=>
   obtain⟨t,e2⟩:=p
   rw[hI] at hr
   simp only[mV] at hr
   subst hr
   simp only[aK,cI,cP,cE,fN (cE _),fG (a7 _),aA,seval,kW]
   exact⟨sY rfl,hD _⟩
 have gL:(cV (sb s) a 91&& !cV (sb s) (a+1) 93)=false:=by
  rw[←hf,rN hx]
  rcases Nat.decEq x.toNat 91 with h | h
  · rw[d5 h,fF]
  · rw[eE h,dU]
    cases h93:cV (sb s) f 93 with
    | true=>rfl
    | false=>exact absurd ⟨h,h93⟩ hL
 by_cases hU:r0 x=true
 case pos=>
  have hP':=a8W (R:=R) h0' g40 gL (by rw[vX hx];exact hU)
  rw[hP'] at hP
  subst hP
  have hbn:LF (sb s) a=x.toNat:=by unfold LF;rw[hx]
  simp only[r0,bV,bK] at hU
  have uD:((x.toNat:Int)=91)=False:=bZ (by omega)
  have h65:((65:Int)≤(x.toNat:Int))=True:=cL (by omega)
  have h90:((x.toNat:Int)≤90)=True:=cL (by omega)
  obtain⟨y,hy⟩:∃y,y=x.toNat - 65:=⟨_,rfl⟩
  have hw2:IntKind.wrap .u8 ((x.toNat:Int) - 65)=(y:Int):=by rw[IntKind.wrap_u8];omega
  have hw3:=bF (n:=(y:Int))
  simp only[xJ,BY,hix,EI,uD,h65,h90,hw2,hw3,tQ,bM,bP,aA,seval,kW]
  refine(ZY (y:Int) _).to ?_
  simp only[aK,cI,cP,cE,fN (cE _),fG (a7 _),hw,aA,seval,kW]
  rw[hbn,←hy,←hf]
  exact⟨sY rfl,hD _⟩
 have gU:gC (sb s) a r0=false:=by rw[vX hx];simpa using hU
 cases hdg:(gC (sb s) a dL||(cV (sb s) a 45&&gC (sb s) (a+1) dL)) with
 | true=>
  have hP':=a8T (R:=R) h0' g40 gL gU hdg
  rw[hP'] at hP
  by_cases hdx:dL x=true
  case' pos=>have EJ:=hdx
  case' neg=>
   have hdx:dL x=false:=by simpa using hdx
   rw[vX hx,hdx,oY,bV,rN hx,bK] at hdg
   have EJ:((x.toNat:Int)=45)=True:=cL (by omega)
  all_goals
   by_cases h91:x.toNat=91
   case' pos=>
    have uD:((x.toNat:Int)=91)=True:=cL (by omega)
    have h93:cV (sb s) f 93=true:=by rw[rN hx,eE h91,dU,←hf] at gL;simpa using gL
   case' neg=>
    have uD:((x.toNat:Int)=91)=False:=bZ (by omega)
    have h93:=uD
   all_goals
    by_cases h65:65≤x.toNat
    case' pos=>
     have xL:((65:Int)≤(x.toNat:Int))=True:=cL (by omega)
     have BZ:((x.toNat:Int)≤90)=False:=bZ (by intro h;exact hU (by simp only[r0,bV,bK];omega))
    case' neg=>
     have xL:((65:Int)≤(x.toNat:Int))=False:=bZ (by omega)
     have BZ:=xL
   all_goals
    simp only[xJ,BY,hix,EI,uD,xL,BZ,hw,bM,bP,aA,seval,kW]
    try
     refine(lF s f 93 _).to ?_
     rw[h93]
     simp only[hix,xL,BZ,bM,bP,aA,seval]
    refine(CC s a _).to ?_
    rw[vX hx]
   all_goals
    simp only[hix,hdx,EJ,hw,bM,aA,seval]
    try
     refine(CC s f _).to ?_
     rw[hf,hdg.2]
     simp only[aA,seval]
    refine(aW5 s hs a ha _).to ?_
    cases hn:v8 (sb s) a with
    | none=>
     rw[hn] at hP
     subst hP
     simp only[aN,cI,cP,CG,bM,aA,↓aS,seval,kW]
     refine(D4 a (by omega) _).to ?_
     simp only[aK,cI,cP,cE,fN (cE _),fG (a7 _),lT,aA,seval,kW]
     exact⟨AB (by omega),hD _⟩
    | some p=>
     obtain⟨n,e⟩:=p
     rw[hn] at hP
     subst hP
     have he0:((e:Int)<0)=False:=bZ (by omega)
     simp only[aK,a7,aN,cI,cP,cE,fN (cE _),fG (a7 _),CG,he0,bP,aA,↓aS,seval,kW]
     exact⟨sY rfl,hD _⟩
 | false=>
  have hP':=a8S (R:=R) h0' g40 gL gU hdg
  rw[hP',←hd1] at hP
  rw[vX hx,Bool.or_eq_false_iff,rN hx,←hf] at hdg
  have hdx:=hdg.1
  by_cases h45:x.toNat=45
  case' pos=>
   have EJ:((x.toNat:Int)=45)=True:=cL (by omega)
   have hfd:gC (sb s) f dL=false:=by have:=hdg.2;rwa [eE h45,dU] at this
  case' neg=>
   have EJ:((x.toNat:Int)=45)=False:=bZ (by omega)
   have hfd:=EJ
  all_goals
   by_cases h91:x.toNat=91
   case' pos=>
    have uD:((x.toNat:Int)=91)=True:=cL (by omega)
    have h93:cV (sb s) f 93=true:=by rw[rN hx,eE h91,dU,←hf] at gL;simpa using gL
   case' neg=>
    have uD:((x.toNat:Int)=91)=False:=bZ (by omega)
    have h93:=uD
   all_goals
    by_cases h65:65≤x.toNat
    case' pos=>
     have xL:((65:Int)≤(x.toNat:Int))=True:=cL (by omega)
     have BZ:((x.toNat:Int)≤90)=False:=bZ (by intro h;exact hU (by simp only[r0,bV,bK];omega))
    case' neg=>
     have xL:((65:Int)≤(x.toNat:Int))=False:=bZ (by omega)
     have BZ:=xL
   all_goals
    simp only[xJ,BY,hix,EI,uD,xL,BZ,hw,bM,bP,aA,seval,kW]
    try
     refine(lF s f 93 _).to ?_
     rw[h93]
     simp only[hix,xL,BZ,bM,bP,aA,seval]
    refine(CC s a _).to ?_
    rw[vX hx]
   all_goals
    simp only[hix,hdx,EJ,hw,bM,bP,aA,seval]
    try
     refine(CC s f _).to ?_
     rw[hfd]
     simp only[aA,seval]
    refine(QW s hs a ha _).to ?_
    cases hn:pM (sb s) a with
    | none=>
     rw[hn] at hP
     subst hP
     simp only[CD,bM,aA,seval]
     refine(D4 a (by omega) _).to ?_
     simp only[aK,cI,cP,cE,fN (cE _),fG (a7 _),lT,aA,seval,kW]
     exact⟨AB (by omega),hD _⟩
    | some p=>
     obtain⟨nm,e⟩:=p
     rw[hn] at hP
     simp only at hP
     have hel:=JA (by rw[cO];exact ha) hn
     rw[cO] at hel
     have he0:((e:Int)<0)=False:=bZ (by omega)
     obtain⟨f2,hf2⟩:∃f2,f2=e+1:=⟨_,rfl⟩
     have hwe:=nJ (x:=(e:Int)+1) (m:=f2) (by omega) (by omega)
     simp only[CD,he0,bP,aA,seval]
     refine(lF s e 40 _).to ?_
     cases h4:cV (sb s) e 40 with
     | false=>
      rw[aG h4] at hP
      subst hP
      simp only[aA,seval]
      refine(LP nm [] (by simp) _).to ?_
      simp only[aK,cI,cP,cE,fN (cE _),fG (a7 _),aA,seval,kW]
      exact⟨sY rfl,hD _⟩
     | true=>
      rw[aE (by simp [h4]),←hf2] at hP
      have h5:=pH h4
      rw[cO] at h5
      simp only[hwd,hwe,aA,seval]
      refine(Z4 (hR d1 (by omega)) (hok d1) hs f2 (by omega) (by omega) _ (c1:=41) (c2:=41)).mono ?_
      rintro r _ ⟨hr,rfl⟩
      cases hT:tE (R d1) (sb s) 41 41 ((sb s).length+1) f2 [] with
      | none=>
       rw[hT] at hr hP
       subst hP
       obtain⟨k,hk,rfl⟩:=hr
       have hk0:((-1 - (k:Int))<0)=True:=cL (by omega)
       simp only[aK,hk0,bM,aA,seval,kW]
       exact⟨FO hk,hD _⟩
      | some p=>
       obtain⟨ts,e3⟩:=p
       rw[hT] at hr hP
       simp only[wT] at hr hP
       subst hr hP
       obtain⟨g1,g2,g3,g4,g5⟩:=OR (hok d1) _ _ _ _ _ (by rw[cO];omega) (by simp) hT
       rw[cO] at g2
       have he3:((e3:Int)<0)=False:=bZ (by omega)
       have hw3:=bF (n:=(e3:Int)+1)
       simp only[aK,he3,hw3,bP,aA,seval,kW]
       exact⟨by rw[show(AV.agg [.int .i64 3,.int .i64 0,.str nm,.slice (ts.map Tm.av)])=(pJ nm ts).av from (aX ..).symm];exact sY rfl,hD _⟩
theorem a65{nm:ByteArray}(h:cC nm≠0):nm≠⟨#[]⟩:=by rintro rfl;exact h (by decide)
abbrev tC:=zi aW (zi cW (zi cA bR))
set_option maxHeartbeats 2000000 in
theorem aXJ{s:ByteArray}(hs:s.size≤1000):∀(n d a lv:Nat) (st:aB),a≤s.size→lv≤3→d≤1048576→(s.size - a)*4+lv<n →
 aD prog 282 [.str s,.int .i64 (a:Int),.int .i64 (d:Int),.int .i64 (lv:Int)] st (fun r st'=>mV (rd (sb s) n d a lv) r∧st'=st):=by
 intro n
 induction n with
 | zero=>intro d a lv st _ _ _ h;omega
 | succ n IH=>
 intro d a lv st ha hlv hd hn
 have hl1:(sb s).length≤1000:=by rw[cO];exact hs
 refine aD.RN ?_
 refine wF [1000000,10] 4 func282 ntmps282 rfl rfl ?_
 intro _
 generalize hP:rd (sb s) (n+1) d a lv=o
 simp only[aA,seval,tC]
 intro b hb
 have hD:=fun(o:AO)=>(aL.refl st).aC (o:=o) hb
 cases lv with
 | zero=>
  simp only[rd] at hP
  have h0:(((0:Nat):Int)=0)=True:=cL rfl
  simp only[bM,aA,↓aS,seval]
  refine(aXI (R:=fun d a=>rd (sb s) n d a 3) (a:=a) (fun d hd a' st' h1 h2=>IH d a' 3 st' h2 (by omega) hd (by omega)) (fun d=>CM hl1 n d 3) hs ha d hd _).mono ?_
  rintro r _ ⟨hr,rfl⟩
  rw[hP] at hr
  cases o with
  | none=>
   obtain⟨k,hk,rfl⟩:=hr
   simp only[aK,cI,cP,cE,fN (cE _),fG (a7 _),lT,aA,seval,tC]
   exact⟨AB hk,hD _⟩
  | some p=>
   obtain⟨t,e⟩:=p
   simp only[mV] at hr
   subst hr
   simp only[aK,cI,cP,cE,fN (cE _),fG (a7 _),aA,seval,tC]
   exact⟨sY rfl,hD _⟩
 | succ lv=>
  simp only[rd] at hP
  have h0:(((lv+1:Nat):Int)=0)=False:=bZ (by omega)
  obtain⟨lw,hlw⟩:∃lw,lw=lv+1:=⟨_,rfl⟩
  rw[←hlw] at hP h0 ⊢
  have hwl:=nJ (x:=(lw:Int) - 1) (m:=lv) (by omega) (by omega)
  simp only[h0,hwl,bP,aA,seval]
  refine(IH d a lv _ ha (by omega) hd (by omega)).mono ?_
  rintro r _ ⟨hr,rfl⟩
  cases hRi:rd (sb s) n d a lv with
  | none=>
   rw[hRi] at hr hP
   simp only at hP
   subst hP
   obtain⟨k,hk,rfl⟩:=hr
   have hk0:((0:Int)≤(-1 - (k:Int)))=False:=bZ (by omega)
   simp only[aK,cI,cE,lT,aA,↓aS,seval,tC]
   intro b10 h10
   have hbb:b10≠b:=fun h=>by rw[h,aB.aJ] at h10;cases h10
   have SD:st b10=none:=by rwa [aB.aH _ _ hbb] at h10
   refine iJ (σ:=Unit) [1000000,10] [0,2,3,8,10] (fun _=>True) (fun _=>[(9,.int .i64 0),(11,.int .i64 (-1 - (k:Int)))]) (fun _=>(st.aC b (.cells [.int .i64 0,.int .i64 0,.str ⟨#[]⟩,.fslice []])).aC b10 (.cells J7.av.cells)) (fun _=>0) (by decide +kernel) ⟨(),trivial,aO.mk (by simp only[aA,seval])⟩ ?_
   rintro _ _
   simp only[aK,hk0,hbb.symm,bP,aA,seval,tC]
   exact⟨FO hk,((hD _).aC SD).aC hb⟩
  | some p=>
   obtain⟨t,e⟩:=p
   rw[hRi] at hr hP
   simp only[mV] at hr hP
   subst hr
   obtain⟨g1,g2,g3⟩:=CM hl1 n d lv a t e (by rw[cO];exact ha) hRi
   rw[cO] at g2 hP
   simp only[aK,cI,cE,aA,↓aS,seval,tC]
   intro b10 h10
   have hbb:b10≠b:=fun h=>by rw[h,aB.aJ] at h10;cases h10
   have SD:st b10=none:=by rwa [aB.aH _ _ hbb] at h10
   have hE:∀o1 o2 o3,aL (((st.aC b o1).aC b10 o2).aC b o3) st:=fun o1 o2 o3=>((hD _).aC SD).aC hb
   refine iJ (σ:=Tm×Nat×Nat) [1000000,10] [0,2,3,8,10] (fun x=>FG (fun a=>rd (sb s) n d a lv) (sb s) lw x.2.2 x.1 x.2.1=o∧a<x.2.1∧x.2.1≤s.size∧s.size<x.2.2+x.2.1) (fun x=>[(9,.int .i64 0),(11,.int .i64 (x.2.1:Int))]) (fun x=>(st.aC b (.cells [.int .i64 0,.int .i64 0,.str ⟨#[]⟩,.fslice []])).aC b10 (.cells x.1.av.cells)) (fun x=>x.2.2) (by decide +kernel) ⟨(t,e,s.size+1),⟨hP,g1,g2,by simp only;omega⟩,aO.mk (by simp only[aA,seval])⟩ ?_
   rintro⟨t,e,m⟩ ⟨ht,hae,hes,hm⟩
   simp only at ht hae hes hm ⊢
   obtain⟨m,rfl⟩:∃m',m=m'+1:=⟨m - 1,by omega⟩
   simp only[FG] at ht
   have he0:((0:Int)≤(e:Int))=True:=cL (by omega)
   simp only[he0,bM,aA,seval]
   refine(aXG s hs e hes _).to ?_
   cases hop:rQ (sb s) e with
   | none=>
    rw[hop] at ht
    simp only at ht
    subst ht
    simp only[aK,cI,cP,cE,fN (cE _),fG (a7 _),UF,hbb.symm,bM,aA,seval,tC]
    exact⟨sY rfl,hE _ _ _⟩
   | some p=>
    obtain⟨nm,e1⟩:=p
    rw[hop] at ht
    simp only at ht
    obtain⟨k1,k2,k3⟩:=aOL hop
    rw[cO] at k2
    have hnm:=bZ (a65 k3)
    simp only[UF,hnm,bP,aA,seval]
    refine(xA nm _).to ?_
    by_cases aMS:cC nm=lw
    case neg=>
     rw[aG aMS] at ht
     subst ht
     have hne:((cC nm:Int)=(lw:Int))=False:=bZ (by omega)
     simp only[aK,cI,cP,cE,fN (cE _),fG (a7 _),hne,hbb.symm,bP,aA,seval,tC]
     exact⟨sY rfl,hE _ _ _⟩
    rw[aE (by simpa using aMS)] at ht
    have hne:((cC nm:Int)=(lw:Int))=True:=cL (by omega)
    simp only[hne,hwl,bM,aA,seval]
    refine(IH d e1 lv _ k2 (by omega) hd (by omega)).mono ?_
    rintro r _ ⟨hr,rfl⟩
    cases hRj:rd (sb s) n d e1 lv with
    | none=>
     rw[hRj] at hr ht
     simp only at ht
     subst ht
     obtain⟨k,hk,rfl⟩:=hr
     have hk0:((-1 - (k:Int))<0)=True:=cL (by omega)
     simp only[aK,aN,cI,cP,hk0,lT,hbb.symm,bM,aA,↓aS,seval,tC]
     exact⟨FO hk,hE _ _ _⟩
    | some p=>
     obtain⟨t2,e2⟩:=p
     rw[hRj] at hr ht
     simp only[mV] at hr ht
     subst hr
     obtain⟨q1,q2,q3⟩:=CM hl1 n d lv e1 t2 e2 (by rw[cO];exact k2) hRj
     rw[cO] at q2
     have he2:((e2:Int)<0)=False:=bZ (by omega)
     simp only[a7,aN,cI,cP,cE,fN (cE _),fG (a7 _),he2,bP,aA,↓aS,seval,tC]
     refine(LP nm [t,t2] (by simp) _).to ?_
     by_cases h3:lw=3
     · rw[aG h3] at ht
       subst ht
       have h3':((lw:Int)=3)=True:=cL (by omega)
       simp only[aK,cI,cP,cE,fN (cE _),fG (a7 _),h3',hbb.symm,bM,aA,seval,tC]
       exact⟨sY rfl,hE _ _ _⟩
     · rw[aE h3] at ht
       have h3':((lw:Int)=3)=False:=bZ (by omega)
       simp only[aK,cI,cE,h3',bP,aA,seval,tC]
       exact⟨(pJ nm [t,t2],e2,m),by simp only;omega,⟨ht,by simp only;omega,q2,by simp only;omega⟩,aO.mk (by simp only[aA,seval])⟩
end Go.AW
