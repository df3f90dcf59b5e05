import Derived.Test.YtimfffmcljmfgaaGreatDoorUxi
import Derived.Test.YtimfffmcljmfgaaGreatDoorUxf
set_option linter.unusedSimpArgs false
set_option linter.unusedVariables false
set_option maxRecDepth 100000
namespace Go.AW
open Go.Proofs.Tryz
abbrev bDS:=zi tI_3 (zi zI_3 (zi aY (zi tI_46 (zi zI_46 (zi cZ (zi eG (zi eE (zi eT (zi tI_66 (zi zI_66 (zi bZ (zi b9 (zi cA (zi cB (zi bY (zi tI_116 zI_116))))))))))))))))
mutual
def Tm.sh(m:Int):Tm→Tm
 | .mk k n s ts=>.mk k (if k=1 then IntKind.i64.wrap (n+m) else n) s (P6 m ts)
def P6(m:Int):List Tm→List Tm
 | []=>[]
 | t::ts=>t.sh m::P6 m ts
end
theorem aUC(m:Int):∀ts:List Tm,P6 m ts=ts.map (Tm.sh m)
 | []=>rfl
 | t::ts=>by simp only[P6,bH,aUC m ts]
theorem Tm.WZ(m k n:Int)(s:ByteArray)(ts:List Tm):(Tm.mk k n s ts).sh m=.mk k (if k=1 then IntKind.i64.wrap (n+m) else n) s (ts.map (Tm.sh m)):=by simp only[Tm.sh,aUC]
abbrev rI:=zi tI_3 (zi zI_3 (zi aY (zi tI_9 (zi zI_9 (zi cV (zi tI_31 (zi zI_31 (zi aQ (zi bS (zi bT (zi cI (zi tI_66 (zi zI_66 (zi bZ (zi b9 (zi cA (zi cB bY)))))))))))))))))
theorem SK(m:Int):∀(t:Tm) (st:aA),t.small=true→aD prog 301 [t.av,.int .i64 m] st (fun r st'=>r=(t.sh m).av∧st'=st)
 | .mk k n s ts,st,hsm=>by
  obtain⟨hlen,qY⟩:=Tm.rG hsm
  have IH:=fun(x:Tm) (hx:x∈ts) st=>SK m x st (qY x hx)
  refine aD.oK (aD.fin ?_)
  simp only[bA]
  refine wF [1000000,5] 2 func301 ntmps301 rfl rfl ?_
  simp only[eW,AV.fits,fC,aF]
  intro ⟨_,_,_,hl,_⟩
  simp -implicitDefEqProofs only[aK,aB,↓aU,seval,rI]
  intro b2 hb2 c hc
  have hne:c≠b2:=by rintro rfl;rw[aA.aJ] at hc;cases hc
  have hn2:st c=none:=by rw[aA.aG st _ hne] at hc;exact hc
  have r7:b2≠c:=dH hne
  have hS:(st.aC b2 (.cells [AV.int .i64 0,AV.int .i64 0,AV.str ⟨#[]⟩,AV.fslice []])) b2≠none:=by rw[aA.aJ];simp
  refine aP (fun h=>?_) (fun h=>?_)
  · simp only[bK] at h
    simp -implicitDefEqProofs only[aK,dS,aB,seval,rI]
    refine d8 (σ:=Nat) [1000000] [1,2,4,5] ts (fun i b=>(((ts.take i).map (Tm.sh m)).map Tm.av≠[]→(aA.aC (st.aC b2 (.cells [AV.int .i64 0,AV.int .i64 0,AV.str ⟨#[]⟩,AV.fslice []])) c (.cells ([AV.int .i64 k,AV.int .i64 (IntKind.i64.wrap (n+m)),AV.str s]++ [bU 4 b (((ts.take i).map (Tm.sh m)).map Tm.av)]))) b=none)) (fun i b=>[(6,.int .i64 i)]) (fun i b=>mC (st.aC b2 (.cells [AV.int .i64 0,AV.int .i64 0,AV.str ⟨#[]⟩,AV.fslice []])) c b [AV.int .i64 k,AV.int .i64 (IntKind.i64.wrap (n+m)),AV.str s] (((ts.take i).map (Tm.sh m)).map Tm.av)) (by decide +kernel)
     ⟨0,fun h=>absurd rfl h,aM.mk (by simp -implicitDefEqProofs only[aB,↓aU,seval])⟩ (fun i x b hx hlt bL hdr hinv=>?_) (fun b hge hinv=>?_)
    case refine_1=>
     have hw:=bE (n:=(i:Int)+1)
     have c8:(((ts.take i).map (Tm.sh m)).map Tm.av).length=i:=by simp only[aF,dE];omega
     have htk:(ts.take (i+1)).map (Tm.sh m)=(ts.take i).map (Tm.sh m)++ [(Tm.sh m) x]:=by rw[eD,hx];simp
     have hbo:=nL hinv
     simp -implicitDefEqProofs only[aF,bL,aB,seval,rI]
     refine wP [(0,1),(2,1),(4,1),(7,1),(1,2),(3,2),(5,1),(6,2),(8,2),(9,1),(10,0),(11,1),(12,0)] [0,2,4,7,1,3,5,6,8,9,11] mixed ?_
     simp -implicitDefEqProofs only[bP (av:=Tm.av) aQ hx (aO x),bG,aO,hbo,sV,iE,aB,seval,rI]
     refine jC (IH x (cM hx) _) ?_
     simp -implicitDefEqProofs only[bG,aO,cU,iE,aB,seval,rI]
     refine eQ aQ bS bT rfl rfl (f9 (aO _) (cP _)) (gZ _) hinv (by simp only[c8,aX,a8];omega) (by simp only[c8,aX,a8];omega) (fun b' hb'=>?_)
     rw[show(((ts.take i).map (Tm.sh m)).map Tm.av)++ [((Tm.sh m) x).av]=((ts.take (i+1)).map (Tm.sh m)).map Tm.av by rw[htk];simp] at hb' ⊢
     obtain⟨g1,g2,g3⟩:=yV hb'
     simp only[iB,fF] at g1 g3
     simp -implicitDefEqProofs only[g3,rS,kU,aK,g1,hw,aK,aB,seval,rI]
     exact⟨b',g2,aM.mk (by simp -implicitDefEqProofs only[aB,seval])⟩
    have hbo:=nL hinv
    rw[dZ] at hinv hbo ⊢
    simp -implicitDefEqProofs only[aF,hge,aB,seval,rI]
    simp -implicitDefEqProofs only[hbo,aK,aB,seval,rI]
    have h1:=pH hinv hS r7
    rw[aA.aJ] at h1
    simp -implicitDefEqProofs only[h1,kU,aB,seval]
    obtain⟨h2,h3⟩:=wV (o:=.cells [AV.int .i64 k,AV.int .i64 (IntKind.i64.wrap (n+m)),AV.str s,bU 4 b ((ts.map (Tm.sh m)).map Tm.av)]) hinv hS r7
    refine⟨b,_,_,h2,h3,pM _,⟨4,gZ _⟩,?_,(((aL.refl _).aC hb2).aC hn2).aC hb2⟩
    simp only[jH,bH,a7,fS,pE,oH,←bA]
    rw[Tm.WZ,aH h]
  · simp only[dJ] at h
    simp -implicitDefEqProofs only[aB,seval]
    refine d8 (σ:=Nat) [1000000] [1,2,4,5] ts (fun i b=>(((ts.take i).map (Tm.sh m)).map Tm.av≠[]→(aA.aC (st.aC b2 (.cells [AV.int .i64 0,AV.int .i64 0,AV.str ⟨#[]⟩,AV.fslice []])) c (.cells ([AV.int .i64 k,AV.int .i64 (n),AV.str s]++ [bU 4 b (((ts.take i).map (Tm.sh m)).map Tm.av)]))) b=none)) (fun i b=>[(6,.int .i64 i)]) (fun i b=>mC (st.aC b2 (.cells [AV.int .i64 0,AV.int .i64 0,AV.str ⟨#[]⟩,AV.fslice []])) c b [AV.int .i64 k,AV.int .i64 (n),AV.str s] (((ts.take i).map (Tm.sh m)).map Tm.av)) (by decide +kernel)
     ⟨0,fun h=>absurd rfl h,aM.mk (by simp -implicitDefEqProofs only[aB,↓aU,seval])⟩ (fun i x b hx hlt bL hdr hinv=>?_) (fun b hge hinv=>?_)
    case refine_1=>
     have hw:=bE (n:=(i:Int)+1)
     have c8:(((ts.take i).map (Tm.sh m)).map Tm.av).length=i:=by simp only[aF,dE];omega
     have htk:(ts.take (i+1)).map (Tm.sh m)=(ts.take i).map (Tm.sh m)++ [(Tm.sh m) x]:=by rw[eD,hx];simp
     have hbo:=nL hinv
     simp -implicitDefEqProofs only[aF,bL,aB,seval,rI]
     refine wP [(0,1),(2,1),(4,1),(7,1),(1,2),(3,2),(5,1),(6,2),(8,2),(9,1),(10,0),(11,1),(12,0)] [0,2,4,7,1,3,5,6,8,9,11] mixed ?_
     simp -implicitDefEqProofs only[bP (av:=Tm.av) aQ hx (aO x),bG,aO,hbo,sV,iE,aB,seval,rI]
     refine jC (IH x (cM hx) _) ?_
     simp -implicitDefEqProofs only[bG,aO,cU,iE,aB,seval,rI]
     refine eQ aQ bS bT rfl rfl (f9 (aO _) (cP _)) (gZ _) hinv (by simp only[c8,aX,a8];omega) (by simp only[c8,aX,a8];omega) (fun b' hb'=>?_)
     rw[show(((ts.take i).map (Tm.sh m)).map Tm.av)++ [((Tm.sh m) x).av]=((ts.take (i+1)).map (Tm.sh m)).map Tm.av by rw[htk];simp] at hb' ⊢
     obtain⟨g1,g2,g3⟩:=yV hb'
     simp only[iB,fF] at g1 g3
     simp -implicitDefEqProofs only[g3,rS,kU,aK,g1,hw,aK,aB,seval,rI]
     exact⟨b',g2,aM.mk (by simp -implicitDefEqProofs only[aB,seval])⟩
    have hbo:=nL hinv
    rw[dZ] at hinv hbo ⊢
    simp -implicitDefEqProofs only[aF,hge,aB,seval,rI]
    simp -implicitDefEqProofs only[hbo,aK,aB,seval,rI]
    have h1:=pH hinv hS r7
    rw[aA.aJ] at h1
    simp -implicitDefEqProofs only[h1,kU,aB,seval]
    obtain⟨h2,h3⟩:=wV (o:=.cells [AV.int .i64 k,AV.int .i64 (n),AV.str s,bU 4 b ((ts.map (Tm.sh m)).map Tm.av)]) hinv hS r7
    refine⟨b,_,_,h2,h3,pM _,⟨4,gZ _⟩,?_,(((aL.refl _).aC hb2).aC hn2).aC hb2⟩
    simp only[jH,bH,a7,fS,pE,oH,←bA]
    rw[Tm.WZ,aE h]
termination_by t=>SizeOf.sizeOf t
decreasing_by have:=List.sizeOf_lt_of_mem hx;simp only[Tm.mk.sizeOf_spec];omega

end Go.AW
namespace Go.AW
abbrev Cl:=Tm×List Tm
def bR:Cl→AV
 | (.mk k n s ts,b)=>.agg [.int .i64 k,.int .i64 n,.str s,.slice (ts.map Tm.av),.slice (b.map Tm.av)]
theorem iL(k n:Int)(s:ByteArray)(ts b:List Tm):bR (.mk k n s ts,b)=.agg [.int .i64 k,.int .i64 n,.str s,.slice (ts.map Tm.av),.slice (b.map Tm.av)]:=rfl
theorem uM(c:Cl):(bR c).isAgg=true:=by obtain⟨⟨k,n,s,ts⟩,b⟩:=c;rfl
theorem kA(c:Cl):(bR c).width=5:=by obtain⟨⟨k,n,s,ts⟩,b⟩:=c;rfl
theorem MZ(c:Cl):(bR c).cells.length=5:=by obtain⟨⟨k,n,s,ts⟩,b⟩:=c;rfl
theorem FC(c:Cl):(bR c).cells.all AV.storable=true:=by obtain⟨⟨k,n,s,ts⟩,b⟩:=c;rfl
theorem CL(c:Cl):(bR c).cE=false:=by obtain⟨⟨k,n,s,ts⟩,b⟩:=c;rfl
def WE:Tm→Bool | .mk k _ s ts=>sG k s (ts.length:Int)
def mS(c:Cl):Bool:=c.1.valid&&WE c.1&&(decide (c.2.length≤6)&&c.2.all Tm.goal)
def pJ(p:List Cl):Bool:=decide (p.length≤20)&&p.all mS
theorem a7O{st:aA}{k n:Int}{s:ByteArray}{ts b:List Tm}{o:AV}{bs:List Nat} :
 bM st (bR (.mk k n s ts,b)) o bs↔∃q b1 q' b2,o=.agg [.int .i64 k,.int .i64 n,.str s,q,q']∧bs=b1++b2∧bM st (.slice (ts.map Tm.av)) q b1∧bM st (.slice (b.map Tm.av)) q' b2:=by
 rw[iL]
 generalize AV.slice (ts.map Tm.av)=x
 generalize AV.slice (b.map Tm.av)=y
 simp only[bM,aW]
 constructor
 · rintro⟨os,rfl,o1,os1,b1,b1',rfl,rfl,⟨rfl,rfl⟩,o2,os2,b2,b2',rfl,rfl,⟨rfl,rfl⟩,o3,os3,b3,b3',rfl,rfl,⟨rfl,rfl⟩,o4,os4,b4,b4',rfl,rfl,h,o6,os6,b6,b6',rfl,rfl,h',rfl,rfl⟩
   exact⟨o4,b4,o6,b6,rfl,by simp,h,h'⟩
 · rintro⟨q,b1,q',b2,rfl,rfl,h,h'⟩
   exact⟨_,rfl,_,_,[],b1++b2,rfl,rfl,⟨rfl,rfl⟩,_,_,[],b1++b2,rfl,rfl,⟨rfl,rfl⟩,_,_,[],b1++b2,rfl,rfl,⟨rfl,rfl⟩,q,_,b1,b2,rfl,rfl,h,q',[],b2,[],rfl,by simp,h',rfl,rfl⟩
end Go.AW
namespace Go.AW
open Go.Proofs.Tryz
def rC(S:aA)(c b w:Nat)(hd tl:List AV)(l:List AV):aA:=aZ (S.aC c (.cells (hd++bU w b l::tl))) b l
section
variable {S:aA} {c b w:Nat} {hd tl l:List AV}
theorem KD(hb:l≠[]→(S.aC c (.cells (hd++bU w b l::tl))) b=none):rC S c b w hd tl l c=some (.cells (hd++bU w b l::tl)):=by
 unfold rC
 by_cases h:l= []
 · rw[h,uJ,aA.aJ]
 · have h0:=hb h
   have hne:c≠b:=fun e=>by rw[←e,aA.aJ] at h0;cases h0
   rw[oG hne,aA.aJ]
theorem aQR{b':Nat}{l':List AV}(hb:l'≠[]→(S.aC c (.cells (hd++bU w b l::tl))) b'=none) :
 (aZ (S.aC c (.cells (hd++bU w b l::tl))) b' l').aC c (.cells (hd++bU w b' l'::tl))=rC S c b' w hd tl l'∧(l'≠[]→(S.aC c (.cells (hd++bU w b' l'::tl))) b'=none)∧aZ (S.aC c (.cells (hd++bU w b l::tl))) b' l' c=some (.cells (hd++bU w b l::tl)):=by
 have hne:l'≠[]→c≠b':=fun h e=>by have:=hb h;rw[←e,aA.aJ] at this;cases this
 refine⟨?_,fun h=>?_,?_⟩
 · rw[mP hne,dS];try rfl
 · have:=hb h
   rw[aA.aG _ _ (dH (hne h))] at this ⊢
   exact this
 · by_cases h:l'= []
   · rw[h,uJ,aA.aJ]
   · rw[oG (hne h),aA.aJ]
theorem a6Y{x:Nat}(hb:l≠[]→(S.aC c (.cells (hd++bU w b l::tl))) b=none)(hx:S x≠none)(hxc:x≠c):rC S c b w hd tl l x=S x:=by
 unfold rC
 by_cases h:l= []
 · rw[h,uJ,aA.aG _ _ hxc]
 · have h0:=hb h
   have hne:x≠b:=fun e=>by rw[←e,aA.aG _ _ hxc] at h0;exact hx h0
   rw[oG hne,aA.aG _ _ hxc]
theorem ZC{h:bQ}{st:aA}{a a':AV}(hv:∀v,VC h st a [v]→VC h st a' [v]):∀(hd:List AV) {tl:List AV} {vs:List Value},bB h st (hd++a::tl) vs→bB h st (hd++a'::tl) vs
 | [],tl,vs,x=>by
  simp only[fF,bB] at x ⊢
  obtain⟨c,r,e,x1,x2⟩:=x
  exact⟨c,r,e,hv c x1,x2⟩
 | y::hd,tl,vs,x=>by
  simp only[iB,bB] at x ⊢
  obtain⟨c,r,e,x1,x2⟩:=x
  exact⟨c,r,e,x1,ZC hv hd x2⟩
theorem gJ.a9H{φ:AF}{st:aA}{c:Nat}{hd tl:List AV}{a:AV}(hc:st c=some (.cells (hd++a::tl))):gJ φ st φ (st.aC c (.cells (hd++a.soft::tl))):=fun h tmps S F=>by
 have T:cC h st h (st.aC c (.cells (hd++a.soft::tl))):=cC.of fun x hx=>by
  have:x≠c:=by rintro rfl;rw[hc] at hx;cases hx
  rw[aA.aG _ _ this];exact hx
 refine⟨fun x o hx=>?_,T,fun d=>(F d).mono T⟩
 by_cases e:x=c
 · subst e
   rw[aA.aJ] at hx
   cases hx
   obtain⟨hl,c0,t,e1,e2,vs,e3,e4⟩:=S x _ hc
   refine⟨hl,c0,t,e1,?_,vs,e3,bB.mono T _ _ (ZC (fun v hv=>VC.soft a [v] hv) hd e4)⟩
   simpa using e2
 · rw[aA.aG _ _ e] at hx
   obtain⟨hl,y⟩:=S x o hx
   exact⟨hl,l7.mono T rfl y⟩
theorem TU{es:List AV}:∀ {l:List AV},(∀a∈l,a.fz b es=a)→lK b es l=l
 | [],_=>rfl
 | a::l,h=>by rw[lK,h a (by simp),TU fun x hx=>h x (by simp [hx])]
theorem a6E{φ:AF}(hb:l≠[]→(S.aC c (.cells (hd++bU w b l::tl))) b=none)(hj:∀e∈l,e.cE=false)(hE:iV l)
 (hh:∀a∈hd++tl,∀b es,a.fz b es=a) :
 gJ φ (rC S c b w hd tl l) φ (S.aC c (.cells (hd++ .slice l::tl))):=by
 have hcc:=KD hb
 cases l with
 | nil=>
  have:=gJ.a9H (φ:=φ) hcc
  unfold rC at this ⊢
  simp only[uJ,dS] at this
  exact this
 | cons y l=>
  have h0:=hb (by simp)
  have hne:b≠c:=by rintro rfl;rw[aA.aJ] at h0;cases h0
  have h1:rC S c b w hd tl (y::l) b=some (.cells ((y::l).flatMap AV.cells)):=by unfold rC;simp only[aZ];exact aA.aJ _ _ _
  have:=gJ.a2S (φ:=φ) hne h1 hj hE hcc
  have e:(rC S c b w hd tl (y::l)).erase b=S.aC c (.cells (hd++bU w b (y::l)::tl)):=by unfold rC;simp only[aZ];exact aA.AQ _ _ _ h0
  have f1:lK b (y::l) hd=hd:=TU fun a ha=>hh a (by simp [ha]) _ _
  have f2:lK b (y::l) tl=tl:=TU fun a ha=>hh a (by simp [ha]) _ _
  have f3:(bU w b (y::l)).fz b (y::l)=.slice (y::l):=by simp [bU,AV.fz]
  rw[e,dS,CU,nU,bH,←CU,←CU,f1,f2,f3] at this
  exact this
end
abbrev BI:=zi tI_3 (zi zI_3 (zi aY (zi tI_31 (zi zI_31 (zi aQ (zi bS (zi bT (zi cI (zi tI_66 (zi zI_66 (zi bZ (zi b9 (zi cA (zi cB (zi bY (zi tI_84 (zi zI_84 (zi mA (zi mB l8)))))))))))))))))))
theorem MS(cl:Cl)(h1:cl.1.small=true)(h2:cl.2.length≤1048576)(h3:∀x∈cl.2,x.small=true)(st:aA):aD prog 248 [bR cl] st (fun r st'=>r=bR cl∧st'=st):=by
 obtain⟨⟨k,n,s,ks⟩,ts⟩:=cl
 have hhd:=fun st=>IQ (.mk k n s ks) st h1
 simp only[bA] at hhd
 have IH:=fun(x:Tm) (hx:x∈ts) st=>IQ x st (h3 x hx)
 have hlen:ts.length≤1048576:=h2
 refine aD.oK (aD.fin ?_)
 simp only[iL]
 refine wF [] 1 func248 ntmps248 rfl rfl ?_
 simp only[eW,AV.fits,fC,aF]
 intro ⟨_,_,_,_,hl,_⟩
 simp -implicitDefEqProofs only[aB,seval,BI]
 intro b2 hb2
 refine(hhd _).to ?_
 simp -implicitDefEqProofs only[aK,aB,seval,BI]
 intro c hc
 have hne:c≠b2:=by rintro rfl;rw[aA.aJ] at hc;cases hc
 have hn2:st c=none:=by rw[aA.aG st _ hne] at hc;exact hc
 have r7:b2≠c:=dH hne
 refine d8 (σ:=Nat) [] [1,2,3] ts (fun i b=>(((ts.take i).map (fun y=>y)).map Tm.av≠[]→(aA.aC (st.aC b2 (.cells [AV.int .i64 0,AV.int .i64 0,AV.str ⟨#[]⟩,AV.fslice [],AV.fslice []])) c (.cells ([AV.int .i64 k,AV.int .i64 n,AV.str s,AV.slice (ks.map Tm.av)]++ [bU 4 b (((ts.take i).map (fun y=>y)).map Tm.av)]))) b=none)) (fun i b=>[(4,.int .i64 i)]) (fun i b=>mC (st.aC b2 (.cells [AV.int .i64 0,AV.int .i64 0,AV.str ⟨#[]⟩,AV.fslice [],AV.fslice []])) c b [AV.int .i64 k,AV.int .i64 n,AV.str s,AV.slice (ks.map Tm.av)] (((ts.take i).map (fun y=>y)).map Tm.av)) (by decide +kernel)
  ⟨0,fun h=>absurd rfl h,aM.mk (by simp -implicitDefEqProofs only[aB,↓aU,seval])⟩ (fun i x b hx hlt bL hdr hinv=>?_) (fun b hge hinv=>?_)
 case refine_1=>
  have hw:=bE (n:=(i:Int)+1)
  have c8:(((ts.take i).map (fun y=>y)).map Tm.av).length=i:=by simp only[aF,dE];omega
  have htk:(ts.take (i+1)).map (fun y=>y)=(ts.take i).map (fun y=>y)++ [(fun y=>y) x]:=by rw[eD,hx];simp
  have hbo:=nL hinv
  simp -implicitDefEqProofs only[aF,bL,aB,seval,BI]
  refine wP [(0,1),(2,1),(4,1),(1,2),(3,2),(5,1),(6,2),(7,2),(8,1),(9,0),(10,1),(11,0)] [0,2,4,1,3,5,6,7,8,10] mixed ?_
  simp -implicitDefEqProofs only[bP (av:=Tm.av) aQ hx (aO x),bG,aO,hbo,sV,iE,aB,seval,BI]
  refine jC (IH x (cM hx) _) ?_
  simp -implicitDefEqProofs only[bG,aO,cU,iE,aB,seval,BI]
  refine eQ aQ bS bT rfl rfl (f9 (aO _) (cP _)) (gZ _) hinv (by simp only[c8,aX,a8];omega) (by simp only[c8,aX,a8];omega) (fun b' hb'=>?_)
  rw[show(((ts.take i).map (fun y=>y)).map Tm.av)++ [((fun y=>y) x).av]=((ts.take (i+1)).map (fun y=>y)).map Tm.av by rw[htk];simp] at hb' ⊢
  obtain⟨g1,g2,g3⟩:=yV hb'
  simp only[iB,fF] at g1 g3
  simp -implicitDefEqProofs only[g3,rS,kU,aK,g1,hw,aK,aB,seval,BI]
  exact⟨b',g2,aM.mk (by simp -implicitDefEqProofs only[aB,seval])⟩
 have hbo:=nL hinv
 rw[dZ] at hinv hbo ⊢
 simp -implicitDefEqProofs only[aF,hge,aB,seval,BI]
 simp -implicitDefEqProofs only[hbo,aK,aB,seval,BI]
 have hS:(st.aC b2 (.cells [AV.int .i64 0,AV.int .i64 0,AV.str ⟨#[]⟩,AV.fslice [],AV.fslice []])) b2≠none:=by rw[aA.aJ];simp
 have h1:=pH hinv hS r7
 rw[aA.aJ] at h1
 simp -implicitDefEqProofs only[h1,kU,aB,seval]
 obtain⟨h2,h3⟩:=wV (o:=.cells [AV.int .i64 k,AV.int .i64 n,AV.str s,AV.slice (ks.map Tm.av),bU 4 b ((ts.map fun y=>y).map Tm.av)]) hinv hS r7
 refine⟨b,_,_,h2,h3,pM _,⟨4,gZ _⟩,?_,?_⟩
 · simp only[jH,bH,a7,fS,pE,jW,oH,HQ]
 · exact(((aL.refl _).aC hb2).aC hn2).aC hb2
structure Ss where
 p:List Cl
 q:List Tm
 dD:Int
 used:Int
 sent:Int
 fin:Int
def aS(s:Ss):AV:=.agg [.slice (s.p.map bR),.slice (s.q.map Tm.av),.int .i64 s.dD,.int .i64 s.used,.int .i64 s.sent,.int .i64 s.fin]
abbrev IY (c:Cl):Prop:=c.1.small=true∧c.2.length≤1048576∧∀x∈c.2,x.small=true
theorem IZ(l:List Cl):∀e∈l.map bR,e.width=5:=by intro e h;simp only[cH] at h;obtain⟨t,_,rfl⟩:=h;exact kA t
theorem S3(l:List Cl):∀e∈l.map bR,e.cE=false:=by intro e h;simp only[cH] at h;obtain⟨t,_,rfl⟩:=h;exact CL t
abbrev vJ:=zi tI_3 (zi zI_3 (zi aY (zi tI_29 (zi zI_29 (zi fN (zi iG (zi iI (zi jN (zi tI_31 (zi zI_31 (zi aQ (zi bS (zi bT (zi cI (zi tI_62 (zi zI_62 (zi lE (zi lF (zi lG (zi lH (zi lI (zi lJ (zi lA (zi tI_66 (zi zI_66 (zi bZ (zi b9 (zi cA (zi cB (zi bY (zi tI_84 (zi zI_84 (zi mA (zi mB l8))))))))))))))))))))))))))))))))))
theorem MO(s:Ss)(hp:s.p.length≤1048576)(hps:∀c∈s.p,IY c)(hq:s.q.length≤1048576)(hqs:∀t∈s.q,t.small=true)(st:aA):aD prog 175 [aS s] st (fun r st'=>r=aS s∧st'=st):=by
 obtain⟨ps,qs,i0,i1,i2,i3⟩:=s
 simp only at hp hps hq hqs
 refine aD.oK (aD.fin ?_)
 simp only[aS]
 refine wF [1000000,3] 1 func175 ntmps175 rfl rfl ?_
 intro _
 simp -implicitDefEqProofs only[aK,aB,↓aU,seval,vJ]
 intro b2 hb2 c hc
 have hne:c≠b2:=by rintro rfl;rw[aA.aJ] at hc;cases hc
 have hn2:st c=none:=by rw[aA.aG st _ hne] at hc;exact hc
 have r7:b2≠c:=dH hne
 refine d8 (σ:=Nat) [1000000,3] [1,2,3] ps
  (fun i b=>((ps.take i).map bR≠[]→((st.aC b2 (.cells [.fslice [],.fslice [],.int .i64 0,.int .i64 0,.int .i64 0,.int .i64 0])).aC c (.cells ([]++bU 5 b ((ps.take i).map bR):: [.fslice [],.int .i64 i0,.int .i64 i1,.int .i64 i2,.int .i64 i3]))) b=none))
  (fun i _=>[(4,.int .i64 i)]) (fun i b=>rC (st.aC b2 (.cells [.fslice [],.fslice [],.int .i64 0,.int .i64 0,.int .i64 0,.int .i64 0])) c b 5 [] [.fslice [],.int .i64 i0,.int .i64 i1,.int .i64 i2,.int .i64 i3] ((ps.take i).map bR)) (by decide +kernel)
  ⟨0,fun h=>absurd rfl h,aM.mk (by simp -implicitDefEqProofs only[aB,↓aU,seval])⟩ (fun i x b hx hlt bL hdr hinv=>?_) (fun b hge hinv=>?_)
 · have hw:=bE (n:=(i:Int)+1)
   have c8:((ps.take i).map bR).length=i:=by simp only[aF,dE];omega
   have htk:(ps.take (i+1)).map bR=(ps.take i).map bR++ [bR x]:=by rw[eD,hx];simp
   have hbo:=KD hinv
   simp only[fF] at hbo
   have fT:=cM hx
   obtain⟨s1,s2,s3⟩:=hps x fT
   have hat:=bP (av:=bR) fN hx (kA x)
   simp -implicitDefEqProofs only[bL,aF,aB,seval,vJ]
   refine wP [(0,1),(2,1),(4,1),(1,2),(3,2),(5,1),(6,2),(7,2),(8,1),(9,0),(10,1),(11,0)] [0,2,4,1,3,5,6,7,8,10] mixed ?_
   simp -implicitDefEqProofs only[hat,uM,kA,hbo,sV,aB,seval,vJ]
   refine jC (MS x s1 s2 s3 _) ?_
   simp -implicitDefEqProofs only[uM,kA,CL,aB,seval,vJ]
   refine eQ fN iG iI rfl rfl (f9 (kA _) (FC _)) (IZ _) hinv (by simp only[c8,aX,a8];omega) (by simp only[c8,aX,a8];omega) (fun b' hb'=>?_)
   rw[←htk] at hb' ⊢
   obtain⟨g1,g2,g3⟩:=aQR hb'
   simp only[fF] at g1 g3
   simp -implicitDefEqProofs only[g3,rS,kU,g1,hw,aK,aB,seval,vJ]
   exact⟨b',g2,aM.mk (by simp -implicitDefEqProofs only[aB,seval])⟩
 · rw[dZ] at hinv ⊢
   have hbo:=KD hinv
   simp only[fF] at hbo
   simp -implicitDefEqProofs only[hge,aF,aB,seval,vJ]
   refine d8 (σ:=Nat) [1000000,3] [1,2,3] qs
    (fun i b=>((qs.take i).map Tm.av≠[]→((st.aC b2 (.cells [.fslice [],.fslice [],.int .i64 0,.int .i64 0,.int .i64 0,.int .i64 0])).aC c (.cells ([.slice (ps.map bR)]++bU 4 b ((qs.take i).map Tm.av):: [.int .i64 i0,.int .i64 i1,.int .i64 i2,.int .i64 i3]))) b=none))
    (fun i _=>[(5,.int .i64 i)]) (fun i b=>rC (st.aC b2 (.cells [.fslice [],.fslice [],.int .i64 0,.int .i64 0,.int .i64 0,.int .i64 0])) c b 4 [.slice (ps.map bR)] [.int .i64 i0,.int .i64 i1,.int .i64 i2,.int .i64 i3] ((qs.take i).map Tm.av)) (by decide +kernel)
    ⟨0,fun h=>absurd rfl h,?_⟩ (fun i x b hx hlt bL hdr hinv=>?_) (fun b hge hinv=>?_)
   · exact(a6E hinv (S3 _) ⟨5,IZ _⟩ (by intro a ha;simp only[fF,c7,dT,d4] at ha;rcases ha with rfl | rfl | rfl | rfl | rfl<;>intro _ _<;>rfl)).trans (gJ.kW (by simp -implicitDefEqProofs only[aB,↓aU,seval]))
   · have hw:=bE (n:=(i:Int)+1)
     have c8:((qs.take i).map Tm.av).length=i:=by simp only[aF,dE];omega
     have htk:(qs.take (i+1)).map Tm.av=(qs.take i).map Tm.av++ [x.av]:=by rw[eD,hx];simp
     have hbo:=KD hinv
     simp only[iB,fF] at hbo
     have hat:=bP (av:=Tm.av) aQ hx (aO x)
     simp -implicitDefEqProofs only[bL,aF,aB,seval,vJ]
     refine wP [(0,1),(2,1),(4,1),(1,2),(3,2),(5,1),(6,2),(7,2),(8,1),(9,0),(10,1),(11,0)] [0,2,4,1,3,5,6,7,8,10] mixed ?_
     simp -implicitDefEqProofs only[hat,bG,aO,hbo,sV,aB,seval,vJ]
     refine jC (IQ x _ (hqs x (cM hx))) ?_
     simp -implicitDefEqProofs only[bG,aO,cU,aB,seval,vJ]
     refine eQ aQ bS bT rfl rfl (f9 (aO _) (cP _)) (gZ _) hinv (by simp only[c8,aX,a8];omega) (by simp only[c8,aX,a8];omega) (fun b' hb'=>?_)
     rw[←htk] at hb' ⊢
     obtain⟨g1,g2,g3⟩:=aQR hb'
     simp only[iB,fF] at g1 g3
     simp -implicitDefEqProofs only[g3,rS,kU,g1,hw,aK,aB,seval,vJ]
     exact⟨b',g2,aM.mk (by simp -implicitDefEqProofs only[aB,seval])⟩
   · rw[dZ] at hinv ⊢
     have hbo:=KD hinv
     simp only[iB,fF] at hbo
     have h2o:=a6Y (x:=b2) hinv (by rw[aA.aJ];simp) r7
     rw[aA.aJ] at h2o
     simp -implicitDefEqProofs only[hge,aF,hbo,h2o,kU,aK,aB,seval,vJ]
     have aO2:qs.map Tm.av≠[]→b2≠b:=fun h e=>by
      have:=hinv h
      rw[←e,aA.aG _ _ r7,aA.aJ] at this
      cases this
     refine⟨b,qs.map Tm.av,_,by unfold rC;rw[mP aO2],fun h=>by rw[aA.aG _ _ (dH (aO2 h))];exact hinv h,pM _,⟨4,gZ _⟩,by simp only[jH,bH,a7,fS,jW,oH],?_⟩
     exact(((aL.refl _).aC hb2).aC hn2).aC hb2
def qM(s:ByteArray)(a:Int)(p:UInt8→Bool):Bool:=decide (0≤a)&&(decide (a<(s.size:Int))&&(match (sb s)[a.toNat]? with | some x=>p x | none=>false))
def BF(s:ByteArray)(a:Int)(c:Nat):Bool:=qM s a fun x=>decide (x.toNat=c)
def AK(s:ByteArray)(a:Int):Bool:=qM s a fun x=>decide (48≤x.toNat)&&decide (x.toNat≤57)
def BG(s:ByteArray)(a:Int):Bool:=qM s a letter
theorem xZ{s:ByteArray}{n:Nat}(h:n<s.size):∃x,(sb s)[n]?=some x:=⟨_,eA (by rw[cQ];exact h)⟩
abbrev aTZ:=zi tI_3 (zi zI_3 (zi aY (zi tI_4 (zi zI_4 (zi cJ (zi tI_5 (zi zI_5 (zi m6 (zi tI_9 (zi zI_9 cV))))))))))
theorem aY4(s:ByteArray)(a:Int)(c:Nat)(st:aA):aD prog 323 [.str s,.int .i64 a,.int .u8 (c:Int)] st (fun r st'=>r=.bool (BF s a c)∧st'=st):=by
 by_cases h:0≤a∧a<(s.size:Int)
 · obtain⟨n,rfl⟩:=t7 h.1
   obtain⟨x,hx⟩:=xZ (s:=s) (n:=n) (by omega)
   have hix:=u9 (P:=prog) (t:=9) cV hx
   have hv:BF s (n:Int) c=decide (x.toNat=c):=by simp only[BF,qM,jQ,hx,fQ h.1,fQ h.2,eU]
   rw[hv]
   refine wF [1000000] 3 func323 ntmps323 rfl rfl ?_
   intro _
   repeat' (first
    | (simp -implicitDefEqProofs only[*,aB,seval,aTZ])
    | (refine cX (fun h=>?_) (fun h=>?_))
    | (refine aP (fun h=>?_) (fun h=>?_)))
   all_goals simp_all
   omega
 · by_cases h1:0≤a
   · have h2:¬a<(s.size:Int):=fun h2=>h ⟨h1,h2⟩
     have hv:BF s a c=false:=by simp only[BF,qM,fP h2,iA,vW]
     rw[hv]
     clear hv h
     refine wF [1000000] 3 func323 ntmps323 rfl rfl ?_
     intro _
     simp -implicitDefEqProofs only[h1,h2,bV,bX,aB,seval,aTZ]
   · have hv:BF s a c=false:=by simp only[BF,qM,fP h1,iA]
     rw[hv]
     clear hv h
     refine wF [1000000] 3 func323 ntmps323 rfl rfl ?_
     intro _
     simp -implicitDefEqProofs only[h1,bX,aB,seval]
abbrev aT1:=zi tI_3 (zi zI_3 (zi aY (zi tI_4 (zi zI_4 (zi cJ (zi tI_5 (zi zI_5 (zi m6 (zi tI_9 (zi zI_9 cV))))))))))
theorem aYW(s:ByteArray)(a:Int)(st:aA):aD prog 374 [.str s,.int .i64 a] st (fun r st'=>r=.bool (AK s a)∧st'=st):=by
 by_cases h:0≤a∧a<(s.size:Int)
 · obtain⟨n,rfl⟩:=t7 h.1
   obtain⟨x,hx⟩:=xZ (s:=s) (n:=n) (by omega)
   have hix:=u9 (P:=prog) (t:=9) cV hx
   have hv:AK s (n:Int)=(decide (48≤x.toNat)&&decide (x.toNat≤57)):=by simp only[AK,qM,jQ,hx,fQ h.1,fQ h.2,eU]
   rw[hv]
   refine wF [1000000] 2 func374 ntmps374 rfl rfl ?_
   intro _
   repeat' (first
    | (simp -implicitDefEqProofs only[*,aB,seval,aT1])
    | (refine cX (fun h=>?_) (fun h=>?_))
    | (refine aP (fun h=>?_) (fun h=>?_)))
   all_goals clear hix hv hx
   all_goals (congr 1;rw[xF];simp only[cF,bK,dJ,kP,iK,false_iff,not_and] at *;omega)
 · by_cases h1:0≤a
   · have h2:¬a<(s.size:Int):=fun h2=>h ⟨h1,h2⟩
     have hv:AK s a=false:=by simp only[AK,qM,fP h2,iA,vW]
     rw[hv]
     clear hv h
     refine wF [1000000] 2 func374 ntmps374 rfl rfl ?_
     intro _
     simp -implicitDefEqProofs only[h1,h2,bV,bX,aB,seval,aT1]
   · have hv:AK s a=false:=by simp only[AK,qM,fP h1,iA]
     rw[hv]
     clear hv h
     refine wF [1000000] 2 func374 ntmps374 rfl rfl ?_
     intro _
     simp -implicitDefEqProofs only[h1,bX,aB,seval]
abbrev aT0:=zi tI_3 (zi zI_3 (zi aY (zi tI_4 (zi zI_4 (zi cJ (zi tI_5 (zi zI_5 (zi m6 (zi tI_9 (zi zI_9 cV))))))))))
theorem aY6(s:ByteArray)(a:Int)(st:aA):aD prog 373 [.str s,.int .i64 a] st (fun r st'=>r=.bool (BG s a)∧st'=st):=by
 by_cases h:0≤a∧a<(s.size:Int)
 · obtain⟨n,rfl⟩:=t7 h.1
   obtain⟨x,hx⟩:=xZ (s:=s) (n:=n) (by omega)
   have hix:=u9 (P:=prog) (t:=9) cV hx
   have hv:BG s (n:Int)=(decide (97≤x.toNat)&&decide (x.toNat≤122)):=by simp only[BG,qM,letter,jQ,hx,fQ h.1,fQ h.2,eU]
   rw[hv]
   refine wF [1000000] 2 func373 ntmps373 rfl rfl ?_
   intro _
   repeat' (first
    | (simp -implicitDefEqProofs only[*,aB,seval,aT0])
    | (refine cX (fun h=>?_) (fun h=>?_))
    | (refine aP (fun h=>?_) (fun h=>?_)))
   all_goals clear hix hv hx
   all_goals (congr 1;rw[xF];simp only[cF,bK,dJ,kP,iK,false_iff,not_and] at *;omega)
 · by_cases h1:0≤a
   · have h2:¬a<(s.size:Int):=fun h2=>h ⟨h1,h2⟩
     have hv:BG s a=false:=by simp only[BG,qM,fP h2,iA,vW]
     rw[hv]
     clear hv h
     refine wF [1000000] 2 func373 ntmps373 rfl rfl ?_
     intro _
     simp -implicitDefEqProofs only[h1,h2,bV,bX,aB,seval,aT0]
   · have hv:BG s a=false:=by simp only[BG,qM,fP h1,iA]
     rw[hv]
     clear hv h
     refine wF [1000000] 2 func373 ntmps373 rfl rfl ?_
     intro _
     simp -implicitDefEqProofs only[h1,bX,aB,seval]
end Go.AW
namespace Go.AW
abbrev ba (l:List UInt8):ByteArray:=⟨⟨l⟩⟩
def d5(x:UInt8):Bool:=decide (48≤x.toNat)&&decide (x.toNat≤57)
def vT(x:UInt8):Bool:=decide (65≤x.toNat)&&decide (x.toNat≤90)
def cW(l:List UInt8)(n c:Nat):Bool:=match l[n]? with | some x=>decide (x.toNat=c) | none=>false
def gP(l:List UInt8)(n:Nat)(p:UInt8→Bool):Bool:=match l[n]? with | some x=>p x | none=>false
def pD(l:List UInt8):Nat:=l.foldl (fun n x=>n*10+(x.toNat - 48)) 0
def iR(l:List UInt8):Nat×Bool:=if l.length=0∨(cW l 0 48=true∧1<l.length) then(0,false) else(pD l,true)
def wZ(l:List UInt8)(a:Nat):Option (Int×Nat):=
 let f:=if cW l a 45 then a+1 else a
 let t:=((l.drop f).takeWhile d5).take 4
 if(iR t).2=false∨(a<f∧(iR t).1=0)∨999<(iR t).1 then none else some (if a<f then -((iR t).1:Int) else((iR t).1:Int),f+t.length)
def lC(l:List UInt8)(b g:ByteArray):ByteArray:=if l.take g.size=sb g∧b.size<g.size then g else b
def qA(l:List UInt8)(a:Nat):Option (ByteArray×Nat):=
 let t:=(l.drop a).takeWhile letter
 if 6<t.length then none else if 0<t.length then some (ba t,a+t.length)
 else let b:=jY.foldl (lC (l.drop a)) ⟨#[]⟩
  if b.size=0 then none else some (b,a+b.size)
theorem aC6{l:List UInt8}{i:Nat}{x:UInt8}(h:l[i]?=some x):pD (l.take (i+1))=pD (l.take i)*10+(x.toNat - 48):=by
 simp [pD,eD,h,LU]
theorem aC5:∀(l:List UInt8) (n:Nat),(∀x∈l,d5 x=true)→l.foldl (fun n x=>n*10+(x.toNat - 48)) n+1≤(n+1)*10 ^ l.length
 | [],n,_=>by simp
 | x::l,n,h=>by
  have hx:=h x (by simp)
  simp only[d5,cF,bK] at hx
  have:=aC5 l (n*10+(x.toNat - 48)) (fun y hy=>h y (by simp [hy]))
  simp only[B3,aX,Nat.pow_succ]
  refine mK this ?_
  rw[Nat.mul_comm (10 ^ l.length) 10,←Nat.mul_assoc]
  exact vZ _ (by omega)
theorem S7{l:List UInt8}(h:∀x∈l,d5 x=true):pD l<10 ^ l.length:=Nat.lt_of_succ_le (by have:=aC5 l 0 h;simpa [pD] using this)
theorem a8X(s:ByteArray)(a b:Nat):sb (s.extract a b)=((sb s).drop a).take (b - a):=by
 simp only[sb,ByteArray.data_extract,Array.toList_extract,List.extract_eq_take_drop]
theorem aWZ{g:ByteArray}(h:g.size=0):g=⟨#[]⟩:=by
 obtain⟨⟨l⟩⟩:=g
 have:l.length=0:=h
 rw[List.length_eq_zero_iff.1 this]
theorem aAQ(s:ByteArray):ba (sb s)=s:=rfl
theorem IM(s:ByteArray)(a b:Nat):s.extract a b=ba (((sb s).drop a).take (b - a)):=by rw[←a8X]
theorem p5{l:List UInt8}{n c:Nat}(h:cW l n c=true):n<l.length:=by
 unfold cW at h
 rcases mL n l.length with h1 | h1
 · exact h1
 · rw[xI h1] at h;cases h
theorem a5X{l:List UInt8}{n:Nat}{p:UInt8→Bool}(h:gP l n p=true):n<l.length:=by
 unfold gP at h
 rcases mL n l.length with h1 | h1
 · exact h1
 · rw[xI h1] at h;cases h
theorem vA{l:List UInt8}{n c:Nat}{x:UInt8}(h:l[n]?=some x):cW l n c=decide (x.toNat=c):=by simp only[cW,h]
theorem yT{l:List UInt8}{n:Nat}{p:UInt8→Bool}{x:UInt8}(h:l[n]?=some x):gP l n p=p x:=by simp only[gP,h]
theorem aQ0{l:List UInt8}(h:∀x∈l,d5 x=true)(hl:l.length≤4):(iR l).1<10000:=by
 unfold iR
 split
 · simp
 · exact vY (S7 h) (mK (Nat.pow_le_pow_right (by omega) hl) (by decide))
theorem YD{p:UInt8→Bool}{l:List UInt8}{i:Nat}(hi:i≤(l.takeWhile p).length)(h:gP l i p=true):i<(l.takeWhile p).length:=by
 induction l generalizing i with
 | nil=>simp [gP] at h
 | cons x l ih=>
  cases i with
  | zero=>simp [gP] at h;simp [HT,h]
  | succ i=>
   rw[HT] at hi ⊢
   split at hi
   · rename_i hx
     rw[aH hx]
     simp only[aX] at hi ⊢
     have:=ih (i:=i) (by omega) (by simpa [gP] using h)
     omega
   · simp at hi
theorem YC{p:UInt8→Bool}{l:List UInt8}{i:Nat}(hi:i≤(l.takeWhile p).length)(h:gP l i p=false):i=(l.takeWhile p).length:=by
 induction l generalizing i with
 | nil=>simp at hi;simp [hi]
 | cons x l ih=>
  cases i with
  | zero=>simp [gP] at h;simp [HT,h]
  | succ i=>
   rw[HT] at hi ⊢
   split at hi
   · rename_i hx
     rw[aH hx]
     simp only[aX] at hi ⊢
     have:=ih (i:=i) (by omega) (by simpa [gP] using h)
     omega
   · simp at hi
theorem aUM(p:UInt8→Bool)(l:List UInt8):l.take (l.takeWhile p).length=l.takeWhile p:=by
 induction l with
 | nil=>rfl
 | cons x l ih=>
  rw[HT]
  split
  · simp [ih]
  · rfl
theorem F9(l:List UInt8)(a i:Nat)(p:UInt8→Bool):gP (l.drop a) i p=gP l (a+i) p:=by simp only[gP,QX]
theorem aUK{p:UInt8→Bool}{l:List UInt8}:∀x∈l.takeWhile p,p x=true:=by
 induction l with
 | nil=>simp
 | cons y l ih=>
  rw[HT]
  split
  · rename_i h;intro x hx;simp only[c7] at hx;rcases hx with rfl | hx;exact h;exact ih x hx
  · simp
theorem aUL{p:UInt8→Bool}{l:List UInt8}{k:Nat}(hk:k≤(l.takeWhile p).length):l.take k=(l.takeWhile p).take k:=by
 rw[←aUM p l,zT,lQ hk]
theorem LI(p:UInt8→Bool)(l:List UInt8):(l.takeWhile p).length≤l.length:=(List.takeWhile_sublist p).length_le
theorem aAS(L:List UInt8):∀(gs:List ByteArray) (b:ByteArray),b.size≤3→(∀g∈gs,g.size≤3)→(gs.foldl (lC L) b).size≤3
 | [],b,h,_=>h
 | g::gs,b,h,hg=>by
  rw[B3]
  refine aAS L gs _ ?_ fun x hx=>hg x (by simp [hx])
  unfold lC
  split
  · exact hg g (by simp)
  · exact h
theorem aSB:∀g∈jY,g.size≤3:=by decide
theorem aW1(L:List UInt8)(i:Nat):((jY.take i).foldl (lC L) ⟨#[]⟩).size≤3:=aAS L _ _ (by decide) fun g hg=>aSB g (m9 hg)
end Go.AW
namespace Go.AW
open Go.Proofs.Tryz
theorem KV{φ:AF}{y z:Operand}{s:ByteArray}{k m:Nat}(h:φ.eval y=.int .i64 (k:Int))(h':φ.eval z=.int .i64 (m:Int))(hk:k≤m)(hm:m≤s.size):fH prog φ 9 (.str s) (some y) (some z) none=some (.str (s.extract k m)):=by
 unfold fH nE
 rw[aE (by simp [oN])]
 simp only[show prog.underlying 9=some .string from cV,dK,h,h']
 rw[aH (by omega)]
 simp only[jQ]
 rw[aH (by omega)]
 try simp
theorem R9(s:ByteArray)(n:Nat)(p:UInt8→Bool):qM s (n:Int) p=gP (sb s) n p:=by
 unfold qM gP
 rw[jQ]
 by_cases h:n<s.size
 · rw[fQ (by omega:(0:Int)≤(n:Int)),fQ (by omega:(n:Int)<(s.size:Int))];try rfl
 · rw[fP (by omega:¬(n:Int)<(s.size:Int)),xI (by rw[cQ];omega)];simp
theorem mD(s:ByteArray)(n c:Nat)(st:aA):aD prog 323 [.str s,.int .i64 (n:Int),.int .u8 (c:Int)] st (fun r st'=>r=.bool (cW (sb s) n c)∧st'=st):=by
 have h:=aY4 s n c st
 rwa [show BF s n c=cW (sb s) n c from R9 s n _] at h
theorem DH(s:ByteArray)(n:Nat)(st:aA):aD prog 374 [.str s,.int .i64 (n:Int)] st (fun r st'=>r=.bool (gP (sb s) n d5)∧st'=st):=by
 have h:=aYW s n st
 rwa [show AK s n=gP (sb s) n d5 from R9 s n _] at h
theorem aQX(s:ByteArray)(n:Nat)(st:aA):aD prog 373 [.str s,.int .i64 (n:Int)] st (fun r st'=>r=.bool (gP (sb s) n letter)∧st'=st):=by
 have h:=aY6 s n st
 rwa [show BG s n=gP (sb s) n letter from R9 s n _] at h
theorem Z6{n k:Nat}(h:n≤1048576)(hk:k≤1048576):IntKind.wrap .i64 ((n:Int)+(k:Int))=((n+k:Nat):Int):=by
 rw[wrap64 (by omega) (by omega)];try rfl
abbrev HC:=zi tI_3 (zi zI_3 (zi aY (zi tI_4 (zi zI_4 (zi cJ (zi tI_5 (zi zI_5 (zi m6 (zi tI_9 (zi zI_9 cV))))))))))
theorem aBK(s:ByteArray)(hd:∀x∈sb s,d5 x=true)(hl:s.size≤4)(st:aA):aD prog 405 [.str s] st (fun r st'=>r=.tup [.int .i64 ((iR (sb s)).1:Int),.bool (iR (sb s)).2]∧st'=st):=by
 refine wF [1000000] 1 func405 ntmps405 rfl rfl ?_
 intro _
 by_cases hs:s.size=0
 · have e:iR (sb s)=(0,false):=by unfold iR;rw[aH (Or.inl (by rw[cQ];exact hs))]
   rw[e]
   simp -implicitDefEqProofs only[hs,aB,↓aU,seval,HC]
 have F5:(0:Int)<(s.size:Int):=by omega
 obtain⟨x0,hx0⟩:=xZ (s:=s) (n:=0) (by omega)
 have hix:=u9 (P:=prog) (t:=9) cV hx0
 rw[show((0:Nat):Int)=0 from rfl] at hix
 have hdx:=hd x0 (cM hx0)
 simp only[d5,cF,bK] at hdx
 have h45:((x0.toNat:Int)=45)=False:=cK (by omega)
 have h0:((s.size:Int)=0)=False:=cK (by omega)
 have h17:((17:Int)<(s.size:Int))=False:=cK (by omega)
 simp -implicitDefEqProofs only[F5,hix,h45,h0,h17,bV,bX,aB,seval,HC]
 by_cases h48:x0.toNat=48
 case pos=>
  have FS:((x0.toNat:Int)=48)=True:=dC (by omega)
  by_cases h1:1<s.size
  case pos=>
   have h1':((1:Int)<(s.size:Int))=True:=dC (by omega)
   have e:iR (sb s)=(0,false):=by unfold iR;rw[aH (Or.inr ⟨by rw[vA hx0,h48];try rfl,by rw[cQ];exact h1⟩)]
   rw[e]
   simp -implicitDefEqProofs only[FS,h1',bV,aB,↓aU,seval,HC]
  have h1':((1:Int)<(s.size:Int))=False:=cK (by omega)
  have hnd:iR (sb s)=(pD (sb s),true):=by unfold iR;rw[aE (by rw[cQ];rintro(h | ⟨_,h⟩)<;>omega)]
  simp -implicitDefEqProofs only[FS,h1',bV,bX,aB,seval,HC]
  rw[hnd]
  refine iP (σ:=Nat) [1000000] [0,4] (fun i=>i≤s.size) (fun i=>[(5,.int .i64 (pD ((sb s).take i):Int)),(6,.int .i64 (i:Int))]) (fun _=>st) (fun i=>s.size - i) (by decide +kernel) ⟨0,by omega,aM.mk (by simp -implicitDefEqProofs only[jR,aB,↓aU,seval];rfl)⟩ ?_
  intro i hi
  have hb:pD ((sb s).take i)<10000:=vY (S7 fun x hx=>hd x (m9 hx)) (mK (Nat.pow_le_pow_right (by omega) (by rw[dE];omega:((sb s).take i).length≤4)) (by decide))
  simp -implicitDefEqProofs only[aB,seval,HC]
  refine aP (fun h5=>?_) (fun h5=>?_)
  case refine_2=>
   simp only[dJ] at h5
   obtain rfl:i=s.size:=by omega
   rw[nA (by rw[cQ];omega)]
   simp -implicitDefEqProofs only[aB,seval]
  simp only[bK] at h5
  obtain⟨c,hc⟩:=xZ (s:=s) (n:=i) (by omega)
  have hic:=u9 (P:=prog) (t:=9) cV hc
  have hdc:=hd c (cM hc)
  simp only[d5,cF,bK] at hdc
  have c48:((c.toNat:Int)<48)=False:=cK (by omega)
  have c57:((57:Int)<(c.toNat:Int))=False:=cK (by omega)
  have hw0:=Z6 (n:=i) (k:=1) (by omega) (by omega)
  rw[show((1:Nat):Int)=1 from rfl] at hw0
  have hw1:=bE (n:=(pD ((sb s).take i):Int)*10)
  have hw2:IntKind.wrap .u8 ((c.toNat:Int) - 48)=((c.toNat - 48:Nat):Int):=by rw[IntKind.wrap_u8];omega
  have hw3:=bE (n:=((c.toNat - 48:Nat):Int))
  have hw4:=bE (n:=(pD ((sb s).take i):Int)*10+((c.toNat - 48:Nat):Int))
  have iQ:=aC6 hc
  simp -implicitDefEqProofs only[hic,c48,c57,hw1,hw2,bX,aB,seval]
  refine⟨i+1,by omega,by omega,aM.mk ?_⟩
  rw[iQ]
  simp -implicitDefEqProofs only[hw0,hw3,hw4,aB,seval]
  rfl
 have FS:((x0.toNat:Int)=48)=False:=cK (by omega)
 have hnd:iR (sb s)=(pD (sb s),true):=by unfold iR;rw[aE (by rw[cQ,vA hx0];rintro(h | ⟨h,_⟩);omega;exact h48 (of_decide_eq_true h))]
 simp -implicitDefEqProofs only[FS,bX,aB,seval]
 rw[hnd]
 refine iP (σ:=Nat) [1000000] [0,4] (fun i=>i≤s.size) (fun i=>[(5,.int .i64 (pD ((sb s).take i):Int)),(6,.int .i64 (i:Int))]) (fun _=>st) (fun i=>s.size - i) (by decide +kernel) ⟨0,by omega,aM.mk (by simp -implicitDefEqProofs only[jR,aB,↓aU,seval];rfl)⟩ ?_
 intro i hi
 have hb:pD ((sb s).take i)<10000:=vY (S7 fun x hx=>hd x (m9 hx)) (mK (Nat.pow_le_pow_right (by omega) (by rw[dE];omega:((sb s).take i).length≤4)) (by decide))
 simp -implicitDefEqProofs only[aB,seval,HC]
 refine aP (fun h5=>?_) (fun h5=>?_)
 case refine_2=>
  simp only[dJ] at h5
  obtain rfl:i=s.size:=by omega
  rw[nA (by rw[cQ];omega)]
  simp -implicitDefEqProofs only[aB,seval]
 simp only[bK] at h5
 obtain⟨c,hc⟩:=xZ (s:=s) (n:=i) (by omega)
 have hic:=u9 (P:=prog) (t:=9) cV hc
 have hdc:=hd c (cM hc)
 simp only[d5,cF,bK] at hdc
 have c48:((c.toNat:Int)<48)=False:=cK (by omega)
 have c57:((57:Int)<(c.toNat:Int))=False:=cK (by omega)
 have hw0:=Z6 (n:=i) (k:=1) (by omega) (by omega)
 rw[show((1:Nat):Int)=1 from rfl] at hw0
 have hw1:=bE (n:=(pD ((sb s).take i):Int)*10)
 have hw2:IntKind.wrap .u8 ((c.toNat:Int) - 48)=((c.toNat - 48:Nat):Int):=by rw[IntKind.wrap_u8];omega
 have hw3:=bE (n:=((c.toNat - 48:Nat):Int))
 have hw4:=bE (n:=(pD ((sb s).take i):Int)*10+((c.toNat - 48:Nat):Int))
 have iQ:=aC6 hc
 simp -implicitDefEqProofs only[hic,c48,c57,hw1,hw2,bX,aB,seval]
 refine⟨i+1,by omega,by omega,aM.mk ?_⟩
 rw[iQ]
 simp -implicitDefEqProofs only[hw0,hw3,hw4,aB,seval]
 rfl
theorem pN{x:Int}{m:Nat}(h:x=(m:Int))(hm:m≤1099511627776):IntKind.wrap .i64 x=(m:Int):=by rw[wrap64 (by omega) (by omega)];exact h
abbrev LC:Tm:=.mk 0 0 ⟨#[]⟩ []
def DK(o:Option (Int×Nat)):AV:=match o with | some (n,e)=>.tup [(Tm.mk 2 n ⟨#[]⟩ []).av,.int .i64 (e:Int)] | none=>.tup [LC.av,.int .i64 (-1)]
abbrev D4:=zi tI_3 (zi zI_3 (zi aY (zi tI_4 (zi zI_4 (zi cJ (zi tI_5 (zi zI_5 (zi m6 (zi tI_8 (zi zI_8 (zi AS (zi AT (zi AU (zi AX (zi AD (zi tI_9 (zi zI_9 (zi cV (zi tI_66 (zi zI_66 (zi bZ (zi b9 (zi cA (zi cB bY))))))))))))))))))))))))
set_option maxHeartbeats 1000000 in
theorem aY1(s:ByteArray)(hs:s.size≤1000)(a:Nat)(ha:a≤s.size)(st:aA):aD prog 389 [.str s,.int .i64 (a:Int)] st (fun r st'=>r=DK (wZ (sb s) a)∧st'=st):=by
 refine aD.done ?_
 refine wF [1000000] 2 func389 ntmps389 rfl rfl ?_
 intro _
 simp -implicitDefEqProofs only[aB,seval,D4]
 intro b hb
 refine(mD s a 45 _).to ?_
 obtain⟨f1,hf1⟩:∃f,f=a+1:=⟨_,rfl⟩
 have hw1:=pN (x:=(a:Int)+1) (m:=f1) (by omega) (by omega)
 simp -implicitDefEqProofs only[aB,seval]
 refine aP (fun h1=>?_) (fun h1=>?_)
 · have hf:=p5 h1
   rw[cQ] at hf
   simp -implicitDefEqProofs only[hw1,aB,seval]
   obtain⟨f,rfl⟩:∃f,f=f1:=⟨_,rfl⟩
   replace hf:f≤s.size:=by omega
   refine iP (σ:=Nat) [1000000] [0,1,4,5,7] (fun j=>f≤j∧j≤f+4∧j - f≤(((sb s).drop f).takeWhile d5).length) (fun j=>[(6,.int .i64 (j:Int))]) (fun _=>st.aC b (.cells [.int .i64 0,.int .i64 0,.str ⟨#[]⟩,.fslice []])) (fun j=>f+4 - j) (by decide +kernel) ⟨f,⟨by omega,by omega,by omega⟩,aM.mk (by simp -implicitDefEqProofs only[aB,seval])⟩ ?_
   rintro j ⟨hj1,hj4,hj⟩
   have hfi:j≤s.size:=by have:=LI d5 ((sb s).drop f);rw[mI,cQ] at this;omega
   simp -implicitDefEqProofs only[aB,seval]
   refine(DH s j _).to ?_
   have hw4:=bE (n:=(f:Int)+4)
   have J6:=bE (n:=(j:Int)+1)
   simp -implicitDefEqProofs only[aB,seval]
   refine cX (fun h5=>?_) (fun h5=>?_)
   simp -implicitDefEqProofs only[h5,hw4,aB,seval]
   refine aP (fun h6=>?_) (fun h6=>?_)
   case' refine_1.refine_1=>
    rw[show j=f+(j - f) by omega,←F9] at h5
    simp only[bK] at h6
    simp -implicitDefEqProofs only[J6,aB,seval]
    exact⟨j+1,by omega,⟨by omega,by omega,by have:=YD hj h5;omega⟩,aM.mk (by simp -implicitDefEqProofs only[aB,seval]<;>rfl)⟩
   all_goals
    have ht:(((sb s).drop f).takeWhile d5).take 4=((sb s).drop f).take (j - f):=by
     rw[aUL hj]
     rcases mL (j - f) 4 with h7 | h7
     · have h8:j - f=(((sb s).drop f).takeWhile d5).length:=by
        refine YC hj ?_
        rw[F9,show f+(j - f)=j by omega]
        first | exact h5 | (simp only[dJ] at h6;omega)
       rw[h8,dZ,nA (by omega)]
     · rw[show j - f=4 by omega]
    have hex:s.extract f j=ba ((((sb s).drop f).takeWhile d5).take 4):=by rw[IM,ht]
    have hln:((((sb s).drop f).takeWhile d5).take 4).length=j - f:=by rw[ht,dE,mI,cQ];omega
    have hdg:∀x∈(((sb s).drop f).takeWhile d5).take 4,d5 x=true:=fun x hx=>aUK x (m9 hx)
    have hsl:=fun(φ:AF) (y z:Operand) (h:φ.eval y=.int .i64 (f:Int)) (h':φ.eval z=.int .i64 (j:Int))=>KV (s:=s) h h' hj1 hfi
    rw[hex] at hsl
    have hrd:wZ (sb s) a=if(iR ((((sb s).drop f).takeWhile d5).take 4)).2=false∨(a<f∧(iR ((((sb s).drop f).takeWhile d5).take 4)).1=0)∨999<(iR ((((sb s).drop f).takeWhile d5).take 4)).1 then none else some (if a<f then -((iR ((((sb s).drop f).takeWhile d5).take 4)).1:Int) else((iR ((((sb s).drop f).takeWhile d5).take 4)).1:Int),f+((((sb s).drop f).takeWhile d5).take 4).length):=by
     unfold wZ
     simp only[h1,↓reduceIte,←hf1]
    rw[hrd]
    clear hrd
    generalize (((sb s).drop f).takeWhile d5).take 4=t at *
    simp -implicitDefEqProofs only[hsl,h5,aB,seval]
    refine(aBK (ba t) hdg (by show t.length≤4;omega) _).to ?_
    have hn:=aQ0 hdg (by omega)
    rw[show sb (ba t)=t from rfl]
    generalize iR t=nd at *
    obtain⟨n,ok⟩:=nd
    simp only at hn ⊢
    have hw5:=bE (n:=0 - (n:Int))
    have hw6:=bE (n:= -(n:Int))
    have hfa:((a:Int)<(f:Int))=True:=dC (by omega)
    have hfn:(a<f)=True:=dC (by omega)
    cases ok
    case false=>
     simp -implicitDefEqProofs only[aK,aB,seval,D4]
     refine⟨?_,(aL.refl _).aC hb⟩
     rw[aH (Or.inl trivial)]
     simp only[DK,bA,iT,jZ,iU,nT,mV,bH,a7,a7]
    by_cases hz:(n:Int)=0
    case' pos=>have hz':n=0:=by omega
    case' neg=>have hz':n≠0:=by omega
    all_goals
     by_cases h9:(999:Int)<(n:Int)
     case' pos=>have h9':999<n:=by omega
     case' neg=>have h9':¬ 999<n:=by omega
     all_goals try (exfalso;omega)
     all_goals
      simp -implicitDefEqProofs only[aK,hw5,hz,h9,hfa,aB,seval,D4]
      try
       refine(SI _ _).to ?_
       simp -implicitDefEqProofs only[aK,aB,seval,D4]
      refine⟨?_,(aL.refl _).aC hb⟩
      first
       | rw[aH (by omega)]
       | rw[aE (by omega),aH (by omega),show f+t.length=j by omega]
       | rw[aE (by omega),aE (by omega),show f+t.length=j by omega]
      simp only[DK,bA,iT,jZ,iU,nT,n9,mV,bH,a7,a7,Int.zero_sub]
 · skip
   simp -implicitDefEqProofs only[aB,seval]
   obtain⟨f,rfl⟩:∃f,f=a:=⟨_,rfl⟩
   have hf:=ha
   refine iP (σ:=Nat) [1000000] [0,1,4,5,7] (fun j=>f≤j∧j≤f+4∧j - f≤(((sb s).drop f).takeWhile d5).length) (fun j=>[(6,.int .i64 (j:Int))]) (fun _=>st.aC b (.cells [.int .i64 0,.int .i64 0,.str ⟨#[]⟩,.fslice []])) (fun j=>f+4 - j) (by decide +kernel) ⟨f,⟨by omega,by omega,by omega⟩,aM.mk (by simp -implicitDefEqProofs only[aB,seval])⟩ ?_
   rintro j ⟨hj1,hj4,hj⟩
   have hfi:j≤s.size:=by have:=LI d5 ((sb s).drop f);rw[mI,cQ] at this;omega
   simp -implicitDefEqProofs only[aB,seval]
   refine(DH s j _).to ?_
   have hw4:=bE (n:=(f:Int)+4)
   have J6:=bE (n:=(j:Int)+1)
   simp -implicitDefEqProofs only[aB,seval]
   refine cX (fun h5=>?_) (fun h5=>?_)
   simp -implicitDefEqProofs only[h5,hw4,aB,seval]
   refine aP (fun h6=>?_) (fun h6=>?_)
   case' refine_1.refine_1=>
    rw[show j=f+(j - f) by omega,←F9] at h5
    simp only[bK] at h6
    simp -implicitDefEqProofs only[J6,aB,seval]
    exact⟨j+1,by omega,⟨by omega,by omega,by have:=YD hj h5;omega⟩,aM.mk (by simp -implicitDefEqProofs only[aB,seval]<;>rfl)⟩
   all_goals
    have ht:(((sb s).drop f).takeWhile d5).take 4=((sb s).drop f).take (j - f):=by
     rw[aUL hj]
     rcases mL (j - f) 4 with h7 | h7
     · have h8:j - f=(((sb s).drop f).takeWhile d5).length:=by
        refine YC hj ?_
        rw[F9,show f+(j - f)=j by omega]
        first | exact h5 | (simp only[dJ] at h6;omega)
       rw[h8,dZ,nA (by omega)]
     · rw[show j - f=4 by omega]
    have hex:s.extract f j=ba ((((sb s).drop f).takeWhile d5).take 4):=by rw[IM,ht]
    have hln:((((sb s).drop f).takeWhile d5).take 4).length=j - f:=by rw[ht,dE,mI,cQ];omega
    have hdg:∀x∈(((sb s).drop f).takeWhile d5).take 4,d5 x=true:=fun x hx=>aUK x (m9 hx)
    have hsl:=fun(φ:AF) (y z:Operand) (h:φ.eval y=.int .i64 (f:Int)) (h':φ.eval z=.int .i64 (j:Int))=>KV (s:=s) h h' hj1 hfi
    rw[hex] at hsl
    have hrd:wZ (sb s) f=if(iR ((((sb s).drop f).takeWhile d5).take 4)).2=false∨(f<f∧(iR ((((sb s).drop f).takeWhile d5).take 4)).1=0)∨999<(iR ((((sb s).drop f).takeWhile d5).take 4)).1 then none else some (if f<f then -((iR ((((sb s).drop f).takeWhile d5).take 4)).1:Int) else((iR ((((sb s).drop f).takeWhile d5).take 4)).1:Int),f+((((sb s).drop f).takeWhile d5).take 4).length):=by
     unfold wZ
     simp only[h1,↓reduceIte,iK]
    rw[hrd]
    clear hrd
    generalize (((sb s).drop f).takeWhile d5).take 4=t at *
    simp -implicitDefEqProofs only[hsl,h5,aB,seval]
    refine(aBK (ba t) hdg (by show t.length≤4;omega) _).to ?_
    have hn:=aQ0 hdg (by omega)
    rw[show sb (ba t)=t from rfl]
    generalize iR t=nd at *
    obtain⟨n,ok⟩:=nd
    simp only at hn ⊢
    have hw5:=bE (n:=0 - (n:Int))
    have hw6:=bE (n:= -(n:Int))
    have hfa:((f:Int)<(f:Int))=False:=cK (by omega)
    have hfn:(f<f)=False:=cK (by omega)
    cases ok
    case false=>
     simp -implicitDefEqProofs only[aK,aB,seval,D4]
     refine⟨?_,(aL.refl _).aC hb⟩
     rw[aH (Or.inl trivial)]
     simp only[DK,bA,iT,jZ,iU,nT,mV,bH,a7,a7]
    by_cases hz:(n:Int)=0
    case' pos=>have hz':n=0:=by omega
    case' neg=>have hz':n≠0:=by omega
    all_goals
     by_cases h9:(999:Int)<(n:Int)
     case' pos=>have h9':999<n:=by omega
     case' neg=>have h9':¬ 999<n:=by omega
     all_goals try (exfalso;omega)
     all_goals
      simp -implicitDefEqProofs only[aK,hz,h9,hfa,aB,seval,D4]
      try
       refine(SI _ _).to ?_
       simp -implicitDefEqProofs only[aK,aB,seval,D4]
      refine⟨?_,(aL.refl _).aC hb⟩
      first
       | rw[aH (by omega)]
       | rw[aE (by omega),aH (by omega),show f+t.length=j by omega]
       | rw[aE (by omega),aE (by omega),show f+t.length=j by omega]
      simp only[DK,bA,iT,jZ,iU,nT,n9,mV,bH,a7,a7]
def DI(o:Option (ByteArray×Nat)):AV:=match o with | some (b,e)=>.tup [.str b,.int .i64 (e:Int)] | none=>.tup [.str ⟨#[]⟩,.int .i64 (-1)]
theorem aY5(st:aA):aD prog 367 [] st (fun r st'=>r=.slice (jY.map .str)∧st'=st):=aD.done ((aBP st).mono (by rintro _ _ ⟨rfl,rfl⟩;exact⟨rfl,aL.refl _⟩))
abbrev D5:=zi tI_3 (zi zI_3 (zi aY (zi tI_9 (zi zI_9 (zi cV (zi tI_147 (zi zI_147 (zi lT (zi qP (zi qR sN))))))))))
set_option maxHeartbeats 1000000 in
theorem SJ(s:ByteArray)(hs:s.size≤1000)(a:Nat)(ha:a≤s.size)(st:aA):aD prog 390 [.str s,.int .i64 (a:Int)] st (fun r st'=>r=DI (qA (sb s) a)∧st'=st):=by
 refine wF [1000000] 2 func390 ntmps390 rfl rfl ?_
 intro _
 simp -implicitDefEqProofs only[aB,seval]
 refine iP (σ:=Nat) [1000000] [0,1,4,5] (fun j=>a≤j∧j - a≤(((sb s).drop a).takeWhile letter).length) (fun j=>[(6,.int .i64 (j:Int))]) (fun _=>st) (fun j=>s.size - j) (by decide +kernel) ⟨a,⟨by omega,by omega⟩,aM.mk (by simp -implicitDefEqProofs only[aB,seval])⟩ ?_
 rintro j ⟨hj1,hj⟩
 have hfi:j≤s.size:=by have:=LI letter ((sb s).drop a);rw[mI,cQ] at this;omega
 simp -implicitDefEqProofs only[aB,seval]
 refine(aQX s j _).to ?_
 have hw6:=bE (n:=(a:Int)+6)
 have J6:=bE (n:=(j:Int)+1)
 simp -implicitDefEqProofs only[aB,seval]
 refine aP (fun h5=>?_) (fun h5=>?_)
 · have hlt:=a5X h5
   rw[show j=a+(j - a) by omega,←F9] at h5
   simp -implicitDefEqProofs only[J6,aB,seval]
   exact⟨j+1,by rw[cQ] at hlt;omega,⟨by omega,by have:=YD hj h5;omega⟩,aM.mk (by simp -implicitDefEqProofs only[aB,seval]<;>rfl)⟩
 rw[show j=a+(j - a) by omega,←F9] at h5
 have he:=YC hj h5
 have hex:s.extract a j=ba (((sb s).drop a).takeWhile letter):=by rw[IM,he,aUM]
 have hsl:=fun(φ:AF) (y z:Operand) (h:φ.eval y=.int .i64 (a:Int)) (h':φ.eval z=.int .i64 (j:Int))=>KV (s:=s) h h' hj1 hfi
 rw[hex] at hsl
 simp -implicitDefEqProofs only[hw6,aB,seval]
 refine aP (fun h6=>?_) (fun h6=>?_)
 · simp only[bK] at h6
   simp -implicitDefEqProofs only[aB,seval]
   unfold qA
   rw[aH (by omega)]
   try rfl
 simp only[dJ] at h6
 simp -implicitDefEqProofs only[aB,seval]
 refine aP (fun h7=>?_) (fun h7=>?_)
 · simp only[bK] at h7
   simp -implicitDefEqProofs only[hsl,aB,seval]
   unfold qA
   rw[aE (by omega),aH (by omega),←he,show a+(j - a)=j by omega]
   try rfl
 simp only[dJ] at h7
 obtain rfl:j=a:=by omega
 have hrd:qA (sb s) j=if(jY.foldl (lC ((sb s).drop j)) ⟨#[]⟩).size=0 then none else some (jY.foldl (lC ((sb s).drop j)) ⟨#[]⟩,j+(jY.foldl (lC ((sb s).drop j)) ⟨#[]⟩).size):=by
  unfold qA
  rw[aE (by omega),aE (by omega)]
 rw[hrd]
 clear hrd
 simp -implicitDefEqProofs only[aB,seval]
 refine(aY5 _).to ?_
 simp -implicitDefEqProofs only[aB,seval]
 refine iP (σ:=Nat) [1000000] [0,1,4,5,8] (fun i=>i≤jY.length) (fun i=>[(7,.str ((jY.take i).foldl (lC ((sb s).drop j)) ⟨#[]⟩)),(9,.int .i64 (i:Int))]) (fun _=>st) (fun i=>jY.length - i) (by decide +kernel) ⟨0,by omega,aM.mk (by simp -implicitDefEqProofs only[jR,List.foldl_nil,aB,↓aU,seval])⟩ ?_
 intro i hi
 have hbl:=aW1 ((sb s).drop j) i
 simp -implicitDefEqProofs only[aF,aB,seval,D5]
 refine aP (fun h8=>?_) (fun h8=>?_)
 case refine_2=>
  simp only[dJ] at h8
  rw[show i=jY.length by omega,dZ] at hbl ⊢
  generalize jY.foldl (lC ((sb s).drop j)) ⟨#[]⟩=g at *
  have hw7:=bE (n:=(j:Int)+(g.size:Int))
  simp -implicitDefEqProofs only[aB,seval]
  refine aP (fun h9=>?_) (fun h9=>?_)
  · simp only[bK] at h9
    subst h9
    simp -implicitDefEqProofs only[aB,seval]
    rfl
  · simp only[dJ] at h9
    simp -implicitDefEqProofs only[hw7,aB,seval,D5]
    rw[aE fun h=>h9 (aWZ h)]
    try rfl
 simp only[bK] at h8
 obtain⟨g,hg⟩:∃g,jY[i]?=some g:=⟨_,eA (by omega)⟩
 have hat:=bP (av:=AV.str) lT hg rfl
 have hgl:=aSB g (cM hg)
 have h15:jY.length=15:=rfl
 obtain⟨m,hm⟩:∃m,m=j+g.size:=⟨_,rfl⟩
 have hwn:=pN (x:=(j:Int)+(g.size:Int)) (m:=m) (by omega) (by omega)
 have hw1:=bE (n:=(i:Int)+1)
 have iQ:(jY.take (i+1)).foldl (lC ((sb s).drop j)) ⟨#[]⟩=lC ((sb s).drop j) ((jY.take i).foldl (lC ((sb s).drop j)) ⟨#[]⟩) g:=by
  rw[eD,hg,LU];try rfl
 generalize hB:(jY.take i).foldl (lC ((sb s).drop j)) ⟨#[]⟩=B at *
 simp -implicitDefEqProofs only[hat,aB,seval,D5]
 refine wP [(0,1),(1,1),(2,1),(3,1),(4,1),(5,1),(6,1),(7,1),(8,1),(9,1),(10,1),(11,1),(12,1),(13,1),(14,1),(15,1),(16,2),(17,1),(18,1),(19,1),(20,1),(21,1),(22,1),(23,1),(24,1)] [0,1,2,3,4,5,6,7,8,9,10,11,12,13,14,15,16,17,18,19,20,21,22,23,24] mixed ?_
 by_cases hle:m≤s.size
 · have hex:s.extract j m=ba (((sb s).drop j).take g.size):=by rw[IM,hm,Nat.add_sub_cancel_left]
   have hsl:=fun(φ:AF) (y z:Operand) (h:φ.eval y=.int .i64 (j:Int)) (h':φ.eval z=.int .i64 (m:Int))=>KV (s:=s) h h' (by omega) hle
   rw[hex] at hsl
   have JY:((m:Int)≤(s.size:Int))=True:=dC (by omega)
   by_cases heq:ba (((sb s).drop j).take g.size)=g
   · by_cases hlt:B.size<g.size
     · have bL:((B.size:Int)<(g.size:Int))=True:=dC (by omega)
       have hb:lC ((sb s).drop j) B g=g:=by unfold lC;rw[aH ⟨gH sb heq,hlt⟩]
       simp -implicitDefEqProofs only[hat,hwn,hw1,JY,hsl,heq,bL,bV,aB,seval,D5]
       exact⟨i+1,by omega,by omega,aM.mk (by simp -implicitDefEqProofs only[iQ,hb,aB,seval])⟩
     · have bL:((B.size:Int)<(g.size:Int))=False:=cK (by omega)
       have hb:lC ((sb s).drop j) B g=B:=by unfold lC;rw[aE fun h=>hlt h.2]
       simp -implicitDefEqProofs only[hat,hwn,hw1,JY,hsl,heq,bL,bV,bX,aB,seval,D5]
       exact⟨i+1,by omega,by omega,aM.mk (by simp -implicitDefEqProofs only[iQ,hb,aB,seval])⟩
   · have hb:lC ((sb s).drop j) B g=B:=by unfold lC;rw[aE fun h=>heq (by rw[h.1])]
     simp -implicitDefEqProofs only[hat,hwn,hw1,JY,hsl,heq,bV,bX,aB,seval,D5]
     exact⟨i+1,by omega,by omega,aM.mk (by simp -implicitDefEqProofs only[iQ,hb,aB,seval])⟩
 · have JY:((m:Int)≤(s.size:Int))=False:=cK (by omega)
   have hb:lC ((sb s).drop j) B g=B:=by
    unfold lC
    rw[aE]
    rintro⟨h,_⟩
    have:=gH List.length h
    rw[dE,mI,cQ,cQ] at this
    omega
   simp -implicitDefEqProofs only[hwn,hw1,JY,bX,aB,seval,D5]
   exact⟨i+1,by omega,by omega,aM.mk (by simp -implicitDefEqProofs only[iQ,hb,aB,seval])⟩
end Go.AW
namespace Go.AW
def jO(nm:ByteArray):Bool:=decide (nm=⟨#[105,115]⟩)||decide (nm=⟨#[109,111,100]⟩)
def sF(l:List UInt8)(a:Nat):Option (ByteArray×Nat):=
 let f:=if cW l a 32 then a+1 else a
 if l.length≤f then none else match qA l f with
 | none=>none
 | some (nm,e)=>if dW nm=0 then none else if jO nm≠decide (a<f)∨(jO nm=true∧cW l e 32=false) then none else some (nm,if jO nm then e+1 else e)
abbrev mM:=Nat→Option (Tm×Nat)
def tV(R:mM)(l:List UInt8)(c1 c2:Nat):Nat→Nat→List Tm→Option (List Tm×Nat)
 | 0,_,_=>none
 | n+1,a,acc=>match R a with
  | none=>none
  | some (t,e)=>if(cW l e c1||cW l e c2)=true then some (acc++ [t],e) else if cW l e 44 then tV R l c1 c2 n (e+1) (acc++ [t]) else none
abbrev p7 (nm:ByteArray) (ts:List Tm):Tm:=.mk 3 0 nm ts
def x9:List Tm→Tm→Tm
 | [],t=>t
 | x::xs,t=>p7 ⟨#[46]⟩ [x,x9 xs t]
def DC(R:mM)(l:List UInt8)(a:Nat):Option (Tm×Nat):=
 match tV R l 93 124 (l.length+1) a [] with
 | none=>none
 | some (ts,e)=>if cW l e 93 then some (x9 ts (p7 ⟨#[91,93]⟩ []),e+1) else match R (e+1) with
  | none=>none
  | some (t,e')=>if cW l e' 93 then some (x9 ts t,e'+1) else none
def ML(l:List UInt8)(a:Nat):Nat:=match l[a]? with | some x=>x.toNat | none=>0
def oS(R:Nat→mM)(l:List UInt8)(d a:Nat):Option (Tm×Nat):=
 if d<1∨l.length≤a then none
 else if cW l a 40 then match R d (a+1) with
  | none=>none
  | some (t,e)=>if cW l e 41 then some (t,e+1) else none
 else if(cW l a 91&& !cW l (a+1) 93)=true then DC (R (d - 1)) l (a+1)
 else if gP l a vT then some (vr ((ML l a - 65:Nat):Int),a+1)
 else if(gP l a d5||(cW l a 45&&gP l (a+1) d5))=true then match wZ l a with
  | none=>none
  | some (n,e)=>some (.mk 2 n ⟨#[]⟩ [],e)
 else match qA l a with
  | none=>none
  | some (nm,e)=>if cW l e 40=false then some (p7 nm [],e) else match tV (R (d - 1)) l 41 41 (l.length+1) (e+1) [] with
   | none=>none
   | some (ts,e')=>some (p7 nm ts,e'+1)
def GO(R:mM)(l:List UInt8)(lev:Nat):Nat→Tm→Nat→Option (Tm×Nat)
 | 0,_,_=>none
 | n+1,left,e=>match sF l e with
  | none=>some (left,e)
  | some (nm,e1)=>if dW nm≠lev then some (left,e) else match R e1 with
   | none=>none
   | some (rt,e2)=>if lev=3 then some (p7 nm [left,rt],e2) else GO R l lev n (p7 nm [left,rt]) e2
def rd(l:List UInt8):Nat→Nat→Nat→Nat→Option (Tm×Nat)
 | 0,_,_,_=>none
 | n+1,d,a,0=>oS (fun d a=>rd l n d a 3) l d a
 | n+1,d,a,lv+1=>match rd l n d a lv with
  | none=>none
  | some (t,e)=>GO (fun a=>rd l n d a lv) l (lv+1) (l.length+1) t e
theorem a87{l:List UInt8}{a c:Nat}(ha:a≤l.length):a≤(if cW l a c=true then a+1 else a)∧(if cW l a c=true then a+1 else a)≤l.length:=by
 split
 · have:=p5 ‹_›;omega
 · omega
theorem a8G{l:List UInt8}{a:Nat}{x:Int}{e:Nat}(ha:a≤l.length)(h:wZ l a=some (x,e)):a<e∧e≤l.length:=by
 unfold wZ at h
 have hf:=a87 (c:=45) ha
 simp only at h
 generalize (if cW l a 45=true then a+1 else a)=f at h hf
 split at h
 · cases h
 rename_i h1
 simp only[Option.some.injEq,Prod.mk.injEq] at h
 obtain⟨_,rfl⟩:=h
 have h2:(((l.drop f).takeWhile d5).take 4).length≠0:=by
  intro h0
  refine h1 (Or.inl ?_)
  unfold iR
  rw[aH (Or.inl h0)]
 have h3:=LI d5 (l.drop f)
 rw[mI] at h3
 have h4:(((l.drop f).takeWhile d5).take 4).length≤((l.drop f).takeWhile d5).length:=by rw[dE];omega
 omega
theorem aAT(L:List UInt8):∀(gs:List ByteArray) (b:ByteArray),b.size≤L.length→(gs.foldl (lC L) b).size≤L.length
 | [],b,h=>h
 | g::gs,b,h=>by
  rw[B3]
  refine aAT L gs _ ?_
  unfold lC
  split
  · rename_i h1
    have:=gH List.length h1.1
    rw[dE,cQ] at this
    omega
  · exact h
theorem KL{l:List UInt8}{a:Nat}{x:ByteArray}{e:Nat}(ha:a≤l.length)(h:qA l a=some (x,e)):a<e∧e≤l.length:=by
 unfold qA at h
 simp only at h
 have h3:=LI letter (l.drop a)
 rw[mI] at h3
 split at h
 · cases h
 split at h
 · cases h;omega
 split at h
 · cases h
 · have:=aAT (l.drop a) jY ⟨#[]⟩ (jE _)
   rw[mI] at this
   cases h;omega
theorem aRD{l:List UInt8}{a:Nat}{x:ByteArray}{e:Nat}(h:sF l a=some (x,e)):a<e∧e≤l.length∧dW x≠0:=by
 unfold sF at h
 have h6:a≤(if cW l a 32=true then a+1 else a):=by split<;>omega
 simp only at h
 generalize (if cW l a 32=true then a+1 else a)=f at h h6
 split at h
 · cases h
 rename_i h1
 split at h
 · cases h
 rename_i nm e0 h2
 have h3:=KL (by omega) h2
 split at h
 · cases h
 rename_i h7
 split at h
 · cases h
 rename_i h4
 simp only[Option.some.injEq,Prod.mk.injEq] at h
 obtain⟨rfl,rfl⟩:=h
 split
 · rename_i h5
   have:cW l e0 32=true:=by
    cases hb:cW l e0 32 with
    | true=>rfl
    | false=>exact absurd (Or.inr ⟨h5,hb⟩) h4
   have:=p5 this
   exact⟨by omega,by omega,h7⟩
 · exact⟨by omega,by omega,h7⟩
def zW(R:mM)(l:List UInt8):Prop:=∀a t e,a≤l.length→R a=some (t,e)→a<e∧e≤l.length∧Dn t
theorem P4{R:mM}{l:List UInt8}{c1 c2:Nat}(hR:zW R l):∀(n a:Nat) (acc:List Tm) (ts:List Tm) (e:Nat),a≤l.length→(∀x∈acc,Dn x)→tV R l c1 c2 n a acc=some (ts,e)→a<e∧e<l.length∧(∀x∈ts,Dn x)∧ts.length≤acc.length+n∧(cW l e c1=true∨cW l e c2=true):=by
 intro n
 induction n with
 | zero=>intro a acc ts e _ _ h;cases h
 | succ n ih=>
  intro a acc ts e ha gM h
  unfold tV at h
  split at h
  · cases h
  rename_i t e1 h1
  obtain⟨h2,h3,h4⟩:=hR a t e1 ha h1
  have JO:∀x∈acc++ [t],Dn x:=by intro x hx;rw[d6] at hx;rcases hx with hx | hx;exact gM x hx;rw[HS] at hx;subst hx;exact h4
  split at h
  · rename_i h5
    cases h
    rw[pP] at h5
    refine⟨h2,?_,JO,by rw[dQ,QZ];omega,h5⟩
    rcases h5 with h5 | h5<;>exact p5 h5
  split at h
  · rename_i h5
    have h6:=p5 h5
    obtain⟨g1,g2,g3,g4,g5⟩:=ih (e1+1) _ ts e (by omega) JO h
    rw[dQ,QZ] at g4
    exact⟨by omega,g2,g3,by omega,g5⟩
  · cases h
theorem TA{nm:ByteArray}{ts:List Tm}(hl:ts.length≤1048576)(h:∀x∈ts,Dn x):Dn (p7 nm ts):=aC7 (by decide) hl h
theorem TB{nm:ByteArray}{x y:Tm}(hx:Dn x)(hy:Dn y):Dn (p7 nm [x,y]):=TA (by simp) (by intro z hz;simp only[c7,dT,d4] at hz;rcases hz with rfl | rfl;exact hx;exact hy)
theorem aC8{nm:ByteArray}:Dn (p7 nm []):=TA (by simp) (by simp)
theorem SY{t:Tm}(ht:Dn t):∀ts:List Tm,(∀x∈ts,Dn x)→Dn (x9 ts t)
 | [],_=>ht
 | x::xs,h=>TB (h x (by simp)) (SY ht xs fun y hy=>h y (by simp [hy]))
theorem a5Y{R:mM}{l:List UInt8}(hR:zW R l)(hl:l.length≤1000){a:Nat}{t:Tm}{e:Nat}(ha:a≤l.length)(h:DC R l a=some (t,e)):a<e∧e≤l.length∧Dn t:=by
 unfold DC at h
 split at h
 · cases h
 rename_i ts e1 h1
 obtain⟨g1,g2,g3,g4,g5⟩:=P4 hR _ _ _ _ _ ha (by simp) h1
 split at h
 · cases h
   exact⟨by omega,by omega,SY aC8 _ g3⟩
 split at h
 · cases h
 rename_i t2 e2 h2
 obtain⟨k1,k2,k3⟩:=hR _ _ _ (by omega) h2
 split at h
 · rename_i h5
   cases h
   have:=p5 h5
   exact⟨by omega,by omega,SY k3 _ g3⟩
 · cases h
theorem a7V{R:Nat→mM}{l:List UInt8}(hR:∀d,zW (R d) l)(hl:l.length≤1000){d a:Nat}{t:Tm}{e:Nat}(h:oS R l d a=some (t,e)):a<e∧e≤l.length∧Dn t:=by
 unfold oS at h
 split at h
 · cases h
 rename_i h0
 have ha:a<l.length:=by omega
 split at h
 · split at h
   · cases h
   rename_i t1 e1 h1
   obtain⟨k1,k2,k3⟩:=hR _ _ _ _ (by omega) h1
   split at h
   · rename_i h5
     cases h
     have:=p5 h5
     exact⟨by omega,by omega,k3⟩
   · cases h
 split at h
 · obtain⟨k1,k2,k3⟩:=a5Y (hR _) hl (by omega) h
   exact⟨by omega,k2,k3⟩
 split at h
 · cases h
   exact⟨by omega,by omega,a08 _⟩
 split at h
 · split at h
   · cases h
   rename_i n e1 h1
   cases h
   have:=a8G (by omega) h1
   exact⟨this.1,this.2,aC7 (by decide) (by simp) (by simp)⟩
 split at h
 · cases h
 rename_i nm e1 h1
 have g:=KL (by omega) h1
 split at h
 · cases h
   exact⟨g.1,g.2,aC8⟩
 split at h
 · cases h
 rename_i h6 _ ts e2 h2
 have h7:cW l e1 40=true:=by simpa using h6
 have h8:=p5 h7
 obtain⟨k1,k2,k3,k4,k5⟩:=P4 (hR _) _ _ _ _ _ (by omega) (by simp) h2
 cases h
 refine⟨by omega,by omega,TA ?_ k3⟩
 rw[a8] at k4
 omega
theorem a7I{R:mM}{l:List UInt8}(hR:zW R l)(lev:Nat):∀(n:Nat) (t0:Tm) (e0:Nat) (t:Tm) (e:Nat),e0≤l.length→Dn t0→GO R l lev n t0 e0=some (t,e)→e0≤e∧e≤l.length∧Dn t:=by
 intro n
 induction n with
 | zero=>intro t0 e0 t e _ _ h;cases h
 | succ n ih=>
  intro t0 e0 t e h0 ht h
  unfold GO at h
  split at h
  · cases h;exact⟨by omega,h0,ht⟩
  rename_i nm e1 h1
  have g:=aRD h1
  split at h
  · cases h;exact⟨by omega,h0,ht⟩
  split at h
  · cases h
  rename_i rt e2 h2
  obtain⟨k1,k2,k3⟩:=hR _ _ _ g.2.1 h2
  split at h
  · cases h;exact⟨by omega,k2,TB ht k3⟩
  · obtain⟨q1,q2,q3⟩:=ih _ _ _ _ k2 (TB ht k3) h
    exact⟨by omega,q2,q3⟩
theorem DR{l:List UInt8}(hl:l.length≤1000):∀(n d lv:Nat),zW (fun a=>rd l n d a lv) l:=by
 intro n
 induction n with
 | zero=>intro d lv a t e _ h;cases h
 | succ n ih=>
  intro d lv a t e ha h
  cases lv with
  | zero=>
   simp only[rd] at h
   exact a7V (fun d=>ih d 3) hl h
  | succ lv=>
   simp only[rd] at h
   split at h
   · cases h
   rename_i t1 e1 h1
   obtain⟨k1,k2,k3⟩:=ih d lv a t1 e1 ha h1
   obtain⟨q1,q2,q3⟩:=a7I (ih d lv) _ _ _ _ _ _ k2 k3 h
   exact⟨by omega,q2,q3⟩
end Go.AW
namespace Go.AW
open Go.Proofs.Tryz
def mT(a:Int):AV:=.tup [LC.av,.int .i64 (-1 - a)]
abbrev bAO:=zi tI_3 (zi zI_3 (zi aY (zi tI_66 (zi zI_66 (zi bZ (zi b9 (zi cA (zi cB bY))))))))
theorem E8(a:Nat)(ha:a≤1048576)(st:aA):aD prog 387 [.int .i64 (a:Int)] st (fun r st'=>r=mT a∧st'=st):=by
 refine aD.done ?_
 refine wF [1000000] 1 func387 ntmps387 rfl rfl ?_
 intro _
 have hw:=bE (n:= -1 - (a:Int))
 simp -implicitDefEqProofs only[aK,hw,aB,seval,bAO]
 intro b hb
 exact⟨by simp only[mT,bA,iT,jZ,iU,nT,mV,bH,a7,a7],(aL.refl _).aC hb⟩
def V8(a:Nat)(o:Option (ByteArray×Nat)):AV:=match o with | some (b,e)=>.tup [.str b,.int .i64 (e:Int)] | none=>.tup [.str ⟨#[]⟩,.int .i64 (a:Int)]
abbrev HD:=zi tI_3 (zi zI_3 (zi aY (zi tI_4 (zi zI_4 (zi cJ (zi tI_5 (zi zI_5 (zi m6 (zi tI_8 (zi zI_8 (zi AS (zi AT (zi AU (zi AX (zi AD (zi tI_9 (zi zI_9 cV)))))))))))))))))
set_option maxHeartbeats 1000000 in
theorem aZC(s:ByteArray)(hs:s.size≤1000)(a:Nat)(ha:a≤s.size)(st:aA):aD prog 369 [.str s,.int .i64 (a:Int)] st (fun r st'=>r=V8 a (sF (sb s) a)∧st'=st):=by
 refine wF [1000000] 2 func369 ntmps369 rfl rfl ?_
 intro _
 simp -implicitDefEqProofs only[aB,seval]
 refine(mD s a 32 _).to ?_
 obtain⟨f1,hf1⟩:∃f,f=a+1:=⟨_,rfl⟩
 have hw1:=pN (x:=(a:Int)+1) (m:=f1) (by omega) (by omega)
 simp -implicitDefEqProofs only[aB,seval]
 refine aP (fun h1=>?_) (fun h1=>?_)
 · have hf:=p5 h1
   rw[cQ] at hf
   simp -implicitDefEqProofs only[hw1,aB,seval,HD]
   obtain⟨f,rfl⟩:∃f,f=f1:=⟨_,rfl⟩
   replace hf:f≤s.size:=by omega
   by_cases hlen:s.size≤f
   case pos=>
    have hrd:sF (sb s) a=none:=by
     unfold sF
     simp only[h1,↓reduceIte,←hf1]
     rw[aH (by rw[cQ];exact hlen)]
    rw[hrd]
    have c8:((s.size:Int)≤(f:Int))=True:=dC (by omega)
    simp -implicitDefEqProofs only[c8,bV,aB,seval]
    rfl
   have c8:((s.size:Int)≤(f:Int))=False:=cK (by omega)
   have hrd:sF (sb s) a=match qA (sb s) f with
    | none=>none
    | some (nm,e)=>if dW nm=0 then none else if jO nm≠decide (a<f)∨(jO nm=true∧cW (sb s) e 32=false) then none else some (nm,if jO nm then e+1 else e):=by
    unfold sF
    simp only[h1,↓reduceIte,←hf1]
    rw[aE (by rw[cQ];exact hlen)]
    try rfl
   rw[hrd]
   clear hrd
   have hfa:((a:Int)<(f:Int))=True:=dC (by omega)
   have hfn:(a<f)=True:=dC (by omega)
   simp -implicitDefEqProofs only[c8,bX,aB,seval]
   refine(SJ s hs f (by omega) _).to ?_
   cases hn:qA (sb s) f with
   | none=>
    simp only[DI]
    simp -implicitDefEqProofs only[bV,aB,seval]
    rfl
   | some p=>
    obtain⟨nm,e⟩:=p
    have he:=KL (by rw[cQ];omega) hn
    rw[cQ] at he
    simp only[DI]
    have he0:((e:Int)<0)=False:=cK (by omega)
    simp -implicitDefEqProofs only[he0,bX,aB,seval]
    refine(x6 nm _).to ?_
    by_cases hl0:dW nm=0
    case pos=>
     rw[aH hl0]
     have qX:((dW nm:Int)=0)=True:=dC (by omega)
     simp -implicitDefEqProofs only[qX,bV,aB,seval]
     rfl
    rw[aE hl0]
    have qX:((dW nm:Int)=0)=False:=cK (by omega)
    simp only[hfn,bV]
    have hw1:=bE (n:=(e:Int)+1)
    by_cases hi:nm=⟨#[105,115]⟩
    case' pos=>
     have hi':=dC hi
     have hm':(nm=⟨#[109,111,100]⟩)=False:=cK (by rw[hi];decide)
     have hW:jO nm=true:=by unfold jO;rw[fQ hi];try rfl
    case' neg=>
     have hi':=cK hi
     by_cases hm:nm=⟨#[109,111,100]⟩
     case' pos=>
      have hm':=dC hm
      have hW:jO nm=true:=by unfold jO;rw[fQ hm];exact xG _
     case' neg=>
      have hm':=cK hm
      have hW:jO nm=false:=by unfold jO;rw[fP hm,fP hi];try rfl
    all_goals
     rw[hW]
     simp -implicitDefEqProofs only[qX,hfa,hi',hm',bV,bX,aB,seval,HD]
     first
      | (rw[aH (Or.inl trivial)];rfl)
      | (rw[aE fun h=>h.1];rfl)
      | skip
     try
      refine(mD s e 32 _).to ?_
      cases hb:cW (sb s) e 32 with
      | false=>
       simp -implicitDefEqProofs only[aB,seval]
       rfl
      | true=>
       simp -implicitDefEqProofs only[hw1,aB,seval]
       rfl
 · skip
   simp -implicitDefEqProofs only[aB,seval,HD]
   obtain⟨f,rfl⟩:∃f,f=a:=⟨_,rfl⟩
   have hf:=ha
   by_cases hlen:s.size≤f
   case pos=>
    have hrd:sF (sb s) f=none:=by
     unfold sF
     simp only[h1,↓reduceIte,iK]
     rw[aH (by rw[cQ];exact hlen)]
    rw[hrd]
    have c8:((s.size:Int)≤(f:Int))=True:=dC (by omega)
    simp -implicitDefEqProofs only[c8,bV,aB,seval]
    rfl
   have c8:((s.size:Int)≤(f:Int))=False:=cK (by omega)
   have hrd:sF (sb s) f=match qA (sb s) f with
    | none=>none
    | some (nm,e)=>if dW nm=0 then none else if jO nm≠decide (f<f)∨(jO nm=true∧cW (sb s) e 32=false) then none else some (nm,if jO nm then e+1 else e):=by
    unfold sF
    simp only[h1,↓reduceIte,iK]
    rw[aE (by rw[cQ];exact hlen)]
    try rfl
   rw[hrd]
   clear hrd
   have hfa:((f:Int)<(f:Int))=False:=cK (by omega)
   have hfn:(f<f)=False:=cK (by omega)
   simp -implicitDefEqProofs only[c8,bX,aB,seval]
   refine(SJ s hs f (by omega) _).to ?_
   cases hn:qA (sb s) f with
   | none=>
    simp only[DI]
    simp -implicitDefEqProofs only[bV,aB,seval]
    rfl
   | some p=>
    obtain⟨nm,e⟩:=p
    have he:=KL (by rw[cQ];omega) hn
    rw[cQ] at he
    simp only[DI]
    have he0:((e:Int)<0)=False:=cK (by omega)
    simp -implicitDefEqProofs only[he0,bX,aB,seval]
    refine(x6 nm _).to ?_
    by_cases hl0:dW nm=0
    case pos=>
     rw[aH hl0]
     have qX:((dW nm:Int)=0)=True:=dC (by omega)
     simp -implicitDefEqProofs only[qX,bV,aB,seval]
     rfl
    rw[aE hl0]
    have qX:((dW nm:Int)=0)=False:=cK (by omega)
    simp only[hfn,bX]
    have hw1:=bE (n:=(e:Int)+1)
    by_cases hi:nm=⟨#[105,115]⟩
    case' pos=>
     have hi':=dC hi
     have hm':(nm=⟨#[109,111,100]⟩)=False:=cK (by rw[hi];decide)
     have hW:jO nm=true:=by unfold jO;rw[fQ hi];try rfl
    case' neg=>
     have hi':=cK hi
     by_cases hm:nm=⟨#[109,111,100]⟩
     case' pos=>
      have hm':=dC hm
      have hW:jO nm=true:=by unfold jO;rw[fQ hm];exact xG _
     case' neg=>
      have hm':=cK hm
      have hW:jO nm=false:=by unfold jO;rw[fP hm,fP hi];try rfl
    all_goals
     rw[hW]
     simp -implicitDefEqProofs only[qX,hfa,hi',hm',bV,bX,aB,seval,HD]
     first
      | (rw[aH (Or.inl trivial)];rfl)
      | (rw[aE fun h=>h.1];rfl)
      | skip
     try
      refine(mD s e 32 _).to ?_
      cases hb:cW (sb s) e 32 with
      | false=>
       simp -implicitDefEqProofs only[qX,hfa,hi',hm',hw1,bV,bX,aB,↓aU,seval,HD]
       rfl
      | true=>
       simp -implicitDefEqProofs only[qX,hfa,hi',hm',hw1,bV,bX,aB,↓aU,seval,HD]
       rfl
theorem a0S{ts:List Tm}{i:Nat}{x t:Tm}(hx:ts[i]?=some x):x9 (ts.drop i) t=p7 ⟨#[46]⟩ [x,x9 (ts.drop (i+1)) t]:=by
 obtain⟨h1,h2⟩:=fL.1 hx
 rw[qF h1,h2]
 try rfl
abbrev PR:=zi tI_3 (zi zI_3 (zi aY (zi tI_9 (zi zI_9 (zi cV (zi tI_31 (zi zI_31 (zi aQ (zi bS (zi bT (zi cI (zi tI_46 (zi zI_46 (zi cZ (zi eG (zi eE (zi eT (zi tI_66 (zi zI_66 (zi bZ (zi b9 (zi cA (zi cB bY)))))))))))))))))))))))
set_option maxHeartbeats 1000000 in
theorem aBL(ts:List Tm)(tl:Tm)(hl:ts.length≤1048576)(st:aA):aD prog 404 [.slice (ts.map Tm.av),tl.av] st (fun r st'=>r=(x9 ts tl).av∧st'=st):=by
 refine aD.done ?_
 refine wF [1000000,5] 2 func404 ntmps404 rfl rfl ?_
 intro _
 have hw0:=bE (n:=(ts.length:Int) - 1)
 simp -implicitDefEqProofs only[aK,bG,aO,cP,cU,cL,aF,hw0,aB,↓aU,seval,PR]
 intro b hb b5 hb5
 have hbb:b5≠b:=fun h=>by rw[h,aA.aJ] at hb5;cases hb5
 refine iP (σ:=Nat) [1000000] [0,4,5] (fun i=>i≤ts.length) (fun i=>[(6,.int .i64 ((i:Int) - 1))]) (fun i=>(st.aC b (.cells [.int .i64 0,.int .i64 0,.str ⟨#[]⟩,.fslice []])).aC b5 (.cells (x9 (ts.drop i) tl).av.cells)) (fun i=>i) (by decide +kernel) ⟨ts.length,by omega,by rw[kK];exact aM.mk (by simp -implicitDefEqProofs only[aB,seval])⟩ ?_
 intro i hi
 simp -implicitDefEqProofs only[aB,seval]
 refine aP (fun h1=>?_) (fun h1=>?_)
 · simp only[bK] at h1
   obtain⟨k,rfl⟩:∃k,i=k+1:=⟨i - 1,by omega⟩
   obtain⟨x,hx⟩:∃x,ts[k]?=some x:=⟨_,eA (by omega)⟩
   have hk:((k+1:Nat):Int) - 1=(k:Int):=by omega
   have hw:=bE (n:=(k:Int) - 1)
   have hst:=a0S (t:=tl) hx
   have hat:=bP (av:=Tm.av) aQ hx (aO x)
   rw[hk]
   generalize x9 (ts.drop (k+1)) tl=y at *
   have hax:=cL x
   have hay:=cL y
   simp -implicitDefEqProofs only[aB,seval]
   refine wP [(0,1),(1,1),(2,1),(3,2),(4,2),(5,1),(6,2),(7,0)] [0,1,2,3,4,5,6] mixed ?_
   simp -implicitDefEqProofs only[bG,aO,cU,cL,gI (cL _),gG (bG _),hat,aB,seval,PR]
   refine jC (MR ⟨#[46]⟩ [x,y] (by simp) _) ?_
   simp -implicitDefEqProofs only[aK,cP,cL,hw,aB,seval,PR]
   refine⟨k,by omega,by omega,?_⟩
   rw[hst]
   exact aM.mk (by simp -implicitDefEqProofs only[aB,seval])
 · simp only[dJ] at h1
   obtain rfl:i=0:=by omega
   rw[sP]
   simp -implicitDefEqProofs only[aK,cP,cL,gI (cL _),gG (bG _),hbb.symm,aB,↓aU,seval,PR]
   exact⟨Tm.soft _,(((aL.refl _).aC hb).aC (by rwa [aA.aG _ _ hbb] at hb5)).aC hb⟩
def nW(o:Option (Tm×Nat))(r:AV):Prop:=match o with | some (t,e)=>r=.tup [t.av,.int .i64 (e:Int)] | none=>∃k:Nat,k≤1048576∧r=mT k
def xN(o:Option (List Tm×Nat))(r:AV):Prop:=match o with | some (ts,e)=>r=.tup [.slice (ts.map Tm.av),.int .i64 (e:Int)] | none=>∃k:Nat,k≤1048576∧r=.tup [.slice [],.int .i64 (-1 - (k:Int))]
abbrev Q5 (s:ByteArray) (R:mM) (d lv lo:Nat):Prop:=∀(a:Nat) (st:aA),lo≤a→a≤s.size→aD prog 322 [.str s,.int .i64 (a:Int),.int .i64 (d:Int),.int .i64 (lv:Int)] st (fun r st'=>nW (R a) r∧st'=st)
abbrev X5:=zi tI_3 (zi zI_3 (zi aY (zi tI_4 (zi zI_4 (zi cJ (zi tI_5 (zi zI_5 (zi m6 (zi tI_8 (zi zI_8 (zi AS (zi AT (zi AU (zi AX (zi AD (zi tI_9 (zi zI_9 (zi cV (zi tI_31 (zi zI_31 (zi aQ (zi bS (zi bT (zi cI (zi tI_44 (zi zI_44 (zi aDH (zi aDE (zi aDJ (zi aUO (zi tI_66 (zi zI_66 (zi bZ (zi b9 (zi cA (zi cB bY))))))))))))))))))))))))))))))))))))
set_option maxHeartbeats 1000000 in
theorem aBW{s:ByteArray}{R:mM}{d lo c1 c2:Nat}(hR:Q5 s R d 3 lo)(hok:zW R (sb s))(hs:s.size≤1000)(a:Nat)(ha:lo≤a)(ha':a≤s.size)(st:aA) :
 aD prog 391 [.str s,.int .i64 (a:Int),.int .i64 (d:Int),.int .u8 (c1:Int),.int .u8 (c2:Int)] st (fun r st'=>xN (tV R (sb s) c1 c2 ((sb s).length+1) a []) r∧st'=st):=by
 generalize hT:tV R (sb s) c1 c2 ((sb s).length+1) a []=T
 rw[cQ] at hT
 refine aD.drop (Q:=xN T) (aD.fin ?_)
 refine wF [1000000] 5 func391 ntmps391 rfl rfl ?_
 intro _
 simp -implicitDefEqProofs only[aB,seval,X5]
 refine iP (σ:=Nat×List Tm×Nat×Nat) [1000000] [0,2,3,4] (fun x=>tV R (sb s) c1 c2 x.2.2.1 x.1 x.2.1=T∧lo≤x.1∧x.1≤s.size∧s.size<x.2.2.1+x.1∧x.2.1.length+x.2.2.1≤1001∧(x.2.1.map Tm.av≠[]→st x.2.2.2=none)) (fun x=>[(1,.int .i64 (x.1:Int)),(10,.fslice []),(11,.int .i64 0),(12,bU 4 x.2.2.2 (x.2.1.map Tm.av))]) (fun x=>aZ st x.2.2.2 (x.2.1.map Tm.av)) (fun x=>x.2.2.1) (by decide +kernel) ⟨(a,[],s.size+1,0),⟨hT,ha,ha',by simp only;omega,by simp only[a8];omega,by simp⟩,aM.mk (by simp -implicitDefEqProofs only[a7,iY,aB,seval])⟩ ?_
 rintro⟨i,acc,m,b⟩ ⟨ht,hlo,hi,hm,hlen,hb⟩
 simp only at ht hlo hi hm hlen hb ⊢
 obtain⟨m,rfl⟩:∃m',m=m'+1:=⟨m - 1,by omega⟩
 simp only[tV] at ht
 simp -implicitDefEqProofs only[aB,seval]
 refine(hR i _ hlo hi).mono ?_
 rintro r _ ⟨hr,rfl⟩
 have fin:∀(l:List Tm) (b':Nat) (r':AV),(l.map Tm.av≠[]→st b'=none)→xN T (r'.fin b' (l.map Tm.av))→∃b2 l2 s0,aZ st b' (l.map Tm.av)=aZ s0 b2 l2∧(l2≠[]→s0 b2=none)∧(∀e∈l2,e.cE=false)∧iV l2∧aL s0 st∧xN T (r'.fin b2 l2):=fun l b' r' h1 h2=>⟨b',_,st,rfl,h1,pM _,⟨4,gZ _⟩,aL.refl _,h2⟩
 have hTn:T=none→∀k:Nat,k≤1048576→∀(b':Nat) (l:List AV),xN T ((AV.tup [.fslice [],.int .i64 (-1 - (k:Int))]).fin b' l):=by
  rintro rfl k hk b' l
  exact⟨k,hk,by simp only[kC,fS,oL,bH,a7]⟩
 cases hRi:R i with
 | none=>
  rw[hRi] at ht hr
  obtain⟨k,hk,rfl⟩:=hr
  have hk0:((-1 - (k:Int))<0)=True:=dC (by omega)
  simp -implicitDefEqProofs only[aO,cP,cU,hk0,mT,bV,aB,↓aU,seval,X5]
  exact fin _ _ _ hb (hTn ht.symm k hk _ _)
 | some p=>
  obtain⟨t,e⟩:=p
  rw[hRi] at ht hr
  simp only at ht
  obtain⟨g1,g2,g3⟩:=hok i t e (by rw[cQ];exact hi) hRi
  rw[cQ] at g2
  simp only[nW] at hr
  subst hr
  have he0:((e:Int)<0)=False:=cK (by omega)
  simp -implicitDefEqProofs only[bG,aO,cP,cU,he0,o7,vP,bX,aB,↓aU,seval,X5]
  refine eQ aQ bS bT rfl rfl (f9 (aO _) (cP _)) (gZ _) hb (by simp only[aF,aX,a8];omega) (by simp only[aF,aX,a8];omega) (fun b' hb'=>?_)
  rw[show acc.map Tm.av++ [t.av]=(acc++ [t]).map Tm.av by simp] at hb' ⊢
  simp -implicitDefEqProofs only[aB,seval]
  have wT:T=some (acc++ [t],e)→xN T ((AV.tup [bU 4 b' ((acc++ [t]).map Tm.av),.int .i64 (e:Int)]).fin b' ((acc++ [t]).map Tm.av)):=by
   rintro rfl
   simp only[xN,kC,fS,lU,bH,a7]
  have hw1:=bE (n:=(e:Int)+1)
  have hw2:=bE (n:= -1 - (e:Int))
  refine(mD s e c1 _).to ?_
  cases h1:cW (sb s) e c1 with
  | true=>
   rw[h1,zO,aH rfl] at ht
   simp -implicitDefEqProofs only[nF,o7,vP,aB,seval]
   exact fin _ _ _ hb' (wT ht.symm)
  | false=>
  simp -implicitDefEqProofs only[aB,seval]
  refine(mD s e c2 _).to ?_
  cases h2:cW (sb s) e c2 with
  | true=>
   rw[h2,xG,aH rfl] at ht
   simp -implicitDefEqProofs only[nF,o7,vP,aB,seval]
   exact fin _ _ _ hb' (wT ht.symm)
  | false=>
  rw[h1,h2,BY,aE (by decide)] at ht
  simp -implicitDefEqProofs only[aB,seval]
  refine(mD s e 44 _).to ?_
  cases h3:cW (sb s) e 44 with
  | true=>
   have h4:=p5 h3
   rw[cQ] at h4
   rw[h3,aH rfl] at ht
   simp -implicitDefEqProofs only[hw1,aB,seval]
   refine⟨(e+1,acc++ [t],m,b'),by simp only;omega,⟨ht,by simp only;omega,by simp only;omega,by simp only;omega,by simp only[dQ,aX,a8];omega,hb'⟩,aM.mk (by simp -implicitDefEqProofs only[aB,seval]<;>rfl)⟩
  | false=>
   rw[h3,aE (by decide)] at ht
   simp -implicitDefEqProofs only[hw2,aB,seval]
   exact fin _ _ _ hb' (hTn ht.symm e (by omega) _ _)
theorem aD.TC{P:Program}{g:FuncId}{args:List AV}{st:aA}{Q:AV→Prop}(x:aD P g args st (fun r' st'=>Q r'.soft∧aL st' st)):aD P g args st (fun r' st'=>Q r'∧st'=st):=
 aD.drop (aD.soft (x.mono fun _ _ h=>⟨h.2,h.1⟩))
theorem GW{k:Nat}(hk:k≤1048576):nW none (AV.tup [.agg [.int .i64 0,.int .i64 0,.str ⟨#[]⟩,.fslice []],.int .i64 (-1 - (k:Int))]).soft:=
 ⟨k,hk,by simp only[mT,bA,iT,jZ,iU,nT,mV,bH,a7]⟩
theorem tO{t:Tm}{e:Nat}{x:Int}(h:x=(e:Int)):nW (some (t,e)) (AV.tup [t.av,.int .i64 x]).soft:=by
 subst h
 simp only[nW,jZ,iU,Tm.soft,bH,a7]
theorem BB{k:Nat}(hk:k≤1048576):nW none (AV.tup [LC.av,.int .i64 (-1 - (k:Int))]).soft:=
 ⟨k,hk,by simp only[mT,jZ,iU,Tm.soft,bH,a7]⟩
abbrev BO:=zi tI_3 (zi zI_3 (zi aY (zi tI_4 (zi zI_4 (zi cJ (zi tI_5 (zi zI_5 (zi m6 (zi tI_8 (zi zI_8 (zi AS (zi AT (zi AU (zi AX (zi AD (zi tI_9 (zi zI_9 (zi cV (zi tI_31 (zi zI_31 (zi aQ (zi bS (zi bT (zi cI (zi tI_66 (zi zI_66 (zi bZ (zi b9 (zi cA (zi cB (zi bY (zi tI_91 (zi zI_91 (zi a2D (zi a2E aWY)))))))))))))))))))))))))))))))))))
set_option maxHeartbeats 1000000 in
theorem aY9{s:ByteArray}{R:mM}{d lo:Nat}(hR:Q5 s R d 3 lo)(hok:zW R (sb s))(hs:s.size≤1000)(a:Nat)(ha:lo≤a)(ha':a≤s.size)(st:aA) :
 aD prog 388 [.str s,.int .i64 (a:Int),.int .i64 (d:Int)] st (fun r st'=>nW (DC R (sb s) a) r∧st'=st):=by
 refine aD.TC ?_
 refine wF [1000000] 3 func388 ntmps388 rfl rfl ?_
 intro _
 simp -implicitDefEqProofs only[aB,seval,BO]
 intro b hb
 unfold DC
 refine(aBW hR hok hs a ha ha' _ (c1:=93) (c2:=124)).mono ?_
 rintro r _ ⟨hr,rfl⟩
 have hD:=fun(o:AO)=>(aL.refl st).aC (o:=o) hb
 cases hT:tV R (sb s) 93 124 ((sb s).length+1) a [] with
 | none=>
  rw[hT] at hr
  obtain⟨k,hk,rfl⟩:=hr
  have hk0:((-1 - (k:Int))<0)=True:=dC (by omega)
  simp -implicitDefEqProofs only[aK,hk0,bV,aB,seval,BO]
  exact⟨GW hk,hD _⟩
 | some p=>
  obtain⟨ts,e⟩:=p
  rw[hT] at hr
  simp only[xN] at hr
  subst hr
  obtain⟨g1,g2,g3,g4,g5⟩:=P4 hok _ _ _ _ _ (by rw[cQ];exact ha') (by simp) hT
  rw[cQ] at g2 g4
  rw[a8] at g4
  have he0:((e:Int)<0)=False:=cK (by omega)
  obtain⟨f,hf⟩:∃f,f=e+1:=⟨_,rfl⟩
  have hw:=pN (x:=(e:Int)+1) (m:=f) (by omega) (by omega)
  simp -implicitDefEqProofs only[he0,bX,aB,seval]
  refine(mD s e 93 _).to ?_
  cases h1:cW (sb s) e 93 with
  | true=>
   simp -implicitDefEqProofs only[aB,seval]
   refine(MR ⟨#[91,93]⟩ [] (by simp) _).to ?_
   simp -implicitDefEqProofs only[aB,seval]
   refine(aBL ts (p7 ⟨#[91,93]⟩ []) (by omega) _).to ?_
   simp -implicitDefEqProofs only[aK,cP,cU,cL,gI (cL _),gG (bG _),hw,aB,seval,BO]
   exact⟨tO (by omega),hD _⟩
  | false=>
   simp -implicitDefEqProofs only[hw,aB,seval]
   refine(hR f _ (by omega) (by omega)).mono ?_
   rintro r _ ⟨hr,rfl⟩
   rw[←hf]
   cases hRi:R f with
   | none=>
    rw[hRi] at hr
    obtain⟨k,hk,rfl⟩:=hr
    have hk0:((-1 - (k:Int))<0)=True:=dC (by omega)
    simp -implicitDefEqProofs only[aK,aO,cP,cU,hk0,mT,bV,aB,↓aU,seval,BO]
    exact⟨GW hk,hD _⟩
   | some p=>
    obtain⟨t,e2⟩:=p
    rw[hRi] at hr
    simp only[nW] at hr
    subst hr
    obtain⟨k1,k2,k3⟩:=hok f t e2 (by rw[cQ];omega) hRi
    rw[cQ] at k2
    have he2:((e2:Int)<0)=False:=cK (by omega)
    have hw2:=bE (n:=(e2:Int)+1)
    simp -implicitDefEqProofs only[aO,cP,cU,he2,bX,aB,↓aU,seval,BO]
    refine(mD s e2 93 _).to ?_
    cases h2:cW (sb s) e2 93 with
    | true=>
     simp -implicitDefEqProofs only[bG,aO,aB,seval,BO]
     refine(aBL ts t (by omega) _).to ?_
     simp -implicitDefEqProofs only[aK,cP,cU,cL,gI (cL _),gG (bG _),hw2,aB,seval,BO]
     exact⟨tO rfl,hD _⟩
    | false=>
     simp -implicitDefEqProofs only[aB,seval]
     refine(E8 e2 (by omega) _).to ?_
     simp -implicitDefEqProofs only[aK,cP,cU,cL,gI (cL _),gG (bG _),mT,aB,seval,BO]
     exact⟨BB (by omega),hD _⟩
theorem a7Z{R:Nat→mM}{l:List UInt8}{d a:Nat}(h:d<1∨l.length≤a):oS R l d a=none:=by unfold oS;rw[aH h]
theorem a70{R:Nat→mM}{l:List UInt8}{d a:Nat}(h:¬(d<1∨l.length≤a))(h1:cW l a 40=true):oS R l d a=match R d (a+1) with
 | none=>none
 | some (t,e)=>if cW l e 41 then some (t,e+1) else none:=by unfold oS;rw[aE h,aH h1];try rfl
theorem a7W{R:Nat→mM}{l:List UInt8}{d a:Nat}(h:¬(d<1∨l.length≤a))(h1:cW l a 40=false)(h2:cW l a 91=true)(h3:cW l (a+1) 93=false):oS R l d a=DC (R (d - 1)) l (a+1):=by
 unfold oS;rw[aE h,aE (by simp [h1]),aH (by simp [h2,h3])]
theorem a71{R:Nat→mM}{l:List UInt8}{d a:Nat}(h:¬(d<1∨l.length≤a))(h1:cW l a 40=false)(h2:(cW l a 91&& !cW l (a+1) 93)=false)(h3:gP l a vT=true):oS R l d a=some (vr ((ML l a - 65:Nat):Int),a+1):=by
 unfold oS;rw[aE h,aE (by simp [h1]),aE (by simp [h2]),aH h3]
theorem a7Y{R:Nat→mM}{l:List UInt8}{d a:Nat}(h:¬(d<1∨l.length≤a))(h1:cW l a 40=false)(h2:(cW l a 91&& !cW l (a+1) 93)=false)(h3:gP l a vT=false)(h4:(gP l a d5||(cW l a 45&&gP l (a+1) d5))=true):oS R l d a=match wZ l a with
 | none=>none
 | some (n,e)=>some (.mk 2 n ⟨#[]⟩ [],e):=by
 unfold oS;rw[aE h,aE (by simp [h1]),aE (by simp [h2]),aE (by simp [h3]),aH h4];try rfl
theorem a7X{R:Nat→mM}{l:List UInt8}{d a:Nat}(h:¬(d<1∨l.length≤a))(h1:cW l a 40=false)(h2:(cW l a 91&& !cW l (a+1) 93)=false)(h3:gP l a vT=false)(h4:(gP l a d5||(cW l a 45&&gP l (a+1) d5))=false):oS R l d a=match qA l a with
 | none=>none
 | some (nm,e)=>if cW l e 40=false then some (p7 nm [],e) else match tV (R (d - 1)) l 41 41 (l.length+1) (e+1) [] with
  | none=>none
  | some (ts,e')=>some (p7 nm ts,e'+1):=by
 unfold oS;rw[aE h,aE (by simp [h1]),aE (by simp [h2]),aE (by simp [h3]),aE (by simp [h4])];try rfl
abbrev lO:=zi tI_3 (zi zI_3 (zi aY (zi tI_4 (zi zI_4 (zi cJ (zi tI_5 (zi zI_5 (zi m6 (zi tI_8 (zi zI_8 (zi AS (zi AT (zi AU (zi AX (zi AD (zi tI_9 (zi zI_9 (zi cV (zi tI_31 (zi zI_31 (zi aQ (zi bS (zi bT (zi cI (zi tI_40 (zi zI_40 (zi tD (zi AL (zi AP (zi zH (zi tI_66 (zi zI_66 (zi bZ (zi b9 (zi cA (zi cB bY))))))))))))))))))))))))))))))))))))
set_option maxHeartbeats 2000000 in
theorem aZE{s:ByteArray}{R:Nat→mM}{a:Nat}(hR:∀d,d≤1048576→Q5 s (R d) d 3 (a+1))(hok:∀d,zW (R d) (sb s))(hs:s.size≤1000)(ha:a≤s.size)(d:Nat)(hd:d≤1048576)(st:aA) :
 aD prog 368 [.str s,.int .i64 (a:Int),.int .i64 (d:Int)] st (fun r st'=>nW (oS R (sb s) d a) r∧st'=st):=by
 refine aD.TC ?_
 refine wF [1000000] 3 func368 ntmps368 rfl rfl ?_
 intro _
 generalize hP:oS R (sb s) d a=o
 simp -implicitDefEqProofs only[aB,seval,lO]
 intro b hb
 have hD:=fun(o:AO)=>(aL.refl st).aC (o:=o) hb
 by_cases h0:d<1∨s.size≤a
 case pos=>
  rw[a7Z (by rw[cQ];exact h0)] at hP
  subst hP
  by_cases h01:d<1
  case pos=>
   have yJ:((d:Int)<1)=True:=dC (by omega)
   simp -implicitDefEqProofs only[yJ,bV,aB,seval]
   refine(E8 a (by omega) _).to ?_
   simp -implicitDefEqProofs only[aK,cP,cU,cL,gI (cL _),gG (bG _),mT,aB,seval,lO]
   exact⟨BB (by omega),hD _⟩
  case neg=>
   have yJ:((d:Int)<1)=False:=cK (by omega)
   have CV:((s.size:Int)≤(a:Int))=True:=dC (by omega)
   simp -implicitDefEqProofs only[yJ,CV,bV,bX,aB,seval,lO]
   refine(E8 a (by omega) _).to ?_
   simp -implicitDefEqProofs only[aK,cP,cU,cL,gI (cL _),gG (bG _),mT,aB,seval,lO]
   exact⟨BB (by omega),hD _⟩
 have h0':¬(d<1∨(sb s).length≤a):=by rw[cQ];exact h0
 have yJ:((d:Int)<1)=False:=cK (by omega)
 have CV:((s.size:Int)≤(a:Int))=False:=cK (by omega)
 obtain⟨x,hx⟩:=xZ (s:=s) (n:=a) (by omega)
 have hix:=u9 (P:=prog) (t:=9) cV hx
 obtain⟨f,hf⟩:∃f,f=a+1:=⟨_,rfl⟩
 have hw:=pN (x:=(a:Int)+1) (m:=f) (by omega) (by omega)
 obtain⟨d1,hd1⟩:∃d1,d1=d - 1:=⟨_,rfl⟩
 have hwd:=pN (x:=(d:Int) - 1) (m:=d1) (by omega) (by omega)
 by_cases h40:x.toNat=40
 case pos=>
  rw[a70 h0' (by rw[vA hx,h40];try rfl),←hf] at hP
  have FQ:((x.toNat:Int)=40)=True:=dC (by omega)
  simp -implicitDefEqProofs only[yJ,CV,hix,FQ,hw,bV,bX,aB,seval,lO]
  refine(hR d hd f _ (by omega) (by omega)).mono ?_
  rintro r _ ⟨hr,rfl⟩
  cases hRi:R d f with
  | none=>
   rw[hRi] at hr hP
   subst hP
   obtain⟨k,hk,rfl⟩:=hr
   have hk0:((-1 - (k:Int))<0)=True:=dC (by omega)
   simp -implicitDefEqProofs only[aK,aO,cP,cU,hk0,mT,bV,aB,↓aU,seval,lO]
   exact⟨GW hk,hD _⟩
  | some p=>
   obtain⟨t,e2⟩:=p
   rw[hRi] at hr hP
   simp only[nW] at hr
   subst hr
   obtain⟨k1,k2,k3⟩:=hok d f t e2 (by rw[cQ];omega) hRi
   rw[cQ] at k2
   have he2:((e2:Int)<0)=False:=cK (by omega)
   have hw2:=bE (n:=(e2:Int)+1)
   simp -implicitDefEqProofs only[aO,cP,cU,he2,bX,aB,↓aU,seval,lO]
   refine(mD s e2 41 _).to ?_
   cases h2:cW (sb s) e2 41 with
   | true=>
    simp only[h2,↓reduceIte] at hP
    subst hP
    simp -implicitDefEqProofs only[aK,bG,aO,cP,cU,cL,gI (cL _),gG (bG _),hw2,aB,seval,lO]
    exact⟨tO rfl,hD _⟩
   | false=>
    simp only[h2,↓reduceIte,iK] at hP
    subst hP
    simp -implicitDefEqProofs only[aB,seval]
    refine(E8 e2 (by omega) _).to ?_
    simp -implicitDefEqProofs only[aK,cP,cU,cL,gI (cL _),gG (bG _),mT,aB,seval,lO]
    exact⟨BB (by omega),hD _⟩
 have g40:cW (sb s) a 40=false:=by rw[vA hx];exact fP h40
 have FQ:((x.toNat:Int)=40)=False:=cK (by omega)
 -- a list
 by_cases hL:x.toNat=91∧cW (sb s) f 93=false
 case pos=>
  obtain⟨h91,h93⟩:=hL
  rw[a7W h0' g40 (by rw[vA hx,h91];try rfl) (by rw[←hf];exact h93),←hf,←hd1] at hP
  subst hP
  have uT:((x.toNat:Int)=91)=True:=dC (by omega)
  simp -implicitDefEqProofs only[yJ,CV,hix,FQ,uT,hw,bV,bX,aB,seval,lO]
  refine(mD s f 93 _).to ?_
  rw[h93]
  simp -implicitDefEqProofs only[hw,hwd,aB,seval]
  refine(aY9 (hR d1 (by omega)) (hok d1) hs f (by omega) (by omega) _).mono ?_
  rintro r _ ⟨hr,rfl⟩
  cases hI:DC (R d1) (sb s) f with
  | none=>
   rw[hI] at hr
   obtain⟨k,hk,rfl⟩:=hr
   simp -implicitDefEqProofs only[aK,cP,cU,cL,gI (cL _),gG (bG _),mT,aB,seval,lO]
   exact⟨BB hk,hD _⟩
  | some p=>
   obtain⟨t,e2⟩:=p
   rw[hI] at hr
   simp only[nW] at hr
   subst hr
   simp -implicitDefEqProofs only[aK,cP,cU,cL,gI (cL _),gG (bG _),aB,seval,lO]
   exact⟨tO rfl,hD _⟩
 have gL:(cW (sb s) a 91&& !cW (sb s) (a+1) 93)=false:=by
  rw[←hf,vA hx]
  rcases Nat.decEq x.toNat 91 with h | h
  · rw[fP h,iA]
  · rw[fQ h,eU]
    cases h93:cW (sb s) f 93 with
    | true=>rfl
    | false=>exact absurd ⟨h,h93⟩ hL
 by_cases hU:vT x=true
 case pos=>
  have hP':=a71 (R:=R) h0' g40 gL (by rw[yT hx];exact hU)
  rw[hP'] at hP
  subst hP
  have hbn:ML (sb s) a=x.toNat:=by unfold ML;rw[hx]
  simp only[vT,cF,bK] at hU
  have uT:((x.toNat:Int)=91)=False:=cK (by omega)
  have h65:((65:Int)≤(x.toNat:Int))=True:=dC (by omega)
  have h90:((x.toNat:Int)≤90)=True:=dC (by omega)
  obtain⟨y,hy⟩:∃y,y=x.toNat - 65:=⟨_,rfl⟩
  have hw2:IntKind.wrap .u8 ((x.toNat:Int) - 65)=(y:Int):=by rw[IntKind.wrap_u8];omega
  have hw3:=bE (n:=(y:Int))
  simp -implicitDefEqProofs only[yJ,CV,hix,FQ,uT,h65,h90,hw2,hw3,v7,bV,bX,aB,seval,lO]
  refine(aBQ (y:Int) _).to ?_
  simp -implicitDefEqProofs only[aK,cP,cU,cL,gI (cL _),gG (bG _),hw,aB,seval,lO]
  rw[hbn,←hy,←hf]
  exact⟨tO rfl,hD _⟩
 have gU:gP (sb s) a vT=false:=by rw[yT hx];simpa using hU
 cases hdg:(gP (sb s) a d5||(cW (sb s) a 45&&gP (sb s) (a+1) d5)) with
 | true=>
  have hP':=a7Y (R:=R) h0' g40 gL gU hdg
  rw[hP'] at hP
  by_cases hdx:d5 x=true
  case' pos=>have FR:=hdx
  case' neg=>
   have hdx:d5 x=false:=by simpa using hdx
   rw[yT hx,hdx,qD,cF,vA hx,bK] at hdg
   have FR:((x.toNat:Int)=45)=True:=dC (by omega)
  all_goals
   by_cases h91:x.toNat=91
   case' pos=>
    have uT:((x.toNat:Int)=91)=True:=dC (by omega)
    have h93:cW (sb s) f 93=true:=by rw[vA hx,fQ h91,eU,←hf] at gL;simpa using gL
   case' neg=>
    have uT:((x.toNat:Int)=91)=False:=cK (by omega)
    have h93:=uT
   all_goals
    by_cases h65:65≤x.toNat
    case' pos=>
     have yK:((65:Int)≤(x.toNat:Int))=True:=dC (by omega)
     have CW:((x.toNat:Int)≤90)=False:=cK (by intro h;exact hU (by simp only[vT,cF,bK];omega))
    case' neg=>
     have yK:((65:Int)≤(x.toNat:Int))=False:=cK (by omega)
     have CW:=yK
   all_goals
    simp -implicitDefEqProofs only[yJ,CV,hix,FQ,uT,yK,CW,hw,bV,bX,aB,seval,lO]
    try
     refine(mD s f 93 _).to ?_
     rw[h93]
     simp -implicitDefEqProofs only[hix,yK,CW,bV,bX,aB,seval]
    refine(DH s a _).to ?_
    rw[yT hx]
   all_goals
    simp -implicitDefEqProofs only[hix,hdx,FR,hw,bV,aB,seval]
    try
     refine(DH s f _).to ?_
     rw[hf,hdg.2]
     simp -implicitDefEqProofs only[aB,seval]
    refine(aY1 s hs a ha _).to ?_
    cases hn:wZ (sb s) a with
    | none=>
     rw[hn] at hP
     subst hP
     simp -implicitDefEqProofs only[aO,cP,cU,DK,bV,aB,↓aU,seval,lO]
     refine(E8 a (by omega) _).to ?_
     simp -implicitDefEqProofs only[aK,cP,cU,cL,gI (cL _),gG (bG _),mT,aB,seval,lO]
     exact⟨BB (by omega),hD _⟩
    | some p=>
     obtain⟨n,e⟩:=p
     rw[hn] at hP
     subst hP
     have he0:((e:Int)<0)=False:=cK (by omega)
     simp -implicitDefEqProofs only[aK,bG,aO,cP,cU,cL,gI (cL _),gG (bG _),DK,he0,bX,aB,↓aU,seval,lO]
     exact⟨tO rfl,hD _⟩
 | false=>
  have hP':=a7X (R:=R) h0' g40 gL gU hdg
  rw[hP',←hd1] at hP
  rw[yT hx,Bool.or_eq_false_iff,vA hx,←hf] at hdg
  have hdx:=hdg.1
  by_cases h45:x.toNat=45
  case' pos=>
   have FR:((x.toNat:Int)=45)=True:=dC (by omega)
   have hfd:gP (sb s) f d5=false:=by have:=hdg.2;rwa [fQ h45,eU] at this
  case' neg=>
   have FR:((x.toNat:Int)=45)=False:=cK (by omega)
   have hfd:=FR
  all_goals
   by_cases h91:x.toNat=91
   case' pos=>
    have uT:((x.toNat:Int)=91)=True:=dC (by omega)
    have h93:cW (sb s) f 93=true:=by rw[vA hx,fQ h91,eU,←hf] at gL;simpa using gL
   case' neg=>
    have uT:((x.toNat:Int)=91)=False:=cK (by omega)
    have h93:=uT
   all_goals
    by_cases h65:65≤x.toNat
    case' pos=>
     have yK:((65:Int)≤(x.toNat:Int))=True:=dC (by omega)
     have CW:((x.toNat:Int)≤90)=False:=cK (by intro h;exact hU (by simp only[vT,cF,bK];omega))
    case' neg=>
     have yK:((65:Int)≤(x.toNat:Int))=False:=cK (by omega)
     have CW:=yK
   all_goals
    simp -implicitDefEqProofs only[yJ,CV,hix,FQ,uT,yK,CW,hw,bV,bX,aB,seval,lO]
    try
     refine(mD s f 93 _).to ?_
     rw[h93]
     simp -implicitDefEqProofs only[hix,yK,CW,bV,bX,aB,seval]
    refine(DH s a _).to ?_
    rw[yT hx]
   all_goals
    simp -implicitDefEqProofs only[hix,hdx,FR,hw,bV,bX,aB,seval]
    try
     refine(DH s f _).to ?_
     rw[hfd]
     simp -implicitDefEqProofs only[aB,seval]
    refine(SJ s hs a ha _).to ?_
    cases hn:qA (sb s) a with
    | none=>
     rw[hn] at hP
     subst hP
     simp -implicitDefEqProofs only[DI,bV,aB,seval]
     refine(E8 a (by omega) _).to ?_
     simp -implicitDefEqProofs only[aK,cP,cU,cL,gI (cL _),gG (bG _),mT,aB,seval,lO]
     exact⟨BB (by omega),hD _⟩
    | some p=>
     obtain⟨nm,e⟩:=p
     rw[hn] at hP
     simp only at hP
     have hel:=KL (by rw[cQ];exact ha) hn
     rw[cQ] at hel
     have he0:((e:Int)<0)=False:=cK (by omega)
     obtain⟨f2,hf2⟩:∃f2,f2=e+1:=⟨_,rfl⟩
     have hwe:=pN (x:=(e:Int)+1) (m:=f2) (by omega) (by omega)
     simp -implicitDefEqProofs only[DI,he0,bX,aB,seval]
     refine(mD s e 40 _).to ?_
     cases h4:cW (sb s) e 40 with
     | false=>
      rw[aH h4] at hP
      subst hP
      simp -implicitDefEqProofs only[aB,seval]
      refine(MR nm [] (by simp) _).to ?_
      simp -implicitDefEqProofs only[aK,cP,cU,cL,gI (cL _),gG (bG _),aB,seval,lO]
      exact⟨tO rfl,hD _⟩
     | true=>
      rw[aE (by simp [h4]),←hf2] at hP
      have h5:=p5 h4
      rw[cQ] at h5
      simp -implicitDefEqProofs only[hwd,hwe,aB,seval]
      refine(aBW (hR d1 (by omega)) (hok d1) hs f2 (by omega) (by omega) _ (c1:=41) (c2:=41)).mono ?_
      rintro r _ ⟨hr,rfl⟩
      cases hT:tV (R d1) (sb s) 41 41 ((sb s).length+1) f2 [] with
      | none=>
       rw[hT] at hr hP
       subst hP
       obtain⟨k,hk,rfl⟩:=hr
       have hk0:((-1 - (k:Int))<0)=True:=dC (by omega)
       simp -implicitDefEqProofs only[aK,hk0,bV,aB,seval,lO]
       exact⟨GW hk,hD _⟩
      | some p=>
       obtain⟨ts,e3⟩:=p
       rw[hT] at hr hP
       simp only[xN] at hr hP
       subst hr hP
       obtain⟨g1,g2,g3,g4,g5⟩:=P4 (hok d1) _ _ _ _ _ (by rw[cQ];omega) (by simp) hT
       rw[cQ] at g2
       have he3:((e3:Int)<0)=False:=cK (by omega)
       have hw3:=bE (n:=(e3:Int)+1)
       simp -implicitDefEqProofs only[aK,he3,hw3,bX,aB,seval,lO]
       exact⟨by rw[show(AV.agg [.int .i64 3,.int .i64 0,.str nm,.slice (ts.map Tm.av)])=(p7 nm ts).av from (bA ..).symm];exact tO rfl,hD _⟩
end Go.AW
