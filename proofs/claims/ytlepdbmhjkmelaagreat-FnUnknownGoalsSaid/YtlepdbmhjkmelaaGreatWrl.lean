import Derived.Test.YtlepdbmhjkmelaaGreatWrk
import Derived.Test.YtlepdbmhjkmelaaGreatWrj
import Derived.Test.YtlepdbmhjkmelaaGreatWrf
import Derived.Test.YtlepdbmhjkmelaaGreatWri
import Derived.Test.YtlepdbmhjkmelaaGreatWrh
import Derived.ProofKit
set_option linter.unusedSimpArgs false
set_option linter.unusedVariables false
set_option maxRecDepth 100000
namespace Go.AW
open Go.Proofs.Tryz
abbrev UR:Cl:=(tD,[])
def nZ(o:Option Cl):AV:=match o with | some c=>.tup [aX c,.bool true] | none=>.tup [aX UR,.bool false]
theorem jO:(AV.tup [.agg [.int .i64 0,.int .i64 0,.str ⟨#[]⟩,.fslice [],.fslice []],.bool false]).soft=nZ none:=by simp only[nZ,dH,iE,lI,gP,O5,iF,jH,b9,bJ]
theorem xX(c:Cl):(AV.tup [aX c,.bool true]).soft=nZ (some c):=by
 obtain⟨⟨k,n,s,ks⟩,ts⟩:=c
 simp only[nZ,dH,iE,lI,gP,O5,iF,oV,b9,bJ]
theorem mM{l:List UInt8}{c:Cl}{e:Nat}(h:kB l=some (c,e))(h1:¬(l.length≤1000∧e+1=l.length∧a6 l e 46=true∧sb (l8 c)=l)):iC l=none:=by
 unfold iC
 rw[h]
 simp only
 rw[aQ h1]
theorem zJ{l:List UInt8}{c:Cl}{e:Nat}(h:kB l=some (c,e))(h1:l.length≤1000∧e+1=l.length∧a6 l e 46=true∧sb (l8 c)=l):iC l=some c:=by
 unfold iC
 rw[h]
 simp only
 rw[a4 h1]
theorem zS{a b:ByteArray}(h:sb a=sb b):a=b:=by rw[←BI a,←BI b,h]
abbrev d6:=zi a7 (zi cC (zi gE (zi nU (zi bW (zi b8 (zi vW (zi bN gQ)))))))
set_option maxHeartbeats 2000000 in
theorem SR(s:ByteArray)(st:aA):aD prog 83 [.str s] st (fun r st'=>r=nZ (iC (sb s))∧st'=st):=by
 refine aD.done ?_
 refine wF [1000000,6] 1 func83 ntmps83 rfl rfl ?_
 intro _
 simp only[aB,seval,d6]
 intro b2 hb2
 have hD:=fun(o:AO)=>(aN.refl st).aC (o:=o) hb2
 by_cases hs:s.size≤1000
 case neg=>
  have hs':((1000:Int)<(s.size:Int))=True:=bM (by omega)
  have hP:iC (sb s)=none:=by
   unfold iC
   split
   · rfl
   · rw[aQ fun h=>hs (by rw[←a8];exact h.1)]
  rw[hP]
  simp only[aH,hs',aT,aB,seval,d6]
  exact⟨jO,hD _⟩
 have hs':((1000:Int)<(s.size:Int))=False:=a5 (by omega)
 have h0:=fun st=>CB hs 0 (iI _) st
 rw[show((0:Nat):Int)=0 from rfl] at h0
 simp only[hs',aZ,aB,seval]
 refine(h0 _).mono ?_
 rintro r _ ⟨hr,rfl⟩
 cases hRi:sV (sb s) 0 with
 | none=>
  have hP:iC (sb s)=none:=by unfold iC kB;rw[hRi]
  rw[hP]
  rw[hRi] at hr
  obtain⟨k,hk,rfl⟩:=hr
  have hk0:((-1 - (k:Int))<0)=True:=bM (by omega)
  simp only[aH,aO,bL,bV,hk0,fL,aT,aB,↓bD,seval,d6]
  exact⟨jO,hD _⟩
 | some p=>
  obtain⟨⟨hk,hn,hsn,hts⟩,e⟩:=p
  rw[hRi] at hr
  simp only[f0,bG] at hr
  subst hr
  obtain⟨g1,g2,g3⟩:=oT (by rw[a8];exact hs) _ _ _ 0 _ e (iI _) hRi
  rw[a8] at g2
  have he0:((e:Int)<0)=False:=a5 (by omega)
  obtain⟨f1,hf1⟩:∃f1,f1=e+1:=⟨_,rfl⟩
  obtain⟨f2,hf2⟩:∃f2,f2=e+2:=⟨_,rfl⟩
  have hw1:=hO (x:=(e:Int)+1) (m:=f1) (by omega) (by omega)
  have hw2:=hO (x:=(e:Int)+2) (m:=f2) (by omega) (by omega)
  simp only[aH,he0,aZ,aB,↓bD,seval,d6]
  intro b6 h6
  have hbb:b6≠b2:=fun h=>by rw[h,aA.aY] at h6;cases h6
  have h6':st b6=none:=by rwa [aA.bK _ _ hbb] at h6
  have hE:∀o1 o2 o3,aN (((st.aC b2 o1).aC b6 o2).aC b2 o3) st:=fun o1 o2 o3=>((hD _).aC h6').aC hb2
  refine(fB s e 58 _).to ?_
  by_cases hbd:(a6 (sb s) e 58&&a6 (sb s) (e+1) 45)=true
  case neg=>
   obtain⟨b,hb⟩:∃b:List Tm,b= []:=⟨_,rfl⟩
   have hcl:kB (sb s)=some ((.mk hk hn hsn hts,b),e):=by
    unfold kB
    rw[hRi,hb]
    simp only
    rw[aQ hbd]
   obtain⟨e2,he2⟩:∃e2,e2=e:=⟨_,rfl⟩
   rw[←he2] at hcl
   cases h58:a6 (sb s) e 58 with
   | false=>
    simp only[aB,seval,d6]
    rw[←he2]
    have hdn:=(uF (by rw[a8];exact hs) hcl).2.2
    have hwl:=bB (n:=(s.size:Int) - 1)
    by_cases he:e2+1=s.size
    case neg=>
     rw[mM hcl (fun h=>he (by rw[a8] at h;exact h.2.1))]
     have he':((e2:Int)=(s.size:Int) - 1)=False:=a5 (by omega)
     simp only[aH,hwl,he',hbb.symm,aZ,aB,seval,d6]
     exact⟨jO,hE _ _ _⟩
    have he':((e2:Int)=(s.size:Int) - 1)=True:=bM (by omega)
    simp only[hwl,he',aT,aB,seval]
    refine(fB s e2 46 _).to ?_
    cases hd:a6 (sb s) e2 46 with
    | false=>
     rw[mM hcl (fun h=>by rw[hd] at h;exact absurd h.2.2.1 (by decide))]
     simp only[aH,hbb.symm,aB,seval,d6]
     exact⟨jO,hE _ _ _⟩
    | true=>
     simp only[aB,seval,d6]
     refine(aD.kN (by rw[show dK [AV.agg [.int .i64 hk,.int .i64 hn,.str hsn,.slice (hts.map Tm.av),.fslice []]]= [aX (.mk hk hn hsn hts,b)] by simp only[dK,dH,hb,iE,gP,iF,oV,jH,b9,bJ]];exact xL (.mk hk hn hsn hts,b) _):aD prog 132 _ _ _).to ?_
     by_cases hf:l8 (.mk hk hn hsn hts,b)=s
     case neg=>
      rw[mM hcl (fun h=>hf (zS h.2.2.2))]
      have hf':=a5 hf
      simp only[aH,hf',hbb.symm,aZ,aB,seval,d6]
      exact⟨jO,hE _ _ _⟩
     rw[zJ hcl ⟨by rw[a8];exact hs,by rw[a8];exact he,hd,by rw[hf]⟩]
     have hf':=bM hf
     simp only[hf',aT,aB,seval,d6]
     refine(aD.kN (by rw[show dK [AV.agg [.int .i64 hk,.int .i64 hn,.str hsn,.slice (hts.map Tm.av),.fslice []]]= [aX (.mk hk hn hsn hts,b)] by simp only[dK,dH,hb,iE,gP,iF,oV,jH,b9,bJ]];exact xP (.mk hk hn hsn hts,b) hdn.1.2 (by have:=hdn.2.1;omega) (fun x hx=>(hdn.2.2 x hx).2) _):aD prog 62 _ _ _).to ?_
     rw[dH]
     simp only[aH,hbb.symm,aB,seval,d6]
     rw[←dH]
     exact⟨xX _,hE _ _ _⟩
   | true=>
    simp only[hw1,aB,seval]
    refine(fB s f1 45 _).to ?_
    rw[h58,dC,←hf1] at hbd
    rw[show a6 (sb s) f1 45=false by simpa using hbd]
    simp only[aB,seval,d6]
    rw[←he2]
    have hdn:=(uF (by rw[a8];exact hs) hcl).2.2
    have hwl:=bB (n:=(s.size:Int) - 1)
    by_cases he:e2+1=s.size
    case neg=>
     rw[mM hcl (fun h=>he (by rw[a8] at h;exact h.2.1))]
     have he':((e2:Int)=(s.size:Int) - 1)=False:=a5 (by omega)
     simp only[aH,hwl,he',hbb.symm,aZ,aB,seval,d6]
     exact⟨jO,hE _ _ _⟩
    have he':((e2:Int)=(s.size:Int) - 1)=True:=bM (by omega)
    simp only[hwl,he',aT,aB,seval]
    refine(fB s e2 46 _).to ?_
    cases hd:a6 (sb s) e2 46 with
    | false=>
     rw[mM hcl (fun h=>by rw[hd] at h;exact absurd h.2.2.1 (by decide))]
     simp only[aH,hbb.symm,aB,seval,d6]
     exact⟨jO,hE _ _ _⟩
    | true=>
     simp only[aB,seval,d6]
     refine(aD.kN (by rw[show dK [AV.agg [.int .i64 hk,.int .i64 hn,.str hsn,.slice (hts.map Tm.av),.fslice []]]= [aX (.mk hk hn hsn hts,b)] by simp only[dK,dH,hb,iE,gP,iF,oV,jH,b9,bJ]];exact xL (.mk hk hn hsn hts,b) _):aD prog 132 _ _ _).to ?_
     by_cases hf:l8 (.mk hk hn hsn hts,b)=s
     case neg=>
      rw[mM hcl (fun h=>hf (zS h.2.2.2))]
      have hf':=a5 hf
      simp only[aH,hf',hbb.symm,aZ,aB,seval,d6]
      exact⟨jO,hE _ _ _⟩
     rw[zJ hcl ⟨by rw[a8];exact hs,by rw[a8];exact he,hd,by rw[hf]⟩]
     have hf':=bM hf
     simp only[hf',aT,aB,seval,d6]
     refine(aD.kN (by rw[show dK [AV.agg [.int .i64 hk,.int .i64 hn,.str hsn,.slice (hts.map Tm.av),.fslice []]]= [aX (.mk hk hn hsn hts,b)] by simp only[dK,dH,hb,iE,gP,iF,oV,jH,b9,bJ]];exact xP (.mk hk hn hsn hts,b) hdn.1.2 (by have:=hdn.2.1;omega) (fun x hx=>(hdn.2.2 x hx).2) _):aD prog 62 _ _ _).to ?_
     rw[dH]
     simp only[aH,hbb.symm,aB,seval,d6]
     rw[←dH]
     exact⟨xX _,hE _ _ _⟩
  rw[bX,←hf1] at hbd
  have XB:=hY hbd.2
  rw[a8] at XB
  rw[hbd.1]
  simp only[hw1,aB,seval]
  refine(fB s f1 45 _).to ?_
  rw[hbd.2]
  simp only[hw2,aB,seval]
  refine(T0 hs f2 (by omega) _).mono ?_
  rintro r _ ⟨hr,rfl⟩
  cases hG:mB (sb s) 7 f2 [] with
  | none=>
   have hP:iC (sb s)=none:=by
    unfold iC kB
    rw[hRi]
    simp only
    rw[a4 (by rw[←hf1,hbd.1,hbd.2];try rfl),←hf2,hG]
   rw[hP]
   rw[hG] at hr
   simp only[lQ] at hr
   subst hr
   have hwl:=bB (n:=(s.size:Int) - 1)
   have he':((-1:Int)=(s.size:Int) - 1)=False:=a5 (by omega)
   simp only[aH,hwl,he',hbb.symm,aZ,aB,seval,d6]
   exact⟨jO,hE _ _ _⟩
  | some p=>
   obtain⟨b,e2⟩:=p
   rw[hG] at hr
   simp only[lQ] at hr
   subst hr
   have hcl:kB (sb s)=some ((.mk hk hn hsn hts,b),e2):=by
    unfold kB
    rw[hRi]
    simp only
    rw[a4 (by rw[←hf1,hbd.1,hbd.2];try rfl),←hf2,hG]
   have hg2:=NF (by rw[a8];exact hs) _ _ _ _ _ (by rw[a8];omega) (by simp) hG
   rw[a8] at hg2
   simp only[aH,aB,seval,d6]
   have hdn:=(uF (by rw[a8];exact hs) hcl).2.2
   have hwl:=bB (n:=(s.size:Int) - 1)
   by_cases he:e2+1=s.size
   case neg=>
    rw[mM hcl (fun h=>he (by rw[a8] at h;exact h.2.1))]
    have he':((e2:Int)=(s.size:Int) - 1)=False:=a5 (by omega)
    simp only[aH,hwl,he',hbb.symm,aZ,aB,seval,d6]
    exact⟨jO,hE _ _ _⟩
   have he':((e2:Int)=(s.size:Int) - 1)=True:=bM (by omega)
   simp only[hwl,he',aT,aB,seval]
   refine(fB s e2 46 _).to ?_
   cases hd:a6 (sb s) e2 46 with
   | false=>
    rw[mM hcl (fun h=>by rw[hd] at h;exact absurd h.2.2.1 (by decide))]
    simp only[aH,hbb.symm,aB,seval,d6]
    exact⟨jO,hE _ _ _⟩
   | true=>
    simp only[aB,seval,d6]
    refine(aD.kN (by rw[show dK [AV.agg [.int .i64 hk,.int .i64 hn,.str hsn,.slice (hts.map Tm.av),.slice (b.map Tm.av)]]= [aX (.mk hk hn hsn hts,b)] by simp only[dK,dH,AV.soft]];exact xL (.mk hk hn hsn hts,b) _):aD prog 132 _ _ _).to ?_
    by_cases hf:l8 (.mk hk hn hsn hts,b)=s
    case neg=>
     rw[mM hcl (fun h=>hf (zS h.2.2.2))]
     have hf':=a5 hf
     simp only[aH,hf',hbb.symm,aZ,aB,seval,d6]
     exact⟨jO,hE _ _ _⟩
    rw[zJ hcl ⟨by rw[a8];exact hs,by rw[a8];exact he,hd,by rw[hf]⟩]
    have hf':=bM hf
    simp only[hf',aT,aB,seval,d6]
    refine(aD.kN (by rw[show dK [AV.agg [.int .i64 hk,.int .i64 hn,.str hsn,.slice (hts.map Tm.av),.slice (b.map Tm.av)]]= [aX (.mk hk hn hsn hts,b)] by simp only[dK,dH,AV.soft]];exact xP (.mk hk hn hsn hts,b) hdn.1.2 (by have:=hdn.2.1;omega) (fun x hx=>(hdn.2.2 x hx).2) _):aD prog 62 _ _ _).to ?_
    rw[dH]
    simp only[aH,hbb.symm,aB,seval,d6]
    rw[←dH]
    exact⟨xX _,hE _ _ _⟩
abbrev nT:=zi a7 (zi b8 (zi bN gQ))
theorem TW(k n:Int)(s:ByteArray)(ks ts:List Tm)(h1:(Tm.mk k n s ks).small=true)(h2:ts.length≤1048576)(h3:∀x∈ts,x.small=true)(st:aA):aD prog 62 [aX (.mk k n s ks,ts)] st (fun r st'=>∃b,r=.agg [.int .i64 k,.int .i64 n,.str s,.slice (ks.map Tm.av),aP 4 b (ts.map Tm.av)]∧st'=aU st b (ts.map Tm.av)∧(ts.map Tm.av≠[]→st b=none)):=by
 have hhd:=fun st=>oA (.mk k n s ks) st h1
 simp only[bG] at hhd
 have IH:=fun(x:Tm) (hx:x∈ts) st=>oA x st (h3 x hx)
 have hlen:ts.length≤1048576:=h2
 refine aD.oE ?_
 simp only[dH]
 refine wF [] 1 func62 ntmps62 rfl rfl ?_
 simp only[cS,AV.fits,dV,aF]
 intro ⟨_,_,_,_,hl,_⟩
 simp only[aB,seval,nT]
 intro b2 hb2
 refine(hhd _).to ?_
 simp only[aH,aB,seval,nT]
 intro c hc
 have hne:c≠b2:=by rintro rfl;rw[aA.aY] at hc;cases hc
 have hn2:st c=none:=by rw[aA.bK st _ hne] at hc;exact hc
 have g7:b2≠c:=dQ hne
 refine eV (σ:=Nat) [] [1,2,3] ts (fun i b=>(((ts.take i).map (fun y=>y)).map Tm.av≠[]→(aA.aC (st.aC b2 (.cells [AV.int .i64 0,AV.int .i64 0,AV.str ⟨#[]⟩,AV.fslice [],AV.fslice []])) c (.cells ([AV.int .i64 k,AV.int .i64 n,AV.str s,AV.slice (ks.map Tm.av)]++ [aP 4 b (((ts.take i).map (fun y=>y)).map Tm.av)]))) b=none)) (fun i b=>[(4,.int .i64 i)]) (fun i b=>dB (st.aC b2 (.cells [AV.int .i64 0,AV.int .i64 0,AV.str ⟨#[]⟩,AV.fslice [],AV.fslice []])) c b [AV.int .i64 k,AV.int .i64 n,AV.str s,AV.slice (ks.map Tm.av)] (((ts.take i).map (fun y=>y)).map Tm.av)) (by decide +kernel)
  ⟨0,fun h=>absurd rfl h,aL.mk (by simp only[aB,↓bD,seval])⟩ (fun i x b hx hlt bY hdr hinv=>?_) (fun b hge hinv=>?_)
 case refine_1=>
  have hw:=bB (n:=(i:Int)+1)
  have cO:(((ts.take i).map (fun y=>y)).map Tm.av).length=i:=by simp only[aF,d7];omega
  have htk:(ts.take (i+1)).map (fun y=>y)=(ts.take i).map (fun y=>y)++ [(fun y=>y) x]:=by rw[fE,hx];simp
  have hbo:=c6 hinv
  simp only[aF,bY,aB,seval,nT]
  refine wP [(0,1),(2,1),(4,1),(1,2),(3,2),(5,1),(6,2),(7,2),(8,1),(9,0),(10,1),(11,0)] [0,2,4,1,3,5,6,7,8,10] mixed ?_
  simp only[cI (av:=Tm.av) cH hx (aO x),aR,aO,hbo,jN,fF,aB,seval,nT]
  refine iU (IH x (dD hx) _) ?_
  simp only[aR,aO,bV,fF,aB,seval,nT]
  refine eJ cH fT fU rfl rfl (eS (aO _) (bL _)) (c7 _) hinv (by simp only[cO,bE,bO];omega) (by simp only[cO,bE,bO];omega) (fun b' hb'=>?_)
  rw[show(((ts.take i).map (fun y=>y)).map Tm.av)++ [((fun y=>y) x).av]=((ts.take (i+1)).map (fun y=>y)).map Tm.av by rw[htk];simp] at hb' ⊢
  obtain⟨g1,g2,g3⟩:=lF hb'
  simp only[dZ,dR] at g1 g3
  simp only[g3,j8,dN,aH,g1,hw,aH,aB,seval,nT]
  exact⟨b',g2,aL.mk (by simp only[aB,seval])⟩
 have hbo:=c6 hinv
 rw[eE] at hinv hbo ⊢
 simp only[aF,hge,aB,seval,nT]
 simp only[hbo,aH,aB,seval,nT]
 have hS:(st.aC b2 (.cells [AV.int .i64 0,AV.int .i64 0,AV.str ⟨#[]⟩,AV.fslice [],AV.fslice []])) b2≠none:=by rw[aA.aY];simp
 have h1:=eU hinv hS g7
 rw[aA.aY] at h1
 simp only[h1,dN,aB,seval]
 obtain⟨h2,h3⟩:=gN (o:=.cells [AV.int .i64 k,AV.int .i64 n,AV.str s,AV.slice (ks.map Tm.av),aP 4 b ((ts.map fun y=>y).map Tm.av)]) hinv hS g7
 simp only[dZ,dR] at h2 h3
 rw[h2]
 have D:∀o o' o'',aN (((st.aC b2 o).aC c o').aC b2 o'') st:=fun o o' o''=>(((aN.refl _).aC hb2).aC hn2).aC hb2
 simp only[List.map_id'] at h3 ⊢
 exact⟨_,CS (D _ _ _),b,rfl,rfl,fun h=>(D _ _ _ b).1 (h3 h)⟩
abbrev hH:=zi a7 (zi bW (zi b8 (zi bN (zi gQ (zi kP (zi iT aAB))))))
set_option maxHeartbeats 2000000 in
theorem T6(bs:List Bt)(c p:Nat)(cl:Cl)(hcl:k9 cl)(st:aA)(hp:p+6000≤1099511627776)(hR:bZ st c bs p) :
 aD prog 84 [.ptr c 0,aX cl] st (Dr bs c p 6000 st (fun r=>∃cl':Cl,r=aX cl')):=by
 obtain⟨⟨k,n,s,ks⟩,ts⟩:=cl
 obtain⟨d1,d2,d3⟩:=hcl
 simp only at d1 d2 d3
 have hcp:=fun st=>TW k n s ks ts d1.2 (by omega) (fun x hx=>(d3 x hx).2) st
 simp only[dH] at hcp ⊢
 refine aD.oE (aD.fin ?_)
 refine wF [1000000,5] 2 func84 ntmps84 rfl rfl ?_
 intro _
 simp only[aB,seval,hH]
 intro b4 h4
 have h4c:=hR.ne h4
 have hR':=fun o=>hR.aC (o:=o) h4c
 refine(hcp _).mono ?_
 rintro _ _ ⟨b,rfl,rfl,hb⟩
 simp only[dN,aH,aB,↓bD,seval,hH]
 intro b5 h5
 obtain⟨hn5,hb5⟩:=BC h5
 have h54:b5≠b4:=by rintro rfl;rw[aA.aY] at hn5;cases hn5
 have yT:st b5=none:=by rw[aA.bK _ _ h54] at hn5;exact hn5
 have h5c:b5≠c:=hR.ne yT
 have hW4:∀q,((st.aC b4 (.cells [.int .i64 0,.int .i64 0,.str ⟨#[]⟩,.fslice [],.fslice []])).aC c (aV bs q)) b4=some (.cells [.int .i64 0,.int .i64 0,.str ⟨#[]⟩,.fslice [],.fslice []]):=fun q=>by rw[aA.bK _ _ h4c,aA.aY]
 have hdr:∀q Z Y,aN ((((st.aC b4 (.cells [.int .i64 0,.int .i64 0,.str ⟨#[]⟩,.fslice [],.fslice []])).aC c (aV bs q)).aC b5 Z).aC b4 Y) (st.aC c (aV bs q)):=fun q Z Y x=>by
  by_cases e4:x=b4<;>by_cases ec:x=c<;>by_cases e5:x=b5<;>simp_all [aA.aC]
 have e0:(aU (st.aC b4 (.cells [.int .i64 0,.int .i64 0,.str ⟨#[]⟩,.fslice [],.fslice []])) b (ts.map Tm.av)).aC b5 (.cells [.int .i64 k,.int .i64 n,.str s,.slice (ks.map Tm.av),aP 4 b (ts.map Tm.av)])=dB (st.aC b4 (.cells [.int .i64 0,.int .i64 0,.str ⟨#[]⟩,.fslice [],.fslice []])) b5 b [.int .i64 k,.int .i64 n,.str s,.slice (ks.map Tm.av)] (ts.map Tm.av):=by
  rw[lZ hb5];try rfl
 have i0:ts.map Tm.av≠[]→((st.aC b4 (.cells [.int .i64 0,.int .i64 0,.str ⟨#[]⟩,.fslice [],.fslice []])).aC b5 (.cells ([.int .i64 k,.int .i64 n,.str s,.slice (ks.map Tm.av)]++ [aP 4 b (ts.map Tm.av)]))) b=none:=fun h=>by
  rw[aA.bK _ _ (dQ (hb5 h))];exact hb h
 have hUc:(st.aC b4 (.cells [.int .i64 0,.int .i64 0,.str ⟨#[]⟩,.fslice [],.fslice []])) c≠none:=by rw[hR' _];simp
 rw[e0]
 have hRk:bZ (dB (st.aC b4 (.cells [.int .i64 0,.int .i64 0,.str ⟨#[]⟩,.fslice [],.fslice []])) b5 b [.int .i64 k,.int .i64 n,.str s,.slice (ks.map Tm.av)] (ts.map Tm.av)) c bs p:=by
  unfold bZ
  rw[eU i0 hUc h5c.symm]
  exact hR' _
 refine(iL bs c p (by omega) 40 (by omega) (by omega) _ hRk).mono ?_
 rintro _ _ ⟨j,hj,rfl,rfl⟩
 obtain⟨e1,i1⟩:=kI (o:=aV bs (p+1)) i0 hUc h5c.symm
 rw[e1]
 have hWc:∀q,((st.aC b4 (.cells [.int .i64 0,.int .i64 0,.str ⟨#[]⟩,.fslice [],.fslice []])).aC c (aV bs q)) c≠none:=fun q=>by rw[aA.aY];simp
 have hRq:∀q (hd l:List AV),(l≠[]→(((st.aC b4 (.cells [.int .i64 0,.int .i64 0,.str ⟨#[]⟩,.fslice [],.fslice []])).aC c (aV bs q)).aC b5 (.cells (hd++ [aP 4 b l]))) b=none)→bZ (dB ((st.aC b4 (.cells [.int .i64 0,.int .i64 0,.str ⟨#[]⟩,.fslice [],.fslice []])).aC c (aV bs q)) b5 b hd l) c bs q:=fun q hd l hi=>by
  unfold bZ
  rw[eU hi (hWc q) h5c.symm,aA.aY]
  try rfl
 clear e0 i0 hRk e1
 simp only[aB,seval]
 refine bC (fun h0=>?_) (fun h0=>?_)
 · simp only[aB,seval]
   refine(B3 bs c (p+1) _ (by omega) (hRq _ _ _ i1)).mono ?_
   rintro _ _ ⟨p1,q1,q2,rfl,t1,ht1,rfl⟩
   obtain⟨e1,i1⟩:=kI (o:=aV bs p1) i1 (hWc _) h5c.symm
   rw[cF] at e1 i1
   rw[e1]
   simp only[aB,seval]
   refine(B0 bs c p1 t1 ht1.2 _ (by omega) (hRq _ _ _ i1)).mono ?_
   rintro _ _ ⟨p2,r1,r2,rfl,⟨k',n',s',ks'⟩,rfl⟩
   obtain⟨e1,i1⟩:=kI (o:=aV bs p2) i1 (hWc _) h5c.symm
   rw[cF] at e1 i1
   rw[e1]
   have hbo:=c6 i1
   obtain⟨e2,i1⟩:=sM (hd':=[.int .i64 k',.int .i64 n',.str s',.slice (ks'.map Tm.av)]) i1
   simp only[dZ,dR] at e2
   rw[bG]
   simp only[aH,hbo,aB,seval,hH]
   rw[e2]
   have hbo:=c6 i1
   have h4o:=eU i1 (x:=b4) (by rw[hW4];simp) h54.symm
   rw[hW4] at h4o
   simp only[h4o,dN,aB,seval]
   obtain⟨g5,g6⟩:=gN (o:=.cells [.int .i64 (k'),.int .i64 (n'),.str (s'),.slice ((ks').map Tm.av),aP 4 b ((ts).map Tm.av)]) i1 (show((st.aC b4 (.cells [.int .i64 0,.int .i64 0,.str ⟨#[]⟩,.fslice [],.fslice []])).aC c (aV bs (p2))) b4≠none by rw[hW4];simp) h54.symm
   refine⟨b,_,_,g5,g6,fC _,⟨4,c7 _⟩,st.aC c (aV bs (p2)),hdr _ _ _,p2,by omega,by omega,rfl,(.mk (k') (n') (s') (ks'),ts),?_⟩
   simp only[gZ,b9,bJ,eR,gK,nE,fJ,dH]
 simp only[aB,seval]
 refine bC (fun h0=>?_) (fun h0=>?_)
 · have hbo:=c6 i1
   simp only[aB,seval]
   refine q9 [(0,1),(1,1),(2,1),(3,1),(4,0),(5,0),(6,1),(7,0),(8,1),(9,2)] [0,1,2,3,6,8] (g9.aC b5 (.cells [.int .i64 k,.int .i64 n,.str s,.slice (ks.map Tm.av),aP 4 b (ts.map Tm.av)])) mixed (by decide +kernel) (by decide +kernel) (by decide +kernel) rfl (iM hbo) ?_
   simp only[jN,aB,seval,hH]
   refine(B3 bs c (p+1) _ (by omega) (hRq _ _ _ i1)).mono ?_
   rintro _ _ ⟨p1,q1,q2,rfl,t1,ht1,rfl⟩
   obtain⟨e1,i1⟩:=kI (o:=aV bs p1) i1 (hWc _) h5c.symm
   rw[cF] at e1 i1
   rw[e1]
   have hbo:=c6 i1
   simp only[aB,seval]
   refine⟨iM hbo,?_⟩
   refine(B0 bs c p1 t1 ht1.2 _ (by omega) (hRq _ _ _ i1)).mono ?_
   rintro _ _ ⟨p2,r1,r2,rfl,t2,rfl⟩
   obtain⟨e1,i1⟩:=kI (o:=aV bs p2) i1 (hWc _) h5c.symm
   rw[cF] at e1 i1
   rw[e1]
   have hbo:=c6 i1
   simp only[aR,aO,bV,aB,seval,hH]
   refine⟨iM hbo,?_⟩
   refine eJ cH fT fU rfl rfl (eS (aO _) (bL _)) (c7 _) i1 (by simp only[aF,bE,bO];omega) (by simp only[aF,bE,bO];omega) (fun b' hb'=>?_)
   rw[show ts.map Tm.av++ [t2.av]=(ts++ [t2]).map Tm.av by simp] at hb' ⊢
   obtain⟨g1,g2,g3⟩:=lF hb'
   simp only[dZ,dR] at g1 g3
   simp only[aH,dN,j8,aB,seval,hH]
   refine⟨iM g3,?_⟩
   simp only[g3,g1,aH,dN,aB,seval,hH]
   have hbo:=c6 g2
   have h4o:=eU g2 (x:=b4) (by rw[hW4];simp) h54.symm
   rw[hW4] at h4o
   simp only[h4o,aB,seval]
   obtain⟨g5,g6⟩:=gN (o:=.cells [.int .i64 (k),.int .i64 (n),.str (s),.slice ((ks).map Tm.av),aP 4 b' ((ts++ [t2]).map Tm.av)]) g2 (show((st.aC b4 (.cells [.int .i64 0,.int .i64 0,.str ⟨#[]⟩,.fslice [],.fslice []])).aC c (aV bs (p2))) b4≠none by rw[hW4];simp) h54.symm
   refine⟨b',_,_,g5,g6,fC _,⟨4,c7 _⟩,st.aC c (aV bs (p2)),hdr _ _ _,p2,by omega,by omega,rfl,(.mk (k) (n) (s) (ks),ts++ [t2]),?_⟩
   simp only[gZ,b9,bJ,eR,gK,nE,fJ,dH]
 simp only[aB,seval]
 refine bC (fun h0=>?_) (fun h0=>?_)
 · simp only[aB,seval]
   refine fY (σ:=Nat×List Tm) [1000000,5] [0,4,5,9] (fun x=>(x.2.map Tm.av≠[]→(aA.aC ((st.aC b4 (.cells [.int .i64 0,.int .i64 0,.str ⟨#[]⟩,.fslice [],.fslice []])).aC c (aV bs (p+1))) b5 (.cells ([.int .i64 k,.int .i64 n,.str s,.slice (ks.map Tm.av)]++ [aP 4 x.1 (x.2.map Tm.av)]))) x.1=none)) (fun _=>[]) (fun x=>dB ((st.aC b4 (.cells [.int .i64 0,.int .i64 0,.str ⟨#[]⟩,.fslice [],.fslice []])).aC c (aV bs (p+1))) b5 x.1 [.int .i64 k,.int .i64 n,.str s,.slice (ks.map Tm.av)] (x.2.map Tm.av)) (fun x=>7 - x.2.length) (by decide +kernel) ⟨(b,ts),i1,aL.mk (by simp only[aB,seval])⟩ ?_
   rintro⟨b,acc⟩ i1
   simp only at i1
   have hbo:=c6 i1
   have haL:=tZ (w:=4) (b:=b) (l:=acc.map Tm.av) AN
   simp only[hbo,jN,haL,aF,aB,seval,hH]
   refine bC (fun h1=>?_) (fun h1=>?_)
   · simp only[a9] at h1
     have cO:(acc.map Tm.av).length≤6:=by rw[aF];omega
     simp only[aB,seval]
     refine q9 [(0,1),(1,1),(2,0),(3,1),(4,0),(5,1),(6,2)] [0,1,3,5] (g9.aC b5 (.cells [.int .i64 k,.int .i64 n,.str s,.slice (ks.map Tm.av),aP 4 b (acc.map Tm.av)])) mixed (by decide +kernel) (by decide +kernel) (by decide +kernel) rfl (iM hbo) ?_
     simp only[jN,aB,seval,hH]
     refine(k8 ⟨#[116,114,117,101]⟩ [] (by simp) _).to ?_
     simp only[aR,aO,bV,aB,seval,hH]
     refine⟨iM hbo,?_⟩
     refine eJ cH fT fU rfl rfl (eS (aO _) (bL _)) (c7 _) i1 (by simp only[bE,bO];omega) (by simp only[bE,bO];omega) (fun b' hb'=>?_)
     rw[show acc.map Tm.av++ [(Tm.mk 3 0 ⟨#[116,114,117,101]⟩ []).av]=(acc++ [Tm.mk 3 0 ⟨#[116,114,117,101]⟩ []]).map Tm.av by simp] at hb' ⊢
     obtain⟨g1,g2,g3⟩:=lF hb'
     simp only[dZ,dR] at g1 g3
     simp only[aH,dN,j8,aB,seval,hH]
     refine⟨iM g3,?_⟩
     simp only[g3,g1,aB,seval]
     refine⟨(b',acc++ [Tm.mk 3 0 ⟨#[116,114,117,101]⟩ []]),by simp only[dM,bE,bO];omega,g2,aL.mk (by simp only[aB,seval])⟩
   · simp only[aH,hbo,dN,aB,seval,hH]
     have hbo:=c6 i1
     have h4o:=eU i1 (x:=b4) (by rw[hW4];simp) h54.symm
     rw[hW4] at h4o
     simp only[h4o,aB,seval]
     obtain⟨g5,g6⟩:=gN (o:=.cells [.int .i64 (k),.int .i64 (n),.str (s),.slice ((ks).map Tm.av),aP 4 b ((acc).map Tm.av)]) i1 (show((st.aC b4 (.cells [.int .i64 0,.int .i64 0,.str ⟨#[]⟩,.fslice [],.fslice []])).aC c (aV bs (p+1))) b4≠none by rw[hW4];simp) h54.symm
     refine⟨b,_,_,g5,g6,fC _,⟨4,c7 _⟩,st.aC c (aV bs (p+1)),hdr _ _ _,p+1,by omega,by omega,rfl,(.mk (k) (n) (s) (ks),acc),?_⟩
     simp only[gZ,b9,bJ,eR,gK,nE,fJ,dH]
 simp only[aB,seval]
 refine bC (fun h0=>?_) (fun h0=>?_)
 · simp only[aB,seval,hH]
   refine(rV [⟨#[116,114,117,101]⟩,⟨#[105,115]⟩,⟨#[61]⟩,⟨#[109,111,100]⟩,⟨#[113]⟩] (by simp) (by simp) bs c (p+1) (by omega) _ (hRq _ _ _ i1)).mono ?_
   rintro _ _ ⟨y,_,rfl,rfl⟩
   obtain⟨e1,i1⟩:=kI (o:=aV bs (p+1+1)) i1 (hWc _) h5c.symm
   rw[cF] at e1 i1
   rw[e1]
   have hbo:=c6 i1
   obtain⟨e2,i1⟩:=sM (hd':=[.int .i64 k,.int .i64 n,.str y,.slice (ks.map Tm.av)]) i1
   simp only[dZ,dR] at e2
   simp only[aH,hbo,aB,seval,hH]
   rw[e2]
   have hbo:=c6 i1
   have h4o:=eU i1 (x:=b4) (by rw[hW4];simp) h54.symm
   rw[hW4] at h4o
   simp only[h4o,dN,aB,seval]
   obtain⟨g5,g6⟩:=gN (o:=.cells [.int .i64 (k),.int .i64 (n),.str (y),.slice ((ks).map Tm.av),aP 4 b ((ts).map Tm.av)]) i1 (show((st.aC b4 (.cells [.int .i64 0,.int .i64 0,.str ⟨#[]⟩,.fslice [],.fslice []])).aC c (aV bs (p+1+1))) b4≠none by rw[hW4];simp) h54.symm
   refine⟨b,_,_,g5,g6,fC _,⟨4,c7 _⟩,st.aC c (aV bs (p+1+1)),hdr _ _ _,p+1+1,by omega,by omega,rfl,(.mk (k) (n) (y) (ks),ts),?_⟩
   simp only[gZ,b9,bJ,eR,gK,nE,fJ,dH]
 · simp only[aB,seval,hH]
   have hbo:=c6 i1
   have h4o:=eU i1 (x:=b4) (by rw[hW4];simp) h54.symm
   rw[hW4] at h4o
   simp only[aH,hbo,h4o,dN,aB,seval,hH]
   obtain⟨g5,g6⟩:=gN (o:=.cells [.int .i64 (k),.int .i64 (n),.str (s),.slice ((ks).map Tm.av),aP 4 b ((ts).map Tm.av)]) i1 (show((st.aC b4 (.cells [.int .i64 0,.int .i64 0,.str ⟨#[]⟩,.fslice [],.fslice []])).aC c (aV bs (p+1))) b4≠none by rw[hW4];simp) h54.symm
   refine⟨b,_,_,g5,g6,fC _,⟨4,c7 _⟩,st.aC c (aV bs (p+1)),hdr _ _ _,p+1,by omega,by omega,rfl,(.mk (k) (n) (s) (ks),ts),?_⟩
   simp only[gZ,b9,bJ,eR,gK,nE,fJ,dH]
end Go.AW
namespace Go.AW
def wA:List ByteArray:=[⟨#[97,112,112,40,91,93,44,65,44,65,41,46,10,97,112,112,40,91,65,124,66,93,44,67,44,91,65,124,68,93,41,58,45,97,112,112,40,66,44,67,44,68,41,46,10]⟩,
 ⟨#[109,101,109,40,65,44,91,65,124,66,93,41,46,10,109,101,109,40,65,44,91,66,124,67,93,41,58,45,109,101,109,40,65,44,67,41,46,10]⟩,
 ⟨#[112,40,49,41,46,10,112,40,50,41,46,10,112,40,51,41,46,10,113,40,65,41,58,45,112,40,65,41,44,65,62,49,44,33,46,10,114,40,65,44,66,41,58,45,112,40,65,41,44,112,40,66,41,46,10]⟩,
 ⟨#[108,101,110,40,91,93,44,48,41,46,10,108,101,110,40,91,65,124,66,93,44,67,41,58,45,108,101,110,40,66,44,68,41,44,67,32,105,115,32,68,43,49,46,10]⟩,
 ⟨#[109,97,120,40,65,44,66,44,65,41,58,45,65,62,61,66,44,33,46,10,109,97,120,40,65,44,66,44,66,41,46,10]⟩,
 ⟨#[101,40,97,44,98,41,46,10,101,40,98,44,99,41,46,10,101,40,99,44,100,41,46,10,116,40,65,44,66,41,58,45,101,40,65,44,66,41,46,10,116,40,65,44,66,41,58,45,101,40,65,44,67,41,44,116,40,67,44,66,41,46,10]⟩,
 ⟨#[108,111,111,112,58,45,108,111,111,112,46,10,111,107,46,10]⟩,
 ⟨#[102,97,99,40,48,44,49,41,58,45,33,46,10,102,97,99,40,65,44,66,41,58,45,65,62,48,44,67,32,105,115,32,65,45,49,44,102,97,99,40,67,44,68,41,44,66,32,105,115,32,65,42,68,46,10]⟩,
 ⟨#[115,40,65,41,58,45,65,61,102,40,66,41,44,97,114,103,40,49,44,65,44,66,41,44,66,61,49,46,10,115,40,65,41,58,45,118,97,114,40,65,41,44,65,61,110,111,110,101,46,10]⟩,
 ⟨#[114,101,118,40,91,93,44,65,44,65,41,46,10,114,101,118,40,91,65,124,66,93,44,67,44,68,41,58,45,114,101,118,40,66,44,91,65,124,67,93,44,68,41,46,10]⟩,
 ⟨#[98,97,100,40,65,41,58,45,66,32,105,115,32,65,43,102,111,111,44,67,61,66,46,10,98,105,103,40,65,41,58,45,65,32,105,115,32,57,57,57,43,49,46,10,117,110,40,65,41,58,45,110,111,115,117,99,104,40,65,41,46,10]⟩]
def zH(s:ByteArray):Bool:=decide (s.size≤200)&&match jG (sb s) with | some l=>decide (2≤l.length)&&decide (l.length≤20) | none=>false
theorem aAK:wA.all zH=true:=by decide +kernel
end Go.AW
namespace Go.AW
open Go.Proofs.Tryz
def fV(p:List UInt8):AV:=.str (ba p)
theorem OP(l:List (List UInt8)):∀e∈l.map fV,e.width=1:=by intro e h;simp only[gR] at h;obtain⟨t,_,rfl⟩:=h;rfl
theorem YV(l:List (List UInt8)):∀e∈l.map fV,e.bA=false:=by intro e h;simp only[gR] at h;obtain⟨t,_,rfl⟩:=h;rfl
abbrev tA:=zi a7 (zi gE (zi bW iT))
set_option maxHeartbeats 1000000 in
theorem S4(s:ByteArray)(c:Nat)(hs:s.size≤1048576)(st:aA):aD prog 82 [.str s,.int .u8 (c:Int)] st (fun r st'=>r=.slice ((gW c (sb s) []).map fV)∧st'=st):=by
 generalize hT:gW c (sb s) []=T
 refine aD.oD (aD.fin ?_)
 refine wF [1000000] 2 func82 ntmps82 rfl rfl ?_
 intro _
 simp only[aB,seval,tA]
 refine fY (σ:=List (List UInt8)×Nat×Nat×Nat) [1000000] [0,1,4] (fun x=>((x.2.2.1≤s.size∧x.2.1≤x.2.2.1∧x.1++gW c ((sb s).drop x.2.2.1) (((sb s).drop x.2.1).take (x.2.2.1 - x.2.1))=T)∨(x.2.2.1=s.size+1∧x.2.1≤s.size+1∧x.1=T))∧x.1.length≤x.2.2.1∧(x.1.map fV≠[]→st x.2.2.2=none)) (fun x=>[(5,aP 1 x.2.2.2 (x.1.map fV)),(6,.int .i64 (x.2.1:Int)),(7,.int .i64 (x.2.2.1:Int))]) (fun x=>aU st x.2.2.2 (x.1.map fV)) (fun x=>s.size+1 - x.2.2.1) (by decide +kernel) ⟨([],0,0,0),⟨Or.inl ⟨iI _,c9 _,hT⟩,iI _,by simp⟩,aL.mk (by simp only[bJ,i7,aB,↓bD,seval])⟩ ?_
 rintro⟨out,f,i,b⟩ ⟨ht,hlen,hb⟩
 simp only at ht hlen hb ⊢
 by_cases hi:i≤s.size
 case neg=>
  obtain⟨h1,h2,rfl⟩:i=s.size+1∧f≤s.size+1∧out=T:=by
   rcases ht with h | h
   · exact absurd h.1 hi
   · exact h
  have hi':((i:Int)≤(s.size:Int))=False:=a5 (by omega)
  simp only[hi',aZ,aB,seval,tA]
  exact⟨b,_,st,rfl,hb,YV _,⟨1,OP _⟩,by rw[fJ],aN.refl _⟩
 obtain⟨-,hfi,ht⟩:i≤s.size∧f≤i∧out++gW c ((sb s).drop i) (((sb s).drop f).take (i - f))=T:=by
  rcases ht with h | h
  · exact h
  · omega
 have hi':((i:Int)≤(s.size:Int))=True:=bM (by omega)
 have hw:=bB (n:=(i:Int)+1)
 have hsl:=fun(φ:AF) (y z:Operand) (h:φ.eval y=.int .i64 (f:Int)) (h':φ.eval z=.int .i64 (i:Int))=>s5 (s:=s) h h' hfi hi
 rw[rT] at hsl
 generalize hp:((sb s).drop f).take (i - f)=p at *
 have uR:∀(K:AV→aA→Prop),(∀b',((out++ [p]).map fV≠[]→st b'=none)→K (aP 1 b' ((out++ [p]).map fV)) (aU st b' ((out++ [p]).map fV)))→gT prog 65 (aU st b (out.map fV)) (aP 1 b (out.map fV)) (.fslice [.str (ba p)]) K:=by
  intro K hK
  refine eJ lC CU CV rfl rfl (eS rfl rfl) (OP _) hb (by simp only[aF,bE,bO];omega) (by simp only[aF,bE,bO];omega) (fun b' hb'=>?_)
  rw[show out.map fV++ [AV.str (ba p)]=(out++ [p]).map fV by simp [fV]] at hb' ⊢
  exact hK b' hb'
 by_cases hie:i=s.size
 case pos=>
  have uX:((i:Int)=(s.size:Int))=True:=bM (by omega)
  rw[wN (by rw[a8];omega)] at ht
  simp only[gW] at ht
  simp only[hi',uX,hsl,aT,aB,seval,tA]
  refine uR _ fun b' hb'=>?_
  simp only[hw,aB,seval]
  refine⟨(out++ [p],i+1,i+1,b'),by simp only;omega,⟨Or.inr ⟨by simp only;omega,by simp only;omega,ht⟩,by simp only[dM,bE,bO];omega,hb'⟩,aL.mk (by simp only[aB,seval]<;>exact⟨rfl,rfl⟩)⟩
 have uX:((i:Int)=(s.size:Int))=False:=a5 (by omega)
 obtain⟨x,hx⟩:=l6 (s:=s) (n:=i) (by omega)
 have hix:=kG (P:=prog) (t:=9) jX hx
 obtain⟨hx1,hx2⟩:=eX.1 hx
 rw[pC hx1,hx2] at ht
 unfold gW at ht
 by_cases hxc:x.toNat=c
 · rw[a4 hxc] at ht
   have y7:((x.toNat:Int)=(c:Int))=True:=bM (by omega)
   simp only[hi',uX,hsl,hix,y7,aT,aZ,aB,seval,tA]
   refine uR _ fun b' hb'=>?_
   simp only[hw,aB,seval]
   refine⟨(out++ [p],i+1,i+1,b'),by simp only;omega,⟨Or.inl ⟨by simp only;omega,c9 _,by rw[←ht];simp⟩,by simp only[dM,bE,bO];omega,hb'⟩,aL.mk (by simp only[aB,seval]<;>exact⟨rfl,rfl⟩)⟩
 · rw[aQ hxc] at ht
   have y7:((x.toNat:Int)=(c:Int))=False:=a5 (by omega)
   have hp':((sb s).drop f).take (i+1 - f)=p++ [x]:=by
    rw[show i+1 - f=(i - f)+1 by omega,fE,hp,List.getElem?_drop,show f+(i - f)=i by omega,hx];try rfl
   simp only[hi',uX,hw,hix,y7,aT,aZ,aB,seval,tA]
   refine⟨(out,f,i+1,b),by simp only;omega,⟨Or.inl ⟨by simp only;omega,by simp only;omega,by simp only;rw[hp'];exact ht⟩,by simp only;omega,hb⟩,aL.mk (by simp only[aB,seval]<;>rfl)⟩
def AZ(o:Option (List Cl))(st:aA)(r:AV)(st':aA):Prop:=match o with | some l=>∃b,(l.map aX≠[]→st b=none)∧r=.tup [aP 5 b (l.map aX),.bool true]∧st'=aU st b (l.map aX) | none=>r=.tup [.fslice [],.bool false]∧st'=st
def tT(o:Option (List Cl))(r:AV):Prop:=match o with | some l=>r=.tup [.slice (l.map aX),.bool true] | none=>r=.tup [.slice [],.bool false]
theorem xV:∀(ls:List (List UInt8)) (acc r:List Cl),(∀c∈acc,k9 c∧gI c=true)→oM ls acc=some r→(∀c∈r,k9 c∧gI c=true)∧r.length=acc.length+ls.length
 | [],acc,r,h,h1=>by cases h1;exact⟨h,rfl⟩
 | l::ls,acc,r,h,h1=>by
  unfold oM at h1
  split at h1
  · cases h1
  rename_i c h2
  have:=xV ls (acc++ [c]) r (by intro x hx;rw[j2,wR] at hx;rcases hx with hx | rfl;exact h x hx;exact OO h2) h1
  refine⟨this.1,?_⟩
  rw[this.2]
  simp only[dM,bE,bO]
  omega
abbrev nR:=zi a7 (zi cC (zi gE (zi nU (zi bW (zi aAA (zi jI (zi gQ iT)))))))
set_option maxHeartbeats 1000000 in
theorem BO(s:ByteArray)(hs:s.size≤100000)(st:aA):aD prog 31 [.str s] st (AZ (jG (sb s)) st):=by
 generalize hP:jG (sb s)=T
 unfold jG at hP
 simp only at hP
 have NL:=fun st=>S4 s 10 (by omega) st
 rw[show((10:Nat):Int)=10 from rfl] at NL
 have hne:=CM 10 (sb s) []
 have hcl:=xY 10 (sb s) []
 rw[a8] at hcl
 generalize gW 10 (sb s) []=L at *
 obtain⟨m,hm⟩:∃m,L.length=m+1:=⟨L.length - 1,by have:=List.length_pos_iff.2 hne;omega⟩
 obtain⟨y,hy⟩:∃y,L[m]?=some y:=⟨_,eD (by omega)⟩
 have hgl:L.getLast?=some y:=by rw[List.getLast?_eq_getElem?,hm];exact hy
 rw[hgl] at hP
 refine aD.oE ?_
 have sH:T=none→∀(b:Nat) (l:List Cl) (s0:aA),(l.map aX≠[]→s0 b=none)→aN s0 st→∃s2,aN (aU s0 b (l.map aX)) s2∧AZ T st (AV.tup [.fslice [],.bool false]) s2:=by
  rintro rfl b l s0 hb hD
  exact⟨st,hD.aU fun h2=>(hD b).1 (hb h2),rfl,rfl⟩
 refine wF [1000000] 1 func31 ntmps31 rfl rfl ?_
 intro _
 simp only[aB,seval,nR]
 refine(NL _).to ?_
 have hat:=cI (av:=fV) lC hy rfl
 have hw0:=hO (x:=(L.length:Int) - 1) (m:=m) (by omega) (by omega)
 by_cases h21:21<L.length
 case pos=>
  rw[a4 (Or.inl h21)] at hP
  have uQ:((21:Int)<(L.length:Int))=True:=bM (by omega)
  simp only[aF,uQ,aT,aB,seval,nR]
  exact sH hP.symm 0 [] st (by simp) (aN.refl _)
 have uQ:((21:Int)<(L.length:Int))=False:=a5 (by omega)
 by_cases hye:y= []
 case neg=>
  rw[a4 (Or.inr (by simpa using hye))] at hP
  have y8:(ba y=⟨#[]⟩)=False:=a5 fun h=>hye (by have:=congrArg sb h;exact this)
  simp only[aF,uQ,hw0,hat,fV,y8,aZ,aB,seval,nR]
  exact sH hP.symm 0 [] st (by simp) (aN.refl _)
 rw[aQ (by rintro(h | h);exact h21 h;exact h (by rw[hye]))] at hP
 have y8:(ba y=⟨#[]⟩)=True:=bM (by rw[hye])
 simp only[aF,uQ,hw0,hat,fV,y8,aT,aZ,aB,seval,nR]
 refine fY (σ:=Nat×List Cl×Nat) [1000000] [5] (fun x=>x.1≤m∧oM (L.dropLast.drop x.1) x.2.1=T∧x.2.1.length=x.1∧(∀c∈x.2.1,k9 c)∧(x.2.1.map aX≠[]→st x.2.2=none)) (fun x=>[(2,.fslice []),(3,.bool false),(4,aP 5 x.2.2 (x.2.1.map aX)),(6,.int .i64 (x.1:Int))]) (fun x=>aU st x.2.2 (x.2.1.map aX)) (fun x=>m - x.1) (by decide +kernel) ⟨(0,[],0),⟨iI _,hP,rfl,by simp,by simp⟩,aL.mk (by simp only[bJ,i7,aB,↓bD,seval])⟩ ?_
 rintro⟨i,acc,b⟩ ⟨hi,ht,hlen,hdn,hb⟩
 simp only at hi ht hlen hdn hb ⊢
 have hdl:L.dropLast.length=m:=by rw[List.length_dropLast,hm];try rfl
 have hw1:=bB (n:=(i:Int)+1)
 by_cases him:i<m
 case neg=>
  have yQ:((i:Int)+1<(L.length:Int))=False:=a5 (by omega)
  rw[wN (by omega)] at ht
  simp only[oM] at ht
  simp only[aF,yQ,hw1,rP,fZ,true_and,aZ,aB,seval,nR]
  exact⟨_,aN.refl _,by rw[←ht];exact⟨b,hb,rfl,rfl⟩⟩
 have yQ:((i:Int)+1<(L.length:Int))=True:=bM (by omega)
 obtain⟨z,hz⟩:∃z,L[i]?=some z:=⟨_,eD (by omega)⟩
 have hz2:L.dropLast[i]?=some z:=by rw[List.getElem?_dropLast,a4 (by omega)];exact hz
 obtain⟨hz3,hz4⟩:=eX.1 hz2
 rw[pC hz3,hz4] at ht
 unfold oM at ht
 have W4:=cI (av:=fV) lC hz rfl
 have hpc:=SR (ba z)
 rw[show sb (ba z)=z from rfl] at hpc
 simp only[aF,yQ,hw1,W4,fV,aT,aB,seval,nR]
 refine(hpc _).to ?_
 cases hc:iC z with
 | none=>
  rw[hc] at ht
  simp only[nZ,dH,aB,↓bD,seval,nR]
  exact sH ht.symm b acc st hb (aN.refl _)
 | some c=>
  rw[hc] at ht
  simp only at ht
  have hcd:=(OO hc).1
  have hca:=oB c
  have hcw:=gV c
  have hcj:=rY c
  have hcs:=xU c
  have hcc:=CL c
  simp only[nZ,hca,hcw,hcj,hcs,aB,↓bD,seval,nR]
  refine eJ i9 rZ r6 rfl rfl (eS hcw hcs) (nA _) hb (by simp only[aF,bE,bO];omega) (by simp only[aF,bE,bO];omega) (fun b' hb'=>?_)
  rw[show acc.map aX++ [aX c]=(acc++ [c]).map aX by simp] at hb' ⊢
  simp only[hw1,aB,seval]
  refine⟨(i+1,acc++ [c],b'),by simp only;omega,⟨by simp only;omega,ht,by simp only[dM,bE,bO];omega,?_,hb'⟩,aL.mk (by simp only[aB,seval]<;>rfl)⟩
  intro x hx
  rw[j2,wR] at hx
  rcases hx with hx | rfl
  · exact hdn x hx
  · exact hcd
theorem SS(s:ByteArray)(hs:s.size≤100000)(st:aA):aD prog 31 [.str s] st (fun r st'=>tT (jG (sb s)) r∧st'=st):=by
 refine aD.drop (Q:=tT _) (aD.fin ((BO s hs st).mono ?_))
 intro r st' h
 cases hT:jG (sb s) with
 | none=>
  rw[hT] at h
  obtain⟨rfl,rfl⟩:=h
  exact⟨0,[],st',rfl,by simp,by simp,⟨5,by simp⟩,aN.refl _,by simp only[tT,qC,M7,r7,b9,bJ]⟩
 | some l=>
  rw[hT] at h
  obtain⟨b,hb,rfl,rfl⟩:=h
  exact⟨b,_,st,rfl,hb,uE _,⟨5,nA _⟩,aN.refl _,by simp only[tT,qC,M7,oG,b9,bJ]⟩

end Go.AW
namespace Go.AW
section
variable {h:aM} {st:aA}
end

theorem kV.fin{s0:aA}{b:Nat}{l:List AV}{r:AV}(h0:l≠[]→s0 b=none)(h2:∀e∈l,e.bA=false)(h3:eL l):pG (aU s0 b l) s0∧kV (aU s0 b l) r s0 (r.fin b l):=by
 cases l with
 | nil=>exact⟨(aN.refl _).lN,fun h v S y=>y.soft⟩
 | cons e l=>
  have hb:=h0 (by simp)
  have h1:aU s0 b (e::l) b=some (.cells ((e::l).flatMap AV.cells)):=by simp only[aU,aA.aY]
  have e1:(aU s0 b (e::l)).erase b=s0:=by simp only[aU];exact aA.oF _ _ _ hb
  refine⟨?_,fun h v S y=>?_⟩
  · have:=(d9 (aU s0 b (e::l)) b).lN
    rwa [e1] at this
  · have:=y.fz S h1 h2 h3
    rw[e1] at this
    exact this.soft
theorem kV.tail{s0:aA}{b k w:Nat}{l:List AV}(hb:s0 b=none)(hk:k<l.length)(h2:∀e∈l,e.bA=false)(hw:∀e∈l,e.width=w):pG (aU s0 b l) s0∧kV (aU s0 b l) (.mslice b (k*w) (l.length - k) w) s0 (.slice (l.drop k)):=by
 have hl:l≠[]:=by rintro rfl;simp at hk
 have h1:aU s0 b l b=some (.cells (l.flatMap AV.cells)):=by rw[m5 hl,aA.aY]
 have e1:(aU s0 b l).erase b=s0:=by rw[m5 hl];exact aA.oF _ _ _ hb
 refine⟨?_,fun h v S y=>?_⟩
 · have:=(d9 (aU s0 b l) b).lN
   rwa [e1] at this
 · obtain⟨f1,f2⟩:=frozen S h1 h2
   rw[e1] at f2
   obtain⟨cap,hv,l1,l2,_⟩:=y.oN
   have hE:=bR.drop k hw f2
   rw[fF] at hE
   subst hv
   refine⟨rfl,?_⟩
   unfold VC
   exact .inr ⟨b,k*w,cap,by rw[kR];try rfl,by rw[kR];exact l1,l2,hb,f1,⟨w,fun e he=>hw e (List.mem_of_mem_drop he)⟩,hE⟩
theorem aD.WT{P:Program}{g:FuncId}{args:List AV}{st:aA}{Q:AV→aA→Prop}(x:aD P g args st (fun r st'=>∃r2 s2,(pG st' s2∧kV st' r s2 r2)∧Q r2 s2)):aD P g args st Q:=
 x.hJ fun r st' ⟨r2,s2,⟨h1,h2⟩,h3⟩=>⟨r2,s2,h1,h2,h3⟩
end Go.AW
namespace Go.AW
open Go.Proofs.Tryz
theorem ZK{P:Program}{t:TypeId}{ag:Bool}{w b n:Nat}(hI:eI P t=some (ag,w))(h1:1<n)(φ:AF):j7 P φ t (.mslice b 0 n w) (some (.const (.int .i64 1))) none none=some (.mslice b (0+1*w) (n - 1) w):=by
 have h2:dJ φ none n n=some n:=rfl
 have h3:dJ φ (some (.const (.int .i64 1))) 0 n=some 1:=by
  show(if((0:Nat):Int)≤1∧(1:Int)≤(n:Int) then some (Int.toNat 1) else none)=some 1
  rw[a4 ⟨by omega,by omega⟩]
  try rfl
 unfold j7 n6
 rw[aQ (by simp [sL])]
 simp only[hI,h2,h3]
 rw[a4 trivial,aQ (by decide),a4 h1]
def zG:Cl:=(.mk 3 0 ⟨#[122]⟩ [],[])
abbrev tB:=zi a7 (zi bW (zi jI (zi b8 (zi vW (zi gQ kP)))))
set_option maxHeartbeats 2000000 in
theorem CA(bs:List Bt)(c p:Nat)(l:List Cl)(hl:∀x∈l,k9 x)(h1:2≤l.length)(h2:l.length≤40)(st:aA)(hp:p+1000000≤1099511627776)(hR:bZ st c bs p) :
 aD prog 32 [.ptr c 0,.slice (l.map aX)] st (Dr bs c p 1000000 st (fun r=>∃l':List Cl,r=.slice (l'.map aX))):=by
 refine aD.WT ?_
 have XS:st.aC c (aV bs p)=st:=QR hR
 have jB:∀(q b:Nat) (acc:List Cl),p≤q→q≤p+1000000→(acc.map aX≠[]→(st.aC c (aV bs q)) b=none)→∃r2 s2,(pG (aU (st.aC c (aV bs q)) b (acc.map aX)) s2∧kV (aU (st.aC c (aV bs q)) b (acc.map aX)) (aP 5 b (acc.map aX)) s2 r2)∧Dr bs c p 1000000 st (fun r=>∃l':List Cl,r=.slice (l'.map aX)) r2 s2:=fun q b acc g1 g2 hb=>by
  have:=kV.fin (r:=aP 5 b (acc.map aX)) hb (uE _) ⟨5,nA _⟩
  rw[fJ] at this
  exact⟨_,_,this,q,g1,g2,rfl,acc,rfl⟩
 have hRq:∀(q b:Nat) (L:List AV),(L≠[]→(st.aC c (aV bs q)) b=none)→bZ (aU (st.aC c (aV bs q)) b L) c bs q∧∀o,(aU (st.aC c (aV bs q)) b L).aC c o=aU (st.aC c o) b L∧(L≠[]→(st.aC c o) b=none):=fun q b L hb=>by
  have hne:L≠[]→c≠b:=fun h e=>by have:=hb h;rw[←e,aA.aY] at this;cases this
  refine⟨?_,fun o=>⟨?_,fun h=>?_⟩⟩
  · unfold bZ
    by_cases h:L= []
    · rw[h,pU,aA.aY];try rfl
    · rw[rO (hne h),aA.aY];try rfl
  · rw[lZ hne,cF]
  · have:=hb h
    rw[aA.bK _ _ (dQ (hne h))] at this ⊢
    exact this
 refine wF [1000000] 2 func32 ntmps32 rfl rfl ?_
 simp only[cS,AV.fits,dV,aF]
 intro _
 simp only[aB,seval,tB]
 refine eV (σ:=Nat×Nat×List Cl) [1000000] [0,1,4] l (fun i x=>p≤x.1∧x.1≤p+6000*i∧x.2.2.length=i∧(x.2.2.map aX≠[]→(st.aC c (aV bs x.1)) x.2.1=none)) (fun i x=>[(5,aP 5 x.2.1 (x.2.2.map aX)),(6,.int .i64 i)]) (fun i x=>aU (st.aC c (aV bs x.1)) x.2.1 (x.2.2.map aX)) (by decide +kernel) ⟨(p,0,[]),⟨c9 _,by simp only;omega,rfl,fun h=>absurd rfl h⟩,by
  simp only[bJ,pU,XS]
  exact aL.mk (by simp only[i7,aB,↓bD,seval])⟩ (fun i x s hx hlt bY hdr hinv=>?_) (fun s hge hinv=>?_)
 case refine_1=>
  obtain⟨q,b,acc⟩:=s
  obtain⟨g1,g2,g3,g4⟩:=hinv
  simp only at g1 g2 g3 g4
  have hw:=bB (n:=(i:Int)+1)
  have hat:=cI (av:=aX) i9 hx (gV x)
  have hcw:=gV x
  have hca:=oB x
  obtain⟨k1,k2⟩:=hRq _ _ _ g4
  simp only[bY,aF,hat,hcw,hca,aB,seval,tB]
  refine(T6 bs c q x (hl x (dD hx)) _ (by omega) k1).mono ?_
  rintro _ _ ⟨q2,r1,r2,rfl,y,rfl⟩
  obtain⟨k3,k4⟩:=k2 (aV bs q2)
  rw[k3]
  have hya:=oB y
  have hyw:=gV y
  have hyj:=rY y
  have hys:=xU y
  have hyc:=CL y
  simp only[hya,hyw,hyj,aB,seval,tB]
  refine eJ i9 rZ r6 rfl rfl (eS hyw hys) (nA _) k4 (by simp only[aF,bE,bO];omega) (by simp only[aF,bE,bO];omega) (fun b' hb'=>?_)
  rw[show acc.map aX++ [aX y]=(acc++ [y]).map aX by simp] at hb' ⊢
  simp only[hw,aB,seval]
  exact⟨(q2,b',acc++ [y]),⟨by simp only;omega,by simp only;omega,by simp only[dM,bE,bO];omega,hb'⟩,aL.mk (by simp only[aB,seval])⟩
 obtain⟨q,b,acc⟩:=s
 obtain⟨g1,g2,g3,g4⟩:=hinv
 simp only at g1 g2 g3 g4
 obtain⟨k1,k2⟩:=hRq _ _ _ g4
 simp only[aF,hge,aB,seval,tB]
 refine(iL bs c q (by omega) 30 (by omega) (by omega) _ k1).mono ?_
 rintro _ _ ⟨j,hj,rfl,rfl⟩
 obtain⟨k3,k4⟩:=k2 (aV bs (q+1))
 rw[k3]
 have XW:prog.underlying 23=some (.slice 51):=by kernel_rfl
 simp only[aB,seval]
 refine bC (fun h0=>?_) (fun h0=>?_)
 · simp only[aB,seval]
   refine fY (σ:=Nat×List Cl) [1000000] [4,24] (fun x=>(x.2.map aX≠[]→(st.aC c (aV bs (q+1))) x.1=none)∧x.2.length≤41) (fun x=>[(5,aP 5 x.1 (x.2.map aX))]) (fun x=>aU (st.aC c (aV bs (q+1))) x.1 (x.2.map aX)) (fun x=>41 - x.2.length) (by decide +kernel) ⟨(b,acc),⟨k4,by simp only;omega⟩,aL.mk (by simp only[aB,seval])⟩ ?_
   rintro⟨b,acc⟩ ⟨i1,i2⟩
   simp only at i1 i2
   have haL:=tZ (w:=5) (b:=b) (l:=acc.map aX) XW
   rw[aF] at haL
   simp only[haL,aB,seval]
   refine bC (fun h1=>?_) (fun h1=>?_)
   case refine_2=>
    simp only[aB,seval]
    exact jB _ _ _ (by omega) (by omega) i1
   simp only[a9] at h1
   simp only[aB,seval]
   refine(k8 ⟨#[122]⟩ [] (by simp) _).to ?_
   simp only[bG,bJ,aB,seval,tB]
   refine eJ (xs:=[.agg [.int .i64 3,.int .i64 0,.str ⟨#[122]⟩,.slice [],.fslice []]]) i9 rZ r6 rfl rfl (eS rfl rfl) (nA _) i1 (by simp only[aF,bE,bO];omega) (by simp only[aF,bE,bO];omega) (fun b' hb'=>?_)
   have hb2:(acc++ [zG]).map aX≠[]→(st.aC c (aV bs (q+1))) b'=none:=fun _=>hb' (by simp)
   have mF:aU (st.aC c (aV bs (q+1))) b' (acc.map aX++ [.agg [.int .i64 3,.int .i64 0,.str ⟨#[122]⟩,.slice [],.fslice []]]) b'=some (.cells (((acc.map aX).flatMap AV.cells++ [.int .i64 3,.int .i64 0,.str ⟨#[122]⟩,.slice []])++ .fslice []:: [])):=by
    rw[m5 (by simp),aA.aY]
    simp [AV.cells]
   have NX:=fun φ=>cN.ZL (φ:=φ) mF
   have XV:(aU (st.aC c (aV bs (q+1))) b' (acc.map aX++ [.agg [.int .i64 3,.int .i64 0,.str ⟨#[122]⟩,.slice [],.fslice []]])).aC b' (.cells (((acc.map aX).flatMap AV.cells++ [.int .i64 3,.int .i64 0,.str ⟨#[122]⟩,.slice []])++(AV.fslice []).soft:: []))=aU (st.aC c (aV bs (q+1))) b' ((acc++ [zG]).map aX):=by
    rw[m5 (by simp),cF,m5 (by simp)]
    congr 2
    simp [AV.cells,AV.soft,zG,dH]
   rw[XV] at NX
   have hV:aP 5 b' (acc.map aX++ [.agg [.int .i64 3,.int .i64 0,.str ⟨#[122]⟩,.slice [],.fslice []]])=aP 5 b' ((acc++ [zG]).map aX):=by
    rw[l4 (by simp),l4 (by simp)]
    simp
   rw[hV]
   simp only[aB,seval]
   refine⟨(b',acc++ [zG]),by simp only[dM,bE,bO];omega,⟨hb2,by simp only[dM,bE,bO];omega⟩,(NX _).trans (aL.mk (by simp only[aB,seval]))⟩
 simp only[aB,seval]
 refine bC (fun h1=>?_) (fun h1=>?_)
 · have hne:acc.map aX≠[]:=fun h=>by have:=congrArg List.length h;simp at this;subst this;simp at g3;omega
   have hlen:(acc.map aX).length=acc.length:=aF _
   have hsl:=ZK (P:=prog) (b:=b) i9 (show 1<acc.length by omega)
   have hb0:=k4 hne
   simp only[l4 hne,hlen,hsl,aB,seval]
   have hT:=kV.tail (k:=1) (w:=5) hb0 (by rw[hlen];omega) (uE acc) (nA acc)
   rw[hlen] at hT
   simp only[Nat.one_mul] at hT ⊢
   exact⟨_,_,hT,q+1,by omega,by omega,rfl,acc.drop 1,by rw[List.map_drop]⟩
 · skip
   simp only[aB,seval]
   exact jB _ _ _ (by omega) (by omega) k4
theorem T9(st:aA):aD prog 81 [] st (fun r st'=>r=.slice (wA.map AV.str)∧st'=st):=by
 refine aD.done ?_
 refine wF [1000000] 0 func81 ntmps81 rfl rfl ?_
 intro _
 simp only[aB,seval,iT]
 exact⟨rfl,aN.refl _⟩
theorem Lit.call2{P:Program}{g:FuncId}{st s:aA}{w:Nat}{l:List AV}{q p:AV}{Q:AV→aA→Prop}(h:Lit st w l q s)(hj:∀e∈l,e.bA=false)(hw:∀e∈l,e.width=w)(hp:∀b es,p.fz b es=p)(x:aD P g [p,.slice l] st Q):aD P g [p,q] s Q:=by
 rcases h with ⟨rfl,rfl⟩ | ⟨b,hb,rfl,rfl⟩
 · refine aD.args x fun hp vs S V=>?_
   simp only[bT] at V ⊢
   obtain⟨v0,r0,rfl,V0,v,r,rfl,V1,V2⟩:=V
   exact⟨v0,_,rfl,V0,v,r,rfl,V1.r9,V2⟩
 · refine aD.WX b l (aA.aY _ _ _) hj ⟨w,hw⟩ ?_
   rw[aA.oF st b _ hb]
   have:gA b l [p,.mslice b 0 l.length w]= [p,.slice l]:=by
    show[p.fz b l,(AV.mslice b 0 l.length w).fz b l]=_
    rw[hp]
    simp [AV.fz]
   rw[this]
   exact x
theorem VD{α:Type}{P:Program}{t:TypeId}{ag:Bool}{w:Nat}{av:α→AV}{l:List α}{i:Nat}{x:α}(hI:eI P t=some (ag,w))(h:l[i]?=some x)(hw:(av x).width=w):iZ P t (.fslice (l.map av)) (.int .i64 (i:Int))=some (.pptr (av x)):=by
 simp only[iZ,hI,j1,pD,h,kU,hw]
 simp
def AL:List ByteArray:=[⟨#[122,58,45,110,111,115,117,99,104,40,49,41,44,111,116,104,101,114,40,65,44,66,41,46,10]⟩,
 ⟨#[122,40,65,41,58,45,119,40,65,41,44,110,111,115,117,99,104,40,65,41,44,119,40,49,41,46,10]⟩,
 ⟨#[122,40,65,41,58,45,65,62,49,44,122,40,65,41,44,119,46,10,119,40,49,41,46,10]⟩]
def AM(s:ByteArray):Bool:=decide (s.size≤200)&&match jG (sb s) with | some l=>decide (l.length≤20) | none=>false
theorem aAL:AL.all AM=true:=by decide +kernel
theorem YY{s:ByteArray}(h:AM s=true):s.size≤200∧∃l:List Cl,jG (sb s)=some l∧l.length≤20∧∀c∈l,k9 c:=by
 unfold AM at h
 rw[bX,a9] at h
 refine⟨h.1,?_⟩
 have h2:=h.2
 cases hp:jG (sb s) with
 | none=>rw[hp] at h2;simp at h2
 | some l=>
  rw[hp] at h2
  simp only[a9] at h2
  refine⟨l,rfl,h2,fun c hc=>?_⟩
  unfold jG at hp
  simp only at hp
  split at hp
  · cases hp
  · exact((xV _ [] l (by simp) hp).1 c hc).1
theorem YX{s:ByteArray}(h:zH s=true):s.size≤200∧∃l:List Cl,jG (sb s)=some l∧2≤l.length∧l.length≤20∧∀c∈l,k9 c:=by
 unfold zH at h
 rw[bX,a9] at h
 refine⟨h.1,?_⟩
 have h2:=h.2
 cases hp:jG (sb s) with
 | none=>rw[hp] at h2;simp at h2
 | some l=>
  rw[hp] at h2
  simp only[bX,a9] at h2
  refine⟨l,rfl,h2.1,h2.2,fun c hc=>?_⟩
  unfold jG at hp
  simp only at hp
  split at hp
  · cases hp
  · exact((xV _ [] l (by simp) hp).1 c hc).1
theorem RL{st:aA}{w b:Nat}{l:List AV}(h:l≠[]→st b=none):Lit st w l (aP w b l) (aU st b l):=by
 cases l with
 | nil=>exact .inl ⟨rfl,rfl⟩
 | cons x l=>exact .inr ⟨b,h (by simp),rfl,rfl⟩
theorem UT(l:List Cl):pV 5 (l.map aX):=fun e he=>by simp only[gR] at he;obtain⟨t,_,rfl⟩:=he;exact⟨gV t,xU t⟩
abbrev PU:=zi a7 (zi bW (zi jI (zi kP iT)))
theorem T7(bs:List Bt)(c p:Nat)(st:aA)(hp:p+100≤1099511627776)(hR:bZ st c bs p) :
 aD prog 29 [.ptr c 0] st (Dr bs c p 10 st (fun r=>∃l:List Cl,(2≤l.length∧l.length≤20∧∀x∈l,k9 x)∧r=.slice (l.map aX))):=by
 refine wF [1000000] 1 func29 ntmps29 rfl rfl ?_
 intro _
 simp only[aB,seval]
 refine(T9 _).to ?_
 simp only[aF,aB,seval,PU]
 refine(iL bs c p (by omega) wA.length (by decide) (by decide) _ hR).mono ?_
 rintro _ _ ⟨k,hk,rfl,rfl⟩
 obtain⟨x,hx⟩:∃x,wA[k]?=some x:=⟨_,eD hk⟩
 have hat:=cI (av:=AV.str) lC hx rfl
 obtain⟨hxs,l,hl1,hl2,hl3,hl4⟩:=YX (fD.1 aAK x (dD hx))
 have hpp:=fun st=>SS x (by omega) st
 rw[hl1] at hpp
 simp only[hat,aB,seval,PU]
 refine(hpp _).mono ?_
 rintro _ _ ⟨rfl,rfl⟩
 simp only[aB,seval]
 exact⟨p+1,by omega,by omega,rfl,l,⟨hl2,hl3,hl4⟩,rfl⟩
abbrev PV:=zi a7 (zi bW (zi q8 (zi jI (zi kP iT))))
set_option maxHeartbeats 1000000 in
theorem SJ(code:List Bt)(st:aA):aD prog 6 [.slice (code.map dW)] st (fun r st'=>(∃p:List Cl,r=.slice (p.map aX))∧st'=st):=by
 refine aD.drop ?_
 refine wF [1000000] 1 func6 ntmps6 rfl rfl ?_
 intro _
 simp only[aB,seval]
 refine(S5 code _).mono ?_
 rintro _ _ ⟨c,bs,rfl,hc,rfl⟩
 have hD:∀o,aN (st.aC c o) st:=fun o=>(aN.refl _).aC hc
 simp only[aB,seval]
 refine(T7 bs c 0 _ (by omega) bZ.new).mono ?_
 rintro _ _ ⟨p1,r1,r2,rfl,l,⟨l1,l2,l3⟩,rfl⟩
 rw[cF]
 simp only[aB,seval]
 refine(iL bs c p1 (by omega) 3 (by omega) (by omega) _ bZ.new).mono ?_
 rintro _ _ ⟨j,hj,rfl,rfl⟩
 rw[cF]
 simp only[aB,seval]
 refine bC (fun h0=>?_) (fun h0=>?_)
 · simp only[aB,↓bD,seval,PV]
   refine(iL bs c (p1+1) (by omega) 3 (by omega) (by omega) _ bZ.new).mono ?_
   rintro _ _ ⟨k,hk,rfl,rfl⟩
   rw[cF]
   obtain⟨x,hx⟩:∃x,AL[k]?=some x:=⟨_,eD hk⟩
   have NI:=VD (P:=prog) (av:=AV.str) lC hx rfl
   simp only[AL,b9,bJ] at NI
   obtain⟨hxs,lu,hu1,hu2,hu3⟩:=YY (fD.1 aAL x (dD hx))
   have hpp:=fun st=>BO x (by omega) st
   rw[hu1] at hpp
   simp only[NI,aB,seval,PV]
   refine(hpp _).mono ?_
   rintro _ _ ⟨b,hb,rfl,rfl⟩
   simp only[aB,seval]
   refine eJ (xs:=l.map aX) i9 rZ r6 rfl rfl (UT l) (nA _) hb (by simp only[aF];omega) (by simp only[aF];omega) (fun b' hb'=>?_)
   rw[←List.map_append] at hb' ⊢
   simp only[aB,seval]
   refine((RL hb').call2 (uE _) (nA _) (fun _ _=>rfl) (CA bs c (p1+1+1) (lu++l) (fun y hy=>by rcases j2.1 hy with h | h;exact hu3 y h;exact l3 y h) (by rw[dM];omega) (by rw[dM];omega) _ (by omega) bZ.new)).mono ?_
   rintro _ _ ⟨p3,t1,t2,rfl,l',rfl⟩
   rw[cF]
   simp only[aB,seval]
   exact⟨hD _,l',rfl⟩
 · simp only[aB,seval]
   refine(CA bs c (p1+1) l l3 l1 (by omega) _ (by omega) bZ.new).mono ?_
   rintro _ _ ⟨p3,t1,t2,rfl,l',rfl⟩
   rw[cF]
   simp only[aB,seval]
   exact⟨hD _,l',rfl⟩

theorem aAI(t:Tm):t.same t=true:=(Tm.vH t t).2 rfl






end Go.AW
namespace Go.AW

end Go.AW
namespace Go.AW
open Go.Proofs.Tryz



end Go.AW
namespace Go.AW




section
variable (p:List Cl)
variable {p}
end
section
variable {p:List Cl} {goal:Tm} {σ0:Sub} {N0 k:Nat}
end
section
variable {p:List Cl} {τ0:Int→Tm}
end
end Go.AW
namespace Go.AW
open Go.Proofs.Tryz







instance aCB:DecidableEq Tm:=fun a b=>decidable_of_iff (a.same b=true) (Tm.vH a b)
theorem ZR{α:Type}{l l':List α}{i:Nat}{x y:α}(h:l.take i=l'.take i)(hx:l[i]?=some x)(hy:l'[i]?=some y)(e:x=y):l.take (i+1)=l'.take (i+1):=by
 rw[fE,fE,h,hx,hy,e]
abbrev vP:=zi a7 (zi cC (zi b8 bN))
theorem UC(l l':List Tm)(st:aA):aD prog 8 [.slice (l.map Tm.av),.slice (l'.map Tm.av)] st (fun r st'=>r=.bool (decide (l=l'))∧st'=st):=by
 refine wF [1000000] 2 func8 ntmps8 rfl rfl ?_
 simp only[cS,AV.fits,dV,aF]
 intro ⟨⟨hl,_⟩,⟨hl',_⟩⟩
 simp only[aF,aB,seval,vP]
 refine bC (fun h=>?_) (fun h=>?_)
 · simp only[j0,c5] at h
   rw[cZ (show l≠l' from fun e=>h (by rw[e]))]
   simp only[aB,seval]
 simp only[pA,a9] at h
 have hle:l.length=l'.length:=by omega
 simp only[aB,seval]
 refine eV (σ:=Unit) [1000000] [0,1] l (fun i _=>l.take i=l'.take i) (fun i _=>[(4,.bool false),(5,.int .i64 i)]) (fun _ _=>st) (by decide +kernel) ⟨(),by simp,aL.mk (by simp only[aB,↓bD,seval])⟩ (fun i x _ hx hlt bY hdr hin=>?_) (fun _ hge hin=>?_)
 case refine_2=>
  rw[eE,hle,eE] at hin
  simp only[hge,aF,aB,seval,vP]
  rw[dA hin]
 have hw:=bB (n:=(i:Int)+1)
 obtain⟨y,hy⟩:∃y,l'[i]?=some y:=⟨_,eD (hle▸hlt)⟩
 have hat:iZ prog 25 (.slice (l.map Tm.av)) (.int .i64 (i:Int))=some (.pptr x.av):=cI (av:=Tm.av) cH hx (aO x)
 have W2:iZ prog 25 (.slice (l'.map Tm.av)) (.int .i64 (i:Int))=some (.pptr y.av):=cI (av:=Tm.av) cH hy (aO y)
 simp only[bY,aF,aB,seval,vP]
 refine wX [(0,1),(1,1),(2,1),(3,1),(4,1),(5,1),(6,1),(7,1),(8,0),(9,1)] [0,1,2,3,4,5,6,7,9] g9 mixed rfl yG ?_
 simp only[hat,W2,aR,aO,aB,seval,vP]
 refine(BS x y _).to ?_
 cases hs:x.same y with
 | true=>
  simp only[gG,hw,aB,seval]
  refine⟨yG,?_⟩
  exact⟨(),ZR hin hx hy ((Tm.vH x y).1 hs),aL.mk (by simp only[aB,seval])⟩
 | false=>
  simp only[fZ,aB,seval]
  refine⟨yG,?_⟩
  rw[cZ (show l≠l' from fun e=>by rw[←e,hx] at hy;cases hy;rw[aAI] at hs;cases hs)]
abbrev vS:=zi a7 (zi cC (zi q8 (zi jI (zi b8 (zi lK bN)))))
theorem SL(code:List Bt)(st:aA):aD prog 3 [.slice (code.map dW)] st (fun r _=>r=.bool true):=by
 refine wF [1000000] 1 func3 ntmps3 rfl rfl ?_
 simp only[cS,AV.fits,dV,aF]
 intro _
 simp only[aF,aB,seval,vS]
 refine bC (fun h1=>?_) (fun h1=>?_)
 · simp only[aB,seval]
 simp only[aB,seval]
 refine(SJ code _).mono ?_
 rintro _ s1 ⟨⟨p,rfl⟩,rfl⟩
 simp only[aB,seval]
 refine(S0 p _).to ?_
 simp only[aB,seval]
 refine(UH p _).to ?_
 simp only[aB,seval]
 refine(UC _ _ _).to ?_
 simp only[aT,gG,aB,seval]
 have uY:∀g∈jK p,uG p g= []∧g.goal=true:=fun g hg=>by
  obtain⟨h1,⟨c,hc,hgc⟩,h2,h3⟩:=aAQ hg
  refine⟨?_,((tH h1).2 c hc).2 g hgc⟩
  unfold uG
  split
  · exact h3
  · rfl
 have hlen:(jK p).length≤1000:=by
  unfold jK
  split
  · rename_i h
    obtain⟨h1,h2⟩:=tH h
    have:=wD p p (fun c hc=>(h2 c hc).1)
    omega
  · simp
 generalize jK p=L at *
 refine eV (σ:=Unit) [1000000] [3,4] L (fun i _=>True) (fun i _=>[(2,.bool false),(5,.int .i64 i)]) (fun _ _=>s1) (by decide +kernel) ⟨(),trivial,aL.mk (by simp only[aB,↓bD,seval])⟩ (fun i x _ hx hlt bY hdr hinv=>?_) (fun _ hge hinv=>?_)
 case refine_2=>
  simp only[hge,aF,aB,seval,vS]
 have hw:=bB (n:=(i:Int)+1)
 have hat:=cI (av:=Tm.av) (P:=prog) cH hx (aO x)
 obtain⟨m1,m2⟩:=uY x (dD hx)
 have hcf:=fun s=>SX p x s
 have hgv:=fun s=>BQ x s
 rw[m1] at hcf
 rw[m2] at hgv
 simp only[bY,aT,aF,hat,aO,aR,aB,seval,vS]
 refine(hcf _).to ?_
 simp only[bJ,bO,aZ,hat,aO,aR,aB,seval,vS]
 refine(hgv _).to ?_
 simp only[gG,hw,aB,seval]
 exact⟨(),aL.mk (by simp only[aB,seval])⟩
end Go.AW
namespace Go.AW
open Go.ChangeShapes Go.WideShapes Go.ChangeAt Go.RowKit
abbrev kK:aA:=fun _=>none
section
variable {H:Type} {enc:TypeId×Value→H} {P:Program} {w:World}
def Reads(enc:TypeId×Value→H)(P:Program)(w:World)(t n:Nat){α:Type}(av:α→AV):Prop:=
 ∀cs x,DataW.trod enc P w 0 (fun _=>true) true n t cs=some x→∃a:α,VC w.heap kK (av a) cs
theorem A1{h:aM}{st:aA}{b k:Nat}:∀ {es:List AV} {off:Nat},(∀e∈es,e.width=k)→(∀(i:Nat) e,es[i]?=some e→VE h st b (off+i*k) e)→bR h st b off es
 | [],_,_,_=>by simp [bR]
 | e::es,off,hw,h=>by
  simp only[bR]
  refine⟨by simpa [VE] using h 0 e rfl,A1 (fun x hx=>hw x (by simp [hx])) fun i x hx=>?_⟩
  have:=h (i+1) x (by simpa using hx)
  rw[hw e (by simp),Nat.add_assoc,←Nat.ZQ k i] 
  exact this
where Nat.ZQ (k i:Nat):(i+1)*k=k+i*k:=by rw[mV];omega
theorem CJ{a:Addr}{v:Value}(h:w.cell? a=some v):a.spot=none∧a.block<w.heap.size∧cellAt w.heap a.block a.off=some v:=by
 unfold World.cell? at h
 split at h
 · rename_i c t fr hb
   split at h
   · cases h
   · rename_i hs
     refine⟨by simpa using hs,(wJ.1 hb).1,by simp [cellAt,hb,h]⟩
 · cases h
theorem UO{a:Addr}{n:Nat}{cs:List Value}(hs:a.spot=none)(h:w.cells? 0 a n=some cs):cL w.heap a.block a.off cs∧cs.length=n:=by
 obtain⟨_,hl,hc⟩:=World.cells?_some h
 refine⟨?_,hl⟩
 have:∀(l:List Value) (k:Nat),(∀i,i<l.length→w.cell? (a.add (k+i))=l[i]?)→cL w.heap a.block (a.off+k) l:=by
  intro l
  induction l with
  | nil=>intro _ _;trivial
  | cons v l ih=>
   intro k hk
   refine⟨?_,?_⟩
   · have:=(CJ (hk 0 (by simp))).2.2
     obtain⟨b,off,sp⟩:=a
     simp only at hs
     subst hs
     simpa [Addr.iJ] using this
   · have:=ih (k+1) (fun i hi=>by have:=hk (i+1) (by simp;omega);rw[show k+1+i=k+(i+1) by omega];simpa using this)
     simpa [Nat.add_assoc] using this
 simpa using this cs 0 (fun i hi=>by simpa using hc i (by omega))
theorem Y9{t e n k:Nat}{α:Type}{av:α→AV}(ht:P.underlying t=some (.slice e))(hk:P.cellsOf e=k)(qJ:0<k)(hw:∀a,(av a).width=k)(hr:∀m,m<n→Reads enc P w e m av) :
 Reads enc P w t n (fun l:List α=>.slice (l.map av)):=by
 intro cs x h
 rcases DataW.trod_slice ht h with ⟨rfl,_⟩ | ⟨a,len,cap,elems,rest,m,hm,rfl,rfl,_,hl,uV,hlen,hel,hsp,_⟩
 · exact⟨[],by simp only[bJ];unfold VC;exact .inl ⟨⟨_,rfl⟩,rfl⟩⟩
 obtain⟨hrl,u0⟩:=hsp rfl
 rw[hk] at hel u0
 have get:∀i,i<cap→∃ds y,w.cells? 0 (a.add (i*k)) k=some ds∧DataW.trod enc P w 0 (fun _=>true) true m e ds=some y:=by
  intro i hi
  have hb:∃y,(w.cells? 0 (a.add (i*k)) k).bind (DataW.trod enc P w 0 (fun _=>true) true m e)=some y:=by
   by_cases hi':i<len
   · exact⟨elems[i]'(by omega),by rw[hel i hi'];simp [show i<elems.length by omega]⟩
   · have:=u0 (i - len) (by omega)
     rw[show len+(i - len)=i by omega] at this
     exact⟨rest[i - len]'(by omega),by rw[this];simp [show i - len<rest.length by omega]⟩
  obtain⟨y,hy⟩:=hb
  obtain⟨ds,h1,h2⟩:=Option.bind_eq_some_iff.1 hy
  exact⟨ds,y,h1,h2⟩
 by_cases hc0:cap=0
 · subst hc0
   obtain rfl:len=0:=by omega
   exact⟨[],by simp only[bJ];unfold VC;exact .inl ⟨⟨_,rfl⟩,rfl⟩⟩
 obtain⟨ds0,_,hd0,_⟩:=get 0 (by omega)
 have NY:a.spot=none∧a.block<w.heap.size:=by
  obtain⟨_,hl0,hc⟩:=World.cells?_some hd0
  have:=hc 0 qJ
  have h0:ds0[0]?=some (ds0[0]'(by omega)):=by simp [hl0,qJ]
  rw[h0] at this
  have:=CJ this
  obtain⟨b,off,sp⟩:=a
  simp only[Nat.zero_mul] at this
  cases sp with
  | none=>exact⟨rfl,by simpa [Addr.iJ] using this.2.1⟩
  | some s=>exact absurd this.1 (by simp [Addr.add])
 obtain⟨b,off,sp⟩:=a
 simp only at NY
 obtain⟨rfl,hbl⟩:=NY
 have val:∀i,i<len→∃v:α,VE w.heap kK b (off+i*k) (av v):=by
  intro i hi
  obtain⟨ds,y,h1,h2⟩:=get i (by omega)
  obtain⟨v,hv⟩:=hr m (by omega) ds y h2
  obtain⟨c1,c2⟩:=UO (a:=(⟨b,off,none⟩:Addr).add (i*k)) (by simp [Addr.iJ]) h1
  exact⟨v,ds,by simpa [Addr.iJ] using c1,by rw[hw];exact c2,hv⟩
 have build:∀j,j≤len→∃l:List α,l.length=j∧∀(i:Nat) v,l[i]?=some v→VE w.heap kK b (off+i*k) (av v):=by
  intro j
  induction j with
  | zero=>intro _;exact⟨[],rfl,by simp⟩
  | succ j ih=>
   intro hj
   obtain⟨l,h1,h2⟩:=ih (by omega)
   obtain⟨v,hv⟩:=val j (by omega)
   refine⟨l++ [v],by simp [h1],fun i u hi=>?_⟩
   rw[List.getElem?_append] at hi
   split at hi
   · exact h2 i u hi
   · rename_i hge
     have:i=j:=by
      have:=(eX.1 hi).1
      simp at this
      omega
     subst this
     simp [h1] at hi
     subst hi
     exact hv
 obtain⟨l,h1,h2⟩:=build len (c9 _)
 refine⟨l,?_⟩
 unfold VC
 refine .inr ⟨b,off,cap,by simp [h1],by simp [h1];exact hl,uV,rfl,hbl,VQ hw l,A1 (k:=k) (by intro e he;simp only[gR] at he;obtain⟨v,_,rfl⟩:=he;exact hw v) fun i e he=>?_⟩
 rw[pD] at he
 obtain⟨v,hv,rfl⟩:=Option.map_eq_some_iff.1 he
 exact h2 i v hv
theorem ZA{t:TypeId}{α:Type}{av:α→AV}{v:Value}{d:DataW H}{ps:List MemPlace}(hr:∀n,Reads enc P w t n av)(hag:∀a,(av a).isAgg=fX v)(h:DataW.Trod enc P w 0 (fun _=>true) true t v d ps) :
 ∃a:α,aE w.heap kK (av a) v:=by
 obtain⟨n,hn⟩:=h
 obtain⟨a,ha⟩:=hr n _ _ hn
 refine⟨a,?_⟩
 have:=hag a
 cases hq:av a<;>rw[hq] at ha this<;>first | trivial | exact⟨this,ha⟩
theorem QJ(hl:laidOutB P=true){W W':World}{sp:Nat→Bool}:∀ {ts:List TypeId} {vs:List Value} {ds:List (DataW H)} {ps:List MemPlace},(ts.all fun t=>P.readableRec t&&decide (t<P.types.size))=true →
 DataW.TrodAll enc P W 0 (fun _=>true) true ts vs ds ps→(∀x∈ps,W.sameAt W' x)→(∀x∈ps,sp x.block=true)→DataW.TrodAll enc P W' 0 sp true ts vs ds ps
 | [],vs,ds,ps,_,h,_,_=>by
  cases vs<;>cases ds<;>simp [DataW.TrodAll] at h ⊢
  exact h
 | t::ts,vs,ds,ps,ht,h,h1,h2=>by
  obtain⟨v,vs',d,ds',p,q,rfl,rfl,rfl,hd,u0⟩:=trodAll_cons h
  simp only[lR,bX,a9] at ht
  refine⟨p,q,Go.WideElems.Trod_stays hl ht.1.1 ht.1.2 hd (fun x hx=>h1 x (by simp [hx])) (fun x hx=>h2 x (by simp [hx])),QJ hl ht.2 u0 (fun x hx=>h1 x (by simp [hx])) (fun x hx=>h2 x (by simp [hx])),rfl⟩
theorem R9{W W':World}{st':aA}(T:aS W.heap kK W'.heap st')(s:dE W W'):Below W.heap.size W W':=
 ⟨s.1,s.2.1,s.2.2,T.size,fun k hk=>(T.cG k hk rfl).1⟩
theorem X8{f:Func}{g:FuncId}{s:ChangeSpec}{W:World}{args:Array Value}{ds:List (DataW H)}{before:List MemPlace}{avs:List AV}{tb:TypeId}
 (hl:laidOutB P=true) (hts:(f.params.toList.all fun t=>P.readableRec t&&decide (t<P.types.size))=true) (hrt:f.resultTypes= #[tb]) (htb:P.underlying tb=some .bool) (hsv:s.vars= [])
 (hW:DataW.Whole enc P f.params.toList [] false W args.toList ds [] before) (hfn:s.fn H ds= { results:=[.lit (.bool true)],args:=ds }) (XP:bT W.heap kK avs args.toList)
 (hc:aD P g avs kK (fun r _=>r=.bool true)) :
 Calls P g args W fun e W'=>∃v,e=.returned v∧s.post enc P f false true false false W args v W':=by
 have hS:bF W.heap kK:=fun b o h=>by cases h
 have:=hc.2 W args.toList hS XP
 simp only[jM] at this
 refine this.mono ?_
 rintro e W' ⟨v,r,st',rfl,hv,_,T,sm,rfl⟩
 refine⟨v,rfl,?_⟩
 have hB:=R9 T sm
 rw[hv.n9]
 have hW':DataW.Whole enc P f.params.toList s.vars false W args.toList ds [] before:=by rw[hsv];exact hW
 obtain⟨p,q,hA,hV,rfl,hz,_⟩:=hW
 obtain⟨_,rfl⟩:=trodVars_none hV
 have hlt:∀x∈p,x.block<W.heap.size:=fun x hx=>hW'.lt x (by simp [hx])
 have NW:∀(b:Nat) (sp:Nat→Bool) (hd:Bool),DataW.TrodAll enc P W' b sp hd f.resultTypes.toList ((Value.bool true).resultList f.resultTypes.size) (s.fn H (ds++ [])).results []:=fun _ _ _=>by
  rw[iX,hfn,hrt]
  exact trodAll_mk1 (shut_bool htb true)
 have jQ:∀sp:Nat→Bool,(∀x∈p,sp x.block=true)→DataW.TrodAll enc P W' 0 sp true f.params.toList args.toList (s.fn H (ds++ [])).args p:=fun sp hsp=>by
  rw[iX,hfn]
  exact QJ hl hts hA (fun x hx=>hB.same (hlt x hx)) hsp
 have N3:∀sp:Nat→Bool,DataW.TrodVars enc P W' sp s.vars (s.fn H (ds++ [])).vars []:=fun sp=>by
  rw[iX,hfn,hsv]
  exact rfl
 refine⟨ds,[],p++ [],[],p,[],hW',NW _ _ _,jQ _ (fun x hx=>by simpa using hlt x hx),N3 _,World.keptBut_mono (fun x hx=>⟨hx,by simpa using hx⟩) (hB.frame (·∈p++ [])),fun _=>?_⟩
 refine⟨ok_one hrt rfl (okWide_bool_mk htb true),_,_,([]++p)++ [],⟨[]++p,[],trodAll_append (jQ _ (fun _ _=>rfl)) (NW _ _ _),N3 _,rfl,?_,?_⟩,?_⟩
 · intro b off hp
   have hp':MemPlace.cell b off∈p:=by simpa using hp
   rw[hB.frozen (p:=⟨b,off,none⟩) (hlt _ hp')]
   exact hz b off (by simpa using hp')
 · intro ha;cases ha
 · intro x hx _
   simpa using hx
end
end Go.AW

namespace Go.AW
open Go.Proofs.Tryz
section
variable {H:Type} {enc:TypeId×Value→H} {w:World}
theorem UN:prog.cellsOf 5=1:=by kernel_rfl
theorem Y7(n:Nat):Reads enc prog w 5 n dW:=by
 intro cs x h
 obtain⟨k,rfl,_,hw⟩:=DataW.trod_int uU5 h
 simp only[Lit.wf,IntKind.min,IntKind.max,IntKind.signed,IntKind.bits,bX,a9] at hw
 refine⟨⟨k.toNat,?_⟩,?_⟩
 · simp at hw;omega
 · have:(((k.toNat:Nat)):Int)=k:=by simp at hw;omega
   simp only[dW,this,VC]
theorem Y8(n:Nat):Reads enc prog w 22 n (fun l:List Bt=>.slice (l.map dW)):=
 Y9 aAN UN (by omega) t9 fun m _=>Y7 m
end
section
variable {H:Type} {enc:TypeId×Value→H} {w:World}
theorem aAU{r:Reach}{b0:Nat}{t e:TypeId}{v:Value}(ht:prog.underlying t=some (.slice e))(h:Value.okWide prog w r b0 t v):fX v=false:=by
 cases v<;>first | rfl | (simp [Value.okWide,ht,Cell.okWide,Cell.ok] at h)
end
end Go.AW
