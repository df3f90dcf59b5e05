import Derived.Test.YtieofkhcboolkaaGreatDoorKqk
import Derived.Test.YtieofkhcboolkaaGreatDoorKqj
import Derived.Test.YtieofkhcboolkaaGreatDoorKqf
import Derived.Test.YtieofkhcboolkaaGreatDoorKqi
import Derived.Test.YtieofkhcboolkaaGreatDoorKqh
import Derived.Lib.SliceRun
set_option linter.unusedSimpArgs false
set_option linter.unusedVariables false
set_option maxRecDepth 100000
namespace Go.AW
open Go.Proofs.Tryz
theorem FL{t:Tm}(h:Ws t∧t.nodes≤120)(st:aA):aD prog 148 [t.av] st (fun r st'=>r=.str (kD t)∧st'=st):=X9 130 t st h.1 (by omega) (by omega)
theorem zQ{t:Tm}(h:Ws t∧t.nodes≤120):(kD t).size≤3840:=by have:=zP 130 t h.1;unfold kD;omega
abbrev y9:=zi aZ (zi b7 (zi cE (zi bH hO)))
set_option maxHeartbeats 1000000 in
theorem YJ(c:Cl)(hc:(Ws c.1∧c.1.nodes≤120)∧c.2.length≤6∧∀x∈c.2,Ws x∧x.nodes≤120)(st:aA):aD prog 328 [a7 c] st (fun r st'=>r=.str (BI c)∧st'=st):=by
 obtain⟨⟨k,n,s,ks⟩,ts⟩:=c
 obtain⟨hh,hl,hb⟩:=hc
 simp only at hh hl hb
 have hhd:=fun st=>FL hh st
 have hhs:=zQ hh
 unfold BI
 simp only
 generalize kD (.mk k n s ks)=H at *
 simp only[a6] at hhd
 simp only[dO]
 have hm:maxLen=9223372036854775807:=by rfl
 refine wF [1000000] 1 func328 ntmps328 rfl rfl ?_
 intro _
 simp only[aB,seval,y9]
 refine(hhd _).to ?_
 simp only[aB,seval]
 refine fW (σ:=Unit) [1000000] [1,2] ts (fun i _=>True) (fun i _=>[(3,.str (mD kD H (ts.take i))),(4,.int .i64 i)]) (fun _ _=>st) (by decide +kernel) ⟨(),trivial,aL.mk (by simp only[k9,aB,↓bG,seval]<;>rfl)⟩ (fun i x _ hx hlt b9 hdr hinv=>?_) (fun _ hge hinv=>?_)
 case refine_2=>
  rw[fZ]
  have hsz:=ER (T:=kD) (h:=H) (l:=ts) (m:=3840) fun x hx=>zQ (hb x hx)
  have hs:(mD kD H ts).size+(⟨#[46]⟩:ByteArray).size≤maxLen:=by
   have:ts.length*(3840+2)≤6*3842:=lA _ hl
   show _+1≤_;omega
  simp only[aG,hge,hs,↓reduceIte,aB,seval,y9]
 have hxm:=c8 hx
 have c1:=fun st=>FL (hb x hxm) st
 have c2:=zQ (hb x hxm)
 have hw:=bO (n:=(i:Int)+1)
 have hat:=cJ (av:=Tm.av) cS hx (aR x)
 have gJ:=WG (T:=kD) (h:=H) hx
 have hsz:=ER (T:=kD) (h:=H) (l:=ts.take i) (m:=3840) fun y hy=>zQ (hb y (mZ hy))
 have hln:(ts.take i).length*(3840+2)≤6*3842:=lA _ (by rw[dZ];omega)
 generalize mD kD H (ts.take i)=B at *
 generalize kD x=X at *
 have hs1:B.size+(⟨#[44]⟩:ByteArray).size≤maxLen:=by show _+1≤_;omega
 have hs2:(B++(⟨#[44]⟩:ByteArray)).size+X.size≤maxLen:=by rw[bU];show _+1+_≤_;omega
 have hs3:B.size+(⟨#[58,45]⟩:ByteArray).size≤maxLen:=by show _+2≤_;omega
 have hs4:(B++(⟨#[58,45]⟩:ByteArray)).size+X.size≤maxLen:=by rw[bU];show _+2+_≤_;omega
 by_cases h0:i=0
 · rw[aU h0] at gJ
   have h0':((i:Int)=0)=True:=bR (by omega)
   simp only[aG,hat,aQ,aR,b9,h0',hs3,↓reduceIte,a8,aB,seval,y9]
   refine(c1 _).to ?_
   simp only[hs4,↓reduceIte,aB,seval]
   exact⟨(),aL.mk (by simp only[hw,gJ,↓reduceIte,aB,seval])⟩
 · rw[aS h0] at gJ
   have h0':((i:Int)=0)=False:=bC (by omega)
   simp only[aG,hat,aQ,aR,b9,h0',hs1,↓reduceIte,a8,bB,aB,seval,y9]
   refine(c1 _).to ?_
   simp only[hs2,↓reduceIte,aB,seval]
   exact⟨(),aL.mk (by simp only[hw,gJ,↓reduceIte,aB,seval])⟩
abbrev DL:=zi cB (zi b7 hO)
theorem A4(c:Cl)(st:aA):aD prog 284 [a7 c] st (fun r st'=>r=.str (fmtC c)∧st'=st):=by
 have hv:=FJ c
 unfold fmtC
 cases h:gF c with
 | true=>
  rw[h] at hv
  have ht:=YJ c (ZE h)
  rw[aU rfl]
  obtain⟨⟨k,n,s,ks⟩,ts⟩:=c
  simp only[dO] at hv ht ⊢
  refine wF [1000000] 1 func284 ntmps284 rfl rfl ?_
  intro _
  simp only[aB,seval,DL]
  refine(hv _).to ?_
  simp only[aB,seval,DL]
  refine(ht _).to ?_
  simp only[aB,seval]
 | false=>
  rw[h] at hv
  rw[aS (by decide)]
  obtain⟨⟨k,n,s,ks⟩,ts⟩:=c
  simp only[dO] at hv ⊢
  refine wF [1000000] 1 func284 ntmps284 rfl rfl ?_
  intro _
  simp only[aB,seval,DL]
  refine(hv _).to ?_
  simp only[aB,seval]
theorem FH{s:ByteArray}(hs:s.size≤1000)(a:Nat)(ha:a≤s.size)(st:aA):aD prog 282 [.str s,.int .i64 (a:Int),.int .i64 30,.int .i64 3] st (fun r st'=>gX (vG (sb s) a) r∧st'=st):=
 X6 hs (4*(sb s).length+4) 30 a 3 st ha (by omega) (by omega) (by rw[bL];omega)
def mX(o:Option (List Tm×Nat))(r:AV):Prop:=match o with | some (ts,e)=>r=.tup [.slice (ts.map Tm.av),.int .i64 (e:Int)] | none=>r=.tup [.slice [],.int .i64 (-1)]
abbrev DK:=zi aZ (zi cB (zi hY (zi pF (zi b7 (zi cE bH)))))
set_option maxHeartbeats 1000000 in
theorem YF{s:ByteArray}(hs:s.size≤1000)(a:Nat)(ha:a≤s.size)(st:aA):aD prog 220 [.str s,.int .i64 (a:Int)] st (fun r st'=>mX (nS (sb s) 7 a []) r∧st'=st):=by
 generalize hT:nS (sb s) 7 a []=T
 refine aD.drop (Q:=mX T) (aD.fin ?_)
 refine wF [1000000] 2 func220 ntmps220 rfl rfl ?_
 intro _
 simp only[aB,seval,DK]
 refine fH (σ:=Nat×List Tm×Nat×Nat) [1000000] [0] (fun x=>nS (sb s) x.2.2.1 x.1 x.2.1=T∧x.1≤s.size∧x.2.1.length+x.2.2.1=7∧(x.2.1.map Tm.av≠[]→st x.2.2.2=none)) (fun x=>[(1,.int .i64 (x.1:Int)),(4,.fslice []),(5,.int .i64 0),(6,aT 4 x.2.2.2 (x.2.1.map Tm.av))]) (fun x=>aY st x.2.2.2 (x.2.1.map Tm.av)) (fun x=>x.2.2.1) (by decide +kernel) ⟨(a,[],7,0),⟨hT,ha,rfl,by simp⟩,aL.mk (by simp only[bF,kJ,aB,seval])⟩ ?_
 rintro⟨i,acc,m,b⟩ ⟨ht,hi,hlen,hb⟩
 simp only at ht hi hlen hb ⊢
 have fin:∀(l:List Tm) (b':Nat) (r':AV),(l.map Tm.av≠[]→st b'=none)→mX T (r'.fin b' (l.map Tm.av))→∃b2 l2 s0,aY st b' (l.map Tm.av)=aY s0 b2 l2∧(l2≠[]→s0 b2=none)∧(∀e∈l2,e.bP=false)∧eW l2∧aH s0 st∧mX T (r'.fin b2 l2):=fun l b' r' h1 h2=>⟨b',_,st,rfl,h1,d8 _,⟨4,cT _⟩,aH.refl _,h2⟩
 have hTn:T=none→∀(b':Nat) (l:List AV),mX T ((AV.tup [.fslice [],.int .i64 (-1)]).fin b' l):=by
  rintro rfl b' l
  simp only[mX,mI,dQ,r7,bT,bF]
 have hln:(acc.map Tm.av).length=acc.length:=aG _
 have hal:=t7 (P:=prog) (b:=b) (w:=4) (l:=acc.map Tm.av) zR
 rw[hln] at hal
 by_cases h6:acc.length≤6
 case neg=>
  have h6':((acc.length:Int)≤6)=False:=bC (by omega)
  obtain rfl:m=0:=by omega
  simp only[hal,h6',bB,aB,seval]
  exact fin _ _ _ hb (hTn ht.symm _ _)
 have h6':((acc.length:Int)≤6)=True:=bR (by omega)
 obtain⟨m,rfl⟩:∃m',m=m'+1:=⟨m - 1,by omega⟩
 simp only[nS] at ht
 simp only[hal,h6',a8,aB,seval]
 refine(FH hs i hi _).mono ?_
 rintro r _ ⟨hr,rfl⟩
 cases hRi:vG (sb s) i with
 | none=>
  rw[hRi] at ht hr
  obtain⟨k,hk,rfl⟩:=hr
  have hk0:((-1 - (k:Int))<0)=True:=bR (by omega)
  simp only[aR,bA,bW,hk0,gI,a8,aB,↓bG,seval,DK]
  exact fin _ _ _ hb (hTn ht.symm _ _)
 | some p=>
  obtain⟨t,e⟩:=p
  rw[hRi] at ht hr
  simp only at ht
  obtain⟨g1,g2,g3⟩:=qM (by rw[bL];exact hs) _ _ _ i t e (by rw[bL];exact hi) hRi
  rw[bL] at g2
  simp only[gX] at hr
  subst hr
  have he0:((e:Int)<0)=False:=bC (by omega)
  simp only[aQ,aR,bA,bW,he0,fM,true_and,bB,aB,↓bG,seval,DK]
  refine eH cS gG gH rfl rfl (eR (aR _) (bA _)) (cT _) hb (by simp only[aG,bD,bN];omega) (by simp only[aG,bD,bN];omega) (fun b' hb'=>?_)
  rw[show acc.map Tm.av++ [t.av]=(acc++ [t]).map Tm.av by simp] at hb' ⊢
  have hw1:=bO (n:=(e:Int)+1)
  simp only[aB,seval]
  refine(f0 s e 44 _).to ?_
  cases h3:bJ (sb s) e 44 with
  | true=>
   have h4:=jE h3
   rw[bL] at h4
   rw[h3,aU rfl] at ht
   simp only[hw1,aB,seval]
   refine⟨(e+1,acc++ [t],m,b'),by simp only;omega,⟨ht,by simp only;omega,by simp only[dI,bD,bN];omega,hb'⟩,aL.mk (by simp only[aB,seval]<;>rfl)⟩
  | false=>
   rw[h3,aS (by decide)] at ht
   simp only[rP,fM,true_and,aB,seval]
   refine fin _ _ _ hb' ?_
   subst ht
   simp only[mX,mI,dQ,nO,bT,bF]
abbrev Y6:Cl:=(vT,[])
def pL(o:Option Cl):AV:=match o with | some c=>.tup [a7 c,.bool true] | none=>.tup [a7 Y6,.bool false]
theorem kK:(AV.tup [.agg [.int .i64 0,.int .i64 0,.str ⟨#[]⟩,.fslice [],.fslice []],.bool false]).soft=pL none:=by simp only[pL,dO,iJ,kU,gR,yS,iK,jJ,bT,bF]
theorem BJ(c:Cl):(AV.tup [a7 c,.bool true]).soft=pL (some c):=by
 obtain⟨⟨k,n,s,ks⟩,ts⟩:=c
 simp only[pL,dO,iJ,kU,gR,yS,iK,qO,bT,bF]
theorem n4{l:List UInt8}{c:Cl}{e:Nat}(h:lH l=some (c,e))(h1:¬(l.length≤1000∧e+1=l.length∧bJ l e 46=true∧sb (fmtC c)=l)):jH l=none:=by
 unfold jH
 rw[h]
 simp only
 rw[aS h1]
theorem CT{l:List UInt8}{c:Cl}{e:Nat}(h:lH l=some (c,e))(h1:l.length≤1000∧e+1=l.length∧bJ l e 46=true∧sb (fmtC c)=l):jH l=some c:=by
 unfold jH
 rw[h]
 simp only
 rw[aU h1]
theorem C1{a b:ByteArray}(h:sb a=sb b):a=b:=by rw[←EN a,←EN b,h]
abbrev eM:=zi aZ (zi cB (zi hY (zi pF (zi b7 (zi cE (zi zA (zi bH hO)))))))
set_option maxHeartbeats 2000000 in
theorem W2(s:ByteArray)(st:aA):aD prog 218 [.str s] st (fun r st'=>r=pL (jH (sb s))∧st'=st):=by
 refine aD.done ?_
 refine wF [1000000,6] 1 func218 ntmps218 rfl rfl ?_
 intro _
 simp only[aB,seval,eM]
 intro b2 hb2
 have hD:=fun(o:AO)=>(aH.refl st).aC (o:=o) hb2
 by_cases hs:s.size≤1000
 case neg=>
  have hs':((1000:Int)<(s.size:Int))=True:=bR (by omega)
  have hP:jH (sb s)=none:=by
   unfold jH
   split
   · rfl
   · rw[aS fun h=>hs (by rw[←bL];exact h.1)]
  rw[hP]
  simp only[aF,hs',a8,aB,seval,eM]
  exact⟨kK,hD _⟩
 have hs':((1000:Int)<(s.size:Int))=False:=bC (by omega)
 have h0:=fun st=>FH hs 0 (i7 _) st
 rw[show((0:Nat):Int)=0 from rfl] at h0
 simp only[hs',bB,aB,seval]
 refine(h0 _).mono ?_
 rintro r _ ⟨hr,rfl⟩
 cases hRi:vG (sb s) 0 with
 | none=>
  have hP:jH (sb s)=none:=by unfold jH lH;rw[hRi]
  rw[hP]
  rw[hRi] at hr
  obtain⟨k,hk,rfl⟩:=hr
  have hk0:((-1 - (k:Int))<0)=True:=bR (by omega)
  simp only[aF,aR,bA,bW,hk0,gI,a8,aB,↓bG,seval,eM]
  exact⟨kK,hD _⟩
 | some p=>
  obtain⟨⟨hk,hn,hsn,hts⟩,e⟩:=p
  rw[hRi] at hr
  simp only[gX,a6] at hr
  subst hr
  obtain⟨g1,g2,g3⟩:=qM (by rw[bL];exact hs) _ _ _ 0 _ e (i7 _) hRi
  rw[bL] at g2
  have he0:((e:Int)<0)=False:=bC (by omega)
  obtain⟨f1,hf1⟩:∃f1,f1=e+1:=⟨_,rfl⟩
  obtain⟨f2,hf2⟩:∃f2,f2=e+2:=⟨_,rfl⟩
  have hw1:=iW (x:=(e:Int)+1) (m:=f1) (by omega) (by omega)
  have hw2:=iW (x:=(e:Int)+2) (m:=f2) (by omega) (by omega)
  simp only[aF,he0,bB,aB,↓bG,seval,eM]
  intro b6 h6
  have hbb:b6≠b2:=fun h=>by rw[h,aA.aP] at h6;cases h6
  have h6':st b6=none:=by rwa [aA.aV _ _ hbb] at h6
  have hE:∀o1 o2 o3,aH (((st.aC b2 o1).aC b6 o2).aC b2 o3) st:=fun o1 o2 o3=>((hD _).aC h6').aC hb2
  refine(f0 s e 58 _).to ?_
  by_cases hbd:(bJ (sb s) e 58&&bJ (sb s) (e+1) 45)=true
  case neg=>
   obtain⟨b,hb⟩:∃b:List Tm,b= []:=⟨_,rfl⟩
   have hcl:lH (sb s)=some ((.mk hk hn hsn hts,b),e):=by
    unfold lH
    rw[hRi,hb]
    simp only
    rw[aS hbd]
   obtain⟨e2,he2⟩:∃e2,e2=e:=⟨_,rfl⟩
   rw[←he2] at hcl
   cases h58:bJ (sb s) e 58 with
   | false=>
    simp only[aB,seval,eM]
    rw[←he2]
    have hdn:=(xH (by rw[bL];exact hs) hcl).2.2
    have hwl:=bO (n:=(s.size:Int) - 1)
    by_cases he:e2+1=s.size
    case neg=>
     rw[n4 hcl (fun h=>he (by rw[bL] at h;exact h.2.1))]
     have he':((e2:Int)=(s.size:Int) - 1)=False:=bC (by omega)
     simp only[aF,hwl,he',hbb.symm,bB,aB,seval,eM]
     exact⟨kK,hE _ _ _⟩
    have he':((e2:Int)=(s.size:Int) - 1)=True:=bR (by omega)
    simp only[hwl,he',a8,aB,seval]
    refine(f0 s e2 46 _).to ?_
    cases hd:bJ (sb s) e2 46 with
    | false=>
     rw[n4 hcl (fun h=>by rw[hd] at h;exact absurd h.2.2.1 (by decide))]
     simp only[aF,hbb.symm,aB,seval,eM]
     exact⟨kK,hE _ _ _⟩
    | true=>
     simp only[aB,seval,eM]
     refine(aD.lT (by rw[show dX [AV.agg [.int .i64 hk,.int .i64 hn,.str hsn,.slice (hts.map Tm.av),.fslice []]]= [a7 (.mk hk hn hsn hts,b)] by simp only[dX,dO,hb,iJ,gR,iK,qO,jJ,bT,bF]];exact A4 (.mk hk hn hsn hts,b) _):aD prog 284 _ _ _).to ?_
     by_cases hf:fmtC (.mk hk hn hsn hts,b)=s
     case neg=>
      rw[n4 hcl (fun h=>hf (C1 h.2.2.2))]
      have hf':=bC hf
      simp only[aF,hf',hbb.symm,bB,aB,seval,eM]
      exact⟨kK,hE _ _ _⟩
     rw[CT hcl ⟨by rw[bL];exact hs,by rw[bL];exact he,hd,by rw[hf]⟩]
     have hf':=bR hf
     simp only[hf',a8,aB,seval,eM]
     refine(aD.lT (by rw[show dX [AV.agg [.int .i64 hk,.int .i64 hn,.str hsn,.slice (hts.map Tm.av),.fslice []]]= [a7 (.mk hk hn hsn hts,b)] by simp only[dX,dO,hb,iJ,gR,iK,qO,jJ,bT,bF]];exact BC (.mk hk hn hsn hts,b) hdn.1.2 (by have:=hdn.2.1;omega) (fun x hx=>(hdn.2.2 x hx).2) _):aD prog 203 _ _ _).to ?_
     rw[dO]
     simp only[aF,hbb.symm,aB,seval,eM]
     rw[←dO]
     exact⟨BJ _,hE _ _ _⟩
   | true=>
    simp only[hw1,aB,seval]
    refine(f0 s f1 45 _).to ?_
    rw[h58,dH,←hf1] at hbd
    rw[show bJ (sb s) f1 45=false by simpa using hbd]
    simp only[aB,seval,eM]
    rw[←he2]
    have hdn:=(xH (by rw[bL];exact hs) hcl).2.2
    have hwl:=bO (n:=(s.size:Int) - 1)
    by_cases he:e2+1=s.size
    case neg=>
     rw[n4 hcl (fun h=>he (by rw[bL] at h;exact h.2.1))]
     have he':((e2:Int)=(s.size:Int) - 1)=False:=bC (by omega)
     simp only[aF,hwl,he',hbb.symm,bB,aB,seval,eM]
     exact⟨kK,hE _ _ _⟩
    have he':((e2:Int)=(s.size:Int) - 1)=True:=bR (by omega)
    simp only[hwl,he',a8,aB,seval]
    refine(f0 s e2 46 _).to ?_
    cases hd:bJ (sb s) e2 46 with
    | false=>
     rw[n4 hcl (fun h=>by rw[hd] at h;exact absurd h.2.2.1 (by decide))]
     simp only[aF,hbb.symm,aB,seval,eM]
     exact⟨kK,hE _ _ _⟩
    | true=>
     simp only[aB,seval,eM]
     refine(aD.lT (by rw[show dX [AV.agg [.int .i64 hk,.int .i64 hn,.str hsn,.slice (hts.map Tm.av),.fslice []]]= [a7 (.mk hk hn hsn hts,b)] by simp only[dX,dO,hb,iJ,gR,iK,qO,jJ,bT,bF]];exact A4 (.mk hk hn hsn hts,b) _):aD prog 284 _ _ _).to ?_
     by_cases hf:fmtC (.mk hk hn hsn hts,b)=s
     case neg=>
      rw[n4 hcl (fun h=>hf (C1 h.2.2.2))]
      have hf':=bC hf
      simp only[aF,hf',hbb.symm,bB,aB,seval,eM]
      exact⟨kK,hE _ _ _⟩
     rw[CT hcl ⟨by rw[bL];exact hs,by rw[bL];exact he,hd,by rw[hf]⟩]
     have hf':=bR hf
     simp only[hf',a8,aB,seval,eM]
     refine(aD.lT (by rw[show dX [AV.agg [.int .i64 hk,.int .i64 hn,.str hsn,.slice (hts.map Tm.av),.fslice []]]= [a7 (.mk hk hn hsn hts,b)] by simp only[dX,dO,hb,iJ,gR,iK,qO,jJ,bT,bF]];exact BC (.mk hk hn hsn hts,b) hdn.1.2 (by have:=hdn.2.1;omega) (fun x hx=>(hdn.2.2 x hx).2) _):aD prog 203 _ _ _).to ?_
     rw[dO]
     simp only[aF,hbb.symm,aB,seval,eM]
     rw[←dO]
     exact⟨BJ _,hE _ _ _⟩
  rw[bV,←hf1] at hbd
  have aBZ:=jE hbd.2
  rw[bL] at aBZ
  rw[hbd.1]
  simp only[hw1,aB,seval]
  refine(f0 s f1 45 _).to ?_
  rw[hbd.2]
  simp only[hw2,aB,seval]
  refine(YF hs f2 (by omega) _).mono ?_
  rintro r _ ⟨hr,rfl⟩
  cases hG:nS (sb s) 7 f2 [] with
  | none=>
   have hP:jH (sb s)=none:=by
    unfold jH lH
    rw[hRi]
    simp only
    rw[aU (by rw[←hf1,hbd.1,hbd.2];try rfl),←hf2,hG]
   rw[hP]
   rw[hG] at hr
   simp only[mX] at hr
   subst hr
   have hwl:=bO (n:=(s.size:Int) - 1)
   have he':((-1:Int)=(s.size:Int) - 1)=False:=bC (by omega)
   simp only[aF,hwl,he',hbb.symm,bB,aB,seval,eM]
   exact⟨kK,hE _ _ _⟩
  | some p=>
   obtain⟨b,e2⟩:=p
   rw[hG] at hr
   simp only[mX] at hr
   subst hr
   have hcl:lH (sb s)=some ((.mk hk hn hsn hts,b),e2):=by
    unfold lH
    rw[hRi]
    simp only
    rw[aU (by rw[←hf1,hbd.1,hbd.2];try rfl),←hf2,hG]
   have hg2:=QN (by rw[bL];exact hs) _ _ _ _ _ (by rw[bL];omega) (by simp) hG
   rw[bL] at hg2
   simp only[aF,aB,seval,eM]
   have hdn:=(xH (by rw[bL];exact hs) hcl).2.2
   have hwl:=bO (n:=(s.size:Int) - 1)
   by_cases he:e2+1=s.size
   case neg=>
    rw[n4 hcl (fun h=>he (by rw[bL] at h;exact h.2.1))]
    have he':((e2:Int)=(s.size:Int) - 1)=False:=bC (by omega)
    simp only[aF,hwl,he',hbb.symm,bB,aB,seval,eM]
    exact⟨kK,hE _ _ _⟩
   have he':((e2:Int)=(s.size:Int) - 1)=True:=bR (by omega)
   simp only[hwl,he',a8,aB,seval]
   refine(f0 s e2 46 _).to ?_
   cases hd:bJ (sb s) e2 46 with
   | false=>
    rw[n4 hcl (fun h=>by rw[hd] at h;exact absurd h.2.2.1 (by decide))]
    simp only[aF,hbb.symm,aB,seval,eM]
    exact⟨kK,hE _ _ _⟩
   | true=>
    simp only[aB,seval,eM]
    refine(aD.lT (by rw[show dX [AV.agg [.int .i64 hk,.int .i64 hn,.str hsn,.slice (hts.map Tm.av),.slice (b.map Tm.av)]]= [a7 (.mk hk hn hsn hts,b)] by simp only[dX,dO,AV.soft]];exact A4 (.mk hk hn hsn hts,b) _):aD prog 284 _ _ _).to ?_
    by_cases hf:fmtC (.mk hk hn hsn hts,b)=s
    case neg=>
     rw[n4 hcl (fun h=>hf (C1 h.2.2.2))]
     have hf':=bC hf
     simp only[aF,hf',hbb.symm,bB,aB,seval,eM]
     exact⟨kK,hE _ _ _⟩
    rw[CT hcl ⟨by rw[bL];exact hs,by rw[bL];exact he,hd,by rw[hf]⟩]
    have hf':=bR hf
    simp only[hf',a8,aB,seval,eM]
    refine(aD.lT (by rw[show dX [AV.agg [.int .i64 hk,.int .i64 hn,.str hsn,.slice (hts.map Tm.av),.slice (b.map Tm.av)]]= [a7 (.mk hk hn hsn hts,b)] by simp only[dX,dO,AV.soft]];exact BC (.mk hk hn hsn hts,b) hdn.1.2 (by have:=hdn.2.1;omega) (fun x hx=>(hdn.2.2 x hx).2) _):aD prog 203 _ _ _).to ?_
    rw[dO]
    simp only[aF,hbb.symm,aB,seval,eM]
    rw[←dO]
    exact⟨BJ _,hE _ _ _⟩
abbrev pD:=zi aZ (zi cE (zi bH hO))
theorem YB(k n:Int)(s:ByteArray)(ks ts:List Tm)(h1:(Tm.mk k n s ks).small=true)(h2:ts.length≤1048576)(h3:∀x∈ts,x.small=true)(st:aA):aD prog 203 [a7 (.mk k n s ks,ts)] st (fun r st'=>∃b,r=.agg [.int .i64 k,.int .i64 n,.str s,.slice (ks.map Tm.av),aT 4 b (ts.map Tm.av)]∧st'=aY st b (ts.map Tm.av)∧(ts.map Tm.av≠[]→st b=none)):=by
 have hhd:=fun st=>rU (.mk k n s ks) st h1
 simp only[a6] at hhd
 have IH:=fun(x:Tm) (hx:x∈ts) st=>rU x st (h3 x hx)
 have hlen:ts.length≤1048576:=h2
 refine aD.mH ?_
 simp only[dO]
 refine wF [] 1 func203 ntmps203 rfl rfl ?_
 simp only[dG,AV.fits,eJ,aG]
 intro ⟨_,_,_,_,hl,_⟩
 simp only[aB,seval,pD]
 intro b2 hb2
 refine(hhd _).to ?_
 simp only[aF,aB,seval,pD]
 intro c hc
 have hne:c≠b2:=by rintro rfl;rw[aA.aP] at hc;cases hc
 have hn2:st c=none:=by rw[aA.aV st _ hne] at hc;exact hc
 have iQ:b2≠c:=cV hne
 refine fW (σ:=Nat) [] [1,2,3] ts (fun i b=>(((ts.take i).map (fun y=>y)).map Tm.av≠[]→(aA.aC (st.aC b2 (.cells [AV.int .i64 0,AV.int .i64 0,AV.str ⟨#[]⟩,AV.fslice [],AV.fslice []])) c (.cells ([AV.int .i64 k,AV.int .i64 n,AV.str s,AV.slice (ks.map Tm.av)]++ [aT 4 b (((ts.take i).map (fun y=>y)).map Tm.av)]))) b=none)) (fun i b=>[(4,.int .i64 i)]) (fun i b=>cY (st.aC b2 (.cells [AV.int .i64 0,AV.int .i64 0,AV.str ⟨#[]⟩,AV.fslice [],AV.fslice []])) c b [AV.int .i64 k,AV.int .i64 n,AV.str s,AV.slice (ks.map Tm.av)] (((ts.take i).map (fun y=>y)).map Tm.av)) (by decide +kernel)
  ⟨0,fun h=>absurd rfl h,aL.mk (by simp only[aB,↓bG,seval])⟩ (fun i x b hx hlt b9 hdr hinv=>?_) (fun b hge hinv=>?_)
 case refine_1=>
  have hw:=bO (n:=(i:Int)+1)
  have cO:(((ts.take i).map (fun y=>y)).map Tm.av).length=i:=by simp only[aG,dZ];omega
  have htk:(ts.take (i+1)).map (fun y=>y)=(ts.take i).map (fun y=>y)++ [(fun y=>y) x]:=by rw[gW,hx];simp
  have hbo:=cH hinv
  simp only[aG,b9,aB,seval,pD]
  refine wP [(0,1),(2,1),(4,1),(1,2),(3,2),(5,1),(6,2),(7,2),(8,1),(9,0),(10,1),(11,0)] [0,2,4,1,3,5,6,7,8,10] mixed ?_
  simp only[cJ (av:=Tm.av) cS hx (aR x),aQ,aR,hbo,iM,eX,aB,seval,pD]
  refine eV (IH x (c8 hx) _) ?_
  simp only[aQ,aR,bW,eX,aB,seval,pD]
  refine eH cS gG gH rfl rfl (eR (aR _) (bA _)) (cT _) hinv (by simp only[cO,bD,bN];omega) (by simp only[cO,bD,bN];omega) (fun b' hb'=>?_)
  rw[show(((ts.take i).map (fun y=>y)).map Tm.av)++ [((fun y=>y) x).av]=((ts.take (i+1)).map (fun y=>y)).map Tm.av by rw[htk];simp] at hb' ⊢
  obtain⟨g1,g2,g3⟩:=kB hb'
  simp only[dM,dB] at g1 g3
  simp only[g3,jN,c5,aF,g1,hw,aF,aB,seval,pD]
  exact⟨b',g2,aL.mk (by simp only[aB,seval])⟩
 have hbo:=cH hinv
 rw[fZ] at hinv hbo ⊢
 simp only[aG,hge,aB,seval,pD]
 simp only[hbo,aF,aB,seval,pD]
 have hS:(st.aC b2 (.cells [AV.int .i64 0,AV.int .i64 0,AV.str ⟨#[]⟩,AV.fslice [],AV.fslice []])) b2≠none:=by rw[aA.aP];simp
 have h1:=dW hinv hS iQ
 rw[aA.aP] at h1
 simp only[h1,c5,aB,seval]
 obtain⟨h2,h3⟩:=fF (o:=.cells [AV.int .i64 k,AV.int .i64 n,AV.str s,AV.slice (ks.map Tm.av),aT 4 b ((ts.map fun y=>y).map Tm.av)]) hinv hS iQ
 simp only[dM,dB] at h2 h3
 rw[h2]
 have D:∀o o' o'',aH (((st.aC b2 o).aC c o').aC b2 o'') st:=fun o o' o''=>(((aH.refl _).aC hb2).aC hn2).aC hb2
 simp only[List.map_id'] at h3 ⊢
 exact⟨_,F3 (D _ _ _),b,rfl,rfl,fun h=>(D _ _ _ b).1 (h3 h)⟩
end Go.AW
namespace Go.AW
def vY:List ByteArray:=[⟨#[97,112,112,40,91,93,44,65,44,65,41,46,10,97,112,112,40,91,65,124,66,93,44,67,44,91,65,124,68,93,41,58,45,97,112,112,40,66,44,67,44,68,41,46,10]⟩,
 ⟨#[109,101,109,40,65,44,91,65,124,66,93,41,46,10,109,101,109,40,65,44,91,66,124,67,93,41,58,45,109,101,109,40,65,44,67,41,46,10]⟩,
 ⟨#[112,40,49,41,46,10,112,40,50,41,46,10,112,40,51,41,46,10,113,40,65,41,58,45,112,40,65,41,44,65,62,49,44,33,46,10,114,40,65,44,66,41,58,45,112,40,65,41,44,112,40,66,41,46,10]⟩,
 ⟨#[108,101,110,40,91,93,44,48,41,46,10,108,101,110,40,91,65,124,66,93,44,67,41,58,45,108,101,110,40,66,44,68,41,44,67,32,105,115,32,68,43,49,46,10]⟩,
 ⟨#[109,97,120,40,65,44,66,44,65,41,58,45,65,62,61,66,44,33,46,10,109,97,120,40,65,44,66,44,66,41,46,10]⟩,
 ⟨#[101,40,97,44,98,41,46,10,101,40,98,44,99,41,46,10,101,40,99,44,100,41,46,10,116,40,65,44,66,41,58,45,101,40,65,44,66,41,46,10,116,40,65,44,66,41,58,45,101,40,65,44,67,41,44,116,40,67,44,66,41,46,10]⟩,
 ⟨#[108,111,111,112,58,45,108,111,111,112,46,10,111,107,46,10]⟩,
 ⟨#[102,97,99,40,48,44,49,41,58,45,33,46,10,102,97,99,40,65,44,66,41,58,45,65,62,48,44,67,32,105,115,32,65,45,49,44,102,97,99,40,67,44,68,41,44,66,32,105,115,32,65,42,68,46,10]⟩,
 ⟨#[115,40,65,41,58,45,65,61,102,40,66,41,44,97,114,103,40,49,44,65,44,66,41,44,66,61,49,46,10,115,40,65,41,58,45,118,97,114,40,65,41,44,65,61,110,111,110,101,46,10]⟩,
 ⟨#[114,101,118,40,91,93,44,65,44,65,41,46,10,114,101,118,40,91,65,124,66,93,44,67,44,68,41,58,45,114,101,118,40,66,44,91,65,124,67,93,44,68,41,46,10]⟩,
 ⟨#[98,97,100,40,65,41,58,45,66,32,105,115,32,65,43,102,111,111,44,67,61,66,46,10,98,105,103,40,65,41,58,45,65,32,105,115,32,57,57,57,43,49,46,10,117,110,40,65,41,58,45,110,111,115,117,99,104,40,65,41,46,10]⟩]
def CS(s:ByteArray):Bool:=decide (s.size≤200)&&match oY (sb s) with | some l=>decide (2≤l.length)&&decide (l.length≤20) | none=>false
theorem aGC:vY.all CS=true:=by decide +kernel
theorem aGD:vY.all (fun s=>match oY (sb s) with | some l=>gQ l | none=>false)=true:=by decide +kernel
end Go.AW
namespace Go.AW
open Go.Proofs.Tryz
def gP(p:List UInt8):AV:=.str (ba p)
theorem SB(l:List (List UInt8)):∀e∈l.map gP,e.width=1:=by intro e h;simp only[fN] at h;obtain⟨t,_,rfl⟩:=h;rfl
theorem aEA(l:List (List UInt8)):∀e∈l.map gP,e.bP=false:=by intro e h;simp only[fN] at h;obtain⟨t,_,rfl⟩:=h;rfl
abbrev vR:=zi aZ (zi hY (zi b7 jK))
set_option maxHeartbeats 1000000 in
theorem XM(s:ByteArray)(c:Nat)(hs:s.size≤1048576)(st:aA):aD prog 217 [.str s,.int .u8 (c:Int)] st (fun r st'=>r=.slice ((iO c (sb s) []).map gP)∧st'=st):=by
 generalize hT:iO c (sb s) []=T
 refine aD.oN (aD.fin ?_)
 refine wF [1000000] 2 func217 ntmps217 rfl rfl ?_
 intro _
 simp only[aB,seval,vR]
 refine fH (σ:=List (List UInt8)×Nat×Nat×Nat) [1000000] [0,1,4] (fun x=>((x.2.2.1≤s.size∧x.2.1≤x.2.2.1∧x.1++iO c ((sb s).drop x.2.2.1) (((sb s).drop x.2.1).take (x.2.2.1 - x.2.1))=T)∨(x.2.2.1=s.size+1∧x.2.1≤s.size+1∧x.1=T))∧x.1.length≤x.2.2.1∧(x.1.map gP≠[]→st x.2.2.2=none)) (fun x=>[(5,aT 1 x.2.2.2 (x.1.map gP)),(6,.int .i64 (x.2.1:Int)),(7,.int .i64 (x.2.2.1:Int))]) (fun x=>aY st x.2.2.2 (x.1.map gP)) (fun x=>s.size+1 - x.2.2.1) (by decide +kernel) ⟨([],0,0,0),⟨Or.inl ⟨i7 _,dJ _,hT⟩,i7 _,by simp⟩,aL.mk (by simp only[bF,kJ,aB,↓bG,seval])⟩ ?_
 rintro⟨out,f,i,b⟩ ⟨ht,hlen,hb⟩
 simp only at ht hlen hb ⊢
 by_cases hi:i≤s.size
 case neg=>
  obtain⟨h1,h2,rfl⟩:i=s.size+1∧f≤s.size+1∧out=T:=by
   rcases ht with h | h
   · exact absurd h.1 hi
   · exact h
  have hi':((i:Int)≤(s.size:Int))=False:=bC (by omega)
  simp only[hi',bB,aB,seval,vR]
  exact⟨b,_,st,rfl,hb,aEA _,⟨1,SB _⟩,by rw[eG],aH.refl _⟩
 obtain⟨-,hfi,ht⟩:i≤s.size∧f≤i∧out++iO c ((sb s).drop i) (((sb s).drop f).take (i - f))=T:=by
  rcases ht with h | h
  · exact h
  · omega
 have hi':((i:Int)≤(s.size:Int))=True:=bR (by omega)
 have hw:=bO (n:=(i:Int)+1)
 have hsl:=fun(φ:AF) (y z:Operand) (h:φ.eval y=.int .i64 (f:Int)) (h':φ.eval z=.int .i64 (i:Int))=>vL (s:=s) h h' hfi hi
 rw[uE] at hsl
 generalize hp:((sb s).drop f).take (i - f)=p at *
 have xW:∀(K:AV→aA→Prop),(∀b',((out++ [p]).map gP≠[]→st b'=none)→K (aT 1 b' ((out++ [p]).map gP)) (aY st b' ((out++ [p]).map gP)))→iL prog 148 (aY st b (out.map gP)) (aT 1 b (out.map gP)) (.fslice [.str (ba p)]) K:=by
  intro K hK
  refine eH nN F5 F7 rfl rfl (eR rfl rfl) (SB _) hb (by simp only[aG,bD,bN];omega) (by simp only[aG,bD,bN];omega) (fun b' hb'=>?_)
  rw[show out.map gP++ [AV.str (ba p)]=(out++ [p]).map gP by simp [gP]] at hb' ⊢
  exact hK b' hb'
 by_cases hie:i=s.size
 case pos=>
  have x8:((i:Int)=(s.size:Int))=True:=bR (by omega)
  rw[wD (by rw[bL];omega)] at ht
  simp only[iO] at ht
  simp only[hi',x8,hsl,a8,aB,seval,vR]
  refine xW _ fun b' hb'=>?_
  simp only[hw,aB,seval]
  refine⟨(out++ [p],i+1,i+1,b'),by simp only;omega,⟨Or.inr ⟨by simp only;omega,by simp only;omega,ht⟩,by simp only[dI,bD,bN];omega,hb'⟩,aL.mk (by simp only[aB,seval]<;>exact⟨rfl,rfl⟩)⟩
 have x8:((i:Int)=(s.size:Int))=False:=bC (by omega)
 obtain⟨x,hx⟩:=nI (s:=s) (n:=i) (by omega)
 have hix:=lN (P:=prog) (t:=9) kZ hx
 obtain⟨hx1,hx2⟩:=fY.1 hx
 rw[q7 hx1,hx2] at ht
 unfold iO at ht
 by_cases hxc:x.toNat=c
 · rw[aU hxc] at ht
   have CH:((x.toNat:Int)=(c:Int))=True:=bR (by omega)
   simp only[hi',x8,hsl,hix,CH,a8,bB,aB,seval,vR]
   refine xW _ fun b' hb'=>?_
   simp only[hw,aB,seval]
   refine⟨(out++ [p],i+1,i+1,b'),by simp only;omega,⟨Or.inl ⟨by simp only;omega,dJ _,by rw[←ht];simp⟩,by simp only[dI,bD,bN];omega,hb'⟩,aL.mk (by simp only[aB,seval]<;>exact⟨rfl,rfl⟩)⟩
 · rw[aS hxc] at ht
   have CH:((x.toNat:Int)=(c:Int))=False:=bC (by omega)
   have hp':((sb s).drop f).take (i+1 - f)=p++ [x]:=by
    rw[show i+1 - f=(i - f)+1 by omega,gW,hp,List.getElem?_drop,show f+(i - f)=i by omega,hx];try rfl
   simp only[hi',x8,hw,hix,CH,a8,bB,aB,seval,vR]
   refine⟨(out,f,i+1,b),by simp only;omega,⟨Or.inl ⟨by simp only;omega,by simp only;omega,by simp only;rw[hp'];exact ht⟩,by simp only;omega,hb⟩,aL.mk (by simp only[aB,seval]<;>rfl)⟩
def tR(o:Option (List Cl))(r:AV):Prop:=match o with | some l=>r=.tup [.slice (l.map a7),.bool true] | none=>r=.tup [.slice [],.bool false]
theorem FV:∀(ls:List (List UInt8)) (acc r:List Cl),(∀c∈acc,nL c∧gF c=true)→qE ls acc=some r→(∀c∈r,nL c∧gF c=true)∧r.length=acc.length+ls.length
 | [],acc,r,h,h1=>by cases h1;exact⟨h,rfl⟩
 | l::ls,acc,r,h,h1=>by
  unfold qE at h1
  split at h1
  · cases h1
  rename_i c h2
  have:=FV ls (acc++ [c]) r (by intro x hx;rw[iY,wK] at hx;rcases hx with hx | rfl;exact h x hx;exact SA h2) h1
  refine⟨this.1,?_⟩
  rw[this.2]
  simp only[dI,bD,bN]
  omega
abbrev pB:=zi aZ (zi cB (zi hY (zi pF (zi b7 (zi aF1 (zi hQ (zi jK hO)))))))
set_option maxHeartbeats 1000000 in
theorem W3(s:ByteArray)(hs:s.size≤100000)(st:aA):aD prog 130 [.str s] st (fun r st'=>tR (oY (sb s)) r∧st'=st):=by
 generalize hP:oY (sb s)=T
 unfold oY at hP
 simp only at hP
 have QV:=fun st=>XM s 10 (by omega) st
 rw[show((10:Nat):Int)=10 from rfl] at QV
 have hne:=FX 10 (sb s) []
 have hcl:=BK 10 (sb s) []
 rw[bL] at hcl
 generalize iO 10 (sb s) []=L at *
 obtain⟨m,hm⟩:∃m,L.length=m+1:=⟨L.length - 1,by have:=List.length_pos_iff.2 hne;omega⟩
 obtain⟨y,hy⟩:∃y,L[m]?=some y:=⟨_,eA (by omega)⟩
 have hgl:L.getLast?=some y:=by rw[List.getLast?_eq_getElem?,hm];exact hy
 rw[hgl] at hP
 refine aD.drop (Q:=tR T) (aD.fin ?_)
 have uX:T=none→∀(b:Nat) (l:List Cl) (s0:aA),(l.map a7≠[]→s0 b=none)→aH s0 st→∃b2 l2 s1,aY s0 b (l.map a7)=aY s1 b2 l2∧(l2≠[]→s1 b2=none)∧(∀e∈l2,e.bP=false)∧eW l2∧aH s1 st∧tR T ((AV.tup [.fslice [],.bool false]).fin b2 l2):=by
  rintro rfl b l s0 hb hD
  exact⟨b,_,s0,rfl,hb,xG _,⟨5,pU _⟩,hD,by simp only[tR,mI,QI,r7,bT,bF]⟩
 refine wF [1000000] 1 func130 ntmps130 rfl rfl ?_
 intro _
 simp only[aB,seval,pB]
 refine(QV _).to ?_
 have hat:=cJ (av:=gP) nN hy rfl
 have hw0:=iW (x:=(L.length:Int) - 1) (m:=m) (by omega) (by omega)
 by_cases h21:21<L.length
 case pos=>
  rw[aU (Or.inl h21)] at hP
  have xV:((21:Int)<(L.length:Int))=True:=bR (by omega)
  simp only[aG,xV,a8,aB,seval,pB]
  exact uX hP.symm 0 [] st (by simp) (aH.refl _)
 have xV:((21:Int)<(L.length:Int))=False:=bC (by omega)
 by_cases hye:y= []
 case neg=>
  rw[aU (Or.inr (by simpa using hye))] at hP
  have CI:(ba y=⟨#[]⟩)=False:=bC fun h=>hye (by have:=fR sb h;exact this)
  simp only[aG,xV,hw0,hat,gP,CI,bB,aB,seval,pB]
  exact uX hP.symm 0 [] st (by simp) (aH.refl _)
 rw[aS (by rintro(h | h);exact h21 h;exact h (by rw[hye]))] at hP
 have CI:(ba y=⟨#[]⟩)=True:=bR (by rw[hye])
 simp only[aG,xV,hw0,hat,gP,CI,a8,bB,aB,seval,pB]
 refine fH (σ:=Nat×List Cl×Nat) [1000000] [5] (fun x=>x.1≤m∧qE (L.dropLast.drop x.1) x.2.1=T∧x.2.1.length=x.1∧(∀c∈x.2.1,nL c)∧(x.2.1.map a7≠[]→st x.2.2=none)) (fun x=>[(2,.fslice []),(3,.bool false),(4,aT 5 x.2.2 (x.2.1.map a7)),(6,.int .i64 (x.1:Int))]) (fun x=>aY st x.2.2 (x.2.1.map a7)) (fun x=>m - x.1) (by decide +kernel) ⟨(0,[],0),⟨i7 _,hP,rfl,by simp,by simp⟩,aL.mk (by simp only[bF,kJ,aB,↓bG,seval])⟩ ?_
 rintro⟨i,acc,b⟩ ⟨hi,ht,hlen,hdn,hb⟩
 simp only at hi ht hlen hdn hb ⊢
 have hdl:L.dropLast.length=m:=by rw[List.length_dropLast,hm];try rfl
 have hw1:=bO (n:=(i:Int)+1)
 by_cases him:i<m
 case neg=>
  have B5:((i:Int)+1<(L.length:Int))=False:=bC (by omega)
  rw[wD (by omega)] at ht
  simp only[qE] at ht
  simp only[aG,B5,hw1,rP,fM,true_and,bB,aB,seval,pB]
  exact⟨b,_,st,rfl,hb,xG _,⟨5,pU _⟩,aH.refl _,by rw[←ht];simp only[tR,mI,QI,nO,bT,bF]⟩
 have B5:((i:Int)+1<(L.length:Int))=True:=bR (by omega)
 obtain⟨z,hz⟩:∃z,L[i]?=some z:=⟨_,eA (by omega)⟩
 have hz2:L.dropLast[i]?=some z:=by rw[List.getElem?_dropLast,aU (by omega)];exact hz
 obtain⟨hz3,hz4⟩:=fY.1 hz2
 rw[q7 hz3,hz4] at ht
 unfold qE at ht
 have aBP:=cJ (av:=gP) nN hz rfl
 have hpc:=W2 (ba z)
 rw[show sb (ba z)=z from rfl] at hpc
 simp only[aG,B5,hw1,aBP,gP,a8,aB,seval,pB]
 refine(hpc _).to ?_
 cases hc:jH z with
 | none=>
  rw[hc] at ht
  simp only[pL,dO,aB,↓bG,seval,pB]
  exact uX ht.symm b acc st hb (aH.refl _)
 | some c=>
  rw[hc] at ht
  simp only at ht
  have hcd:=(SA hc).1
  have hca:=rZ c
  have hcw:=jC c
  have hcj:=xF c
  have hcs:=FU c
  have hcc:=FT c
  simp only[pL,hca,hcw,hcj,hcs,aB,↓bG,seval,pB]
  refine eH j4 xM xO rfl rfl (eR hcw hcs) (pU _) hb (by simp only[aG,bD,bN];omega) (by simp only[aG,bD,bN];omega) (fun b' hb'=>?_)
  rw[show acc.map a7++ [a7 c]=(acc++ [c]).map a7 by simp] at hb' ⊢
  simp only[hw1,aB,seval]
  refine⟨(i+1,acc++ [c],b'),by simp only;omega,⟨by simp only;omega,ht,by simp only[dI,bD,bN];omega,?_,hb'⟩,aL.mk (by simp only[aB,seval]<;>rfl)⟩
  intro x hx
  rw[iY,wK] at hx
  rcases hx with hx | rfl
  · exact hdn x hx
  · exact hcd

end Go.AW
namespace Go.AW
section
variable {h:aN} {st:aA}
end

theorem l7.fin{s0:aA}{b:Nat}{l:List AV}{r:AV}(h0:l≠[]→s0 b=none)(h2:∀e∈l,e.bP=false)(h3:eW l):rC (aY s0 b l) s0∧l7 (aY s0 b l) r s0 (r.fin b l):=by
 cases l with
 | nil=>exact⟨(aH.refl _).lX,fun h v S y=>y.soft⟩
 | cons e l=>
  have hb:=h0 (by simp)
  have h1:aY s0 b (e::l) b=some (.cells ((e::l).flatMap AV.cells)):=by simp only[aY,aA.aP]
  have e1:(aY s0 b (e::l)).erase b=s0:=by simp only[aY];exact aA.pV _ _ _ hb
  refine⟨?_,fun h v S y=>?_⟩
  · have:=(eP (aY s0 b (e::l)) b).lX
    rwa [e1] at this
  · have:=y.fz S h1 h2 h3
    rw[e1] at this
    exact this.soft
theorem l7.tail{s0:aA}{b k w:Nat}{l:List AV}(hb:s0 b=none)(hk:k<l.length)(h2:∀e∈l,e.bP=false)(hw:∀e∈l,e.width=w):rC (aY s0 b l) s0∧l7 (aY s0 b l) (.mslice b (k*w) (l.length - k) w) s0 (.slice (l.drop k)):=by
 have hl:l≠[]:=by rintro rfl;simp at hk
 have h1:aY s0 b l b=some (.cells (l.flatMap AV.cells)):=by rw[oF hl,aA.aP]
 have e1:(aY s0 b l).erase b=s0:=by rw[oF hl];exact aA.pV _ _ _ hb
 refine⟨?_,fun h v S y=>?_⟩
 · have:=(eP (aY s0 b l) b).lX
   rwa [e1] at this
 · obtain⟨f1,f2⟩:=frozen S h1 h2
   rw[e1] at f2
   obtain⟨cap,hv,l1,l2,_⟩:=y.qF
   have hE:=bY.drop k hw f2
   rw[eX] at hE
   subst hv
   refine⟨rfl,?_⟩
   unfold VC
   exact .inr ⟨b,k*w,cap,by rw[kG];try rfl,by rw[kG];exact l1,l2,hb,f1,⟨w,fun e he=>hw e (List.mem_of_mem_drop he)⟩,hE⟩
theorem aD.aBB{P:Program}{g:FuncId}{args:List AV}{st:aA}{Q:AV→aA→Prop}(x:aD P g args st (fun r st'=>∃r2 s2,(rC st' s2∧l7 st' r s2 r2)∧Q r2 s2)):aD P g args st Q:=
 x.iA fun r st' ⟨r2,s2,⟨h1,h2⟩,h3⟩=>⟨r2,s2,h1,h2,h3⟩
end Go.AW
namespace Go.AW
open Go.Proofs.Tryz
theorem aE3{P:Program}{t:TypeId}{ag:Bool}{w b n:Nat}(hI:eI P t=some (ag,w))(h1:1<n)(φ:AF):i8 P φ t (.mslice b 0 n w) (some (.const (.int .i64 1))) none none=some (.mslice b (0+1*w) (n - 1) w):=by
 have h2:dN φ none n n=some n:=rfl
 have h3:dN φ (some (.const (.int .i64 1))) 0 n=some 1:=by
  show(if((0:Nat):Int)≤1∧(1:Int)≤(n:Int) then some (Int.toNat 1) else none)=some 1
  rw[aU ⟨by omega,by omega⟩]
  try rfl
 unfold i8 nE
 rw[aS (by simp [qB])]
 simp only[hI,h2,h3]
 rw[aU trivial,aS (by decide),aU h1]
def zG:Cl:=(.mk 3 0 ⟨#[122]⟩ [],[])
theorem YK(st:aA):aD prog 129 [] st (fun r st'=>r=.slice (vY.map AV.str)∧st'=st):=by
 refine aD.done ?_
 refine wF [1000000] 0 func129 ntmps129 rfl rfl ?_
 intro _
 simp only[aB,seval,jK]
 exact⟨rfl,aH.refl _⟩
abbrev iU:=zi aZ (zi b7 (zi cE (zi bH (zi iV (zi jK hO)))))
set_option maxHeartbeats 2000000 in
theorem YH(bs:List Bt)(c p:Nat)(cl:Cl)(hcl:nL cl)(hNb:Ng cl.1)(st:aA)(hp:p+6000≤1099511627776)(hR:bE st c bs p) :
 aD prog 150 [.ptr c 0,a7 cl] st (Dr bs c p 6000 st (fun r=>∃cl':Cl,Ng cl'.1∧r=a7 cl')):=by
 obtain⟨⟨k,n,s,ks⟩,ts⟩:=cl
 obtain⟨d1,d2,d3⟩:=hcl
 simp only at d1 d2 d3
 have hcp:=fun st=>YB k n s ks ts d1.2 (by omega) (fun x hx=>(d3 x hx).2) st
 simp only[dO] at hcp ⊢
 refine aD.mH (aD.fin ?_)
 refine wF [1000000,5] 2 func150 ntmps150 rfl rfl ?_
 intro _
 simp only[aB,seval,iU]
 intro b4 h4
 have h4c:=hR.ne h4
 have hR':=fun o=>hR.aC (o:=o) h4c
 refine(hcp _).mono ?_
 rintro _ _ ⟨b,rfl,rfl,hb⟩
 simp only[c5,aF,aB,↓bG,seval,iU]
 intro b5 h5
 obtain⟨hn5,hb5⟩:=AS h5
 have h54:b5≠b4:=by rintro rfl;rw[aA.aP] at hn5;cases hn5
 have uV:st b5=none:=by rw[aA.aV _ _ h54] at hn5;exact hn5
 have h5c:b5≠c:=hR.ne uV
 have hW4:∀q,((st.aC b4 (.cells [.int .i64 0,.int .i64 0,.str ⟨#[]⟩,.fslice [],.fslice []])).aC c (aK bs q)) b4=some (.cells [.int .i64 0,.int .i64 0,.str ⟨#[]⟩,.fslice [],.fslice []]):=fun q=>by rw[aA.aV _ _ h4c,aA.aP]
 have hdr:∀q Z Y,aH ((((st.aC b4 (.cells [.int .i64 0,.int .i64 0,.str ⟨#[]⟩,.fslice [],.fslice []])).aC c (aK bs q)).aC b5 Z).aC b4 Y) (st.aC c (aK bs q)):=fun q Z Y x=>by
  by_cases e4:x=b4<;>by_cases ec:x=c<;>by_cases e5:x=b5<;>simp_all [aA.aC]
 have e0:(aY (st.aC b4 (.cells [.int .i64 0,.int .i64 0,.str ⟨#[]⟩,.fslice [],.fslice []])) b (ts.map Tm.av)).aC b5 (.cells [.int .i64 k,.int .i64 n,.str s,.slice (ks.map Tm.av),aT 4 b (ts.map Tm.av)])=cY (st.aC b4 (.cells [.int .i64 0,.int .i64 0,.str ⟨#[]⟩,.fslice [],.fslice []])) b5 b [.int .i64 k,.int .i64 n,.str s,.slice (ks.map Tm.av)] (ts.map Tm.av):=by
  rw[jA hb5];try rfl
 have i0:ts.map Tm.av≠[]→((st.aC b4 (.cells [.int .i64 0,.int .i64 0,.str ⟨#[]⟩,.fslice [],.fslice []])).aC b5 (.cells ([.int .i64 k,.int .i64 n,.str s,.slice (ks.map Tm.av)]++ [aT 4 b (ts.map Tm.av)]))) b=none:=fun h=>by
  rw[aA.aV _ _ (cV (hb5 h))];exact hb h
 have hUc:(st.aC b4 (.cells [.int .i64 0,.int .i64 0,.str ⟨#[]⟩,.fslice [],.fslice []])) c≠none:=by rw[hR' _];simp
 rw[e0]
 have hRk:bE (cY (st.aC b4 (.cells [.int .i64 0,.int .i64 0,.str ⟨#[]⟩,.fslice [],.fslice []])) b5 b [.int .i64 k,.int .i64 n,.str s,.slice (ks.map Tm.av)] (ts.map Tm.av)) c bs p:=by
  unfold bE
  rw[dW i0 hUc h5c.symm]
  exact hR' _
 refine(fQ bs c p (by omega) 40 (by omega) (by omega) _ hRk).mono ?_
 rintro _ _ ⟨j,hj,rfl,rfl⟩
 obtain⟨e1,i1⟩:=iR (o:=aK bs (p+1)) i0 hUc h5c.symm
 rw[e1]
 have hWc:∀q,((st.aC b4 (.cells [.int .i64 0,.int .i64 0,.str ⟨#[]⟩,.fslice [],.fslice []])).aC c (aK bs q)) c≠none:=fun q=>by rw[aA.aP];simp
 have hRq:∀q (hd l:List AV),(l≠[]→(((st.aC b4 (.cells [.int .i64 0,.int .i64 0,.str ⟨#[]⟩,.fslice [],.fslice []])).aC c (aK bs q)).aC b5 (.cells (hd++ [aT 4 b l]))) b=none)→bE (cY ((st.aC b4 (.cells [.int .i64 0,.int .i64 0,.str ⟨#[]⟩,.fslice [],.fslice []])).aC c (aK bs q)) b5 b hd l) c bs q:=fun q hd l hi=>by
  unfold bE
  rw[dW hi (hWc q) h5c.symm,aA.aP]
  try rfl
 clear e0 i0 hRk e1
 simp only[aB,seval]
 refine aW (fun h0=>?_) (fun h0=>?_)
 · simp only[aB,seval]
   refine(xD bs c (p+1) _ (by omega) (hRq _ _ _ i1)).mono ?_
   rintro _ _ ⟨p1,q1,q2,rfl,t1,ht1,rfl⟩
   obtain⟨e1,i1⟩:=iR (o:=aK bs p1) i1 (hWc _) h5c.symm
   rw[bM] at e1 i1
   rw[e1]
   simp only[aB,seval]
   refine(uG bs c p1 t1 ⟨ht1.1.2,ht1.2⟩ _ (by omega) (hRq _ _ _ i1)).mono ?_
   rintro _ _ ⟨p2,r1,r2,rfl,⟨k',n',s',ks'⟩,hnu,rfl⟩
   obtain⟨e1,i1⟩:=iR (o:=aK bs p2) i1 (hWc _) h5c.symm
   rw[bM] at e1 i1
   rw[e1]
   have hbo:=cH i1
   obtain⟨e2,i1⟩:=oV (hd':=[.int .i64 k',.int .i64 n',.str s',.slice (ks'.map Tm.av)]) i1
   simp only[dM,dB] at e2
   rw[a6]
   simp only[aF,hbo,aB,seval,iU]
   rw[e2]
   have hbo:=cH i1
   have h4o:=dW i1 (x:=b4) (by rw[hW4];simp) h54.symm
   rw[hW4] at h4o
   simp only[h4o,c5,aB,seval]
   obtain⟨g5,g6⟩:=fF (o:=.cells [.int .i64 (k'),.int .i64 (n'),.str (s'),.slice ((ks').map Tm.av),aT 4 b ((ts).map Tm.av)]) i1 (show((st.aC b4 (.cells [.int .i64 0,.int .i64 0,.str ⟨#[]⟩,.fslice [],.fslice []])).aC c (aK bs (p2))) b4≠none by rw[hW4];simp) h54.symm
   refine⟨b,_,_,g5,g6,d8 _,⟨4,cT _⟩,st.aC c (aK bs (p2)),hdr _ _ _,p2,by omega,by omega,rfl,(.mk (k') (n') (s') (ks'),ts),hnu,?_⟩
   simp only[eC,bT,bF,dQ,d7,j5,eG,dO]
 simp only[aB,seval]
 refine aW (fun h0=>?_) (fun h0=>?_)
 · have hbo:=cH i1
   simp only[aB,seval]
   refine k0 [(0,1),(1,1),(2,1),(3,1),(4,0),(5,0),(6,1),(7,0),(8,1),(9,2)] [0,1,2,3,6,8] (g7.aC b5 (.cells [.int .i64 k,.int .i64 n,.str s,.slice (ks.map Tm.av),aT 4 b (ts.map Tm.av)])) mixed (by decide +kernel) (by decide +kernel) (by decide +kernel) rfl (eQ hbo) ?_
   simp only[iM,aB,seval,iU]
   refine(xD bs c (p+1) _ (by omega) (hRq _ _ _ i1)).mono ?_
   rintro _ _ ⟨p1,q1,q2,rfl,t1,ht1,rfl⟩
   obtain⟨e1,i1⟩:=iR (o:=aK bs p1) i1 (hWc _) h5c.symm
   rw[bM] at e1 i1
   rw[e1]
   have hbo:=cH i1
   simp only[aB,seval]
   refine⟨eQ hbo,?_⟩
   refine(uG bs c p1 t1 ⟨ht1.1.2,ht1.2⟩ _ (by omega) (hRq _ _ _ i1)).mono ?_
   rintro _ _ ⟨p2,r1,r2,rfl,t2,_,rfl⟩
   obtain⟨e1,i1⟩:=iR (o:=aK bs p2) i1 (hWc _) h5c.symm
   rw[bM] at e1 i1
   rw[e1]
   have hbo:=cH i1
   simp only[aQ,aR,bW,aB,seval,iU]
   refine⟨eQ hbo,?_⟩
   refine eH cS gG gH rfl rfl (eR (aR _) (bA _)) (cT _) i1 (by simp only[aG,bD,bN];omega) (by simp only[aG,bD,bN];omega) (fun b' hb'=>?_)
   rw[show ts.map Tm.av++ [t2.av]=(ts++ [t2]).map Tm.av by simp] at hb' ⊢
   obtain⟨g1,g2,g3⟩:=kB hb'
   simp only[dM,dB] at g1 g3
   simp only[aF,c5,jN,aB,seval,iU]
   refine⟨eQ g3,?_⟩
   simp only[g3,g1,aF,c5,aB,seval,iU]
   have hbo:=cH g2
   have h4o:=dW g2 (x:=b4) (by rw[hW4];simp) h54.symm
   rw[hW4] at h4o
   simp only[h4o,aB,seval]
   obtain⟨g5,g6⟩:=fF (o:=.cells [.int .i64 (k),.int .i64 (n),.str (s),.slice ((ks).map Tm.av),aT 4 b' ((ts++ [t2]).map Tm.av)]) g2 (show((st.aC b4 (.cells [.int .i64 0,.int .i64 0,.str ⟨#[]⟩,.fslice [],.fslice []])).aC c (aK bs (p2))) b4≠none by rw[hW4];simp) h54.symm
   refine⟨b',_,_,g5,g6,d8 _,⟨4,cT _⟩,st.aC c (aK bs (p2)),hdr _ _ _,p2,by omega,by omega,rfl,(.mk (k) (n) (s) (ks),ts++ [t2]),hNb,?_⟩
   simp only[eC,bT,bF,dQ,d7,j5,eG,dO]
 simp only[aB,seval]
 refine aW (fun h0=>?_) (fun h0=>?_)
 · simp only[aB,seval]
   refine fH (σ:=Nat×List Tm) [1000000,5] [0,4,5,9] (fun x=>(x.2.map Tm.av≠[]→(aA.aC ((st.aC b4 (.cells [.int .i64 0,.int .i64 0,.str ⟨#[]⟩,.fslice [],.fslice []])).aC c (aK bs (p+1))) b5 (.cells ([.int .i64 k,.int .i64 n,.str s,.slice (ks.map Tm.av)]++ [aT 4 x.1 (x.2.map Tm.av)]))) x.1=none)) (fun _=>[]) (fun x=>cY ((st.aC b4 (.cells [.int .i64 0,.int .i64 0,.str ⟨#[]⟩,.fslice [],.fslice []])).aC c (aK bs (p+1))) b5 x.1 [.int .i64 k,.int .i64 n,.str s,.slice (ks.map Tm.av)] (x.2.map Tm.av)) (fun x=>7 - x.2.length) (by decide +kernel) ⟨(b,ts),i1,aL.mk (by simp only[aB,seval])⟩ ?_
   rintro⟨b,acc⟩ i1
   simp only at i1
   have hbo:=cH i1
   have haL:=t7 (w:=4) (b:=b) (l:=acc.map Tm.av) zR
   simp only[hbo,iM,haL,aG,aB,seval,iU]
   refine aW (fun h1=>?_) (fun h1=>?_)
   · simp only[bK] at h1
     have cO:(acc.map Tm.av).length≤6:=by rw[aG];omega
     simp only[aB,seval]
     refine k0 [(0,1),(1,1),(2,0),(3,1),(4,0),(5,1),(6,2)] [0,1,3,5] (g7.aC b5 (.cells [.int .i64 k,.int .i64 n,.str s,.slice (ks.map Tm.av),aT 4 b (acc.map Tm.av)])) mixed (by decide +kernel) (by decide +kernel) (by decide +kernel) rfl (eQ hbo) ?_
     simp only[iM,aB,seval,iU]
     refine(jP ⟨#[116,114,117,101]⟩ [] (by simp) _).to ?_
     simp only[aQ,aR,bW,aB,seval,iU]
     refine⟨eQ hbo,?_⟩
     refine eH cS gG gH rfl rfl (eR (aR _) (bA _)) (cT _) i1 (by simp only[bD,bN];omega) (by simp only[bD,bN];omega) (fun b' hb'=>?_)
     rw[show acc.map Tm.av++ [(Tm.mk 3 0 ⟨#[116,114,117,101]⟩ []).av]=(acc++ [Tm.mk 3 0 ⟨#[116,114,117,101]⟩ []]).map Tm.av by simp] at hb' ⊢
     obtain⟨g1,g2,g3⟩:=kB hb'
     simp only[dM,dB] at g1 g3
     simp only[aF,c5,jN,aB,seval,iU]
     refine⟨eQ g3,?_⟩
     simp only[g3,g1,aB,seval]
     refine⟨(b',acc++ [Tm.mk 3 0 ⟨#[116,114,117,101]⟩ []]),by simp only[dI,bD,bN];omega,g2,aL.mk (by simp only[aB,seval])⟩
   · simp only[aF,hbo,c5,aB,seval,iU]
     have hbo:=cH i1
     have h4o:=dW i1 (x:=b4) (by rw[hW4];simp) h54.symm
     rw[hW4] at h4o
     simp only[h4o,aB,seval]
     obtain⟨g5,g6⟩:=fF (o:=.cells [.int .i64 (k),.int .i64 (n),.str (s),.slice ((ks).map Tm.av),aT 4 b ((acc).map Tm.av)]) i1 (show((st.aC b4 (.cells [.int .i64 0,.int .i64 0,.str ⟨#[]⟩,.fslice [],.fslice []])).aC c (aK bs (p+1))) b4≠none by rw[hW4];simp) h54.symm
     refine⟨b,_,_,g5,g6,d8 _,⟨4,cT _⟩,st.aC c (aK bs (p+1)),hdr _ _ _,p+1,by omega,by omega,rfl,(.mk (k) (n) (s) (ks),acc),hNb,?_⟩
     simp only[eC,bT,bF,dQ,d7,j5,eG,dO]
 simp only[aB,seval]
 refine aW (fun h0=>?_) (fun h0=>?_)
 · simp only[aB,seval,iU]
   refine(nJ [⟨#[116,114,117,101]⟩,⟨#[105,115]⟩,⟨#[61]⟩,⟨#[109,111,100]⟩,⟨#[113]⟩] (by simp) (by simp) bs c (p+1) (by omega) _ (hRq _ _ _ i1)).mono ?_
   rintro _ _ ⟨y,hyl,rfl,rfl⟩
   have hyl:=(show ∀z∈([⟨#[116,114,117,101]⟩,⟨#[105,115]⟩,⟨#[61]⟩,⟨#[109,111,100]⟩,⟨#[113]⟩]:List ByteArray),z.size≤1048576 by decide) y hyl
   obtain⟨e1,i1⟩:=iR (o:=aK bs (p+1+1)) i1 (hWc _) h5c.symm
   rw[bM] at e1 i1
   rw[e1]
   have hbo:=cH i1
   obtain⟨e2,i1⟩:=oV (hd':=[.int .i64 k,.int .i64 n,.str y,.slice (ks.map Tm.av)]) i1
   simp only[dM,dB] at e2
   simp only[aF,hbo,aB,seval,iU]
   rw[e2]
   have hbo:=cH i1
   have h4o:=dW i1 (x:=b4) (by rw[hW4];simp) h54.symm
   rw[hW4] at h4o
   simp only[h4o,c5,aB,seval]
   obtain⟨g5,g6⟩:=fF (o:=.cells [.int .i64 (k),.int .i64 (n),.str (y),.slice ((ks).map Tm.av),aT 4 b ((ts).map Tm.av)]) i1 (show((st.aC b4 (.cells [.int .i64 0,.int .i64 0,.str ⟨#[]⟩,.fslice [],.fslice []])).aC c (aK bs (p+1+1))) b4≠none by rw[hW4];simp) h54.symm
   refine⟨b,_,_,g5,g6,d8 _,⟨4,cT _⟩,st.aC c (aK bs (p+1+1)),hdr _ _ _,p+1+1,by omega,by omega,rfl,(.mk (k) (n) (y) (ks),ts),⟨yR hNb.1,⟨hNb.2.1.1,hNb.2.1.2.1,hyl⟩,hNb.2.2⟩,?_⟩
   simp only[eC,bT,bF,dQ,d7,j5,eG,dO]
 · simp only[aB,seval,iU]
   have hbo:=cH i1
   have h4o:=dW i1 (x:=b4) (by rw[hW4];simp) h54.symm
   rw[hW4] at h4o
   simp only[aF,hbo,h4o,c5,aB,seval,iU]
   obtain⟨g5,g6⟩:=fF (o:=.cells [.int .i64 (k),.int .i64 (n),.str (s),.slice ((ks).map Tm.av),aT 4 b ((ts).map Tm.av)]) i1 (show((st.aC b4 (.cells [.int .i64 0,.int .i64 0,.str ⟨#[]⟩,.fslice [],.fslice []])).aC c (aK bs (p+1))) b4≠none by rw[hW4];simp) h54.symm
   refine⟨b,_,_,g5,g6,d8 _,⟨4,cT _⟩,st.aC c (aK bs (p+1)),hdr _ _ _,p+1,by omega,by omega,rfl,(.mk (k) (n) (s) (ks),ts),hNb,?_⟩
   simp only[eC,bT,bF,dQ,d7,j5,eG,dO]
abbrev vN:=zi aZ (zi b7 (zi hQ (zi cE (zi iV hO))))
set_option maxHeartbeats 2000000 in
theorem YG(bs:List Bt)(c p:Nat)(l:List Cl)(hl:∀x∈l,nL x)(hN:∀x∈l,Ng x.1)(h1:2≤l.length)(h2:l.length≤40)(st:aA)(hp:p+1000000≤1099511627776)(hR:bE st c bs p) :
 aD prog 77 [.ptr c 0,.slice (l.map a7)] st (Dr bs c p 1000000 st (fun r=>∃l':List Cl,(l'.length≤41∧∀x∈l',Ng x.1)∧r=.slice (l'.map a7))):=by
 refine aD.aBB ?_
 have aCK:st.aC c (aK bs p)=st:=UK hR
 have eS:∀(q b:Nat) (acc:List Cl),p≤q→q≤p+1000000→(acc.map a7≠[]→(st.aC c (aK bs q)) b=none)→(acc.length≤41∧∀x∈acc,Ng x.1)→∃r2 s2,(rC (aY (st.aC c (aK bs q)) b (acc.map a7)) s2∧l7 (aY (st.aC c (aK bs q)) b (acc.map a7)) (aT 5 b (acc.map a7)) s2 r2)∧Dr bs c p 1000000 st (fun r=>∃l':List Cl,(l'.length≤41∧∀x∈l',Ng x.1)∧r=.slice (l'.map a7)) r2 s2:=fun q b acc g1 g2 hb hac=>by
  have:=l7.fin (r:=aT 5 b (acc.map a7)) hb (xG _) ⟨5,pU _⟩
  rw[eG] at this
  exact⟨_,_,this,q,g1,g2,rfl,acc,hac,rfl⟩
 have hRq:∀(q b:Nat) (L:List AV),(L≠[]→(st.aC c (aK bs q)) b=none)→bE (aY (st.aC c (aK bs q)) b L) c bs q∧∀o,(aY (st.aC c (aK bs q)) b L).aC c o=aY (st.aC c o) b L∧(L≠[]→(st.aC c o) b=none):=fun q b L hb=>by
  have hne:L≠[]→c≠b:=fun h e=>by have:=hb h;rw[←e,aA.aP] at this;cases this
  refine⟨?_,fun o=>⟨?_,fun h=>?_⟩⟩
  · unfold bE
    by_cases h:L= []
    · rw[h,pQ,aA.aP];try rfl
    · rw[pP (hne h),aA.aP];try rfl
  · rw[jA hne,bM]
  · have:=hb h
    rw[aA.aV _ _ (cV (hne h))] at this ⊢
    exact this
 refine wF [1000000] 2 func77 ntmps77 rfl rfl ?_
 simp only[dG,AV.fits,eJ,aG]
 intro _
 simp only[aB,seval,vN]
 refine fW (σ:=Nat×Nat×List Cl) [1000000] [0,1,4] l (fun i x=>p≤x.1∧x.1≤p+6000*i∧x.2.2.length=i∧(x.2.2.map a7≠[]→(st.aC c (aK bs x.1)) x.2.1=none)∧∀y∈x.2.2,Ng y.1) (fun i x=>[(5,aT 5 x.2.1 (x.2.2.map a7)),(6,.int .i64 i)]) (fun i x=>aY (st.aC c (aK bs x.1)) x.2.1 (x.2.2.map a7)) (by decide +kernel) ⟨(p,0,[]),⟨dJ _,by simp only;omega,rfl,fun h=>absurd rfl h,fun y hy=>by cases hy⟩,by
  simp only[bF,pQ,aCK]
  exact aL.mk (by simp only[kJ,aB,↓bG,seval])⟩ (fun i x s hx hlt b9 hdr hinv=>?_) (fun s hge hinv=>?_)
 case refine_1=>
  obtain⟨q,b,acc⟩:=s
  obtain⟨g1,g2,g3,g4,g5⟩:=hinv
  simp only at g1 g2 g3 g4 g5
  have hw:=bO (n:=(i:Int)+1)
  have hat:=cJ (av:=a7) j4 hx (jC x)
  have hcw:=jC x
  have hca:=rZ x
  obtain⟨k1,k2⟩:=hRq _ _ _ g4
  simp only[b9,aG,hat,hcw,hca,aB,seval,vN]
  refine(YH bs c q x (hl x (c8 hx)) (hN x (c8 hx)) _ (by omega) k1).mono ?_
  rintro _ _ ⟨q2,r1,r2,rfl,y,hyN,rfl⟩
  obtain⟨k3,k4⟩:=k2 (aK bs q2)
  rw[k3]
  have hya:=rZ y
  have hyw:=jC y
  have hyj:=xF y
  have hys:=FU y
  have hyc:=FT y
  simp only[hya,hyw,hyj,aB,seval,vN]
  refine eH j4 xM xO rfl rfl (eR hyw hys) (pU _) k4 (by simp only[aG,bD,bN];omega) (by simp only[aG,bD,bN];omega) (fun b' hb'=>?_)
  rw[show acc.map a7++ [a7 y]=(acc++ [y]).map a7 by simp] at hb' ⊢
  simp only[hw,aB,seval]
  refine⟨(q2,b',acc++ [y]),⟨by simp only;omega,by simp only;omega,by simp only[dI,bD,bN];omega,hb',fun z hz=>?_⟩,aL.mk (by simp only[aB,seval])⟩
  rcases iY.1 hz with hz | hz
  · exact g5 z hz
  · simp only[dS,gB,fU] at hz
    subst hz
    exact hyN
 obtain⟨q,b,acc⟩:=s
 obtain⟨g1,g2,g3,g4,g5⟩:=hinv
 simp only at g1 g2 g3 g4 g5
 obtain⟨k1,k2⟩:=hRq _ _ _ g4
 simp only[aG,hge,aB,seval,vN]
 refine(fQ bs c q (by omega) 30 (by omega) (by omega) _ k1).mono ?_
 rintro _ _ ⟨j,hj,rfl,rfl⟩
 obtain⟨k3,k4⟩:=k2 (aK bs (q+1))
 rw[k3]
 have aCO:prog.underlying 33=some (.slice 177):=by kernel_rfl
 simp only[aB,seval]
 refine aW (fun h0=>?_) (fun h0=>?_)
 · simp only[aB,seval]
   refine fH (σ:=Nat×List Cl) [1000000] [4,24] (fun x=>(x.2.map a7≠[]→(st.aC c (aK bs (q+1))) x.1=none)∧x.2.length≤41∧∀y∈x.2,Ng y.1) (fun x=>[(5,aT 5 x.1 (x.2.map a7))]) (fun x=>aY (st.aC c (aK bs (q+1))) x.1 (x.2.map a7)) (fun x=>41 - x.2.length) (by decide +kernel) ⟨(b,acc),⟨k4,by simp only;omega,g5⟩,aL.mk (by simp only[aB,seval])⟩ ?_
   rintro⟨b,acc⟩ ⟨i1,i2,i3⟩
   simp only at i1 i2 i3
   have haL:=t7 (w:=5) (b:=b) (l:=acc.map a7) aCO
   rw[aG] at haL
   simp only[haL,aB,seval]
   refine aW (fun h1=>?_) (fun h1=>?_)
   case refine_2=>
    simp only[aB,seval]
    exact eS _ _ _ (by omega) (by omega) i1 ⟨i2,i3⟩
   simp only[bK] at h1
   simp only[aB,seval]
   refine(jP ⟨#[122]⟩ [] (by simp) _).to ?_
   simp only[a6,bF,aB,seval,vN]
   refine eH (xs:=[.agg [.int .i64 3,.int .i64 0,.str ⟨#[122]⟩,.slice [],.fslice []]]) j4 xM xO rfl rfl (eR rfl rfl) (pU _) i1 (by simp only[aG,bD,bN];omega) (by simp only[aG,bD,bN];omega) (fun b' hb'=>?_)
   have hb2:(acc++ [zG]).map a7≠[]→(st.aC c (aK bs (q+1))) b'=none:=fun _=>hb' (by simp)
   have lK:aY (st.aC c (aK bs (q+1))) b' (acc.map a7++ [.agg [.int .i64 3,.int .i64 0,.str ⟨#[122]⟩,.slice [],.fslice []]]) b'=some (.cells (((acc.map a7).flatMap AV.cells++ [.int .i64 3,.int .i64 0,.str ⟨#[122]⟩,.slice []])++ .fslice []:: [])):=by
    rw[oF (by simp),aA.aP]
    simp [AV.cells]
   have Q7:=fun φ=>c7.aE4 (φ:=φ) lK
   have aCN:(aY (st.aC c (aK bs (q+1))) b' (acc.map a7++ [.agg [.int .i64 3,.int .i64 0,.str ⟨#[122]⟩,.slice [],.fslice []]])).aC b' (.cells (((acc.map a7).flatMap AV.cells++ [.int .i64 3,.int .i64 0,.str ⟨#[122]⟩,.slice []])++(AV.fslice []).soft:: []))=aY (st.aC c (aK bs (q+1))) b' ((acc++ [zG]).map a7):=by
    rw[oF (by simp),bM,oF (by simp)]
    congr 2
    simp [AV.cells,AV.soft,zG,dO]
   rw[aCN] at Q7
   have hV:aT 5 b' (acc.map a7++ [.agg [.int .i64 3,.int .i64 0,.str ⟨#[122]⟩,.slice [],.fslice []]])=aT 5 b' ((acc++ [zG]).map a7):=by
    rw[lE (by simp),lE (by simp)]
    simp
   rw[hV]
   simp only[aB,seval]
   refine⟨(b',acc++ [zG]),by simp only[dI,bD,bN];omega,⟨hb2,by simp only[dI,bD,bN];omega,fun z hz=>by
    rcases iY.1 hz with hz | hz
    · exact i3 z hz
    · simp only[dS,gB,fU] at hz
      subst hz
      exact⟨rfl,sL ⟨by omega,by omega,by decide⟩,fun x hx=>by cases hx⟩⟩,(Q7 _).trans (aL.mk (by simp only[aB,seval]))⟩
 simp only[aB,seval]
 refine aW (fun h1=>?_) (fun h1=>?_)
 · have hne:acc.map a7≠[]:=fun h=>by have:=fR List.length h;simp at this;subst this;simp at g3;omega
   have hlen:(acc.map a7).length=acc.length:=aG _
   have hsl:=aE3 (P:=prog) (b:=b) j4 (show 1<acc.length by omega)
   have hb0:=k4 hne
   simp only[lE hne,hlen,hsl,aB,seval]
   have hT:=l7.tail (k:=1) (w:=5) hb0 (by rw[hlen];omega) (xG acc) (pU acc)
   rw[hlen] at hT
   simp only[Nat.one_mul] at hT ⊢
   exact⟨_,_,hT,q+1,by omega,by omega,rfl,acc.drop 1,⟨by rw[kG];omega,fun x hx=>g5 x (List.mem_of_mem_drop hx)⟩,by rw[List.map_drop]⟩
 · skip
   simp only[aB,seval]
   exact eS _ _ _ (by omega) (by omega) k4 ⟨by omega,g5⟩
end Go.AW
namespace Go.AW

def UT(V:List Int)(t:Tm):Prop:=∀v∈t.vl,v∈V
mutual
def Tm.flat:Tm→Nat→Bool
 | .mk _ _ _ _,0=>false
 | .mk _ _ _ ts,d+1=>zD ts d
def zD:List Tm→Nat→Bool
 | [],_=>true
 | t::ts,d=>t.flat d&&zD ts d
end
theorem T0:∀(ts:List Tm) (d:Nat),zD ts d=ts.all fun t=>t.flat d
 | [],_=>rfl
 | t::ts,d=>by simp only[zD,iX,T0 ts d]
theorem Tm.aBH(t:Tm):t.flat 0=false:=by cases t;simp only[Tm.flat]
theorem Tm.aBG(k n:Int)(s:ByteArray)(ts:List Tm)(d:Nat):(Tm.mk k n s ts).flat (d+1)=ts.all fun t=>t.flat d:=by simp only[Tm.flat,T0]
mutual
def Tm.g8:Tm→Bool
 | .mk k n s ts=>cR k n s ts.length&&zJ ts
def zJ:List Tm→Bool
 | []=>true
 | t::ts=>t.g8&&zJ ts
end
theorem T8:∀(ts:List Tm),zJ ts=ts.all Tm.g8
 | []=>rfl
 | t::ts=>by simp only[zJ,iX,T8 ts]
theorem Tm.vA(k n:Int)(s:ByteArray)(ts:List Tm):(Tm.mk k n s ts).g8=(cR k n s ts.length&&ts.all Tm.g8):=by simp only[Tm.g8,T8]
theorem EL{α:Type}(p q:α→Bool):∀l:List α,(l.all fun x=>p x&&q x)=(l.all p&&l.all q)
 | []=>rfl
 | x::l=>by simp only[iX,EL p q l];cases p x<;>cases q x<;>cases l.all p<;>simp
theorem Tm.aEX:∀(t:Tm) (d:Nat),t.shape (d:Int)=(t.g8&&t.flat d):=by
 intro t
 induction t using Tm.ind with
 | h k n s ts ih=>
  intro d
  cases d with
  | zero=>rw[Tm.aBH,pH,Tm.sX];try rfl
  | succ d=>
   rw[Tm.sX,Tm.vA,Tm.aBG,show decide ((1:Int)≤((d+1:Nat):Int))=true by simp;omega,dH,Bool.and_assoc,←EL]
   congr 1
   rw[show(((d+1:Nat):Int) - 1)=(d:Int) by omega]
   have:∀l:List Tm,(∀x∈l,x∈ts)→(l.all fun t=>t.shape (d:Int))=l.all fun x=>x.g8&&x.flat d:=by
    intro l
    induction l with
    | nil=>intro _;rfl
    | cons x l ihl=>intro h;rw[iX,iX,ih x (h x (by simp)),ihl fun y hy=>h y (by simp [hy])]
   exact this ts fun _ h=>h
theorem Tm.aGM{t:Tm}(h:t.valid=true):t.g8=true:=by
 simp only[Tm.valid,bV] at h
 have:=h.1
 rw[show(30:Int)=((30:Nat):Int) from rfl,Tm.aEX,bV] at this
 exact this.1
theorem Tm.yH{k n:Int}{s:ByteArray}{ts:List Tm}(h:(Tm.mk k n s ts).g8=true):cR k n s ts.length=true∧∀x∈ts,x.g8=true:=by
 rw[Tm.vA,bV] at h
 exact⟨h.1,dY.1 h.2⟩
theorem R8{n:Int}{s:ByteArray}{len:Int}(h:cR 1 n s len=true):0≤n∧n≤25∧s=⟨#[]⟩∧len=0:=by
 simp [cR] at h
 exact⟨h.1.1.1,h.1.1.2,h.1.2,h.2⟩
theorem aD8{k n:Int}{s:ByteArray}{len:Int}(h:cR k n s len=true):(k=1∨k=2∨k=3)∧len≤4:=by
 unfold cR at h
 by_cases h1:k=1
 · simp [h1] at h;omega
 · by_cases h2:k=2
   · simp [h2] at h;omega
   · by_cases h3:k=3
     · simp [h3] at h;omega
     · simp [h1,h2,h3] at h
theorem Tm.aD1:∀(t:Tm),t.g8=true→t.cv=true:=by
 intro t
 induction t using Tm.ind with
 | h k n s ts ih=>
  intro h
  obtain⟨h1,h2⟩:=Tm.yH h
  refine Tm.uK.2 ⟨fun hk=>?_,fun x hx=>ih x hx (h2 x hx)⟩
  subst hk
  obtain⟨_,_,h3,h4⟩:=R8 h1
  exact⟨h3,mY (by omega)⟩
def wN:List Int:=(List.range 26).map fun i:Nat=>(i:Int)
theorem yE{n:Int}:n∈wN↔0≤n∧n≤25:=by
 simp only[wN,fN,rA]
 constructor
 · rintro⟨i,h,rfl⟩;omega
 · intro h;exact⟨n.toNat,by omega,by omega⟩
theorem Tm.aD2:∀(t:Tm),t.g8=true→UT wN t:=by
 intro t
 induction t using Tm.ind with
 | h k n s ts ih=>
  intro h v hv
  obtain⟨h1,h2⟩:=Tm.yH h
  by_cases hk:k=1
  · rw[Tm.zU hk] at hv
    simp only[dS,gB,fU] at hv
    subst hv hk
    obtain⟨h3,h4,_⟩:=R8 h1
    exact yE.2 ⟨h3,h4⟩
  · obtain⟨x,hx,hvx⟩:=(Tm.zT hk).1 hv
    exact ih x hx (h2 x hx) v hvx
theorem aDN{f:Int→Tm}:∀(t:Tm),t.g8=true→(∀v∈t.vl,(f v).g8=true)→(t.dA f).g8=true:=by
 intro t
 induction t using Tm.ind with
 | h k n s ts ih=>
  intro h hf
  obtain⟨h1,h2⟩:=Tm.yH h
  by_cases hk:k=1
  · rw[Tm.CL f hk];exact hf n (by rw[Tm.zU hk];simp)
  · rw[Tm.u7 f hk,Tm.vA,aG,h1,dH,List.all_map,dY]
    exact fun x hx=>ih x hx (h2 x hx) fun v hv=>hf v ((Tm.zT hk).2 ⟨x,hx,hv⟩)
theorem aGO{n:Int}(h:n∈wN):(vr n).g8=true:=by
 rw[yE] at h
 rw[vr,Tm.vA]
 simp [cR,h]





def kI(N:Int)(t:Tm):Prop:=(t.dA fun _=>vr 0).g8=true∧t.cv=true∧∀v∈t.vl,0≤v∧v<N
theorem kI.own{N k n:Int}{s:ByteArray}{ts:List Tm}(h:kI N (.mk k n s ts))(hk:k≠1):cR k n s ts.length=true∧∀x∈ts,kI N x:=by
 obtain⟨h1,h2,h3⟩:=h
 rw[Tm.u7 _ hk] at h1
 obtain⟨h4,h5⟩:=Tm.yH h1
 rw[aG] at h4
 exact⟨h4,fun x hx=>⟨h5 _ (fN.2 ⟨x,hx,rfl⟩),(Tm.uK.1 h2).2 x hx,fun v hv=>h3 v ((Tm.zT hk).2 ⟨x,hx,hv⟩)⟩⟩
theorem kI.var{N n:Int}{s:ByteArray}{ts:List Tm}(h:kI N (.mk 1 n s ts)):0≤n∧n<N∧s=⟨#[]⟩∧ts= []:=by
 obtain⟨_,h2,h3⟩:=h
 obtain⟨h4,h5⟩:=(Tm.uK.1 h2).1 rfl
 obtain⟨h6,h7⟩:=h3 n (by rw[Tm.zU rfl];simp)
 exact⟨h6,h7,h4,h5⟩
theorem aD4(N:Int):∀t:Tm,t.k≠1→kI N t→∀x∈t.ts,kI N x:=fun t hk h x hx=>by
 cases t
 exact(h.own hk).2 x hx
theorem kI.kind{N k n:Int}{s:ByteArray}{ts:List Tm}(h:kI N (.mk k n s ts)):(k=1∨k=2∨k=3)∧ts.length≤4:=by
 by_cases hk:k=1
 · subst hk
   rw[h.var.2.2.2]
   simp
 · have:=aD8 (h.own hk).1
   omega
theorem aD3{t:Tm}:t.g8=true↔kI 26 t:=by
 constructor
 · intro h
   refine⟨aDN t h fun v _=>aGO (yE.2 (by omega)),Tm.aD1 t h,fun v hv=>?_⟩
   have:=yE.1 (Tm.aD2 t h v hv)
   omega
 · induction t using Tm.ind with
   | h k n s ts ih=>
    intro h
    rw[Tm.vA]
    by_cases hk:k=1
    · subst hk
      obtain⟨h0,h1,rfl,rfl⟩:=h.var
      have h1':n≤25:=by omega
      simp [cR,h0,h1']
    · obtain⟨h1,h2⟩:=h.own hk
      rw[h1,dH,dY]
      exact fun x hx=>ih x hx (h2 x hx)
theorem Tm.v6{t:Tm}(h:t.valid=true):kI 26 t:=aD3.1 (Tm.aGM h)
def j1(N:Int)(t:Tm):Prop:=kI N t∧t.nodes≤120
theorem aD5(N:Int):∀t:Tm,t.k≠1→j1 N t→∀x∈t.ts,j1 N x:=fun t hk h x hx=>by
 refine⟨aD4 N t hk h.1 x hx,?_⟩
 have h2:=h.2
 cases t
 rw[Tm.jU] at h2
 have:=SY (f:=Tm.nodes) hx
 simp only[Tm.ts] at this
 omega
def yP(ρ:Int→Int)(t:Tm):Tm:=t.dA fun v=>vr (ρ v)
section
variable {ρ:Int→Int} {N:Int} {σ τ:Sub}
end
end Go.AW
namespace Go.AW
open Go.Proofs.Tryz




end Go.AW
namespace Go.AW


end Go.AW
namespace Go.AW
open Go.Proofs.Tryz











end Go.AW
namespace Go.AW

end Go.AW
namespace Go.AW
open Go.Proofs.Tryz





end Go.AW
namespace Go.AW
section
variable {ρ:Int→Int} {N:Int} {σ τ:Sub}
end
section
variable {ρ:Int→Int} {N:Nat} {σ τ:Sub}
end
end Go.AW
namespace Go.AW
open Go.Proofs.Tryz


end Go.AW
namespace Go.AW
def x7(c:Cl)(t:Tm):Bool:=decide (c.1.s=t.s)&&decide ((c.1.ts.length:Int)=(t.ts.length:Int))
def iE(p:List Cl)(t:Tm):List Nat:=(List.range p.length).filter fun i=>match p[i]? with
 | some c=>x7 c t
 | none=>false
structure IG where
 t:Tm
 cut:Nat
 up:Int
structure IC where
 goal:Tm
 node:Nat
 rest:List IG
 list:List Nat
 aIE:Nat
 taken:Nat
structure IS where
 goals:List IG
 σ:Sub
 tr:List Int
 chs:List IC
 fresh:Nat
 nn:Nat
structure mV (c:Cl):Prop where
 head:j1 26 c.1
 body:∀t∈c.2,j1 26 t∧t.k=3
section
variable {p:List Cl} (hp:∀c∈p,mV c)
include hp
variable {cnd:Tm→List Nat→List Nat} (hc:∀(ρ:Int→Int) (t:Tm) (l:List Nat),cnd (yP ρ t) l=cnd t l)
omit hp in
end
section
variable {p:List Cl} (hp:∀c∈p,mV c) {cnd:Tm→List Nat→List Nat} (hc:∀(ρ:Int→Int) (t:Tm) (l:List Nat),cnd (yP ρ t) l=cnd t l)
include hp hc
end
theorem ZD{c:Cl}(h:gF c=true):mV c:=by
 simp only[gF,bV,bK,dY] at h
 refine⟨⟨Tm.v6 h.1.1,Tm.vZ h.1.1⟩,fun t ht=>?_⟩
 have hg:=h.2.2 t ht
 have hk:t.valid=true∧t.k=3:=by
  obtain⟨k,n,s,ts⟩:=t
  simp only[Tm.goal,bV] at hg
  refine⟨hg.1,?_⟩
  have:=hg.2
  simp only[oP,g9,pI,bV,bK] at this
  simp only[Tm.k]
  rcases this with (h | h) | h<;>first | exact h.1 | exact h.1.1 | exact h.1.1.1
 exact⟨⟨Tm.v6 hk.1,Tm.vZ hk.1⟩,hk.2⟩
end Go.AW
namespace Go.AW
open Go.Proofs.Tryz


end Go.AW
namespace Go.AW


def Lit(st:aA)(w:Nat)(l:List AV)(q:AV)(s:aA):Prop:=(q=.fslice l∧s=st)∨∃b,st b=none∧q=.mslice b 0 l.length w∧s=st.aC b (.cells (l.flatMap AV.cells))
end Go.AW
namespace Go.AW
open Go.Proofs.Tryz
def nv(i:Nat):AV:=.int .i64 (i:Int)
abbrev aIB:=zi aZ (zi cE (zi bH (zi aF3 aF4)))
def j6(p:List Cl)(t:Tm)(i:Nat):Bool:=match p[i]? with
 | some c=>x7 c t
 | none=>false
theorem uP(p:List Cl)(t:Tm):iE p t=(List.range p.length).filter (j6 p t):=rfl
theorem QK(p:List Cl)(t:Tm)(i:Nat):(List.range (i+1)).filter (j6 p t)=(List.range i).filter (j6 p t)++(if j6 p t i=true then[i] else[]):=by
 rw[List.range_succ,AB]
 congr 1
 by_cases h:j6 p t i=true<;>simp [h]
theorem uQ(p:List Cl)(t:Tm)(i:Nat):((List.range i).filter (j6 p t)).length≤i:=by
 have:=List.length_filter_le (j6 p t) (List.range i)
 rw[wI] at this
 exact this
theorem yG(l:List Nat):∀e∈l.map nv,e.width=1:=by intro e h;simp only[fN] at h;obtain⟨t,_,rfl⟩:=h;rfl
abbrev s8:=zi aZ (zi b7 (zi fV (zi hQ (zi cE (zi bH hO)))))
theorem YD(p:List Cl)(t:Tm)(hp:p.length≤1048576)(st:aA):aD prog 171 [.slice (p.map a7),t.av] st (fun r st'=>r=.slice ((iE p t).map nv)∧st'=st):=by
 rw[uP]
 refine aD.done ?_
 obtain⟨tk,tn,ts',tts⟩:=t
 simp only[a6]
 refine wF [1000000] 2 func171 ntmps171 rfl rfl ?_
 intro _
 simp only[aB,seval,s8]
 refine zY (σ:=Unit) [1000000] [0,3,4] p 1 5 (fun i _=>((List.range i).filter (j6 p (.mk tk tn ts' tts))).map nv) (fun _ _=>True) (fun i _=>[(6,.int .i64 i)]) (fun _ _=>st) (fun i _ _ e he=>by simp only[fN] at he;obtain⟨t,_,rfl⟩:=he;exact⟨rfl,rfl⟩) (by decide +kernel) ⟨(),0,trivial,fun h=>absurd rfl h,aL.mk (by simp only[kJ,List.range_zero,List.filter_nil,bF,aB,↓bG,seval])⟩ (fun i x s b hx hlt b9 hdr hinv hb=>?_) (fun s b hge hinv=>?_)
 case refine_2=>
  simp only[hge,dQ,j5,r7,BV,nO,aG,aB,seval,s8]
  exact⟨rfl,aH.refl _⟩
 have hw:=bO (n:=(i:Int)+1)
 have hst:=QK p (.mk tk tn ts' tts) i
 have hln:=uQ p (.mk tk tn ts' tts) i
 have hat:=cJ (av:=a7) (P:=prog) j4 hx (jC x)
 obtain⟨⟨k,n,s',ts⟩,bd⟩:=x
 rw[dO] at hat
 have hP:j6 p (.mk tk tn ts' tts) i=(decide (s'=ts')&&decide ((ts.length:Int)=(tts.length:Int))):=by unfold j6;rw[hx];try rfl
 rw[hP] at hst
 simp only[b9,aG,aB,seval,s8]
 refine wP [(0,1),(1,1),(2,1),(3,1),(4,1),(6,1),(5,2),(7,2),(8,1),(9,1),(10,1),(11,1),(12,1),(13,1),(14,1),(17,1),(15,2),(16,1),(18,2),(19,1),(20,1),(21,1)] [0,1,2,3,4,6,5,7,8,9,10,11,12,13,14,17,15,16,18,19,20,21] mixed ?_
 simp only[hat,aB,seval,s8]
 refine cU (fun h=>?_) (fun h=>?_)
 case refine_2=>
  have h':(decide (s'=ts')&&decide ((ts.length:Int)=(tts.length:Int)))=false:=by simp at h;simp [h]
  rw[h',aS (by simp),kF] at hst
  rw[←hst] at hb ⊢
  simp only[h,hw,aB,seval]
  exact⟨(),b,hb,aL.mk (by simp only[aB,seval])⟩
 have h1:decide (s'=ts')=true:=by simpa using h
 rw[h1,dH] at hst
 simp only[h,aG,hat,aB,seval,s8]
 refine aW (fun h2=>?_) (fun h2=>?_)
 · rw[aU h2] at hst
   simp only[aB,seval,s8]
   refine eH jD xL uM rfl rfl (eR rfl rfl) (yG _) hb (by simp only[aG,bD,bN];omega) (by simp only[aG,bD,bN];omega) (fun b' hb'=>?_)
   rw[show ∀l:List Nat,l.map nv++ [AV.int .i64 (i:Int)]=(l++ [i]).map nv from fun l=>by simp [nv],←hst] at hb' ⊢
   simp only[hw,aB,seval]
   exact⟨(),b',hb',aL.mk (by simp only[aB,seval])⟩
 · rw[aS (by simp [h2]),kF] at hst
   rw[←hst] at hb ⊢
   simp only[hw,aB,seval]
   exact⟨(),b,hb,aL.mk (by simp only[aB,seval])⟩







end Go.AW
namespace Go.AW

end Go.AW
namespace Go.AW
open Go.Proofs.Tryz


theorem vE{p:List Cl}(h:gQ p=true):p.length≤20∧∀c∈p,mV c∧c.2.length≤6:=by
 simp only[gQ,bV,bK,dY] at h
 refine⟨h.1,fun c hc=>⟨ZD (h.2 c hc),?_⟩⟩
 have:=h.2 c hc
 simp only[gF,bV,bK,dY] at this
 exact this.2.1
theorem aEK{q:List Tm}(h:qL q=true):q.length≤6∧∀t∈q,j1 26 t∧t.k=3:=by
 simp only[qL,bV,bK,dY] at h
 refine⟨h.1,fun t ht=>?_⟩
 have hg:=h.2 t ht
 have hk:t.valid=true∧t.k=3:=by
  obtain⟨k,n,s,ts⟩:=t
  simp only[Tm.goal,bV] at hg
  refine⟨hg.1,?_⟩
  have:=hg.2
  simp only[oP,g9,pI,bV,bK] at this
  simp only[Tm.k]
  rcases this with (h | h) | h<;>first | exact h.1 | exact h.1.1 | exact h.1.1.1
 exact⟨⟨Tm.v6 hk.1,Tm.vZ hk.1⟩,hk.2⟩
theorem aEC{s:ByteArray}(h:CS s=true):s.size≤200∧∃l:List Cl,oY (sb s)=some l∧2≤l.length∧l.length≤20∧∀c∈l,nL c:=by
 unfold CS at h
 rw[bV,bK] at h
 refine⟨h.1,?_⟩
 have h2:=h.2
 cases hp:oY (sb s) with
 | none=>rw[hp] at h2;simp at h2
 | some l=>
  rw[hp] at h2
  simp only[bV,bK] at h2
  refine⟨l,rfl,h2.1,h2.2,fun c hc=>?_⟩
  unfold oY at hp
  simp only at hp
  split at hp
  · cases hp
  · exact((FV _ [] l (by simp) hp).1 c hc).1
theorem RO{t:Tm}(h:Ws t):tO t:=by
 obtain⟨k,n,s,ts⟩:=t
 have h6:s.size≤6:=h.size.1
 rcases sR h.own.1 with ⟨_,h1,h2,_⟩ | ⟨_,h1,h2,_⟩ | ⟨_,h1,_⟩<;>exact sL ⟨by omega,by omega,by omega⟩
theorem UL{t:Tm}(h:t.valid=true):Ng t:=by
 have hw:Ws t:=⟨30,by simp only[Tm.valid,bV] at h;exact h.1⟩
 refine⟨Tm.zS h,RO hw,fun x hx=>?_⟩
 obtain⟨k,n,s,ts⟩:=t
 exact RO (hw.own.2 x hx)
abbrev S9:=zi aZ (zi b7 (zi hQ (zi iV jK)))
theorem YI(bs:List Bt)(c p:Nat)(st:aA)(hp:p+100≤1099511627776)(hR:bE st c bs p) :
 aD prog 158 [.ptr c 0] st (Dr bs c p 10 st (fun r=>∃l:List Cl,(2≤l.length∧l.length≤20∧∀x∈l,nL x)∧(∀x∈l,Ng x.1)∧r=.slice (l.map a7))):=by
 refine wF [1000000] 1 func158 ntmps158 rfl rfl ?_
 intro _
 simp only[aB,seval]
 refine(YK _).to ?_
 simp only[aG,aB,seval,S9]
 refine(fQ bs c p (by omega) vY.length (by decide) (by decide) _ hR).mono ?_
 rintro _ _ ⟨k,hk,rfl,rfl⟩
 obtain⟨x,hx⟩:∃x,vY[k]?=some x:=⟨_,eA hk⟩
 have hat:=cJ (av:=AV.str) nN hx rfl
 obtain⟨hxs,l,hl1,hl2,hl3,hl4⟩:=aEC (dY.1 aGC x (c8 hx))
 have hpv:=dY.1 aGD x (c8 hx)
 rw[hl1] at hpv
 have hpv:gQ l=true:=hpv
 have hpp:=fun st=>W3 x (by omega) st
 rw[hl1] at hpp
 simp only[hat,aB,seval,S9]
 refine(hpp _).mono ?_
 rintro _ _ ⟨rfl,rfl⟩
 simp only[aB,seval]
 refine⟨p+1,by omega,by omega,rfl,l,⟨hl2,hl3,hl4⟩,fun y hy=>UL ?_,rfl⟩
 simp only[gQ,bV,dY] at hpv
 have:=hpv.2 y hy
 simp only[gF,bV] at this
 exact this.1.1
abbrev o8:=zi aZ (zi cB (zi pE (zi hQ (zi bH (zi iV hO)))))
set_option maxHeartbeats 1000000 in
theorem WU(code:List Bt)(st:aA):aD prog 83 [.slice (code.map dV)] st (fun r st'=>(∃(p:List Cl) (g:Tm),(p.length≤41∧Ng g)∧r=.tup [.slice (p.map a7),g.av])∧st'=st):=by
 refine aD.drop ?_
 refine wF [1000000,3] 1 func83 ntmps83 rfl rfl ?_
 intro _
 simp only[aB,seval,o8]
 intro b3 hb3
 refine(A7 code _).mono ?_
 rintro _ _ ⟨c,bs,rfl,hc,rfl⟩
 have hcb:c≠b3:=by rintro rfl;rw[aA.aP] at hc;cases hc
 have hcn:st c=none:=by rw[aA.aV _ _ hcb] at hc;exact hc
 have hS3:∀q,((st.aC b3 (.cells [.int .i64 0,.int .i64 0,.str ⟨#[]⟩,.fslice []])).aC c (aK bs q)) b3=some (.cells [.int .i64 0,.int .i64 0,.str ⟨#[]⟩,.fslice []]):=fun q=>by rw[aA.aV _ _ (cV hcb),aA.aP]
 have hD:∀q o,aH (((st.aC b3 (.cells [.int .i64 0,.int .i64 0,.str ⟨#[]⟩,.fslice []])).aC c (aK bs q)).aC b3 o) st:=fun q o=>(((aH.refl _).aC hb3).aC hcn).aC hb3
 simp only[aB,seval]
 refine(YI bs c 0 _ (by omega) bE.new).mono ?_
 rintro _ _ ⟨p1,q1,q2,rfl,l,⟨l1,l2,l3⟩,l4,rfl⟩
 rw[bM]
 simp only[aB,seval]
 refine(YG bs c p1 l l3 l4 l1 (by omega) _ (by omega) bE.new).mono ?_
 rintro _ _ ⟨p2,r1,r2,rfl,p,⟨oT,hpN⟩,rfl⟩
 rw[bM]
 by_cases h0:p= []
 case pos=>
  have h0':=bR (show(p.length:Int)=0 by rw[h0];try rfl)
  simp only[h0',a8,aG,aB,seval,o8]
  refine(xD bs c (p2) _ (by omega) bE.new).mono ?_
  rintro _ _ ⟨p4,s1,s2,rfl,t1,ht1,rfl⟩
  rw[bM]
  simp only[aB,seval]
  refine(uG bs c p4 t1 ⟨ht1.1.2,ht1.2⟩ _ (by omega) bE.new).mono ?_
  rintro _ _ ⟨p5,s3,s4,rfl,u,hu,rfl⟩
  rw[bM]
  simp only[aF,hS3,aO,bA,cD (aO _),cC (aQ _),aA.aP,aB,seval,o8]
  exact⟨hD _ _,p,u,⟨oT,hu⟩,rfl⟩
 have hpl:0<p.length:=List.length_pos_iff.2 h0
 have h0':=bC (show ¬(p.length:Int)=0 by omega)
 simp only[h0',bB,fB,aG,aB,seval,o8]
 refine(fQ bs c p2 (by omega) 4 (by omega) (by omega) _ bE.new).mono ?_
 rintro _ _ ⟨k,hk,rfl,rfl⟩
 rw[bM]
 simp only[aB,seval]
 refine aW (fun h1=>?_) (fun h1=>?_)
 · simp only[aB,seval]
   refine(xD bs c (p2+1) _ (by omega) bE.new).mono ?_
   rintro _ _ ⟨p4,s1,s2,rfl,t1,ht1,rfl⟩
   rw[bM]
   simp only[aB,seval]
   refine(uG bs c p4 t1 ⟨ht1.1.2,ht1.2⟩ _ (by omega) bE.new).mono ?_
   rintro _ _ ⟨p5,s3,s4,rfl,u,hu,rfl⟩
   rw[bM]
   simp only[aF,hS3,aO,bA,cD (aO _),cC (aQ _),aA.aP,aB,seval,o8]
   exact⟨hD _ _,p,u,⟨oT,hu⟩,rfl⟩
 simp only[aG,aB,seval,o8]
 refine(fQ bs c (p2+1) (by omega) p.length (by omega) (by omega) _ bE.new).mono ?_
 rintro _ _ ⟨i,hi,rfl,rfl⟩
 rw[bM]
 obtain⟨x,hx⟩:∃x,p[i]?=some x:=⟨_,eA hi⟩
 have hxN:=hpN x (c8 hx)
 have hat:=cJ (av:=a7) (P:=prog) j4 hx (jC x)
 obtain⟨⟨k',n',s',ks'⟩,bd⟩:=x
 rw[dO] at hat
 have hmu:=fun st=>uG bs c (p2+1+1) (.mk k' n' s' ks') hxN st (by omega)
 simp only[a6] at hmu
 simp only[hat,aB,seval,o8]
 refine(hmu _ bE.new).mono ?_
 rintro _ _ ⟨p5,s3,s4,rfl,u,hu,rfl⟩
 rw[bM]
 simp only[aF,hS3,aO,bA,cD (aO _),cC (aQ _),aA.aP,aB,seval,o8]
 exact⟨hD _ _,p,u,⟨oT,hu⟩,rfl⟩
abbrev lU:=zi TX (zi aZ (zi pE (zi hQ (zi cE (zi bH iV)))))
set_option maxHeartbeats 1000000 in
theorem WT(code:List Bt)(st:aA):aD prog 25 [.slice (code.map dV)] st (fun r st'=>(∃(p:List Cl) (g:Tm),(p.length≤41∧Ng g)∧r=.tup [.slice (p.map a7),g.av])∧st'=st):=by
 refine aD.mH (aD.fin ?_)
 refine wF [1000000,3,5] 1 func25 ntmps25 rfl rfl ?_
 intro _
 simp only[aB,seval,lU]
 intro b3 hb3
 refine(WU code _).mono ?_
 rintro _ _ ⟨⟨p,g,⟨oT,hg⟩,rfl⟩,rfl⟩
 obtain⟨k,n,s,ts⟩:=g
 have hcp:=fun st=>A8 k n s ts st hg.1
 simp only[a6] at hcp ⊢
 simp only[aF,aB,↓bG,seval,lU]
 intro b5 hb5
 have h53:b5≠b3:=by rintro rfl;rw[aA.aP] at hb5;cases hb5
 have hn5:st b5=none:=by rw[aA.aV _ _ h53] at hb5;exact hb5
 refine(A7 code _).mono ?_
 rintro _ _ ⟨c,bs,rfl,hc,rfl⟩
 have hc5:c≠b5:=by rintro rfl;rw[aA.aP] at hc;cases hc
 have hc3:c≠b3:=by rintro rfl;rw[aA.aV _ _ hc5,aA.aP] at hc;cases hc
 have hnc:st c=none:=by rw[aA.aV _ _ hc5,aA.aV _ _ hc3] at hc;exact hc
 obtain⟨S,hS⟩:∃S:Nat→List AV→aA,S=fun q C=>((st.aC b3 (.cells [.int .i64 0,.int .i64 0,.str ⟨#[]⟩,.fslice []])).aC b5 (.cells C)).aC c (aK bs q):=⟨_,rfl⟩
 have hS1:∀q q' C,(S q C).aC c (aK bs q')=S q' C:=fun q q' C=>by rw[hS];simp only;rw[bM]
 have hS2:∀q C C',(S q C).aC b5 (.cells C')=S q C':=fun q C C'=>by rw[hS];simp only;rw[aA.mT _ _ _ hc5,bM]
 have hS5:∀q C,S q C b5=some (.cells C):=fun q C=>by rw[hS];simp only;rw[aA.aV _ _ (cV hc5),aA.aP]
 have hS3:∀q C,S q C b3=some (.cells [.int .i64 0,.int .i64 0,.str ⟨#[]⟩,.fslice []]):=fun q C=>by rw[hS];simp only;rw[aA.aV _ _ (cV hc3),aA.aV _ _ (cV h53),aA.aP]
 have hSr:∀q C,bE (S q C) c bs q:=fun q C=>by rw[hS];exact bE.new
 have hSD:∀q C B,aH ((S q C).aC b3 (.cells B)) st:=fun q C B=>by rw[hS];exact((((aH.refl _).aC hb3).aC hn5).aC hnc).aC hb3
 rw[show((st.aC b3 (.cells [.int .i64 0,.int .i64 0,.str ⟨#[]⟩,.fslice []])).aC b5 (.cells [.int .i64 k,.int .i64 n,.str s,.slice (ts.map Tm.av)])).aC c (aK bs 0)=S 0 [.int .i64 k,.int .i64 n,.str s,.slice (ts.map Tm.av)] by rw[hS]]
 by_cases h0:ts= []
 case pos=>
  have h0':=bC (show ¬(0:Int)<(ts.length:Int) by rw[h0];decide)
  simp only[h0',bB,aG,hS5,aB,seval,lU]
  refine k0 [(0,1),(1,1),(2,1),(3,2)] [0,1,2] (one b5 (.cells [.int .i64 k,.int .i64 n,.str s,.slice (ts.map Tm.av)])) mixed (by decide +kernel) (by decide +kernel) (by decide +kernel) rfl (eQ (hS5 _ _)) ?_
  simp only[yK,aA.aP,aF,hS3,aB,seval,lU]
  refine⟨0,[],_,rfl,by simp,by simp,⟨4,by simp⟩,st,hSD _ _ _,⟨p,.mk k n s ts,⟨oT,hg⟩,?_⟩,rfl⟩
  simp only[eC,mI,dQ,d7,j5,bT,bF,a6]
 have hpl:0<ts.length:=List.length_pos_iff.2 h0
 have h0':=bR (show(0:Int)<(ts.length:Int) by omega)
 simp only[h0',a8,aG,hS5,aB,seval,lU]
 refine(fQ bs c 0 (by omega) 2 (by omega) (by omega) _ (hSr _ _)).mono ?_
 rintro _ _ ⟨j,hj,rfl,rfl⟩
 rw[hS1]
 simp only[aB,seval]
 refine aW (fun h1=>?_) (fun h1=>?_)
 case refine_2=>
  simp only[aB,seval]
  refine k0 [(0,1),(1,1),(2,1),(3,2)] [0,1,2] (one b5 (.cells [.int .i64 k,.int .i64 n,.str s,.slice (ts.map Tm.av)])) mixed (by decide +kernel) (by decide +kernel) (by decide +kernel) rfl (eQ (hS5 _ _)) ?_
  simp only[yK,aA.aP,aF,hS3,aB,seval,lU]
  refine⟨0,[],_,rfl,by simp,by simp,⟨4,by simp⟩,st,hSD _ _ _,⟨p,.mk k n s ts,⟨oT,hg⟩,?_⟩,rfl⟩
  simp only[eC,mI,dQ,d7,j5,bT,bF,a6]
 simp only[hS5,aB,seval,lU]
 refine(hcp _).mono ?_
 rintro _ _ ⟨b,rfl,rfl,hb⟩
 obtain⟨x,ts,rfl⟩:∃x ts',ts=x::ts':=by
  cases ts with
  | nil=>exact absurd rfl h0
  | cons x ts=>exact⟨x,ts,rfl⟩
 have hbn:=hb (by simp)
 have xZ:b5≠b:=by rintro rfl;rw[hS5] at hbn;cases hbn
 have B3:b3≠b:=by rintro rfl;rw[hS3] at hbn;cases hbn
 have hbc:b≠c:=by rintro rfl;have:=hSr 1 [.int .i64 k,.int .i64 n,.str s,.slice ((x::ts).map Tm.av)];rw[bE,hbn] at this;cases this
 have hSb:∀q C,S q C b=none:=fun q C=>by
  have:S 1 [.int .i64 k,.int .i64 n,.str s,.slice ((x::ts).map Tm.av)] b=S q C b:=by
   rw[hS]
   simp only
   rw[aA.aV _ _ hbc,aA.aV _ _ (cV xZ),aA.aV _ _ hbc,aA.aV _ _ (cV xZ)]
  rw[←this];exact hbn
 have e5:∀q C C' L,(aY (S q C) b L).aC b5 (.cells C')=aY (S q C') b L:=fun q C C' L=>by rw[jA fun _=>xZ,hS2]
 have ec:∀q q' C L,(aY (S q C) b L).aC c (aK bs q')=aY (S q' C) b L:=fun q q' C L=>by rw[jA fun _=>cV hbc,hS1]
 have g5:∀q C L,aY (S q C) b L b5=some (.cells C):=fun q C L=>by
  cases L with
  | nil=>exact hS5 _ _
  | cons y L=>exact(aA.aV _ _ xZ).trans (hS5 _ _)
 have g3:∀q C L,aY (S q C) b L b3=some (.cells [.int .i64 0,.int .i64 0,.str ⟨#[]⟩,.fslice []]):=fun q C L=>by
  cases L with
  | nil=>exact hS3 _ _
  | cons y L=>exact(aA.aV _ _ B3).trans (hS3 _ _)
 have gr:∀q C L,bE (aY (S q C) b L) c bs q:=fun q C L=>by
  cases L with
  | nil=>exact hSr _ _
  | cons y L=>exact(aA.aV _ _ (cV hbc)).trans (hSr _ _)
 have gb:∀q C,aY (S q C) b (x.av::ts.map Tm.av) b=some (.cells (x.av.cells++(ts.map Tm.av).flatMap AV.cells)):=fun q C=>aA.aP _ _ _
 have gu:∀q C (u:Tm),(aY (S q C) b (x.av::ts.map Tm.av)).aC b (.cells (u.av.cells++(ts.map Tm.av).flatMap AV.cells))=aY (S q C) b (u.av::ts.map Tm.av):=fun q C u=>bM _ _ _ _
 rw[lE (by simp)]
 simp only[aF,aG,g5,e5,aB,seval,lU]
 have hlp:((0:Int)≤0∧(0:Int)<(((x::ts).length:Nat):Int))=True:=bR ⟨by omega,by simp only[bD];omega⟩
 refine k0 [(0,1),(1,1),(2,1),(3,0),(4,1),(5,2)] [0,1,2,4] (one b5 (.cells [.int .i64 k,.int .i64 n,.str s,.mslice b 0 (x::ts).length 4])) mixed (by decide +kernel) (by decide +kernel) (by decide +kernel) rfl (eQ (g5 _ _ _)) ?_
 simp only[yK,eX,aB,seval,lU]
 refine(BA bs c 2 1 _ (by decide) (by decide) (gr _ _ _)).mono ?_
 rintro _ _ ⟨p4,s1,s2,rfl,u,hu,rfl⟩
 rw[ec]
 have nX:aF (x.av.cells++(ts.map Tm.av).flatMap AV.cells) 0 u.av.cells=u.av.cells++(ts.map Tm.av).flatMap AV.cells:=by
  obtain⟨k1,n1,s1,t1⟩:=x
  obtain⟨k2,n2,s2,t2⟩:=u
  simp only[a6,AV.cells]
  rfl
 have hle:4≤(x.av.cells++(ts.map Tm.av).flatMap AV.cells).length:=by rw[dI,aO];omega
 simp only[aB,seval]
 refine⟨eQ (g5 _ _ _),?_⟩
 have aCC:((0:Int)<(ts.length:Int)+1)=True:=bR (by omega)
 have p6:=bR hle
 simp only[gZ,cS,aCC,Int.toNat_zero,Nat.zero_mul,tM,aF,gb,p6,bA,aO,eX,aB,seval,lU]
 have aBW:List.drop 4 (x.av.cells++(ts.map Tm.av).flatMap AV.cells)=(ts.map Tm.av).flatMap AV.cells:=List.drop_left' (aO x)
 rw[aBW,gu]
 have g5u:∀q C,aY (S q C) b (u.av::ts.map Tm.av) b5=some (.cells C):=fun q C=>g5 q C _
 have uR:AV.mslice b 0 (ts.length+1) 4=aT 4 b ((u::ts).map Tm.av):=by rw[lE (by simp)];simp
 refine k0 [(0,1),(1,1),(2,1),(3,2)] [0,1,2] (one b5 (.cells [.int .i64 k,.int .i64 n,.str s,.mslice b 0 (ts.length+1) 4])) mixed (by decide +kernel) (by decide +kernel) (by decide +kernel) rfl (eQ (g5u _ _)) ?_
 simp only[yK,aA.aP,aF,g3,eX,aB,seval,lU]
 refine⟨b,(u::ts).map Tm.av,(S p4 [.int .i64 k,.int .i64 n,.str s,.mslice b 0 (ts.length+1) 4]).aC b3 (.cells [.int .i64 k,.int .i64 n,.str s,.mslice b 0 (ts.length+1) 4]),?_,?_,d8 _,⟨4,cT _⟩,st,hSD _ _ _,⟨p,.mk k n s (u::ts),⟨oT,C4 ?_ ?_,hg.2.1,?_⟩,?_⟩,rfl⟩
 · exact jA fun _=>B3
 · intro _;rw[aA.aV _ _ (cV B3)];exact hSb _ _
 · have:=(Tm.kT hg.1).1;simpa using this
 · intro y hy
   rcases dS.1 hy with rfl | hy
   · exact hu.1.2
   · exact(Tm.kT hg.1).2 y (List.mem_cons_of_mem _ hy)
 · intro y hy
   rcases dS.1 hy with rfl | hy
   · exact hu.2.1
   · exact hg.2.2 y (List.mem_cons_of_mem _ hy)
 · rw[uR]
   simp only[eC,mI,dQ,d7,j5,bT,bF,a6]
   try rw[←bT,eG]
   try rfl
end Go.AW
namespace Go.AW




def mK(x:Tm):ByteArray:=if x.k=1 then⟨#[]⟩ else if x.k=2 then gN x.n else x.s++⟨#[47]⟩++eO 20 x.ts.length ⟨#[]⟩
def gK(t:Tm):ByteArray:=if t.k=1 then⟨#[]⟩ else match t.ts with
 | []=>⟨#[]⟩
 | x::_=>mK x
def nP(a b:ByteArray):Bool:=decide (a=⟨#[]⟩)||(decide (b=⟨#[]⟩)||decide (a=b))
def kN(p:List Cl)(key:ByteArray)(i:Nat):Bool:=match p[i]? with
 | some c=>nP (gK c.1) key
 | none=>false
def j3(p:List Cl)(t:Tm)(l:List Nat):List Nat:=l.filter (kN p (gK t))
theorem ZI(p:List Cl)(t:Tm)(l:List Nat):(∀i∈j3 p t l,i∈l)∧(j3 p t l).length≤l.length:=⟨fun i h=>(wJ.1 h).1,List.length_filter_le _ _⟩
theorem aC3{t:Tm}(h:gK t≠⟨#[]⟩):t.k≠1∧∃x l,t.ts=x::l∧gK t=mK x∧x.k≠1:=by
 unfold gK at h ⊢
 by_cases h1:t.k=1
 · rw[aU h1] at h;exact absurd rfl h
 rw[aS h1] at h ⊢
 refine⟨h1,?_⟩
 cases ht:t.ts with
 | nil=>rw[ht] at h;exact absurd rfl h
 | cons x l=>
  rw[ht] at h
  refine⟨x,l,rfl,rfl,fun hx=>h ?_⟩
  simp only[mK]
  rw[aU hx]
section
variable (p:List Cl)
variable {p}
end
end Go.AW
