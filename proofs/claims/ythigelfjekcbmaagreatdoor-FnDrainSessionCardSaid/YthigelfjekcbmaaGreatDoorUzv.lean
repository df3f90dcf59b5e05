import Derived.Test.YthigelfjekcbmaaGreatDoorUzu
import Derived.Test.YthigelfjekcbmaaGreatDoorUzp
import Derived.Test.YthigelfjekcbmaaGreatDoorUzr
import Derived.Test.YthigelfjekcbmaaGreatDoorUzo
import Derived.Test.YthigelfjekcbmaaGreatDoorUzs
set_option linter.unusedSimpArgs false
set_option linter.unusedVariables false
set_option maxRecDepth 100000
namespace Go.AW
open Go.Proofs.Tryz
abbrev rF:=zi tI_3 (zi zI_3 (zi aU (zi tI_4 (zi zI_4 (zi cI (zi tI_27 (zi zI_27 (zi eH (zi gK (zi gN (zi iJ (zi tI_28 (zi zI_28 (zi aO (zi bF (zi bG (zi bZ (zi tI_30 (zi zI_30 (zi iL (zi iM (zi iN (zi iO (zi iP (zi iQ (zi iK (zi tI_31 (zi zI_31 (zi gM (zi jX (zi jY (zi lX (zi tI_47 (zi zI_47 (zi mU (zi pT (zi pU pJ)))))))))))))))))))))))))))))))))))))
set_option maxHeartbeats 2000000 in
theorem aVS(code:List Bt)(st:aB):aD prog 8 [.slice (code.map gE)] st (fun r _=>r=.bool true):=by
 refine wF [1000000] 1 func8 ntmps8 rfl rfl ?_
 intro _
 simp -implicitDefEqProofs only[aF,aA,seval,rF]
 refine aQ (fun h1=>?_) (fun h1=>?_)
 · simp -implicitDefEqProofs only[aA,seval]
 simp -implicitDefEqProofs only[aA,seval]
 refine(RY code _).mono ?_
 rintro _ s1 ⟨⟨s,n,hs,rfl⟩,rfl⟩
 obtain⟨k1,k2,k3,k4⟩:=hs.small
 obtain⟨j1,j2,j3,j4⟩:=hs.cA (n:=n) |>.small
 have hsp:=MN s n k1 k2 k3 k4
 have him:=fun st=>(B4 s n k1 k2 k3 k4 st).GJ
 have hv:=w7 s
 have hI:=fun h h0 hf=>a6J (s:=s) (n:=n) h h0 hf
 have hst:=fun h=>DO (s:=s) (n:=n) h
 have xR:=mT (s:=s) (n:=n)
 have hv2:=w7 (cA s n).1
 have cS:=fun u st=>(H3 s.p s.q 20 u st).AC
 have hss:=B3 (cA s n).1
 have bAS:=B3 s
 generalize kR s n=cs at *
 generalize cA s n=X at *
 obtain⟨⟨p,q,i0,i1,i2,i3⟩,kk⟩:∃t:Ss,t=s:=⟨s,rfl⟩
 subst kk
 obtain⟨⟨xp,xq,x0,x1,x2,x3⟩,xl⟩:=X
 simp only at hI cS
 replace cS:=cS x1
 have hSo:=WO p (cnd:=fun _ l=>l) (fun _ l=>⟨fun _ h=>h,dC _⟩) q 20 x1
 generalize d8 p (fun _ l=>l) q 20 x1=T at *
 obtain⟨L,e⟩:=T
 simp only at hI cS hSo
 generalize hok:fO ⟨p,q,i0,i1,i2,i3⟩=ok at *
 simp only[cQ] at *
 simp -implicitDefEqProofs only[aA,↓aS,seval,rF]
 refine(him _).to ?_
 simp -implicitDefEqProofs only[aA,↓aS,seval,rF]
 refine(hsp _).to ?_
 simp -implicitDefEqProofs only[aA,↓aS,seval,rF]
 refine(hss _).to ?_
 simp -implicitDefEqProofs only[aA,seval]
 refine(o0 xl _).to ?_
 simp -implicitDefEqProofs only[aA,seval,rF]
 refine(hv _).to ?_
 cases ok with
 | false=>
  simp -implicitDefEqProofs only[aA,seval,rF]
  refine(hss _).to ?_
  simp -implicitDefEqProofs only[aA,seval]
  refine(o0 xl _).to ?_
  simp -implicitDefEqProofs only[aA,seval]
 | true=>
  simp -implicitDefEqProofs only[aA,seval,rF]
  refine(cS _).to ?_
  simp -implicitDefEqProofs only[aA,seval,rF]
  by_cases hg:i3= -1∧0≤n
  case neg=>
   have hX:=hst (by
    cases hc:cs with
    | false=>rfl
    | true=>exact absurd ⟨(xR.1 hc).2.2,(xR.1 hc).2.1⟩ hg)
   simp only[Prod.mk.injEq,Ss.mk.injEq] at hX
   obtain⟨⟨rfl,rfl,rfl,rfl,rfl,rfl⟩,rfl⟩:=hX
   by_cases h3:x3= -1
   · have hn:n<0:=by
      apply Int.not_le.1
      exact fun h=>hg ⟨h3,h⟩
     have h3':=cM h3
     have hn':=cM hn
     simp -implicitDefEqProofs only[h3',hn',bE,dX,aW,aX,aA,seval,rF]
     refine(hss _).to ?_
     simp -implicitDefEqProofs only[bE,dX,aX,aA,seval,rF]
   · have h3':=cB h3
     simp -implicitDefEqProofs only[h3',bM,dX,aW,aX,aA,seval,rF]
     refine(hss _).to ?_
     simp -implicitDefEqProofs only[bE,dX,aX,aA,seval,rF]
  obtain⟨h3,hn⟩:=hg
  obtain⟨r1,r2,r3,r4,r5,r6,r7⟩:=hI rfl hn h3
  have h3':=cM h3
  have hn':=cB (show ¬n<0 by omega)
  simp -implicitDefEqProofs only[h3',hn',bE,bM,dX,aA,seval,rF]
  rw[r1] at hv2
  refine(hv2 _).to ?_
  obtain⟨k,rfl⟩:=qF r5
  rw[jT] at r6 r7
  have hSl:=hSo.1
  have hxl:xl.length≤20:=by rw[←r7,lO];omega
  have hw:=bO (n:=(k:Int)+(xl.length:Int))
  have r2':=cM r2
  have r3':=cM r3
  have hsl:=fun(φ:AF) (y:Operand) (h:φ.eval y=.int .i64 (k:Int))=>YS (P:=prog) (t:=31) (L:=L.map cD) gM (by rw[aF];omega) (zJ L) h
  rw[←yW,r7] at hsl
  subst r4
  simp -implicitDefEqProofs only[aF,hw,r2',r3',hsl,bE,dX,aA,seval,rF]
  refine(o0 xl _).to ?_
  simp -implicitDefEqProofs only[aA,seval]
theorem aB6{st:aB}{b:Nat}{l:List AV}(h:l≠[]→st b=none):aL (aV st b l) st:=by
 by_cases hl:l= []
 · rw[hl,oA];exact aL.refl _
 · rw[jD hl];exact(aL.refl _).aC (h hl)
theorem a6B{st:aB}{b:Nat}{L:List (List Tm)}(hb:L.map cD≠[]→st b=none)(us:List AV):mN (aV st b (L.map cD)) st (aZ 1 b (L.map cD)::us) (.slice (L.map cD)::us):=by
 refine mN.cons (fun h v S y=>?_) (mN.mono (aB6 hb) us)
 have:=(qG.fin (r:=aZ 1 b (L.map cD)) hb (aUF L) ⟨1,zJ L⟩).2 h v S y
 rwa [jE] at this
abbrev qC:=zi tI_3 (zi zI_3 (zi aU (zi tI_4 (zi zI_4 (zi cI (zi tI_30 (zi zI_30 (zi iL (zi iM (zi iN (zi iO (zi iP (zi iQ (zi iK (zi tI_31 (zi zI_31 (zi gM (zi jX (zi jY (zi lX (zi tI_47 (zi zI_47 (zi mU (zi pT (zi pU pJ)))))))))))))))))))))))))
set_option maxHeartbeats 2000000 in
theorem aVT(code more:List Bt)(st:aB):aD prog 9 [.slice (code.map gE),.slice (more.map gE)] st (fun r _=>r=.bool true):=by
 refine wF [1000000] 2 func9 ntmps9 rfl rfl ?_
 simp only[eQ,AV.fits,eR,aF]
 intro ⟨_,hml,_⟩
 simp -implicitDefEqProofs only[aF,aA,seval,qC]
 refine cU (fun h0=>?_) (fun h0=>?_)
 case refine_2=>
  simp -implicitDefEqProofs only[h0,aA,seval]
 simp -implicitDefEqProofs only[h0,aF,aA,seval,qC]
 refine aQ (fun h1=>?_) (fun h1=>?_)
 · simp -implicitDefEqProofs only[aA,seval]
 simp -implicitDefEqProofs only[aA,seval]
 refine(RY code _).mono ?_
 rintro _ s1 ⟨⟨s,n,hs,rfl⟩,rfl⟩
 obtain⟨m,hm⟩:∃m,m=more.length % 9:=⟨_,rfl⟩
 have hm9:m<9:=by omega
 have hr:((more.length:Int)).tmod 9=(m:Int):=by rw[hm,show(9:Int)=((9:Nat):Int) from rfl,PJ]
 obtain⟨k1,k2,k3,k4⟩:=hs.small
 obtain⟨j1,j2,j3,j4⟩:=hs.cA (n:=n) |>.small
 have hsp:=MN s n k1 k2 k3 k4
 have him:=fun st=>(B4 s n k1 k2 k3 k4 st).GJ
 have hv:=w7 s
 have hT:=fun h hf h0=>a77 (s:=s) (a:=n) (b:=(m:Int)) h hf h0 (by omega)
 have UQ:=fun st=>(B4 (cA s n).1 m j1 j2 j3 j4 st).GJ
 have a1X:=fun st=>(B4 s (n+m) k1 k2 k3 k4 st).GJ
 have hss:=B3 (cA s n).1
 have a2V:=B3 (cA s (n+m)).1
 have hl3:=fun h=>OW (s:=s) (n:=n+m) h
 generalize fO s=ok at *
 generalize cA (cA s n).1 m=Y at *
 generalize cA s n=X at *
 generalize cA s (n+m)=Z at *
 obtain⟨⟨p,q,i0,i1,i2,i3⟩,kk⟩:∃t:Ss,t=s:=⟨s,rfl⟩
 subst kk
 obtain⟨⟨xp,xq,x0,x1,x2,x3⟩,xl⟩:=X
 obtain⟨⟨yp,yq,y0,y1,y2,y3⟩,yl⟩:=Y
 obtain⟨⟨zp,zq,z0,z1,z2,z3⟩,zl⟩:=Z
 simp only at hT hl3
 simp only[cQ] at *
 simp -implicitDefEqProofs only[aF,hr,aA,↓aS,seval,qC]
 refine(him _).to ?_
 simp -implicitDefEqProofs only[aA,↓aS,seval,qC]
 refine(hsp _).to ?_
 simp -implicitDefEqProofs only[aA,↓aS,seval,qC]
 refine(hss _).to ?_
 simp -implicitDefEqProofs only[aA,seval]
 refine(o0 xl _).to ?_
 simp -implicitDefEqProofs only[aA,seval,qC]
 refine(hv _).to ?_
 have iW:∀K:Prop,K→K:=fun _ h=>h
 cases ok with
 | false=>
  simp -implicitDefEqProofs only[aA,seval,qC]
  refine(hss _).to ?_
  simp -implicitDefEqProofs only[aA,seval]
  refine(o0 xl _).to ?_
  simp -implicitDefEqProofs only[aA,seval]
 | true=>
  by_cases hn0:n<0
  · have JM:=cM hn0
    simp -implicitDefEqProofs only[JM,bE,aA,seval,qC]
    refine(hss _).to ?_
    simp -implicitDefEqProofs only[aA,seval]
    refine(o0 xl _).to ?_
    simp -implicitDefEqProofs only[aA,seval]
  have JM:=cB hn0
  by_cases hn1:1000<n
  · have NX:=cM hn1
    simp -implicitDefEqProofs only[JM,NX,bE,bM,aA,seval,qC]
    refine(hss _).to ?_
    simp -implicitDefEqProofs only[aA,seval]
    refine(o0 xl _).to ?_
    simp -implicitDefEqProofs only[aA,seval]
  have NX:=cB hn1
  by_cases h3:i3= -1
  case neg=>
   have h3':=cB h3
   simp -implicitDefEqProofs only[JM,NX,h3',bM,aA,seval,qC]
   refine(hss _).to ?_
   simp -implicitDefEqProofs only[aA,seval]
   refine(o0 xl _).to ?_
   simp -implicitDefEqProofs only[aA,seval]
  have h3':=cM h3
  obtain⟨t1,t2,t3⟩:=hT rfl h3 (by omega)
  have hzl:=hl3 rfl
  have hxy:xl.length+yl.length≤20:=by rw[←dW,t1];exact hzl
  have hw:=bO (n:=n+(m:Int))
  simp -implicitDefEqProofs only[JM,NX,h3',bE,bM,aA,seval,qC]
  refine(UQ _).to ?_
  simp -implicitDefEqProofs only[hw,aA,↓aS,seval,qC]
  refine(a1X _).to ?_
  simp -implicitDefEqProofs only[aA,↓aS,seval,qC]
  change kP prog 31 (aV s1 0 []) (aZ 1 0 []) (.slice (xl.map cD)) _
  refine eE gM jX jY rfl rfl (by intro e he;simp only[cY] at he;obtain⟨t,_,rfl⟩:=he;exact⟨rfl,rfl⟩) (by simp) (fun h=>absurd rfl h) (by simp only[aX,aF];omega) (by simp only[aX,aF];omega) (fun b hb=>?_)
  rw[eD] at hb ⊢
  simp -implicitDefEqProofs only[aA,seval]
  refine eE gM jX jY rfl rfl (by intro e he;simp only[cY] at he;obtain⟨t,_,rfl⟩:=he;exact⟨rfl,rfl⟩) (zJ xl) hb (by simp only[aF];omega) (by simp only[aF];omega) (fun b2 hb2=>?_)
  rw[←oY,t1] at hb2 ⊢
  simp -implicitDefEqProofs only[aA,seval]
  refine(aD.a3Y (aB6 hb2) (a6B hb2 _) (o0 zl _)).mono ?_
  rintro _ _ ⟨rfl,rfl⟩
  subst t2
  by_cases hx:x3= -1
  · have hx':=cM hx
    have hE:=t3 hx
    simp only[Ss.mk.injEq] at hE
    obtain⟨rfl,rfl,rfl,rfl,rfl,_⟩:=hE
    simp -implicitDefEqProofs only[hx',bE,dX,aA,seval,qC]
    refine(a2V _).to ?_
    simp -implicitDefEqProofs only[dX,aA,seval]
  · have hx':=cB hx
    simp -implicitDefEqProofs only[hx',bE,bM,dX,aA,seval,qC]
abbrev wH:=zi tI_3 (zi zI_3 (zi aU (zi tI_4 (zi zI_4 (zi cI (zi tI_30 (zi zI_30 (zi iL (zi iM (zi iN (zi iO (zi iP (zi iQ (zi iK (zi tI_47 (zi zI_47 (zi mU (zi pT (zi pU pJ)))))))))))))))))))
set_option maxHeartbeats 2000000 in
theorem aVQ(code:List Bt)(st:aB):aD prog 10 [.slice (code.map gE)] st (fun r _=>r=.bool true):=by
 refine wF [1000000] 1 func10 ntmps10 rfl rfl ?_
 intro _
 simp -implicitDefEqProofs only[aF,aA,seval,wH]
 refine aQ (fun h1=>?_) (fun h1=>?_)
 · simp -implicitDefEqProofs only[aA,seval]
 simp -implicitDefEqProofs only[aA,seval]
 refine(aVL code _).mono ?_
 rintro _ s1 ⟨⟨a,b,ha,hb,rfl⟩,rfl⟩
 have h1:=R8 a b
 have h2:=aYL a b
 have h3':=R8 b a
 rw[←a62 a b] at h3'
 have h4':=B3 a
 have h5:=w7 a
 have h6:=w7 b
 have hE:uW a b=true→fO a=fO b:=fun h=>by rw[O0.1 h]
 generalize uW a b=u at *
 generalize fO a=v at *
 generalize fO b=w at *
 obtain⟨p,q,i0,i1,i2,i3⟩:=a
 obtain⟨p',q',j0,j1,j2,j3⟩:=b
 simp only[cQ] at *
 simp -implicitDefEqProofs only[aA,seval,wH]
 intro b3 h3 b4 h4
 have hz:List.map ofConst (Value.agg #[Value.slice none 0 0,Value.slice none 0 0,Value.int .i64 0,Value.int .i64 0,Value.int .i64 0,Value.int .i64 0]).cells.toList= [.fslice [],.fslice [],.int .i64 0,.int .i64 0,.int .i64 0,.int .i64 0]:=by rfl
 simp only[hz]
 have h43:b4≠b3:=by rintro rfl;rw[aB.aJ] at h4;cases h4
 have e3:∀X Y:AO,((s1.aC b3 X).aC b4 Y) b3=some X:=fun X Y=>by rw[aB.aG _ _ h43.symm,aB.aJ]
 have e4:∀X Y Z:AO,(((s1.aC b3 X).aC b4 Y).aC b3 Z) b4=some Y:=fun X Y Z=>by rw[aB.aG _ _ h43,aB.aJ]
 have e3':∀(X Y Z W:AO),((((s1.aC b3 X).aC b4 Y).aC b3 Z).aC b4 W) b3=some Z:=fun X Y Z W=>by rw[aB.aG _ _ h43.symm,aB.aJ]
 simp -implicitDefEqProofs only[aK,e3,e4,e3',aB.aJ,aA,seval,wH]
 refine(h1 _).to ?_
 simp -implicitDefEqProofs only[aA,seval]
 obtain⟨s0,z1,z2,z3⟩:=LA h43.symm (.cells [.slice (p.map a9),.slice (q.map Tm.av),.int .i64 i0,.int .i64 i1,.int .i64 i2,.int .i64 i3]) (.cells [.slice (p'.map a9),.slice (q'.map Tm.av),.int .i64 j0,.int .i64 j1,.int .i64 j2,.int .i64 j3])
 refine HY (.fin [(0,1),(1,1),(2,1),(3,0),(4,1),(5,1),(6,1),(7,1),(8,1),(9,0),(10,1),(11,1),(12,1),(13,1),(14,1),(15,0),(16,1),(17,1),(18,1),(19,1),(20,1),(21,1),(23,1),(22,0),(24,0),(25,1),(26,1),(27,1),(28,1)]) [0,1,2,4,5,6,7,8,10,11,12,13,14,16,17,18,19,20,21,23,25,26,27,28] s0 mixed (by decide +kernel) rfl (by decide +kernel) (z3 _ (e3' _ _ _ _) (aB.aJ _ _ _)) ?_
 simp -implicitDefEqProofs only[BH,z1,z2,aA,seval,wH]
 have hz3:=z3 _ (e3' (.cells [.fslice [],.fslice [],.int .i64 0,.int .i64 0,.int .i64 0,.int .i64 0]) (.cells [.fslice [],.fslice [],.int .i64 0,.int .i64 0,.int .i64 0,.int .i64 0]) _ _) (aB.aJ _ _ _)
 refine(h2 _).to ?_
 cases u with
 | false=>
  simp -implicitDefEqProofs only[dX,z1,z2,aA,seval,wH]
  refine⟨hz3,?_⟩
  refine(h3' _).to ?_
  simp -implicitDefEqProofs only[dX,z1,aA,seval,wH]
  refine⟨hz3,?_⟩
  refine(h4' _).to ?_
  simp -implicitDefEqProofs only[dX,aA,seval]
  exact hz3
 | true=>
  simp -implicitDefEqProofs only[dX,z1,z2,aA,seval,wH]
  refine⟨hz3,?_⟩
  refine(h3' _).to ?_
  simp -implicitDefEqProofs only[dX,z1,aA,seval,wH]
  refine⟨hz3,?_⟩
  refine(h4' _).to ?_
  simp -implicitDefEqProofs only[dX,z1,z2,aA,seval,wH]
  refine⟨hz3,?_⟩
  refine(h5 _).to ?_
  simp -implicitDefEqProofs only[dX,aA,seval]
  refine⟨hz3,?_⟩
  refine(h6 _).to ?_
  simp -implicitDefEqProofs only[hE rfl,dX,aA,seval,wH]
  exact hz3
theorem a27{P:Program}{t:TypeId}{ag:Bool}{l:List Int}{i:Nat}{n:Int}(hI:eI P t=some (ag,1))(h:l[i]?=some n):dN P t (.slice (l.map iv)) (.int .i64 (i:Int))=some (.pptr (.int .i64 n)):=by
 simp only[dN,hI,jT,oX,h,pN]
 rw[aH (by omega)]
 try rfl
noncomputable def xE(s:Ss)(sl:List Int):List (List Tm)×Int:=if fO s=true then drain (sl.take 100) s [] else([],9)
theorem aZC{s:Ss}{n:Int}{sl:List Int}{acc:List (List Tm)}(h:s.fin= -1):drain (n::sl) s acc=drain sl (cA s n).1 (acc++(cA s n).2):=by
 rw[drain,aH h]
theorem S4{s:Ss}{sl:List Int}{acc:List (List Tm)}(h:s.fin≠-1):drain sl s acc=(acc,s.fin):=by
 cases sl<;>rw[drain,aE h]
theorem aB4{s:Ss}{acc:List (List Tm)}(h:s.fin= -1):drain [] s acc=(acc++(cA s 300).2,(cA s 300).1.fin):=by
 rw[drain,aH h]
theorem bA.app{s:aB}:∀ {xs os ys os':List AV} {bs bs':List Nat},bA s xs os bs→bA s ys os' bs'→bA s (xs++ys) (os++os') (bs++bs')
 | [],os,ys,os',bs,bs',h,h'=>by
  simp only[bA] at h
  rw[h.1,h.2]
  exact h'
 | a::xs,os,ys,os',bs,bs',h,h'=>by
  simp only[bA] at h
  obtain⟨o,os1,b1,b2,rfl,rfl,h1,h2⟩:=h
  simp only[fE,bA]
  exact⟨o,os1++os',b1,b2++bs',rfl,by rw[nE],h1,bA.app h2 h'⟩
theorem bA.drop{s:aB}:∀ {xs os:List AV} {bs:List Nat} (k:Nat),bA s xs os bs→∃bs',bA s (xs.drop k) (os.drop k) bs'∧bs'.Sublist bs
 | xs,os,bs,0,h=>⟨bs,h,List.Sublist.refl _⟩
 | [],os,bs,k+1,h=>by
  simp only[bA] at h
  rw[h.1,h.2]
  exact⟨[],by simp only[List.drop_nil,bA,and_self],List.Sublist.refl _⟩
 | a::xs,os,bs,k+1,h=>by
  simp only[bA] at h
  obtain⟨o,os1,b1,b2,rfl,rfl,h1,h2⟩:=h
  obtain⟨bs',h3,h4⟩:=bA.drop k h2
  exact⟨bs',h3,h4.trans (List.sublist_append_right _ _)⟩
def YH(st:aB)(s:Ss)(n:Int)(r:AV)(st':aB):Prop:=
 ∃os bs,r=.tup [cQ (cA s n).1,.slice os]∧bs.Nodup∧(∀b∈bs,st b=none)∧bA st' ((cA s n).2.map cD) os bs∧∀b,b∉bs→st' b=st b
theorem aD.a6G{P:Program}{g:FuncId}{args:List AV}{st:aB}{s:Ss}{n:Int}(x:aD P g args st (EJ st s n)):aD P g args st (YH st s n):=by
 refine x.nY fun r st' h=>?_
 obtain⟨o1,q,o2,L,k,rfl,⟨os,bs,he,h1,h2,h3,h4⟩,hT,hk,hd,_⟩:=h
 cases he
 obtain⟨p1,p2,b1,b2,e1,rfl,h5,h6⟩:=J3.1 h3
 cases e1
 have ha:=(O2 hT).1
 have aOJ:∀(bs':List Nat),(∀b∈bs',b∈b2)→aL st' (fun x=>if x∈bs' then st' x else st x):=fun bs' oD b=>by
  dsimp only
  by_cases hb:b∈bs'
  · rw[aH hb];exact⟨fun h=>h,fun o h=>h⟩
  · rw[aE hb]
    refine⟨fun e=>?_,fun o e=>?_⟩
    · by_cases hb2:b∈b1++b2
      · exact h2 b hb2
      · rw[←h4 b hb2];exact e
    · by_cases hb2:b∈b1++b2
      · rw[h2 b hb2] at e;cases e
      · rw[h4 b hb2];exact e
 have hn:=n6.1 h1
 have hn1:∀(bs':List Nat),(∀b∈bs',b∈b2)→∀b∈b1,(fun x=>if x∈bs' then st' x else st x) b=none:=fun bs' oD b hb=>by
  dsimp only
  rw[aE fun h=>hn.2.2 b hb b (oD b h) rfl]
  exact h2 b (by simp [hb])
 have aOF:∀(bs':List Nat) (os':List AV),(∀b∈bs',b∈b2)→bs'.Nodup→bA st' ((cA s n).2.map cD) os' bs'→(∀h v,dD h st'→VC h st' o2 v→VC h (fun x=>if x∈bs' then st' x else st x) (.slice os') v)→∃r2 s2,zB st' s2∧qG st' (.tup [o1,o2]) s2 r2∧YH st s n r2 s2:=fun bs' os' oD hnd hO hv=>by
  have D:=aOJ bs' oD
  refine⟨.tup [cQ (cA s n).1,.slice os'],_,D.tO,fun h v S y=>?_,os',bs',rfl,hnd,fun b hb=>h2 b (by simp [oD b hb]),bA.a7 _ _ _ (fun b hb=>aH hb) hO,fun b hb=>aE hb⟩
  obtain⟨y0,y1⟩:=y
  refine⟨y0,?_⟩
  unfold VC at y1 ⊢
  obtain⟨vs,e,y2⟩:=y1
  simp only[d6] at y2 ⊢
  obtain⟨v1,r1,rfl,ya,v2,r2,rfl,yb,rfl⟩:=y2
  have z1:aR h (fun x=>if x∈bs' then st' x else st x) (cQ (cA s n).1) v1:=h5.X0 S D (hn1 bs' oD) (aR.F3 ya)
  have z2:aR h (fun x=>if x∈bs' then st' x else st x) (.slice os') v2:=by
   have y:=aR.F3 yb
   have hy:VC h st' o2 v2.cells.toList∧o2.isAgg=lY v2:=by rcases hT with ⟨_,b,w,_,rfl⟩ | ⟨_,rfl⟩<;>exact⟨y.2,y.1⟩
   exact⟨by rw[←hy.2,ha];try rfl,hv h _ S hy.1⟩
  exact⟨_,e,v1,_,rfl,z1,v2,[],rfl,z2,rfl⟩
 rcases hT with ⟨hk',b,w,rfl,rfl⟩ | ⟨hk',rfl⟩
 · simp only[bL] at h6
   rcases h6 with ⟨_,hq,_⟩ | ⟨b',bs',os,w',e1,rfl,e2,h7,e3⟩
   · cases hq
   cases e1
   obtain⟨bd,h8,h9⟩:=bA.drop k h7
   rw[←yW,hd] at h8
   have oD:∀x∈bd,x∈b::bs':=fun x hx=>List.mem_cons_of_mem _ (h9.subset hx)
   have hbd:b∉bd:=fun hx=>(HA.1 hn.2.1).1 (h9.subset hx)
   refine aOF bd (os.drop k) oD (h9.nodup (HA.1 hn.2.1).2) h8 fun h v S y=>?_
   have hj:=bA.OV (h:=h) (s0:=st') h7
   have hw:=bA.D4 h7 e3
   obtain⟨f1,f2⟩:=frozen S e2 hj
   have hE:=dF.drop k hw f2
   rw[iA] at hE
   have hlen:(os.drop k).length=(L.map cD).length - k:=by rw[lO,bA.length h7]
   have hb0:(fun x=>if x∈bd then st' x else st x) b=none:=by
    dsimp only
    rw[aE hbd]
    exact h2 b (by simp)
   have D2:aL (st'.erase b) (fun x=>if x∈bd then st' x else st x):=fun x=>by
    unfold aB.erase
    by_cases hx:x=b
    · subst hx;rw[aH rfl];exact⟨fun _=>hb0,fun o e=>by rw[hb0] at e;cases e⟩
    · rw[aE hx];exact aOJ bd oD x
   simp only[VC] at y
   obtain⟨cap,e,l1,l2,_⟩:=y
   unfold VC
   exact .inr ⟨b,k*w,cap,by rw[hlen];exact e,by rw[hlen];exact l1,l2,hb0,f1,⟨w,fun e he=>hw e (LO he)⟩,dF.mono (D2.step h) b rfl _ _ hE⟩
 · have hL:(cA s n).2= []:=by rw[←hd];rw[aF] at hk';subst hk';exact lH
   refine aOF [] [] (by simp) mK (by rw[hL];simp only[aW,bA,and_self]) fun h v S y=>?_
   unfold VC at y ⊢
   rcases y with y | ⟨b,off,e,_⟩
   · exact .inl y
   · exact .inl ⟨⟨_,e⟩,rfl⟩
structure wO (st:aB) (b2:Nat) (es os:List AV) (bs:List Nat) (T:aB):Prop where
 own:bA T es os bs
 nd:bs.Nodup
 new:∀b∈bs,st b=none
 old:∀b,b∉bs→T b=st b
 fr:T b2=none
theorem wO.start{st:aB}{b2:Nat}(h:st b2=none):wO st b2 [] [] [] st:=⟨by simp only[bA,and_self],mK,by simp,fun _ _=>rfl,h⟩
theorem wO.more{st:aB}{b2 bo:Nat}{es os es2 os2:List AV}{bs bs2:List Nat}{T U':aB}{c:AO}(h:wO st b2 es os bs T)(hbo:os≠[]→(T.aC b2 c) bo=none)(h1:bA U' es2 os2 bs2)(h2:bs2.Nodup)(h3:∀b∈bs2,aV (T.aC b2 c) bo os b=none)(h4:∀b,b∉bs2→U' b=aV (T.aC b2 c) bo os b) :
 ∃T',U'=aV (T'.aC b2 c) bo os∧wO st b2 (es++es2) (os++os2) (bs++bs2) T'∧(os≠[]→(T'.aC b2 c) bo=none):=by
 have FJ:os≠[]→b2≠bo:=fun h0 e=>by have:=hbo h0;rw[←e,aB.aJ] at this;cases this
 have hne:∀x∈bs2,x≠b2∧(os≠[]→x≠bo)∧T x=none:=fun x hx=>by
  have h5:=h3 x hx
  have h6:x≠b2:=by
   rintro rfl
   rw[t8 FJ,aB.aJ] at h5;cases h5
  have h7:os≠[]→x≠bo:=fun h0 e=>by rw[e,jD h0,aB.aJ] at h5;cases h5
  rw[t8 h7,aB.aG _ _ h6] at h5
  exact⟨h6,h7,h5⟩
 have CT:os≠[]→bo∉bs2:=fun h0 hb=>(hne bo hb).2.1 h0 rfl
 refine⟨fun x=>if x∈bs2 then U' x else T x,funext fun x=>?_,⟨bA.app (bA.a7 _ _ _ (fun b hb=>?_) h.own) (bA.a7 _ _ _ (fun b hb=>aH hb) h1),n6.2 ⟨h.nd,h2,fun a ha b hb e=>?_⟩,fun b hb=>?_,fun b hb=>?_,?_⟩,fun h0=>?_⟩
 · by_cases hx:x∈bs2
   · obtain⟨n1,n2,n3⟩:=hne x hx
     rw[t8 n2,aB.aG _ _ n1,aH hx]
   · rw[h4 x hx]
     by_cases h0:os= []
     · rw[h0,oA,oA]
       by_cases h8:x=b2
       · rw[h8,aB.aJ,aB.aJ]
       · rw[aB.aG _ _ h8,aB.aG _ _ h8,aE hx]
     · rw[jD h0,jD h0]
       by_cases h9:x=bo
       · rw[h9,aB.aJ,aB.aJ]
       · rw[aB.aG _ _ h9,aB.aG _ _ h9]
         by_cases h8:x=b2
         · rw[h8,aB.aJ,aB.aJ]
         · rw[aB.aG _ _ h8,aB.aG _ _ h8,aE hx]
 · obtain⟨cs,e,_⟩:=(bA.gV _ _ _ h.own).2 b hb
   exact aE fun hx=>by rw[(hne b hx).2.2] at e;cases e
 · subst e
   obtain⟨cs,e,_⟩:=(bA.gV _ _ _ h.own).2 a ha
   rw[(hne a hb).2.2] at e;cases e
 · rcases eK.1 hb with hb | hb
   · exact h.new b hb
   · have h5:=(hne b hb).2.2
     by_cases h6:b∈bs
     · exact h.new b h6
     · rw[←h.old b h6];exact h5
 · simp only[eK,oG] at hb
   show(if b∈bs2 then U' b else T b)=st b
   rw[aE hb.2,h.old b hb.1]
 · show(if b2∈bs2 then U' b2 else T b2)=none
   rw[aE fun hx=>(hne b2 hx).1 rfl,h.fr]
 · have h5:=hbo h0
   rw[aB.aG _ _ (FJ h0).symm] at h5 ⊢
   show(if bo∈bs2 then U' bo else T bo)=none
   rw[aE (CT h0),h5]
theorem wO.done{st:aB}{b2 bo w:Nat}{es os:List AV}{bs:List Nat}{T:aB}{c:AO}(h:wO st b2 es os bs T)(hbo:os≠[]→(T.aC b2 c) bo=none)(hw:∀e∈es,e.width=w):∃s2,aL (aV (T.aC b2 c) bo os) s2∧Made st (.slice es) (aZ w bo os) s2:=by
 have FJ:os≠[]→b2≠bo:=fun h0 e=>by have:=hbo h0;rw[←e,aB.aJ] at this;cases this
 have AA:=bA.gV _ _ _ h.own
 have hTo:os≠[]→T bo=none:=fun h0=>by have:=hbo h0;rwa [aB.aG _ _ (FJ h0).symm] at this
 have hnb:∀b∈bs,os≠[]→b≠bo:=fun b hb h0 e=>by
  obtain⟨cs,e2,_⟩:=AA.2 b hb
  rw[e,hTo h0] at e2;cases e2
 refine⟨aV T bo os,?_,t7 bo os++bs,?_,fun b hb=>?_,aP0 (bA.a7 _ _ _ (fun b hb=>t8 (hnb b hb)) h.own) hw,fun b hb=>?_⟩
 · rw[←lQ FJ]
   exact(aL.refl _).aC (by rw[t8 FJ];exact h.fr)
 · rw[n6]
   refine⟨by cases os<;>simp [t7],h.nd,fun x hx y hy e=>?_⟩
   obtain⟨rfl,hne⟩:=FX.1 hx
   exact hnb y hy hne e.symm
 · rcases eK.1 hb with hb | hb
   · obtain⟨rfl,hne⟩:=FX.1 hb
     have h5:=hTo hne
     by_cases h6:b∈bs
     · exact h.new b h6
     · rw[←h.old b h6];exact h5
   · exact h.new b hb
 · simp only[eK,FX,oG,not_and] at hb
   rw[t8 fun h0 e=>hb.1 e h0,h.old b hb.2]
theorem aO4{z:Ss}(h:fO z=true)(hf:z.fin= -1):(cA z 300).1.fin≠-1:=by
 rw[(VF h hf).1,TR]
 have:=aQZ (p:=z.p) (cnd:=fun _ l=>l) (q:=z.q) (most:=20) (fuel:=z.dR)
 omega
theorem NV{T:aB}:∀ {L:List (List Tm)} {os:List AV} {bs:List Nat},bA T (L.map cD) os bs→vQ 1 os
 | [],os,bs,h=>by simp only[aW,bA] at h;rw[h.1];intro e he;cases he
 | l::L,os,bs,h=>by
  simp only[bB,bA] at h
  obtain⟨o,os',b1,b2,rfl,rfl,h1,h2⟩:=h
  obtain⟨q,rfl,h3⟩:=aP1.1 h1
  obtain⟨hqc,hqs,hqa,hqw,hqj⟩:=bL.nT h3
  intro e he
  rcases dB.1 he with rfl | he
  · exact⟨rfl,by simp only[AV.cells,k0,List.all_nil,hqs,Bool.and_self]⟩
  · exact NV h2 e he
abbrev pH:=zi tI_3 (zi zI_3 (zi aU (zi tI_4 (zi zI_4 (zi cI (zi tI_30 (zi zI_30 (zi iL (zi iM (zi iN (zi iO (zi iP (zi iQ (zi iK (zi tI_31 (zi zI_31 (zi gM (zi jX (zi jY (zi lX (zi tI_40 (zi zI_40 (zi dT (zi fJ (zi fK fU)))))))))))))))))))))))))
set_option maxHeartbeats 4000000 in
theorem aWI(s:Ss)(sl:List Int)(hp:s.p.length≤1048576)(hps:∀c∈s.p,CB c)(hq:s.q.length≤1048576)(hqs:∀t∈s.q,t.small=true)(st:aB):aD prog 27 [cQ s,.slice (sl.map iv)] st (fun r st'=>∃o,r=.tup [o,.int .i64 (xE s sl).2]∧Made st (.slice ((xE s sl).1.map cD)) o st'):=by
 have hv:=w7 s
 have hsp:=fun(s':Ss) (n:Int) (h1:s'.p=s.p) (h2:s'.q=s.q) (st:aB)=>(B4 s' n (by rw[h1];exact hp) (by rw[h1];exact hps) (by rw[h2];exact hq) (by rw[h2];exact hqs) st).a6G
 simp only[cQ] at hv hsp ⊢
 refine aD.kS ?_
 refine wF [1000000,2] 2 func27 ntmps27 rfl rfl ?_
 intro _
 simp -implicitDefEqProofs only[aA,seval,pH]
 intro b2 h2
 refine(hv _).to ?_
 simp -implicitDefEqProofs only[aA,seval]
 cases hok:fO s with
 | false=>
  have hd:xE s sl=([],9):=by unfold xE;rw[hok];try rfl
  simp -implicitDefEqProofs only[aA,seval]
  exact⟨st,(aL.refl _).aC h2,.fslice [],by rw[hd],by rw[hd];exact⟨[],mK,by simp,.inl ⟨rfl,rfl,rfl⟩,fun _ _=>rfl⟩⟩
 | true=>
  have hd:xE s sl=drain (sl.take 100) s []:=by unfold xE;rw[hok];try rfl
  simp -implicitDefEqProofs only[aA,seval]
  refine iT (σ:=Nat×Nat×List (List Tm)×Ss×List AV×List Nat×aB) [1000000] [1,2,4,5]
   (fun x=>x.1≤101∧(x.2.2.2.1.fin= -1→x.1≤sl.length∧x.1≤100)∧(x.2.2.2.2.1≠[]→(x.2.2.2.2.2.2.aC b2 (.cells (nV x.2.2.2.1))) x.2.1=none)∧(fO x.2.2.2.1=true∧x.2.2.2.1.p=s.p∧x.2.2.2.1.q=s.q)∧x.2.2.1.length≤20*x.1∧drain ((sl.take 100).drop x.1) x.2.2.2.1 x.2.2.1=drain (sl.take 100) s []∧wO st b2 (x.2.2.1.map cD) x.2.2.2.2.1 x.2.2.2.2.2.1 x.2.2.2.2.2.2)
   (fun x=>[(6,aZ 1 x.2.1 x.2.2.2.2.1),(7,.int .i64 x.1)]) (fun x=>aV (x.2.2.2.2.2.2.aC b2 (.cells (nV x.2.2.2.1))) x.2.1 x.2.2.2.2.1) (fun x=>if x.2.2.2.1.fin= -1 then 1+(101 - x.1) else 0) (by decide +kernel)
   ⟨(0,0,[],s,[],[],st),⟨by simp only;omega,fun _=>⟨jU _,by simp only;omega⟩,fun h=>absurd rfl h,⟨hok,rfl,rfl⟩,by simp,by simp,wO.start h2⟩,aP.mk (by simp -implicitDefEqProofs only[jV,aA,↓aS,seval])⟩ ?_
  rintro⟨i,bo,acc,z,os,bs,T⟩ ⟨i0,i1,i2,⟨i3,kp,kq⟩,i4,i5,i6⟩
  simp only at i0 i1 i2 i3 kp kq i4 i5 i6
  have hb2:os≠[]→b2≠bo:=fun h e=>by have:=i2 h;rw[←e,aB.aJ] at this;cases this
  have gO:aV (T.aC b2 (.cells (nV z))) bo os b2=some (.cells (nV z)):=by rw[t8 hb2,aB.aJ]
  unfold nV at gO
  simp -implicitDefEqProofs only[nV,gO,aA,seval,pH]
  by_cases c3:z.fin= -1
  case neg=>
   have c3':=cB c3
   simp -implicitDefEqProofs only[c3',bM,aA,seval]
   refine vF [(0,1),(1,1),(2,1),(3,1),(4,1)] [0,1,2,3,4] (dQ.aC b2 (.cells [.slice (z.p.map a9),.slice (z.q.map Tm.av),.int .i64 z.dR,.int .i64 z.used,.int .i64 z.sent,.int .i64 z.fin])) mixed (by decide +kernel) (by decide +kernel) (by decide +kernel) rfl (eV gO) ?_
   simp -implicitDefEqProofs only[nM,aA,seval,pH]
   have hD:xE s sl=(acc,z.fin):=by rw[hd,←i5,S4 c3]
   obtain⟨s2,D,hM⟩:=i6.done (c:=.cells (nV z)) i2 (zJ acc)
   exact⟨s2,D,_,by rw[hD],by rw[hD];exact hM⟩
  have c3':=cM c3
  obtain⟨i7,i8⟩:=i1 c3
  simp -implicitDefEqProofs only[c3',bE,aF,aA,seval,pH]
  have hw5:=bO (n:=(i:Int)+1)
  by_cases c1:i<sl.length
  case neg=>
   have c1':((i:Int)<(sl.length:Int))=False:=cB (by omega)
   have hdr:(sl.take 100).drop i= []:=by rw[List.drop_eq_nil_iff,eC];omega
   rw[hdr,aB4 c3] at i5
   have fW:=aO4 i3 c3
   have i9:drain ((sl.take 100).drop (i+1)) (cA z 300).1 (acc++(cA z 300).2)=drain (sl.take 100) s []:=by rw[S4 fW];exact i5
   simp -implicitDefEqProofs only[c1',bM,gO,aA,seval,pH]
   have hI:(cA z 300).1.fin= -1→i+1≤sl.length∧i+1≤100:=fun h=>absurd h fW
   refine(hsp z (300) kp kq _).mono ?_
   rintro _ U ⟨os2,bs2,rfl,g1,g2,g3,g4⟩
   have hf2:=NV g3
   have hl2:=bA.length g3
   have hw1:=bA.D4 i6.own (zJ acc)
   have hl1:=bA.length i6.own
   rw[aF] at hl1 hl2
   have hsl:=OW (n:=300) i3
   obtain⟨T2,hU,hH,CT⟩:=i6.more i2 g3 g1 g2 g4
   subst hU
   simp only[cQ]
   simp -implicitDefEqProofs only[aA,↓aS,seval,pH]
   refine wX [(0,1),(1,1),(2,1),(3,0),(4,0),(5,1)] [0,1,2,5] dQ mixed rfl dY ?_
   simp -implicitDefEqProofs only[aA,seval,pH]
   refine eE gM jX jY rfl rfl hf2 hw1 CT (by omega) (by omega) (fun b3 hb3=>?_)
   have hne:os++os2≠[]→b2≠b3:=fun h e=>by have:=hb3 h;rw[←e,aB.aJ] at this;cases this
   have e2:aV (T2.aC b2 (.cells (nV z))) b3 (os++os2) b2=some (.cells [.slice (z.p.map a9),.slice (z.q.map Tm.av),.int .i64 z.dR,.int .i64 z.used,.int .i64 z.sent,.int .i64 z.fin]):=by rw[t8 hne,aB.aJ];try rfl
   simp -implicitDefEqProofs only[aK,e2,hw5,aA,seval,pH]
   refine⟨dY,?_⟩
   rw[lQ hne,cK]
   rw[←oY] at hH
   refine⟨dY,?_⟩
   refine⟨(i+1,b3,acc++(cA z (300)).2,(cA z (300)).1,os++os2,bs++bs2,T2),?_,⟨by simp only;omega,hI,fun h=>?_,⟨OX i3,(yF z (300)).1.trans kp,(yF z (300)).2.1.trans kq⟩,by simp only[dW];omega,i9,hH⟩,aP.mk (by simp -implicitDefEqProofs only[aA,seval])⟩
   · simp only
     try rw[aH c3]
     split<;>omega
   · have:=hb3 h
     rw[aB.aG _ _ (hne h).symm] at this ⊢
     exact this
  have c1':((i:Int)<(sl.length:Int))=True:=cM (by omega)
  by_cases c2:i<100
  case neg=>
   have c2':((i:Int)<100)=False:=cB (by omega)
   have hdr:(sl.take 100).drop i= []:=by rw[List.drop_eq_nil_iff,eC];omega
   rw[hdr,aB4 c3] at i5
   have fW:=aO4 i3 c3
   have i9:drain ((sl.take 100).drop (i+1)) (cA z 300).1 (acc++(cA z 300).2)=drain (sl.take 100) s []:=by rw[S4 fW];exact i5
   simp -implicitDefEqProofs only[c1',c2',bE,bM,gO,aA,seval,pH]
   have hI:(cA z 300).1.fin= -1→i+1≤sl.length∧i+1≤100:=fun h=>absurd h fW
   refine(hsp z (300) kp kq _).mono ?_
   rintro _ U ⟨os2,bs2,rfl,g1,g2,g3,g4⟩
   have hf2:=NV g3
   have hl2:=bA.length g3
   have hw1:=bA.D4 i6.own (zJ acc)
   have hl1:=bA.length i6.own
   rw[aF] at hl1 hl2
   have hsl:=OW (n:=300) i3
   obtain⟨T2,hU,hH,CT⟩:=i6.more i2 g3 g1 g2 g4
   subst hU
   simp only[cQ]
   simp -implicitDefEqProofs only[aA,↓aS,seval,pH]
   refine wX [(0,1),(1,1),(2,1),(3,0),(4,0),(5,1)] [0,1,2,5] dQ mixed rfl dY ?_
   simp -implicitDefEqProofs only[aA,seval,pH]
   refine eE gM jX jY rfl rfl hf2 hw1 CT (by omega) (by omega) (fun b3 hb3=>?_)
   have hne:os++os2≠[]→b2≠b3:=fun h e=>by have:=hb3 h;rw[←e,aB.aJ] at this;cases this
   have e2:aV (T2.aC b2 (.cells (nV z))) b3 (os++os2) b2=some (.cells [.slice (z.p.map a9),.slice (z.q.map Tm.av),.int .i64 z.dR,.int .i64 z.used,.int .i64 z.sent,.int .i64 z.fin]):=by rw[t8 hne,aB.aJ];try rfl
   simp -implicitDefEqProofs only[aK,e2,hw5,aA,seval,pH]
   refine⟨dY,?_⟩
   rw[lQ hne,cK]
   rw[←oY] at hH
   refine⟨dY,?_⟩
   refine⟨(i+1,b3,acc++(cA z (300)).2,(cA z (300)).1,os++os2,bs++bs2,T2),?_,⟨by simp only;omega,hI,fun h=>?_,⟨OX i3,(yF z (300)).1.trans kp,(yF z (300)).2.1.trans kq⟩,by simp only[dW];omega,i9,hH⟩,aP.mk (by simp -implicitDefEqProofs only[aA,seval])⟩
   · simp only
     try rw[aH c3]
     split<;>omega
   · have:=hb3 h
     rw[aB.aG _ _ (hne h).symm] at this ⊢
     exact this
  have c2':((i:Int)<100)=True:=cM (by omega)
  obtain⟨n,hn⟩:∃n,sl[i]?=some n:=⟨_,fF c1⟩
  have hat:=a27 (P:=prog) (t:=40) dT hn
  have hdr:(sl.take 100).drop i=n::(sl.take 100).drop (i+1):=by
   rw[rH (by rw[eC];omega),List.getElem_take]
   rw[fF c1] at hn
   rw[jL hn]
  rw[hdr,aZC c3] at i5
  have i9:=i5
  simp -implicitDefEqProofs only[bE,gO,c1',c2',hat,aA,seval,pH]
  have hI:(cA z n).1.fin= -1→i+1≤sl.length∧i+1≤100:=fun _=>⟨by omega,by omega⟩
  refine(hsp z (n) kp kq _).mono ?_
  rintro _ U ⟨os2,bs2,rfl,g1,g2,g3,g4⟩
  have hf2:=NV g3
  have hl2:=bA.length g3
  have hw1:=bA.D4 i6.own (zJ acc)
  have hl1:=bA.length i6.own
  rw[aF] at hl1 hl2
  have hsl:=OW (n:=n) i3
  obtain⟨T2,hU,hH,CT⟩:=i6.more i2 g3 g1 g2 g4
  subst hU
  simp only[cQ]
  simp -implicitDefEqProofs only[aA,↓aS,seval,pH]
  refine wX [(0,1),(1,1),(2,1),(3,0),(4,0),(5,1)] [0,1,2,5] dQ mixed rfl dY ?_
  simp -implicitDefEqProofs only[aA,seval,pH]
  refine eE gM jX jY rfl rfl hf2 hw1 CT (by omega) (by omega) (fun b3 hb3=>?_)
  have hne:os++os2≠[]→b2≠b3:=fun h e=>by have:=hb3 h;rw[←e,aB.aJ] at this;cases this
  have e2:aV (T2.aC b2 (.cells (nV z))) b3 (os++os2) b2=some (.cells [.slice (z.p.map a9),.slice (z.q.map Tm.av),.int .i64 z.dR,.int .i64 z.used,.int .i64 z.sent,.int .i64 z.fin]):=by rw[t8 hne,aB.aJ];try rfl
  simp -implicitDefEqProofs only[aK,e2,hw5,aA,seval,pH]
  refine⟨dY,?_⟩
  rw[lQ hne,cK]
  rw[←oY] at hH
  refine⟨dY,?_⟩
  refine⟨(i+1,b3,acc++(cA z (n)).2,(cA z (n)).1,os++os2,bs++bs2,T2),?_,⟨by simp only;omega,hI,fun h=>?_,⟨OX i3,(yF z (n)).1.trans kp,(yF z (n)).2.1.trans kq⟩,by simp only[dW];omega,i9,hH⟩,aP.mk (by simp -implicitDefEqProofs only[aA,seval])⟩
  · simp only
    try rw[aH c3]
    split<;>omega
  · have:=hb3 h
    rw[aB.aG _ _ (hne h).symm] at this ⊢
    exact this
theorem k6.a4R{st st':aB}{a o:AV}{k:Bool}(h:Made st a o st'):k6 st [a,.bool k] (.tup [o,.bool k]) st':=by
 obtain⟨bs,h1,h2,h3,h4⟩:=h
 exact⟨_,bs,rfl,h1,h2,J3.2 ⟨o,.bool k,bs,[],rfl,by simp,h3,⟨rfl,rfl⟩⟩,h4⟩
abbrev DS:=zi tI_3 (zi zI_3 (zi aU (zi tI_4 (zi zI_4 (zi cI (zi tI_27 (zi zI_27 (zi eH (zi gK (zi gN (zi iJ (zi tI_28 (zi zI_28 (zi aO (zi bF (zi bG (zi bZ (zi tI_30 (zi zI_30 (zi iL (zi iM (zi iN (zi iO (zi iP (zi iQ (zi iK (zi tI_31 (zi zI_31 (zi gM (zi jX (zi jY (zi lX (zi tI_40 (zi zI_40 (zi dT (zi fJ (zi fK (zi fU (zi tI_47 (zi zI_47 (zi mU (zi pT (zi pU pJ)))))))))))))))))))))))))))))))))))))))))))
set_option maxHeartbeats 2000000 in
theorem aVO(code more:List Bt)(st:aB):aD prog 11 [.slice (code.map gE),.slice (more.map gE)] st (fun r _=>r=.bool true):=by
 refine wF [1000000] 2 func11 ntmps11 rfl rfl ?_
 intro _
 simp -implicitDefEqProofs only[aF,aA,seval,DS]
 refine cU (fun h0=>?_) (fun h0=>?_)
 case refine_2=>
  simp -implicitDefEqProofs only[h0,aA,seval]
 simp -implicitDefEqProofs only[h0,aF,aA,seval,DS]
 refine aQ (fun h1=>?_) (fun h1=>?_)
 · simp -implicitDefEqProofs only[aA,seval]
 simp -implicitDefEqProofs only[aA,seval]
 refine(aVK code _).mono ?_
 rintro _ s1 ⟨⟨p,q,k,rfl⟩,rfl⟩
 have ho:=fun st=>((aWM p q k st).mono fun _ _ ⟨o,h1,h2⟩=>by subst h1;exact k6.a4R h2).AC
 have hp:=aBI p q k
 have hss:=B3 (mE p q k)
 have hS:=fun st=>(H3 p q 20 k st).AC
 have hX:opens p q k=true→mE p q k=⟨p,q,k,0,0,-1⟩∧fO ⟨p,q,k,0,0,-1⟩=true∧p.length≤1048576∧(∀c∈p,CB c)∧q.length≤1048576∧∀t∈q,t.small=true:=fun h=>by
  have h':=h
  simp only[opens,cE,bK] at h'
  obtain⟨⟨a1,a2⟩,a3,a4⟩:=h'
  obtain⟨p1,p2⟩:=OM a1
  obtain⟨q1,q2⟩:=OP a2
  refine⟨by unfold mE;rw[aH h],?_,by omega,p2,by omega,q2⟩
  simp only[fO,wE,GO,a1,a2,cE,oV,bK,tM]
  exact⟨⟨a3,a4,by omega,a3⟩,.inl trivial⟩
 generalize opens p q k=ok at *
 generalize hse:mE p q k=X at *
 obtain⟨⟨xp,xq,x0,x1,x2,x3⟩,kk⟩:∃t:Ss,t=X:=⟨X,rfl⟩
 subst kk
 simp only[cQ] at *
 simp -implicitDefEqProofs only[aA,seval]
 refine(ho _).to ?_
 simp -implicitDefEqProofs only[aA,↓aS,seval,DS]
 refine(hp _).to ?_
 simp -implicitDefEqProofs only[aA,↓aS,seval,DS]
 refine(aVJ more _).mono ?_
 rintro _ s2 ⟨⟨z,sl,_,rfl⟩,rfl⟩
 simp only[cQ]
 simp -implicitDefEqProofs only[aA,↓aS,seval,DS]
 cases ok with
 | false=>
  refine(hss _).to ?_
  simp -implicitDefEqProofs only[dX,aA,seval,DS]
  refine(hss _).to ?_
  simp -implicitDefEqProofs only[aA,seval]
 | true=>
  obtain⟨e1,e2,e3,e4,e5,e6⟩:=hX rfl
  simp only[Ss.mk.injEq] at e1
  obtain⟨rfl,rfl,rfl,rfl,rfl,rfl⟩:=e1
  have hd:=fun st=>((aWI ⟨xp,xq,x0,0,0,-1⟩ sl e3 e4 e5 e6 st).mono fun _ _ ⟨o,h1,h2⟩=>by subst h1;exact k6.VP h2).AC
  have hdr:xE ⟨xp,xq,x0,0,0,-1⟩ sl=d8 xp (fun _ l=>l) xq 20 x0:=by
   unfold xE
   rw[aH e2,aB5 _ _ _ e2,TR]
   try rfl
  rw[hdr] at hd
  generalize d8 xp (fun _ l=>l) xq 20 x0=T at *
  obtain⟨L,e⟩:=T
  simp only[cQ] at hd hS
  refine(hss _).to ?_
  simp -implicitDefEqProofs only[dX,aA,seval,DS]
  refine(hd _).to ?_
  simp -implicitDefEqProofs only[dX,aA,seval]
  refine(hS _).to ?_
  simp -implicitDefEqProofs only[bE,dX,aA,seval]
  refine(o0 L _).to ?_
  simp -implicitDefEqProofs only[aA,seval]
end Go.AW
