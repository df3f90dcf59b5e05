import Derived.Test.YtimfffmcljmfgaaGreatDoorUum
import Derived.Test.YtimfffmcljmfgaaGreatDoorUul
import Derived.Test.YtimfffmcljmfgaaGreatDoorUuf
import Derived.Test.YtimfffmcljmfgaaGreatDoorUui
set_option linter.unusedSimpArgs false
set_option linter.unusedVariables false
set_option maxRecDepth 100000
namespace Go.AW
open Go.Proofs.Tryz
theorem SA(k n:Int)(s:ByteArray)(ts:List Tm)(rest:List RG)(left:List Nat)(σ:Sub)(N:Nat):fV ⟨.mk k n s ts,rest,left,σ,N⟩=.agg [.int .i64 k,.int .i64 n,.str s,.slice (ts.map Tm.av),.slice (rest.map eU),.slice (left.map nv),.slice (c8 N σ)]:=rfl
structure w6 (p:List Cl) (c:RC):Prop where
 gQ:cO c.σ
 ok:cW (bB c.N) c.σ
 vJ:∀n,¬(0≤n∧n<(c.N:Int))→c.σ n=none
 goal:bB c.N c.goal
 rest:∀g∈c.rest,bB c.N g.t∧g.t.k=3
 left:∀i∈c.left,i<p.length
 len:c.rest.length≤524288
 aZ3:c.left.length≤1048576
structure pU (p:List Cl) (B:Nat) (s:RS):Prop where
 gQ:cO s.σ
 ok:cW (bB s.N) s.σ
 vJ:∀n,¬(0≤n∧n<(s.N:Int))→s.σ n=none
 goals:∀g∈s.goals,bB s.N g.t∧g.t.k=3
 pos:0<s.N
 hN:s.N≤B
 gl:s.goals.length≤B
 pB:s.chs.length≤B
 chs:∀c∈s.chs,w6 p c∧c.N+26≤B∧c.rest.length+26≤B∧0<c.N
theorem cW.upN{N M:Nat}{σ:Sub}(h:cW (bB N) σ)(hm:N≤M):cW (bB M) σ:=h.imp fun t ht=>ht.mono (by omega)
theorem aQJ{N k:Nat}{σ:Sub}(hd:∀n,¬(0≤n∧n<(N:Int))→σ n=none):c8 N σ++List.replicate k zt=c8 (N+k) σ:=by
 apply IZ
 intro i
 have hl:=tV N σ
 by_cases hi:i<N
 · rw[T6 (by omega),zE N σ hi,zE (N+k) σ (by omega)]
 · rw[T7 (by omega),hl]
   by_cases h2:i<N+k
   · rw[zE (N+k) σ h2,hd (i:Int) (fun h=>hi (by omega)),List.getElem?_replicate,aH (by omega)]
     try rfl
   · rw[wY (by simp;omega),wY (by rw[tV];omega)]
theorem aQC{N k b:Nat}{σ:Sub}(hd:∀n,¬(0≤n∧n<(N:Int))→σ n=none)(hN:N+k≤1048576){st:aB}{K:AV→aB→Prop}(hb:st b=none)
 (hK:∀b',st b'=none→K (.mslice b' 0 (N+k) 4) (st.aC b' (.cells ((c8 (N+k) σ).flatMap AV.cells)))) :
 r7 prog 31 3 (st.aC b (.cells ((c8 N σ).flatMap AV.cells))) (.mslice b 0 N 4) (.int .i64 (k:Int)) K:=by
 have hu:prog.underlying 3=some (.int .i64):=by kernel_rfl
 have hl:((c8 N σ).flatMap AV.cells).length=N*4:=by rw[pD (fun e he=>(VD N σ e he).1),tV]
 have mM:((c8 N σ).flatMap AV.cells).take (N*4)++jS [AV.int .i64 0,.int .i64 0,.str ⟨#[]⟩,.fslice []] k=(c8 (N+k) σ).flatMap AV.cells:=by
  rw[←hl,eS,aKX _ (by simp),←aQJ hd,yV,List.flatMap_replicate]
  try rfl
 unfold r7
 simp only[aN,bG,bH,hu,aB.aP,kR]
 refine⟨rfl,by omega,rfl,by omega,trivial,by omega,by omega,by omega,?_,fun b' hb'=>?_⟩
 · rw[mM,dC]
   exact hK b hb
 · rw[mM,aB.vO st b _ hb]
   refine hK b' ?_
   by_cases h:b'=b
   · subst h;exact hb
   · rwa [aB.aL _ _ h] at hb'
theorem aOI{st s2 V:aB}{o' o6:AO}{b6 b11 b13 b14 b:Nat}{L A:List AV}(hD:aM s2 st)(hA:s2 b11=some (.cells (A.flatMap AV.cells)))(h11:st b11=none)(h6:st b6=none)(h62:s2 b6≠none)(aJG:b6≠b11)(h13:s2 b13=none)(h14:s2 b14=none)
 (hV:∀q,q≠b13→q≠b14→V q=s2 q) (KV:V b13≠none) (C6:V b14≠none) (hb:L≠[]→V b=none) (hne:A≠[]) :
 aM (((a7 V b L).aC b13 o').aC b6 o6) (a7 (a7 st b11 A) b L)∧(L≠[]→(a7 st b11 A) b=none):=by
 have aJQ:b13≠b11:=by rintro rfl;rw[h13] at hA;cases hA
 have aW9:b14≠b11:=by rintro rfl;rw[h14] at hA;cases hA
 have KS:b13≠b6:=by rintro rfl;exact h62 h13
 have n13:st b13=none:=(hD b13).1 h13
 have n14:st b14=none:=(hD b14).1 h14
 rw[jP hne]
 have hbb:L≠[]→b≠b13∧b≠b11∧b≠b6∧b≠b14∧s2 b=none:=fun h=>by
  have h0:=hb h
  have e13:b≠b13:=by rintro rfl;exact KV h0
  have e14:b≠b14:=by rintro rfl;exact C6 h0
  rw[hV b e13 e14] at h0
  exact⟨e13,(by rintro rfl;rw[h0] at hA;cases hA),(by rintro rfl;exact h62 h0),e14,h0⟩
 refine⟨fun q=>?_,fun h=>?_⟩
 · by_cases q6:q=b6
   · subst q6
     have:a7 (st.aC b11 (.cells (A.flatMap AV.cells))) b L q=none:=by
      by_cases hL:L= []
      · subst hL;simp only[a7];rw[aB.aL _ _ aJG,h6]
      · obtain⟨_,_,e6,_⟩:=hbb hL
        rw[jP hL,aB.aL _ _ (dD e6),aB.aL _ _ aJG,h6]
     rw[this];simp
   rw[aB.aL _ _ q6]
   by_cases q13:q=b13
   · subst q13
     have:a7 (st.aC b11 (.cells (A.flatMap AV.cells))) b L q=none:=by
      by_cases hL:L= []
      · subst hL;simp only[a7];rw[aB.aL _ _ aJQ,n13]
      · obtain⟨e13,_⟩:=hbb hL
        rw[jP hL,aB.aL _ _ (dD e13),aB.aL _ _ aJQ,n13]
     rw[this];simp
   rw[aB.aL _ _ q13]
   have rest:q≠b∨L= []→(V q=none→st.aC b11 (.cells (A.flatMap AV.cells)) q=none)∧∀o,st.aC b11 (.cells (A.flatMap AV.cells)) q=some o→V q=some o:=fun _=>by
    by_cases q14:q=b14
    · subst q14
      rw[aB.aL _ _ aW9,n14]
      simp
    rw[hV q q13 q14]
    by_cases q11:q=b11
    · subst q11;rw[aB.aP,hA];simp
    rw[aB.aL _ _ q11]
    exact hD q
   by_cases hL:L= []
   · subst hL
     exact rest (.inr rfl)
   · rw[jP hL,jP hL]
     by_cases qb:q=b
     · subst qb;rw[aB.aP,aB.aP];simp
     rw[aB.aL _ _ qb,aB.aL _ _ qb]
     exact rest (.inl qb)
 · obtain⟨e13,e11,e6,e14,h0⟩:=hbb h
   rw[aB.aL _ _ e11]
   exact(hD b).1 h0
theorem CB{st:aB}{b q:Nat}{l:List AV}{o:AO}(hb:l≠[]→st b=none)(h:st q=some o):a7 st b l q=some o:=by
 cases l with
 | nil=>exact h
 | cons x l=>
  rw[jP (by simp),aB.aL _ _ (by rintro rfl;rw[hb (by simp)] at h;cases h)]
  exact h
theorem aI1{b b' o n w:Nat}{l:List AV}(h:l≠[]→b'≠b):(AV.mslice b' o n w).fin b l=.mslice b' o n w:=by
 unfold AV.fin
 cases l with
 | nil=>rfl
 | cons x l=>
  simp only[List.isEmpty_cons,iL,dY]
  cases o with
  | zero=>simp only[AV.fz];rw[aE (fun e=>h (by simp) e.1)];try rfl
  | succ o=>rfl
theorem KL{b N:Nat}{σ:Sub}(h0:0<N):(AV.mslice b 0 N 4).fin b (c8 N σ)=.slice (c8 N σ):=by
 have hl:=tV N σ
 have h:c8 N σ≠[]:=by intro e;rw[e] at hl;simp at hl;omega
 have:bD 4 b (c8 N σ)=.mslice b 0 N 4:=by rw[o0 h,hl]
 rw[←this,iP]
theorem a1R(l:List RC):∀e∈l.map fV,e.cF=false:=by intro e he;simp only[cS] at he;obtain⟨t,_,rfl⟩:=he;exact a1P t
theorem a1S(l:List RC):∀e∈l.map fV,e.width=7:=by intro e he;simp only[cS] at he;obtain⟨t,_,rfl⟩:=he;exact LV t
theorem aMO{φ:AF}{d i:Nat}{l:List Nat}(hi:i+1<l.length)(h:φ d=.int .i64 ((i:Int)+1)):g7 prog φ 46 (.slice (l.map nv)) (some (.tmp d)) none none=some (.slice ((l.drop (i+1)).map nv)):=by
 have he:φ.eval (.tmp d)=.int .i64 ((i:Int)+1):=h
 have hb:dZ φ (some (.tmp d)) 0 l.length=some (i+1):=by
  simp only[dZ,he]
  rw[aH (by omega)]
  congr 1
 have hwo:BJ (l.map nv) (i+1) 1=true:=by
  unfold BJ
  rw[mW,eE hi]
  try rfl
 unfold g7
 rw[aE (by simp [qG])]
 simp only[oA,dH]
 rw[aE (by simp)]
 simp only[dZ] at hb ⊢
 have ht:List.take l.length (l.map nv)=l.map nv:=lO (by simp)
 simp only[aF,hb,hwo,or_true,gA,ht]
 simp [EZ]
abbrev rN:=zi tI_3 (zi zI_3 (zi aX (zi tI_4 (zi zI_4 (zi cE (zi tI_29 (zi zI_29 (zi gW (zi kA (zi kB (zi lL (zi tI_31 (zi zI_31 (zi aN (zi bG (zi bH (zi b9 (zi tI_46 (zi zI_46 (zi dH (zi fA (zi eX (zi fB (zi tI_66 (zi zI_66 (zi bQ (zi bR (zi bS (zi bT (zi bP (zi tI_84 (zi zI_84 (zi kV (zi kW (zi kU (zi tI_163 (zi zI_163 (zi vM (zi zR (zi zU (zi IK (zi tI_164 (zi zI_164 (zi xO (zi F1 (zi F3 (zi TN (zi tI_166 (zi zI_166 (zi F4 (zi F5 (zi F6 (zi FN (zi tI_254 (zi zI_254 (zi PO (zi PP (zi PQ (zi PR OB)))))))))))))))))))))))))))))))))))))))))))))))))))))))))))
theorem W4(p:List Cl)(hp:∀c∈p,gE c∧c.2.length≤6)(gs0:List RG)(σ0:List AV)(cs:List RC)(c:RC)(hc:w6 p c)(h0:0<c.N)(hN:c.N≤524288)(hcl:cs.length≤524288)(st:aB) :
 aD prog 241 [.slice (p.map bX),.agg [.slice (gs0.map eU),.slice σ0,.slice (cs.map fV)],fV c] st (fun r st'=>st'=st∧r=match gJ p cs c.goal c.rest c.σ c.N c.left with
  | some s=>.tup [oQ s,.bool true]
  | none=>.tup [.agg [.slice (gs0.map eU),.slice σ0,.slice (cs.map fV)],.bool false]):=by
 obtain⟨goal,rest,left,σ,N⟩:=c
 obtain⟨hg,ho,hd,hgo,hr,hle,hrl,hll⟩:=hc
 simp only at hg ho hd hgo hr hle hrl hll h0 hN
 obtain⟨gk,gn,gs',gts⟩:=goal
 rw[SA]
 refine aD.fin (aD.fin (aD.mK ?_))
 refine wF [1000000,13] 3 func241 ntmps241 rfl rfl ?_
 intro _
 simp -implicitDefEqProofs only[aA,seval,rN]
 intro b6 h6
 generalize hW:st.aC b6 (.cells [.fslice [],.fslice [],.fslice []])=W
 have hW6:W b6=some (.cells [.fslice [],.fslice [],.fslice []]):=by rw[←hW];exact aB.aP _ _ _
 have hDW:aM W st:=by rw[←hW];exact(aM.refl _).aC h6
 refine eP (σ:=Unit) [1000000] [0,4,5,6] left (fun i _=>gJ p cs (.mk gk gn gs' gts) rest σ N (left.drop i)=gJ p cs (.mk gk gn gs' gts) rest σ N left) (fun i _=>[(7,.bool false),(8,.int .i64 i)]) (fun _ _=>W) (by decide +kernel) ⟨(),rfl,aO.mk (by simp -implicitDefEqProofs only[aA,↓aU,seval])⟩ (fun i x _ hx hlt bV hdr hinv=>?_) (fun _ hge hinv=>?_)
 case refine_2=>
  simp -implicitDefEqProofs only[hge,aK,hW6,aF,aA,seval,rN]
  refine⟨st,?_,0,[],st,rfl,by simp,by simp,⟨0,by simp⟩,0,[],st,rfl,by simp,by simp,⟨0,by simp⟩,rfl,?_⟩
  · intro z
    have:=hDW z
    by_cases hz:z=b6
    · subst hz;simp [aB.aC,h6]
    · rw[aB.aL _ _ hz];exact this
  · rw[←hinv,kK]
    simp only[fZ,jQ,pC,iN,bA,aW,gJ]
 have hw:=bO (n:=(i:Int)+1)
 have hxl:=hle x (cP hx)
 obtain⟨cl,hcx⟩:∃cl,p[x]?=some cl:=⟨_,eE hxl⟩
 obtain⟨sO,qB⟩:=hp cl (cP hcx)
 rw[hdr,gJ.eq_def] at hinv
 simp only[hcx] at hinv
 have hat:dF prog 46 (.slice (left.map nv)) (.int .i64 (i:Int))=some (.pptr (.int .i64 (x:Int))):=bM (av:=nv) dH hx rfl
 have z8:=bM (av:=bX) (P:=prog) gW hcx (nO cl)
 have hcf:=aTM cl sO qB
 obtain⟨⟨k,n,s',ts⟩,bd⟩:=cl
 rw[fY] at z8 hcf
 simp only at hinv
 simp -implicitDefEqProofs only[bV,aF,tV,hat,z8,aA,↓aU,seval,rN]
 refine wX [(0,1),(1,1),(2,1),(4,1),(3,0),(5,0),(6,0),(7,1)] [0,1,2,4,7] eH mixed rfl eT ?_
 simp -implicitDefEqProofs only[aA,seval,rN]
 have hfr:=sO.fr.1
 have hHd:=sO.cQ N (.mk k n s' ts) (by simp)
 have hBd:=fun t ht=>(sO.DW t (List.mem_cons_of_mem _ ht))
 refine N8 h0 (by omega) σ fun b hb hA0=>?_
 simp -implicitDefEqProofs only[aA,seval]
 refine⟨eT,?_⟩
 refine(hcf _).to ?_
 simp -implicitDefEqProofs only[aA,seval]
 refine⟨eT,?_⟩
 refine aQC hd (by omega) hb fun b11 h11=>?_
 simp -implicitDefEqProofs only[aA,seval]
 refine⟨eT,?_⟩
 have hA:=(show fO (N+mL (.mk k n s' ts,bd)) (W.aC b11 (.cells ((c8 (N+mL (.mk k n s' ts,bd)) σ).flatMap AV.cells))) b11 σ from aB.aP _ _ _)
 have hDT:aM (W.aC b11 (.cells ((c8 (N+mL (.mk k n s' ts,bd)) σ).flatMap AV.cells))) W:=(aM.refl _).aC h11
 have hh:=sO.head
 generalize mL (.mk k n s' ts,bd)=fr at *
 generalize W.aC b11 (.cells ((c8 (N+fr) σ).flatMap AV.cells))=T at *
 have hsh:Tm.sh (N:Int) (.mk k n s' ts)=cQ N (.mk k n s' ts):=aMF N (by omega) _ hh.1
 have hcs:=OP (N:Int) (.mk k n s' ts)
 rw[hsh] at hcs
 have hun:=FQ (N:=N+fr) (by omega) hg (ho.upN (by omega)) (.mk gk gn gs' gts) (cQ N (.mk k n s' ts)) (hgo.mono (by omega)) hHd b11
 generalize cQ N (.mk k n s' ts)=y at *
 obtain⟨yk,yn,ys,yt⟩:=y
 refine wX [(0,1),(1,1),(2,1),(3,1),(4,1),(6,1),(5,0),(7,0),(8,1)] [0,1,2,3,4,6,8] eH mixed rfl eT ?_
 simp -implicitDefEqProofs only[aA,seval,rN]
 have hsm:=hh.1.small
 simp only[aV] at hun hcs ⊢
 refine(hcs _ hsm).to ?_
 simp -implicitDefEqProofs only[aA,seval]
 refine⟨eT,?_⟩
 refine(hun _ hA).mono ?_
 rintro _ s2 ⟨rfl,hA2,hk2⟩
 simp -implicitDefEqProofs only[aA,seval]
 refine⟨eT,?_⟩
 generalize gD σ (.mk gk gn gs' gts) (.mk yk yn ys yt)=u at *
 obtain⟨r,σ',tr⟩:=u
 simp only at hinv hA2 ⊢
 have KW:W b11=none:=h11
 have hDs:aM s2 W:=by
  intro q
  have key:∀o,W q=some o→s2 q=some o:=fun o h=>hk2 q o ((hDT q).2 o h) (by rintro rfl;rw[KW] at h;cases h)
  refine⟨fun h=>?_,key⟩
  cases hq:W q with
  | none=>rfl
  | some o=>rw[key o hq] at h;cases h
 refine aQ (fun h=>?_) (fun h=>?_)
 · have hr:r=false:=by simpa using h
   rw[aE (by rw[hr];simp)] at hinv
   simp -implicitDefEqProofs only[hw,aA,seval]
   exact⟨(),hinv,aO.drop hDs (by simp -implicitDefEqProofs only[aA,seval])⟩
 have hr':r=true:=by simpa using h
 rw[aH hr'] at hinv
 have hg9:=W2 bd N cs.length rest hBd qB (by omega) (by omega)
 generalize hgs:bd.map (fun t=>(⟨cQ N t,cs.length⟩:RG))++rest=gs2 at *
 simp -implicitDefEqProofs only[aF,aA,seval,rN]
 refine wP [(0,1),(1,1),(3,1),(5,1),(6,1),(7,1),(2,2),(4,2),(8,2),(9,1),(10,1),(11,0),(12,0)] [0,1,3,5,6,7,2,4,8,9,10] mixed ?_
 simp -implicitDefEqProofs only[aA,seval,rN]
 refine OZ hg9 ?_
 simp -implicitDefEqProofs only[aK,aF,hw,aA,seval,rN]
 intro b13 h13
 have aWX:b13≠b11:=by rintro rfl;rw[fO,h13] at hA2;cases hA2
 have h62:s2 b6≠none:=by rw[(hDs b6).2 _ hW6];simp
 have KS:b6≠b13:=by rintro rfl;exact h62 h13
 have aJF:b6≠b11:=by rintro rfl;rw[hW6] at KW;cases KW
 have K7:st b11=none:=(hDW b11).1 KW
 have aJJ:=(hDs b6).2 _ hW6
 have hNf:0<N+fr:=by omega
 have oF:c8 (N+fr) σ'≠[]:=by intro e;have:=tV (N+fr) σ';rw[e] at this;simp at this;omega
 refine aQ (fun h=>?_) (fun h=>?_)
 · have h':i+1<left.length:=by simp at h;omega
   have hsl:=fun(φ:AF) (d:Nat) (h:φ d=.int .i64 ((i:Int)+1))=>aMO h' h
   simp -implicitDefEqProofs only[aA,seval]
   refine wP [(0,1),(2,1),(4,1),(6,1),(7,1),(9,1),(1,2),(3,2),(5,2),(8,1),(10,2),(11,1),(12,0),(13,0)] [0,2,4,6,7,9,1,3,5,8,10,11] mixed ?_
   simp -implicitDefEqProofs only[aK,hsl,hw,aA,seval,rN]
   intro b14 h14
   have aJ9:b14≠b13:=by rintro rfl;rw[aB.aP] at h14;cases h14
   have PZ:s2 b14=none:=by rw[aB.aL _ _ aJ9] at h14;exact h14
   have aWY:b6≠b14:=by rintro rfl;exact h62 PZ
   generalize hV:(s2.aC b13 (AO.cells [AV.slice (gs2.map eU),AV.mslice b11 0 (N+fr) 4,AV.slice (cs.map fV)])).aC b14 (.cells [.int .i64 gk,.int .i64 gn,.str gs',.slice (gts.map Tm.av),.slice (rest.map eU),.slice ((left.drop (i+1)).map nv),.slice (c8 N σ)])=V
   have C6:V b14=some (.cells [.int .i64 gk,.int .i64 gn,.str gs',.slice (gts.map Tm.av),.slice (rest.map eU),.slice ((left.drop (i+1)).map nv),.slice (c8 N σ)]):=by rw[←hV];exact aB.aP _ _ _
   have KV:V b13=some (AO.cells [AV.slice (gs2.map eU),AV.mslice b11 0 (N+fr) 4,AV.slice (cs.map fV)]):=by rw[←hV,aB.aL _ _ (dD aJ9)];exact aB.aP _ _ _
   have hV6:V b6=some (.cells [.fslice [],.fslice [],.fslice []]):=by rw[←hV,aB.aL _ _ aWY,aB.aL _ _ KS];exact aJJ
   have hVq:∀q,q≠b13→q≠b14→V q=s2 q:=fun q e1 e2=>by rw[←hV,aB.aL _ _ e2,aB.aL _ _ e1]
   refine wX [(0,1),(1,1),(2,1),(4,1),(5,1),(3,0),(6,0),(7,1),(8,2)] [0,1,2,4,5,7] (one b14 (.cells [.int .i64 gk,.int .i64 gn,.str gs',.slice (gts.map Tm.av),.slice (rest.map eU),.slice ((left.drop (i+1)).map nv),.slice (c8 N σ)])) mixed rfl (iF C6) ?_
   simp -implicitDefEqProofs only[wB,aA,seval,rN]
   have hlc:(cs.map fV).length=cs.length:=aF _
   refine eW (P:=prog) (b:=0) (l:=[]) (xs:=cs.map fV) xO F1 F3 rfl rfl (by intro e he;simp only[cS] at he;obtain⟨t,_,rfl⟩:=he;exact⟨LV t,a1Q t⟩) (by simp) (by simp) (by simp only[aZ,hlc];omega) (by simp only[aZ,hlc];omega) (fun b15 h15=>?_)
   rw[eR] at h15 ⊢
   simp -implicitDefEqProofs only[aA,seval]
   refine⟨iF (CB h15 C6),?_⟩
   refine eW (P:=prog) (b:=b15) (l:=cs.map fV) (xs:=[fV ⟨.mk gk gn gs' gts,rest,left.drop (i+1),σ,N⟩]) xO F1 F3 rfl rfl (fM rfl rfl) (by intro e he;simp only[cS] at he;obtain⟨t,_,rfl⟩:=he;exact LV t) h15 (by simp only[aS,aZ,hlc];omega) (by simp only[aS,aZ,hlc];omega) (fun b16 h16=>?_)
   rw[show(cs.map fV)++ [fV ⟨.mk gk gn gs' gts,rest,left.drop (i+1),σ,N⟩]=(cs++ [(⟨.mk gk gn gs' gts,rest,left.drop (i+1),σ,N⟩:RC)]).map fV by simp] at h16 ⊢
   have g13:=CB h16 KV
   have g14:=CB h16 C6
   have g6:=CB h16 hV6
   have hdn:left.drop (i+1)≠[]:=by intro e;have:=gV List.length e;simp at this;omega
   rw[aE hdn] at hinv
   generalize hLL:cs++ [(⟨.mk gk gn gs' gts,rest,left.drop (i+1),σ,N⟩:RC)]=LL at *
   have E:=aOI (o':=.cells [AV.slice (gs2.map eU),AV.mslice b11 0 (N+fr) 4,bD 7 b16 (LL.map fV)]) (o6:=.cells [AV.slice (gs2.map eU),AV.mslice b11 0 (N+fr) 4,bD 7 b16 (LL.map fV)]) (hDs.trans hDW) hA2 K7 h6 h62 aJF h13 PZ hVq (by rw[KV];simp) (by rw[C6];simp) h16 oF
   simp -implicitDefEqProofs only[aK,KS,g13,g6,fJ,m6,aA,seval,rN]
   have hms:LL.map fV≠[]→b11≠b16:=by rintro h rfl;have:=h16 h;rw[hVq b11 (dD aWX) (by rintro rfl;rw[fO,PZ] at hA2;cases hA2),hA2] at this;cases this
   refine⟨iF g14,_,E.1,b16,LL.map fV,_,rfl,fun h=>E.2 (by simpa using h),a1R LL,⟨7,a1S LL⟩,b11,c8 (N+fr) σ',st,rfl,fun _=>K7,FL _ _,⟨4,CF _ _⟩,rfl,?_⟩
   rw[←hinv]
   simp only[fZ,jQ,pC,iN,lV,bA,aW,aI1 hms,KL hNf]
   rfl
 · have h':left.drop (i+1)= []:=BR (by simp at h;omega)
   have E:=aOI (o6:=.cells [AV.slice (gs2.map eU),AV.mslice b11 0 (N+fr) 4,AV.slice (cs.map fV)]) (o':=.cells [AV.slice (gs2.map eU),AV.mslice b11 0 (N+fr) 4,AV.slice (cs.map fV)]) (b:=0) (L:=[]) (hDs.trans hDW) hA2 K7 h6 h62 aJF h13 h13 (fun q h _=>aB.aL s2 (.cells [AV.slice (gs2.map eU),AV.mslice b11 0 (N+fr) 4,AV.slice (cs.map fV)]) h) (by rw[aB.aP];simp) (by rw[aB.aP];simp) (by simp) oF
   simp -implicitDefEqProofs only[aK,KS,aJJ,aB.aP,aA,seval,rN]
   rw[aH h'] at hinv
   have E1:=E.1
   simp only[a7,dC] at E1
   refine⟨_,E1,0,[],_,rfl,by simp,by simp,⟨0,by simp⟩,b11,c8 (N+fr) σ',st,rfl,fun _=>K7,FL _ _,⟨4,CF _ _⟩,rfl,?_⟩
   rw[←hinv]
   simp only[fZ,jQ,pC,iN,bA,aW,aI1 (l:=[]) (fun h=>absurd rfl h),KL hNf]
   rfl
theorem R7{p:List Cl}(hp:∀c∈p,gE c∧c.2.length≤6){B:Nat}(hB:B≤524288){cs:List RC}{goal:Tm}{rest:List RG}{σ:Sub}{N:Nat}(hg:cO σ)(ho:cW (bB N) σ)(hd:∀n,¬(0≤n∧n<(N:Int))→σ n=none)
 (hgo:bB N goal) (hr:∀g∈rest,bB N g.t∧g.t.k=3) (h0:0<N) (hN:N+26≤B) (hrl:rest.length+26≤B) (hcl:cs.length+1≤B) (hcs:∀c∈cs,w6 p c∧c.N+26≤B∧c.rest.length+26≤B∧0<c.N) :
 ∀(left:List Nat),(∀i∈left,i<p.length)→left.length≤1048576→∀s,gJ p cs goal rest σ N left=some s→pU p B s
 | [],_,_,s,h=>by simp [gJ] at h
 | i::l,hle,hll,s,h=>by
  have hil:=hle i (by simp)
  obtain⟨x,hx⟩:∃x,p[i]?=some x:=⟨_,eE hil⟩
  obtain⟨hX,h6⟩:=hp x (cP hx)
  have hl':∀j∈l,j<p.length:=fun j hj=>hle j (by simp [hj])
  rw[gJ.eq_def] at h
  simp only[hx] at h
  split at h
  case isFalse=>exact R7 hp hB hg ho hd hgo hr h0 hN hrl hcl hcs l hl' (by simp at hll;omega) s h
  cases h
  have hfr:=hX.fr.1
  have hsh:=hX.cQ N
  obtain⟨r,σ',tr,U⟩:=rS (N:=N+mL x) hg (ho.upN (by omega)) (hgo.mono (by omega)) (hsh x.1 (by simp))
  rw[U.eq]
  have S:=U.wJ
  refine⟨S.gQ,S.ok,fun n hn=>?_,?_,by simp only;omega,by simp only;omega,?_,?_,?_⟩
  · simp only at hn ⊢
    rw[S.a8 n (fun h=>hn (S.gB n h))]
    exact hd n (fun h=>hn (by omega))
  · intro g hg'
    simp only[fF,cS] at hg'
    rcases hg' with ⟨t,ht,rfl⟩ | hg'
    · exact⟨hsh t (List.mem_cons_of_mem _ ht),by rw[aMI];exact(hX.body t ht).2⟩
    · exact⟨(hr g hg').1.mono (by simp only;omega),(hr g hg').2⟩
  · simp only[dM,aF];omega
  · simp only
    split
    · omega
    · simp only[dM,aS,aZ];omega
  · simp only
    split
    · exact hcs
    · intro c hc
      rcases fF.1 hc with hc | hc
      · exact hcs c hc
      · simp only[cX,dN,dV] at hc
        subst hc
        exact⟨⟨hg,ho,hd,hgo,hr,hl',by simp only;omega,by simp only;simp at hll;omega⟩,hN,hrl,h0⟩
theorem a1L(p:List Cl)(chs:List RC):fU p chs.length chs=match chs.getLast? with
 | none=>none
 | some c=>match gJ p chs.dropLast c.goal c.rest c.σ c.N c.left with
  | some s=>some s
  | none=>fU p chs.dropLast.length chs.dropLast:=by
 cases chs with
 | nil=>rfl
 | cons c l=>
  rw[aS,fU]
  have:(c::l).dropLast.length=l.length:=by simp
  rw[this]
  try rfl
theorem aLX{p:List Cl}(hp:∀c∈p,gE c∧c.2.length≤6){B:Nat}(hB:B≤524288):∀(n:Nat) (chs:List RC),chs.length≤B→(∀c∈chs,w6 p c∧c.N+26≤B∧c.rest.length+26≤B∧0<c.N)→∀s,fU p n chs=some s→pU p B s
 | 0,_,_,_,s,h=>by simp [fU] at h
 | n+1,chs,hl,hc,s,h=>by
  rw[fU] at h
  split at h
  · cases h
  · rename_i c uE
    have hm:=NK uE
    have hne:chs≠[]:=by rintro rfl;simp at hm
    have hdl:chs.dropLast.length+1=chs.length:=by
     have:=List.length_pos_iff.2 hne
     simp;omega
    have hcd:∀c∈chs.dropLast,w6 p c∧c.N+26≤B∧c.rest.length+26≤B∧0<c.N:=fun c h=>hc c (NF _ h)
    obtain⟨k,h1,h2,h3⟩:=hc c hm
    split at h
    · rename_i s' hs
      cases h
      exact R7 hp hB k.gQ k.ok k.vJ k.goal k.rest h3 h1 h2 (by omega) hcd c.left k.left k.aZ3 s hs
    · exact aLX hp hB n _ (by omega) hcd s h
theorem pU.up{p:List Cl}{B C:Nat}{s:RS}(h:pU p B s)(hC:B≤C):pU p C s:=
 ⟨h.gQ,h.ok,h.vJ,h.goals,h.pos,by have:=h.hN;omega,by have:=h.gl;omega,by have:=h.pB;omega,fun c hc=>by
  obtain⟨h1,h2,h3,h4⟩:=h.chs c hc
  exact⟨h1,by omega,by omega,h4⟩⟩
theorem pU.back{p:List Cl}(hp:∀c∈p,gE c∧c.2.length≤6){B:Nat}(hB:B≤524288){s s':RS}(h:pU p B s)(e:fU p s.chs.length s.chs=some s'):pU p B s':=
 aLX hp hB _ _ h.pB h.chs s' e
theorem KN{N:Nat}{σ:Sub}(hg:cO σ)(ho:cW (bB N) σ){t:Tm}(ht:bB N t)(hf:eL (t.aG (rs σ))=true):bB N (t.aG (rs σ)):=by
 obtain⟨rk,B,G⟩:=hg.rs
 unfold eL at hf
 simp only[cA,bJ] at hf
 exact⟨ht.1.aG fun v hv=>G.k0 ho.k0 v (ht.1.2.2 v hv).1 (ht.1.2.2 v hv).2,hf.2⟩
theorem pU.step{p:List Cl}(hp:∀c∈p,gE c∧c.2.length≤6)(hpl:p.length≤1048576){B:Nat}(hB:B+26≤524288){cnd:Tm→List Nat→List Nat}(hc:∀t l,(∀i∈cnd t l,i∈l)∧(cnd t l).length≤l.length){s s':RS}{g:RG}{rest:List RG}(hgs:s.goals=g::rest)(h:pU p B s)
 (e:iJ p cnd s g rest=.go s'):pU p (B+26) s':=by
 have hgm:g∈s.goals:=by rw[hgs];simp
 have hrm:∀x∈rest,x∈s.goals:=fun x hx=>by rw[hgs];simp [hx]
 have hgl:=h.gl
 rw[hgs,aS] at hgl
 have hU:=h.up (C:=B+26) (by omega)
 unfold iJ at e
 split at e
 · cases e
 rename_i fD
 have QF:eL (g.t.aG (rs s.σ))=true:=by simpa using fD
 have hok:=KN h.gQ h.ok (h.goals g hgm).1 QF
 generalize g.t.aG (rs s.σ)=t at *
 split at e
 · cases e
   exact⟨hU.gQ,hU.ok,hU.vJ,fun x hx=>hU.goals x (hrm x hx),hU.pos,hU.hN,by simp only;omega,by simp only[dS];have:=hU.pB;omega,fun c hc=>hU.chs c (mC hc)⟩
 split at e
 · split at e
   · cases e
     have S:=LZ h.gQ h.ok t.s t.ts fun x hx=>by
      obtain⟨k,n,s',ts⟩:=t
      by_cases hk:k=1
      · obtain⟨_,_,_,h2⟩:=(show cJ s.N (.mk 1 n s' ts) from hk▸hok.1).var
        simp only[Tm.ts] at hx
        rw[h2] at hx;cases hx
      · exact qJ _ (.mk k n s' ts) hk hok x hx
     exact⟨S.gQ,S.ok,fun n hn=>by simp only at hn ⊢;rw[S.a8 n (fun h=>hn (S.gB n h))];exact hU.vJ n hn,fun x hx=>hU.goals x (hrm x hx),hU.pos,hU.hN,by simp only;omega,hU.pB,hU.chs⟩
   · split at e<;>cases e
 split at e
 · cases e
 split at e
 case h_2=>cases e
 rename_i s2 hs
 cases e
 obtain⟨c1,c2⟩:=hc t (d8 p t)
 have hfl:(d8 p t).length≤p.length:=by rw[KO];exact KP p t p.length
 refine R7 hp (by omega) h.gQ h.ok h.vJ hok (fun x hx=>h.goals x (hrm x hx)) h.pos (by have:=h.hN;omega) (by omega) (by have:=h.pB;omega) hU.chs _ (fun i hi=>?_) (by omega) s' hs
 have:=c1 i hi
 unfold d8 at this
 have:=(E2.1 this).1
 exact rX.1 this
def nI(n:Nat)(l:List RG):Prop:=l.Pairwise (fun a b=>b.a8≤a.a8)∧∀g∈l,g.a8≤n
theorem nI.up{n m:Nat}{l:List RG}(h:nI n l)(hm:n≤m):nI m l:=⟨h.1,fun g hg=>lA (h.2 g hg) hm⟩
theorem nI.tail{n:Nat}{g:RG}{l:List RG}(h:nI n (g::l)):nI n l∧nI g.a8 l:=by
 obtain⟨h1,h2⟩:=h
 rw[List.pairwise_cons] at h1
 exact⟨⟨h1.2,fun x hx=>h2 x (by simp [hx])⟩,h1.2,h1.1⟩
theorem nI.body{n:Nat}{l:List RG}(h:nI n l)(f:Tm→Tm)(bd:List Tm):nI n (bd.map (fun t=>(⟨f t,n⟩:RG))++l):=by
 refine⟨List.pairwise_append.2 ⟨?_,h.1,fun a ha b hb=>?_⟩,fun g hg=>?_⟩
 · rw[List.pairwise_map]
   exact List.pairwise_of_forall fun _ _=>c7 _
 · obtain⟨t,_,rfl⟩:=cS.1 ha
   exact h.2 b hb
 · rcases fF.1 hg with hg | hg
   · obtain⟨t,_,rfl⟩:=cS.1 hg
     exact c7 _
   · exact h.2 g hg
structure y7 (s:RS):Prop where
 goals:nI s.chs.length s.goals
 chs:∀i c,s.chs[i]?=some c→nI i c.rest
theorem R5{p:List Cl}{cs:List RC}{goal:Tm}{rest:List RG}{σ:Sub}{N:Nat}(hr:nI cs.length rest)(hc:∀i c,cs[i]?=some c→nI i c.rest) :
 ∀(left:List Nat) s,gJ p cs goal rest σ N left=some s→y7 s
 | [],s,h=>by simp [gJ] at h
 | i::l,s,h=>by
  rw[gJ.eq_def] at h
  simp only at h
  split at h
  · cases h
  rename_i x hx
  split at h
  case isFalse=>exact R5 hr hc l s h
  cases h
  have hb:=hr.body (cQ N) x.2
  refine⟨?_,?_⟩
  · simp only
    split
    · exact hb
    · exact hb.up (by simp)
  · simp only
    intro j c hj
    split at hj
    · exact hc j c hj
    · rw[List.getElem?_append] at hj
      split at hj
      · exact hc j c hj
      · rename_i hlt
        have hj0:j - cs.length=0:=by
         have:=(gP.1 hj).1
         simp at this;omega
        rw[hj0] at hj
        simp only[I1,Option.some.injEq] at hj
        subst hj
        exact hr.up (by omega)
theorem aLV{p:List Cl}:∀(n:Nat) (chs:List RC),(∀i c,chs[i]?=some c→nI i c.rest)→∀s,fU p n chs=some s→y7 s
 | 0,_,_,s,h=>by simp [fU] at h
 | n+1,chs,hc,s,h=>by
  rw[fU] at h
  split at h
  · cases h
  · rename_i c uE
    have hd:∀i c,chs.dropLast[i]?=some c→nI i c.rest:=fun i c hi=>hc i c (by
     rw[List.dropLast_eq_take,List.getElem?_take] at hi
     split at hi
     · exact hi
     · cases hi)
    rw[T8] at uE
    have hk:=hc _ _ uE
    split at h
    · rename_i s' hs
      cases h
      exact R5 (by rw[List.length_dropLast];exact hk) hd _ s hs
    · exact aLV n _ hd s h
theorem y7.step{p:List Cl}{cnd:Tm→List Nat→List Nat}{s s':RS}{g:RG}{rest:List RG}(hgs:s.goals=g::rest)(h:y7 s)(e:iJ p cnd s g rest=.go s'):y7 s':=by
 have hg:=h.goals
 rw[hgs] at hg
 obtain⟨h1,h2⟩:=hg.tail
 have h3:=hg.2 g (by simp)
 unfold iJ at e
 split at e
 · cases e
 split at e
 · cases e
   refine⟨?_,fun i c hi=>?_⟩
   · simp only[dS]
     exact h2.up (by omega)
   · simp only[List.getElem?_take] at hi
     split at hi
     · exact h.chs i c hi
     · cases hi
 split at e
 · split at e
   · cases e
     exact⟨h1,h.chs⟩
   · split at e<;>cases e
 split at e
 · cases e
 split at e
 case h_2=>cases e
 rename_i s2 hs
 cases e
 exact R5 h1 h.chs _ s' hs
def BY(s:RS):Prop:=26≤s.N∧∀c∈s.chs,26≤c.N
theorem R6{p:List Cl}{cs:List RC}{goal:Tm}{rest:List RG}{σ:Sub}{N:Nat}(hN:26≤N)(hc:∀c∈cs,26≤c.N) :
 ∀(left:List Nat) s,gJ p cs goal rest σ N left=some s→BY s
 | [],s,h=>by simp [gJ] at h
 | i::l,s,h=>by
  rw[gJ.eq_def] at h
  simp only at h
  split at h
  · cases h
  rename_i x hx
  split at h
  case isFalse=>exact R6 hN hc l s h
  cases h
  refine⟨by simp only;omega,?_⟩
  simp only
  split
  · exact hc
  · intro c h
    rcases fF.1 h with h | h
    · exact hc c h
    · simp only[cX,dN,dV] at h
      subst h;exact hN
theorem aLW{p:List Cl}:∀(n:Nat) (chs:List RC),(∀c∈chs,26≤c.N)→∀s,fU p n chs=some s→BY s
 | 0,_,_,s,h=>by simp [fU] at h
 | n+1,chs,hc,s,h=>by
  rw[fU] at h
  split at h
  · cases h
  · rename_i c uE
    have hd:∀c∈chs.dropLast,26≤c.N:=fun c h=>hc c (NF _ h)
    split at h
    · rename_i s' hs
      cases h
      exact R6 (hc c (NK uE)) hd _ s hs
    · exact aLW n _ hd s h
theorem BY.step{p:List Cl}{cnd:Tm→List Nat→List Nat}{s s':RS}{g:RG}{rest:List RG}(h:BY s)(e:iJ p cnd s g rest=.go s'):BY s':=by
 unfold iJ at e
 split at e
 · cases e
 split at e
 · cases e
   exact⟨h.1,fun c hc=>h.2 c (mC hc)⟩
 split at e
 · split at e
   · cases e
     exact h
   · split at e<;>cases e
 split at e
 · cases e
 split at e
 case h_2=>cases e
 rename_i s2 hs
 cases e
 exact R6 h.1 h.2 _ s' hs
structure mG (p:List Cl) (B:Nat) (s:RS):Prop where
 a:pU p B s
 k:y7 s
 l:BY s
theorem mG.step{p:List Cl}(hp:∀c∈p,gE c∧c.2.length≤6)(hpl:p.length≤1048576){B:Nat}(hB:B+26≤524288){cnd:Tm→List Nat→List Nat}(hc:∀t l,(∀i∈cnd t l,i∈l)∧(cnd t l).length≤l.length){s s':RS}{g:RG}{rest:List RG}(hgs:s.goals=g::rest)(h:mG p B s)
 (e:iJ p cnd s g rest=.go s'):mG p (B+26) s':=⟨h.a.step hp hpl hB hc hgs e,h.k.step hgs e,h.l.step e⟩
theorem mG.back{p:List Cl}(hp:∀c∈p,gE c∧c.2.length≤6){B:Nat}(hB:B≤524288){s s':RS}(h:mG p B s)(e:fU p s.chs.length s.chs=some s'):mG p B s':=
 ⟨h.a.back hp hB e,aLV _ _ h.k.chs s' e,aLW _ _ h.l.2 s' e⟩
theorem mG.up{p:List Cl}{B C:Nat}{s:RS}(h:mG p B s)(hC:B≤C):mG p C s:=⟨h.a.up hC,h.k,h.l⟩
theorem mG.start{p:List Cl}{q:List Tm}(hq:∀t∈q,bB 26 t∧t.k=3)(h6:q.length≤6):mG p 26 (k6 q):=by
 refine⟨⟨cO.none,fun n u h=>(by cases h),fun n _=>rfl,?_,(by show 0<26;omega),c7 _,?_,jD _,fun c hc=>(by cases hc)⟩,⟨⟨?_,?_⟩,fun i c hi=>(by cases hi)⟩,⟨c7 _,fun c hc=>(by cases hc)⟩⟩
 · intro g hg
   simp only[k6,cS] at hg
   obtain⟨t,ht,rfl⟩:=hg
   exact hq t ht
 · simp only[k6,aF];omega
 · simp only[k6,List.pairwise_map]
   exact List.pairwise_of_forall fun _ _=>c7 _
 · intro g hg
   simp only[k6,cS] at hg
   obtain⟨t,ht,rfl⟩:=hg
   exact jD _
theorem aMN{φ:AF}{t:TypeId}{ag:Bool}{w d k:Nat}{es:List AV}(hI:eI prog t=some (ag,w))(h:φ d=.int .i64 (k:Int))(hk:k≤es.length):g7 prog φ t (.slice es) none (some (.tmp d)) none=some (.slice (es.take k)):=by
 have he:φ.eval (.tmp d)=.int .i64 (k:Int):=h
 unfold g7
 rw[aE (by simp [qG])]
 simp only[oA,hI]
 rw[aE (by simp)]
 simp only[dZ,he]
 rw[aH (by omega)]
 simp
def I7(a:AV):Prop:=(∃l,a=.slice l)∨a=.fslice []
theorem I7.facts{a:AV}(h:I7 a):a.isAgg=false∧a.width=1∧a.cF=false∧a.cells= [a]∧a.storable=true∧∃l,a.soft=.slice l:=by
 rcases h with ⟨l,rfl⟩ | rfl
 · exact⟨rfl,rfl,rfl,rfl,rfl,l,rfl⟩
 · exact⟨rfl,rfl,rfl,rfl,rfl,[],rfl⟩
abbrev uM:=zi tI_3 (zi zI_3 (zi aX (zi tI_4 (zi zI_4 (zi cE (zi tI_29 (zi zI_29 (zi gW (zi kA (zi kB (zi lL (zi tI_164 (zi zI_164 (zi xO (zi F1 (zi F3 (zi TN (zi tI_166 (zi zI_166 (zi F4 (zi F5 (zi F6 (zi FN (zi tI_254 (zi zI_254 (zi PO (zi PP (zi PQ (zi PR OB)))))))))))))))))))))))))))))
theorem WZ{p:List Cl}(hp:∀c∈p,gE c∧c.2.length≤6){B:Nat}(hB:B≤524288)(gs0:List RG)(σ0:List AV)(chs:List RC)(hl:chs.length≤B)(hc:∀c∈chs,w6 p c∧c.N+26≤B∧c.rest.length+26≤B∧0<c.N)(st:aB) :
 aD prog 161 [.slice (p.map bX),.agg [.slice (gs0.map eU),.slice σ0,.slice (chs.map fV)]] st (fun r st'=>st'=st∧match fU p chs.length chs with
  | some s=>r=.tup [oQ s,.bool true]
  | none=>∃l1 l2 l3,r=.tup [.agg [.slice l1,.slice l2,.slice l3],.bool false]):=by
 refine aD.mK (aD.soft ?_)
 refine wF [1000000,3] 2 func161 ntmps161 rfl rfl ?_
 intro _
 simp -implicitDefEqProofs only[aA,seval,uM]
 intro b3 h3 b4 h4
 have hne:b4≠b3:=by rintro rfl;rw[aB.aP] at h4;cases h4
 have QT:st b4=none:=by rw[aB.aL _ _ hne] at h4;exact h4
 rw[aB.oU _ _ _ (dD hne)]
 generalize hW:st.aC b4 (.cells [.fslice [],.fslice [],.fslice []])=W
 have hW4:W b4=some (.cells [.fslice [],.fslice [],.fslice []]):=by rw[←hW];exact aB.aP _ _ _
 have hW3:W b3=none:=by rw[←hW,aB.aL _ _ (dD hne)];exact h3
 have hDW:∀o o',aM ((W.aC b3 o).aC b4 o') st:=fun o o' q=>by
  by_cases q4:q=b4
  · subst q4;rw[aB.aP,QT];simp
  rw[aB.aL _ _ q4]
  by_cases q3:q=b3
  · subst q3;rw[aB.aP,h3];simp
  rw[aB.aL _ _ q3,←hW,aB.aL _ _ q4]
  simp
 have a65:b3≠b4:=dD hne
 refine iE (σ:=List RC×AV×AV) [1000000,3] [0,3,4] (fun s=>s.1.length≤B∧(∀c∈s.1,w6 p c∧c.N+26≤B∧c.rest.length+26≤B∧0<c.N)∧I7 s.2.1∧I7 s.2.2∧fU p s.1.length s.1=fU p chs.length chs) (fun s=>[(5,.bool false)]) (fun s=>W.aC b3 (.cells [s.2.1,s.2.2,.slice (s.1.map fV)])) (fun s=>s.1.length) (by decide +kernel) ⟨(chs,.slice (gs0.map eU),.slice σ0),⟨hl,hc,.inl ⟨_,rfl⟩,.inl ⟨_,rfl⟩,rfl⟩,aO.mk (by simp -implicitDefEqProofs only[aA,seval])⟩ ?_
 rintro⟨l,a,b⟩ ⟨hl1,hlc,ha,hb,hinv⟩
 simp only at hl1 hlc ha hb hinv
 obtain⟨a1,a2,a3,a4,a5,la,a6⟩:=ha.facts
 obtain⟨b1,b2,b3',b4',b5,lb,b6⟩:=hb.facts
 simp only
 rw[a1L] at hinv
 by_cases AC:l= []
 · subst AC
   simp only[List.getLast?_nil] at hinv
   simp -implicitDefEqProofs only[aB.aP,vP,List.contains,List.elem,rU,g8,sub,↓reduceIte,reduceCtorEq,Nat.reduceEqDiff,uM]
   refine aQ (fun h=>absurd h (by decide)) (fun h=>?_)
   simp -implicitDefEqProofs only[aK,hne,aB.aP,hW4,a5,b5,aA,seval,uM]
   rw[←hinv]
   exact⟨st,hDW _ _,rfl,la,lb,[],by simp only[kO,k7,sZ,rK,bA,aW,a6,b6]⟩
 obtain⟨c,uE⟩:∃c,l.getLast?=some c:=by
  cases h:l.getLast? with
  | none=>exact absurd (List.getLast?_eq_none_iff.1 h) AC
  | some c=>exact⟨c,rfl⟩
 have hlp:=List.length_pos_iff.2 AC
 have hcm:=NK uE
 obtain⟨aXF,hcN,hcr,hc0⟩:=hlc c hcm
 rw[uE] at hinv
 simp only at hinv
 have hat:=bM (av:=fV) (P:=prog) (l:=l) (i:=l.length - 1) (x:=c) xO (by rw[←T8];exact uE) (LV c)
 rw[show(((l.length - 1:Nat):Int))=(l.length:Int) - 1 by omega] at hat
 have hw:=bO (n:=(l.length:Int) - 1)
 have hdl:l.dropLast=l.take (l.length - 1):=List.dropLast_eq_take
 have a6Y:l.dropLast.length+1=l.length:=by simp;omega
 have hct:=W4 p hp [] [] l.dropLast c aXF hc0 (by omega) (by omega)
 have hcs:=fun(φ:AF) (d:Nat) (h:φ d=.int .i64 ((l.length:Int) - 1))=>aMN (es:=l.map fV) (k:=l.length - 1) xO (h.trans (by congr 1;omega)) (by simp)
 rw[←E0,←hdl] at hcs
 generalize hx:gJ p l.dropLast c.goal c.rest c.σ c.N c.left=x at hinv hct
 obtain⟨⟨ck,cn,cs',cts⟩,XV,XU,cσ,cN⟩:=c
 rw[SA] at hct hat
 simp only[aW] at hct
 simp -implicitDefEqProofs only[aF,aB.aP,aA,seval,uM]
 refine aQ (fun h=>?_) (fun h=>absurd hlp (by simpa using h))
 simp -implicitDefEqProofs only[aF,aB.aP,hw,hat,aA,↓aU,seval,uM]
 cases x with
 | none=>
  have K4:∀st,aD prog 241 [.slice (p.map bX),.agg [.fslice [],.fslice [],.slice (l.dropLast.map fV)],.agg [.int .i64 ck,.int .i64 cn,.str cs',.slice (cts.map Tm.av),.slice (XV.map eU),.slice (XU.map nv),.slice (c8 cN cσ)]] st (fun r st'=>r=.tup [.agg [.slice [],.slice [],.slice (l.dropLast.map fV)],.bool false]∧st'=st):=fun st=>
   aD.oS ((hct st).mono fun _ _ h=>⟨h.2,h.1⟩)
  simp only at hinv
  refine wP [(0,1),(1,1),(3,1),(2,2),(4,1),(5,1),(6,2),(7,1),(8,1),(9,1),(10,1),(11,0),(12,0),(13,1)] [0,1,3,2,4,5,6,7,8,9,10,13] mixed ?_
  simp -implicitDefEqProofs only[aB.aP,hcs,aA,seval,uM]
  refine OZ K4 ?_
  simp -implicitDefEqProofs only[aK,aB.aP,aA,seval,uM]
  intro b8 h8
  have h83:b8≠b3:=by rintro rfl;rw[aB.aP] at h8;cases h8
  rw[aB.aL _ _ h83] at h8
  have h84:b8≠b4:=by rintro rfl;rw[hW4] at h8;cases h8
  have hs8:st b8=none:=by rw[←hW,aB.aL _ _ h84] at h8;exact h8
  have h38:=dD h83
  have h48:=dD h84
  simp -implicitDefEqProofs only[aK,h38,aB.aP,hcs,aA,seval,uM]
  refine⟨(l.dropLast,.fslice [],.fslice []),by simp only;omega,⟨by simp only;omega,fun c h=>hlc c (NF _ h),.inr rfl,.inr rfl,hinv⟩,aO.drop (fun q=>?_) (by simp -implicitDefEqProofs only[aA,seval])⟩
  by_cases q3:q=b3
  · subst q3;rw[aB.aP,aB.aP];simp
  rw[aB.aL _ _ q3,aB.aL _ _ q3]
  by_cases q8:q=b8
  · subst q8;rw[aB.aP,h8];simp
  rw[aB.aL _ _ q8,aB.aL _ _ q3]
  simp
 | some s=>
  have K4:∀st,aD prog 241 [.slice (p.map bX),.agg [.fslice [],.fslice [],.slice (l.dropLast.map fV)],.agg [.int .i64 ck,.int .i64 cn,.str cs',.slice (cts.map Tm.av),.slice (XV.map eU),.slice (XU.map nv),.slice (c8 cN cσ)]] st (fun r st'=>r=.tup [oQ s,.bool true]∧st'=st):=fun st=>
   aD.oS ((hct st).mono fun _ _ h=>⟨h.2,h.1⟩)
  simp only at hinv
  simp only[oQ] at K4
  refine wP [(0,1),(1,1),(3,1),(2,2),(4,1),(5,1),(6,2),(7,1),(8,1),(9,1),(10,1),(11,0),(12,0),(13,1)] [0,1,3,2,4,5,6,7,8,9,10,13] mixed ?_
  simp -implicitDefEqProofs only[aB.aP,hcs,aA,seval,uM]
  refine OZ K4 ?_
  simp -implicitDefEqProofs only[aK,aB.aP,aA,seval,uM]
  intro b8 h8
  have h83:b8≠b3:=by rintro rfl;rw[aB.aP] at h8;cases h8
  rw[aB.aL _ _ h83] at h8
  have h84:b8≠b4:=by rintro rfl;rw[hW4] at h8;cases h8
  have hs8:st b8=none:=by rw[←hW,aB.aL _ _ h84] at h8;exact h8
  have h38:=dD h83
  have h48:=dD h84
  simp -implicitDefEqProofs only[hne,h48,hW4,aA,seval]
  refine⟨st,?_,rfl,?_⟩
  · have d1:aM W st:=by rw[←hW];exact(aM.refl _).aC QT
    exact((d1.aC h3).aC hs8).aC QT
  · rw[←hinv]
    simp only[kO,k7,sZ,rK,bA,aW]
    rfl
theorem a2P{φ:AF}{t:TypeId}{ag:Bool}{w:Nat}{y:Operand}{e:AV}{es:List AV}(hI:eI prog t=some (ag,w))(h:φ.eval y=.int .i64 1)(hw:∀x∈es,x.width=w):g7 prog φ t (.slice (e::es)) (some y) none none=some (.slice es):=by
 have hwo:BJ (e::es) 1 w=true:=by
  unfold BJ
  rw[I0]
  split
  · rename_i x hx
    simp [hw x (cP hx)]
  · rfl
 unfold g7
 rw[aE (by simp [qG])]
 simp only[oA,hI]
 rw[aE (by simp)]
 simp only[dZ,h]
 rw[aH (by constructor<;>simp<;>omega)]
 simp [hwo]
abbrev a7H:=zi tI_3 (zi zI_3 aX)
theorem aTL(c:Int)(st:aB):aD prog 271 [.int .i64 c] st (fun r st'=>r=.int .i64 (oC c)∧st'=st):=by
 refine aD.done ?_
 refine wF [1000000] 1 func271 ntmps271 rfl rfl ?_
 intro _
 simp -implicitDefEqProofs only[aA,seval]
 unfold oC
 refine aQ (fun h=>?_) (fun h=>?_)
 · simp -implicitDefEqProofs only[aA,seval]
   have h':c=2:=by simpa using h
   exact⟨by rw[aH h'];try rfl,aM.refl _⟩
 rw[aE (show ¬c=2 by simpa using h)]
 simp -implicitDefEqProofs only[aA,seval]
 refine aQ (fun h=>?_) (fun h=>?_)
 · simp -implicitDefEqProofs only[aA,seval]
   have h':c=3:=by simpa using h
   exact⟨by rw[aH h'];try rfl,aM.refl _⟩
 rw[aE (show ¬c=3 by simpa using h)]
 simp -implicitDefEqProofs only[aA,seval]
 refine aQ (fun h=>?_) (fun h=>?_)
 · simp -implicitDefEqProofs only[aA,seval]
   have h':c=4:=by simpa using h
   exact⟨by rw[aH h'];try rfl,aM.refl _⟩
 rw[aE (show ¬c=4 by simpa using h)]
 simp -implicitDefEqProofs only[aA,seval]
 exact⟨rfl,aM.refl _⟩
def tQ(s0:RS)(x:RO)(r:AV):Prop:=match x with
 | .go s=>r=.tup [oQ s,.int .i64 (-1)]
 | .fail=>r=.tup [oQ s0,.int .i64 (-2)]
 | .stop e=>0≤e∧∃l1 l2 l3,r=.tup [.agg [.slice l1,.slice l2,.slice l3],.int .i64 e]
abbrev nG:=zi tI_2 (zi zI_2 (zi M1 (zi tI_3 (zi zI_3 (zi aX (zi tI_4 (zi zI_4 (zi cE (zi tI_9 (zi zI_9 (zi cI (zi tI_29 (zi zI_29 (zi gW (zi kA (zi kB (zi lL (zi tI_31 (zi zI_31 (zi aN (zi bG (zi bH (zi b9 (zi tI_46 (zi zI_46 (zi dH (zi fA (zi eX (zi fB (zi tI_66 (zi zI_66 (zi bQ (zi bR (zi bS (zi bT (zi bP (zi tI_163 (zi zI_163 (zi vM (zi zR (zi zU (zi IK (zi tI_164 (zi zI_164 (zi xO (zi F1 (zi F3 (zi TN (zi tI_166 (zi zI_166 (zi F4 (zi F5 (zi F6 (zi FN (zi tI_254 (zi zI_254 (zi PO (zi PP (zi PQ (zi PR (zi OB (zi tI_286 (zi zI_286 (zi aIE (zi aIF VI)))))))))))))))))))))))))))))))))))))))))))))))))))))))))))))))))
theorem aTV{p:List Cl}(hp:∀c∈p,gE c∧c.2.length≤6)(hpl:p.length≤1048576){B:Nat}(hB:B+26≤524288)(goals:List RG)(σ:Sub)(N:Nat)(chs:List RC)(g:RG)(rest:List RG)(hgs:goals=g::rest)(h:pU p B ⟨goals,σ,N,chs⟩)(hK:y7 ⟨goals,σ,N,chs⟩)(st:aB) :
 aD prog 208 [.slice (p.map bX),.agg [.slice (goals.map eU),.slice (c8 N σ),.slice (chs.map fV)]] st (fun r st'=>st'=st∧tQ ⟨goals,σ,N,chs⟩ (iJ p (fun _ l=>l) ⟨goals,σ,N,chs⟩ g rest) r):=by
 subst hgs
 obtain⟨hg,ho,hd,hgo,h0,hN,hgl,hcl,hch⟩:=h
 simp only at hg ho hd hgo h0 hN hgl hcl hch
 obtain⟨hgx,hg3⟩:=hgo g (by simp)
 have vY:∀x∈rest,bB N x.t∧x.t.k=3:=fun x hx=>hgo x (by simp [hx])
 have hkp:=hK.goals.2 g (by simp)
 simp only at hkp
 have hsm:=W3 hg ho g.t hgx
 have hyk:(g.t.aG (rs σ)).k=3:=by rw[Tm.pM _ (by omega)];exact hg3
 have hfo:=KN hg ho hgx
 generalize hR:iJ p (fun _ l=>l) ⟨g::rest,σ,N,chs⟩ g rest=R
 unfold iJ at hR
 dsimp only at hR
 obtain⟨⟨gk,gn,gs',gts⟩,a8⟩:=g
 simp only at hgx hg3 hkp hsm hyk hfo
 dsimp only at hR
 generalize (Tm.mk gk gn gs' gts).aG (rs σ)=y at *
 obtain⟨yk,yn,ys,yts⟩:=y
 obtain rfl:yk=3:=hyk
 have hat:dF prog 163 (.slice ((⟨.mk gk gn gs' gts,a8⟩::rest).map eU)) (.int .i64 0)=some (.pptr (eU ⟨.mk gk gn gs' gts,a8⟩)):=bM (av:=eU) (l:=⟨.mk gk gn gs' gts,a8⟩::rest) (i:=0) vM rfl (D6 _)
 have hs1:=fun(φ:AF) (y:Operand) (h:φ.eval y=.int .i64 1)=>a2P (e:=eU ⟨.mk gk gn gs' gts,a8⟩) (es:=rest.map eU) vM h (by intro e he;simp only[cS] at he;obtain⟨t,_,rfl⟩:=he;exact D6 t)
 rw[bA,A5] at hat
 rw[A5] at hs1
 rw[bA,A5]
 simp only[aV] at hsm
 refine aD.fin (aD.mK ?_)
 refine wF [1000000] 2 func208 ntmps208 rfl rfl ?_
 intro _
 simp -implicitDefEqProofs only[aS,hat,hs1,aA,↓aU,seval,nG]
 intro b4 h4
 refine(hsm _).mono ?_
 rintro _ _ ⟨rfl,x,rfl,hx⟩
 generalize fD:eL (.mk 3 yn ys yts)=fit at *
 have vQ:∀(o:AO) (r:AV) (x:RO),tQ ⟨⟨.mk gk gn gs' gts,a8⟩::rest,σ,N,chs⟩ x (r.fin 0 [])→∃s2,aM (st.aC b4 o) s2∧∃b l s0,s2=a7 s0 b l∧(l≠[]→s0 b=none)∧(∀e∈l,e.cF=false)∧gZ l∧s0=st∧tQ ⟨⟨.mk gk gn gs' gts,a8⟩::rest,σ,N,chs⟩ x (r.fin b l):=fun o r x hr=>
  ⟨st,(aM.refl _).aC h4,0,[],st,rfl,by simp,by simp,⟨0,by simp⟩,rfl,hr⟩
 simp -implicitDefEqProofs only[aS,aJ,cC,cG,aA,↓aU,seval,nG]
 refine aQ (fun h=>?_) (fun h=>?_)
 · have h':fit=false:=by simpa using h
   subst h'
   rw[aH rfl] at hR
   subst hR
   simp -implicitDefEqProofs only[aK,aS,aA,seval,nG]
   exact vQ _ _ _ ⟨by decide,_,_,_,by simp only[fZ,jQ,eG,iN,bA,aW];rfl⟩
 obtain rfl:fit=true:=by simpa using h
 obtain rfl:=hx rfl
 simp only[aV]
 have hyo:=hfo rfl
 rw[aE (by simp)] at hR
 have xW:∀st,aD prog 269 [.agg [.int .i64 3,.int .i64 yn,.str ys,.slice (yts.map Tm.av)]] st (fun r st'=>r=.bool (oB (.mk 3 yn ys yts))∧st'=st):=fun st=>by
  have:=WV 3 yn ys yts st
  rw[aV] at this
  exact this
 have hbi:=fun st=>OV ys (yts.length:Int) st
 have aJ0:=fun st=>aS7 p (.mk 3 yn ys yts) hpl st
 have aKG:=fun hb=>aQ5 (N:=N) h0 (by omega) hg ho yn ys yts hb (qJ N (.mk 3 yn ys yts) (by show(3:Int)≠1;decide) hyo)
 have htr:=W4 p hp
 simp only[aV] at aJ0 aKG
 replace hR:(if oB (.mk 3 yn ys yts)=true then RO.go ⟨rest,σ,N,chs.take a8⟩ else if isBuiltin ys (yts.length:Int)=true then(if(dE σ ys yts).1=0 then RO.go ⟨rest,(dE σ ys yts).2.1,N,chs⟩ else if(dE σ ys yts).1=1 then RO.fail else RO.stop (oC (dE σ ys yts).1)) else if d8 p (.mk 3 yn ys yts)= [] then RO.stop 8 else match gJ p chs (.mk 3 yn ys yts) rest σ N (d8 p (.mk 3 yn ys yts)) with | some s'=>RO.go s' | none=>RO.fail)=R:=hR
 generalize hcu:oB (.mk 3 yn ys yts)=cu at *
 have hs2:=fun(φ:AF) (d:Nat) (h:φ d=.int .i64 (a8:Int))=>aMN (es:=chs.map fV) (k:=a8) xO h (by simpa using hkp)
 rw[←E0] at hs2
 refine(xW _).to ?_
 simp -implicitDefEqProofs only[aA,seval]
 refine aQ (fun h=>?_) (fun h=>?_)
 · rw[aH h] at hR
   subst h hR
   simp -implicitDefEqProofs only[aA,seval]
   refine wP [(0,1),(1,1),(3,1),(5,1),(2,2),(4,2),(6,2),(7,1),(8,1),(9,0),(10,1)] [0,1,3,5,2,4,6,7,8,10] mixed ?_
   simp -implicitDefEqProofs only[aK,aS,hs2,aA,seval,nG]
   exact vQ _ _ _ (by simp only[fZ,jQ,eG,iN,bA,aW];rfl)
 rw[aE (by rw[h];simp)] at hR
 subst h
 simp -implicitDefEqProofs only[aF,aA,seval,nG]
 refine(hbi _).to ?_
 simp -implicitDefEqProofs only[aA,seval]
 refine aQ (fun h=>?_) (fun h=>?_)
 · have DH:=aKG h
   rw[aH h] at hR
   simp -implicitDefEqProofs only[aA,seval,nG]
   refine N8 h0 (by omega) σ fun b hb hA0=>?_
   have hst:=aM.aC (aM.refl st) (o:=.cells [.fslice [],.fslice [],.fslice []]) h4
   generalize hW:st.aC b4 (.cells [.fslice [],.fslice [],.fslice []])=W at *
   have hW4:W b4=some (.cells [.fslice [],.fslice [],.fslice []]):=by rw[←hW];exact aB.aP _ _ _
   have hT:aM (W.aC b (.cells ((c8 N σ).flatMap AV.cells))) W:=(aM.refl _).aC hb
   generalize W.aC b (.cells ((c8 N σ).flatMap AV.cells))=T at *
   have hb4:b≠b4:=by rintro rfl;rw[hW4] at hb;cases hb
   simp -implicitDefEqProofs only[aS,aA,seval,nG]
   refine(DH b _ hA0).mono ?_
   rintro _ s2 ⟨rfl,hA,hk2⟩
   have aXE:=a2Y σ ys yts
   generalize dE σ ys yts=S at *
   obtain⟨c,σ',tr⟩:=S
   simp only at hA aXE ⊢
   dsimp only at hR
   have hDs:aM s2 W:=by
    intro q
    have key:∀o,W q=some o→s2 q=some o:=fun o h=>hk2 q o ((hT q).2 o h) (by rintro rfl;rw[hb] at h;cases h)
    refine⟨fun h=>?_,key⟩
    cases hq:W q with
    | none=>rfl
    | some o=>rw[key o hq] at h;cases h
   have QR:=(hDs b4).2 _ hW4
   have aYV:st b=none:=by rw[←hW,aB.aL _ _ hb4] at hb;exact hb
   have aIY:∀(o:AO) (r:AV) (x:RO),tQ ⟨⟨.mk gk gn gs' gts,a8⟩::rest,σ,N,chs⟩ x (r.fin 0 [])→∃s3,aM (s2.aC b4 o) s3∧∃b l s0,s3=a7 s0 b l∧(l≠[]→s0 b=none)∧(∀e∈l,e.cF=false)∧gZ l∧s0=st∧tQ ⟨⟨.mk gk gn gs' gts,a8⟩::rest,σ,N,chs⟩ x (r.fin b l):=fun o r x hr=>
    ⟨st,(hDs.trans hst).aC h4,0,[],st,rfl,by simp,by simp,⟨0,by simp⟩,rfl,hr⟩
   simp -implicitDefEqProofs only[aA,seval]
   refine aQ (fun h=>?_) (fun h=>?_)
   · have hc0:c=0:=by simpa using h
     subst hc0
     rw[aH rfl] at hR
     subst hR
     simp -implicitDefEqProofs only[aK,aS,QR,aA,seval,nG]
     have oF:c8 N σ'≠[]:=by intro e;have:=tV N σ';rw[e] at this;simp at this;omega
     refine⟨st.aC b (.cells ((c8 N σ').flatMap AV.cells)),fun q=>?_,b,c8 N σ',st,by rw[jP oF],fun _=>aYV,FL _ _,⟨4,CF _ _⟩,rfl,?_⟩
     · by_cases q4:q=b4
       · subst q4;rw[aB.aP,aB.aL _ _ (dD hb4),h4];simp
       rw[aB.aL _ _ q4]
       by_cases qb:q=b
       · subst qb;rw[aB.aP,show s2 q=_ from hA];simp
       rw[aB.aL _ _ qb]
       exact(hDs.trans hst) q
     · simp only[fZ,jQ,eG,iN,bA,aW,KL h0]
       rfl
   have hc0:c≠0:=by simpa using h
   rw[aE hc0] at hR
   simp -implicitDefEqProofs only[aA,seval]
   refine aQ (fun h=>?_) (fun h=>?_)
   · have hc1:c=1:=by simpa using h
     subst hc1
     rw[aH rfl] at hR
     subst hR
     simp -implicitDefEqProofs only[aK,aS,QR,aA,seval,nG]
     exact aIY _ _ _ (by simp only[tQ,oQ,bA,A5];simp only[fZ,jQ,eG,iN,bA,aW])
   have hc1:c≠1:=by simpa using h
   rw[aE hc1] at hR
   subst hR
   have jY:0≤oC c:=by unfold oC;split;omega;split;omega;split;omega;omega
   simp -implicitDefEqProofs only[aA,seval]
   refine wP [(1,1),(0,2),(2,2),(3,0),(4,1)] [1,0,2,4] mixed ?_
   simp -implicitDefEqProofs only[aS,aA,seval,nG]
   refine iD (aTL c _) ?_
   simp -implicitDefEqProofs only[aK,aS,QR,aA,seval,nG]
   exact aIY _ _ _ ⟨jY,_,_,_,by simp only[fZ,jQ,eG,iN,bA,aW];rfl⟩
 rw[aE (by rw[h];simp)] at hR
 simp -implicitDefEqProofs only[aS,aA,seval,nG]
 refine(aJ0 _).to ?_
 have hcx:w6 p ⟨.mk 3 yn ys yts,rest,d8 p (.mk 3 yn ys yts),σ,N⟩:=⟨hg,ho,hd,hyo,vY,fun i hi=>by
  unfold d8 at hi
  exact rX.1 (E2.1 hi).1,by simp only;simp only[aS] at hgl;omega,by
  have:=KP p (.mk 3 yn ys yts) p.length
  rw[←KO] at this
  simp only;omega⟩
 have DI:=fun st=>htr (⟨.mk gk gn gs' gts,a8⟩::rest) (c8 N σ) chs _ hcx h0 (by simp only;omega) (by omega) st
 rw[bA,A5,SA] at DI
 simp only at DI
 generalize d8 p (.mk 3 yn ys yts)=left at *
 simp -implicitDefEqProofs only[aF,aA,seval,nG]
 refine aQ (fun h=>?_) (fun h=>?_)
 · have h':left= []:=by
    have:(left.length:Int)=0:=by simpa using h
    exact pT (by omega)
   rw[aH h'] at hR
   subst hR
   simp -implicitDefEqProofs only[aK,aS,aA,seval,nG]
   exact vQ _ _ _ ⟨by decide,_,_,_,by simp only[fZ,jQ,eG,iN,bA,aW];rfl⟩
 have h':left≠[]:=by
  rintro rfl
  simp at h
 rw[aE h'] at hR
 generalize gJ p chs (.mk 3 yn ys yts) rest σ N left=x at *
 simp -implicitDefEqProofs only[aS,aA,seval,nG]
 cases x with
 | none=>
  simp only at hR DI
  subst hR
  refine(DI _).mono ?_
  rintro _ _ ⟨rfl,rfl⟩
  simp -implicitDefEqProofs only[aK,aS,aA,↓aU,seval,nG]
  exact vQ _ _ _ (by simp only[tQ,oQ,bA,A5];simp only[fZ,jQ,eG,iN,bA,aW])
 | some s=>
  simp only[oQ] at hR DI
  subst hR
  refine(DI _).mono ?_
  rintro _ _ ⟨rfl,rfl⟩
  simp -implicitDefEqProofs only[aK,aS,aA,↓aU,seval,nG]
  exact vQ _ _ _ (by simp only[fZ,jQ,eG,iN,bA,aW];rfl)
theorem a2J{N:Int}{t:Tm}(h:cJ N t):cQ 0 t=t:=by
 have h1:cQ 0 t=t.aG vr:=by
  unfold cQ b7
  congr 1
  funext v
  congr 1
  simp
 rw[h1,AM t h.2.1]
theorem VF(N:Nat):c8 N Sub.none=List.replicate N zt:=by
 apply IZ
 intro i
 by_cases h:i<N
 · rw[zE N _ h,List.getElem?_replicate,aH h];try rfl
 · rw[wY (by rw[tV];omega),wY (by simp;omega)]
abbrev SZ:=zi tI_3 (zi zI_3 (zi aX (zi tI_31 (zi zI_31 (zi aN (zi bG (zi bH (zi b9 (zi tI_163 (zi zI_163 (zi vM (zi zR (zi zU (zi IK (zi tI_166 (zi zI_166 (zi F4 (zi F5 (zi F6 FN)))))))))))))))))))
theorem aTU(q:List Tm)(hq:∀t∈q,bB 26 t)(h6:q.length≤6)(st:aB):aD prog 158 [.slice (q.map Tm.av)] st (fun r st'=>r=oQ (k6 q)∧st'=st):=by
 have hgo:∀st,aD prog 237 [.slice (q.map Tm.av),.int .i64 0,.int .i64 0,.fslice []] st (fun r st'=>r=.slice ((k6 q).goals.map eU)∧st'=st):=fun st=>
  aD.oS ((W2 q 0 0 [] hq h6 (by omega) (by simp) st).mono fun _ _ h=>⟨by
   rw[h.1]
   unfold k6
   rw[g9]
   congr 2
   exact qU fun t ht=>by rw[a2J (hq t ht).1],h.2⟩)
 refine aD.pZ (aD.fin (aD.mK ?_))
 refine wF [1000000,3] 1 func158 ntmps158 rfl rfl ?_
 intro _
 simp -implicitDefEqProofs only[aA,seval,SZ]
 intro b2 h2
 simp -implicitDefEqProofs only[xB,aK,vP,↓KF,↓IW,List.contains,List.elem,yP,pR,qQ,↓reduceIte,reduceCtorEq,Nat.reduceEqDiff,Nat.reduceAdd,Nat.reduceLT,Nat.reduceBEq,SZ]
 refine⟨by omega,by omega,by omega,fun bb hbb=>?_⟩
 rw[show Int.toNat 26=26 from rfl,aKX _ (by simp)]
 have hb2:bb≠b2:=by rintro rfl;rw[aB.aP] at hbb;cases hbb
 have K3:(List.replicate 26 [AV.int .i64 0,.int .i64 0,.str ⟨#[]⟩,.fslice []]).flatten=(c8 26 Sub.none).flatMap AV.cells:=by
  rw[VF];try rfl
 rw[K3]
 have h22:(st.aC b2 (AO.cells [AV.fslice [],AV.fslice [],AV.fslice []])) b2=some (AO.cells [AV.fslice [],AV.fslice [],AV.fslice []]):=aB.aP _ _ _
 have hD2:aM (st.aC b2 (AO.cells [AV.fslice [],AV.fslice [],AV.fslice []])) st:=(aM.refl _).aC h2
 intro b3 h3
 have h3b:b3≠bb:=by rintro rfl;rw[aB.aP] at h3;cases h3
 rw[aB.aL _ _ h3b] at h3
 have h32:b3≠b2:=by rintro rfl;rw[aB.aP] at h3;cases h3
 have hs3:st b3=none:=by rw[aB.aL _ _ h32] at h3;exact h3
 have hsb:st bb=none:=by rw[aB.aL _ _ hb2] at hbb;exact hbb
 refine(hgo _).to ?_
 have e1:=dD h3b
 have e2:=dD h32
 have e3:=dD hb2
 simp -implicitDefEqProofs only[aK,e2,e3,aB.aP,aA,seval,SZ]
 have oF:c8 26 Sub.none≠[]:=by rw[VF];simp
 refine⟨st.aC bb (.cells ((c8 26 Sub.none).flatMap AV.cells)),fun q'=>?_,bb,c8 26 Sub.none,st,by rw[jP oF],fun _=>hsb,FL _ _,⟨4,CF _ _⟩,?_,aM.refl _⟩
 · by_cases q2:q'=b2
   · subst q2;rw[aB.aP,aB.aL _ _ e3,h2];simp
   rw[aB.aL _ _ q2]
   by_cases q3:q'=b3
   · subst q3;rw[aB.aP,aB.aL _ _ h3b,hs3];simp
   simp only[aB.aL _ _ q3]
   by_cases qb:q'=bb
   · subst qb;rw[aB.aP,aB.aP];simp
   rw[aB.aL _ _ qb,aB.aL _ _ qb,aB.aL _ _ q2]
   simp
 · simp only[fZ,iN,oD,bA,aW,KL (show 0<26 by omega)]
   rfl
theorem N3{S:aB}{b c:Nat}{l:List AV}{o:AO}(h:l≠[]→b≠c):(a7 S b l).aC c o=a7 (S.aC c o) b l:=by
 cases l with
 | nil=>rfl
 | cons x l=>rw[jP (by simp),jP (by simp),aB.oU _ _ _ (h (by simp))]
theorem A2{p:List Cl}{cnd:Tm→List Nat→List Nat}{vars:List Int}{most fuel:Nat}{s:RS}(hg:s.goals= []):jL p cnd vars most fuel s=if most=0 then([],1) else match iA s.σ vars with
 | none=>([],3)
 | some a=>match fU p s.chs.length s.chs with
  | none=>([a],0)
  | some s'=>(a::(jL p cnd vars (most - 1) fuel s').1,(jL p cnd vars (most - 1) fuel s').2):=by
 rw[jL.eq_def,hg]
 simp only
 split<;>rfl
theorem wH{p:List Cl}{cnd:Tm→List Nat→List Nat}{vars:List Int}{most fuel:Nat}{s:RS}{g:RG}{rest:List RG}(hg:s.goals=g::rest):jL p cnd vars most fuel s=if fuel=0 then([],2) else match iJ p cnd s g rest with
 | .stop e=>([],e)
 | .go s'=>jL p cnd vars most (fuel - 1) s'
 | .fail=>match fU p s.chs.length s.chs with
  | none=>([],0)
  | some s'=>jL p cnd vars most (fuel - 1) s':=by
 rw[jL.eq_def,hg]
 simp only
 split<;>rfl
structure UB (p:List Cl) (vars:List Int) (most fuel:Nat) (T:List (List Tm)×Int) (s:RS) (out:List (List Tm)) (f B:Nat):Prop where
 tot:T=(out++(jL p (fun _ l=>l) vars (most - out.length) f s).1,(jL p (fun _ l=>l) vars (most - out.length) f s).2)
 len:out.length≤most
 ok:mG p B s
 bd:B+26*f≤8000
abbrev mQ:=zi tI_2 (zi zI_2 (zi M1 (zi tI_3 (zi zI_3 (zi aX (zi tI_4 (zi zI_4 (zi cE (zi tI_26 (zi zI_26 (zi rA (zi vL (zi vN (zi BH (zi tI_29 (zi zI_29 (zi gW (zi kA (zi kB (zi lL (zi tI_31 (zi zI_31 (zi aN (zi bG (zi bH (zi b9 (zi tI_46 (zi zI_46 (zi dH (zi fA (zi eX (zi fB (zi tI_59 (zi zI_59 (zi t8 (zi tW (zi tI_163 (zi zI_163 (zi vM (zi zR (zi zU (zi IK (zi tI_166 (zi zI_166 (zi F4 (zi F5 (zi F6 FN)))))))))))))))))))))))))))))))))))))))))))))))
theorem aTT{p:List Cl}(hp:∀c∈p,gE c∧c.2.length≤6)(hpl:p.length≤20){q:List Tm}(hq:∀t∈q,bB 26 t∧t.k=3)(h6:q.length≤6){most fuel:Nat}(hm:most≤20)(hf:fuel≤300)(st:aB) :
 aD prog 124 [.slice (p.map bX),.slice (q.map Tm.av),.int .i64 (most:Int),.int .i64 (fuel:Int)] st (fun r st'=>r=.tup [.slice ((uK p (fun _ l=>l) q most fuel).1.map cU),.int .i64 (uK p (fun _ l=>l) q most fuel).2]∧st'=st):=by
 have hnd:bF Tm.nodes q≤1099511627776:=by
  have:=DS q fun t ht=>(hq t ht).1.2
  omega
 have hva:=fun st=>W6 q st (fun t ht=>Tm.sG t (hq t ht).1.1.2.1) hnd
 have G2:=fun st=>aTU q (fun t ht=>(hq t ht).1) h6 st
 have hv:∀v∈bL q [],0≤v∧v<26:=fun v hv=>by
  rcases (tC q [] fun t ht=>(hq t ht).1.1.2.1).1 hv with h | ⟨t,ht,h⟩
  · cases h
  · exact(hq t ht).1.1.2.2 v h
 have hvl:(bL q []).length≤1000:=by
  have h1:=yM q []
  have h2:=DS q fun t ht=>(hq t ht).1.2
  simp only[aZ] at h1
  omega
 have K8:=mG.start (p:=p) hq h6
 generalize hT:uK p (fun _ l=>l) q most fuel=T
 unfold uK at hT
 generalize bL q []=vars at *
 have hI0:UB p vars most fuel T (k6 q) [] fuel 26:=⟨by rw[←hT];try rfl,jD _,K8,by omega⟩
 generalize k6 q=s0 at *
 simp only[oQ] at G2
 refine aD.pZ (aD.fin (aD.mK ?_))
 refine wF [1000000,12] 4 func124 ntmps124 rfl rfl ?_
 intro _
 simp -implicitDefEqProofs only[aA,seval,mQ]
 refine(hva _).to ?_
 simp -implicitDefEqProofs only[aA,seval]
 refine(G2 _).to ?_
 simp -implicitDefEqProofs only[aK,aA,↓aU,seval,mQ]
 intro b12 h12
 refine iE (σ:=RS×List (List Tm)×Nat×Nat×Nat) [1000000,12] [0,2,11,12] (fun x=>UB p vars most fuel T x.1 x.2.1 x.2.2.1 x.2.2.2.1∧(x.2.1.map cU≠[]→(st.aC b12 (.cells [.slice (x.1.goals.map eU),.slice (c8 x.1.N x.1.σ),.slice (x.1.chs.map fV)])) x.2.2.2.2=none))
  (fun x=>[(3,.int .i64 (x.2.2.1:Int)),(8,.fslice []),(9,.int .i64 0),(10,bD 1 x.2.2.2.2 (x.2.1.map cU))])
  (fun x=>a7 (st.aC b12 (.cells [.slice (x.1.goals.map eU),.slice (c8 x.1.N x.1.σ),.slice (x.1.chs.map fV)])) x.2.2.2.2 (x.2.1.map cU))
  (fun x=>(most - x.2.1.length)+x.2.2.1) (by decide +kernel) ⟨(s0,[],fuel,26,0),⟨hI0,by simp⟩,aO.mk (by simp -implicitDefEqProofs only[jG,aW,aA,seval])⟩ ?_
 rintro⟨s,out,f,B,b⟩ ⟨⟨tot,hlen,hok,hbd⟩,hb⟩
 simp only at tot hlen hok hbd hb
 simp only
 have hbc:out.map cU≠[]→b≠b12:=fun h=>by rintro rfl;have:=hb h;rw[aB.aP] at this;cases this
 have p9:=CB hb (aB.aP st b12 (.cells [.slice (s.goals.map eU),.slice (c8 s.N s.σ),.slice (s.chs.map fV)]))
 have hlo:(out.map cU).length=out.length:=aF _
 have aX0:∀l:List (List Tm),∀e∈l.map cU,e.cF=false:=fun l e he=>by simp only[cS] at he;obtain⟨t,_,rfl⟩:=he;rfl
 have K9:∀l:List (List Tm),∀e∈l.map cU,e.width=1:=fun l e he=>by simp only[cS] at he;obtain⟨t,_,rfl⟩:=he;rfl
 have fin:∀(S:aB) (b:Nat) (l:List (List Tm)) (e:Int),(l.map cU≠[]→S b=none)→aM S st→T=(l,e)→∃s2,aM (a7 S b (l.map cU)) s2∧∃b' l' s0,s2=a7 s0 b' l'∧(l'≠[]→s0 b'=none)∧(∀e∈l',e.cF=false)∧gZ l'∧(AV.tup [bD 1 b (l.map cU),.int .i64 e]).fin b' l'=.tup [.slice (T.1.map cU),.int .i64 T.2]∧aM s0 st:=fun S b l e h1 h2 h3=>
  ⟨_,aM.refl _,b,l.map cU,S,rfl,h1,aX0 l,⟨1,K9 l⟩,by subst h3;simp only[jQ,eG,lV,bA,aW],h2⟩
 have hSD:∀o,aM (st.aC b12 o) st:=fun o=>(aM.refl _).aC h12
 generalize hX:(AO.cells [.slice (s.goals.map eU),.slice (c8 s.N s.σ),.slice (s.chs.map fV)])=X at p9 hb
 have p9:=p9.trans (gV some hX.symm)
 have hun:prog.underlying 26=some (.slice 59):=by kernel_rfl
 have uF:=tS (w:=1) (b:=b) (l:=out.map cU) hun
 rw[hlo] at uF
 cases hgs:s.goals with
 | nil=>
  rw[hgs] at hX p9
  simp only[aW] at hX p9
  rw[A2 hgs] at tot
  simp -implicitDefEqProofs only[aZ,uF,p9,aA,seval,mQ]
  refine aQ (fun h=>?_) (fun h=>?_)
  · have h':out.length=most:=by simp at h;omega
    rw[aH (by omega)] at tot
    simp -implicitDefEqProofs only[nL,aA,seval]
    exact fin _ b out 1 hb (hSD _) (by rw[tot,g9])
  have h':out.length<most:=by simp at h;omega
  rw[aE (by omega)] at tot
  simp -implicitDefEqProofs only[p9,aA,seval,mQ]
  refine(aTK (N:=s.N) hok.a.gQ hok.a.ok vars (fun v h=>⟨(hv v h).1,by have:=(hv v h).2;have:=hok.l.1;omega⟩) hvl _).mono ?_
  rintro _ _ ⟨rfl,a,rfl,ha⟩
  cases qA:iA s.σ vars with
  | none=>
   rw[qA] at tot
   simp only[Option.isSome_none,cU]
   simp -implicitDefEqProofs only[aZ,aS,nL,aA,↓aU,seval,mQ]
   exact fin _ b out 3 hb (hSD _) (by rw[tot,g9])
  | some x=>
   obtain rfl:=ha x qA
   rw[qA] at tot
   simp only[NN,cU] at tot ⊢
   simp -implicitDefEqProofs only[aZ,aS,aA,↓aU,seval,mQ]
   refine eW (P:=prog) (b:=b) (l:=out.map cU) (xs:=[cU a]) rA vL vN rfl rfl (fM rfl rfl) (K9 out) hb (by simp only[aS,aZ,hlo];omega) (by simp only[aS,aZ,hlo];omega) (fun b' hb'=>?_)
   rw[show(out.map cU)++ [cU a]=(out++ [a]).map cU by simp] at hb' ⊢
   have aJI:=(CB hb' (aB.aP st b12 X)).trans (gV some hX.symm)
   simp -implicitDefEqProofs only[aZ,aS,aJI,aA,seval,mQ]
   have K2:(f:Int)=(f:Int):=rfl
   refine(WZ hp (B:=B) (by omega) [] (c8 s.N s.σ) s.chs hok.a.pB hok.a.chs _).mono ?_
   rintro r _ ⟨rfl,hr⟩
   cases hbk:fU p s.chs.length s.chs with
   | none=>
    rw[hbk] at hr tot
    simp only at hr tot
    obtain⟨l1,l2,l3,rfl⟩:=hr
    simp -implicitDefEqProofs only[aZ,aS,nL,aA,↓aU,seval,mQ]
    exact fin _ b' (out++ [a]) 0 hb' (hSD _) (by rw[tot];try rw[g9])
   | some s'=>
    rw[hbk] at hr tot
    simp only[oQ] at hr tot
    subst hr
    simp -implicitDefEqProofs only[aK,aZ,aS,aJI,aA,↓aU,seval,mQ]
    rw[N3 (fun h=>by rintro rfl;have:=hb' h;rw[aB.aP] at this;cases this),dC]
    have hne:(out++ [a]).map cU≠[]→b'≠b12:=fun h=>by rintro rfl;have:=hb' h;rw[aB.aP] at this;cases this
    refine⟨(s',out++ [a],f,B,b'),by simp only[dM,aS,aZ];omega,⟨⟨by rw[tot];try simp only[nJ,fL,eR,dM,aS,aZ,Nat.sub_sub];try rfl,by simp only[dM,aS,aZ];omega,hok.back hp (by omega) hbk,by simp only;omega⟩,fun h=>by rw[aB.aL _ _ (hne h)];have:=hb' h;rwa [aB.aL _ _ (hne h)] at this⟩,aO.mk (by simp -implicitDefEqProofs only[aA,seval])⟩
 | cons g rest=>
  rw[hgs] at hX p9
  rw[wH hgs] at tot
  simp -implicitDefEqProofs only[aF,aS,p9,aA,seval,mQ]
  refine aQ (fun h=>absurd h (by simp;omega)) (fun h=>?_)
  simp -implicitDefEqProofs only[aA,seval]
  refine aQ (fun h=>?_) (fun h=>?_)
  · have h':f=0:=by simp at h;omega
    rw[aH h'] at tot
    simp -implicitDefEqProofs only[nL,aA,seval]
    exact fin _ b out 2 hb (hSD _) (by rw[tot,g9])
  have h':f≠0:=by simp at h;omega
  rw[aE h'] at tot
  have hw:=bO (n:=(f:Int) - 1)
  simp -implicitDefEqProofs only[hw,aZ,aS,p9,aA,seval,mQ]
  have hst:=aTV hp (by omega) (B:=B) (by omega) s.goals s.σ s.N s.chs g rest hgs hok.a hok.k
  rw[hgs,bA] at hst
  refine(hst _).mono ?_
  rintro r _ ⟨rfl,hr⟩
  have hse:(⟨g::rest,s.σ,s.N,s.chs⟩:RS)=s:=by rw[←hgs]
  rw[hse] at hr
  cases iS:iJ p (fun _ l=>l) s g rest with
  | go s'=>
   rw[iS] at hr tot
   simp only[tQ,oQ] at hr tot
   subst hr
   simp -implicitDefEqProofs only[aZ,aS,vP,↓KF,List.contains,List.elem,BL,↓reduceIte,Nat.reduceEqDiff,Nat.reduceAdd,Nat.reduceBEq,mQ]
   refine aQ (fun h=>absurd h (by decide)) (fun h=>?_)
   simp -implicitDefEqProofs only[aK,aZ,aS,p9,aA,seval,mQ]
   rw[N3 hbc,dC]
   have K2:((f - 1:Nat):Int)=(f:Int) - 1:=by omega
   refine⟨(s',out,f - 1,B+26,b),by simp only;omega,⟨⟨tot,hlen,hok.step hp (by omega) (by omega) (cnd:=fun _ l=>l) (fun _ _=>⟨fun _ h=>h,c7 _⟩) hgs iS,by simp only;omega⟩,fun h=>by rw[aB.aL _ _ (hbc h)];have:=hb h;rwa [aB.aL _ _ (hbc h)] at this⟩,aO.mk (by simp -implicitDefEqProofs only[K2,aA,seval])⟩
  | fail=>
   rw[iS] at hr tot
   simp only[tQ,oQ] at hr tot
   subst hr
   simp -implicitDefEqProofs only[aZ,aS,vP,↓KF,List.contains,List.elem,BL,↓reduceIte,Nat.reduceEqDiff,Nat.reduceAdd,Nat.reduceBEq,mQ]
   refine aQ (fun h=>absurd h (by decide)) (fun h=>?_)
   simp -implicitDefEqProofs only[aZ,aS,p9,aA,seval,mQ]
   have K2:((f - 1:Nat):Int)=(f:Int) - 1:=by omega
   refine(WZ hp (B:=B) (by omega) (g::rest) (c8 s.N s.σ) s.chs hok.a.pB hok.a.chs _).mono ?_
   rintro r _ ⟨rfl,hr⟩
   cases hbk:fU p s.chs.length s.chs with
   | none=>
    rw[hbk] at hr tot
    simp only at hr tot
    obtain⟨l1,l2,l3,rfl⟩:=hr
    simp -implicitDefEqProofs only[aZ,aS,nL,aA,↓aU,seval,mQ]
    exact fin _ b (out) 0 hb (hSD _) (by rw[tot];try rw[g9])
   | some s'=>
    rw[hbk] at hr tot
    simp only[oQ] at hr tot
    subst hr
    simp -implicitDefEqProofs only[aK,aZ,aS,p9,aA,↓aU,seval,mQ]
    rw[N3 (fun h=>by rintro rfl;have:=hb h;rw[aB.aP] at this;cases this),dC]
    have hne:(out).map cU≠[]→b≠b12:=fun h=>by rintro rfl;have:=hb h;rw[aB.aP] at this;cases this
    refine⟨(s',out,f - 1,B,b),by simp only[];omega,⟨⟨by rw[tot];try simp only[nJ,fL,eR,dM,aS,aZ,Nat.sub_sub];try rfl,by simp only[];omega,hok.back hp (by omega) hbk,by simp only;omega⟩,fun h=>by rw[aB.aL _ _ (hne h)];have:=hb h;rwa [aB.aL _ _ (hne h)] at this⟩,aO.mk (by simp -implicitDefEqProofs only[K2,aA,seval])⟩
  | stop e=>
   rw[iS] at hr tot
   simp only[tQ] at hr tot
   obtain⟨he0,l1,l2,l3,rfl⟩:=hr
   simp -implicitDefEqProofs only[aZ,aS,aA,↓aU,seval,mQ]
   refine aQ (fun h=>?_) (fun h=>absurd he0 (by simpa using h))
   simp -implicitDefEqProofs only[nL,aA,seval]
   exact fin _ b out e hb (hSD _) (by rw[tot,g9])
end Go.AW
namespace Go.AW
def uU(st:aB)(xs:List AV)(r:AV)(st':aB):Prop:=∃(os:List AV) (bs:List Nat),r=.tup os∧bs.Nodup∧(∀b∈bs,st b=none)∧cL st' xs os bs∧∀b,b∉bs→st' b=st b
theorem cL.aOX{h:bK}{st s0:aB}(S:cY h st)(D:aM st s0):∀(xs os:List AV) (bs:List Nat) (vs:List Value),cL st xs os bs→(∀b∈bs,s0 b=none)→dU h st os vs→dU h s0 xs vs
 | [],os,bs,vs,x,_,y=>by simp only[cL] at x;rw[x.1] at y;exact y
 | a::xs,os,bs,vs,x,hb,y=>by
  simp only[cL] at x
  obtain⟨o,os',b1,b2,rfl,rfl,x1,x2⟩:=x
  simp only[dU] at y ⊢
  obtain⟨v,r,e,⟨y0,y1⟩,y2⟩:=y
  exact⟨v,r,e,⟨x1.shape.1.symm.trans y0,cK.view S D a o b1 _ x1 (fun q hq=>hb q (by simp [hq])) y1⟩,cL.aOX S D xs os' b2 r x2 (fun q hq=>hb q (by simp [hq])) y2⟩
theorem aD.aKZ{P:Program}{g:FuncId}{args:List AV}{st:aB}{xs:List AV}(x:aD P g args st (uU st xs)):aD P g args st (fun r st'=>r=.tup xs∧st'=st):=
 x.mT fun r st' ⟨os,bs,hr,_,h2,h3,h4⟩=>by
  have D:aM st' st:=fun b=>⟨fun e=>by
   by_cases hb:b∈bs
   · exact h2 b hb
   · rw[←h4 b hb];exact e,fun o e=>by
   by_cases hb:b∈bs
   · rw[h2 b hb] at e;cases e
   · rw[h4 b hb];exact e⟩
  refine⟨.tup xs,st,D.tG,fun h v S y=>?_,rfl,rfl⟩
  subst hr
  obtain⟨y0,y1⟩:=y
  refine⟨y0,?_⟩
  unfold VC at y1 ⊢
  obtain⟨vs,e,y2⟩:=y1
  exact⟨vs,e,cL.aOX S D xs os bs vs h3 h2 y2⟩
theorem cK.aLJ{st:aB}{es:List AV}{q:AV}{bs:List Nat}(h:cK st (.slice es) q bs):q.cells= [q]∧q.storable=true∧q.isAgg=false∧q.width=1∧q.cF=false:=by
 simp only[cK] at h
 rcases h with ⟨_,rfl,_⟩ | ⟨_,_,_,_,rfl,_⟩<;>exact⟨rfl,rfl,rfl,rfl,rfl⟩
theorem a04{s:aB}{x o:AV}{bs:List Nat}:cK s (.agg [x]) o bs↔∃q,o=.agg [q]∧cK s x q bs:=by
 simp only[cK,cL]
 constructor
 · rintro⟨os,rfl,o1,os1,b1,b2,rfl,rfl,h,rfl,rfl⟩
   exact⟨o1,rfl,by simpa using h⟩
 · rintro⟨q,rfl,h⟩
   exact⟨_,rfl,q,[],bs,[],rfl,by simp,h,rfl,rfl⟩
theorem aLL{s:aB}{x y:AV}{os:List AV}{bs:List Nat}:cL s [x,y] os bs↔∃o1 o2 b1 b2,os= [o1,o2]∧bs=b1++b2∧cK s x o1 b1∧cK s y o2 b2:=by
 simp only[cL]
 constructor
 · rintro⟨o1,os1,b1,b1',rfl,rfl,h1,o2,os2,b2,b2',rfl,rfl,h2,rfl,rfl⟩
   exact⟨o1,o2,b1,b2,rfl,by simp,h1,h2⟩
 · rintro⟨o1,o2,b1,b2,rfl,rfl,h1,h2⟩
   exact⟨o1,[o2],b1,b2,rfl,rfl,h1,o2,[],b2,[],rfl,by simp,h2,rfl,rfl⟩
theorem a05{s:aB}{b:Bool}{o:AV}{bs:List Nat}:cK s (.bool b) o bs↔o=.bool b∧bs= []:=by simp only[cK]
theorem uU.a0T{st st':aB}{a o:AV}{b:Bool}(h:Made st a o st'):uU st [a,.bool b] (.tup [o,.bool b]) st':=by
 obtain⟨bs,h1,h2,h3,h4⟩:=h
 exact⟨_,bs,rfl,h1,h2,aLL.2 ⟨o,.bool b,bs,[],rfl,by simp,h3,a05.2 ⟨rfl,rfl⟩⟩,h4⟩
end Go.AW
namespace Go.AW
open Go.Proofs.Tryz

section
variable {S:aB} {c b w:Nat} {hd tl l:List AV}
theorem UE{h:bK}{st:aB}{a a':AV}(hv:∀v,VC h st a [v]→VC h st a' [v]):∀(hd:List AV) {tl:List AV} {vs:List Value},aY h st (hd++a::tl) vs→aY h st (hd++a'::tl) vs
 | [],tl,vs,x=>by
  simp only[eR,aY] at x ⊢
  obtain⟨c,r,e,x1,x2⟩:=x
  exact⟨c,r,e,hv c x1,x2⟩
 | y::hd,tl,vs,x=>by
  simp only[fL,aY] at x ⊢
  obtain⟨c,r,e,x1,x2⟩:=x
  exact⟨c,r,e,x1,UE hv hd x2⟩
theorem fX.a2U{φ:AF}{st:aB}{c:Nat}{hd tl:List AV}{a:AV}(hc:st c=some (.cells (hd++a::tl))):fX φ st φ (st.aC c (.cells (hd++a.soft::tl))):=fun h tmps S F=>by
 have T:cB h st h (st.aC c (.cells (hd++a.soft::tl))):=cB.of fun x hx=>by
  have:x≠c:=by rintro rfl;rw[hc] at hx;cases hx
  rw[aB.aL _ _ this];exact hx
 refine⟨fun x o hx=>?_,T,fun d=>(F d).mono T⟩
 by_cases e:x=c
 · subst e
   rw[aB.aP] at hx
   cases hx
   obtain⟨hl,c0,t,e1,e2,vs,e3,e4⟩:=S x _ hc
   refine⟨hl,c0,t,e1,?_,vs,e3,aY.mono T _ _ (UE (fun v hv=>VC.soft a [v] hv) hd e4)⟩
   simpa using e2
 · rw[aB.aL _ _ e] at hx
   obtain⟨hl,y⟩:=S x o hx
   exact⟨hl,kT.mono T rfl y⟩
end
abbrev yG:=zi tI_3 (zi zI_3 (zi aX (zi tI_31 (zi zI_31 (zi aN (zi bG (zi bH (zi b9 (zi tI_66 (zi zI_66 (zi bQ (zi bR (zi bS (zi bT (zi bP (zi tI_84 (zi zI_84 (zi kV (zi kW kU)))))))))))))))))))
theorem OQ(cl:Cl)(h1:cl.1.small=true)(h2:cl.2.length≤1048576)(h3:∀x∈cl.2,x.small=true)(st:aB):aD prog 248 [bX cl] st (fun r st'=>r=bX cl∧st'=st):=by
 obtain⟨⟨k,n,s,ks⟩,ts⟩:=cl
 have hhd:=fun st=>zJ (.mk k n s ks) st h1
 simp only[aV] at hhd
 have IH:=fun(x:Tm) (hx:x∈ts) st=>zJ x st (h3 x hx)
 have hlen:ts.length≤1048576:=h2
 refine aD.pZ (aD.fin ?_)
 simp only[fY]
 refine wF [] 1 func248 ntmps248 rfl rfl ?_
 simp only[eC,AV.fits,eF,aF]
 intro ⟨_,_,_,_,hl,_⟩
 simp -implicitDefEqProofs only[aA,seval,yG]
 intro b2 hb2
 refine(hhd _).to ?_
 simp -implicitDefEqProofs only[aK,aA,seval,yG]
 intro c hc
 have hne:c≠b2:=by rintro rfl;rw[aB.aP] at hc;cases hc
 have hn2:st c=none:=by rw[aB.aL st _ hne] at hc;exact hc
 have nS:b2≠c:=dD hne
 refine eP (σ:=Nat) [] [1,2,3] ts (fun i b=>(((ts.take i).map (fun y=>y)).map Tm.av≠[]→(aB.aC (st.aC b2 (.cells [AV.int .i64 0,AV.int .i64 0,AV.str ⟨#[]⟩,AV.fslice [],AV.fslice []])) c (.cells ([AV.int .i64 k,AV.int .i64 n,AV.str s,AV.slice (ks.map Tm.av)]++ [bD 4 b (((ts.take i).map (fun y=>y)).map Tm.av)]))) b=none)) (fun i b=>[(4,.int .i64 i)]) (fun i b=>fK (st.aC b2 (.cells [AV.int .i64 0,AV.int .i64 0,AV.str ⟨#[]⟩,AV.fslice [],AV.fslice []])) c b [AV.int .i64 k,AV.int .i64 n,AV.str s,AV.slice (ks.map Tm.av)] (((ts.take i).map (fun y=>y)).map Tm.av)) (by decide +kernel)
  ⟨0,fun h=>absurd rfl h,aO.mk (by simp -implicitDefEqProofs only[aA,↓aU,seval])⟩ (fun i x b hx hlt bV hdr hinv=>?_) (fun b hge hinv=>?_)
 case refine_1=>
  have hw:=bO (n:=(i:Int)+1)
  have cZ:(((ts.take i).map (fun y=>y)).map Tm.av).length=i:=by simp only[aF,dS];omega
  have htk:(ts.take (i+1)).map (fun y=>y)=(ts.take i).map (fun y=>y)++ [(fun y=>y) x]:=by rw[fG,hx];simp
  have hbo:=eN hinv
  simp -implicitDefEqProofs only[aF,bV,aA,seval,yG]
  refine wP [(0,1),(2,1),(4,1),(1,2),(3,2),(5,1),(6,2),(7,2),(8,1),(9,0),(10,1),(11,0)] [0,2,4,1,3,5,6,7,8,10] mixed ?_
  simp -implicitDefEqProofs only[bM (av:=Tm.av) aN hx (aJ x),aT,aJ,hbo,mZ,hH,aA,seval,yG]
  refine iD (IH x (cP hx) _) ?_
  simp -implicitDefEqProofs only[aT,aJ,cG,hH,aA,seval,yG]
  refine eW aN bG bH rfl rfl (fM (aJ _) (cC _)) (d6 _) hinv (by simp only[cZ,aS,aZ];omega) (by simp only[cZ,aS,aZ];omega) (fun b' hb'=>?_)
  rw[show(((ts.take i).map (fun y=>y)).map Tm.av)++ [((fun y=>y) x).av]=((ts.take (i+1)).map (fun y=>y)).map Tm.av by rw[htk];simp] at hb' ⊢
  obtain⟨g1,g2,g3⟩:=oL hb'
  simp only[fL,eR] at g1 g3
  simp -implicitDefEqProofs only[g3,m6,fJ,aK,g1,hw,aK,aA,seval,yG]
  exact⟨b',g2,aO.mk (by simp -implicitDefEqProofs only[aA,seval])⟩
 have hbo:=eN hinv
 rw[eS] at hinv hbo ⊢
 simp -implicitDefEqProofs only[aF,hge,aA,seval,yG]
 simp -implicitDefEqProofs only[hbo,aK,aA,seval,yG]
 have hS:(st.aC b2 (.cells [AV.int .i64 0,AV.int .i64 0,AV.str ⟨#[]⟩,AV.fslice [],AV.fslice []])) b2≠none:=by rw[aB.aP];simp
 have h1:=gS hinv hS nS
 rw[aB.aP] at h1
 simp -implicitDefEqProofs only[h1,fJ,aA,seval]
 obtain⟨h2,h3⟩:=kE (o:=.cells [AV.int .i64 k,AV.int .i64 n,AV.str s,AV.slice (ks.map Tm.av),bD 4 b ((ts.map fun y=>y).map Tm.av)]) hinv hS nS
 refine⟨b,_,_,h2,h3,iU _,⟨4,d6 _⟩,?_,?_⟩
 · simp only[fZ,bA,aW,eG,iY,iN,iP,List.map_id']
 · exact(((aM.refl _).aC hb2).aC hn2).aC hb2
structure Ss where
 p:List Cl
 q:List Tm
 a7C:Int
 used:Int
 a7D:Int
 fin:Int
theorem zN(l:List Cl):∀e∈l.map bX,e.width=5:=by intro e h;simp only[cS] at h;obtain⟨t,_,rfl⟩:=h;exact nO t
theorem J4(l:List Cl):∀e∈l.map bX,e.cF=false:=by intro e h;simp only[cS] at h;obtain⟨t,_,rfl⟩:=h;exact J3 t

def jM(p:List Cl)(q:List Tm)(most fuel:Int):Bool:=l7 p&&(kF q&&(decide (0≤most)&&(decide (most≤20)&&(decide (0≤fuel)&&decide (fuel≤300)))))
noncomputable def iK(p:List Cl)(cnd:Tm→List Nat→List Nat)(q:List Tm)(most fuel:Int):List (List Tm)×Int:=if jM p q most fuel=true then uK p cnd q most.toNat fuel.toNat else([],9)
theorem HH{p:List Cl}(h:l7 p=true):p.length≤20∧∀c∈p,gE c∧c.2.length≤6:=by
 simp only[l7,cA,bJ,dW] at h
 refine⟨h.1,fun c hc=>⟨aUT (h.2 c hc),?_⟩⟩
 have:=h.2 c hc
 simp only[j9,cA,bJ,dW] at this
 exact this.2.1
theorem HJ{q:List Tm}(h:kF q=true):q.length≤6∧∀t∈q,bB 26 t∧t.k=3:=by
 simp only[kF,cA,bJ,dW] at h
 refine⟨h.1,fun t ht=>?_⟩
 have hg:=h.2 t ht
 have hk:t.valid=true∧t.k=3:=by
  obtain⟨k,n,s,ts⟩:=t
  simp only[Tm.goal,cA] at hg
  refine⟨hg.1,?_⟩
  have:=hg.2
  simp only[vT,lH,pS,cA,bJ] at this
  simp only[Tm.k]
  rcases this with (h | h) | h<;>first | exact h.1 | exact h.1.1 | exact h.1.1.1
 exact⟨⟨Tm.IN hk.1,Tm.EP hk.1⟩,hk.2⟩
abbrev EF:=zi tI_3 (zi zI_3 (zi aX (zi tI_4 (zi zI_4 (zi cE (zi tI_26 (zi zI_26 (zi rA (zi vL (zi vN (zi BH (zi tI_29 (zi zI_29 (zi gW (zi kA (zi kB (zi lL (zi tI_31 (zi zI_31 (zi aN (zi bG (zi bH b9))))))))))))))))))))))
theorem aT7(p:List Cl)(q:List Tm)(most fuel:Int)(st:aB) :
 aD prog 60 [.slice (p.map bX),.slice (q.map Tm.av),.int .i64 most,.int .i64 fuel] st (fun r st'=>r=.tup [.slice ((iK p (fun _ l=>l) q most fuel).1.map cU),.int .i64 (iK p (fun _ l=>l) q most fuel).2]∧st'=st):=by
 refine aD.done ?_
 have pF:jM p q most fuel=false→∀ {st'},st'=st→(AV.tup [AV.fslice [],.int .i64 9]).soft=.tup [.slice ((iK p (fun _ l=>l) q most fuel).1.map cU),.int .i64 (iK p (fun _ l=>l) q most fuel).2]∧aM st' st:=fun h _ e=>by
  subst e
  unfold iK
  rw[aE (by rw[h];simp)]
  exact⟨by simp only[k7,j6,nD,bA,aW],aM.refl _⟩
 refine wF [1000000] 4 func60 ntmps60 rfl rfl ?_
 intro _
 simp -implicitDefEqProofs only[aA,seval]
 refine(XG p _).to ?_
 simp -implicitDefEqProofs only[aA,seval]
 refine cV (fun h=>?_) (fun h=>?_)
 case refine_2=>
  simp -implicitDefEqProofs only[h,aA,seval,EF]
  exact pF (by simp at h;simp [jM,h]) rfl
 have hp:l7 p=true:=by simpa using h
 simp -implicitDefEqProofs only[h,aA,seval]
 refine(XH q _).to ?_
 simp -implicitDefEqProofs only[aA,seval]
 refine cV (fun h2=>?_) (fun h2=>?_)
 case refine_2=>
  simp -implicitDefEqProofs only[h2,aA,seval,EF]
  exact pF (by simp at h2;simp [jM,h2]) rfl
 have hq:kF q=true:=by simpa using h2
 simp -implicitDefEqProofs only[h2,aA,seval]
 refine cV (fun h3=>?_) (fun h3=>?_)
 case refine_2=>
  simp -implicitDefEqProofs only[h3,aA,seval,EF]
  exact pF (by simp at h3;simp only[jM];rw[show decide (0≤most)=false from fS (by omega)];simp) rfl
 have h3':0≤most:=by simpa using h3
 simp -implicitDefEqProofs only[h3,aA,seval]
 refine cV (fun h4=>?_) (fun h4=>?_)
 case refine_2=>
  simp -implicitDefEqProofs only[h4,aA,seval,EF]
  exact pF (by simp at h4;simp only[jM];rw[show decide (most≤20)=false from fS (by omega)];simp) rfl
 have h4':most≤20:=by simpa using h4
 simp -implicitDefEqProofs only[h4,aA,seval]
 refine cV (fun h5=>?_) (fun h5=>?_)
 case refine_2=>
  simp -implicitDefEqProofs only[h5,aA,seval,EF]
  exact pF (by simp at h5;simp only[jM];rw[show decide (0≤fuel)=false from fS (by omega)];simp) rfl
 have h5':0≤fuel:=by simpa using h5
 simp -implicitDefEqProofs only[h5,aA,seval]
 refine aQ (fun h6=>?_) (fun h6=>?_)
 · simp -implicitDefEqProofs only[aA,seval,EF]
   exact pF (by simp at h6;simp only[jM];rw[show decide (fuel≤300)=false from fS (by omega)];simp) rfl
 have h6':fuel≤300:=by simpa using h6
 obtain⟨p1,p2⟩:=HH hp
 obtain⟨q1,q2⟩:=HJ hq
 obtain⟨m,rfl⟩:=tL h3'
 obtain⟨f,rfl⟩:=tL h5'
 simp -implicitDefEqProofs only[aA,seval]
 refine(aTT p2 p1 q2 q1 (by omega) (by omega) _).to ?_
 simp -implicitDefEqProofs only[aA,seval]
 refine⟨?_,aM.refl _⟩
 have hok:jM p q m f=true:=by simp [jM,hp,hq,h4',h6']
 unfold iK
 rw[aH hok]
 simp only[k7,j6,rK,bA,aW,kR]
end Go.AW
namespace Go.AW

theorem a2Z{p:List Cl}{cnd:Tm→List Nat→List Nat}{q:List Tm}{most fuel:Int}(h:jM p q most fuel=false):iK p cnd q most fuel=([],9):=by
 unfold iK
 rw[h];try rfl
theorem aMR{p:List Cl}{cnd:Tm→List Nat→List Nat}{q:List Tm}{most fuel:Int}(h:jM p q most fuel=true):iK p cnd q most fuel=uK p cnd q most.toNat fuel.toNat:=by
 unfold iK
 rw[aH h]
theorem aMP{p:List Cl}{q:List Tm}{most fuel:Int}:jM p q most fuel=true↔(l7 p=true∧kF q=true∧0≤most∧most≤20∧0≤fuel∧fuel≤300):=by
 simp only[jM,cA,bJ]
theorem a1O{p:List Cl}{cnd:Tm→List Nat→List Nat}{s:RS}{g:RG}{rest:List RG}{e:Int}(h:iJ p cnd s g rest=.stop e):e≠9:=by
 unfold iJ at h
 intro he
 subst he
 repeat' split at h
 all_goals first | (cases h;done) | (injection h with h;unfold oC at h;repeat' split at h;all_goals omega) | (injection h with h;omega)
theorem aLZ(p:List Cl)(cnd:Tm→List Nat→List Nat)(vars:List Int):∀(n most f:Nat) (s:RS),most+f≤n→(jL p cnd vars most f s).2≠9∧(jL p cnd vars most f s).1.length≤most:=by
 intro n
 induction n with
 | zero=>
  intro most f s hn
  obtain rfl:most=0:=by omega
  obtain rfl:f=0:=by omega
  cases hg:s.goals with
  | nil=>rw[A2 hg];simp
  | cons g rest=>rw[wH (fuel:=0) hg];simp
 | succ n ih=>
  intro most f s hn
  cases hg:s.goals with
  | nil=>
   rw[A2 hg]
   by_cases hm:most=0
   · rw[aH hm];simp
   rw[aE hm]
   cases ha:iA s.σ vars with
   | none=>simp
   | some a=>
    simp only
    cases hb:fU p s.chs.length s.chs with
    | none=>simp;omega
    | some s'=>
     obtain⟨h1,h2⟩:=ih (most - 1) f s' (by omega)
     simp only[aS]
     exact⟨h1,by omega⟩
  | cons g rest=>
   by_cases hf:f=0
   · subst hf
     rw[wH (fuel:=0) hg];simp
   rw[wH hg,aE hf]
   cases hst:iJ p cnd s g rest with
   | stop e=>exact⟨a1O hst,jD _⟩
   | go s'=>exact ih most (f - 1) s' (by omega)
   | fail=>
    simp only
    cases hb:fU p s.chs.length s.chs with
    | none=>simp
    | some s'=>exact ih most (f - 1) s' (by omega)
theorem a23{p:List Cl}{cnd:Tm→List Nat→List Nat}{q:List Tm}{most fuel:Int}:(iK p cnd q most fuel).2=9↔jM p q most fuel=false:=by
 constructor
 · intro h
   cases hk:jM p q most fuel with
   | false=>rfl
   | true=>rw[aMR hk] at h;exact absurd h (aLZ p cnd _ _ _ _ _ (c7 _)).1
 · intro h
   rw[a2Z h]
theorem a21{p:List Cl}{cnd:Tm→List Nat→List Nat}{q:List Tm}{most fuel:Int}(h:jM p q most fuel=true):((iK p cnd q most fuel).1.length:Int)≤most:=by
 rw[aMR h]
 have h1:=(aLZ p cnd (bL q []) _ most.toNat fuel.toNat (k6 q) (c7 _)).2
 have h2:=(aMP.1 h).2.2.1
 unfold uK
 omega
def pL(l:List IC):Nat:=(l.map fun c=>c.list.length).sum
theorem Q7(l m:List IC):pL (l++m)=pL l+pL m:=by simp [pL]
theorem aKV(c:IC):pL [c]=c.list.length:=by simp [pL]
theorem aKW(l:List IC)(k:Nat):pL (l.take k)≤pL l:=by
 have:=Q7 (l.take k) (l.drop k)
 rw[rY] at this
 omega
structure IX (p:List Cl) (M:Nat) (i:IS):Prop where
 tnd:i.tr.Nodup
 tin:∀n∈i.tr,(0≤n∧n<(i.fresh:Int))∧i.σ n≠none
 phi:i.fresh+26*pL i.chs≤M
 ch:∀c∈i.chs,c.node<c.taken∧c.taken≤i.nn∧c.fE≤i.tr.length∧∀x∈c.list,x<p.length
 mono:i.chs.Pairwise (fun c d=>c.taken≤d.taken∧c.fE≤d.fE)
theorem IX.up{p:List Cl}{M M':Nat}{i:IS}(h:IX p M i)(hM:M≤M'):IX p M' i:=⟨h.tnd,h.tin,lA h.phi hM,h.ch,h.mono⟩
theorem IX.TH{p:List Cl}{M:Nat}{i:IS}(h:IX p M i):i.tr.length≤i.fresh:=DT h.tnd fun n hn=>(h.tin n hn).1
theorem LA{p:List Cl}(hp:∀c∈p,gE c){M:Nat}{goal:Tm}{at':Nat}{rest:List IG}:∀(l:List Nat) (s:IS),(∀x∈l,x<p.length)→at'<s.nn→s.fresh+26*pL s.chs+26*l.length≤M→IX p M s→cO s.σ→cW (bB s.fresh) s.σ→bB s.fresh goal →
 IX p M (fT p goal at' rest l s).2
 | [],s,_,_,_,h,_,_,_=>by unfold fT;exact h
 | j::l,s,hl,ha,hM,h,hg,ho,hgo=>by
  obtain⟨x,hx⟩:∃x,p[j]?=some x:=⟨_,eE (hl j (by simp))⟩
  have hX:=hp x (cP hx)
  have hl':∀x∈l,x<p.length:=fun x h=>hl x (by simp [h])
  simp only[aS] at hM
  unfold fT
  simp only[hx]
  split
  · have hhd:bB ((s.fresh+26:Nat):Int) (cQ s.fresh x.1):=(hX.cQ s.fresh x.1 (by simp)).mono (by have:=hX.fr.1;omega)
    obtain⟨r,σ',add,U⟩:=rS (N:=s.fresh+26) hg (fun n u e=>(ho n u e).mono (by omega)) (hgo.mono (by omega)) hhd
    rw[U.eq]
    have S:=U.wJ
    refine⟨?_,?_,?_,?_,?_⟩
    · simp only
      refine tO.2 ⟨h.tnd,S.nodup,fun a ha b hb e=>?_⟩
      subst e
      exact(h.tin a ha).2 (S.new a hb).1
    · intro n hn
      simp only[fF] at hn ⊢
      rcases hn with hn | hn
      · have h1:=h.tin n hn
        have hna:n∉add:=fun ha=>h1.2 (S.new n ha).1
        exact⟨⟨h1.1.1,by have:=h1.1.2;omega⟩,by rw[S.a8 n hna];exact h1.2⟩
      · have:=S.gB n hn
        exact⟨⟨this.1,by omega⟩,(S.new n hn).2⟩
    · simp only
      split
      · omega
      · rw[Q7,aKV];simp only;omega
    · intro c hc
      have key:∀c∈s.chs,c.node<c.taken∧c.taken≤s.nn∧c.fE≤(s.tr++add).length∧∀x∈c.list,x<p.length:=fun c hc=>by
       obtain⟨h1,h2,h3,h4⟩:=h.ch c hc
       exact⟨h1,h2,by rw[dM];omega,h4⟩
      simp only at hc ⊢
      split at hc
      · exact key c hc
      · rcases fF.1 hc with hc | hc
        · exact key c hc
        · simp only[cX,dN,dV] at hc
          subst hc
          exact⟨ha,c7 _,by rw[dM];simp only;omega,hl'⟩
    · simp only
      split
      · exact h.mono
      · refine List.pairwise_append.2 ⟨h.mono,List.pairwise_singleton _ _,fun a ha b hb=>?_⟩
        simp only[cX,dN,dV] at hb
        subst hb
        obtain⟨h1,h2,h3,h4⟩:=h.ch a ha
        exact⟨h2,h3⟩
  · refine LA hp l { s with fresh:=s.fresh+26 } hl' ha (by simp only;omega) ⟨h.tnd,fun n hn=>?_,by simp only;omega,h.ch,h.mono⟩ hg (fun n u e=>(ho n u e).mono (by simp only;omega)) (hgo.mono (by simp only;omega))
    have:=h.tin n hn
    exact⟨⟨this.1.1,by simp only;omega⟩,this.2⟩
theorem IX.pop{p:List Cl}{M:Nat}{gl:List IG}{τ:Sub}{tr:List Int}{ds:List IC}{d:IC}{F nn:Nat}(h:IX p M ⟨gl,τ,tr,ds++ [d],F,nn⟩) :
 IX p M ⟨gl,τ.out (tr.drop d.fE),tr.take d.fE,ds,F,d.taken⟩∧F+26*pL ds+26*d.list.length≤M∧d.node<d.taken∧d.taken≤nn∧d.fE≤tr.length∧∀x∈d.list,x<p.length:=by
 obtain⟨h1,h2,h3,h4⟩:=h.ch d (by simp)
 have aYL:=h.phi
 simp only[Q7,aKV] at aYL
 have hm:=List.pairwise_append.1 h.mono
 have hnd:=h.tnd
 simp only at hnd h2 h3
 have hsp:tr.take d.fE++tr.drop d.fE=tr:=rY _ _
 rw[←hsp,tO] at hnd
 refine⟨⟨hnd.1,fun n hn=>?_,by simp only;omega,fun c hc=>?_,hm.1⟩,by omega,h1,h2,h3,h4⟩
 · have:=h.tin n (mC hn)
   refine⟨this.1,?_⟩
   simp only
   unfold Sub.out
   rw[aE (fun hd=>hnd.2.2 n hn n hd rfl)]
   exact this.2
 · obtain⟨g1,g2,g3,g4⟩:=h.ch c (by simp [hc])
   have:=hm.2.2 c hc d (by simp)
   exact⟨g1,this.1,by simp only[dS];simp only at g3;omega,g4⟩
theorem aKK{p:List Cl}(hp:∀c∈p,gE c){M:Nat}:∀(n:Nat) (cs:List RC) (i:IS),iO i.fresh cs i.chs i.σ i.tr→IX p M i→∀i',gR p n i=some i'→IX p M i'
 | 0,_,_,_,_,i',h=>by simp [gR] at h
 | n+1,cs,i,C,h,i',e=>by
  obtain⟨gl,τ,tr,ds,F,nn⟩:=i
  simp only at C
  cases C with
  | nil=>simp only[gR,List.getLast?_nil] at e;cases e
  | @snoc cs ds c d _ _ C h1 h2=>
   obtain⟨hP,hM,hnt,htn,htr,hli⟩:=h.pop
   have e3:(IS.pop ⟨gl,τ,tr,ds++ [d],F,nn⟩ d)=⟨gl,τ.out (tr.drop d.fE),tr.take d.fE,ds,F,d.taken⟩:=by simp only[IS.pop,IY]
   simp only[gR,NI,I2,Option.some_or,e3] at e
   obtain⟨ρ,S,e1,hok,hG,e2⟩:=h1
   have hX:=LA hp (rest:=d.rest) d.list _ hli (at':=d.node) (by simp only;exact hnt) (by simp only;exact hM) hP S.g2 S.o2 (e1▸S.A4 hok)
   split at e
   · cases e
     exact hX
   · rename_i hf
     have key:=MW hp (cs:=cs) (nn:=d.taken) (at':=d.node) (tr:=tr.take d.fE) hok hG c.left F gl S C
     rw[←e1,←e2] at key
     cases ht:gJ p cs c.goal c.rest c.σ c.N c.left with
     | some s=>
      rw[e2,ht] at key
      obtain⟨i2,k1,_⟩:=key
      rw[←e2] at k1
      rw[k1] at hf
      simp at hf
     | none=>
      rw[e2,ht] at key
      obtain⟨F',hF,k1⟩:=key
      rw[←e2] at k1
      rw[k1] at e hX
      exact aKK hp n cs _ (C.mono hF) hX i' e
end Go.AW
namespace Go.AW
open Go.Proofs.Tryz
def eM:List IG→AV
 | []=>.nilptr
 | ⟨.mk k n s ts,cut,up⟩::l=>.pptr (.agg [.int .i64 k,.int .i64 n,.str s,.slice (ts.map Tm.av),.int .i64 (cut:Int),.int .i64 up,eM l])
theorem sJ(k n:Int)(s:ByteArray)(ts:List Tm)(cut:Nat)(up:Int)(l:List IG):eM (⟨.mk k n s ts,cut,up⟩::l)=.pptr (.agg [.int .i64 k,.int .i64 n,.str s,.slice (ts.map Tm.av),.int .i64 (cut:Int),.int .i64 up,eM l]):=by rw[eM]
theorem pE(l:List IG):(eM l).isAgg=false∧(eM l).width=1∧(eM l).cF=false∧(eM l).cells= [eM l]∧(eM l).storable=true∧(eM l).soft=eM l:=by
 cases l with
 | nil=>rw[eM];exact⟨rfl,rfl,rfl,rfl,rfl,rfl⟩
 | cons g l=>obtain⟨⟨k,n,s,ts⟩,cut,up⟩:=g;rw[sJ];exact⟨rfl,rfl,rfl,rfl,rfl,rfl⟩
abbrev aNP:=zi tI_3 (zi zI_3 (zi aX (zi tI_31 (zi zI_31 (zi aN (zi bG (zi bH (zi b9 (zi tI_66 (zi zI_66 (zi bQ (zi bR (zi bS (zi bT (zi bP (zi tI_256 (zi zI_256 (zi tI_321 (zi zI_321 (zi aIG (zi aIH (zi aII (zi aIJ VJ)))))))))))))))))))))))
theorem OT(bd:List Tm)(cut:Nat)(up:Int)(rest:List IG)(hl:bd.length≤1048576)(st:aB) :
 aD prog 242 [.slice (bd.map Tm.av),.int .i64 (cut:Int),.int .i64 up,eM rest] st (fun r st'=>r=eM (bd.map (fun t=>(⟨t,cut,up⟩:IG))++rest)∧st'=st):=by
 obtain⟨r1,r2,r3,r4,r5,r6⟩:=pE rest
 refine aD.done ?_
 refine wF [1000000] 4 func242 ntmps242 rfl rfl ?_
 intro _
 have hw0:=bO (n:=(bd.length:Int) - 1)
 simp -implicitDefEqProofs only[aF,hw0,aA,seval,aNP]
 refine iE (σ:=Nat) [1000000] [0,1,2,8] (fun j=>j≤bd.length) (fun j=>[(3,eM ((bd.drop j).map (fun t=>(⟨t,cut,up⟩:IG))++rest)),(9,.int .i64 ((j:Int) - 1))]) (fun _=>st) (fun j=>j) (by decide +kernel) ⟨bd.length,c7 _,aO.mk (by simp -implicitDefEqProofs only[kK,aW,eR,aA,seval])⟩ ?_
 intro j hj
 cases j with
 | zero=>
  rw[qT]
  obtain⟨s1,s2,s3,s4,s5,s6⟩:=pE (bd.map (fun t=>(⟨t,cut,up⟩:IG))++rest)
  simp -implicitDefEqProofs only[vP,↓IW,List.contains,List.elem,↓reduceIte,reduceCtorEq,Nat.reduceEqDiff]
  refine aQ (fun h=>absurd h (by simp)) (fun h=>?_)
  simp -implicitDefEqProofs only[aA,seval]
  exact⟨s6,aM.refl _⟩
 | succ j=>
 obtain⟨s1,s2,s3,s4,s5,s6⟩:=pE ((bd.drop (j+1)).map (fun t=>(⟨t,cut,up⟩:IG))++rest)
 obtain⟨x,hx⟩:∃x,bd[j]?=some x:=⟨_,eE (by omega)⟩
 have hat:=bM (av:=Tm.av) (P:=prog) aN hx (aJ x)
 have hdr:bd.drop j=x::bd.drop (j+1):=by
  obtain⟨h1,h2⟩:=gP.1 hx
  rw[qS h1,h2]
 have hc:((j+1:Nat):Int) - 1=(j:Int):=by omega
 have hw:=bO (n:=(j:Int) - 1)
 have hnx:eM ((bd.drop j).map (fun t=>(⟨t,cut,up⟩:IG))++rest)=.pptr (.agg (x.av.cells++ [.int .i64 (cut:Int),.int .i64 up,eM ((bd.drop (j+1)).map (fun t=>(⟨t,cut,up⟩:IG))++rest)])):=by
  rw[hdr]
  obtain⟨k,n,s,ts⟩:=x
  rw[bA,fL,sJ,aV]
  try rfl
 generalize eM ((bd.drop (j+1)).map (fun t=>(⟨t,cut,up⟩:IG))++rest)=A at *
 obtain⟨k,n,s,ts⟩:=x
 simp only[aV] at hat hnx
 rw[hc]
 simp -implicitDefEqProofs only[aA,seval]
 refine aQ (fun h=>?_) (fun h=>absurd h (by simp))
 simp -implicitDefEqProofs only[s3,s4,hat,hw,aA,seval,aNP]
 trace_state
 refine⟨j,by omega,by omega,aO.mk (by rw[hnx];simp -implicitDefEqProofs only[aA,seval])⟩
theorem aRW(c:Int)(st:aB):aD prog 309 [.int .i64 c] st (fun r st'=>r=.int .i64 (oC c)∧st'=st):=by
 refine aD.done ?_
 refine wF [1000000] 1 func309 ntmps309 rfl rfl ?_
 intro _
 simp -implicitDefEqProofs only[aA,seval]
 unfold oC
 refine aQ (fun h=>?_) (fun h=>?_)
 · simp -implicitDefEqProofs only[aA,seval]
   have h':c=2:=by simpa using h
   exact⟨by rw[aH h'];try rfl,aM.refl _⟩
 rw[aE (show ¬c=2 by simpa using h)]
 simp -implicitDefEqProofs only[aA,seval]
 refine aQ (fun h=>?_) (fun h=>?_)
 · simp -implicitDefEqProofs only[aA,seval]
   have h':c=3:=by simpa using h
   exact⟨by rw[aH h'];try rfl,aM.refl _⟩
 rw[aE (show ¬c=3 by simpa using h)]
 simp -implicitDefEqProofs only[aA,seval]
 refine aQ (fun h=>?_) (fun h=>?_)
 · simp -implicitDefEqProofs only[aA,seval]
   have h':c=4:=by simpa using h
   exact⟨by rw[aH h'];try rfl,aM.refl _⟩
 rw[aE (show ¬c=4 by simpa using h)]
 simp -implicitDefEqProofs only[aA,seval]
 exact⟨rfl,aM.refl _⟩
abbrev a3Z:=zi tI_9 (zi zI_9 (zi cI (zi tI_31 (zi zI_31 (zi aN (zi bG (zi bH (zi b9 (zi tI_66 (zi zI_66 (zi bQ (zi bR (zi bS (zi bT (zi bP (zi tI_199 (zi zI_199 (zi PM (zi PN OA)))))))))))))))))))
theorem W7(k n:Int)(s:ByteArray)(ts:List Tm)(st:aB):aD prog 191 [(Tm.mk k n s ts).av] st (fun r st'=>r=.agg [.str s,.int .i64 (ts.length:Int)]∧st'=st):=by
 refine aD.done ?_
 simp only[aV]
 refine wF [1000000] 1 func191 ntmps191 rfl rfl ?_
 intro _
 simp -implicitDefEqProofs only[aK,aF,aA,seval,a3Z]
 intro b2 h2
 exact⟨by simp only[kO,j6,l8,bA,aW],(aM.refl _).aC h2⟩
abbrev H1:=zi tI_3 (zi zI_3 (zi aX (zi tI_29 (zi zI_29 (zi gW (zi kA (zi kB (zi lL (zi tI_46 (zi zI_46 (zi dH (zi fA (zi eX (zi fB (zi tI_66 (zi zI_66 (zi bQ (zi bR (zi bS (zi bT (zi bP (zi tI_84 (zi zI_84 (zi kV (zi kW (zi kU (zi tI_199 (zi zI_199 (zi PM (zi PN OA))))))))))))))))))))))))))))))
theorem aRT(p:List Cl)(t:Tm)(hp:p.length≤1048576)(st:aB):aD prog 190 [.slice (p.map bX),.agg [.str t.s,.int .i64 (t.ts.length:Int)]] st (fun r st'=>r=.slice ((d8 p t).map nv)∧st'=st):=by
 rw[KO]
 refine aD.done ?_
 obtain⟨tk,tn,ts',tts⟩:=t
 simp only[Tm.s,Tm.ts]
 refine wF [1000000] 2 func190 ntmps190 rfl rfl ?_
 intro _
 simp -implicitDefEqProofs only[aF,aA,seval,H1]
 refine rT (σ:=Unit) [1000000] [3,4,8,9] p 1 5 (fun i _=>((List.range i).filter (p8 p (.mk tk tn ts' tts))).map nv) (fun _ _=>True) (fun i _=>[(10,.int .i64 i)]) (fun _ _=>st) (fun i _ _ e he=>by simp only[cS] at he;obtain⟨t,_,rfl⟩:=he;exact⟨rfl,rfl⟩) (by decide +kernel) ⟨(),0,trivial,fun h=>absurd rfl h,aO.mk (by simp -implicitDefEqProofs only[jG,List.range_zero,List.filter_nil,aW,aA,↓aU,seval])⟩ (fun i x _ b hx hlt bV hdr hinv hb=>?_) (fun _ b hge hinv=>?_)
 case refine_2=>
  simp -implicitDefEqProofs only[hge,eG,iN,oD,zX,lV,aA,seval]
  exact⟨rfl,aM.refl _⟩
 have hw:=bO (n:=(i:Int)+1)
 have hst:=aI6 p (.mk tk tn ts' tts) i
 have hln:=KP p (.mk tk tn ts' tts) i
 have hat:=bM (av:=bX) (P:=prog) gW hx (nO x)
 obtain⟨⟨k,n,s',ts⟩,bd⟩:=x
 rw[fY] at hat
 have hP:p8 p (.mk tk tn ts' tts) i=(decide (s'=ts')&&decide ((ts.length:Int)=(tts.length:Int))):=by unfold p8;rw[hx];try rfl
 rw[hP] at hst
 have hpr:=fun st=>W7 k n s' ts st
 have aXQ:d9 prog .eql 199 (.agg [.str s',.int .i64 (ts.length:Int)]) (.agg [.str ts',.int .i64 (tts.length:Int)])=some (.bool (decide (s'=ts')&&decide ((ts.length:Int)=(tts.length:Int)))):=by
  have h:KE prog 199=true:=by kernel_rfl
  simp only[d9,h,and_self,gA]
 simp only[aV] at hpr
 simp -implicitDefEqProofs only[bV,hat,aA,↓aU,seval,H1]
 refine wP [(0,1),(1,2),(2,2),(3,2),(4,1)] [0,1,2,3,4] mixed ?_
 simp -implicitDefEqProofs only[aA,seval,H1]
 refine iD (hpr _) ?_
 simp -implicitDefEqProofs only[aXQ,aA,seval,H1]
 refine aQ (fun h2=>?_) (fun h2=>?_)
 · rw[aH h2] at hst
   simp -implicitDefEqProofs only[aA,seval,H1]
   refine eW dH fA eX rfl rfl (fM rfl rfl) (RF _) hb (by simp only[aF,aS,aZ];omega) (by simp only[aF,aS,aZ];omega) (fun b' hb'=>?_)
   rw[show ∀l:List Nat,l.map nv++ [AV.int .i64 (i:Int)]=(l++ [i]).map nv from fun l=>by simp [nv],←hst] at hb' ⊢
   simp -implicitDefEqProofs only[hw,aA,seval]
   exact⟨(),b',hb',aO.mk (by simp -implicitDefEqProofs only[aA,seval])⟩
 · rw[aE (by rw[h2];simp),g9] at hst
   rw[←hst] at hb ⊢
   simp -implicitDefEqProofs only[hw,aA,seval]
   exact⟨(),b,hb,aO.mk (by simp -implicitDefEqProofs only[aA,seval])⟩
end Go.AW
