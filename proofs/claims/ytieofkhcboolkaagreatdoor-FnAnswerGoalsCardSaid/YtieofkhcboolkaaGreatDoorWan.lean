import Derived.Test.YtieofkhcboolkaaGreatDoorWam
import Derived.Test.YtieofkhcboolkaaGreatDoorWal
import Derived.Test.YtieofkhcboolkaaGreatDoorWaf
import Derived.Test.YtieofkhcboolkaaGreatDoorWai
import Derived.Test.YtieofkhcboolkaaGreatDoorWak
set_option linter.unusedSimpArgs false
set_option linter.unusedVariables false
set_option maxRecDepth 100000
namespace Go.AW
open Go.Proofs.Tryz
theorem SS(k n:Int)(s:ByteArray)(ts:List Tm)(rest:List RG)(left:List Nat)(σ:Sub)(N:Nat):fT ⟨.mk k n s ts,rest,left,σ,N⟩=.agg [.int .i64 k,.int .i64 n,.str s,.slice (ts.map Tm.av),.slice (rest.map eU),.slice (left.map nv),.slice (cX N σ)]:=rfl
structure xJ (p:List Cl) (c:RC):Prop where
 gW:cS c.σ
 ok:cV (bG c.N) c.σ
 vV:∀n,¬(0≤n∧n<(c.N:Int))→c.σ n=none
 goal:bG c.N c.goal
 rest:∀g∈c.rest,bG c.N g.t∧g.t.k=3
 left:∀i∈c.left,i<p.length
 len:c.rest.length≤524288
 a2U:c.left.length≤1048576
structure pY (p:List Cl) (B:Nat) (s:RS):Prop where
 gW:cS s.σ
 ok:cV (bG s.N) s.σ
 vV:∀n,¬(0≤n∧n<(s.N:Int))→s.σ n=none
 goals:∀g∈s.goals,bG s.N g.t∧g.t.k=3
 pos:0<s.N
 hN:s.N≤B
 gl:s.goals.length≤B
 pD:s.chs.length≤B
 chs:∀c∈s.chs,xJ p c∧c.N+26≤B∧c.rest.length+26≤B∧0<c.N
theorem cV.upN{N M:Nat}{σ:Sub}(h:cV (bG N) σ)(hm:N≤M):cV (bG M) σ:=h.imp fun t ht=>ht.mono (by omega)
theorem aQ9{N k:Nat}{σ:Sub}(hd:∀n,¬(0≤n∧n<(N:Int))→σ n=none):cX N σ++List.replicate k zt=cX (N+k) σ:=by
 apply I4
 intro i
 have hl:=uB N σ
 by_cases hi:i<N
 · rw[UY (by omega),zX N σ hi,zX (N+k) σ (by omega)]
 · rw[UZ (by omega),hl]
   by_cases h2:i<N+k
   · rw[zX (N+k) σ h2,hd (i:Int) (fun h=>hi (by omega)),List.getElem?_replicate,aJ (by omega)]
     try rfl
   · rw[xF (by simp;omega),xF (by rw[uB];omega)]
theorem aQ3{N k b:Nat}{σ:Sub}(hd:∀n,¬(0≤n∧n<(N:Int))→σ n=none)(hN:N+k≤1048576){st:aB}{K:AV→aB→Prop}(hb:st b=none)
 (hK:∀b',st b'=none→K (.mslice b' 0 (N+k) 4) (st.aC b' (.cells ((cX (N+k) σ).flatMap AV.cells)))) :
 sN prog 34 3 (st.aC b (.cells ((cX N σ).flatMap AV.cells))) (.mslice b 0 N 4) (.int .i64 (k:Int)) K:=by
 have hu:prog.underlying 3=some (.int .i64):=by kernel_rfl
 have hl:((cX N σ).flatMap AV.cells).length=N*4:=by rw[pE (fun e he=>(WN N σ e he).1),uB]
 have mM:((cX N σ).flatMap AV.cells).take (N*4)++jX [AV.int .i64 0,.int .i64 0,.str ⟨#[]⟩,.fslice []] k=(cX (N+k) σ).flatMap AV.cells:=by
  rw[←hl,dW,aLQ _ (by simp),←aQ9 hd,zH,List.flatMap_replicate]
  try rfl
 unfold sN
 simp only[a8,fW,fX,hu,aB.aO,kX]
 refine⟨rfl,by omega,rfl,by omega,trivial,by omega,by omega,by omega,?_,fun b' hb'=>?_⟩
 · rw[mM,cY]
   exact hK b hb
 · rw[mM,aB.vX st b _ hb]
   refine hK b' ?_
   by_cases h:b'=b
   · subst h;exact hb
   · rwa [aB.aM _ _ h] at hb'
theorem aPE{st s2 V:aB}{o' o6:AO}{b6 b11 b13 b14 b:Nat}{L A:List AV}(hD:aL s2 st)(hA:s2 b11=some (.cells (A.flatMap AV.cells)))(h11:st b11=none)(h6:st b6=none)(h62:s2 b6≠none)(aJ3:b6≠b11)(h13:s2 b13=none)(h14:s2 b14=none)
 (hV:∀q,q≠b13→q≠b14→V q=s2 q) (K3:V b13≠none) (DF:V b14≠none) (hb:L≠[]→V b=none) (hne:A≠[]) :
 aL (((a7 V b L).aC b13 o').aC b6 o6) (a7 (a7 st b11 A) b L)∧(L≠[]→(a7 st b11 A) b=none):=by
 have aKD:b13≠b11:=by rintro rfl;rw[h13] at hA;cases hA
 have aZ3:b14≠b11:=by rintro rfl;rw[h14] at hA;cases hA
 have K0:b13≠b6:=by rintro rfl;exact h62 h13
 have n13:st b13=none:=(hD b13).1 h13
 have n14:st b14=none:=(hD b14).1 h14
 rw[jR hne]
 have hbb:L≠[]→b≠b13∧b≠b11∧b≠b6∧b≠b14∧s2 b=none:=fun h=>by
  have h0:=hb h
  have e13:b≠b13:=by rintro rfl;exact K3 h0
  have e14:b≠b14:=by rintro rfl;exact DF h0
  rw[hV b e13 e14] at h0
  exact⟨e13,(by rintro rfl;rw[h0] at hA;cases hA),(by rintro rfl;exact h62 h0),e14,h0⟩
 refine⟨fun q=>?_,fun h=>?_⟩
 · by_cases q6:q=b6
   · subst q6
     have:a7 (st.aC b11 (.cells (A.flatMap AV.cells))) b L q=none:=by
      by_cases hL:L= []
      · subst hL;simp only[a7];rw[aB.aM _ _ aJ3,h6]
      · obtain⟨_,_,e6,_⟩:=hbb hL
        rw[jR hL,aB.aM _ _ (c7 e6),aB.aM _ _ aJ3,h6]
     rw[this];simp
   rw[aB.aM _ _ q6]
   by_cases q13:q=b13
   · subst q13
     have:a7 (st.aC b11 (.cells (A.flatMap AV.cells))) b L q=none:=by
      by_cases hL:L= []
      · subst hL;simp only[a7];rw[aB.aM _ _ aKD,n13]
      · obtain⟨e13,_⟩:=hbb hL
        rw[jR hL,aB.aM _ _ (c7 e13),aB.aM _ _ aKD,n13]
     rw[this];simp
   rw[aB.aM _ _ q13]
   have rest:q≠b∨L= []→(V q=none→st.aC b11 (.cells (A.flatMap AV.cells)) q=none)∧∀o,st.aC b11 (.cells (A.flatMap AV.cells)) q=some o→V q=some o:=fun _=>by
    by_cases q14:q=b14
    · subst q14
      rw[aB.aM _ _ aZ3,n14]
      simp
    rw[hV q q13 q14]
    by_cases q11:q=b11
    · subst q11;rw[aB.aO,hA];simp
    rw[aB.aM _ _ q11]
    exact hD q
   by_cases hL:L= []
   · subst hL
     exact rest (.inr rfl)
   · rw[jR hL,jR hL]
     by_cases qb:q=b
     · subst qb;rw[aB.aO,aB.aO];simp
     rw[aB.aM _ _ qb,aB.aM _ _ qb]
     exact rest (.inl qb)
 · obtain⟨e13,e11,e6,e14,h0⟩:=hbb h
   rw[aB.aM _ _ e11]
   exact(hD b).1 h0
theorem CN{st:aB}{b q:Nat}{l:List AV}{o:AO}(hb:l≠[]→st b=none)(h:st q=some o):a7 st b l q=some o:=by
 cases l with
 | nil=>exact h
 | cons x l=>
  rw[jR (by simp),aB.aM _ _ (by rintro rfl;rw[hb (by simp)] at h;cases h)]
  exact h
theorem aJN{b b' o n w:Nat}{l:List AV}(h:l≠[]→b'≠b):(AV.mslice b' o n w).fin b l=.mslice b' o n w:=by
 unfold AV.fin
 cases l with
 | nil=>rfl
 | cons x l=>
  simp only[List.isEmpty_cons,gE,d5]
  cases o with
  | zero=>simp only[AV.fz];rw[aF (fun e=>h (by simp) e.1)];try rfl
  | succ o=>rfl
theorem KT{b N:Nat}{σ:Sub}(h0:0<N):(AV.mslice b 0 N 4).fin b (cX N σ)=.slice (cX N σ):=by
 have hl:=uB N σ
 have h:cX N σ≠[]:=by intro e;rw[e] at hl;simp at hl;omega
 have:bE 4 b (cX N σ)=.mslice b 0 N 4:=by rw[pA h,hl]
 rw[←this,iJ]
theorem a4L(l:List RC):∀e∈l.map fT,e.cE=false:=by intro e he;simp only[cI] at he;obtain⟨t,_,rfl⟩:=he;exact a4J t
theorem a4M(l:List RC):∀e∈l.map fT,e.width=7:=by intro e he;simp only[cI] at he;obtain⟨t,_,rfl⟩:=he;exact L3 t
theorem aNE{φ:AF}{d i:Nat}{l:List Nat}(hi:i+1<l.length)(h:φ d=.int .i64 ((i:Int)+1)):gZ prog φ 26 (.slice (l.map nv)) (some (.tmp d)) none none=some (.slice ((l.drop (i+1)).map nv)):=by
 have he:φ.eval (.tmp d)=.int .i64 ((i:Int)+1):=h
 have hb:dY φ (some (.tmp d)) 0 l.length=some (i+1):=by
  simp only[dY,he]
  rw[aJ (by omega)]
  congr 1
 have hwo:BT (l.map nv) (i+1) 1=true:=by
  unfold BT
  rw[mD,eN hi]
  try rfl
 unfold gZ
 rw[aF (by simp [qP])]
 simp only[oF,g7]
 rw[aF (by simp)]
 simp only[dY] at hb ⊢
 have ht:List.take l.length (l.map nv)=l.map nv:=lC (by simp)
 simp only[aE,hb,hwo,or_true,gB,ht]
 simp [E6]
abbrev sC:=zi aX (zi bZ (zi fA (zi k9 (zi bS (zi bQ (zi IB (zi TY (zi ID (zi mB T0)))))))))
theorem YA(p:List Cl)(hp:∀c∈p,gF c∧c.2.length≤6)(gs0:List RG)(σ0:List AV)(cs:List RC)(c:RC)(hc:xJ p c)(h0:0<c.N)(hN:c.N≤524288)(hcl:cs.length≤524288)(st:aB) :
 aD prog 228 [.slice (p.map bX),.agg [.slice (gs0.map eU),.slice σ0,.slice (cs.map fT)],fT c] st (fun r st'=>st'=st∧r=match iS p cs c.goal c.rest c.σ c.N c.left with
  | some s=>.tup [oS s,.bool true]
  | none=>.tup [.agg [.slice (gs0.map eU),.slice σ0,.slice (cs.map fT)],.bool false]):=by
 obtain⟨goal,rest,left,σ,N⟩:=c
 obtain⟨hg,ho,hd,hgo,hr,hle,hrl,hll⟩:=hc
 simp only at hg ho hd hgo hr hle hrl hll h0 hN
 obtain⟨gk,gn,gs',gts⟩:=goal
 rw[SS]
 refine aD.fin (aD.fin (aD.mL ?_))
 refine wF [1000000,13] 3 func228 ntmps228 rfl rfl ?_
 intro _
 simp only[aA,seval,sC]
 intro b6 h6
 generalize hW:st.aC b6 (.cells [.fslice [],.fslice [],.fslice []])=W
 have hW6:W b6=some (.cells [.fslice [],.fslice [],.fslice []]):=by rw[←hW];exact aB.aO _ _ _
 have hDW:aL W st:=by rw[←hW];exact(aL.refl _).aC h6
 refine dV (σ:=Unit) [1000000] [0,4,5,6] left (fun i _=>iS p cs (.mk gk gn gs' gts) rest σ N (left.drop i)=iS p cs (.mk gk gn gs' gts) rest σ N left) (fun i _=>[(7,.bool false),(8,.int .i64 i)]) (fun _ _=>W) (by decide +kernel) ⟨(),rfl,aN.mk (by simp only[aA,↓aR,seval])⟩ (fun i x _ hx hlt bH hdr hinv=>?_) (fun _ hge hinv=>?_)
 case refine_2=>
  simp only[hge,aK,hW6,aE,aA,seval,sC]
  refine⟨st,?_,0,[],st,rfl,by simp,by simp,⟨0,by simp⟩,0,[],st,rfl,by simp,by simp,⟨0,by simp⟩,rfl,?_⟩
  · intro z
    have:=hDW z
    by_cases hz:z=b6
    · subst hz;simp [aB.aC,h6]
    · rw[aB.aM _ _ hz];exact this
  · rw[←hinv,j4]
    simp only[fO,jS,nV,gV,aZ,aV,iS]
 have hw:=bL (n:=(i:Int)+1)
 have hxl:=hle x (cD hx)
 obtain⟨cl,hcx⟩:∃cl,p[x]?=some cl:=⟨_,eN hxl⟩
 obtain⟨tA,qK⟩:=hp cl (cD hcx)
 rw[hdr,iS.eq_def] at hinv
 simp only[hcx] at hinv
 have hat:c9 prog 26 (.slice (left.map nv)) (.int .i64 (i:Int))=some (.pptr (.int .i64 (x:Int))):=bD (av:=nv) g7 hx rfl
 have AJ:=bD (av:=bX) (P:=prog) qD hcx (oG cl)
 have hcf:=aUT cl tA qK
 obtain⟨⟨k,n,s',ts⟩,bd⟩:=cl
 rw[gN] at AJ hcf
 simp only at hinv
 simp only[bH,aE,uB,hat,AJ,aA,↓aR,seval,sC]
 refine wX [(0,1),(1,1),(2,1),(4,1),(3,0),(5,0),(6,0),(7,1)] [0,1,2,4,7] eR mixed rfl fN ?_
 simp only[aA,seval,sC]
 have hfr:=tA.fr.1
 have hHd:=tA.dE N (.mk k n s' ts) (by simp)
 have hBd:=fun t ht=>(tA.D1 t (List.mem_cons_of_mem _ ht))
 refine OG h0 (by omega) σ fun b hb hA0=>?_
 simp only[aA,seval]
 refine⟨fN,?_⟩
 refine(hcf _).to ?_
 simp only[aA,seval]
 refine⟨fN,?_⟩
 refine aQ3 hd (by omega) hb fun b11 h11=>?_
 simp only[aA,seval]
 refine⟨fN,?_⟩
 have hA:=(show fL (N+oI (.mk k n s' ts,bd)) (W.aC b11 (.cells ((cX (N+oI (.mk k n s' ts,bd)) σ).flatMap AV.cells))) b11 σ from aB.aO _ _ _)
 have hDT:aL (W.aC b11 (.cells ((cX (N+oI (.mk k n s' ts,bd)) σ).flatMap AV.cells))) W:=(aL.refl _).aC h11
 have hh:=tA.head
 generalize oI (.mk k n s' ts,bd)=fr at *
 generalize W.aC b11 (.cells ((cX (N+fr) σ).flatMap AV.cells))=T at *
 have hsh:Tm.sh (N:Int) (.mk k n s' ts)=dE N (.mk k n s' ts):=aM5 N (by omega) _ hh.1
 have hcs:=OY (N:Int) (.mk k n s' ts)
 rw[hsh] at hcs
 have hun:=FX (N:=N+fr) (by omega) hg (ho.upN (by omega)) (.mk gk gn gs' gts) (dE N (.mk k n s' ts)) (hgo.mono (by omega)) hHd b11
 generalize dE N (.mk k n s' ts)=y at *
 obtain⟨yk,yn,ys,yt⟩:=y
 refine wX [(0,1),(1,1),(2,1),(3,1),(4,1),(6,1),(5,0),(7,0),(8,1)] [0,1,2,3,4,6,8] eR mixed rfl fN ?_
 simp only[aA,seval,sC]
 have hsm:=hh.1.small
 simp only[aU] at hun hcs ⊢
 refine(hcs _ hsm).to ?_
 simp only[aA,seval]
 refine⟨fN,?_⟩
 refine(hun _ hA).mono ?_
 rintro _ s2 ⟨rfl,hA2,hk2⟩
 simp only[aA,seval]
 refine⟨fN,?_⟩
 generalize jE σ (.mk gk gn gs' gts) (.mk yk yn ys yt)=u at *
 obtain⟨r,σ',tr⟩:=u
 simp only at hinv hA2 ⊢
 have K4:W b11=none:=h11
 have hDs:aL s2 W:=by
  intro q
  have key:∀o,W q=some o→s2 q=some o:=fun o h=>hk2 q o ((hDT q).2 o h) (by rintro rfl;rw[K4] at h;cases h)
  refine⟨fun h=>?_,key⟩
  cases hq:W q with
  | none=>rfl
  | some o=>rw[key o hq] at h;cases h
 refine aP (fun h=>?_) (fun h=>?_)
 · have hr:r=false:=by simpa using h
   rw[aF (by rw[hr];simp)] at hinv
   simp only[hw,aA,seval]
   exact⟨(),hinv,aN.drop hDs (by simp only[aA,seval])⟩
 have hr':r=true:=by simpa using h
 rw[aJ hr'] at hinv
 have hg9:=X6 bd N cs.length rest hBd qK (by omega) (by omega)
 generalize hgs:bd.map (fun t=>(⟨dE N t,cs.length⟩:RG))++rest=gs2 at *
 simp only[aE,aA,seval,sC]
 refine wP [(0,1),(1,1),(3,1),(5,1),(6,1),(7,1),(2,2),(4,2),(8,2),(9,1),(10,1),(11,0),(12,0)] [0,1,3,5,6,7,2,4,8,9,10] mixed ?_
 simp only[aA,seval,sC]
 refine O8 hg9 ?_
 simp only[aK,aE,hw,aA,seval,sC]
 intro b13 h13
 have aZP:b13≠b11:=by rintro rfl;rw[fL,h13] at hA2;cases hA2
 have h62:s2 b6≠none:=by rw[(hDs b6).2 _ hW6];simp
 have K0:b6≠b13:=by rintro rfl;exact h62 h13
 have aJ2:b6≠b11:=by rintro rfl;rw[hW6] at K4;cases K4
 have LF:st b11=none:=(hDW b11).1 K4
 have aJ6:=(hDs b6).2 _ hW6
 have hNf:0<N+fr:=by omega
 have oK:cX (N+fr) σ'≠[]:=by intro e;have:=uB (N+fr) σ';rw[e] at this;simp at this;omega
 refine aP (fun h=>?_) (fun h=>?_)
 · have h':i+1<left.length:=by simp at h;omega
   have hsl:=fun(φ:AF) (d:Nat) (h:φ d=.int .i64 ((i:Int)+1))=>aNE h' h
   simp only[aA,seval]
   refine wP [(0,1),(2,1),(4,1),(6,1),(7,1),(9,1),(1,2),(3,2),(5,2),(8,1),(10,2),(11,1),(12,0),(13,0)] [0,2,4,6,7,9,1,3,5,8,10,11] mixed ?_
   simp only[aK,hsl,hw,aA,seval,sC]
   intro b14 h14
   have aKW:b14≠b13:=by rintro rfl;rw[aB.aO] at h14;cases h14
   have P6:s2 b14=none:=by rw[aB.aM _ _ aKW] at h14;exact h14
   have aZQ:b6≠b14:=by rintro rfl;exact h62 P6
   generalize hV:(s2.aC b13 (AO.cells [AV.slice (gs2.map eU),AV.mslice b11 0 (N+fr) 4,AV.slice (cs.map fT)])).aC b14 (.cells [.int .i64 gk,.int .i64 gn,.str gs',.slice (gts.map Tm.av),.slice (rest.map eU),.slice ((left.drop (i+1)).map nv),.slice (cX N σ)])=V
   have DF:V b14=some (.cells [.int .i64 gk,.int .i64 gn,.str gs',.slice (gts.map Tm.av),.slice (rest.map eU),.slice ((left.drop (i+1)).map nv),.slice (cX N σ)]):=by rw[←hV];exact aB.aO _ _ _
   have K3:V b13=some (AO.cells [AV.slice (gs2.map eU),AV.mslice b11 0 (N+fr) 4,AV.slice (cs.map fT)]):=by rw[←hV,aB.aM _ _ (c7 aKW)];exact aB.aO _ _ _
   have hV6:V b6=some (.cells [.fslice [],.fslice [],.fslice []]):=by rw[←hV,aB.aM _ _ aZQ,aB.aM _ _ K0];exact aJ6
   have hVq:∀q,q≠b13→q≠b14→V q=s2 q:=fun q e1 e2=>by rw[←hV,aB.aM _ _ e2,aB.aM _ _ e1]
   refine wX [(0,1),(1,1),(2,1),(4,1),(5,1),(3,0),(6,0),(7,1),(8,2)] [0,1,2,4,5,7] (one b14 (.cells [.int .i64 gk,.int .i64 gn,.str gs',.slice (gts.map Tm.av),.slice (rest.map eU),.slice ((left.drop (i+1)).map nv),.slice (cX N σ)])) mixed rfl (fY DF) ?_
   simp only[qT,aA,seval,sC]
   have hlc:(cs.map fT).length=cs.length:=aE _
   refine eD (P:=prog) (b:=0) (l:=[]) (xs:=cs.map fT) C8 PN PQ rfl rfl (by intro e he;simp only[cI] at he;obtain⟨t,_,rfl⟩:=he;exact⟨L3 t,a4K t⟩) (by simp) (by simp) (by simp only[aW,hlc];omega) (by simp only[aW,hlc];omega) (fun b15 h15=>?_)
   rw[eL] at h15 ⊢
   simp only[aA,seval]
   refine⟨fY (CN h15 DF),?_⟩
   refine eD (P:=prog) (b:=b15) (l:=cs.map fT) (xs:=[fT ⟨.mk gk gn gs' gts,rest,left.drop (i+1),σ,N⟩]) C8 PN PQ rfl rfl (eO rfl rfl) (by intro e he;simp only[cI] at he;obtain⟨t,_,rfl⟩:=he;exact L3 t) h15 (by simp only[aS,aW,hlc];omega) (by simp only[aS,aW,hlc];omega) (fun b16 h16=>?_)
   rw[show(cs.map fT)++ [fT ⟨.mk gk gn gs' gts,rest,left.drop (i+1),σ,N⟩]=(cs++ [(⟨.mk gk gn gs' gts,rest,left.drop (i+1),σ,N⟩:RC)]).map fT by simp] at h16 ⊢
   have g13:=CN h16 K3
   have g14:=CN h16 DF
   have g6:=CN h16 hV6
   have hdn:left.drop (i+1)≠[]:=by intro e;have:=fE List.length e;simp at this;omega
   rw[aF hdn] at hinv
   generalize hLL:cs++ [(⟨.mk gk gn gs' gts,rest,left.drop (i+1),σ,N⟩:RC)]=LL at *
   have E:=aPE (o':=.cells [AV.slice (gs2.map eU),AV.mslice b11 0 (N+fr) 4,bE 7 b16 (LL.map fT)]) (o6:=.cells [AV.slice (gs2.map eU),AV.mslice b11 0 (N+fr) 4,bE 7 b16 (LL.map fT)]) (hDs.trans hDW) hA2 LF h6 h62 aJ2 h13 P6 hVq (by rw[K3];simp) (by rw[DF];simp) h16 oK
   simp only[aK,K0,g13,g6,eT,lR,aA,seval,sC]
   have hms:LL.map fT≠[]→b11≠b16:=by rintro h rfl;have:=h16 h;rw[hVq b11 (c7 aZP) (by rintro rfl;rw[fL,P6] at hA2;cases hA2),hA2] at this;cases this
   refine⟨fY g14,_,E.1,b16,LL.map fT,_,rfl,fun h=>E.2 (by simpa using h),a4L LL,⟨7,a4M LL⟩,b11,cX (N+fr) σ',st,rfl,fun _=>LF,FT _ _,⟨4,CS _ _⟩,rfl,?_⟩
   rw[←hinv]
   simp only[fO,jS,nV,gV,kF,aZ,aV,aJN hms,KT hNf]
   rfl
 · have h':left.drop (i+1)= []:=B2 (by simp at h;omega)
   have E:=aPE (o6:=.cells [AV.slice (gs2.map eU),AV.mslice b11 0 (N+fr) 4,AV.slice (cs.map fT)]) (o':=.cells [AV.slice (gs2.map eU),AV.mslice b11 0 (N+fr) 4,AV.slice (cs.map fT)]) (b:=0) (L:=[]) (hDs.trans hDW) hA2 LF h6 h62 aJ2 h13 h13 (fun q h _=>aB.aM s2 (.cells [AV.slice (gs2.map eU),AV.mslice b11 0 (N+fr) 4,AV.slice (cs.map fT)]) h) (by rw[aB.aO];simp) (by rw[aB.aO];simp) (by simp) oK
   simp only[aK,K0,aJ6,aB.aO,aA,seval,sC]
   rw[aJ h'] at hinv
   have E1:=E.1
   simp only[a7,cY] at E1
   refine⟨_,E1,0,[],_,rfl,by simp,by simp,⟨0,by simp⟩,b11,cX (N+fr) σ',st,rfl,fun _=>LF,FT _ _,⟨4,CS _ _⟩,rfl,?_⟩
   rw[←hinv]
   simp only[fO,jS,nV,gV,aZ,aV,aJN (l:=[]) (fun h=>absurd rfl h),KT hNf]
   rfl
theorem SQ{p:List Cl}(hp:∀c∈p,gF c∧c.2.length≤6){B:Nat}(hB:B≤524288){cs:List RC}{goal:Tm}{rest:List RG}{σ:Sub}{N:Nat}(hg:cS σ)(ho:cV (bG N) σ)(hd:∀n,¬(0≤n∧n<(N:Int))→σ n=none)
 (hgo:bG N goal) (hr:∀g∈rest,bG N g.t∧g.t.k=3) (h0:0<N) (hN:N+26≤B) (hrl:rest.length+26≤B) (hcl:cs.length+1≤B) (hcs:∀c∈cs,xJ p c∧c.N+26≤B∧c.rest.length+26≤B∧0<c.N) :
 ∀(left:List Nat),(∀i∈left,i<p.length)→left.length≤1048576→∀s,iS p cs goal rest σ N left=some s→pY p B s
 | [],_,_,s,h=>by simp [iS] at h
 | i::l,hle,hll,s,h=>by
  have hil:=hle i (by simp)
  obtain⟨x,hx⟩:∃x,p[i]?=some x:=⟨_,eN hil⟩
  obtain⟨hX,h6⟩:=hp x (cD hx)
  have hl':∀j∈l,j<p.length:=fun j hj=>hle j (by simp [hj])
  rw[iS.eq_def] at h
  simp only[hx] at h
  split at h
  case isFalse=>exact SQ hp hB hg ho hd hgo hr h0 hN hrl hcl hcs l hl' (by simp at hll;omega) s h
  cases h
  have hfr:=hX.fr.1
  have hsh:=hX.dE N
  obtain⟨r,σ',tr,U⟩:=tS (N:=N+oI x) hg (ho.upN (by omega)) (hgo.mono (by omega)) (hsh x.1 (by simp))
  rw[U.eq]
  have S:=U.wS
  refine⟨S.gW,S.ok,fun n hn=>?_,?_,by simp only;omega,by simp only;omega,?_,?_,?_⟩
  · simp only at hn ⊢
    rw[S.bB n (fun h=>hn (S.gC n h))]
    exact hd n (fun h=>hn (by omega))
  · intro g hg'
    simp only[fQ,cI] at hg'
    rcases hg' with ⟨t,ht,rfl⟩ | hg'
    · exact⟨hsh t (List.mem_cons_of_mem _ ht),by rw[aM8];exact(hX.body t ht).2⟩
    · exact⟨(hr g hg').1.mono (by simp only;omega),(hr g hg').2⟩
  · simp only[dM,aE];omega
  · simp only
    split
    · omega
    · simp only[dM,aS,aW];omega
  · simp only
    split
    · exact hcs
    · intro c hc
      rcases fQ.1 hc with hc | hc
      · exact hcs c hc
      · simp only[c8,dP,dX] at hc
        subst hc
        exact⟨⟨hg,ho,hd,hgo,hr,hl',by simp only;omega,by simp only;simp at hll;omega⟩,hN,hrl,h0⟩
theorem a4I(p:List Cl)(chs:List RC):gY p chs.length chs=match chs.getLast? with
 | none=>none
 | some c=>match iS p chs.dropLast c.goal c.rest c.σ c.N c.left with
  | some s=>some s
  | none=>gY p chs.dropLast.length chs.dropLast:=by
 cases chs with
 | nil=>rfl
 | cons c l=>
  rw[aS,gY]
  have:(c::l).dropLast.length=l.length:=by simp
  rw[this]
  try rfl
theorem aMN{p:List Cl}(hp:∀c∈p,gF c∧c.2.length≤6){B:Nat}(hB:B≤524288):∀(n:Nat) (chs:List RC),chs.length≤B→(∀c∈chs,xJ p c∧c.N+26≤B∧c.rest.length+26≤B∧0<c.N)→∀s,gY p n chs=some s→pY p B s
 | 0,_,_,_,s,h=>by simp [gY] at h
 | n+1,chs,hl,hc,s,h=>by
  rw[gY] at h
  split at h
  · cases h
  · rename_i c uN
    have hm:=NU uN
    have hne:chs≠[]:=by rintro rfl;simp at hm
    have hdl:chs.dropLast.length+1=chs.length:=by
     have:=NS.2 hne
     simp;omega
    have hcd:∀c∈chs.dropLast,xJ p c∧c.N+26≤B∧c.rest.length+26≤B∧0<c.N:=fun c h=>hc c (NQ _ h)
    obtain⟨k,h1,h2,h3⟩:=hc c hm
    split at h
    · rename_i s' hs
      cases h
      exact SQ hp hB k.gW k.ok k.vV k.goal k.rest h3 h1 h2 (by omega) hcd c.left k.left k.a2U s hs
    · exact aMN hp hB n _ (by omega) hcd s h
theorem pY.up{p:List Cl}{B C:Nat}{s:RS}(h:pY p B s)(hC:B≤C):pY p C s:=
 ⟨h.gW,h.ok,h.vV,h.goals,h.pos,by have:=h.hN;omega,by have:=h.gl;omega,by have:=h.pD;omega,fun c hc=>by
  obtain⟨h1,h2,h3,h4⟩:=h.chs c hc
  exact⟨h1,by omega,by omega,h4⟩⟩
theorem pY.back{p:List Cl}(hp:∀c∈p,gF c∧c.2.length≤6){B:Nat}(hB:B≤524288){s s':RS}(h:pY p B s)(e:gY p s.chs.length s.chs=some s'):pY p B s':=
 aMN hp hB _ _ h.pD h.chs s' e
theorem KV{N:Nat}{σ:Sub}(hg:cS σ)(ho:cV (bG N) σ){t:Tm}(ht:bG N t)(hf:eW (t.aG (rs σ))=true):bG N (t.aG (rs σ)):=by
 obtain⟨rk,B,G⟩:=hg.rs
 unfold eW at hf
 simp only[cB,bO] at hf
 exact⟨ht.1.aG fun v hv=>G.lY ho.lY v (ht.1.2.2 v hv).1 (ht.1.2.2 v hv).2,hf.2⟩
theorem pY.step{p:List Cl}(hp:∀c∈p,gF c∧c.2.length≤6)(hpl:p.length≤1048576){B:Nat}(hB:B+26≤524288){cnd:Tm→List Nat→List Nat}(hc:∀t l,(∀i∈cnd t l,i∈l)∧(cnd t l).length≤l.length){s s':RS}{g:RG}{rest:List RG}(hgs:s.goals=g::rest)(h:pY p B s)
 (e:k6 p cnd s g rest=.go s'):pY p (B+26) s':=by
 have hgm:g∈s.goals:=by rw[hgs];simp
 have hrm:∀x∈rest,x∈s.goals:=fun x hx=>by rw[hgs];simp [hx]
 have hgl:=h.gl
 rw[hgs,aS] at hgl
 have hU:=h.up (C:=B+26) (by omega)
 unfold k6 at e
 split at e
 · cases e
 rename_i fF
 have QQ:eW (g.t.aG (rs s.σ))=true:=by simpa using fF
 have hok:=KV h.gW h.ok (h.goals g hgm).1 QQ
 generalize g.t.aG (rs s.σ)=t at *
 split at e
 · cases e
   exact⟨hU.gW,hU.ok,hU.vV,fun x hx=>hU.goals x (hrm x hx),hU.pos,hU.hN,by simp only;omega,by simp only[dC];have:=hU.pD;omega,fun c hc=>hU.chs c (lB hc)⟩
 split at e
 · split at e
   · cases e
     have S:=L7 h.gW h.ok t.s t.ts fun x hx=>by
      obtain⟨k,n,s',ts⟩:=t
      by_cases hk:k=1
      · obtain⟨_,_,_,h2⟩:=(show cM s.N (.mk 1 n s' ts) from hk▸hok.1).var
        simp only[Tm.ts] at hx
        rw[h2] at hx;cases hx
      · exact qS _ (.mk k n s' ts) hk hok x hx
     exact⟨S.gW,S.ok,fun n hn=>by simp only at hn ⊢;rw[S.bB n (fun h=>hn (S.gC n h))];exact hU.vV n hn,fun x hx=>hU.goals x (hrm x hx),hU.pos,hU.hN,by simp only;omega,hU.pD,hU.chs⟩
   · split at e<;>cases e
 split at e
 · cases e
 split at e
 case h_2=>cases e
 rename_i s2 hs
 cases e
 obtain⟨c1,c2⟩:=hc t (eP p t)
 have hfl:(eP p t).length≤p.length:=by rw[KW];exact KX p t p.length
 refine SQ hp (by omega) h.gW h.ok h.vV hok (fun x hx=>h.goals x (hrm x hx)) h.pos (by have:=h.hN;omega) (by omega) (by have:=h.pD;omega) hU.chs _ (fun i hi=>?_) (by omega) s' hs
 have:=c1 i hi
 unfold eP at this
 have:=(List.mem_filter.1 this).1
 exact vC.1 this
def nO(n:Nat)(l:List RG):Prop:=l.Pairwise (fun a b=>b.bB≤a.bB)∧∀g∈l,g.bB≤n
theorem nO.up{n m:Nat}{l:List RG}(h:nO n l)(hm:n≤m):nO m l:=⟨h.1,fun g hg=>jP (h.2 g hg) hm⟩
theorem nO.tail{n:Nat}{g:RG}{l:List RG}(h:nO n (g::l)):nO n l∧nO g.bB l:=by
 obtain⟨h1,h2⟩:=h
 rw[List.pairwise_cons] at h1
 exact⟨⟨h1.2,fun x hx=>h2 x (by simp [hx])⟩,h1.2,h1.1⟩
theorem nO.body{n:Nat}{l:List RG}(h:nO n l)(f:Tm→Tm)(bd:List Tm):nO n (bd.map (fun t=>(⟨f t,n⟩:RG))++l):=by
 refine⟨List.pairwise_append.2 ⟨?_,h.1,fun a ha b hb=>?_⟩,fun g hg=>?_⟩
 · rw[List.pairwise_map]
   exact List.pairwise_of_forall fun _ _=>cZ _
 · obtain⟨t,_,rfl⟩:=cI.1 ha
   exact h.2 b hb
 · rcases fQ.1 hg with hg | hg
   · obtain⟨t,_,rfl⟩:=cI.1 hg
     exact cZ _
   · exact h.2 g hg
structure zN (s:RS):Prop where
 goals:nO s.chs.length s.goals
 chs:∀i c,s.chs[i]?=some c→nO i c.rest
theorem SO{p:List Cl}{cs:List RC}{goal:Tm}{rest:List RG}{σ:Sub}{N:Nat}(hr:nO cs.length rest)(hc:∀i c,cs[i]?=some c→nO i c.rest) :
 ∀(left:List Nat) s,iS p cs goal rest σ N left=some s→zN s
 | [],s,h=>by simp [iS] at h
 | i::l,s,h=>by
  rw[iS.eq_def] at h
  simp only at h
  split at h
  · cases h
  rename_i x hx
  split at h
  case isFalse=>exact SO hr hc l s h
  cases h
  have hb:=hr.body (dE N) x.2
  refine⟨?_,?_⟩
  · simp only
    split
    · exact hb
    · exact hb.up (by simp)
  · simp only
    intro j c hj
    split at hj
    · exact hc j c hj
    · rw[List.getElem?_append] at hj
      split at hj
      · exact hc j c hj
      · rename_i hlt
        have hj0:j - cs.length=0:=by
         have:=(gS.1 hj).1
         simp at this;omega
        rw[hj0] at hj
        simp only[E5,Option.some.injEq] at hj
        subst hj
        exact hr.up (by omega)
theorem aML{p:List Cl}:∀(n:Nat) (chs:List RC),(∀i c,chs[i]?=some c→nO i c.rest)→∀s,gY p n chs=some s→zN s
 | 0,_,_,s,h=>by simp [gY] at h
 | n+1,chs,hc,s,h=>by
  rw[gY] at h
  split at h
  · cases h
  · rename_i c uN
    have hd:∀i c,chs.dropLast[i]?=some c→nO i c.rest:=fun i c hi=>hc i c (by
     rw[List.dropLast_eq_take,List.getElem?_take] at hi
     split at hi
     · exact hi
     · cases hi)
    rw[U3] at uN
    have hk:=hc _ _ uN
    split at h
    · rename_i s' hs
      cases h
      exact SO (by rw[List.length_dropLast];exact hk) hd _ s hs
    · exact aML n _ hd s h
theorem zN.step{p:List Cl}{cnd:Tm→List Nat→List Nat}{s s':RS}{g:RG}{rest:List RG}(hgs:s.goals=g::rest)(h:zN s)(e:k6 p cnd s g rest=.go s'):zN s':=by
 have hg:=h.goals
 rw[hgs] at hg
 obtain⟨h1,h2⟩:=hg.tail
 have h3:=hg.2 g (by simp)
 unfold k6 at e
 split at e
 · cases e
 split at e
 · cases e
   refine⟨?_,fun i c hi=>?_⟩
   · simp only[dC]
     exact h2.up (by omega)
   · simp only[List.getElem?_take] at hi
     split at hi
     · exact h.chs i c hi
     · cases hi
 split at e
 · split at e
   · cases e
     exact⟨h1,h.chs⟩
   · split at e<;>cases e
 split at e
 · cases e
 split at e
 case h_2=>cases e
 rename_i s2 hs
 cases e
 exact SO h1 h.chs _ s' hs
def B8(s:RS):Prop:=26≤s.N∧∀c∈s.chs,26≤c.N
theorem SP{p:List Cl}{cs:List RC}{goal:Tm}{rest:List RG}{σ:Sub}{N:Nat}(hN:26≤N)(hc:∀c∈cs,26≤c.N) :
 ∀(left:List Nat) s,iS p cs goal rest σ N left=some s→B8 s
 | [],s,h=>by simp [iS] at h
 | i::l,s,h=>by
  rw[iS.eq_def] at h
  simp only at h
  split at h
  · cases h
  rename_i x hx
  split at h
  case isFalse=>exact SP hN hc l s h
  cases h
  refine⟨by simp only;omega,?_⟩
  simp only
  split
  · exact hc
  · intro c h
    rcases fQ.1 h with h | h
    · exact hc c h
    · simp only[c8,dP,dX] at h
      subst h;exact hN
theorem aMM{p:List Cl}:∀(n:Nat) (chs:List RC),(∀c∈chs,26≤c.N)→∀s,gY p n chs=some s→B8 s
 | 0,_,_,s,h=>by simp [gY] at h
 | n+1,chs,hc,s,h=>by
  rw[gY] at h
  split at h
  · cases h
  · rename_i c uN
    have hd:∀c∈chs.dropLast,26≤c.N:=fun c h=>hc c (NQ _ h)
    split at h
    · rename_i s' hs
      cases h
      exact SP (hc c (NU uN)) hd _ s hs
    · exact aMM n _ hd s h
theorem B8.step{p:List Cl}{cnd:Tm→List Nat→List Nat}{s s':RS}{g:RG}{rest:List RG}(h:B8 s)(e:k6 p cnd s g rest=.go s'):B8 s':=by
 unfold k6 at e
 split at e
 · cases e
 split at e
 · cases e
   exact⟨h.1,fun c hc=>h.2 c (lB hc)⟩
 split at e
 · split at e
   · cases e
     exact h
   · split at e<;>cases e
 split at e
 · cases e
 split at e
 case h_2=>cases e
 rename_i s2 hs
 cases e
 exact SP h.1 h.2 _ s' hs
structure lF (p:List Cl) (B:Nat) (s:RS):Prop where
 a:pY p B s
 k:zN s
 l:B8 s
theorem lF.step{p:List Cl}(hp:∀c∈p,gF c∧c.2.length≤6)(hpl:p.length≤1048576){B:Nat}(hB:B+26≤524288){cnd:Tm→List Nat→List Nat}(hc:∀t l,(∀i∈cnd t l,i∈l)∧(cnd t l).length≤l.length){s s':RS}{g:RG}{rest:List RG}(hgs:s.goals=g::rest)(h:lF p B s)
 (e:k6 p cnd s g rest=.go s'):lF p (B+26) s':=⟨h.a.step hp hpl hB hc hgs e,h.k.step hgs e,h.l.step e⟩
theorem lF.back{p:List Cl}(hp:∀c∈p,gF c∧c.2.length≤6){B:Nat}(hB:B≤524288){s s':RS}(h:lF p B s)(e:gY p s.chs.length s.chs=some s'):lF p B s':=
 ⟨h.a.back hp hB e,aML _ _ h.k.chs s' e,aMM _ _ h.l.2 s' e⟩
theorem lF.up{p:List Cl}{B C:Nat}{s:RS}(h:lF p B s)(hC:B≤C):lF p C s:=⟨h.a.up hC,h.k,h.l⟩
theorem lF.start{p:List Cl}{q:List Tm}(hq:∀t∈q,bG 26 t∧t.k=3)(h6:q.length≤6):lF p 26 (lJ q):=by
 refine⟨⟨cS.none,fun n u h=>(by cases h),fun n _=>rfl,?_,(by show 0<26;omega),cZ _,?_,jH _,fun c hc=>(by cases hc)⟩,⟨⟨?_,?_⟩,fun i c hi=>(by cases hi)⟩,⟨cZ _,fun c hc=>(by cases hc)⟩⟩
 · intro g hg
   simp only[lJ,cI] at hg
   obtain⟨t,ht,rfl⟩:=hg
   exact hq t ht
 · simp only[lJ,aE];omega
 · simp only[lJ,List.pairwise_map]
   exact List.pairwise_of_forall fun _ _=>cZ _
 · intro g hg
   simp only[lJ,cI] at hg
   obtain⟨t,ht,rfl⟩:=hg
   exact jH _
theorem aND{φ:AF}{t:TypeId}{ag:Bool}{w d k:Nat}{es:List AV}(hI:eI prog t=some (ag,w))(h:φ d=.int .i64 (k:Int))(hk:k≤es.length):gZ prog φ t (.slice es) none (some (.tmp d)) none=some (.slice (es.take k)):=by
 have he:φ.eval (.tmp d)=.int .i64 (k:Int):=h
 unfold gZ
 rw[aF (by simp [qP])]
 simp only[oF,hI]
 rw[aF (by simp)]
 simp only[dY,he]
 rw[aJ (by omega)]
 simp
def JA(a:AV):Prop:=(∃l,a=.slice l)∨a=.fslice []
theorem JA.facts{a:AV}(h:JA a):a.isAgg=false∧a.width=1∧a.cE=false∧a.cells= [a]∧a.storable=true∧∃l,a.soft=.slice l:=by
 rcases h with ⟨l,rfl⟩ | rfl
 · exact⟨rfl,rfl,rfl,rfl,rfl,l,rfl⟩
 · exact⟨rfl,rfl,rfl,rfl,rfl,[],rfl⟩
abbrev uW:=zi aX (zi bZ (zi k9 (zi TY (zi ID T0))))
theorem X4{p:List Cl}(hp:∀c∈p,gF c∧c.2.length≤6){B:Nat}(hB:B≤524288)(gs0:List RG)(σ0:List AV)(chs:List RC)(hl:chs.length≤B)(hc:∀c∈chs,xJ p c∧c.N+26≤B∧c.rest.length+26≤B∧0<c.N)(st:aB) :
 aD prog 137 [.slice (p.map bX),.agg [.slice (gs0.map eU),.slice σ0,.slice (chs.map fT)]] st (fun r st'=>st'=st∧match gY p chs.length chs with
  | some s=>r=.tup [oS s,.bool true]
  | none=>∃l1 l2 l3,r=.tup [.agg [.slice l1,.slice l2,.slice l3],.bool false]):=by
 refine aD.mL (aD.soft ?_)
 refine wF [1000000,3] 2 func137 ntmps137 rfl rfl ?_
 intro _
 simp only[aA,seval,uW]
 intro b3 h3 b4 h4
 have hne:b4≠b3:=by rintro rfl;rw[aB.aO] at h4;cases h4
 have Q3:st b4=none:=by rw[aB.aM _ _ hne] at h4;exact h4
 rw[aB.n9 _ _ _ (c7 hne)]
 generalize hW:st.aC b4 (.cells [.fslice [],.fslice [],.fslice []])=W
 have hW4:W b4=some (.cells [.fslice [],.fslice [],.fslice []]):=by rw[←hW];exact aB.aO _ _ _
 have hW3:W b3=none:=by rw[←hW,aB.aM _ _ (c7 hne)];exact h3
 have hDW:∀o o',aL ((W.aC b3 o).aC b4 o') st:=fun o o' q=>by
  by_cases q4:q=b4
  · subst q4;rw[aB.aO,Q3];simp
  rw[aB.aM _ _ q4]
  by_cases q3:q=b3
  · subst q3;rw[aB.aO,h3];simp
  rw[aB.aM _ _ q3,←hW,aB.aM _ _ q4]
  simp
 have a9Y:b3≠b4:=c7 hne
 refine iG (σ:=List RC×AV×AV) [1000000,3] [0,3,4] (fun s=>s.1.length≤B∧(∀c∈s.1,xJ p c∧c.N+26≤B∧c.rest.length+26≤B∧0<c.N)∧JA s.2.1∧JA s.2.2∧gY p s.1.length s.1=gY p chs.length chs) (fun s=>[(5,.bool false)]) (fun s=>W.aC b3 (.cells [s.2.1,s.2.2,.slice (s.1.map fT)])) (fun s=>s.1.length) (by decide +kernel) ⟨(chs,.slice (gs0.map eU),.slice σ0),⟨hl,hc,.inl ⟨_,rfl⟩,.inl ⟨_,rfl⟩,rfl⟩,aN.mk (by simp only[aA,seval])⟩ ?_
 rintro⟨l,a,b⟩ ⟨hl1,hlc,ha,hb,hinv⟩
 simp only at hl1 hlc ha hb hinv
 obtain⟨a1,a2,a3,a4,a5,la,a6⟩:=ha.facts
 obtain⟨b1,b2,b3',b4',b5,lb,b6⟩:=hb.facts
 simp only
 rw[a4I] at hinv
 by_cases AM:l= []
 · subst AM
   simp only[List.getLast?_nil] at hinv
   simp only[aB.aO,vY,List.contains,List.elem,sH,iA,sub,↓reduceIte,reduceCtorEq,Nat.reduceEqDiff,uW]
   refine aP (fun h=>absurd h (by decide)) (fun h=>?_)
   simp only[aK,hne,aB.aO,hW4,a5,b5,aA,seval,uW]
   rw[←hinv]
   exact⟨st,hDW _ _,rfl,la,lb,[],by simp only[jC,iT,oT,nG,aZ,aV,a6,b6]⟩
 obtain⟨c,uN⟩:∃c,l.getLast?=some c:=by
  cases h:l.getLast? with
  | none=>exact absurd (List.getLast?_eq_none_iff.1 h) AM
  | some c=>exact⟨c,rfl⟩
 have hlp:=NS.2 AM
 have hcm:=NU uN
 obtain⟨aZ9,hcN,hcr,hc0⟩:=hlc c hcm
 rw[uN] at hinv
 simp only at hinv
 have hat:=bD (av:=fT) (P:=prog) (l:=l) (i:=l.length - 1) (x:=c) C8 (by rw[←U3];exact uN) (L3 c)
 rw[show(((l.length - 1:Nat):Int))=(l.length:Int) - 1 by omega] at hat
 have hw:=bL (n:=(l.length:Int) - 1)
 have hdl:l.dropLast=l.take (l.length - 1):=List.dropLast_eq_take
 have a9R:l.dropLast.length+1=l.length:=by simp;omega
 have hct:=YA p hp [] [] l.dropLast c aZ9 hc0 (by omega) (by omega)
 have hcs:=fun(φ:AF) (d:Nat) (h:φ d=.int .i64 ((l.length:Int) - 1))=>aND (es:=l.map fT) (k:=l.length - 1) C8 (h.trans (by congr 1;omega)) (by simp)
 rw[←E7,←hdl] at hcs
 generalize hx:iS p l.dropLast c.goal c.rest c.σ c.N c.left=x at hinv hct
 obtain⟨⟨ck,cn,cs',cts⟩,Y6,Y5,cσ,cN⟩:=c
 rw[SS] at hct hat
 simp only[aV] at hct
 simp only[aE,aB.aO,aA,seval,uW]
 refine aP (fun h=>?_) (fun h=>absurd hlp (by simpa using h))
 simp only[aE,aB.aO,hw,hat,aA,↓aR,seval,uW]
 cases x with
 | none=>
  have LB:∀st,aD prog 228 [.slice (p.map bX),.agg [.fslice [],.fslice [],.slice (l.dropLast.map fT)],.agg [.int .i64 ck,.int .i64 cn,.str cs',.slice (cts.map Tm.av),.slice (Y6.map eU),.slice (Y5.map nv),.slice (cX cN cσ)]] st (fun r st'=>r=.tup [.agg [.slice [],.slice [],.slice (l.dropLast.map fT)],.bool false]∧st'=st):=fun st=>
   aD.pQ ((hct st).mono fun _ _ h=>⟨h.2,h.1⟩)
  simp only at hinv
  refine wP [(0,1),(1,1),(3,1),(2,2),(4,1),(5,1),(6,2),(7,1),(8,1),(9,1),(10,1),(11,0),(12,0),(13,1)] [0,1,3,2,4,5,6,7,8,9,10,13] mixed ?_
  simp only[aB.aO,hcs,aA,seval,uW]
  refine O8 LB ?_
  simp only[aK,aB.aO,aA,seval,uW]
  intro b8 h8
  have h83:b8≠b3:=by rintro rfl;rw[aB.aO] at h8;cases h8
  rw[aB.aM _ _ h83] at h8
  have h84:b8≠b4:=by rintro rfl;rw[hW4] at h8;cases h8
  have hs8:st b8=none:=by rw[←hW,aB.aM _ _ h84] at h8;exact h8
  have h38:=c7 h83
  have h48:=c7 h84
  simp only[aK,h38,aB.aO,hcs,aA,seval,uW]
  refine⟨(l.dropLast,.fslice [],.fslice []),by simp only;omega,⟨by simp only;omega,fun c h=>hlc c (NQ _ h),.inr rfl,.inr rfl,hinv⟩,aN.drop (fun q=>?_) (by simp only[aA,seval])⟩
  by_cases q3:q=b3
  · subst q3;rw[aB.aO,aB.aO];simp
  rw[aB.aM _ _ q3,aB.aM _ _ q3]
  by_cases q8:q=b8
  · subst q8;rw[aB.aO,h8];simp
  rw[aB.aM _ _ q8,aB.aM _ _ q3]
  simp
 | some s=>
  have LB:∀st,aD prog 228 [.slice (p.map bX),.agg [.fslice [],.fslice [],.slice (l.dropLast.map fT)],.agg [.int .i64 ck,.int .i64 cn,.str cs',.slice (cts.map Tm.av),.slice (Y6.map eU),.slice (Y5.map nv),.slice (cX cN cσ)]] st (fun r st'=>r=.tup [oS s,.bool true]∧st'=st):=fun st=>
   aD.pQ ((hct st).mono fun _ _ h=>⟨h.2,h.1⟩)
  simp only at hinv
  simp only[oS] at LB
  refine wP [(0,1),(1,1),(3,1),(2,2),(4,1),(5,1),(6,2),(7,1),(8,1),(9,1),(10,1),(11,0),(12,0),(13,1)] [0,1,3,2,4,5,6,7,8,9,10,13] mixed ?_
  simp only[aB.aO,hcs,aA,seval,uW]
  refine O8 LB ?_
  simp only[aK,aB.aO,aA,seval,uW]
  intro b8 h8
  have h83:b8≠b3:=by rintro rfl;rw[aB.aO] at h8;cases h8
  rw[aB.aM _ _ h83] at h8
  have h84:b8≠b4:=by rintro rfl;rw[hW4] at h8;cases h8
  have hs8:st b8=none:=by rw[←hW,aB.aM _ _ h84] at h8;exact h8
  have h38:=c7 h83
  have h48:=c7 h84
  simp only[hne,h48,hW4,aA,seval]
  refine⟨st,?_,rfl,?_⟩
  · have d1:aL W st:=by rw[←hW];exact(aL.refl _).aC Q3
    exact((d1.aC h3).aC hs8).aC Q3
  · rw[←hinv]
    simp only[jC,iT,oT,nG,aZ,aV]
    rfl
theorem a5K{φ:AF}{t:TypeId}{ag:Bool}{w:Nat}{y:Operand}{e:AV}{es:List AV}(hI:eI prog t=some (ag,w))(h:φ.eval y=.int .i64 1)(hw:∀x∈es,x.width=w):gZ prog φ t (.slice (e::es)) (some y) none none=some (.slice es):=by
 have hwo:BT (e::es) 1 w=true:=by
  unfold BT
  rw[E4]
  split
  · rename_i x hx
    simp [hw x (cD hx)]
  · rfl
 unfold gZ
 rw[aF (by simp [qP])]
 simp only[oF,hI]
 rw[aF (by simp)]
 simp only[dY,h]
 rw[aJ (by constructor<;>simp<;>omega)]
 simp [hwo]
theorem aUS(c:Int)(st:aB):aD prog 227 [.int .i64 c] st (fun r st'=>r=.int .i64 (rV c)∧st'=st):=by
 refine aD.done ?_
 refine wF [1000000] 1 func227 ntmps227 rfl rfl ?_
 intro _
 simp only[aA,seval]
 unfold rV
 refine aP (fun h=>?_) (fun h=>?_)
 · simp only[aA,seval]
   have h':c=2:=by simpa using h
   exact⟨by rw[aJ h'];try rfl,aL.refl _⟩
 rw[aF (show ¬c=2 by simpa using h)]
 simp only[aA,seval]
 refine aP (fun h=>?_) (fun h=>?_)
 · simp only[aA,seval]
   have h':c=3:=by simpa using h
   exact⟨by rw[aJ h'];try rfl,aL.refl _⟩
 rw[aF (show ¬c=3 by simpa using h)]
 simp only[aA,seval]
 refine aP (fun h=>?_) (fun h=>?_)
 · simp only[aA,seval]
   have h':c=4:=by simpa using h
   exact⟨by rw[aJ h'];try rfl,aL.refl _⟩
 rw[aF (show ¬c=4 by simpa using h)]
 simp only[aA,seval]
 exact⟨rfl,aL.refl _⟩
def t6(s0:RS)(x:RO)(r:AV):Prop:=match x with
 | .go s=>r=.tup [oS s,.int .i64 (-1)]
 | .fail=>r=.tup [oS s0,.int .i64 (-2)]
 | .stop e=>0≤e∧∃l1 l2 l3,r=.tup [.agg [.slice l1,.slice l2,.slice l3],.int .i64 e]
abbrev nK:=zi IF (zi aX (zi bZ (zi cJ (zi fA (zi k9 (zi bS (zi bQ (zi IB (zi TY (zi ID (zi aOS T0)))))))))))
theorem aU0{p:List Cl}(hp:∀c∈p,gF c∧c.2.length≤6)(hpl:p.length≤1048576){B:Nat}(hB:B+26≤524288)(goals:List RG)(σ:Sub)(N:Nat)(chs:List RC)(g:RG)(rest:List RG)(hgs:goals=g::rest)(h:pY p B ⟨goals,σ,N,chs⟩)(hK:zN ⟨goals,σ,N,chs⟩)(st:aB) :
 aD prog 136 [.slice (p.map bX),.agg [.slice (goals.map eU),.slice (cX N σ),.slice (chs.map fT)]] st (fun r st'=>st'=st∧t6 ⟨goals,σ,N,chs⟩ (k6 p (fun _ l=>l) ⟨goals,σ,N,chs⟩ g rest) r):=by
 subst hgs
 obtain⟨hg,ho,hd,hgo,h0,hN,hgl,hcl,hch⟩:=h
 simp only at hg ho hd hgo h0 hN hgl hcl hch
 obtain⟨hgx,hg3⟩:=hgo g (by simp)
 have DM:∀x∈rest,bG N x.t∧x.t.k=3:=fun x hx=>hgo x (by simp [hx])
 have hkp:=hK.goals.2 g (by simp)
 simp only at hkp
 have hsm:=X9 hg ho g.t hgx
 have hyk:(g.t.aG (rs σ)).k=3:=by rw[Tm.qR _ (by omega)];exact hg3
 have hfo:=KV hg ho hgx
 generalize hR:k6 p (fun _ l=>l) ⟨g::rest,σ,N,chs⟩ g rest=R
 unfold k6 at hR
 dsimp only at hR
 obtain⟨⟨gk,gn,gs',gts⟩,bB⟩:=g
 simp only at hgx hg3 hkp hsm hyk hfo
 dsimp only at hR
 generalize (Tm.mk gk gn gs' gts).aG (rs σ)=y at *
 obtain⟨yk,yn,ys,yts⟩:=y
 obtain rfl:yk=3:=hyk
 have hat:c9 prog 158 (.slice ((⟨.mk gk gn gs' gts,bB⟩::rest).map eU)) (.int .i64 0)=some (.pptr (eU ⟨.mk gk gn gs' gts,bB⟩)):=bD (av:=eU) (l:=⟨.mk gk gn gs' gts,bB⟩::rest) (i:=0) GA rfl (EB _)
 have hs1:=fun(φ:AF) (y:Operand) (h:φ.eval y=.int .i64 1)=>a5K (e:=eU ⟨.mk gk gn gs' gts,bB⟩) (es:=rest.map eU) GA h (by intro e he;simp only[cI] at he;obtain⟨t,_,rfl⟩:=he;exact EB t)
 rw[aZ,BC] at hat
 rw[BC] at hs1
 rw[aZ,BC]
 simp only[aU] at hsm
 refine aD.fin (aD.mL ?_)
 refine wF [1000000] 2 func136 ntmps136 rfl rfl ?_
 intro _
 simp only[aS,hat,hs1,aA,↓aR,seval,nK]
 intro b4 h4
 refine(hsm _).mono ?_
 rintro _ _ ⟨rfl,x,rfl,hx⟩
 generalize fF:eW (.mk 3 yn ys yts)=fit at *
 have uI:∀(o:AO) (r:AV) (x:RO),t6 ⟨⟨.mk gk gn gs' gts,bB⟩::rest,σ,N,chs⟩ x (r.fin 0 [])→∃s2,aL (st.aC b4 o) s2∧∃b l s0,s2=a7 s0 b l∧(l≠[]→s0 b=none)∧(∀e∈l,e.cE=false)∧iI l∧s0=st∧t6 ⟨⟨.mk gk gn gs' gts,bB⟩::rest,σ,N,chs⟩ x (r.fin b l):=fun o r x hr=>
  ⟨st,(aL.refl _).aC h4,0,[],st,rfl,by simp,by simp,⟨0,by simp⟩,rfl,hr⟩
 simp only[aS,aH,bT,cC,aA,↓aR,seval,nK]
 refine aP (fun h=>?_) (fun h=>?_)
 · have h':fit=false:=by simpa using h
   subst h'
   rw[aJ rfl] at hR
   subst hR
   simp only[aK,aS,aA,seval,nK]
   exact uI _ _ _ ⟨by decide,_,_,_,by simp only[fO,jS,dZ,gV,aZ,aV];rfl⟩
 obtain rfl:fit=true:=by simpa using h
 obtain rfl:=hx rfl
 simp only[aU]
 have hyo:=hfo rfl
 rw[aF (by simp)] at hR
 have yA:∀st,aD prog 225 [.agg [.int .i64 3,.int .i64 yn,.str ys,.slice (yts.map Tm.av)]] st (fun r st'=>r=.bool (rR (.mk 3 yn ys yts))∧st'=st):=fun st=>by
  have:=X0 3 yn ys yts st
  rw[aU] at this
  exact this
 have hbi:=fun st=>O5 ys (yts.length:Int) st
 have aKN:=fun st=>aUE p (.mk 3 yn ys yts) hpl st
 have aK2:=fun hb=>aSC (N:=N) h0 (by omega) hg ho yn ys yts hb (qS N (.mk 3 yn ys yts) (by show(3:Int)≠1;decide) hyo)
 have htr:=YA p hp
 simp only[aU] at aKN aK2
 replace hR:(if rR (.mk 3 yn ys yts)=true then RO.go ⟨rest,σ,N,chs.take bB⟩ else if isBuiltin ys (yts.length:Int)=true then(if(dD σ ys yts).1=0 then RO.go ⟨rest,(dD σ ys yts).2.1,N,chs⟩ else if(dD σ ys yts).1=1 then RO.fail else RO.stop (rV (dD σ ys yts).1)) else if eP p (.mk 3 yn ys yts)= [] then RO.stop 8 else match iS p chs (.mk 3 yn ys yts) rest σ N (eP p (.mk 3 yn ys yts)) with | some s'=>RO.go s' | none=>RO.fail)=R:=hR
 generalize hcu:rR (.mk 3 yn ys yts)=cu at *
 have hs2:=fun(φ:AF) (d:Nat) (h:φ d=.int .i64 (bB:Int))=>aND (es:=chs.map fT) (k:=bB) C8 h (by simpa using hkp)
 rw[←E7] at hs2
 refine(yA _).to ?_
 simp only[aA,seval]
 refine aP (fun h=>?_) (fun h=>?_)
 · rw[aJ h] at hR
   subst h hR
   simp only[aA,seval]
   refine wP [(0,1),(1,1),(3,1),(5,1),(2,2),(4,2),(6,2),(7,1),(8,1),(9,0),(10,1)] [0,1,3,5,2,4,6,7,8,10] mixed ?_
   simp only[aK,aS,hs2,aA,seval,nK]
   exact uI _ _ _ (by simp only[fO,jS,dZ,gV,aZ,aV];rfl)
 rw[aF (by rw[h];simp)] at hR
 subst h
 simp only[aE,aA,seval,nK]
 refine(hbi _).to ?_
 simp only[aA,seval]
 refine aP (fun h=>?_) (fun h=>?_)
 · have DO:=aK2 h
   rw[aJ h] at hR
   simp only[aA,seval,nK]
   refine OG h0 (by omega) σ fun b hb hA0=>?_
   have hst:=aL.aC (aL.refl st) (o:=.cells [.fslice [],.fslice [],.fslice []]) h4
   generalize hW:st.aC b4 (.cells [.fslice [],.fslice [],.fslice []])=W at *
   have hW4:W b4=some (.cells [.fslice [],.fslice [],.fslice []]):=by rw[←hW];exact aB.aO _ _ _
   have hT:aL (W.aC b (.cells ((cX N σ).flatMap AV.cells))) W:=(aL.refl _).aC hb
   generalize W.aC b (.cells ((cX N σ).flatMap AV.cells))=T at *
   have hb4:b≠b4:=by rintro rfl;rw[hW4] at hb;cases hb
   simp only[aS,aA,seval,nK]
   refine(DO b _ hA0).mono ?_
   rintro _ s2 ⟨rfl,hA,hk2⟩
   have aZ8:=a5S σ ys yts
   generalize dD σ ys yts=S at *
   obtain⟨c,σ',tr⟩:=S
   simp only at hA aZ8 ⊢
   dsimp only at hR
   have hDs:aL s2 W:=by
    intro q
    have key:∀o,W q=some o→s2 q=some o:=fun o h=>hk2 q o ((hT q).2 o h) (by rintro rfl;rw[hb] at h;cases h)
    refine⟨fun h=>?_,key⟩
    cases hq:W q with
    | none=>rfl
    | some o=>rw[key o hq] at h;cases h
   have Q2:=(hDs b4).2 _ hW4
   have a1N:st b=none:=by rw[←hW,aB.aM _ _ hb4] at hb;exact hb
   have aJL:∀(o:AO) (r:AV) (x:RO),t6 ⟨⟨.mk gk gn gs' gts,bB⟩::rest,σ,N,chs⟩ x (r.fin 0 [])→∃s3,aL (s2.aC b4 o) s3∧∃b l s0,s3=a7 s0 b l∧(l≠[]→s0 b=none)∧(∀e∈l,e.cE=false)∧iI l∧s0=st∧t6 ⟨⟨.mk gk gn gs' gts,bB⟩::rest,σ,N,chs⟩ x (r.fin b l):=fun o r x hr=>
    ⟨st,(hDs.trans hst).aC h4,0,[],st,rfl,by simp,by simp,⟨0,by simp⟩,rfl,hr⟩
   simp only[aA,seval]
   refine aP (fun h=>?_) (fun h=>?_)
   · have hc0:c=0:=by simpa using h
     subst hc0
     rw[aJ rfl] at hR
     subst hR
     simp only[aK,aS,Q2,aA,seval,nK]
     have oK:cX N σ'≠[]:=by intro e;have:=uB N σ';rw[e] at this;simp at this;omega
     refine⟨st.aC b (.cells ((cX N σ').flatMap AV.cells)),fun q=>?_,b,cX N σ',st,by rw[jR oK],fun _=>a1N,FT _ _,⟨4,CS _ _⟩,rfl,?_⟩
     · by_cases q4:q=b4
       · subst q4;rw[aB.aO,aB.aM _ _ (c7 hb4),h4];simp
       rw[aB.aM _ _ q4]
       by_cases qb:q=b
       · subst qb;rw[aB.aO,show s2 q=_ from hA];simp
       rw[aB.aM _ _ qb]
       exact(hDs.trans hst) q
     · simp only[fO,jS,dZ,gV,aZ,aV,KT h0]
       rfl
   have hc0:c≠0:=by simpa using h
   rw[aF hc0] at hR
   simp only[aA,seval]
   refine aP (fun h=>?_) (fun h=>?_)
   · have hc1:c=1:=by simpa using h
     subst hc1
     rw[aJ rfl] at hR
     subst hR
     simp only[aK,aS,Q2,aA,seval,nK]
     exact aJL _ _ _ (by simp only[t6,oS,aZ,BC];simp only[fO,jS,dZ,gV,aZ,aV])
   have hc1:c≠1:=by simpa using h
   rw[aF hc1] at hR
   subst hR
   have iR:0≤rV c:=by unfold rV;split;omega;split;omega;split;omega;omega
   simp only[aA,seval]
   refine wP [(1,1),(0,2),(2,2),(3,0),(4,1)] [1,0,2,4] mixed ?_
   simp only[aS,aA,seval,nK]
   refine fK (aUS c _) ?_
   simp only[aK,aS,Q2,aA,seval,nK]
   exact aJL _ _ _ ⟨iR,_,_,_,by simp only[fO,jS,dZ,gV,aZ,aV];rfl⟩
 rw[aF (by rw[h];simp)] at hR
 simp only[aS,aA,seval,nK]
 refine(aKN _).to ?_
 have hcx:xJ p ⟨.mk 3 yn ys yts,rest,eP p (.mk 3 yn ys yts),σ,N⟩:=⟨hg,ho,hd,hyo,DM,fun i hi=>by
  unfold eP at hi
  exact vC.1 (List.mem_filter.1 hi).1,by simp only;simp only[aS] at hgl;omega,by
  have:=KX p (.mk 3 yn ys yts) p.length
  rw[←KW] at this
  simp only;omega⟩
 have DQ:=fun st=>htr (⟨.mk gk gn gs' gts,bB⟩::rest) (cX N σ) chs _ hcx h0 (by simp only;omega) (by omega) st
 rw[aZ,BC,SS] at DQ
 simp only at DQ
 generalize eP p (.mk 3 yn ys yts)=left at *
 simp only[aE,aA,seval,nK]
 refine aP (fun h=>?_) (fun h=>?_)
 · have h':left= []:=by
    have:(left.length:Int)=0:=by simpa using h
    exact rH (by omega)
   rw[aJ h'] at hR
   subst hR
   simp only[aK,aS,aA,seval,nK]
   exact uI _ _ _ ⟨by decide,_,_,_,by simp only[fO,jS,dZ,gV,aZ,aV];rfl⟩
 have h':left≠[]:=by
  rintro rfl
  simp at h
 rw[aF h'] at hR
 generalize iS p chs (.mk 3 yn ys yts) rest σ N left=x at *
 simp only[aS,aA,seval,nK]
 cases x with
 | none=>
  simp only at hR DQ
  subst hR
  refine(DQ _).mono ?_
  rintro _ _ ⟨rfl,rfl⟩
  simp only[aK,aS,aA,↓aR,seval,nK]
  exact uI _ _ _ (by simp only[t6,oS,aZ,BC];simp only[fO,jS,dZ,gV,aZ,aV])
 | some s=>
  simp only[oS] at hR DQ
  subst hR
  refine(DQ _).mono ?_
  rintro _ _ ⟨rfl,rfl⟩
  simp only[aK,aS,aA,↓aR,seval,nK]
  exact uI _ _ _ (by simp only[fO,jS,dZ,gV,aZ,aV];rfl)
theorem a5E{N:Int}{t:Tm}(h:cM N t):dE 0 t=t:=by
 have h1:dE 0 t=t.aG vr:=by
  unfold dE bV
  congr 1
  funext v
  congr 1
  simp
 rw[h1,G8 t h.2.1]
theorem WO(N:Nat):cX N Sub.none=List.replicate N zt:=by
 apply I4
 intro i
 by_cases h:i<N
 · rw[zX N _ h,List.getElem?_replicate,aJ h];try rfl
 · rw[xF (by rw[uB];omega),xF (by simp;omega)]
abbrev TL:=zi aX (zi bS (zi IB ID))
theorem aUZ(q:List Tm)(hq:∀t∈q,bG 26 t)(h6:q.length≤6)(st:aB):aD prog 134 [.slice (q.map Tm.av)] st (fun r st'=>r=oS (lJ q)∧st'=st):=by
 have hgo:∀st,aD prog 222 [.slice (q.map Tm.av),.int .i64 0,.int .i64 0,.fslice []] st (fun r st'=>r=.slice ((lJ q).goals.map eU)∧st'=st):=fun st=>
  aD.pQ ((X6 q 0 0 [] hq h6 (by omega) (by simp) st).mono fun _ _ h=>⟨by
   rw[h.1]
   unfold lJ
   rw[iB]
   congr 2
   exact pW fun t ht=>by rw[a5E (hq t ht).1],h.2⟩)
 refine aD.oH (aD.fin (aD.mL ?_))
 refine wF [1000000,3] 1 func134 ntmps134 rfl rfl ?_
 intro _
 simp only[aA,seval,TL]
 intro b2 h2
 simp only[xN,aK,vY,↓KO,↓I3,List.contains,List.elem,zB,pT,rD,↓reduceIte,reduceCtorEq,Nat.reduceEqDiff,Nat.reduceAdd,Nat.reduceLT,Nat.reduceBEq,TL]
 refine⟨by omega,by omega,by omega,fun bb hbb=>?_⟩
 rw[show Int.toNat 26=26 from rfl,aLQ _ (by simp)]
 have hb2:bb≠b2:=by rintro rfl;rw[aB.aO] at hbb;cases hbb
 have LA:(List.replicate 26 [AV.int .i64 0,.int .i64 0,.str ⟨#[]⟩,.fslice []]).flatten=(cX 26 Sub.none).flatMap AV.cells:=by
  rw[WO];try rfl
 rw[LA]
 have h22:(st.aC b2 (AO.cells [AV.fslice [],AV.fslice [],AV.fslice []])) b2=some (AO.cells [AV.fslice [],AV.fslice [],AV.fslice []]):=aB.aO _ _ _
 have hD2:aL (st.aC b2 (AO.cells [AV.fslice [],AV.fslice [],AV.fslice []])) st:=(aL.refl _).aC h2
 intro b3 h3
 have h3b:b3≠bb:=by rintro rfl;rw[aB.aO] at h3;cases h3
 rw[aB.aM _ _ h3b] at h3
 have h32:b3≠b2:=by rintro rfl;rw[aB.aO] at h3;cases h3
 have hs3:st b3=none:=by rw[aB.aM _ _ h32] at h3;exact h3
 have hsb:st bb=none:=by rw[aB.aM _ _ hb2] at hbb;exact hbb
 refine(hgo _).to ?_
 have e1:=c7 h3b
 have e2:=c7 h32
 have e3:=c7 hb2
 simp only[aK,e2,e3,aB.aO,aA,seval,TL]
 have oK:cX 26 Sub.none≠[]:=by rw[WO];simp
 refine⟨st.aC bb (.cells ((cX 26 Sub.none).flatMap AV.cells)),fun q'=>?_,bb,cX 26 Sub.none,st,by rw[jR oK],fun _=>hsb,FT _ _,⟨4,CS _ _⟩,?_,aL.refl _⟩
 · by_cases q2:q'=b2
   · subst q2;rw[aB.aO,aB.aM _ _ e3,h2];simp
   rw[aB.aM _ _ q2]
   by_cases q3:q'=b3
   · subst q3;rw[aB.aO,aB.aM _ _ h3b,hs3];simp
   simp only[aB.aM _ _ q3]
   by_cases qb:q'=bb
   · subst qb;rw[aB.aO,aB.aO];simp
   rw[aB.aM _ _ qb,aB.aM _ _ qb,aB.aM _ _ q2]
   simp
 · simp only[fO,gV,nW,aZ,aV,KT (show 0<26 by omega)]
   rfl
theorem OD{S:aB}{b c:Nat}{l:List AV}{o:AO}(h:l≠[]→b≠c):(a7 S b l).aC c o=a7 (S.aC c o) b l:=by
 cases l with
 | nil=>rfl
 | cons x l=>rw[jR (by simp),jR (by simp),aB.n9 _ _ _ (h (by simp))]
theorem SM{p:List Cl}{cnd:Tm→List Nat→List Nat}{vars:List Int}{most fuel:Nat}{s:RS}(hg:s.goals= []):kS p cnd vars most fuel s=if most=0 then([],1) else match j8 s.σ vars with
 | none=>([],3)
 | some a=>match gY p s.chs.length s.chs with
  | none=>([a],0)
  | some s'=>(a::(kS p cnd vars (most - 1) fuel s').1,(kS p cnd vars (most - 1) fuel s').2):=by
 rw[kS.eq_def,hg]
 simp only
 split<;>rfl
theorem SL{p:List Cl}{cnd:Tm→List Nat→List Nat}{vars:List Int}{most fuel:Nat}{s:RS}{g:RG}{rest:List RG}(hg:s.goals=g::rest):kS p cnd vars most fuel s=if fuel=0 then([],2) else match k6 p cnd s g rest with
 | .stop e=>([],e)
 | .go s'=>kS p cnd vars most (fuel - 1) s'
 | .fail=>match gY p s.chs.length s.chs with
  | none=>([],0)
  | some s'=>kS p cnd vars most (fuel - 1) s':=by
 rw[kS.eq_def,hg]
 simp only
 split<;>rfl
structure U8 (p:List Cl) (vars:List Int) (most fuel:Nat) (T:List (List Tm)×Int) (s:RS) (out:List (List Tm)) (f B:Nat):Prop where
 tot:T=(out++(kS p (fun _ l=>l) vars (most - out.length) f s).1,(kS p (fun _ l=>l) vars (most - out.length) f s).2)
 len:out.length≤most
 ok:lF p B s
 bd:B+26*f≤8000
abbrev mS:=zi IF (zi aX (zi bZ (zi fA (zi BQ (zi k9 (zi bS (zi nM (zi IB ID))))))))
theorem X8{p:List Cl}(hp:∀c∈p,gF c∧c.2.length≤6)(hpl:p.length≤20){q:List Tm}(hq:∀t∈q,bG 26 t∧t.k=3)(h6:q.length≤6){most fuel:Nat}(hm:most≤20)(hf:fuel≤300)(st:aB) :
 aD prog 59 [.slice (p.map bX),.slice (q.map Tm.av),.int .i64 (most:Int),.int .i64 (fuel:Int)] st (fun r st'=>r=.tup [.slice ((wT p (fun _ l=>l) q most fuel).1.map cG),.int .i64 (wT p (fun _ l=>l) q most fuel).2]∧st'=st):=by
 have hnd:bK Tm.nodes q≤1099511627776:=by
  have:=DX q fun t ht=>(hq t ht).1.2
  omega
 have hva:=fun st=>O1 q st (fun t ht=>Tm.rS t (hq t ht).1.1.2.1) hnd
 have G0:=fun st=>aUZ q (fun t ht=>(hq t ht).1) h6 st
 have hv:∀v∈aY q [],0≤v∧v<26:=fun v hv=>by
  rcases (tP q [] fun t ht=>(hq t ht).1.1.2.1).1 hv with h | ⟨t,ht,h⟩
  · cases h
  · exact(hq t ht).1.1.2.2 v h
 have hvl:(aY q []).length≤1000:=by
  have h1:=wZ q []
  have h2:=DX q fun t ht=>(hq t ht).1.2
  simp only[aW] at h1
  omega
 have LG:=lF.start (p:=p) hq h6
 generalize hT:wT p (fun _ l=>l) q most fuel=T
 unfold wT at hT
 generalize aY q []=vars at *
 have hI0:U8 p vars most fuel T (lJ q) [] fuel 26:=⟨by rw[←hT];try rfl,jH _,LG,by omega⟩
 generalize lJ q=s0 at *
 simp only[oS] at G0
 refine aD.oH (aD.fin (aD.mL ?_))
 refine wF [1000000,12] 4 func59 ntmps59 rfl rfl ?_
 intro _
 simp only[aA,seval,mS]
 refine(hva _).to ?_
 simp only[aA,seval]
 refine(G0 _).to ?_
 simp only[aK,aA,↓aR,seval,mS]
 intro b12 h12
 refine iG (σ:=RS×List (List Tm)×Nat×Nat×Nat) [1000000,12] [0,2,11,12] (fun x=>U8 p vars most fuel T x.1 x.2.1 x.2.2.1 x.2.2.2.1∧(x.2.1.map cG≠[]→(st.aC b12 (.cells [.slice (x.1.goals.map eU),.slice (cX x.1.N x.1.σ),.slice (x.1.chs.map fT)])) x.2.2.2.2=none))
  (fun x=>[(3,.int .i64 (x.2.2.1:Int)),(8,.fslice []),(9,.int .i64 0),(10,bE 1 x.2.2.2.2 (x.2.1.map cG))])
  (fun x=>a7 (st.aC b12 (.cells [.slice (x.1.goals.map eU),.slice (cX x.1.N x.1.σ),.slice (x.1.chs.map fT)])) x.2.2.2.2 (x.2.1.map cG))
  (fun x=>(most - x.2.1.length)+x.2.2.1) (by decide +kernel) ⟨(s0,[],fuel,26,0),⟨hI0,by simp⟩,aN.mk (by simp only[iK,aV,aA,seval])⟩ ?_
 rintro⟨s,out,f,B,b⟩ ⟨⟨tot,hlen,hok,hbd⟩,hb⟩
 simp only at tot hlen hok hbd hb
 simp only
 have hbc:out.map cG≠[]→b≠b12:=fun h=>by rintro rfl;have:=hb h;rw[aB.aO] at this;cases this
 have qH:=CN hb (aB.aO st b12 (.cells [.slice (s.goals.map eU),.slice (cX s.N s.σ),.slice (s.chs.map fT)]))
 have hlo:(out.map cG).length=out.length:=aE _
 have a0T:∀l:List (List Tm),∀e∈l.map cG,e.cE=false:=fun l e he=>by simp only[cI] at he;obtain⟨t,_,rfl⟩:=he;rfl
 have LH:∀l:List (List Tm),∀e∈l.map cG,e.width=1:=fun l e he=>by simp only[cI] at he;obtain⟨t,_,rfl⟩:=he;rfl
 have fin:∀(S:aB) (b:Nat) (l:List (List Tm)) (e:Int),(l.map cG≠[]→S b=none)→aL S st→T=(l,e)→∃s2,aL (a7 S b (l.map cG)) s2∧∃b' l' s0,s2=a7 s0 b' l'∧(l'≠[]→s0 b'=none)∧(∀e∈l',e.cE=false)∧iI l'∧(AV.tup [bE 1 b (l.map cG),.int .i64 e]).fin b' l'=.tup [.slice (T.1.map cG),.int .i64 T.2]∧aL s0 st:=fun S b l e h1 h2 h3=>
  ⟨_,aL.refl _,b,l.map cG,S,rfl,h1,a0T l,⟨1,LH l⟩,by subst h3;simp only[jS,dZ,kF,aZ,aV],h2⟩
 have hSD:∀o,aL (st.aC b12 o) st:=fun o=>(aL.refl _).aC h12
 generalize hX:(AO.cells [.slice (s.goals.map eU),.slice (cX s.N s.σ),.slice (s.chs.map fT)])=X at qH hb
 have qH:=qH.trans (fE some hX.symm)
 have hun:prog.underlying 27=some (.slice 38):=by kernel_rfl
 have uO:=t7 (w:=1) (b:=b) (l:=out.map cG) hun
 rw[hlo] at uO
 cases hgs:s.goals with
 | nil=>
  rw[hgs] at hX qH
  simp only[aV] at hX qH
  rw[SM hgs] at tot
  simp only[aW,uO,qH,aA,seval,mS]
  refine aP (fun h=>?_) (fun h=>?_)
  · have h':out.length=most:=by simp at h;omega
    rw[aJ (by omega)] at tot
    simp only[nQ,aA,seval]
    exact fin _ b out 1 hb (hSD _) (by rw[tot,iB])
  have h':out.length<most:=by simp at h;omega
  rw[aF (by omega)] at tot
  simp only[qH,aA,seval,mS]
  refine(aUR (N:=s.N) hok.a.gW hok.a.ok vars (fun v h=>⟨(hv v h).1,by have:=(hv v h).2;have:=hok.l.1;omega⟩) hvl _).mono ?_
  rintro _ _ ⟨rfl,a,rfl,ha⟩
  cases qI:j8 s.σ vars with
  | none=>
   rw[qI] at tot
   simp only[Option.isSome_none,cG]
   simp only[aW,aS,nQ,aA,↓aR,seval,mS]
   exact fin _ b out 3 hb (hSD _) (by rw[tot,iB])
  | some x=>
   obtain rfl:=ha x qI
   rw[qI] at tot
   simp only[NY,cG] at tot ⊢
   simp only[aW,aS,aA,↓aR,seval,mS]
   refine eD (P:=prog) (b:=b) (l:=out.map cG) (xs:=[cG a]) AC PO PR rfl rfl (eO rfl rfl) (LH out) hb (by simp only[aS,aW,hlo];omega) (by simp only[aS,aW,hlo];omega) (fun b' hb'=>?_)
   rw[show(out.map cG)++ [cG a]=(out++ [a]).map cG by simp] at hb' ⊢
   have aJ5:=(CN hb' (aB.aO st b12 X)).trans (fE some hX.symm)
   simp only[aW,aS,aJ5,aA,seval,mS]
   have K9:(f:Int)=(f:Int):=rfl
   refine(X4 hp (B:=B) (by omega) [] (cX s.N s.σ) s.chs hok.a.pD hok.a.chs _).mono ?_
   rintro r _ ⟨rfl,hr⟩
   cases hbk:gY p s.chs.length s.chs with
   | none=>
    rw[hbk] at hr tot
    simp only at hr tot
    obtain⟨l1,l2,l3,rfl⟩:=hr
    simp only[aW,aS,nQ,aA,↓aR,seval,mS]
    exact fin _ b' (out++ [a]) 0 hb' (hSD _) (by rw[tot];try rw[iB])
   | some s'=>
    rw[hbk] at hr tot
    simp only[oS] at hr tot
    subst hr
    simp only[aK,aW,aS,aJ5,aA,↓aR,seval,mS]
    rw[OD (fun h=>by rintro rfl;have:=hb' h;rw[aB.aO] at this;cases this),cY]
    have hne:(out++ [a]).map cG≠[]→b'≠b12:=fun h=>by rintro rfl;have:=hb' h;rw[aB.aO] at this;cases this
    refine⟨(s',out++ [a],f,B,b'),by simp only[dM,aS,aW];omega,⟨⟨by rw[tot];try simp only[nP,fC,eL,dM,aS,aW,Nat.sub_sub];try rfl,by simp only[dM,aS,aW];omega,hok.back hp (by omega) hbk,by simp only;omega⟩,fun h=>by rw[aB.aM _ _ (hne h)];have:=hb' h;rwa [aB.aM _ _ (hne h)] at this⟩,aN.mk (by simp only[aA,seval])⟩
 | cons g rest=>
  rw[hgs] at hX qH
  rw[SL hgs] at tot
  simp only[aE,aS,qH,aA,seval,mS]
  refine aP (fun h=>absurd h (by simp;omega)) (fun h=>?_)
  simp only[aA,seval]
  refine aP (fun h=>?_) (fun h=>?_)
  · have h':f=0:=by simp at h;omega
    rw[aJ h'] at tot
    simp only[nQ,aA,seval]
    exact fin _ b out 2 hb (hSD _) (by rw[tot,iB])
  have h':f≠0:=by simp at h;omega
  rw[aF h'] at tot
  have hw:=bL (n:=(f:Int) - 1)
  simp only[hw,aW,aS,qH,aA,seval,mS]
  have hst:=aU0 hp (by omega) (B:=B) (by omega) s.goals s.σ s.N s.chs g rest hgs hok.a hok.k
  rw[hgs,aZ] at hst
  refine(hst _).mono ?_
  rintro r _ ⟨rfl,hr⟩
  have hse:(⟨g::rest,s.σ,s.N,s.chs⟩:RS)=s:=by rw[←hgs]
  rw[hse] at hr
  cases gA:k6 p (fun _ l=>l) s g rest with
  | go s'=>
   rw[gA] at hr tot
   simp only[t6,oS] at hr tot
   subst hr
   simp only[aW,aS,vY,↓KO,List.contains,List.elem,BV,↓reduceIte,Nat.reduceEqDiff,Nat.reduceAdd,Nat.reduceBEq,mS]
   refine aP (fun h=>absurd h (by decide)) (fun h=>?_)
   simp only[aK,aW,aS,qH,aA,seval,mS]
   rw[OD hbc,cY]
   have K9:((f - 1:Nat):Int)=(f:Int) - 1:=by omega
   refine⟨(s',out,f - 1,B+26,b),by simp only;omega,⟨⟨tot,hlen,hok.step hp (by omega) (by omega) (cnd:=fun _ l=>l) (fun _ _=>⟨fun _ h=>h,cZ _⟩) hgs gA,by simp only;omega⟩,fun h=>by rw[aB.aM _ _ (hbc h)];have:=hb h;rwa [aB.aM _ _ (hbc h)] at this⟩,aN.mk (by simp only[K9,aA,seval])⟩
  | fail=>
   rw[gA] at hr tot
   simp only[t6,oS] at hr tot
   subst hr
   simp only[aW,aS,vY,↓KO,List.contains,List.elem,BV,↓reduceIte,Nat.reduceEqDiff,Nat.reduceAdd,Nat.reduceBEq,mS]
   refine aP (fun h=>absurd h (by decide)) (fun h=>?_)
   simp only[aW,aS,qH,aA,seval,mS]
   have K9:((f - 1:Nat):Int)=(f:Int) - 1:=by omega
   refine(X4 hp (B:=B) (by omega) (g::rest) (cX s.N s.σ) s.chs hok.a.pD hok.a.chs _).mono ?_
   rintro r _ ⟨rfl,hr⟩
   cases hbk:gY p s.chs.length s.chs with
   | none=>
    rw[hbk] at hr tot
    simp only at hr tot
    obtain⟨l1,l2,l3,rfl⟩:=hr
    simp only[aW,aS,nQ,aA,↓aR,seval,mS]
    exact fin _ b (out) 0 hb (hSD _) (by rw[tot];try rw[iB])
   | some s'=>
    rw[hbk] at hr tot
    simp only[oS] at hr tot
    subst hr
    simp only[aK,aW,aS,qH,aA,↓aR,seval,mS]
    rw[OD (fun h=>by rintro rfl;have:=hb h;rw[aB.aO] at this;cases this),cY]
    have hne:(out).map cG≠[]→b≠b12:=fun h=>by rintro rfl;have:=hb h;rw[aB.aO] at this;cases this
    refine⟨(s',out,f - 1,B,b),by simp only[];omega,⟨⟨by rw[tot];try simp only[nP,fC,eL,dM,aS,aW,Nat.sub_sub];try rfl,by simp only[];omega,hok.back hp (by omega) hbk,by simp only;omega⟩,fun h=>by rw[aB.aM _ _ (hne h)];have:=hb h;rwa [aB.aM _ _ (hne h)] at this⟩,aN.mk (by simp only[K9,aA,seval])⟩
  | stop e=>
   rw[gA] at hr tot
   simp only[t6] at hr tot
   obtain⟨he0,l1,l2,l3,rfl⟩:=hr
   simp only[aW,aS,aA,↓aR,seval,mS]
   refine aP (fun h=>?_) (fun h=>absurd he0 (by simpa using h))
   simp only[nQ,aA,seval]
   exact fin _ b out e hb (hSD _) (by rw[tot,iB])
end Go.AW
namespace Go.AW
def vE(st:aB)(xs:List AV)(r:AV)(st':aB):Prop:=∃(os:List AV) (bs:List Nat),r=.tup os∧bs.Nodup∧(∀b∈bs,st b=none)∧cP st' xs os bs∧∀b,b∉bs→st' b=st b
theorem cP.aPU{h:bM}{st s0:aB}(S:cW h st)(D:aL st s0):∀(xs os:List AV) (bs:List Nat) (vs:List Value),cP st xs os bs→(∀b∈bs,s0 b=none)→dT h st os vs→dT h s0 xs vs
 | [],os,bs,vs,x,_,y=>by simp only[cP] at x;rw[x.1] at y;exact y
 | a::xs,os,bs,vs,x,hb,y=>by
  simp only[cP] at x
  obtain⟨o,os',b1,b2,rfl,rfl,x1,x2⟩:=x
  simp only[dT] at y ⊢
  obtain⟨v,r,e,⟨y0,y1⟩,y2⟩:=y
  exact⟨v,r,e,⟨x1.shape.1.symm.trans y0,cO.view S D a o b1 _ x1 (fun q hq=>hb q (by simp [hq])) y1⟩,cP.aPU S D xs os' b2 r x2 (fun q hq=>hb q (by simp [hq])) y2⟩
theorem aD.aLS{P:Program}{g:FuncId}{args:List AV}{st:aB}{xs:List AV}(x:aD P g args st (vE st xs)):aD P g args st (fun r st'=>r=.tup xs∧st'=st):=
 x.mV fun r st' ⟨os,bs,hr,_,h2,h3,h4⟩=>by
  have D:aL st' st:=fun b=>⟨fun e=>by
   by_cases hb:b∈bs
   · exact h2 b hb
   · rw[←h4 b hb];exact e,fun o e=>by
   by_cases hb:b∈bs
   · rw[h2 b hb] at e;cases e
   · rw[h4 b hb];exact e⟩
  refine⟨.tup xs,st,D.tU,fun h v S y=>?_,rfl,rfl⟩
  subst hr
  obtain⟨y0,y1⟩:=y
  refine⟨y0,?_⟩
  unfold VC at y1 ⊢
  obtain⟨vs,e,y2⟩:=y1
  exact⟨vs,e,cP.aPU S D xs os bs vs h3 h2 y2⟩
theorem cO.aMC{st:aB}{es:List AV}{q:AV}{bs:List Nat}(h:cO st (.slice es) q bs):q.cells= [q]∧q.storable=true∧q.isAgg=false∧q.width=1∧q.cE=false:=by
 simp only[cO] at h
 rcases h with ⟨_,rfl,_⟩ | ⟨_,_,_,_,rfl,_⟩<;>exact⟨rfl,rfl,rfl,rfl,rfl⟩
theorem a30{s:aB}{x o:AV}{bs:List Nat}:cO s (.agg [x]) o bs↔∃q,o=.agg [q]∧cO s x q bs:=by
 simp only[cO,cP]
 constructor
 · rintro⟨os,rfl,o1,os1,b1,b2,rfl,rfl,h,rfl,rfl⟩
   exact⟨o1,rfl,by simpa using h⟩
 · rintro⟨q,rfl,h⟩
   exact⟨_,rfl,q,[],bs,[],rfl,by simp,h,rfl,rfl⟩
theorem aME{s:aB}{x y:AV}{os:List AV}{bs:List Nat}:cP s [x,y] os bs↔∃o1 o2 b1 b2,os= [o1,o2]∧bs=b1++b2∧cO s x o1 b1∧cO s y o2 b2:=by
 simp only[cP]
 constructor
 · rintro⟨o1,os1,b1,b1',rfl,rfl,h1,o2,os2,b2,b2',rfl,rfl,h2,rfl,rfl⟩
   exact⟨o1,o2,b1,b2,rfl,by simp,h1,h2⟩
 · rintro⟨o1,o2,b1,b2,rfl,rfl,h1,h2⟩
   exact⟨o1,[o2],b1,b2,rfl,rfl,h1,o2,[],b2,[],rfl,by simp,h2,rfl,rfl⟩
theorem a32{s:aB}{b:Bool}{o:AV}{bs:List Nat}:cO s (.bool b) o bs↔o=.bool b∧bs= []:=by simp only[cO]
theorem vE.a3L{st st':aB}{a o:AV}{b:Bool}(h:Made st a o st'):vE st [a,.bool b] (.tup [o,.bool b]) st':=by
 obtain⟨bs,h1,h2,h3,h4⟩:=h
 exact⟨_,bs,rfl,h1,h2,aME.2 ⟨o,.bool b,bs,[],rfl,by simp,h3,a32.2 ⟨rfl,rfl⟩⟩,h4⟩
end Go.AW
namespace Go.AW
open Go.Proofs.Tryz

section
variable {S:aB} {c b w:Nat} {hd tl l:List AV}
theorem VG{h:bM}{st:aB}{a a':AV}(hv:∀v,VC h st a [v]→VC h st a' [v]):∀(hd:List AV) {tl:List AV} {vs:List Value},bA h st (hd++a::tl) vs→bA h st (hd++a'::tl) vs
 | [],tl,vs,x=>by
  simp only[eL,bA] at x ⊢
  obtain⟨c,r,e,x1,x2⟩:=x
  exact⟨c,r,e,hv c x1,x2⟩
 | y::hd,tl,vs,x=>by
  simp only[fC,bA] at x ⊢
  obtain⟨c,r,e,x1,x2⟩:=x
  exact⟨c,r,e,x1,VG hv hd x2⟩
theorem fV.a5P{φ:AF}{st:aB}{c:Nat}{hd tl:List AV}{a:AV}(hc:st c=some (.cells (hd++a::tl))):fV φ st φ (st.aC c (.cells (hd++a.soft::tl))):=fun h tmps S F=>by
 have T:b7 h st h (st.aC c (.cells (hd++a.soft::tl))):=b7.of fun x hx=>by
  have:x≠c:=by rintro rfl;rw[hc] at hx;cases hx
  rw[aB.aM _ _ this];exact hx
 refine⟨fun x o hx=>?_,T,fun d=>(F d).mono T⟩
 by_cases e:x=c
 · subst e
   rw[aB.aO] at hx
   cases hx
   obtain⟨hl,c0,t,e1,e2,vs,e3,e4⟩:=S x _ hc
   refine⟨hl,c0,t,e1,?_,vs,e3,bA.mono T _ _ (VG (fun v hv=>VC.soft a [v] hv) hd e4)⟩
   simpa using e2
 · rw[aB.aM _ _ e] at hx
   obtain⟨hl,y⟩:=S x o hx
   exact⟨hl,kY.mono T rfl y⟩
end
abbrev yS:=zi aX (zi bS (zi bQ mB))
theorem OZ(cl:Cl)(h1:cl.1.small=true)(h2:cl.2.length≤1048576)(h3:∀x∈cl.2,x.small=true)(st:aB):aD prog 203 [bX cl] st (fun r st'=>r=bX cl∧st'=st):=by
 obtain⟨⟨k,n,s,ks⟩,ts⟩:=cl
 have hhd:=fun st=>xT (.mk k n s ks) st h1
 simp only[aU] at hhd
 have IH:=fun(x:Tm) (hx:x∈ts) st=>xT x st (h3 x hx)
 have hlen:ts.length≤1048576:=h2
 refine aD.oH (aD.fin ?_)
 simp only[gN]
 refine wF [] 1 func203 ntmps203 rfl rfl ?_
 simp only[d7,AV.fits,d9,aE]
 intro ⟨_,_,_,_,hl,_⟩
 simp only[aA,seval,yS]
 intro b2 hb2
 refine(hhd _).to ?_
 simp only[aK,aA,seval,yS]
 intro c hc
 have hne:c≠b2:=by rintro rfl;rw[aB.aO] at hc;cases hc
 have hn2:st c=none:=by rw[aB.aM st _ hne] at hc;exact hc
 have kP:b2≠c:=c7 hne
 refine dV (σ:=Nat) [] [1,2,3] ts (fun i b=>(((ts.take i).map (fun y=>y)).map Tm.av≠[]→(aB.aC (st.aC b2 (.cells [AV.int .i64 0,AV.int .i64 0,AV.str ⟨#[]⟩,AV.fslice [],AV.fslice []])) c (.cells ([AV.int .i64 k,AV.int .i64 n,AV.str s,AV.slice (ks.map Tm.av)]++ [bE 4 b (((ts.take i).map (fun y=>y)).map Tm.av)]))) b=none)) (fun i b=>[(4,.int .i64 i)]) (fun i b=>eY (st.aC b2 (.cells [AV.int .i64 0,AV.int .i64 0,AV.str ⟨#[]⟩,AV.fslice [],AV.fslice []])) c b [AV.int .i64 k,AV.int .i64 n,AV.str s,AV.slice (ks.map Tm.av)] (((ts.take i).map (fun y=>y)).map Tm.av)) (by decide +kernel)
  ⟨0,fun h=>absurd rfl h,aN.mk (by simp only[aA,↓aR,seval])⟩ (fun i x b hx hlt bH hdr hinv=>?_) (fun b hge hinv=>?_)
 case refine_1=>
  have hw:=bL (n:=(i:Int)+1)
  have cF:(((ts.take i).map (fun y=>y)).map Tm.av).length=i:=by simp only[aE,dC];omega
  have htk:(ts.take (i+1)).map (fun y=>y)=(ts.take i).map (fun y=>y)++ [(fun y=>y) x]:=by rw[eA,hx];simp
  have hbo:=eF hinv
  simp only[aE,bH,aA,seval,yS]
  refine wP [(0,1),(2,1),(4,1),(1,2),(3,2),(5,1),(6,2),(7,2),(8,1),(9,0),(10,1),(11,0)] [0,2,4,1,3,5,6,7,8,10] mixed ?_
  simp only[bD (av:=Tm.av) a8 hx (aH x),aT,aH,hbo,lQ,fZ,aA,seval,yS]
  refine fK (IH x (cD hx) _) ?_
  simp only[aT,aH,cC,fZ,aA,seval,yS]
  refine eD a8 fW fX rfl rfl (eO (aH _) (bT _)) (dS _) hinv (by simp only[cF,aS,aW];omega) (by simp only[cF,aS,aW];omega) (fun b' hb'=>?_)
  rw[show(((ts.take i).map (fun y=>y)).map Tm.av)++ [((fun y=>y) x).av]=((ts.take (i+1)).map (fun y=>y)).map Tm.av by rw[htk];simp] at hb' ⊢
  obtain⟨g1,g2,g3⟩:=nB hb'
  simp only[fC,eL] at g1 g3
  simp only[g3,lR,eT,aK,g1,hw,aK,aA,seval,yS]
  exact⟨b',g2,aN.mk (by simp only[aA,seval])⟩
 have hbo:=eF hinv
 rw[dW] at hinv hbo ⊢
 simp only[aE,hge,aA,seval,yS]
 simp only[hbo,aK,aA,seval,yS]
 have hS:(st.aC b2 (.cells [AV.int .i64 0,AV.int .i64 0,AV.str ⟨#[]⟩,AV.fslice [],AV.fslice []])) b2≠none:=by rw[aB.aO];simp
 have h1:=gJ hinv hS kP
 rw[aB.aO] at h1
 simp only[h1,eT,aA,seval]
 obtain⟨h2,h3⟩:=jW (o:=.cells [AV.int .i64 k,AV.int .i64 n,AV.str s,AV.slice (ks.map Tm.av),bE 4 b ((ts.map fun y=>y).map Tm.av)]) hinv hS kP
 refine⟨b,_,_,h2,h3,iM _,⟨4,dS _⟩,?_,?_⟩
 · simp only[fO,aZ,aV,dZ,iD,gV,iJ,List.map_id']
 · exact(((aL.refl _).aC hb2).aC hn2).aC hb2
structure Ss where
 p:List Cl
 q:List Tm
 a95:Int
 used:Int
 a96:Int
 fin:Int
theorem z8(l:List Cl):∀e∈l.map bX,e.width=5:=by intro e h;simp only[cI] at h;obtain⟨t,_,rfl⟩:=h;exact oG t
theorem KA(l:List Cl):∀e∈l.map bX,e.cE=false:=by intro e h;simp only[cI] at h;obtain⟨t,_,rfl⟩:=h;exact J9 t

def nH(p:List Cl)(q:List Tm)(most fuel:Int):Bool:=qY p&&(gX q&&(decide (0≤most)&&(decide (most≤20)&&(decide (0≤fuel)&&decide (fuel≤300)))))
noncomputable def kT(p:List Cl)(cnd:Tm→List Nat→List Nat)(q:List Tm)(most fuel:Int):List (List Tm)×Int:=if nH p q most fuel=true then wT p cnd q most.toNat fuel.toNat else([],9)
theorem HE{p:List Cl}(h:qY p=true):p.length≤20∧∀c∈p,gF c∧c.2.length≤6:=by
 simp only[qY,cB,bO,dQ] at h
 refine⟨h.1,fun c hc=>⟨aV4 (h.2 c hc),?_⟩⟩
 have:=h.2 c hc
 simp only[lT,cB,bO,dQ] at this
 exact this.2.1
theorem A9{q:List Tm}(h:gX q=true):q.length≤6∧∀t∈q,bG 26 t∧t.k=3:=by
 simp only[gX,cB,bO,dQ] at h
 refine⟨h.1,fun t ht=>?_⟩
 have hg:=h.2 t ht
 have hk:t.valid=true∧t.k=3:=by
  obtain⟨k,n,s,ts⟩:=t
  simp only[Tm.goal,cB] at hg
  refine⟨hg.1,?_⟩
  have:=hg.2
  simp only[x8,qX,rE,cB,bO] at this
  simp only[Tm.k]
  rcases this with (h | h) | h<;>first | exact h.1 | exact h.1.1 | exact h.1.1.1
 exact⟨⟨Tm.IV hk.1,Tm.w6 hk.1⟩,hk.2⟩
abbrev EJ:=zi aX (zi bZ (zi BQ (zi k9 bS)))
theorem aVK(p:List Cl)(q:List Tm)(most fuel:Int)(st:aB) :
 aD prog 22 [.slice (p.map bX),.slice (q.map Tm.av),.int .i64 most,.int .i64 fuel] st (fun r st'=>r=.tup [.slice ((kT p (fun _ l=>l) q most fuel).1.map cG),.int .i64 (kT p (fun _ l=>l) q most fuel).2]∧st'=st):=by
 refine aD.done ?_
 have pG:nH p q most fuel=false→∀ {st'},st'=st→(AV.tup [AV.fslice [],.int .i64 9]).soft=.tup [.slice ((kT p (fun _ l=>l) q most fuel).1.map cG),.int .i64 (kT p (fun _ l=>l) q most fuel).2]∧aL st' st:=fun h _ e=>by
  subst e
  unfold kT
  rw[aF (by rw[h];simp)]
  exact⟨by simp only[iT,jN,k7,aZ,aV],aL.refl _⟩
 refine wF [1000000] 4 func22 ntmps22 rfl rfl ?_
 intro _
 simp only[aA,seval]
 refine(aVJ p _).to ?_
 simp only[aA,seval]
 refine cU (fun h=>?_) (fun h=>?_)
 case refine_2=>
  simp only[h,aA,seval,EJ]
  exact pG (by simp at h;simp [nH,h]) rfl
 have hp:qY p=true:=by simpa using h
 simp only[h,aA,seval]
 refine(F4 q _).to ?_
 simp only[aA,seval]
 refine cU (fun h2=>?_) (fun h2=>?_)
 case refine_2=>
  simp only[h2,aA,seval,EJ]
  exact pG (by simp at h2;simp [nH,h2]) rfl
 have hq:gX q=true:=by simpa using h2
 simp only[h2,aA,seval]
 refine cU (fun h3=>?_) (fun h3=>?_)
 case refine_2=>
  simp only[h3,aA,seval,EJ]
  exact pG (by simp at h3;simp only[nH];rw[show decide (0≤most)=false from d6 (by omega)];simp) rfl
 have h3':0≤most:=by simpa using h3
 simp only[h3,aA,seval]
 refine cU (fun h4=>?_) (fun h4=>?_)
 case refine_2=>
  simp only[h4,aA,seval,EJ]
  exact pG (by simp at h4;simp only[nH];rw[show decide (most≤20)=false from d6 (by omega)];simp) rfl
 have h4':most≤20:=by simpa using h4
 simp only[h4,aA,seval]
 refine cU (fun h5=>?_) (fun h5=>?_)
 case refine_2=>
  simp only[h5,aA,seval,EJ]
  exact pG (by simp at h5;simp only[nH];rw[show decide (0≤fuel)=false from d6 (by omega)];simp) rfl
 have h5':0≤fuel:=by simpa using h5
 simp only[h5,aA,seval]
 refine aP (fun h6=>?_) (fun h6=>?_)
 · simp only[aA,seval,EJ]
   exact pG (by simp at h6;simp only[nH];rw[show decide (fuel≤300)=false from d6 (by omega)];simp) rfl
 have h6':fuel≤300:=by simpa using h6
 obtain⟨p1,p2⟩:=HE hp
 obtain⟨q1,q2⟩:=A9 hq
 obtain⟨m,rfl⟩:=pV h3'
 obtain⟨f,rfl⟩:=pV h5'
 simp only[aA,seval]
 refine(X8 p2 p1 q2 q1 (by omega) (by omega) _).to ?_
 simp only[aA,seval]
 refine⟨?_,aL.refl _⟩
 have hok:nH p q m f=true:=by simp [nH,hp,hq,h4',h6']
 unfold kT
 rw[aJ hok]
 simp only[iT,jN,nG,aZ,aV,kX]
end Go.AW
namespace Go.AW


def pO(l:List IC):Nat:=(l.map fun c=>c.list.length).sum
theorem RN(l m:List IC):pO (l++m)=pO l+pO m:=by simp [pO]
theorem aLO(c:IC):pO [c]=c.list.length:=by simp [pO]
theorem aLP(l:List IC)(k:Nat):pO (l.take k)≤pO l:=by
 have:=RN (l.take k) (l.drop k)
 rw[sL] at this
 omega
structure IX (p:List Cl) (M:Nat) (i:IS):Prop where
 tnd:i.tr.Nodup
 tin:∀n∈i.tr,(0≤n∧n<(i.fresh:Int))∧i.σ n≠none
 phi:i.fresh+26*pO i.chs≤M
 ch:∀c∈i.chs,c.node<c.taken∧c.taken≤i.nn∧c.fG≤i.tr.length∧∀x∈c.list,x<p.length
 mono:i.chs.Pairwise (fun c d=>c.taken≤d.taken∧c.fG≤d.fG)
theorem IX.up{p:List Cl}{M M':Nat}{i:IS}(h:IX p M i)(hM:M≤M'):IX p M' i:=⟨h.tnd,h.tin,jP h.phi hM,h.ch,h.mono⟩
theorem IX.UE{p:List Cl}{M:Nat}{i:IS}(h:IX p M i):i.tr.length≤i.fresh:=DY h.tnd fun n hn=>(h.tin n hn).1
theorem LI{p:List Cl}(hp:∀c∈p,gF c){M:Nat}{goal:Tm}{at':Nat}{rest:List IG}:∀(l:List Nat) (s:IS),(∀x∈l,x<p.length)→at'<s.nn→s.fresh+26*pO s.chs+26*l.length≤M→IX p M s→cS s.σ→cV (bG s.fresh) s.σ→bG s.fresh goal →
 IX p M (fS p goal at' rest l s).2
 | [],s,_,_,_,h,_,_,_=>by unfold fS;exact h
 | j::l,s,hl,ha,hM,h,hg,ho,hgo=>by
  obtain⟨x,hx⟩:∃x,p[j]?=some x:=⟨_,eN (hl j (by simp))⟩
  have hX:=hp x (cD hx)
  have hl':∀x∈l,x<p.length:=fun x h=>hl x (by simp [h])
  simp only[aS] at hM
  unfold fS
  simp only[hx]
  split
  · have hhd:bG ((s.fresh+26:Nat):Int) (dE s.fresh x.1):=(hX.dE s.fresh x.1 (by simp)).mono (by have:=hX.fr.1;omega)
    obtain⟨r,σ',add,U⟩:=tS (N:=s.fresh+26) hg (fun n u e=>(ho n u e).mono (by omega)) (hgo.mono (by omega)) hhd
    rw[U.eq]
    have S:=U.wS
    refine⟨?_,?_,?_,?_,?_⟩
    · simp only
      refine tY.2 ⟨h.tnd,S.nodup,fun a ha b hb e=>?_⟩
      subst e
      exact(h.tin a ha).2 (S.new a hb).1
    · intro n hn
      simp only[fQ] at hn ⊢
      rcases hn with hn | hn
      · have h1:=h.tin n hn
        have hna:n∉add:=fun ha=>h1.2 (S.new n ha).1
        exact⟨⟨h1.1.1,by have:=h1.1.2;omega⟩,by rw[S.bB n hna];exact h1.2⟩
      · have:=S.gC n hn
        exact⟨⟨this.1,by omega⟩,(S.new n hn).2⟩
    · simp only
      split
      · omega
      · rw[RN,aLO];simp only;omega
    · intro c hc
      have key:∀c∈s.chs,c.node<c.taken∧c.taken≤s.nn∧c.fG≤(s.tr++add).length∧∀x∈c.list,x<p.length:=fun c hc=>by
       obtain⟨h1,h2,h3,h4⟩:=h.ch c hc
       exact⟨h1,h2,by rw[dM];omega,h4⟩
      simp only at hc ⊢
      split at hc
      · exact key c hc
      · rcases fQ.1 hc with hc | hc
        · exact key c hc
        · simp only[c8,dP,dX] at hc
          subst hc
          exact⟨ha,cZ _,by rw[dM];simp only;omega,hl'⟩
    · simp only
      split
      · exact h.mono
      · refine List.pairwise_append.2 ⟨h.mono,List.pairwise_singleton _ _,fun a ha b hb=>?_⟩
        simp only[c8,dP,dX] at hb
        subst hb
        obtain⟨h1,h2,h3,h4⟩:=h.ch a ha
        exact⟨h2,h3⟩
  · refine LI hp l { s with fresh:=s.fresh+26 } hl' ha (by simp only;omega) ⟨h.tnd,fun n hn=>?_,by simp only;omega,h.ch,h.mono⟩ hg (fun n u e=>(ho n u e).mono (by simp only;omega)) (hgo.mono (by simp only;omega))
    have:=h.tin n hn
    exact⟨⟨this.1.1,by simp only;omega⟩,this.2⟩
theorem IX.pop{p:List Cl}{M:Nat}{gl:List IG}{τ:Sub}{tr:List Int}{ds:List IC}{d:IC}{F nn:Nat}(h:IX p M ⟨gl,τ,tr,ds++ [d],F,nn⟩) :
 IX p M ⟨gl,τ.out (tr.drop d.fG),tr.take d.fG,ds,F,d.taken⟩∧F+26*pO ds+26*d.list.length≤M∧d.node<d.taken∧d.taken≤nn∧d.fG≤tr.length∧∀x∈d.list,x<p.length:=by
 obtain⟨h1,h2,h3,h4⟩:=h.ch d (by simp)
 have a1E:=h.phi
 simp only[RN,aLO] at a1E
 have hm:=List.pairwise_append.1 h.mono
 have hnd:=h.tnd
 simp only at hnd h2 h3
 have hsp:tr.take d.fG++tr.drop d.fG=tr:=sL _ _
 rw[←hsp,tY] at hnd
 refine⟨⟨hnd.1,fun n hn=>?_,by simp only;omega,fun c hc=>?_,hm.1⟩,by omega,h1,h2,h3,h4⟩
 · have:=h.tin n (lB hn)
   refine⟨this.1,?_⟩
   simp only
   unfold Sub.out
   rw[aF (fun hd=>hnd.2.2 n hn n hd rfl)]
   exact this.2
 · obtain⟨g1,g2,g3,g4⟩:=h.ch c (by simp [hc])
   have:=hm.2.2 c hc d (by simp)
   exact⟨g1,this.1,by simp only[dC];simp only at g3;omega,g4⟩
theorem aK7{p:List Cl}(hp:∀c∈p,gF c){M:Nat}:∀(n:Nat) (cs:List RC) (i:IS),iQ i.fresh cs i.chs i.σ i.tr→IX p M i→∀i',gQ p n i=some i'→IX p M i'
 | 0,_,_,_,_,i',h=>by simp [gQ] at h
 | n+1,cs,i,C,h,i',e=>by
  obtain⟨gl,τ,tr,ds,F,nn⟩:=i
  simp only at C
  cases C with
  | nil=>simp only[gQ,List.getLast?_nil] at e;cases e
  | @snoc cs ds c d _ _ C h1 h2=>
   obtain⟨hP,hM,hnt,htn,htr,hli⟩:=h.pop
   have e3:(IS.pop ⟨gl,τ,tr,ds++ [d],F,nn⟩ d)=⟨gl,τ.out (tr.drop d.fG),tr.take d.fG,ds,F,d.taken⟩:=by simp only[IS.pop,NP]
   simp only[gQ,List.getLast?_append,List.getLast?_singleton,Option.some_or,e3] at e
   obtain⟨ρ,S,e1,hok,hG,e2⟩:=h1
   have hX:=LI hp (rest:=d.rest) d.list _ hli (at':=d.node) (by simp only;exact hnt) (by simp only;exact hM) hP S.g2 S.o2 (e1▸S.BB hok)
   split at e
   · cases e
     exact hX
   · rename_i hf
     have key:=M8 hp (cs:=cs) (nn:=d.taken) (at':=d.node) (tr:=tr.take d.fG) hok hG c.left F gl S C
     rw[←e1,←e2] at key
     cases ht:iS p cs c.goal c.rest c.σ c.N c.left with
     | some s=>
      rw[e2,ht] at key
      obtain⟨i2,k1,_⟩:=key
      rw[←e2] at k1
      rw[k1] at hf
      simp at hf
     | none=>
      rw[e2,ht] at key
      obtain⟨F',hF,k1⟩:=key
      rw[←e2] at k1
      rw[k1] at e hX
      exact aK7 hp n cs _ (C.mono hF) hX i' e
end Go.AW
namespace Go.AW
open Go.Proofs.Tryz
def eQ:List IG→AV
 | []=>.nilptr
 | ⟨.mk k n s ts,cut,up⟩::l=>.pptr (.agg [.int .i64 k,.int .i64 n,.str s,.slice (ts.map Tm.av),.int .i64 (cut:Int),.int .i64 up,eQ l])
theorem sY(k n:Int)(s:ByteArray)(ts:List Tm)(cut:Nat)(up:Int)(l:List IG):eQ (⟨.mk k n s ts,cut,up⟩::l)=.pptr (.agg [.int .i64 k,.int .i64 n,.str s,.slice (ts.map Tm.av),.int .i64 (cut:Int),.int .i64 up,eQ l]):=by rw[eQ]
theorem pF(l:List IG):(eQ l).isAgg=false∧(eQ l).width=1∧(eQ l).cE=false∧(eQ l).cells= [eQ l]∧(eQ l).storable=true∧(eQ l).soft=eQ l:=by
 cases l with
 | nil=>rw[eQ];exact⟨rfl,rfl,rfl,rfl,rfl,rfl⟩
 | cons g l=>obtain⟨⟨k,n,s,ts⟩,cut,up⟩:=g;rw[sY];exact⟨rfl,rfl,rfl,rfl,rfl,rfl⟩
abbrev aOD:=zi aX (zi bS (zi bQ (zi ER aOT)))
theorem O3(bd:List Tm)(cut:Nat)(up:Int)(rest:List IG)(hl:bd.length≤1048576)(st:aB) :
 aD prog 244 [.slice (bd.map Tm.av),.int .i64 (cut:Int),.int .i64 up,eQ rest] st (fun r st'=>r=eQ (bd.map (fun t=>(⟨t,cut,up⟩:IG))++rest)∧st'=st):=by
 obtain⟨r1,r2,r3,r4,r5,r6⟩:=pF rest
 refine aD.done ?_
 refine wF [1000000] 4 func244 ntmps244 rfl rfl ?_
 intro _
 have hw0:=bL (n:=(bd.length:Int) - 1)
 simp only[aE,hw0,aA,seval,aOD]
 refine iG (σ:=Nat) [1000000] [0,1,2,8] (fun j=>j≤bd.length) (fun j=>[(3,eQ ((bd.drop j).map (fun t=>(⟨t,cut,up⟩:IG))++rest)),(9,.int .i64 ((j:Int) - 1))]) (fun _=>st) (fun j=>j) (by decide +kernel) ⟨bd.length,cZ _,aN.mk (by simp only[j4,aV,eL,aA,seval])⟩ ?_
 intro j hj
 cases j with
 | zero=>
  rw[rG]
  obtain⟨s1,s2,s3,s4,s5,s6⟩:=pF (bd.map (fun t=>(⟨t,cut,up⟩:IG))++rest)
  simp only[vY,↓I3,List.contains,List.elem,↓reduceIte,reduceCtorEq,Nat.reduceEqDiff]
  refine aP (fun h=>absurd h (by simp)) (fun h=>?_)
  simp only[aA,seval]
  exact⟨s6,aL.refl _⟩
 | succ j=>
 obtain⟨s1,s2,s3,s4,s5,s6⟩:=pF ((bd.drop (j+1)).map (fun t=>(⟨t,cut,up⟩:IG))++rest)
 obtain⟨x,hx⟩:∃x,bd[j]?=some x:=⟨_,eN (by omega)⟩
 have hat:=bD (av:=Tm.av) (P:=prog) a8 hx (aH x)
 have hdr:bd.drop j=x::bd.drop (j+1):=by
  obtain⟨h1,h2⟩:=gS.1 hx
  rw[rF h1,h2]
 have hc:((j+1:Nat):Int) - 1=(j:Int):=by omega
 have hw:=bL (n:=(j:Int) - 1)
 have hnx:eQ ((bd.drop j).map (fun t=>(⟨t,cut,up⟩:IG))++rest)=.pptr (.agg (x.av.cells++ [.int .i64 (cut:Int),.int .i64 up,eQ ((bd.drop (j+1)).map (fun t=>(⟨t,cut,up⟩:IG))++rest)])):=by
  rw[hdr]
  obtain⟨k,n,s,ts⟩:=x
  rw[aZ,fC,sY,aU]
  try rfl
 generalize eQ ((bd.drop (j+1)).map (fun t=>(⟨t,cut,up⟩:IG))++rest)=A at *
 obtain⟨k,n,s,ts⟩:=x
 simp only[aU] at hat hnx
 rw[hc]
 simp only[aA,seval]
 refine aP (fun h=>?_) (fun h=>absurd h (by simp))
 simp only[s3,s4,hat,hw,aA,seval,aOD]
 trace_state
 refine⟨j,by omega,by omega,aN.mk (by rw[hnx];simp only[aA,seval])⟩
theorem aS4(c:Int)(st:aB):aD prog 307 [.int .i64 c] st (fun r st'=>r=.int .i64 (rV c)∧st'=st):=by
 refine aD.done ?_
 refine wF [1000000] 1 func307 ntmps307 rfl rfl ?_
 intro _
 simp only[aA,seval]
 unfold rV
 refine aP (fun h=>?_) (fun h=>?_)
 · simp only[aA,seval]
   have h':c=2:=by simpa using h
   exact⟨by rw[aJ h'];try rfl,aL.refl _⟩
 rw[aF (show ¬c=2 by simpa using h)]
 simp only[aA,seval]
 refine aP (fun h=>?_) (fun h=>?_)
 · simp only[aA,seval]
   have h':c=3:=by simpa using h
   exact⟨by rw[aJ h'];try rfl,aL.refl _⟩
 rw[aF (show ¬c=3 by simpa using h)]
 simp only[aA,seval]
 refine aP (fun h=>?_) (fun h=>?_)
 · simp only[aA,seval]
   have h':c=4:=by simpa using h
   exact⟨by rw[aJ h'];try rfl,aL.refl _⟩
 rw[aF (show ¬c=4 by simpa using h)]
 simp only[aA,seval]
 exact⟨rfl,aL.refl _⟩
abbrev a6S:=zi cJ (zi bS (zi bQ TZ))
theorem YD(k n:Int)(s:ByteArray)(ts:List Tm)(st:aB):aD prog 165 [(Tm.mk k n s ts).av] st (fun r st'=>r=.agg [.str s,.int .i64 (ts.length:Int)]∧st'=st):=by
 refine aD.done ?_
 simp only[aU]
 refine wF [1000000] 1 func165 ntmps165 rfl rfl ?_
 intro _
 simp only[aK,aE,aA,seval,a6S]
 intro b2 h2
 exact⟨by simp only[jC,jN,k8,aZ,aV],(aL.refl _).aC h2⟩
abbrev H0:=zi aX (zi fA (zi k9 (zi bQ (zi mB TZ))))
theorem aS1(p:List Cl)(t:Tm)(hp:p.length≤1048576)(st:aB):aD prog 164 [.slice (p.map bX),.agg [.str t.s,.int .i64 (t.ts.length:Int)]] st (fun r st'=>r=.slice ((eP p t).map nv)∧st'=st):=by
 rw[KW]
 refine aD.done ?_
 obtain⟨tk,tn,ts',tts⟩:=t
 simp only[Tm.s,Tm.ts]
 refine wF [1000000] 2 func164 ntmps164 rfl rfl ?_
 intro _
 simp only[aE,aA,seval,H0]
 refine oA (σ:=Unit) [1000000] [3,4,8,9] p 1 5 (fun i _=>((List.range i).filter (qG p (.mk tk tn ts' tts))).map nv) (fun _ _=>True) (fun i _=>[(10,.int .i64 i)]) (fun _ _=>st) (fun i _ _ e he=>by simp only[cI] at he;obtain⟨t,_,rfl⟩:=he;exact⟨rfl,rfl⟩) (by decide +kernel) ⟨(),0,trivial,fun h=>absurd rfl h,aN.mk (by simp only[iK,List.range_zero,List.filter_nil,aV,aA,↓aR,seval])⟩ (fun i x _ b hx hlt bH hdr hinv hb=>?_) (fun _ b hge hinv=>?_)
 case refine_2=>
  simp only[hge,dZ,gV,nW,uJ,kF,aA,seval]
  exact⟨rfl,aL.refl _⟩
 have hw:=bL (n:=(i:Int)+1)
 have hst:=aJS p (.mk tk tn ts' tts) i
 have hln:=KX p (.mk tk tn ts' tts) i
 have hat:=bD (av:=bX) (P:=prog) qD hx (oG x)
 obtain⟨⟨k,n,s',ts⟩,bd⟩:=x
 rw[gN] at hat
 have hP:qG p (.mk tk tn ts' tts) i=(decide (s'=ts')&&decide ((ts.length:Int)=(tts.length:Int))):=by unfold qG;rw[hx];try rfl
 rw[hP] at hst
 have hpr:=fun st=>YD k n s' ts st
 have a0J:eC prog .eql 191 (.agg [.str s',.int .i64 (ts.length:Int)]) (.agg [.str ts',.int .i64 (tts.length:Int)])=some (.bool (decide (s'=ts')&&decide ((ts.length:Int)=(tts.length:Int)))):=by
  have h:KN prog 191=true:=by kernel_rfl
  simp only[eC,h,and_self,gB]
 simp only[aU] at hpr
 simp only[bH,hat,aA,↓aR,seval,H0]
 refine wP [(0,1),(1,2),(2,2),(3,2),(4,1)] [0,1,2,3,4] mixed ?_
 simp only[aA,seval,H0]
 refine fK (hpr _) ?_
 simp only[a0J,aA,seval,H0]
 refine aP (fun h2=>?_) (fun h2=>?_)
 · rw[aJ h2] at hst
   simp only[aA,seval,H0]
   refine eD g7 C7 AD rfl rfl (eO rfl rfl) (RW _) hb (by simp only[aE,aS,aW];omega) (by simp only[aE,aS,aW];omega) (fun b' hb'=>?_)
   rw[show ∀l:List Nat,l.map nv++ [AV.int .i64 (i:Int)]=(l++ [i]).map nv from fun l=>by simp [nv],←hst] at hb' ⊢
   simp only[hw,aA,seval]
   exact⟨(),b',hb',aN.mk (by simp only[aA,seval])⟩
 · rw[aF (by rw[h2];simp),iB] at hst
   rw[←hst] at hb ⊢
   simp only[hw,aA,seval]
   exact⟨(),b,hb,aN.mk (by simp only[aA,seval])⟩
def rY:IC→AV
 | ⟨.mk k n s ts,node,rest,list,fG,taken⟩=>.agg [.int .i64 k,.int .i64 n,.str s,.slice (ts.map Tm.av),.int .i64 (node:Int),eQ rest,.slice (list.map nv),.int .i64 (fG:Int),.int .i64 (taken:Int)]
theorem aLA(k n:Int)(s:ByteArray)(ts:List Tm)(node:Nat)(rest:List IG)(list:List Nat)(fG taken:Nat):rY ⟨.mk k n s ts,node,rest,list,fG,taken⟩=.agg [.int .i64 k,.int .i64 n,.str s,.slice (ts.map Tm.av),.int .i64 (node:Int),eQ rest,.slice (list.map nv),.int .i64 (fG:Int),.int .i64 (taken:Int)]:=rfl
theorem a13(c:IC):(rY c).width=9:=by obtain⟨⟨k,n,s,ts⟩,_,_,_,_,_⟩:=c;rfl
theorem RF(l:List IC):∀e∈l.map rY,e.width=9:=by intro e he;simp only[cI] at he;obtain⟨t,_,rfl⟩:=he;exact a13 t
theorem a12(c:IC):(rY c).cells.all AV.storable=true:=by
 obtain⟨⟨k,n,s,ts⟩,_,rest,_,_,_⟩:=c
 rw[aLA]
 have:=(pF rest).2.2.2.2.1
 rw[dQ]
 intro e he
 simp only[AV.cells,c8,dP,dX] at he
 rcases he with rfl | rfl | rfl | rfl | rfl | rfl | rfl | rfl | rfl<;>first | rfl | exact this
def iF(c:Nat)(p:List Cl)(q:List Tm)(idx:Bool)(fuel used fresh:Int)(gl qc qn:AV)(mx:Int):List AV:=
 [.ptr c 0,.slice (p.map bX),.slice (q.map Tm.av),.bool idx,.bool false,.int .i64 fuel,.int .i64 used,.int .i64 fresh,gl,qc,qn,.int .i64 mx]
def jD(S c m:Nat)(qt qc qn:AV):List Nat:=[S,c,m]++dL qt++dO qc++dO qn
theorem a55(q:AV):dL q=dO q:=by cases q<;>rfl
theorem SB(q:AV):(dO q).Nodup:=by cases q<;>simp [dO]
structure dI (st0 st:aB) (S c m:Nat) (qt qc qn:AV) (p:List Cl) (q:List Tm) (idx:Bool) (fuel used mx:Int) (nd:List AV) (i:IS):Prop where
 cell:st S=some (.cells (iF c p q idx fuel used i.fresh (eQ i.goals) qc qn mx))
 sto:gG st c m qt i.σ i.tr
 acC:jF st 9 qc (i.chs.map rY)
 acN:jF st 6 qn nd
 ndl:nd.length=i.nn
 ndw:∀e∈nd,e.width=6
 dis:(jD S c m qt qc qn).Nodup
 new:∀b∈jD S c m qt qc qn,st0 b=none
 bB:∀b o,st0 b=some o→st b=some o
theorem eG{b S c m:Nat}{qt qc qn:AV}:b∈jD S c m qt qc qn↔b=S∨b=c∨b=m∨b∈dL qt∨b∈dO qc∨b∈dO qn:=by
 simp only[jD,fQ,c8,dP,dX,or_assoc]
section
variable {st0 st:aB} {S c m:Nat} {qt qc qn:AV} {p:List Cl} {q:List Tm} {idx:Bool} {fuel used mx:Int} {nd:List AV} {i:IS}
theorem dI.held(h:dI st0 st S c m qt qc qn p q idx fuel used mx nd i):∀b∈jD S c m qt qc qn,st b≠none:=fun b hb=>by
 rcases eG.1 hb with rfl | rfl | rfl | hb | hb | hb
 · rw[h.cell];simp
 · rw[h.sto.sub.cells];simp
 · rw[h.sto.sub.map];simp
 · obtain⟨cs,e⟩:=h.sto.HS b hb;rw[e];simp
 · obtain⟨cs,e⟩:=h.acC.some b hb;rw[e];simp
 · obtain⟨cs,e⟩:=h.acN.some b hb;rw[e];simp
theorem dI.vW(h:dI st0 st S c m qt qc qn p q idx fuel used mx nd i):aL st st0:=fun b=>by
 refine⟨fun e=>?_,h.bB b⟩
 cases hb:st0 b with
 | none=>rfl
 | some o=>rw[h.bB b o hb] at e;cases e
theorem dI.aJW(h:dI st0 st S c m qt qc qn p q idx fuel used mx nd i){b:Nat}(hb:st b=none):st0 b=none:=(h.vW b).1 hb
theorem dI.parts(h:dI st0 st S c m qt qc qn p q idx fuel used mx nd i):S≠c∧S≠m∧c≠m∧S∉dL qt∧S∉dO qc∧S∉dO qn∧c∉dL qt∧c∉dO qc∧c∉dO qn∧m∉dL qt∧m∉dO qc∧m∉dO qn∧(∀b∈dL qt,b∉dO qc∧b∉dO qn)∧∀b∈dO qc,b∉dO qn:=by
 have hd:=h.dis
 simp only[jD,tY,List.nodup_cons,c8,dP,dX,not_or,fQ] at hd
 obtain⟨⟨⟨⟨⟨h1,h2⟩,h3,_⟩,h4,h5⟩,h6,h7⟩,h8,h9⟩:=hd
 refine⟨h1,h2,h3,fun hb=>h5 _ (.inl rfl) _ hb rfl,fun hb=>h7 _ (.inl (.inl rfl)) _ hb rfl,fun hb=>h9 _ (.inl (.inl (.inl rfl))) _ hb rfl,
  fun hb=>h5 _ (.inr (.inl rfl)) _ hb rfl,fun hb=>h7 _ (.inl (.inr (.inl rfl))) _ hb rfl,fun hb=>h9 _ (.inl (.inl (.inr (.inl rfl)))) _ hb rfl,
  fun hb=>h5 _ (.inr (.inr rfl)) _ hb rfl,fun hb=>h7 _ (.inl (.inr (.inr rfl))) _ hb rfl,fun hb=>h9 _ (.inl (.inl (.inr (.inr rfl)))) _ hb rfl,
  fun b hb=>⟨fun h'=>h7 b (.inr hb) b h' rfl,fun h'=>h9 b (.inl (.inr hb)) b h' rfl⟩,fun b hb h'=>h9 b (.inr hb) b h' rfl⟩
theorem RV{X A A' Y:List Nat}(h:(X++A++Y).Nodup)(hA:A'.Nodup)(hn:∀b∈A',b∈A∨b∉X++A++Y):(X++A'++Y).Nodup:=by
 simp only[tY,fQ] at h ⊢
 obtain⟨⟨hX,hA0,hXA⟩,hY,hXY⟩:=h
 refine⟨⟨hX,hA,fun a ha b hb e=>?_⟩,hY,fun a ha b hb e=>?_⟩
 · subst e
   rcases hn a hb with h | h
   · exact hXA a ha a h rfl
   · simp only[fQ,not_or] at h;exact h.1.1 ha
 · subst e
   rcases ha with ha | ha
   · exact hXY a (.inl ha) a hb rfl
   · rcases hn a ha with h | h
     · exact hXY a (.inr h) a hb rfl
     · simp only[fQ,not_or] at h;exact h.2 hb
theorem dI.go{st':aB}{qt' qc' qn':AV}{fuel' used' mx':Int}{nd':List AV}{i':IS}(h:dI st0 st S c m qt qc qn p q idx fuel used mx nd i)
 (cell:st' S=some (.cells (iF c p q idx fuel' used' i'.fresh (eQ i'.goals) qc' qn' mx'))) (sto:gG st' c m qt' i'.σ i'.tr) (acC:jF st' 9 qc' (i'.chs.map rY)) (acN:jF st' 6 qn' nd') (ndl:nd'.length=i'.nn) (ndw:∀e∈nd',e.width=6)
 (dis:(jD S c m qt' qc' qn').Nodup) (new:∀b∈jD S c m qt' qc' qn',b∈jD S c m qt qc qn∨st b=none) (frame:∀b o,st b=some o→b∉jD S c m qt qc qn→st' b=some o) :
 dI st0 st' S c m qt' qc' qn' p q idx fuel' used' mx' nd' i':=
 ⟨cell,sto,acC,acN,ndl,ndw,dis,fun b hb=>by
  rcases new b hb with h1 | h1
  · exact h.new b h1
  · exact h.aJW h1,fun b o hb=>frame b o (h.bB b o hb) fun hm=>by rw[h.new b hm] at hb;cases hb⟩
theorem dI.put{fuel' used' mx':Int}{gl:List IG}{F:Nat}{cs:List AV}(h:dI st0 st S c m qt qc qn p q idx fuel used mx nd i)(hcs:cs=iF c p q idx fuel' used' F (eQ gl) qc qn mx') :
 dI st0 (st.aC S (.cells cs)) S c m qt qc qn p q idx fuel' used' mx' nd { i with goals:=gl,fresh:=F }:=by
 obtain⟨h1,h2,h3,h4,h5,h6,_⟩:=h.parts
 subst hcs
 refine h.go (aB.aO _ _ _) (h.sto.aC h1 h2 h4) (h.acC.bB fun b hb=>aB.aM _ _ (by rintro rfl;exact h5 hb)) (h.acN.bB fun b hb=>aB.aM _ _ (by rintro rfl;exact h6 hb)) h.ndl h.ndw h.dis (fun b hb=>.inl hb) fun b o hb hn=>?_
 rw[aB.aM _ _ (by rintro rfl;exact hn (eG.2 (.inl rfl)))]
 exact hb
theorem dI.UF{st':aB}{qt':AV}{σ':Sub}{tr':List Int}(h:dI st0 st S c m qt qc qn p q idx fuel used mx nd i)(hS:gG st' c m qt' σ' tr')(hf:∀b o,st b=some o→b≠c→b≠m→b∉dL qt→st' b=some o)(hn:∀b∈dL qt',b∈dL qt∨st b=none) :
 dI st0 st' S c m qt' qc qn p q idx fuel used mx nd { i with σ:=σ',tr:=tr' }:=by
 obtain⟨h1,h2,h3,h4,h5,h6,h7,h8,h9,h10,h11,h12,h13,h14⟩:=h.parts
 have hC:∀b∈dO qc,st' b=st b:=fun b hb=>by
  obtain⟨cs,e⟩:=h.acC.some b hb
  rw[e,hf b _ e (by rintro rfl;exact h8 hb) (by rintro rfl;exact h11 hb) (fun hb'=>(h13 b hb').1 hb)]
 have hN:∀b∈dO qn,st' b=st b:=fun b hb=>by
  obtain⟨cs,e⟩:=h.acN.some b hb
  rw[e,hf b _ e (by rintro rfl;exact h9 hb) (by rintro rfl;exact h12 hb) (fun hb'=>(h13 b hb').2 hb)]
 refine h.go (hf S _ h.cell h1 h2 h4) hS (h.acC.bB hC) (h.acN.bB hN) h.ndl h.ndw ?_ (fun b hb=>?_) (fun b o hb hn'=>?_)
 · have hd:=h.dis
   unfold jD at hd ⊢
   rw[nP] at hd ⊢
   refine RV hd (by rw[a55];exact SB _) fun b hb=>?_
   rcases hn b hb with h' | h'
   · exact .inl h'
   · refine .inr fun hm=>h.held b ?_ h'
     unfold jD;rw[nP];exact hm
 · rcases eG.1 hb with rfl | rfl | rfl | hb | hb | hb
   · exact .inl (eG.2 (.inl rfl))
   · exact .inl (eG.2 (.inr (.inl rfl)))
   · exact .inl (eG.2 (.inr (.inr (.inl rfl))))
   · rcases hn b hb with h' | h'
     · exact .inl (eG.2 (.inr (.inr (.inr (.inl h')))))
     · exact .inr h'
   · exact .inl (eG.2 (.inr (.inr (.inr (.inr (.inl hb))))))
   · exact .inl (eG.2 (.inr (.inr (.inr (.inr (.inr hb))))))
 · have:=fun x=>hn' (eG.2 x)
   exact hf b o hb (by rintro rfl;exact this (.inr (.inl rfl))) (by rintro rfl;exact this (.inr (.inr (.inl rfl)))) fun hb'=>this (.inr (.inr (.inr (.inl hb'))))
theorem dI.post{st':aB}{σ':Sub}{tr':List Int}(h:dI st0 st S c m qt qc qn p q idx fuel used mx nd i)(hP:vG c m st qt σ' tr' st'):∃qt',dI st0 st' S c m qt' qc qn p q idx fuel used mx nd { i with σ:=σ',tr:=tr' }:=by
 obtain⟨q',hS,hQ⟩:=hP
 exact⟨q',h.UF hS (fun b o hb h1 h2 h3=>hQ.frame b o hb h1 h2 h3) hQ.fresh⟩
end
end Go.AW
